/- What each function that the law FnExactFaceAreas reaches comes to, and the proof that its walk comes to it; laid by a program of this session. No condition. -/
import Derived.Test.YtadjbffiomkljaaPFnExactFaceAreasx0
import Derived.KernelRfl
import Derived.OwnWalk
import Derived.Test.YtadjbffiomkljaaProg
set_option linter.unusedVariables false
set_option linter.unusedSimpArgs false
namespace Go.Proofs.Ytadjbffiomkljaa.PFnExactFaceAreas
open Go Go.RowKit Go.Proofs.YtadjbffiomkljaaM Go.Proofs
/-! ### impl_ValidPolygon: function 74 -/
mutual
def impl_ValidPolygon.j0 : Nat → List S107 → Int → Bool → Option (Bool)
  | 0, _, _, _ => none
  | k + 1, x0, x3, x21 => if x21 = true then (some false) else (impl_ValidPolygon.l0 k x0 x3 (x0.length : Int) 0)
def impl_ValidPolygon.l0 : Nat → List S107 → Int → Int → Int → Option (Bool)
  | 0, _, _, _, _ => none
  | k + 1, x0, x3, x23, x24 => if x24 < x23 then (if 0 ≤ x24 then (if x24 < (x0.length : Int) then (if x3 = 0 then (none) else (if 0 ≤ (Int.tmod (wrap64 (x24 + 1)) x3) then (if (Int.tmod (wrap64 (x24 + 1)) x3) < (x0.length : Int) then (if 0 ≤ (Int.tmod (wrap64 (x24 + 2)) x3) then (if (Int.tmod (wrap64 (x24 + 2)) x3) < (x0.length : Int) then (if (((rd107 x0 x24).f0) == ((rd107 x0 (Int.tmod (wrap64 (x24 + 1)) x3)).f0) && (((rd107 x0 x24).f1) == ((rd107 x0 (Int.tmod (wrap64 (x24 + 1)) x3)).f1))) = true then (impl_ValidPolygon.j1 k x0 x3 x24 ((rd107 x0 x24).f0) ((rd107 x0 x24).f1) ((rd107 x0 (Int.tmod (wrap64 (x24 + 1)) x3)).f0) ((rd107 x0 (Int.tmod (wrap64 (x24 + 1)) x3)).f1) x23 x24 true) else ((impl_on.f ((rd107 x0 x24).f0) ((rd107 x0 x24).f1) ((rd107 x0 (Int.tmod (wrap64 (x24 + 1)) x3)).f0) ((rd107 x0 (Int.tmod (wrap64 (x24 + 1)) x3)).f1) ((rd107 x0 (Int.tmod (wrap64 (x24 + 2)) x3)).f0) ((rd107 x0 (Int.tmod (wrap64 (x24 + 2)) x3)).f1)).bind fun t15 => (if t15 = true then (impl_ValidPolygon.j1 k x0 x3 x24 ((rd107 x0 x24).f0) ((rd107 x0 x24).f1) ((rd107 x0 (Int.tmod (wrap64 (x24 + 1)) x3)).f0) ((rd107 x0 (Int.tmod (wrap64 (x24 + 1)) x3)).f1) x23 x24 true) else ((impl_on.f ((rd107 x0 (Int.tmod (wrap64 (x24 + 1)) x3)).f0) ((rd107 x0 (Int.tmod (wrap64 (x24 + 1)) x3)).f1) ((rd107 x0 (Int.tmod (wrap64 (x24 + 2)) x3)).f0) ((rd107 x0 (Int.tmod (wrap64 (x24 + 2)) x3)).f1) ((rd107 x0 x24).f0) ((rd107 x0 x24).f1)).bind fun t18 => (impl_ValidPolygon.j1 k x0 x3 x24 ((rd107 x0 x24).f0) ((rd107 x0 x24).f1) ((rd107 x0 (Int.tmod (wrap64 (x24 + 1)) x3)).f0) ((rd107 x0 (Int.tmod (wrap64 (x24 + 1)) x3)).f1) x23 x24 t18))))) else (none)) else (none)) else (none)) else (none))) else (none)) else (none)) else ((impl_doubled.f k x0).bind fun t31 => (some (decide (t31 > 0))))
def impl_ValidPolygon.j1 : Nat → List S107 → Int → Int → Int → Int → Int → Int → Int → Int → Bool → Option (Bool)
  | 0, _, _, _, _, _, _, _, _, _, _ => none
  | k + 1, x0, x3, x4, y207_0, y207_1, y208_0, y208_1, x23, x24, x59 => if x59 = true then (some false) else (impl_ValidPolygon.l1 k x0 x3 x4 y207_0 y207_1 y208_0 y208_1 (wrap64 (x4 + 2)) x23 x24)
def impl_ValidPolygon.l1 : Nat → List S107 → Int → Int → Int → Int → Int → Int → Int → Int → Int → Option (Bool)
  | 0, _, _, _, _, _, _, _, _, _, _ => none
  | k + 1, x0, x3, x4, y209_0, y209_1, y210_0, y210_1, x8, x23, x24 => if x8 < x3 then (if x3 = 0 then (none) else (if (Int.tmod (wrap64 (x8 + 1)) x3) = x4 then (impl_ValidPolygon.l1 k x0 x3 x4 y209_0 y209_1 y210_0 y210_1 (wrap64 (x8 + 1)) x23 x24) else (if 0 ≤ x8 then (if x8 < (x0.length : Int) then (if 0 ≤ (Int.tmod (wrap64 (x8 + 1)) x3) then (if (Int.tmod (wrap64 (x8 + 1)) x3) < (x0.length : Int) then ((impl_touching.f y209_0 y209_1 y210_0 y210_1 ((rd107 x0 x8).f0) ((rd107 x0 x8).f1) ((rd107 x0 (Int.tmod (wrap64 (x8 + 1)) x3)).f0) ((rd107 x0 (Int.tmod (wrap64 (x8 + 1)) x3)).f1)).bind fun t28 => (if t28 = true then (some false) else (impl_ValidPolygon.l1 k x0 x3 x4 y209_0 y209_1 y210_0 y210_1 (wrap64 (x8 + 1)) x23 x24))) else (none)) else (none)) else (none)) else (none)))) else (impl_ValidPolygon.l0 k x0 x3 x23 (wrap64 (x24 + 1)))
end
def impl_ValidPolygon.f (k : Nat) (l0 : List S107) : Option (Bool) := if (l0.length : Int) < 3 then (impl_ValidPolygon.j0 k l0 (l0.length : Int) true) else (if (l0.length : Int) > 24 then (impl_ValidPolygon.j0 k l0 (l0.length : Int) true) else ((impl_validPoints.f k l0).bind fun t3 => (impl_ValidPolygon.j0 k l0 (l0.length : Int) (!t3))))
set_option maxRecDepth 100000 in
theorem impl_ValidPolygon.ok {k : Nat} {l0 : List S107} {r : Bool} (H : impl_ValidPolygon.f k l0 = some r) : OkF Try.prog 74 [vR 108 (l0.map c107)] [] (.c (.d (.v (.bool r)))) [] := by
  unfold impl_ValidPolygon.f at H
  refine OkF.of (N := 93) (rs := [2]) (avs := [.c (.d (.v (.bool r)))]) Try.func74 rfl rfl (fun _ _ => results_tmp rfl _ _ _) (by decide) rfl rfl rfl rfl (fun w0 S => ?_)
  refine AG.seq ?_
  refine AG.region HM ?_
  refine a_move (v := vB _) ?_
  refine RA.nil nofun ?_
  refine AG.seq ?_
  refine AG.region HM ?_
  refine a_move (v := vR _ _) ?_
  refine a_lenR ?_ Try.underlying46
  refine a_move (v := vI _) ?_
  refine RA.nil nofun ?_
  refine AG.seq ?_
  refine AG.seq ?_
  refine AG.join (fun s => ∃ q, q ≤ k ∧ ∃ (x0 : List S107) (x3 : Int) (x21 : Bool), impl_ValidPolygon.j0 q x0 x3 x21 = some r ∧ s = St.of [(0, vR 108 (x0.map c107)), (3, vI x3), (21, vB x21)] []) ?_ ?_
  · skip
    refine AG.region HM ?_
    refine a_move (v := vI _) ?_
    refine a_int (u := .bool (decide ((l0.length : Int) < 3))) ?_
    refine a_move (v := vB _) ?_
    by_cases hc1 : (l0.length : Int) < 3
    · rw [if_pos hc1] at H
      refine RA.skip rfl rfl rfl rfl rfl (decide_eq_true hc1) (by decide) ?_
      refine RA.skip rfl rfl rfl rfl rfl (decide_eq_true hc1) (by decide) ?_
      refine a_pick (b := true) (v := vB _) ?_ (decide_eq_true hc1)
      refine a_move (v := vB _) ?_
      refine RA.skip rfl rfl rfl rfl rfl rfl (by decide) ?_
      refine RA.skip rfl rfl rfl rfl rfl rfl (by decide) ?_
      refine RA.skip rfl rfl rfl rfl rfl rfl (by decide) ?_
      refine a_pick (b := true) (v := vB _) ?_ rfl
      refine RA.nil nofun ?_
      exact Can.mk id ⟨_, (by omega), _, _, _, H, rfl⟩ ⟨rfl, rfl, rfl, trivial⟩ trivial rfl
    · rw [if_neg hc1] at H
      refine a_move (v := vI _) ?_ (hg := Gs.yes rfl rfl rfl (decide_eq_false hc1))
      refine a_int (u := .bool (decide ((l0.length : Int) > 24))) ?_ (hg := Gs.yes rfl rfl rfl (decide_eq_false hc1))
      refine a_pick (b := false) (v := vB _) ?_ (decide_eq_false hc1)
      refine a_move (v := vB _) ?_
      by_cases hc2 : (l0.length : Int) > 24
      · rw [if_pos hc2] at H
        refine RA.skip rfl rfl rfl rfl rfl (decide_eq_true hc2) (by decide) ?_
        refine RA.skip rfl rfl rfl rfl rfl (decide_eq_true hc2) (by decide) ?_
        refine RA.skip rfl rfl rfl rfl rfl (decide_eq_true hc2) (by decide) ?_
        refine a_pick (b := true) (v := vB _) ?_ (decide_eq_true hc2)
        refine RA.nil nofun ?_
        exact Can.mk id ⟨_, (by omega), _, _, _, H, rfl⟩ ⟨rfl, rfl, rfl, trivial⟩ trivial rfl
      · rw [if_neg hc2] at H
        refine a_move (v := vR _ _) ?_ (hg := Gs.yes rfl rfl rfl (decide_eq_false hc2))
        obtain ⟨t3, e4, H⟩ := bindO H
        refine a_call (v := vB t3) (nk := []) (L := []) ?_ rfl (impl_validPoints.ok e4) id (qd qn) trivial trivial trivial rfl (hg := Gs.yes rfl rfl rfl (decide_eq_false hc2))
        refine a_un (u := .bool (!t3)) ?_ (hg := Gs.yes rfl rfl rfl (decide_eq_false hc2))
        refine a_pick (b := false) (v := vB _) ?_ (decide_eq_false hc2)
        refine RA.nil nofun ?_
        exact Can.mk id ⟨_, (by omega), _, _, _, H, rfl⟩ ⟨rfl, rfl, rfl, trivial⟩ trivial rfl
  · clear H
    rintro _ ⟨k, hj0, x0, x3, x21, H, rfl⟩
    cases k with
    | zero => cases H
    | succ k =>
      rw [impl_ValidPolygon.j0] at H
      by_cases hc5 : x21 = true
      · rw [if_pos hc5] at H
        refine AG.yes rfl hc5 ?_
        refine AG.seq ?_
        refine AG.region HM ?_
        refine a_move (v := vB _) ?_
        refine RA.nil nofun ?_
        refine AG.ret ?_
        obtain rfl := Option.some.inj H
        exact RetP.mk id ⟨rfl, trivial⟩ trivial rfl
      · rw [if_neg hc5] at H
        refine AG.no rfl (Bool.eq_false_iff.2 hc5) ?_
        refine AG.skip ?_
        refine AG.seq ?_
        refine AG.seq ?_
        refine AG.region HM ?_
        refine a_move (v := vR _ _) ?_
        refine a_lenR ?_ Try.underlying46
        refine a_move (v := vI _) ?_
        refine RA.nil nofun ?_
        refine AG.block ?_
        refine AG.loop ?_
        obtain ⟨K0, hK0, gK0⟩ : ∃ K, k ≤ K ∧ K ≤ k := ⟨k, Nat.le_refl k, Nat.le_refl k⟩
        refine AGr.canon id (AGr.loopI (n := k) (fun k s => k ≤ K0 ∧ ∃ (x0 : List S107) (x3 : Int) (x23 : Int) (x24 : Int), impl_ValidPolygon.l0 k x0 x3 x23 x24 = some r ∧ s = St.of [(0, vR 108 (x0.map c107)), (3, vI x3), (23, vI x23), (24, vI x24)] []) ⟨hK0, _, _, _, _, H, rfl⟩ ?_ ?_) ⟨rfl, rfl, rfl, rfl, trivial⟩ trivial rfl
        · rintro _ ⟨_, _, _, _, _, H, _⟩
          cases H
        · clear H hK0
          rintro k ih0 _ ⟨hK0, x0, x3, x23, x24, H, rfl⟩
          unfold impl_ValidPolygon.l0 at H
          refine AG.seq ?_
          refine AG.region HM ?_
          refine a_int (u := .bool (decide (x24 < x23))) ?_
          refine RA.nil nofun ?_
          refine AG.seq ?_
          by_cases hc6 : x24 < x23
          · rw [if_pos hc6] at H
            refine AG.yes rfl (decide_eq_true hc6) ?_
            refine AG.skip ?_
            refine AG.seq ?_
            refine AG.block ?_
            refine AG.seq ?_
            refine AG.region HM ?_
            refine a_move (v := vI _) ?_
            refine a_move (v := vI _) ?_
            refine RA.nil nofun ?_
            refine AG.seq ?_
            refine AG.region HM ?_
            refine a_move (v := vR _ _) ?_
            refine a_move (v := vI _) ?_
            by_cases hc7 : 0 ≤ x24
            · rw [if_pos hc7] at H
              by_cases hc8 : x24 < (x0.length : Int)
              · rw [if_pos hc8] at H
                refine a_ixR (el := c107 (rd107 x0 x24)) ?_ ⟨hc7, hc8⟩ T108 Try.underlying46 (hel := R107 hc7 hc8)
                refine a_ldR (v := .agg [_, _]) ?_ T108
                refine a_move (v := vR _ _) ?_
                refine a_move (v := vI _) ?_
                refine a_int (u := .int .i64 (wrap64 (x24 + 1))) ?_
                refine a_move (v := vI _) ?_
                by_cases hc9 : x3 = 0
                · rw [if_pos hc9] at H
                  cases H
                · rw [if_neg hc9] at H
                  refine a_rem (r := Int.tmod (wrap64 (x24 + 1)) x3) ?_ hc9
                  by_cases hc10 : 0 ≤ (Int.tmod (wrap64 (x24 + 1)) x3)
                  · rw [if_pos hc10] at H
                    by_cases hc11 : (Int.tmod (wrap64 (x24 + 1)) x3) < (x0.length : Int)
                    · rw [if_pos hc11] at H
                      refine a_ixR (el := c107 (rd107 x0 (Int.tmod (wrap64 (x24 + 1)) x3))) ?_ ⟨hc10, hc11⟩ T108 Try.underlying46 (hel := R107 hc10 hc11)
                      refine a_ldR (v := .agg [_, _]) ?_ T108
                      refine a_move (v := vR _ _) ?_
                      refine a_move (v := vI _) ?_
                      refine a_int (u := .int .i64 (wrap64 (x24 + 2))) ?_
                      refine a_move (v := vI _) ?_
                      refine a_rem (r := Int.tmod (wrap64 (x24 + 2)) x3) ?_ hc9
                      by_cases hc12 : 0 ≤ (Int.tmod (wrap64 (x24 + 2)) x3)
                      · rw [if_pos hc12] at H
                        by_cases hc13 : (Int.tmod (wrap64 (x24 + 2)) x3) < (x0.length : Int)
                        · rw [if_pos hc13] at H
                          refine a_ixR (el := c107 (rd107 x0 (Int.tmod (wrap64 (x24 + 2)) x3))) ?_ ⟨hc12, hc13⟩ T108 Try.underlying46 (hel := R107 hc12 hc13)
                          refine a_ldR (v := .agg [_, _]) ?_ T108
                          refine a_alloc (cs := [_, _]) 202 ?_ T108
                          refine a_alloc (cs := [_, _]) 203 ?_ T108
                          refine a_alloc (cs := [_, _]) 204 ?_ T108
                          refine a_stB (cs' := [_, _]) ?_ T108
                          refine a_stB (cs' := [_, _]) ?_ T108
                          refine a_stB (cs' := [_, _]) ?_ T108
                          refine RA.nil (fun _ => by kernel_rfl) ?_
                          refine AG.seq ?_
                          refine AG.seq ?_
                          refine AG.join (fun s => ∃ q, q ≤ k ∧ ∃ (x0 : List S107) (x3 : Int) (x4 : Int) (y207_0 : Int) (y207_1 : Int) (y208_0 : Int) (y208_1 : Int) (x23 : Int) (x24 : Int) (x59 : Bool), impl_ValidPolygon.j1 q x0 x3 x4 y207_0 y207_1 y208_0 y208_1 x23 x24 x59 = some r ∧ s = St.of [(0, vR 108 (x0.map c107)), (3, vI x3), (4, vI x4), (5, .c (.ptr 207 0)), (6, .c (.ptr 208 0)), (23, vI x23), (24, vI x24), (59, vB x59)] [(207, .box 108 [.d (.v (.int .i64 y207_0)), .d (.v (.int .i64 y207_1))]), (208, .box 108 [.d (.v (.int .i64 y208_0)), .d (.v (.int .i64 y208_1))])]) ?_ ?_
                          · skip
                            refine AG.region HM ?_
                            refine a_ldB (v := .agg [_, _]) ?_ T108
                            refine a_ldB (v := .agg [_, _]) ?_ T108
                            refine a_eqS (b := (((rd107 x0 x24).f0) == ((rd107 x0 (Int.tmod (wrap64 (x24 + 1)) x3)).f0) && (((rd107 x0 x24).f1) == ((rd107 x0 (Int.tmod (wrap64 (x24 + 1)) x3)).f1)))) ?_ (.inl ⟨rfl, rfl⟩) (Q108 ((rd107 x0 x24).f0) ((rd107 x0 (Int.tmod (wrap64 (x24 + 1)) x3)).f0) ((rd107 x0 x24).f1) ((rd107 x0 (Int.tmod (wrap64 (x24 + 1)) x3)).f1)).1
                            refine a_move (v := vB _) ?_
                            by_cases hc14 : (((rd107 x0 x24).f0) == ((rd107 x0 (Int.tmod (wrap64 (x24 + 1)) x3)).f0) && (((rd107 x0 x24).f1) == ((rd107 x0 (Int.tmod (wrap64 (x24 + 1)) x3)).f1))) = true
                            · rw [if_pos hc14] at H
                              refine RA.skip rfl rfl rfl rfl rfl hc14 (by decide) ?_
                              refine RA.skip rfl rfl rfl rfl rfl hc14 (by decide) ?_
                              refine RA.skip rfl rfl rfl rfl rfl hc14 (by decide) ?_
                              refine RA.skip rfl rfl rfl rfl rfl hc14 (by decide) ?_
                              refine a_pick (b := true) (v := vB _) ?_ hc14
                              refine a_move (v := vB _) ?_
                              refine RA.skip rfl rfl rfl rfl rfl rfl (by decide) ?_
                              refine RA.skip rfl rfl rfl rfl rfl rfl (by decide) ?_
                              refine RA.skip rfl rfl rfl rfl rfl rfl (by decide) ?_
                              refine RA.skip rfl rfl rfl rfl rfl rfl (by decide) ?_
                              refine a_pick (b := true) (v := vB _) ?_ rfl
                              refine RA.nil nofun ?_
                              exact Can.mk (fun κ => cond (Nat.beq κ 207) 202 (cond (Nat.beq κ 208) 203 (κ))) ⟨_, (by omega), _, _, _, _, _, _, _, _, _, _, H, rfl⟩ ⟨rfl, rfl, rfl, rfl, rfl, rfl, rfl, rfl, trivial⟩ ⟨rfl, rfl, trivial⟩ rfl
                            · rw [if_neg hc14] at H
                              refine a_ldB (v := .agg [_, _]) ?_ T108 (hg := Gs.yes rfl rfl rfl (Bool.eq_false_iff.2 hc14))
                              refine a_ldB (v := .agg [_, _]) ?_ T108 (hg := Gs.yes rfl rfl rfl (Bool.eq_false_iff.2 hc14))
                              refine a_ldB (v := .agg [_, _]) ?_ T108 (hg := Gs.yes rfl rfl rfl (Bool.eq_false_iff.2 hc14))
                              obtain ⟨t15, e16, H⟩ := bindO H
                              refine a_call (v := vB t15) (nk := []) (L := []) ?_ rfl (impl_on.ok e16) id (qg (qg (qg qn))) trivial trivial trivial rfl (hg := Gs.yes rfl rfl rfl (Bool.eq_false_iff.2 hc14))
                              refine a_pick (b := false) (v := vB _) ?_ (Bool.eq_false_iff.2 hc14)
                              refine a_move (v := vB _) ?_
                              by_cases hc17 : t15 = true
                              · rw [if_pos hc17] at H
                                refine RA.skip rfl rfl rfl rfl rfl hc17 (by decide) ?_
                                refine RA.skip rfl rfl rfl rfl rfl hc17 (by decide) ?_
                                refine RA.skip rfl rfl rfl rfl rfl hc17 (by decide) ?_
                                refine RA.skip rfl rfl rfl rfl rfl hc17 (by decide) ?_
                                refine a_pick (b := true) (v := vB _) ?_ hc17
                                refine RA.nil nofun ?_
                                exact Can.mk (fun κ => cond (Nat.beq κ 207) 202 (cond (Nat.beq κ 208) 203 (κ))) ⟨_, (by omega), _, _, _, _, _, _, _, _, _, _, H, rfl⟩ ⟨rfl, rfl, rfl, rfl, rfl, rfl, rfl, rfl, trivial⟩ ⟨rfl, rfl, trivial⟩ rfl
                              · rw [if_neg hc17] at H
                                refine a_ldB (v := .agg [_, _]) ?_ T108 (hg := Gs.yes rfl rfl rfl (Bool.eq_false_iff.2 hc17))
                                refine a_ldB (v := .agg [_, _]) ?_ T108 (hg := Gs.yes rfl rfl rfl (Bool.eq_false_iff.2 hc17))
                                refine a_ldB (v := .agg [_, _]) ?_ T108 (hg := Gs.yes rfl rfl rfl (Bool.eq_false_iff.2 hc17))
                                obtain ⟨t18, e19, H⟩ := bindO H
                                refine a_call (v := vB t18) (nk := []) (L := []) ?_ rfl (impl_on.ok e19) id (qg (qg (qg qn))) trivial trivial trivial rfl (hg := Gs.yes rfl rfl rfl (Bool.eq_false_iff.2 hc17))
                                refine a_pick (b := false) (v := vB _) ?_ (Bool.eq_false_iff.2 hc17)
                                refine RA.nil nofun ?_
                                exact Can.mk (fun κ => cond (Nat.beq κ 207) 202 (cond (Nat.beq κ 208) 203 (κ))) ⟨_, (by omega), _, _, _, _, _, _, _, _, _, _, H, rfl⟩ ⟨rfl, rfl, rfl, rfl, rfl, rfl, rfl, rfl, trivial⟩ ⟨rfl, rfl, trivial⟩ rfl
                          · clear H
                            rintro _ ⟨k, hj1, x0, x3, x4, y207_0, y207_1, y208_0, y208_1, x23, x24, x59, H, rfl⟩
                            cases k with
                            | zero => cases H
                            | succ k =>
                              rw [impl_ValidPolygon.j1] at H
                              by_cases hc20 : x59 = true
                              · rw [if_pos hc20] at H
                                refine AG.yes rfl hc20 ?_
                                refine AG.seq ?_
                                refine AG.region HM ?_
                                refine a_move (v := vB _) ?_
                                refine RA.nil nofun ?_
                                refine AG.ret ?_
                                obtain rfl := Option.some.inj H
                                exact RetP.mk id ⟨rfl, trivial⟩ trivial rfl
                              · rw [if_neg hc20] at H
                                refine AG.no rfl (Bool.eq_false_iff.2 hc20) ?_
                                refine AG.skip ?_
                                refine AG.seq ?_
                                refine AG.region HM ?_
                                refine a_move (v := vI _) ?_
                                refine a_int (u := .int .i64 (wrap64 (x4 + 2))) ?_
                                refine a_move (v := vI _) ?_
                                refine RA.nil nofun ?_
                                refine AG.block ?_
                                refine AG.loop ?_
                                obtain ⟨K1, hK1, gK1⟩ : ∃ K, k ≤ K ∧ K ≤ k := ⟨k, Nat.le_refl k, Nat.le_refl k⟩
                                refine AGr.canon (fun κ => cond (Nat.beq κ 209) 207 (cond (Nat.beq κ 210) 208 (κ))) (AGr.loopI (n := k) (fun k s => k ≤ K1 ∧ ∃ (x0 : List S107) (x3 : Int) (x4 : Int) (y209_0 : Int) (y209_1 : Int) (y210_0 : Int) (y210_1 : Int) (x8 : Int) (x23 : Int) (x24 : Int), impl_ValidPolygon.l1 k x0 x3 x4 y209_0 y209_1 y210_0 y210_1 x8 x23 x24 = some r ∧ s = St.of [(0, vR 108 (x0.map c107)), (3, vI x3), (4, vI x4), (5, .c (.ptr 209 0)), (6, .c (.ptr 210 0)), (8, vI x8), (23, vI x23), (24, vI x24)] [(209, .box 108 [.d (.v (.int .i64 y209_0)), .d (.v (.int .i64 y209_1))]), (210, .box 108 [.d (.v (.int .i64 y210_0)), .d (.v (.int .i64 y210_1))])]) ⟨hK1, _, _, _, _, _, _, _, _, _, _, H, rfl⟩ ?_ ?_) ⟨rfl, rfl, rfl, rfl, rfl, rfl, rfl, rfl, trivial⟩ ⟨rfl, rfl, trivial⟩ rfl
                                · rintro _ ⟨_, _, _, _, _, _, _, _, _, _, _, H, _⟩
                                  cases H
                                · clear H hK1
                                  rintro k ih1 _ ⟨hK1, x0, x3, x4, y209_0, y209_1, y210_0, y210_1, x8, x23, x24, H, rfl⟩
                                  unfold impl_ValidPolygon.l1 at H
                                  refine AG.seq ?_
                                  refine AG.seq ?_
                                  refine AG.region HM ?_
                                  refine a_move (v := vI _) ?_
                                  refine a_move (v := vI _) ?_
                                  refine a_int (u := .bool (decide (x8 < x3))) ?_
                                  refine RA.nil nofun ?_
                                  by_cases hc21 : x8 < x3
                                  · rw [if_pos hc21] at H
                                    refine AG.yes rfl (decide_eq_true hc21) ?_
                                    refine AG.skip ?_
                                    refine AG.seq ?_
                                    refine AG.block ?_
                                    refine AG.seq ?_
                                    refine AG.region HM ?_
                                    refine a_move (v := vI _) ?_
                                    refine a_int (u := .int .i64 (wrap64 (x8 + 1))) ?_
                                    refine a_move (v := vI _) ?_
                                    by_cases hc22 : x3 = 0
                                    · rw [if_pos hc22] at H
                                      cases H
                                    · rw [if_neg hc22] at H
                                      refine a_rem (r := Int.tmod (wrap64 (x8 + 1)) x3) ?_ hc22
                                      refine a_move (v := vI _) ?_
                                      refine a_int (u := .bool (((Int.tmod (wrap64 (x8 + 1)) x3) != x4))) ?_
                                      refine a_move (v := vB _) ?_
                                      by_cases hc23 : (Int.tmod (wrap64 (x8 + 1)) x3) = x4
                                      · rw [if_pos hc23] at H
                                        refine RA.skip rfl rfl rfl rfl rfl (bne_eq_false_iff_eq.2 hc23) (by decide) ?_
                                        refine RA.skip rfl rfl rfl rfl rfl (bne_eq_false_iff_eq.2 hc23) (by decide) ?_
                                        refine RA.skip rfl rfl rfl rfl rfl (bne_eq_false_iff_eq.2 hc23) (by decide) ?_
                                        refine RA.skip rfl rfl rfl rfl rfl (bne_eq_false_iff_eq.2 hc23) (by decide) ?_
                                        refine RA.skip rfl rfl rfl rfl rfl (bne_eq_false_iff_eq.2 hc23) (by decide) ?_
                                        refine RA.skip rfl rfl rfl rfl rfl (bne_eq_false_iff_eq.2 hc23) (by decide) ?_
                                        refine RA.skip rfl rfl rfl rfl rfl (bne_eq_false_iff_eq.2 hc23) (by decide) ?_
                                        refine RA.skip rfl rfl rfl rfl rfl (bne_eq_false_iff_eq.2 hc23) (by decide) ?_
                                        refine RA.skip rfl rfl rfl rfl rfl (bne_eq_false_iff_eq.2 hc23) (by decide) ?_
                                        refine RA.skip rfl rfl rfl rfl rfl (bne_eq_false_iff_eq.2 hc23) (by decide) ?_
                                        refine RA.skip rfl rfl rfl rfl rfl (bne_eq_false_iff_eq.2 hc23) (by decide) ?_
                                        refine RA.skip rfl rfl rfl rfl rfl (bne_eq_false_iff_eq.2 hc23) (by decide) ?_
                                        refine RA.skip rfl rfl rfl rfl rfl (bne_eq_false_iff_eq.2 hc23) (by decide) ?_
                                        refine RA.skip rfl rfl rfl rfl rfl (bne_eq_false_iff_eq.2 hc23) (by decide) ?_
                                        refine a_pick (b := false) (v := vB _) ?_ (bne_eq_false_iff_eq.2 hc23)
                                        refine RA.nil (fun _ => by kernel_rfl) ?_
                                        refine AG.no rfl rfl ?_
                                        refine AG.skip ?_
                                        refine AG.region HM ?_
                                        refine a_move (v := vI _) ?_
                                        refine a_int (u := .int .i64 (wrap64 (x8 + 1))) ?_
                                        refine a_move (v := vI _) ?_
                                        refine RA.nil nofun ?_
                                        exact AGr.canon id (ih1 _ (by omega) _ ⟨by omega, _, _, _, _, _, _, _, _, _, _, H, rfl⟩) ⟨rfl, rfl, rfl, rfl, rfl, rfl, rfl, rfl, trivial⟩ ⟨rfl, rfl, trivial⟩ rfl
                                      · rw [if_neg hc23] at H
                                        refine a_ldB (v := .agg [_, _]) ?_ T108 (hg := Gs.yes rfl rfl rfl (bne_iff_ne.2 hc23))
                                        refine a_ldB (v := .agg [_, _]) ?_ T108 (hg := Gs.yes rfl rfl rfl (bne_iff_ne.2 hc23))
                                        refine a_move (v := vR _ _) ?_ (hg := Gs.yes rfl rfl rfl (bne_iff_ne.2 hc23))
                                        refine a_move (v := vI _) ?_ (hg := Gs.yes rfl rfl rfl (bne_iff_ne.2 hc23))
                                        by_cases hc24 : 0 ≤ x8
                                        · rw [if_pos hc24] at H
                                          by_cases hc25 : x8 < (x0.length : Int)
                                          · rw [if_pos hc25] at H
                                            refine a_ixR (el := c107 (rd107 x0 x8)) ?_ ⟨hc24, hc25⟩ T108 Try.underlying46 (hel := R107 hc24 hc25) (hg := Gs.yes rfl rfl rfl (bne_iff_ne.2 hc23))
                                            refine a_ldR (v := .agg [_, _]) ?_ T108 (hg := Gs.yes rfl rfl rfl (bne_iff_ne.2 hc23))
                                            refine a_move (v := vR _ _) ?_ (hg := Gs.yes rfl rfl rfl (bne_iff_ne.2 hc23))
                                            refine a_move (v := vI _) ?_ (hg := Gs.yes rfl rfl rfl (bne_iff_ne.2 hc23))
                                            refine a_int (u := .int .i64 (wrap64 (x8 + 1))) ?_ (hg := Gs.yes rfl rfl rfl (bne_iff_ne.2 hc23))
                                            refine a_move (v := vI _) ?_ (hg := Gs.yes rfl rfl rfl (bne_iff_ne.2 hc23))
                                            refine a_rem (r := Int.tmod (wrap64 (x8 + 1)) x3) ?_ hc22 (hg := Gs.yes rfl rfl rfl (bne_iff_ne.2 hc23))
                                            by_cases hc26 : 0 ≤ (Int.tmod (wrap64 (x8 + 1)) x3)
                                            · rw [if_pos hc26] at H
                                              by_cases hc27 : (Int.tmod (wrap64 (x8 + 1)) x3) < (x0.length : Int)
                                              · rw [if_pos hc27] at H
                                                refine a_ixR (el := c107 (rd107 x0 (Int.tmod (wrap64 (x8 + 1)) x3))) ?_ ⟨hc26, hc27⟩ T108 Try.underlying46 (hel := R107 hc26 hc27) (hg := Gs.yes rfl rfl rfl (bne_iff_ne.2 hc23))
                                                refine a_ldR (v := .agg [_, _]) ?_ T108 (hg := Gs.yes rfl rfl rfl (bne_iff_ne.2 hc23))
                                                obtain ⟨t28, e29, H⟩ := bindO H
                                                refine a_call (v := vB t28) (nk := []) (L := []) ?_ rfl (impl_touching.ok e29) id (qg (qg (qg (qg qn)))) trivial trivial trivial rfl (hg := Gs.yes rfl rfl rfl (bne_iff_ne.2 hc23))
                                                refine a_pick (b := true) (v := vB _) ?_ (bne_iff_ne.2 hc23)
                                                refine RA.nil (fun _ => by kernel_rfl) ?_
                                                by_cases hc30 : t28 = true
                                                · rw [if_pos hc30] at H
                                                  refine AG.yes rfl hc30 ?_
                                                  refine AG.seq ?_
                                                  refine AG.region HM ?_
                                                  refine a_move (v := vB _) ?_
                                                  refine RA.nil nofun ?_
                                                  refine AG.ret ?_
                                                  obtain rfl := Option.some.inj H
                                                  exact RetP.mk id ⟨rfl, trivial⟩ trivial rfl
                                                · rw [if_neg hc30] at H
                                                  refine AG.no rfl (Bool.eq_false_iff.2 hc30) ?_
                                                  refine AG.skip ?_
                                                  refine AG.region HM ?_
                                                  refine a_move (v := vI _) ?_
                                                  refine a_int (u := .int .i64 (wrap64 (x8 + 1))) ?_
                                                  refine a_move (v := vI _) ?_
                                                  refine RA.nil nofun ?_
                                                  exact AGr.canon id (ih1 _ (by omega) _ ⟨by omega, _, _, _, _, _, _, _, _, _, _, H, rfl⟩) ⟨rfl, rfl, rfl, rfl, rfl, rfl, rfl, rfl, trivial⟩ ⟨rfl, rfl, trivial⟩ rfl
                                              · rw [if_neg hc27] at H
                                                cases H
                                            · rw [if_neg hc26] at H
                                              cases H
                                          · rw [if_neg hc25] at H
                                            cases H
                                        · rw [if_neg hc24] at H
                                          cases H
                                  · rw [if_neg hc21] at H
                                    refine AG.no rfl (decide_eq_false hc21) ?_
                                    refine AG.exit ?_
                                    refine AG.region HM ?_
                                    refine a_int (u := .int .i64 (wrap64 (x24 + 1))) ?_
                                    refine a_move (v := vI _) ?_
                                    refine RA.nil nofun ?_
                                    exact AGr.canon id (ih0 _ (by omega) _ ⟨by omega, _, _, _, _, H, rfl⟩) ⟨rfl, rfl, rfl, rfl, trivial⟩ trivial rfl
                        · rw [if_neg hc13] at H
                          cases H
                      · rw [if_neg hc12] at H
                        cases H
                    · rw [if_neg hc11] at H
                      cases H
                  · rw [if_neg hc10] at H
                    cases H
              · rw [if_neg hc8] at H
                cases H
            · rw [if_neg hc7] at H
              cases H
          · rw [if_neg hc6] at H
            refine AG.no rfl (decide_eq_false hc6) ?_
            refine AG.exit ?_
            refine AG.seq ?_
            refine AG.region HM ?_
            refine a_move (v := vR _ _) ?_
            obtain ⟨t31, e32, H⟩ := bindO H
            refine a_call (v := vI t31) (nk := []) (L := []) ?_ rfl (impl_doubled.ok e32) id (qd qn) trivial trivial trivial rfl
            refine a_int (u := .bool (decide (t31 > 0))) ?_
            refine a_move (v := vB _) ?_
            refine RA.nil nofun ?_
            refine AG.ret ?_
            obtain rfl := Option.some.inj H
            exact RetP.mk id ⟨rfl, trivial⟩ trivial rfl
/-! ### impl_ValidDrawing: function 41 -/
mutual
def impl_ValidDrawing.j0 : Nat → Int → Int → List S107 → List S98 → Bool → Option (Bool)
  | 0, _, _, _, _, _ => none
  | k + 1, y203_0, y203_1, y203_2, y203_3, x30 => if x30 = true then (some false) else (impl_ValidDrawing.l0 k y203_0 y203_1 y203_2 y203_3 y203_2 (y203_2.length : Int) 0)
def impl_ValidDrawing.j1 : Nat → List S107 → List S98 → Option (Bool)
  | 0, _, _ => none
  | k + 1, y209_2, y209_3 => impl_ValidDrawing.l1 k y209_2 y209_3 y209_3 (y209_3.length : Int) 0
def impl_ValidDrawing.l0 : Nat → Int → Int → List S107 → List S98 → List S107 → Int → Int → Option (Bool)
  | 0, _, _, _, _, _, _, _ => none
  | k + 1, y204_0, y204_1, y204_2, y204_3, x32, x33, x34 => if x34 < x33 then (if 0 ≤ x34 then (if x34 < (x32.length : Int) then ((impl_within.f ((rd107 x32 x34).f0) 0 y204_0).bind fun t12 => (if t12 = true then ((impl_within.f ((rd107 x32 x34).f1) 0 y204_1).bind fun t15 => (if t15 = true then (if x34 ≤ (y204_2.length : Int) then ((slices_Contains_impl_Point.f k (y204_2.take ((x34 : Int).toNat)) ((rd107 x32 x34).f0) ((rd107 x32 x34).f1)).bind fun t19 => (if t19 = true then (some false) else (impl_ValidDrawing.l0 k y204_0 y204_1 y204_2 y204_3 x32 x33 (wrap64 (x34 + 1))))) else (none)) else (some false))) else (some false))) else (none)) else (none)) else (impl_ValidDrawing.j1 k y204_2 y204_3)
def impl_ValidDrawing.l1 : Nat → List S107 → List S98 → List S98 → Int → Int → Option (Bool)
  | 0, _, _, _, _, _ => none
  | k + 1, y210_2, y210_3, x63, x64, x65 => if x65 < x64 then (if 0 ≤ x65 then (if x65 < (x63.length : Int) then ((impl_IsName.f k ((rd98 x63 x65).f0)).bind fun t25 => (if t25 = true then (if x65 > 0 then (if 0 ≤ (wrap64 (x65 - 1)) then (if (wrap64 (x65 - 1)) < (y210_3.length : Int) then (impl_ValidDrawing.j2 k y210_2 y210_3 ((rd98 x63 x65).f1) x63 x64 x65 (!(Op.bytesLess (((rd98 y210_3 (wrap64 (x65 - 1))).f0).toList) (((rd98 x63 x65).f0).toList)))) else (none)) else (none)) else (impl_ValidDrawing.j2 k y210_2 y210_3 ((rd98 x63 x65).f1) x63 x64 x65 false)) else (impl_ValidDrawing.j2 k y210_2 y210_3 ((rd98 x63 x65).f1) x63 x64 x65 true))) else (none)) else (none)) else (some true)
def impl_ValidDrawing.j2 : Nat → List S107 → List S98 → List Int → List S98 → Int → Int → Bool → Option (Bool)
  | 0, _, _, _, _, _, _, _ => none
  | k + 1, y213_2, y213_3, y214_1, x63, x64, x65, x89 => if x89 = true then (some false) else ((impl_ringPolygon.f k y213_2 y214_1).bind fun bt32 => (if bt32.2 = true then ((impl_ValidPolygon.f k bt32.1).bind fun t36 => (if t36 = true then (impl_ValidDrawing.l1 k y213_2 y213_3 x63 x64 (wrap64 (x65 + 1))) else (some false))) else (some false)))
end
def impl_ValidDrawing.f (k : Nat) (a0_0 : Int) (a0_1 : Int) (l0_2 : List S107) (l0_3 : List S98) : Option (Bool) := (impl_within.f a0_0 10 20000).bind fun t1 => (if t1 = true then ((impl_within.f a0_1 10 20000).bind fun t4 => (if t4 = true then (if (l0_2.length : Int) > 48 then (impl_ValidDrawing.j0 k a0_0 a0_1 l0_2 l0_3 true) else (impl_ValidDrawing.j0 k a0_0 a0_1 l0_2 l0_3 (decide ((l0_3.length : Int) > 24)))) else (impl_ValidDrawing.j0 k a0_0 a0_1 l0_2 l0_3 true))) else (impl_ValidDrawing.j0 k a0_0 a0_1 l0_2 l0_3 true))
set_option maxRecDepth 100000 in
theorem impl_ValidDrawing.ok {k : Nat} {a0_0 : Int} {a0_1 : Int} {l0_2 : List S107} {l0_3 : List S98} {r : Bool} (H : impl_ValidDrawing.f k a0_0 a0_1 l0_2 l0_3 = some r) : OkF Try.prog 41 [.agg [.d (.v (.int .i64 a0_0)), .d (.v (.int .i64 a0_1)), .d (.row 108 (l0_2.map c107)), .d (.row 101 (l0_3.map c98))]] [] (.c (.d (.v (.bool r)))) [] := by
  unfold impl_ValidDrawing.f at H
  refine OkF.of (N := 106) (rs := [2]) (avs := [.c (.d (.v (.bool r)))]) Try.func41 rfl rfl (fun _ _ => results_tmp rfl _ _ _) (by decide) rfl rfl rfl rfl (fun w0 S => ?_)
  refine AG.seq ?_
  refine AG.region HM ?_
  refine a_box 200 ?_
  refine a_move (v := vB _) ?_
  refine RA.nil nofun ?_
  refine AG.seq ?_
  refine AG.seq ?_
  refine AG.join (fun s => ∃ q, q ≤ k ∧ ∃ (y203_0 : Int) (y203_1 : Int) (y203_2 : List S107) (y203_3 : List S98) (x30 : Bool), impl_ValidDrawing.j0 q y203_0 y203_1 y203_2 y203_3 x30 = some r ∧ s = St.of [(1, .c (.ptr 203 0)), (30, vB x30)] [(203, .box 49 [.d (.v (.int .i64 y203_0)), .d (.v (.int .i64 y203_1)), .d (.row 108 (y203_2.map c107)), .d (.row 101 (y203_3.map c98))])]) ?_ ?_
  · skip
    refine AG.region HM ?_
    refine a_faB (q := 0) ?_ D49_0
    refine a_ldB (v := vI _) ?_ T2
    obtain ⟨t1, e2, H⟩ := bindO H
    refine a_call (v := vB t1) (nk := []) (L := []) ?_ rfl (impl_within.ok e2) id (qd (qd (qd qn))) trivial trivial trivial rfl
    refine a_un (u := .bool (!t1)) ?_
    refine a_move (v := vB _) ?_
    by_cases hc3 : t1 = true
    · rw [if_pos hc3] at H
      refine a_faB (q := 1) ?_ D49_1 (hg := Gs.yes rfl rfl rfl (congrArg Bool.not hc3))
      refine a_ldB (v := vI _) ?_ T2 (hg := Gs.yes rfl rfl rfl (congrArg Bool.not hc3))
      obtain ⟨t4, e5, H⟩ := bindO H
      refine a_call (v := vB t4) (nk := []) (L := []) ?_ rfl (impl_within.ok e5) id (qd (qd (qd qn))) trivial trivial trivial rfl (hg := Gs.yes rfl rfl rfl (congrArg Bool.not hc3))
      refine a_un (u := .bool (!t4)) ?_ (hg := Gs.yes rfl rfl rfl (congrArg Bool.not hc3))
      refine a_pick (b := false) (v := vB _) ?_ (congrArg Bool.not hc3)
      refine a_move (v := vB _) ?_
      by_cases hc6 : t4 = true
      · rw [if_pos hc6] at H
        refine a_faB (q := 2) ?_ D49_2 (hg := Gs.yes rfl rfl rfl (congrArg Bool.not hc6))
        refine a_ldB (v := vR _ _) ?_ T46 (hg := Gs.yes rfl rfl rfl (congrArg Bool.not hc6))
        refine a_lenR ?_ Try.underlying46 (hg := Gs.yes rfl rfl rfl (congrArg Bool.not hc6))
        refine a_int (u := .bool (decide ((l0_2.length : Int) > 48))) ?_ (hg := Gs.yes rfl rfl rfl (congrArg Bool.not hc6))
        refine a_pick (b := false) (v := vB _) ?_ (congrArg Bool.not hc6)
        refine a_move (v := vB _) ?_
        by_cases hc7 : (l0_2.length : Int) > 48
        · rw [if_pos hc7] at H
          refine RA.skip rfl rfl rfl rfl rfl (decide_eq_true hc7) (by decide) ?_
          refine RA.skip rfl rfl rfl rfl rfl (decide_eq_true hc7) (by decide) ?_
          refine RA.skip rfl rfl rfl rfl rfl (decide_eq_true hc7) (by decide) ?_
          refine RA.skip rfl rfl rfl rfl rfl (decide_eq_true hc7) (by decide) ?_
          refine a_pick (b := true) (v := vB _) ?_ (decide_eq_true hc7)
          refine RA.nil nofun ?_
          exact Can.mk (fun κ => cond (Nat.beq κ 203) 200 (κ)) ⟨_, (by omega), _, _, _, _, _, H, rfl⟩ ⟨rfl, rfl, trivial⟩ ⟨rfl, trivial⟩ rfl
        · rw [if_neg hc7] at H
          refine a_faB (q := 3) ?_ D49_3 (hg := Gs.yes rfl rfl rfl (decide_eq_false hc7))
          refine a_ldB (v := vR _ _) ?_ T47 (hg := Gs.yes rfl rfl rfl (decide_eq_false hc7))
          refine a_lenR ?_ Try.underlying47 (hg := Gs.yes rfl rfl rfl (decide_eq_false hc7))
          refine a_int (u := .bool (decide ((l0_3.length : Int) > 24))) ?_ (hg := Gs.yes rfl rfl rfl (decide_eq_false hc7))
          refine a_pick (b := false) (v := vB _) ?_ (decide_eq_false hc7)
          refine RA.nil nofun ?_
          exact Can.mk (fun κ => cond (Nat.beq κ 203) 200 (κ)) ⟨_, (by omega), _, _, _, _, _, H, rfl⟩ ⟨rfl, rfl, trivial⟩ ⟨rfl, trivial⟩ rfl
      · rw [if_neg hc6] at H
        refine RA.skip rfl rfl rfl rfl rfl (congrArg Bool.not (Bool.eq_false_iff.2 hc6)) (by decide) ?_
        refine RA.skip rfl rfl rfl rfl rfl (congrArg Bool.not (Bool.eq_false_iff.2 hc6)) (by decide) ?_
        refine RA.skip rfl rfl rfl rfl rfl (congrArg Bool.not (Bool.eq_false_iff.2 hc6)) (by decide) ?_
        refine RA.skip rfl rfl rfl rfl rfl (congrArg Bool.not (Bool.eq_false_iff.2 hc6)) (by decide) ?_
        refine a_pick (b := true) (v := vB _) ?_ (congrArg Bool.not (Bool.eq_false_iff.2 hc6))
        refine a_move (v := vB _) ?_
        refine RA.skip rfl rfl rfl rfl rfl rfl (by decide) ?_
        refine RA.skip rfl rfl rfl rfl rfl rfl (by decide) ?_
        refine RA.skip rfl rfl rfl rfl rfl rfl (by decide) ?_
        refine RA.skip rfl rfl rfl rfl rfl rfl (by decide) ?_
        refine a_pick (b := true) (v := vB _) ?_ rfl
        refine RA.nil nofun ?_
        exact Can.mk (fun κ => cond (Nat.beq κ 203) 200 (κ)) ⟨_, (by omega), _, _, _, _, _, H, rfl⟩ ⟨rfl, rfl, trivial⟩ ⟨rfl, trivial⟩ rfl
    · rw [if_neg hc3] at H
      refine RA.skip rfl rfl rfl rfl rfl (congrArg Bool.not (Bool.eq_false_iff.2 hc3)) (by decide) ?_
      refine RA.skip rfl rfl rfl rfl rfl (congrArg Bool.not (Bool.eq_false_iff.2 hc3)) (by decide) ?_
      refine RA.skip rfl rfl rfl rfl rfl (congrArg Bool.not (Bool.eq_false_iff.2 hc3)) (by decide) ?_
      refine RA.skip rfl rfl rfl rfl rfl (congrArg Bool.not (Bool.eq_false_iff.2 hc3)) (by decide) ?_
      refine a_pick (b := true) (v := vB _) ?_ (congrArg Bool.not (Bool.eq_false_iff.2 hc3))
      refine a_move (v := vB _) ?_
      refine RA.skip rfl rfl rfl rfl rfl rfl (by decide) ?_
      refine RA.skip rfl rfl rfl rfl rfl rfl (by decide) ?_
      refine RA.skip rfl rfl rfl rfl rfl rfl (by decide) ?_
      refine RA.skip rfl rfl rfl rfl rfl rfl (by decide) ?_
      refine a_pick (b := true) (v := vB _) ?_ rfl
      refine a_move (v := vB _) ?_
      refine RA.skip rfl rfl rfl rfl rfl rfl (by decide) ?_
      refine RA.skip rfl rfl rfl rfl rfl rfl (by decide) ?_
      refine RA.skip rfl rfl rfl rfl rfl rfl (by decide) ?_
      refine RA.skip rfl rfl rfl rfl rfl rfl (by decide) ?_
      refine a_pick (b := true) (v := vB _) ?_ rfl
      refine RA.nil nofun ?_
      exact Can.mk (fun κ => cond (Nat.beq κ 203) 200 (κ)) ⟨_, (by omega), _, _, _, _, _, H, rfl⟩ ⟨rfl, rfl, trivial⟩ ⟨rfl, trivial⟩ rfl
  · clear H
    rintro _ ⟨k, hj0, y203_0, y203_1, y203_2, y203_3, x30, H, rfl⟩
    cases k with
    | zero => cases H
    | succ k =>
      rw [impl_ValidDrawing.j0] at H
      by_cases hc8 : x30 = true
      · rw [if_pos hc8] at H
        refine AG.yes rfl hc8 ?_
        refine AG.seq ?_
        refine AG.region HM ?_
        refine a_move (v := vB _) ?_
        refine RA.nil nofun ?_
        refine AG.ret ?_
        obtain rfl := Option.some.inj H
        exact RetP.mk id ⟨rfl, trivial⟩ trivial rfl
      · rw [if_neg hc8] at H
        refine AG.no rfl (Bool.eq_false_iff.2 hc8) ?_
        refine AG.skip ?_
        refine AG.seq ?_
        refine AG.seq ?_
        refine AG.region HM ?_
        refine a_faB (q := 2) ?_ D49_2
        refine a_ldB (v := vR _ _) ?_ T46
        refine a_lenR ?_ Try.underlying46
        refine a_move (v := vI _) ?_
        refine RA.nil nofun ?_
        refine AG.join (fun s => ∃ q, q ≤ k ∧ ∃ (y209_0 : Int) (y209_1 : Int) (y209_2 : List S107) (y209_3 : List S98), impl_ValidDrawing.j1 q y209_2 y209_3 = some r ∧ s = St.of [(1, .c (.ptr 209 0))] [(209, .box 49 [.d (.v (.int .i64 y209_0)), .d (.v (.int .i64 y209_1)), .d (.row 108 (y209_2.map c107)), .d (.row 101 (y209_3.map c98))])]) ?_ ?_
        · skip
          refine AG.block ?_
          refine AG.loop ?_
          obtain ⟨K0, hK0, gK0⟩ : ∃ K, k ≤ K ∧ K ≤ k := ⟨k, Nat.le_refl k, Nat.le_refl k⟩
          refine AGr.canon (fun κ => cond (Nat.beq κ 204) 203 (κ)) (AGr.loopI (n := k) (fun k s => k ≤ K0 ∧ ∃ (y204_0 : Int) (y204_1 : Int) (y204_2 : List S107) (y204_3 : List S98) (x32 : List S107) (x33 : Int) (x34 : Int), impl_ValidDrawing.l0 k y204_0 y204_1 y204_2 y204_3 x32 x33 x34 = some r ∧ s = St.of [(1, .c (.ptr 204 0)), (32, vR 108 (x32.map c107)), (33, vI x33), (34, vI x34)] [(204, .box 49 [.d (.v (.int .i64 y204_0)), .d (.v (.int .i64 y204_1)), .d (.row 108 (y204_2.map c107)), .d (.row 101 (y204_3.map c98))])]) ⟨hK0, _, _, _, _, _, _, _, H, rfl⟩ ?_ ?_) ⟨rfl, rfl, rfl, rfl, trivial⟩ ⟨rfl, trivial⟩ rfl
          · rintro _ ⟨_, _, _, _, _, _, _, _, H, _⟩
            cases H
          · clear H hK0
            rintro k ih0 _ ⟨hK0, y204_0, y204_1, y204_2, y204_3, x32, x33, x34, H, rfl⟩
            unfold impl_ValidDrawing.l0 at H
            refine AG.seq ?_
            refine AG.region HM ?_
            refine a_int (u := .bool (decide (x34 < x33))) ?_
            refine RA.nil nofun ?_
            refine AG.seq ?_
            by_cases hc9 : x34 < x33
            · rw [if_pos hc9] at H
              refine AG.yes rfl (decide_eq_true hc9) ?_
              refine AG.skip ?_
              refine AG.seq ?_
              refine AG.block ?_
              refine AG.seq ?_
              refine AG.region HM ?_
              refine a_move (v := vI _) ?_
              by_cases hc10 : 0 ≤ x34
              · rw [if_pos hc10] at H
                by_cases hc11 : x34 < (x32.length : Int)
                · rw [if_pos hc11] at H
                  refine a_ixR (el := c107 (rd107 x32 x34)) ?_ ⟨hc10, hc11⟩ T108 Try.underlying46 (hel := R107 hc10 hc11)
                  refine a_ldR (v := .agg [_, _]) ?_ T108
                  refine a_alloc (cs := [_, _]) 205 ?_ T108
                  refine a_move (v := vI _) ?_
                  refine a_stB (cs' := [_, _]) ?_ T108
                  refine RA.nil nofun ?_
                  refine AG.seq ?_
                  refine AG.region HM ?_
                  refine a_faB (q := 0) ?_ D108_0
                  refine a_ldB (v := vI _) ?_ T2
                  refine a_faB (q := 0) ?_ D49_0
                  refine a_ldB (v := vI _) ?_ T2
                  obtain ⟨t12, e13, H⟩ := bindO H
                  refine a_call (v := vB t12) (nk := []) (L := []) ?_ rfl (impl_within.ok e13) id (qd (qd (qd qn))) trivial trivial trivial rfl
                  refine a_un (u := .bool (!t12)) ?_
                  refine a_move (v := vB _) ?_
                  by_cases hc14 : t12 = true
                  · rw [if_pos hc14] at H
                    refine a_faB (q := 1) ?_ D108_1 (hg := Gs.yes rfl rfl rfl (congrArg Bool.not hc14))
                    refine a_ldB (v := vI _) ?_ T2 (hg := Gs.yes rfl rfl rfl (congrArg Bool.not hc14))
                    refine a_faB (q := 1) ?_ D49_1 (hg := Gs.yes rfl rfl rfl (congrArg Bool.not hc14))
                    refine a_ldB (v := vI _) ?_ T2 (hg := Gs.yes rfl rfl rfl (congrArg Bool.not hc14))
                    obtain ⟨t15, e16, H⟩ := bindO H
                    refine a_call (v := vB t15) (nk := []) (L := []) ?_ rfl (impl_within.ok e16) id (qd (qd (qd qn))) trivial trivial trivial rfl (hg := Gs.yes rfl rfl rfl (congrArg Bool.not hc14))
                    refine a_un (u := .bool (!t15)) ?_ (hg := Gs.yes rfl rfl rfl (congrArg Bool.not hc14))
                    refine a_pick (b := false) (v := vB _) ?_ (congrArg Bool.not hc14)
                    refine a_move (v := vB _) ?_
                    by_cases hc17 : t15 = true
                    · rw [if_pos hc17] at H
                      refine a_faB (q := 2) ?_ D49_2 (hg := Gs.yes rfl rfl rfl (congrArg Bool.not hc17))
                      refine a_ldB (v := vR _ _) ?_ T46 (hg := Gs.yes rfl rfl rfl (congrArg Bool.not hc17))
                      refine a_move (v := vI _) ?_ (hg := Gs.yes rfl rfl rfl (congrArg Bool.not hc17))
                      by_cases hc18 : x34 ≤ (y204_2.length : Int)
                      · rw [if_pos hc18] at H
                        refine a_slR (l := none) (h := some x34) (css' := (y204_2.take ((x34 : Int).toNat)).map c107) ?_ Try.underlying46 T108 ⟨(Int.le_refl 0), hc10, (lenM (p := fun n => x34 ≤ n) hc18)⟩ (map_take_drop _ _ _ _) (hg := Gs.yes rfl rfl rfl (congrArg Bool.not hc17))
                        refine a_ldB (v := .agg [_, _]) ?_ T108 (hg := Gs.yes rfl rfl rfl (congrArg Bool.not hc17))
                        obtain ⟨t19, e20, H⟩ := bindO H
                        refine a_call (v := vB t19) (nk := []) (L := []) ?_ rfl (slices_Contains_impl_Point.ok e20) id (qd (qg qn)) trivial trivial trivial rfl (hg := Gs.yes rfl rfl rfl (congrArg Bool.not hc17))
                        refine a_pick (b := false) (v := vB _) ?_ (congrArg Bool.not hc17)
                        refine RA.nil (fun _ => by kernel_rfl) ?_
                        by_cases hc21 : t19 = true
                        · rw [if_pos hc21] at H
                          refine AG.yes rfl hc21 ?_
                          refine AG.seq ?_
                          refine AG.region HM ?_
                          refine a_move (v := vB _) ?_
                          refine RA.nil nofun ?_
                          refine AG.ret ?_
                          obtain rfl := Option.some.inj H
                          exact RetP.mk id ⟨rfl, trivial⟩ trivial rfl
                        · rw [if_neg hc21] at H
                          refine AG.no rfl (Bool.eq_false_iff.2 hc21) ?_
                          refine AG.skip ?_
                          refine AG.region HM ?_
                          refine a_int (u := .int .i64 (wrap64 (x34 + 1))) ?_
                          refine a_move (v := vI _) ?_
                          refine RA.nil nofun ?_
                          exact AGr.canon id (ih0 _ (by omega) _ ⟨by omega, _, _, _, _, _, _, _, H, rfl⟩) ⟨rfl, rfl, rfl, rfl, trivial⟩ ⟨rfl, trivial⟩ rfl
                      · rw [if_neg hc18] at H
                        cases H
                    · rw [if_neg hc17] at H
                      refine RA.skip rfl rfl rfl rfl rfl (congrArg Bool.not (Bool.eq_false_iff.2 hc17)) (by decide) ?_
                      refine RA.skip rfl rfl rfl rfl rfl (congrArg Bool.not (Bool.eq_false_iff.2 hc17)) (by decide) ?_
                      refine RA.skip rfl rfl rfl rfl rfl (congrArg Bool.not (Bool.eq_false_iff.2 hc17)) (by decide) ?_
                      refine RA.skip rfl rfl rfl rfl rfl (congrArg Bool.not (Bool.eq_false_iff.2 hc17)) (by decide) ?_
                      refine RA.skip rfl rfl rfl rfl rfl (congrArg Bool.not (Bool.eq_false_iff.2 hc17)) (by decide) ?_
                      refine RA.skip rfl rfl rfl rfl rfl (congrArg Bool.not (Bool.eq_false_iff.2 hc17)) (by decide) ?_
                      refine a_pick (b := true) (v := vB _) ?_ (congrArg Bool.not (Bool.eq_false_iff.2 hc17))
                      refine RA.nil (fun _ => by kernel_rfl) ?_
                      refine AG.yes rfl rfl ?_
                      refine AG.seq ?_
                      refine AG.region HM ?_
                      refine a_move (v := vB _) ?_
                      refine RA.nil nofun ?_
                      refine AG.ret ?_
                      obtain rfl := Option.some.inj H
                      exact RetP.mk id ⟨rfl, trivial⟩ trivial rfl
                  · rw [if_neg hc14] at H
                    refine RA.skip rfl rfl rfl rfl rfl (congrArg Bool.not (Bool.eq_false_iff.2 hc14)) (by decide) ?_
                    refine RA.skip rfl rfl rfl rfl rfl (congrArg Bool.not (Bool.eq_false_iff.2 hc14)) (by decide) ?_
                    refine RA.skip rfl rfl rfl rfl rfl (congrArg Bool.not (Bool.eq_false_iff.2 hc14)) (by decide) ?_
                    refine RA.skip rfl rfl rfl rfl rfl (congrArg Bool.not (Bool.eq_false_iff.2 hc14)) (by decide) ?_
                    refine RA.skip rfl rfl rfl rfl rfl (congrArg Bool.not (Bool.eq_false_iff.2 hc14)) (by decide) ?_
                    refine RA.skip rfl rfl rfl rfl rfl (congrArg Bool.not (Bool.eq_false_iff.2 hc14)) (by decide) ?_
                    refine a_pick (b := true) (v := vB _) ?_ (congrArg Bool.not (Bool.eq_false_iff.2 hc14))
                    refine a_move (v := vB _) ?_
                    refine RA.skip rfl rfl rfl rfl rfl rfl (by decide) ?_
                    refine RA.skip rfl rfl rfl rfl rfl rfl (by decide) ?_
                    refine RA.skip rfl rfl rfl rfl rfl rfl (by decide) ?_
                    refine RA.skip rfl rfl rfl rfl rfl rfl (by decide) ?_
                    refine RA.skip rfl rfl rfl rfl rfl rfl (by decide) ?_
                    refine RA.skip rfl rfl rfl rfl rfl rfl (by decide) ?_
                    refine a_pick (b := true) (v := vB _) ?_ rfl
                    refine RA.nil (fun _ => by kernel_rfl) ?_
                    refine AG.yes rfl rfl ?_
                    refine AG.seq ?_
                    refine AG.region HM ?_
                    refine a_move (v := vB _) ?_
                    refine RA.nil nofun ?_
                    refine AG.ret ?_
                    obtain rfl := Option.some.inj H
                    exact RetP.mk id ⟨rfl, trivial⟩ trivial rfl
                · rw [if_neg hc11] at H
                  cases H
              · rw [if_neg hc10] at H
                cases H
            · rw [if_neg hc9] at H
              refine AG.no rfl (decide_eq_false hc9) ?_
              refine AG.exit ?_
              exact Can.mk (fun κ => cond (Nat.beq κ 209) 204 (κ)) ⟨_, (by omega), _, _, _, _, H, rfl⟩ ⟨rfl, trivial⟩ ⟨rfl, trivial⟩ rfl
        · clear H
          rintro _ ⟨k, hj1, y209_0, y209_1, y209_2, y209_3, H, rfl⟩
          cases k with
          | zero => cases H
          | succ k =>
            rw [impl_ValidDrawing.j1] at H
            refine AG.seq ?_
            refine AG.seq ?_
            refine AG.region HM ?_
            refine a_faB (q := 3) ?_ D49_3
            refine a_ldB (v := vR _ _) ?_ T47
            refine a_lenR ?_ Try.underlying47
            refine a_move (v := vI _) ?_
            refine RA.nil nofun ?_
            refine AG.block ?_
            refine AG.loop ?_
            obtain ⟨K1, hK1, gK1⟩ : ∃ K, k ≤ K ∧ K ≤ k := ⟨k, Nat.le_refl k, Nat.le_refl k⟩
            refine AGr.canon (fun κ => cond (Nat.beq κ 210) 209 (κ)) (AGr.loopI (n := k) (fun k s => k ≤ K1 ∧ ∃ (y210_0 : Int) (y210_1 : Int) (y210_2 : List S107) (y210_3 : List S98) (x63 : List S98) (x64 : Int) (x65 : Int), impl_ValidDrawing.l1 k y210_2 y210_3 x63 x64 x65 = some r ∧ s = St.of [(1, .c (.ptr 210 0)), (63, vR 101 (x63.map c98)), (64, vI x64), (65, vI x65)] [(210, .box 49 [.d (.v (.int .i64 y210_0)), .d (.v (.int .i64 y210_1)), .d (.row 108 (y210_2.map c107)), .d (.row 101 (y210_3.map c98))])]) ⟨hK1, _, _, _, _, _, _, _, H, rfl⟩ ?_ ?_) ⟨rfl, rfl, rfl, rfl, trivial⟩ ⟨rfl, trivial⟩ rfl
            · rintro _ ⟨_, _, _, _, _, _, _, _, H, _⟩
              cases H
            · clear H hK1
              rintro k ih1 _ ⟨hK1, y210_0, y210_1, y210_2, y210_3, x63, x64, x65, H, rfl⟩
              unfold impl_ValidDrawing.l1 at H
              refine AG.seq ?_
              refine AG.region HM ?_
              refine a_int (u := .bool (decide (x65 < x64))) ?_
              refine RA.nil nofun ?_
              refine AG.seq ?_
              by_cases hc22 : x65 < x64
              · rw [if_pos hc22] at H
                refine AG.yes rfl (decide_eq_true hc22) ?_
                refine AG.skip ?_
                refine AG.seq ?_
                refine AG.block ?_
                refine AG.seq ?_
                refine AG.region HM ?_
                refine a_move (v := vI _) ?_
                by_cases hc23 : 0 ≤ x65
                · rw [if_pos hc23] at H
                  by_cases hc24 : x65 < (x63.length : Int)
                  · rw [if_pos hc24] at H
                    refine a_ixR (el := c98 (rd98 x63 x65)) ?_ ⟨hc23, hc24⟩ T101 Try.underlying47 (hel := R98 hc23 hc24)
                    refine a_ldR (v := .agg [_, _]) ?_ T101
                    refine a_alloc (cs := [_, _]) 211 ?_ T101
                    refine a_move (v := vI _) ?_
                    refine a_stB (cs' := [_, _]) ?_ T101
                    refine RA.nil nofun ?_
                    refine AG.seq ?_
                    refine AG.seq ?_
                    refine AG.join (fun s => ∃ q, q ≤ k ∧ ∃ (y213_0 : Int) (y213_1 : Int) (y213_2 : List S107) (y213_3 : List S98) (y214_0 : ByteArray) (y214_1 : List Int) (x63 : List S98) (x64 : Int) (x65 : Int) (x89 : Bool), impl_ValidDrawing.j2 q y213_2 y213_3 y214_1 x63 x64 x65 x89 = some r ∧ s = St.of [(1, .c (.ptr 213 0)), (6, .c (.ptr 214 0)), (63, vR 101 (x63.map c98)), (64, vI x64), (65, vI x65), (89, vB x89)] [(213, .box 49 [.d (.v (.int .i64 y213_0)), .d (.v (.int .i64 y213_1)), .d (.row 108 (y213_2.map c107)), .d (.row 101 (y213_3.map c98))]), (214, .box 101 [.d (.v (.string y214_0)), .d (.row 2 (y214_1.map c2))])]) ?_ ?_
                    · skip
                      refine AG.region HM ?_
                      refine a_faB (q := 0) ?_ D101_0
                      refine a_ldB (v := vS _) ?_ T9
                      obtain ⟨t25, e26, H⟩ := bindO H
                      refine a_call (v := vB t25) (nk := []) (L := []) ?_ rfl (impl_IsName.ok e26) id (qd qn) trivial trivial trivial rfl
                      refine a_un (u := .bool (!t25)) ?_
                      refine a_move (v := vB _) ?_
                      by_cases hc27 : t25 = true
                      · rw [if_pos hc27] at H
                        refine a_move (v := vI _) ?_ (hg := Gs.yes rfl rfl rfl (congrArg Bool.not hc27))
                        refine a_int (u := .bool (decide (x65 > 0))) ?_ (hg := Gs.yes rfl rfl rfl (congrArg Bool.not hc27))
                        refine a_move (v := vB _) ?_ (hg := Gs.yes rfl rfl rfl (congrArg Bool.not hc27))
                        by_cases hc28 : x65 > 0
                        · rw [if_pos hc28] at H
                          refine a_faB (q := 3) ?_ D49_3 (hg := Gs.yes rfl rfl rfl (decide_eq_true hc28))
                          refine a_ldB (v := vR _ _) ?_ T47 (hg := Gs.yes rfl rfl rfl (decide_eq_true hc28))
                          refine a_move (v := vI _) ?_ (hg := Gs.yes rfl rfl rfl (decide_eq_true hc28))
                          refine a_int (u := .int .i64 (wrap64 (x65 - 1))) ?_ (hg := Gs.yes rfl rfl rfl (decide_eq_true hc28))
                          by_cases hc29 : 0 ≤ (wrap64 (x65 - 1))
                          · rw [if_pos hc29] at H
                            by_cases hc30 : (wrap64 (x65 - 1)) < (y210_3.length : Int)
                            · rw [if_pos hc30] at H
                              refine a_ixR (el := c98 (rd98 y210_3 (wrap64 (x65 - 1)))) ?_ ⟨hc29, hc30⟩ T101 Try.underlying47 (hel := R98 hc29 hc30) (hg := Gs.yes rfl rfl rfl (decide_eq_true hc28))
                              refine a_faR (cells' := [_, _]) ?_ D101_0 (hg := Gs.yes rfl rfl rfl (decide_eq_true hc28))
                              refine a_ldR (v := vS _) ?_ T9 (hg := Gs.yes rfl rfl rfl (decide_eq_true hc28))
                              refine a_faB (q := 0) ?_ D101_0 (hg := Gs.yes rfl rfl rfl (decide_eq_true hc28))
                              refine a_ldB (v := vS _) ?_ T9 (hg := Gs.yes rfl rfl rfl (decide_eq_true hc28))
                              refine a_bin (u := .bool (!(Op.bytesLess (((rd98 y210_3 (wrap64 (x65 - 1))).f0).toList) (((rd98 x63 x65).f0).toList)))) ?_ (hg := Gs.yes rfl rfl rfl (decide_eq_true hc28))
                              refine a_pick (b := true) (v := vB _) ?_ (decide_eq_true hc28) (hg := Gs.yes rfl rfl rfl (congrArg Bool.not hc27))
                              refine a_pick (b := false) (v := vB _) ?_ (congrArg Bool.not hc27)
                              refine RA.nil (fun _ => by kernel_rfl) ?_
                              exact Can.mk (fun κ => cond (Nat.beq κ 213) 210 (cond (Nat.beq κ 214) 211 (κ))) ⟨_, (by omega), _, _, _, _, _, _, _, _, _, _, H, rfl⟩ ⟨rfl, rfl, rfl, rfl, rfl, rfl, trivial⟩ ⟨rfl, rfl, trivial⟩ rfl
                            · rw [if_neg hc30] at H
                              cases H
                          · rw [if_neg hc29] at H
                            cases H
                        · rw [if_neg hc28] at H
                          refine RA.skip rfl rfl rfl rfl rfl (decide_eq_false hc28) (by decide) ?_
                          refine RA.skip rfl rfl rfl rfl rfl (decide_eq_false hc28) (by decide) ?_
                          refine RA.skip rfl rfl rfl rfl rfl (decide_eq_false hc28) (by decide) ?_
                          refine RA.skip rfl rfl rfl rfl rfl (decide_eq_false hc28) (by decide) ?_
                          refine RA.skip rfl rfl rfl rfl rfl (decide_eq_false hc28) (by decide) ?_
                          refine RA.skip rfl rfl rfl rfl rfl (decide_eq_false hc28) (by decide) ?_
                          refine RA.skip rfl rfl rfl rfl rfl (decide_eq_false hc28) (by decide) ?_
                          refine RA.skip rfl rfl rfl rfl rfl (decide_eq_false hc28) (by decide) ?_
                          refine RA.skip rfl rfl rfl rfl rfl (decide_eq_false hc28) (by decide) ?_
                          refine RA.skip rfl rfl rfl rfl rfl (decide_eq_false hc28) (by decide) ?_
                          refine a_pick (b := false) (v := vB _) ?_ (decide_eq_false hc28) (hg := Gs.yes rfl rfl rfl (congrArg Bool.not hc27))
                          refine a_pick (b := false) (v := vB _) ?_ (congrArg Bool.not hc27)
                          refine RA.nil (fun _ => by kernel_rfl) ?_
                          exact Can.mk (fun κ => cond (Nat.beq κ 213) 210 (cond (Nat.beq κ 214) 211 (κ))) ⟨_, (by omega), _, _, _, _, _, _, _, _, _, _, H, rfl⟩ ⟨rfl, rfl, rfl, rfl, rfl, rfl, trivial⟩ ⟨rfl, rfl, trivial⟩ rfl
                      · rw [if_neg hc27] at H
                        refine RA.skip rfl rfl rfl rfl rfl (congrArg Bool.not (Bool.eq_false_iff.2 hc27)) (by decide) ?_
                        refine RA.skip rfl rfl rfl rfl rfl (congrArg Bool.not (Bool.eq_false_iff.2 hc27)) (by decide) ?_
                        refine RA.skip rfl rfl rfl rfl rfl (congrArg Bool.not (Bool.eq_false_iff.2 hc27)) (by decide) ?_
                        refine RA.skip0 rfl rfl rfl rfl rfl ?_
                        refine RA.skip0 rfl rfl rfl rfl rfl ?_
                        refine RA.skip0 rfl rfl rfl rfl rfl ?_
                        refine RA.skip0 rfl rfl rfl rfl rfl ?_
                        refine RA.skip0 rfl rfl rfl rfl rfl ?_
                        refine RA.skip0 rfl rfl rfl rfl rfl ?_
                        refine RA.skip0 rfl rfl rfl rfl rfl ?_
                        refine RA.skip0 rfl rfl rfl rfl rfl ?_
                        refine RA.skip0 rfl rfl rfl rfl rfl ?_
                        refine RA.skip0 rfl rfl rfl rfl rfl ?_
                        refine RA.skip rfl rfl rfl rfl rfl (congrArg Bool.not (Bool.eq_false_iff.2 hc27)) (by decide) ?_
                        refine a_pick (b := true) (v := vB _) ?_ (congrArg Bool.not (Bool.eq_false_iff.2 hc27))
                        refine RA.nil (fun _ => by kernel_rfl) ?_
                        exact Can.mk (fun κ => cond (Nat.beq κ 213) 210 (cond (Nat.beq κ 214) 211 (κ))) ⟨_, (by omega), _, _, _, _, _, _, _, _, _, _, H, rfl⟩ ⟨rfl, rfl, rfl, rfl, rfl, rfl, trivial⟩ ⟨rfl, rfl, trivial⟩ rfl
                    · clear H
                      rintro _ ⟨k, hj2, y213_0, y213_1, y213_2, y213_3, y214_0, y214_1, x63, x64, x65, x89, H, rfl⟩
                      cases k with
                      | zero => cases H
                      | succ k =>
                        rw [impl_ValidDrawing.j2] at H
                        by_cases hc31 : x89 = true
                        · rw [if_pos hc31] at H
                          refine AG.yes rfl hc31 ?_
                          refine AG.seq ?_
                          refine AG.region HM ?_
                          refine a_move (v := vB _) ?_
                          refine RA.nil nofun ?_
                          refine AG.ret ?_
                          obtain rfl := Option.some.inj H
                          exact RetP.mk id ⟨rfl, trivial⟩ trivial rfl
                        · rw [if_neg hc31] at H
                          refine AG.no rfl (Bool.eq_false_iff.2 hc31) ?_
                          refine AG.skip ?_
                          refine AG.seq ?_
                          refine AG.region HM ?_
                          refine a_faB (q := 2) ?_ D49_2
                          refine a_ldB (v := vR _ _) ?_ T46
                          refine a_faB (q := 1) ?_ D101_1
                          refine a_ldB (v := vR _ _) ?_ T23
                          obtain ⟨⟨t32, t33⟩, e34, H⟩ := bindO H
                          refine a_call (v := .tup [.c (.own 215 t32.length), .c (.d (.v (.bool t33)))]) (nk := [(215, .row 108 (t32.map c107))]) (L := []) ?_ rfl (impl_ringPolygon.ok e34) (fun κ => cond (Nat.beq κ 215) 100 (κ)) (qd (qd qn)) trivial ⟨rfl, trivial⟩ ⟨rfl, trivial⟩ rfl
                          refine a_move (v := .tup [_, _]) ?_
                          refine a_ext (v := .c (.own _ _)) ?_
                          refine a_ext (v := vB _) ?_
                          refine a_move (v := .c (.own _ _)) ?_
                          refine a_move (v := vB _) ?_
                          refine RA.nil nofun ?_
                          refine AG.seq ?_
                          refine AG.region HM ?_
                          refine a_move (v := vB _) ?_
                          refine a_un (u := .bool (!t33)) ?_
                          refine a_move (v := vB _) ?_
                          by_cases hc35 : t33 = true
                          · rw [if_pos hc35] at H
                            refine a_move (v := .c (.own _ _)) ?_ (hg := Gs.yes rfl rfl rfl (congrArg Bool.not hc35))
                            obtain ⟨t36, e37, H⟩ := bindO H
                            refine a_call (v := vB t36) (nk := []) (L := [(215, _)]) ?_ rfl (impl_ValidPolygon.ok e37) id (qc rO qn) ⟨rfl, trivial⟩ trivial trivial rfl (hg := Gs.yes rfl rfl rfl (congrArg Bool.not hc35))
                            refine a_un (u := .bool (!t36)) ?_ (hg := Gs.yes rfl rfl rfl (congrArg Bool.not hc35))
                            refine a_pick (b := false) (v := vB _) ?_ (congrArg Bool.not hc35)
                            refine RA.nil nofun ?_
                            by_cases hc38 : t36 = true
                            · rw [if_pos hc38] at H
                              refine AG.no rfl (congrArg Bool.not hc38) ?_
                              refine AG.skip ?_
                              refine AG.region HM ?_
                              refine a_int (u := .int .i64 (wrap64 (x65 + 1))) ?_
                              refine a_move (v := vI _) ?_
                              refine RA.nil nofun ?_
                              exact AGr.canon (fun κ => cond (Nat.beq κ 210) 213 (κ)) (ih1 _ (by omega) _ ⟨by omega, _, _, _, _, _, _, _, H, rfl⟩) ⟨rfl, rfl, rfl, rfl, trivial⟩ ⟨rfl, trivial⟩ rfl
                            · rw [if_neg hc38] at H
                              refine AG.yes rfl (congrArg Bool.not (Bool.eq_false_iff.2 hc38)) ?_
                              refine AG.seq ?_
                              refine AG.region HM ?_
                              refine a_move (v := vB _) ?_
                              refine RA.nil nofun ?_
                              refine AG.ret ?_
                              obtain rfl := Option.some.inj H
                              exact RetP.mk id ⟨rfl, trivial⟩ trivial rfl
                          · rw [if_neg hc35] at H
                            refine RA.skip rfl rfl rfl rfl rfl (congrArg Bool.not (Bool.eq_false_iff.2 hc35)) (by decide) ?_
                            refine RA.skip rfl rfl rfl rfl rfl (congrArg Bool.not (Bool.eq_false_iff.2 hc35)) (by decide) ?_
                            refine RA.skip rfl rfl rfl rfl rfl (congrArg Bool.not (Bool.eq_false_iff.2 hc35)) (by decide) ?_
                            refine a_pick (b := true) (v := vB _) ?_ (congrArg Bool.not (Bool.eq_false_iff.2 hc35))
                            refine RA.nil nofun ?_
                            refine AG.yes rfl rfl ?_
                            refine AG.seq ?_
                            refine AG.region HM ?_
                            refine a_move (v := vB _) ?_
                            refine RA.nil nofun ?_
                            refine AG.ret ?_
                            obtain rfl := Option.some.inj H
                            exact RetP.mk id ⟨rfl, trivial⟩ trivial rfl
                  · rw [if_neg hc24] at H
                    cases H
                · rw [if_neg hc23] at H
                  cases H
              · rw [if_neg hc22] at H
                refine AG.no rfl (decide_eq_false hc22) ?_
                refine AG.exit ?_
                refine AG.seq ?_
                refine AG.region HM ?_
                refine a_move (v := vB _) ?_
                refine RA.nil nofun ?_
                refine AG.ret ?_
                obtain rfl := Option.some.inj H
                exact RetP.mk id ⟨rfl, trivial⟩ trivial rfl
/-! ### impl_facePolygon: function 76 -/
def impl_facePolygon.f (k : Nat) (a0_0 : Int) (a0_1 : Int) (l0_2 : List S107) (l0_3 : List S98) (a1 : Int) : Option ((List S107)) := if 0 ≤ a1 then (if a1 < (l0_3.length : Int) then ((impl_ringPolygon.f k l0_2 ((rd98 l0_3 a1).f1)).bind fun bt3 => (some bt3.1)) else (none)) else (none)
set_option maxRecDepth 100000 in
theorem impl_facePolygon.ok {k : Nat} {a0_0 : Int} {a0_1 : Int} {l0_2 : List S107} {l0_3 : List S98} {a1 : Int} {r : List S107} (H : impl_facePolygon.f k a0_0 a0_1 l0_2 l0_3 a1 = some r) : OkF Try.prog 76 [.agg [.d (.v (.int .i64 a0_0)), .d (.v (.int .i64 a0_1)), .d (.row 108 (l0_2.map c107)), .d (.row 101 (l0_3.map c98))], vI a1] [] (.c (.own 100 r.length)) [(100, .row 108 (r.map c107))] := by
  unfold impl_facePolygon.f at H
  refine OkF.of (N := 20) (rs := [4]) (avs := [.c (.own 100 r.length)]) Try.func76 rfl rfl (fun _ _ => results_tmp rfl _ _ _) (by decide) rfl rfl rfl rfl (fun w0 S => ?_)
  refine AG.seq ?_
  refine AG.region HM ?_
  refine a_box 200 ?_
  refine a_nilO (e := 108) 201 ?_ T108
  refine RA.nil nofun ?_
  refine AG.seq ?_
  refine AG.region HM ?_
  refine a_faB (q := 2) ?_ D49_2
  refine a_ldB (v := vR _ _) ?_ T46
  refine a_faB (q := 3) ?_ D49_3
  refine a_ldB (v := vR _ _) ?_ T47
  refine a_move (v := vI _) ?_
  by_cases hc1 : 0 ≤ a1
  · rw [if_pos hc1] at H
    by_cases hc2 : a1 < (l0_3.length : Int)
    · rw [if_pos hc2] at H
      refine a_ixR (el := c98 (rd98 l0_3 a1)) ?_ ⟨hc1, hc2⟩ T101 Try.underlying47 (hel := R98 hc1 hc2)
      refine a_faR (cells' := [_]) ?_ D101_1
      refine a_ldR (v := vR _ _) ?_ T23
      obtain ⟨⟨t3, t4⟩, e5, H⟩ := bindO H
      refine a_call (v := .tup [.c (.own 202 t3.length), .c (.d (.v (.bool t4)))]) (nk := [(202, .row 108 (t3.map c107))]) (L := []) ?_ rfl (impl_ringPolygon.ok e5) (fun κ => cond (Nat.beq κ 202) 100 (κ)) (qd (qd qn)) trivial ⟨rfl, trivial⟩ ⟨rfl, trivial⟩ rfl
      refine a_move (v := .tup [_, _]) ?_
      refine a_ext (v := .c (.own _ _)) ?_
      refine a_ext (v := vB _) ?_
      refine a_move (v := .c (.own _ _)) ?_
      refine a_move (v := vB _) ?_
      refine RA.nil (fun _ => by kernel_rfl) ?_
      refine AG.seq ?_
      refine AG.region HM ?_
      refine a_move (v := .c (.own _ _)) ?_
      refine a_move (v := .c (.own _ _)) ?_
      refine RA.nil nofun ?_
      refine AG.ret ?_
      obtain rfl := Option.some.inj H
      exact RetP.mk (fun κ => cond (Nat.beq κ 100) 202 (κ)) ⟨rfl, trivial⟩ ⟨rfl, trivial⟩ rfl
    · rw [if_neg hc2] at H
      cases H
  · rw [if_neg hc1] at H
    cases H
/-! ### impl_faceAreas: function 42 -/
def impl_faceAreas.l0 : Nat → Int → Int → List S107 → List S98 → List Int → Int → Int → Option ((List Int))
  | 0, _, _, _, _, _, _, _ => none
  | k + 1, y203_0, y203_1, y203_2, y203_3, x3, x8, x9 => if x9 < x8 then ((impl_facePolygon.f k y203_0 y203_1 y203_2 y203_3 x9).bind fun t3 => ((impl_doubled.f k t3).bind fun t5 => (if x3.length < 17592186044416 then (impl_faceAreas.l0 k y203_0 y203_1 y203_2 y203_3 (x3 ++ [t5]) x8 (wrap64 (x9 + 1))) else (none)))) else (some x3)
def impl_faceAreas.f (k : Nat) (a0_0 : Int) (a0_1 : Int) (l0_2 : List S107) (l0_3 : List S98) : Option ((List Int)) := impl_faceAreas.l0 k a0_0 a0_1 l0_2 l0_3 ([] : List Int) (l0_3.length : Int) 0
set_option maxRecDepth 100000 in
theorem impl_faceAreas.ok {k : Nat} {a0_0 : Int} {a0_1 : Int} {l0_2 : List S107} {l0_3 : List S98} {r : List Int} (H : impl_faceAreas.f k a0_0 a0_1 l0_2 l0_3 = some r) : OkF Try.prog 42 [.agg [.d (.v (.int .i64 a0_0)), .d (.v (.int .i64 a0_1)), .d (.row 108 (l0_2.map c107)), .d (.row 101 (l0_3.map c98))]] [] (.c (.own 100 r.length)) [(100, .row 2 (r.map c2))] := by
  unfold impl_faceAreas.f at H
  refine OkF.of (N := 21) (rs := [2]) (avs := [.c (.own 100 r.length)]) Try.func42 rfl rfl (fun _ _ => results_tmp rfl _ _ _) (by decide) rfl rfl rfl rfl (fun w0 S => ?_)
  refine AG.seq ?_
  refine AG.region HM ?_
  refine a_box 200 ?_
  refine a_nilO (e := 2) 201 ?_ T2
  refine RA.nil nofun ?_
  refine AG.seq ?_
  refine AG.region HM ?_
  refine a_lit (cs := []) (D := []) (css := ([] : List Int).map c2) 202 ?_ N23 T2 (hcss := by rfl)
  refine a_move (v := .c (.own _ _)) ?_
  refine RA.nil nofun ?_
  refine AG.seq ?_
  refine AG.seq ?_
  refine AG.region HM ?_
  refine a_faB (q := 3) ?_ D49_3
  refine a_ldB (v := vR _ _) ?_ T47
  refine a_lenR ?_ Try.underlying47
  refine a_move (v := vI _) ?_
  refine RA.nil nofun ?_
  refine AG.block ?_
  refine AG.loop ?_
  obtain ⟨K0, hK0, gK0⟩ : ∃ K, k ≤ K ∧ K ≤ k := ⟨k, Nat.le_refl k, Nat.le_refl k⟩
  refine AGr.canon (fun κ => cond (Nat.beq κ 203) 200 (cond (Nat.beq κ 204) 202 (κ))) (AGr.loopI (n := k) (fun k s => k ≤ K0 ∧ ∃ (y203_0 : Int) (y203_1 : Int) (y203_2 : List S107) (y203_3 : List S98) (x3 : List Int) (x8 : Int) (x9 : Int), impl_faceAreas.l0 k y203_0 y203_1 y203_2 y203_3 x3 x8 x9 = some r ∧ s = St.of [(1, .c (.ptr 203 0)), (3, .c (.own 204 x3.length)), (8, vI x8), (9, vI x9)] [(203, .box 49 [.d (.v (.int .i64 y203_0)), .d (.v (.int .i64 y203_1)), .d (.row 108 (y203_2.map c107)), .d (.row 101 (y203_3.map c98))]), (204, .row 2 (x3.map c2))]) ⟨hK0, _, _, _, _, _, _, _, H, rfl⟩ ?_ ?_) ⟨rfl, (ownE rfl (by simp)), rfl, rfl, trivial⟩ ⟨rfl, rfl, trivial⟩ rfl
  · rintro _ ⟨_, _, _, _, _, _, _, _, H, _⟩
    cases H
  · clear H hK0
    rintro k ih0 _ ⟨hK0, y203_0, y203_1, y203_2, y203_3, x3, x8, x9, H, rfl⟩
    unfold impl_faceAreas.l0 at H
    refine AG.seq ?_
    refine AG.region HM ?_
    refine a_int (u := .bool (decide (x9 < x8))) ?_
    refine RA.nil nofun ?_
    refine AG.seq ?_
    by_cases hc2 : x9 < x8
    · rw [if_pos hc2] at H
      refine AG.yes rfl (decide_eq_true hc2) ?_
      refine AG.skip ?_
      refine AG.seq ?_
      refine AG.block ?_
      refine AG.seq ?_
      refine AG.region HM ?_
      refine a_move (v := vI _) ?_
      refine a_move (v := vI _) ?_
      refine RA.nil nofun ?_
      refine AG.region HM ?_
      refine a_move (v := .c (.own _ _)) ?_
      refine a_ldB (v := .agg [_, _, _, _]) ?_ T49
      refine a_move (v := vI _) ?_
      obtain ⟨t3, e4, H⟩ := bindO H
      refine a_call (v := .c (.own 205 t3.length)) (nk := [(205, .row 108 (t3.map c107))]) (L := []) ?_ rfl (impl_facePolygon.ok e4) (fun κ => cond (Nat.beq κ 205) 100 (κ)) (qg (qd qn)) trivial ⟨rfl, trivial⟩ ⟨rfl, trivial⟩ rfl
      obtain ⟨t5, e6, H⟩ := bindO H
      refine a_call (v := vI t5) (nk := []) (L := [(205, _)]) ?_ rfl (impl_doubled.ok e6) id (qc rO qn) ⟨rfl, trivial⟩ trivial trivial rfl
      refine a_lit (cs := [_]) (D := []) (css := ([t5]).map c2) 207 ?_ N23 T2
      by_cases hc7 : x3.length < 17592186044416
      · rw [if_pos hc7] at H
        refine a_appO (css' := (x3 ++ [t5]).map c2) (n' := (x3 ++ [t5]).length) ?_ T2 (by simp [maxLen]; omega) (by simp; omega) Try.underlying23 (hc := by exact List.map_append.symm) (hn := by exact List.length_map _)
        refine a_move (v := .c (.own _ _)) ?_
        refine RA.nil nofun ?_
        refine AG.region HM ?_
        refine a_int (u := .int .i64 (wrap64 (x9 + 1))) ?_
        refine a_move (v := vI _) ?_
        refine RA.nil nofun ?_
        exact AGr.canon id (ih0 _ (by omega) _ ⟨by omega, _, _, _, _, _, _, _, H, rfl⟩) ⟨rfl, rfl, rfl, rfl, trivial⟩ ⟨rfl, rfl, trivial⟩ rfl
      · rw [if_neg hc7] at H
        cases H
    · rw [if_neg hc2] at H
      refine AG.no rfl (decide_eq_false hc2) ?_
      refine AG.exit ?_
      refine AG.seq ?_
      refine AG.region HM ?_
      refine a_move (v := .c (.own _ _)) ?_
      refine a_move (v := .c (.own _ _)) ?_
      refine RA.nil nofun ?_
      refine AG.ret ?_
      obtain rfl := Option.some.inj H
      exact RetP.mk (fun κ => cond (Nat.beq κ 100) 204 (κ)) ⟨rfl, trivial⟩ ⟨rfl, trivial⟩ rfl
/-! ### impl_FaceAreas: function 18 -/
def impl_FaceAreas.f (k : Nat) (a0_0 : Int) (a0_1 : Int) (l0_2 : List S107) (l0_3 : List S98) : Option ((List Int) × Int) := (impl_ValidDrawing.f k a0_0 a0_1 l0_2 l0_3).bind fun t1 => (if t1 = true then ((impl_faceAreas.f k a0_0 a0_1 l0_2 l0_3).bind fun t4 => (some (t4, 0))) else (some (([] : List Int), 1)))
set_option maxRecDepth 100000 in
theorem impl_FaceAreas.ok {k : Nat} {a0_0 : Int} {a0_1 : Int} {l0_2 : List S107} {l0_3 : List S98} {r0 : List Int} {r1 : Int} (H : impl_FaceAreas.f k a0_0 a0_1 l0_2 l0_3 = some (r0, r1)) : OkF Try.prog 18 [.agg [.d (.v (.int .i64 a0_0)), .d (.v (.int .i64 a0_1)), .d (.row 108 (l0_2.map c107)), .d (.row 101 (l0_3.map c98))]] [] (.tup [.c (.own 100 r0.length), .c (.d (.v (.int .i64 r1)))]) [(100, .row 2 (r0.map c2))] := by
  unfold impl_FaceAreas.f at H
  refine OkF.of (N := 9) (rs := [2, 3]) (avs := [.c (.own 100 r0.length), .c (.d (.v (.int .i64 r1)))]) Try.func18 rfl rfl (fun _ _ => results_tmp2 rfl _ _ _) (by decide) rfl rfl rfl rfl (fun w0 S => ?_)
  refine AG.seq ?_
  refine AG.region HM ?_
  refine a_box 200 ?_
  refine a_nilO (e := 2) 201 ?_ T2
  refine a_move (v := vI _) ?_
  refine RA.nil nofun ?_
  refine AG.seq ?_
  refine AG.seq ?_
  refine AG.region HM ?_
  refine a_ldB (v := .agg [_, _, _, _]) ?_ T49
  obtain ⟨t1, e2, H⟩ := bindO H
  refine a_call (v := vB t1) (nk := []) (L := []) ?_ rfl (impl_ValidDrawing.ok e2) id (qg qn) trivial trivial trivial rfl
  refine a_un (u := .bool (!t1)) ?_
  refine RA.nil nofun ?_
  by_cases hc3 : t1 = true
  · rw [if_pos hc3] at H
    refine AG.no rfl (congrArg Bool.not hc3) ?_
    refine AG.skip ?_
    refine AG.seq ?_
    refine AG.region HM ?_
    refine a_ldB (v := .agg [_, _, _, _]) ?_ T49
    obtain ⟨t4, e5, H⟩ := bindO H
    refine a_call (v := .c (.own 203 t4.length)) (nk := [(203, .row 2 (t4.map c2))]) (L := []) ?_ rfl (impl_faceAreas.ok e5) (fun κ => cond (Nat.beq κ 203) 100 (κ)) (qg qn) trivial ⟨rfl, trivial⟩ ⟨rfl, trivial⟩ rfl
    refine a_move (v := .c (.own _ _)) ?_
    refine a_move (v := vI _) ?_
    refine RA.nil nofun ?_
    refine AG.ret ?_
    simp only [Option.some.injEq, Prod.mk.injEq] at H
    obtain ⟨rfl, rfl⟩ := H
    exact RetP.mk (fun κ => cond (Nat.beq κ 100) 203 (κ)) ⟨rfl, rfl, trivial⟩ ⟨rfl, trivial⟩ rfl
  · rw [if_neg hc3] at H
    refine AG.yes rfl (congrArg Bool.not (Bool.eq_false_iff.2 hc3)) ?_
    refine AG.seq ?_
    refine AG.region HM ?_
    refine a_nilO (e := 2) 204 ?_ T2
    refine a_move (v := vI _) ?_
    refine RA.nil nofun ?_
    refine AG.ret ?_
    simp only [Option.some.injEq, Prod.mk.injEq] at H
    obtain ⟨rfl, rfl⟩ := H
    exact RetP.mk (fun κ => cond (Nat.beq κ 100) 204 (κ)) ⟨(ownE rfl (by simp)), rfl, trivial⟩ ⟨rfl, trivial⟩ rfl
/-! ### laws_eqInt64S: function 19 -/
def laws_eqInt64S.l0 : Nat → List Int → List Int → Int → Option (Bool)
  | 0, _, _, _ => none
  | k + 1, x0, x1, x5 => if x5 < (x0.length : Int) then (if 0 ≤ x5 then (if x5 < (x1.length : Int) then (if (rd2 x0 x5) = (rd2 x1 x5) then (laws_eqInt64S.l0 k x0 x1 (wrap64 (x5 + 1))) else (some false)) else (none)) else (none)) else (some true)
def laws_eqInt64S.f (k : Nat) (l0 : List Int) (l1 : List Int) : Option (Bool) := if (l0.length : Int) = (l1.length : Int) then (laws_eqInt64S.l0 k l0 l1 0) else (some false)
set_option maxRecDepth 100000 in
theorem laws_eqInt64S.ok {k : Nat} {l0 : List Int} {l1 : List Int} {r : Bool} (H : laws_eqInt64S.f k l0 l1 = some r) : OkF Try.prog 19 [vR 2 (l0.map c2), vR 2 (l1.map c2)] [] (.c (.d (.v (.bool r)))) [] := by
  unfold laws_eqInt64S.f at H
  refine OkF.of (N := 26) (rs := [4]) (avs := [.c (.d (.v (.bool r)))]) Try.func19 rfl rfl (fun _ _ => results_tmp rfl _ _ _) (by decide) rfl rfl rfl rfl (fun w0 S => ?_)
  refine AG.seq ?_
  refine AG.region HM ?_
  refine a_move (v := vB _) ?_
  refine RA.nil nofun ?_
  refine AG.seq ?_
  refine AG.seq ?_
  refine AG.region HM ?_
  refine a_move (v := vR _ _) ?_
  refine a_lenR ?_ Try.underlying23
  refine a_move (v := vR _ _) ?_
  refine a_lenR ?_ Try.underlying23
  refine a_int (u := .bool (((l0.length : Int) != (l1.length : Int)))) ?_
  refine RA.nil nofun ?_
  by_cases hc1 : (l0.length : Int) = (l1.length : Int)
  · rw [if_pos hc1] at H
    refine AG.no rfl (bne_eq_false_iff_eq.2 hc1) ?_
    refine AG.skip ?_
    refine AG.seq ?_
    refine AG.seq ?_
    refine AG.region HM ?_
    refine a_move (v := vI _) ?_
    refine RA.nil nofun ?_
    refine AG.block ?_
    refine AG.loop ?_
    obtain ⟨K0, hK0, gK0⟩ : ∃ K, k ≤ K ∧ K ≤ k := ⟨k, Nat.le_refl k, Nat.le_refl k⟩
    refine AGr.canon id (AGr.loopI (n := k) (fun k s => k ≤ K0 ∧ ∃ (x0 : List Int) (x1 : List Int) (x5 : Int), laws_eqInt64S.l0 k x0 x1 x5 = some r ∧ s = St.of [(0, vR 2 (x0.map c2)), (1, vR 2 (x1.map c2)), (5, vI x5)] []) ⟨hK0, _, _, _, H, rfl⟩ ?_ ?_) ⟨rfl, rfl, rfl, trivial⟩ trivial rfl
    · rintro _ ⟨_, _, _, _, H, _⟩
      cases H
    · clear H hK0
      rintro k ih0 _ ⟨hK0, x0, x1, x5, H, rfl⟩
      unfold laws_eqInt64S.l0 at H
      refine AG.seq ?_
      refine AG.seq ?_
      refine AG.region HM ?_
      refine a_move (v := vI _) ?_
      refine a_move (v := vR _ _) ?_
      refine a_lenR ?_ Try.underlying23
      refine a_int (u := .bool (decide (x5 < (x0.length : Int)))) ?_
      refine RA.nil nofun ?_
      by_cases hc2 : x5 < (x0.length : Int)
      · rw [if_pos hc2] at H
        refine AG.yes rfl (decide_eq_true hc2) ?_
        refine AG.skip ?_
        refine AG.seq ?_
        refine AG.block ?_
        refine AG.seq ?_
        refine AG.region HM ?_
        refine a_move (v := vR _ _) ?_
        refine a_move (v := vI _) ?_
        by_cases hc3 : 0 ≤ x5
        · rw [if_pos hc3] at H
          refine a_ixR (el := c2 (rd2 x0 x5)) ?_ ⟨hc3, hc2⟩ T2 Try.underlying23 (hel := R2 hc3 hc2)
          refine a_ldR (v := vI _) ?_ T2
          refine a_move (v := vR _ _) ?_
          refine a_move (v := vI _) ?_
          by_cases hc4 : x5 < (x1.length : Int)
          · rw [if_pos hc4] at H
            refine a_ixR (el := c2 (rd2 x1 x5)) ?_ ⟨hc3, hc4⟩ T2 Try.underlying23 (hel := R2 hc3 hc4)
            refine a_ldR (v := vI _) ?_ T2
            refine a_int (u := .bool (((rd2 x0 x5) != (rd2 x1 x5)))) ?_
            refine RA.nil (fun _ => by kernel_rfl) ?_
            by_cases hc5 : (rd2 x0 x5) = (rd2 x1 x5)
            · rw [if_pos hc5] at H
              refine AG.no rfl (bne_eq_false_iff_eq.2 hc5) ?_
              refine AG.skip ?_
              refine AG.region HM ?_
              refine a_move (v := vI _) ?_
              refine a_int (u := .int .i64 (wrap64 (x5 + 1))) ?_
              refine a_move (v := vI _) ?_
              refine RA.nil nofun ?_
              exact AGr.canon id (ih0 _ (by omega) _ ⟨by omega, _, _, _, H, rfl⟩) ⟨rfl, rfl, rfl, trivial⟩ trivial rfl
            · rw [if_neg hc5] at H
              refine AG.yes rfl (bne_iff_ne.2 hc5) ?_
              refine AG.seq ?_
              refine AG.region HM ?_
              refine a_move (v := vB _) ?_
              refine RA.nil nofun ?_
              refine AG.ret ?_
              obtain rfl := Option.some.inj H
              exact RetP.mk id ⟨rfl, trivial⟩ trivial rfl
          · rw [if_neg hc4] at H
            cases H
        · rw [if_neg hc3] at H
          cases H
      · rw [if_neg hc2] at H
        refine AG.no rfl (decide_eq_false hc2) ?_
        refine AG.exit ?_
        refine AG.seq ?_
        refine AG.region HM ?_
        refine a_move (v := vB _) ?_
        refine RA.nil nofun ?_
        refine AG.ret ?_
        obtain rfl := Option.some.inj H
        exact RetP.mk id ⟨rfl, trivial⟩ trivial rfl
  · rw [if_neg hc1] at H
    refine AG.yes rfl (bne_iff_ne.2 hc1) ?_
    refine AG.seq ?_
    refine AG.region HM ?_
    refine a_move (v := vB _) ?_
    refine RA.nil nofun ?_
    refine AG.ret ?_
    obtain rfl := Option.some.inj H
    exact RetP.mk id ⟨rfl, trivial⟩ trivial rfl
/-! ### laws_eqPoint: function 77 -/
def laws_eqPoint.f (a0_0 : Int) (a0_1 : Int) (a1_0 : Int) (a1_1 : Int) : Option (Bool) := if a0_0 = a1_0 then (if a0_1 = a1_1 then (some true) else (some false)) else (some false)
set_option maxRecDepth 100000 in
theorem laws_eqPoint.ok {a0_0 : Int} {a0_1 : Int} {a1_0 : Int} {a1_1 : Int} {r : Bool} (H : laws_eqPoint.f a0_0 a0_1 a1_0 a1_1 = some r) : OkF Try.prog 77 [.agg [.d (.v (.int .i64 a0_0)), .d (.v (.int .i64 a0_1))], .agg [.d (.v (.int .i64 a1_0)), .d (.v (.int .i64 a1_1))]] [] (.c (.d (.v (.bool r)))) [] := by
  unfold laws_eqPoint.f at H
  refine OkF.of (N := 15) (rs := [4]) (avs := [.c (.d (.v (.bool r)))]) Try.func77 rfl rfl (fun _ _ => results_tmp rfl _ _ _) (by decide) rfl rfl rfl rfl (fun w0 S => ?_)
  refine AG.seq ?_
  refine AG.region HM ?_
  refine a_box 200 ?_
  refine a_box 201 ?_
  refine a_move (v := vB _) ?_
  refine RA.nil nofun ?_
  refine AG.seq ?_
  refine AG.seq ?_
  refine AG.region HM ?_
  refine a_faB (q := 0) ?_ D108_0
  refine a_ldB (v := vI _) ?_ T2
  refine a_faB (q := 0) ?_ D108_0
  refine a_ldB (v := vI _) ?_ T2
  refine a_int (u := .bool ((a0_0 != a1_0))) ?_
  refine RA.nil nofun ?_
  by_cases hc1 : a0_0 = a1_0
  · rw [if_pos hc1] at H
    refine AG.no rfl (bne_eq_false_iff_eq.2 hc1) ?_
    refine AG.skip ?_
    refine AG.seq ?_
    refine AG.seq ?_
    refine AG.region HM ?_
    refine a_faB (q := 1) ?_ D108_1
    refine a_ldB (v := vI _) ?_ T2
    refine a_faB (q := 1) ?_ D108_1
    refine a_ldB (v := vI _) ?_ T2
    refine a_int (u := .bool ((a0_1 != a1_1))) ?_
    refine RA.nil nofun ?_
    by_cases hc2 : a0_1 = a1_1
    · rw [if_pos hc2] at H
      refine AG.no rfl (bne_eq_false_iff_eq.2 hc2) ?_
      refine AG.skip ?_
      refine AG.seq ?_
      refine AG.region HM ?_
      refine a_move (v := vB _) ?_
      refine RA.nil nofun ?_
      refine AG.ret ?_
      obtain rfl := Option.some.inj H
      exact RetP.mk id ⟨rfl, trivial⟩ trivial rfl
    · rw [if_neg hc2] at H
      refine AG.yes rfl (bne_iff_ne.2 hc2) ?_
      refine AG.seq ?_
      refine AG.region HM ?_
      refine a_move (v := vB _) ?_
      refine RA.nil nofun ?_
      refine AG.ret ?_
      obtain rfl := Option.some.inj H
      exact RetP.mk id ⟨rfl, trivial⟩ trivial rfl
  · rw [if_neg hc1] at H
    refine AG.yes rfl (bne_iff_ne.2 hc1) ?_
    refine AG.seq ?_
    refine AG.region HM ?_
    refine a_move (v := vB _) ?_
    refine RA.nil nofun ?_
    refine AG.ret ?_
    obtain rfl := Option.some.inj H
    exact RetP.mk id ⟨rfl, trivial⟩ trivial rfl
/-! ### laws_eqPointS: function 43 -/
def laws_eqPointS.l0 : Nat → List S107 → List S107 → Int → Option (Bool)
  | 0, _, _, _ => none
  | k + 1, x0, x1, x5 => if x5 < (x0.length : Int) then (if 0 ≤ x5 then (if x5 < (x1.length : Int) then ((laws_eqPoint.f ((rd107 x0 x5).f0) ((rd107 x0 x5).f1) ((rd107 x1 x5).f0) ((rd107 x1 x5).f1)).bind fun t5 => (if t5 = true then (laws_eqPointS.l0 k x0 x1 (wrap64 (x5 + 1))) else (some false))) else (none)) else (none)) else (some true)
def laws_eqPointS.f (k : Nat) (l0 : List S107) (l1 : List S107) : Option (Bool) := if (l0.length : Int) = (l1.length : Int) then (laws_eqPointS.l0 k l0 l1 0) else (some false)
set_option maxRecDepth 100000 in
theorem laws_eqPointS.ok {k : Nat} {l0 : List S107} {l1 : List S107} {r : Bool} (H : laws_eqPointS.f k l0 l1 = some r) : OkF Try.prog 43 [vR 108 (l0.map c107), vR 108 (l1.map c107)] [] (.c (.d (.v (.bool r)))) [] := by
  unfold laws_eqPointS.f at H
  refine OkF.of (N := 27) (rs := [4]) (avs := [.c (.d (.v (.bool r)))]) Try.func43 rfl rfl (fun _ _ => results_tmp rfl _ _ _) (by decide) rfl rfl rfl rfl (fun w0 S => ?_)
  refine AG.seq ?_
  refine AG.region HM ?_
  refine a_move (v := vB _) ?_
  refine RA.nil nofun ?_
  refine AG.seq ?_
  refine AG.seq ?_
  refine AG.region HM ?_
  refine a_move (v := vR _ _) ?_
  refine a_lenR ?_ Try.underlying46
  refine a_move (v := vR _ _) ?_
  refine a_lenR ?_ Try.underlying46
  refine a_int (u := .bool (((l0.length : Int) != (l1.length : Int)))) ?_
  refine RA.nil nofun ?_
  by_cases hc1 : (l0.length : Int) = (l1.length : Int)
  · rw [if_pos hc1] at H
    refine AG.no rfl (bne_eq_false_iff_eq.2 hc1) ?_
    refine AG.skip ?_
    refine AG.seq ?_
    refine AG.seq ?_
    refine AG.region HM ?_
    refine a_move (v := vI _) ?_
    refine RA.nil nofun ?_
    refine AG.block ?_
    refine AG.loop ?_
    obtain ⟨K0, hK0, gK0⟩ : ∃ K, k ≤ K ∧ K ≤ k := ⟨k, Nat.le_refl k, Nat.le_refl k⟩
    refine AGr.canon id (AGr.loopI (n := k) (fun k s => k ≤ K0 ∧ ∃ (x0 : List S107) (x1 : List S107) (x5 : Int), laws_eqPointS.l0 k x0 x1 x5 = some r ∧ s = St.of [(0, vR 108 (x0.map c107)), (1, vR 108 (x1.map c107)), (5, vI x5)] []) ⟨hK0, _, _, _, H, rfl⟩ ?_ ?_) ⟨rfl, rfl, rfl, trivial⟩ trivial rfl
    · rintro _ ⟨_, _, _, _, H, _⟩
      cases H
    · clear H hK0
      rintro k ih0 _ ⟨hK0, x0, x1, x5, H, rfl⟩
      unfold laws_eqPointS.l0 at H
      refine AG.seq ?_
      refine AG.seq ?_
      refine AG.region HM ?_
      refine a_move (v := vI _) ?_
      refine a_move (v := vR _ _) ?_
      refine a_lenR ?_ Try.underlying46
      refine a_int (u := .bool (decide (x5 < (x0.length : Int)))) ?_
      refine RA.nil nofun ?_
      by_cases hc2 : x5 < (x0.length : Int)
      · rw [if_pos hc2] at H
        refine AG.yes rfl (decide_eq_true hc2) ?_
        refine AG.skip ?_
        refine AG.seq ?_
        refine AG.block ?_
        refine AG.seq ?_
        refine AG.region HM ?_
        refine a_move (v := vR _ _) ?_
        refine a_move (v := vI _) ?_
        by_cases hc3 : 0 ≤ x5
        · rw [if_pos hc3] at H
          refine a_ixR (el := c107 (rd107 x0 x5)) ?_ ⟨hc3, hc2⟩ T108 Try.underlying46 (hel := R107 hc3 hc2)
          refine a_ldR (v := .agg [_, _]) ?_ T108
          refine a_move (v := vR _ _) ?_
          refine a_move (v := vI _) ?_
          by_cases hc4 : x5 < (x1.length : Int)
          · rw [if_pos hc4] at H
            refine a_ixR (el := c107 (rd107 x1 x5)) ?_ ⟨hc3, hc4⟩ T108 Try.underlying46 (hel := R107 hc3 hc4)
            refine a_ldR (v := .agg [_, _]) ?_ T108
            obtain ⟨t5, e6, H⟩ := bindO H
            refine a_call (v := vB t5) (nk := []) (L := []) ?_ rfl (laws_eqPoint.ok e6) id (qg (qg qn)) trivial trivial trivial rfl
            refine a_un (u := .bool (!t5)) ?_
            refine RA.nil (fun _ => by kernel_rfl) ?_
            by_cases hc7 : t5 = true
            · rw [if_pos hc7] at H
              refine AG.no rfl (congrArg Bool.not hc7) ?_
              refine AG.skip ?_
              refine AG.region HM ?_
              refine a_move (v := vI _) ?_
              refine a_int (u := .int .i64 (wrap64 (x5 + 1))) ?_
              refine a_move (v := vI _) ?_
              refine RA.nil nofun ?_
              exact AGr.canon id (ih0 _ (by omega) _ ⟨by omega, _, _, _, H, rfl⟩) ⟨rfl, rfl, rfl, trivial⟩ trivial rfl
            · rw [if_neg hc7] at H
              refine AG.yes rfl (congrArg Bool.not (Bool.eq_false_iff.2 hc7)) ?_
              refine AG.seq ?_
              refine AG.region HM ?_
              refine a_move (v := vB _) ?_
              refine RA.nil nofun ?_
              refine AG.ret ?_
              obtain rfl := Option.some.inj H
              exact RetP.mk id ⟨rfl, trivial⟩ trivial rfl
          · rw [if_neg hc4] at H
            cases H
        · rw [if_neg hc3] at H
          cases H
      · rw [if_neg hc2] at H
        refine AG.no rfl (decide_eq_false hc2) ?_
        refine AG.exit ?_
        refine AG.seq ?_
        refine AG.region HM ?_
        refine a_move (v := vB _) ?_
        refine RA.nil nofun ?_
        refine AG.ret ?_
        obtain rfl := Option.some.inj H
        exact RetP.mk id ⟨rfl, trivial⟩ trivial rfl
  · rw [if_neg hc1] at H
    refine AG.yes rfl (bne_iff_ne.2 hc1) ?_
    refine AG.seq ?_
    refine AG.region HM ?_
    refine a_move (v := vB _) ?_
    refine RA.nil nofun ?_
    refine AG.ret ?_
    obtain rfl := Option.some.inj H
    exact RetP.mk id ⟨rfl, trivial⟩ trivial rfl
/-! ### laws_eqFace: function 78 -/
def laws_eqFace.f (k : Nat) (a0_0 : ByteArray) (l0_1 : List Int) (a1_0 : ByteArray) (l1_1 : List Int) : Option (Bool) := if a0_0.toList = a1_0.toList then ((laws_eqInt64S.f k l0_1 l1_1).bind fun t2 => (if t2 = true then (some true) else (some false))) else (some false)
set_option maxRecDepth 100000 in
theorem laws_eqFace.ok {k : Nat} {a0_0 : ByteArray} {l0_1 : List Int} {a1_0 : ByteArray} {l1_1 : List Int} {r : Bool} (H : laws_eqFace.f k a0_0 l0_1 a1_0 l1_1 = some r) : OkF Try.prog 78 [.agg [.d (.v (.string a0_0)), .d (.row 2 (l0_1.map c2))], .agg [.d (.v (.string a1_0)), .d (.row 2 (l1_1.map c2))]] [] (.c (.d (.v (.bool r)))) [] := by
  unfold laws_eqFace.f at H
  refine OkF.of (N := 16) (rs := [4]) (avs := [.c (.d (.v (.bool r)))]) Try.func78 rfl rfl (fun _ _ => results_tmp rfl _ _ _) (by decide) rfl rfl rfl rfl (fun w0 S => ?_)
  refine AG.seq ?_
  refine AG.region HM ?_
  refine a_box 200 ?_
  refine a_box 201 ?_
  refine a_move (v := vB _) ?_
  refine RA.nil nofun ?_
  refine AG.seq ?_
  refine AG.seq ?_
  refine AG.region HM ?_
  refine a_faB (q := 0) ?_ D101_0
  refine a_ldB (v := vS _) ?_ T9
  refine a_faB (q := 0) ?_ D101_0
  refine a_ldB (v := vS _) ?_ T9
  refine a_bin (u := .bool (!(a0_0.toList == a1_0.toList))) ?_
  refine RA.nil nofun ?_
  by_cases hc1 : a0_0.toList = a1_0.toList
  · rw [if_pos hc1] at H
    refine AG.no rfl (by rw [beq_iff_eq.2 hc1]; rfl) ?_
    refine AG.skip ?_
    refine AG.seq ?_
    refine AG.seq ?_
    refine AG.region HM ?_
    refine a_faB (q := 1) ?_ D101_1
    refine a_ldB (v := vR _ _) ?_ T23
    refine a_faB (q := 1) ?_ D101_1
    refine a_ldB (v := vR _ _) ?_ T23
    obtain ⟨t2, e3, H⟩ := bindO H
    refine a_call (v := vB t2) (nk := []) (L := []) ?_ rfl (laws_eqInt64S.ok e3) id (qd (qd qn)) trivial trivial trivial rfl
    refine a_un (u := .bool (!t2)) ?_
    refine RA.nil nofun ?_
    by_cases hc4 : t2 = true
    · rw [if_pos hc4] at H
      refine AG.no rfl (congrArg Bool.not hc4) ?_
      refine AG.skip ?_
      refine AG.seq ?_
      refine AG.region HM ?_
      refine a_move (v := vB _) ?_
      refine RA.nil nofun ?_
      refine AG.ret ?_
      obtain rfl := Option.some.inj H
      exact RetP.mk id ⟨rfl, trivial⟩ trivial rfl
    · rw [if_neg hc4] at H
      refine AG.yes rfl (congrArg Bool.not (Bool.eq_false_iff.2 hc4)) ?_
      refine AG.seq ?_
      refine AG.region HM ?_
      refine a_move (v := vB _) ?_
      refine RA.nil nofun ?_
      refine AG.ret ?_
      obtain rfl := Option.some.inj H
      exact RetP.mk id ⟨rfl, trivial⟩ trivial rfl
  · rw [if_neg hc1] at H
    refine AG.yes rfl (by rw [beq_eq_false_iff_ne.2 hc1]; rfl) ?_
    refine AG.seq ?_
    refine AG.region HM ?_
    refine a_move (v := vB _) ?_
    refine RA.nil nofun ?_
    refine AG.ret ?_
    obtain rfl := Option.some.inj H
    exact RetP.mk id ⟨rfl, trivial⟩ trivial rfl
/-! ### laws_eqFaceS: function 44 -/
def laws_eqFaceS.l0 : Nat → List S98 → List S98 → Int → Option (Bool)
  | 0, _, _, _ => none
  | k + 1, x0, x1, x5 => if x5 < (x0.length : Int) then (if 0 ≤ x5 then (if x5 < (x1.length : Int) then ((laws_eqFace.f k ((rd98 x0 x5).f0) ((rd98 x0 x5).f1) ((rd98 x1 x5).f0) ((rd98 x1 x5).f1)).bind fun t5 => (if t5 = true then (laws_eqFaceS.l0 k x0 x1 (wrap64 (x5 + 1))) else (some false))) else (none)) else (none)) else (some true)
def laws_eqFaceS.f (k : Nat) (l0 : List S98) (l1 : List S98) : Option (Bool) := if (l0.length : Int) = (l1.length : Int) then (laws_eqFaceS.l0 k l0 l1 0) else (some false)
set_option maxRecDepth 100000 in
theorem laws_eqFaceS.ok {k : Nat} {l0 : List S98} {l1 : List S98} {r : Bool} (H : laws_eqFaceS.f k l0 l1 = some r) : OkF Try.prog 44 [vR 101 (l0.map c98), vR 101 (l1.map c98)] [] (.c (.d (.v (.bool r)))) [] := by
  unfold laws_eqFaceS.f at H
  refine OkF.of (N := 27) (rs := [4]) (avs := [.c (.d (.v (.bool r)))]) Try.func44 rfl rfl (fun _ _ => results_tmp rfl _ _ _) (by decide) rfl rfl rfl rfl (fun w0 S => ?_)
  refine AG.seq ?_
  refine AG.region HM ?_
  refine a_move (v := vB _) ?_
  refine RA.nil nofun ?_
  refine AG.seq ?_
  refine AG.seq ?_
  refine AG.region HM ?_
  refine a_move (v := vR _ _) ?_
  refine a_lenR ?_ Try.underlying47
  refine a_move (v := vR _ _) ?_
  refine a_lenR ?_ Try.underlying47
  refine a_int (u := .bool (((l0.length : Int) != (l1.length : Int)))) ?_
  refine RA.nil nofun ?_
  by_cases hc1 : (l0.length : Int) = (l1.length : Int)
  · rw [if_pos hc1] at H
    refine AG.no rfl (bne_eq_false_iff_eq.2 hc1) ?_
    refine AG.skip ?_
    refine AG.seq ?_
    refine AG.seq ?_
    refine AG.region HM ?_
    refine a_move (v := vI _) ?_
    refine RA.nil nofun ?_
    refine AG.block ?_
    refine AG.loop ?_
    obtain ⟨K0, hK0, gK0⟩ : ∃ K, k ≤ K ∧ K ≤ k := ⟨k, Nat.le_refl k, Nat.le_refl k⟩
    refine AGr.canon id (AGr.loopI (n := k) (fun k s => k ≤ K0 ∧ ∃ (x0 : List S98) (x1 : List S98) (x5 : Int), laws_eqFaceS.l0 k x0 x1 x5 = some r ∧ s = St.of [(0, vR 101 (x0.map c98)), (1, vR 101 (x1.map c98)), (5, vI x5)] []) ⟨hK0, _, _, _, H, rfl⟩ ?_ ?_) ⟨rfl, rfl, rfl, trivial⟩ trivial rfl
    · rintro _ ⟨_, _, _, _, H, _⟩
      cases H
    · clear H hK0
      rintro k ih0 _ ⟨hK0, x0, x1, x5, H, rfl⟩
      unfold laws_eqFaceS.l0 at H
      refine AG.seq ?_
      refine AG.seq ?_
      refine AG.region HM ?_
      refine a_move (v := vI _) ?_
      refine a_move (v := vR _ _) ?_
      refine a_lenR ?_ Try.underlying47
      refine a_int (u := .bool (decide (x5 < (x0.length : Int)))) ?_
      refine RA.nil nofun ?_
      by_cases hc2 : x5 < (x0.length : Int)
      · rw [if_pos hc2] at H
        refine AG.yes rfl (decide_eq_true hc2) ?_
        refine AG.skip ?_
        refine AG.seq ?_
        refine AG.block ?_
        refine AG.seq ?_
        refine AG.region HM ?_
        refine a_move (v := vR _ _) ?_
        refine a_move (v := vI _) ?_
        by_cases hc3 : 0 ≤ x5
        · rw [if_pos hc3] at H
          refine a_ixR (el := c98 (rd98 x0 x5)) ?_ ⟨hc3, hc2⟩ T101 Try.underlying47 (hel := R98 hc3 hc2)
          refine a_ldR (v := .agg [_, _]) ?_ T101
          refine a_move (v := vR _ _) ?_
          refine a_move (v := vI _) ?_
          by_cases hc4 : x5 < (x1.length : Int)
          · rw [if_pos hc4] at H
            refine a_ixR (el := c98 (rd98 x1 x5)) ?_ ⟨hc3, hc4⟩ T101 Try.underlying47 (hel := R98 hc3 hc4)
            refine a_ldR (v := .agg [_, _]) ?_ T101
            obtain ⟨t5, e6, H⟩ := bindO H
            refine a_call (v := vB t5) (nk := []) (L := []) ?_ rfl (laws_eqFace.ok e6) id (qg (qg qn)) trivial trivial trivial rfl
            refine a_un (u := .bool (!t5)) ?_
            refine RA.nil (fun _ => by kernel_rfl) ?_
            by_cases hc7 : t5 = true
            · rw [if_pos hc7] at H
              refine AG.no rfl (congrArg Bool.not hc7) ?_
              refine AG.skip ?_
              refine AG.region HM ?_
              refine a_move (v := vI _) ?_
              refine a_int (u := .int .i64 (wrap64 (x5 + 1))) ?_
              refine a_move (v := vI _) ?_
              refine RA.nil nofun ?_
              exact AGr.canon id (ih0 _ (by omega) _ ⟨by omega, _, _, _, H, rfl⟩) ⟨rfl, rfl, rfl, trivial⟩ trivial rfl
            · rw [if_neg hc7] at H
              refine AG.yes rfl (congrArg Bool.not (Bool.eq_false_iff.2 hc7)) ?_
              refine AG.seq ?_
              refine AG.region HM ?_
              refine a_move (v := vB _) ?_
              refine RA.nil nofun ?_
              refine AG.ret ?_
              obtain rfl := Option.some.inj H
              exact RetP.mk id ⟨rfl, trivial⟩ trivial rfl
          · rw [if_neg hc4] at H
            cases H
        · rw [if_neg hc3] at H
          cases H
      · rw [if_neg hc2] at H
        refine AG.no rfl (decide_eq_false hc2) ?_
        refine AG.exit ?_
        refine AG.seq ?_
        refine AG.region HM ?_
        refine a_move (v := vB _) ?_
        refine RA.nil nofun ?_
        refine AG.ret ?_
        obtain rfl := Option.some.inj H
        exact RetP.mk id ⟨rfl, trivial⟩ trivial rfl
  · rw [if_neg hc1] at H
    refine AG.yes rfl (bne_iff_ne.2 hc1) ?_
    refine AG.seq ?_
    refine AG.region HM ?_
    refine a_move (v := vB _) ?_
    refine RA.nil nofun ?_
    refine AG.ret ?_
    obtain rfl := Option.some.inj H
    exact RetP.mk id ⟨rfl, trivial⟩ trivial rfl
/-! ### laws_eqDrawing: function 20 -/
def laws_eqDrawing.f (k : Nat) (a0_0 : Int) (a0_1 : Int) (l0_2 : List S107) (l0_3 : List S98) (a1_0 : Int) (a1_1 : Int) (l1_2 : List S107) (l1_3 : List S98) : Option (Bool) := if a0_0 = a1_0 then (if a0_1 = a1_1 then ((laws_eqPointS.f k l0_2 l1_2).bind fun t3 => (if t3 = true then ((laws_eqFaceS.f k l0_3 l1_3).bind fun t6 => (if t6 = true then (some true) else (some false))) else (some false))) else (some false)) else (some false)
set_option maxRecDepth 100000 in
theorem laws_eqDrawing.ok {k : Nat} {a0_0 : Int} {a0_1 : Int} {l0_2 : List S107} {l0_3 : List S98} {a1_0 : Int} {a1_1 : Int} {l1_2 : List S107} {l1_3 : List S98} {r : Bool} (H : laws_eqDrawing.f k a0_0 a0_1 l0_2 l0_3 a1_0 a1_1 l1_2 l1_3 = some r) : OkF Try.prog 20 [.agg [.d (.v (.int .i64 a0_0)), .d (.v (.int .i64 a0_1)), .d (.row 108 (l0_2.map c107)), .d (.row 101 (l0_3.map c98))], .agg [.d (.v (.int .i64 a1_0)), .d (.v (.int .i64 a1_1)), .d (.row 108 (l1_2.map c107)), .d (.row 101 (l1_3.map c98))]] [] (.c (.d (.v (.bool r)))) [] := by
  unfold laws_eqDrawing.f at H
  refine OkF.of (N := 27) (rs := [4]) (avs := [.c (.d (.v (.bool r)))]) Try.func20 rfl rfl (fun _ _ => results_tmp rfl _ _ _) (by decide) rfl rfl rfl rfl (fun w0 S => ?_)
  refine AG.seq ?_
  refine AG.region HM ?_
  refine a_box 200 ?_
  refine a_box 201 ?_
  refine a_move (v := vB _) ?_
  refine RA.nil nofun ?_
  refine AG.seq ?_
  refine AG.seq ?_
  refine AG.region HM ?_
  refine a_faB (q := 0) ?_ D49_0
  refine a_ldB (v := vI _) ?_ T2
  refine a_faB (q := 0) ?_ D49_0
  refine a_ldB (v := vI _) ?_ T2
  refine a_int (u := .bool ((a0_0 != a1_0))) ?_
  refine RA.nil nofun ?_
  by_cases hc1 : a0_0 = a1_0
  · rw [if_pos hc1] at H
    refine AG.no rfl (bne_eq_false_iff_eq.2 hc1) ?_
    refine AG.skip ?_
    refine AG.seq ?_
    refine AG.seq ?_
    refine AG.region HM ?_
    refine a_faB (q := 1) ?_ D49_1
    refine a_ldB (v := vI _) ?_ T2
    refine a_faB (q := 1) ?_ D49_1
    refine a_ldB (v := vI _) ?_ T2
    refine a_int (u := .bool ((a0_1 != a1_1))) ?_
    refine RA.nil nofun ?_
    by_cases hc2 : a0_1 = a1_1
    · rw [if_pos hc2] at H
      refine AG.no rfl (bne_eq_false_iff_eq.2 hc2) ?_
      refine AG.skip ?_
      refine AG.seq ?_
      refine AG.seq ?_
      refine AG.region HM ?_
      refine a_faB (q := 2) ?_ D49_2
      refine a_ldB (v := vR _ _) ?_ T46
      refine a_faB (q := 2) ?_ D49_2
      refine a_ldB (v := vR _ _) ?_ T46
      obtain ⟨t3, e4, H⟩ := bindO H
      refine a_call (v := vB t3) (nk := []) (L := []) ?_ rfl (laws_eqPointS.ok e4) id (qd (qd qn)) trivial trivial trivial rfl
      refine a_un (u := .bool (!t3)) ?_
      refine RA.nil nofun ?_
      by_cases hc5 : t3 = true
      · rw [if_pos hc5] at H
        refine AG.no rfl (congrArg Bool.not hc5) ?_
        refine AG.skip ?_
        refine AG.seq ?_
        refine AG.seq ?_
        refine AG.region HM ?_
        refine a_faB (q := 3) ?_ D49_3
        refine a_ldB (v := vR _ _) ?_ T47
        refine a_faB (q := 3) ?_ D49_3
        refine a_ldB (v := vR _ _) ?_ T47
        obtain ⟨t6, e7, H⟩ := bindO H
        refine a_call (v := vB t6) (nk := []) (L := []) ?_ rfl (laws_eqFaceS.ok e7) id (qd (qd qn)) trivial trivial trivial rfl
        refine a_un (u := .bool (!t6)) ?_
        refine RA.nil nofun ?_
        by_cases hc8 : t6 = true
        · rw [if_pos hc8] at H
          refine AG.no rfl (congrArg Bool.not hc8) ?_
          refine AG.skip ?_
          refine AG.seq ?_
          refine AG.region HM ?_
          refine a_move (v := vB _) ?_
          refine RA.nil nofun ?_
          refine AG.ret ?_
          obtain rfl := Option.some.inj H
          exact RetP.mk id ⟨rfl, trivial⟩ trivial rfl
        · rw [if_neg hc8] at H
          refine AG.yes rfl (congrArg Bool.not (Bool.eq_false_iff.2 hc8)) ?_
          refine AG.seq ?_
          refine AG.region HM ?_
          refine a_move (v := vB _) ?_
          refine RA.nil nofun ?_
          refine AG.ret ?_
          obtain rfl := Option.some.inj H
          exact RetP.mk id ⟨rfl, trivial⟩ trivial rfl
      · rw [if_neg hc5] at H
        refine AG.yes rfl (congrArg Bool.not (Bool.eq_false_iff.2 hc5)) ?_
        refine AG.seq ?_
        refine AG.region HM ?_
        refine a_move (v := vB _) ?_
        refine RA.nil nofun ?_
        refine AG.ret ?_
        obtain rfl := Option.some.inj H
        exact RetP.mk id ⟨rfl, trivial⟩ trivial rfl
    · rw [if_neg hc2] at H
      refine AG.yes rfl (bne_iff_ne.2 hc2) ?_
      refine AG.seq ?_
      refine AG.region HM ?_
      refine a_move (v := vB _) ?_
      refine RA.nil nofun ?_
      refine AG.ret ?_
      obtain rfl := Option.some.inj H
      exact RetP.mk id ⟨rfl, trivial⟩ trivial rfl
  · rw [if_neg hc1] at H
    refine AG.yes rfl (bne_iff_ne.2 hc1) ?_
    refine AG.seq ?_
    refine AG.region HM ?_
    refine a_move (v := vB _) ?_
    refine RA.nil nofun ?_
    refine AG.ret ?_
    obtain rfl := Option.some.inj H
    exact RetP.mk id ⟨rfl, trivial⟩ trivial rfl
/-! ### laws_markPointS: function 45 -/
def laws_markPointS.l0 : Nat → List S107 → Int → Int → Option (Int × (List S107))
  | 0, _, _, _ => none
  | k + 1, x0, x1, x5 => if x5 < (x0.length : Int) then (if 0 ≤ x5 then ((some (x0.set (x5 : Int).toNat (⟨x1, (rd107 x0 x5).f1⟩ : S107) : List S107)).bind fun y3 => (laws_markPointS.l0 k (y3.set (x5 : Int).toNat (⟨(rd107 y3 x5).f0, wrap64 (x1 + 1)⟩ : S107)) (wrap64 ((wrap64 (x1 + 1)) + 1)) (wrap64 (x5 + 1)))) else (none)) else (some (x1, x0))
def laws_markPointS.f (k : Nat) (l0 : List S107) (a1 : Int) : Option (Int × (List S107)) := laws_markPointS.l0 k l0 a1 0
set_option maxRecDepth 100000 in
theorem laws_markPointS.ok {k : Nat} {l0 : List S107} {a1 : Int} {r0 : Int} {r1 : List S107} (H : laws_markPointS.f k l0 a1 = some (r0, r1)) : OkF Try.prog 45 [.c (.own 0 l0.length), vI a1] [(0, .row 108 (l0.map c107))] (.c (.d (.v (.int .i64 r0)))) [(0, .row 108 (r1.map c107))] := by
  unfold laws_markPointS.f at H
  refine OkF.of (N := 27) (rs := [4]) (avs := [.c (.d (.v (.int .i64 r0)))]) Try.func45 rfl rfl (fun _ _ => results_tmp rfl _ _ _) (by decide) rfl rfl rfl rfl (fun w0 S => ?_)
  refine AG.seq ?_
  refine AG.region HM ?_
  refine a_move (v := vI _) ?_
  refine RA.nil nofun ?_
  refine AG.seq ?_
  refine AG.seq ?_
  refine AG.region HM ?_
  refine a_move (v := vI _) ?_
  refine RA.nil nofun ?_
  refine AG.block ?_
  refine AG.loop ?_
  obtain ⟨K0, hK0, gK0⟩ : ∃ K, k ≤ K ∧ K ≤ k := ⟨k, Nat.le_refl k, Nat.le_refl k⟩
  refine AGr.canon id (AGr.loopI (n := k) (fun k s => k ≤ K0 ∧ ∃ (x0 : List S107) (x1 : Int) (x5 : Int), laws_markPointS.l0 k x0 x1 x5 = some (r0, r1) ∧ s = St.of [(0, .c (.own 0 x0.length)), (1, vI x1), (5, vI x5)] [(0, .row 108 (x0.map c107))]) ⟨hK0, _, _, _, H, rfl⟩ ?_ ?_) ⟨rfl, rfl, rfl, trivial⟩ ⟨rfl, trivial⟩ rfl
  · rintro _ ⟨_, _, _, _, H, _⟩
    cases H
  · clear H hK0
    rintro k ih0 _ ⟨hK0, x0, x1, x5, H, rfl⟩
    unfold laws_markPointS.l0 at H
    refine AG.seq ?_
    refine AG.seq ?_
    refine AG.region HM ?_
    refine a_move (v := vI _) ?_
    refine a_move (v := .c (.own _ _)) ?_
    refine a_lenO ?_ Try.underlying46
    refine a_int (u := .bool (decide (x5 < (x0.length : Int)))) ?_
    refine RA.nil nofun ?_
    by_cases hc1 : x5 < (x0.length : Int)
    · rw [if_pos hc1] at H
      refine AG.yes rfl (decide_eq_true hc1) ?_
      refine AG.skip ?_
      refine AG.seq ?_
      refine AG.block ?_
      refine AG.seq ?_
      refine AG.region HM ?_
      refine a_move (v := .c (.own _ _)) ?_
      refine a_move (v := vI _) ?_
      refine a_move (v := vI _) ?_
      by_cases hc2 : 0 ≤ x5
      · rw [if_pos hc2] at H
        refine a_ixO ?_ ⟨hc2, hc1⟩ T108 Try.underlying46
        refine a_faE (q := 0) ?_ D108_0
        obtain ⟨y3, ey3, H⟩ := bindO H
        have ey3 := Option.some.inj ey3
        refine a_stE (D := []) (css' := y3.map c107) ?_ (G107 hc2 hc1) T2 (hcss := by rw [← ey3]; exact set_map rfl)
        refine RA.nil nofun ?_
        refine AG.seq ?_
        refine AG.region HM ?_
        refine a_move (v := vI _) ?_
        refine a_int (u := .int .i64 (wrap64 (x1 + 1))) ?_
        refine a_move (v := vI _) ?_
        refine RA.nil nofun ?_
        refine AG.seq ?_
        refine AG.region HM ?_
        refine a_move (v := .c (.own _ _)) ?_
        refine a_move (v := vI _) ?_
        refine a_move (v := vI _) ?_
        refine a_ixO ?_ ⟨hc2, hc1⟩ T108 Try.underlying46
        refine a_faE (q := 1) ?_ D108_1
        refine a_stE (D := []) (css' := (y3.set (x5 : Int).toNat (⟨(rd107 y3 x5).f0, wrap64 (x1 + 1)⟩ : S107)).map c107) ?_ (G107 (l := y3) hc2 (by rw [← ey3]; simpa using hc1)) T2 (hcss := by exact set_map rfl)
        refine RA.nil nofun ?_
        refine AG.region HM ?_
        refine a_move (v := vI _) ?_
        refine a_int (u := .int .i64 (wrap64 ((wrap64 (x1 + 1)) + 1))) ?_
        refine a_move (v := vI _) ?_
        refine RA.nil nofun ?_
        refine AG.region HM ?_
        refine a_move (v := vI _) ?_
        refine a_int (u := .int .i64 (wrap64 (x5 + 1))) ?_
        refine a_move (v := vI _) ?_
        refine RA.nil nofun ?_
        exact AGr.canon id (ih0 _ (by omega) _ ⟨by omega, _, _, _, H, rfl⟩) ⟨(ownE rfl (by rw [← ey3]; simp)), rfl, rfl, trivial⟩ ⟨rfl, trivial⟩ rfl
      · rw [if_neg hc2] at H
        cases H
    · rw [if_neg hc1] at H
      refine AG.no rfl (decide_eq_false hc1) ?_
      refine AG.exit ?_
      refine AG.seq ?_
      refine AG.region HM ?_
      refine a_move (v := vI _) ?_
      refine a_move (v := vI _) ?_
      refine RA.nil nofun ?_
      refine AG.ret ?_
      simp only [Option.some.injEq, Prod.mk.injEq] at H
      obtain ⟨rfl, rfl⟩ := H
      exact RetP.mk (fun κ => cond (Nat.beq κ 0) 0 (κ)) ⟨rfl, trivial⟩ ⟨rfl, trivial⟩ rfl
/-! ### laws_markInt64S: function 22 -/
def laws_markInt64S.l0 : Nat → List Int → Int → Int → Option (Int × (List Int))
  | 0, _, _, _ => none
  | k + 1, x0, x1, x5 => if x5 < (x0.length : Int) then (if 0 ≤ x5 then (laws_markInt64S.l0 k (x0.set (x5 : Int).toNat x1) (wrap64 (x1 + 1)) (wrap64 (x5 + 1))) else (none)) else (some (x1, x0))
def laws_markInt64S.f (k : Nat) (l0 : List Int) (a1 : Int) : Option (Int × (List Int)) := laws_markInt64S.l0 k l0 a1 0
set_option maxRecDepth 100000 in
theorem laws_markInt64S.ok {k : Nat} {l0 : List Int} {a1 : Int} {r0 : Int} {r1 : List Int} (H : laws_markInt64S.f k l0 a1 = some (r0, r1)) : OkF Try.prog 22 [.c (.own 0 l0.length), vI a1] [(0, .row 2 (l0.map c2))] (.c (.d (.v (.int .i64 r0)))) [(0, .row 2 (r1.map c2))] := by
  unfold laws_markInt64S.f at H
  refine OkF.of (N := 19) (rs := [4]) (avs := [.c (.d (.v (.int .i64 r0)))]) Try.func22 rfl rfl (fun _ _ => results_tmp rfl _ _ _) (by decide) rfl rfl rfl rfl (fun w0 S => ?_)
  refine AG.seq ?_
  refine AG.region HM ?_
  refine a_move (v := vI _) ?_
  refine RA.nil nofun ?_
  refine AG.seq ?_
  refine AG.seq ?_
  refine AG.region HM ?_
  refine a_move (v := vI _) ?_
  refine RA.nil nofun ?_
  refine AG.block ?_
  refine AG.loop ?_
  obtain ⟨K0, hK0, gK0⟩ : ∃ K, k ≤ K ∧ K ≤ k := ⟨k, Nat.le_refl k, Nat.le_refl k⟩
  refine AGr.canon id (AGr.loopI (n := k) (fun k s => k ≤ K0 ∧ ∃ (x0 : List Int) (x1 : Int) (x5 : Int), laws_markInt64S.l0 k x0 x1 x5 = some (r0, r1) ∧ s = St.of [(0, .c (.own 0 x0.length)), (1, vI x1), (5, vI x5)] [(0, .row 2 (x0.map c2))]) ⟨hK0, _, _, _, H, rfl⟩ ?_ ?_) ⟨rfl, rfl, rfl, trivial⟩ ⟨rfl, trivial⟩ rfl
  · rintro _ ⟨_, _, _, _, H, _⟩
    cases H
  · clear H hK0
    rintro k ih0 _ ⟨hK0, x0, x1, x5, H, rfl⟩
    unfold laws_markInt64S.l0 at H
    refine AG.seq ?_
    refine AG.seq ?_
    refine AG.region HM ?_
    refine a_move (v := vI _) ?_
    refine a_move (v := .c (.own _ _)) ?_
    refine a_lenO ?_ Try.underlying23
    refine a_int (u := .bool (decide (x5 < (x0.length : Int)))) ?_
    refine RA.nil nofun ?_
    by_cases hc1 : x5 < (x0.length : Int)
    · rw [if_pos hc1] at H
      refine AG.yes rfl (decide_eq_true hc1) ?_
      refine AG.skip ?_
      refine AG.seq ?_
      refine AG.block ?_
      refine AG.seq ?_
      refine AG.region HM ?_
      refine a_move (v := .c (.own _ _)) ?_
      refine a_move (v := vI _) ?_
      refine a_move (v := vI _) ?_
      by_cases hc2 : 0 ≤ x5
      · rw [if_pos hc2] at H
        refine a_ixO ?_ ⟨hc2, hc1⟩ T2 Try.underlying23
        refine a_stE (D := []) (css' := (x0.set (x5 : Int).toNat x1).map c2) ?_ (G2 hc2 hc1) T2 (hcss := by exact set_map rfl)
        refine RA.nil nofun ?_
        refine AG.region HM ?_
        refine a_move (v := vI _) ?_
        refine a_int (u := .int .i64 (wrap64 (x1 + 1))) ?_
        refine a_move (v := vI _) ?_
        refine RA.nil nofun ?_
        refine AG.region HM ?_
        refine a_move (v := vI _) ?_
        refine a_int (u := .int .i64 (wrap64 (x5 + 1))) ?_
        refine a_move (v := vI _) ?_
        refine RA.nil nofun ?_
        exact AGr.canon id (ih0 _ (by omega) _ ⟨by omega, _, _, _, H, rfl⟩) ⟨(ownE rfl (by simp)), rfl, rfl, trivial⟩ ⟨rfl, trivial⟩ rfl
      · rw [if_neg hc2] at H
        cases H
    · rw [if_neg hc1] at H
      refine AG.no rfl (decide_eq_false hc1) ?_
      refine AG.exit ?_
      refine AG.seq ?_
      refine AG.region HM ?_
      refine a_move (v := vI _) ?_
      refine a_move (v := vI _) ?_
      refine RA.nil nofun ?_
      refine AG.ret ?_
      simp only [Option.some.injEq, Prod.mk.injEq] at H
      obtain ⟨rfl, rfl⟩ := H
      exact RetP.mk (fun κ => cond (Nat.beq κ 0) 0 (κ)) ⟨rfl, trivial⟩ ⟨rfl, trivial⟩ rfl
/-! ### laws_markText: function 60 -/
def laws_markText.l0 : Nat → Int → ByteArray → Option (ByteArray)
  | 0, _, _ => none
  | k + 1, x0, x3 => if x0 > 0 then ((some ([(wrap64 (48 + (Int.tmod x0 10))) % 256] : List Int)).bind fun y3 => (if (bs y3).size + x3.size ≤ 9223372036854775807 then (laws_markText.l0 k (wrap64 (Int.tdiv x0 10)) ((bs y3) ++ x3)) else (none))) else (if (⟨#[109]⟩ : ByteArray).size + x3.size ≤ 9223372036854775807 then (some ((⟨#[109]⟩ : ByteArray) ++ x3)) else (none))
def laws_markText.f (k : Nat) (a0 : Int) : Option (ByteArray) := if a0 ≤ 0 then (some (⟨#[109, 48]⟩ : ByteArray)) else (laws_markText.l0 k a0 (⟨#[]⟩ : ByteArray))
set_option maxRecDepth 100000 in
theorem laws_markText.ok {k : Nat} {a0 : Int} {r : ByteArray} (H : laws_markText.f k a0 = some r) : OkF Try.prog 60 [vI a0] [] (.c (.d (.v (.string r)))) [] := by
  unfold laws_markText.f at H
  refine OkF.of (N := 20) (rs := [2]) (avs := [.c (.d (.v (.string r)))]) Try.func60 rfl rfl (fun _ _ => results_tmp rfl _ _ _) (by decide) rfl rfl rfl rfl (fun w0 S => ?_)
  refine AG.seq ?_
  refine AG.region HM ?_
  refine a_move (v := vS _) ?_
  refine RA.nil nofun ?_
  refine AG.seq ?_
  refine AG.seq ?_
  refine AG.region HM ?_
  refine a_move (v := vI _) ?_
  refine a_int (u := .bool (decide (a0 ≤ 0))) ?_
  refine RA.nil nofun ?_
  by_cases hc1 : a0 ≤ 0
  · rw [if_pos hc1] at H
    refine AG.yes rfl (decide_eq_true hc1) ?_
    refine AG.seq ?_
    refine AG.region HM ?_
    refine a_move (v := vS _) ?_
    refine RA.nil nofun ?_
    refine AG.ret ?_
    obtain rfl := Option.some.inj H
    exact RetP.mk id ⟨rfl, trivial⟩ trivial rfl
  · rw [if_neg hc1] at H
    refine AG.no rfl (decide_eq_false hc1) ?_
    refine AG.skip ?_
    refine AG.seq ?_
    refine AG.region HM ?_
    refine a_move (v := vS _) ?_
    refine RA.nil nofun ?_
    refine AG.seq ?_
    refine AG.block ?_
    refine AG.loop ?_
    obtain ⟨K0, hK0, gK0⟩ : ∃ K, k ≤ K ∧ K ≤ k := ⟨k, Nat.le_refl k, Nat.le_refl k⟩
    refine AGr.canon id (AGr.loopI (n := k) (fun k s => k ≤ K0 ∧ ∃ (x0 : Int) (x3 : ByteArray), laws_markText.l0 k x0 x3 = some r ∧ s = St.of [(0, vI x0), (3, vS x3)] []) ⟨hK0, _, _, H, rfl⟩ ?_ ?_) ⟨rfl, rfl, trivial⟩ trivial rfl
    · rintro _ ⟨_, _, _, H, _⟩
      cases H
    · clear H hK0
      rintro k ih0 _ ⟨hK0, x0, x3, H, rfl⟩
      unfold laws_markText.l0 at H
      refine AG.seq ?_
      refine AG.seq ?_
      refine AG.region HM ?_
      refine a_move (v := vI _) ?_
      refine a_int (u := .bool (decide (x0 > 0))) ?_
      refine RA.nil nofun ?_
      by_cases hc2 : x0 > 0
      · rw [if_pos hc2] at H
        refine AG.yes rfl (decide_eq_true hc2) ?_
        refine AG.skip ?_
        refine AG.block ?_
        refine AG.seq ?_
        refine AG.region HM ?_
        refine a_move (v := vI _) ?_
        refine a_rem (r := Int.tmod x0 10) ?_ (show ¬ (10 : Int) = 0 from by decide)
        refine a_int (u := .int .i64 (wrap64 (48 + (Int.tmod x0 10)))) ?_
        refine a_conv (j := (wrap64 (48 + (Int.tmod x0 10))) % 256) ?_ Try.underlying3 Try.underlying5
        obtain ⟨y3, ey3, H⟩ := bindO H
        have ey3 := Option.some.inj ey3
        refine a_lit (cs := [_]) (D := []) (css := y3.map c5) 200 ?_ N130 T5 (hcss := by rw [← ey3]; rfl)
        refine a_b2s y3 ?_ Try.underlying130 Try.underlying5 Try.underlying9
        refine a_move (v := vS _) ?_
        by_cases hc4 : (bs y3).size + x3.size ≤ 9223372036854775807
        · rw [if_pos hc4] at H
          refine a_bin (u := .string ((bs y3) ++ x3)) ?_ (hp := by exact hc4)
          refine a_move (v := vS _) ?_
          refine RA.nil nofun ?_
          refine AG.region HM ?_
          refine a_move (v := vI _) ?_
          refine a_quo (r := wrap64 (Int.tdiv x0 10)) ?_ (show ¬ (10 : Int) = 0 from by decide)
          refine a_move (v := vI _) ?_
          refine RA.nil nofun ?_
          exact AGr.canon id (ih0 _ (by omega) _ ⟨by omega, _, _, H, rfl⟩) ⟨rfl, rfl, trivial⟩ trivial rfl
        · rw [if_neg hc4] at H
          cases H
      · rw [if_neg hc2] at H
        refine AG.no rfl (decide_eq_false hc2) ?_
        refine AG.exit ?_
        refine AG.seq ?_
        refine AG.region HM ?_
        refine a_move (v := vS _) ?_
        by_cases hc5 : (⟨#[109]⟩ : ByteArray).size + x3.size ≤ 9223372036854775807
        · rw [if_pos hc5] at H
          refine a_bin (u := .string ((⟨#[109]⟩ : ByteArray) ++ x3)) ?_ (hp := by exact hc5)
          refine a_move (v := vS _) ?_
          refine RA.nil nofun ?_
          refine AG.ret ?_
          obtain rfl := Option.some.inj H
          exact RetP.mk id ⟨rfl, trivial⟩ trivial rfl
        · rw [if_neg hc5] at H
          cases H
/-! ### laws_markFaceS: function 46 -/
def laws_markFaceS.l0 : Nat → List S98 → Int → Int → Option (Int × (List S98))
  | 0, _, _, _ => none
  | k + 1, x0, x1, x5 => if x5 < (x0.length : Int) then ((laws_markText.f k x1).bind fun t2 => (if 0 ≤ x5 then ((some (x0.set (x5 : Int).toNat (⟨t2, (rd98 x0 x5).f1⟩ : S98) : List S98)).bind fun y5 => ((laws_markInt64S.f k ((rd98 y5 x5).f1) (wrap64 (x1 + 1))).bind fun bt6 => (laws_markFaceS.l0 k (y5.set (x5 : Int).toNat (⟨(rd98 y5 x5).f0, bt6.2⟩ : S98)) bt6.1 (wrap64 (x5 + 1))))) else (none))) else (some (x1, x0))
def laws_markFaceS.f (k : Nat) (l0 : List S98) (a1 : Int) : Option (Int × (List S98)) := laws_markFaceS.l0 k l0 a1 0
set_option maxRecDepth 100000 in
theorem laws_markFaceS.ok {k : Nat} {l0 : List S98} {a1 : Int} {r0 : Int} {r1 : List S98} (H : laws_markFaceS.f k l0 a1 = some (r0, r1)) : OkF Try.prog 46 [.c (.own 0 l0.length), vI a1] [(0, .row 101 (l0.map c98))] (.c (.d (.v (.int .i64 r0)))) [(0, .row 101 (r1.map c98))] := by
  unfold laws_markFaceS.f at H
  refine OkF.of (N := 28) (rs := [4]) (avs := [.c (.d (.v (.int .i64 r0)))]) Try.func46 rfl rfl (fun _ _ => results_tmp rfl _ _ _) (by decide) rfl rfl rfl rfl (fun w0 S => ?_)
  refine AG.seq ?_
  refine AG.region HM ?_
  refine a_move (v := vI _) ?_
  refine RA.nil nofun ?_
  refine AG.seq ?_
  refine AG.seq ?_
  refine AG.region HM ?_
  refine a_move (v := vI _) ?_
  refine RA.nil nofun ?_
  refine AG.block ?_
  refine AG.loop ?_
  obtain ⟨K0, hK0, gK0⟩ : ∃ K, k ≤ K ∧ K ≤ k := ⟨k, Nat.le_refl k, Nat.le_refl k⟩
  refine AGr.canon id (AGr.loopI (n := k) (fun k s => k ≤ K0 ∧ ∃ (x0 : List S98) (x1 : Int) (x5 : Int), laws_markFaceS.l0 k x0 x1 x5 = some (r0, r1) ∧ s = St.of [(0, .c (.own 0 x0.length)), (1, vI x1), (5, vI x5)] [(0, .row 101 (x0.map c98))]) ⟨hK0, _, _, _, H, rfl⟩ ?_ ?_) ⟨rfl, rfl, rfl, trivial⟩ ⟨rfl, trivial⟩ rfl
  · rintro _ ⟨_, _, _, _, H, _⟩
    cases H
  · clear H hK0
    rintro k ih0 _ ⟨hK0, x0, x1, x5, H, rfl⟩
    unfold laws_markFaceS.l0 at H
    refine AG.seq ?_
    refine AG.seq ?_
    refine AG.region HM ?_
    refine a_move (v := vI _) ?_
    refine a_move (v := .c (.own _ _)) ?_
    refine a_lenO ?_ Try.underlying47
    refine a_int (u := .bool (decide (x5 < (x0.length : Int)))) ?_
    refine RA.nil nofun ?_
    by_cases hc1 : x5 < (x0.length : Int)
    · rw [if_pos hc1] at H
      refine AG.yes rfl (decide_eq_true hc1) ?_
      refine AG.skip ?_
      refine AG.seq ?_
      refine AG.block ?_
      refine AG.seq ?_
      refine AG.region HM ?_
      refine a_move (v := .c (.own _ _)) ?_
      refine a_move (v := vI _) ?_
      refine a_move (v := vI _) ?_
      obtain ⟨t2, e3, H⟩ := bindO H
      refine a_call (v := vS t2) (nk := []) (L := []) ?_ rfl (laws_markText.ok e3) id (qd qn) trivial trivial trivial rfl
      by_cases hc4 : 0 ≤ x5
      · rw [if_pos hc4] at H
        refine a_ixO ?_ ⟨hc4, hc1⟩ T101 Try.underlying47
        refine a_faE (q := 0) ?_ D101_0
        obtain ⟨y5, ey5, H⟩ := bindO H
        have ey5 := Option.some.inj ey5
        refine a_stE (D := []) (css' := y5.map c98) ?_ (G98 hc4 hc1) T9 (hcss := by rw [← ey5]; exact set_map rfl)
        refine RA.nil nofun ?_
        refine AG.seq ?_
        refine AG.region HM ?_
        refine a_move (v := vI _) ?_
        refine a_int (u := .int .i64 (wrap64 (x1 + 1))) ?_
        refine a_move (v := vI _) ?_
        refine RA.nil nofun ?_
        refine AG.region HM ?_
        refine a_move (v := .c (.own _ _)) ?_
        refine a_move (v := vI _) ?_
        refine a_ixO ?_ ⟨hc4, hc1⟩ T101 Try.underlying47
        refine a_faE (q := 1) ?_ D101_1
        refine a_ldE (v := .c (.sub _ _ _ _)) ?_ (G98 (l := y5) hc4 (by rw [← ey5]; simpa using hc1)) T23
        refine a_move (v := vI _) ?_
        obtain ⟨⟨t6, t7⟩, e8, H⟩ := bindO H
        refine a_callU (κ := 0) (i := (x5 : Int).toNat) (j := 1) (μ := 0) (v := vI t6) (L := []) (css2 := (y5.set (x5 : Int).toNat (⟨(rd98 y5 x5).f0, t7⟩ : S98)).map c98) ?_ rfl (laws_markInt64S.ok e8) (uS (uD u0)) trivial (G98 (l := y5) hc4 (by rw [← ey5]; simpa using hc1)) rfl (by exact set_map2 rfl)
        refine a_move (v := vI _) ?_
        refine RA.nil nofun ?_
        refine AG.relen 0 (y5.set (x5 : Int).toNat (⟨(rd98 y5 x5).f0, t7⟩ : S98)).length ?_
        refine AG.region HM ?_
        refine a_move (v := vI _) ?_
        refine a_int (u := .int .i64 (wrap64 (x5 + 1))) ?_
        refine a_move (v := vI _) ?_
        refine RA.nil nofun ?_
        exact AGr.canon id (ih0 _ (by omega) _ ⟨by omega, _, _, _, H, rfl⟩) ⟨rfl, rfl, rfl, trivial⟩ ⟨rfl, trivial⟩ rfl
      · rw [if_neg hc4] at H
        cases H
    · rw [if_neg hc1] at H
      refine AG.no rfl (decide_eq_false hc1) ?_
      refine AG.exit ?_
      refine AG.seq ?_
      refine AG.region HM ?_
      refine a_move (v := vI _) ?_
      refine a_move (v := vI _) ?_
      refine RA.nil nofun ?_
      refine AG.ret ?_
      simp only [Option.some.injEq, Prod.mk.injEq] at H
      obtain ⟨rfl, rfl⟩ := H
      exact RetP.mk (fun κ => cond (Nat.beq κ 0) 0 (κ)) ⟨rfl, trivial⟩ ⟨rfl, trivial⟩ rfl
/-! ### laws_markDrawing: function 21 -/
def laws_markDrawing.f (k : Nat) (a0_0 : Int) (a0_1 : Int) (l0_2 : List S107) (l0_3 : List S98) (a1 : Int) : Option (Int × (List S107) × (List S98)) := (laws_markPointS.f k l0_2 a1).bind fun bt1 => ((laws_markFaceS.f k l0_3 bt1.1).bind fun bt4 => (some (bt4.1, bt1.2, bt4.2)))
set_option maxRecDepth 100000 in
theorem laws_markDrawing.ok {k : Nat} {a0_0 : Int} {a0_1 : Int} {l0_2 : List S107} {l0_3 : List S98} {a1 : Int} {r0 : Int} {r1 : List S107} {r2 : List S98} (H : laws_markDrawing.f k a0_0 a0_1 l0_2 l0_3 a1 = some (r0, r1, r2)) : OkF Try.prog 21 [.agg [.d (.v (.int .i64 a0_0)), .d (.v (.int .i64 a0_1)), .own 0 l0_2.length, .own 1 l0_3.length], vI a1] [(0, .row 108 (l0_2.map c107)), (1, .row 101 (l0_3.map c98))] (.c (.d (.v (.int .i64 r0)))) [(0, .row 108 (r1.map c107)), (1, .row 101 (r2.map c98))] := by
  unfold laws_markDrawing.f at H
  refine OkF.of (N := 14) (rs := [4]) (avs := [.c (.d (.v (.int .i64 r0)))]) Try.func21 rfl rfl (fun _ _ => results_tmp rfl _ _ _) (by decide) rfl rfl rfl rfl (fun w0 S => ?_)
  refine AG.seq ?_
  refine AG.region HM ?_
  refine a_box 200 ?_
  refine a_move (v := vI _) ?_
  refine RA.nil nofun ?_
  refine AG.seq ?_
  refine AG.region HM ?_
  refine a_faB (q := 2) ?_ D49_2
  refine a_ldB (v := .c (.own _ _)) ?_ T46
  refine a_move (v := vI _) ?_
  obtain ⟨⟨t1, t2⟩, e3, H⟩ := bindO H
  refine a_callM (v := vI t1) (nk := []) (L := []) (Mk := [(0, _)]) (ck := [(0, .row 108 (t2.map c107))]) ?_ rfl (laws_markPointS.ok e3) id id (mcO (mcD m0)) trivial ⟨rfl, trivial⟩ trivial ⟨rfl, trivial⟩ trivial ⟨rfl, trivial⟩ rfl rfl rfl
  refine a_move (v := vI _) ?_
  refine RA.nil nofun ?_
  refine AG.relen 0 t2.length ?_
  refine AG.seq ?_
  refine AG.region HM ?_
  refine a_faB (q := 3) ?_ D49_3
  refine a_ldB (v := .c (.own _ _)) ?_ T47
  refine a_move (v := vI _) ?_
  obtain ⟨⟨t4, t5⟩, e6, H⟩ := bindO H
  refine a_callM (v := vI t4) (nk := []) (L := []) (Mk := [(1, _)]) (ck := [(1, .row 101 (t5.map c98))]) ?_ rfl (laws_markFaceS.ok e6) (fun κ => cond (Nat.beq κ 0) 1 (κ)) (fun κ => cond (Nat.beq κ 1) 0 (κ)) (mcO (mcD m0)) trivial ⟨rfl, trivial⟩ trivial ⟨rfl, trivial⟩ trivial ⟨rfl, trivial⟩ rfl rfl rfl
  refine a_move (v := vI _) ?_
  refine RA.nil nofun ?_
  refine AG.relen 1 t5.length ?_
  refine AG.seq ?_
  refine AG.region HM ?_
  refine a_move (v := vI _) ?_
  refine a_move (v := vI _) ?_
  refine RA.nil nofun ?_
  refine AG.ret ?_
  simp only [Option.some.injEq, Prod.mk.injEq] at H
  obtain ⟨rfl, rfl, rfl⟩ := H
  exact RetP.mk (fun κ => cond (Nat.beq κ 0) 0 (cond (Nat.beq κ 1) 1 (κ))) ⟨rfl, trivial⟩ ⟨rfl, rfl, trivial⟩ rfl
/-! ### laws_heldInt64S: function 23 -/
def laws_heldInt64S.l0 : Nat → List Int → Int → Int → Option (Int)
  | 0, _, _, _ => none
  | k + 1, x0, x1, x5 => if x5 < (x0.length : Int) then (if 0 ≤ x5 then (if (rd2 x0 x5) = x1 then (laws_heldInt64S.l0 k x0 (wrap64 (x1 + 1)) (wrap64 (x5 + 1))) else (some (-1))) else (none)) else (some x1)
def laws_heldInt64S.f (k : Nat) (l0 : List Int) (a1 : Int) : Option (Int) := laws_heldInt64S.l0 k l0 a1 0
set_option maxRecDepth 100000 in
theorem laws_heldInt64S.ok {k : Nat} {l0 : List Int} {a1 : Int} {r : Int} (H : laws_heldInt64S.f k l0 a1 = some r) : OkF Try.prog 23 [vR 2 (l0.map c2), vI a1] [] (.c (.d (.v (.int .i64 r)))) [] := by
  unfold laws_heldInt64S.f at H
  refine OkF.of (N := 21) (rs := [4]) (avs := [.c (.d (.v (.int .i64 r)))]) Try.func23 rfl rfl (fun _ _ => results_tmp rfl _ _ _) (by decide) rfl rfl rfl rfl (fun w0 S => ?_)
  refine AG.seq ?_
  refine AG.region HM ?_
  refine a_move (v := vI _) ?_
  refine RA.nil nofun ?_
  refine AG.seq ?_
  refine AG.seq ?_
  refine AG.region HM ?_
  refine a_move (v := vI _) ?_
  refine RA.nil nofun ?_
  refine AG.block ?_
  refine AG.loop ?_
  obtain ⟨K0, hK0, gK0⟩ : ∃ K, k ≤ K ∧ K ≤ k := ⟨k, Nat.le_refl k, Nat.le_refl k⟩
  refine AGr.canon id (AGr.loopI (n := k) (fun k s => k ≤ K0 ∧ ∃ (x0 : List Int) (x1 : Int) (x5 : Int), laws_heldInt64S.l0 k x0 x1 x5 = some r ∧ s = St.of [(0, vR 2 (x0.map c2)), (1, vI x1), (5, vI x5)] []) ⟨hK0, _, _, _, H, rfl⟩ ?_ ?_) ⟨rfl, rfl, rfl, trivial⟩ trivial rfl
  · rintro _ ⟨_, _, _, _, H, _⟩
    cases H
  · clear H hK0
    rintro k ih0 _ ⟨hK0, x0, x1, x5, H, rfl⟩
    unfold laws_heldInt64S.l0 at H
    refine AG.seq ?_
    refine AG.seq ?_
    refine AG.region HM ?_
    refine a_move (v := vI _) ?_
    refine a_move (v := vR _ _) ?_
    refine a_lenR ?_ Try.underlying23
    refine a_int (u := .bool (decide (x5 < (x0.length : Int)))) ?_
    refine RA.nil nofun ?_
    by_cases hc1 : x5 < (x0.length : Int)
    · rw [if_pos hc1] at H
      refine AG.yes rfl (decide_eq_true hc1) ?_
      refine AG.skip ?_
      refine AG.seq ?_
      refine AG.block ?_
      refine AG.seq ?_
      refine AG.seq ?_
      refine AG.region HM ?_
      refine a_move (v := vR _ _) ?_
      refine a_move (v := vI _) ?_
      by_cases hc2 : 0 ≤ x5
      · rw [if_pos hc2] at H
        refine a_ixR (el := c2 (rd2 x0 x5)) ?_ ⟨hc2, hc1⟩ T2 Try.underlying23 (hel := R2 hc2 hc1)
        refine a_ldR (v := vI _) ?_ T2
        refine a_move (v := vI _) ?_
        refine a_int (u := .bool (((rd2 x0 x5) != x1))) ?_
        refine RA.nil nofun ?_
        by_cases hc3 : (rd2 x0 x5) = x1
        · rw [if_pos hc3] at H
          refine AG.no rfl (bne_eq_false_iff_eq.2 hc3) ?_
          refine AG.skip ?_
          refine AG.region HM ?_
          refine a_move (v := vI _) ?_
          refine a_int (u := .int .i64 (wrap64 (x1 + 1))) ?_
          refine a_move (v := vI _) ?_
          refine RA.nil nofun ?_
          refine AG.region HM ?_
          refine a_move (v := vI _) ?_
          refine a_int (u := .int .i64 (wrap64 (x5 + 1))) ?_
          refine a_move (v := vI _) ?_
          refine RA.nil nofun ?_
          exact AGr.canon id (ih0 _ (by omega) _ ⟨by omega, _, _, _, H, rfl⟩) ⟨rfl, rfl, rfl, trivial⟩ trivial rfl
        · rw [if_neg hc3] at H
          refine AG.yes rfl (bne_iff_ne.2 hc3) ?_
          refine AG.seq ?_
          refine AG.region HM ?_
          refine a_move (v := vI _) ?_
          refine RA.nil nofun ?_
          refine AG.ret ?_
          obtain rfl := Option.some.inj H
          exact RetP.mk id ⟨rfl, trivial⟩ trivial rfl
      · rw [if_neg hc2] at H
        cases H
    · rw [if_neg hc1] at H
      refine AG.no rfl (decide_eq_false hc1) ?_
      refine AG.exit ?_
      refine AG.seq ?_
      refine AG.region HM ?_
      refine a_move (v := vI _) ?_
      refine a_move (v := vI _) ?_
      refine RA.nil nofun ?_
      refine AG.ret ?_
      obtain rfl := Option.some.inj H
      exact RetP.mk id ⟨rfl, trivial⟩ trivial rfl
/-! ### laws_FnExactFaceAreas: function 4 -/
mutual
def laws_FnExactFaceAreas.j0 : Nat → Int → Int → List S107 → List S98 → List Int → Int → Int → Int → List S107 → List S98 → List Int → Int → Bool → Option (Bool)
  | 0, _, _, _, _, _, _, _, _, _, _, _, _, _ => none
  | k + 1, y210_0, y210_1, y210_2, y210_3, x4, x5, y212_0, y212_1, y212_2, y212_3, x7, x8, x40 => if x40 = true then (some false) else ((laws_toDrawing.f k y210_0 y210_1 y210_2 y210_3).bind fun bt24 => ((laws_eqDrawing.f k y212_0 y212_1 y212_2 y212_3 bt24.1 bt24.2.1 bt24.2.2.1 bt24.2.2.2).bind fun t29 => (if t29 = true then ((laws_markDrawing.f k y212_0 y212_1 y212_2 y212_3 1).bind fun bt32 => (if bt32.1 < 0 then (laws_FnExactFaceAreas.j1 k y210_0 y210_1 y210_2 y210_3 x4 x5 x7 true) else ((laws_eqInt64S.f k x7 x4).bind fun t37 => (if t37 = true then (laws_FnExactFaceAreas.j1 k y210_0 y210_1 y210_2 y210_3 x4 x5 x7 (x8 != x5)) else (laws_FnExactFaceAreas.j1 k y210_0 y210_1 y210_2 y210_3 x4 x5 x7 true))))) else (some false))))
def laws_FnExactFaceAreas.j1 : Nat → Int → Int → List S107 → List S98 → List Int → Int → List Int → Bool → Option (Bool)
  | 0, _, _, _, _, _, _, _, _ => none
  | k + 1, y221_0, y221_1, y221_2, y221_3, x4, x5, x7, x61 => if x61 = true then (some false) else ((laws_markInt64S.f k x7 1).bind fun bt41 => ((laws_heldInt64S.f k bt41.2 1).bind fun t44 => (if t44 < 0 then (some false) else (if t44 = bt41.1 then ((laws_toDrawing.f k y221_0 y221_1 y221_2 y221_3).bind fun bt48 => ((impl_FaceAreas.f k bt48.1 bt48.2.1 bt48.2.2.1 bt48.2.2.2).bind fun bt53 => ((laws_eqInt64S.f k bt53.1 x4).bind fun t56 => (if t56 = true then (laws_FnExactFaceAreas.j2 k bt41.2 bt41.1 (bt53.2 != x5)) else (laws_FnExactFaceAreas.j2 k bt41.2 bt41.1 true))))) else (some false)))))
def laws_FnExactFaceAreas.j2 : Nat → List Int → Int → Bool → Option (Bool)
  | 0, _, _, _ => none
  | k + 1, x7, x10, x87 => if x87 = true then (some false) else ((laws_heldInt64S.f k x7 1).bind fun t60 => (if t60 < 0 then (some false) else (if t60 = x10 then (some true) else (some false))))
end
def laws_FnExactFaceAreas.f (k : Nat) (a0_0 : Int) (a0_1 : Int) (l0_2 : List S107) (l0_3 : List S98) : Option (Bool) := (laws_szDrawing.f k a0_0 a0_1 l0_2 l0_3 1048576).bind fun t1 => (if t1 < 0 then (some true) else ((laws_toDrawing.f k a0_0 a0_1 l0_2 l0_3).bind fun bt4 => ((spec_FaceAreas.f k bt4.1 bt4.2.1 bt4.2.2.1 bt4.2.2.2).bind fun bt9 => ((laws_toDrawing.f k a0_0 a0_1 l0_2 l0_3).bind fun bt12 => ((impl_FaceAreas.f k bt12.1 bt12.2.1 bt12.2.2.1 bt12.2.2.2).bind fun bt17 => ((laws_eqInt64S.f k bt17.1 bt9.1).bind fun t20 => (if t20 = true then (laws_FnExactFaceAreas.j0 k a0_0 a0_1 l0_2 l0_3 bt9.1 bt9.2 bt12.1 bt12.2.1 bt12.2.2.1 bt12.2.2.2 bt17.1 bt17.2 (bt17.2 != bt9.2)) else (laws_FnExactFaceAreas.j0 k a0_0 a0_1 l0_2 l0_3 bt9.1 bt9.2 bt12.1 bt12.2.1 bt12.2.2.1 bt12.2.2.2 bt17.1 bt17.2 true))))))))
set_option maxRecDepth 100000 in
theorem laws_FnExactFaceAreas.ok {k : Nat} {a0_0 : Int} {a0_1 : Int} {l0_2 : List S107} {l0_3 : List S98} {r : Bool} (H : laws_FnExactFaceAreas.f k a0_0 a0_1 l0_2 l0_3 = some r) : OkF Try.prog 4 [.agg [.d (.v (.int .i64 a0_0)), .d (.v (.int .i64 a0_1)), .d (.row 110 (l0_2.map c107)), .d (.row 99 (l0_3.map c98))]] [] (.c (.d (.v (.bool r)))) [] := by
  unfold laws_FnExactFaceAreas.f at H
  refine OkF.of (N := 96) (rs := [2]) (avs := [.c (.d (.v (.bool r)))]) Try.func4 rfl rfl (fun _ _ => results_tmp rfl _ _ _) (by decide) rfl rfl rfl rfl (fun w0 S => ?_)
  refine AG.seq ?_
  refine AG.region HM ?_
  refine a_box 200 ?_
  refine a_move (v := vB _) ?_
  refine RA.nil nofun ?_
  refine AG.seq ?_
  refine AG.region HM ?_
  refine a_move (v := vI _) ?_
  refine RA.nil nofun ?_
  refine AG.seq ?_
  refine AG.region HM ?_
  refine a_ldB (v := .agg [_, _, _, _]) ?_ T42
  refine a_move (v := vI _) ?_
  obtain ⟨t1, e2, H⟩ := bindO H
  refine a_call (v := vI t1) (nk := []) (L := []) ?_ rfl (laws_szDrawing.ok e2) id (qg (qd qn)) trivial trivial trivial rfl
  refine a_move (v := vI _) ?_
  refine RA.nil nofun ?_
  refine AG.seq ?_
  refine AG.seq ?_
  refine AG.region HM ?_
  refine a_move (v := vI _) ?_
  refine a_int (u := .bool (decide (t1 < 0))) ?_
  refine RA.nil nofun ?_
  by_cases hc3 : t1 < 0
  · rw [if_pos hc3] at H
    refine AG.yes rfl (decide_eq_true hc3) ?_
    refine AG.seq ?_
    refine AG.region HM ?_
    refine a_move (v := vB _) ?_
    refine RA.nil nofun ?_
    refine AG.ret ?_
    obtain rfl := Option.some.inj H
    exact RetP.mk id ⟨rfl, trivial⟩ trivial rfl
  · rw [if_neg hc3] at H
    refine AG.no rfl (decide_eq_false hc3) ?_
    refine AG.skip ?_
    refine AG.seq ?_
    refine AG.region HM ?_
    refine a_ldB (v := .agg [_, _, _, _]) ?_ T42
    obtain ⟨⟨t4, t5, t6, t7⟩, e8, H⟩ := bindO H
    refine a_call (v := .agg [.d (.v (.int .i64 t4)), .d (.v (.int .i64 t5)), .own 202 t6.length, .own 203 t7.length]) (nk := [(202, .row 108 (t6.map c107)), (203, .row 101 (t7.map c98))]) (L := []) ?_ rfl (laws_toDrawing.ok e8) (fun κ => cond (Nat.beq κ 202) 100 (cond (Nat.beq κ 203) 101 (κ))) (qg qn) trivial ⟨rfl, rfl, trivial⟩ ⟨rfl, rfl, trivial⟩ rfl
    obtain ⟨⟨t9, t10⟩, e11, H⟩ := bindO H
    refine a_call (v := .tup [.c (.own 204 t9.length), .c (.d (.v (.int .i64 t10)))]) (nk := [(204, .row 2 (t9.map c2))]) (L := [(202, _), (203, _)]) ?_ rfl (spec_FaceAreas.ok e11) (fun κ => cond (Nat.beq κ 204) 100 (κ)) (qm (eD (eD (eC rO (eC rO eN)))) qn) ⟨rfl, rfl, trivial⟩ ⟨rfl, trivial⟩ ⟨rfl, trivial⟩ rfl
    refine a_move (v := .tup [_, _]) ?_
    refine a_ext (v := .c (.own _ _)) ?_
    refine a_ext (v := vI _) ?_
    refine a_move (v := .c (.own _ _)) ?_
    refine a_move (v := vI _) ?_
    refine RA.nil nofun ?_
    refine AG.seq ?_
    refine AG.region HM ?_
    refine a_ldB (v := .agg [_, _, _, _]) ?_ T42
    obtain ⟨⟨t12, t13, t14, t15⟩, e16, H⟩ := bindO H
    refine a_call (v := .agg [.d (.v (.int .i64 t12)), .d (.v (.int .i64 t13)), .own 205 t14.length, .own 206 t15.length]) (nk := [(205, .row 108 (t14.map c107)), (206, .row 101 (t15.map c98))]) (L := []) ?_ rfl (laws_toDrawing.ok e16) (fun κ => cond (Nat.beq κ 205) 100 (cond (Nat.beq κ 206) 101 (κ))) (qg qn) trivial ⟨rfl, rfl, trivial⟩ ⟨rfl, rfl, trivial⟩ rfl
    refine a_alloc (cs := [_, _, _, _]) 207 ?_ T49
    refine a_stB (cs' := [_, _, _, _]) ?_ T49
    refine RA.nil nofun ?_
    refine AG.seq ?_
    refine AG.region HM ?_
    refine a_ldB (v := .agg [_, _, _, _]) ?_ T49
    obtain ⟨⟨t17, t18⟩, e19, H⟩ := bindO H
    refine a_call (v := .tup [.c (.own 208 t17.length), .c (.d (.v (.int .i64 t18)))]) (nk := [(208, .row 2 (t17.map c2))]) (L := [(205, _), (206, _)]) ?_ rfl (impl_FaceAreas.ok e19) (fun κ => cond (Nat.beq κ 208) 100 (κ)) (qm (eD (eD (eC rO (eC rO eN)))) qn) ⟨rfl, rfl, trivial⟩ ⟨rfl, trivial⟩ ⟨rfl, trivial⟩ rfl
    refine a_move (v := .tup [_, _]) ?_
    refine a_ext (v := .c (.own _ _)) ?_
    refine a_ext (v := vI _) ?_
    refine a_move (v := .c (.own _ _)) ?_
    refine a_move (v := vI _) ?_
    refine RA.nil nofun ?_
    refine AG.seq ?_
    refine AG.seq ?_
    refine AG.join (fun s => ∃ q, q ≤ k ∧ ∃ (y210_0 : Int) (y210_1 : Int) (y210_2 : List S107) (y210_3 : List S98) (x4 : List Int) (x5 : Int) (y212_0 : Int) (y212_1 : Int) (y212_2 : List S107) (y212_3 : List S98) (x7 : List Int) (x8 : Int) (x40 : Bool), laws_FnExactFaceAreas.j0 q y210_0 y210_1 y210_2 y210_3 x4 x5 y212_0 y212_1 y212_2 y212_3 x7 x8 x40 = some r ∧ s = St.of [(1, .c (.ptr 210 0)), (4, .c (.own 211 x4.length)), (5, vI x5), (6, .c (.ptr 212 0)), (7, .c (.own 215 x7.length)), (8, vI x8), (40, vB x40)] [(210, .box 42 [.d (.v (.int .i64 y210_0)), .d (.v (.int .i64 y210_1)), .d (.row 110 (y210_2.map c107)), .d (.row 99 (y210_3.map c98))]), (211, .row 2 (x4.map c2)), (212, .box 49 [.d (.v (.int .i64 y212_0)), .d (.v (.int .i64 y212_1)), .own 213 y212_2.length, .own 214 y212_3.length]), (213, .row 108 (y212_2.map c107)), (214, .row 101 (y212_3.map c98)), (215, .row 2 (x7.map c2))]) ?_ ?_
    · skip
      refine AG.region HM ?_
      refine a_move (v := .c (.own _ _)) ?_
      refine a_move (v := .c (.own _ _)) ?_
      obtain ⟨t20, e21, H⟩ := bindO H
      refine a_call (v := vB t20) (nk := []) (L := [(208, _), (204, _)]) ?_ rfl (laws_eqInt64S.ok e21) id (qc rO (qc rO qn)) ⟨rfl, rfl, trivial⟩ trivial trivial rfl
      refine a_un (u := .bool (!t20)) ?_
      refine a_move (v := vB _) ?_
      by_cases hc22 : t20 = true
      · rw [if_pos hc22] at H
        refine a_move (v := vI _) ?_ (hg := Gs.yes rfl rfl rfl (congrArg Bool.not hc22))
        refine a_move (v := vI _) ?_ (hg := Gs.yes rfl rfl rfl (congrArg Bool.not hc22))
        refine a_int (u := .bool ((t18 != t10))) ?_ (hg := Gs.yes rfl rfl rfl (congrArg Bool.not hc22))
        refine a_pick (b := false) (v := vB _) ?_ (congrArg Bool.not hc22)
        refine RA.nil nofun ?_
        exact Can.mk (fun κ => cond (Nat.beq κ 210) 200 (cond (Nat.beq κ 211) 204 (cond (Nat.beq κ 212) 207 (cond (Nat.beq κ 213) 205 (cond (Nat.beq κ 214) 206 (cond (Nat.beq κ 215) 208 (κ))))))) ⟨_, (by omega), _, _, _, _, _, _, _, _, _, _, _, _, _, H, rfl⟩ ⟨rfl, rfl, rfl, rfl, rfl, rfl, rfl, trivial⟩ ⟨rfl, rfl, rfl, rfl, rfl, rfl, trivial⟩ rfl
      · rw [if_neg hc22] at H
        refine RA.skip rfl rfl rfl rfl rfl (congrArg Bool.not (Bool.eq_false_iff.2 hc22)) (by decide) ?_
        refine RA.skip rfl rfl rfl rfl rfl (congrArg Bool.not (Bool.eq_false_iff.2 hc22)) (by decide) ?_
        refine RA.skip rfl rfl rfl rfl rfl (congrArg Bool.not (Bool.eq_false_iff.2 hc22)) (by decide) ?_
        refine a_pick (b := true) (v := vB _) ?_ (congrArg Bool.not (Bool.eq_false_iff.2 hc22))
        refine RA.nil nofun ?_
        exact Can.mk (fun κ => cond (Nat.beq κ 210) 200 (cond (Nat.beq κ 211) 204 (cond (Nat.beq κ 212) 207 (cond (Nat.beq κ 213) 205 (cond (Nat.beq κ 214) 206 (cond (Nat.beq κ 215) 208 (κ))))))) ⟨_, (by omega), _, _, _, _, _, _, _, _, _, _, _, _, _, H, rfl⟩ ⟨rfl, rfl, rfl, rfl, rfl, rfl, rfl, trivial⟩ ⟨rfl, rfl, rfl, rfl, rfl, rfl, trivial⟩ rfl
    · clear H
      rintro _ ⟨k, hj0, y210_0, y210_1, y210_2, y210_3, x4, x5, y212_0, y212_1, y212_2, y212_3, x7, x8, x40, H, rfl⟩
      cases k with
      | zero => cases H
      | succ k =>
        rw [laws_FnExactFaceAreas.j0] at H
        by_cases hc23 : x40 = true
        · rw [if_pos hc23] at H
          refine AG.yes rfl hc23 ?_
          refine AG.seq ?_
          refine AG.region HM ?_
          refine a_move (v := vB _) ?_
          refine RA.nil nofun ?_
          refine AG.ret ?_
          obtain rfl := Option.some.inj H
          exact RetP.mk id ⟨rfl, trivial⟩ trivial rfl
        · rw [if_neg hc23] at H
          refine AG.no rfl (Bool.eq_false_iff.2 hc23) ?_
          refine AG.skip ?_
          refine AG.seq ?_
          refine AG.seq ?_
          refine AG.region HM ?_
          refine a_ldB (v := .agg [_, _, _, _]) ?_ T49
          refine a_ldB (v := .agg [_, _, _, _]) ?_ T42
          obtain ⟨⟨t24, t25, t26, t27⟩, e28, H⟩ := bindO H
          refine a_call (v := .agg [.d (.v (.int .i64 t24)), .d (.v (.int .i64 t25)), .own 216 t26.length, .own 217 t27.length]) (nk := [(216, .row 108 (t26.map c107)), (217, .row 101 (t27.map c98))]) (L := []) ?_ rfl (laws_toDrawing.ok e28) (fun κ => cond (Nat.beq κ 216) 100 (cond (Nat.beq κ 217) 101 (κ))) (qg qn) trivial ⟨rfl, rfl, trivial⟩ ⟨rfl, rfl, trivial⟩ rfl
          obtain ⟨t29, e30, H⟩ := bindO H
          refine a_call (v := vB t29) (nk := []) (L := [(213, _), (214, _), (216, _), (217, _)]) ?_ rfl (laws_eqDrawing.ok e30) id (qm (eD (eD (eC rO (eC rO eN)))) (qm (eD (eD (eC rO (eC rO eN)))) qn)) ⟨rfl, rfl, rfl, rfl, trivial⟩ trivial trivial rfl
          refine a_un (u := .bool (!t29)) ?_
          refine RA.nil (fun _ => by kernel_rfl) ?_
          by_cases hc31 : t29 = true
          · rw [if_pos hc31] at H
            refine AG.no rfl (congrArg Bool.not hc31) ?_
            refine AG.skip ?_
            refine AG.seq ?_
            refine AG.region HM ?_
            refine a_move (v := vI _) ?_
            refine RA.nil nofun ?_
            refine AG.seq ?_
            refine AG.region HM ?_
            refine a_ldB (v := .agg [_, _, _, _]) ?_ T49
            refine a_move (v := vI _) ?_
            obtain ⟨⟨t32, t33, t34⟩, e35, H⟩ := bindO H
            refine a_callM (v := vI t32) (nk := []) (L := []) (Mk := [(213, _), (214, _)]) (ck := [(213, .row 108 (t33.map c107)), (214, .row 101 (t34.map c98))]) ?_ rfl (laws_markDrawing.ok e35) (fun κ => cond (Nat.beq κ 0) 213 (cond (Nat.beq κ 1) 214 (κ))) (fun κ => cond (Nat.beq κ 213) 0 (cond (Nat.beq κ 214) 1 (κ))) (mcA (kD (kD (kO (kO k0)))) (mcD m0)) trivial ⟨rfl, rfl, trivial⟩ trivial ⟨rfl, rfl, trivial⟩ trivial ⟨rfl, rfl, trivial⟩ rfl rfl rfl
            refine a_move (v := vI _) ?_
            refine RA.nil nofun ?_
            refine AG.relen 213 t33.length ?_
            refine AG.relen 214 t34.length ?_
            refine AG.seq ?_
            refine AG.seq ?_
            refine AG.join (fun s => ∃ q, q ≤ k ∧ ∃ (y221_0 : Int) (y221_1 : Int) (y221_2 : List S107) (y221_3 : List S98) (x4 : List Int) (x5 : Int) (x7 : List Int) (x61 : Bool), laws_FnExactFaceAreas.j1 q y221_0 y221_1 y221_2 y221_3 x4 x5 x7 x61 = some r ∧ s = St.of [(1, .c (.ptr 221 0)), (4, .c (.own 222 x4.length)), (5, vI x5), (7, .c (.own 223 x7.length)), (61, vB x61)] [(221, .box 42 [.d (.v (.int .i64 y221_0)), .d (.v (.int .i64 y221_1)), .d (.row 110 (y221_2.map c107)), .d (.row 99 (y221_3.map c98))]), (222, .row 2 (x4.map c2)), (223, .row 2 (x7.map c2))]) ?_ ?_
            · skip
              refine AG.region HM ?_
              refine a_move (v := vI _) ?_
              refine a_int (u := .bool (decide (t32 < 0))) ?_
              refine a_move (v := vB _) ?_
              by_cases hc36 : t32 < 0
              · rw [if_pos hc36] at H
                refine RA.skip rfl rfl rfl rfl rfl (decide_eq_true hc36) (by decide) ?_
                refine RA.skip rfl rfl rfl rfl rfl (decide_eq_true hc36) (by decide) ?_
                refine RA.skip rfl rfl rfl rfl rfl (decide_eq_true hc36) (by decide) ?_
                refine RA.skip rfl rfl rfl rfl rfl (decide_eq_true hc36) (by decide) ?_
                refine a_pick (b := true) (v := vB _) ?_ (decide_eq_true hc36)
                refine a_move (v := vB _) ?_
                refine RA.skip rfl rfl rfl rfl rfl rfl (by decide) ?_
                refine RA.skip rfl rfl rfl rfl rfl rfl (by decide) ?_
                refine RA.skip rfl rfl rfl rfl rfl rfl (by decide) ?_
                refine a_pick (b := true) (v := vB _) ?_ rfl
                refine RA.nil nofun ?_
                exact Can.mk (fun κ => cond (Nat.beq κ 221) 210 (cond (Nat.beq κ 222) 211 (cond (Nat.beq κ 223) 215 (κ)))) ⟨_, (by omega), _, _, _, _, _, _, _, _, H, rfl⟩ ⟨rfl, rfl, rfl, rfl, rfl, trivial⟩ ⟨rfl, rfl, rfl, trivial⟩ rfl
              · rw [if_neg hc36] at H
                refine a_move (v := .c (.own _ _)) ?_ (hg := Gs.yes rfl rfl rfl (decide_eq_false hc36))
                refine a_move (v := .c (.own _ _)) ?_ (hg := Gs.yes rfl rfl rfl (decide_eq_false hc36))
                obtain ⟨t37, e38, H⟩ := bindO H
                refine a_call (v := vB t37) (nk := []) (L := [(215, _), (211, _)]) ?_ rfl (laws_eqInt64S.ok e38) id (qc rO (qc rO qn)) ⟨rfl, rfl, trivial⟩ trivial trivial rfl (hg := Gs.yes rfl rfl rfl (decide_eq_false hc36))
                refine a_un (u := .bool (!t37)) ?_ (hg := Gs.yes rfl rfl rfl (decide_eq_false hc36))
                refine a_pick (b := false) (v := vB _) ?_ (decide_eq_false hc36)
                refine a_move (v := vB _) ?_
                by_cases hc39 : t37 = true
                · rw [if_pos hc39] at H
                  refine a_move (v := vI _) ?_ (hg := Gs.yes rfl rfl rfl (congrArg Bool.not hc39))
                  refine a_move (v := vI _) ?_ (hg := Gs.yes rfl rfl rfl (congrArg Bool.not hc39))
                  refine a_int (u := .bool ((x8 != x5))) ?_ (hg := Gs.yes rfl rfl rfl (congrArg Bool.not hc39))
                  refine a_pick (b := false) (v := vB _) ?_ (congrArg Bool.not hc39)
                  refine RA.nil nofun ?_
                  exact Can.mk (fun κ => cond (Nat.beq κ 221) 210 (cond (Nat.beq κ 222) 211 (cond (Nat.beq κ 223) 215 (κ)))) ⟨_, (by omega), _, _, _, _, _, _, _, _, H, rfl⟩ ⟨rfl, rfl, rfl, rfl, rfl, trivial⟩ ⟨rfl, rfl, rfl, trivial⟩ rfl
                · rw [if_neg hc39] at H
                  refine RA.skip rfl rfl rfl rfl rfl (congrArg Bool.not (Bool.eq_false_iff.2 hc39)) (by decide) ?_
                  refine RA.skip rfl rfl rfl rfl rfl (congrArg Bool.not (Bool.eq_false_iff.2 hc39)) (by decide) ?_
                  refine RA.skip rfl rfl rfl rfl rfl (congrArg Bool.not (Bool.eq_false_iff.2 hc39)) (by decide) ?_
                  refine a_pick (b := true) (v := vB _) ?_ (congrArg Bool.not (Bool.eq_false_iff.2 hc39))
                  refine RA.nil nofun ?_
                  exact Can.mk (fun κ => cond (Nat.beq κ 221) 210 (cond (Nat.beq κ 222) 211 (cond (Nat.beq κ 223) 215 (κ)))) ⟨_, (by omega), _, _, _, _, _, _, _, _, H, rfl⟩ ⟨rfl, rfl, rfl, rfl, rfl, trivial⟩ ⟨rfl, rfl, rfl, trivial⟩ rfl
            · clear H
              rintro _ ⟨k, hj1, y221_0, y221_1, y221_2, y221_3, x4, x5, x7, x61, H, rfl⟩
              cases k with
              | zero => cases H
              | succ k =>
                rw [laws_FnExactFaceAreas.j1] at H
                by_cases hc40 : x61 = true
                · rw [if_pos hc40] at H
                  refine AG.yes rfl hc40 ?_
                  refine AG.seq ?_
                  refine AG.region HM ?_
                  refine a_move (v := vB _) ?_
                  refine RA.nil nofun ?_
                  refine AG.ret ?_
                  obtain rfl := Option.some.inj H
                  exact RetP.mk id ⟨rfl, trivial⟩ trivial rfl
                · rw [if_neg hc40] at H
                  refine AG.no rfl (Bool.eq_false_iff.2 hc40) ?_
                  refine AG.skip ?_
                  refine AG.seq ?_
                  refine AG.region HM ?_
                  refine a_move (v := vI _) ?_
                  refine RA.nil nofun ?_
                  refine AG.seq ?_
                  refine AG.region HM ?_
                  refine a_move (v := .c (.own _ _)) ?_
                  refine a_move (v := vI _) ?_
                  obtain ⟨⟨t41, t42⟩, e43, H⟩ := bindO H
                  refine a_callM (v := vI t41) (nk := []) (L := []) (Mk := [(223, _)]) (ck := [(223, .row 2 (t42.map c2))]) ?_ rfl (laws_markInt64S.ok e43) (fun κ => cond (Nat.beq κ 0) 223 (κ)) (fun κ => cond (Nat.beq κ 223) 0 (κ)) (mcO (mcD m0)) trivial ⟨rfl, trivial⟩ trivial ⟨rfl, trivial⟩ trivial ⟨rfl, trivial⟩ rfl rfl rfl
                  refine a_move (v := vI _) ?_
                  refine RA.nil nofun ?_
                  refine AG.relen 223 t42.length ?_
                  refine AG.seq ?_
                  refine AG.region HM ?_
                  refine a_move (v := vI _) ?_
                  refine RA.nil nofun ?_
                  refine AG.seq ?_
                  refine AG.region HM ?_
                  refine a_move (v := .c (.own _ _)) ?_
                  refine a_move (v := vI _) ?_
                  obtain ⟨t44, e45, H⟩ := bindO H
                  refine a_call (v := vI t44) (nk := []) (L := [(223, _)]) ?_ rfl (laws_heldInt64S.ok e45) id (qc rO (qd qn)) ⟨rfl, trivial⟩ trivial trivial rfl
                  refine a_move (v := vI _) ?_
                  refine RA.nil nofun ?_
                  refine AG.seq ?_
                  refine AG.seq ?_
                  refine AG.region HM ?_
                  refine a_move (v := vI _) ?_
                  refine a_int (u := .bool (decide (t44 < 0))) ?_
                  refine RA.nil nofun ?_
                  by_cases hc46 : t44 < 0
                  · rw [if_pos hc46] at H
                    refine AG.yes rfl (decide_eq_true hc46) ?_
                    refine AG.seq ?_
                    refine AG.region HM ?_
                    refine a_move (v := vB _) ?_
                    refine RA.nil nofun ?_
                    refine AG.ret ?_
                    obtain rfl := Option.some.inj H
                    exact RetP.mk id ⟨rfl, trivial⟩ trivial rfl
                  · rw [if_neg hc46] at H
                    refine AG.no rfl (decide_eq_false hc46) ?_
                    refine AG.skip ?_
                    refine AG.seq ?_
                    refine AG.seq ?_
                    refine AG.region HM ?_
                    refine a_move (v := vI _) ?_
                    refine a_move (v := vI _) ?_
                    refine a_int (u := .bool ((t44 != t41))) ?_
                    refine RA.nil nofun ?_
                    by_cases hc47 : t44 = t41
                    · rw [if_pos hc47] at H
                      refine AG.no rfl (bne_eq_false_iff_eq.2 hc47) ?_
                      refine AG.skip ?_
                      refine AG.seq ?_
                      refine AG.region HM ?_
                      refine a_ldB (v := .agg [_, _, _, _]) ?_ T42
                      obtain ⟨⟨t48, t49, t50, t51⟩, e52, H⟩ := bindO H
                      refine a_call (v := .agg [.d (.v (.int .i64 t48)), .d (.v (.int .i64 t49)), .own 226 t50.length, .own 227 t51.length]) (nk := [(226, .row 108 (t50.map c107)), (227, .row 101 (t51.map c98))]) (L := []) ?_ rfl (laws_toDrawing.ok e52) (fun κ => cond (Nat.beq κ 226) 100 (cond (Nat.beq κ 227) 101 (κ))) (qg qn) trivial ⟨rfl, rfl, trivial⟩ ⟨rfl, rfl, trivial⟩ rfl
                      obtain ⟨⟨t53, t54⟩, e55, H⟩ := bindO H
                      refine a_call (v := .tup [.c (.own 228 t53.length), .c (.d (.v (.int .i64 t54)))]) (nk := [(228, .row 2 (t53.map c2))]) (L := [(226, _), (227, _)]) ?_ rfl (impl_FaceAreas.ok e55) (fun κ => cond (Nat.beq κ 228) 100 (κ)) (qm (eD (eD (eC rO (eC rO eN)))) qn) ⟨rfl, rfl, trivial⟩ ⟨rfl, trivial⟩ ⟨rfl, trivial⟩ rfl
                      refine a_move (v := .tup [_, _]) ?_
                      refine a_ext (v := .c (.own _ _)) ?_
                      refine a_ext (v := vI _) ?_
                      refine a_move (v := .c (.own _ _)) ?_
                      refine a_move (v := vI _) ?_
                      refine RA.nil nofun ?_
                      refine AG.seq ?_
                      refine AG.seq ?_
                      refine AG.join (fun s => ∃ q, q ≤ k ∧ ∃ (x7 : List Int) (x10 : Int) (x87 : Bool), laws_FnExactFaceAreas.j2 q x7 x10 x87 = some r ∧ s = St.of [(7, .c (.own 230 x7.length)), (10, vI x10), (87, vB x87)] [(230, .row 2 (x7.map c2))]) ?_ ?_
                      · skip
                        refine AG.region HM ?_
                        refine a_move (v := .c (.own _ _)) ?_
                        refine a_move (v := .c (.own _ _)) ?_
                        obtain ⟨t56, e57, H⟩ := bindO H
                        refine a_call (v := vB t56) (nk := []) (L := [(228, _), (222, _)]) ?_ rfl (laws_eqInt64S.ok e57) id (qc rO (qc rO qn)) ⟨rfl, rfl, trivial⟩ trivial trivial rfl
                        refine a_un (u := .bool (!t56)) ?_
                        refine a_move (v := vB _) ?_
                        by_cases hc58 : t56 = true
                        · rw [if_pos hc58] at H
                          refine a_move (v := vI _) ?_ (hg := Gs.yes rfl rfl rfl (congrArg Bool.not hc58))
                          refine a_move (v := vI _) ?_ (hg := Gs.yes rfl rfl rfl (congrArg Bool.not hc58))
                          refine a_int (u := .bool ((t54 != x5))) ?_ (hg := Gs.yes rfl rfl rfl (congrArg Bool.not hc58))
                          refine a_pick (b := false) (v := vB _) ?_ (congrArg Bool.not hc58)
                          refine RA.nil nofun ?_
                          exact Can.mk (fun κ => cond (Nat.beq κ 230) 223 (κ)) ⟨_, (by omega), _, _, _, H, rfl⟩ ⟨rfl, rfl, rfl, trivial⟩ ⟨rfl, trivial⟩ rfl
                        · rw [if_neg hc58] at H
                          refine RA.skip rfl rfl rfl rfl rfl (congrArg Bool.not (Bool.eq_false_iff.2 hc58)) (by decide) ?_
                          refine RA.skip rfl rfl rfl rfl rfl (congrArg Bool.not (Bool.eq_false_iff.2 hc58)) (by decide) ?_
                          refine RA.skip rfl rfl rfl rfl rfl (congrArg Bool.not (Bool.eq_false_iff.2 hc58)) (by decide) ?_
                          refine a_pick (b := true) (v := vB _) ?_ (congrArg Bool.not (Bool.eq_false_iff.2 hc58))
                          refine RA.nil nofun ?_
                          exact Can.mk (fun κ => cond (Nat.beq κ 230) 223 (κ)) ⟨_, (by omega), _, _, _, H, rfl⟩ ⟨rfl, rfl, rfl, trivial⟩ ⟨rfl, trivial⟩ rfl
                      · clear H
                        rintro _ ⟨k, hj2, x7, x10, x87, H, rfl⟩
                        cases k with
                        | zero => cases H
                        | succ k =>
                          rw [laws_FnExactFaceAreas.j2] at H
                          by_cases hc59 : x87 = true
                          · rw [if_pos hc59] at H
                            refine AG.yes rfl hc59 ?_
                            refine AG.seq ?_
                            refine AG.region HM ?_
                            refine a_move (v := vB _) ?_
                            refine RA.nil nofun ?_
                            refine AG.ret ?_
                            obtain rfl := Option.some.inj H
                            exact RetP.mk id ⟨rfl, trivial⟩ trivial rfl
                          · rw [if_neg hc59] at H
                            refine AG.no rfl (Bool.eq_false_iff.2 hc59) ?_
                            refine AG.skip ?_
                            refine AG.seq ?_
                            refine AG.region HM ?_
                            refine a_move (v := vI _) ?_
                            refine RA.nil nofun ?_
                            refine AG.seq ?_
                            refine AG.region HM ?_
                            refine a_move (v := .c (.own _ _)) ?_
                            refine a_move (v := vI _) ?_
                            obtain ⟨t60, e61, H⟩ := bindO H
                            refine a_call (v := vI t60) (nk := []) (L := [(230, _)]) ?_ rfl (laws_heldInt64S.ok e61) id (qc rO (qd qn)) ⟨rfl, trivial⟩ trivial trivial rfl
                            refine a_move (v := vI _) ?_
                            refine RA.nil nofun ?_
                            refine AG.seq ?_
                            refine AG.seq ?_
                            refine AG.region HM ?_
                            refine a_move (v := vI _) ?_
                            refine a_int (u := .bool (decide (t60 < 0))) ?_
                            refine RA.nil nofun ?_
                            by_cases hc62 : t60 < 0
                            · rw [if_pos hc62] at H
                              refine AG.yes rfl (decide_eq_true hc62) ?_
                              refine AG.seq ?_
                              refine AG.region HM ?_
                              refine a_move (v := vB _) ?_
                              refine RA.nil nofun ?_
                              refine AG.ret ?_
                              obtain rfl := Option.some.inj H
                              exact RetP.mk id ⟨rfl, trivial⟩ trivial rfl
                            · rw [if_neg hc62] at H
                              refine AG.no rfl (decide_eq_false hc62) ?_
                              refine AG.skip ?_
                              refine AG.seq ?_
                              refine AG.seq ?_
                              refine AG.region HM ?_
                              refine a_move (v := vI _) ?_
                              refine a_move (v := vI _) ?_
                              refine a_int (u := .bool ((t60 != x10))) ?_
                              refine RA.nil nofun ?_
                              by_cases hc63 : t60 = x10
                              · rw [if_pos hc63] at H
                                refine AG.no rfl (bne_eq_false_iff_eq.2 hc63) ?_
                                refine AG.skip ?_
                                refine AG.seq ?_
                                refine AG.region HM ?_
                                refine a_move (v := vB _) ?_
                                refine RA.nil nofun ?_
                                refine AG.ret ?_
                                obtain rfl := Option.some.inj H
                                exact RetP.mk id ⟨rfl, trivial⟩ trivial rfl
                              · rw [if_neg hc63] at H
                                refine AG.yes rfl (bne_iff_ne.2 hc63) ?_
                                refine AG.seq ?_
                                refine AG.region HM ?_
                                refine a_move (v := vB _) ?_
                                refine RA.nil nofun ?_
                                refine AG.ret ?_
                                obtain rfl := Option.some.inj H
                                exact RetP.mk id ⟨rfl, trivial⟩ trivial rfl
                    · rw [if_neg hc47] at H
                      refine AG.yes rfl (bne_iff_ne.2 hc47) ?_
                      refine AG.seq ?_
                      refine AG.region HM ?_
                      refine a_move (v := vB _) ?_
                      refine RA.nil nofun ?_
                      refine AG.ret ?_
                      obtain rfl := Option.some.inj H
                      exact RetP.mk id ⟨rfl, trivial⟩ trivial rfl
          · rw [if_neg hc31] at H
            refine AG.yes rfl (congrArg Bool.not (Bool.eq_false_iff.2 hc31)) ?_
            refine AG.seq ?_
            refine AG.region HM ?_
            refine a_move (v := vB _) ?_
            refine RA.nil nofun ?_
            refine AG.ret ?_
            obtain rfl := Option.some.inj H
            exact RetP.mk id ⟨rfl, trivial⟩ trivial rfl
def B107 (x : S107) : Prop := (Lit.int .i64 x.f0).wf = true ∧ (Lit.int .i64 x.f1).wf = true
def B98 (x : S98) : Prop := x.f0.size ≤ maxLen ∧ (x.f1.length ≤ maxLen ∧ ∀ x_ ∈ x.f1, (Lit.int .i64 x_).wf = true)
def B41 (x : S41) : Prop := (Lit.int .i64 x.f0).wf = true ∧ (Lit.int .i64 x.f1).wf = true ∧ (x.f2.length ≤ maxLen ∧ ∀ x_ ∈ x.f2, B107 x_) ∧ (x.f3.length ≤ maxLen ∧ ∀ x_ ∈ x.f3, B98 x_)
/-- The one plain statement of laws_FnExactFaceAreas. -/
def laws_FnExactFaceAreas.Pure : Prop := ∀ (a0_0 : Int) (a0_1 : Int) (l0_2 : List S107) (l0_3 : List S98), B41 (⟨a0_0, a0_1, l0_2, l0_3⟩ : S41) → ∃ k, laws_FnExactFaceAreas.f k a0_0 a0_1 l0_2 l0_3 = some true
end Go.Proofs.Ytadjbffiomkljaa.PFnExactFaceAreas

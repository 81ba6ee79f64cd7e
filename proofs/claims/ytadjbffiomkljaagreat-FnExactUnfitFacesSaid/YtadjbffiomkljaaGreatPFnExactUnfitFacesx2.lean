/- What each function that the law FnExactUnfitFaces reaches comes to, and the proof that its walk comes to it; laid by a program of this session. No condition. -/
import Derived.Test.YtadjbffiomkljaaGreatPFnExactUnfitFacesx1
import Derived.KernelRfl
import Derived.OwnWalk
import Derived.Test.YtadjbffiomkljaaGreatProg
set_option linter.unusedVariables false
set_option linter.unusedSimpArgs false
namespace Go.Proofs.YtadjbffiomkljaaGreat.PFnExactUnfitFaces
open Go Go.RowKit Go.Proofs.YtadjbffiomkljaaGreatM Go.Proofs
/-! ### impl_Turned: function 188 -/
mutual
def impl_Turned.j0 : Nat → Int → Int → Int → Bool → Option (Int × Int)
  | 0, _, _, _, _ => none
  | k + 1, x1, y205_0, y205_1, x20 => if x20 = true then (some (0, 0)) else (if x1 > 3 then (impl_Turned.j1 k x1 (wrap64 (0 - y205_0)) y205_1) else (impl_Turned.j1 k x1 y205_0 y205_1))
def impl_Turned.j1 : Nat → Int → Int → Int → Option (Int × Int)
  | 0, _, _, _ => none
  | k + 1, x1, y207_0, y207_1 => impl_Turned.l0 k y207_0 y207_1 (Int.tmod x1 4)
def impl_Turned.l0 : Nat → Int → Int → Int → Option (Int × Int)
  | 0, _, _, _ => none
  | k + 1, y209_0, y209_1, x5 => if x5 > 0 then (impl_Turned.l0 k (wrap64 (0 - y209_1)) y209_0 (wrap64 (x5 - 1))) else (some (y209_0, y209_1))
end
def impl_Turned.f (k : Nat) (a0_0 : Int) (a0_1 : Int) (a1 : Int) : Option (Int × Int) := (impl_within.f a1 0 7).bind fun t1 => (if t1 = true then ((impl_within.f a0_0 (-20000) 20000).bind fun t4 => (if t4 = true then ((impl_within.f a0_1 (-20000) 20000).bind fun t7 => (impl_Turned.j0 k a1 a0_0 a0_1 (!t7))) else (impl_Turned.j0 k a1 a0_0 a0_1 true))) else (impl_Turned.j0 k a1 a0_0 a0_1 true))
set_option maxRecDepth 100000 in
theorem impl_Turned.ok {k : Nat} {a0_0 : Int} {a0_1 : Int} {a1 : Int} {r0 : Int} {r1 : Int} (H : impl_Turned.f k a0_0 a0_1 a1 = some (r0, r1)) : OkF Tryz.prog 188 [.agg [.d (.v (.int .i64 a0_0)), .d (.v (.int .i64 a0_1))], vI a1] [] (.agg [.d (.v (.int .i64 r0)), .d (.v (.int .i64 r1))]) [] := by
  unfold impl_Turned.f at H
  refine OkF.ofB (N := 41) (t := 4) (ty := 160) (av := .agg [.d (.v (.int .i64 r0)), .d (.v (.int .i64 r1))]) Tryz.func188 rfl rfl rfl rfl (by decide) rfl rfl (fun w0 S => ?_)
  refine AG.seq ?_
  refine AG.region HM ?_
  refine a_box 200 ?_
  refine a_alloc (cs := [_, _]) 201 ?_ T160
  refine RA.nil nofun ?_
  refine AG.seq ?_
  refine AG.seq ?_
  refine AG.join (fun s => ∃ q, q ≤ k ∧ ∃ (x1 : Int) (y205_0 : Int) (y205_1 : Int) (y206_0 : Int) (y206_1 : Int) (x20 : Bool), impl_Turned.j0 q x1 y205_0 y205_1 x20 = some (r0, r1) ∧ s = St.of [(1, vI x1), (2, .c (.ptr 205 0)), (4, .c (.ptr 206 0)), (20, vB x20)] [(205, .box 160 [.d (.v (.int .i64 y205_0)), .d (.v (.int .i64 y205_1))]), (206, .box 160 [.d (.v (.int .i64 y206_0)), .d (.v (.int .i64 y206_1))])]) ?_ ?_
  · skip
    refine AG.region HM ?_
    refine a_move (v := vI _) ?_
    obtain ⟨t1, e2, H⟩ := bindO H
    refine a_call (v := vB t1) (nk := []) (L := []) ?_ rfl (impl_within.ok e2) id (qd (qd (qd qn))) trivial trivial trivial rfl
    refine a_un (u := .bool (!t1)) ?_
    refine a_move (v := vB _) ?_
    by_cases hc3 : t1 = true
    · rw [if_pos hc3] at H
      refine a_faB (q := 0) ?_ D160_0 (hg := Gs.yes rfl rfl rfl (congrArg Bool.not hc3))
      refine a_ldB (v := vI _) ?_ T2 (hg := Gs.yes rfl rfl rfl (congrArg Bool.not hc3))
      obtain ⟨t4, e5, H⟩ := bindO H
      refine a_call (v := vB t4) (nk := []) (L := []) ?_ rfl (impl_within.ok e5) id (qd (qd (qd qn))) trivial trivial trivial rfl (hg := Gs.yes rfl rfl rfl (congrArg Bool.not hc3))
      refine a_un (u := .bool (!t4)) ?_ (hg := Gs.yes rfl rfl rfl (congrArg Bool.not hc3))
      refine a_pick (b := false) (v := vB _) ?_ (congrArg Bool.not hc3)
      refine a_move (v := vB _) ?_
      by_cases hc6 : t4 = true
      · rw [if_pos hc6] at H
        refine a_faB (q := 1) ?_ D160_1 (hg := Gs.yes rfl rfl rfl (congrArg Bool.not hc6))
        refine a_ldB (v := vI _) ?_ T2 (hg := Gs.yes rfl rfl rfl (congrArg Bool.not hc6))
        obtain ⟨t7, e8, H⟩ := bindO H
        refine a_call (v := vB t7) (nk := []) (L := []) ?_ rfl (impl_within.ok e8) id (qd (qd (qd qn))) trivial trivial trivial rfl (hg := Gs.yes rfl rfl rfl (congrArg Bool.not hc6))
        refine a_un (u := .bool (!t7)) ?_ (hg := Gs.yes rfl rfl rfl (congrArg Bool.not hc6))
        refine a_pick (b := false) (v := vB _) ?_ (congrArg Bool.not hc6)
        refine RA.nil nofun ?_
        exact Can.mk (fun κ => cond (Nat.beq κ 205) 200 (cond (Nat.beq κ 206) 201 (κ))) ⟨_, (by omega), _, _, _, _, _, _, H, rfl⟩ ⟨rfl, rfl, rfl, rfl, trivial⟩ ⟨rfl, rfl, trivial⟩ rfl
      · rw [if_neg hc6] at H
        refine RA.skip rfl rfl rfl rfl rfl (congrArg Bool.not (Bool.eq_false_iff.2 hc6)) (by decide) ?_
        refine RA.skip rfl rfl rfl rfl rfl (congrArg Bool.not (Bool.eq_false_iff.2 hc6)) (by decide) ?_
        refine RA.skip rfl rfl rfl rfl rfl (congrArg Bool.not (Bool.eq_false_iff.2 hc6)) (by decide) ?_
        refine RA.skip rfl rfl rfl rfl rfl (congrArg Bool.not (Bool.eq_false_iff.2 hc6)) (by decide) ?_
        refine a_pick (b := true) (v := vB _) ?_ (congrArg Bool.not (Bool.eq_false_iff.2 hc6))
        refine RA.nil nofun ?_
        exact Can.mk (fun κ => cond (Nat.beq κ 205) 200 (cond (Nat.beq κ 206) 201 (κ))) ⟨_, (by omega), _, _, _, _, _, _, H, rfl⟩ ⟨rfl, rfl, rfl, rfl, trivial⟩ ⟨rfl, rfl, trivial⟩ rfl
    · rw [if_neg hc3] at H
      refine RA.skip rfl rfl rfl rfl rfl (congrArg Bool.not (Bool.eq_false_iff.2 hc3)) (by decide) ?_
      refine RA.skip rfl rfl rfl rfl rfl (congrArg Bool.not (Bool.eq_false_iff.2 hc3)) (by decide) ?_
      refine RA.skip rfl rfl rfl rfl rfl (congrArg Bool.not (Bool.eq_false_iff.2 hc3)) (by decide) ?_
      refine RA.skip rfl rfl rfl rfl rfl (congrArg Bool.not (Bool.eq_false_iff.2 hc3)) (by decide) ?_
      refine a_pick (b := true) (v := vB _) ?_ (congrArg Bool.not (Bool.eq_false_iff.2 hc3))
      refine a_move (v := vB _) ?_
      refine RA.skip rfl rfl rfl rfl rfl rfl (by decide) ?_
      refine RA.skip rfl rfl rfl rfl rfl rfl (by decide) ?_
      refine RA.skip rfl rfl rfl rfl rfl rfl (by decide) ?_
      refine RA.skip rfl rfl rfl rfl rfl rfl (by decide) ?_
      refine a_pick (b := true) (v := vB _) ?_ rfl
      refine RA.nil nofun ?_
      exact Can.mk (fun κ => cond (Nat.beq κ 205) 200 (cond (Nat.beq κ 206) 201 (κ))) ⟨_, (by omega), _, _, _, _, _, _, H, rfl⟩ ⟨rfl, rfl, rfl, rfl, trivial⟩ ⟨rfl, rfl, trivial⟩ rfl
  · clear H
    rintro _ ⟨k, hj0, x1, y205_0, y205_1, y206_0, y206_1, x20, H, rfl⟩
    cases k with
    | zero => cases H
    | succ k =>
      rw [impl_Turned.j0] at H
      by_cases hc9 : x20 = true
      · rw [if_pos hc9] at H
        refine AG.yes rfl hc9 ?_
        refine AG.seq ?_
        refine AG.region HM ?_
        refine a_build (cs := [_, _]) ?_ T160 rfl (hin := I160)
        refine a_stB (cs' := [_, _]) ?_ T160
        refine RA.nil nofun ?_
        refine AG.ret ?_
        simp only [Option.some.injEq, Prod.mk.injEq] at H
        obtain ⟨rfl, rfl⟩ := H
        exact RetB.mk T160 rfl rfl rfl (RetP.mk id ⟨rfl, trivial⟩ trivial rfl)
      · rw [if_neg hc9] at H
        refine AG.no rfl (Bool.eq_false_iff.2 hc9) ?_
        refine AG.skip ?_
        refine AG.seq ?_
        refine AG.seq ?_
        refine AG.region HM ?_
        refine a_move (v := vI _) ?_
        refine a_int (u := .bool (decide (x1 > 3))) ?_
        refine RA.nil nofun ?_
        refine AG.join (fun s => ∃ q, q ≤ k ∧ ∃ (x1 : Int) (y207_0 : Int) (y207_1 : Int) (y208_0 : Int) (y208_1 : Int), impl_Turned.j1 q x1 y207_0 y207_1 = some (r0, r1) ∧ s = St.of [(1, vI x1), (2, .c (.ptr 207 0)), (4, .c (.ptr 208 0))] [(207, .box 160 [.d (.v (.int .i64 y207_0)), .d (.v (.int .i64 y207_1))]), (208, .box 160 [.d (.v (.int .i64 y208_0)), .d (.v (.int .i64 y208_1))])]) ?_ ?_
        · skip
          by_cases hc10 : x1 > 3
          · rw [if_pos hc10] at H
            refine AG.yes rfl (decide_eq_true hc10) ?_
            refine AG.region HM ?_
            refine a_faB (q := 0) ?_ D160_0
            refine a_ldB (v := vI _) ?_ T2
            refine a_un (u := .int .i64 (wrap64 (0 - y205_0))) ?_
            refine a_faB (q := 0) ?_ D160_0
            refine a_stB (cs' := [_, _]) ?_ T2
            refine RA.nil nofun ?_
            exact Can.mk (fun κ => cond (Nat.beq κ 207) 205 (cond (Nat.beq κ 208) 206 (κ))) ⟨_, (by omega), _, _, _, _, _, H, rfl⟩ ⟨rfl, rfl, rfl, trivial⟩ ⟨rfl, rfl, trivial⟩ rfl
          · rw [if_neg hc10] at H
            refine AG.no rfl (decide_eq_false hc10) ?_
            refine AG.skip ?_
            exact Can.mk (fun κ => cond (Nat.beq κ 207) 205 (cond (Nat.beq κ 208) 206 (κ))) ⟨_, (by omega), _, _, _, _, _, H, rfl⟩ ⟨rfl, rfl, rfl, trivial⟩ ⟨rfl, rfl, trivial⟩ rfl
        · clear H
          rintro _ ⟨k, hj1, x1, y207_0, y207_1, y208_0, y208_1, H, rfl⟩
          cases k with
          | zero => cases H
          | succ k =>
            rw [impl_Turned.j1] at H
            refine AG.seq ?_
            refine AG.seq ?_
            refine AG.region HM ?_
            refine a_move (v := vI _) ?_
            refine a_rem (r := Int.tmod x1 4) ?_ (show ¬ (4 : Int) = 0 from by decide)
            refine a_move (v := vI _) ?_
            refine RA.nil nofun ?_
            refine AG.block ?_
            refine AG.loop ?_
            obtain ⟨K0, hK0, gK0⟩ : ∃ K, k ≤ K ∧ K ≤ k := ⟨k, Nat.le_refl k, Nat.le_refl k⟩
            refine AGr.canon (fun κ => cond (Nat.beq κ 209) 207 (cond (Nat.beq κ 210) 208 (κ))) (AGr.loopI (n := k) (fun k s => k ≤ K0 ∧ ∃ (y209_0 : Int) (y209_1 : Int) (y210_0 : Int) (y210_1 : Int) (x5 : Int), impl_Turned.l0 k y209_0 y209_1 x5 = some (r0, r1) ∧ s = St.of [(2, .c (.ptr 209 0)), (4, .c (.ptr 210 0)), (5, vI x5)] [(209, .box 160 [.d (.v (.int .i64 y209_0)), .d (.v (.int .i64 y209_1))]), (210, .box 160 [.d (.v (.int .i64 y210_0)), .d (.v (.int .i64 y210_1))])]) ⟨hK0, _, _, _, _, _, H, rfl⟩ ?_ ?_) ⟨rfl, rfl, rfl, trivial⟩ ⟨rfl, rfl, trivial⟩ rfl
            · rintro _ ⟨_, _, _, _, _, _, H, _⟩
              cases H
            · clear H hK0
              rintro k ih0 _ ⟨hK0, y209_0, y209_1, y210_0, y210_1, x5, H, rfl⟩
              unfold impl_Turned.l0 at H
              refine AG.seq ?_
              refine AG.seq ?_
              refine AG.region HM ?_
              refine a_move (v := vI _) ?_
              refine a_int (u := .bool (decide (x5 > 0))) ?_
              refine RA.nil nofun ?_
              by_cases hc11 : x5 > 0
              · rw [if_pos hc11] at H
                refine AG.yes rfl (decide_eq_true hc11) ?_
                refine AG.skip ?_
                refine AG.seq ?_
                refine AG.block ?_
                refine AG.region HM ?_
                refine a_faB (q := 1) ?_ D160_1
                refine a_ldB (v := vI _) ?_ T2
                refine a_un (u := .int .i64 (wrap64 (0 - y209_1))) ?_
                refine a_faB (q := 0) ?_ D160_0
                refine a_ldB (v := vI _) ?_ T2
                refine a_build (cs := [_, _]) ?_ T160 rfl (hin := I160)
                refine a_stB (cs' := [_, _]) ?_ T160
                refine RA.nil nofun ?_
                refine AG.region HM ?_
                refine a_move (v := vI _) ?_
                refine a_int (u := .int .i64 (wrap64 (x5 - 1))) ?_
                refine a_move (v := vI _) ?_
                refine RA.nil nofun ?_
                exact AGr.canon id (ih0 _ (by omega) _ ⟨by omega, _, _, _, _, _, H, rfl⟩) ⟨rfl, rfl, rfl, trivial⟩ ⟨rfl, rfl, trivial⟩ rfl
              · rw [if_neg hc11] at H
                refine AG.no rfl (decide_eq_false hc11) ?_
                refine AG.exit ?_
                refine AG.seq ?_
                refine AG.region HM ?_
                refine a_ldB (v := .agg [_, _]) ?_ T160
                refine a_stB (cs' := [_, _]) ?_ T160
                refine RA.nil nofun ?_
                refine AG.ret ?_
                simp only [Option.some.injEq, Prod.mk.injEq] at H
                obtain ⟨rfl, rfl⟩ := H
                exact RetB.mk T160 rfl rfl rfl (RetP.mk id ⟨rfl, trivial⟩ trivial rfl)
/-! ### slices_Reverse_impl_Point: function 189 -/
def slices_Reverse_impl_Point.l0 : Nat → List S159 → Int → Int → Option ((List S159))
  | 0, _, _, _ => none
  | k + 1, x0, x2, x3 => if x2 < x3 then (if 0 ≤ x3 then (if x3 < (x0.length : Int) then (if 0 ≤ x2 then (if x2 < (x0.length : Int) then (slices_Reverse_impl_Point.l0 k ((x0.set (x2 : Int).toNat (⟨(rd159 x0 x3).f0, (rd159 x0 x3).f1⟩ : S159)).set (x3 : Int).toNat (⟨(rd159 x0 x2).f0, (rd159 x0 x2).f1⟩ : S159)) (wrap64 (x2 + 1)) (wrap64 (x3 - 1))) else (none)) else (none)) else (none)) else (none)) else (some x0)
def slices_Reverse_impl_Point.f (k : Nat) (l0 : List S159) : Option ((List S159)) := slices_Reverse_impl_Point.l0 k l0 0 (wrap64 ((l0.length : Int) - 1))
set_option maxRecDepth 100000 in
theorem slices_Reverse_impl_Point.ok {k : Nat} {l0 : List S159} {r : List S159} (H : slices_Reverse_impl_Point.f k l0 = some r) : OkF Tryz.prog 189 [.c (.own 0 l0.length)] [(0, .row 160 (l0.map c159))] (.tup []) [(0, .row 160 (r.map c159))] := by
  unfold slices_Reverse_impl_Point.f at H
  refine OkF.of (N := 28) (rs := []) (avs := []) Tryz.func189 rfl rfl (fun _ _ => results_none rfl _ _ _) (by decide) rfl rfl rfl rfl (fun w0 S => ?_)
  refine AG.seq ?_
  refine AG.region HM ?_
  refine a_move (v := .c (.own _ _)) ?_
  refine a_lenO ?_ Tryz.underlying32
  refine a_int (u := .int .i64 (wrap64 ((l0.length : Int) - 1))) ?_
  refine a_move (v := vI _) ?_
  refine a_move (v := vI _) ?_
  refine RA.nil nofun ?_
  refine AG.block ?_
  refine AG.loop ?_
  obtain ⟨K0, hK0, gK0⟩ : ∃ K, k ≤ K ∧ K ≤ k := ⟨k, Nat.le_refl k, Nat.le_refl k⟩
  refine AGr.canon id (AGr.loopI (n := k) (fun k s => k ≤ K0 ∧ ∃ (x0 : List S159) (x2 : Int) (x3 : Int), slices_Reverse_impl_Point.l0 k x0 x2 x3 = some r ∧ s = St.of [(0, .c (.own 0 x0.length)), (2, vI x2), (3, vI x3)] [(0, .row 160 (x0.map c159))]) ⟨hK0, _, _, _, H, rfl⟩ ?_ ?_) ⟨rfl, rfl, rfl, trivial⟩ ⟨rfl, trivial⟩ rfl
  · rintro _ ⟨_, _, _, _, H, _⟩
    cases H
  · clear H hK0
    rintro k ih0 _ ⟨hK0, x0, x2, x3, H, rfl⟩
    unfold slices_Reverse_impl_Point.l0 at H
    refine AG.seq ?_
    refine AG.seq ?_
    refine AG.region HM ?_
    refine a_move (v := vI _) ?_
    refine a_move (v := vI _) ?_
    refine a_int (u := .bool (decide (x2 < x3))) ?_
    refine RA.nil nofun ?_
    by_cases hc1 : x2 < x3
    · rw [if_pos hc1] at H
      refine AG.yes rfl (decide_eq_true hc1) ?_
      refine AG.skip ?_
      refine AG.seq ?_
      refine AG.block ?_
      refine AG.region HM ?_
      refine a_move (v := .c (.own _ _)) ?_
      refine a_move (v := vI _) ?_
      refine a_move (v := .c (.own _ _)) ?_
      refine a_move (v := vI _) ?_
      refine a_move (v := .c (.own _ _)) ?_
      refine a_move (v := vI _) ?_
      by_cases hc2 : 0 ≤ x3
      · rw [if_pos hc2] at H
        by_cases hc3 : x3 < (x0.length : Int)
        · rw [if_pos hc3] at H
          refine a_ixO ?_ ⟨hc2, hc3⟩ T160 Tryz.underlying32
          refine a_ldE (v := .agg [_, _]) ?_ (G159 hc2 hc3) T160
          refine a_move (v := .c (.own _ _)) ?_
          refine a_move (v := vI _) ?_
          by_cases hc4 : 0 ≤ x2
          · rw [if_pos hc4] at H
            by_cases hc5 : x2 < (x0.length : Int)
            · rw [if_pos hc5] at H
              refine a_ixO ?_ ⟨hc4, hc5⟩ T160 Tryz.underlying32
              refine a_ldE (v := .agg [_, _]) ?_ (G159 hc4 hc5) T160
              refine a_ixO ?_ ⟨hc4, hc5⟩ T160 Tryz.underlying32
              refine a_stF (css' := (x0.set (x2 : Int).toNat (⟨(rd159 x0 x3).f0, (rd159 x0 x3).f1⟩ : S159)).map c159) ?_ (flat_map (fun _ => rfl)) (G159 hc4 hc5) T160 (hcss := by exact set_map rfl)
              refine a_ixO ?_ ⟨hc2, hc3⟩ T160 Tryz.underlying32
              refine a_stF (css' := ((x0.set (x2 : Int).toNat (⟨(rd159 x0 x3).f0, (rd159 x0 x3).f1⟩ : S159)).set (x3 : Int).toNat (⟨(rd159 x0 x2).f0, (rd159 x0 x2).f1⟩ : S159)).map c159) ?_ (flat_map (fun _ => rfl)) (G159 (l := (x0.set (x2 : Int).toNat (⟨(rd159 x0 x3).f0, (rd159 x0 x3).f1⟩ : S159))) hc2 (by simpa using hc3)) T160 (hcss := by exact set_map rfl)
              refine RA.nil (fun _ => by kernel_rfl) ?_
              refine AG.region HM ?_
              refine a_move (v := vI _) ?_
              refine a_int (u := .int .i64 (wrap64 (x2 + 1))) ?_
              refine a_move (v := vI _) ?_
              refine a_int (u := .int .i64 (wrap64 (x3 - 1))) ?_
              refine a_move (v := vI _) ?_
              refine a_move (v := vI _) ?_
              refine RA.nil nofun ?_
              exact AGr.canon id (ih0 _ (by omega) _ ⟨by omega, _, _, _, H, rfl⟩) ⟨(ownE rfl (by simp)), rfl, rfl, trivial⟩ ⟨rfl, trivial⟩ rfl
            · rw [if_neg hc5] at H
              cases H
          · rw [if_neg hc4] at H
            cases H
        · rw [if_neg hc3] at H
          cases H
      · rw [if_neg hc2] at H
        cases H
    · rw [if_neg hc1] at H
      refine AG.no rfl (decide_eq_false hc1) ?_
      refine AG.exit ?_
      obtain rfl := Option.some.inj H
      exact RetP.mk (fun κ => cond (Nat.beq κ 0) 0 (κ)) trivial ⟨rfl, trivial⟩ rfl
/-! ### slices_Reverse_impl_Point__cut: function 189 -/
def slices_Reverse_impl_Point__cut.l0 : Nat → List S159 → Nat → Nat → Int → Int → Option ((List S159))
  | 0, _, _, _, _, _ => none
  | k + 1, x0, x0_lo, x0_n, x2, x3 => if x2 < x3 then (if x0_lo + x0_n ≤ x0.length then (if 0 ≤ x3 then (if x3 < (x0_n : Int) then (if 0 ≤ x2 then (if x2 < (x0_n : Int) then (slices_Reverse_impl_Point__cut.l0 k ((x0.set (((x0_lo : Int) + x2) : Int).toNat (⟨(rd159 x0 ((x0_lo : Int) + x3)).f0, (rd159 x0 ((x0_lo : Int) + x3)).f1⟩ : S159)).set (((x0_lo : Int) + x3) : Int).toNat (⟨(rd159 x0 ((x0_lo : Int) + x2)).f0, (rd159 x0 ((x0_lo : Int) + x2)).f1⟩ : S159)) x0_lo x0_n (wrap64 (x2 + 1)) (wrap64 (x3 - 1))) else (none)) else (none)) else (none)) else (none)) else (none)) else (some x0)
def slices_Reverse_impl_Point__cut.f (k : Nat) (l0 : List S159) (lo0 : Nat) (n0 : Nat) : Option ((List S159)) := slices_Reverse_impl_Point__cut.l0 k l0 lo0 n0 0 (wrap64 ((n0 : Int) - 1))
set_option maxRecDepth 100000 in
theorem slices_Reverse_impl_Point__cut.ok {k : Nat} {l0 : List S159} {lo0 : Nat} {n0 : Nat} {r : List S159} (H : slices_Reverse_impl_Point__cut.f k l0 lo0 n0 = some r) : OkF Tryz.prog 189 [.c (.cut 0 lo0 n0)] [(0, .row 160 (l0.map c159))] (.tup []) [(0, .row 160 (r.map c159))] := by
  unfold slices_Reverse_impl_Point__cut.f at H
  refine OkF.of (N := 28) (rs := []) (avs := []) Tryz.func189 rfl rfl (fun _ _ => results_none rfl _ _ _) (by decide) rfl rfl rfl rfl (fun w0 S => ?_)
  refine AG.seq ?_
  refine AG.region HM ?_
  refine a_move (v := .c (.cut _ _ _)) ?_
  refine a_lenC ?_ Tryz.underlying32
  refine a_int (u := .int .i64 (wrap64 ((n0 : Int) - 1))) ?_
  refine a_move (v := vI _) ?_
  refine a_move (v := vI _) ?_
  refine RA.nil nofun ?_
  refine AG.block ?_
  refine AG.loop ?_
  obtain ⟨K0, hK0, gK0⟩ : ∃ K, k ≤ K ∧ K ≤ k := ⟨k, Nat.le_refl k, Nat.le_refl k⟩
  refine AGr.canon id (AGr.loopI (n := k) (fun k s => k ≤ K0 ∧ ∃ (x0 : List S159) (x0_lo : Nat) (x0_n : Nat) (x2 : Int) (x3 : Int), slices_Reverse_impl_Point__cut.l0 k x0 x0_lo x0_n x2 x3 = some r ∧ s = St.of [(0, .c (.cut 0 x0_lo x0_n)), (2, vI x2), (3, vI x3)] [(0, .row 160 (x0.map c159))]) ⟨hK0, _, _, _, _, _, H, rfl⟩ ?_ ?_) ⟨rfl, rfl, rfl, trivial⟩ ⟨rfl, trivial⟩ rfl
  · rintro _ ⟨_, _, _, _, _, _, H, _⟩
    cases H
  · clear H hK0
    rintro k ih0 _ ⟨hK0, x0, x0_lo, x0_n, x2, x3, H, rfl⟩
    unfold slices_Reverse_impl_Point__cut.l0 at H
    refine AG.seq ?_
    refine AG.seq ?_
    refine AG.region HM ?_
    refine a_move (v := vI _) ?_
    refine a_move (v := vI _) ?_
    refine a_int (u := .bool (decide (x2 < x3))) ?_
    refine RA.nil nofun ?_
    by_cases hc1 : x2 < x3
    · rw [if_pos hc1] at H
      refine AG.yes rfl (decide_eq_true hc1) ?_
      refine AG.skip ?_
      refine AG.seq ?_
      refine AG.block ?_
      refine AG.region HM ?_
      refine a_move (v := .c (.cut _ _ _)) ?_
      refine a_move (v := vI _) ?_
      refine a_move (v := .c (.cut _ _ _)) ?_
      refine a_move (v := vI _) ?_
      refine a_move (v := .c (.cut _ _ _)) ?_
      refine a_move (v := vI _) ?_
      by_cases hc2 : x0_lo + x0_n ≤ x0.length
      · rw [if_pos hc2] at H
        by_cases hc3 : 0 ≤ x3
        · rw [if_pos hc3] at H
          by_cases hc4 : x3 < (x0_n : Int)
          · rw [if_pos hc4] at H
            refine a_ixC ?_ ⟨hc3, hc4⟩ T160 Tryz.underlying32
            refine a_ldE (v := .agg [_, _]) ?_ (G159 (l := x0) (i := ((x0_lo : Int) + x3)) (by omega) (by omega)) T160
            refine a_move (v := .c (.cut _ _ _)) ?_
            refine a_move (v := vI _) ?_
            by_cases hc5 : 0 ≤ x2
            · rw [if_pos hc5] at H
              by_cases hc6 : x2 < (x0_n : Int)
              · rw [if_pos hc6] at H
                refine a_ixC ?_ ⟨hc5, hc6⟩ T160 Tryz.underlying32
                refine a_ldE (v := .agg [_, _]) ?_ (G159 (l := x0) (i := ((x0_lo : Int) + x2)) (by omega) (by omega)) T160
                refine a_ixC ?_ ⟨hc5, hc6⟩ T160 Tryz.underlying32
                refine a_stF (css' := (x0.set (((x0_lo : Int) + x2) : Int).toNat (⟨(rd159 x0 ((x0_lo : Int) + x3)).f0, (rd159 x0 ((x0_lo : Int) + x3)).f1⟩ : S159)).map c159) ?_ (flat_map (fun _ => rfl)) (G159 (l := x0) (i := ((x0_lo : Int) + x2)) (by omega) (by omega)) T160 (hcss := by exact set_map rfl)
                refine a_ixC ?_ ⟨hc3, hc4⟩ T160 Tryz.underlying32
                refine a_stF (css' := ((x0.set (((x0_lo : Int) + x2) : Int).toNat (⟨(rd159 x0 ((x0_lo : Int) + x3)).f0, (rd159 x0 ((x0_lo : Int) + x3)).f1⟩ : S159)).set (((x0_lo : Int) + x3) : Int).toNat (⟨(rd159 x0 ((x0_lo : Int) + x2)).f0, (rd159 x0 ((x0_lo : Int) + x2)).f1⟩ : S159)).map c159) ?_ (flat_map (fun _ => rfl)) (G159 (l := (x0.set (((x0_lo : Int) + x2) : Int).toNat (⟨(rd159 x0 ((x0_lo : Int) + x3)).f0, (rd159 x0 ((x0_lo : Int) + x3)).f1⟩ : S159))) (i := ((x0_lo : Int) + x3)) (by omega) (by simp only [List.length_set]; omega)) T160 (hcss := by exact set_map rfl)
                refine RA.nil (fun _ => by kernel_rfl) ?_
                refine AG.region HM ?_
                refine a_move (v := vI _) ?_
                refine a_int (u := .int .i64 (wrap64 (x2 + 1))) ?_
                refine a_move (v := vI _) ?_
                refine a_int (u := .int .i64 (wrap64 (x3 - 1))) ?_
                refine a_move (v := vI _) ?_
                refine a_move (v := vI _) ?_
                refine RA.nil nofun ?_
                exact AGr.canon id (ih0 _ (by omega) _ ⟨by omega, _, _, _, _, _, H, rfl⟩) ⟨rfl, rfl, rfl, trivial⟩ ⟨rfl, trivial⟩ rfl
              · rw [if_neg hc6] at H
                cases H
            · rw [if_neg hc5] at H
              cases H
          · rw [if_neg hc4] at H
            cases H
        · rw [if_neg hc3] at H
          cases H
      · rw [if_neg hc2] at H
        cases H
    · rw [if_neg hc1] at H
      refine AG.no rfl (decide_eq_false hc1) ?_
      refine AG.exit ?_
      obtain rfl := Option.some.inj H
      exact RetP.mk (fun κ => cond (Nat.beq κ 0) 0 (κ)) trivial ⟨rfl, trivial⟩ rfl
/-! ### impl_turnPoints: function 143 -/
def impl_turnPoints.l0 : Nat → Int → List S159 → List S159 → Int → Int → Option ((List S159))
  | 0, _, _, _, _, _ => none
  | k + 1, x1, x5, x11, x12, x13 => if x13 < x12 then (if 0 ≤ x13 then (if x13 < (x11.length : Int) then ((impl_Turned.f k ((rd159 x11 x13).f0) ((rd159 x11 x13).f1) x1).bind fun bt5 => (if x5.length < 8796093022208 then (impl_turnPoints.l0 k x1 (x5 ++ [(⟨bt5.1, bt5.2⟩ : S159)]) x11 x12 (wrap64 (x13 + 1))) else (none))) else (none)) else (none)) else (if x1 > 3 then (if 1 ≤ (x5.length : Int) then ((slices_Reverse_impl_Point__cut.f k x5 1 (x5.length - 1)).bind fun t12 => ((impl_bounds.f k t12).bind fun bt14 => ((impl_shifted.f k t12 (wrap64 (0 - bt14.1)) (wrap64 (0 - bt14.2.1))).bind fun t19 => (some t19)))) else (none)) else ((impl_bounds.f k x5).bind fun bt21 => ((impl_shifted.f k x5 (wrap64 (0 - bt21.1)) (wrap64 (0 - bt21.2.1))).bind fun t26 => (some t26))))
def impl_turnPoints.f (k : Nat) (l0 : List S159) (a1 : Int) : Option ((List S159)) := impl_turnPoints.l0 k a1 ([] : List S159) l0 (l0.length : Int) 0
set_option maxRecDepth 100000 in
theorem impl_turnPoints.ok {k : Nat} {l0 : List S159} {a1 : Int} {r : List S159} (H : impl_turnPoints.f k l0 a1 = some r) : OkF Tryz.prog 143 [vR 160 (l0.map c159), vI a1] [] (.c (.own 100 r.length)) [(100, .row 160 (r.map c159))] := by
  unfold impl_turnPoints.f at H
  refine OkF.of (N := 42) (rs := [4]) (avs := [.c (.own 100 r.length)]) Tryz.func143 rfl rfl (fun _ _ => results_tmp rfl _ _ _) (by decide) rfl rfl rfl rfl (fun w0 S => ?_)
  refine AG.seq ?_
  refine AG.region HM ?_
  refine a_nilO (e := 160) 200 ?_ T160
  refine RA.nil nofun ?_
  refine AG.seq ?_
  refine AG.region HM ?_
  refine a_lit (cs := []) (D := []) (css := ([] : List S159).map c159) 201 ?_ N32 T160 (hcss := by rfl)
  refine a_move (v := .c (.own _ _)) ?_
  refine RA.nil nofun ?_
  refine AG.seq ?_
  refine AG.seq ?_
  refine AG.region HM ?_
  refine a_move (v := vR _ _) ?_
  refine a_lenR ?_ Tryz.underlying32
  refine a_move (v := vI _) ?_
  refine RA.nil nofun ?_
  refine AG.block ?_
  refine AG.loop ?_
  obtain ⟨K0, hK0, gK0⟩ : ∃ K, k ≤ K ∧ K ≤ k := ⟨k, Nat.le_refl k, Nat.le_refl k⟩
  refine AGr.canon (fun κ => cond (Nat.beq κ 202) 201 (κ)) (AGr.loopI (n := k) (fun k s => k ≤ K0 ∧ ∃ (x1 : Int) (x5 : List S159) (x11 : List S159) (x12 : Int) (x13 : Int), impl_turnPoints.l0 k x1 x5 x11 x12 x13 = some r ∧ s = St.of [(1, vI x1), (5, .c (.own 202 x5.length)), (11, vR 160 (x11.map c159)), (12, vI x12), (13, vI x13)] [(202, .row 160 (x5.map c159))]) ⟨hK0, _, _, _, _, _, H, rfl⟩ ?_ ?_) ⟨rfl, (ownE rfl (by simp)), rfl, rfl, rfl, trivial⟩ ⟨rfl, trivial⟩ rfl
  · rintro _ ⟨_, _, _, _, _, _, H, _⟩
    cases H
  · clear H hK0
    rintro k ih0 _ ⟨hK0, x1, x5, x11, x12, x13, H, rfl⟩
    unfold impl_turnPoints.l0 at H
    refine AG.seq ?_
    refine AG.region HM ?_
    refine a_int (u := .bool (decide (x13 < x12))) ?_
    refine RA.nil nofun ?_
    refine AG.seq ?_
    by_cases hc2 : x13 < x12
    · rw [if_pos hc2] at H
      refine AG.yes rfl (decide_eq_true hc2) ?_
      refine AG.skip ?_
      refine AG.seq ?_
      refine AG.block ?_
      refine AG.seq ?_
      refine AG.region HM ?_
      by_cases hc3 : 0 ≤ x13
      · rw [if_pos hc3] at H
        by_cases hc4 : x13 < (x11.length : Int)
        · rw [if_pos hc4] at H
          refine a_ixR (el := c159 (rd159 x11 x13)) ?_ ⟨hc3, hc4⟩ T160 Tryz.underlying32 (hel := R159 hc3 hc4)
          refine a_ldR (v := .agg [_, _]) ?_ T160
          refine a_alloc (cs := [_, _]) 203 ?_ T160
          refine a_stB (cs' := [_, _]) ?_ T160
          refine RA.nil nofun ?_
          refine AG.region HM ?_
          refine a_move (v := .c (.own _ _)) ?_
          refine a_ldB (v := .agg [_, _]) ?_ T160
          refine a_move (v := vI _) ?_
          obtain ⟨⟨t5, t6⟩, e7, H⟩ := bindO H
          refine a_call (v := .agg [.d (.v (.int .i64 t5)), .d (.v (.int .i64 t6))]) (nk := []) (L := []) ?_ rfl (impl_Turned.ok e7) id (qg (qd qn)) trivial trivial trivial rfl
          refine a_lit (cs := [_, _]) (D := []) (css := ([(⟨t5, t6⟩ : S159)]).map c159) 205 ?_ N32 T160
          by_cases hc8 : x5.length < 8796093022208
          · rw [if_pos hc8] at H
            refine a_appO (css' := (x5 ++ [(⟨t5, t6⟩ : S159)]).map c159) (n' := (x5 ++ [(⟨t5, t6⟩ : S159)]).length) ?_ T160 (by simp [maxLen]; omega) (by simp; omega) Tryz.underlying32 (hc := by exact List.map_append.symm) (hn := by exact List.length_map _)
            refine a_move (v := .c (.own _ _)) ?_
            refine RA.nil nofun ?_
            refine AG.region HM ?_
            refine a_int (u := .int .i64 (wrap64 (x13 + 1))) ?_
            refine a_move (v := vI _) ?_
            refine RA.nil nofun ?_
            exact AGr.canon id (ih0 _ (by omega) _ ⟨by omega, _, _, _, _, _, H, rfl⟩) ⟨rfl, rfl, rfl, rfl, rfl, trivial⟩ ⟨rfl, trivial⟩ rfl
          · rw [if_neg hc8] at H
            cases H
        · rw [if_neg hc4] at H
          cases H
      · rw [if_neg hc3] at H
        cases H
    · rw [if_neg hc2] at H
      refine AG.no rfl (decide_eq_false hc2) ?_
      refine AG.exit ?_
      refine AG.seq ?_
      refine AG.seq ?_
      refine AG.region HM ?_
      refine a_move (v := vI _) ?_
      refine a_int (u := .bool (decide (x1 > 3))) ?_
      refine RA.nil nofun ?_
      by_cases hc10 : x1 > 3
      · rw [if_pos hc10] at H
        refine AG.yes rfl (decide_eq_true hc10) ?_
        refine AG.region HM ?_
        refine a_move (v := .c (.own _ _)) ?_
        by_cases hc11 : 1 ≤ (x5.length : Int)
        · rw [if_pos hc11] at H
          refine a_slO (l := some 1) (h := none) ?_ Tryz.underlying32 T160 ⟨(by decide), hc11, (Int.le_refl _)⟩
          obtain ⟨t12, e13, H⟩ := bindO H
          refine a_callM (v := .tup []) (nk := []) (L := []) (Mk := [(202, _)]) (ck := [(202, .row 160 (t12.map c159))]) ?_ rfl (slices_Reverse_impl_Point__cut.ok e13) (fun κ => cond (Nat.beq κ 0) 202 (κ)) (fun κ => cond (Nat.beq κ 202) 0 (κ)) (mcU m0) trivial ⟨rfl, trivial⟩ trivial ⟨rfl, trivial⟩ trivial ⟨rfl, trivial⟩ rfl rfl rfl
          refine RA.nil nofun ?_
          refine AG.relen 202 t12.length ?_
          refine AG.seq ?_
          refine AG.region HM ?_
          refine a_move (v := .c (.own _ _)) ?_
          obtain ⟨⟨t14, t15, t16, t17⟩, e18, H⟩ := bindO H
          refine a_call (v := .tup [.agg [.d (.v (.int .i64 t14)), .d (.v (.int .i64 t15))], .agg [.d (.v (.int .i64 t16)), .d (.v (.int .i64 t17))]]) (nk := []) (L := [(202, _)]) ?_ rfl (impl_bounds.ok e18) id (qc rO qn) ⟨rfl, trivial⟩ trivial trivial rfl
          refine a_move (v := .tup [_, _]) ?_
          refine a_ext (v := .agg [_, _]) ?_
          refine a_ext (v := .agg [_, _]) ?_
          refine a_alloc (cs := [_, _]) 208 ?_ T160
          refine a_alloc (cs := [_, _]) 209 ?_ T160
          refine a_stB (cs' := [_, _]) ?_ T160
          refine a_stB (cs' := [_, _]) ?_ T160
          refine RA.nil nofun ?_
          refine AG.seq ?_
          refine AG.region HM ?_
          refine a_move (v := .c (.own _ _)) ?_
          refine a_faB (q := 0) ?_ D160_0
          refine a_ldB (v := vI _) ?_ T2
          refine a_un (u := .int .i64 (wrap64 (0 - t14))) ?_
          refine a_faB (q := 1) ?_ D160_1
          refine a_ldB (v := vI _) ?_ T2
          refine a_un (u := .int .i64 (wrap64 (0 - t15))) ?_
          obtain ⟨t19, e20, H⟩ := bindO H
          refine a_call (v := .c (.own 210 t19.length)) (nk := [(210, .row 160 (t19.map c159))]) (L := [(202, _)]) ?_ rfl (impl_shifted.ok e20) (fun κ => cond (Nat.beq κ 210) 100 (κ)) (qc rO (qd (qd qn))) ⟨rfl, trivial⟩ ⟨rfl, trivial⟩ ⟨rfl, trivial⟩ rfl
          refine a_move (v := .c (.own _ _)) ?_
          refine RA.nil nofun ?_
          refine AG.ret ?_
          obtain rfl := Option.some.inj H
          exact RetP.mk (fun κ => cond (Nat.beq κ 100) 210 (κ)) ⟨rfl, trivial⟩ ⟨rfl, trivial⟩ rfl
        · rw [if_neg hc11] at H
          cases H
      · rw [if_neg hc10] at H
        refine AG.no rfl (decide_eq_false hc10) ?_
        refine AG.skip ?_
        refine AG.seq ?_
        refine AG.region HM ?_
        refine a_move (v := .c (.own _ _)) ?_
        obtain ⟨⟨t21, t22, t23, t24⟩, e25, H⟩ := bindO H
        refine a_call (v := .tup [.agg [.d (.v (.int .i64 t21)), .d (.v (.int .i64 t22))], .agg [.d (.v (.int .i64 t23)), .d (.v (.int .i64 t24))]]) (nk := []) (L := [(202, _)]) ?_ rfl (impl_bounds.ok e25) id (qc rO qn) ⟨rfl, trivial⟩ trivial trivial rfl
        refine a_move (v := .tup [_, _]) ?_
        refine a_ext (v := .agg [_, _]) ?_
        refine a_ext (v := .agg [_, _]) ?_
        refine a_alloc (cs := [_, _]) 208 ?_ T160
        refine a_alloc (cs := [_, _]) 209 ?_ T160
        refine a_stB (cs' := [_, _]) ?_ T160
        refine a_stB (cs' := [_, _]) ?_ T160
        refine RA.nil nofun ?_
        refine AG.seq ?_
        refine AG.region HM ?_
        refine a_move (v := .c (.own _ _)) ?_
        refine a_faB (q := 0) ?_ D160_0
        refine a_ldB (v := vI _) ?_ T2
        refine a_un (u := .int .i64 (wrap64 (0 - t21))) ?_
        refine a_faB (q := 1) ?_ D160_1
        refine a_ldB (v := vI _) ?_ T2
        refine a_un (u := .int .i64 (wrap64 (0 - t22))) ?_
        obtain ⟨t26, e27, H⟩ := bindO H
        refine a_call (v := .c (.own 210 t26.length)) (nk := [(210, .row 160 (t26.map c159))]) (L := [(202, _)]) ?_ rfl (impl_shifted.ok e27) (fun κ => cond (Nat.beq κ 210) 100 (κ)) (qc rO (qd (qd qn))) ⟨rfl, trivial⟩ ⟨rfl, trivial⟩ ⟨rfl, trivial⟩ rfl
        refine a_move (v := .c (.own _ _)) ?_
        refine RA.nil nofun ?_
        refine AG.ret ?_
        obtain rfl := Option.some.inj H
        exact RetP.mk (fun κ => cond (Nat.beq κ 100) 210 (κ)) ⟨rfl, trivial⟩ ⟨rfl, trivial⟩ rfl
/-! ### impl_turnsThatFit: function 118 -/
def impl_turnsThatFit.l0 : Nat → List S159 → Int → Int → List Int → Int → Option ((List Int))
  | 0, _, _, _, _, _ => none
  | k + 1, x0, y203_6, y203_7, x5, x10 => if x10 < 8 then ((impl_turnPoints.f k x0 x10).bind fun t3 => ((impl_bounds.f k t3).bind fun bt5 => (if bt5.2.2.1 ≤ y203_6 then (if bt5.2.2.2 ≤ y203_7 then (if x5.length < 17592186044416 then (impl_turnsThatFit.l0 k x0 y203_6 y203_7 (x5 ++ [x10]) (wrap64 (x10 + 1))) else (none)) else (impl_turnsThatFit.l0 k x0 y203_6 y203_7 x5 (wrap64 (x10 + 1)))) else (impl_turnsThatFit.l0 k x0 y203_6 y203_7 x5 (wrap64 (x10 + 1)))))) else (some x5)
def impl_turnsThatFit.f (k : Nat) (l0 : List S159) (a1_0 : ByteArray) (a1_1 : ByteArray) (a1_2 : Int) (a1_3 : ByteArray) (a1_4 : Int) (a1_5 : Int) (a1_6 : Int) (a1_7 : Int) (l1_8 : List S176) : Option ((List Int)) := impl_turnsThatFit.l0 k l0 a1_6 a1_7 ([] : List Int) 0
set_option maxRecDepth 100000 in
theorem impl_turnsThatFit.ok {k : Nat} {l0 : List S159} {a1_0 : ByteArray} {a1_1 : ByteArray} {a1_2 : Int} {a1_3 : ByteArray} {a1_4 : Int} {a1_5 : Int} {a1_6 : Int} {a1_7 : Int} {l1_8 : List S176} {r : List Int} (H : impl_turnsThatFit.f k l0 a1_0 a1_1 a1_2 a1_3 a1_4 a1_5 a1_6 a1_7 l1_8 = some r) : OkF Tryz.prog 118 [vR 160 (l0.map c159), .agg [.d (.v (.string a1_0)), .d (.v (.string a1_1)), .d (.v (.int .i64 a1_2)), .d (.v (.string a1_3)), .d (.v (.int .i64 a1_4)), .d (.v (.int .i64 a1_5)), .d (.v (.int .i64 a1_6)), .d (.v (.int .i64 a1_7)), .d (.row 177 (l1_8.map c176))]] [] (.c (.own 100 r.length)) [(100, .row 2 (r.map c2))] := by
  unfold impl_turnsThatFit.f at H
  refine OkF.of (N := 38) (rs := [4]) (avs := [.c (.own 100 r.length)]) Tryz.func118 rfl rfl (fun _ _ => results_tmp rfl _ _ _) (by decide) rfl rfl rfl rfl (fun w0 S => ?_)
  refine AG.seq ?_
  refine AG.region HM ?_
  refine a_box 200 ?_
  refine a_nilO (e := 2) 201 ?_ T2
  refine RA.nil nofun ?_
  refine AG.seq ?_
  refine AG.region HM ?_
  refine a_lit (cs := []) (D := []) (css := ([] : List Int).map c2) 202 ?_ N29 T2 (hcss := by rfl)
  refine a_move (v := .c (.own _ _)) ?_
  refine RA.nil nofun ?_
  refine AG.seq ?_
  refine AG.seq ?_
  refine AG.region HM ?_
  refine a_move (v := vI _) ?_
  refine RA.nil nofun ?_
  refine AG.block ?_
  refine AG.loop ?_
  obtain ⟨K0, hK0, gK0⟩ : ∃ K, k ≤ K ∧ K ≤ k := ⟨k, Nat.le_refl k, Nat.le_refl k⟩
  refine AGr.canon (fun κ => cond (Nat.beq κ 203) 200 (cond (Nat.beq κ 204) 202 (κ))) (AGr.loopI (n := k) (fun k s => k ≤ K0 ∧ ∃ (x0 : List S159) (y203_0 : ByteArray) (y203_1 : ByteArray) (y203_2 : Int) (y203_3 : ByteArray) (y203_4 : Int) (y203_5 : Int) (y203_6 : Int) (y203_7 : Int) (y203_8 : List S176) (x5 : List Int) (x10 : Int), impl_turnsThatFit.l0 k x0 y203_6 y203_7 x5 x10 = some r ∧ s = St.of [(0, vR 160 (x0.map c159)), (3, .c (.ptr 203 0)), (5, .c (.own 204 x5.length)), (10, vI x10)] [(203, .box 95 [.d (.v (.string y203_0)), .d (.v (.string y203_1)), .d (.v (.int .i64 y203_2)), .d (.v (.string y203_3)), .d (.v (.int .i64 y203_4)), .d (.v (.int .i64 y203_5)), .d (.v (.int .i64 y203_6)), .d (.v (.int .i64 y203_7)), .d (.row 177 (y203_8.map c176))]), (204, .row 2 (x5.map c2))]) ⟨hK0, _, _, _, _, _, _, _, _, _, _, _, _, H, rfl⟩ ?_ ?_) ⟨rfl, rfl, (ownE rfl (by simp)), rfl, trivial⟩ ⟨rfl, rfl, trivial⟩ rfl
  · rintro _ ⟨_, _, _, _, _, _, _, _, _, _, _, _, _, H, _⟩
    cases H
  · clear H hK0
    rintro k ih0 _ ⟨hK0, x0, y203_0, y203_1, y203_2, y203_3, y203_4, y203_5, y203_6, y203_7, y203_8, x5, x10, H, rfl⟩
    unfold impl_turnsThatFit.l0 at H
    refine AG.seq ?_
    refine AG.region HM ?_
    refine a_int (u := .bool (decide (x10 < 8))) ?_
    refine RA.nil nofun ?_
    refine AG.seq ?_
    by_cases hc2 : x10 < 8
    · rw [if_pos hc2] at H
      refine AG.yes rfl (decide_eq_true hc2) ?_
      refine AG.skip ?_
      refine AG.seq ?_
      refine AG.block ?_
      refine AG.seq ?_
      refine AG.region HM ?_
      refine a_move (v := vI _) ?_
      refine a_move (v := vI _) ?_
      refine RA.nil nofun ?_
      refine AG.seq ?_
      refine AG.region HM ?_
      refine a_move (v := vR _ _) ?_
      refine a_move (v := vI _) ?_
      obtain ⟨t3, e4, H⟩ := bindO H
      refine a_call (v := .c (.own 205 t3.length)) (nk := [(205, .row 160 (t3.map c159))]) (L := []) ?_ rfl (impl_turnPoints.ok e4) (fun κ => cond (Nat.beq κ 205) 100 (κ)) (qd (qd qn)) trivial ⟨rfl, trivial⟩ ⟨rfl, trivial⟩ rfl
      obtain ⟨⟨t5, t6, t7, t8⟩, e9, H⟩ := bindO H
      refine a_call (v := .tup [.agg [.d (.v (.int .i64 t5)), .d (.v (.int .i64 t6))], .agg [.d (.v (.int .i64 t7)), .d (.v (.int .i64 t8))]]) (nk := []) (L := [(205, _)]) ?_ rfl (impl_bounds.ok e9) id (qc rO qn) ⟨rfl, trivial⟩ trivial trivial rfl
      refine a_move (v := .tup [_, _]) ?_
      refine a_ext (v := .agg [_, _]) ?_
      refine a_ext (v := .agg [_, _]) ?_
      refine a_alloc (cs := [_, _]) 207 ?_ T160
      refine a_alloc (cs := [_, _]) 208 ?_ T160
      refine a_stB (cs' := [_, _]) ?_ T160
      refine a_stB (cs' := [_, _]) ?_ T160
      refine RA.nil nofun ?_
      refine AG.seq ?_
      refine AG.region HM ?_
      refine a_faB (q := 0) ?_ D160_0
      refine a_ldB (v := vI _) ?_ T2
      refine a_faB (q := 6) ?_ D95_4
      refine a_ldB (v := vI _) ?_ T2
      refine a_int (u := .bool (decide (t7 ≤ y203_6))) ?_
      refine a_move (v := vB _) ?_
      by_cases hc10 : t7 ≤ y203_6
      · rw [if_pos hc10] at H
        refine a_faB (q := 1) ?_ D160_1 (hg := Gs.yes rfl rfl rfl (decide_eq_true hc10))
        refine a_ldB (v := vI _) ?_ T2 (hg := Gs.yes rfl rfl rfl (decide_eq_true hc10))
        refine a_faB (q := 7) ?_ D95_5 (hg := Gs.yes rfl rfl rfl (decide_eq_true hc10))
        refine a_ldB (v := vI _) ?_ T2 (hg := Gs.yes rfl rfl rfl (decide_eq_true hc10))
        refine a_int (u := .bool (decide (t8 ≤ y203_7))) ?_ (hg := Gs.yes rfl rfl rfl (decide_eq_true hc10))
        refine a_pick (b := true) (v := vB _) ?_ (decide_eq_true hc10)
        refine RA.nil nofun ?_
        by_cases hc11 : t8 ≤ y203_7
        · rw [if_pos hc11] at H
          refine AG.yes rfl (decide_eq_true hc11) ?_
          refine AG.region HM ?_
          refine a_move (v := .c (.own _ _)) ?_
          refine a_move (v := vI _) ?_
          refine a_lit (cs := [_]) (D := []) (css := ([x10]).map c2) 209 ?_ N29 T2
          by_cases hc12 : x5.length < 17592186044416
          · rw [if_pos hc12] at H
            refine a_appO (css' := (x5 ++ [x10]).map c2) (n' := (x5 ++ [x10]).length) ?_ T2 (by simp [maxLen]; omega) (by simp; omega) Tryz.underlying29 (hc := by exact List.map_append.symm) (hn := by exact List.length_map _)
            refine a_move (v := .c (.own _ _)) ?_
            refine RA.nil nofun ?_
            refine AG.region HM ?_
            refine a_int (u := .int .i64 (wrap64 (x10 + 1))) ?_
            refine a_move (v := vI _) ?_
            refine RA.nil nofun ?_
            exact AGr.canon id (ih0 _ (by omega) _ ⟨by omega, _, _, _, _, _, _, _, _, _, _, _, _, H, rfl⟩) ⟨rfl, rfl, rfl, rfl, trivial⟩ ⟨rfl, rfl, trivial⟩ rfl
          · rw [if_neg hc12] at H
            cases H
        · rw [if_neg hc11] at H
          refine AG.no rfl (decide_eq_false hc11) ?_
          refine AG.skip ?_
          refine AG.region HM ?_
          refine a_int (u := .int .i64 (wrap64 (x10 + 1))) ?_
          refine a_move (v := vI _) ?_
          refine RA.nil nofun ?_
          exact AGr.canon id (ih0 _ (by omega) _ ⟨by omega, _, _, _, _, _, _, _, _, _, _, _, _, H, rfl⟩) ⟨rfl, rfl, rfl, rfl, trivial⟩ ⟨rfl, rfl, trivial⟩ rfl
      · rw [if_neg hc10] at H
        refine RA.skip rfl rfl rfl rfl rfl (decide_eq_false hc10) (by decide) ?_
        refine RA.skip rfl rfl rfl rfl rfl (decide_eq_false hc10) (by decide) ?_
        refine RA.skip rfl rfl rfl rfl rfl (decide_eq_false hc10) (by decide) ?_
        refine RA.skip rfl rfl rfl rfl rfl (decide_eq_false hc10) (by decide) ?_
        refine RA.skip rfl rfl rfl rfl rfl (decide_eq_false hc10) (by decide) ?_
        refine a_pick (b := false) (v := vB _) ?_ (decide_eq_false hc10)
        refine RA.nil nofun ?_
        refine AG.no rfl rfl ?_
        refine AG.skip ?_
        refine AG.region HM ?_
        refine a_int (u := .int .i64 (wrap64 (x10 + 1))) ?_
        refine a_move (v := vI _) ?_
        refine RA.nil nofun ?_
        exact AGr.canon id (ih0 _ (by omega) _ ⟨by omega, _, _, _, _, _, _, _, _, _, _, _, _, H, rfl⟩) ⟨rfl, rfl, rfl, rfl, trivial⟩ ⟨rfl, rfl, trivial⟩ rfl
    · rw [if_neg hc2] at H
      refine AG.no rfl (decide_eq_false hc2) ?_
      refine AG.exit ?_
      refine AG.seq ?_
      refine AG.region HM ?_
      refine a_move (v := .c (.own _ _)) ?_
      refine a_move (v := .c (.own _ _)) ?_
      refine RA.nil nofun ?_
      refine AG.ret ?_
      obtain rfl := Option.some.inj H
      exact RetP.mk (fun κ => cond (Nat.beq κ 100) 204 (κ)) ⟨rfl, trivial⟩ ⟨rfl, trivial⟩ rfl
/-! ### impl_unfit_1: function 117 -/
def impl_unfit_1.f (k : Nat) (a0_0 : ByteArray) (a0_1 : ByteArray) (a0_2 : Int) (a0_3 : ByteArray) (a0_4 : Int) (a0_5 : Int) (a0_6 : Int) (a0_7 : Int) (l0_8 : List S176) (v_0_0 : List S159) : Option (Bool) := (impl_turnsThatFit.f k v_0_0 a0_0 a0_1 a0_2 a0_3 a0_4 a0_5 a0_6 a0_7 l0_8).bind fun t1 => (some (decide ((t1.length : Int) > 0)))
set_option maxRecDepth 100000 in
theorem impl_unfit_1.ok {k : Nat} {a0_0 : ByteArray} {a0_1 : ByteArray} {a0_2 : Int} {a0_3 : ByteArray} {a0_4 : Int} {a0_5 : Int} {a0_6 : Int} {a0_7 : Int} {l0_8 : List S176} {v_0_0 : List S159} {r : Bool} (H : impl_unfit_1.f k a0_0 a0_1 a0_2 a0_3 a0_4 a0_5 a0_6 a0_7 l0_8 v_0_0 = some r) : OkF Tryz.prog 117 [.agg [.d (.v (.string a0_0)), .d (.v (.string a0_1)), .d (.v (.int .i64 a0_2)), .d (.v (.string a0_3)), .d (.v (.int .i64 a0_4)), .d (.v (.int .i64 a0_5)), .d (.v (.int .i64 a0_6)), .d (.v (.int .i64 a0_7)), .d (.row 177 (l0_8.map c176))], .c (.d (.ro [.row 160 (v_0_0.map c159)]))] [] (.c (.d (.v (.bool r)))) [] := by
  unfold impl_unfit_1.f at H
  refine OkF.of (N := 9) (rs := [3]) (avs := [.c (.d (.v (.bool r)))]) Tryz.func117 rfl rfl (fun _ _ => results_tmp rfl _ _ _) (by decide) rfl rfl rfl rfl (fun w0 S => ?_)
  refine AG.seq ?_
  refine AG.region HM ?_
  refine a_box 200 ?_
  refine a_move (v := vB _) ?_
  refine RA.nil nofun ?_
  refine AG.seq ?_
  refine AG.region HM ?_
  refine a_ldR (v := vR _ _) ?_ T32
  refine a_ldB (v := .agg [_, _, _, _, _, _, _, _, _]) ?_ T95
  obtain ⟨t1, e2, H⟩ := bindO H
  refine a_call (v := .c (.own 201 t1.length)) (nk := [(201, .row 2 (t1.map c2))]) (L := []) ?_ rfl (impl_turnsThatFit.ok e2) (fun κ => cond (Nat.beq κ 201) 100 (κ)) (qd (qg qn)) trivial ⟨rfl, trivial⟩ ⟨rfl, trivial⟩ rfl
  refine a_lenO ?_ Tryz.underlying29
  refine a_int (u := .bool (decide ((t1.length : Int) > 0))) ?_
  refine a_move (v := vB _) ?_
  refine RA.nil nofun ?_
  refine AG.ret ?_
  obtain rfl := Option.some.inj H
  exact RetP.mk id ⟨rfl, trivial⟩ trivial rfl
/-! ### slices_IndexFunc_impl_Leaf__impl_unfit_1: function 168 -/
def slices_IndexFunc_impl_Leaf__impl_unfit_1.l0 : Nat → List S94 → List S159 → Int → Int → Option (Int)
  | 0, _, _, _, _ => none
  | k + 1, x0, x1_0_0, x7, x8 => if x8 < x7 then (if 0 ≤ x8 then (if x8 < (x0.length : Int) then ((impl_unfit_1.f k ((rd94 x0 x8).f0) ((rd94 x0 x8).f1) ((rd94 x0 x8).f2) ((rd94 x0 x8).f3.f0) ((rd94 x0 x8).f3.f1) ((rd94 x0 x8).f3.f2) ((rd94 x0 x8).f4) ((rd94 x0 x8).f5) ((rd94 x0 x8).f6) x1_0_0).bind fun t4 => (if t4 = true then (some x8) else (slices_IndexFunc_impl_Leaf__impl_unfit_1.l0 k x0 x1_0_0 x7 (wrap64 (x8 + 1))))) else (none)) else (none)) else (some (-1))
def slices_IndexFunc_impl_Leaf__impl_unfit_1.f (k : Nat) (l0 : List S94) (v1_0_0 : List S159) : Option (Int) := slices_IndexFunc_impl_Leaf__impl_unfit_1.l0 k l0 v1_0_0 (l0.length : Int) 0
set_option maxRecDepth 100000 in
theorem slices_IndexFunc_impl_Leaf__impl_unfit_1.ok {k : Nat} {l0 : List S94} {v1_0_0 : List S159} {r : Int} (H : slices_IndexFunc_impl_Leaf__impl_unfit_1.f k l0 v1_0_0 = some r) : OkF Tryz.prog 168 [vR 95 (l0.map c94), .c (.d (.fn 117 [.ro [.row 160 (v1_0_0.map c159)]]))] [] (.c (.d (.v (.int .i64 r)))) [] := by
  unfold slices_IndexFunc_impl_Leaf__impl_unfit_1.f at H
  refine OkF.of (N := 19) (rs := [4]) (avs := [.c (.d (.v (.int .i64 r)))]) Tryz.func168 rfl rfl (fun _ _ => results_tmp rfl _ _ _) (by decide) rfl rfl rfl rfl (fun w0 S => ?_)
  refine AG.seq ?_
  refine AG.region HM ?_
  refine a_move (v := vI _) ?_
  refine RA.nil nofun ?_
  refine AG.seq ?_
  refine AG.seq ?_
  refine AG.region HM ?_
  refine a_move (v := vR _ _) ?_
  refine a_lenR ?_ Tryz.underlying37
  refine a_move (v := vI _) ?_
  refine RA.nil nofun ?_
  refine AG.block ?_
  refine AG.loop ?_
  obtain ⟨K0, hK0, gK0⟩ : ∃ K, k ≤ K ∧ K ≤ k := ⟨k, Nat.le_refl k, Nat.le_refl k⟩
  refine AGr.canon id (AGr.loopI (n := k) (fun k s => k ≤ K0 ∧ ∃ (x0 : List S94) (x1_0_0 : List S159) (x7 : Int) (x8 : Int), slices_IndexFunc_impl_Leaf__impl_unfit_1.l0 k x0 x1_0_0 x7 x8 = some r ∧ s = St.of [(0, vR 95 (x0.map c94)), (1, .c (.d (.fn 117 [.ro [.row 160 (x1_0_0.map c159)]]))), (7, vI x7), (8, vI x8)] []) ⟨hK0, _, _, _, _, H, rfl⟩ ?_ ?_) ⟨rfl, rfl, rfl, rfl, trivial⟩ trivial rfl
  · rintro _ ⟨_, _, _, _, _, H, _⟩
    cases H
  · clear H hK0
    rintro k ih0 _ ⟨hK0, x0, x1_0_0, x7, x8, H, rfl⟩
    unfold slices_IndexFunc_impl_Leaf__impl_unfit_1.l0 at H
    refine AG.seq ?_
    refine AG.region HM ?_
    refine a_int (u := .bool (decide (x8 < x7))) ?_
    refine RA.nil nofun ?_
    refine AG.seq ?_
    by_cases hc1 : x8 < x7
    · rw [if_pos hc1] at H
      refine AG.yes rfl (decide_eq_true hc1) ?_
      refine AG.skip ?_
      refine AG.seq ?_
      refine AG.block ?_
      refine AG.seq ?_
      refine AG.region HM ?_
      refine a_move (v := vI _) ?_
      refine a_move (v := vI _) ?_
      refine RA.nil nofun ?_
      refine AG.seq ?_
      refine AG.region HM ?_
      refine a_move (v := .c (.d (.fn _ _))) ?_
      refine a_move (v := vR _ _) ?_
      refine a_move (v := vI _) ?_
      by_cases hc2 : 0 ≤ x8
      · rw [if_pos hc2] at H
        by_cases hc3 : x8 < (x0.length : Int)
        · rw [if_pos hc3] at H
          refine a_ixR (el := c94 (rd94 x0 x8)) ?_ ⟨hc2, hc3⟩ T95 Tryz.underlying37 (hel := R94 hc2 hc3)
          refine a_ldR (v := .agg [_, _, _, _, _, _, _, _, _]) ?_ T95
          obtain ⟨t4, e5, H⟩ := bindO H
          refine a_callW (v := vB t4) (nk := []) (L := []) ?_ rfl rfl (impl_unfit_1.ok e5) id (qg qn) rfl trivial trivial trivial rfl
          refine RA.nil nofun ?_
          by_cases hc6 : t4 = true
          · rw [if_pos hc6] at H
            refine AG.yes rfl hc6 ?_
            refine AG.seq ?_
            refine AG.region HM ?_
            refine a_move (v := vI _) ?_
            refine a_move (v := vI _) ?_
            refine RA.nil nofun ?_
            refine AG.ret ?_
            obtain rfl := Option.some.inj H
            exact RetP.mk id ⟨rfl, trivial⟩ trivial rfl
          · rw [if_neg hc6] at H
            refine AG.no rfl (Bool.eq_false_iff.2 hc6) ?_
            refine AG.skip ?_
            refine AG.region HM ?_
            refine a_int (u := .int .i64 (wrap64 (x8 + 1))) ?_
            refine a_move (v := vI _) ?_
            refine RA.nil nofun ?_
            exact AGr.canon id (ih0 _ (by omega) _ ⟨by omega, _, _, _, _, H, rfl⟩) ⟨rfl, rfl, rfl, rfl, trivial⟩ trivial rfl
        · rw [if_neg hc3] at H
          cases H
      · rw [if_neg hc2] at H
        cases H
    · rw [if_neg hc1] at H
      refine AG.no rfl (decide_eq_false hc1) ?_
      refine AG.exit ?_
      refine AG.seq ?_
      refine AG.region HM ?_
      refine a_move (v := vI _) ?_
      refine RA.nil nofun ?_
      refine AG.ret ?_
      obtain rfl := Option.some.inj H
      exact RetP.mk id ⟨rfl, trivial⟩ trivial rfl
/-! ### slices_ContainsFunc_impl_Leaf__impl_unfit_1: function 116 -/
def slices_ContainsFunc_impl_Leaf__impl_unfit_1.f (k : Nat) (l0 : List S94) (v1_0_0 : List S159) : Option (Bool) := (slices_IndexFunc_impl_Leaf__impl_unfit_1.f k l0 v1_0_0).bind fun t1 => (some (decide (t1 ≥ 0)))
set_option maxRecDepth 100000 in
theorem slices_ContainsFunc_impl_Leaf__impl_unfit_1.ok {k : Nat} {l0 : List S94} {v1_0_0 : List S159} {r : Bool} (H : slices_ContainsFunc_impl_Leaf__impl_unfit_1.f k l0 v1_0_0 = some r) : OkF Tryz.prog 116 [vR 95 (l0.map c94), .c (.d (.fn 117 [.ro [.row 160 (v1_0_0.map c159)]]))] [] (.c (.d (.v (.bool r)))) [] := by
  unfold slices_ContainsFunc_impl_Leaf__impl_unfit_1.f at H
  refine OkF.of (N := 9) (rs := [4]) (avs := [.c (.d (.v (.bool r)))]) Tryz.func116 rfl rfl (fun _ _ => results_tmp rfl _ _ _) (by decide) rfl rfl rfl rfl (fun w0 S => ?_)
  refine AG.seq ?_
  refine AG.region HM ?_
  refine a_move (v := vB _) ?_
  refine RA.nil nofun ?_
  refine AG.seq ?_
  refine AG.region HM ?_
  refine a_move (v := vR _ _) ?_
  refine a_move (v := .c (.d (.fn _ _))) ?_
  obtain ⟨t1, e2, H⟩ := bindO H
  refine a_call (v := vI t1) (nk := []) (L := []) ?_ rfl (slices_IndexFunc_impl_Leaf__impl_unfit_1.ok e2) id (qd (qd qn)) trivial trivial trivial rfl
  refine a_int (u := .bool (decide (t1 ≥ 0))) ?_
  refine a_move (v := vB _) ?_
  refine RA.nil nofun ?_
  refine AG.ret ?_
  obtain rfl := Option.some.inj H
  exact RetP.mk id ⟨rfl, trivial⟩ trivial rfl
/-! ### impl_unfit: function 55 -/
def impl_unfit.l0 : Nat → List S94 → Int → Int → List S159 → List S146 → List Int → Int → Int → Option ((List Int))
  | 0, _, _, _, _, _, _, _, _ => none
  | k + 1, x1, y203_0, y203_1, y203_2, y203_3, x5, x11, x12 => if x12 < x11 then ((impl_facePolygon.f k y203_0 y203_1 y203_2 y203_3 x12).bind fun t3 => ((slices_ContainsFunc_impl_Leaf__impl_unfit_1.f k x1 t3).bind fun t5 => (if t5 = true then (impl_unfit.l0 k x1 y203_0 y203_1 y203_2 y203_3 x5 x11 (wrap64 (x12 + 1))) else (if x5.length < 17592186044416 then (impl_unfit.l0 k x1 y203_0 y203_1 y203_2 y203_3 (x5 ++ [x12]) x11 (wrap64 (x12 + 1))) else (none))))) else (some x5)
def impl_unfit.f (k : Nat) (a0_0 : Int) (a0_1 : Int) (l0_2 : List S159) (l0_3 : List S146) (l1 : List S94) : Option ((List Int)) := impl_unfit.l0 k l1 a0_0 a0_1 l0_2 l0_3 ([] : List Int) (l0_3.length : Int) 0
set_option maxRecDepth 100000 in
theorem impl_unfit.ok {k : Nat} {a0_0 : Int} {a0_1 : Int} {l0_2 : List S159} {l0_3 : List S146} {l1 : List S94} {r : List Int} (H : impl_unfit.f k a0_0 a0_1 l0_2 l0_3 l1 = some r) : OkF Tryz.prog 55 [.agg [.d (.v (.int .i64 a0_0)), .d (.v (.int .i64 a0_1)), .d (.row 160 (l0_2.map c159)), .d (.row 152 (l0_3.map c146))], vR 95 (l1.map c94)] [] (.c (.own 100 r.length)) [(100, .row 2 (r.map c2))] := by
  unfold impl_unfit.f at H
  refine OkF.of (N := 28) (rs := [4]) (avs := [.c (.own 100 r.length)]) Tryz.func55 rfl rfl (fun _ _ => results_tmp rfl _ _ _) (by decide) rfl rfl rfl rfl (fun w0 S => ?_)
  refine AG.seq ?_
  refine AG.region HM ?_
  refine a_box 200 ?_
  refine a_nilO (e := 2) 201 ?_ T2
  refine RA.nil nofun ?_
  refine AG.seq ?_
  refine AG.region HM ?_
  refine a_lit (cs := []) (D := []) (css := ([] : List Int).map c2) 202 ?_ N29 T2 (hcss := by rfl)
  refine a_move (v := .c (.own _ _)) ?_
  refine RA.nil nofun ?_
  refine AG.seq ?_
  refine AG.seq ?_
  refine AG.region HM ?_
  refine a_faB (q := 3) ?_ D35_3
  refine a_ldB (v := vR _ _) ?_ T33
  refine a_lenR ?_ Tryz.underlying33
  refine a_move (v := vI _) ?_
  refine RA.nil nofun ?_
  refine AG.block ?_
  refine AG.loop ?_
  obtain ⟨K0, hK0, gK0⟩ : ∃ K, k ≤ K ∧ K ≤ k := ⟨k, Nat.le_refl k, Nat.le_refl k⟩
  refine AGr.canon (fun κ => cond (Nat.beq κ 203) 200 (cond (Nat.beq κ 204) 202 (κ))) (AGr.loopI (n := k) (fun k s => k ≤ K0 ∧ ∃ (x1 : List S94) (y203_0 : Int) (y203_1 : Int) (y203_2 : List S159) (y203_3 : List S146) (x5 : List Int) (x11 : Int) (x12 : Int), impl_unfit.l0 k x1 y203_0 y203_1 y203_2 y203_3 x5 x11 x12 = some r ∧ s = St.of [(1, vR 95 (x1.map c94)), (2, .c (.ptr 203 0)), (5, .c (.own 204 x5.length)), (11, vI x11), (12, vI x12)] [(203, .box 35 [.d (.v (.int .i64 y203_0)), .d (.v (.int .i64 y203_1)), .d (.row 160 (y203_2.map c159)), .d (.row 152 (y203_3.map c146))]), (204, .row 2 (x5.map c2))]) ⟨hK0, _, _, _, _, _, _, _, _, H, rfl⟩ ?_ ?_) ⟨rfl, rfl, (ownE rfl (by simp)), rfl, rfl, trivial⟩ ⟨rfl, rfl, trivial⟩ rfl
  · rintro _ ⟨_, _, _, _, _, _, _, _, _, H, _⟩
    cases H
  · clear H hK0
    rintro k ih0 _ ⟨hK0, x1, y203_0, y203_1, y203_2, y203_3, x5, x11, x12, H, rfl⟩
    unfold impl_unfit.l0 at H
    refine AG.seq ?_
    refine AG.region HM ?_
    refine a_int (u := .bool (decide (x12 < x11))) ?_
    refine RA.nil nofun ?_
    refine AG.seq ?_
    by_cases hc2 : x12 < x11
    · rw [if_pos hc2] at H
      refine AG.yes rfl (decide_eq_true hc2) ?_
      refine AG.skip ?_
      refine AG.seq ?_
      refine AG.block ?_
      refine AG.seq ?_
      refine AG.region HM ?_
      refine a_move (v := vI _) ?_
      refine a_move (v := vI _) ?_
      refine RA.nil nofun ?_
      refine AG.seq ?_
      refine AG.region HM ?_
      refine a_ldB (v := .agg [_, _, _, _]) ?_ T35
      refine a_move (v := vI _) ?_
      obtain ⟨t3, e4, H⟩ := bindO H
      refine a_call (v := .c (.own 205 t3.length)) (nk := [(205, .row 160 (t3.map c159))]) (L := []) ?_ rfl (impl_facePolygon.ok e4) (fun κ => cond (Nat.beq κ 205) 100 (κ)) (qg (qd qn)) trivial ⟨rfl, trivial⟩ ⟨rfl, trivial⟩ rfl
      refine a_alloc (cs := [_]) 206 ?_ T32
      refine a_stB (cs' := [_]) ?_ T32
      refine RA.nil nofun ?_
      refine AG.seq ?_
      refine AG.region HM ?_
      refine a_move (v := vR _ _) ?_
      refine a_fnc (ks := [206]) ?_
      obtain ⟨t5, e6, H⟩ := bindO H
      refine a_call (v := vB t5) (nk := []) (L := [(206, _), (205, _)]) ?_ rfl (slices_ContainsFunc_impl_Leaf__impl_unfit_1.ok e6) id (qd (qc (rF1 (rP (κ := 206) (off := 0) (cs := [.own 205 t3.length]) (pC rO p0))) qn)) ⟨rfl, rfl, trivial⟩ trivial trivial rfl
      refine a_un (u := .bool (!t5)) ?_
      refine RA.nil nofun ?_
      by_cases hc7 : t5 = true
      · rw [if_pos hc7] at H
        refine AG.no rfl (congrArg Bool.not hc7) ?_
        refine AG.skip ?_
        refine AG.region HM ?_
        refine a_int (u := .int .i64 (wrap64 (x12 + 1))) ?_
        refine a_move (v := vI _) ?_
        refine RA.nil nofun ?_
        exact AGr.canon id (ih0 _ (by omega) _ ⟨by omega, _, _, _, _, _, _, _, _, H, rfl⟩) ⟨rfl, rfl, rfl, rfl, rfl, trivial⟩ ⟨rfl, rfl, trivial⟩ rfl
      · rw [if_neg hc7] at H
        refine AG.yes rfl (congrArg Bool.not (Bool.eq_false_iff.2 hc7)) ?_
        refine AG.region HM ?_
        refine a_move (v := .c (.own _ _)) ?_
        refine a_move (v := vI _) ?_
        refine a_lit (cs := [_]) (D := []) (css := ([x12]).map c2) 208 ?_ N29 T2
        by_cases hc8 : x5.length < 17592186044416
        · rw [if_pos hc8] at H
          refine a_appO (css' := (x5 ++ [x12]).map c2) (n' := (x5 ++ [x12]).length) ?_ T2 (by simp [maxLen]; omega) (by simp; omega) Tryz.underlying29 (hc := by exact List.map_append.symm) (hn := by exact List.length_map _)
          refine a_move (v := .c (.own _ _)) ?_
          refine RA.nil nofun ?_
          refine AG.region HM ?_
          refine a_int (u := .int .i64 (wrap64 (x12 + 1))) ?_
          refine a_move (v := vI _) ?_
          refine RA.nil nofun ?_
          exact AGr.canon id (ih0 _ (by omega) _ ⟨by omega, _, _, _, _, _, _, _, _, H, rfl⟩) ⟨rfl, rfl, rfl, rfl, rfl, trivial⟩ ⟨rfl, rfl, trivial⟩ rfl
        · rw [if_neg hc8] at H
          cases H
    · rw [if_neg hc2] at H
      refine AG.no rfl (decide_eq_false hc2) ?_
      refine AG.exit ?_
      refine AG.seq ?_
      refine AG.region HM ?_
      refine a_move (v := .c (.own _ _)) ?_
      refine a_move (v := .c (.own _ _)) ?_
      refine RA.nil nofun ?_
      refine AG.ret ?_
      obtain rfl := Option.some.inj H
      exact RetP.mk (fun κ => cond (Nat.beq κ 100) 204 (κ)) ⟨rfl, trivial⟩ ⟨rfl, trivial⟩ rfl
/-! ### impl_UnfitFaces: function 14 -/
def impl_UnfitFaces.f (k : Nat) (a0_0 : Int) (a0_1 : Int) (l0_2 : List S159) (l0_3 : List S146) (l1 : List S94) : Option ((List Int) × Int) := (impl_ValidDrawing.f k a0_0 a0_1 l0_2 l0_3).bind fun t1 => (if t1 = true then ((impl_ValidLeaves.f k l1).bind fun t4 => (if t4 = true then ((impl_unfit.f k a0_0 a0_1 l0_2 l0_3 l1).bind fun t7 => (some (t7, 0))) else (some (([] : List Int), 1)))) else (some (([] : List Int), 1)))
set_option maxRecDepth 100000 in
theorem impl_UnfitFaces.ok {k : Nat} {a0_0 : Int} {a0_1 : Int} {l0_2 : List S159} {l0_3 : List S146} {l1 : List S94} {r0 : List Int} {r1 : Int} (H : impl_UnfitFaces.f k a0_0 a0_1 l0_2 l0_3 l1 = some (r0, r1)) : OkF Tryz.prog 14 [.agg [.d (.v (.int .i64 a0_0)), .d (.v (.int .i64 a0_1)), .d (.row 160 (l0_2.map c159)), .d (.row 152 (l0_3.map c146))], vR 95 (l1.map c94)] [] (.tup [.c (.own 100 r0.length), .c (.d (.v (.int .i64 r1)))]) [(100, .row 2 (r0.map c2))] := by
  unfold impl_UnfitFaces.f at H
  refine OkF.of (N := 17) (rs := [4, 5]) (avs := [.c (.own 100 r0.length), .c (.d (.v (.int .i64 r1)))]) Tryz.func14 rfl rfl (fun _ _ => results_tmp2 rfl _ _ _) (by decide) rfl rfl rfl rfl (fun w0 S => ?_)
  refine AG.seq ?_
  refine AG.region HM ?_
  refine a_box 200 ?_
  refine a_nilO (e := 2) 201 ?_ T2
  refine a_move (v := vI _) ?_
  refine RA.nil nofun ?_
  refine AG.seq ?_
  refine AG.seq ?_
  refine AG.region HM ?_
  refine a_ldB (v := .agg [_, _, _, _]) ?_ T35
  obtain ⟨t1, e2, H⟩ := bindO H
  refine a_call (v := vB t1) (nk := []) (L := []) ?_ rfl (impl_ValidDrawing.ok e2) id (qg qn) trivial trivial trivial rfl
  refine a_un (u := .bool (!t1)) ?_
  refine a_move (v := vB _) ?_
  by_cases hc3 : t1 = true
  · rw [if_pos hc3] at H
    refine a_move (v := vR _ _) ?_ (hg := Gs.yes rfl rfl rfl (congrArg Bool.not hc3))
    obtain ⟨t4, e5, H⟩ := bindO H
    refine a_call (v := vB t4) (nk := []) (L := []) ?_ rfl (impl_ValidLeaves.ok e5) id (qd qn) trivial trivial trivial rfl (hg := Gs.yes rfl rfl rfl (congrArg Bool.not hc3))
    refine a_un (u := .bool (!t4)) ?_ (hg := Gs.yes rfl rfl rfl (congrArg Bool.not hc3))
    refine a_pick (b := false) (v := vB _) ?_ (congrArg Bool.not hc3)
    refine RA.nil nofun ?_
    by_cases hc6 : t4 = true
    · rw [if_pos hc6] at H
      refine AG.no rfl (congrArg Bool.not hc6) ?_
      refine AG.skip ?_
      refine AG.seq ?_
      refine AG.region HM ?_
      refine a_ldB (v := .agg [_, _, _, _]) ?_ T35
      refine a_move (v := vR _ _) ?_
      obtain ⟨t7, e8, H⟩ := bindO H
      refine a_call (v := .c (.own 204 t7.length)) (nk := [(204, .row 2 (t7.map c2))]) (L := []) ?_ rfl (impl_unfit.ok e8) (fun κ => cond (Nat.beq κ 204) 100 (κ)) (qg (qd qn)) trivial ⟨rfl, trivial⟩ ⟨rfl, trivial⟩ rfl
      refine a_move (v := .c (.own _ _)) ?_
      refine a_move (v := vI _) ?_
      refine RA.nil nofun ?_
      refine AG.ret ?_
      simp only [Option.some.injEq, Prod.mk.injEq] at H
      obtain ⟨rfl, rfl⟩ := H
      exact RetP.mk (fun κ => cond (Nat.beq κ 100) 204 (κ)) ⟨rfl, rfl, trivial⟩ ⟨rfl, trivial⟩ rfl
    · rw [if_neg hc6] at H
      refine AG.yes rfl (congrArg Bool.not (Bool.eq_false_iff.2 hc6)) ?_
      refine AG.seq ?_
      refine AG.region HM ?_
      refine a_nilO (e := 2) 205 ?_ T2
      refine a_move (v := vI _) ?_
      refine RA.nil nofun ?_
      refine AG.ret ?_
      simp only [Option.some.injEq, Prod.mk.injEq] at H
      obtain ⟨rfl, rfl⟩ := H
      exact RetP.mk (fun κ => cond (Nat.beq κ 100) 205 (κ)) ⟨(ownE rfl (by simp)), rfl, trivial⟩ ⟨rfl, trivial⟩ rfl
  · rw [if_neg hc3] at H
    refine RA.skip rfl rfl rfl rfl rfl (congrArg Bool.not (Bool.eq_false_iff.2 hc3)) (by decide) ?_
    refine RA.skip rfl rfl rfl rfl rfl (congrArg Bool.not (Bool.eq_false_iff.2 hc3)) (by decide) ?_
    refine RA.skip rfl rfl rfl rfl rfl (congrArg Bool.not (Bool.eq_false_iff.2 hc3)) (by decide) ?_
    refine a_pick (b := true) (v := vB _) ?_ (congrArg Bool.not (Bool.eq_false_iff.2 hc3))
    refine RA.nil nofun ?_
    refine AG.yes rfl rfl ?_
    refine AG.seq ?_
    refine AG.region HM ?_
    refine a_nilO (e := 2) 205 ?_ T2
    refine a_move (v := vI _) ?_
    refine RA.nil nofun ?_
    refine AG.ret ?_
    simp only [Option.some.injEq, Prod.mk.injEq] at H
    obtain ⟨rfl, rfl⟩ := H
    exact RetP.mk (fun κ => cond (Nat.beq κ 100) 205 (κ)) ⟨(ownE rfl (by simp)), rfl, trivial⟩ ⟨rfl, trivial⟩ rfl
/-! ### laws_eqInt64S: function 15 -/
def laws_eqInt64S.l0 : Nat → List Int → List Int → Int → Option (Bool)
  | 0, _, _, _ => none
  | k + 1, x0, x1, x5 => if x5 < (x0.length : Int) then (if 0 ≤ x5 then (if x5 < (x1.length : Int) then (if (rd2 x0 x5) = (rd2 x1 x5) then (laws_eqInt64S.l0 k x0 x1 (wrap64 (x5 + 1))) else (some false)) else (none)) else (none)) else (some true)
def laws_eqInt64S.f (k : Nat) (l0 : List Int) (l1 : List Int) : Option (Bool) := if (l0.length : Int) = (l1.length : Int) then (laws_eqInt64S.l0 k l0 l1 0) else (some false)
set_option maxRecDepth 100000 in
theorem laws_eqInt64S.ok {k : Nat} {l0 : List Int} {l1 : List Int} {r : Bool} (H : laws_eqInt64S.f k l0 l1 = some r) : OkF Tryz.prog 15 [vR 2 (l0.map c2), vR 2 (l1.map c2)] [] (.c (.d (.v (.bool r)))) [] := by
  unfold laws_eqInt64S.f at H
  refine OkF.of (N := 26) (rs := [4]) (avs := [.c (.d (.v (.bool r)))]) Tryz.func15 rfl rfl (fun _ _ => results_tmp rfl _ _ _) (by decide) rfl rfl rfl rfl (fun w0 S => ?_)
  refine AG.seq ?_
  refine AG.region HM ?_
  refine a_move (v := vB _) ?_
  refine RA.nil nofun ?_
  refine AG.seq ?_
  refine AG.seq ?_
  refine AG.region HM ?_
  refine a_move (v := vR _ _) ?_
  refine a_lenR ?_ Tryz.underlying29
  refine a_move (v := vR _ _) ?_
  refine a_lenR ?_ Tryz.underlying29
  refine a_int (u := .bool (((l0.length : Int) != (l1.length : Int)))) ?_
  refine RA.nil nofun ?_
  by_cases hc1 : (l0.length : Int) = (l1.length : Int)
  · rw [if_pos hc1] at H
    refine AG.no rfl (bne_eq_false_iff_eq.2 hc1) ?_
    refine AG.skip ?_
    refine AG.seq ?_
    refine AG.seq ?_
    refine AG.region HM ?_
    refine a_move (v := vI _) ?_
    refine RA.nil nofun ?_
    refine AG.block ?_
    refine AG.loop ?_
    obtain ⟨K0, hK0, gK0⟩ : ∃ K, k ≤ K ∧ K ≤ k := ⟨k, Nat.le_refl k, Nat.le_refl k⟩
    refine AGr.canon id (AGr.loopI (n := k) (fun k s => k ≤ K0 ∧ ∃ (x0 : List Int) (x1 : List Int) (x5 : Int), laws_eqInt64S.l0 k x0 x1 x5 = some r ∧ s = St.of [(0, vR 2 (x0.map c2)), (1, vR 2 (x1.map c2)), (5, vI x5)] []) ⟨hK0, _, _, _, H, rfl⟩ ?_ ?_) ⟨rfl, rfl, rfl, trivial⟩ trivial rfl
    · rintro _ ⟨_, _, _, _, H, _⟩
      cases H
    · clear H hK0
      rintro k ih0 _ ⟨hK0, x0, x1, x5, H, rfl⟩
      unfold laws_eqInt64S.l0 at H
      refine AG.seq ?_
      refine AG.seq ?_
      refine AG.region HM ?_
      refine a_move (v := vI _) ?_
      refine a_move (v := vR _ _) ?_
      refine a_lenR ?_ Tryz.underlying29
      refine a_int (u := .bool (decide (x5 < (x0.length : Int)))) ?_
      refine RA.nil nofun ?_
      by_cases hc2 : x5 < (x0.length : Int)
      · rw [if_pos hc2] at H
        refine AG.yes rfl (decide_eq_true hc2) ?_
        refine AG.skip ?_
        refine AG.seq ?_
        refine AG.block ?_
        refine AG.seq ?_
        refine AG.region HM ?_
        refine a_move (v := vR _ _) ?_
        refine a_move (v := vI _) ?_
        by_cases hc3 : 0 ≤ x5
        · rw [if_pos hc3] at H
          refine a_ixR (el := c2 (rd2 x0 x5)) ?_ ⟨hc3, hc2⟩ T2 Tryz.underlying29 (hel := R2 hc3 hc2)
          refine a_ldR (v := vI _) ?_ T2
          refine a_move (v := vR _ _) ?_
          refine a_move (v := vI _) ?_
          by_cases hc4 : x5 < (x1.length : Int)
          · rw [if_pos hc4] at H
            refine a_ixR (el := c2 (rd2 x1 x5)) ?_ ⟨hc3, hc4⟩ T2 Tryz.underlying29 (hel := R2 hc3 hc4)
            refine a_ldR (v := vI _) ?_ T2
            refine a_int (u := .bool (((rd2 x0 x5) != (rd2 x1 x5)))) ?_
            refine RA.nil (fun _ => by kernel_rfl) ?_
            by_cases hc5 : (rd2 x0 x5) = (rd2 x1 x5)
            · rw [if_pos hc5] at H
              refine AG.no rfl (bne_eq_false_iff_eq.2 hc5) ?_
              refine AG.skip ?_
              refine AG.region HM ?_
              refine a_move (v := vI _) ?_
              refine a_int (u := .int .i64 (wrap64 (x5 + 1))) ?_
              refine a_move (v := vI _) ?_
              refine RA.nil nofun ?_
              exact AGr.canon id (ih0 _ (by omega) _ ⟨by omega, _, _, _, H, rfl⟩) ⟨rfl, rfl, rfl, trivial⟩ trivial rfl
            · rw [if_neg hc5] at H
              refine AG.yes rfl (bne_iff_ne.2 hc5) ?_
              refine AG.seq ?_
              refine AG.region HM ?_
              refine a_move (v := vB _) ?_
              refine RA.nil nofun ?_
              refine AG.ret ?_
              obtain rfl := Option.some.inj H
              exact RetP.mk id ⟨rfl, trivial⟩ trivial rfl
          · rw [if_neg hc4] at H
            cases H
        · rw [if_neg hc3] at H
          cases H
      · rw [if_neg hc2] at H
        refine AG.no rfl (decide_eq_false hc2) ?_
        refine AG.exit ?_
        refine AG.seq ?_
        refine AG.region HM ?_
        refine a_move (v := vB _) ?_
        refine RA.nil nofun ?_
        refine AG.ret ?_
        obtain rfl := Option.some.inj H
        exact RetP.mk id ⟨rfl, trivial⟩ trivial rfl
  · rw [if_neg hc1] at H
    refine AG.yes rfl (bne_iff_ne.2 hc1) ?_
    refine AG.seq ?_
    refine AG.region HM ?_
    refine a_move (v := vB _) ?_
    refine RA.nil nofun ?_
    refine AG.ret ?_
    obtain rfl := Option.some.inj H
    exact RetP.mk id ⟨rfl, trivial⟩ trivial rfl
/-! ### laws_eqPoint: function 119 -/
def laws_eqPoint.f (a0_0 : Int) (a0_1 : Int) (a1_0 : Int) (a1_1 : Int) : Option (Bool) := if a0_0 = a1_0 then (if a0_1 = a1_1 then (some true) else (some false)) else (some false)
set_option maxRecDepth 100000 in
theorem laws_eqPoint.ok {a0_0 : Int} {a0_1 : Int} {a1_0 : Int} {a1_1 : Int} {r : Bool} (H : laws_eqPoint.f a0_0 a0_1 a1_0 a1_1 = some r) : OkF Tryz.prog 119 [.agg [.d (.v (.int .i64 a0_0)), .d (.v (.int .i64 a0_1))], .agg [.d (.v (.int .i64 a1_0)), .d (.v (.int .i64 a1_1))]] [] (.c (.d (.v (.bool r)))) [] := by
  unfold laws_eqPoint.f at H
  refine OkF.of (N := 15) (rs := [4]) (avs := [.c (.d (.v (.bool r)))]) Tryz.func119 rfl rfl (fun _ _ => results_tmp rfl _ _ _) (by decide) rfl rfl rfl rfl (fun w0 S => ?_)
  refine AG.seq ?_
  refine AG.region HM ?_
  refine a_box 200 ?_
  refine a_box 201 ?_
  refine a_move (v := vB _) ?_
  refine RA.nil nofun ?_
  refine AG.seq ?_
  refine AG.seq ?_
  refine AG.region HM ?_
  refine a_faB (q := 0) ?_ D160_0
  refine a_ldB (v := vI _) ?_ T2
  refine a_faB (q := 0) ?_ D160_0
  refine a_ldB (v := vI _) ?_ T2
  refine a_int (u := .bool ((a0_0 != a1_0))) ?_
  refine RA.nil nofun ?_
  by_cases hc1 : a0_0 = a1_0
  · rw [if_pos hc1] at H
    refine AG.no rfl (bne_eq_false_iff_eq.2 hc1) ?_
    refine AG.skip ?_
    refine AG.seq ?_
    refine AG.seq ?_
    refine AG.region HM ?_
    refine a_faB (q := 1) ?_ D160_1
    refine a_ldB (v := vI _) ?_ T2
    refine a_faB (q := 1) ?_ D160_1
    refine a_ldB (v := vI _) ?_ T2
    refine a_int (u := .bool ((a0_1 != a1_1))) ?_
    refine RA.nil nofun ?_
    by_cases hc2 : a0_1 = a1_1
    · rw [if_pos hc2] at H
      refine AG.no rfl (bne_eq_false_iff_eq.2 hc2) ?_
      refine AG.skip ?_
      refine AG.seq ?_
      refine AG.region HM ?_
      refine a_move (v := vB _) ?_
      refine RA.nil nofun ?_
      refine AG.ret ?_
      obtain rfl := Option.some.inj H
      exact RetP.mk id ⟨rfl, trivial⟩ trivial rfl
    · rw [if_neg hc2] at H
      refine AG.yes rfl (bne_iff_ne.2 hc2) ?_
      refine AG.seq ?_
      refine AG.region HM ?_
      refine a_move (v := vB _) ?_
      refine RA.nil nofun ?_
      refine AG.ret ?_
      obtain rfl := Option.some.inj H
      exact RetP.mk id ⟨rfl, trivial⟩ trivial rfl
  · rw [if_neg hc1] at H
    refine AG.yes rfl (bne_iff_ne.2 hc1) ?_
    refine AG.seq ?_
    refine AG.region HM ?_
    refine a_move (v := vB _) ?_
    refine RA.nil nofun ?_
    refine AG.ret ?_
    obtain rfl := Option.some.inj H
    exact RetP.mk id ⟨rfl, trivial⟩ trivial rfl
/-! ### laws_eqPointS: function 56 -/
def laws_eqPointS.l0 : Nat → List S159 → List S159 → Int → Option (Bool)
  | 0, _, _, _ => none
  | k + 1, x0, x1, x5 => if x5 < (x0.length : Int) then (if 0 ≤ x5 then (if x5 < (x1.length : Int) then ((laws_eqPoint.f ((rd159 x0 x5).f0) ((rd159 x0 x5).f1) ((rd159 x1 x5).f0) ((rd159 x1 x5).f1)).bind fun t5 => (if t5 = true then (laws_eqPointS.l0 k x0 x1 (wrap64 (x5 + 1))) else (some false))) else (none)) else (none)) else (some true)
def laws_eqPointS.f (k : Nat) (l0 : List S159) (l1 : List S159) : Option (Bool) := if (l0.length : Int) = (l1.length : Int) then (laws_eqPointS.l0 k l0 l1 0) else (some false)
set_option maxRecDepth 100000 in
theorem laws_eqPointS.ok {k : Nat} {l0 : List S159} {l1 : List S159} {r : Bool} (H : laws_eqPointS.f k l0 l1 = some r) : OkF Tryz.prog 56 [vR 160 (l0.map c159), vR 160 (l1.map c159)] [] (.c (.d (.v (.bool r)))) [] := by
  unfold laws_eqPointS.f at H
  refine OkF.of (N := 27) (rs := [4]) (avs := [.c (.d (.v (.bool r)))]) Tryz.func56 rfl rfl (fun _ _ => results_tmp rfl _ _ _) (by decide) rfl rfl rfl rfl (fun w0 S => ?_)
  refine AG.seq ?_
  refine AG.region HM ?_
  refine a_move (v := vB _) ?_
  refine RA.nil nofun ?_
  refine AG.seq ?_
  refine AG.seq ?_
  refine AG.region HM ?_
  refine a_move (v := vR _ _) ?_
  refine a_lenR ?_ Tryz.underlying32
  refine a_move (v := vR _ _) ?_
  refine a_lenR ?_ Tryz.underlying32
  refine a_int (u := .bool (((l0.length : Int) != (l1.length : Int)))) ?_
  refine RA.nil nofun ?_
  by_cases hc1 : (l0.length : Int) = (l1.length : Int)
  · rw [if_pos hc1] at H
    refine AG.no rfl (bne_eq_false_iff_eq.2 hc1) ?_
    refine AG.skip ?_
    refine AG.seq ?_
    refine AG.seq ?_
    refine AG.region HM ?_
    refine a_move (v := vI _) ?_
    refine RA.nil nofun ?_
    refine AG.block ?_
    refine AG.loop ?_
    obtain ⟨K0, hK0, gK0⟩ : ∃ K, k ≤ K ∧ K ≤ k := ⟨k, Nat.le_refl k, Nat.le_refl k⟩
    refine AGr.canon id (AGr.loopI (n := k) (fun k s => k ≤ K0 ∧ ∃ (x0 : List S159) (x1 : List S159) (x5 : Int), laws_eqPointS.l0 k x0 x1 x5 = some r ∧ s = St.of [(0, vR 160 (x0.map c159)), (1, vR 160 (x1.map c159)), (5, vI x5)] []) ⟨hK0, _, _, _, H, rfl⟩ ?_ ?_) ⟨rfl, rfl, rfl, trivial⟩ trivial rfl
    · rintro _ ⟨_, _, _, _, H, _⟩
      cases H
    · clear H hK0
      rintro k ih0 _ ⟨hK0, x0, x1, x5, H, rfl⟩
      unfold laws_eqPointS.l0 at H
      refine AG.seq ?_
      refine AG.seq ?_
      refine AG.region HM ?_
      refine a_move (v := vI _) ?_
      refine a_move (v := vR _ _) ?_
      refine a_lenR ?_ Tryz.underlying32
      refine a_int (u := .bool (decide (x5 < (x0.length : Int)))) ?_
      refine RA.nil nofun ?_
      by_cases hc2 : x5 < (x0.length : Int)
      · rw [if_pos hc2] at H
        refine AG.yes rfl (decide_eq_true hc2) ?_
        refine AG.skip ?_
        refine AG.seq ?_
        refine AG.block ?_
        refine AG.seq ?_
        refine AG.region HM ?_
        refine a_move (v := vR _ _) ?_
        refine a_move (v := vI _) ?_
        by_cases hc3 : 0 ≤ x5
        · rw [if_pos hc3] at H
          refine a_ixR (el := c159 (rd159 x0 x5)) ?_ ⟨hc3, hc2⟩ T160 Tryz.underlying32 (hel := R159 hc3 hc2)
          refine a_ldR (v := .agg [_, _]) ?_ T160
          refine a_move (v := vR _ _) ?_
          refine a_move (v := vI _) ?_
          by_cases hc4 : x5 < (x1.length : Int)
          · rw [if_pos hc4] at H
            refine a_ixR (el := c159 (rd159 x1 x5)) ?_ ⟨hc3, hc4⟩ T160 Tryz.underlying32 (hel := R159 hc3 hc4)
            refine a_ldR (v := .agg [_, _]) ?_ T160
            obtain ⟨t5, e6, H⟩ := bindO H
            refine a_call (v := vB t5) (nk := []) (L := []) ?_ rfl (laws_eqPoint.ok e6) id (qg (qg qn)) trivial trivial trivial rfl
            refine a_un (u := .bool (!t5)) ?_
            refine RA.nil (fun _ => by kernel_rfl) ?_
            by_cases hc7 : t5 = true
            · rw [if_pos hc7] at H
              refine AG.no rfl (congrArg Bool.not hc7) ?_
              refine AG.skip ?_
              refine AG.region HM ?_
              refine a_move (v := vI _) ?_
              refine a_int (u := .int .i64 (wrap64 (x5 + 1))) ?_
              refine a_move (v := vI _) ?_
              refine RA.nil nofun ?_
              exact AGr.canon id (ih0 _ (by omega) _ ⟨by omega, _, _, _, H, rfl⟩) ⟨rfl, rfl, rfl, trivial⟩ trivial rfl
            · rw [if_neg hc7] at H
              refine AG.yes rfl (congrArg Bool.not (Bool.eq_false_iff.2 hc7)) ?_
              refine AG.seq ?_
              refine AG.region HM ?_
              refine a_move (v := vB _) ?_
              refine RA.nil nofun ?_
              refine AG.ret ?_
              obtain rfl := Option.some.inj H
              exact RetP.mk id ⟨rfl, trivial⟩ trivial rfl
          · rw [if_neg hc4] at H
            cases H
        · rw [if_neg hc3] at H
          cases H
      · rw [if_neg hc2] at H
        refine AG.no rfl (decide_eq_false hc2) ?_
        refine AG.exit ?_
        refine AG.seq ?_
        refine AG.region HM ?_
        refine a_move (v := vB _) ?_
        refine RA.nil nofun ?_
        refine AG.ret ?_
        obtain rfl := Option.some.inj H
        exact RetP.mk id ⟨rfl, trivial⟩ trivial rfl
  · rw [if_neg hc1] at H
    refine AG.yes rfl (bne_iff_ne.2 hc1) ?_
    refine AG.seq ?_
    refine AG.region HM ?_
    refine a_move (v := vB _) ?_
    refine RA.nil nofun ?_
    refine AG.ret ?_
    obtain rfl := Option.some.inj H
    exact RetP.mk id ⟨rfl, trivial⟩ trivial rfl
/-! ### laws_eqFace: function 120 -/
def laws_eqFace.f (k : Nat) (a0_0 : ByteArray) (l0_1 : List Int) (a1_0 : ByteArray) (l1_1 : List Int) : Option (Bool) := if a0_0.toList = a1_0.toList then ((laws_eqInt64S.f k l0_1 l1_1).bind fun t2 => (if t2 = true then (some true) else (some false))) else (some false)
set_option maxRecDepth 100000 in
theorem laws_eqFace.ok {k : Nat} {a0_0 : ByteArray} {l0_1 : List Int} {a1_0 : ByteArray} {l1_1 : List Int} {r : Bool} (H : laws_eqFace.f k a0_0 l0_1 a1_0 l1_1 = some r) : OkF Tryz.prog 120 [.agg [.d (.v (.string a0_0)), .d (.row 2 (l0_1.map c2))], .agg [.d (.v (.string a1_0)), .d (.row 2 (l1_1.map c2))]] [] (.c (.d (.v (.bool r)))) [] := by
  unfold laws_eqFace.f at H
  refine OkF.of (N := 16) (rs := [4]) (avs := [.c (.d (.v (.bool r)))]) Tryz.func120 rfl rfl (fun _ _ => results_tmp rfl _ _ _) (by decide) rfl rfl rfl rfl (fun w0 S => ?_)
  refine AG.seq ?_
  refine AG.region HM ?_
  refine a_box 200 ?_
  refine a_box 201 ?_
  refine a_move (v := vB _) ?_
  refine RA.nil nofun ?_
  refine AG.seq ?_
  refine AG.seq ?_
  refine AG.region HM ?_
  refine a_faB (q := 0) ?_ D152_0
  refine a_ldB (v := vS _) ?_ T9
  refine a_faB (q := 0) ?_ D152_0
  refine a_ldB (v := vS _) ?_ T9
  refine a_bin (u := .bool (!(a0_0.toList == a1_0.toList))) ?_
  refine RA.nil nofun ?_
  by_cases hc1 : a0_0.toList = a1_0.toList
  · rw [if_pos hc1] at H
    refine AG.no rfl (by rw [beq_iff_eq.2 hc1]; rfl) ?_
    refine AG.skip ?_
    refine AG.seq ?_
    refine AG.seq ?_
    refine AG.region HM ?_
    refine a_faB (q := 1) ?_ D152_1
    refine a_ldB (v := vR _ _) ?_ T29
    refine a_faB (q := 1) ?_ D152_1
    refine a_ldB (v := vR _ _) ?_ T29
    obtain ⟨t2, e3, H⟩ := bindO H
    refine a_call (v := vB t2) (nk := []) (L := []) ?_ rfl (laws_eqInt64S.ok e3) id (qd (qd qn)) trivial trivial trivial rfl
    refine a_un (u := .bool (!t2)) ?_
    refine RA.nil nofun ?_
    by_cases hc4 : t2 = true
    · rw [if_pos hc4] at H
      refine AG.no rfl (congrArg Bool.not hc4) ?_
      refine AG.skip ?_
      refine AG.seq ?_
      refine AG.region HM ?_
      refine a_move (v := vB _) ?_
      refine RA.nil nofun ?_
      refine AG.ret ?_
      obtain rfl := Option.some.inj H
      exact RetP.mk id ⟨rfl, trivial⟩ trivial rfl
    · rw [if_neg hc4] at H
      refine AG.yes rfl (congrArg Bool.not (Bool.eq_false_iff.2 hc4)) ?_
      refine AG.seq ?_
      refine AG.region HM ?_
      refine a_move (v := vB _) ?_
      refine RA.nil nofun ?_
      refine AG.ret ?_
      obtain rfl := Option.some.inj H
      exact RetP.mk id ⟨rfl, trivial⟩ trivial rfl
  · rw [if_neg hc1] at H
    refine AG.yes rfl (by rw [beq_eq_false_iff_ne.2 hc1]; rfl) ?_
    refine AG.seq ?_
    refine AG.region HM ?_
    refine a_move (v := vB _) ?_
    refine RA.nil nofun ?_
    refine AG.ret ?_
    obtain rfl := Option.some.inj H
    exact RetP.mk id ⟨rfl, trivial⟩ trivial rfl
/-! ### laws_eqFaceS: function 57 -/
def laws_eqFaceS.l0 : Nat → List S146 → List S146 → Int → Option (Bool)
  | 0, _, _, _ => none
  | k + 1, x0, x1, x5 => if x5 < (x0.length : Int) then (if 0 ≤ x5 then (if x5 < (x1.length : Int) then ((laws_eqFace.f k ((rd146 x0 x5).f0) ((rd146 x0 x5).f1) ((rd146 x1 x5).f0) ((rd146 x1 x5).f1)).bind fun t5 => (if t5 = true then (laws_eqFaceS.l0 k x0 x1 (wrap64 (x5 + 1))) else (some false))) else (none)) else (none)) else (some true)
def laws_eqFaceS.f (k : Nat) (l0 : List S146) (l1 : List S146) : Option (Bool) := if (l0.length : Int) = (l1.length : Int) then (laws_eqFaceS.l0 k l0 l1 0) else (some false)
set_option maxRecDepth 100000 in
theorem laws_eqFaceS.ok {k : Nat} {l0 : List S146} {l1 : List S146} {r : Bool} (H : laws_eqFaceS.f k l0 l1 = some r) : OkF Tryz.prog 57 [vR 152 (l0.map c146), vR 152 (l1.map c146)] [] (.c (.d (.v (.bool r)))) [] := by
  unfold laws_eqFaceS.f at H
  refine OkF.of (N := 27) (rs := [4]) (avs := [.c (.d (.v (.bool r)))]) Tryz.func57 rfl rfl (fun _ _ => results_tmp rfl _ _ _) (by decide) rfl rfl rfl rfl (fun w0 S => ?_)
  refine AG.seq ?_
  refine AG.region HM ?_
  refine a_move (v := vB _) ?_
  refine RA.nil nofun ?_
  refine AG.seq ?_
  refine AG.seq ?_
  refine AG.region HM ?_
  refine a_move (v := vR _ _) ?_
  refine a_lenR ?_ Tryz.underlying33
  refine a_move (v := vR _ _) ?_
  refine a_lenR ?_ Tryz.underlying33
  refine a_int (u := .bool (((l0.length : Int) != (l1.length : Int)))) ?_
  refine RA.nil nofun ?_
  by_cases hc1 : (l0.length : Int) = (l1.length : Int)
  · rw [if_pos hc1] at H
    refine AG.no rfl (bne_eq_false_iff_eq.2 hc1) ?_
    refine AG.skip ?_
    refine AG.seq ?_
    refine AG.seq ?_
    refine AG.region HM ?_
    refine a_move (v := vI _) ?_
    refine RA.nil nofun ?_
    refine AG.block ?_
    refine AG.loop ?_
    obtain ⟨K0, hK0, gK0⟩ : ∃ K, k ≤ K ∧ K ≤ k := ⟨k, Nat.le_refl k, Nat.le_refl k⟩
    refine AGr.canon id (AGr.loopI (n := k) (fun k s => k ≤ K0 ∧ ∃ (x0 : List S146) (x1 : List S146) (x5 : Int), laws_eqFaceS.l0 k x0 x1 x5 = some r ∧ s = St.of [(0, vR 152 (x0.map c146)), (1, vR 152 (x1.map c146)), (5, vI x5)] []) ⟨hK0, _, _, _, H, rfl⟩ ?_ ?_) ⟨rfl, rfl, rfl, trivial⟩ trivial rfl
    · rintro _ ⟨_, _, _, _, H, _⟩
      cases H
    · clear H hK0
      rintro k ih0 _ ⟨hK0, x0, x1, x5, H, rfl⟩
      unfold laws_eqFaceS.l0 at H
      refine AG.seq ?_
      refine AG.seq ?_
      refine AG.region HM ?_
      refine a_move (v := vI _) ?_
      refine a_move (v := vR _ _) ?_
      refine a_lenR ?_ Tryz.underlying33
      refine a_int (u := .bool (decide (x5 < (x0.length : Int)))) ?_
      refine RA.nil nofun ?_
      by_cases hc2 : x5 < (x0.length : Int)
      · rw [if_pos hc2] at H
        refine AG.yes rfl (decide_eq_true hc2) ?_
        refine AG.skip ?_
        refine AG.seq ?_
        refine AG.block ?_
        refine AG.seq ?_
        refine AG.region HM ?_
        refine a_move (v := vR _ _) ?_
        refine a_move (v := vI _) ?_
        by_cases hc3 : 0 ≤ x5
        · rw [if_pos hc3] at H
          refine a_ixR (el := c146 (rd146 x0 x5)) ?_ ⟨hc3, hc2⟩ T152 Tryz.underlying33 (hel := R146 hc3 hc2)
          refine a_ldR (v := .agg [_, _]) ?_ T152
          refine a_move (v := vR _ _) ?_
          refine a_move (v := vI _) ?_
          by_cases hc4 : x5 < (x1.length : Int)
          · rw [if_pos hc4] at H
            refine a_ixR (el := c146 (rd146 x1 x5)) ?_ ⟨hc3, hc4⟩ T152 Tryz.underlying33 (hel := R146 hc3 hc4)
            refine a_ldR (v := .agg [_, _]) ?_ T152
            obtain ⟨t5, e6, H⟩ := bindO H
            refine a_call (v := vB t5) (nk := []) (L := []) ?_ rfl (laws_eqFace.ok e6) id (qg (qg qn)) trivial trivial trivial rfl
            refine a_un (u := .bool (!t5)) ?_
            refine RA.nil (fun _ => by kernel_rfl) ?_
            by_cases hc7 : t5 = true
            · rw [if_pos hc7] at H
              refine AG.no rfl (congrArg Bool.not hc7) ?_
              refine AG.skip ?_
              refine AG.region HM ?_
              refine a_move (v := vI _) ?_
              refine a_int (u := .int .i64 (wrap64 (x5 + 1))) ?_
              refine a_move (v := vI _) ?_
              refine RA.nil nofun ?_
              exact AGr.canon id (ih0 _ (by omega) _ ⟨by omega, _, _, _, H, rfl⟩) ⟨rfl, rfl, rfl, trivial⟩ trivial rfl
            · rw [if_neg hc7] at H
              refine AG.yes rfl (congrArg Bool.not (Bool.eq_false_iff.2 hc7)) ?_
              refine AG.seq ?_
              refine AG.region HM ?_
              refine a_move (v := vB _) ?_
              refine RA.nil nofun ?_
              refine AG.ret ?_
              obtain rfl := Option.some.inj H
              exact RetP.mk id ⟨rfl, trivial⟩ trivial rfl
          · rw [if_neg hc4] at H
            cases H
        · rw [if_neg hc3] at H
          cases H
      · rw [if_neg hc2] at H
        refine AG.no rfl (decide_eq_false hc2) ?_
        refine AG.exit ?_
        refine AG.seq ?_
        refine AG.region HM ?_
        refine a_move (v := vB _) ?_
        refine RA.nil nofun ?_
        refine AG.ret ?_
        obtain rfl := Option.some.inj H
        exact RetP.mk id ⟨rfl, trivial⟩ trivial rfl
  · rw [if_neg hc1] at H
    refine AG.yes rfl (bne_iff_ne.2 hc1) ?_
    refine AG.seq ?_
    refine AG.region HM ?_
    refine a_move (v := vB _) ?_
    refine RA.nil nofun ?_
    refine AG.ret ?_
    obtain rfl := Option.some.inj H
    exact RetP.mk id ⟨rfl, trivial⟩ trivial rfl
/-! ### laws_eqDrawing: function 16 -/
def laws_eqDrawing.f (k : Nat) (a0_0 : Int) (a0_1 : Int) (l0_2 : List S159) (l0_3 : List S146) (a1_0 : Int) (a1_1 : Int) (l1_2 : List S159) (l1_3 : List S146) : Option (Bool) := if a0_0 = a1_0 then (if a0_1 = a1_1 then ((laws_eqPointS.f k l0_2 l1_2).bind fun t3 => (if t3 = true then ((laws_eqFaceS.f k l0_3 l1_3).bind fun t6 => (if t6 = true then (some true) else (some false))) else (some false))) else (some false)) else (some false)
set_option maxRecDepth 100000 in
theorem laws_eqDrawing.ok {k : Nat} {a0_0 : Int} {a0_1 : Int} {l0_2 : List S159} {l0_3 : List S146} {a1_0 : Int} {a1_1 : Int} {l1_2 : List S159} {l1_3 : List S146} {r : Bool} (H : laws_eqDrawing.f k a0_0 a0_1 l0_2 l0_3 a1_0 a1_1 l1_2 l1_3 = some r) : OkF Tryz.prog 16 [.agg [.d (.v (.int .i64 a0_0)), .d (.v (.int .i64 a0_1)), .d (.row 160 (l0_2.map c159)), .d (.row 152 (l0_3.map c146))], .agg [.d (.v (.int .i64 a1_0)), .d (.v (.int .i64 a1_1)), .d (.row 160 (l1_2.map c159)), .d (.row 152 (l1_3.map c146))]] [] (.c (.d (.v (.bool r)))) [] := by
  unfold laws_eqDrawing.f at H
  refine OkF.of (N := 27) (rs := [4]) (avs := [.c (.d (.v (.bool r)))]) Tryz.func16 rfl rfl (fun _ _ => results_tmp rfl _ _ _) (by decide) rfl rfl rfl rfl (fun w0 S => ?_)
  refine AG.seq ?_
  refine AG.region HM ?_
  refine a_box 200 ?_
  refine a_box 201 ?_
  refine a_move (v := vB _) ?_
  refine RA.nil nofun ?_
  refine AG.seq ?_
  refine AG.seq ?_
  refine AG.region HM ?_
  refine a_faB (q := 0) ?_ D35_0
  refine a_ldB (v := vI _) ?_ T2
  refine a_faB (q := 0) ?_ D35_0
  refine a_ldB (v := vI _) ?_ T2
  refine a_int (u := .bool ((a0_0 != a1_0))) ?_
  refine RA.nil nofun ?_
  by_cases hc1 : a0_0 = a1_0
  · rw [if_pos hc1] at H
    refine AG.no rfl (bne_eq_false_iff_eq.2 hc1) ?_
    refine AG.skip ?_
    refine AG.seq ?_
    refine AG.seq ?_
    refine AG.region HM ?_
    refine a_faB (q := 1) ?_ D35_1
    refine a_ldB (v := vI _) ?_ T2
    refine a_faB (q := 1) ?_ D35_1
    refine a_ldB (v := vI _) ?_ T2
    refine a_int (u := .bool ((a0_1 != a1_1))) ?_
    refine RA.nil nofun ?_
    by_cases hc2 : a0_1 = a1_1
    · rw [if_pos hc2] at H
      refine AG.no rfl (bne_eq_false_iff_eq.2 hc2) ?_
      refine AG.skip ?_
      refine AG.seq ?_
      refine AG.seq ?_
      refine AG.region HM ?_
      refine a_faB (q := 2) ?_ D35_2
      refine a_ldB (v := vR _ _) ?_ T32
      refine a_faB (q := 2) ?_ D35_2
      refine a_ldB (v := vR _ _) ?_ T32
      obtain ⟨t3, e4, H⟩ := bindO H
      refine a_call (v := vB t3) (nk := []) (L := []) ?_ rfl (laws_eqPointS.ok e4) id (qd (qd qn)) trivial trivial trivial rfl
      refine a_un (u := .bool (!t3)) ?_
      refine RA.nil nofun ?_
      by_cases hc5 : t3 = true
      · rw [if_pos hc5] at H
        refine AG.no rfl (congrArg Bool.not hc5) ?_
        refine AG.skip ?_
        refine AG.seq ?_
        refine AG.seq ?_
        refine AG.region HM ?_
        refine a_faB (q := 3) ?_ D35_3
        refine a_ldB (v := vR _ _) ?_ T33
        refine a_faB (q := 3) ?_ D35_3
        refine a_ldB (v := vR _ _) ?_ T33
        obtain ⟨t6, e7, H⟩ := bindO H
        refine a_call (v := vB t6) (nk := []) (L := []) ?_ rfl (laws_eqFaceS.ok e7) id (qd (qd qn)) trivial trivial trivial rfl
        refine a_un (u := .bool (!t6)) ?_
        refine RA.nil nofun ?_
        by_cases hc8 : t6 = true
        · rw [if_pos hc8] at H
          refine AG.no rfl (congrArg Bool.not hc8) ?_
          refine AG.skip ?_
          refine AG.seq ?_
          refine AG.region HM ?_
          refine a_move (v := vB _) ?_
          refine RA.nil nofun ?_
          refine AG.ret ?_
          obtain rfl := Option.some.inj H
          exact RetP.mk id ⟨rfl, trivial⟩ trivial rfl
        · rw [if_neg hc8] at H
          refine AG.yes rfl (congrArg Bool.not (Bool.eq_false_iff.2 hc8)) ?_
          refine AG.seq ?_
          refine AG.region HM ?_
          refine a_move (v := vB _) ?_
          refine RA.nil nofun ?_
          refine AG.ret ?_
          obtain rfl := Option.some.inj H
          exact RetP.mk id ⟨rfl, trivial⟩ trivial rfl
      · rw [if_neg hc5] at H
        refine AG.yes rfl (congrArg Bool.not (Bool.eq_false_iff.2 hc5)) ?_
        refine AG.seq ?_
        refine AG.region HM ?_
        refine a_move (v := vB _) ?_
        refine RA.nil nofun ?_
        refine AG.ret ?_
        obtain rfl := Option.some.inj H
        exact RetP.mk id ⟨rfl, trivial⟩ trivial rfl
    · rw [if_neg hc2] at H
      refine AG.yes rfl (bne_iff_ne.2 hc2) ?_
      refine AG.seq ?_
      refine AG.region HM ?_
      refine a_move (v := vB _) ?_
      refine RA.nil nofun ?_
      refine AG.ret ?_
      obtain rfl := Option.some.inj H
      exact RetP.mk id ⟨rfl, trivial⟩ trivial rfl
  · rw [if_neg hc1] at H
    refine AG.yes rfl (bne_iff_ne.2 hc1) ?_
    refine AG.seq ?_
    refine AG.region HM ?_
    refine a_move (v := vB _) ?_
    refine RA.nil nofun ?_
    refine AG.ret ?_
    obtain rfl := Option.some.inj H
    exact RetP.mk id ⟨rfl, trivial⟩ trivial rfl
/-! ### laws_eqVeneer: function 121 -/
def laws_eqVeneer.f (a0_0 : ByteArray) (a0_1 : Int) (a0_2 : Int) (a1_0 : ByteArray) (a1_1 : Int) (a1_2 : Int) : Option (Bool) := if a0_0.toList = a1_0.toList then (if a0_1 = a1_1 then (if a0_2 = a1_2 then (some true) else (some false)) else (some false)) else (some false)
set_option maxRecDepth 100000 in
theorem laws_eqVeneer.ok {a0_0 : ByteArray} {a0_1 : Int} {a0_2 : Int} {a1_0 : ByteArray} {a1_1 : Int} {a1_2 : Int} {r : Bool} (H : laws_eqVeneer.f a0_0 a0_1 a0_2 a1_0 a1_1 a1_2 = some r) : OkF Tryz.prog 121 [.agg [.d (.v (.string a0_0)), .d (.v (.int .i64 a0_1)), .d (.v (.int .i64 a0_2))], .agg [.d (.v (.string a1_0)), .d (.v (.int .i64 a1_1)), .d (.v (.int .i64 a1_2))]] [] (.c (.d (.v (.bool r)))) [] := by
  unfold laws_eqVeneer.f at H
  refine OkF.of (N := 20) (rs := [4]) (avs := [.c (.d (.v (.bool r)))]) Tryz.func121 rfl rfl (fun _ _ => results_tmp rfl _ _ _) (by decide) rfl rfl rfl rfl (fun w0 S => ?_)
  refine AG.seq ?_
  refine AG.region HM ?_
  refine a_box 200 ?_
  refine a_box 201 ?_
  refine a_move (v := vB _) ?_
  refine RA.nil nofun ?_
  refine AG.seq ?_
  refine AG.seq ?_
  refine AG.region HM ?_
  refine a_faB (q := 0) ?_ D92_0
  refine a_ldB (v := vS _) ?_ T9
  refine a_faB (q := 0) ?_ D92_0
  refine a_ldB (v := vS _) ?_ T9
  refine a_bin (u := .bool (!(a0_0.toList == a1_0.toList))) ?_
  refine RA.nil nofun ?_
  by_cases hc1 : a0_0.toList = a1_0.toList
  · rw [if_pos hc1] at H
    refine AG.no rfl (by rw [beq_iff_eq.2 hc1]; rfl) ?_
    refine AG.skip ?_
    refine AG.seq ?_
    refine AG.seq ?_
    refine AG.region HM ?_
    refine a_faB (q := 1) ?_ D92_1
    refine a_ldB (v := vI _) ?_ T2
    refine a_faB (q := 1) ?_ D92_1
    refine a_ldB (v := vI _) ?_ T2
    refine a_int (u := .bool ((a0_1 != a1_1))) ?_
    refine RA.nil nofun ?_
    by_cases hc2 : a0_1 = a1_1
    · rw [if_pos hc2] at H
      refine AG.no rfl (bne_eq_false_iff_eq.2 hc2) ?_
      refine AG.skip ?_
      refine AG.seq ?_
      refine AG.seq ?_
      refine AG.region HM ?_
      refine a_faB (q := 2) ?_ D92_2
      refine a_ldB (v := vI _) ?_ T2
      refine a_faB (q := 2) ?_ D92_2
      refine a_ldB (v := vI _) ?_ T2
      refine a_int (u := .bool ((a0_2 != a1_2))) ?_
      refine RA.nil nofun ?_
      by_cases hc3 : a0_2 = a1_2
      · rw [if_pos hc3] at H
        refine AG.no rfl (bne_eq_false_iff_eq.2 hc3) ?_
        refine AG.skip ?_
        refine AG.seq ?_
        refine AG.region HM ?_
        refine a_move (v := vB _) ?_
        refine RA.nil nofun ?_
        refine AG.ret ?_
        obtain rfl := Option.some.inj H
        exact RetP.mk id ⟨rfl, trivial⟩ trivial rfl
      · rw [if_neg hc3] at H
        refine AG.yes rfl (bne_iff_ne.2 hc3) ?_
        refine AG.seq ?_
        refine AG.region HM ?_
        refine a_move (v := vB _) ?_
        refine RA.nil nofun ?_
        refine AG.ret ?_
        obtain rfl := Option.some.inj H
        exact RetP.mk id ⟨rfl, trivial⟩ trivial rfl
    · rw [if_neg hc2] at H
      refine AG.yes rfl (bne_iff_ne.2 hc2) ?_
      refine AG.seq ?_
      refine AG.region HM ?_
      refine a_move (v := vB _) ?_
      refine RA.nil nofun ?_
      refine AG.ret ?_
      obtain rfl := Option.some.inj H
      exact RetP.mk id ⟨rfl, trivial⟩ trivial rfl
  · rw [if_neg hc1] at H
    refine AG.yes rfl (by rw [beq_eq_false_iff_ne.2 hc1]; rfl) ?_
    refine AG.seq ?_
    refine AG.region HM ?_
    refine a_move (v := vB _) ?_
    refine RA.nil nofun ?_
    refine AG.ret ?_
    obtain rfl := Option.some.inj H
    exact RetP.mk id ⟨rfl, trivial⟩ trivial rfl
/-! ### laws_eqBox: function 169 -/
def laws_eqBox.f (a0_0 : Int) (a0_1 : Int) (a0_2 : Int) (a0_3 : Int) (a1_0 : Int) (a1_1 : Int) (a1_2 : Int) (a1_3 : Int) : Option (Bool) := if a0_0 = a1_0 then (if a0_1 = a1_1 then (if a0_2 = a1_2 then (if a0_3 = a1_3 then (some true) else (some false)) else (some false)) else (some false)) else (some false)
set_option maxRecDepth 100000 in
theorem laws_eqBox.ok {a0_0 : Int} {a0_1 : Int} {a0_2 : Int} {a0_3 : Int} {a1_0 : Int} {a1_1 : Int} {a1_2 : Int} {a1_3 : Int} {r : Bool} (H : laws_eqBox.f a0_0 a0_1 a0_2 a0_3 a1_0 a1_1 a1_2 a1_3 = some r) : OkF Tryz.prog 169 [.agg [.d (.v (.int .i64 a0_0)), .d (.v (.int .i64 a0_1)), .d (.v (.int .i64 a0_2)), .d (.v (.int .i64 a0_3))], .agg [.d (.v (.int .i64 a1_0)), .d (.v (.int .i64 a1_1)), .d (.v (.int .i64 a1_2)), .d (.v (.int .i64 a1_3))]] [] (.c (.d (.v (.bool r)))) [] := by
  unfold laws_eqBox.f at H
  refine OkF.of (N := 25) (rs := [4]) (avs := [.c (.d (.v (.bool r)))]) Tryz.func169 rfl rfl (fun _ _ => results_tmp rfl _ _ _) (by decide) rfl rfl rfl rfl (fun w0 S => ?_)
  refine AG.seq ?_
  refine AG.region HM ?_
  refine a_box 200 ?_
  refine a_box 201 ?_
  refine a_move (v := vB _) ?_
  refine RA.nil nofun ?_
  refine AG.seq ?_
  refine AG.seq ?_
  refine AG.region HM ?_
  refine a_faB (q := 0) ?_ D177_0
  refine a_ldB (v := vI _) ?_ T2
  refine a_faB (q := 0) ?_ D177_0
  refine a_ldB (v := vI _) ?_ T2
  refine a_int (u := .bool ((a0_0 != a1_0))) ?_
  refine RA.nil nofun ?_
  by_cases hc1 : a0_0 = a1_0
  · rw [if_pos hc1] at H
    refine AG.no rfl (bne_eq_false_iff_eq.2 hc1) ?_
    refine AG.skip ?_
    refine AG.seq ?_
    refine AG.seq ?_
    refine AG.region HM ?_
    refine a_faB (q := 1) ?_ D177_1
    refine a_ldB (v := vI _) ?_ T2
    refine a_faB (q := 1) ?_ D177_1
    refine a_ldB (v := vI _) ?_ T2
    refine a_int (u := .bool ((a0_1 != a1_1))) ?_
    refine RA.nil nofun ?_
    by_cases hc2 : a0_1 = a1_1
    · rw [if_pos hc2] at H
      refine AG.no rfl (bne_eq_false_iff_eq.2 hc2) ?_
      refine AG.skip ?_
      refine AG.seq ?_
      refine AG.seq ?_
      refine AG.region HM ?_
      refine a_faB (q := 2) ?_ D177_2
      refine a_ldB (v := vI _) ?_ T2
      refine a_faB (q := 2) ?_ D177_2
      refine a_ldB (v := vI _) ?_ T2
      refine a_int (u := .bool ((a0_2 != a1_2))) ?_
      refine RA.nil nofun ?_
      by_cases hc3 : a0_2 = a1_2
      · rw [if_pos hc3] at H
        refine AG.no rfl (bne_eq_false_iff_eq.2 hc3) ?_
        refine AG.skip ?_
        refine AG.seq ?_
        refine AG.seq ?_
        refine AG.region HM ?_
        refine a_faB (q := 3) ?_ D177_3
        refine a_ldB (v := vI _) ?_ T2
        refine a_faB (q := 3) ?_ D177_3
        refine a_ldB (v := vI _) ?_ T2
        refine a_int (u := .bool ((a0_3 != a1_3))) ?_
        refine RA.nil nofun ?_
        by_cases hc4 : a0_3 = a1_3
        · rw [if_pos hc4] at H
          refine AG.no rfl (bne_eq_false_iff_eq.2 hc4) ?_
          refine AG.skip ?_
          refine AG.seq ?_
          refine AG.region HM ?_
          refine a_move (v := vB _) ?_
          refine RA.nil nofun ?_
          refine AG.ret ?_
          obtain rfl := Option.some.inj H
          exact RetP.mk id ⟨rfl, trivial⟩ trivial rfl
        · rw [if_neg hc4] at H
          refine AG.yes rfl (bne_iff_ne.2 hc4) ?_
          refine AG.seq ?_
          refine AG.region HM ?_
          refine a_move (v := vB _) ?_
          refine RA.nil nofun ?_
          refine AG.ret ?_
          obtain rfl := Option.some.inj H
          exact RetP.mk id ⟨rfl, trivial⟩ trivial rfl
      · rw [if_neg hc3] at H
        refine AG.yes rfl (bne_iff_ne.2 hc3) ?_
        refine AG.seq ?_
        refine AG.region HM ?_
        refine a_move (v := vB _) ?_
        refine RA.nil nofun ?_
        refine AG.ret ?_
        obtain rfl := Option.some.inj H
        exact RetP.mk id ⟨rfl, trivial⟩ trivial rfl
    · rw [if_neg hc2] at H
      refine AG.yes rfl (bne_iff_ne.2 hc2) ?_
      refine AG.seq ?_
      refine AG.region HM ?_
      refine a_move (v := vB _) ?_
      refine RA.nil nofun ?_
      refine AG.ret ?_
      obtain rfl := Option.some.inj H
      exact RetP.mk id ⟨rfl, trivial⟩ trivial rfl
  · rw [if_neg hc1] at H
    refine AG.yes rfl (bne_iff_ne.2 hc1) ?_
    refine AG.seq ?_
    refine AG.region HM ?_
    refine a_move (v := vB _) ?_
    refine RA.nil nofun ?_
    refine AG.ret ?_
    obtain rfl := Option.some.inj H
    exact RetP.mk id ⟨rfl, trivial⟩ trivial rfl
/-! ### laws_eqBoxS: function 122 -/
def laws_eqBoxS.l0 : Nat → List S176 → List S176 → Int → Option (Bool)
  | 0, _, _, _ => none
  | k + 1, x0, x1, x5 => if x5 < (x0.length : Int) then (if 0 ≤ x5 then (if x5 < (x1.length : Int) then ((laws_eqBox.f ((rd176 x0 x5).f0) ((rd176 x0 x5).f1) ((rd176 x0 x5).f2) ((rd176 x0 x5).f3) ((rd176 x1 x5).f0) ((rd176 x1 x5).f1) ((rd176 x1 x5).f2) ((rd176 x1 x5).f3)).bind fun t5 => (if t5 = true then (laws_eqBoxS.l0 k x0 x1 (wrap64 (x5 + 1))) else (some false))) else (none)) else (none)) else (some true)
def laws_eqBoxS.f (k : Nat) (l0 : List S176) (l1 : List S176) : Option (Bool) := if (l0.length : Int) = (l1.length : Int) then (laws_eqBoxS.l0 k l0 l1 0) else (some false)
set_option maxRecDepth 100000 in
theorem laws_eqBoxS.ok {k : Nat} {l0 : List S176} {l1 : List S176} {r : Bool} (H : laws_eqBoxS.f k l0 l1 = some r) : OkF Tryz.prog 122 [vR 177 (l0.map c176), vR 177 (l1.map c176)] [] (.c (.d (.v (.bool r)))) [] := by
  unfold laws_eqBoxS.f at H
  refine OkF.of (N := 27) (rs := [4]) (avs := [.c (.d (.v (.bool r)))]) Tryz.func122 rfl rfl (fun _ _ => results_tmp rfl _ _ _) (by decide) rfl rfl rfl rfl (fun w0 S => ?_)
  refine AG.seq ?_
  refine AG.region HM ?_
  refine a_move (v := vB _) ?_
  refine RA.nil nofun ?_
  refine AG.seq ?_
  refine AG.seq ?_
  refine AG.region HM ?_
  refine a_move (v := vR _ _) ?_
  refine a_lenR ?_ Tryz.underlying93
  refine a_move (v := vR _ _) ?_
  refine a_lenR ?_ Tryz.underlying93
  refine a_int (u := .bool (((l0.length : Int) != (l1.length : Int)))) ?_
  refine RA.nil nofun ?_
  by_cases hc1 : (l0.length : Int) = (l1.length : Int)
  · rw [if_pos hc1] at H
    refine AG.no rfl (bne_eq_false_iff_eq.2 hc1) ?_
    refine AG.skip ?_
    refine AG.seq ?_
    refine AG.seq ?_
    refine AG.region HM ?_
    refine a_move (v := vI _) ?_
    refine RA.nil nofun ?_
    refine AG.block ?_
    refine AG.loop ?_
    obtain ⟨K0, hK0, gK0⟩ : ∃ K, k ≤ K ∧ K ≤ k := ⟨k, Nat.le_refl k, Nat.le_refl k⟩
    refine AGr.canon id (AGr.loopI (n := k) (fun k s => k ≤ K0 ∧ ∃ (x0 : List S176) (x1 : List S176) (x5 : Int), laws_eqBoxS.l0 k x0 x1 x5 = some r ∧ s = St.of [(0, vR 177 (x0.map c176)), (1, vR 177 (x1.map c176)), (5, vI x5)] []) ⟨hK0, _, _, _, H, rfl⟩ ?_ ?_) ⟨rfl, rfl, rfl, trivial⟩ trivial rfl
    · rintro _ ⟨_, _, _, _, H, _⟩
      cases H
    · clear H hK0
      rintro k ih0 _ ⟨hK0, x0, x1, x5, H, rfl⟩
      unfold laws_eqBoxS.l0 at H
      refine AG.seq ?_
      refine AG.seq ?_
      refine AG.region HM ?_
      refine a_move (v := vI _) ?_
      refine a_move (v := vR _ _) ?_
      refine a_lenR ?_ Tryz.underlying93
      refine a_int (u := .bool (decide (x5 < (x0.length : Int)))) ?_
      refine RA.nil nofun ?_
      by_cases hc2 : x5 < (x0.length : Int)
      · rw [if_pos hc2] at H
        refine AG.yes rfl (decide_eq_true hc2) ?_
        refine AG.skip ?_
        refine AG.seq ?_
        refine AG.block ?_
        refine AG.seq ?_
        refine AG.region HM ?_
        refine a_move (v := vR _ _) ?_
        refine a_move (v := vI _) ?_
        by_cases hc3 : 0 ≤ x5
        · rw [if_pos hc3] at H
          refine a_ixR (el := c176 (rd176 x0 x5)) ?_ ⟨hc3, hc2⟩ T177 Tryz.underlying93 (hel := R176 hc3 hc2)
          refine a_ldR (v := .agg [_, _, _, _]) ?_ T177
          refine a_move (v := vR _ _) ?_
          refine a_move (v := vI _) ?_
          by_cases hc4 : x5 < (x1.length : Int)
          · rw [if_pos hc4] at H
            refine a_ixR (el := c176 (rd176 x1 x5)) ?_ ⟨hc3, hc4⟩ T177 Tryz.underlying93 (hel := R176 hc3 hc4)
            refine a_ldR (v := .agg [_, _, _, _]) ?_ T177
            obtain ⟨t5, e6, H⟩ := bindO H
            refine a_call (v := vB t5) (nk := []) (L := []) ?_ rfl (laws_eqBox.ok e6) id (qg (qg qn)) trivial trivial trivial rfl
            refine a_un (u := .bool (!t5)) ?_
            refine RA.nil (fun _ => by kernel_rfl) ?_
            by_cases hc7 : t5 = true
            · rw [if_pos hc7] at H
              refine AG.no rfl (congrArg Bool.not hc7) ?_
              refine AG.skip ?_
              refine AG.region HM ?_
              refine a_move (v := vI _) ?_
              refine a_int (u := .int .i64 (wrap64 (x5 + 1))) ?_
              refine a_move (v := vI _) ?_
              refine RA.nil nofun ?_
              exact AGr.canon id (ih0 _ (by omega) _ ⟨by omega, _, _, _, H, rfl⟩) ⟨rfl, rfl, rfl, trivial⟩ trivial rfl
            · rw [if_neg hc7] at H
              refine AG.yes rfl (congrArg Bool.not (Bool.eq_false_iff.2 hc7)) ?_
              refine AG.seq ?_
              refine AG.region HM ?_
              refine a_move (v := vB _) ?_
              refine RA.nil nofun ?_
              refine AG.ret ?_
              obtain rfl := Option.some.inj H
              exact RetP.mk id ⟨rfl, trivial⟩ trivial rfl
          · rw [if_neg hc4] at H
            cases H
        · rw [if_neg hc3] at H
          cases H
      · rw [if_neg hc2] at H
        refine AG.no rfl (decide_eq_false hc2) ?_
        refine AG.exit ?_
        refine AG.seq ?_
        refine AG.region HM ?_
        refine a_move (v := vB _) ?_
        refine RA.nil nofun ?_
        refine AG.ret ?_
        obtain rfl := Option.some.inj H
        exact RetP.mk id ⟨rfl, trivial⟩ trivial rfl
  · rw [if_neg hc1] at H
    refine AG.yes rfl (bne_iff_ne.2 hc1) ?_
    refine AG.seq ?_
    refine AG.region HM ?_
    refine a_move (v := vB _) ?_
    refine RA.nil nofun ?_
    refine AG.ret ?_
    obtain rfl := Option.some.inj H
    exact RetP.mk id ⟨rfl, trivial⟩ trivial rfl
/-! ### laws_eqLeaf: function 58 -/
def laws_eqLeaf.f (k : Nat) (a0_0 : ByteArray) (a0_1 : ByteArray) (a0_2 : Int) (a0_3 : ByteArray) (a0_4 : Int) (a0_5 : Int) (a0_6 : Int) (a0_7 : Int) (l0_8 : List S176) (a1_0 : ByteArray) (a1_1 : ByteArray) (a1_2 : Int) (a1_3 : ByteArray) (a1_4 : Int) (a1_5 : Int) (a1_6 : Int) (a1_7 : Int) (l1_8 : List S176) : Option (Bool) := if a0_0.toList = a1_0.toList then (if a0_1.toList = a1_1.toList then (if a0_2 = a1_2 then ((laws_eqVeneer.f a0_3 a0_4 a0_5 a1_3 a1_4 a1_5).bind fun t4 => (if t4 = true then (if a0_6 = a1_6 then (if a0_7 = a1_7 then ((laws_eqBoxS.f k l0_8 l1_8).bind fun t9 => (if t9 = true then (some true) else (some false))) else (some false)) else (some false)) else (some false))) else (some false)) else (some false)) else (some false)
set_option maxRecDepth 100000 in
theorem laws_eqLeaf.ok {k : Nat} {a0_0 : ByteArray} {a0_1 : ByteArray} {a0_2 : Int} {a0_3 : ByteArray} {a0_4 : Int} {a0_5 : Int} {a0_6 : Int} {a0_7 : Int} {l0_8 : List S176} {a1_0 : ByteArray} {a1_1 : ByteArray} {a1_2 : Int} {a1_3 : ByteArray} {a1_4 : Int} {a1_5 : Int} {a1_6 : Int} {a1_7 : Int} {l1_8 : List S176} {r : Bool} (H : laws_eqLeaf.f k a0_0 a0_1 a0_2 a0_3 a0_4 a0_5 a0_6 a0_7 l0_8 a1_0 a1_1 a1_2 a1_3 a1_4 a1_5 a1_6 a1_7 l1_8 = some r) : OkF Tryz.prog 58 [.agg [.d (.v (.string a0_0)), .d (.v (.string a0_1)), .d (.v (.int .i64 a0_2)), .d (.v (.string a0_3)), .d (.v (.int .i64 a0_4)), .d (.v (.int .i64 a0_5)), .d (.v (.int .i64 a0_6)), .d (.v (.int .i64 a0_7)), .d (.row 177 (l0_8.map c176))], .agg [.d (.v (.string a1_0)), .d (.v (.string a1_1)), .d (.v (.int .i64 a1_2)), .d (.v (.string a1_3)), .d (.v (.int .i64 a1_4)), .d (.v (.int .i64 a1_5)), .d (.v (.int .i64 a1_6)), .d (.v (.int .i64 a1_7)), .d (.row 177 (l1_8.map c176))]] [] (.c (.d (.v (.bool r)))) [] := by
  unfold laws_eqLeaf.f at H
  refine OkF.of (N := 42) (rs := [4]) (avs := [.c (.d (.v (.bool r)))]) Tryz.func58 rfl rfl (fun _ _ => results_tmp rfl _ _ _) (by decide) rfl rfl rfl rfl (fun w0 S => ?_)
  refine AG.seq ?_
  refine AG.region HM ?_
  refine a_box 200 ?_
  refine a_box 201 ?_
  refine a_move (v := vB _) ?_
  refine RA.nil nofun ?_
  refine AG.seq ?_
  refine AG.seq ?_
  refine AG.region HM ?_
  refine a_faB (q := 0) ?_ D95_0
  refine a_ldB (v := vS _) ?_ T9
  refine a_faB (q := 0) ?_ D95_0
  refine a_ldB (v := vS _) ?_ T9
  refine a_bin (u := .bool (!(a0_0.toList == a1_0.toList))) ?_
  refine RA.nil nofun ?_
  by_cases hc1 : a0_0.toList = a1_0.toList
  · rw [if_pos hc1] at H
    refine AG.no rfl (by rw [beq_iff_eq.2 hc1]; rfl) ?_
    refine AG.skip ?_
    refine AG.seq ?_
    refine AG.seq ?_
    refine AG.region HM ?_
    refine a_faB (q := 1) ?_ D95_1
    refine a_ldB (v := vS _) ?_ T9
    refine a_faB (q := 1) ?_ D95_1
    refine a_ldB (v := vS _) ?_ T9
    refine a_bin (u := .bool (!(a0_1.toList == a1_1.toList))) ?_
    refine RA.nil nofun ?_
    by_cases hc2 : a0_1.toList = a1_1.toList
    · rw [if_pos hc2] at H
      refine AG.no rfl (by rw [beq_iff_eq.2 hc2]; rfl) ?_
      refine AG.skip ?_
      refine AG.seq ?_
      refine AG.seq ?_
      refine AG.region HM ?_
      refine a_faB (q := 2) ?_ D95_2
      refine a_ldB (v := vI _) ?_ T2
      refine a_faB (q := 2) ?_ D95_2
      refine a_ldB (v := vI _) ?_ T2
      refine a_int (u := .bool ((a0_2 != a1_2))) ?_
      refine RA.nil nofun ?_
      by_cases hc3 : a0_2 = a1_2
      · rw [if_pos hc3] at H
        refine AG.no rfl (bne_eq_false_iff_eq.2 hc3) ?_
        refine AG.skip ?_
        refine AG.seq ?_
        refine AG.seq ?_
        refine AG.region HM ?_
        refine a_faB (q := 3) ?_ D95_3
        refine a_ldB (v := .agg [_, _, _]) ?_ T92
        refine a_faB (q := 3) ?_ D95_3
        refine a_ldB (v := .agg [_, _, _]) ?_ T92
        obtain ⟨t4, e5, H⟩ := bindO H
        refine a_call (v := vB t4) (nk := []) (L := []) ?_ rfl (laws_eqVeneer.ok e5) id (qg (qg qn)) trivial trivial trivial rfl
        refine a_un (u := .bool (!t4)) ?_
        refine RA.nil nofun ?_
        by_cases hc6 : t4 = true
        · rw [if_pos hc6] at H
          refine AG.no rfl (congrArg Bool.not hc6) ?_
          refine AG.skip ?_
          refine AG.seq ?_
          refine AG.seq ?_
          refine AG.region HM ?_
          refine a_faB (q := 6) ?_ D95_4
          refine a_ldB (v := vI _) ?_ T2
          refine a_faB (q := 6) ?_ D95_4
          refine a_ldB (v := vI _) ?_ T2
          refine a_int (u := .bool ((a0_6 != a1_6))) ?_
          refine RA.nil nofun ?_
          by_cases hc7 : a0_6 = a1_6
          · rw [if_pos hc7] at H
            refine AG.no rfl (bne_eq_false_iff_eq.2 hc7) ?_
            refine AG.skip ?_
            refine AG.seq ?_
            refine AG.seq ?_
            refine AG.region HM ?_
            refine a_faB (q := 7) ?_ D95_5
            refine a_ldB (v := vI _) ?_ T2
            refine a_faB (q := 7) ?_ D95_5
            refine a_ldB (v := vI _) ?_ T2
            refine a_int (u := .bool ((a0_7 != a1_7))) ?_
            refine RA.nil nofun ?_
            by_cases hc8 : a0_7 = a1_7
            · rw [if_pos hc8] at H
              refine AG.no rfl (bne_eq_false_iff_eq.2 hc8) ?_
              refine AG.skip ?_
              refine AG.seq ?_
              refine AG.seq ?_
              refine AG.region HM ?_
              refine a_faB (q := 8) ?_ D95_6
              refine a_ldB (v := vR _ _) ?_ T93
              refine a_faB (q := 8) ?_ D95_6
              refine a_ldB (v := vR _ _) ?_ T93
              obtain ⟨t9, e10, H⟩ := bindO H
              refine a_call (v := vB t9) (nk := []) (L := []) ?_ rfl (laws_eqBoxS.ok e10) id (qd (qd qn)) trivial trivial trivial rfl
              refine a_un (u := .bool (!t9)) ?_
              refine RA.nil nofun ?_
              by_cases hc11 : t9 = true
              · rw [if_pos hc11] at H
                refine AG.no rfl (congrArg Bool.not hc11) ?_
                refine AG.skip ?_
                refine AG.seq ?_
                refine AG.region HM ?_
                refine a_move (v := vB _) ?_
                refine RA.nil nofun ?_
                refine AG.ret ?_
                obtain rfl := Option.some.inj H
                exact RetP.mk id ⟨rfl, trivial⟩ trivial rfl
              · rw [if_neg hc11] at H
                refine AG.yes rfl (congrArg Bool.not (Bool.eq_false_iff.2 hc11)) ?_
                refine AG.seq ?_
                refine AG.region HM ?_
                refine a_move (v := vB _) ?_
                refine RA.nil nofun ?_
                refine AG.ret ?_
                obtain rfl := Option.some.inj H
                exact RetP.mk id ⟨rfl, trivial⟩ trivial rfl
            · rw [if_neg hc8] at H
              refine AG.yes rfl (bne_iff_ne.2 hc8) ?_
              refine AG.seq ?_
              refine AG.region HM ?_
              refine a_move (v := vB _) ?_
              refine RA.nil nofun ?_
              refine AG.ret ?_
              obtain rfl := Option.some.inj H
              exact RetP.mk id ⟨rfl, trivial⟩ trivial rfl
          · rw [if_neg hc7] at H
            refine AG.yes rfl (bne_iff_ne.2 hc7) ?_
            refine AG.seq ?_
            refine AG.region HM ?_
            refine a_move (v := vB _) ?_
            refine RA.nil nofun ?_
            refine AG.ret ?_
            obtain rfl := Option.some.inj H
            exact RetP.mk id ⟨rfl, trivial⟩ trivial rfl
        · rw [if_neg hc6] at H
          refine AG.yes rfl (congrArg Bool.not (Bool.eq_false_iff.2 hc6)) ?_
          refine AG.seq ?_
          refine AG.region HM ?_
          refine a_move (v := vB _) ?_
          refine RA.nil nofun ?_
          refine AG.ret ?_
          obtain rfl := Option.some.inj H
          exact RetP.mk id ⟨rfl, trivial⟩ trivial rfl
      · rw [if_neg hc3] at H
        refine AG.yes rfl (bne_iff_ne.2 hc3) ?_
        refine AG.seq ?_
        refine AG.region HM ?_
        refine a_move (v := vB _) ?_
        refine RA.nil nofun ?_
        refine AG.ret ?_
        obtain rfl := Option.some.inj H
        exact RetP.mk id ⟨rfl, trivial⟩ trivial rfl
    · rw [if_neg hc2] at H
      refine AG.yes rfl (by rw [beq_eq_false_iff_ne.2 hc2]; rfl) ?_
      refine AG.seq ?_
      refine AG.region HM ?_
      refine a_move (v := vB _) ?_
      refine RA.nil nofun ?_
      refine AG.ret ?_
      obtain rfl := Option.some.inj H
      exact RetP.mk id ⟨rfl, trivial⟩ trivial rfl
  · rw [if_neg hc1] at H
    refine AG.yes rfl (by rw [beq_eq_false_iff_ne.2 hc1]; rfl) ?_
    refine AG.seq ?_
    refine AG.region HM ?_
    refine a_move (v := vB _) ?_
    refine RA.nil nofun ?_
    refine AG.ret ?_
    obtain rfl := Option.some.inj H
    exact RetP.mk id ⟨rfl, trivial⟩ trivial rfl
/-! ### laws_eqLeafS: function 17 -/
def laws_eqLeafS.l0 : Nat → List S94 → List S94 → Int → Option (Bool)
  | 0, _, _, _ => none
  | k + 1, x0, x1, x5 => if x5 < (x0.length : Int) then (if 0 ≤ x5 then (if x5 < (x1.length : Int) then ((laws_eqLeaf.f k ((rd94 x0 x5).f0) ((rd94 x0 x5).f1) ((rd94 x0 x5).f2) ((rd94 x0 x5).f3.f0) ((rd94 x0 x5).f3.f1) ((rd94 x0 x5).f3.f2) ((rd94 x0 x5).f4) ((rd94 x0 x5).f5) ((rd94 x0 x5).f6) ((rd94 x1 x5).f0) ((rd94 x1 x5).f1) ((rd94 x1 x5).f2) ((rd94 x1 x5).f3.f0) ((rd94 x1 x5).f3.f1) ((rd94 x1 x5).f3.f2) ((rd94 x1 x5).f4) ((rd94 x1 x5).f5) ((rd94 x1 x5).f6)).bind fun t5 => (if t5 = true then (laws_eqLeafS.l0 k x0 x1 (wrap64 (x5 + 1))) else (some false))) else (none)) else (none)) else (some true)
def laws_eqLeafS.f (k : Nat) (l0 : List S94) (l1 : List S94) : Option (Bool) := if (l0.length : Int) = (l1.length : Int) then (laws_eqLeafS.l0 k l0 l1 0) else (some false)
set_option maxRecDepth 100000 in
theorem laws_eqLeafS.ok {k : Nat} {l0 : List S94} {l1 : List S94} {r : Bool} (H : laws_eqLeafS.f k l0 l1 = some r) : OkF Tryz.prog 17 [vR 95 (l0.map c94), vR 95 (l1.map c94)] [] (.c (.d (.v (.bool r)))) [] := by
  unfold laws_eqLeafS.f at H
  refine OkF.of (N := 27) (rs := [4]) (avs := [.c (.d (.v (.bool r)))]) Tryz.func17 rfl rfl (fun _ _ => results_tmp rfl _ _ _) (by decide) rfl rfl rfl rfl (fun w0 S => ?_)
  refine AG.seq ?_
  refine AG.region HM ?_
  refine a_move (v := vB _) ?_
  refine RA.nil nofun ?_
  refine AG.seq ?_
  refine AG.seq ?_
  refine AG.region HM ?_
  refine a_move (v := vR _ _) ?_
  refine a_lenR ?_ Tryz.underlying37
  refine a_move (v := vR _ _) ?_
  refine a_lenR ?_ Tryz.underlying37
  refine a_int (u := .bool (((l0.length : Int) != (l1.length : Int)))) ?_
  refine RA.nil nofun ?_
  by_cases hc1 : (l0.length : Int) = (l1.length : Int)
  · rw [if_pos hc1] at H
    refine AG.no rfl (bne_eq_false_iff_eq.2 hc1) ?_
    refine AG.skip ?_
    refine AG.seq ?_
    refine AG.seq ?_
    refine AG.region HM ?_
    refine a_move (v := vI _) ?_
    refine RA.nil nofun ?_
    refine AG.block ?_
    refine AG.loop ?_
    obtain ⟨K0, hK0, gK0⟩ : ∃ K, k ≤ K ∧ K ≤ k := ⟨k, Nat.le_refl k, Nat.le_refl k⟩
    refine AGr.canon id (AGr.loopI (n := k) (fun k s => k ≤ K0 ∧ ∃ (x0 : List S94) (x1 : List S94) (x5 : Int), laws_eqLeafS.l0 k x0 x1 x5 = some r ∧ s = St.of [(0, vR 95 (x0.map c94)), (1, vR 95 (x1.map c94)), (5, vI x5)] []) ⟨hK0, _, _, _, H, rfl⟩ ?_ ?_) ⟨rfl, rfl, rfl, trivial⟩ trivial rfl
    · rintro _ ⟨_, _, _, _, H, _⟩
      cases H
    · clear H hK0
      rintro k ih0 _ ⟨hK0, x0, x1, x5, H, rfl⟩
      unfold laws_eqLeafS.l0 at H
      refine AG.seq ?_
      refine AG.seq ?_
      refine AG.region HM ?_
      refine a_move (v := vI _) ?_
      refine a_move (v := vR _ _) ?_
      refine a_lenR ?_ Tryz.underlying37
      refine a_int (u := .bool (decide (x5 < (x0.length : Int)))) ?_
      refine RA.nil nofun ?_
      by_cases hc2 : x5 < (x0.length : Int)
      · rw [if_pos hc2] at H
        refine AG.yes rfl (decide_eq_true hc2) ?_
        refine AG.skip ?_
        refine AG.seq ?_
        refine AG.block ?_
        refine AG.seq ?_
        refine AG.region HM ?_
        refine a_move (v := vR _ _) ?_
        refine a_move (v := vI _) ?_
        by_cases hc3 : 0 ≤ x5
        · rw [if_pos hc3] at H
          refine a_ixR (el := c94 (rd94 x0 x5)) ?_ ⟨hc3, hc2⟩ T95 Tryz.underlying37 (hel := R94 hc3 hc2)
          refine a_ldR (v := .agg [_, _, _, _, _, _, _, _, _]) ?_ T95
          refine a_move (v := vR _ _) ?_
          refine a_move (v := vI _) ?_
          by_cases hc4 : x5 < (x1.length : Int)
          · rw [if_pos hc4] at H
            refine a_ixR (el := c94 (rd94 x1 x5)) ?_ ⟨hc3, hc4⟩ T95 Tryz.underlying37 (hel := R94 hc3 hc4)
            refine a_ldR (v := .agg [_, _, _, _, _, _, _, _, _]) ?_ T95
            obtain ⟨t5, e6, H⟩ := bindO H
            refine a_call (v := vB t5) (nk := []) (L := []) ?_ rfl (laws_eqLeaf.ok e6) id (qg (qg qn)) trivial trivial trivial rfl
            refine a_un (u := .bool (!t5)) ?_
            refine RA.nil (fun _ => by kernel_rfl) ?_
            by_cases hc7 : t5 = true
            · rw [if_pos hc7] at H
              refine AG.no rfl (congrArg Bool.not hc7) ?_
              refine AG.skip ?_
              refine AG.region HM ?_
              refine a_move (v := vI _) ?_
              refine a_int (u := .int .i64 (wrap64 (x5 + 1))) ?_
              refine a_move (v := vI _) ?_
              refine RA.nil nofun ?_
              exact AGr.canon id (ih0 _ (by omega) _ ⟨by omega, _, _, _, H, rfl⟩) ⟨rfl, rfl, rfl, trivial⟩ trivial rfl
            · rw [if_neg hc7] at H
              refine AG.yes rfl (congrArg Bool.not (Bool.eq_false_iff.2 hc7)) ?_
              refine AG.seq ?_
              refine AG.region HM ?_
              refine a_move (v := vB _) ?_
              refine RA.nil nofun ?_
              refine AG.ret ?_
              obtain rfl := Option.some.inj H
              exact RetP.mk id ⟨rfl, trivial⟩ trivial rfl
          · rw [if_neg hc4] at H
            cases H
        · rw [if_neg hc3] at H
          cases H
      · rw [if_neg hc2] at H
        refine AG.no rfl (decide_eq_false hc2) ?_
        refine AG.exit ?_
        refine AG.seq ?_
        refine AG.region HM ?_
        refine a_move (v := vB _) ?_
        refine RA.nil nofun ?_
        refine AG.ret ?_
        obtain rfl := Option.some.inj H
        exact RetP.mk id ⟨rfl, trivial⟩ trivial rfl
  · rw [if_neg hc1] at H
    refine AG.yes rfl (bne_iff_ne.2 hc1) ?_
    refine AG.seq ?_
    refine AG.region HM ?_
    refine a_move (v := vB _) ?_
    refine RA.nil nofun ?_
    refine AG.ret ?_
    obtain rfl := Option.some.inj H
    exact RetP.mk id ⟨rfl, trivial⟩ trivial rfl
/-! ### laws_markPointS: function 59 -/
def laws_markPointS.l0 : Nat → List S159 → Int → Int → Option (Int × (List S159))
  | 0, _, _, _ => none
  | k + 1, x0, x1, x5 => if x5 < (x0.length : Int) then (if 0 ≤ x5 then ((some (x0.set (x5 : Int).toNat (⟨x1, (rd159 x0 x5).f1⟩ : S159) : List S159)).bind fun y3 => (laws_markPointS.l0 k (y3.set (x5 : Int).toNat (⟨(rd159 y3 x5).f0, wrap64 (x1 + 1)⟩ : S159)) (wrap64 ((wrap64 (x1 + 1)) + 1)) (wrap64 (x5 + 1)))) else (none)) else (some (x1, x0))
def laws_markPointS.f (k : Nat) (l0 : List S159) (a1 : Int) : Option (Int × (List S159)) := laws_markPointS.l0 k l0 a1 0
set_option maxRecDepth 100000 in
theorem laws_markPointS.ok {k : Nat} {l0 : List S159} {a1 : Int} {r0 : Int} {r1 : List S159} (H : laws_markPointS.f k l0 a1 = some (r0, r1)) : OkF Tryz.prog 59 [.c (.own 0 l0.length), vI a1] [(0, .row 160 (l0.map c159))] (.c (.d (.v (.int .i64 r0)))) [(0, .row 160 (r1.map c159))] := by
  unfold laws_markPointS.f at H
  refine OkF.of (N := 27) (rs := [4]) (avs := [.c (.d (.v (.int .i64 r0)))]) Tryz.func59 rfl rfl (fun _ _ => results_tmp rfl _ _ _) (by decide) rfl rfl rfl rfl (fun w0 S => ?_)
  refine AG.seq ?_
  refine AG.region HM ?_
  refine a_move (v := vI _) ?_
  refine RA.nil nofun ?_
  refine AG.seq ?_
  refine AG.seq ?_
  refine AG.region HM ?_
  refine a_move (v := vI _) ?_
  refine RA.nil nofun ?_
  refine AG.block ?_
  refine AG.loop ?_
  obtain ⟨K0, hK0, gK0⟩ : ∃ K, k ≤ K ∧ K ≤ k := ⟨k, Nat.le_refl k, Nat.le_refl k⟩
  refine AGr.canon id (AGr.loopI (n := k) (fun k s => k ≤ K0 ∧ ∃ (x0 : List S159) (x1 : Int) (x5 : Int), laws_markPointS.l0 k x0 x1 x5 = some (r0, r1) ∧ s = St.of [(0, .c (.own 0 x0.length)), (1, vI x1), (5, vI x5)] [(0, .row 160 (x0.map c159))]) ⟨hK0, _, _, _, H, rfl⟩ ?_ ?_) ⟨rfl, rfl, rfl, trivial⟩ ⟨rfl, trivial⟩ rfl
  · rintro _ ⟨_, _, _, _, H, _⟩
    cases H
  · clear H hK0
    rintro k ih0 _ ⟨hK0, x0, x1, x5, H, rfl⟩
    unfold laws_markPointS.l0 at H
    refine AG.seq ?_
    refine AG.seq ?_
    refine AG.region HM ?_
    refine a_move (v := vI _) ?_
    refine a_move (v := .c (.own _ _)) ?_
    refine a_lenO ?_ Tryz.underlying32
    refine a_int (u := .bool (decide (x5 < (x0.length : Int)))) ?_
    refine RA.nil nofun ?_
    by_cases hc1 : x5 < (x0.length : Int)
    · rw [if_pos hc1] at H
      refine AG.yes rfl (decide_eq_true hc1) ?_
      refine AG.skip ?_
      refine AG.seq ?_
      refine AG.block ?_
      refine AG.seq ?_
      refine AG.region HM ?_
      refine a_move (v := .c (.own _ _)) ?_
      refine a_move (v := vI _) ?_
      refine a_move (v := vI _) ?_
      by_cases hc2 : 0 ≤ x5
      · rw [if_pos hc2] at H
        refine a_ixO ?_ ⟨hc2, hc1⟩ T160 Tryz.underlying32
        refine a_faE (q := 0) ?_ D160_0
        obtain ⟨y3, ey3, H⟩ := bindO H
        have ey3 := Option.some.inj ey3
        refine a_stF (css' := y3.map c159) ?_ (flat_map (fun _ => rfl)) (G159 hc2 hc1) T2 (hcss := by rw [← ey3]; exact set_map rfl)
        refine RA.nil nofun ?_
        refine AG.seq ?_
        refine AG.region HM ?_
        refine a_move (v := vI _) ?_
        refine a_int (u := .int .i64 (wrap64 (x1 + 1))) ?_
        refine a_move (v := vI _) ?_
        refine RA.nil nofun ?_
        refine AG.seq ?_
        refine AG.region HM ?_
        refine a_move (v := .c (.own _ _)) ?_
        refine a_move (v := vI _) ?_
        refine a_move (v := vI _) ?_
        refine a_ixO ?_ ⟨hc2, hc1⟩ T160 Tryz.underlying32
        refine a_faE (q := 1) ?_ D160_1
        refine a_stF (css' := (y3.set (x5 : Int).toNat (⟨(rd159 y3 x5).f0, wrap64 (x1 + 1)⟩ : S159)).map c159) ?_ (flat_map (fun _ => rfl)) (G159 (l := y3) hc2 (by rw [← ey3]; simpa using hc1)) T2 (hcss := by exact set_map rfl)
        refine RA.nil nofun ?_
        refine AG.region HM ?_
        refine a_move (v := vI _) ?_
        refine a_int (u := .int .i64 (wrap64 ((wrap64 (x1 + 1)) + 1))) ?_
        refine a_move (v := vI _) ?_
        refine RA.nil nofun ?_
        refine AG.region HM ?_
        refine a_move (v := vI _) ?_
        refine a_int (u := .int .i64 (wrap64 (x5 + 1))) ?_
        refine a_move (v := vI _) ?_
        refine RA.nil nofun ?_
        exact AGr.canon id (ih0 _ (by omega) _ ⟨by omega, _, _, _, H, rfl⟩) ⟨(ownE rfl (by rw [← ey3]; simp)), rfl, rfl, trivial⟩ ⟨rfl, trivial⟩ rfl
      · rw [if_neg hc2] at H
        cases H
    · rw [if_neg hc1] at H
      refine AG.no rfl (decide_eq_false hc1) ?_
      refine AG.exit ?_
      refine AG.seq ?_
      refine AG.region HM ?_
      refine a_move (v := vI _) ?_
      refine a_move (v := vI _) ?_
      refine RA.nil nofun ?_
      refine AG.ret ?_
      simp only [Option.some.injEq, Prod.mk.injEq] at H
      obtain ⟨rfl, rfl⟩ := H
      exact RetP.mk (fun κ => cond (Nat.beq κ 0) 0 (κ)) ⟨rfl, trivial⟩ ⟨rfl, trivial⟩ rfl
/-! ### laws_markInt64S: function 20 -/
def laws_markInt64S.l0 : Nat → List Int → Int → Int → Option (Int × (List Int))
  | 0, _, _, _ => none
  | k + 1, x0, x1, x5 => if x5 < (x0.length : Int) then (if 0 ≤ x5 then (laws_markInt64S.l0 k (x0.set (x5 : Int).toNat x1) (wrap64 (x1 + 1)) (wrap64 (x5 + 1))) else (none)) else (some (x1, x0))
def laws_markInt64S.f (k : Nat) (l0 : List Int) (a1 : Int) : Option (Int × (List Int)) := laws_markInt64S.l0 k l0 a1 0
set_option maxRecDepth 100000 in
theorem laws_markInt64S.ok {k : Nat} {l0 : List Int} {a1 : Int} {r0 : Int} {r1 : List Int} (H : laws_markInt64S.f k l0 a1 = some (r0, r1)) : OkF Tryz.prog 20 [.c (.own 0 l0.length), vI a1] [(0, .row 2 (l0.map c2))] (.c (.d (.v (.int .i64 r0)))) [(0, .row 2 (r1.map c2))] := by
  unfold laws_markInt64S.f at H
  refine OkF.of (N := 19) (rs := [4]) (avs := [.c (.d (.v (.int .i64 r0)))]) Tryz.func20 rfl rfl (fun _ _ => results_tmp rfl _ _ _) (by decide) rfl rfl rfl rfl (fun w0 S => ?_)
  refine AG.seq ?_
  refine AG.region HM ?_
  refine a_move (v := vI _) ?_
  refine RA.nil nofun ?_
  refine AG.seq ?_
  refine AG.seq ?_
  refine AG.region HM ?_
  refine a_move (v := vI _) ?_
  refine RA.nil nofun ?_
  refine AG.block ?_
  refine AG.loop ?_
  obtain ⟨K0, hK0, gK0⟩ : ∃ K, k ≤ K ∧ K ≤ k := ⟨k, Nat.le_refl k, Nat.le_refl k⟩
  refine AGr.canon id (AGr.loopI (n := k) (fun k s => k ≤ K0 ∧ ∃ (x0 : List Int) (x1 : Int) (x5 : Int), laws_markInt64S.l0 k x0 x1 x5 = some (r0, r1) ∧ s = St.of [(0, .c (.own 0 x0.length)), (1, vI x1), (5, vI x5)] [(0, .row 2 (x0.map c2))]) ⟨hK0, _, _, _, H, rfl⟩ ?_ ?_) ⟨rfl, rfl, rfl, trivial⟩ ⟨rfl, trivial⟩ rfl
  · rintro _ ⟨_, _, _, _, H, _⟩
    cases H
  · clear H hK0
    rintro k ih0 _ ⟨hK0, x0, x1, x5, H, rfl⟩
    unfold laws_markInt64S.l0 at H
    refine AG.seq ?_
    refine AG.seq ?_
    refine AG.region HM ?_
    refine a_move (v := vI _) ?_
    refine a_move (v := .c (.own _ _)) ?_
    refine a_lenO ?_ Tryz.underlying29
    refine a_int (u := .bool (decide (x5 < (x0.length : Int)))) ?_
    refine RA.nil nofun ?_
    by_cases hc1 : x5 < (x0.length : Int)
    · rw [if_pos hc1] at H
      refine AG.yes rfl (decide_eq_true hc1) ?_
      refine AG.skip ?_
      refine AG.seq ?_
      refine AG.block ?_
      refine AG.seq ?_
      refine AG.region HM ?_
      refine a_move (v := .c (.own _ _)) ?_
      refine a_move (v := vI _) ?_
      refine a_move (v := vI _) ?_
      by_cases hc2 : 0 ≤ x5
      · rw [if_pos hc2] at H
        refine a_ixO ?_ ⟨hc2, hc1⟩ T2 Tryz.underlying29
        refine a_stF (css' := (x0.set (x5 : Int).toNat x1).map c2) ?_ (flat_map (fun _ => rfl)) (G2 hc2 hc1) T2 (hcss := by exact set_map rfl)
        refine RA.nil nofun ?_
        refine AG.region HM ?_
        refine a_move (v := vI _) ?_
        refine a_int (u := .int .i64 (wrap64 (x1 + 1))) ?_
        refine a_move (v := vI _) ?_
        refine RA.nil nofun ?_
        refine AG.region HM ?_
        refine a_move (v := vI _) ?_
        refine a_int (u := .int .i64 (wrap64 (x5 + 1))) ?_
        refine a_move (v := vI _) ?_
        refine RA.nil nofun ?_
        exact AGr.canon id (ih0 _ (by omega) _ ⟨by omega, _, _, _, H, rfl⟩) ⟨(ownE rfl (by simp)), rfl, rfl, trivial⟩ ⟨rfl, trivial⟩ rfl
      · rw [if_neg hc2] at H
        cases H
    · rw [if_neg hc1] at H
      refine AG.no rfl (decide_eq_false hc1) ?_
      refine AG.exit ?_
      refine AG.seq ?_
      refine AG.region HM ?_
      refine a_move (v := vI _) ?_
      refine a_move (v := vI _) ?_
      refine RA.nil nofun ?_
      refine AG.ret ?_
      simp only [Option.some.injEq, Prod.mk.injEq] at H
      obtain ⟨rfl, rfl⟩ := H
      exact RetP.mk (fun κ => cond (Nat.beq κ 0) 0 (κ)) ⟨rfl, trivial⟩ ⟨rfl, trivial⟩ rfl
/-! ### laws_markText: function 61 -/
def laws_markText.l0 : Nat → Int → ByteArray → Option (ByteArray)
  | 0, _, _ => none
  | k + 1, x0, x3 => if x0 > 0 then ((some ([(wrap64 (48 + (Int.tmod x0 10))) % 256] : List Int)).bind fun y3 => (if (bs y3).size + x3.size ≤ 9223372036854775807 then (laws_markText.l0 k (wrap64 (Int.tdiv x0 10)) ((bs y3) ++ x3)) else (none))) else (if (⟨#[109]⟩ : ByteArray).size + x3.size ≤ 9223372036854775807 then (some ((⟨#[109]⟩ : ByteArray) ++ x3)) else (none))
def laws_markText.f (k : Nat) (a0 : Int) : Option (ByteArray) := if a0 ≤ 0 then (some (⟨#[109, 48]⟩ : ByteArray)) else (laws_markText.l0 k a0 (⟨#[]⟩ : ByteArray))
set_option maxRecDepth 100000 in
theorem laws_markText.ok {k : Nat} {a0 : Int} {r : ByteArray} (H : laws_markText.f k a0 = some r) : OkF Tryz.prog 61 [vI a0] [] (.c (.d (.v (.string r)))) [] := by
  unfold laws_markText.f at H
  refine OkF.of (N := 20) (rs := [2]) (avs := [.c (.d (.v (.string r)))]) Tryz.func61 rfl rfl (fun _ _ => results_tmp rfl _ _ _) (by decide) rfl rfl rfl rfl (fun w0 S => ?_)
  refine AG.seq ?_
  refine AG.region HM ?_
  refine a_move (v := vS _) ?_
  refine RA.nil nofun ?_
  refine AG.seq ?_
  refine AG.seq ?_
  refine AG.region HM ?_
  refine a_move (v := vI _) ?_
  refine a_int (u := .bool (decide (a0 ≤ 0))) ?_
  refine RA.nil nofun ?_
  by_cases hc1 : a0 ≤ 0
  · rw [if_pos hc1] at H
    refine AG.yes rfl (decide_eq_true hc1) ?_
    refine AG.seq ?_
    refine AG.region HM ?_
    refine a_move (v := vS _) ?_
    refine RA.nil nofun ?_
    refine AG.ret ?_
    obtain rfl := Option.some.inj H
    exact RetP.mk id ⟨rfl, trivial⟩ trivial rfl
  · rw [if_neg hc1] at H
    refine AG.no rfl (decide_eq_false hc1) ?_
    refine AG.skip ?_
    refine AG.seq ?_
    refine AG.region HM ?_
    refine a_move (v := vS _) ?_
    refine RA.nil nofun ?_
    refine AG.seq ?_
    refine AG.block ?_
    refine AG.loop ?_
    obtain ⟨K0, hK0, gK0⟩ : ∃ K, k ≤ K ∧ K ≤ k := ⟨k, Nat.le_refl k, Nat.le_refl k⟩
    refine AGr.canon id (AGr.loopI (n := k) (fun k s => k ≤ K0 ∧ ∃ (x0 : Int) (x3 : ByteArray), laws_markText.l0 k x0 x3 = some r ∧ s = St.of [(0, vI x0), (3, vS x3)] []) ⟨hK0, _, _, H, rfl⟩ ?_ ?_) ⟨rfl, rfl, trivial⟩ trivial rfl
    · rintro _ ⟨_, _, _, H, _⟩
      cases H
    · clear H hK0
      rintro k ih0 _ ⟨hK0, x0, x3, H, rfl⟩
      unfold laws_markText.l0 at H
      refine AG.seq ?_
      refine AG.seq ?_
      refine AG.region HM ?_
      refine a_move (v := vI _) ?_
      refine a_int (u := .bool (decide (x0 > 0))) ?_
      refine RA.nil nofun ?_
      by_cases hc2 : x0 > 0
      · rw [if_pos hc2] at H
        refine AG.yes rfl (decide_eq_true hc2) ?_
        refine AG.skip ?_
        refine AG.block ?_
        refine AG.seq ?_
        refine AG.region HM ?_
        refine a_move (v := vI _) ?_
        refine a_rem (r := Int.tmod x0 10) ?_ (show ¬ (10 : Int) = 0 from by decide)
        refine a_int (u := .int .i64 (wrap64 (48 + (Int.tmod x0 10)))) ?_
        refine a_conv (j := (wrap64 (48 + (Int.tmod x0 10))) % 256) ?_ Tryz.underlying3 Tryz.underlying5
        obtain ⟨y3, ey3, H⟩ := bindO H
        have ey3 := Option.some.inj ey3
        refine a_lit (cs := [_]) (D := []) (css := y3.map c5) 200 ?_ N175 T5 (hcss := by rw [← ey3]; rfl)
        refine a_b2s y3 ?_ Tryz.underlying175 Tryz.underlying5 Tryz.underlying9
        refine a_move (v := vS _) ?_
        by_cases hc4 : (bs y3).size + x3.size ≤ 9223372036854775807
        · rw [if_pos hc4] at H
          refine a_bin (u := .string ((bs y3) ++ x3)) ?_ (hp := by exact hc4)
          refine a_move (v := vS _) ?_
          refine RA.nil nofun ?_
          refine AG.region HM ?_
          refine a_move (v := vI _) ?_
          refine a_quo (r := wrap64 (Int.tdiv x0 10)) ?_ (show ¬ (10 : Int) = 0 from by decide)
          refine a_move (v := vI _) ?_
          refine RA.nil nofun ?_
          exact AGr.canon id (ih0 _ (by omega) _ ⟨by omega, _, _, H, rfl⟩) ⟨rfl, rfl, trivial⟩ trivial rfl
        · rw [if_neg hc4] at H
          cases H
      · rw [if_neg hc2] at H
        refine AG.no rfl (decide_eq_false hc2) ?_
        refine AG.exit ?_
        refine AG.seq ?_
        refine AG.region HM ?_
        refine a_move (v := vS _) ?_
        by_cases hc5 : (⟨#[109]⟩ : ByteArray).size + x3.size ≤ 9223372036854775807
        · rw [if_pos hc5] at H
          refine a_bin (u := .string ((⟨#[109]⟩ : ByteArray) ++ x3)) ?_ (hp := by exact hc5)
          refine a_move (v := vS _) ?_
          refine RA.nil nofun ?_
          refine AG.ret ?_
          obtain rfl := Option.some.inj H
          exact RetP.mk id ⟨rfl, trivial⟩ trivial rfl
        · rw [if_neg hc5] at H
          cases H
/-! ### laws_markFaceS: function 60 -/
def laws_markFaceS.l0 : Nat → List S146 → Int → Int → Option (Int × (List S146))
  | 0, _, _, _ => none
  | k + 1, x0, x1, x5 => if x5 < (x0.length : Int) then ((laws_markText.f k x1).bind fun t2 => (if 0 ≤ x5 then ((some (x0.set (x5 : Int).toNat (⟨t2, (rd146 x0 x5).f1⟩ : S146) : List S146)).bind fun y5 => ((laws_markInt64S.f k ((rd146 y5 x5).f1) (wrap64 (x1 + 1))).bind fun bt6 => (laws_markFaceS.l0 k (y5.set (x5 : Int).toNat (⟨(rd146 y5 x5).f0, bt6.2⟩ : S146)) bt6.1 (wrap64 (x5 + 1))))) else (none))) else (some (x1, x0))
def laws_markFaceS.f (k : Nat) (l0 : List S146) (a1 : Int) : Option (Int × (List S146)) := laws_markFaceS.l0 k l0 a1 0
set_option maxRecDepth 100000 in
theorem laws_markFaceS.ok {k : Nat} {l0 : List S146} {a1 : Int} {r0 : Int} {r1 : List S146} (H : laws_markFaceS.f k l0 a1 = some (r0, r1)) : OkF Tryz.prog 60 [.c (.own 0 l0.length), vI a1] [(0, .row 152 (l0.map c146))] (.c (.d (.v (.int .i64 r0)))) [(0, .row 152 (r1.map c146))] := by
  unfold laws_markFaceS.f at H
  refine OkF.of (N := 28) (rs := [4]) (avs := [.c (.d (.v (.int .i64 r0)))]) Tryz.func60 rfl rfl (fun _ _ => results_tmp rfl _ _ _) (by decide) rfl rfl rfl rfl (fun w0 S => ?_)
  refine AG.seq ?_
  refine AG.region HM ?_
  refine a_move (v := vI _) ?_
  refine RA.nil nofun ?_
  refine AG.seq ?_
  refine AG.seq ?_
  refine AG.region HM ?_
  refine a_move (v := vI _) ?_
  refine RA.nil nofun ?_
  refine AG.block ?_
  refine AG.loop ?_
  obtain ⟨K0, hK0, gK0⟩ : ∃ K, k ≤ K ∧ K ≤ k := ⟨k, Nat.le_refl k, Nat.le_refl k⟩
  refine AGr.canon id (AGr.loopI (n := k) (fun k s => k ≤ K0 ∧ ∃ (x0 : List S146) (x1 : Int) (x5 : Int), laws_markFaceS.l0 k x0 x1 x5 = some (r0, r1) ∧ s = St.of [(0, .c (.own 0 x0.length)), (1, vI x1), (5, vI x5)] [(0, .row 152 (x0.map c146))]) ⟨hK0, _, _, _, H, rfl⟩ ?_ ?_) ⟨rfl, rfl, rfl, trivial⟩ ⟨rfl, trivial⟩ rfl
  · rintro _ ⟨_, _, _, _, H, _⟩
    cases H
  · clear H hK0
    rintro k ih0 _ ⟨hK0, x0, x1, x5, H, rfl⟩
    unfold laws_markFaceS.l0 at H
    refine AG.seq ?_
    refine AG.seq ?_
    refine AG.region HM ?_
    refine a_move (v := vI _) ?_
    refine a_move (v := .c (.own _ _)) ?_
    refine a_lenO ?_ Tryz.underlying33
    refine a_int (u := .bool (decide (x5 < (x0.length : Int)))) ?_
    refine RA.nil nofun ?_
    by_cases hc1 : x5 < (x0.length : Int)
    · rw [if_pos hc1] at H
      refine AG.yes rfl (decide_eq_true hc1) ?_
      refine AG.skip ?_
      refine AG.seq ?_
      refine AG.block ?_
      refine AG.seq ?_
      refine AG.region HM ?_
      refine a_move (v := .c (.own _ _)) ?_
      refine a_move (v := vI _) ?_
      refine a_move (v := vI _) ?_
      obtain ⟨t2, e3, H⟩ := bindO H
      refine a_call (v := vS t2) (nk := []) (L := []) ?_ rfl (laws_markText.ok e3) id (qd qn) trivial trivial trivial rfl
      by_cases hc4 : 0 ≤ x5
      · rw [if_pos hc4] at H
        refine a_ixO ?_ ⟨hc4, hc1⟩ T152 Tryz.underlying33
        refine a_faE (q := 0) ?_ D152_0
        obtain ⟨y5, ey5, H⟩ := bindO H
        have ey5 := Option.some.inj ey5
        refine a_stE (D := []) (css' := y5.map c146) ?_ (G146 hc4 hc1) T9 (hcss := by rw [← ey5]; exact set_map rfl)
        refine RA.nil nofun ?_
        refine AG.seq ?_
        refine AG.region HM ?_
        refine a_move (v := vI _) ?_
        refine a_int (u := .int .i64 (wrap64 (x1 + 1))) ?_
        refine a_move (v := vI _) ?_
        refine RA.nil nofun ?_
        refine AG.region HM ?_
        refine a_move (v := .c (.own _ _)) ?_
        refine a_move (v := vI _) ?_
        refine a_ixO ?_ ⟨hc4, hc1⟩ T152 Tryz.underlying33
        refine a_faE (q := 1) ?_ D152_1
        refine a_ldE (v := .c (.sub _ _ _ _)) ?_ (G146 (l := y5) hc4 (by rw [← ey5]; simpa using hc1)) T29
        refine a_move (v := vI _) ?_
        obtain ⟨⟨t6, t7⟩, e8, H⟩ := bindO H
        refine a_callU (κ := 0) (i := (x5 : Int).toNat) (j := 1) (μ := 0) (v := vI t6) (L := []) (css2 := (y5.set (x5 : Int).toNat (⟨(rd146 y5 x5).f0, t7⟩ : S146)).map c146) ?_ rfl (laws_markInt64S.ok e8) (uS (uD u0)) trivial (G146 (l := y5) hc4 (by rw [← ey5]; simpa using hc1)) rfl (by exact set_map2 rfl)
        refine a_move (v := vI _) ?_
        refine RA.nil nofun ?_
        refine AG.relen 0 (y5.set (x5 : Int).toNat (⟨(rd146 y5 x5).f0, t7⟩ : S146)).length ?_
        refine AG.region HM ?_
        refine a_move (v := vI _) ?_
        refine a_int (u := .int .i64 (wrap64 (x5 + 1))) ?_
        refine a_move (v := vI _) ?_
        refine RA.nil nofun ?_
        exact AGr.canon id (ih0 _ (by omega) _ ⟨by omega, _, _, _, H, rfl⟩) ⟨rfl, rfl, rfl, trivial⟩ ⟨rfl, trivial⟩ rfl
      · rw [if_neg hc4] at H
        cases H
    · rw [if_neg hc1] at H
      refine AG.no rfl (decide_eq_false hc1) ?_
      refine AG.exit ?_
      refine AG.seq ?_
      refine AG.region HM ?_
      refine a_move (v := vI _) ?_
      refine a_move (v := vI _) ?_
      refine RA.nil nofun ?_
      refine AG.ret ?_
      simp only [Option.some.injEq, Prod.mk.injEq] at H
      obtain ⟨rfl, rfl⟩ := H
      exact RetP.mk (fun κ => cond (Nat.beq κ 0) 0 (κ)) ⟨rfl, trivial⟩ ⟨rfl, trivial⟩ rfl
/-! ### laws_markDrawing: function 18 -/
def laws_markDrawing.f (k : Nat) (a0_0 : Int) (a0_1 : Int) (l0_2 : List S159) (l0_3 : List S146) (a1 : Int) : Option (Int × (List S159) × (List S146)) := (laws_markPointS.f k l0_2 a1).bind fun bt1 => ((laws_markFaceS.f k l0_3 bt1.1).bind fun bt4 => (some (bt4.1, bt1.2, bt4.2)))
set_option maxRecDepth 100000 in
theorem laws_markDrawing.ok {k : Nat} {a0_0 : Int} {a0_1 : Int} {l0_2 : List S159} {l0_3 : List S146} {a1 : Int} {r0 : Int} {r1 : List S159} {r2 : List S146} (H : laws_markDrawing.f k a0_0 a0_1 l0_2 l0_3 a1 = some (r0, r1, r2)) : OkF Tryz.prog 18 [.agg [.d (.v (.int .i64 a0_0)), .d (.v (.int .i64 a0_1)), .own 0 l0_2.length, .own 1 l0_3.length], vI a1] [(0, .row 160 (l0_2.map c159)), (1, .row 152 (l0_3.map c146))] (.c (.d (.v (.int .i64 r0)))) [(0, .row 160 (r1.map c159)), (1, .row 152 (r2.map c146))] := by
  unfold laws_markDrawing.f at H
  refine OkF.of (N := 14) (rs := [4]) (avs := [.c (.d (.v (.int .i64 r0)))]) Tryz.func18 rfl rfl (fun _ _ => results_tmp rfl _ _ _) (by decide) rfl rfl rfl rfl (fun w0 S => ?_)
  refine AG.seq ?_
  refine AG.region HM ?_
  refine a_box 200 ?_
  refine a_move (v := vI _) ?_
  refine RA.nil nofun ?_
  refine AG.seq ?_
  refine AG.region HM ?_
  refine a_faB (q := 2) ?_ D35_2
  refine a_ldB (v := .c (.own _ _)) ?_ T32
  refine a_move (v := vI _) ?_
  obtain ⟨⟨t1, t2⟩, e3, H⟩ := bindO H
  refine a_callM (v := vI t1) (nk := []) (L := []) (Mk := [(0, _)]) (ck := [(0, .row 160 (t2.map c159))]) ?_ rfl (laws_markPointS.ok e3) id id (mcO (mcD m0)) trivial ⟨rfl, trivial⟩ trivial ⟨rfl, trivial⟩ trivial ⟨rfl, trivial⟩ rfl rfl rfl
  refine a_move (v := vI _) ?_
  refine RA.nil nofun ?_
  refine AG.relen 0 t2.length ?_
  refine AG.seq ?_
  refine AG.region HM ?_
  refine a_faB (q := 3) ?_ D35_3
  refine a_ldB (v := .c (.own _ _)) ?_ T33
  refine a_move (v := vI _) ?_
  obtain ⟨⟨t4, t5⟩, e6, H⟩ := bindO H
  refine a_callM (v := vI t4) (nk := []) (L := []) (Mk := [(1, _)]) (ck := [(1, .row 152 (t5.map c146))]) ?_ rfl (laws_markFaceS.ok e6) (fun κ => cond (Nat.beq κ 0) 1 (κ)) (fun κ => cond (Nat.beq κ 1) 0 (κ)) (mcO (mcD m0)) trivial ⟨rfl, trivial⟩ trivial ⟨rfl, trivial⟩ trivial ⟨rfl, trivial⟩ rfl rfl rfl
  refine a_move (v := vI _) ?_
  refine RA.nil nofun ?_
  refine AG.relen 1 t5.length ?_
  refine AG.seq ?_
  refine AG.region HM ?_
  refine a_move (v := vI _) ?_
  refine a_move (v := vI _) ?_
  refine RA.nil nofun ?_
  refine AG.ret ?_
  simp only [Option.some.injEq, Prod.mk.injEq] at H
  obtain ⟨rfl, rfl, rfl⟩ := H
  exact RetP.mk (fun κ => cond (Nat.beq κ 0) 0 (cond (Nat.beq κ 1) 1 (κ))) ⟨rfl, trivial⟩ ⟨rfl, rfl, trivial⟩ rfl
/-! ### laws_markBoxS: function 62 -/
def laws_markBoxS.l0 : Nat → List S176 → Int → Int → Option (Int × (List S176))
  | 0, _, _, _ => none
  | k + 1, x0, x1, x5 => if x5 < (x0.length : Int) then (if 0 ≤ x5 then ((some (x0.set (x5 : Int).toNat (⟨x1, (rd176 x0 x5).f1, (rd176 x0 x5).f2, (rd176 x0 x5).f3⟩ : S176) : List S176)).bind fun y3 => ((some (y3.set (x5 : Int).toNat (⟨(rd176 y3 x5).f0, wrap64 (x1 + 1), (rd176 y3 x5).f2, (rd176 y3 x5).f3⟩ : S176) : List S176)).bind fun y4 => ((some (y4.set (x5 : Int).toNat (⟨(rd176 y4 x5).f0, (rd176 y4 x5).f1, wrap64 ((wrap64 (x1 + 1)) + 1), (rd176 y4 x5).f3⟩ : S176) : List S176)).bind fun y5 => (laws_markBoxS.l0 k (y5.set (x5 : Int).toNat (⟨(rd176 y5 x5).f0, (rd176 y5 x5).f1, (rd176 y5 x5).f2, wrap64 ((wrap64 ((wrap64 (x1 + 1)) + 1)) + 1)⟩ : S176)) (wrap64 ((wrap64 ((wrap64 ((wrap64 (x1 + 1)) + 1)) + 1)) + 1)) (wrap64 (x5 + 1)))))) else (none)) else (some (x1, x0))
def laws_markBoxS.f (k : Nat) (l0 : List S176) (a1 : Int) : Option (Int × (List S176)) := laws_markBoxS.l0 k l0 a1 0
set_option maxRecDepth 100000 in
theorem laws_markBoxS.ok {k : Nat} {l0 : List S176} {a1 : Int} {r0 : Int} {r1 : List S176} (H : laws_markBoxS.f k l0 a1 = some (r0, r1)) : OkF Tryz.prog 62 [.c (.own 0 l0.length), vI a1] [(0, .row 177 (l0.map c176))] (.c (.d (.v (.int .i64 r0)))) [(0, .row 177 (r1.map c176))] := by
  unfold laws_markBoxS.f at H
  refine OkF.of (N := 41) (rs := [4]) (avs := [.c (.d (.v (.int .i64 r0)))]) Tryz.func62 rfl rfl (fun _ _ => results_tmp rfl _ _ _) (by decide) rfl rfl rfl rfl (fun w0 S => ?_)
  refine AG.seq ?_
  refine AG.region HM ?_
  refine a_move (v := vI _) ?_
  refine RA.nil nofun ?_
  refine AG.seq ?_
  refine AG.seq ?_
  refine AG.region HM ?_
  refine a_move (v := vI _) ?_
  refine RA.nil nofun ?_
  refine AG.block ?_
  refine AG.loop ?_
  obtain ⟨K0, hK0, gK0⟩ : ∃ K, k ≤ K ∧ K ≤ k := ⟨k, Nat.le_refl k, Nat.le_refl k⟩
  refine AGr.canon id (AGr.loopI (n := k) (fun k s => k ≤ K0 ∧ ∃ (x0 : List S176) (x1 : Int) (x5 : Int), laws_markBoxS.l0 k x0 x1 x5 = some (r0, r1) ∧ s = St.of [(0, .c (.own 0 x0.length)), (1, vI x1), (5, vI x5)] [(0, .row 177 (x0.map c176))]) ⟨hK0, _, _, _, H, rfl⟩ ?_ ?_) ⟨rfl, rfl, rfl, trivial⟩ ⟨rfl, trivial⟩ rfl
  · rintro _ ⟨_, _, _, _, H, _⟩
    cases H
  · clear H hK0
    rintro k ih0 _ ⟨hK0, x0, x1, x5, H, rfl⟩
    unfold laws_markBoxS.l0 at H
    refine AG.seq ?_
    refine AG.seq ?_
    refine AG.region HM ?_
    refine a_move (v := vI _) ?_
    refine a_move (v := .c (.own _ _)) ?_
    refine a_lenO ?_ Tryz.underlying93
    refine a_int (u := .bool (decide (x5 < (x0.length : Int)))) ?_
    refine RA.nil nofun ?_
    by_cases hc1 : x5 < (x0.length : Int)
    · rw [if_pos hc1] at H
      refine AG.yes rfl (decide_eq_true hc1) ?_
      refine AG.skip ?_
      refine AG.seq ?_
      refine AG.block ?_
      refine AG.seq ?_
      refine AG.region HM ?_
      refine a_move (v := .c (.own _ _)) ?_
      refine a_move (v := vI _) ?_
      refine a_move (v := vI _) ?_
      by_cases hc2 : 0 ≤ x5
      · rw [if_pos hc2] at H
        refine a_ixO ?_ ⟨hc2, hc1⟩ T177 Tryz.underlying93
        refine a_faE (q := 0) ?_ D177_0
        obtain ⟨y3, ey3, H⟩ := bindO H
        have ey3 := Option.some.inj ey3
        refine a_stF (css' := y3.map c176) ?_ (flat_map (fun _ => rfl)) (G176 hc2 hc1) T2 (hcss := by rw [← ey3]; exact set_map rfl)
        refine RA.nil nofun ?_
        refine AG.seq ?_
        refine AG.region HM ?_
        refine a_move (v := vI _) ?_
        refine a_int (u := .int .i64 (wrap64 (x1 + 1))) ?_
        refine a_move (v := vI _) ?_
        refine RA.nil nofun ?_
        refine AG.seq ?_
        refine AG.region HM ?_
        refine a_move (v := .c (.own _ _)) ?_
        refine a_move (v := vI _) ?_
        refine a_move (v := vI _) ?_
        refine a_ixO ?_ ⟨hc2, hc1⟩ T177 Tryz.underlying93
        refine a_faE (q := 1) ?_ D177_1
        obtain ⟨y4, ey4, H⟩ := bindO H
        have ey4 := Option.some.inj ey4
        refine a_stF (css' := y4.map c176) ?_ (flat_map (fun _ => rfl)) (G176 (l := y3) hc2 (by rw [← ey3]; simpa using hc1)) T2 (hcss := by rw [← ey4]; exact set_map rfl)
        refine RA.nil nofun ?_
        refine AG.seq ?_
        refine AG.region HM ?_
        refine a_move (v := vI _) ?_
        refine a_int (u := .int .i64 (wrap64 ((wrap64 (x1 + 1)) + 1))) ?_
        refine a_move (v := vI _) ?_
        refine RA.nil nofun ?_
        refine AG.seq ?_
        refine AG.region HM ?_
        refine a_move (v := .c (.own _ _)) ?_
        refine a_move (v := vI _) ?_
        refine a_move (v := vI _) ?_
        refine a_ixO ?_ ⟨hc2, hc1⟩ T177 Tryz.underlying93
        refine a_faE (q := 2) ?_ D177_2
        obtain ⟨y5, ey5, H⟩ := bindO H
        have ey5 := Option.some.inj ey5
        refine a_stF (css' := y5.map c176) ?_ (flat_map (fun _ => rfl)) (G176 (l := y4) hc2 (by rw [← ey4]; rw [← ey3]; simpa using hc1)) T2 (hcss := by rw [← ey5]; exact set_map rfl)
        refine RA.nil nofun ?_
        refine AG.seq ?_
        refine AG.region HM ?_
        refine a_move (v := vI _) ?_
        refine a_int (u := .int .i64 (wrap64 ((wrap64 ((wrap64 (x1 + 1)) + 1)) + 1))) ?_
        refine a_move (v := vI _) ?_
        refine RA.nil nofun ?_
        refine AG.seq ?_
        refine AG.region HM ?_
        refine a_move (v := .c (.own _ _)) ?_
        refine a_move (v := vI _) ?_
        refine a_move (v := vI _) ?_
        refine a_ixO ?_ ⟨hc2, hc1⟩ T177 Tryz.underlying93
        refine a_faE (q := 3) ?_ D177_3
        refine a_stF (css' := (y5.set (x5 : Int).toNat (⟨(rd176 y5 x5).f0, (rd176 y5 x5).f1, (rd176 y5 x5).f2, wrap64 ((wrap64 ((wrap64 (x1 + 1)) + 1)) + 1)⟩ : S176)).map c176) ?_ (flat_map (fun _ => rfl)) (G176 (l := y5) hc2 (by rw [← ey5]; rw [← ey4]; rw [← ey3]; simpa using hc1)) T2 (hcss := by exact set_map rfl)
        refine RA.nil nofun ?_
        refine AG.region HM ?_
        refine a_move (v := vI _) ?_
        refine a_int (u := .int .i64 (wrap64 ((wrap64 ((wrap64 ((wrap64 (x1 + 1)) + 1)) + 1)) + 1))) ?_
        refine a_move (v := vI _) ?_
        refine RA.nil nofun ?_
        refine AG.region HM ?_
        refine a_move (v := vI _) ?_
        refine a_int (u := .int .i64 (wrap64 (x5 + 1))) ?_
        refine a_move (v := vI _) ?_
        refine RA.nil nofun ?_
        exact AGr.canon id (ih0 _ (by omega) _ ⟨by omega, _, _, _, H, rfl⟩) ⟨(ownE rfl (by rw [← ey5]; rw [← ey4]; rw [← ey3]; simp)), rfl, rfl, trivial⟩ ⟨rfl, trivial⟩ rfl
      · rw [if_neg hc2] at H
        cases H
    · rw [if_neg hc1] at H
      refine AG.no rfl (decide_eq_false hc1) ?_
      refine AG.exit ?_
      refine AG.seq ?_
      refine AG.region HM ?_
      refine a_move (v := vI _) ?_
      refine a_move (v := vI _) ?_
      refine RA.nil nofun ?_
      refine AG.ret ?_
      simp only [Option.some.injEq, Prod.mk.injEq] at H
      obtain ⟨rfl, rfl⟩ := H
      exact RetP.mk (fun κ => cond (Nat.beq κ 0) 0 (κ)) ⟨rfl, trivial⟩ ⟨rfl, trivial⟩ rfl
/-! ### laws_markLeafS: function 19 -/
def laws_markLeafS.l0 : Nat → List S94 → Int → Int → Option (Int × (List S94))
  | 0, _, _, _ => none
  | k + 1, x0, x1, x5 => if x5 < (x0.length : Int) then ((laws_markText.f k x1).bind fun t2 => (if 0 ≤ x5 then ((some (x0.set (x5 : Int).toNat (⟨t2, (rd94 x0 x5).f1, (rd94 x0 x5).f2, (⟨(rd94 x0 x5).f3.f0, (rd94 x0 x5).f3.f1, (rd94 x0 x5).f3.f2⟩ : S81), (rd94 x0 x5).f4, (rd94 x0 x5).f5, (rd94 x0 x5).f6⟩ : S94) : List S94)).bind fun y5 => ((laws_markText.f k (wrap64 (x1 + 1))).bind fun t6 => ((some (y5.set (x5 : Int).toNat (⟨(rd94 y5 x5).f0, t6, (rd94 y5 x5).f2, (⟨(rd94 y5 x5).f3.f0, (rd94 y5 x5).f3.f1, (rd94 y5 x5).f3.f2⟩ : S81), (rd94 y5 x5).f4, (rd94 y5 x5).f5, (rd94 y5 x5).f6⟩ : S94) : List S94)).bind fun y8 => ((some (y8.set (x5 : Int).toNat (⟨(rd94 y8 x5).f0, (rd94 y8 x5).f1, wrap64 ((wrap64 (x1 + 1)) + 1), (⟨(rd94 y8 x5).f3.f0, (rd94 y8 x5).f3.f1, (rd94 y8 x5).f3.f2⟩ : S81), (rd94 y8 x5).f4, (rd94 y8 x5).f5, (rd94 y8 x5).f6⟩ : S94) : List S94)).bind fun y9 => ((laws_markText.f k (wrap64 ((wrap64 ((wrap64 (x1 + 1)) + 1)) + 1))).bind fun t10 => ((some (y9.set (x5 : Int).toNat (⟨(rd94 y9 x5).f0, (rd94 y9 x5).f1, (rd94 y9 x5).f2, (⟨t10, (rd94 y9 x5).f3.f1, (rd94 y9 x5).f3.f2⟩ : S81), (rd94 y9 x5).f4, (rd94 y9 x5).f5, (rd94 y9 x5).f6⟩ : S94) : List S94)).bind fun y12 => ((some (y12.set (x5 : Int).toNat (⟨(rd94 y12 x5).f0, (rd94 y12 x5).f1, (rd94 y12 x5).f2, (⟨(rd94 y12 x5).f3.f0, wrap64 ((wrap64 ((wrap64 ((wrap64 (x1 + 1)) + 1)) + 1)) + 1), (rd94 y12 x5).f3.f2⟩ : S81), (rd94 y12 x5).f4, (rd94 y12 x5).f5, (rd94 y12 x5).f6⟩ : S94) : List S94)).bind fun y13 => ((some (y13.set (x5 : Int).toNat (⟨(rd94 y13 x5).f0, (rd94 y13 x5).f1, (rd94 y13 x5).f2, (⟨(rd94 y13 x5).f3.f0, (rd94 y13 x5).f3.f1, wrap64 ((wrap64 ((wrap64 ((wrap64 ((wrap64 (x1 + 1)) + 1)) + 1)) + 1)) + 1)⟩ : S81), (rd94 y13 x5).f4, (rd94 y13 x5).f5, (rd94 y13 x5).f6⟩ : S94) : List S94)).bind fun y14 => ((some (y14.set (x5 : Int).toNat (⟨(rd94 y14 x5).f0, (rd94 y14 x5).f1, (rd94 y14 x5).f2, (⟨(rd94 y14 x5).f3.f0, (rd94 y14 x5).f3.f1, (rd94 y14 x5).f3.f2⟩ : S81), wrap64 ((wrap64 ((wrap64 ((wrap64 ((wrap64 ((wrap64 (x1 + 1)) + 1)) + 1)) + 1)) + 1)) + 1), (rd94 y14 x5).f5, (rd94 y14 x5).f6⟩ : S94) : List S94)).bind fun y15 => ((some (y15.set (x5 : Int).toNat (⟨(rd94 y15 x5).f0, (rd94 y15 x5).f1, (rd94 y15 x5).f2, (⟨(rd94 y15 x5).f3.f0, (rd94 y15 x5).f3.f1, (rd94 y15 x5).f3.f2⟩ : S81), (rd94 y15 x5).f4, wrap64 ((wrap64 ((wrap64 ((wrap64 ((wrap64 ((wrap64 ((wrap64 (x1 + 1)) + 1)) + 1)) + 1)) + 1)) + 1)) + 1), (rd94 y15 x5).f6⟩ : S94) : List S94)).bind fun y16 => ((laws_markBoxS.f k ((rd94 y16 x5).f6) (wrap64 ((wrap64 ((wrap64 ((wrap64 ((wrap64 ((wrap64 ((wrap64 ((wrap64 (x1 + 1)) + 1)) + 1)) + 1)) + 1)) + 1)) + 1)) + 1))).bind fun bt17 => (laws_markLeafS.l0 k (y16.set (x5 : Int).toNat (⟨(rd94 y16 x5).f0, (rd94 y16 x5).f1, (rd94 y16 x5).f2, (⟨(rd94 y16 x5).f3.f0, (rd94 y16 x5).f3.f1, (rd94 y16 x5).f3.f2⟩ : S81), (rd94 y16 x5).f4, (rd94 y16 x5).f5, bt17.2⟩ : S94)) bt17.1 (wrap64 (x5 + 1)))))))))))))) else (none))) else (some (x1, x0))
def laws_markLeafS.f (k : Nat) (l0 : List S94) (a1 : Int) : Option (Int × (List S94)) := laws_markLeafS.l0 k l0 a1 0
set_option maxRecDepth 100000 in
theorem laws_markLeafS.ok {k : Nat} {l0 : List S94} {a1 : Int} {r0 : Int} {r1 : List S94} (H : laws_markLeafS.f k l0 a1 = some (r0, r1)) : OkF Tryz.prog 19 [.c (.own 0 l0.length), vI a1] [(0, .row 95 (l0.map c94))] (.c (.d (.v (.int .i64 r0)))) [(0, .row 95 (r1.map c94))] := by
  unfold laws_markLeafS.f at H
  refine OkF.of (N := 82) (rs := [4]) (avs := [.c (.d (.v (.int .i64 r0)))]) Tryz.func19 rfl rfl (fun _ _ => results_tmp rfl _ _ _) (by decide) rfl rfl rfl rfl (fun w0 S => ?_)
  refine AG.seq ?_
  refine AG.region HM ?_
  refine a_move (v := vI _) ?_
  refine RA.nil nofun ?_
  refine AG.seq ?_
  refine AG.seq ?_
  refine AG.region HM ?_
  refine a_move (v := vI _) ?_
  refine RA.nil nofun ?_
  refine AG.block ?_
  refine AG.loop ?_
  obtain ⟨K0, hK0, gK0⟩ : ∃ K, k ≤ K ∧ K ≤ k := ⟨k, Nat.le_refl k, Nat.le_refl k⟩
  refine AGr.canon id (AGr.loopI (n := k) (fun k s => k ≤ K0 ∧ ∃ (x0 : List S94) (x1 : Int) (x5 : Int), laws_markLeafS.l0 k x0 x1 x5 = some (r0, r1) ∧ s = St.of [(0, .c (.own 0 x0.length)), (1, vI x1), (5, vI x5)] [(0, .row 95 (x0.map c94))]) ⟨hK0, _, _, _, H, rfl⟩ ?_ ?_) ⟨rfl, rfl, rfl, trivial⟩ ⟨rfl, trivial⟩ rfl
  · rintro _ ⟨_, _, _, _, H, _⟩
    cases H
  · clear H hK0
    rintro k ih0 _ ⟨hK0, x0, x1, x5, H, rfl⟩
    unfold laws_markLeafS.l0 at H
    refine AG.seq ?_
    refine AG.seq ?_
    refine AG.region HM ?_
    refine a_move (v := vI _) ?_
    refine a_move (v := .c (.own _ _)) ?_
    refine a_lenO ?_ Tryz.underlying37
    refine a_int (u := .bool (decide (x5 < (x0.length : Int)))) ?_
    refine RA.nil nofun ?_
    by_cases hc1 : x5 < (x0.length : Int)
    · rw [if_pos hc1] at H
      refine AG.yes rfl (decide_eq_true hc1) ?_
      refine AG.skip ?_
      refine AG.seq ?_
      refine AG.block ?_
      refine AG.seq ?_
      refine AG.region HM ?_
      refine a_move (v := .c (.own _ _)) ?_
      refine a_move (v := vI _) ?_
      refine a_move (v := vI _) ?_
      obtain ⟨t2, e3, H⟩ := bindO H
      refine a_call (v := vS t2) (nk := []) (L := []) ?_ rfl (laws_markText.ok e3) id (qd qn) trivial trivial trivial rfl
      by_cases hc4 : 0 ≤ x5
      · rw [if_pos hc4] at H
        refine a_ixO ?_ ⟨hc4, hc1⟩ T95 Tryz.underlying37
        refine a_faE (q := 0) ?_ D95_0
        obtain ⟨y5, ey5, H⟩ := bindO H
        have ey5 := Option.some.inj ey5
        refine a_stE (D := []) (css' := y5.map c94) ?_ (G94 hc4 hc1) T9 (hcss := by rw [← ey5]; exact set_map rfl)
        refine RA.nil nofun ?_
        refine AG.seq ?_
        refine AG.region HM ?_
        refine a_move (v := vI _) ?_
        refine a_int (u := .int .i64 (wrap64 (x1 + 1))) ?_
        refine a_move (v := vI _) ?_
        refine RA.nil nofun ?_
        refine AG.seq ?_
        refine AG.region HM ?_
        refine a_move (v := .c (.own _ _)) ?_
        refine a_move (v := vI _) ?_
        refine a_move (v := vI _) ?_
        obtain ⟨t6, e7, H⟩ := bindO H
        refine a_call (v := vS t6) (nk := []) (L := []) ?_ rfl (laws_markText.ok e7) id (qd qn) trivial trivial trivial rfl
        refine a_ixO ?_ ⟨hc4, hc1⟩ T95 Tryz.underlying37
        refine a_faE (q := 1) ?_ D95_1
        obtain ⟨y8, ey8, H⟩ := bindO H
        have ey8 := Option.some.inj ey8
        refine a_stE (D := []) (css' := y8.map c94) ?_ (G94 (l := y5) hc4 (by rw [← ey5]; simpa using hc1)) T9 (hcss := by rw [← ey8]; exact set_map rfl)
        refine RA.nil nofun ?_
        refine AG.seq ?_
        refine AG.region HM ?_
        refine a_move (v := vI _) ?_
        refine a_int (u := .int .i64 (wrap64 ((wrap64 (x1 + 1)) + 1))) ?_
        refine a_move (v := vI _) ?_
        refine RA.nil nofun ?_
        refine AG.seq ?_
        refine AG.region HM ?_
        refine a_move (v := .c (.own _ _)) ?_
        refine a_move (v := vI _) ?_
        refine a_move (v := vI _) ?_
        refine a_ixO ?_ ⟨hc4, hc1⟩ T95 Tryz.underlying37
        refine a_faE (q := 2) ?_ D95_2
        obtain ⟨y9, ey9, H⟩ := bindO H
        have ey9 := Option.some.inj ey9
        refine a_stE (D := []) (css' := y9.map c94) ?_ (G94 (l := y8) hc4 (by rw [← ey8]; rw [← ey5]; simpa using hc1)) T2 (hcss := by rw [← ey9]; exact set_map rfl)
        refine RA.nil nofun ?_
        refine AG.seq ?_
        refine AG.region HM ?_
        refine a_move (v := vI _) ?_
        refine a_int (u := .int .i64 (wrap64 ((wrap64 ((wrap64 (x1 + 1)) + 1)) + 1))) ?_
        refine a_move (v := vI _) ?_
        refine RA.nil nofun ?_
        refine AG.seq ?_
        refine AG.region HM ?_
        refine a_move (v := .c (.own _ _)) ?_
        refine a_move (v := vI _) ?_
        refine a_move (v := vI _) ?_
        obtain ⟨t10, e11, H⟩ := bindO H
        refine a_call (v := vS t10) (nk := []) (L := []) ?_ rfl (laws_markText.ok e11) id (qd qn) trivial trivial trivial rfl
        refine a_ixO ?_ ⟨hc4, hc1⟩ T95 Tryz.underlying37
        refine a_faE (q := 3) ?_ D95_3
        refine a_faE (q := 3) ?_ D92_0
        obtain ⟨y12, ey12, H⟩ := bindO H
        have ey12 := Option.some.inj ey12
        refine a_stE (D := []) (css' := y12.map c94) ?_ (G94 (l := y9) hc4 (by rw [← ey9]; rw [← ey8]; rw [← ey5]; simpa using hc1)) T9 (hcss := by rw [← ey12]; exact set_map rfl)
        refine RA.nil nofun ?_
        refine AG.seq ?_
        refine AG.region HM ?_
        refine a_move (v := vI _) ?_
        refine a_int (u := .int .i64 (wrap64 ((wrap64 ((wrap64 ((wrap64 (x1 + 1)) + 1)) + 1)) + 1))) ?_
        refine a_move (v := vI _) ?_
        refine RA.nil nofun ?_
        refine AG.seq ?_
        refine AG.region HM ?_
        refine a_move (v := .c (.own _ _)) ?_
        refine a_move (v := vI _) ?_
        refine a_move (v := vI _) ?_
        refine a_ixO ?_ ⟨hc4, hc1⟩ T95 Tryz.underlying37
        refine a_faE (q := 3) ?_ D95_3
        refine a_faE (q := 4) ?_ D92_1
        obtain ⟨y13, ey13, H⟩ := bindO H
        have ey13 := Option.some.inj ey13
        refine a_stE (D := []) (css' := y13.map c94) ?_ (G94 (l := y12) hc4 (by rw [← ey12]; rw [← ey9]; rw [← ey8]; rw [← ey5]; simpa using hc1)) T2 (hcss := by rw [← ey13]; exact set_map rfl)
        refine RA.nil nofun ?_
        refine AG.seq ?_
        refine AG.region HM ?_
        refine a_move (v := vI _) ?_
        refine a_int (u := .int .i64 (wrap64 ((wrap64 ((wrap64 ((wrap64 ((wrap64 (x1 + 1)) + 1)) + 1)) + 1)) + 1))) ?_
        refine a_move (v := vI _) ?_
        refine RA.nil nofun ?_
        refine AG.seq ?_
        refine AG.region HM ?_
        refine a_move (v := .c (.own _ _)) ?_
        refine a_move (v := vI _) ?_
        refine a_move (v := vI _) ?_
        refine a_ixO ?_ ⟨hc4, hc1⟩ T95 Tryz.underlying37
        refine a_faE (q := 3) ?_ D95_3
        refine a_faE (q := 5) ?_ D92_2
        obtain ⟨y14, ey14, H⟩ := bindO H
        have ey14 := Option.some.inj ey14
        refine a_stE (D := []) (css' := y14.map c94) ?_ (G94 (l := y13) hc4 (by rw [← ey13]; rw [← ey12]; rw [← ey9]; rw [← ey8]; rw [← ey5]; simpa using hc1)) T2 (hcss := by rw [← ey14]; exact set_map rfl)
        refine RA.nil nofun ?_
        refine AG.seq ?_
        refine AG.region HM ?_
        refine a_move (v := vI _) ?_
        refine a_int (u := .int .i64 (wrap64 ((wrap64 ((wrap64 ((wrap64 ((wrap64 ((wrap64 (x1 + 1)) + 1)) + 1)) + 1)) + 1)) + 1))) ?_
        refine a_move (v := vI _) ?_
        refine RA.nil nofun ?_
        refine AG.seq ?_
        refine AG.region HM ?_
        refine a_move (v := .c (.own _ _)) ?_
        refine a_move (v := vI _) ?_
        refine a_move (v := vI _) ?_
        refine a_ixO ?_ ⟨hc4, hc1⟩ T95 Tryz.underlying37
        refine a_faE (q := 6) ?_ D95_4
        obtain ⟨y15, ey15, H⟩ := bindO H
        have ey15 := Option.some.inj ey15
        refine a_stE (D := []) (css' := y15.map c94) ?_ (G94 (l := y14) hc4 (by rw [← ey14]; rw [← ey13]; rw [← ey12]; rw [← ey9]; rw [← ey8]; rw [← ey5]; simpa using hc1)) T2 (hcss := by rw [← ey15]; exact set_map rfl)
        refine RA.nil nofun ?_
        refine AG.seq ?_
        refine AG.region HM ?_
        refine a_move (v := vI _) ?_
        refine a_int (u := .int .i64 (wrap64 ((wrap64 ((wrap64 ((wrap64 ((wrap64 ((wrap64 ((wrap64 (x1 + 1)) + 1)) + 1)) + 1)) + 1)) + 1)) + 1))) ?_
        refine a_move (v := vI _) ?_
        refine RA.nil nofun ?_
        refine AG.seq ?_
        refine AG.region HM ?_
        refine a_move (v := .c (.own _ _)) ?_
        refine a_move (v := vI _) ?_
        refine a_move (v := vI _) ?_
        refine a_ixO ?_ ⟨hc4, hc1⟩ T95 Tryz.underlying37
        refine a_faE (q := 7) ?_ D95_5
        obtain ⟨y16, ey16, H⟩ := bindO H
        have ey16 := Option.some.inj ey16
        refine a_stE (D := []) (css' := y16.map c94) ?_ (G94 (l := y15) hc4 (by rw [← ey15]; rw [← ey14]; rw [← ey13]; rw [← ey12]; rw [← ey9]; rw [← ey8]; rw [← ey5]; simpa using hc1)) T2 (hcss := by rw [← ey16]; exact set_map rfl)
        refine RA.nil nofun ?_
        refine AG.seq ?_
        refine AG.region HM ?_
        refine a_move (v := vI _) ?_
        refine a_int (u := .int .i64 (wrap64 ((wrap64 ((wrap64 ((wrap64 ((wrap64 ((wrap64 ((wrap64 ((wrap64 (x1 + 1)) + 1)) + 1)) + 1)) + 1)) + 1)) + 1)) + 1))) ?_
        refine a_move (v := vI _) ?_
        refine RA.nil nofun ?_
        refine AG.region HM ?_
        refine a_move (v := .c (.own _ _)) ?_
        refine a_move (v := vI _) ?_
        refine a_ixO ?_ ⟨hc4, hc1⟩ T95 Tryz.underlying37
        refine a_faE (q := 8) ?_ D95_6
        refine a_ldE (v := .c (.sub _ _ _ _)) ?_ (G94 (l := y16) hc4 (by rw [← ey16]; rw [← ey15]; rw [← ey14]; rw [← ey13]; rw [← ey12]; rw [← ey9]; rw [← ey8]; rw [← ey5]; simpa using hc1)) T93
        refine a_move (v := vI _) ?_
        obtain ⟨⟨t17, t18⟩, e19, H⟩ := bindO H
        refine a_callU (κ := 0) (i := (x5 : Int).toNat) (j := 8) (μ := 0) (v := vI t17) (L := []) (css2 := (y16.set (x5 : Int).toNat (⟨(rd94 y16 x5).f0, (rd94 y16 x5).f1, (rd94 y16 x5).f2, (⟨(rd94 y16 x5).f3.f0, (rd94 y16 x5).f3.f1, (rd94 y16 x5).f3.f2⟩ : S81), (rd94 y16 x5).f4, (rd94 y16 x5).f5, t18⟩ : S94)).map c94) ?_ rfl (laws_markBoxS.ok e19) (uS (uD u0)) trivial (G94 (l := y16) hc4 (by rw [← ey16]; rw [← ey15]; rw [← ey14]; rw [← ey13]; rw [← ey12]; rw [← ey9]; rw [← ey8]; rw [← ey5]; simpa using hc1)) rfl (by exact set_map2 rfl)
        refine a_move (v := vI _) ?_
        refine RA.nil nofun ?_
        refine AG.relen 0 (y16.set (x5 : Int).toNat (⟨(rd94 y16 x5).f0, (rd94 y16 x5).f1, (rd94 y16 x5).f2, (⟨(rd94 y16 x5).f3.f0, (rd94 y16 x5).f3.f1, (rd94 y16 x5).f3.f2⟩ : S81), (rd94 y16 x5).f4, (rd94 y16 x5).f5, t18⟩ : S94)).length ?_
        refine AG.region HM ?_
        refine a_move (v := vI _) ?_
        refine a_int (u := .int .i64 (wrap64 (x5 + 1))) ?_
        refine a_move (v := vI _) ?_
        refine RA.nil nofun ?_
        exact AGr.canon id (ih0 _ (by omega) _ ⟨by omega, _, _, _, H, rfl⟩) ⟨rfl, rfl, rfl, trivial⟩ ⟨rfl, trivial⟩ rfl
      · rw [if_neg hc4] at H
        cases H
    · rw [if_neg hc1] at H
      refine AG.no rfl (decide_eq_false hc1) ?_
      refine AG.exit ?_
      refine AG.seq ?_
      refine AG.region HM ?_
      refine a_move (v := vI _) ?_
      refine a_move (v := vI _) ?_
      refine RA.nil nofun ?_
      refine AG.ret ?_
      simp only [Option.some.injEq, Prod.mk.injEq] at H
      obtain ⟨rfl, rfl⟩ := H
      exact RetP.mk (fun κ => cond (Nat.beq κ 0) 0 (κ)) ⟨rfl, trivial⟩ ⟨rfl, trivial⟩ rfl
/-! ### laws_heldInt64S: function 21 -/
def laws_heldInt64S.l0 : Nat → List Int → Int → Int → Option (Int)
  | 0, _, _, _ => none
  | k + 1, x0, x1, x5 => if x5 < (x0.length : Int) then (if 0 ≤ x5 then (if (rd2 x0 x5) = x1 then (laws_heldInt64S.l0 k x0 (wrap64 (x1 + 1)) (wrap64 (x5 + 1))) else (some (-1))) else (none)) else (some x1)
def laws_heldInt64S.f (k : Nat) (l0 : List Int) (a1 : Int) : Option (Int) := laws_heldInt64S.l0 k l0 a1 0
set_option maxRecDepth 100000 in
theorem laws_heldInt64S.ok {k : Nat} {l0 : List Int} {a1 : Int} {r : Int} (H : laws_heldInt64S.f k l0 a1 = some r) : OkF Tryz.prog 21 [vR 2 (l0.map c2), vI a1] [] (.c (.d (.v (.int .i64 r)))) [] := by
  unfold laws_heldInt64S.f at H
  refine OkF.of (N := 21) (rs := [4]) (avs := [.c (.d (.v (.int .i64 r)))]) Tryz.func21 rfl rfl (fun _ _ => results_tmp rfl _ _ _) (by decide) rfl rfl rfl rfl (fun w0 S => ?_)
  refine AG.seq ?_
  refine AG.region HM ?_
  refine a_move (v := vI _) ?_
  refine RA.nil nofun ?_
  refine AG.seq ?_
  refine AG.seq ?_
  refine AG.region HM ?_
  refine a_move (v := vI _) ?_
  refine RA.nil nofun ?_
  refine AG.block ?_
  refine AG.loop ?_
  obtain ⟨K0, hK0, gK0⟩ : ∃ K, k ≤ K ∧ K ≤ k := ⟨k, Nat.le_refl k, Nat.le_refl k⟩
  refine AGr.canon id (AGr.loopI (n := k) (fun k s => k ≤ K0 ∧ ∃ (x0 : List Int) (x1 : Int) (x5 : Int), laws_heldInt64S.l0 k x0 x1 x5 = some r ∧ s = St.of [(0, vR 2 (x0.map c2)), (1, vI x1), (5, vI x5)] []) ⟨hK0, _, _, _, H, rfl⟩ ?_ ?_) ⟨rfl, rfl, rfl, trivial⟩ trivial rfl
  · rintro _ ⟨_, _, _, _, H, _⟩
    cases H
  · clear H hK0
    rintro k ih0 _ ⟨hK0, x0, x1, x5, H, rfl⟩
    unfold laws_heldInt64S.l0 at H
    refine AG.seq ?_
    refine AG.seq ?_
    refine AG.region HM ?_
    refine a_move (v := vI _) ?_
    refine a_move (v := vR _ _) ?_
    refine a_lenR ?_ Tryz.underlying29
    refine a_int (u := .bool (decide (x5 < (x0.length : Int)))) ?_
    refine RA.nil nofun ?_
    by_cases hc1 : x5 < (x0.length : Int)
    · rw [if_pos hc1] at H
      refine AG.yes rfl (decide_eq_true hc1) ?_
      refine AG.skip ?_
      refine AG.seq ?_
      refine AG.block ?_
      refine AG.seq ?_
      refine AG.seq ?_
      refine AG.region HM ?_
      refine a_move (v := vR _ _) ?_
      refine a_move (v := vI _) ?_
      by_cases hc2 : 0 ≤ x5
      · rw [if_pos hc2] at H
        refine a_ixR (el := c2 (rd2 x0 x5)) ?_ ⟨hc2, hc1⟩ T2 Tryz.underlying29 (hel := R2 hc2 hc1)
        refine a_ldR (v := vI _) ?_ T2
        refine a_move (v := vI _) ?_
        refine a_int (u := .bool (((rd2 x0 x5) != x1))) ?_
        refine RA.nil nofun ?_
        by_cases hc3 : (rd2 x0 x5) = x1
        · rw [if_pos hc3] at H
          refine AG.no rfl (bne_eq_false_iff_eq.2 hc3) ?_
          refine AG.skip ?_
          refine AG.region HM ?_
          refine a_move (v := vI _) ?_
          refine a_int (u := .int .i64 (wrap64 (x1 + 1))) ?_
          refine a_move (v := vI _) ?_
          refine RA.nil nofun ?_
          refine AG.region HM ?_
          refine a_move (v := vI _) ?_
          refine a_int (u := .int .i64 (wrap64 (x5 + 1))) ?_
          refine a_move (v := vI _) ?_
          refine RA.nil nofun ?_
          exact AGr.canon id (ih0 _ (by omega) _ ⟨by omega, _, _, _, H, rfl⟩) ⟨rfl, rfl, rfl, trivial⟩ trivial rfl
        · rw [if_neg hc3] at H
          refine AG.yes rfl (bne_iff_ne.2 hc3) ?_
          refine AG.seq ?_
          refine AG.region HM ?_
          refine a_move (v := vI _) ?_
          refine RA.nil nofun ?_
          refine AG.ret ?_
          obtain rfl := Option.some.inj H
          exact RetP.mk id ⟨rfl, trivial⟩ trivial rfl
      · rw [if_neg hc2] at H
        cases H
    · rw [if_neg hc1] at H
      refine AG.no rfl (decide_eq_false hc1) ?_
      refine AG.exit ?_
      refine AG.seq ?_
      refine AG.region HM ?_
      refine a_move (v := vI _) ?_
      refine a_move (v := vI _) ?_
      refine RA.nil nofun ?_
      refine AG.ret ?_
      obtain rfl := Option.some.inj H
      exact RetP.mk id ⟨rfl, trivial⟩ trivial rfl
/-! ### laws_FnExactUnfitFaces: function 3 -/
mutual
def laws_FnExactUnfitFaces.j0 : Nat → List S84 → Int → Int → List S159 → List S146 → List Int → Int → Int → Int → List S159 → List S146 → List S94 → List Int → Int → Bool → Option (Bool)
  | 0, _, _, _, _, _, _, _, _, _, _, _, _, _, _, _ => none
  | k + 1, x1, y213_0, y213_1, y213_2, y213_3, x6, x7, y215_0, y215_1, y215_2, y215_3, x9, x10, x11, x53 => if x53 = true then (some false) else ((laws_toDrawing.f k y213_0 y213_1 y213_2 y213_3).bind fun bt31 => ((laws_eqDrawing.f k y215_0 y215_1 y215_2 y215_3 bt31.1 bt31.2.1 bt31.2.2.1 bt31.2.2.2).bind fun t36 => (if t36 = true then ((laws_toLeafS.f k x1).bind fun t39 => ((laws_eqLeafS.f k x9 t39).bind fun t41 => (if t41 = true then ((laws_markDrawing.f k y215_0 y215_1 y215_2 y215_3 1).bind fun bt44 => ((laws_markLeafS.f k x9 bt44.1).bind fun bt48 => (if bt48.1 < 0 then (laws_FnExactUnfitFaces.j1 k x1 y213_0 y213_1 y213_2 y213_3 x6 x7 x10 true) else ((laws_eqInt64S.f k x10 x6).bind fun t52 => (if t52 = true then (laws_FnExactUnfitFaces.j1 k x1 y213_0 y213_1 y213_2 y213_3 x6 x7 x10 (x11 != x7)) else (laws_FnExactUnfitFaces.j1 k x1 y213_0 y213_1 y213_2 y213_3 x6 x7 x10 true)))))) else (some false)))) else (some false))))
def laws_FnExactUnfitFaces.j1 : Nat → List S84 → Int → Int → List S159 → List S146 → List Int → Int → List Int → Bool → Option (Bool)
  | 0, _, _, _, _, _, _, _, _, _ => none
  | k + 1, x1, y228_0, y228_1, y228_2, y228_3, x6, x7, x10, x82 => if x82 = true then (some false) else ((laws_markInt64S.f k x10 1).bind fun bt56 => ((laws_heldInt64S.f k bt56.2 1).bind fun t59 => (if t59 < 0 then (some false) else (if t59 = bt56.1 then ((laws_toDrawing.f k y228_0 y228_1 y228_2 y228_3).bind fun bt63 => ((laws_toLeafS.f k x1).bind fun t68 => ((impl_UnfitFaces.f k bt63.1 bt63.2.1 bt63.2.2.1 bt63.2.2.2 t68).bind fun bt70 => ((laws_eqInt64S.f k bt70.1 x6).bind fun t73 => (if t73 = true then (laws_FnExactUnfitFaces.j2 k bt56.2 bt56.1 (bt70.2 != x7)) else (laws_FnExactUnfitFaces.j2 k bt56.2 bt56.1 true)))))) else (some false)))))
def laws_FnExactUnfitFaces.j2 : Nat → List Int → Int → Bool → Option (Bool)
  | 0, _, _, _ => none
  | k + 1, x10, x13, x110 => if x110 = true then (some false) else ((laws_heldInt64S.f k x10 1).bind fun t77 => (if t77 < 0 then (some false) else (if t77 = x13 then (some true) else (some false))))
end
def laws_FnExactUnfitFaces.f (k : Nat) (a0_0 : Int) (a0_1 : Int) (l0_2 : List S159) (l0_3 : List S146) (l1 : List S84) : Option (Bool) := (laws_szDrawing.f k a0_0 a0_1 l0_2 l0_3 1048576).bind fun t1 => (if t1 < 0 then (some true) else ((laws_szLeafS.f k l1 t1).bind fun t4 => (if t4 < 0 then (some true) else ((laws_toDrawing.f k a0_0 a0_1 l0_2 l0_3).bind fun bt7 => ((laws_toLeafS.f k l1).bind fun t12 => ((spec_UnfitFaces.f k bt7.1 bt7.2.1 bt7.2.2.1 bt7.2.2.2 t12).bind fun bt14 => ((laws_toDrawing.f k a0_0 a0_1 l0_2 l0_3).bind fun bt17 => ((laws_toLeafS.f k l1).bind fun t22 => ((impl_UnfitFaces.f k bt17.1 bt17.2.1 bt17.2.2.1 bt17.2.2.2 t22).bind fun bt24 => ((laws_eqInt64S.f k bt24.1 bt14.1).bind fun t27 => (if t27 = true then (laws_FnExactUnfitFaces.j0 k l1 a0_0 a0_1 l0_2 l0_3 bt14.1 bt14.2 bt17.1 bt17.2.1 bt17.2.2.1 bt17.2.2.2 t22 bt24.1 bt24.2 (bt24.2 != bt14.2)) else (laws_FnExactUnfitFaces.j0 k l1 a0_0 a0_1 l0_2 l0_3 bt14.1 bt14.2 bt17.1 bt17.2.1 bt17.2.2.1 bt17.2.2.2 t22 bt24.1 bt24.2 true))))))))))))
set_option maxRecDepth 100000 in
theorem laws_FnExactUnfitFaces.ok {k : Nat} {a0_0 : Int} {a0_1 : Int} {l0_2 : List S159} {l0_3 : List S146} {l1 : List S84} {r : Bool} (H : laws_FnExactUnfitFaces.f k a0_0 a0_1 l0_2 l0_3 l1 = some r) : OkF Tryz.prog 3 [.agg [.d (.v (.int .i64 a0_0)), .d (.v (.int .i64 a0_1)), .d (.row 162 (l0_2.map c159)), .d (.row 147 (l0_3.map c146))], vR 85 (l1.map c84)] [] (.c (.d (.v (.bool r)))) [] := by
  unfold laws_FnExactUnfitFaces.f at H
  refine OkF.of (N := 119) (rs := [4]) (avs := [.c (.d (.v (.bool r)))]) Tryz.func3 rfl rfl (fun _ _ => results_tmp rfl _ _ _) (by decide) rfl rfl rfl rfl (fun w0 S => ?_)
  refine AG.seq ?_
  refine AG.region HM ?_
  refine a_box 200 ?_
  refine a_move (v := vB _) ?_
  refine RA.nil nofun ?_
  refine AG.seq ?_
  refine AG.region HM ?_
  refine a_move (v := vI _) ?_
  refine RA.nil nofun ?_
  refine AG.seq ?_
  refine AG.region HM ?_
  refine a_ldB (v := .agg [_, _, _, _]) ?_ T25
  refine a_move (v := vI _) ?_
  obtain ⟨t1, e2, H⟩ := bindO H
  refine a_call (v := vI t1) (nk := []) (L := []) ?_ rfl (laws_szDrawing.ok e2) id (qg (qd qn)) trivial trivial trivial rfl
  refine a_move (v := vI _) ?_
  refine RA.nil nofun ?_
  refine AG.seq ?_
  refine AG.seq ?_
  refine AG.region HM ?_
  refine a_move (v := vI _) ?_
  refine a_int (u := .bool (decide (t1 < 0))) ?_
  refine RA.nil nofun ?_
  by_cases hc3 : t1 < 0
  · rw [if_pos hc3] at H
    refine AG.yes rfl (decide_eq_true hc3) ?_
    refine AG.seq ?_
    refine AG.region HM ?_
    refine a_move (v := vB _) ?_
    refine RA.nil nofun ?_
    refine AG.ret ?_
    obtain rfl := Option.some.inj H
    exact RetP.mk id ⟨rfl, trivial⟩ trivial rfl
  · rw [if_neg hc3] at H
    refine AG.no rfl (decide_eq_false hc3) ?_
    refine AG.skip ?_
    refine AG.seq ?_
    refine AG.region HM ?_
    refine a_move (v := vR _ _) ?_
    refine a_move (v := vI _) ?_
    obtain ⟨t4, e5, H⟩ := bindO H
    refine a_call (v := vI t4) (nk := []) (L := []) ?_ rfl (laws_szLeafS.ok e5) id (qd (qd qn)) trivial trivial trivial rfl
    refine a_move (v := vI _) ?_
    refine RA.nil nofun ?_
    refine AG.seq ?_
    refine AG.seq ?_
    refine AG.region HM ?_
    refine a_move (v := vI _) ?_
    refine a_int (u := .bool (decide (t4 < 0))) ?_
    refine RA.nil nofun ?_
    by_cases hc6 : t4 < 0
    · rw [if_pos hc6] at H
      refine AG.yes rfl (decide_eq_true hc6) ?_
      refine AG.seq ?_
      refine AG.region HM ?_
      refine a_move (v := vB _) ?_
      refine RA.nil nofun ?_
      refine AG.ret ?_
      obtain rfl := Option.some.inj H
      exact RetP.mk id ⟨rfl, trivial⟩ trivial rfl
    · rw [if_neg hc6] at H
      refine AG.no rfl (decide_eq_false hc6) ?_
      refine AG.skip ?_
      refine AG.seq ?_
      refine AG.region HM ?_
      refine a_ldB (v := .agg [_, _, _, _]) ?_ T25
      obtain ⟨⟨t7, t8, t9, t10⟩, e11, H⟩ := bindO H
      refine a_call (v := .agg [.d (.v (.int .i64 t7)), .d (.v (.int .i64 t8)), .own 203 t9.length, .own 204 t10.length]) (nk := [(203, .row 160 (t9.map c159)), (204, .row 152 (t10.map c146))]) (L := []) ?_ rfl (laws_toDrawing.ok e11) (fun κ => cond (Nat.beq κ 203) 100 (cond (Nat.beq κ 204) 101 (κ))) (qg qn) trivial ⟨rfl, rfl, trivial⟩ ⟨rfl, rfl, trivial⟩ rfl
      refine a_move (v := vR _ _) ?_
      obtain ⟨t12, e13, H⟩ := bindO H
      refine a_call (v := .c (.own 205 t12.length)) (nk := [(205, .row 95 (t12.map c94))]) (L := []) ?_ rfl (laws_toLeafS.ok e13) (fun κ => cond (Nat.beq κ 205) 100 (κ)) (qd qn) trivial ⟨rfl, trivial⟩ ⟨rfl, trivial⟩ rfl
      obtain ⟨⟨t14, t15⟩, e16, H⟩ := bindO H
      refine a_call (v := .tup [.c (.own 206 t14.length), .c (.d (.v (.int .i64 t15)))]) (nk := [(206, .row 2 (t14.map c2))]) (L := [(203, _), (204, _), (205, _)]) ?_ rfl (spec_UnfitFaces.ok e16) (fun κ => cond (Nat.beq κ 206) 100 (κ)) (qm (eD (eD (eC rO (eC rO eN)))) (qc rO qn)) ⟨rfl, rfl, rfl, trivial⟩ ⟨rfl, trivial⟩ ⟨rfl, trivial⟩ rfl
      refine a_move (v := .tup [_, _]) ?_
      refine a_ext (v := .c (.own _ _)) ?_
      refine a_ext (v := vI _) ?_
      refine a_move (v := .c (.own _ _)) ?_
      refine a_move (v := vI _) ?_
      refine RA.nil nofun ?_
      refine AG.seq ?_
      refine AG.region HM ?_
      refine a_ldB (v := .agg [_, _, _, _]) ?_ T25
      obtain ⟨⟨t17, t18, t19, t20⟩, e21, H⟩ := bindO H
      refine a_call (v := .agg [.d (.v (.int .i64 t17)), .d (.v (.int .i64 t18)), .own 207 t19.length, .own 208 t20.length]) (nk := [(207, .row 160 (t19.map c159)), (208, .row 152 (t20.map c146))]) (L := []) ?_ rfl (laws_toDrawing.ok e21) (fun κ => cond (Nat.beq κ 207) 100 (cond (Nat.beq κ 208) 101 (κ))) (qg qn) trivial ⟨rfl, rfl, trivial⟩ ⟨rfl, rfl, trivial⟩ rfl
      refine a_alloc (cs := [_, _, _, _]) 209 ?_ T35
      refine a_stB (cs' := [_, _, _, _]) ?_ T35
      refine RA.nil nofun ?_
      refine AG.seq ?_
      refine AG.region HM ?_
      refine a_move (v := vR _ _) ?_
      obtain ⟨t22, e23, H⟩ := bindO H
      refine a_call (v := .c (.own 210 t22.length)) (nk := [(210, .row 95 (t22.map c94))]) (L := []) ?_ rfl (laws_toLeafS.ok e23) (fun κ => cond (Nat.beq κ 210) 100 (κ)) (qd qn) trivial ⟨rfl, trivial⟩ ⟨rfl, trivial⟩ rfl
      refine a_move (v := .c (.own _ _)) ?_
      refine RA.nil nofun ?_
      refine AG.seq ?_
      refine AG.region HM ?_
      refine a_ldB (v := .agg [_, _, _, _]) ?_ T35
      refine a_move (v := .c (.own _ _)) ?_
      obtain ⟨⟨t24, t25⟩, e26, H⟩ := bindO H
      refine a_call (v := .tup [.c (.own 211 t24.length), .c (.d (.v (.int .i64 t25)))]) (nk := [(211, .row 2 (t24.map c2))]) (L := [(207, _), (208, _), (210, _)]) ?_ rfl (impl_UnfitFaces.ok e26) (fun κ => cond (Nat.beq κ 211) 100 (κ)) (qm (eD (eD (eC rO (eC rO eN)))) (qc rO qn)) ⟨rfl, rfl, rfl, trivial⟩ ⟨rfl, trivial⟩ ⟨rfl, trivial⟩ rfl
      refine a_move (v := .tup [_, _]) ?_
      refine a_ext (v := .c (.own _ _)) ?_
      refine a_ext (v := vI _) ?_
      refine a_move (v := .c (.own _ _)) ?_
      refine a_move (v := vI _) ?_
      refine RA.nil nofun ?_
      refine AG.seq ?_
      refine AG.seq ?_
      refine AG.join (fun s => ∃ q, q ≤ k ∧ ∃ (x1 : List S84) (y213_0 : Int) (y213_1 : Int) (y213_2 : List S159) (y213_3 : List S146) (x6 : List Int) (x7 : Int) (y215_0 : Int) (y215_1 : Int) (y215_2 : List S159) (y215_3 : List S146) (x9 : List S94) (x10 : List Int) (x11 : Int) (x53 : Bool), laws_FnExactUnfitFaces.j0 q x1 y213_0 y213_1 y213_2 y213_3 x6 x7 y215_0 y215_1 y215_2 y215_3 x9 x10 x11 x53 = some r ∧ s = St.of [(1, vR 85 (x1.map c84)), (2, .c (.ptr 213 0)), (6, .c (.own 214 x6.length)), (7, vI x7), (8, .c (.ptr 215 0)), (9, .c (.own 218 x9.length)), (10, .c (.own 219 x10.length)), (11, vI x11), (53, vB x53)] [(213, .box 25 [.d (.v (.int .i64 y213_0)), .d (.v (.int .i64 y213_1)), .d (.row 162 (y213_2.map c159)), .d (.row 147 (y213_3.map c146))]), (214, .row 2 (x6.map c2)), (215, .box 35 [.d (.v (.int .i64 y215_0)), .d (.v (.int .i64 y215_1)), .own 216 y215_2.length, .own 217 y215_3.length]), (216, .row 160 (y215_2.map c159)), (217, .row 152 (y215_3.map c146)), (218, .row 95 (x9.map c94)), (219, .row 2 (x10.map c2))]) ?_ ?_
      · skip
        refine AG.region HM ?_
        refine a_move (v := .c (.own _ _)) ?_
        refine a_move (v := .c (.own _ _)) ?_
        obtain ⟨t27, e28, H⟩ := bindO H
        refine a_call (v := vB t27) (nk := []) (L := [(211, _), (206, _)]) ?_ rfl (laws_eqInt64S.ok e28) id (qc rO (qc rO qn)) ⟨rfl, rfl, trivial⟩ trivial trivial rfl
        refine a_un (u := .bool (!t27)) ?_
        refine a_move (v := vB _) ?_
        by_cases hc29 : t27 = true
        · rw [if_pos hc29] at H
          refine a_move (v := vI _) ?_ (hg := Gs.yes rfl rfl rfl (congrArg Bool.not hc29))
          refine a_move (v := vI _) ?_ (hg := Gs.yes rfl rfl rfl (congrArg Bool.not hc29))
          refine a_int (u := .bool ((t25 != t15))) ?_ (hg := Gs.yes rfl rfl rfl (congrArg Bool.not hc29))
          refine a_pick (b := false) (v := vB _) ?_ (congrArg Bool.not hc29)
          refine RA.nil nofun ?_
          exact Can.mk (fun κ => cond (Nat.beq κ 213) 200 (cond (Nat.beq κ 214) 206 (cond (Nat.beq κ 215) 209 (cond (Nat.beq κ 216) 207 (cond (Nat.beq κ 217) 208 (cond (Nat.beq κ 218) 210 (cond (Nat.beq κ 219) 211 (κ)))))))) ⟨_, (by omega), _, _, _, _, _, _, _, _, _, _, _, _, _, _, _, H, rfl⟩ ⟨rfl, rfl, rfl, rfl, rfl, rfl, rfl, rfl, rfl, trivial⟩ ⟨rfl, rfl, rfl, rfl, rfl, rfl, rfl, trivial⟩ rfl
        · rw [if_neg hc29] at H
          refine RA.skip rfl rfl rfl rfl rfl (congrArg Bool.not (Bool.eq_false_iff.2 hc29)) (by decide) ?_
          refine RA.skip rfl rfl rfl rfl rfl (congrArg Bool.not (Bool.eq_false_iff.2 hc29)) (by decide) ?_
          refine RA.skip rfl rfl rfl rfl rfl (congrArg Bool.not (Bool.eq_false_iff.2 hc29)) (by decide) ?_
          refine a_pick (b := true) (v := vB _) ?_ (congrArg Bool.not (Bool.eq_false_iff.2 hc29))
          refine RA.nil nofun ?_
          exact Can.mk (fun κ => cond (Nat.beq κ 213) 200 (cond (Nat.beq κ 214) 206 (cond (Nat.beq κ 215) 209 (cond (Nat.beq κ 216) 207 (cond (Nat.beq κ 217) 208 (cond (Nat.beq κ 218) 210 (cond (Nat.beq κ 219) 211 (κ)))))))) ⟨_, (by omega), _, _, _, _, _, _, _, _, _, _, _, _, _, _, _, H, rfl⟩ ⟨rfl, rfl, rfl, rfl, rfl, rfl, rfl, rfl, rfl, trivial⟩ ⟨rfl, rfl, rfl, rfl, rfl, rfl, rfl, trivial⟩ rfl
      · clear H
        rintro _ ⟨k, hj0, x1, y213_0, y213_1, y213_2, y213_3, x6, x7, y215_0, y215_1, y215_2, y215_3, x9, x10, x11, x53, H, rfl⟩
        cases k with
        | zero => cases H
        | succ k =>
          rw [laws_FnExactUnfitFaces.j0] at H
          by_cases hc30 : x53 = true
          · rw [if_pos hc30] at H
            refine AG.yes rfl hc30 ?_
            refine AG.seq ?_
            refine AG.region HM ?_
            refine a_move (v := vB _) ?_
            refine RA.nil nofun ?_
            refine AG.ret ?_
            obtain rfl := Option.some.inj H
            exact RetP.mk id ⟨rfl, trivial⟩ trivial rfl
          · rw [if_neg hc30] at H
            refine AG.no rfl (Bool.eq_false_iff.2 hc30) ?_
            refine AG.skip ?_
            refine AG.seq ?_
            refine AG.seq ?_
            refine AG.region HM ?_
            refine a_ldB (v := .agg [_, _, _, _]) ?_ T35
            refine a_ldB (v := .agg [_, _, _, _]) ?_ T25
            obtain ⟨⟨t31, t32, t33, t34⟩, e35, H⟩ := bindO H
            refine a_call (v := .agg [.d (.v (.int .i64 t31)), .d (.v (.int .i64 t32)), .own 220 t33.length, .own 221 t34.length]) (nk := [(220, .row 160 (t33.map c159)), (221, .row 152 (t34.map c146))]) (L := []) ?_ rfl (laws_toDrawing.ok e35) (fun κ => cond (Nat.beq κ 220) 100 (cond (Nat.beq κ 221) 101 (κ))) (qg qn) trivial ⟨rfl, rfl, trivial⟩ ⟨rfl, rfl, trivial⟩ rfl
            obtain ⟨t36, e37, H⟩ := bindO H
            refine a_call (v := vB t36) (nk := []) (L := [(216, _), (217, _), (220, _), (221, _)]) ?_ rfl (laws_eqDrawing.ok e37) id (qm (eD (eD (eC rO (eC rO eN)))) (qm (eD (eD (eC rO (eC rO eN)))) qn)) ⟨rfl, rfl, rfl, rfl, trivial⟩ trivial trivial rfl
            refine a_un (u := .bool (!t36)) ?_
            refine RA.nil (fun _ => by kernel_rfl) ?_
            by_cases hc38 : t36 = true
            · rw [if_pos hc38] at H
              refine AG.no rfl (congrArg Bool.not hc38) ?_
              refine AG.skip ?_
              refine AG.seq ?_
              refine AG.seq ?_
              refine AG.region HM ?_
              refine a_move (v := .c (.own _ _)) ?_
              refine a_move (v := vR _ _) ?_
              obtain ⟨t39, e40, H⟩ := bindO H
              refine a_call (v := .c (.own 223 t39.length)) (nk := [(223, .row 95 (t39.map c94))]) (L := []) ?_ rfl (laws_toLeafS.ok e40) (fun κ => cond (Nat.beq κ 223) 100 (κ)) (qd qn) trivial ⟨rfl, trivial⟩ ⟨rfl, trivial⟩ rfl
              obtain ⟨t41, e42, H⟩ := bindO H
              refine a_call (v := vB t41) (nk := []) (L := [(218, _), (223, _)]) ?_ rfl (laws_eqLeafS.ok e42) id (qc rO (qc rO qn)) ⟨rfl, rfl, trivial⟩ trivial trivial rfl
              refine a_un (u := .bool (!t41)) ?_
              refine RA.nil nofun ?_
              by_cases hc43 : t41 = true
              · rw [if_pos hc43] at H
                refine AG.no rfl (congrArg Bool.not hc43) ?_
                refine AG.skip ?_
                refine AG.seq ?_
                refine AG.region HM ?_
                refine a_move (v := vI _) ?_
                refine RA.nil nofun ?_
                refine AG.seq ?_
                refine AG.region HM ?_
                refine a_ldB (v := .agg [_, _, _, _]) ?_ T35
                refine a_move (v := vI _) ?_
                obtain ⟨⟨t44, t45, t46⟩, e47, H⟩ := bindO H
                refine a_callM (v := vI t44) (nk := []) (L := []) (Mk := [(216, _), (217, _)]) (ck := [(216, .row 160 (t45.map c159)), (217, .row 152 (t46.map c146))]) ?_ rfl (laws_markDrawing.ok e47) (fun κ => cond (Nat.beq κ 0) 216 (cond (Nat.beq κ 1) 217 (κ))) (fun κ => cond (Nat.beq κ 216) 0 (cond (Nat.beq κ 217) 1 (κ))) (mcA (kD (kD (kO (kO k0)))) (mcD m0)) trivial ⟨rfl, rfl, trivial⟩ trivial ⟨rfl, rfl, trivial⟩ trivial ⟨rfl, rfl, trivial⟩ rfl rfl rfl
                refine a_move (v := vI _) ?_
                refine RA.nil nofun ?_
                refine AG.relen 216 t45.length ?_
                refine AG.relen 217 t46.length ?_
                refine AG.seq ?_
                refine AG.region HM ?_
                refine a_move (v := .c (.own _ _)) ?_
                refine a_move (v := vI _) ?_
                obtain ⟨⟨t48, t49⟩, e50, H⟩ := bindO H
                refine a_callM (v := vI t48) (nk := []) (L := []) (Mk := [(218, _)]) (ck := [(218, .row 95 (t49.map c94))]) ?_ rfl (laws_markLeafS.ok e50) (fun κ => cond (Nat.beq κ 0) 218 (κ)) (fun κ => cond (Nat.beq κ 218) 0 (κ)) (mcO (mcD m0)) trivial ⟨rfl, trivial⟩ trivial ⟨rfl, trivial⟩ trivial ⟨rfl, trivial⟩ rfl rfl rfl
                refine a_move (v := vI _) ?_
                refine RA.nil nofun ?_
                refine AG.relen 218 t49.length ?_
                refine AG.seq ?_
                refine AG.seq ?_
                refine AG.join (fun s => ∃ q, q ≤ k ∧ ∃ (x1 : List S84) (y228_0 : Int) (y228_1 : Int) (y228_2 : List S159) (y228_3 : List S146) (x6 : List Int) (x7 : Int) (x10 : List Int) (x82 : Bool), laws_FnExactUnfitFaces.j1 q x1 y228_0 y228_1 y228_2 y228_3 x6 x7 x10 x82 = some r ∧ s = St.of [(1, vR 85 (x1.map c84)), (2, .c (.ptr 228 0)), (6, .c (.own 229 x6.length)), (7, vI x7), (10, .c (.own 230 x10.length)), (82, vB x82)] [(228, .box 25 [.d (.v (.int .i64 y228_0)), .d (.v (.int .i64 y228_1)), .d (.row 162 (y228_2.map c159)), .d (.row 147 (y228_3.map c146))]), (229, .row 2 (x6.map c2)), (230, .row 2 (x10.map c2))]) ?_ ?_
                · skip
                  refine AG.region HM ?_
                  refine a_move (v := vI _) ?_
                  refine a_int (u := .bool (decide (t48 < 0))) ?_
                  refine a_move (v := vB _) ?_
                  by_cases hc51 : t48 < 0
                  · rw [if_pos hc51] at H
                    refine RA.skip rfl rfl rfl rfl rfl (decide_eq_true hc51) (by decide) ?_
                    refine RA.skip rfl rfl rfl rfl rfl (decide_eq_true hc51) (by decide) ?_
                    refine RA.skip rfl rfl rfl rfl rfl (decide_eq_true hc51) (by decide) ?_
                    refine RA.skip rfl rfl rfl rfl rfl (decide_eq_true hc51) (by decide) ?_
                    refine a_pick (b := true) (v := vB _) ?_ (decide_eq_true hc51)
                    refine a_move (v := vB _) ?_
                    refine RA.skip rfl rfl rfl rfl rfl rfl (by decide) ?_
                    refine RA.skip rfl rfl rfl rfl rfl rfl (by decide) ?_
                    refine RA.skip rfl rfl rfl rfl rfl rfl (by decide) ?_
                    refine a_pick (b := true) (v := vB _) ?_ rfl
                    refine RA.nil nofun ?_
                    exact Can.mk (fun κ => cond (Nat.beq κ 228) 213 (cond (Nat.beq κ 229) 214 (cond (Nat.beq κ 230) 219 (κ)))) ⟨_, (by omega), _, _, _, _, _, _, _, _, _, H, rfl⟩ ⟨rfl, rfl, rfl, rfl, rfl, rfl, trivial⟩ ⟨rfl, rfl, rfl, trivial⟩ rfl
                  · rw [if_neg hc51] at H
                    refine a_move (v := .c (.own _ _)) ?_ (hg := Gs.yes rfl rfl rfl (decide_eq_false hc51))
                    refine a_move (v := .c (.own _ _)) ?_ (hg := Gs.yes rfl rfl rfl (decide_eq_false hc51))
                    obtain ⟨t52, e53, H⟩ := bindO H
                    refine a_call (v := vB t52) (nk := []) (L := [(219, _), (214, _)]) ?_ rfl (laws_eqInt64S.ok e53) id (qc rO (qc rO qn)) ⟨rfl, rfl, trivial⟩ trivial trivial rfl (hg := Gs.yes rfl rfl rfl (decide_eq_false hc51))
                    refine a_un (u := .bool (!t52)) ?_ (hg := Gs.yes rfl rfl rfl (decide_eq_false hc51))
                    refine a_pick (b := false) (v := vB _) ?_ (decide_eq_false hc51)
                    refine a_move (v := vB _) ?_
                    by_cases hc54 : t52 = true
                    · rw [if_pos hc54] at H
                      refine a_move (v := vI _) ?_ (hg := Gs.yes rfl rfl rfl (congrArg Bool.not hc54))
                      refine a_move (v := vI _) ?_ (hg := Gs.yes rfl rfl rfl (congrArg Bool.not hc54))
                      refine a_int (u := .bool ((x11 != x7))) ?_ (hg := Gs.yes rfl rfl rfl (congrArg Bool.not hc54))
                      refine a_pick (b := false) (v := vB _) ?_ (congrArg Bool.not hc54)
                      refine RA.nil nofun ?_
                      exact Can.mk (fun κ => cond (Nat.beq κ 228) 213 (cond (Nat.beq κ 229) 214 (cond (Nat.beq κ 230) 219 (κ)))) ⟨_, (by omega), _, _, _, _, _, _, _, _, _, H, rfl⟩ ⟨rfl, rfl, rfl, rfl, rfl, rfl, trivial⟩ ⟨rfl, rfl, rfl, trivial⟩ rfl
                    · rw [if_neg hc54] at H
                      refine RA.skip rfl rfl rfl rfl rfl (congrArg Bool.not (Bool.eq_false_iff.2 hc54)) (by decide) ?_
                      refine RA.skip rfl rfl rfl rfl rfl (congrArg Bool.not (Bool.eq_false_iff.2 hc54)) (by decide) ?_
                      refine RA.skip rfl rfl rfl rfl rfl (congrArg Bool.not (Bool.eq_false_iff.2 hc54)) (by decide) ?_
                      refine a_pick (b := true) (v := vB _) ?_ (congrArg Bool.not (Bool.eq_false_iff.2 hc54))
                      refine RA.nil nofun ?_
                      exact Can.mk (fun κ => cond (Nat.beq κ 228) 213 (cond (Nat.beq κ 229) 214 (cond (Nat.beq κ 230) 219 (κ)))) ⟨_, (by omega), _, _, _, _, _, _, _, _, _, H, rfl⟩ ⟨rfl, rfl, rfl, rfl, rfl, rfl, trivial⟩ ⟨rfl, rfl, rfl, trivial⟩ rfl
                · clear H
                  rintro _ ⟨k, hj1, x1, y228_0, y228_1, y228_2, y228_3, x6, x7, x10, x82, H, rfl⟩
                  cases k with
                  | zero => cases H
                  | succ k =>
                    rw [laws_FnExactUnfitFaces.j1] at H
                    by_cases hc55 : x82 = true
                    · rw [if_pos hc55] at H
                      refine AG.yes rfl hc55 ?_
                      refine AG.seq ?_
                      refine AG.region HM ?_
                      refine a_move (v := vB _) ?_
                      refine RA.nil nofun ?_
                      refine AG.ret ?_
                      obtain rfl := Option.some.inj H
                      exact RetP.mk id ⟨rfl, trivial⟩ trivial rfl
                    · rw [if_neg hc55] at H
                      refine AG.no rfl (Bool.eq_false_iff.2 hc55) ?_
                      refine AG.skip ?_
                      refine AG.seq ?_
                      refine AG.region HM ?_
                      refine a_move (v := vI _) ?_
                      refine RA.nil nofun ?_
                      refine AG.seq ?_
                      refine AG.region HM ?_
                      refine a_move (v := .c (.own _ _)) ?_
                      refine a_move (v := vI _) ?_
                      obtain ⟨⟨t56, t57⟩, e58, H⟩ := bindO H
                      refine a_callM (v := vI t56) (nk := []) (L := []) (Mk := [(230, _)]) (ck := [(230, .row 2 (t57.map c2))]) ?_ rfl (laws_markInt64S.ok e58) (fun κ => cond (Nat.beq κ 0) 230 (κ)) (fun κ => cond (Nat.beq κ 230) 0 (κ)) (mcO (mcD m0)) trivial ⟨rfl, trivial⟩ trivial ⟨rfl, trivial⟩ trivial ⟨rfl, trivial⟩ rfl rfl rfl
                      refine a_move (v := vI _) ?_
                      refine RA.nil nofun ?_
                      refine AG.relen 230 t57.length ?_
                      refine AG.seq ?_
                      refine AG.region HM ?_
                      refine a_move (v := vI _) ?_
                      refine RA.nil nofun ?_
                      refine AG.seq ?_
                      refine AG.region HM ?_
                      refine a_move (v := .c (.own _ _)) ?_
                      refine a_move (v := vI _) ?_
                      obtain ⟨t59, e60, H⟩ := bindO H
                      refine a_call (v := vI t59) (nk := []) (L := [(230, _)]) ?_ rfl (laws_heldInt64S.ok e60) id (qc rO (qd qn)) ⟨rfl, trivial⟩ trivial trivial rfl
                      refine a_move (v := vI _) ?_
                      refine RA.nil nofun ?_
                      refine AG.seq ?_
                      refine AG.seq ?_
                      refine AG.region HM ?_
                      refine a_move (v := vI _) ?_
                      refine a_int (u := .bool (decide (t59 < 0))) ?_
                      refine RA.nil nofun ?_
                      by_cases hc61 : t59 < 0
                      · rw [if_pos hc61] at H
                        refine AG.yes rfl (decide_eq_true hc61) ?_
                        refine AG.seq ?_
                        refine AG.region HM ?_
                        refine a_move (v := vB _) ?_
                        refine RA.nil nofun ?_
                        refine AG.ret ?_
                        obtain rfl := Option.some.inj H
                        exact RetP.mk id ⟨rfl, trivial⟩ trivial rfl
                      · rw [if_neg hc61] at H
                        refine AG.no rfl (decide_eq_false hc61) ?_
                        refine AG.skip ?_
                        refine AG.seq ?_
                        refine AG.seq ?_
                        refine AG.region HM ?_
                        refine a_move (v := vI _) ?_
                        refine a_move (v := vI _) ?_
                        refine a_int (u := .bool ((t59 != t56))) ?_
                        refine RA.nil nofun ?_
                        by_cases hc62 : t59 = t56
                        · rw [if_pos hc62] at H
                          refine AG.no rfl (bne_eq_false_iff_eq.2 hc62) ?_
                          refine AG.skip ?_
                          refine AG.seq ?_
                          refine AG.region HM ?_
                          refine a_ldB (v := .agg [_, _, _, _]) ?_ T25
                          obtain ⟨⟨t63, t64, t65, t66⟩, e67, H⟩ := bindO H
                          refine a_call (v := .agg [.d (.v (.int .i64 t63)), .d (.v (.int .i64 t64)), .own 233 t65.length, .own 234 t66.length]) (nk := [(233, .row 160 (t65.map c159)), (234, .row 152 (t66.map c146))]) (L := []) ?_ rfl (laws_toDrawing.ok e67) (fun κ => cond (Nat.beq κ 233) 100 (cond (Nat.beq κ 234) 101 (κ))) (qg qn) trivial ⟨rfl, rfl, trivial⟩ ⟨rfl, rfl, trivial⟩ rfl
                          refine a_move (v := vR _ _) ?_
                          obtain ⟨t68, e69, H⟩ := bindO H
                          refine a_call (v := .c (.own 235 t68.length)) (nk := [(235, .row 95 (t68.map c94))]) (L := []) ?_ rfl (laws_toLeafS.ok e69) (fun κ => cond (Nat.beq κ 235) 100 (κ)) (qd qn) trivial ⟨rfl, trivial⟩ ⟨rfl, trivial⟩ rfl
                          obtain ⟨⟨t70, t71⟩, e72, H⟩ := bindO H
                          refine a_call (v := .tup [.c (.own 236 t70.length), .c (.d (.v (.int .i64 t71)))]) (nk := [(236, .row 2 (t70.map c2))]) (L := [(233, _), (234, _), (235, _)]) ?_ rfl (impl_UnfitFaces.ok e72) (fun κ => cond (Nat.beq κ 236) 100 (κ)) (qm (eD (eD (eC rO (eC rO eN)))) (qc rO qn)) ⟨rfl, rfl, rfl, trivial⟩ ⟨rfl, trivial⟩ ⟨rfl, trivial⟩ rfl
                          refine a_move (v := .tup [_, _]) ?_
                          refine a_ext (v := .c (.own _ _)) ?_
                          refine a_ext (v := vI _) ?_
                          refine a_move (v := .c (.own _ _)) ?_
                          refine a_move (v := vI _) ?_
                          refine RA.nil nofun ?_
                          refine AG.seq ?_
                          refine AG.seq ?_
                          refine AG.join (fun s => ∃ q, q ≤ k ∧ ∃ (x10 : List Int) (x13 : Int) (x110 : Bool), laws_FnExactUnfitFaces.j2 q x10 x13 x110 = some r ∧ s = St.of [(10, .c (.own 238 x10.length)), (13, vI x13), (110, vB x110)] [(238, .row 2 (x10.map c2))]) ?_ ?_
                          · skip
                            refine AG.region HM ?_
                            refine a_move (v := .c (.own _ _)) ?_
                            refine a_move (v := .c (.own _ _)) ?_
                            obtain ⟨t73, e74, H⟩ := bindO H
                            refine a_call (v := vB t73) (nk := []) (L := [(236, _), (229, _)]) ?_ rfl (laws_eqInt64S.ok e74) id (qc rO (qc rO qn)) ⟨rfl, rfl, trivial⟩ trivial trivial rfl
                            refine a_un (u := .bool (!t73)) ?_
                            refine a_move (v := vB _) ?_
                            by_cases hc75 : t73 = true
                            · rw [if_pos hc75] at H
                              refine a_move (v := vI _) ?_ (hg := Gs.yes rfl rfl rfl (congrArg Bool.not hc75))
                              refine a_move (v := vI _) ?_ (hg := Gs.yes rfl rfl rfl (congrArg Bool.not hc75))
                              refine a_int (u := .bool ((t71 != x7))) ?_ (hg := Gs.yes rfl rfl rfl (congrArg Bool.not hc75))
                              refine a_pick (b := false) (v := vB _) ?_ (congrArg Bool.not hc75)
                              refine RA.nil nofun ?_
                              exact Can.mk (fun κ => cond (Nat.beq κ 238) 230 (κ)) ⟨_, (by omega), _, _, _, H, rfl⟩ ⟨rfl, rfl, rfl, trivial⟩ ⟨rfl, trivial⟩ rfl
                            · rw [if_neg hc75] at H
                              refine RA.skip rfl rfl rfl rfl rfl (congrArg Bool.not (Bool.eq_false_iff.2 hc75)) (by decide) ?_
                              refine RA.skip rfl rfl rfl rfl rfl (congrArg Bool.not (Bool.eq_false_iff.2 hc75)) (by decide) ?_
                              refine RA.skip rfl rfl rfl rfl rfl (congrArg Bool.not (Bool.eq_false_iff.2 hc75)) (by decide) ?_
                              refine a_pick (b := true) (v := vB _) ?_ (congrArg Bool.not (Bool.eq_false_iff.2 hc75))
                              refine RA.nil nofun ?_
                              exact Can.mk (fun κ => cond (Nat.beq κ 238) 230 (κ)) ⟨_, (by omega), _, _, _, H, rfl⟩ ⟨rfl, rfl, rfl, trivial⟩ ⟨rfl, trivial⟩ rfl
                          · clear H
                            rintro _ ⟨k, hj2, x10, x13, x110, H, rfl⟩
                            cases k with
                            | zero => cases H
                            | succ k =>
                              rw [laws_FnExactUnfitFaces.j2] at H
                              by_cases hc76 : x110 = true
                              · rw [if_pos hc76] at H
                                refine AG.yes rfl hc76 ?_
                                refine AG.seq ?_
                                refine AG.region HM ?_
                                refine a_move (v := vB _) ?_
                                refine RA.nil nofun ?_
                                refine AG.ret ?_
                                obtain rfl := Option.some.inj H
                                exact RetP.mk id ⟨rfl, trivial⟩ trivial rfl
                              · rw [if_neg hc76] at H
                                refine AG.no rfl (Bool.eq_false_iff.2 hc76) ?_
                                refine AG.skip ?_
                                refine AG.seq ?_
                                refine AG.region HM ?_
                                refine a_move (v := vI _) ?_
                                refine RA.nil nofun ?_
                                refine AG.seq ?_
                                refine AG.region HM ?_
                                refine a_move (v := .c (.own _ _)) ?_
                                refine a_move (v := vI _) ?_
                                obtain ⟨t77, e78, H⟩ := bindO H
                                refine a_call (v := vI t77) (nk := []) (L := [(238, _)]) ?_ rfl (laws_heldInt64S.ok e78) id (qc rO (qd qn)) ⟨rfl, trivial⟩ trivial trivial rfl
                                refine a_move (v := vI _) ?_
                                refine RA.nil nofun ?_
                                refine AG.seq ?_
                                refine AG.seq ?_
                                refine AG.region HM ?_
                                refine a_move (v := vI _) ?_
                                refine a_int (u := .bool (decide (t77 < 0))) ?_
                                refine RA.nil nofun ?_
                                by_cases hc79 : t77 < 0
                                · rw [if_pos hc79] at H
                                  refine AG.yes rfl (decide_eq_true hc79) ?_
                                  refine AG.seq ?_
                                  refine AG.region HM ?_
                                  refine a_move (v := vB _) ?_
                                  refine RA.nil nofun ?_
                                  refine AG.ret ?_
                                  obtain rfl := Option.some.inj H
                                  exact RetP.mk id ⟨rfl, trivial⟩ trivial rfl
                                · rw [if_neg hc79] at H
                                  refine AG.no rfl (decide_eq_false hc79) ?_
                                  refine AG.skip ?_
                                  refine AG.seq ?_
                                  refine AG.seq ?_
                                  refine AG.region HM ?_
                                  refine a_move (v := vI _) ?_
                                  refine a_move (v := vI _) ?_
                                  refine a_int (u := .bool ((t77 != x13))) ?_
                                  refine RA.nil nofun ?_
                                  by_cases hc80 : t77 = x13
                                  · rw [if_pos hc80] at H
                                    refine AG.no rfl (bne_eq_false_iff_eq.2 hc80) ?_
                                    refine AG.skip ?_
                                    refine AG.seq ?_
                                    refine AG.region HM ?_
                                    refine a_move (v := vB _) ?_
                                    refine RA.nil nofun ?_
                                    refine AG.ret ?_
                                    obtain rfl := Option.some.inj H
                                    exact RetP.mk id ⟨rfl, trivial⟩ trivial rfl
                                  · rw [if_neg hc80] at H
                                    refine AG.yes rfl (bne_iff_ne.2 hc80) ?_
                                    refine AG.seq ?_
                                    refine AG.region HM ?_
                                    refine a_move (v := vB _) ?_
                                    refine RA.nil nofun ?_
                                    refine AG.ret ?_
                                    obtain rfl := Option.some.inj H
                                    exact RetP.mk id ⟨rfl, trivial⟩ trivial rfl
                        · rw [if_neg hc62] at H
                          refine AG.yes rfl (bne_iff_ne.2 hc62) ?_
                          refine AG.seq ?_
                          refine AG.region HM ?_
                          refine a_move (v := vB _) ?_
                          refine RA.nil nofun ?_
                          refine AG.ret ?_
                          obtain rfl := Option.some.inj H
                          exact RetP.mk id ⟨rfl, trivial⟩ trivial rfl
              · rw [if_neg hc43] at H
                refine AG.yes rfl (congrArg Bool.not (Bool.eq_false_iff.2 hc43)) ?_
                refine AG.seq ?_
                refine AG.region HM ?_
                refine a_move (v := vB _) ?_
                refine RA.nil nofun ?_
                refine AG.ret ?_
                obtain rfl := Option.some.inj H
                exact RetP.mk id ⟨rfl, trivial⟩ trivial rfl
            · rw [if_neg hc38] at H
              refine AG.yes rfl (congrArg Bool.not (Bool.eq_false_iff.2 hc38)) ?_
              refine AG.seq ?_
              refine AG.region HM ?_
              refine a_move (v := vB _) ?_
              refine RA.nil nofun ?_
              refine AG.ret ?_
              obtain rfl := Option.some.inj H
              exact RetP.mk id ⟨rfl, trivial⟩ trivial rfl
def B159 (x : S159) : Prop := (Lit.int .i64 x.f0).wf = true ∧ (Lit.int .i64 x.f1).wf = true
def B146 (x : S146) : Prop := x.f0.size ≤ maxLen ∧ (x.f1.length ≤ maxLen ∧ ∀ x_ ∈ x.f1, (Lit.int .i64 x_).wf = true)
def B24 (x : S24) : Prop := (Lit.int .i64 x.f0).wf = true ∧ (Lit.int .i64 x.f1).wf = true ∧ (x.f2.length ≤ maxLen ∧ ∀ x_ ∈ x.f2, B159 x_) ∧ (x.f3.length ≤ maxLen ∧ ∀ x_ ∈ x.f3, B146 x_)
def B81 (x : S81) : Prop := x.f0.size ≤ maxLen ∧ (Lit.int .i64 x.f1).wf = true ∧ (Lit.int .i64 x.f2).wf = true
def B176 (x : S176) : Prop := (Lit.int .i64 x.f0).wf = true ∧ (Lit.int .i64 x.f1).wf = true ∧ (Lit.int .i64 x.f2).wf = true ∧ (Lit.int .i64 x.f3).wf = true
def B84 (x : S84) : Prop := x.f0.size ≤ maxLen ∧ x.f1.size ≤ maxLen ∧ (Lit.int .i64 x.f2).wf = true ∧ B81 x.f3 ∧ (Lit.int .i64 x.f4).wf = true ∧ (Lit.int .i64 x.f5).wf = true ∧ (x.f6.length ≤ maxLen ∧ ∀ x_ ∈ x.f6, B176 x_)
/-- The one plain statement of laws_FnExactUnfitFaces. -/
def laws_FnExactUnfitFaces.Pure : Prop := ∀ (a0_0 : Int) (a0_1 : Int) (l0_2 : List S159) (l0_3 : List S146) (l1 : List S84), B24 (⟨a0_0, a0_1, l0_2, l0_3⟩ : S24) → (l1.length ≤ maxLen ∧ ∀ x_ ∈ l1, B84 x_) → ∃ k, laws_FnExactUnfitFaces.f k a0_0 a0_1 l0_2 l0_3 l1 = some true
end Go.Proofs.YtadjbffiomkljaaGreat.PFnExactUnfitFaces

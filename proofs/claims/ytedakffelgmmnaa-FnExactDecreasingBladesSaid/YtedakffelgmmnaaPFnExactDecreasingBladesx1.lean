/- What each function that the law FnExactDecreasingBlades reaches comes to, and the proof that its walk comes to it; laid by a program of this session. No condition. -/
import Derived.Test.YtedakffelgmmnaaPFnExactDecreasingBladesx0
import Derived.KernelRfl
import Derived.OwnWalk
import Derived.Test.YtedakffelgmmnaaProg
set_option linter.unnecessarySimpa false
set_option linter.unusedVariables false
set_option linter.unusedSimpArgs false
namespace Go.Proofs.Ytedakffelgmmnaa.PFnExactDecreasingBlades
open Go Go.RowKit Go.Proofs.YtedakffelgmmnaaM Go.Proofs
/-! ### slices_IndexFunc_int64_int64__impl_DecreasingBlades_2: function 40 -/
def slices_IndexFunc_int64_int64__impl_DecreasingBlades_2.l0 : Nat → List Int → List Int → Int → ByteArray → Int → Int → Int → Int → Int → Option (Int)
 | 0, _, _, _, _, _, _, _, _, _ => none
 | k + 1, x0, x1_0_0, x1_1_0, x1_2_0, x1_2_1, x1_2_2, x1_2_3, x7, x8 => if x8 < x7 then (if 0 ≤ x8 then (if x8 < (x0.length : Int) then ((impl_DecreasingBlades_2.f (rd2 x0 x8) x1_0_0 x1_1_0 x1_2_0 x1_2_1 x1_2_2 x1_2_3).bind fun t4 => (if t4 = true then (some x8) else (slices_IndexFunc_int64_int64__impl_DecreasingBlades_2.l0 k x0 x1_0_0 x1_1_0 x1_2_0 x1_2_1 x1_2_2 x1_2_3 x7 (wrap64 (x8 + 1))))) else (none)) else (none)) else (some (-1))
def slices_IndexFunc_int64_int64__impl_DecreasingBlades_2.f (k : Nat) (l0 : List Int) (v1_0_0 : List Int) (v1_1_0 : Int) (v1_2_0 : ByteArray) (v1_2_1 : Int) (v1_2_2 : Int) (v1_2_3 : Int) : Option (Int) := slices_IndexFunc_int64_int64__impl_DecreasingBlades_2.l0 k l0 v1_0_0 v1_1_0 v1_2_0 v1_2_1 v1_2_2 v1_2_3 (l0.length : Int) 0
set_option maxRecDepth 100000 in
theorem slices_IndexFunc_int64_int64__impl_DecreasingBlades_2.ok {k : Nat} {l0 : List Int} {v1_0_0 : List Int} {v1_1_0 : Int} {v1_2_0 : ByteArray} {v1_2_1 : Int} {v1_2_2 : Int} {v1_2_3 : Int} {r : Int} (H : slices_IndexFunc_int64_int64__impl_DecreasingBlades_2.f k l0 v1_0_0 v1_1_0 v1_2_0 v1_2_1 v1_2_2 v1_2_3 = some r) : OkF Try.prog 40 [vR 2 (l0.map c2), .c (.d (.fn 41 [.ro [.row 2 (v1_0_0.map c2)], .ro [.v (.int .i64 v1_1_0)], .ro [.v (.string v1_2_0), .v (.int .i64 v1_2_1), .v (.int .i64 v1_2_2), .v (.int .i64 v1_2_3)]]))] [] (.c (.d (.v (.int .i64 r)))) [] := by
 unfold slices_IndexFunc_int64_int64__impl_DecreasingBlades_2.f at H
 refine OkF.of (N := 19) (rs := [4]) (avs := [.c (.d (.v (.int .i64 r)))]) Try.func40 rfl rfl (fun _ _ => results_tmp rfl _ _ _) (by decide) rfl rfl rfl rfl (fun w0 S => ?_)
 refine AG.seq ?_
 refine AG.region HM ?_
 refine a_move (v := vI _) ?_
 refine RA.nil nofun ?_
 refine AG.seq ?_
 refine AG.seq ?_
 refine AG.region HM ?_
 refine a_move (v := vR _ _) ?_
 refine a_lenR ?_ Try.underlying36
 refine a_move (v := vI _) ?_
 refine RA.nil nofun ?_
 refine AG.block ?_
 refine AG.loop ?_
 obtain ⟨K0, hK0, gK0⟩ : ∃ K, k ≤ K ∧ K ≤ k := ⟨k, Nat.le_refl k, Nat.le_refl k⟩
 refine AGr.canon id (AGr.loopI (n := k) (fun k s => k ≤ K0 ∧ ∃ (x0 : List Int) (x1_0_0 : List Int) (x1_1_0 : Int) (x1_2_0 : ByteArray) (x1_2_1 : Int) (x1_2_2 : Int) (x1_2_3 : Int) (x7 : Int) (x8 : Int), slices_IndexFunc_int64_int64__impl_DecreasingBlades_2.l0 k x0 x1_0_0 x1_1_0 x1_2_0 x1_2_1 x1_2_2 x1_2_3 x7 x8 = some r ∧ s = St.of [(0, vR 2 (x0.map c2)), (1, .c (.d (.fn 41 [.ro [.row 2 (x1_0_0.map c2)], .ro [.v (.int .i64 x1_1_0)], .ro [.v (.string x1_2_0), .v (.int .i64 x1_2_1), .v (.int .i64 x1_2_2), .v (.int .i64 x1_2_3)]]))), (7, vI x7), (8, vI x8)] []) ⟨hK0, _, _, _, _, _, _, _, _, _, H, rfl⟩ ?_ ?_) ⟨rfl, rfl, rfl, rfl, trivial⟩ trivial rfl
 ·rintro _ ⟨_, _, _, _, _, _, _, _, _, _, H, _⟩
  cases H
 ·clear H hK0
  rintro k ih0 _ ⟨hK0, x0, x1_0_0, x1_1_0, x1_2_0, x1_2_1, x1_2_2, x1_2_3, x7, x8, H, rfl⟩
  unfold slices_IndexFunc_int64_int64__impl_DecreasingBlades_2.l0 at H
  refine AG.seq ?_
  refine AG.region HM ?_
  refine a_int (u := .bool (decide (x8 < x7))) ?_
  refine RA.nil nofun ?_
  refine AG.seq ?_
  by_cases hc1 : x8 < x7
  ·rw [if_pos hc1] at H
   refine AG.yes rfl (decide_eq_true hc1) ?_
   refine AG.skip ?_
   refine AG.seq ?_
   refine AG.block ?_
   refine AG.seq ?_
   refine AG.region HM ?_
   refine a_move (v := vI _) ?_
   refine a_move (v := vI _) ?_
   refine RA.nil nofun ?_
   refine AG.seq ?_
   refine AG.region HM ?_
   refine a_move (v := .c (.d (.fn _ _))) ?_
   refine a_move (v := vR _ _) ?_
   refine a_move (v := vI _) ?_
   by_cases hc2 : 0 ≤ x8
   ·rw [if_pos hc2] at H
    by_cases hc3 : x8 < (x0.length : Int)
    ·rw [if_pos hc3] at H
     refine a_ixR (el := c2 (rd2 x0 x8)) ?_ ⟨hc2, hc3⟩ T2 Try.underlying36 (hel := R2 hc2 hc3)
     refine a_ldR (v := vI _) ?_ T2
     obtain ⟨t4, e5, H⟩ := bindO H
     refine a_callW (v := vB t4) (nk := []) (L := []) ?_ rfl rfl (impl_DecreasingBlades_2.ok e5) id (qd qn) rfl trivial trivial trivial rfl
     refine RA.nil nofun ?_
     by_cases hc6 : t4 = true
     ·rw [if_pos hc6] at H
      refine AG.yes rfl hc6 ?_
      refine AG.seq ?_
      refine AG.region HM ?_
      refine a_move (v := vI _) ?_
      refine a_move (v := vI _) ?_
      refine RA.nil nofun ?_
      refine AG.ret ?_
      obtain rfl := Option.some.inj H
      exact RetP.mk id ⟨rfl, trivial⟩ trivial rfl
     ·rw [if_neg hc6] at H
      refine AG.no rfl (Bool.eq_false_iff.2 hc6) ?_
      refine AG.skip ?_
      refine AG.region HM ?_
      refine a_int (u := .int .i64 (wrap64 (x8 + 1))) ?_
      refine a_move (v := vI _) ?_
      refine RA.nil nofun ?_
      exact AGr.canon id (ih0 _ (by omega) _ ⟨by omega, _, _, _, _, _, _, _, _, _, H, rfl⟩) ⟨rfl, rfl, rfl, rfl, trivial⟩ trivial rfl
    ·rw [if_neg hc3] at H
     cases H
   ·rw [if_neg hc2] at H
    cases H
  ·rw [if_neg hc1] at H
   refine AG.no rfl (decide_eq_false hc1) ?_
   refine AG.exit ?_
   refine AG.seq ?_
   refine AG.region HM ?_
   refine a_move (v := vI _) ?_
   refine RA.nil nofun ?_
   refine AG.ret ?_
   obtain rfl := Option.some.inj H
   exact RetP.mk id ⟨rfl, trivial⟩ trivial rfl
/-! ### impl_DecreasingBlades: function 20 -/
mutual
def impl_DecreasingBlades.l0 : Nat → ByteArray → Int → Int → Int → List Int → List Int → Int → Int → Option ((List Int) × Int × Int)
 | 0, _, _, _, _, _, _, _, _ => none
 | k + 1, y206_0, y206_1, y206_2, y206_3, y207_0, x9, x27, x28 => if x28 < x27 then (if x9.length < 17592186044416 then (impl_DecreasingBlades.l0 k y206_0 y206_1 y206_2 y206_3 y207_0 (x9 ++ [x28]) x27 (wrap64 (x28 + 1))) else (none)) else ((slices_SortStableFunc_int_int__impl_DecreasingBlades_1.f k x9 y207_0).bind fun t9 => (if 0 ≤ (y207_0.length : Int) then (if ((y207_0.length : Int) : Int).toNat ≤ 35184372088832 then (impl_DecreasingBlades.l1 k y206_0 y206_1 y206_2 y206_3 y207_0 (List.replicate (((y207_0.length : Int) : Int).toNat) 0) (([] : List Int) : List Int) t9 (t9.length : Int) 0) else (none)) else (none)))
def impl_DecreasingBlades.l1 : Nat → ByteArray → Int → Int → Int → List Int → List Int → List Int → List Int → Int → Int → Option ((List Int) × Int × Int)
 | 0, _, _, _, _, _, _, _, _, _, _ => none
 | k + 1, y214_0, y214_1, y214_2, y214_3, y215_0, x11, x12, x43, x44, x45 => if x45 < x44 then (if 0 ≤ x45 then (if x45 < (x43.length : Int) then ((slices_IndexFunc_int64_int64__impl_DecreasingBlades_2.f k x12 y215_0 (rd3 x43 x45) y214_0 y214_1 y214_2 y214_3).bind fun t18 => (if t18 < 0 then (if x12.length < 17592186044416 then ((some (x12 ++ [0] : List Int)).bind fun y22 => (if 0 ≤ (x12.length : Int) then (if (x12.length : Int) < (y22.length : Int) then (if 0 ≤ (rd3 x43 x45) then (if (rd3 x43 x45) < (y215_0.length : Int) then (if (rd3 x43 x45) < (x11.length : Int) then (impl_DecreasingBlades.l1 k y214_0 y214_1 y214_2 y214_3 y215_0 (x11.set ((rd3 x43 x45) : Int).toNat (x12.length : Int)) (y22.set ((x12.length : Int) : Int).toNat (wrap64 ((rd2 y22 (x12.length : Int)) + (rd2 y215_0 (rd3 x43 x45))))) x43 x44 (wrap64 (x45 + 1))) else (none)) else (none)) else (none)) else (none)) else (none))) else (none)) else (if 0 ≤ t18 then (if t18 < (x12.length : Int) then (if 0 ≤ (rd3 x43 x45) then (if (rd3 x43 x45) < (y215_0.length : Int) then (if (rd3 x43 x45) < (x11.length : Int) then (impl_DecreasingBlades.l1 k y214_0 y214_1 y214_2 y214_3 y215_0 (x11.set ((rd3 x43 x45) : Int).toNat t18) (x12.set (t18 : Int).toNat (wrap64 ((rd2 x12 t18) + (rd2 y215_0 (rd3 x43 x45))))) x43 x44 (wrap64 (x45 + 1))) else (none)) else (none)) else (none)) else (none)) else (none)))) else (none)) else (none)) else (some (x11, (x12.length : Int), 0))
end
def impl_DecreasingBlades.f (k : Nat) (a0_0 : ByteArray) (a0_1 : Int) (a0_2 : Int) (a0_3 : Int) (l1 : List S54) : Option ((List Int) × Int × Int) := (impl_wears.f k a0_0 a0_1 a0_2 a0_3 l1).bind fun bt1 => (if bt1.2 = 0 then (impl_DecreasingBlades.l0 k a0_0 a0_1 a0_2 a0_3 bt1.1 (([] : List Int) : List Int) (bt1.1.length : Int) 0) else (some (([] : List Int), 0, bt1.2)))
set_option maxRecDepth 100000 in
theorem impl_DecreasingBlades.ok {k : Nat} {a0_0 : ByteArray} {a0_1 : Int} {a0_2 : Int} {a0_3 : Int} {l1 : List S54} {r0 : List Int} {r1 : Int} {r2 : Int} (H : impl_DecreasingBlades.f k a0_0 a0_1 a0_2 a0_3 l1 = some (r0, r1, r2)) : OkF Try.prog 20 [.agg [.d (.v (.string a0_0)), .d (.v (.int .i64 a0_1)), .d (.v (.int .i64 a0_2)), .d (.v (.int .i64 a0_3))], vR 59 (l1.map c54)] [] (.tup [.c (.own 100 r0.length), .c (.d (.v (.int .i64 r1))), .c (.d (.v (.int .i64 r2)))]) [(100, .row 2 (r0.map c2))] := by
 unfold impl_DecreasingBlades.f at H
 refine OkF.of (N := 77) (rs := [4, 5, 6]) (avs := [.c (.own 100 r0.length), .c (.d (.v (.int .i64 r1))), .c (.d (.v (.int .i64 r2)))]) Try.func20 rfl rfl (fun _ _ => results_tmp3 rfl _ _ _) (by decide) rfl rfl rfl rfl (fun w0 S => ?_)
 refine AG.seq ?_
 refine AG.region HM ?_
 refine a_box 200 ?_
 refine a_nilO (e := 2) 201 ?_ T2
 refine a_move (v := vI _) ?_
 refine a_move (v := vI _) ?_
 refine RA.nil nofun ?_
 refine AG.seq ?_
 refine AG.region HM ?_
 refine a_ldB (v := .agg [_, _, _, _]) ?_ T39
 refine a_move (v := vR _ _) ?_
 obtain ⟨⟨t1, t2⟩, e3, H⟩ := bindO H
 refine a_call (v := .tup [.c (.own 202 t1.length), .c (.d (.v (.int .i64 t2)))]) (nk := [(202, .row 2 (t1.map c2))]) (L := []) ?_ rfl (impl_wears.ok e3) (fun κ => cond (Nat.beq κ 202) 100 (κ)) (qg (qd qn)) trivial ⟨rfl, trivial⟩ ⟨rfl, trivial⟩ rfl
 refine a_move (v := .tup [_, _]) ?_
 refine a_ext (v := .c (.own _ _)) ?_
 refine a_ext (v := vI _) ?_
 refine a_alloc (cs := [_]) 203 ?_ T36
 refine a_stB (cs' := [_]) ?_ T36
 refine a_move (v := vI _) ?_
 refine RA.nil nofun ?_
 refine AG.seq ?_
 refine AG.seq ?_
 refine AG.region HM ?_
 refine a_move (v := vI _) ?_
 refine a_int (u := .bool ((t2 != 0))) ?_
 refine RA.nil nofun ?_
 by_cases hc4 : t2 = 0
 ·rw [if_pos hc4] at H
  refine AG.no rfl (bne_eq_false_iff_eq.2 hc4) ?_
  refine AG.skip ?_
  refine AG.seq ?_
  refine AG.region HM ?_
  refine a_lit (cs := []) (D := []) (css := (([] : List Int) : List Int).map c3) 205 ?_ N50 T3 (hcss := by rfl)
  refine a_move (v := .c (.own _ _)) ?_
  refine RA.nil nofun ?_
  refine AG.seq ?_
  refine AG.seq ?_
  refine AG.region HM ?_
  refine a_ldB (v := .c (.own _ _)) ?_ T36
  refine a_lenO ?_ Try.underlying36
  refine a_move (v := vI _) ?_
  refine RA.nil nofun ?_
  refine AG.block ?_
  refine AG.loop ?_
  obtain ⟨K0, hK0, gK0⟩ : ∃ K, k ≤ K ∧ K ≤ k := ⟨k, Nat.le_refl k, Nat.le_refl k⟩
  refine AGr.canon (fun κ => cond (Nat.beq κ 206) 200 (cond (Nat.beq κ 207) 203 (cond (Nat.beq κ 208) 202 (cond (Nat.beq κ 209) 205 (κ))))) (AGr.loopI (n := k) (fun k s => k ≤ K0 ∧ ∃ (y206_0 : ByteArray) (y206_1 : Int) (y206_2 : Int) (y206_3 : Int) (y207_0 : List Int) (x9 : List Int) (x27 : Int) (x28 : Int), impl_DecreasingBlades.l0 k y206_0 y206_1 y206_2 y206_3 y207_0 x9 x27 x28 = some (r0, r1, r2) ∧ s = St.of [(2, .c (.ptr 206 0)), (7, .c (.ptr 207 0)), (9, .c (.own 209 x9.length)), (27, vI x27), (28, vI x28)] [(206, .box 39 [.d (.v (.string y206_0)), .d (.v (.int .i64 y206_1)), .d (.v (.int .i64 y206_2)), .d (.v (.int .i64 y206_3))]), (207, .box 36 [.own 208 y207_0.length]), (208, .row 2 (y207_0.map c2)), (209, .row 3 (x9.map c3))]) ⟨hK0, _, _, _, _, _, _, _, _, H, rfl⟩ ?_ ?_) ⟨rfl, rfl, (ownE rfl (by simp)), rfl, rfl, trivial⟩ ⟨rfl, rfl, rfl, rfl, trivial⟩ rfl
  ·rintro _ ⟨_, _, _, _, _, _, _, _, _, H, _⟩
   cases H
  ·clear H hK0
   rintro k ih0 _ ⟨hK0, y206_0, y206_1, y206_2, y206_3, y207_0, x9, x27, x28, H, rfl⟩
   unfold impl_DecreasingBlades.l0 at H
   refine AG.seq ?_
   refine AG.region HM ?_
   refine a_int (u := .bool (decide (x28 < x27))) ?_
   refine RA.nil nofun ?_
   refine AG.seq ?_
   by_cases hc6 : x28 < x27
   ·rw [if_pos hc6] at H
    refine AG.yes rfl (decide_eq_true hc6) ?_
    refine AG.skip ?_
    refine AG.seq ?_
    refine AG.block ?_
    refine AG.seq ?_
    refine AG.region HM ?_
    refine a_move (v := vI _) ?_
    refine a_move (v := vI _) ?_
    refine RA.nil nofun ?_
    refine AG.region HM ?_
    refine a_move (v := .c (.own _ _)) ?_
    refine a_move (v := vI _) ?_
    refine a_lit (cs := [_]) (D := []) (css := ([x28]).map c3) 210 ?_ N50 T3
    by_cases hc7 : x9.length < 17592186044416
    ·rw [if_pos hc7] at H
     refine a_appO (css' := (x9 ++ [x28]).map c3) (n' := (x9 ++ [x28]).length) ?_ T3 (by simp [maxLen]; omega) (by simp; omega) Try.underlying50 (hc := by exact List.map_append.symm) (hn := by exact List.length_map _)
     refine a_move (v := .c (.own _ _)) ?_
     refine RA.nil nofun ?_
     refine AG.region HM ?_
     refine a_int (u := .int .i64 (wrap64 (x28 + 1))) ?_
     refine a_move (v := vI _) ?_
     refine RA.nil nofun ?_
     exact AGr.canon id (ih0 _ (by omega) _ ⟨by omega, _, _, _, _, _, _, _, _, H, rfl⟩) ⟨rfl, rfl, rfl, rfl, rfl, trivial⟩ ⟨rfl, rfl, rfl, rfl, trivial⟩ rfl
    ·rw [if_neg hc7] at H
     cases H
   ·rw [if_neg hc6] at H
    refine AG.no rfl (decide_eq_false hc6) ?_
    refine AG.exit ?_
    refine AG.seq ?_
    refine AG.region HM ?_
    refine a_move (v := .c (.own _ _)) ?_
    refine a_fnc (ks := [207]) ?_
    obtain ⟨t9, e10, H⟩ := bindO H
    refine a_callM (v := .tup []) (nk := []) (L := [(207, _), (208, _)]) (Mk := [(209, _)]) (ck := [(209, .row 3 (t9.map c3))]) ?_ rfl (slices_SortStableFunc_int_int__impl_DecreasingBlades_1.ok e10) (fun κ => cond (Nat.beq κ 0) 209 (κ)) (fun κ => cond (Nat.beq κ 209) 0 (κ)) (mcO (mcC (rF1 (rP (κ := 207) (off := 0) (cs := [.own 208 y207_0.length]) (pC rO p0))) m0)) ⟨rfl, rfl, trivial⟩ ⟨rfl, trivial⟩ trivial ⟨rfl, trivial⟩ trivial ⟨rfl, trivial⟩ rfl rfl rfl
    refine RA.nil nofun ?_
    refine AG.relen 209 t9.length ?_
    refine AG.seq ?_
    refine AG.region HM ?_
    refine a_ldB (v := .c (.own _ _)) ?_ T36
    refine a_lenO ?_ Try.underlying36
    by_cases hc11 : 0 ≤ (y207_0.length : Int)
    ·rw [if_pos hc11] at H
     by_cases hc12 : ((y207_0.length : Int) : Int).toNat ≤ 35184372088832
     ·rw [if_pos hc12] at H
      refine a_make (n := (y207_0.length : Int)) (css := (List.replicate (((y207_0.length : Int) : Int).toNat) 0).map c2) 212 ?_ N36 T2 (zV zN) hc11 (by omega) (by omega) (hcss := by exact rep_map rfl)
      refine a_lit (cs := []) (D := []) (css := (([] : List Int) : List Int).map c2) 213 ?_ N36 T2 (hcss := by rfl)
      refine a_move (v := .c (.own _ _)) ?_
      refine a_move (v := .c (.own _ _)) ?_
      refine RA.nil nofun ?_
      refine AG.seq ?_
      refine AG.seq ?_
      refine AG.region HM ?_
      refine a_move (v := .c (.own _ _)) ?_
      refine a_lenO ?_ Try.underlying50
      refine a_move (v := vI _) ?_
      refine RA.nil nofun ?_
      refine AG.block ?_
      refine AG.loop ?_
      obtain ⟨K1, hK1, gK1⟩ : ∃ K, k ≤ K ∧ K ≤ k := ⟨k, Nat.le_refl k, Nat.le_refl k⟩
      refine AGr.canon (fun κ => cond (Nat.beq κ 214) 206 (cond (Nat.beq κ 215) 207 (cond (Nat.beq κ 216) 208 (cond (Nat.beq κ 217) 212 (cond (Nat.beq κ 218) 213 (cond (Nat.beq κ 219) 209 (κ))))))) (AGr.loopI (n := k) (fun k s => k ≤ K1 ∧ ∃ (y214_0 : ByteArray) (y214_1 : Int) (y214_2 : Int) (y214_3 : Int) (y215_0 : List Int) (x11 : List Int) (x12 : List Int) (x43 : List Int) (x44 : Int) (x45 : Int), impl_DecreasingBlades.l1 k y214_0 y214_1 y214_2 y214_3 y215_0 x11 x12 x43 x44 x45 = some (r0, r1, r2) ∧ s = St.of [(2, .c (.ptr 214 0)), (7, .c (.ptr 215 0)), (11, .c (.own 217 x11.length)), (12, .c (.own 218 x12.length)), (43, .c (.own 219 x43.length)), (44, vI x44), (45, vI x45)] [(214, .box 39 [.d (.v (.string y214_0)), .d (.v (.int .i64 y214_1)), .d (.v (.int .i64 y214_2)), .d (.v (.int .i64 y214_3))]), (215, .box 36 [.own 216 y215_0.length]), (216, .row 2 (y215_0.map c2)), (217, .row 2 (x11.map c2)), (218, .row 2 (x12.map c2)), (219, .row 3 (x43.map c3))]) ⟨hK1, _, _, _, _, _, _, _, _, _, _, H, rfl⟩ ?_ ?_) ⟨rfl, rfl, (ownE rfl (by simp)), (ownE rfl (by simp)), rfl, rfl, rfl, trivial⟩ ⟨rfl, rfl, rfl, rfl, rfl, rfl, trivial⟩ rfl
      ·rintro _ ⟨_, _, _, _, _, _, _, _, _, _, _, H, _⟩
       cases H
      ·clear H hK1
       rintro k ih1 _ ⟨hK1, y214_0, y214_1, y214_2, y214_3, y215_0, x11, x12, x43, x44, x45, H, rfl⟩
       unfold impl_DecreasingBlades.l1 at H
       refine AG.seq ?_
       refine AG.region HM ?_
       refine a_int (u := .bool (decide (x45 < x44))) ?_
       refine RA.nil nofun ?_
       refine AG.seq ?_
       by_cases hc15 : x45 < x44
       ·rw [if_pos hc15] at H
        refine AG.yes rfl (decide_eq_true hc15) ?_
        refine AG.skip ?_
        refine AG.seq ?_
        refine AG.block ?_
        refine AG.seq ?_
        refine AG.region HM ?_
        by_cases hc16 : 0 ≤ x45
        ·rw [if_pos hc16] at H
         by_cases hc17 : x45 < (x43.length : Int)
         ·rw [if_pos hc17] at H
          refine a_ixO ?_ ⟨hc16, hc17⟩ T3 Try.underlying50
          refine a_ldE (v := vI _) ?_ (G3 hc16 hc17) T3
          refine a_alloc (cs := [_]) 220 ?_ T3
          refine a_stB (cs' := [_]) ?_ T3
          refine RA.nil nofun ?_
          refine AG.seq ?_
          refine AG.region HM ?_
          refine a_move (v := .c (.own _ _)) ?_
          refine a_fnc (ks := [215, 220, 214]) ?_
          obtain ⟨t18, e19, H⟩ := bindO H
          refine a_call (v := vI t18) (nk := []) (L := [(218, _), (215, _), (216, _), (220, _), (214, _)]) ?_ rfl (slices_IndexFunc_int64_int64__impl_DecreasingBlades_2.ok e19) id (qc rO (qc (rF3 (rP (κ := 215) (off := 0) (cs := [.own 216 y215_0.length]) (pC rO p0)) (rP (pD p0)) (rP (pD (pD (pD (pD p0)))))) qn)) ⟨rfl, rfl, rfl, rfl, rfl, trivial⟩ trivial trivial rfl
          refine a_move (v := vI _) ?_
          refine RA.nil nofun ?_
          refine AG.seq ?_
          refine AG.seq ?_
          refine AG.region HM ?_
          refine a_move (v := vI _) ?_
          refine a_int (u := .bool (decide (t18 < 0))) ?_
          refine RA.nil nofun ?_
          by_cases hc20 : t18 < 0
          ·rw [if_pos hc20] at H
           refine AG.yes rfl (decide_eq_true hc20) ?_
           refine AG.seq ?_
           refine AG.region HM ?_
           refine a_move (v := .c (.own _ _)) ?_
           refine a_lenO ?_ Try.underlying36
           refine a_move (v := vI _) ?_
           refine RA.nil nofun ?_
           refine AG.region HM ?_
           refine a_move (v := .c (.own _ _)) ?_
           refine a_lit (cs := [_]) (D := []) (css := ([0]).map c2) 222 ?_ N36 T2
           by_cases hc21 : x12.length < 17592186044416
           ·rw [if_pos hc21] at H
            obtain ⟨y22, ey22, H⟩ := bindO H
            have ey22 := Option.some.inj ey22
            refine a_appO (css' := y22.map c2) (n' := y22.length) ?_ T2 (by rw [← ey22]; simp [maxLen]; omega) (by rw [← ey22]; simp; omega) Try.underlying36 (hc := by rw [← ey22]; exact List.map_append.symm) (hn := by exact List.length_map _)
            refine a_move (v := .c (.own _ _)) ?_
            refine RA.nil nofun ?_
            refine AG.seq ?_
            refine AG.region HM ?_
            refine a_move (v := .c (.own _ _)) ?_
            refine a_move (v := vI _) ?_
            by_cases hc23 : 0 ≤ (x12.length : Int)
            ·rw [if_pos hc23] at H
             by_cases hc24 : (x12.length : Int) < (y22.length : Int)
             ·rw [if_pos hc24] at H
              refine a_ixO ?_ ⟨hc23, hc24⟩ T2 Try.underlying36
              refine a_ldE (v := vI _) ?_ (G2 hc23 hc24) T2
              refine a_ldB (v := .c (.own _ _)) ?_ T36
              refine a_ldB (v := vI _) ?_ T3
              by_cases hc25 : 0 ≤ (rd3 x43 x45)
              ·rw [if_pos hc25] at H
               by_cases hc26 : (rd3 x43 x45) < (y215_0.length : Int)
               ·rw [if_pos hc26] at H
                refine a_ixO ?_ ⟨hc25, hc26⟩ T2 Try.underlying36
                refine a_ldE (v := vI _) ?_ (G2 hc25 hc26) T2
                refine a_int (u := .int .i64 (wrap64 ((rd2 y22 (x12.length : Int)) + (rd2 y215_0 (rd3 x43 x45))))) ?_
                refine a_ixO ?_ ⟨hc23, hc24⟩ T2 Try.underlying36
                refine a_stF (css' := (y22.set ((x12.length : Int) : Int).toNat (wrap64 ((rd2 y22 (x12.length : Int)) + (rd2 y215_0 (rd3 x43 x45))))).map c2) ?_ (flat_map (fun _ => rfl)) (G2 hc23 hc24) T2 (hcss := by exact set_map rfl)
                refine RA.nil (fun _ => by kernel_rfl) ?_
                refine AG.region HM ?_
                refine a_move (v := .c (.own _ _)) ?_
                refine a_ldB (v := vI _) ?_ T3
                refine a_move (v := vI _) ?_
                by_cases hc28 : (rd3 x43 x45) < (x11.length : Int)
                ·rw [if_pos hc28] at H
                 refine a_ixO ?_ ⟨hc25, hc28⟩ T2 Try.underlying36
                 refine a_stF (css' := (x11.set ((rd3 x43 x45) : Int).toNat (x12.length : Int)).map c2) ?_ (flat_map (fun _ => rfl)) (G2 hc25 hc28) T2 (hcss := by exact set_map rfl)
                 refine RA.nil nofun ?_
                 refine AG.region HM ?_
                 refine a_int (u := .int .i64 (wrap64 (x45 + 1))) ?_
                 refine a_move (v := vI _) ?_
                 refine RA.nil nofun ?_
                 exact AGr.canon id (ih1 _ (by omega) _ ⟨by omega, _, _, _, _, _, _, _, _, _, _, H, rfl⟩) ⟨rfl, rfl, (ownE rfl (by simp)), (ownE rfl (by rw [← ey22]; simp)), rfl, rfl, rfl, trivial⟩ ⟨rfl, rfl, rfl, rfl, rfl, rfl, trivial⟩ rfl
                ·rw [if_neg hc28] at H
                 cases H
               ·rw [if_neg hc26] at H
                cases H
              ·rw [if_neg hc25] at H
               cases H
             ·rw [if_neg hc24] at H
              cases H
            ·rw [if_neg hc23] at H
             cases H
           ·rw [if_neg hc21] at H
            cases H
          ·rw [if_neg hc20] at H
           refine AG.no rfl (decide_eq_false hc20) ?_
           refine AG.skip ?_
           refine AG.seq ?_
           refine AG.region HM ?_
           refine a_move (v := .c (.own _ _)) ?_
           refine a_move (v := vI _) ?_
           by_cases hc30 : 0 ≤ t18
           ·rw [if_pos hc30] at H
            by_cases hc31 : t18 < (x12.length : Int)
            ·rw [if_pos hc31] at H
             refine a_ixO ?_ ⟨hc30, hc31⟩ T2 Try.underlying36
             refine a_ldE (v := vI _) ?_ (G2 hc30 hc31) T2
             refine a_ldB (v := .c (.own _ _)) ?_ T36
             refine a_ldB (v := vI _) ?_ T3
             by_cases hc32 : 0 ≤ (rd3 x43 x45)
             ·rw [if_pos hc32] at H
              by_cases hc33 : (rd3 x43 x45) < (y215_0.length : Int)
              ·rw [if_pos hc33] at H
               refine a_ixO ?_ ⟨hc32, hc33⟩ T2 Try.underlying36
               refine a_ldE (v := vI _) ?_ (G2 hc32 hc33) T2
               refine a_int (u := .int .i64 (wrap64 ((rd2 x12 t18) + (rd2 y215_0 (rd3 x43 x45))))) ?_
               refine a_ixO ?_ ⟨hc30, hc31⟩ T2 Try.underlying36
               refine a_stF (css' := (x12.set (t18 : Int).toNat (wrap64 ((rd2 x12 t18) + (rd2 y215_0 (rd3 x43 x45))))).map c2) ?_ (flat_map (fun _ => rfl)) (G2 hc30 hc31) T2 (hcss := by exact set_map rfl)
               refine RA.nil (fun _ => by kernel_rfl) ?_
               refine AG.region HM ?_
               refine a_move (v := .c (.own _ _)) ?_
               refine a_ldB (v := vI _) ?_ T3
               refine a_move (v := vI _) ?_
               by_cases hc35 : (rd3 x43 x45) < (x11.length : Int)
               ·rw [if_pos hc35] at H
                refine a_ixO ?_ ⟨hc32, hc35⟩ T2 Try.underlying36
                refine a_stF (css' := (x11.set ((rd3 x43 x45) : Int).toNat t18).map c2) ?_ (flat_map (fun _ => rfl)) (G2 hc32 hc35) T2 (hcss := by exact set_map rfl)
                refine RA.nil nofun ?_
                refine AG.region HM ?_
                refine a_int (u := .int .i64 (wrap64 (x45 + 1))) ?_
                refine a_move (v := vI _) ?_
                refine RA.nil nofun ?_
                exact AGr.canon id (ih1 _ (by omega) _ ⟨by omega, _, _, _, _, _, _, _, _, _, _, H, rfl⟩) ⟨rfl, rfl, (ownE rfl (by simp)), (ownE rfl (by simp)), rfl, rfl, rfl, trivial⟩ ⟨rfl, rfl, rfl, rfl, rfl, rfl, trivial⟩ rfl
               ·rw [if_neg hc35] at H
                cases H
              ·rw [if_neg hc33] at H
               cases H
             ·rw [if_neg hc32] at H
              cases H
            ·rw [if_neg hc31] at H
             cases H
           ·rw [if_neg hc30] at H
            cases H
         ·rw [if_neg hc17] at H
          cases H
        ·rw [if_neg hc16] at H
         cases H
       ·rw [if_neg hc15] at H
        refine AG.no rfl (decide_eq_false hc15) ?_
        refine AG.exit ?_
        refine AG.seq ?_
        refine AG.region HM ?_
        refine a_move (v := .c (.own _ _)) ?_
        refine a_move (v := .c (.own _ _)) ?_
        refine a_lenO ?_ Try.underlying36
        refine a_move (v := .c (.own _ _)) ?_
        refine a_move (v := vI _) ?_
        refine a_move (v := vI _) ?_
        refine RA.nil nofun ?_
        refine AG.ret ?_
        simp only [Option.some.injEq, Prod.mk.injEq] at H
        obtain ⟨rfl, rfl, rfl⟩ := H
        exact RetP.mk (fun κ => cond (Nat.beq κ 100) 217 (κ)) ⟨rfl, rfl, rfl, trivial⟩ ⟨rfl, trivial⟩ rfl
     ·rw [if_neg hc12] at H
      cases H
    ·rw [if_neg hc11] at H
     cases H
 ·rw [if_neg hc4] at H
  refine AG.yes rfl (bne_iff_ne.2 hc4) ?_
  refine AG.seq ?_
  refine AG.region HM ?_
  refine a_move (v := vI _) ?_
  refine a_nilO (e := 2) 204 ?_ T2
  refine a_move (v := vI _) ?_
  refine a_move (v := vI _) ?_
  refine RA.nil nofun ?_
  refine AG.ret ?_
  simp only [Option.some.injEq, Prod.mk.injEq] at H
  obtain ⟨rfl, rfl, rfl⟩ := H
  exact RetP.mk (fun κ => cond (Nat.beq κ 100) 204 (κ)) ⟨(ownE rfl (by simp)), rfl, rfl, trivial⟩ ⟨rfl, trivial⟩ rfl
/-! ### laws_eqInt64S: function 21 -/
def laws_eqInt64S.l0 : Nat → List Int → List Int → Int → Option (Bool)
 | 0, _, _, _ => none
 | k + 1, x0, x1, x5 => if x5 < (x0.length : Int) then (if 0 ≤ x5 then (if x5 < (x1.length : Int) then (if (rd2 x0 x5) = (rd2 x1 x5) then (laws_eqInt64S.l0 k x0 x1 (wrap64 (x5 + 1))) else (some false)) else (none)) else (none)) else (some true)
def laws_eqInt64S.f (k : Nat) (l0 : List Int) (l1 : List Int) : Option (Bool) := if (l0.length : Int) = (l1.length : Int) then (laws_eqInt64S.l0 k l0 l1 0) else (some false)
set_option maxRecDepth 100000 in
theorem laws_eqInt64S.ok {k : Nat} {l0 : List Int} {l1 : List Int} {r : Bool} (H : laws_eqInt64S.f k l0 l1 = some r) : OkF Try.prog 21 [vR 2 (l0.map c2), vR 2 (l1.map c2)] [] (.c (.d (.v (.bool r)))) [] := by
 unfold laws_eqInt64S.f at H
 refine OkF.of (N := 26) (rs := [4]) (avs := [.c (.d (.v (.bool r)))]) Try.func21 rfl rfl (fun _ _ => results_tmp rfl _ _ _) (by decide) rfl rfl rfl rfl (fun w0 S => ?_)
 refine AG.seq ?_
 refine AG.region HM ?_
 refine a_move (v := vB _) ?_
 refine RA.nil nofun ?_
 refine AG.seq ?_
 refine AG.seq ?_
 refine AG.region HM ?_
 refine a_move (v := vR _ _) ?_
 refine a_lenR ?_ Try.underlying36
 refine a_move (v := vR _ _) ?_
 refine a_lenR ?_ Try.underlying36
 refine a_int (u := .bool (((l0.length : Int) != (l1.length : Int)))) ?_
 refine RA.nil nofun ?_
 by_cases hc1 : (l0.length : Int) = (l1.length : Int)
 ·rw [if_pos hc1] at H
  refine AG.no rfl (bne_eq_false_iff_eq.2 hc1) ?_
  refine AG.skip ?_
  refine AG.seq ?_
  refine AG.seq ?_
  refine AG.region HM ?_
  refine a_move (v := vI _) ?_
  refine RA.nil nofun ?_
  refine AG.block ?_
  refine AG.loop ?_
  obtain ⟨K0, hK0, gK0⟩ : ∃ K, k ≤ K ∧ K ≤ k := ⟨k, Nat.le_refl k, Nat.le_refl k⟩
  refine AGr.canon id (AGr.loopI (n := k) (fun k s => k ≤ K0 ∧ ∃ (x0 : List Int) (x1 : List Int) (x5 : Int), laws_eqInt64S.l0 k x0 x1 x5 = some r ∧ s = St.of [(0, vR 2 (x0.map c2)), (1, vR 2 (x1.map c2)), (5, vI x5)] []) ⟨hK0, _, _, _, H, rfl⟩ ?_ ?_) ⟨rfl, rfl, rfl, trivial⟩ trivial rfl
  ·rintro _ ⟨_, _, _, _, H, _⟩
   cases H
  ·clear H hK0
   rintro k ih0 _ ⟨hK0, x0, x1, x5, H, rfl⟩
   unfold laws_eqInt64S.l0 at H
   refine AG.seq ?_
   refine AG.seq ?_
   refine AG.region HM ?_
   refine a_move (v := vI _) ?_
   refine a_move (v := vR _ _) ?_
   refine a_lenR ?_ Try.underlying36
   refine a_int (u := .bool (decide (x5 < (x0.length : Int)))) ?_
   refine RA.nil nofun ?_
   by_cases hc2 : x5 < (x0.length : Int)
   ·rw [if_pos hc2] at H
    refine AG.yes rfl (decide_eq_true hc2) ?_
    refine AG.skip ?_
    refine AG.seq ?_
    refine AG.block ?_
    refine AG.seq ?_
    refine AG.region HM ?_
    refine a_move (v := vR _ _) ?_
    refine a_move (v := vI _) ?_
    by_cases hc3 : 0 ≤ x5
    ·rw [if_pos hc3] at H
     refine a_ixR (el := c2 (rd2 x0 x5)) ?_ ⟨hc3, hc2⟩ T2 Try.underlying36 (hel := R2 hc3 hc2)
     refine a_ldR (v := vI _) ?_ T2
     refine a_move (v := vR _ _) ?_
     refine a_move (v := vI _) ?_
     by_cases hc4 : x5 < (x1.length : Int)
     ·rw [if_pos hc4] at H
      refine a_ixR (el := c2 (rd2 x1 x5)) ?_ ⟨hc3, hc4⟩ T2 Try.underlying36 (hel := R2 hc3 hc4)
      refine a_ldR (v := vI _) ?_ T2
      refine a_int (u := .bool (((rd2 x0 x5) != (rd2 x1 x5)))) ?_
      refine RA.nil (fun _ => by kernel_rfl) ?_
      by_cases hc5 : (rd2 x0 x5) = (rd2 x1 x5)
      ·rw [if_pos hc5] at H
       refine AG.no rfl (bne_eq_false_iff_eq.2 hc5) ?_
       refine AG.skip ?_
       refine AG.region HM ?_
       refine a_move (v := vI _) ?_
       refine a_int (u := .int .i64 (wrap64 (x5 + 1))) ?_
       refine a_move (v := vI _) ?_
       refine RA.nil nofun ?_
       exact AGr.canon id (ih0 _ (by omega) _ ⟨by omega, _, _, _, H, rfl⟩) ⟨rfl, rfl, rfl, trivial⟩ trivial rfl
      ·rw [if_neg hc5] at H
       refine AG.yes rfl (bne_iff_ne.2 hc5) ?_
       refine AG.seq ?_
       refine AG.region HM ?_
       refine a_move (v := vB _) ?_
       refine RA.nil nofun ?_
       refine AG.ret ?_
       obtain rfl := Option.some.inj H
       exact RetP.mk id ⟨rfl, trivial⟩ trivial rfl
     ·rw [if_neg hc4] at H
      cases H
    ·rw [if_neg hc3] at H
     cases H
   ·rw [if_neg hc2] at H
    refine AG.no rfl (decide_eq_false hc2) ?_
    refine AG.exit ?_
    refine AG.seq ?_
    refine AG.region HM ?_
    refine a_move (v := vB _) ?_
    refine RA.nil nofun ?_
    refine AG.ret ?_
    obtain rfl := Option.some.inj H
    exact RetP.mk id ⟨rfl, trivial⟩ trivial rfl
 ·rw [if_neg hc1] at H
  refine AG.yes rfl (bne_iff_ne.2 hc1) ?_
  refine AG.seq ?_
  refine AG.region HM ?_
  refine a_move (v := vB _) ?_
  refine RA.nil nofun ?_
  refine AG.ret ?_
  obtain rfl := Option.some.inj H
  exact RetP.mk id ⟨rfl, trivial⟩ trivial rfl
/-! ### laws_eqCutting: function 42 -/
def laws_eqCutting.f (a0_0 : ByteArray) (a0_1 : Int) (a0_2 : Int) (a1_0 : ByteArray) (a1_1 : Int) (a1_2 : Int) : Option (Bool) := if a0_0.toList = a1_0.toList then (if a0_1 = a1_1 then (if a0_2 = a1_2 then (some true) else (some false)) else (some false)) else (some false)
set_option maxRecDepth 100000 in
theorem laws_eqCutting.ok {a0_0 : ByteArray} {a0_1 : Int} {a0_2 : Int} {a1_0 : ByteArray} {a1_1 : Int} {a1_2 : Int} {r : Bool} (H : laws_eqCutting.f a0_0 a0_1 a0_2 a1_0 a1_1 a1_2 = some r) : OkF Try.prog 42 [.agg [.d (.v (.string a0_0)), .d (.v (.int .i64 a0_1)), .d (.v (.int .i64 a0_2))], .agg [.d (.v (.string a1_0)), .d (.v (.int .i64 a1_1)), .d (.v (.int .i64 a1_2))]] [] (.c (.d (.v (.bool r)))) [] := by
 unfold laws_eqCutting.f at H
 refine OkF.of (N := 20) (rs := [4]) (avs := [.c (.d (.v (.bool r)))]) Try.func42 rfl rfl (fun _ _ => results_tmp rfl _ _ _) (by decide) rfl rfl rfl rfl (fun w0 S => ?_)
 refine AG.seq ?_
 refine AG.region HM ?_
 refine a_box 200 ?_
 refine a_box 201 ?_
 refine a_move (v := vB _) ?_
 refine RA.nil nofun ?_
 refine AG.seq ?_
 refine AG.seq ?_
 refine AG.region HM ?_
 refine a_faB (q := 0) ?_ D59_0
 refine a_ldB (v := vS _) ?_ T9
 refine a_faB (q := 0) ?_ D59_0
 refine a_ldB (v := vS _) ?_ T9
 refine a_bin (u := .bool (!(a0_0.toList == a1_0.toList))) ?_
 refine RA.nil nofun ?_
 by_cases hc1 : a0_0.toList = a1_0.toList
 ·rw [if_pos hc1] at H
  refine AG.no rfl (by rw [beq_iff_eq.2 hc1]; rfl) ?_
  refine AG.skip ?_
  refine AG.seq ?_
  refine AG.seq ?_
  refine AG.region HM ?_
  refine a_faB (q := 1) ?_ D59_1
  refine a_ldB (v := vI _) ?_ T2
  refine a_faB (q := 1) ?_ D59_1
  refine a_ldB (v := vI _) ?_ T2
  refine a_int (u := .bool ((a0_1 != a1_1))) ?_
  refine RA.nil nofun ?_
  by_cases hc2 : a0_1 = a1_1
  ·rw [if_pos hc2] at H
   refine AG.no rfl (bne_eq_false_iff_eq.2 hc2) ?_
   refine AG.skip ?_
   refine AG.seq ?_
   refine AG.seq ?_
   refine AG.region HM ?_
   refine a_faB (q := 2) ?_ D59_2
   refine a_ldB (v := vI _) ?_ T2
   refine a_faB (q := 2) ?_ D59_2
   refine a_ldB (v := vI _) ?_ T2
   refine a_int (u := .bool ((a0_2 != a1_2))) ?_
   refine RA.nil nofun ?_
   by_cases hc3 : a0_2 = a1_2
   ·rw [if_pos hc3] at H
    refine AG.no rfl (bne_eq_false_iff_eq.2 hc3) ?_
    refine AG.skip ?_
    refine AG.seq ?_
    refine AG.region HM ?_
    refine a_move (v := vB _) ?_
    refine RA.nil nofun ?_
    refine AG.ret ?_
    obtain rfl := Option.some.inj H
    exact RetP.mk id ⟨rfl, trivial⟩ trivial rfl
   ·rw [if_neg hc3] at H
    refine AG.yes rfl (bne_iff_ne.2 hc3) ?_
    refine AG.seq ?_
    refine AG.region HM ?_
    refine a_move (v := vB _) ?_
    refine RA.nil nofun ?_
    refine AG.ret ?_
    obtain rfl := Option.some.inj H
    exact RetP.mk id ⟨rfl, trivial⟩ trivial rfl
  ·rw [if_neg hc2] at H
   refine AG.yes rfl (bne_iff_ne.2 hc2) ?_
   refine AG.seq ?_
   refine AG.region HM ?_
   refine a_move (v := vB _) ?_
   refine RA.nil nofun ?_
   refine AG.ret ?_
   obtain rfl := Option.some.inj H
   exact RetP.mk id ⟨rfl, trivial⟩ trivial rfl
 ·rw [if_neg hc1] at H
  refine AG.yes rfl (by rw [beq_eq_false_iff_ne.2 hc1]; rfl) ?_
  refine AG.seq ?_
  refine AG.region HM ?_
  refine a_move (v := vB _) ?_
  refine RA.nil nofun ?_
  refine AG.ret ?_
  obtain rfl := Option.some.inj H
  exact RetP.mk id ⟨rfl, trivial⟩ trivial rfl
/-! ### laws_eqCuttingS: function 22 -/
def laws_eqCuttingS.l0 : Nat → List S54 → List S54 → Int → Option (Bool)
 | 0, _, _, _ => none
 | k + 1, x0, x1, x5 => if x5 < (x0.length : Int) then (if 0 ≤ x5 then (if x5 < (x1.length : Int) then ((laws_eqCutting.f ((rd54 x0 x5).f0) ((rd54 x0 x5).f1) ((rd54 x0 x5).f2) ((rd54 x1 x5).f0) ((rd54 x1 x5).f1) ((rd54 x1 x5).f2)).bind fun t5 => (if t5 = true then (laws_eqCuttingS.l0 k x0 x1 (wrap64 (x5 + 1))) else (some false))) else (none)) else (none)) else (some true)
def laws_eqCuttingS.f (k : Nat) (l0 : List S54) (l1 : List S54) : Option (Bool) := if (l0.length : Int) = (l1.length : Int) then (laws_eqCuttingS.l0 k l0 l1 0) else (some false)
set_option maxRecDepth 100000 in
theorem laws_eqCuttingS.ok {k : Nat} {l0 : List S54} {l1 : List S54} {r : Bool} (H : laws_eqCuttingS.f k l0 l1 = some r) : OkF Try.prog 22 [vR 59 (l0.map c54), vR 59 (l1.map c54)] [] (.c (.d (.v (.bool r)))) [] := by
 unfold laws_eqCuttingS.f at H
 refine OkF.of (N := 27) (rs := [4]) (avs := [.c (.d (.v (.bool r)))]) Try.func22 rfl rfl (fun _ _ => results_tmp rfl _ _ _) (by decide) rfl rfl rfl rfl (fun w0 S => ?_)
 refine AG.seq ?_
 refine AG.region HM ?_
 refine a_move (v := vB _) ?_
 refine RA.nil nofun ?_
 refine AG.seq ?_
 refine AG.seq ?_
 refine AG.region HM ?_
 refine a_move (v := vR _ _) ?_
 refine a_lenR ?_ Try.underlying41
 refine a_move (v := vR _ _) ?_
 refine a_lenR ?_ Try.underlying41
 refine a_int (u := .bool (((l0.length : Int) != (l1.length : Int)))) ?_
 refine RA.nil nofun ?_
 by_cases hc1 : (l0.length : Int) = (l1.length : Int)
 ·rw [if_pos hc1] at H
  refine AG.no rfl (bne_eq_false_iff_eq.2 hc1) ?_
  refine AG.skip ?_
  refine AG.seq ?_
  refine AG.seq ?_
  refine AG.region HM ?_
  refine a_move (v := vI _) ?_
  refine RA.nil nofun ?_
  refine AG.block ?_
  refine AG.loop ?_
  obtain ⟨K0, hK0, gK0⟩ : ∃ K, k ≤ K ∧ K ≤ k := ⟨k, Nat.le_refl k, Nat.le_refl k⟩
  refine AGr.canon id (AGr.loopI (n := k) (fun k s => k ≤ K0 ∧ ∃ (x0 : List S54) (x1 : List S54) (x5 : Int), laws_eqCuttingS.l0 k x0 x1 x5 = some r ∧ s = St.of [(0, vR 59 (x0.map c54)), (1, vR 59 (x1.map c54)), (5, vI x5)] []) ⟨hK0, _, _, _, H, rfl⟩ ?_ ?_) ⟨rfl, rfl, rfl, trivial⟩ trivial rfl
  ·rintro _ ⟨_, _, _, _, H, _⟩
   cases H
  ·clear H hK0
   rintro k ih0 _ ⟨hK0, x0, x1, x5, H, rfl⟩
   unfold laws_eqCuttingS.l0 at H
   refine AG.seq ?_
   refine AG.seq ?_
   refine AG.region HM ?_
   refine a_move (v := vI _) ?_
   refine a_move (v := vR _ _) ?_
   refine a_lenR ?_ Try.underlying41
   refine a_int (u := .bool (decide (x5 < (x0.length : Int)))) ?_
   refine RA.nil nofun ?_
   by_cases hc2 : x5 < (x0.length : Int)
   ·rw [if_pos hc2] at H
    refine AG.yes rfl (decide_eq_true hc2) ?_
    refine AG.skip ?_
    refine AG.seq ?_
    refine AG.block ?_
    refine AG.seq ?_
    refine AG.region HM ?_
    refine a_move (v := vR _ _) ?_
    refine a_move (v := vI _) ?_
    by_cases hc3 : 0 ≤ x5
    ·rw [if_pos hc3] at H
     refine a_ixR (el := c54 (rd54 x0 x5)) ?_ ⟨hc3, hc2⟩ T59 Try.underlying41 (hel := R54 hc3 hc2)
     refine a_ldR (v := .agg [_, _, _]) ?_ T59
     refine a_move (v := vR _ _) ?_
     refine a_move (v := vI _) ?_
     by_cases hc4 : x5 < (x1.length : Int)
     ·rw [if_pos hc4] at H
      refine a_ixR (el := c54 (rd54 x1 x5)) ?_ ⟨hc3, hc4⟩ T59 Try.underlying41 (hel := R54 hc3 hc4)
      refine a_ldR (v := .agg [_, _, _]) ?_ T59
      obtain ⟨t5, e6, H⟩ := bindO H
      refine a_call (v := vB t5) (nk := []) (L := []) ?_ rfl (laws_eqCutting.ok e6) id (qg (qg qn)) trivial trivial trivial rfl
      refine a_un (u := .bool (!t5)) ?_
      refine RA.nil (fun _ => by kernel_rfl) ?_
      by_cases hc7 : t5 = true
      ·rw [if_pos hc7] at H
       refine AG.no rfl (congrArg Bool.not hc7) ?_
       refine AG.skip ?_
       refine AG.region HM ?_
       refine a_move (v := vI _) ?_
       refine a_int (u := .int .i64 (wrap64 (x5 + 1))) ?_
       refine a_move (v := vI _) ?_
       refine RA.nil nofun ?_
       exact AGr.canon id (ih0 _ (by omega) _ ⟨by omega, _, _, _, H, rfl⟩) ⟨rfl, rfl, rfl, trivial⟩ trivial rfl
      ·rw [if_neg hc7] at H
       refine AG.yes rfl (congrArg Bool.not (Bool.eq_false_iff.2 hc7)) ?_
       refine AG.seq ?_
       refine AG.region HM ?_
       refine a_move (v := vB _) ?_
       refine RA.nil nofun ?_
       refine AG.ret ?_
       obtain rfl := Option.some.inj H
       exact RetP.mk id ⟨rfl, trivial⟩ trivial rfl
     ·rw [if_neg hc4] at H
      cases H
    ·rw [if_neg hc3] at H
     cases H
   ·rw [if_neg hc2] at H
    refine AG.no rfl (decide_eq_false hc2) ?_
    refine AG.exit ?_
    refine AG.seq ?_
    refine AG.region HM ?_
    refine a_move (v := vB _) ?_
    refine RA.nil nofun ?_
    refine AG.ret ?_
    obtain rfl := Option.some.inj H
    exact RetP.mk id ⟨rfl, trivial⟩ trivial rfl
 ·rw [if_neg hc1] at H
  refine AG.yes rfl (bne_iff_ne.2 hc1) ?_
  refine AG.seq ?_
  refine AG.region HM ?_
  refine a_move (v := vB _) ?_
  refine RA.nil nofun ?_
  refine AG.ret ?_
  obtain rfl := Option.some.inj H
  exact RetP.mk id ⟨rfl, trivial⟩ trivial rfl
/-! ### laws_markText: function 43 -/
def laws_markText.l0 : Nat → Int → ByteArray → Option (ByteArray)
 | 0, _, _ => none
 | k + 1, x0, x3 => if x0 > 0 then ((some ([(wrap64 (48 + (Int.tmod x0 10))) % 256] : List Int)).bind fun y3 => (if (bs y3).size + x3.size ≤ 9223372036854775807 then (laws_markText.l0 k (wrap64 (Int.tdiv x0 10)) ((bs y3) ++ x3)) else (none))) else (if (⟨#[109]⟩ : ByteArray).size + x3.size ≤ 9223372036854775807 then (some ((⟨#[109]⟩ : ByteArray) ++ x3)) else (none))
def laws_markText.f (k : Nat) (a0 : Int) : Option (ByteArray) := if a0 ≤ 0 then (some (⟨#[109, 48]⟩ : ByteArray)) else (laws_markText.l0 k a0 (⟨#[]⟩ : ByteArray))
set_option maxRecDepth 100000 in
theorem laws_markText.ok {k : Nat} {a0 : Int} {r : ByteArray} (H : laws_markText.f k a0 = some r) : OkF Try.prog 43 [vI a0] [] (.c (.d (.v (.string r)))) [] := by
 unfold laws_markText.f at H
 refine OkF.of (N := 20) (rs := [2]) (avs := [.c (.d (.v (.string r)))]) Try.func43 rfl rfl (fun _ _ => results_tmp rfl _ _ _) (by decide) rfl rfl rfl rfl (fun w0 S => ?_)
 refine AG.seq ?_
 refine AG.region HM ?_
 refine a_move (v := vS _) ?_
 refine RA.nil nofun ?_
 refine AG.seq ?_
 refine AG.seq ?_
 refine AG.region HM ?_
 refine a_move (v := vI _) ?_
 refine a_int (u := .bool (decide (a0 ≤ 0))) ?_
 refine RA.nil nofun ?_
 by_cases hc1 : a0 ≤ 0
 ·rw [if_pos hc1] at H
  refine AG.yes rfl (decide_eq_true hc1) ?_
  refine AG.seq ?_
  refine AG.region HM ?_
  refine a_move (v := vS _) ?_
  refine RA.nil nofun ?_
  refine AG.ret ?_
  obtain rfl := Option.some.inj H
  exact RetP.mk id ⟨rfl, trivial⟩ trivial rfl
 ·rw [if_neg hc1] at H
  refine AG.no rfl (decide_eq_false hc1) ?_
  refine AG.skip ?_
  refine AG.seq ?_
  refine AG.region HM ?_
  refine a_move (v := vS _) ?_
  refine RA.nil nofun ?_
  refine AG.seq ?_
  refine AG.block ?_
  refine AG.loop ?_
  obtain ⟨K0, hK0, gK0⟩ : ∃ K, k ≤ K ∧ K ≤ k := ⟨k, Nat.le_refl k, Nat.le_refl k⟩
  refine AGr.canon id (AGr.loopI (n := k) (fun k s => k ≤ K0 ∧ ∃ (x0 : Int) (x3 : ByteArray), laws_markText.l0 k x0 x3 = some r ∧ s = St.of [(0, vI x0), (3, vS x3)] []) ⟨hK0, _, _, H, rfl⟩ ?_ ?_) ⟨rfl, rfl, trivial⟩ trivial rfl
  ·rintro _ ⟨_, _, _, H, _⟩
   cases H
  ·clear H hK0
   rintro k ih0 _ ⟨hK0, x0, x3, H, rfl⟩
   unfold laws_markText.l0 at H
   refine AG.seq ?_
   refine AG.seq ?_
   refine AG.region HM ?_
   refine a_move (v := vI _) ?_
   refine a_int (u := .bool (decide (x0 > 0))) ?_
   refine RA.nil nofun ?_
   by_cases hc2 : x0 > 0
   ·rw [if_pos hc2] at H
    refine AG.yes rfl (decide_eq_true hc2) ?_
    refine AG.skip ?_
    refine AG.block ?_
    refine AG.seq ?_
    refine AG.region HM ?_
    refine a_move (v := vI _) ?_
    refine a_rem (r := Int.tmod x0 10) ?_ (show ¬ (10 : Int) = 0 from by decide)
    refine a_int (u := .int .i64 (wrap64 (48 + (Int.tmod x0 10)))) ?_
    refine a_conv (j := (wrap64 (48 + (Int.tmod x0 10))) % 256) ?_ Try.underlying3 Try.underlying5
    obtain ⟨y3, ey3, H⟩ := bindO H
    have ey3 := Option.some.inj ey3
    refine a_lit (cs := [_]) (D := []) (css := y3.map c5) 200 ?_ N75 T5 (hcss := by rw [← ey3]; rfl)
    refine a_b2s y3 ?_ Try.underlying75 Try.underlying5 Try.underlying9
    refine a_move (v := vS _) ?_
    by_cases hc4 : (bs y3).size + x3.size ≤ 9223372036854775807
    ·rw [if_pos hc4] at H
     refine a_bin (u := .string ((bs y3) ++ x3)) ?_ (hp := by exact hc4)
     refine a_move (v := vS _) ?_
     refine RA.nil nofun ?_
     refine AG.region HM ?_
     refine a_move (v := vI _) ?_
     refine a_quo (r := wrap64 (Int.tdiv x0 10)) ?_ (show ¬ (10 : Int) = 0 from by decide)
     refine a_move (v := vI _) ?_
     refine RA.nil nofun ?_
     exact AGr.canon id (ih0 _ (by omega) _ ⟨by omega, _, _, H, rfl⟩) ⟨rfl, rfl, trivial⟩ trivial rfl
    ·rw [if_neg hc4] at H
     cases H
   ·rw [if_neg hc2] at H
    refine AG.no rfl (decide_eq_false hc2) ?_
    refine AG.exit ?_
    refine AG.seq ?_
    refine AG.region HM ?_
    refine a_move (v := vS _) ?_
    by_cases hc5 : (⟨#[109]⟩ : ByteArray).size + x3.size ≤ 9223372036854775807
    ·rw [if_pos hc5] at H
     refine a_bin (u := .string ((⟨#[109]⟩ : ByteArray) ++ x3)) ?_ (hp := by exact hc5)
     refine a_move (v := vS _) ?_
     refine RA.nil nofun ?_
     refine AG.ret ?_
     obtain rfl := Option.some.inj H
     exact RetP.mk id ⟨rfl, trivial⟩ trivial rfl
    ·rw [if_neg hc5] at H
     cases H
/-! ### laws_markCuttingS: function 23 -/
def laws_markCuttingS.l0 : Nat → List S54 → Int → Int → Option (Int × (List S54))
 | 0, _, _, _ => none
 | k + 1, x0, x1, x5 => if x5 < (x0.length : Int) then ((laws_markText.f k x1).bind fun t2 => (if 0 ≤ x5 then ((some (x0.set (x5 : Int).toNat (⟨t2, (rd54 x0 x5).f1, (rd54 x0 x5).f2⟩ : S54) : List S54)).bind fun y5 => ((some (y5.set (x5 : Int).toNat (⟨(rd54 y5 x5).f0, wrap64 (x1 + 1), (rd54 y5 x5).f2⟩ : S54) : List S54)).bind fun y6 => (laws_markCuttingS.l0 k (y6.set (x5 : Int).toNat (⟨(rd54 y6 x5).f0, (rd54 y6 x5).f1, wrap64 ((wrap64 (x1 + 1)) + 1)⟩ : S54)) (wrap64 ((wrap64 ((wrap64 (x1 + 1)) + 1)) + 1)) (wrap64 (x5 + 1))))) else (none))) else (some (x1, x0))
def laws_markCuttingS.f (k : Nat) (l0 : List S54) (a1 : Int) : Option (Int × (List S54)) := laws_markCuttingS.l0 k l0 a1 0
set_option maxRecDepth 100000 in
theorem laws_markCuttingS.ok {k : Nat} {l0 : List S54} {a1 : Int} {r0 : Int} {r1 : List S54} (H : laws_markCuttingS.f k l0 a1 = some (r0, r1)) : OkF Try.prog 23 [.c (.own 0 l0.length), vI a1] [(0, .row 59 (l0.map c54))] (.c (.d (.v (.int .i64 r0)))) [(0, .row 59 (r1.map c54))] := by
 unfold laws_markCuttingS.f at H
 refine OkF.of (N := 35) (rs := [4]) (avs := [.c (.d (.v (.int .i64 r0)))]) Try.func23 rfl rfl (fun _ _ => results_tmp rfl _ _ _) (by decide) rfl rfl rfl rfl (fun w0 S => ?_)
 refine AG.seq ?_
 refine AG.region HM ?_
 refine a_move (v := vI _) ?_
 refine RA.nil nofun ?_
 refine AG.seq ?_
 refine AG.seq ?_
 refine AG.region HM ?_
 refine a_move (v := vI _) ?_
 refine RA.nil nofun ?_
 refine AG.block ?_
 refine AG.loop ?_
 obtain ⟨K0, hK0, gK0⟩ : ∃ K, k ≤ K ∧ K ≤ k := ⟨k, Nat.le_refl k, Nat.le_refl k⟩
 refine AGr.canon id (AGr.loopI (n := k) (fun k s => k ≤ K0 ∧ ∃ (x0 : List S54) (x1 : Int) (x5 : Int), laws_markCuttingS.l0 k x0 x1 x5 = some (r0, r1) ∧ s = St.of [(0, .c (.own 0 x0.length)), (1, vI x1), (5, vI x5)] [(0, .row 59 (x0.map c54))]) ⟨hK0, _, _, _, H, rfl⟩ ?_ ?_) ⟨rfl, rfl, rfl, trivial⟩ ⟨rfl, trivial⟩ rfl
 ·rintro _ ⟨_, _, _, _, H, _⟩
  cases H
 ·clear H hK0
  rintro k ih0 _ ⟨hK0, x0, x1, x5, H, rfl⟩
  unfold laws_markCuttingS.l0 at H
  refine AG.seq ?_
  refine AG.seq ?_
  refine AG.region HM ?_
  refine a_move (v := vI _) ?_
  refine a_move (v := .c (.own _ _)) ?_
  refine a_lenO ?_ Try.underlying41
  refine a_int (u := .bool (decide (x5 < (x0.length : Int)))) ?_
  refine RA.nil nofun ?_
  by_cases hc1 : x5 < (x0.length : Int)
  ·rw [if_pos hc1] at H
   refine AG.yes rfl (decide_eq_true hc1) ?_
   refine AG.skip ?_
   refine AG.seq ?_
   refine AG.block ?_
   refine AG.seq ?_
   refine AG.region HM ?_
   refine a_move (v := .c (.own _ _)) ?_
   refine a_move (v := vI _) ?_
   refine a_move (v := vI _) ?_
   obtain ⟨t2, e3, H⟩ := bindO H
   refine a_call (v := vS t2) (nk := []) (L := []) ?_ rfl (laws_markText.ok e3) id (qd qn) trivial trivial trivial rfl
   by_cases hc4 : 0 ≤ x5
   ·rw [if_pos hc4] at H
    refine a_ixO ?_ ⟨hc4, hc1⟩ T59 Try.underlying41
    refine a_faE (q := 0) ?_ D59_0
    obtain ⟨y5, ey5, H⟩ := bindO H
    have ey5 := Option.some.inj ey5
    refine a_stF (css' := y5.map c54) ?_ (flat_map (fun _ => rfl)) (G54 hc4 hc1) T9 (hcss := by rw [← ey5]; exact set_map rfl)
    refine RA.nil nofun ?_
    refine AG.seq ?_
    refine AG.region HM ?_
    refine a_move (v := vI _) ?_
    refine a_int (u := .int .i64 (wrap64 (x1 + 1))) ?_
    refine a_move (v := vI _) ?_
    refine RA.nil nofun ?_
    refine AG.seq ?_
    refine AG.region HM ?_
    refine a_move (v := .c (.own _ _)) ?_
    refine a_move (v := vI _) ?_
    refine a_move (v := vI _) ?_
    refine a_ixO ?_ ⟨hc4, hc1⟩ T59 Try.underlying41
    refine a_faE (q := 1) ?_ D59_1
    obtain ⟨y6, ey6, H⟩ := bindO H
    have ey6 := Option.some.inj ey6
    refine a_stF (css' := y6.map c54) ?_ (flat_map (fun _ => rfl)) (G54 (l := y5) (i := x5) hc4 (by rw [← ey5]; simpa using hc1)) T2 (hcss := by rw [← ey6]; exact set_map rfl)
    refine RA.nil nofun ?_
    refine AG.seq ?_
    refine AG.region HM ?_
    refine a_move (v := vI _) ?_
    refine a_int (u := .int .i64 (wrap64 ((wrap64 (x1 + 1)) + 1))) ?_
    refine a_move (v := vI _) ?_
    refine RA.nil nofun ?_
    refine AG.seq ?_
    refine AG.region HM ?_
    refine a_move (v := .c (.own _ _)) ?_
    refine a_move (v := vI _) ?_
    refine a_move (v := vI _) ?_
    refine a_ixO ?_ ⟨hc4, hc1⟩ T59 Try.underlying41
    refine a_faE (q := 2) ?_ D59_2
    refine a_stF (css' := (y6.set (x5 : Int).toNat (⟨(rd54 y6 x5).f0, (rd54 y6 x5).f1, wrap64 ((wrap64 (x1 + 1)) + 1)⟩ : S54)).map c54) ?_ (flat_map (fun _ => rfl)) (G54 (l := y6) (i := x5) hc4 (by rw [← ey6]; rw [← ey5]; simpa using hc1)) T2 (hcss := by exact set_map rfl)
    refine RA.nil nofun ?_
    refine AG.region HM ?_
    refine a_move (v := vI _) ?_
    refine a_int (u := .int .i64 (wrap64 ((wrap64 ((wrap64 (x1 + 1)) + 1)) + 1))) ?_
    refine a_move (v := vI _) ?_
    refine RA.nil nofun ?_
    refine AG.region HM ?_
    refine a_move (v := vI _) ?_
    refine a_int (u := .int .i64 (wrap64 (x5 + 1))) ?_
    refine a_move (v := vI _) ?_
    refine RA.nil nofun ?_
    exact AGr.canon id (ih0 _ (by omega) _ ⟨by omega, _, _, _, H, rfl⟩) ⟨(ownE rfl (by rw [← ey6]; rw [← ey5]; simp)), rfl, rfl, trivial⟩ ⟨rfl, trivial⟩ rfl
   ·rw [if_neg hc4] at H
    cases H
  ·rw [if_neg hc1] at H
   refine AG.no rfl (decide_eq_false hc1) ?_
   refine AG.exit ?_
   refine AG.seq ?_
   refine AG.region HM ?_
   refine a_move (v := vI _) ?_
   refine a_move (v := vI _) ?_
   refine RA.nil nofun ?_
   refine AG.ret ?_
   simp only [Option.some.injEq, Prod.mk.injEq] at H
   obtain ⟨rfl, rfl⟩ := H
   exact RetP.mk (fun κ => cond (Nat.beq κ 0) 0 (κ)) ⟨rfl, trivial⟩ ⟨rfl, trivial⟩ rfl
/-! ### laws_markInt64S: function 24 -/
def laws_markInt64S.l0 : Nat → List Int → Int → Int → Option (Int × (List Int))
 | 0, _, _, _ => none
 | k + 1, x0, x1, x5 => if x5 < (x0.length : Int) then (if 0 ≤ x5 then (laws_markInt64S.l0 k (x0.set (x5 : Int).toNat x1) (wrap64 (x1 + 1)) (wrap64 (x5 + 1))) else (none)) else (some (x1, x0))
def laws_markInt64S.f (k : Nat) (l0 : List Int) (a1 : Int) : Option (Int × (List Int)) := laws_markInt64S.l0 k l0 a1 0
set_option maxRecDepth 100000 in
theorem laws_markInt64S.ok {k : Nat} {l0 : List Int} {a1 : Int} {r0 : Int} {r1 : List Int} (H : laws_markInt64S.f k l0 a1 = some (r0, r1)) : OkF Try.prog 24 [.c (.own 0 l0.length), vI a1] [(0, .row 2 (l0.map c2))] (.c (.d (.v (.int .i64 r0)))) [(0, .row 2 (r1.map c2))] := by
 unfold laws_markInt64S.f at H
 refine OkF.of (N := 19) (rs := [4]) (avs := [.c (.d (.v (.int .i64 r0)))]) Try.func24 rfl rfl (fun _ _ => results_tmp rfl _ _ _) (by decide) rfl rfl rfl rfl (fun w0 S => ?_)
 refine AG.seq ?_
 refine AG.region HM ?_
 refine a_move (v := vI _) ?_
 refine RA.nil nofun ?_
 refine AG.seq ?_
 refine AG.seq ?_
 refine AG.region HM ?_
 refine a_move (v := vI _) ?_
 refine RA.nil nofun ?_
 refine AG.block ?_
 refine AG.loop ?_
 obtain ⟨K0, hK0, gK0⟩ : ∃ K, k ≤ K ∧ K ≤ k := ⟨k, Nat.le_refl k, Nat.le_refl k⟩
 refine AGr.canon id (AGr.loopI (n := k) (fun k s => k ≤ K0 ∧ ∃ (x0 : List Int) (x1 : Int) (x5 : Int), laws_markInt64S.l0 k x0 x1 x5 = some (r0, r1) ∧ s = St.of [(0, .c (.own 0 x0.length)), (1, vI x1), (5, vI x5)] [(0, .row 2 (x0.map c2))]) ⟨hK0, _, _, _, H, rfl⟩ ?_ ?_) ⟨rfl, rfl, rfl, trivial⟩ ⟨rfl, trivial⟩ rfl
 ·rintro _ ⟨_, _, _, _, H, _⟩
  cases H
 ·clear H hK0
  rintro k ih0 _ ⟨hK0, x0, x1, x5, H, rfl⟩
  unfold laws_markInt64S.l0 at H
  refine AG.seq ?_
  refine AG.seq ?_
  refine AG.region HM ?_
  refine a_move (v := vI _) ?_
  refine a_move (v := .c (.own _ _)) ?_
  refine a_lenO ?_ Try.underlying36
  refine a_int (u := .bool (decide (x5 < (x0.length : Int)))) ?_
  refine RA.nil nofun ?_
  by_cases hc1 : x5 < (x0.length : Int)
  ·rw [if_pos hc1] at H
   refine AG.yes rfl (decide_eq_true hc1) ?_
   refine AG.skip ?_
   refine AG.seq ?_
   refine AG.block ?_
   refine AG.seq ?_
   refine AG.region HM ?_
   refine a_move (v := .c (.own _ _)) ?_
   refine a_move (v := vI _) ?_
   refine a_move (v := vI _) ?_
   by_cases hc2 : 0 ≤ x5
   ·rw [if_pos hc2] at H
    refine a_ixO ?_ ⟨hc2, hc1⟩ T2 Try.underlying36
    refine a_stF (css' := (x0.set (x5 : Int).toNat x1).map c2) ?_ (flat_map (fun _ => rfl)) (G2 hc2 hc1) T2 (hcss := by exact set_map rfl)
    refine RA.nil nofun ?_
    refine AG.region HM ?_
    refine a_move (v := vI _) ?_
    refine a_int (u := .int .i64 (wrap64 (x1 + 1))) ?_
    refine a_move (v := vI _) ?_
    refine RA.nil nofun ?_
    refine AG.region HM ?_
    refine a_move (v := vI _) ?_
    refine a_int (u := .int .i64 (wrap64 (x5 + 1))) ?_
    refine a_move (v := vI _) ?_
    refine RA.nil nofun ?_
    exact AGr.canon id (ih0 _ (by omega) _ ⟨by omega, _, _, _, H, rfl⟩) ⟨(ownE rfl (by simp)), rfl, rfl, trivial⟩ ⟨rfl, trivial⟩ rfl
   ·rw [if_neg hc2] at H
    cases H
  ·rw [if_neg hc1] at H
   refine AG.no rfl (decide_eq_false hc1) ?_
   refine AG.exit ?_
   refine AG.seq ?_
   refine AG.region HM ?_
   refine a_move (v := vI _) ?_
   refine a_move (v := vI _) ?_
   refine RA.nil nofun ?_
   refine AG.ret ?_
   simp only [Option.some.injEq, Prod.mk.injEq] at H
   obtain ⟨rfl, rfl⟩ := H
   exact RetP.mk (fun κ => cond (Nat.beq κ 0) 0 (κ)) ⟨rfl, trivial⟩ ⟨rfl, trivial⟩ rfl
/-! ### laws_heldInt64S: function 25 -/
def laws_heldInt64S.l0 : Nat → List Int → Int → Int → Option (Int)
 | 0, _, _, _ => none
 | k + 1, x0, x1, x5 => if x5 < (x0.length : Int) then (if 0 ≤ x5 then (if (rd2 x0 x5) = x1 then (laws_heldInt64S.l0 k x0 (wrap64 (x1 + 1)) (wrap64 (x5 + 1))) else (some (-1))) else (none)) else (some x1)
def laws_heldInt64S.f (k : Nat) (l0 : List Int) (a1 : Int) : Option (Int) := laws_heldInt64S.l0 k l0 a1 0
set_option maxRecDepth 100000 in
theorem laws_heldInt64S.ok {k : Nat} {l0 : List Int} {a1 : Int} {r : Int} (H : laws_heldInt64S.f k l0 a1 = some r) : OkF Try.prog 25 [vR 2 (l0.map c2), vI a1] [] (.c (.d (.v (.int .i64 r)))) [] := by
 unfold laws_heldInt64S.f at H
 refine OkF.of (N := 21) (rs := [4]) (avs := [.c (.d (.v (.int .i64 r)))]) Try.func25 rfl rfl (fun _ _ => results_tmp rfl _ _ _) (by decide) rfl rfl rfl rfl (fun w0 S => ?_)
 refine AG.seq ?_
 refine AG.region HM ?_
 refine a_move (v := vI _) ?_
 refine RA.nil nofun ?_
 refine AG.seq ?_
 refine AG.seq ?_
 refine AG.region HM ?_
 refine a_move (v := vI _) ?_
 refine RA.nil nofun ?_
 refine AG.block ?_
 refine AG.loop ?_
 obtain ⟨K0, hK0, gK0⟩ : ∃ K, k ≤ K ∧ K ≤ k := ⟨k, Nat.le_refl k, Nat.le_refl k⟩
 refine AGr.canon id (AGr.loopI (n := k) (fun k s => k ≤ K0 ∧ ∃ (x0 : List Int) (x1 : Int) (x5 : Int), laws_heldInt64S.l0 k x0 x1 x5 = some r ∧ s = St.of [(0, vR 2 (x0.map c2)), (1, vI x1), (5, vI x5)] []) ⟨hK0, _, _, _, H, rfl⟩ ?_ ?_) ⟨rfl, rfl, rfl, trivial⟩ trivial rfl
 ·rintro _ ⟨_, _, _, _, H, _⟩
  cases H
 ·clear H hK0
  rintro k ih0 _ ⟨hK0, x0, x1, x5, H, rfl⟩
  unfold laws_heldInt64S.l0 at H
  refine AG.seq ?_
  refine AG.seq ?_
  refine AG.region HM ?_
  refine a_move (v := vI _) ?_
  refine a_move (v := vR _ _) ?_
  refine a_lenR ?_ Try.underlying36
  refine a_int (u := .bool (decide (x5 < (x0.length : Int)))) ?_
  refine RA.nil nofun ?_
  by_cases hc1 : x5 < (x0.length : Int)
  ·rw [if_pos hc1] at H
   refine AG.yes rfl (decide_eq_true hc1) ?_
   refine AG.skip ?_
   refine AG.seq ?_
   refine AG.block ?_
   refine AG.seq ?_
   refine AG.seq ?_
   refine AG.region HM ?_
   refine a_move (v := vR _ _) ?_
   refine a_move (v := vI _) ?_
   by_cases hc2 : 0 ≤ x5
   ·rw [if_pos hc2] at H
    refine a_ixR (el := c2 (rd2 x0 x5)) ?_ ⟨hc2, hc1⟩ T2 Try.underlying36 (hel := R2 hc2 hc1)
    refine a_ldR (v := vI _) ?_ T2
    refine a_move (v := vI _) ?_
    refine a_int (u := .bool (((rd2 x0 x5) != x1))) ?_
    refine RA.nil nofun ?_
    by_cases hc3 : (rd2 x0 x5) = x1
    ·rw [if_pos hc3] at H
     refine AG.no rfl (bne_eq_false_iff_eq.2 hc3) ?_
     refine AG.skip ?_
     refine AG.region HM ?_
     refine a_move (v := vI _) ?_
     refine a_int (u := .int .i64 (wrap64 (x1 + 1))) ?_
     refine a_move (v := vI _) ?_
     refine RA.nil nofun ?_
     refine AG.region HM ?_
     refine a_move (v := vI _) ?_
     refine a_int (u := .int .i64 (wrap64 (x5 + 1))) ?_
     refine a_move (v := vI _) ?_
     refine RA.nil nofun ?_
     exact AGr.canon id (ih0 _ (by omega) _ ⟨by omega, _, _, _, H, rfl⟩) ⟨rfl, rfl, rfl, trivial⟩ trivial rfl
    ·rw [if_neg hc3] at H
     refine AG.yes rfl (bne_iff_ne.2 hc3) ?_
     refine AG.seq ?_
     refine AG.region HM ?_
     refine a_move (v := vI _) ?_
     refine RA.nil nofun ?_
     refine AG.ret ?_
     obtain rfl := Option.some.inj H
     exact RetP.mk id ⟨rfl, trivial⟩ trivial rfl
   ·rw [if_neg hc2] at H
    cases H
  ·rw [if_neg hc1] at H
   refine AG.no rfl (decide_eq_false hc1) ?_
   refine AG.exit ?_
   refine AG.seq ?_
   refine AG.region HM ?_
   refine a_move (v := vI _) ?_
   refine a_move (v := vI _) ?_
   refine RA.nil nofun ?_
   refine AG.ret ?_
   obtain rfl := Option.some.inj H
   exact RetP.mk id ⟨rfl, trivial⟩ trivial rfl
/-! ### laws_FnExactDecreasingBlades: function 5 -/
mutual
def laws_FnExactDecreasingBlades.j0 : Nat → List S54 → ByteArray → Int → Int → Int → List Int → Int → Int → List S54 → List Int → Int → Int → Bool → Option (Bool)
 | 0, _, _, _, _, _, _, _, _, _, _, _, _, _ => none
 | k + 1, x1, y210_0, y210_1, y210_2, y210_3, x6, x7, x8, x9, x10, x11, x12, x61 => if x61 = true then (some false) else ((laws_toCuttingS.f k x1).bind fun t34 => ((laws_eqCuttingS.f k x9 t34).bind fun t36 => (if t36 = true then ((laws_markCuttingS.f k x9 1).bind fun bt39 => (if bt39.1 < 0 then (laws_FnExactDecreasingBlades.j1 k x1 y210_0 y210_1 y210_2 y210_3 x6 x7 x8 x10 true) else ((laws_eqInt64S.f k x10 x6).bind fun t43 => (if t43 = true then (if x11 = x7 then (laws_FnExactDecreasingBlades.j1 k x1 y210_0 y210_1 y210_2 y210_3 x6 x7 x8 x10 (x12 != x8)) else (laws_FnExactDecreasingBlades.j1 k x1 y210_0 y210_1 y210_2 y210_3 x6 x7 x8 x10 true)) else (laws_FnExactDecreasingBlades.j1 k x1 y210_0 y210_1 y210_2 y210_3 x6 x7 x8 x10 true))))) else (some false))))
def laws_FnExactDecreasingBlades.j1 : Nat → List S54 → ByteArray → Int → Int → Int → List Int → Int → Int → List Int → Bool → Option (Bool)
 | 0, _, _, _, _, _, _, _, _, _, _ => none
 | k + 1, x1, y218_0, y218_1, y218_2, y218_3, x6, x7, x8, x10, x87 => if x87 = true then (some false) else ((laws_markInt64S.f k x10 1).bind fun bt48 => ((laws_heldInt64S.f k bt48.2 1).bind fun t51 => (if t51 < 0 then (some false) else (if t51 = bt48.1 then ((laws_toBlade.f y218_0 y218_1 y218_2 y218_3).bind fun bt55 => ((laws_toCuttingS.f k x1).bind fun t60 => ((impl_DecreasingBlades.f k bt55.1 bt55.2.1 bt55.2.2.1 bt55.2.2.2 t60).bind fun bt62 => ((laws_eqInt64S.f k bt62.1 x6).bind fun t66 => (if t66 = true then (if bt62.2.1 = x7 then (laws_FnExactDecreasingBlades.j2 k bt48.2 bt48.1 (bt62.2.2 != x8)) else (laws_FnExactDecreasingBlades.j2 k bt48.2 bt48.1 true)) else (laws_FnExactDecreasingBlades.j2 k bt48.2 bt48.1 true)))))) else (some false)))))
def laws_FnExactDecreasingBlades.j2 : Nat → List Int → Int → Bool → Option (Bool)
 | 0, _, _, _ => none
 | k + 1, x10, x14, x121 => if x121 = true then (some false) else ((laws_heldInt64S.f k x10 1).bind fun t71 => (if t71 < 0 then (some false) else (if t71 = x14 then (some true) else (some false))))
end
def laws_FnExactDecreasingBlades.f (k : Nat) (a0_0 : ByteArray) (a0_1 : Int) (a0_2 : Int) (a0_3 : Int) (l1 : List S54) : Option (Bool) := (laws_szBlade.f a0_0 a0_1 a0_2 a0_3 1048576).bind fun t1 => (if t1 < 0 then (some true) else ((laws_szCuttingS.f k l1 t1).bind fun t4 => (if t4 < 0 then (some true) else ((laws_toBlade.f a0_0 a0_1 a0_2 a0_3).bind fun bt7 => ((laws_toCuttingS.f k l1).bind fun t12 => ((spec_DecreasingBlades.f k bt7.1 bt7.2.1 bt7.2.2.1 bt7.2.2.2 t12).bind fun bt14 => ((laws_toCuttingS.f k l1).bind fun t18 => ((laws_toBlade.f a0_0 a0_1 a0_2 a0_3).bind fun bt20 => ((impl_DecreasingBlades.f k bt20.1 bt20.2.1 bt20.2.2.1 bt20.2.2.2 t18).bind fun bt25 => ((laws_eqInt64S.f k bt25.1 bt14.1).bind fun t29 => (if t29 = true then (if bt25.2.1 = bt14.2.1 then (laws_FnExactDecreasingBlades.j0 k l1 a0_0 a0_1 a0_2 a0_3 bt14.1 bt14.2.1 bt14.2.2 t18 bt25.1 bt25.2.1 bt25.2.2 (bt25.2.2 != bt14.2.2)) else (laws_FnExactDecreasingBlades.j0 k l1 a0_0 a0_1 a0_2 a0_3 bt14.1 bt14.2.1 bt14.2.2 t18 bt25.1 bt25.2.1 bt25.2.2 true)) else (laws_FnExactDecreasingBlades.j0 k l1 a0_0 a0_1 a0_2 a0_3 bt14.1 bt14.2.1 bt14.2.2 t18 bt25.1 bt25.2.1 bt25.2.2 true))))))))))))
set_option maxRecDepth 100000 in
theorem laws_FnExactDecreasingBlades.ok {k : Nat} {a0_0 : ByteArray} {a0_1 : Int} {a0_2 : Int} {a0_3 : Int} {l1 : List S54} {r : Bool} (H : laws_FnExactDecreasingBlades.f k a0_0 a0_1 a0_2 a0_3 l1 = some r) : OkF Try.prog 5 [.agg [.d (.v (.string a0_0)), .d (.v (.int .i64 a0_1)), .d (.v (.int .i64 a0_2)), .d (.v (.int .i64 a0_3))], vR 55 (l1.map c54)] [] (.c (.d (.v (.bool r)))) [] := by
 unfold laws_FnExactDecreasingBlades.f at H
 refine OkF.of (N := 130) (rs := [4]) (avs := [.c (.d (.v (.bool r)))]) Try.func5 rfl rfl (fun _ _ => results_tmp rfl _ _ _) (by decide) rfl rfl rfl rfl (fun w0 S => ?_)
 refine AG.seq ?_
 refine AG.region HM ?_
 refine a_box 200 ?_
 refine a_move (v := vB _) ?_
 refine RA.nil nofun ?_
 refine AG.seq ?_
 refine AG.region HM ?_
 refine a_move (v := vI _) ?_
 refine RA.nil nofun ?_
 refine AG.seq ?_
 refine AG.region HM ?_
 refine a_ldB (v := .agg [_, _, _, _]) ?_ T32
 refine a_move (v := vI _) ?_
 obtain ⟨t1, e2, H⟩ := bindO H
 refine a_call (v := vI t1) (nk := []) (L := []) ?_ rfl (laws_szBlade.ok e2) id (qg (qd qn)) trivial trivial trivial rfl
 refine a_move (v := vI _) ?_
 refine RA.nil nofun ?_
 refine AG.seq ?_
 refine AG.seq ?_
 refine AG.region HM ?_
 refine a_move (v := vI _) ?_
 refine a_int (u := .bool (decide (t1 < 0))) ?_
 refine RA.nil nofun ?_
 by_cases hc3 : t1 < 0
 ·rw [if_pos hc3] at H
  refine AG.yes rfl (decide_eq_true hc3) ?_
  refine AG.seq ?_
  refine AG.region HM ?_
  refine a_move (v := vB _) ?_
  refine RA.nil nofun ?_
  refine AG.ret ?_
  obtain rfl := Option.some.inj H
  exact RetP.mk id ⟨rfl, trivial⟩ trivial rfl
 ·rw [if_neg hc3] at H
  refine AG.no rfl (decide_eq_false hc3) ?_
  refine AG.skip ?_
  refine AG.seq ?_
  refine AG.region HM ?_
  refine a_move (v := vR _ _) ?_
  refine a_move (v := vI _) ?_
  obtain ⟨t4, e5, H⟩ := bindO H
  refine a_call (v := vI t4) (nk := []) (L := []) ?_ rfl (laws_szCuttingS.ok e5) id (qd (qd qn)) trivial trivial trivial rfl
  refine a_move (v := vI _) ?_
  refine RA.nil nofun ?_
  refine AG.seq ?_
  refine AG.seq ?_
  refine AG.region HM ?_
  refine a_move (v := vI _) ?_
  refine a_int (u := .bool (decide (t4 < 0))) ?_
  refine RA.nil nofun ?_
  by_cases hc6 : t4 < 0
  ·rw [if_pos hc6] at H
   refine AG.yes rfl (decide_eq_true hc6) ?_
   refine AG.seq ?_
   refine AG.region HM ?_
   refine a_move (v := vB _) ?_
   refine RA.nil nofun ?_
   refine AG.ret ?_
   obtain rfl := Option.some.inj H
   exact RetP.mk id ⟨rfl, trivial⟩ trivial rfl
  ·rw [if_neg hc6] at H
   refine AG.no rfl (decide_eq_false hc6) ?_
   refine AG.skip ?_
   refine AG.seq ?_
   refine AG.region HM ?_
   refine a_ldB (v := .agg [_, _, _, _]) ?_ T32
   obtain ⟨⟨t7, t8, t9, t10⟩, e11, H⟩ := bindO H
   refine a_call (v := .agg [.d (.v (.string t7)), .d (.v (.int .i64 t8)), .d (.v (.int .i64 t9)), .d (.v (.int .i64 t10))]) (nk := []) (L := []) ?_ rfl (laws_toBlade.ok e11) id (qg qn) trivial trivial trivial rfl
   refine a_move (v := vR _ _) ?_
   obtain ⟨t12, e13, H⟩ := bindO H
   refine a_call (v := .c (.own 204 t12.length)) (nk := [(204, .row 59 (t12.map c54))]) (L := []) ?_ rfl (laws_toCuttingS.ok e13) (fun κ => cond (Nat.beq κ 204) 100 (κ)) (qd qn) trivial ⟨rfl, trivial⟩ ⟨rfl, trivial⟩ rfl
   obtain ⟨⟨t14, t15, t16⟩, e17, H⟩ := bindO H
   refine a_call (v := .tup [.c (.own 205 t14.length), .c (.d (.v (.int .i64 t15))), .c (.d (.v (.int .i64 t16)))]) (nk := [(205, .row 2 (t14.map c2))]) (L := [(204, _)]) ?_ rfl (spec_DecreasingBlades.ok e17) (fun κ => cond (Nat.beq κ 205) 100 (κ)) (qg (qc rO qn)) ⟨rfl, trivial⟩ ⟨rfl, trivial⟩ ⟨rfl, trivial⟩ rfl
   refine a_move (v := .tup [_, _, _]) ?_
   refine a_ext (v := .c (.own _ _)) ?_
   refine a_ext (v := vI _) ?_
   refine a_ext (v := vI _) ?_
   refine a_move (v := .c (.own _ _)) ?_
   refine a_move (v := vI _) ?_
   refine a_move (v := vI _) ?_
   refine RA.nil nofun ?_
   refine AG.seq ?_
   refine AG.region HM ?_
   refine a_move (v := vR _ _) ?_
   obtain ⟨t18, e19, H⟩ := bindO H
   refine a_call (v := .c (.own 206 t18.length)) (nk := [(206, .row 59 (t18.map c54))]) (L := []) ?_ rfl (laws_toCuttingS.ok e19) (fun κ => cond (Nat.beq κ 206) 100 (κ)) (qd qn) trivial ⟨rfl, trivial⟩ ⟨rfl, trivial⟩ rfl
   refine a_move (v := .c (.own _ _)) ?_
   refine RA.nil nofun ?_
   refine AG.seq ?_
   refine AG.region HM ?_
   refine a_ldB (v := .agg [_, _, _, _]) ?_ T32
   obtain ⟨⟨t20, t21, t22, t23⟩, e24, H⟩ := bindO H
   refine a_call (v := .agg [.d (.v (.string t20)), .d (.v (.int .i64 t21)), .d (.v (.int .i64 t22)), .d (.v (.int .i64 t23))]) (nk := []) (L := []) ?_ rfl (laws_toBlade.ok e24) id (qg qn) trivial trivial trivial rfl
   refine a_move (v := .c (.own _ _)) ?_
   obtain ⟨⟨t25, t26, t27⟩, e28, H⟩ := bindO H
   refine a_call (v := .tup [.c (.own 208 t25.length), .c (.d (.v (.int .i64 t26))), .c (.d (.v (.int .i64 t27)))]) (nk := [(208, .row 2 (t25.map c2))]) (L := [(206, _)]) ?_ rfl (impl_DecreasingBlades.ok e28) (fun κ => cond (Nat.beq κ 208) 100 (κ)) (qg (qc rO qn)) ⟨rfl, trivial⟩ ⟨rfl, trivial⟩ ⟨rfl, trivial⟩ rfl
   refine a_move (v := .tup [_, _, _]) ?_
   refine a_ext (v := .c (.own _ _)) ?_
   refine a_ext (v := vI _) ?_
   refine a_ext (v := vI _) ?_
   refine a_move (v := .c (.own _ _)) ?_
   refine a_move (v := vI _) ?_
   refine a_move (v := vI _) ?_
   refine RA.nil nofun ?_
   refine AG.seq ?_
   refine AG.seq ?_
   refine AG.joinR (fun s => ∃ q, q ≤ k ∧ ∃ (x1 : List S54) (y210_0 : ByteArray) (y210_1 : Int) (y210_2 : Int) (y210_3 : Int) (x6 : List Int) (x7 : Int) (x8 : Int) (x9 : List S54) (x10 : List Int) (x11 : Int) (x12 : Int) (x61 : Bool), laws_FnExactDecreasingBlades.j0 q x1 y210_0 y210_1 y210_2 y210_3 x6 x7 x8 x9 x10 x11 x12 x61 = some r ∧ s = St.of [(1, vR 55 (x1.map c54)), (2, .c (.ptr 210 0)), (6, .c (.own 211 x6.length)), (7, vI x7), (8, vI x8), (9, .c (.own 212 x9.length)), (10, .c (.own 213 x10.length)), (11, vI x11), (12, vI x12), (61, vB x61)] [(210, .box 32 [.d (.v (.string y210_0)), .d (.v (.int .i64 y210_1)), .d (.v (.int .i64 y210_2)), .d (.v (.int .i64 y210_3))]), (211, .row 2 (x6.map c2)), (212, .row 59 (x9.map c54)), (213, .row 2 (x10.map c2))]) ?_ ?_
   ·skip
    refine AG.region HM ?_
    refine a_move (v := .c (.own _ _)) ?_
    refine a_move (v := .c (.own _ _)) ?_
    obtain ⟨t29, e30, H⟩ := bindO H
    refine a_call (v := vB t29) (nk := []) (L := [(208, _), (205, _)]) ?_ rfl (laws_eqInt64S.ok e30) id (qc rO (qc rO qn)) ⟨rfl, rfl, trivial⟩ trivial trivial rfl
    refine a_un (u := .bool (!t29)) ?_
    refine a_move (v := vB _) ?_
    by_cases hc31 : t29 = true
    ·rw [if_pos hc31] at H
     refine a_move (v := vI _) ?_ (hg := Gs.yes rfl rfl rfl (congrArg Bool.not hc31))
     refine a_move (v := vI _) ?_ (hg := Gs.yes rfl rfl rfl (congrArg Bool.not hc31))
     refine a_int (u := .bool ((t26 != t15))) ?_ (hg := Gs.yes rfl rfl rfl (congrArg Bool.not hc31))
     refine a_pick (b := false) (v := vB _) ?_ (congrArg Bool.not hc31)
     refine a_move (v := vB _) ?_
     by_cases hc32 : t26 = t15
     ·rw [if_pos hc32] at H
      refine a_move (v := vI _) ?_ (hg := Gs.yes rfl rfl rfl (bne_eq_false_iff_eq.2 hc32))
      refine a_move (v := vI _) ?_ (hg := Gs.yes rfl rfl rfl (bne_eq_false_iff_eq.2 hc32))
      refine a_int (u := .bool ((t27 != t16))) ?_ (hg := Gs.yes rfl rfl rfl (bne_eq_false_iff_eq.2 hc32))
      refine a_pick (b := false) (v := vB _) ?_ (bne_eq_false_iff_eq.2 hc32)
      refine RA.nil nofun ?_
      exact CanR.mk (fun κ => cond (Nat.beq κ 210) 200 (cond (Nat.beq κ 211) 205 (cond (Nat.beq κ 212) 206 (cond (Nat.beq κ 213) 208 (κ))))) ⟨_, (by omega), _, _, _, _, _, _, _, _, _, _, _, _, _, H, rfl⟩ ⟨rfl, rfl, rfl, rfl, rfl, rfl, rfl, rfl, rfl, rfl, trivial⟩ ⟨rfl, rfl, rfl, rfl, trivial⟩ rfl
     ·rw [if_neg hc32] at H
      refine RA.skip rfl rfl rfl rfl rfl (bne_iff_ne.2 hc32) (by decide) ?_
      refine RA.skip rfl rfl rfl rfl rfl (bne_iff_ne.2 hc32) (by decide) ?_
      refine RA.skip rfl rfl rfl rfl rfl (bne_iff_ne.2 hc32) (by decide) ?_
      refine a_pick (b := true) (v := vB _) ?_ (bne_iff_ne.2 hc32)
      refine RA.nil nofun ?_
      exact CanR.mk (fun κ => cond (Nat.beq κ 210) 200 (cond (Nat.beq κ 211) 205 (cond (Nat.beq κ 212) 206 (cond (Nat.beq κ 213) 208 (κ))))) ⟨_, (by omega), _, _, _, _, _, _, _, _, _, _, _, _, _, H, rfl⟩ ⟨rfl, rfl, rfl, rfl, rfl, rfl, rfl, rfl, rfl, rfl, trivial⟩ ⟨rfl, rfl, rfl, rfl, trivial⟩ rfl
    ·rw [if_neg hc31] at H
     refine RA.skip rfl rfl rfl rfl rfl (congrArg Bool.not (Bool.eq_false_iff.2 hc31)) (by decide) ?_
     refine RA.skip rfl rfl rfl rfl rfl (congrArg Bool.not (Bool.eq_false_iff.2 hc31)) (by decide) ?_
     refine RA.skip rfl rfl rfl rfl rfl (congrArg Bool.not (Bool.eq_false_iff.2 hc31)) (by decide) ?_
     refine a_pick (b := true) (v := vB _) ?_ (congrArg Bool.not (Bool.eq_false_iff.2 hc31))
     refine a_move (v := vB _) ?_
     refine RA.skip rfl rfl rfl rfl rfl rfl (by decide) ?_
     refine RA.skip rfl rfl rfl rfl rfl rfl (by decide) ?_
     refine RA.skip rfl rfl rfl rfl rfl rfl (by decide) ?_
     refine a_pick (b := true) (v := vB _) ?_ rfl
     refine RA.nil nofun ?_
     exact CanR.mk (fun κ => cond (Nat.beq κ 210) 200 (cond (Nat.beq κ 211) 205 (cond (Nat.beq κ 212) 206 (cond (Nat.beq κ 213) 208 (κ))))) ⟨_, (by omega), _, _, _, _, _, _, _, _, _, _, _, _, _, H, rfl⟩ ⟨rfl, rfl, rfl, rfl, rfl, rfl, rfl, rfl, rfl, rfl, trivial⟩ ⟨rfl, rfl, rfl, rfl, trivial⟩ rfl
   ·clear H
    rintro _ ⟨k, hj0, x1, y210_0, y210_1, y210_2, y210_3, x6, x7, x8, x9, x10, x11, x12, x61, H, rfl⟩
    cases k with
    | zero => cases H
    | succ k =>
     rw [laws_FnExactDecreasingBlades.j0] at H
     by_cases hc33 : x61 = true
     ·rw [if_pos hc33] at H
      refine AG.yes rfl hc33 ?_
      refine AG.seq ?_
      refine AG.region HM ?_
      refine a_move (v := vB _) ?_
      refine RA.nil nofun ?_
      refine AG.ret ?_
      obtain rfl := Option.some.inj H
      exact RetP.mk id ⟨rfl, trivial⟩ trivial rfl
     ·rw [if_neg hc33] at H
      refine AG.no rfl (Bool.eq_false_iff.2 hc33) ?_
      refine AG.skip ?_
      refine AG.seq ?_
      refine AG.seq ?_
      refine AG.region HM ?_
      refine a_move (v := .c (.own _ _)) ?_
      refine a_move (v := vR _ _) ?_
      obtain ⟨t34, e35, H⟩ := bindO H
      refine a_call (v := .c (.own 214 t34.length)) (nk := [(214, .row 59 (t34.map c54))]) (L := []) ?_ rfl (laws_toCuttingS.ok e35) (fun κ => cond (Nat.beq κ 214) 100 (κ)) (qd qn) trivial ⟨rfl, trivial⟩ ⟨rfl, trivial⟩ rfl
      obtain ⟨t36, e37, H⟩ := bindO H
      refine a_call (v := vB t36) (nk := []) (L := [(212, _), (214, _)]) ?_ rfl (laws_eqCuttingS.ok e37) id (qc rO (qc rO qn)) ⟨rfl, rfl, trivial⟩ trivial trivial rfl
      refine a_un (u := .bool (!t36)) ?_
      refine RA.nil nofun ?_
      by_cases hc38 : t36 = true
      ·rw [if_pos hc38] at H
       refine AG.no rfl (congrArg Bool.not hc38) ?_
       refine AG.skip ?_
       refine AG.seq ?_
       refine AG.region HM ?_
       refine a_move (v := vI _) ?_
       refine RA.nil nofun ?_
       refine AG.seq ?_
       refine AG.region HM ?_
       refine a_move (v := .c (.own _ _)) ?_
       refine a_move (v := vI _) ?_
       obtain ⟨⟨t39, t40⟩, e41, H⟩ := bindO H
       refine a_callM (v := vI t39) (nk := []) (L := []) (Mk := [(212, _)]) (ck := [(212, .row 59 (t40.map c54))]) ?_ rfl (laws_markCuttingS.ok e41) (fun κ => cond (Nat.beq κ 0) 212 (κ)) (fun κ => cond (Nat.beq κ 212) 0 (κ)) (mcO (mcD m0)) trivial ⟨rfl, trivial⟩ trivial ⟨rfl, trivial⟩ trivial ⟨rfl, trivial⟩ rfl rfl rfl
       refine a_move (v := vI _) ?_
       refine RA.nil nofun ?_
       refine AG.relen 212 t40.length ?_
       refine AG.seq ?_
       refine AG.seq ?_
       refine AG.joinR (fun s => ∃ q, q ≤ k ∧ ∃ (x1 : List S54) (y218_0 : ByteArray) (y218_1 : Int) (y218_2 : Int) (y218_3 : Int) (x6 : List Int) (x7 : Int) (x8 : Int) (x10 : List Int) (x87 : Bool), laws_FnExactDecreasingBlades.j1 q x1 y218_0 y218_1 y218_2 y218_3 x6 x7 x8 x10 x87 = some r ∧ s = St.of [(1, vR 55 (x1.map c54)), (2, .c (.ptr 218 0)), (6, .c (.own 219 x6.length)), (7, vI x7), (8, vI x8), (10, .c (.own 220 x10.length)), (87, vB x87)] [(218, .box 32 [.d (.v (.string y218_0)), .d (.v (.int .i64 y218_1)), .d (.v (.int .i64 y218_2)), .d (.v (.int .i64 y218_3))]), (219, .row 2 (x6.map c2)), (220, .row 2 (x10.map c2))]) ?_ ?_
       ·skip
        refine AG.region HM ?_
        refine a_move (v := vI _) ?_
        refine a_int (u := .bool (decide (t39 < 0))) ?_
        refine a_move (v := vB _) ?_
        by_cases hc42 : t39 < 0
        ·rw [if_pos hc42] at H
         refine RA.skip rfl rfl rfl rfl rfl (decide_eq_true hc42) (by decide) ?_
         refine RA.skip rfl rfl rfl rfl rfl (decide_eq_true hc42) (by decide) ?_
         refine RA.skip rfl rfl rfl rfl rfl (decide_eq_true hc42) (by decide) ?_
         refine RA.skip rfl rfl rfl rfl rfl (decide_eq_true hc42) (by decide) ?_
         refine a_pick (b := true) (v := vB _) ?_ (decide_eq_true hc42)
         refine a_move (v := vB _) ?_
         refine RA.skip rfl rfl rfl rfl rfl rfl (by decide) ?_
         refine RA.skip rfl rfl rfl rfl rfl rfl (by decide) ?_
         refine RA.skip rfl rfl rfl rfl rfl rfl (by decide) ?_
         refine a_pick (b := true) (v := vB _) ?_ rfl
         refine a_move (v := vB _) ?_
         refine RA.skip rfl rfl rfl rfl rfl rfl (by decide) ?_
         refine RA.skip rfl rfl rfl rfl rfl rfl (by decide) ?_
         refine RA.skip rfl rfl rfl rfl rfl rfl (by decide) ?_
         refine a_pick (b := true) (v := vB _) ?_ rfl
         refine RA.nil nofun ?_
         exact CanR.mk (fun κ => cond (Nat.beq κ 218) 210 (cond (Nat.beq κ 219) 211 (cond (Nat.beq κ 220) 213 (κ)))) ⟨_, (by omega), _, _, _, _, _, _, _, _, _, _, H, rfl⟩ ⟨rfl, rfl, rfl, rfl, rfl, rfl, rfl, trivial⟩ ⟨rfl, rfl, rfl, trivial⟩ rfl
        ·rw [if_neg hc42] at H
         refine a_move (v := .c (.own _ _)) ?_ (hg := Gs.yes rfl rfl rfl (decide_eq_false hc42))
         refine a_move (v := .c (.own _ _)) ?_ (hg := Gs.yes rfl rfl rfl (decide_eq_false hc42))
         obtain ⟨t43, e44, H⟩ := bindO H
         refine a_call (v := vB t43) (nk := []) (L := [(213, _), (211, _)]) ?_ rfl (laws_eqInt64S.ok e44) id (qc rO (qc rO qn)) ⟨rfl, rfl, trivial⟩ trivial trivial rfl (hg := Gs.yes rfl rfl rfl (decide_eq_false hc42))
         refine a_un (u := .bool (!t43)) ?_ (hg := Gs.yes rfl rfl rfl (decide_eq_false hc42))
         refine a_pick (b := false) (v := vB _) ?_ (decide_eq_false hc42)
         refine a_move (v := vB _) ?_
         by_cases hc45 : t43 = true
         ·rw [if_pos hc45] at H
          refine a_move (v := vI _) ?_ (hg := Gs.yes rfl rfl rfl (congrArg Bool.not hc45))
          refine a_move (v := vI _) ?_ (hg := Gs.yes rfl rfl rfl (congrArg Bool.not hc45))
          refine a_int (u := .bool ((x11 != x7))) ?_ (hg := Gs.yes rfl rfl rfl (congrArg Bool.not hc45))
          refine a_pick (b := false) (v := vB _) ?_ (congrArg Bool.not hc45)
          refine a_move (v := vB _) ?_
          by_cases hc46 : x11 = x7
          ·rw [if_pos hc46] at H
           refine a_move (v := vI _) ?_ (hg := Gs.yes rfl rfl rfl (bne_eq_false_iff_eq.2 hc46))
           refine a_move (v := vI _) ?_ (hg := Gs.yes rfl rfl rfl (bne_eq_false_iff_eq.2 hc46))
           refine a_int (u := .bool ((x12 != x8))) ?_ (hg := Gs.yes rfl rfl rfl (bne_eq_false_iff_eq.2 hc46))
           refine a_pick (b := false) (v := vB _) ?_ (bne_eq_false_iff_eq.2 hc46)
           refine RA.nil nofun ?_
           exact CanR.mk (fun κ => cond (Nat.beq κ 218) 210 (cond (Nat.beq κ 219) 211 (cond (Nat.beq κ 220) 213 (κ)))) ⟨_, (by omega), _, _, _, _, _, _, _, _, _, _, H, rfl⟩ ⟨rfl, rfl, rfl, rfl, rfl, rfl, rfl, trivial⟩ ⟨rfl, rfl, rfl, trivial⟩ rfl
          ·rw [if_neg hc46] at H
           refine RA.skip rfl rfl rfl rfl rfl (bne_iff_ne.2 hc46) (by decide) ?_
           refine RA.skip rfl rfl rfl rfl rfl (bne_iff_ne.2 hc46) (by decide) ?_
           refine RA.skip rfl rfl rfl rfl rfl (bne_iff_ne.2 hc46) (by decide) ?_
           refine a_pick (b := true) (v := vB _) ?_ (bne_iff_ne.2 hc46)
           refine RA.nil nofun ?_
           exact CanR.mk (fun κ => cond (Nat.beq κ 218) 210 (cond (Nat.beq κ 219) 211 (cond (Nat.beq κ 220) 213 (κ)))) ⟨_, (by omega), _, _, _, _, _, _, _, _, _, _, H, rfl⟩ ⟨rfl, rfl, rfl, rfl, rfl, rfl, rfl, trivial⟩ ⟨rfl, rfl, rfl, trivial⟩ rfl
         ·rw [if_neg hc45] at H
          refine RA.skip rfl rfl rfl rfl rfl (congrArg Bool.not (Bool.eq_false_iff.2 hc45)) (by decide) ?_
          refine RA.skip rfl rfl rfl rfl rfl (congrArg Bool.not (Bool.eq_false_iff.2 hc45)) (by decide) ?_
          refine RA.skip rfl rfl rfl rfl rfl (congrArg Bool.not (Bool.eq_false_iff.2 hc45)) (by decide) ?_
          refine a_pick (b := true) (v := vB _) ?_ (congrArg Bool.not (Bool.eq_false_iff.2 hc45))
          refine a_move (v := vB _) ?_
          refine RA.skip rfl rfl rfl rfl rfl rfl (by decide) ?_
          refine RA.skip rfl rfl rfl rfl rfl rfl (by decide) ?_
          refine RA.skip rfl rfl rfl rfl rfl rfl (by decide) ?_
          refine a_pick (b := true) (v := vB _) ?_ rfl
          refine RA.nil nofun ?_
          exact CanR.mk (fun κ => cond (Nat.beq κ 218) 210 (cond (Nat.beq κ 219) 211 (cond (Nat.beq κ 220) 213 (κ)))) ⟨_, (by omega), _, _, _, _, _, _, _, _, _, _, H, rfl⟩ ⟨rfl, rfl, rfl, rfl, rfl, rfl, rfl, trivial⟩ ⟨rfl, rfl, rfl, trivial⟩ rfl
       ·clear H
        rintro _ ⟨k, hj1, x1, y218_0, y218_1, y218_2, y218_3, x6, x7, x8, x10, x87, H, rfl⟩
        cases k with
        | zero => cases H
        | succ k =>
         rw [laws_FnExactDecreasingBlades.j1] at H
         by_cases hc47 : x87 = true
         ·rw [if_pos hc47] at H
          refine AG.yes rfl hc47 ?_
          refine AG.seq ?_
          refine AG.region HM ?_
          refine a_move (v := vB _) ?_
          refine RA.nil nofun ?_
          refine AG.ret ?_
          obtain rfl := Option.some.inj H
          exact RetP.mk id ⟨rfl, trivial⟩ trivial rfl
         ·rw [if_neg hc47] at H
          refine AG.no rfl (Bool.eq_false_iff.2 hc47) ?_
          refine AG.skip ?_
          refine AG.seq ?_
          refine AG.region HM ?_
          refine a_move (v := vI _) ?_
          refine RA.nil nofun ?_
          refine AG.seq ?_
          refine AG.region HM ?_
          refine a_move (v := .c (.own _ _)) ?_
          refine a_move (v := vI _) ?_
          obtain ⟨⟨t48, t49⟩, e50, H⟩ := bindO H
          refine a_callM (v := vI t48) (nk := []) (L := []) (Mk := [(220, _)]) (ck := [(220, .row 2 (t49.map c2))]) ?_ rfl (laws_markInt64S.ok e50) (fun κ => cond (Nat.beq κ 0) 220 (κ)) (fun κ => cond (Nat.beq κ 220) 0 (κ)) (mcO (mcD m0)) trivial ⟨rfl, trivial⟩ trivial ⟨rfl, trivial⟩ trivial ⟨rfl, trivial⟩ rfl rfl rfl
          refine a_move (v := vI _) ?_
          refine RA.nil nofun ?_
          refine AG.relen 220 t49.length ?_
          refine AG.seq ?_
          refine AG.region HM ?_
          refine a_move (v := vI _) ?_
          refine RA.nil nofun ?_
          refine AG.seq ?_
          refine AG.region HM ?_
          refine a_move (v := .c (.own _ _)) ?_
          refine a_move (v := vI _) ?_
          obtain ⟨t51, e52, H⟩ := bindO H
          refine a_call (v := vI t51) (nk := []) (L := [(220, _)]) ?_ rfl (laws_heldInt64S.ok e52) id (qc rO (qd qn)) ⟨rfl, trivial⟩ trivial trivial rfl
          refine a_move (v := vI _) ?_
          refine RA.nil nofun ?_
          refine AG.seq ?_
          refine AG.seq ?_
          refine AG.region HM ?_
          refine a_move (v := vI _) ?_
          refine a_int (u := .bool (decide (t51 < 0))) ?_
          refine RA.nil nofun ?_
          by_cases hc53 : t51 < 0
          ·rw [if_pos hc53] at H
           refine AG.yes rfl (decide_eq_true hc53) ?_
           refine AG.seq ?_
           refine AG.region HM ?_
           refine a_move (v := vB _) ?_
           refine RA.nil nofun ?_
           refine AG.ret ?_
           obtain rfl := Option.some.inj H
           exact RetP.mk id ⟨rfl, trivial⟩ trivial rfl
          ·rw [if_neg hc53] at H
           refine AG.no rfl (decide_eq_false hc53) ?_
           refine AG.skip ?_
           refine AG.seq ?_
           refine AG.seq ?_
           refine AG.region HM ?_
           refine a_move (v := vI _) ?_
           refine a_move (v := vI _) ?_
           refine a_int (u := .bool ((t51 != t48))) ?_
           refine RA.nil nofun ?_
           by_cases hc54 : t51 = t48
           ·rw [if_pos hc54] at H
            refine AG.no rfl (bne_eq_false_iff_eq.2 hc54) ?_
            refine AG.skip ?_
            refine AG.seq ?_
            refine AG.region HM ?_
            refine a_ldB (v := .agg [_, _, _, _]) ?_ T32
            obtain ⟨⟨t55, t56, t57, t58⟩, e59, H⟩ := bindO H
            refine a_call (v := .agg [.d (.v (.string t55)), .d (.v (.int .i64 t56)), .d (.v (.int .i64 t57)), .d (.v (.int .i64 t58))]) (nk := []) (L := []) ?_ rfl (laws_toBlade.ok e59) id (qg qn) trivial trivial trivial rfl
            refine a_move (v := vR _ _) ?_
            obtain ⟨t60, e61, H⟩ := bindO H
            refine a_call (v := .c (.own 224 t60.length)) (nk := [(224, .row 59 (t60.map c54))]) (L := []) ?_ rfl (laws_toCuttingS.ok e61) (fun κ => cond (Nat.beq κ 224) 100 (κ)) (qd qn) trivial ⟨rfl, trivial⟩ ⟨rfl, trivial⟩ rfl
            obtain ⟨⟨t62, t63, t64⟩, e65, H⟩ := bindO H
            refine a_call (v := .tup [.c (.own 225 t62.length), .c (.d (.v (.int .i64 t63))), .c (.d (.v (.int .i64 t64)))]) (nk := [(225, .row 2 (t62.map c2))]) (L := [(224, _)]) ?_ rfl (impl_DecreasingBlades.ok e65) (fun κ => cond (Nat.beq κ 225) 100 (κ)) (qg (qc rO qn)) ⟨rfl, trivial⟩ ⟨rfl, trivial⟩ ⟨rfl, trivial⟩ rfl
            refine a_move (v := .tup [_, _, _]) ?_
            refine a_ext (v := .c (.own _ _)) ?_
            refine a_ext (v := vI _) ?_
            refine a_ext (v := vI _) ?_
            refine a_move (v := .c (.own _ _)) ?_
            refine a_move (v := vI _) ?_
            refine a_move (v := vI _) ?_
            refine RA.nil nofun ?_
            refine AG.seq ?_
            refine AG.seq ?_
            refine AG.joinR (fun s => ∃ q, q ≤ k ∧ ∃ (x10 : List Int) (x14 : Int) (x121 : Bool), laws_FnExactDecreasingBlades.j2 q x10 x14 x121 = some r ∧ s = St.of [(10, .c (.own 227 x10.length)), (14, vI x14), (121, vB x121)] [(227, .row 2 (x10.map c2))]) ?_ ?_
            ·skip
             refine AG.region HM ?_
             refine a_move (v := .c (.own _ _)) ?_
             refine a_move (v := .c (.own _ _)) ?_
             obtain ⟨t66, e67, H⟩ := bindO H
             refine a_call (v := vB t66) (nk := []) (L := [(225, _), (219, _)]) ?_ rfl (laws_eqInt64S.ok e67) id (qc rO (qc rO qn)) ⟨rfl, rfl, trivial⟩ trivial trivial rfl
             refine a_un (u := .bool (!t66)) ?_
             refine a_move (v := vB _) ?_
             by_cases hc68 : t66 = true
             ·rw [if_pos hc68] at H
              refine a_move (v := vI _) ?_ (hg := Gs.yes rfl rfl rfl (congrArg Bool.not hc68))
              refine a_move (v := vI _) ?_ (hg := Gs.yes rfl rfl rfl (congrArg Bool.not hc68))
              refine a_int (u := .bool ((t63 != x7))) ?_ (hg := Gs.yes rfl rfl rfl (congrArg Bool.not hc68))
              refine a_pick (b := false) (v := vB _) ?_ (congrArg Bool.not hc68)
              refine a_move (v := vB _) ?_
              by_cases hc69 : t63 = x7
              ·rw [if_pos hc69] at H
               refine a_move (v := vI _) ?_ (hg := Gs.yes rfl rfl rfl (bne_eq_false_iff_eq.2 hc69))
               refine a_move (v := vI _) ?_ (hg := Gs.yes rfl rfl rfl (bne_eq_false_iff_eq.2 hc69))
               refine a_int (u := .bool ((t64 != x8))) ?_ (hg := Gs.yes rfl rfl rfl (bne_eq_false_iff_eq.2 hc69))
               refine a_pick (b := false) (v := vB _) ?_ (bne_eq_false_iff_eq.2 hc69)
               refine RA.nil nofun ?_
               exact CanR.mk (fun κ => cond (Nat.beq κ 227) 220 (κ)) ⟨_, (by omega), _, _, _, H, rfl⟩ ⟨rfl, rfl, rfl, trivial⟩ ⟨rfl, trivial⟩ rfl
              ·rw [if_neg hc69] at H
               refine RA.skip rfl rfl rfl rfl rfl (bne_iff_ne.2 hc69) (by decide) ?_
               refine RA.skip rfl rfl rfl rfl rfl (bne_iff_ne.2 hc69) (by decide) ?_
               refine RA.skip rfl rfl rfl rfl rfl (bne_iff_ne.2 hc69) (by decide) ?_
               refine a_pick (b := true) (v := vB _) ?_ (bne_iff_ne.2 hc69)
               refine RA.nil nofun ?_
               exact CanR.mk (fun κ => cond (Nat.beq κ 227) 220 (κ)) ⟨_, (by omega), _, _, _, H, rfl⟩ ⟨rfl, rfl, rfl, trivial⟩ ⟨rfl, trivial⟩ rfl
             ·rw [if_neg hc68] at H
              refine RA.skip rfl rfl rfl rfl rfl (congrArg Bool.not (Bool.eq_false_iff.2 hc68)) (by decide) ?_
              refine RA.skip rfl rfl rfl rfl rfl (congrArg Bool.not (Bool.eq_false_iff.2 hc68)) (by decide) ?_
              refine RA.skip rfl rfl rfl rfl rfl (congrArg Bool.not (Bool.eq_false_iff.2 hc68)) (by decide) ?_
              refine a_pick (b := true) (v := vB _) ?_ (congrArg Bool.not (Bool.eq_false_iff.2 hc68))
              refine a_move (v := vB _) ?_
              refine RA.skip rfl rfl rfl rfl rfl rfl (by decide) ?_
              refine RA.skip rfl rfl rfl rfl rfl rfl (by decide) ?_
              refine RA.skip rfl rfl rfl rfl rfl rfl (by decide) ?_
              refine a_pick (b := true) (v := vB _) ?_ rfl
              refine RA.nil nofun ?_
              exact CanR.mk (fun κ => cond (Nat.beq κ 227) 220 (κ)) ⟨_, (by omega), _, _, _, H, rfl⟩ ⟨rfl, rfl, rfl, trivial⟩ ⟨rfl, trivial⟩ rfl
            ·clear H
             rintro _ ⟨k, hj2, x10, x14, x121, H, rfl⟩
             cases k with
             | zero => cases H
             | succ k =>
              rw [laws_FnExactDecreasingBlades.j2] at H
              by_cases hc70 : x121 = true
              ·rw [if_pos hc70] at H
               refine AG.yes rfl hc70 ?_
               refine AG.seq ?_
               refine AG.region HM ?_
               refine a_move (v := vB _) ?_
               refine RA.nil nofun ?_
               refine AG.ret ?_
               obtain rfl := Option.some.inj H
               exact RetP.mk id ⟨rfl, trivial⟩ trivial rfl
              ·rw [if_neg hc70] at H
               refine AG.no rfl (Bool.eq_false_iff.2 hc70) ?_
               refine AG.skip ?_
               refine AG.seq ?_
               refine AG.region HM ?_
               refine a_move (v := vI _) ?_
               refine RA.nil nofun ?_
               refine AG.seq ?_
               refine AG.region HM ?_
               refine a_move (v := .c (.own _ _)) ?_
               refine a_move (v := vI _) ?_
               obtain ⟨t71, e72, H⟩ := bindO H
               refine a_call (v := vI t71) (nk := []) (L := [(227, _)]) ?_ rfl (laws_heldInt64S.ok e72) id (qc rO (qd qn)) ⟨rfl, trivial⟩ trivial trivial rfl
               refine a_move (v := vI _) ?_
               refine RA.nil nofun ?_
               refine AG.seq ?_
               refine AG.seq ?_
               refine AG.region HM ?_
               refine a_move (v := vI _) ?_
               refine a_int (u := .bool (decide (t71 < 0))) ?_
               refine RA.nil nofun ?_
               by_cases hc73 : t71 < 0
               ·rw [if_pos hc73] at H
                refine AG.yes rfl (decide_eq_true hc73) ?_
                refine AG.seq ?_
                refine AG.region HM ?_
                refine a_move (v := vB _) ?_
                refine RA.nil nofun ?_
                refine AG.ret ?_
                obtain rfl := Option.some.inj H
                exact RetP.mk id ⟨rfl, trivial⟩ trivial rfl
               ·rw [if_neg hc73] at H
                refine AG.no rfl (decide_eq_false hc73) ?_
                refine AG.skip ?_
                refine AG.seq ?_
                refine AG.seq ?_
                refine AG.region HM ?_
                refine a_move (v := vI _) ?_
                refine a_move (v := vI _) ?_
                refine a_int (u := .bool ((t71 != x14))) ?_
                refine RA.nil nofun ?_
                by_cases hc74 : t71 = x14
                ·rw [if_pos hc74] at H
                 refine AG.no rfl (bne_eq_false_iff_eq.2 hc74) ?_
                 refine AG.skip ?_
                 refine AG.seq ?_
                 refine AG.region HM ?_
                 refine a_move (v := vB _) ?_
                 refine RA.nil nofun ?_
                 refine AG.ret ?_
                 obtain rfl := Option.some.inj H
                 exact RetP.mk id ⟨rfl, trivial⟩ trivial rfl
                ·rw [if_neg hc74] at H
                 refine AG.yes rfl (bne_iff_ne.2 hc74) ?_
                 refine AG.seq ?_
                 refine AG.region HM ?_
                 refine a_move (v := vB _) ?_
                 refine RA.nil nofun ?_
                 refine AG.ret ?_
                 obtain rfl := Option.some.inj H
                 exact RetP.mk id ⟨rfl, trivial⟩ trivial rfl
           ·rw [if_neg hc54] at H
            refine AG.yes rfl (bne_iff_ne.2 hc54) ?_
            refine AG.seq ?_
            refine AG.region HM ?_
            refine a_move (v := vB _) ?_
            refine RA.nil nofun ?_
            refine AG.ret ?_
            obtain rfl := Option.some.inj H
            exact RetP.mk id ⟨rfl, trivial⟩ trivial rfl
      ·rw [if_neg hc38] at H
       refine AG.yes rfl (congrArg Bool.not (Bool.eq_false_iff.2 hc38)) ?_
       refine AG.seq ?_
       refine AG.region HM ?_
       refine a_move (v := vB _) ?_
       refine RA.nil nofun ?_
       refine AG.ret ?_
       obtain rfl := Option.some.inj H
       exact RetP.mk id ⟨rfl, trivial⟩ trivial rfl
def B31 (x : S31) : Prop := x.f0.size ≤ maxLen ∧ (Lit.int .i64 x.f1).wf = true ∧ (Lit.int .i64 x.f2).wf = true ∧ (Lit.int .i64 x.f3).wf = true
def B54 (x : S54) : Prop := x.f0.size ≤ maxLen ∧ (Lit.int .i64 x.f1).wf = true ∧ (Lit.int .i64 x.f2).wf = true
/-- The one plain statement of laws_FnExactDecreasingBlades. -/
def laws_FnExactDecreasingBlades.Pure : Prop := ∀ (a0_0 : ByteArray) (a0_1 : Int) (a0_2 : Int) (a0_3 : Int) (l1 : List S54), B31 (⟨a0_0, a0_1, a0_2, a0_3⟩ : S31) → (l1.length ≤ maxLen ∧ ∀ x_ ∈ l1, B54 x_) → ∃ k, laws_FnExactDecreasingBlades.f k a0_0 a0_1 a0_2 a0_3 l1 = some true
end Go.Proofs.Ytedakffelgmmnaa.PFnExactDecreasingBlades

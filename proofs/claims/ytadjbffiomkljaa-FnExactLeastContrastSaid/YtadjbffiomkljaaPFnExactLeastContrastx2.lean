/- What each function that the law FnExactLeastContrast reaches comes to, and the proof that its walk comes to it; laid by a program of this session. No condition. -/
import Derived.Test.YtadjbffiomkljaaPFnExactLeastContrastx1
import Derived.KernelRfl
import Derived.OwnWalk
import Derived.Test.YtadjbffiomkljaaProg
set_option linter.unusedVariables false
set_option linter.unusedSimpArgs false
namespace Go.Proofs.Ytadjbffiomkljaa.PFnExactLeastContrast
open Go Go.RowKit Go.Proofs.YtadjbffiomkljaaM Go.Proofs
/-! ### impl_ValidDrawing: function 41 -/
mutual
def impl_ValidDrawing.j0 : Nat → Int → Int → List S107 → List S98 → Bool → Option (Bool)
 | 0, _, _, _, _, _ => none
 | k + 1, y203_0, y203_1, y203_2, y203_3, x30 => if x30 = true then (some false) else (impl_ValidDrawing.l0 k y203_0 y203_1 y203_2 y203_3 y203_2 (y203_2.length : Int) 0)
def impl_ValidDrawing.j1 : Nat → List S107 → List S98 → Option (Bool)
 | 0, _, _ => none
 | k + 1, y209_2, y209_3 => impl_ValidDrawing.l1 k y209_2 y209_3 y209_3 (y209_3.length : Int) 0
def impl_ValidDrawing.l0 : Nat → Int → Int → List S107 → List S98 → List S107 → Int → Int → Option (Bool)
 | 0, _, _, _, _, _, _, _ => none
 | k + 1, y204_0, y204_1, y204_2, y204_3, x32, x33, x34 => if x34 < x33 then (if 0 ≤ x34 then (if x34 < (x32.length : Int) then ((impl_within.f ((rd107 x32 x34).f0) 0 y204_0).bind fun t12 => (if t12 = true then ((impl_within.f ((rd107 x32 x34).f1) 0 y204_1).bind fun t15 => (if t15 = true then (if x34 ≤ (y204_2.length : Int) then ((slices_Contains_impl_Point.f k (y204_2.take ((x34 : Int).toNat)) ((rd107 x32 x34).f0) ((rd107 x32 x34).f1)).bind fun t19 => (if t19 = true then (some false) else (impl_ValidDrawing.l0 k y204_0 y204_1 y204_2 y204_3 x32 x33 (wrap64 (x34 + 1))))) else (none)) else (some false))) else (some false))) else (none)) else (none)) else (impl_ValidDrawing.j1 k y204_2 y204_3)
def impl_ValidDrawing.l1 : Nat → List S107 → List S98 → List S98 → Int → Int → Option (Bool)
 | 0, _, _, _, _, _ => none
 | k + 1, y210_2, y210_3, x63, x64, x65 => if x65 < x64 then (if 0 ≤ x65 then (if x65 < (x63.length : Int) then ((impl_IsName.f k ((rd98 x63 x65).f0)).bind fun t25 => (if t25 = true then (if x65 > 0 then (if 0 ≤ (wrap64 (x65 - 1)) then (if (wrap64 (x65 - 1)) < (y210_3.length : Int) then (impl_ValidDrawing.j2 k y210_2 y210_3 ((rd98 x63 x65).f1) x63 x64 x65 (!(Op.bytesLess (((rd98 y210_3 (wrap64 (x65 - 1))).f0).toList) (((rd98 x63 x65).f0).toList)))) else (none)) else (none)) else (impl_ValidDrawing.j2 k y210_2 y210_3 ((rd98 x63 x65).f1) x63 x64 x65 false)) else (impl_ValidDrawing.j2 k y210_2 y210_3 ((rd98 x63 x65).f1) x63 x64 x65 true))) else (none)) else (none)) else (some true)
def impl_ValidDrawing.j2 : Nat → List S107 → List S98 → List Int → List S98 → Int → Int → Bool → Option (Bool)
 | 0, _, _, _, _, _, _, _ => none
 | k + 1, y213_2, y213_3, y214_1, x63, x64, x65, x89 => if x89 = true then (some false) else ((impl_ringPolygon.f k y213_2 y214_1).bind fun bt32 => (if bt32.2 = true then ((impl_ValidPolygon.f k bt32.1).bind fun t36 => (if t36 = true then (impl_ValidDrawing.l1 k y213_2 y213_3 x63 x64 (wrap64 (x65 + 1))) else (some false))) else (some false)))
end
def impl_ValidDrawing.f (k : Nat) (a0_0 : Int) (a0_1 : Int) (l0_2 : List S107) (l0_3 : List S98) : Option (Bool) := (impl_within.f a0_0 10 20000).bind fun t1 => (if t1 = true then ((impl_within.f a0_1 10 20000).bind fun t4 => (if t4 = true then (if (l0_2.length : Int) > 48 then (impl_ValidDrawing.j0 k a0_0 a0_1 l0_2 l0_3 true) else (impl_ValidDrawing.j0 k a0_0 a0_1 l0_2 l0_3 (decide ((l0_3.length : Int) > 24)))) else (impl_ValidDrawing.j0 k a0_0 a0_1 l0_2 l0_3 true))) else (impl_ValidDrawing.j0 k a0_0 a0_1 l0_2 l0_3 true))
set_option maxRecDepth 100000 in
theorem impl_ValidDrawing.ok {k : Nat} {a0_0 : Int} {a0_1 : Int} {l0_2 : List S107} {l0_3 : List S98} {r : Bool} (H : impl_ValidDrawing.f k a0_0 a0_1 l0_2 l0_3 = some r) : OkF Try.prog 41 [.agg [.d (.v (.int .i64 a0_0)), .d (.v (.int .i64 a0_1)), .d (.row 108 (l0_2.map c107)), .d (.row 101 (l0_3.map c98))]] [] (.c (.d (.v (.bool r)))) [] := by
 unfold impl_ValidDrawing.f at H
 refine OkF.of (N := 106) (rs := [2]) (avs := [.c (.d (.v (.bool r)))]) Try.func41 rfl rfl (fun _ _ => results_tmp rfl _ _ _) (by decide) rfl rfl rfl rfl (fun w0 S => ?_)
 refine AG.seq ?_
 refine AG.region HM ?_
 refine a_box 200 ?_
 refine a_move (v := vB _) ?_
 refine RA.nil nofun ?_
 refine AG.seq ?_
 refine AG.seq ?_
 refine AG.joinR (fun s => ∃ q, q ≤ k ∧ ∃ (y203_0 : Int) (y203_1 : Int) (y203_2 : List S107) (y203_3 : List S98) (x30 : Bool), impl_ValidDrawing.j0 q y203_0 y203_1 y203_2 y203_3 x30 = some r ∧ s = St.of [(1, .c (.ptr 203 0)), (30, vB x30)] [(203, .box 49 [.d (.v (.int .i64 y203_0)), .d (.v (.int .i64 y203_1)), .d (.row 108 (y203_2.map c107)), .d (.row 101 (y203_3.map c98))])]) ?_ ?_
 ·skip
  refine AG.region HM ?_
  refine a_faB (q := 0) ?_ D49_0
  refine a_ldB (v := vI _) ?_ T2
  obtain ⟨t1, e2, H⟩ := bindO H
  refine a_call (v := vB t1) (nk := []) (L := []) ?_ rfl (impl_within.ok e2) id (qd (qd (qd qn))) trivial trivial trivial rfl
  refine a_un (u := .bool (!t1)) ?_
  refine a_move (v := vB _) ?_
  by_cases hc3 : t1 = true
  ·rw [if_pos hc3] at H
   refine a_faB (q := 1) ?_ D49_1 (hg := Gs.yes rfl rfl rfl (congrArg Bool.not hc3))
   refine a_ldB (v := vI _) ?_ T2 (hg := Gs.yes rfl rfl rfl (congrArg Bool.not hc3))
   obtain ⟨t4, e5, H⟩ := bindO H
   refine a_call (v := vB t4) (nk := []) (L := []) ?_ rfl (impl_within.ok e5) id (qd (qd (qd qn))) trivial trivial trivial rfl (hg := Gs.yes rfl rfl rfl (congrArg Bool.not hc3))
   refine a_un (u := .bool (!t4)) ?_ (hg := Gs.yes rfl rfl rfl (congrArg Bool.not hc3))
   refine a_pick (b := false) (v := vB _) ?_ (congrArg Bool.not hc3)
   refine a_move (v := vB _) ?_
   by_cases hc6 : t4 = true
   ·rw [if_pos hc6] at H
    refine a_faB (q := 2) ?_ D49_2 (hg := Gs.yes rfl rfl rfl (congrArg Bool.not hc6))
    refine a_ldB (v := vR _ _) ?_ T46 (hg := Gs.yes rfl rfl rfl (congrArg Bool.not hc6))
    refine a_lenR ?_ Try.underlying46 (hg := Gs.yes rfl rfl rfl (congrArg Bool.not hc6))
    refine a_int (u := .bool (decide ((l0_2.length : Int) > 48))) ?_ (hg := Gs.yes rfl rfl rfl (congrArg Bool.not hc6))
    refine a_pick (b := false) (v := vB _) ?_ (congrArg Bool.not hc6)
    refine a_move (v := vB _) ?_
    by_cases hc7 : (l0_2.length : Int) > 48
    ·rw [if_pos hc7] at H
     refine RA.skip rfl rfl rfl rfl rfl (decide_eq_true hc7) (by decide) ?_
     refine RA.skip rfl rfl rfl rfl rfl (decide_eq_true hc7) (by decide) ?_
     refine RA.skip rfl rfl rfl rfl rfl (decide_eq_true hc7) (by decide) ?_
     refine RA.skip rfl rfl rfl rfl rfl (decide_eq_true hc7) (by decide) ?_
     refine a_pick (b := true) (v := vB _) ?_ (decide_eq_true hc7)
     refine RA.nil nofun ?_
     exact CanR.mk (fun κ => cond (Nat.beq κ 203) 200 (κ)) ⟨_, (by omega), _, _, _, _, _, H, rfl⟩ ⟨rfl, rfl, trivial⟩ ⟨rfl, trivial⟩ rfl
    ·rw [if_neg hc7] at H
     refine a_faB (q := 3) ?_ D49_3 (hg := Gs.yes rfl rfl rfl (decide_eq_false hc7))
     refine a_ldB (v := vR _ _) ?_ T47 (hg := Gs.yes rfl rfl rfl (decide_eq_false hc7))
     refine a_lenR ?_ Try.underlying47 (hg := Gs.yes rfl rfl rfl (decide_eq_false hc7))
     refine a_int (u := .bool (decide ((l0_3.length : Int) > 24))) ?_ (hg := Gs.yes rfl rfl rfl (decide_eq_false hc7))
     refine a_pick (b := false) (v := vB _) ?_ (decide_eq_false hc7)
     refine RA.nil nofun ?_
     exact CanR.mk (fun κ => cond (Nat.beq κ 203) 200 (κ)) ⟨_, (by omega), _, _, _, _, _, H, rfl⟩ ⟨rfl, rfl, trivial⟩ ⟨rfl, trivial⟩ rfl
   ·rw [if_neg hc6] at H
    refine RA.skip rfl rfl rfl rfl rfl (congrArg Bool.not (Bool.eq_false_iff.2 hc6)) (by decide) ?_
    refine RA.skip rfl rfl rfl rfl rfl (congrArg Bool.not (Bool.eq_false_iff.2 hc6)) (by decide) ?_
    refine RA.skip rfl rfl rfl rfl rfl (congrArg Bool.not (Bool.eq_false_iff.2 hc6)) (by decide) ?_
    refine RA.skip rfl rfl rfl rfl rfl (congrArg Bool.not (Bool.eq_false_iff.2 hc6)) (by decide) ?_
    refine a_pick (b := true) (v := vB _) ?_ (congrArg Bool.not (Bool.eq_false_iff.2 hc6))
    refine a_move (v := vB _) ?_
    refine RA.skip rfl rfl rfl rfl rfl rfl (by decide) ?_
    refine RA.skip rfl rfl rfl rfl rfl rfl (by decide) ?_
    refine RA.skip rfl rfl rfl rfl rfl rfl (by decide) ?_
    refine RA.skip rfl rfl rfl rfl rfl rfl (by decide) ?_
    refine a_pick (b := true) (v := vB _) ?_ rfl
    refine RA.nil nofun ?_
    exact CanR.mk (fun κ => cond (Nat.beq κ 203) 200 (κ)) ⟨_, (by omega), _, _, _, _, _, H, rfl⟩ ⟨rfl, rfl, trivial⟩ ⟨rfl, trivial⟩ rfl
  ·rw [if_neg hc3] at H
   refine RA.skip rfl rfl rfl rfl rfl (congrArg Bool.not (Bool.eq_false_iff.2 hc3)) (by decide) ?_
   refine RA.skip rfl rfl rfl rfl rfl (congrArg Bool.not (Bool.eq_false_iff.2 hc3)) (by decide) ?_
   refine RA.skip rfl rfl rfl rfl rfl (congrArg Bool.not (Bool.eq_false_iff.2 hc3)) (by decide) ?_
   refine RA.skip rfl rfl rfl rfl rfl (congrArg Bool.not (Bool.eq_false_iff.2 hc3)) (by decide) ?_
   refine a_pick (b := true) (v := vB _) ?_ (congrArg Bool.not (Bool.eq_false_iff.2 hc3))
   refine a_move (v := vB _) ?_
   refine RA.skip rfl rfl rfl rfl rfl rfl (by decide) ?_
   refine RA.skip rfl rfl rfl rfl rfl rfl (by decide) ?_
   refine RA.skip rfl rfl rfl rfl rfl rfl (by decide) ?_
   refine RA.skip rfl rfl rfl rfl rfl rfl (by decide) ?_
   refine a_pick (b := true) (v := vB _) ?_ rfl
   refine a_move (v := vB _) ?_
   refine RA.skip rfl rfl rfl rfl rfl rfl (by decide) ?_
   refine RA.skip rfl rfl rfl rfl rfl rfl (by decide) ?_
   refine RA.skip rfl rfl rfl rfl rfl rfl (by decide) ?_
   refine RA.skip rfl rfl rfl rfl rfl rfl (by decide) ?_
   refine a_pick (b := true) (v := vB _) ?_ rfl
   refine RA.nil nofun ?_
   exact CanR.mk (fun κ => cond (Nat.beq κ 203) 200 (κ)) ⟨_, (by omega), _, _, _, _, _, H, rfl⟩ ⟨rfl, rfl, trivial⟩ ⟨rfl, trivial⟩ rfl
 ·clear H
  rintro _ ⟨k, hj0, y203_0, y203_1, y203_2, y203_3, x30, H, rfl⟩
  cases k with
  | zero => cases H
  | succ k =>
   rw [impl_ValidDrawing.j0] at H
   by_cases hc8 : x30 = true
   ·rw [if_pos hc8] at H
    refine AG.yes rfl hc8 ?_
    refine AG.seq ?_
    refine AG.region HM ?_
    refine a_move (v := vB _) ?_
    refine RA.nil nofun ?_
    refine AG.ret ?_
    obtain rfl := Option.some.inj H
    exact RetP.mk id ⟨rfl, trivial⟩ trivial rfl
   ·rw [if_neg hc8] at H
    refine AG.no rfl (Bool.eq_false_iff.2 hc8) ?_
    refine AG.skip ?_
    refine AG.seq ?_
    refine AG.seq ?_
    refine AG.region HM ?_
    refine a_faB (q := 2) ?_ D49_2
    refine a_ldB (v := vR _ _) ?_ T46
    refine a_lenR ?_ Try.underlying46
    refine a_move (v := vI _) ?_
    refine RA.nil nofun ?_
    refine AG.joinR (fun s => ∃ q, q ≤ k ∧ ∃ (y209_0 : Int) (y209_1 : Int) (y209_2 : List S107) (y209_3 : List S98), impl_ValidDrawing.j1 q y209_2 y209_3 = some r ∧ s = St.of [(1, .c (.ptr 209 0))] [(209, .box 49 [.d (.v (.int .i64 y209_0)), .d (.v (.int .i64 y209_1)), .d (.row 108 (y209_2.map c107)), .d (.row 101 (y209_3.map c98))])]) ?_ ?_
    ·skip
     refine AG.block ?_
     refine AG.loop ?_
     obtain ⟨K0, hK0, gK0⟩ : ∃ K, k ≤ K ∧ K ≤ k := ⟨k, Nat.le_refl k, Nat.le_refl k⟩
     refine AGr.canon (fun κ => cond (Nat.beq κ 204) 203 (κ)) (AGr.loopI (n := k) (fun k s => k ≤ K0 ∧ ∃ (y204_0 : Int) (y204_1 : Int) (y204_2 : List S107) (y204_3 : List S98) (x32 : List S107) (x33 : Int) (x34 : Int), impl_ValidDrawing.l0 k y204_0 y204_1 y204_2 y204_3 x32 x33 x34 = some r ∧ s = St.of [(1, .c (.ptr 204 0)), (32, vR 108 (x32.map c107)), (33, vI x33), (34, vI x34)] [(204, .box 49 [.d (.v (.int .i64 y204_0)), .d (.v (.int .i64 y204_1)), .d (.row 108 (y204_2.map c107)), .d (.row 101 (y204_3.map c98))])]) ⟨hK0, _, _, _, _, _, _, _, H, rfl⟩ ?_ ?_) ⟨rfl, rfl, rfl, rfl, trivial⟩ ⟨rfl, trivial⟩ rfl
     ·rintro _ ⟨_, _, _, _, _, _, _, _, H, _⟩
      cases H
     ·clear H hK0
      rintro k ih0 _ ⟨hK0, y204_0, y204_1, y204_2, y204_3, x32, x33, x34, H, rfl⟩
      unfold impl_ValidDrawing.l0 at H
      refine AG.seq ?_
      refine AG.region HM ?_
      refine a_int (u := .bool (decide (x34 < x33))) ?_
      refine RA.nil nofun ?_
      refine AG.seq ?_
      by_cases hc9 : x34 < x33
      ·rw [if_pos hc9] at H
       refine AG.yes rfl (decide_eq_true hc9) ?_
       refine AG.skip ?_
       refine AG.seq ?_
       refine AG.block ?_
       refine AG.seq ?_
       refine AG.region HM ?_
       refine a_move (v := vI _) ?_
       by_cases hc10 : 0 ≤ x34
       ·rw [if_pos hc10] at H
        by_cases hc11 : x34 < (x32.length : Int)
        ·rw [if_pos hc11] at H
         refine a_ixR (el := c107 (rd107 x32 x34)) ?_ ⟨hc10, hc11⟩ T108 Try.underlying46 (hel := R107 hc10 hc11)
         refine a_ldR (v := .agg [_, _]) ?_ T108
         refine a_alloc (cs := [_, _]) 205 ?_ T108
         refine a_move (v := vI _) ?_
         refine a_stB (cs' := [_, _]) ?_ T108
         refine RA.nil nofun ?_
         refine AG.seq ?_
         refine AG.region HM ?_
         refine a_faB (q := 0) ?_ D108_0
         refine a_ldB (v := vI _) ?_ T2
         refine a_faB (q := 0) ?_ D49_0
         refine a_ldB (v := vI _) ?_ T2
         obtain ⟨t12, e13, H⟩ := bindO H
         refine a_call (v := vB t12) (nk := []) (L := []) ?_ rfl (impl_within.ok e13) id (qd (qd (qd qn))) trivial trivial trivial rfl
         refine a_un (u := .bool (!t12)) ?_
         refine a_move (v := vB _) ?_
         by_cases hc14 : t12 = true
         ·rw [if_pos hc14] at H
          refine a_faB (q := 1) ?_ D108_1 (hg := Gs.yes rfl rfl rfl (congrArg Bool.not hc14))
          refine a_ldB (v := vI _) ?_ T2 (hg := Gs.yes rfl rfl rfl (congrArg Bool.not hc14))
          refine a_faB (q := 1) ?_ D49_1 (hg := Gs.yes rfl rfl rfl (congrArg Bool.not hc14))
          refine a_ldB (v := vI _) ?_ T2 (hg := Gs.yes rfl rfl rfl (congrArg Bool.not hc14))
          obtain ⟨t15, e16, H⟩ := bindO H
          refine a_call (v := vB t15) (nk := []) (L := []) ?_ rfl (impl_within.ok e16) id (qd (qd (qd qn))) trivial trivial trivial rfl (hg := Gs.yes rfl rfl rfl (congrArg Bool.not hc14))
          refine a_un (u := .bool (!t15)) ?_ (hg := Gs.yes rfl rfl rfl (congrArg Bool.not hc14))
          refine a_pick (b := false) (v := vB _) ?_ (congrArg Bool.not hc14)
          refine a_move (v := vB _) ?_
          by_cases hc17 : t15 = true
          ·rw [if_pos hc17] at H
           refine a_faB (q := 2) ?_ D49_2 (hg := Gs.yes rfl rfl rfl (congrArg Bool.not hc17))
           refine a_ldB (v := vR _ _) ?_ T46 (hg := Gs.yes rfl rfl rfl (congrArg Bool.not hc17))
           refine a_move (v := vI _) ?_ (hg := Gs.yes rfl rfl rfl (congrArg Bool.not hc17))
           by_cases hc18 : x34 ≤ (y204_2.length : Int)
           ·rw [if_pos hc18] at H
            refine a_slR (l := none) (h := some x34) (css' := (y204_2.take ((x34 : Int).toNat)).map c107) ?_ Try.underlying46 T108 ⟨(Int.le_refl 0), hc10, (lenM (p := fun n => x34 ≤ n) hc18)⟩ (map_take_drop _ _ _ _) (hg := Gs.yes rfl rfl rfl (congrArg Bool.not hc17))
            refine a_ldB (v := .agg [_, _]) ?_ T108 (hg := Gs.yes rfl rfl rfl (congrArg Bool.not hc17))
            obtain ⟨t19, e20, H⟩ := bindO H
            refine a_call (v := vB t19) (nk := []) (L := []) ?_ rfl (slices_Contains_impl_Point.ok e20) id (qd (qg qn)) trivial trivial trivial rfl (hg := Gs.yes rfl rfl rfl (congrArg Bool.not hc17))
            refine a_pick (b := false) (v := vB _) ?_ (congrArg Bool.not hc17)
            refine RA.nil (fun _ => by kernel_rfl) ?_
            by_cases hc21 : t19 = true
            ·rw [if_pos hc21] at H
             refine AG.yes rfl hc21 ?_
             refine AG.seq ?_
             refine AG.region HM ?_
             refine a_move (v := vB _) ?_
             refine RA.nil nofun ?_
             refine AG.ret ?_
             obtain rfl := Option.some.inj H
             exact RetP.mk id ⟨rfl, trivial⟩ trivial rfl
            ·rw [if_neg hc21] at H
             refine AG.no rfl (Bool.eq_false_iff.2 hc21) ?_
             refine AG.skip ?_
             refine AG.region HM ?_
             refine a_int (u := .int .i64 (wrap64 (x34 + 1))) ?_
             refine a_move (v := vI _) ?_
             refine RA.nil nofun ?_
             exact AGr.canon id (ih0 _ (by omega) _ ⟨by omega, _, _, _, _, _, _, _, H, rfl⟩) ⟨rfl, rfl, rfl, rfl, trivial⟩ ⟨rfl, trivial⟩ rfl
           ·rw [if_neg hc18] at H
            cases H
          ·rw [if_neg hc17] at H
           refine RA.skip rfl rfl rfl rfl rfl (congrArg Bool.not (Bool.eq_false_iff.2 hc17)) (by decide) ?_
           refine RA.skip rfl rfl rfl rfl rfl (congrArg Bool.not (Bool.eq_false_iff.2 hc17)) (by decide) ?_
           refine RA.skip rfl rfl rfl rfl rfl (congrArg Bool.not (Bool.eq_false_iff.2 hc17)) (by decide) ?_
           refine RA.skip rfl rfl rfl rfl rfl (congrArg Bool.not (Bool.eq_false_iff.2 hc17)) (by decide) ?_
           refine RA.skip rfl rfl rfl rfl rfl (congrArg Bool.not (Bool.eq_false_iff.2 hc17)) (by decide) ?_
           refine RA.skip rfl rfl rfl rfl rfl (congrArg Bool.not (Bool.eq_false_iff.2 hc17)) (by decide) ?_
           refine a_pick (b := true) (v := vB _) ?_ (congrArg Bool.not (Bool.eq_false_iff.2 hc17))
           refine RA.nil (fun _ => by kernel_rfl) ?_
           refine AG.yes rfl rfl ?_
           refine AG.seq ?_
           refine AG.region HM ?_
           refine a_move (v := vB _) ?_
           refine RA.nil nofun ?_
           refine AG.ret ?_
           obtain rfl := Option.some.inj H
           exact RetP.mk id ⟨rfl, trivial⟩ trivial rfl
         ·rw [if_neg hc14] at H
          refine RA.skip rfl rfl rfl rfl rfl (congrArg Bool.not (Bool.eq_false_iff.2 hc14)) (by decide) ?_
          refine RA.skip rfl rfl rfl rfl rfl (congrArg Bool.not (Bool.eq_false_iff.2 hc14)) (by decide) ?_
          refine RA.skip rfl rfl rfl rfl rfl (congrArg Bool.not (Bool.eq_false_iff.2 hc14)) (by decide) ?_
          refine RA.skip rfl rfl rfl rfl rfl (congrArg Bool.not (Bool.eq_false_iff.2 hc14)) (by decide) ?_
          refine RA.skip rfl rfl rfl rfl rfl (congrArg Bool.not (Bool.eq_false_iff.2 hc14)) (by decide) ?_
          refine RA.skip rfl rfl rfl rfl rfl (congrArg Bool.not (Bool.eq_false_iff.2 hc14)) (by decide) ?_
          refine a_pick (b := true) (v := vB _) ?_ (congrArg Bool.not (Bool.eq_false_iff.2 hc14))
          refine a_move (v := vB _) ?_
          refine RA.skip rfl rfl rfl rfl rfl rfl (by decide) ?_
          refine RA.skip rfl rfl rfl rfl rfl rfl (by decide) ?_
          refine RA.skip rfl rfl rfl rfl rfl rfl (by decide) ?_
          refine RA.skip rfl rfl rfl rfl rfl rfl (by decide) ?_
          refine RA.skip rfl rfl rfl rfl rfl rfl (by decide) ?_
          refine RA.skip rfl rfl rfl rfl rfl rfl (by decide) ?_
          refine a_pick (b := true) (v := vB _) ?_ rfl
          refine RA.nil (fun _ => by kernel_rfl) ?_
          refine AG.yes rfl rfl ?_
          refine AG.seq ?_
          refine AG.region HM ?_
          refine a_move (v := vB _) ?_
          refine RA.nil nofun ?_
          refine AG.ret ?_
          obtain rfl := Option.some.inj H
          exact RetP.mk id ⟨rfl, trivial⟩ trivial rfl
        ·rw [if_neg hc11] at H
         cases H
       ·rw [if_neg hc10] at H
        cases H
      ·rw [if_neg hc9] at H
       refine AG.no rfl (decide_eq_false hc9) ?_
       refine AG.exit ?_
       exact CanR.mk (fun κ => cond (Nat.beq κ 209) 204 (κ)) ⟨_, (by omega), _, _, _, _, H, rfl⟩ ⟨rfl, trivial⟩ ⟨rfl, trivial⟩ rfl
    ·clear H
     rintro _ ⟨k, hj1, y209_0, y209_1, y209_2, y209_3, H, rfl⟩
     cases k with
     | zero => cases H
     | succ k =>
      rw [impl_ValidDrawing.j1] at H
      refine AG.seq ?_
      refine AG.seq ?_
      refine AG.region HM ?_
      refine a_faB (q := 3) ?_ D49_3
      refine a_ldB (v := vR _ _) ?_ T47
      refine a_lenR ?_ Try.underlying47
      refine a_move (v := vI _) ?_
      refine RA.nil nofun ?_
      refine AG.block ?_
      refine AG.loop ?_
      obtain ⟨K1, hK1, gK1⟩ : ∃ K, k ≤ K ∧ K ≤ k := ⟨k, Nat.le_refl k, Nat.le_refl k⟩
      refine AGr.canon (fun κ => cond (Nat.beq κ 210) 209 (κ)) (AGr.loopI (n := k) (fun k s => k ≤ K1 ∧ ∃ (y210_0 : Int) (y210_1 : Int) (y210_2 : List S107) (y210_3 : List S98) (x63 : List S98) (x64 : Int) (x65 : Int), impl_ValidDrawing.l1 k y210_2 y210_3 x63 x64 x65 = some r ∧ s = St.of [(1, .c (.ptr 210 0)), (63, vR 101 (x63.map c98)), (64, vI x64), (65, vI x65)] [(210, .box 49 [.d (.v (.int .i64 y210_0)), .d (.v (.int .i64 y210_1)), .d (.row 108 (y210_2.map c107)), .d (.row 101 (y210_3.map c98))])]) ⟨hK1, _, _, _, _, _, _, _, H, rfl⟩ ?_ ?_) ⟨rfl, rfl, rfl, rfl, trivial⟩ ⟨rfl, trivial⟩ rfl
      ·rintro _ ⟨_, _, _, _, _, _, _, _, H, _⟩
       cases H
      ·clear H hK1
       rintro k ih1 _ ⟨hK1, y210_0, y210_1, y210_2, y210_3, x63, x64, x65, H, rfl⟩
       unfold impl_ValidDrawing.l1 at H
       refine AG.seq ?_
       refine AG.region HM ?_
       refine a_int (u := .bool (decide (x65 < x64))) ?_
       refine RA.nil nofun ?_
       refine AG.seq ?_
       by_cases hc22 : x65 < x64
       ·rw [if_pos hc22] at H
        refine AG.yes rfl (decide_eq_true hc22) ?_
        refine AG.skip ?_
        refine AG.seq ?_
        refine AG.block ?_
        refine AG.seq ?_
        refine AG.region HM ?_
        refine a_move (v := vI _) ?_
        by_cases hc23 : 0 ≤ x65
        ·rw [if_pos hc23] at H
         by_cases hc24 : x65 < (x63.length : Int)
         ·rw [if_pos hc24] at H
          refine a_ixR (el := c98 (rd98 x63 x65)) ?_ ⟨hc23, hc24⟩ T101 Try.underlying47 (hel := R98 hc23 hc24)
          refine a_ldR (v := .agg [_, _]) ?_ T101
          refine a_alloc (cs := [_, _]) 211 ?_ T101
          refine a_move (v := vI _) ?_
          refine a_stB (cs' := [_, _]) ?_ T101
          refine RA.nil nofun ?_
          refine AG.seq ?_
          refine AG.seq ?_
          refine AG.joinR (fun s => ∃ q, q ≤ k ∧ ∃ (y213_0 : Int) (y213_1 : Int) (y213_2 : List S107) (y213_3 : List S98) (y214_0 : ByteArray) (y214_1 : List Int) (x63 : List S98) (x64 : Int) (x65 : Int) (x89 : Bool), impl_ValidDrawing.j2 q y213_2 y213_3 y214_1 x63 x64 x65 x89 = some r ∧ s = St.of [(1, .c (.ptr 213 0)), (6, .c (.ptr 214 0)), (63, vR 101 (x63.map c98)), (64, vI x64), (65, vI x65), (89, vB x89)] [(213, .box 49 [.d (.v (.int .i64 y213_0)), .d (.v (.int .i64 y213_1)), .d (.row 108 (y213_2.map c107)), .d (.row 101 (y213_3.map c98))]), (214, .box 101 [.d (.v (.string y214_0)), .d (.row 2 (y214_1.map c2))])]) ?_ ?_
          ·skip
           refine AG.region HM ?_
           refine a_faB (q := 0) ?_ D101_0
           refine a_ldB (v := vS _) ?_ T9
           obtain ⟨t25, e26, H⟩ := bindO H
           refine a_call (v := vB t25) (nk := []) (L := []) ?_ rfl (impl_IsName.ok e26) id (qd qn) trivial trivial trivial rfl
           refine a_un (u := .bool (!t25)) ?_
           refine a_move (v := vB _) ?_
           by_cases hc27 : t25 = true
           ·rw [if_pos hc27] at H
            refine a_move (v := vI _) ?_ (hg := Gs.yes rfl rfl rfl (congrArg Bool.not hc27))
            refine a_int (u := .bool (decide (x65 > 0))) ?_ (hg := Gs.yes rfl rfl rfl (congrArg Bool.not hc27))
            refine a_move (v := vB _) ?_ (hg := Gs.yes rfl rfl rfl (congrArg Bool.not hc27))
            by_cases hc28 : x65 > 0
            ·rw [if_pos hc28] at H
             refine a_faB (q := 3) ?_ D49_3 (hg := Gs.yes rfl rfl rfl (decide_eq_true hc28))
             refine a_ldB (v := vR _ _) ?_ T47 (hg := Gs.yes rfl rfl rfl (decide_eq_true hc28))
             refine a_move (v := vI _) ?_ (hg := Gs.yes rfl rfl rfl (decide_eq_true hc28))
             refine a_int (u := .int .i64 (wrap64 (x65 - 1))) ?_ (hg := Gs.yes rfl rfl rfl (decide_eq_true hc28))
             by_cases hc29 : 0 ≤ (wrap64 (x65 - 1))
             ·rw [if_pos hc29] at H
              by_cases hc30 : (wrap64 (x65 - 1)) < (y210_3.length : Int)
              ·rw [if_pos hc30] at H
               refine a_ixR (el := c98 (rd98 y210_3 (wrap64 (x65 - 1)))) ?_ ⟨hc29, hc30⟩ T101 Try.underlying47 (hel := R98 hc29 hc30) (hg := Gs.yes rfl rfl rfl (decide_eq_true hc28))
               refine a_faR (cells' := [_, _]) ?_ D101_0 (hg := Gs.yes rfl rfl rfl (decide_eq_true hc28))
               refine a_ldR (v := vS _) ?_ T9 (hg := Gs.yes rfl rfl rfl (decide_eq_true hc28))
               refine a_faB (q := 0) ?_ D101_0 (hg := Gs.yes rfl rfl rfl (decide_eq_true hc28))
               refine a_ldB (v := vS _) ?_ T9 (hg := Gs.yes rfl rfl rfl (decide_eq_true hc28))
               refine a_bin (u := .bool (!(Op.bytesLess (((rd98 y210_3 (wrap64 (x65 - 1))).f0).toList) (((rd98 x63 x65).f0).toList)))) ?_ (hg := Gs.yes rfl rfl rfl (decide_eq_true hc28))
               refine a_pick (b := true) (v := vB _) ?_ (decide_eq_true hc28) (hg := Gs.yes rfl rfl rfl (congrArg Bool.not hc27))
               refine a_pick (b := false) (v := vB _) ?_ (congrArg Bool.not hc27)
               refine RA.nil (fun _ => by kernel_rfl) ?_
               exact CanR.mk (fun κ => cond (Nat.beq κ 213) 210 (cond (Nat.beq κ 214) 211 (κ))) ⟨_, (by omega), _, _, _, _, _, _, _, _, _, _, H, rfl⟩ ⟨rfl, rfl, rfl, rfl, rfl, rfl, trivial⟩ ⟨rfl, rfl, trivial⟩ rfl
              ·rw [if_neg hc30] at H
               cases H
             ·rw [if_neg hc29] at H
              cases H
            ·rw [if_neg hc28] at H
             refine RA.skip rfl rfl rfl rfl rfl (decide_eq_false hc28) (by decide) ?_
             refine RA.skip rfl rfl rfl rfl rfl (decide_eq_false hc28) (by decide) ?_
             refine RA.skip rfl rfl rfl rfl rfl (decide_eq_false hc28) (by decide) ?_
             refine RA.skip rfl rfl rfl rfl rfl (decide_eq_false hc28) (by decide) ?_
             refine RA.skip rfl rfl rfl rfl rfl (decide_eq_false hc28) (by decide) ?_
             refine RA.skip rfl rfl rfl rfl rfl (decide_eq_false hc28) (by decide) ?_
             refine RA.skip rfl rfl rfl rfl rfl (decide_eq_false hc28) (by decide) ?_
             refine RA.skip rfl rfl rfl rfl rfl (decide_eq_false hc28) (by decide) ?_
             refine RA.skip rfl rfl rfl rfl rfl (decide_eq_false hc28) (by decide) ?_
             refine RA.skip rfl rfl rfl rfl rfl (decide_eq_false hc28) (by decide) ?_
             refine a_pick (b := false) (v := vB _) ?_ (decide_eq_false hc28) (hg := Gs.yes rfl rfl rfl (congrArg Bool.not hc27))
             refine a_pick (b := false) (v := vB _) ?_ (congrArg Bool.not hc27)
             refine RA.nil (fun _ => by kernel_rfl) ?_
             exact CanR.mk (fun κ => cond (Nat.beq κ 213) 210 (cond (Nat.beq κ 214) 211 (κ))) ⟨_, (by omega), _, _, _, _, _, _, _, _, _, _, H, rfl⟩ ⟨rfl, rfl, rfl, rfl, rfl, rfl, trivial⟩ ⟨rfl, rfl, trivial⟩ rfl
           ·rw [if_neg hc27] at H
            refine RA.skip rfl rfl rfl rfl rfl (congrArg Bool.not (Bool.eq_false_iff.2 hc27)) (by decide) ?_
            refine RA.skip rfl rfl rfl rfl rfl (congrArg Bool.not (Bool.eq_false_iff.2 hc27)) (by decide) ?_
            refine RA.skip rfl rfl rfl rfl rfl (congrArg Bool.not (Bool.eq_false_iff.2 hc27)) (by decide) ?_
            refine RA.skip0 rfl rfl rfl rfl rfl ?_
            refine RA.skip0 rfl rfl rfl rfl rfl ?_
            refine RA.skip0 rfl rfl rfl rfl rfl ?_
            refine RA.skip0 rfl rfl rfl rfl rfl ?_
            refine RA.skip0 rfl rfl rfl rfl rfl ?_
            refine RA.skip0 rfl rfl rfl rfl rfl ?_
            refine RA.skip0 rfl rfl rfl rfl rfl ?_
            refine RA.skip0 rfl rfl rfl rfl rfl ?_
            refine RA.skip0 rfl rfl rfl rfl rfl ?_
            refine RA.skip0 rfl rfl rfl rfl rfl ?_
            refine RA.skip rfl rfl rfl rfl rfl (congrArg Bool.not (Bool.eq_false_iff.2 hc27)) (by decide) ?_
            refine a_pick (b := true) (v := vB _) ?_ (congrArg Bool.not (Bool.eq_false_iff.2 hc27))
            refine RA.nil (fun _ => by kernel_rfl) ?_
            exact CanR.mk (fun κ => cond (Nat.beq κ 213) 210 (cond (Nat.beq κ 214) 211 (κ))) ⟨_, (by omega), _, _, _, _, _, _, _, _, _, _, H, rfl⟩ ⟨rfl, rfl, rfl, rfl, rfl, rfl, trivial⟩ ⟨rfl, rfl, trivial⟩ rfl
          ·clear H
           rintro _ ⟨k, hj2, y213_0, y213_1, y213_2, y213_3, y214_0, y214_1, x63, x64, x65, x89, H, rfl⟩
           cases k with
           | zero => cases H
           | succ k =>
            rw [impl_ValidDrawing.j2] at H
            by_cases hc31 : x89 = true
            ·rw [if_pos hc31] at H
             refine AG.yes rfl hc31 ?_
             refine AG.seq ?_
             refine AG.region HM ?_
             refine a_move (v := vB _) ?_
             refine RA.nil nofun ?_
             refine AG.ret ?_
             obtain rfl := Option.some.inj H
             exact RetP.mk id ⟨rfl, trivial⟩ trivial rfl
            ·rw [if_neg hc31] at H
             refine AG.no rfl (Bool.eq_false_iff.2 hc31) ?_
             refine AG.skip ?_
             refine AG.seq ?_
             refine AG.region HM ?_
             refine a_faB (q := 2) ?_ D49_2
             refine a_ldB (v := vR _ _) ?_ T46
             refine a_faB (q := 1) ?_ D101_1
             refine a_ldB (v := vR _ _) ?_ T23
             obtain ⟨⟨t32, t33⟩, e34, H⟩ := bindO H
             refine a_call (v := .tup [.c (.own 215 t32.length), .c (.d (.v (.bool t33)))]) (nk := [(215, .row 108 (t32.map c107))]) (L := []) ?_ rfl (impl_ringPolygon.ok e34) (fun κ => cond (Nat.beq κ 215) 100 (κ)) (qd (qd qn)) trivial ⟨rfl, trivial⟩ ⟨rfl, trivial⟩ rfl
             refine a_move (v := .tup [_, _]) ?_
             refine a_ext (v := .c (.own _ _)) ?_
             refine a_ext (v := vB _) ?_
             refine a_move (v := .c (.own _ _)) ?_
             refine a_move (v := vB _) ?_
             refine RA.nil nofun ?_
             refine AG.seq ?_
             refine AG.region HM ?_
             refine a_move (v := vB _) ?_
             refine a_un (u := .bool (!t33)) ?_
             refine a_move (v := vB _) ?_
             by_cases hc35 : t33 = true
             ·rw [if_pos hc35] at H
              refine a_move (v := .c (.own _ _)) ?_ (hg := Gs.yes rfl rfl rfl (congrArg Bool.not hc35))
              obtain ⟨t36, e37, H⟩ := bindO H
              refine a_call (v := vB t36) (nk := []) (L := [(215, _)]) ?_ rfl (impl_ValidPolygon.ok e37) id (qc rO qn) ⟨rfl, trivial⟩ trivial trivial rfl (hg := Gs.yes rfl rfl rfl (congrArg Bool.not hc35))
              refine a_un (u := .bool (!t36)) ?_ (hg := Gs.yes rfl rfl rfl (congrArg Bool.not hc35))
              refine a_pick (b := false) (v := vB _) ?_ (congrArg Bool.not hc35)
              refine RA.nil nofun ?_
              by_cases hc38 : t36 = true
              ·rw [if_pos hc38] at H
               refine AG.no rfl (congrArg Bool.not hc38) ?_
               refine AG.skip ?_
               refine AG.region HM ?_
               refine a_int (u := .int .i64 (wrap64 (x65 + 1))) ?_
               refine a_move (v := vI _) ?_
               refine RA.nil nofun ?_
               exact AGr.canon (fun κ => cond (Nat.beq κ 210) 213 (κ)) (ih1 _ (by omega) _ ⟨by omega, _, _, _, _, _, _, _, H, rfl⟩) ⟨rfl, rfl, rfl, rfl, trivial⟩ ⟨rfl, trivial⟩ rfl
              ·rw [if_neg hc38] at H
               refine AG.yes rfl (congrArg Bool.not (Bool.eq_false_iff.2 hc38)) ?_
               refine AG.seq ?_
               refine AG.region HM ?_
               refine a_move (v := vB _) ?_
               refine RA.nil nofun ?_
               refine AG.ret ?_
               obtain rfl := Option.some.inj H
               exact RetP.mk id ⟨rfl, trivial⟩ trivial rfl
             ·rw [if_neg hc35] at H
              refine RA.skip rfl rfl rfl rfl rfl (congrArg Bool.not (Bool.eq_false_iff.2 hc35)) (by decide) ?_
              refine RA.skip rfl rfl rfl rfl rfl (congrArg Bool.not (Bool.eq_false_iff.2 hc35)) (by decide) ?_
              refine RA.skip rfl rfl rfl rfl rfl (congrArg Bool.not (Bool.eq_false_iff.2 hc35)) (by decide) ?_
              refine a_pick (b := true) (v := vB _) ?_ (congrArg Bool.not (Bool.eq_false_iff.2 hc35))
              refine RA.nil nofun ?_
              refine AG.yes rfl rfl ?_
              refine AG.seq ?_
              refine AG.region HM ?_
              refine a_move (v := vB _) ?_
              refine RA.nil nofun ?_
              refine AG.ret ?_
              obtain rfl := Option.some.inj H
              exact RetP.mk id ⟨rfl, trivial⟩ trivial rfl
         ·rw [if_neg hc24] at H
          cases H
        ·rw [if_neg hc23] at H
         cases H
       ·rw [if_neg hc22] at H
        refine AG.no rfl (decide_eq_false hc22) ?_
        refine AG.exit ?_
        refine AG.seq ?_
        refine AG.region HM ?_
        refine a_move (v := vB _) ?_
        refine RA.nil nofun ?_
        refine AG.ret ?_
        obtain rfl := Option.some.inj H
        exact RetP.mk id ⟨rfl, trivial⟩ trivial rfl
/-! ### impl_GrainAngle: function 101 -/
def impl_GrainAngle.f (a0 : Int) (a1 : Int) : Option (Int × Int) := (impl_within.f a0 0 179).bind fun t1 => (if t1 = true then ((impl_within.f a1 0 179).bind fun t4 => (if t4 = true then (some (mn (mx (wrap64 (a0 - a1)) (wrap64 (a1 - a0))) (wrap64 (180 - (mx (wrap64 (a0 - a1)) (wrap64 (a1 - a0))))), 0)) else (some (0, 2)))) else (some (0, 2)))
set_option maxRecDepth 100000 in
theorem impl_GrainAngle.ok {a0 : Int} {a1 : Int} {r0 : Int} {r1 : Int} (H : impl_GrainAngle.f a0 a1 = some (r0, r1)) : OkF Try.prog 101 [vI a0, vI a1] [] (.tup [.c (.d (.v (.int .i64 r0))), .c (.d (.v (.int .i64 r1)))]) [] := by
 unfold impl_GrainAngle.f at H
 refine OkF.of (N := 26) (rs := [4, 5]) (avs := [.c (.d (.v (.int .i64 r0))), .c (.d (.v (.int .i64 r1)))]) Try.func101 rfl rfl (fun _ _ => results_tmp2 rfl _ _ _) (by decide) rfl rfl rfl rfl (fun w0 S => ?_)
 refine AG.seq ?_
 refine AG.region HM ?_
 refine a_move (v := vI _) ?_
 refine a_move (v := vI _) ?_
 refine RA.nil nofun ?_
 refine AG.seq ?_
 refine AG.seq ?_
 refine AG.region HM ?_
 refine a_move (v := vI _) ?_
 obtain ⟨t1, e2, H⟩ := bindO H
 refine a_call (v := vB t1) (nk := []) (L := []) ?_ rfl (impl_within.ok e2) id (qd (qd (qd qn))) trivial trivial trivial rfl
 refine a_un (u := .bool (!t1)) ?_
 refine a_move (v := vB _) ?_
 by_cases hc3 : t1 = true
 ·rw [if_pos hc3] at H
  refine a_move (v := vI _) ?_ (hg := Gs.yes rfl rfl rfl (congrArg Bool.not hc3))
  obtain ⟨t4, e5, H⟩ := bindO H
  refine a_call (v := vB t4) (nk := []) (L := []) ?_ rfl (impl_within.ok e5) id (qd (qd (qd qn))) trivial trivial trivial rfl (hg := Gs.yes rfl rfl rfl (congrArg Bool.not hc3))
  refine a_un (u := .bool (!t4)) ?_ (hg := Gs.yes rfl rfl rfl (congrArg Bool.not hc3))
  refine a_pick (b := false) (v := vB _) ?_ (congrArg Bool.not hc3)
  refine RA.nil nofun ?_
  by_cases hc6 : t4 = true
  ·rw [if_pos hc6] at H
   refine AG.no rfl (congrArg Bool.not hc6) ?_
   refine AG.skip ?_
   refine AG.seq ?_
   refine AG.region HM ?_
   refine a_move (v := vI _) ?_
   refine a_move (v := vI _) ?_
   refine a_int (u := .int .i64 (wrap64 (a0 - a1))) ?_
   refine a_move (v := vI _) ?_
   refine a_move (v := vI _) ?_
   refine a_int (u := .int .i64 (wrap64 (a1 - a0))) ?_
   refine a_minmax (mx := true) (r := mx (wrap64 (a0 - a1)) (wrap64 (a1 - a0))) ?_
   refine a_move (v := vI _) ?_
   refine RA.nil nofun ?_
   refine AG.seq ?_
   refine AG.region HM ?_
   refine a_move (v := vI _) ?_
   refine a_move (v := vI _) ?_
   refine a_int (u := .int .i64 (wrap64 (180 - (mx (wrap64 (a0 - a1)) (wrap64 (a1 - a0)))))) ?_
   refine a_minmax (mx := false) (r := mn (mx (wrap64 (a0 - a1)) (wrap64 (a1 - a0))) (wrap64 (180 - (mx (wrap64 (a0 - a1)) (wrap64 (a1 - a0)))))) ?_
   refine a_move (v := vI _) ?_
   refine a_move (v := vI _) ?_
   refine RA.nil nofun ?_
   refine AG.ret ?_
   simp only [Option.some.injEq, Prod.mk.injEq] at H
   obtain ⟨rfl, rfl⟩ := H
   exact RetP.mk id ⟨rfl, rfl, trivial⟩ trivial rfl
  ·rw [if_neg hc6] at H
   refine AG.yes rfl (congrArg Bool.not (Bool.eq_false_iff.2 hc6)) ?_
   refine AG.seq ?_
   refine AG.region HM ?_
   refine a_move (v := vI _) ?_
   refine a_move (v := vI _) ?_
   refine RA.nil nofun ?_
   refine AG.ret ?_
   simp only [Option.some.injEq, Prod.mk.injEq] at H
   obtain ⟨rfl, rfl⟩ := H
   exact RetP.mk id ⟨rfl, rfl, trivial⟩ trivial rfl
 ·rw [if_neg hc3] at H
  refine RA.skip rfl rfl rfl rfl rfl (congrArg Bool.not (Bool.eq_false_iff.2 hc3)) (by decide) ?_
  refine RA.skip rfl rfl rfl rfl rfl (congrArg Bool.not (Bool.eq_false_iff.2 hc3)) (by decide) ?_
  refine RA.skip rfl rfl rfl rfl rfl (congrArg Bool.not (Bool.eq_false_iff.2 hc3)) (by decide) ?_
  refine a_pick (b := true) (v := vB _) ?_ (congrArg Bool.not (Bool.eq_false_iff.2 hc3))
  refine RA.nil nofun ?_
  refine AG.yes rfl rfl ?_
  refine AG.seq ?_
  refine AG.region HM ?_
  refine a_move (v := vI _) ?_
  refine a_move (v := vI _) ?_
  refine RA.nil nofun ?_
  refine AG.ret ?_
  simp only [Option.some.injEq, Prod.mk.injEq] at H
  obtain ⟨rfl, rfl⟩ := H
  exact RetP.mk id ⟨rfl, rfl, trivial⟩ trivial rfl
/-! ### impl_contrast: function 81 -/
def impl_contrast.f (a0_0 : ByteArray) (a0_1 : Int) (a0_2 : Int) (a1_0 : ByteArray) (a1_1 : Int) (a1_2 : Int) : Option (Int) := (impl_GrainAngle.f a0_2 a1_2).bind fun bt1 => (some (wrap64 ((mx (wrap64 (a0_1 - a1_1)) (wrap64 (a1_1 - a0_1))) + (wrap64 (Int.tdiv bt1.1 6)))))
set_option maxRecDepth 100000 in
theorem impl_contrast.ok {a0_0 : ByteArray} {a0_1 : Int} {a0_2 : Int} {a1_0 : ByteArray} {a1_1 : Int} {a1_2 : Int} {r : Int} (H : impl_contrast.f a0_0 a0_1 a0_2 a1_0 a1_1 a1_2 = some r) : OkF Try.prog 81 [.agg [.d (.v (.string a0_0)), .d (.v (.int .i64 a0_1)), .d (.v (.int .i64 a0_2))], .agg [.d (.v (.string a1_0)), .d (.v (.int .i64 a1_1)), .d (.v (.int .i64 a1_2))]] [] (.c (.d (.v (.int .i64 r)))) [] := by
 unfold impl_contrast.f at H
 refine OkF.of (N := 29) (rs := [4]) (avs := [.c (.d (.v (.int .i64 r)))]) Try.func81 rfl rfl (fun _ _ => results_tmp rfl _ _ _) (by decide) rfl rfl rfl rfl (fun w0 S => ?_)
 refine AG.seq ?_
 refine AG.region HM ?_
 refine a_box 200 ?_
 refine a_box 201 ?_
 refine a_move (v := vI _) ?_
 refine RA.nil nofun ?_
 refine AG.seq ?_
 refine AG.region HM ?_
 refine a_faB (q := 2) ?_ D90_2
 refine a_ldB (v := vI _) ?_ T2
 refine a_faB (q := 2) ?_ D90_2
 refine a_ldB (v := vI _) ?_ T2
 obtain ⟨⟨t1, t2⟩, e3, H⟩ := bindO H
 refine a_call (v := .tup [.c (.d (.v (.int .i64 t1))), .c (.d (.v (.int .i64 t2)))]) (nk := []) (L := []) ?_ rfl (impl_GrainAngle.ok e3) id (qd (qd qn)) trivial trivial trivial rfl
 refine a_move (v := .tup [_, _]) ?_
 refine a_ext (v := vI _) ?_
 refine a_ext (v := vI _) ?_
 refine a_move (v := vI _) ?_
 refine a_move (v := vI _) ?_
 refine RA.nil nofun ?_
 refine AG.seq ?_
 refine AG.region HM ?_
 refine a_faB (q := 1) ?_ D90_1
 refine a_ldB (v := vI _) ?_ T2
 refine a_faB (q := 1) ?_ D90_1
 refine a_ldB (v := vI _) ?_ T2
 refine a_int (u := .int .i64 (wrap64 (a0_1 - a1_1))) ?_
 refine a_faB (q := 1) ?_ D90_1
 refine a_ldB (v := vI _) ?_ T2
 refine a_faB (q := 1) ?_ D90_1
 refine a_ldB (v := vI _) ?_ T2
 refine a_int (u := .int .i64 (wrap64 (a1_1 - a0_1))) ?_
 refine a_minmax (mx := true) (r := mx (wrap64 (a0_1 - a1_1)) (wrap64 (a1_1 - a0_1))) ?_
 refine a_move (v := vI _) ?_
 refine a_quo (r := wrap64 (Int.tdiv t1 6)) ?_ (show ¬ (6 : Int) = 0 from by decide)
 refine a_int (u := .int .i64 (wrap64 ((mx (wrap64 (a0_1 - a1_1)) (wrap64 (a1_1 - a0_1))) + (wrap64 (Int.tdiv t1 6))))) ?_
 refine a_move (v := vI _) ?_
 refine RA.nil nofun ?_
 refine AG.ret ?_
 obtain rfl := Option.some.inj H
 exact RetP.mk id ⟨rfl, trivial⟩ trivial rfl
/-! ### impl_sheetContrasts: function 49 -/
mutual
def impl_sheetContrasts.l0 : Nat → List S86 → List Int → Int → Int → Option ((List Int))
 | 0, _, _, _, _ => none
 | k + 1, x0, x3, x11, x12 => if x12 < x11 then (impl_sheetContrasts.l1 k x0 x3 x12 (-1) x11 x12 x0 (x0.length : Int) 0) else (some x3)
def impl_sheetContrasts.l1 : Nat → List S86 → List Int → Int → Int → Int → Int → List S86 → Int → Int → Option ((List Int))
 | 0, _, _, _, _, _, _, _, _, _ => none
 | k + 1, x0, x3, x4, x5, x11, x12, x15, x16, x17 => if x17 < x16 then (if 0 ≤ x17 then (if x17 < (x15.length : Int) then (if (x0.length : Int) = 0 then (none) else (if 0 ≤ (Int.tmod (wrap64 (x17 + x4)) (x0.length : Int)) then (if (Int.tmod (wrap64 (x17 + x4)) (x0.length : Int)) < (x0.length : Int) then ((impl_contrast.f ((rd86 x15 x17).f0) ((rd86 x15 x17).f1) ((rd86 x15 x17).f2) ((rd86 x0 (Int.tmod (wrap64 (x17 + x4)) (x0.length : Int))).f0) ((rd86 x0 (Int.tmod (wrap64 (x17 + x4)) (x0.length : Int))).f1) ((rd86 x0 (Int.tmod (wrap64 (x17 + x4)) (x0.length : Int))).f2)).bind fun t9 => (if x5 < 0 then (impl_sheetContrasts.l1 k x0 x3 x4 t9 x11 x12 x15 x16 (wrap64 (x17 + 1))) else (if t9 < x5 then (impl_sheetContrasts.l1 k x0 x3 x4 t9 x11 x12 x15 x16 (wrap64 (x17 + 1))) else (impl_sheetContrasts.l1 k x0 x3 x4 x5 x11 x12 x15 x16 (wrap64 (x17 + 1)))))) else (none)) else (none))) else (none)) else (none)) else (if x3.length < 17592186044416 then (impl_sheetContrasts.l0 k x0 (x3 ++ [x5]) x11 (wrap64 (x12 + 1))) else (none))
end
def impl_sheetContrasts.f (k : Nat) (l0 : List S86) : Option ((List Int)) := impl_sheetContrasts.l0 k l0 (([] : List Int) : List Int) (l0.length : Int) 0
set_option maxRecDepth 100000 in
theorem impl_sheetContrasts.ok {k : Nat} {l0 : List S86} {r : List Int} (H : impl_sheetContrasts.f k l0 = some r) : OkF Try.prog 49 [vR 90 (l0.map c86)] [] (.c (.own 100 r.length)) [(100, .row 2 (r.map c2))] := by
 unfold impl_sheetContrasts.f at H
 refine OkF.of (N := 48) (rs := [2]) (avs := [.c (.own 100 r.length)]) Try.func49 rfl rfl (fun _ _ => results_tmp rfl _ _ _) (by decide) rfl rfl rfl rfl (fun w0 S => ?_)
 refine AG.seq ?_
 refine AG.region HM ?_
 refine a_nilO (e := 2) 200 ?_ T2
 refine RA.nil nofun ?_
 refine AG.seq ?_
 refine AG.region HM ?_
 refine a_lit (cs := []) (D := []) (css := (([] : List Int) : List Int).map c2) 201 ?_ N23 T2 (hcss := by rfl)
 refine a_move (v := .c (.own _ _)) ?_
 refine RA.nil nofun ?_
 refine AG.seq ?_
 refine AG.seq ?_
 refine AG.region HM ?_
 refine a_move (v := vR _ _) ?_
 refine a_lenR ?_ Try.underlying30
 refine a_move (v := vI _) ?_
 refine RA.nil nofun ?_
 refine AG.block ?_
 refine AG.loop ?_
 obtain ⟨K0, hK0, gK0⟩ : ∃ K, k ≤ K ∧ K ≤ k := ⟨k, Nat.le_refl k, Nat.le_refl k⟩
 refine AGr.canon (fun κ => cond (Nat.beq κ 202) 201 (κ)) (AGr.loopI (n := k) (fun k s => k ≤ K0 ∧ ∃ (x0 : List S86) (x3 : List Int) (x11 : Int) (x12 : Int), impl_sheetContrasts.l0 k x0 x3 x11 x12 = some r ∧ s = St.of [(0, vR 90 (x0.map c86)), (3, .c (.own 202 x3.length)), (11, vI x11), (12, vI x12)] [(202, .row 2 (x3.map c2))]) ⟨hK0, _, _, _, _, H, rfl⟩ ?_ ?_) ⟨rfl, (ownE rfl (by simp)), rfl, rfl, trivial⟩ ⟨rfl, trivial⟩ rfl
 ·rintro _ ⟨_, _, _, _, _, H, _⟩
  cases H
 ·clear H hK0
  rintro k ih0 _ ⟨hK0, x0, x3, x11, x12, H, rfl⟩
  unfold impl_sheetContrasts.l0 at H
  refine AG.seq ?_
  refine AG.region HM ?_
  refine a_int (u := .bool (decide (x12 < x11))) ?_
  refine RA.nil nofun ?_
  refine AG.seq ?_
  by_cases hc2 : x12 < x11
  ·rw [if_pos hc2] at H
   refine AG.yes rfl (decide_eq_true hc2) ?_
   refine AG.skip ?_
   refine AG.seq ?_
   refine AG.block ?_
   refine AG.seq ?_
   refine AG.region HM ?_
   refine a_move (v := vI _) ?_
   refine a_move (v := vI _) ?_
   refine RA.nil nofun ?_
   refine AG.seq ?_
   refine AG.region HM ?_
   refine a_move (v := vI _) ?_
   refine RA.nil nofun ?_
   refine AG.seq ?_
   refine AG.seq ?_
   refine AG.region HM ?_
   refine a_move (v := vR _ _) ?_
   refine a_lenR ?_ Try.underlying30
   refine a_move (v := vI _) ?_
   refine RA.nil nofun ?_
   refine AG.block ?_
   refine AG.loop ?_
   obtain ⟨K1, hK1, gK1⟩ : ∃ K, k ≤ K ∧ K ≤ k := ⟨k, Nat.le_refl k, Nat.le_refl k⟩
   refine AGr.canon (fun κ => cond (Nat.beq κ 203) 202 (κ)) (AGr.loopI (n := k) (fun k s => k ≤ K1 ∧ ∃ (x0 : List S86) (x3 : List Int) (x4 : Int) (x5 : Int) (x11 : Int) (x12 : Int) (x15 : List S86) (x16 : Int) (x17 : Int), impl_sheetContrasts.l1 k x0 x3 x4 x5 x11 x12 x15 x16 x17 = some r ∧ s = St.of [(0, vR 90 (x0.map c86)), (3, .c (.own 203 x3.length)), (4, vI x4), (5, vI x5), (11, vI x11), (12, vI x12), (15, vR 90 (x15.map c86)), (16, vI x16), (17, vI x17)] [(203, .row 2 (x3.map c2))]) ⟨hK1, _, _, _, _, _, _, _, _, _, H, rfl⟩ ?_ ?_) ⟨rfl, rfl, rfl, rfl, rfl, rfl, rfl, rfl, rfl, trivial⟩ ⟨rfl, trivial⟩ rfl
   ·rintro _ ⟨_, _, _, _, _, _, _, _, _, _, H, _⟩
    cases H
   ·clear H hK1
    rintro k ih1 _ ⟨hK1, x0, x3, x4, x5, x11, x12, x15, x16, x17, H, rfl⟩
    unfold impl_sheetContrasts.l1 at H
    refine AG.seq ?_
    refine AG.region HM ?_
    refine a_int (u := .bool (decide (x17 < x16))) ?_
    refine RA.nil nofun ?_
    refine AG.seq ?_
    by_cases hc3 : x17 < x16
    ·rw [if_pos hc3] at H
     refine AG.yes rfl (decide_eq_true hc3) ?_
     refine AG.skip ?_
     refine AG.seq ?_
     refine AG.block ?_
     refine AG.seq ?_
     refine AG.region HM ?_
     refine a_move (v := vI _) ?_
     by_cases hc4 : 0 ≤ x17
     ·rw [if_pos hc4] at H
      by_cases hc5 : x17 < (x15.length : Int)
      ·rw [if_pos hc5] at H
       refine a_ixR (el := c86 (rd86 x15 x17)) ?_ ⟨hc4, hc5⟩ T90 Try.underlying30 (hel := R86 hc4 hc5)
       refine a_ldR (v := .agg [_, _, _]) ?_ T90
       refine a_alloc (cs := [_, _, _]) 204 ?_ T90
       refine a_move (v := vI _) ?_
       refine a_stB (cs' := [_, _, _]) ?_ T90
       refine RA.nil nofun ?_
       refine AG.seq ?_
       refine AG.region HM ?_
       refine a_ldB (v := .agg [_, _, _]) ?_ T90
       refine a_move (v := vR _ _) ?_
       refine a_move (v := vI _) ?_
       refine a_move (v := vI _) ?_
       refine a_int (u := .int .i64 (wrap64 (x17 + x4))) ?_
       refine a_move (v := vR _ _) ?_
       refine a_lenR ?_ Try.underlying30
       by_cases hc6 : (x0.length : Int) = 0
       ·rw [if_pos hc6] at H
        cases H
       ·rw [if_neg hc6] at H
        refine a_rem (r := Int.tmod (wrap64 (x17 + x4)) (x0.length : Int)) ?_ hc6
        by_cases hc7 : 0 ≤ (Int.tmod (wrap64 (x17 + x4)) (x0.length : Int))
        ·rw [if_pos hc7] at H
         by_cases hc8 : (Int.tmod (wrap64 (x17 + x4)) (x0.length : Int)) < (x0.length : Int)
         ·rw [if_pos hc8] at H
          refine a_ixR (el := c86 (rd86 x0 (Int.tmod (wrap64 (x17 + x4)) (x0.length : Int)))) ?_ ⟨hc7, hc8⟩ T90 Try.underlying30 (hel := R86 hc7 hc8)
          refine a_ldR (v := .agg [_, _, _]) ?_ T90
          obtain ⟨t9, e10, H⟩ := bindO H
          refine a_call (v := vI t9) (nk := []) (L := []) ?_ rfl (impl_contrast.ok e10) id (qg (qg qn)) trivial trivial trivial rfl
          refine a_move (v := vI _) ?_
          refine RA.nil (fun _ => by kernel_rfl) ?_
          refine AG.seq ?_
          refine AG.region HM ?_
          refine a_move (v := vI _) ?_
          refine a_int (u := .bool (decide (x5 < 0))) ?_
          refine a_move (v := vB _) ?_
          by_cases hc11 : x5 < 0
          ·rw [if_pos hc11] at H
           refine RA.skip rfl rfl rfl rfl rfl (decide_eq_true hc11) (by decide) ?_
           refine RA.skip rfl rfl rfl rfl rfl (decide_eq_true hc11) (by decide) ?_
           refine RA.skip rfl rfl rfl rfl rfl (decide_eq_true hc11) (by decide) ?_
           refine a_pick (b := true) (v := vB _) ?_ (decide_eq_true hc11)
           refine RA.nil nofun ?_
           refine AG.yes rfl rfl ?_
           refine AG.region HM ?_
           refine a_move (v := vI _) ?_
           refine a_move (v := vI _) ?_
           refine RA.nil nofun ?_
           refine AG.region HM ?_
           refine a_int (u := .int .i64 (wrap64 (x17 + 1))) ?_
           refine a_move (v := vI _) ?_
           refine RA.nil nofun ?_
           exact AGr.canon id (ih1 _ (by omega) _ ⟨by omega, _, _, _, _, _, _, _, _, _, H, rfl⟩) ⟨rfl, rfl, rfl, rfl, rfl, rfl, rfl, rfl, rfl, trivial⟩ ⟨rfl, trivial⟩ rfl
          ·rw [if_neg hc11] at H
           refine a_move (v := vI _) ?_ (hg := Gs.yes rfl rfl rfl (decide_eq_false hc11))
           refine a_move (v := vI _) ?_ (hg := Gs.yes rfl rfl rfl (decide_eq_false hc11))
           refine a_int (u := .bool (decide (t9 < x5))) ?_ (hg := Gs.yes rfl rfl rfl (decide_eq_false hc11))
           refine a_pick (b := false) (v := vB _) ?_ (decide_eq_false hc11)
           refine RA.nil nofun ?_
           by_cases hc12 : t9 < x5
           ·rw [if_pos hc12] at H
            refine AG.yes rfl (decide_eq_true hc12) ?_
            refine AG.region HM ?_
            refine a_move (v := vI _) ?_
            refine a_move (v := vI _) ?_
            refine RA.nil nofun ?_
            refine AG.region HM ?_
            refine a_int (u := .int .i64 (wrap64 (x17 + 1))) ?_
            refine a_move (v := vI _) ?_
            refine RA.nil nofun ?_
            exact AGr.canon id (ih1 _ (by omega) _ ⟨by omega, _, _, _, _, _, _, _, _, _, H, rfl⟩) ⟨rfl, rfl, rfl, rfl, rfl, rfl, rfl, rfl, rfl, trivial⟩ ⟨rfl, trivial⟩ rfl
           ·rw [if_neg hc12] at H
            refine AG.no rfl (decide_eq_false hc12) ?_
            refine AG.skip ?_
            refine AG.region HM ?_
            refine a_int (u := .int .i64 (wrap64 (x17 + 1))) ?_
            refine a_move (v := vI _) ?_
            refine RA.nil nofun ?_
            exact AGr.canon id (ih1 _ (by omega) _ ⟨by omega, _, _, _, _, _, _, _, _, _, H, rfl⟩) ⟨rfl, rfl, rfl, rfl, rfl, rfl, rfl, rfl, rfl, trivial⟩ ⟨rfl, trivial⟩ rfl
         ·rw [if_neg hc8] at H
          cases H
        ·rw [if_neg hc7] at H
         cases H
      ·rw [if_neg hc5] at H
       cases H
     ·rw [if_neg hc4] at H
      cases H
    ·rw [if_neg hc3] at H
     refine AG.no rfl (decide_eq_false hc3) ?_
     refine AG.exit ?_
     refine AG.region HM ?_
     refine a_move (v := .c (.own _ _)) ?_
     refine a_move (v := vI _) ?_
     refine a_lit (cs := [_]) (D := []) (css := ([x5]).map c2) 206 ?_ N23 T2
     by_cases hc13 : x3.length < 17592186044416
     ·rw [if_pos hc13] at H
      refine a_appO (css' := (x3 ++ [x5]).map c2) (n' := (x3 ++ [x5]).length) ?_ T2 (by simp [maxLen]; omega) (by simp; omega) Try.underlying23 (hc := by exact List.map_append.symm) (hn := by exact List.length_map _)
      refine a_move (v := .c (.own _ _)) ?_
      refine RA.nil nofun ?_
      refine AG.region HM ?_
      refine a_int (u := .int .i64 (wrap64 (x12 + 1))) ?_
      refine a_move (v := vI _) ?_
      refine RA.nil nofun ?_
      exact AGr.canon (fun κ => cond (Nat.beq κ 202) 203 (κ)) (ih0 _ (by omega) _ ⟨by omega, _, _, _, _, H, rfl⟩) ⟨rfl, rfl, rfl, rfl, trivial⟩ ⟨rfl, trivial⟩ rfl
     ·rw [if_neg hc13] at H
      cases H
  ·rw [if_neg hc2] at H
   refine AG.no rfl (decide_eq_false hc2) ?_
   refine AG.exit ?_
   refine AG.seq ?_
   refine AG.region HM ?_
   refine a_move (v := .c (.own _ _)) ?_
   refine a_move (v := .c (.own _ _)) ?_
   refine RA.nil nofun ?_
   refine AG.ret ?_
   obtain rfl := Option.some.inj H
   exact RetP.mk (fun κ => cond (Nat.beq κ 100) 202 (κ)) ⟨rfl, trivial⟩ ⟨rfl, trivial⟩ rfl
/-! ### impl_ringEdges: function 82 -/
def impl_ringEdges.l0 : Nat → List Int → List S125 → List Int → Int → Int → Option ((List S125))
 | 0, _, _, _, _, _ => none
 | k + 1, x0, x3, x8, x9, x10 => if x10 < x9 then (if 0 ≤ x10 then (if x10 < (x8.length : Int) then (if (x0.length : Int) = 0 then (none) else (if 0 ≤ (Int.tmod (wrap64 (x10 + 1)) (x0.length : Int)) then (if (Int.tmod (wrap64 (x10 + 1)) (x0.length : Int)) < (x0.length : Int) then (if x3.length < 8796093022208 then (impl_ringEdges.l0 k x0 (x3 ++ [(⟨mn (rd2 x8 x10) (rd2 x0 (Int.tmod (wrap64 (x10 + 1)) (x0.length : Int))), mx (rd2 x8 x10) (rd2 x0 (Int.tmod (wrap64 (x10 + 1)) (x0.length : Int)))⟩ : S125)]) x8 x9 (wrap64 (x10 + 1))) else (none)) else (none)) else (none))) else (none)) else (none)) else (some x3)
def impl_ringEdges.f (k : Nat) (l0 : List Int) : Option ((List S125)) := impl_ringEdges.l0 k l0 (([] : List S125) : List S125) l0 (l0.length : Int) 0
set_option maxRecDepth 100000 in
theorem impl_ringEdges.ok {k : Nat} {l0 : List Int} {r : List S125} (H : impl_ringEdges.f k l0 = some r) : OkF Try.prog 82 [vR 2 (l0.map c2)] [] (.c (.own 100 r.length)) [(100, .row 125 (r.map c125))] := by
 unfold impl_ringEdges.f at H
 refine OkF.of (N := 35) (rs := [2]) (avs := [.c (.own 100 r.length)]) Try.func82 rfl rfl (fun _ _ => results_tmp rfl _ _ _) (by decide) rfl rfl rfl rfl (fun w0 S => ?_)
 refine AG.seq ?_
 refine AG.region HM ?_
 refine a_nilO (e := 125) 200 ?_ T125
 refine RA.nil nofun ?_
 refine AG.seq ?_
 refine AG.region HM ?_
 refine a_lit (cs := []) (D := []) (css := (([] : List S125) : List S125).map c125) 201 ?_ N122 T125 (hcss := by rfl)
 refine a_move (v := .c (.own _ _)) ?_
 refine RA.nil nofun ?_
 refine AG.seq ?_
 refine AG.seq ?_
 refine AG.region HM ?_
 refine a_move (v := vR _ _) ?_
 refine a_lenR ?_ Try.underlying23
 refine a_move (v := vI _) ?_
 refine RA.nil nofun ?_
 refine AG.block ?_
 refine AG.loop ?_
 obtain ⟨K0, hK0, gK0⟩ : ∃ K, k ≤ K ∧ K ≤ k := ⟨k, Nat.le_refl k, Nat.le_refl k⟩
 refine AGr.canon (fun κ => cond (Nat.beq κ 202) 201 (κ)) (AGr.loopI (n := k) (fun k s => k ≤ K0 ∧ ∃ (x0 : List Int) (x3 : List S125) (x8 : List Int) (x9 : Int) (x10 : Int), impl_ringEdges.l0 k x0 x3 x8 x9 x10 = some r ∧ s = St.of [(0, vR 2 (x0.map c2)), (3, .c (.own 202 x3.length)), (8, vR 2 (x8.map c2)), (9, vI x9), (10, vI x10)] [(202, .row 125 (x3.map c125))]) ⟨hK0, _, _, _, _, _, H, rfl⟩ ?_ ?_) ⟨rfl, (ownE rfl (by simp)), rfl, rfl, rfl, trivial⟩ ⟨rfl, trivial⟩ rfl
 ·rintro _ ⟨_, _, _, _, _, _, H, _⟩
  cases H
 ·clear H hK0
  rintro k ih0 _ ⟨hK0, x0, x3, x8, x9, x10, H, rfl⟩
  unfold impl_ringEdges.l0 at H
  refine AG.seq ?_
  refine AG.region HM ?_
  refine a_int (u := .bool (decide (x10 < x9))) ?_
  refine RA.nil nofun ?_
  refine AG.seq ?_
  by_cases hc2 : x10 < x9
  ·rw [if_pos hc2] at H
   refine AG.yes rfl (decide_eq_true hc2) ?_
   refine AG.skip ?_
   refine AG.seq ?_
   refine AG.block ?_
   refine AG.seq ?_
   refine AG.region HM ?_
   refine a_move (v := vI _) ?_
   by_cases hc3 : 0 ≤ x10
   ·rw [if_pos hc3] at H
    by_cases hc4 : x10 < (x8.length : Int)
    ·rw [if_pos hc4] at H
     refine a_ixR (el := c2 (rd2 x8 x10)) ?_ ⟨hc3, hc4⟩ T2 Try.underlying23 (hel := R2 hc3 hc4)
     refine a_ldR (v := vI _) ?_ T2
     refine a_move (v := vI _) ?_
     refine a_move (v := vI _) ?_
     refine RA.nil nofun ?_
     refine AG.seq ?_
     refine AG.region HM ?_
     refine a_move (v := vR _ _) ?_
     refine a_move (v := vI _) ?_
     refine a_int (u := .int .i64 (wrap64 (x10 + 1))) ?_
     refine a_move (v := vR _ _) ?_
     refine a_lenR ?_ Try.underlying23
     by_cases hc5 : (x0.length : Int) = 0
     ·rw [if_pos hc5] at H
      cases H
     ·rw [if_neg hc5] at H
      refine a_rem (r := Int.tmod (wrap64 (x10 + 1)) (x0.length : Int)) ?_ hc5
      by_cases hc6 : 0 ≤ (Int.tmod (wrap64 (x10 + 1)) (x0.length : Int))
      ·rw [if_pos hc6] at H
       by_cases hc7 : (Int.tmod (wrap64 (x10 + 1)) (x0.length : Int)) < (x0.length : Int)
       ·rw [if_pos hc7] at H
        refine a_ixR (el := c2 (rd2 x0 (Int.tmod (wrap64 (x10 + 1)) (x0.length : Int)))) ?_ ⟨hc6, hc7⟩ T2 Try.underlying23 (hel := R2 hc6 hc7)
        refine a_ldR (v := vI _) ?_ T2
        refine a_move (v := vI _) ?_
        refine RA.nil nofun ?_
        refine AG.region HM ?_
        refine a_move (v := .c (.own _ _)) ?_
        refine a_move (v := vI _) ?_
        refine a_move (v := vI _) ?_
        refine a_minmax (mx := false) (r := mn (rd2 x8 x10) (rd2 x0 (Int.tmod (wrap64 (x10 + 1)) (x0.length : Int)))) ?_
        refine a_move (v := vI _) ?_
        refine a_move (v := vI _) ?_
        refine a_minmax (mx := true) (r := mx (rd2 x8 x10) (rd2 x0 (Int.tmod (wrap64 (x10 + 1)) (x0.length : Int)))) ?_
        refine a_buildA (cs := [_, _]) ?_ T125 Try.underlying125 T2 rfl
        refine a_lit (cs := [_, _]) (D := []) (css := ([(⟨mn (rd2 x8 x10) (rd2 x0 (Int.tmod (wrap64 (x10 + 1)) (x0.length : Int))), mx (rd2 x8 x10) (rd2 x0 (Int.tmod (wrap64 (x10 + 1)) (x0.length : Int)))⟩ : S125)]).map c125) 203 ?_ N122 T125
        by_cases hc8 : x3.length < 8796093022208
        ·rw [if_pos hc8] at H
         refine a_appO (css' := (x3 ++ [(⟨mn (rd2 x8 x10) (rd2 x0 (Int.tmod (wrap64 (x10 + 1)) (x0.length : Int))), mx (rd2 x8 x10) (rd2 x0 (Int.tmod (wrap64 (x10 + 1)) (x0.length : Int)))⟩ : S125)]).map c125) (n' := (x3 ++ [(⟨mn (rd2 x8 x10) (rd2 x0 (Int.tmod (wrap64 (x10 + 1)) (x0.length : Int))), mx (rd2 x8 x10) (rd2 x0 (Int.tmod (wrap64 (x10 + 1)) (x0.length : Int)))⟩ : S125)]).length) ?_ T125 (by simp [maxLen]; omega) (by simp; omega) Try.underlying122 (hc := by exact List.map_append.symm) (hn := by exact List.length_map _)
         refine a_move (v := .c (.own _ _)) ?_
         refine RA.nil nofun ?_
         refine AG.region HM ?_
         refine a_int (u := .int .i64 (wrap64 (x10 + 1))) ?_
         refine a_move (v := vI _) ?_
         refine RA.nil nofun ?_
         exact AGr.canon id (ih0 _ (by omega) _ ⟨by omega, _, _, _, _, _, H, rfl⟩) ⟨rfl, rfl, rfl, rfl, rfl, trivial⟩ ⟨rfl, trivial⟩ rfl
        ·rw [if_neg hc8] at H
         cases H
       ·rw [if_neg hc7] at H
        cases H
      ·rw [if_neg hc6] at H
       cases H
    ·rw [if_neg hc4] at H
     cases H
   ·rw [if_neg hc3] at H
    cases H
  ·rw [if_neg hc2] at H
   refine AG.no rfl (decide_eq_false hc2) ?_
   refine AG.exit ?_
   refine AG.seq ?_
   refine AG.region HM ?_
   refine a_move (v := .c (.own _ _)) ?_
   refine a_move (v := .c (.own _ _)) ?_
   refine RA.nil nofun ?_
   refine AG.ret ?_
   obtain rfl := Option.some.inj H
   exact RetP.mk (fun κ => cond (Nat.beq κ 100) 202 (κ)) ⟨rfl, trivial⟩ ⟨rfl, trivial⟩ rfl
/-! ### slices_Index_2_int64_2_int64: function 103 -/
def slices_Index_2_int64_2_int64.l0 : Nat → List S125 → Int → Int → Int → Int → Option (Int)
 | 0, _, _, _, _, _ => none
 | k + 1, x0, y201_0, y201_1, x7, x8 => if x8 < x7 then (if 0 ≤ x8 then (if x8 < (x0.length : Int) then (if (y201_0 == ((rd125 x0 x8).f0) && (y201_1 == ((rd125 x0 x8).f1))) = true then (some x8) else (slices_Index_2_int64_2_int64.l0 k x0 y201_0 y201_1 x7 (wrap64 (x8 + 1)))) else (none)) else (none)) else (some (-1))
def slices_Index_2_int64_2_int64.f (k : Nat) (l0 : List S125) (a1_0 : Int) (a1_1 : Int) : Option (Int) := slices_Index_2_int64_2_int64.l0 k l0 a1_0 a1_1 (l0.length : Int) 0
set_option maxRecDepth 100000 in
theorem slices_Index_2_int64_2_int64.ok {k : Nat} {l0 : List S125} {a1_0 : Int} {a1_1 : Int} {r : Int} (H : slices_Index_2_int64_2_int64.f k l0 a1_0 a1_1 = some r) : OkF Try.prog 103 [vR 125 (l0.map c125), .agg [.d (.v (.int .i64 a1_0)), .d (.v (.int .i64 a1_1))]] [] (.c (.d (.v (.int .i64 r)))) [] := by
 unfold slices_Index_2_int64_2_int64.f at H
 refine OkF.of (N := 19) (rs := [4]) (avs := [.c (.d (.v (.int .i64 r)))]) Try.func103 rfl rfl (fun _ _ => results_tmp rfl _ _ _) (by decide) rfl rfl rfl rfl (fun w0 S => ?_)
 refine AG.seq ?_
 refine AG.region HM ?_
 refine a_box 200 ?_
 refine a_move (v := vI _) ?_
 refine RA.nil nofun ?_
 refine AG.seq ?_
 refine AG.seq ?_
 refine AG.region HM ?_
 refine a_move (v := vR _ _) ?_
 refine a_lenR ?_ Try.underlying122
 refine a_move (v := vI _) ?_
 refine RA.nil nofun ?_
 refine AG.block ?_
 refine AG.loop ?_
 obtain ⟨K0, hK0, gK0⟩ : ∃ K, k ≤ K ∧ K ≤ k := ⟨k, Nat.le_refl k, Nat.le_refl k⟩
 refine AGr.canon (fun κ => cond (Nat.beq κ 201) 200 (κ)) (AGr.loopI (n := k) (fun k s => k ≤ K0 ∧ ∃ (x0 : List S125) (y201_0 : Int) (y201_1 : Int) (x7 : Int) (x8 : Int), slices_Index_2_int64_2_int64.l0 k x0 y201_0 y201_1 x7 x8 = some r ∧ s = St.of [(0, vR 125 (x0.map c125)), (3, .c (.ptr 201 0)), (7, vI x7), (8, vI x8)] [(201, .box 125 [.d (.v (.int .i64 y201_0)), .d (.v (.int .i64 y201_1))])]) ⟨hK0, _, _, _, _, _, H, rfl⟩ ?_ ?_) ⟨rfl, rfl, rfl, rfl, trivial⟩ ⟨rfl, trivial⟩ rfl
 ·rintro _ ⟨_, _, _, _, _, _, H, _⟩
  cases H
 ·clear H hK0
  rintro k ih0 _ ⟨hK0, x0, y201_0, y201_1, x7, x8, H, rfl⟩
  unfold slices_Index_2_int64_2_int64.l0 at H
  refine AG.seq ?_
  refine AG.region HM ?_
  refine a_int (u := .bool (decide (x8 < x7))) ?_
  refine RA.nil nofun ?_
  refine AG.seq ?_
  by_cases hc1 : x8 < x7
  ·rw [if_pos hc1] at H
   refine AG.yes rfl (decide_eq_true hc1) ?_
   refine AG.skip ?_
   refine AG.seq ?_
   refine AG.block ?_
   refine AG.seq ?_
   refine AG.region HM ?_
   refine a_move (v := vI _) ?_
   refine a_move (v := vI _) ?_
   refine RA.nil nofun ?_
   refine AG.seq ?_
   refine AG.region HM ?_
   refine a_ldB (v := .agg [_, _]) ?_ T125
   refine a_move (v := vR _ _) ?_
   refine a_move (v := vI _) ?_
   by_cases hc2 : 0 ≤ x8
   ·rw [if_pos hc2] at H
    by_cases hc3 : x8 < (x0.length : Int)
    ·rw [if_pos hc3] at H
     refine a_ixR (el := c125 (rd125 x0 x8)) ?_ ⟨hc2, hc3⟩ T125 Try.underlying122 (hel := R125 hc2 hc3)
     refine a_ldR (v := .agg [_, _]) ?_ T125
     refine a_eqS (b := (y201_0 == ((rd125 x0 x8).f0) && (y201_1 == ((rd125 x0 x8).f1)))) ?_ (.inl ⟨rfl, rfl⟩) (Q125 y201_0 ((rd125 x0 x8).f0) y201_1 ((rd125 x0 x8).f1)).1
     refine RA.nil (fun _ => by kernel_rfl) ?_
     by_cases hc4 : (y201_0 == ((rd125 x0 x8).f0) && (y201_1 == ((rd125 x0 x8).f1))) = true
     ·rw [if_pos hc4] at H
      refine AG.yes rfl hc4 ?_
      refine AG.seq ?_
      refine AG.region HM ?_
      refine a_move (v := vI _) ?_
      refine a_move (v := vI _) ?_
      refine RA.nil nofun ?_
      refine AG.ret ?_
      obtain rfl := Option.some.inj H
      exact RetP.mk id ⟨rfl, trivial⟩ trivial rfl
     ·rw [if_neg hc4] at H
      refine AG.no rfl (Bool.eq_false_iff.2 hc4) ?_
      refine AG.skip ?_
      refine AG.region HM ?_
      refine a_int (u := .int .i64 (wrap64 (x8 + 1))) ?_
      refine a_move (v := vI _) ?_
      refine RA.nil nofun ?_
      exact AGr.canon id (ih0 _ (by omega) _ ⟨by omega, _, _, _, _, _, H, rfl⟩) ⟨rfl, rfl, rfl, rfl, trivial⟩ ⟨rfl, trivial⟩ rfl
    ·rw [if_neg hc3] at H
     cases H
   ·rw [if_neg hc2] at H
    cases H
  ·rw [if_neg hc1] at H
   refine AG.no rfl (decide_eq_false hc1) ?_
   refine AG.exit ?_
   refine AG.seq ?_
   refine AG.region HM ?_
   refine a_move (v := vI _) ?_
   refine RA.nil nofun ?_
   refine AG.ret ?_
   obtain rfl := Option.some.inj H
   exact RetP.mk id ⟨rfl, trivial⟩ trivial rfl
/-! ### slices_Contains_2_int64_2_int64: function 85 -/
def slices_Contains_2_int64_2_int64.f (k : Nat) (l0 : List S125) (a1_0 : Int) (a1_1 : Int) : Option (Bool) := (slices_Index_2_int64_2_int64.f k l0 a1_0 a1_1).bind fun t1 => (some (decide (t1 ≥ 0)))
set_option maxRecDepth 100000 in
theorem slices_Contains_2_int64_2_int64.ok {k : Nat} {l0 : List S125} {a1_0 : Int} {a1_1 : Int} {r : Bool} (H : slices_Contains_2_int64_2_int64.f k l0 a1_0 a1_1 = some r) : OkF Try.prog 85 [vR 125 (l0.map c125), .agg [.d (.v (.int .i64 a1_0)), .d (.v (.int .i64 a1_1))]] [] (.c (.d (.v (.bool r)))) [] := by
 unfold slices_Contains_2_int64_2_int64.f at H
 refine OkF.of (N := 9) (rs := [4]) (avs := [.c (.d (.v (.bool r)))]) Try.func85 rfl rfl (fun _ _ => results_tmp rfl _ _ _) (by decide) rfl rfl rfl rfl (fun w0 S => ?_)
 refine AG.seq ?_
 refine AG.region HM ?_
 refine a_box 200 ?_
 refine a_move (v := vB _) ?_
 refine RA.nil nofun ?_
 refine AG.seq ?_
 refine AG.region HM ?_
 refine a_move (v := vR _ _) ?_
 refine a_ldB (v := .agg [_, _]) ?_ T125
 obtain ⟨t1, e2, H⟩ := bindO H
 refine a_call (v := vI t1) (nk := []) (L := []) ?_ rfl (slices_Index_2_int64_2_int64.ok e2) id (qd (qg qn)) trivial trivial trivial rfl
 refine a_int (u := .bool (decide (t1 ≥ 0))) ?_
 refine a_move (v := vB _) ?_
 refine RA.nil nofun ?_
 refine AG.ret ?_
 obtain rfl := Option.some.inj H
 exact RetP.mk id ⟨rfl, trivial⟩ trivial rfl
/-! ### impl_neighbours_1: function 84 -/
def impl_neighbours_1.f (k : Nat) (a0_0 : Int) (a0_1 : Int) (v_0_0 : List (List S125)) (v_1_0 : Int) : Option (Bool) := if 0 ≤ v_1_0 then (if v_1_0 < (v_0_0.length : Int) then ((slices_Contains_2_int64_2_int64.f k (rd122 v_0_0 v_1_0) a0_0 a0_1).bind fun t3 => (some t3)) else (none)) else (none)
set_option maxRecDepth 100000 in
theorem impl_neighbours_1.ok {k : Nat} {a0_0 : Int} {a0_1 : Int} {v_0_0 : List (List S125)} {v_1_0 : Int} {r : Bool} (H : impl_neighbours_1.f k a0_0 a0_1 v_0_0 v_1_0 = some r) : OkF Try.prog 84 [.agg [.d (.v (.int .i64 a0_0)), .d (.v (.int .i64 a0_1))], .c (.d (.ro [.row 122 (v_0_0.map c122)])), .c (.d (.ro [.v (.int .i64 v_1_0)]))] [] (.c (.d (.v (.bool r)))) [] := by
 unfold impl_neighbours_1.f at H
 refine OkF.of (N := 11) (rs := [4]) (avs := [.c (.d (.v (.bool r)))]) Try.func84 rfl rfl (fun _ _ => results_tmp rfl _ _ _) (by decide) rfl rfl rfl rfl (fun w0 S => ?_)
 refine AG.seq ?_
 refine AG.region HM ?_
 refine a_box 200 ?_
 refine a_move (v := vB _) ?_
 refine RA.nil nofun ?_
 refine AG.seq ?_
 refine AG.region HM ?_
 refine a_ldR (v := vR _ _) ?_ T121
 refine a_ldR (v := vI _) ?_ T3
 by_cases hc1 : 0 ≤ v_1_0
 ·rw [if_pos hc1] at H
  by_cases hc2 : v_1_0 < (v_0_0.length : Int)
  ·rw [if_pos hc2] at H
   refine a_ixR (el := c122 (rd122 v_0_0 v_1_0)) ?_ ⟨hc1, hc2⟩ T122 Try.underlying121 (hel := R122 hc1 hc2)
   refine a_ldR (v := vR _ _) ?_ T122
   refine a_ldB (v := .agg [_, _]) ?_ T125
   obtain ⟨t3, e4, H⟩ := bindO H
   refine a_call (v := vB t3) (nk := []) (L := []) ?_ rfl (slices_Contains_2_int64_2_int64.ok e4) id (qd (qg qn)) trivial trivial trivial rfl
   refine a_move (v := vB _) ?_
   refine RA.nil (fun _ => by kernel_rfl) ?_
   refine AG.ret ?_
   obtain rfl := Option.some.inj H
   exact RetP.mk id ⟨rfl, trivial⟩ trivial rfl
  ·rw [if_neg hc2] at H
   cases H
 ·rw [if_neg hc1] at H
  cases H
/-! ### slices_IndexFunc_2_int64_2_int64__impl_neighbours_1: function 102 -/
def slices_IndexFunc_2_int64_2_int64__impl_neighbours_1.l0 : Nat → List S125 → List (List S125) → Int → Int → Int → Option (Int)
 | 0, _, _, _, _, _ => none
 | k + 1, x0, x1_0_0, x1_1_0, x7, x8 => if x8 < x7 then (if 0 ≤ x8 then (if x8 < (x0.length : Int) then ((impl_neighbours_1.f k ((rd125 x0 x8).f0) ((rd125 x0 x8).f1) x1_0_0 x1_1_0).bind fun t4 => (if t4 = true then (some x8) else (slices_IndexFunc_2_int64_2_int64__impl_neighbours_1.l0 k x0 x1_0_0 x1_1_0 x7 (wrap64 (x8 + 1))))) else (none)) else (none)) else (some (-1))
def slices_IndexFunc_2_int64_2_int64__impl_neighbours_1.f (k : Nat) (l0 : List S125) (v1_0_0 : List (List S125)) (v1_1_0 : Int) : Option (Int) := slices_IndexFunc_2_int64_2_int64__impl_neighbours_1.l0 k l0 v1_0_0 v1_1_0 (l0.length : Int) 0
set_option maxRecDepth 100000 in
theorem slices_IndexFunc_2_int64_2_int64__impl_neighbours_1.ok {k : Nat} {l0 : List S125} {v1_0_0 : List (List S125)} {v1_1_0 : Int} {r : Int} (H : slices_IndexFunc_2_int64_2_int64__impl_neighbours_1.f k l0 v1_0_0 v1_1_0 = some r) : OkF Try.prog 102 [vR 125 (l0.map c125), .c (.d (.fn 84 [.ro [.row 122 (v1_0_0.map c122)], .ro [.v (.int .i64 v1_1_0)]]))] [] (.c (.d (.v (.int .i64 r)))) [] := by
 unfold slices_IndexFunc_2_int64_2_int64__impl_neighbours_1.f at H
 refine OkF.of (N := 19) (rs := [4]) (avs := [.c (.d (.v (.int .i64 r)))]) Try.func102 rfl rfl (fun _ _ => results_tmp rfl _ _ _) (by decide) rfl rfl rfl rfl (fun w0 S => ?_)
 refine AG.seq ?_
 refine AG.region HM ?_
 refine a_move (v := vI _) ?_
 refine RA.nil nofun ?_
 refine AG.seq ?_
 refine AG.seq ?_
 refine AG.region HM ?_
 refine a_move (v := vR _ _) ?_
 refine a_lenR ?_ Try.underlying122
 refine a_move (v := vI _) ?_
 refine RA.nil nofun ?_
 refine AG.block ?_
 refine AG.loop ?_
 obtain ⟨K0, hK0, gK0⟩ : ∃ K, k ≤ K ∧ K ≤ k := ⟨k, Nat.le_refl k, Nat.le_refl k⟩
 refine AGr.canon id (AGr.loopI (n := k) (fun k s => k ≤ K0 ∧ ∃ (x0 : List S125) (x1_0_0 : List (List S125)) (x1_1_0 : Int) (x7 : Int) (x8 : Int), slices_IndexFunc_2_int64_2_int64__impl_neighbours_1.l0 k x0 x1_0_0 x1_1_0 x7 x8 = some r ∧ s = St.of [(0, vR 125 (x0.map c125)), (1, .c (.d (.fn 84 [.ro [.row 122 (x1_0_0.map c122)], .ro [.v (.int .i64 x1_1_0)]]))), (7, vI x7), (8, vI x8)] []) ⟨hK0, _, _, _, _, _, H, rfl⟩ ?_ ?_) ⟨rfl, rfl, rfl, rfl, trivial⟩ trivial rfl
 ·rintro _ ⟨_, _, _, _, _, _, H, _⟩
  cases H
 ·clear H hK0
  rintro k ih0 _ ⟨hK0, x0, x1_0_0, x1_1_0, x7, x8, H, rfl⟩
  unfold slices_IndexFunc_2_int64_2_int64__impl_neighbours_1.l0 at H
  refine AG.seq ?_
  refine AG.region HM ?_
  refine a_int (u := .bool (decide (x8 < x7))) ?_
  refine RA.nil nofun ?_
  refine AG.seq ?_
  by_cases hc1 : x8 < x7
  ·rw [if_pos hc1] at H
   refine AG.yes rfl (decide_eq_true hc1) ?_
   refine AG.skip ?_
   refine AG.seq ?_
   refine AG.block ?_
   refine AG.seq ?_
   refine AG.region HM ?_
   refine a_move (v := vI _) ?_
   refine a_move (v := vI _) ?_
   refine RA.nil nofun ?_
   refine AG.seq ?_
   refine AG.region HM ?_
   refine a_move (v := .c (.d (.fn _ _))) ?_
   refine a_move (v := vR _ _) ?_
   refine a_move (v := vI _) ?_
   by_cases hc2 : 0 ≤ x8
   ·rw [if_pos hc2] at H
    by_cases hc3 : x8 < (x0.length : Int)
    ·rw [if_pos hc3] at H
     refine a_ixR (el := c125 (rd125 x0 x8)) ?_ ⟨hc2, hc3⟩ T125 Try.underlying122 (hel := R125 hc2 hc3)
     refine a_ldR (v := .agg [_, _]) ?_ T125
     obtain ⟨t4, e5, H⟩ := bindO H
     refine a_callW (v := vB t4) (nk := []) (L := []) ?_ rfl rfl (impl_neighbours_1.ok e5) id (qg qn) rfl trivial trivial trivial rfl
     refine RA.nil nofun ?_
     by_cases hc6 : t4 = true
     ·rw [if_pos hc6] at H
      refine AG.yes rfl hc6 ?_
      refine AG.seq ?_
      refine AG.region HM ?_
      refine a_move (v := vI _) ?_
      refine a_move (v := vI _) ?_
      refine RA.nil nofun ?_
      refine AG.ret ?_
      obtain rfl := Option.some.inj H
      exact RetP.mk id ⟨rfl, trivial⟩ trivial rfl
     ·rw [if_neg hc6] at H
      refine AG.no rfl (Bool.eq_false_iff.2 hc6) ?_
      refine AG.skip ?_
      refine AG.region HM ?_
      refine a_int (u := .int .i64 (wrap64 (x8 + 1))) ?_
      refine a_move (v := vI _) ?_
      refine RA.nil nofun ?_
      exact AGr.canon id (ih0 _ (by omega) _ ⟨by omega, _, _, _, _, _, H, rfl⟩) ⟨rfl, rfl, rfl, rfl, trivial⟩ trivial rfl
    ·rw [if_neg hc3] at H
     cases H
   ·rw [if_neg hc2] at H
    cases H
  ·rw [if_neg hc1] at H
   refine AG.no rfl (decide_eq_false hc1) ?_
   refine AG.exit ?_
   refine AG.seq ?_
   refine AG.region HM ?_
   refine a_move (v := vI _) ?_
   refine RA.nil nofun ?_
   refine AG.ret ?_
   obtain rfl := Option.some.inj H
   exact RetP.mk id ⟨rfl, trivial⟩ trivial rfl
/-! ### slices_ContainsFunc_2_int64_2_int64__impl_neighbours_1: function 83 -/
def slices_ContainsFunc_2_int64_2_int64__impl_neighbours_1.f (k : Nat) (l0 : List S125) (v1_0_0 : List (List S125)) (v1_1_0 : Int) : Option (Bool) := (slices_IndexFunc_2_int64_2_int64__impl_neighbours_1.f k l0 v1_0_0 v1_1_0).bind fun t1 => (some (decide (t1 ≥ 0)))
set_option maxRecDepth 100000 in
theorem slices_ContainsFunc_2_int64_2_int64__impl_neighbours_1.ok {k : Nat} {l0 : List S125} {v1_0_0 : List (List S125)} {v1_1_0 : Int} {r : Bool} (H : slices_ContainsFunc_2_int64_2_int64__impl_neighbours_1.f k l0 v1_0_0 v1_1_0 = some r) : OkF Try.prog 83 [vR 125 (l0.map c125), .c (.d (.fn 84 [.ro [.row 122 (v1_0_0.map c122)], .ro [.v (.int .i64 v1_1_0)]]))] [] (.c (.d (.v (.bool r)))) [] := by
 unfold slices_ContainsFunc_2_int64_2_int64__impl_neighbours_1.f at H
 refine OkF.of (N := 9) (rs := [4]) (avs := [.c (.d (.v (.bool r)))]) Try.func83 rfl rfl (fun _ _ => results_tmp rfl _ _ _) (by decide) rfl rfl rfl rfl (fun w0 S => ?_)
 refine AG.seq ?_
 refine AG.region HM ?_
 refine a_move (v := vB _) ?_
 refine RA.nil nofun ?_
 refine AG.seq ?_
 refine AG.region HM ?_
 refine a_move (v := vR _ _) ?_
 refine a_move (v := .c (.d (.fn _ _))) ?_
 obtain ⟨t1, e2, H⟩ := bindO H
 refine a_call (v := vI t1) (nk := []) (L := []) ?_ rfl (slices_IndexFunc_2_int64_2_int64__impl_neighbours_1.ok e2) id (qd (qd qn)) trivial trivial trivial rfl
 refine a_int (u := .bool (decide (t1 ≥ 0))) ?_
 refine a_move (v := vB _) ?_
 refine RA.nil nofun ?_
 refine AG.ret ?_
 obtain rfl := Option.some.inj H
 exact RetP.mk id ⟨rfl, trivial⟩ trivial rfl
/-! ### impl_neighbours: function 50 -/
mutual
def impl_neighbours.l0 : Nat → List (List S125) → List S98 → Int → Int → Option ((List (List Int)))
 | 0, _, _, _, _ => none
 | k + 1, y204_0, x11, x12, x13 => if x13 < x12 then (if 0 ≤ x13 then (if x13 < (x11.length : Int) then ((impl_ringEdges.f k ((rd98 x11 x13).f1)).bind fun t5 => (if y204_0.length < 5864062014805 then (impl_neighbours.l0 k (y204_0 ++ [t5]) x11 x12 (wrap64 (x13 + 1))) else (none))) else (none)) else (none)) else (if 0 ≤ (y204_0.length : Int) then (if ((y204_0.length : Int) : Int).toNat ≤ 11728124029610 then (impl_neighbours.l1 k y204_0 (List.replicate (((y204_0.length : Int) : Int).toNat) []) (y204_0.length : Int) 0) else (none)) else (none))
def impl_neighbours.l1 : Nat → List (List S125) → List (List Int) → Int → Int → Option ((List (List Int)))
 | 0, _, _, _, _ => none
 | k + 1, y210_0, x6, x28, x29 => if x29 < x28 then (impl_neighbours.l2 k y210_0 x6 x29 x28 x29 (y210_0.length : Int) 0) else (some x6)
def impl_neighbours.l2 : Nat → List (List S125) → List (List Int) → Int → Int → Int → Int → Int → Option ((List (List Int)))
 | 0, _, _, _, _, _, _, _ => none
 | k + 1, y213_0, x6, x7, x28, x29, x33, x34 => if x34 < x33 then (if x7 = x34 then (impl_neighbours.l2 k y213_0 x6 x7 x28 x29 x33 (wrap64 (x34 + 1))) else (if 0 ≤ x7 then (if x7 < (y213_0.length : Int) then ((slices_ContainsFunc_2_int64_2_int64__impl_neighbours_1.f k (rd122 y213_0 x7) y213_0 x34).bind fun t17 => (if t17 = true then (if x7 < (x6.length : Int) then (if (rd23 x6 x7).length < 17592186044416 then (impl_neighbours.l2 k y213_0 (x6.set (x7 : Int).toNat ((rd23 x6 x7) ++ [x34])) x7 x28 x29 x33 (wrap64 (x34 + 1))) else (none)) else (none)) else (impl_neighbours.l2 k y213_0 x6 x7 x28 x29 x33 (wrap64 (x34 + 1))))) else (none)) else (none))) else (impl_neighbours.l1 k y213_0 x6 x28 (wrap64 (x29 + 1)))
end
def impl_neighbours.f (k : Nat) (a0_0 : Int) (a0_1 : Int) (l0_2 : List S107) (l0_3 : List S98) : Option ((List (List Int))) := impl_neighbours.l0 k (([] : List (List S125)) : List (List S125)) l0_3 (l0_3.length : Int) 0
set_option maxRecDepth 100000 in
theorem impl_neighbours.ok {k : Nat} {a0_0 : Int} {a0_1 : Int} {l0_2 : List S107} {l0_3 : List S98} {r : List (List Int)} (H : impl_neighbours.f k a0_0 a0_1 l0_2 l0_3 = some r) : OkF Try.prog 50 [.agg [.d (.v (.int .i64 a0_0)), .d (.v (.int .i64 a0_1)), .d (.row 108 (l0_2.map c107)), .d (.row 101 (l0_3.map c98))]] [] (.c (.own 100 r.length)) [(100, .row 23 (r.map c23))] := by
 unfold impl_neighbours.f at H
 refine OkF.of (N := 61) (rs := [2]) (avs := [.c (.own 100 r.length)]) Try.func50 rfl rfl (fun _ _ => results_tmp rfl _ _ _) (by decide) rfl rfl rfl rfl (fun w0 S => ?_)
 refine AG.seq ?_
 refine AG.region HM ?_
 refine a_box 200 ?_
 refine a_nilO (e := 23) 201 ?_ T23
 refine RA.nil nofun ?_
 refine AG.seq ?_
 refine AG.region HM ?_
 refine a_lit (cs := []) (D := []) (css := (([] : List (List S125)) : List (List S125)).map c122) 202 ?_ N121 T122 (hcss := by rfl)
 refine a_alloc (cs := [_]) 203 ?_ T121
 refine a_stB (cs' := [_]) ?_ T121
 refine RA.nil nofun ?_
 refine AG.relen 202 (([] : List (List S125)) : List (List S125)).length ?_
 refine AG.seq ?_
 refine AG.seq ?_
 refine AG.region HM ?_
 refine a_faB (q := 3) ?_ D49_3
 refine a_ldB (v := vR _ _) ?_ T47
 refine a_lenR ?_ Try.underlying47
 refine a_move (v := vI _) ?_
 refine RA.nil nofun ?_
 refine AG.block ?_
 refine AG.loop ?_
 obtain ⟨K0, hK0, gK0⟩ : ∃ K, k ≤ K ∧ K ≤ k := ⟨k, Nat.le_refl k, Nat.le_refl k⟩
 refine AGr.canon (fun κ => cond (Nat.beq κ 204) 203 (cond (Nat.beq κ 205) 202 (κ))) (AGr.loopI (n := k) (fun k s => k ≤ K0 ∧ ∃ (y204_0 : List (List S125)) (x11 : List S98) (x12 : Int) (x13 : Int), impl_neighbours.l0 k y204_0 x11 x12 x13 = some r ∧ s = St.of [(3, .c (.ptr 204 0)), (11, vR 101 (x11.map c98)), (12, vI x12), (13, vI x13)] [(204, .box 121 [.own 205 y204_0.length]), (205, .row 122 (y204_0.map c122))]) ⟨hK0, _, _, _, _, H, rfl⟩ ?_ ?_) ⟨rfl, rfl, rfl, rfl, trivial⟩ ⟨rfl, rfl, trivial⟩ rfl
 ·rintro _ ⟨_, _, _, _, _, H, _⟩
  cases H
 ·clear H hK0
  rintro k ih0 _ ⟨hK0, y204_0, x11, x12, x13, H, rfl⟩
  unfold impl_neighbours.l0 at H
  refine AG.seq ?_
  refine AG.region HM ?_
  refine a_int (u := .bool (decide (x13 < x12))) ?_
  refine RA.nil nofun ?_
  refine AG.seq ?_
  by_cases hc2 : x13 < x12
  ·rw [if_pos hc2] at H
   refine AG.yes rfl (decide_eq_true hc2) ?_
   refine AG.skip ?_
   refine AG.seq ?_
   refine AG.block ?_
   refine AG.seq ?_
   refine AG.region HM ?_
   by_cases hc3 : 0 ≤ x13
   ·rw [if_pos hc3] at H
    by_cases hc4 : x13 < (x11.length : Int)
    ·rw [if_pos hc4] at H
     refine a_ixR (el := c98 (rd98 x11 x13)) ?_ ⟨hc3, hc4⟩ T101 Try.underlying47 (hel := R98 hc3 hc4)
     refine a_ldR (v := .agg [_, _]) ?_ T101
     refine a_alloc (cs := [_, _]) 206 ?_ T101
     refine a_stB (cs' := [_, _]) ?_ T101
     refine RA.nil nofun ?_
     refine AG.region HM ?_
     refine a_ldB (v := .c (.own _ _)) ?_ T121
     refine a_faB (q := 1) ?_ D101_1
     refine a_ldB (v := vR _ _) ?_ T23
     obtain ⟨t5, e6, H⟩ := bindO H
     refine a_call (v := .c (.own 207 t5.length)) (nk := [(207, .row 125 (t5.map c125))]) (L := []) ?_ rfl (impl_ringEdges.ok e6) (fun κ => cond (Nat.beq κ 207) 100 (κ)) (qd qn) trivial ⟨rfl, trivial⟩ ⟨rfl, trivial⟩ rfl
     refine a_lit (cs := [_]) (D := [207]) (css := ([t5]).map c122) 208 ?_ N121 T122
     by_cases hc7 : y204_0.length < 5864062014805
     ·rw [if_pos hc7] at H
      refine a_appO (css' := (y204_0 ++ [t5]).map c122) (n' := (y204_0 ++ [t5]).length) ?_ T122 (by simp [maxLen]; omega) (by simp; omega) Try.underlying121 (hc := by exact List.map_append.symm) (hn := by exact List.length_map _)
      refine a_stB (cs' := [_]) ?_ T121
      refine RA.nil (fun _ => by kernel_rfl) ?_
      refine AG.region HM ?_
      refine a_int (u := .int .i64 (wrap64 (x13 + 1))) ?_
      refine a_move (v := vI _) ?_
      refine RA.nil nofun ?_
      exact AGr.canon id (ih0 _ (by omega) _ ⟨by omega, _, _, _, _, H, rfl⟩) ⟨rfl, rfl, rfl, rfl, trivial⟩ ⟨rfl, rfl, trivial⟩ rfl
     ·rw [if_neg hc7] at H
      cases H
    ·rw [if_neg hc4] at H
     cases H
   ·rw [if_neg hc3] at H
    cases H
  ·rw [if_neg hc2] at H
   refine AG.no rfl (decide_eq_false hc2) ?_
   refine AG.exit ?_
   refine AG.seq ?_
   refine AG.region HM ?_
   refine a_ldB (v := .c (.own _ _)) ?_ T121
   refine a_lenO ?_ Try.underlying121
   by_cases hc9 : 0 ≤ (y204_0.length : Int)
   ·rw [if_pos hc9] at H
    by_cases hc10 : ((y204_0.length : Int) : Int).toNat ≤ 11728124029610
    ·rw [if_pos hc10] at H
     refine a_make (n := (y204_0.length : Int)) (css := (List.replicate (((y204_0.length : Int) : Int).toNat) []).map c23) 209 ?_ N27 T23 (zR T2 zN) hc9 (by omega) (by omega) (hcss := by exact rep_map rfl)
     refine a_move (v := .c (.own _ _)) ?_
     refine RA.nil nofun ?_
     refine AG.seq ?_
     refine AG.seq ?_
     refine AG.region HM ?_
     refine a_ldB (v := .c (.own _ _)) ?_ T121
     refine a_lenO ?_ Try.underlying121
     refine a_move (v := vI _) ?_
     refine RA.nil nofun ?_
     refine AG.block ?_
     refine AG.loop ?_
     obtain ⟨K1, hK1, gK1⟩ : ∃ K, k ≤ K ∧ K ≤ k := ⟨k, Nat.le_refl k, Nat.le_refl k⟩
     refine AGr.canon (fun κ => cond (Nat.beq κ 210) 204 (cond (Nat.beq κ 211) 205 (cond (Nat.beq κ 212) 209 (κ)))) (AGr.loopI (n := k) (fun k s => k ≤ K1 ∧ ∃ (y210_0 : List (List S125)) (x6 : List (List Int)) (x28 : Int) (x29 : Int), impl_neighbours.l1 k y210_0 x6 x28 x29 = some r ∧ s = St.of [(3, .c (.ptr 210 0)), (6, .c (.own 212 x6.length)), (28, vI x28), (29, vI x29)] [(210, .box 121 [.own 211 y210_0.length]), (211, .row 122 (y210_0.map c122)), (212, .row 23 (x6.map c23))]) ⟨hK1, _, _, _, _, H, rfl⟩ ?_ ?_) ⟨rfl, (ownE rfl (by simp)), rfl, rfl, trivial⟩ ⟨rfl, rfl, rfl, trivial⟩ rfl
     ·rintro _ ⟨_, _, _, _, _, H, _⟩
      cases H
     ·clear H hK1
      rintro k ih1 _ ⟨hK1, y210_0, x6, x28, x29, H, rfl⟩
      unfold impl_neighbours.l1 at H
      refine AG.seq ?_
      refine AG.region HM ?_
      refine a_int (u := .bool (decide (x29 < x28))) ?_
      refine RA.nil nofun ?_
      refine AG.seq ?_
      by_cases hc12 : x29 < x28
      ·rw [if_pos hc12] at H
       refine AG.yes rfl (decide_eq_true hc12) ?_
       refine AG.skip ?_
       refine AG.seq ?_
       refine AG.block ?_
       refine AG.seq ?_
       refine AG.region HM ?_
       refine a_move (v := vI _) ?_
       refine a_move (v := vI _) ?_
       refine RA.nil nofun ?_
       refine AG.seq ?_
       refine AG.region HM ?_
       refine a_ldB (v := .c (.own _ _)) ?_ T121
       refine a_lenO ?_ Try.underlying121
       refine a_move (v := vI _) ?_
       refine RA.nil nofun ?_
       refine AG.block ?_
       refine AG.loop ?_
       obtain ⟨K2, hK2, gK2⟩ : ∃ K, k ≤ K ∧ K ≤ k := ⟨k, Nat.le_refl k, Nat.le_refl k⟩
       refine AGr.canon (fun κ => cond (Nat.beq κ 213) 210 (cond (Nat.beq κ 214) 211 (cond (Nat.beq κ 215) 212 (κ)))) (AGr.loopI (n := k) (fun k s => k ≤ K2 ∧ ∃ (y213_0 : List (List S125)) (x6 : List (List Int)) (x7 : Int) (x28 : Int) (x29 : Int) (x33 : Int) (x34 : Int), impl_neighbours.l2 k y213_0 x6 x7 x28 x29 x33 x34 = some r ∧ s = St.of [(3, .c (.ptr 213 0)), (6, .c (.own 215 x6.length)), (7, vI x7), (28, vI x28), (29, vI x29), (33, vI x33), (34, vI x34)] [(213, .box 121 [.own 214 y213_0.length]), (214, .row 122 (y213_0.map c122)), (215, .row 23 (x6.map c23))]) ⟨hK2, _, _, _, _, _, _, _, H, rfl⟩ ?_ ?_) ⟨rfl, rfl, rfl, rfl, rfl, rfl, rfl, trivial⟩ ⟨rfl, rfl, rfl, trivial⟩ rfl
       ·rintro _ ⟨_, _, _, _, _, _, _, _, H, _⟩
        cases H
       ·clear H hK2
        rintro k ih2 _ ⟨hK2, y213_0, x6, x7, x28, x29, x33, x34, H, rfl⟩
        unfold impl_neighbours.l2 at H
        refine AG.seq ?_
        refine AG.region HM ?_
        refine a_int (u := .bool (decide (x34 < x33))) ?_
        refine RA.nil nofun ?_
        refine AG.seq ?_
        by_cases hc13 : x34 < x33
        ·rw [if_pos hc13] at H
         refine AG.yes rfl (decide_eq_true hc13) ?_
         refine AG.skip ?_
         refine AG.seq ?_
         refine AG.block ?_
         refine AG.seq ?_
         refine AG.region HM ?_
         refine a_move (v := vI _) ?_
         refine a_alloc (cs := [_]) 216 ?_ T3
         refine a_stB (cs' := [_]) ?_ T3
         refine RA.nil nofun ?_
         refine AG.seq ?_
         refine AG.region HM ?_
         refine a_move (v := vI _) ?_
         refine a_ldB (v := vI _) ?_ T3
         refine a_int (u := .bool ((x7 != x34))) ?_
         refine a_move (v := vB _) ?_
         by_cases hc14 : x7 = x34
         ·rw [if_pos hc14] at H
          refine RA.skip rfl rfl rfl rfl rfl (bne_eq_false_iff_eq.2 hc14) (by decide) ?_
          refine RA.skip rfl rfl rfl rfl rfl (bne_eq_false_iff_eq.2 hc14) (by decide) ?_
          refine RA.skip rfl rfl rfl rfl rfl (bne_eq_false_iff_eq.2 hc14) (by decide) ?_
          refine RA.skip rfl rfl rfl rfl rfl (bne_eq_false_iff_eq.2 hc14) (by decide) ?_
          refine RA.skip rfl rfl rfl rfl rfl (bne_eq_false_iff_eq.2 hc14) (by decide) ?_
          refine RA.skip rfl rfl rfl rfl rfl (bne_eq_false_iff_eq.2 hc14) (by decide) ?_
          refine a_pick (b := false) (v := vB _) ?_ (bne_eq_false_iff_eq.2 hc14)
          refine RA.nil nofun ?_
          refine AG.no rfl rfl ?_
          refine AG.skip ?_
          refine AG.region HM ?_
          refine a_int (u := .int .i64 (wrap64 (x34 + 1))) ?_
          refine a_move (v := vI _) ?_
          refine RA.nil nofun ?_
          exact AGr.canon id (ih2 _ (by omega) _ ⟨by omega, _, _, _, _, _, _, _, H, rfl⟩) ⟨rfl, rfl, rfl, rfl, rfl, rfl, rfl, trivial⟩ ⟨rfl, rfl, rfl, trivial⟩ rfl
         ·rw [if_neg hc14] at H
          refine a_ldB (v := .c (.own _ _)) ?_ T121 (hg := Gs.yes rfl rfl rfl (bne_iff_ne.2 hc14))
          refine a_move (v := vI _) ?_ (hg := Gs.yes rfl rfl rfl (bne_iff_ne.2 hc14))
          by_cases hc15 : 0 ≤ x7
          ·rw [if_pos hc15] at H
           by_cases hc16 : x7 < (y213_0.length : Int)
           ·rw [if_pos hc16] at H
            refine a_ixO ?_ ⟨hc15, hc16⟩ T122 Try.underlying121 (hg := Gs.yes rfl rfl rfl (bne_iff_ne.2 hc14))
            refine a_ldE (v := .c (.sub _ _ _ _)) ?_ (G122 hc15 hc16) T122 (hg := Gs.yes rfl rfl rfl (bne_iff_ne.2 hc14))
            refine a_fnc (ks := [213, 216]) ?_ (hg := Gs.yes rfl rfl rfl (bne_iff_ne.2 hc14))
            obtain ⟨t17, e18, H⟩ := bindO H
            refine a_call (v := vB t17) (nk := []) (L := [(214, _), (213, _), (216, _)]) ?_ rfl (slices_ContainsFunc_2_int64_2_int64__impl_neighbours_1.ok e18) id (qc (rU (G122 hc15 hc16)) (qc (rF2 (rP (κ := 213) (off := 0) (cs := [.own 214 y213_0.length]) (pC rO p0)) (rP (pD p0))) qn)) ⟨rfl, rfl, rfl, trivial⟩ trivial trivial rfl (hg := Gs.yes rfl rfl rfl (bne_iff_ne.2 hc14))
            refine a_pick (b := true) (v := vB _) ?_ (bne_iff_ne.2 hc14)
            refine RA.nil nofun ?_
            by_cases hc19 : t17 = true
            ·rw [if_pos hc19] at H
             refine AG.yes rfl hc19 ?_
             refine AG.region HM ?_
             refine a_move (v := .c (.own _ _)) ?_
             refine a_move (v := vI _) ?_
             refine a_move (v := .c (.own _ _)) ?_
             refine a_move (v := vI _) ?_
             by_cases hc20 : x7 < (x6.length : Int)
             ·rw [if_pos hc20] at H
              refine a_ixO ?_ ⟨hc15, hc20⟩ T23 Try.underlying27
              refine a_ldE (v := .c (.sub _ _ _ _)) ?_ (G23 hc15 hc20) T23
              refine a_ldB (v := vI _) ?_ T3
              refine a_lit (cs := [_]) (D := []) (css := ([x34]).map c2) 218 ?_ N23 T2
              by_cases hc21 : (rd23 x6 x7).length < 17592186044416
              ·rw [if_pos hc21] at H
               refine a_appU (css' := ((rd23 x6 x7) ++ [x34]).map c2) (n' := ((rd23 x6 x7) ++ [x34]).length) (cssH := (x6.map c23).set (x7 : Int).toNat ((c23 (rd23 x6 x7)).set 0 .any)) 219 ?_ (G23 hc15 hc20) T2 (by simp [maxLen]; omega) (by simp; omega) (flat_map (fun _ => rfl)) Try.underlying23 (by exact List.map_append.symm) (by exact List.length_map _)
               refine a_ixO ?_ ⟨hc15, hc20⟩ T23 Try.underlying27
               refine a_stE (D := [219]) (css' := (x6.set (x7 : Int).toNat ((rd23 x6 x7) ++ [x34])).map c23) ?_ (hole_at (G23 hc15 hc20)) T23 (hcss := by exact hole_map rfl)
               refine RA.nil (fun _ => by kernel_rfl) ?_
               refine AG.region HM ?_
               refine a_int (u := .int .i64 (wrap64 (x34 + 1))) ?_
               refine a_move (v := vI _) ?_
               refine RA.nil nofun ?_
               exact AGr.canon id (ih2 _ (by omega) _ ⟨by omega, _, _, _, _, _, _, _, H, rfl⟩) ⟨rfl, (ownE rfl (by simp)), rfl, rfl, rfl, rfl, rfl, trivial⟩ ⟨rfl, rfl, rfl, trivial⟩ rfl
              ·rw [if_neg hc21] at H
               cases H
             ·rw [if_neg hc20] at H
              cases H
            ·rw [if_neg hc19] at H
             refine AG.no rfl (Bool.eq_false_iff.2 hc19) ?_
             refine AG.skip ?_
             refine AG.region HM ?_
             refine a_int (u := .int .i64 (wrap64 (x34 + 1))) ?_
             refine a_move (v := vI _) ?_
             refine RA.nil nofun ?_
             exact AGr.canon id (ih2 _ (by omega) _ ⟨by omega, _, _, _, _, _, _, _, H, rfl⟩) ⟨rfl, rfl, rfl, rfl, rfl, rfl, rfl, trivial⟩ ⟨rfl, rfl, rfl, trivial⟩ rfl
           ·rw [if_neg hc16] at H
            cases H
          ·rw [if_neg hc15] at H
           cases H
        ·rw [if_neg hc13] at H
         refine AG.no rfl (decide_eq_false hc13) ?_
         refine AG.exit ?_
         refine AG.region HM ?_
         refine a_int (u := .int .i64 (wrap64 (x29 + 1))) ?_
         refine a_move (v := vI _) ?_
         refine RA.nil nofun ?_
         exact AGr.canon (fun κ => cond (Nat.beq κ 210) 213 (cond (Nat.beq κ 211) 214 (cond (Nat.beq κ 212) 215 (κ)))) (ih1 _ (by omega) _ ⟨by omega, _, _, _, _, H, rfl⟩) ⟨rfl, rfl, rfl, rfl, trivial⟩ ⟨rfl, rfl, rfl, trivial⟩ rfl
      ·rw [if_neg hc12] at H
       refine AG.no rfl (decide_eq_false hc12) ?_
       refine AG.exit ?_
       refine AG.seq ?_
       refine AG.region HM ?_
       refine a_move (v := .c (.own _ _)) ?_
       refine a_move (v := .c (.own _ _)) ?_
       refine RA.nil nofun ?_
       refine AG.ret ?_
       obtain rfl := Option.some.inj H
       exact RetP.mk (fun κ => cond (Nat.beq κ 100) 212 (κ)) ⟨rfl, trivial⟩ ⟨rfl, trivial⟩ rfl
    ·rw [if_neg hc10] at H
     cases H
   ·rw [if_neg hc9] at H
    cases H
/-! ### impl_LeastContrast: function 25 -/
mutual
def impl_LeastContrast.j0 : Nat → Int → Int → List S107 → List S98 → List S86 → List Int → Bool → Option (Int × Int)
 | 0, _, _, _, _, _, _, _ => none
 | k + 1, y204_0, y204_1, y204_2, y204_3, y205_0, y205_1, x14 => if x14 = true then (some (0, 1)) else (if (y204_3.length : Int) = (y205_1.length : Int) then ((impl_sheetContrasts.f k y205_0).bind fun t8 => ((impl_neighbours.f k y204_0 y204_1 y204_2 y204_3).bind fun t10 => (impl_LeastContrast.l0 k y205_1 t8 (y205_0.length : Int) (-1) t10 (t10.length : Int) 0))) else (some (0, 7)))
def impl_LeastContrast.l0 : Nat → List Int → List Int → Int → Int → List (List Int) → Int → Int → Option (Int × Int)
 | 0, _, _, _, _, _, _, _ => none
 | k + 1, y207_1, x6, x7, x8, x38, x39, x40 => if x40 < x39 then (if 0 ≤ x40 then (if x40 < (x38.length : Int) then (impl_LeastContrast.l1 k y207_1 x6 x7 x8 x40 x38 x39 x40 (rd23 x38 x40) ((rd23 x38 x40).length : Int) 0) else (none)) else (none)) else (if x8 < 0 then (some (0, 6)) else (some (x8, 0)))
def impl_LeastContrast.l1 : Nat → List Int → List Int → Int → Int → Int → List (List Int) → Int → Int → List Int → Int → Int → Option (Int × Int)
 | 0, _, _, _, _, _, _, _, _, _, _, _ => none
 | k + 1, y209_1, x6, x7, x8, x9, x38, x39, x40, x45, x46, x47 => if x47 < x46 then (if 0 ≤ x47 then (if x47 < (x45.length : Int) then (if 0 ≤ (rd2 x45 x47) then (if (rd2 x45 x47) < (y209_1.length : Int) then (if 0 ≤ x9 then (if x9 < (y209_1.length : Int) then (if x7 = 0 then (none) else (if 0 ≤ (Int.tmod (wrap64 ((wrap64 ((rd2 y209_1 (rd2 x45 x47)) - (rd2 y209_1 x9))) + x7)) x7) then (if (Int.tmod (wrap64 ((wrap64 ((rd2 y209_1 (rd2 x45 x47)) - (rd2 y209_1 x9))) + x7)) x7) < (x6.length : Int) then (if x8 < 0 then (impl_LeastContrast.l1 k y209_1 x6 x7 (rd2 x6 (Int.tmod (wrap64 ((wrap64 ((rd2 y209_1 (rd2 x45 x47)) - (rd2 y209_1 x9))) + x7)) x7)) x9 x38 x39 x40 x45 x46 (wrap64 (x47 + 1))) else (if (rd2 x6 (Int.tmod (wrap64 ((wrap64 ((rd2 y209_1 (rd2 x45 x47)) - (rd2 y209_1 x9))) + x7)) x7)) < x8 then (impl_LeastContrast.l1 k y209_1 x6 x7 (rd2 x6 (Int.tmod (wrap64 ((wrap64 ((rd2 y209_1 (rd2 x45 x47)) - (rd2 y209_1 x9))) + x7)) x7)) x9 x38 x39 x40 x45 x46 (wrap64 (x47 + 1))) else (impl_LeastContrast.l1 k y209_1 x6 x7 x8 x9 x38 x39 x40 x45 x46 (wrap64 (x47 + 1))))) else (none)) else (none))) else (none)) else (none)) else (none)) else (none)) else (none)) else (none)) else (impl_LeastContrast.l0 k y209_1 x6 x7 x8 x38 x39 (wrap64 (x40 + 1)))
end
def impl_LeastContrast.f (k : Nat) (a0_0 : Int) (a0_1 : Int) (l0_2 : List S107) (l0_3 : List S98) (l1_0 : List S86) (l1_1 : List Int) : Option (Int × Int) := (impl_ValidDrawing.f k a0_0 a0_1 l0_2 l0_3).bind fun t1 => (if t1 = true then ((impl_ValidPacket.f k l1_0 l1_1).bind fun t4 => (impl_LeastContrast.j0 k a0_0 a0_1 l0_2 l0_3 l1_0 l1_1 (!t4))) else (impl_LeastContrast.j0 k a0_0 a0_1 l0_2 l0_3 l1_0 l1_1 true))
set_option maxRecDepth 100000 in
theorem impl_LeastContrast.ok {k : Nat} {a0_0 : Int} {a0_1 : Int} {l0_2 : List S107} {l0_3 : List S98} {l1_0 : List S86} {l1_1 : List Int} {r0 : Int} {r1 : Int} (H : impl_LeastContrast.f k a0_0 a0_1 l0_2 l0_3 l1_0 l1_1 = some (r0, r1)) : OkF Try.prog 25 [.agg [.d (.v (.int .i64 a0_0)), .d (.v (.int .i64 a0_1)), .d (.row 108 (l0_2.map c107)), .d (.row 101 (l0_3.map c98))], .agg [.d (.row 90 (l1_0.map c86)), .d (.row 2 (l1_1.map c2))]] [] (.tup [.c (.d (.v (.int .i64 r0))), .c (.d (.v (.int .i64 r1)))]) [] := by
 unfold impl_LeastContrast.f at H
 refine OkF.of (N := 82) (rs := [4, 5]) (avs := [.c (.d (.v (.int .i64 r0))), .c (.d (.v (.int .i64 r1)))]) Try.func25 rfl rfl (fun _ _ => results_tmp2 rfl _ _ _) (by decide) rfl rfl rfl rfl (fun w0 S => ?_)
 refine AG.seq ?_
 refine AG.region HM ?_
 refine a_box 200 ?_
 refine a_box 201 ?_
 refine a_move (v := vI _) ?_
 refine a_move (v := vI _) ?_
 refine RA.nil nofun ?_
 refine AG.seq ?_
 refine AG.block ?_
 refine AG.seq ?_
 refine AG.joinR (fun s => ∃ q, q ≤ k ∧ ∃ (y204_0 : Int) (y204_1 : Int) (y204_2 : List S107) (y204_3 : List S98) (y205_0 : List S86) (y205_1 : List Int) (x14 : Bool), impl_LeastContrast.j0 q y204_0 y204_1 y204_2 y204_3 y205_0 y205_1 x14 = some (r0, r1) ∧ s = St.of [(2, .c (.ptr 204 0)), (3, .c (.ptr 205 0)), (14, vB x14)] [(204, .box 49 [.d (.v (.int .i64 y204_0)), .d (.v (.int .i64 y204_1)), .d (.row 108 (y204_2.map c107)), .d (.row 101 (y204_3.map c98))]), (205, .box 32 [.d (.row 90 (y205_0.map c86)), .d (.row 2 (y205_1.map c2))])]) ?_ ?_
 ·skip
  refine AG.region HM ?_
  refine a_ldB (v := .agg [_, _, _, _]) ?_ T49
  obtain ⟨t1, e2, H⟩ := bindO H
  refine a_call (v := vB t1) (nk := []) (L := []) ?_ rfl (impl_ValidDrawing.ok e2) id (qg qn) trivial trivial trivial rfl
  refine a_un (u := .bool (!t1)) ?_
  refine a_move (v := vB _) ?_
  by_cases hc3 : t1 = true
  ·rw [if_pos hc3] at H
   refine a_ldB (v := .agg [_, _]) ?_ T32 (hg := Gs.yes rfl rfl rfl (congrArg Bool.not hc3))
   obtain ⟨t4, e5, H⟩ := bindO H
   refine a_call (v := vB t4) (nk := []) (L := []) ?_ rfl (impl_ValidPacket.ok e5) id (qg qn) trivial trivial trivial rfl (hg := Gs.yes rfl rfl rfl (congrArg Bool.not hc3))
   refine a_un (u := .bool (!t4)) ?_ (hg := Gs.yes rfl rfl rfl (congrArg Bool.not hc3))
   refine a_pick (b := false) (v := vB _) ?_ (congrArg Bool.not hc3)
   refine a_move (v := vB _) ?_
   refine RA.nil nofun ?_
   exact CanR.mk (fun κ => cond (Nat.beq κ 204) 200 (cond (Nat.beq κ 205) 201 (κ))) ⟨_, (by omega), _, _, _, _, _, _, _, H, rfl⟩ ⟨rfl, rfl, rfl, trivial⟩ ⟨rfl, rfl, trivial⟩ rfl
  ·rw [if_neg hc3] at H
   refine RA.skip rfl rfl rfl rfl rfl (congrArg Bool.not (Bool.eq_false_iff.2 hc3)) (by decide) ?_
   refine RA.skip rfl rfl rfl rfl rfl (congrArg Bool.not (Bool.eq_false_iff.2 hc3)) (by decide) ?_
   refine RA.skip rfl rfl rfl rfl rfl (congrArg Bool.not (Bool.eq_false_iff.2 hc3)) (by decide) ?_
   refine a_pick (b := true) (v := vB _) ?_ (congrArg Bool.not (Bool.eq_false_iff.2 hc3))
   refine a_move (v := vB _) ?_
   refine RA.nil nofun ?_
   exact CanR.mk (fun κ => cond (Nat.beq κ 204) 200 (cond (Nat.beq κ 205) 201 (κ))) ⟨_, (by omega), _, _, _, _, _, _, _, H, rfl⟩ ⟨rfl, rfl, rfl, trivial⟩ ⟨rfl, rfl, trivial⟩ rfl
 ·clear H
  rintro _ ⟨k, hj0, y204_0, y204_1, y204_2, y204_3, y205_0, y205_1, x14, H, rfl⟩
  cases k with
  | zero => cases H
  | succ k =>
   rw [impl_LeastContrast.j0] at H
   by_cases hc6 : x14 = true
   ·rw [if_pos hc6] at H
    refine AG.yes rfl hc6 ?_
    refine AG.seq ?_
    refine AG.region HM ?_
    refine a_move (v := vI _) ?_
    refine a_move (v := vI _) ?_
    refine RA.nil nofun ?_
    refine AG.ret ?_
    simp only [Option.some.injEq, Prod.mk.injEq] at H
    obtain ⟨rfl, rfl⟩ := H
    exact RetP.mk id ⟨rfl, rfl, trivial⟩ trivial rfl
   ·rw [if_neg hc6] at H
    refine AG.no rfl (Bool.eq_false_iff.2 hc6) ?_
    refine AG.seq ?_
    refine AG.region HM ?_
    refine a_faB (q := 3) ?_ D49_3
    refine a_ldB (v := vR _ _) ?_ T47
    refine a_lenR ?_ Try.underlying47
    refine a_faB (q := 1) ?_ D32_1
    refine a_ldB (v := vR _ _) ?_ T23
    refine a_lenR ?_ Try.underlying23
    refine a_int (u := .bool (((y204_3.length : Int) != (y205_1.length : Int)))) ?_
    refine a_move (v := vB _) ?_
    refine RA.nil nofun ?_
    by_cases hc7 : (y204_3.length : Int) = (y205_1.length : Int)
    ·rw [if_pos hc7] at H
     refine AG.no rfl (bne_eq_false_iff_eq.2 hc7) ?_
     refine AG.skip ?_
     refine AG.seq ?_
     refine AG.region HM ?_
     refine a_faB (q := 0) ?_ D32_0
     refine a_ldB (v := vR _ _) ?_ T30
     obtain ⟨t8, e9, H⟩ := bindO H
     refine a_call (v := .c (.own 206 t8.length)) (nk := [(206, .row 2 (t8.map c2))]) (L := []) ?_ rfl (impl_sheetContrasts.ok e9) (fun κ => cond (Nat.beq κ 206) 100 (κ)) (qd qn) trivial ⟨rfl, trivial⟩ ⟨rfl, trivial⟩ rfl
     refine a_faB (q := 0) ?_ D32_0
     refine a_ldB (v := vR _ _) ?_ T30
     refine a_lenR ?_ Try.underlying30
     refine a_move (v := .c (.own _ _)) ?_
     refine a_move (v := vI _) ?_
     refine a_move (v := vI _) ?_
     refine RA.nil (fun _ => by kernel_rfl) ?_
     refine AG.seq ?_
     refine AG.seq ?_
     refine AG.region HM ?_
     refine a_ldB (v := .agg [_, _, _, _]) ?_ T49
     obtain ⟨t10, et10, H⟩ := bindO H
     refine a_callF (L := []) ?_ rfl (impl_neighbours.ok et10) (qg qn) trivial
     refine a_lenR ?_ Try.underlying27
     refine a_move (v := vI _) ?_
     refine RA.nil nofun ?_
     refine AG.block ?_
     refine AG.loop ?_
     obtain ⟨K0, hK0, gK0⟩ : ∃ K, k ≤ K ∧ K ≤ k := ⟨k, Nat.le_refl k, Nat.le_refl k⟩
     refine AGr.canon (fun κ => cond (Nat.beq κ 207) 205 (cond (Nat.beq κ 208) 206 (κ))) (AGr.loopI (n := k) (fun k s => k ≤ K0 ∧ ∃ (y207_0 : List S86) (y207_1 : List Int) (x6 : List Int) (x7 : Int) (x8 : Int) (x38 : List (List Int)) (x39 : Int) (x40 : Int), impl_LeastContrast.l0 k y207_1 x6 x7 x8 x38 x39 x40 = some (r0, r1) ∧ s = St.of [(3, .c (.ptr 207 0)), (6, .c (.own 208 x6.length)), (7, vI x7), (8, vI x8), (38, vR 23 (x38.map c23)), (39, vI x39), (40, vI x40)] [(207, .box 32 [.d (.row 90 (y207_0.map c86)), .d (.row 2 (y207_1.map c2))]), (208, .row 2 (x6.map c2))]) ⟨hK0, _, _, _, _, _, _, _, _, H, rfl⟩ ?_ ?_) ⟨rfl, rfl, rfl, rfl, rfl, rfl, rfl, trivial⟩ ⟨rfl, rfl, trivial⟩ rfl
     ·rintro _ ⟨_, _, _, _, _, _, _, _, _, H, _⟩
      cases H
     ·clear H hK0
      rintro k ih0 _ ⟨hK0, y207_0, y207_1, x6, x7, x8, x38, x39, x40, H, rfl⟩
      unfold impl_LeastContrast.l0 at H
      refine AG.seq ?_
      refine AG.region HM ?_
      refine a_int (u := .bool (decide (x40 < x39))) ?_
      refine RA.nil nofun ?_
      refine AG.seq ?_
      by_cases hc11 : x40 < x39
      ·rw [if_pos hc11] at H
       refine AG.yes rfl (decide_eq_true hc11) ?_
       refine AG.skip ?_
       refine AG.seq ?_
       refine AG.block ?_
       refine AG.seq ?_
       refine AG.region HM ?_
       refine a_move (v := vI _) ?_
       by_cases hc12 : 0 ≤ x40
       ·rw [if_pos hc12] at H
        by_cases hc13 : x40 < (x38.length : Int)
        ·rw [if_pos hc13] at H
         refine a_ixR (el := c23 (rd23 x38 x40)) ?_ ⟨hc12, hc13⟩ T23 Try.underlying27 (hel := R23 hc12 hc13)
         refine a_ldR (v := vR _ _) ?_ T23
         refine a_move (v := vI _) ?_
         refine a_move (v := vR _ _) ?_
         refine RA.nil nofun ?_
         refine AG.seq ?_
         refine AG.region HM ?_
         refine a_move (v := vR _ _) ?_
         refine a_lenR ?_ Try.underlying23
         refine a_move (v := vI _) ?_
         refine RA.nil nofun ?_
         refine AG.block ?_
         refine AG.loop ?_
         obtain ⟨K1, hK1, gK1⟩ : ∃ K, k ≤ K ∧ K ≤ k := ⟨k, Nat.le_refl k, Nat.le_refl k⟩
         refine AGr.canon (fun κ => cond (Nat.beq κ 209) 207 (cond (Nat.beq κ 210) 208 (κ))) (AGr.loopI (n := k) (fun k s => k ≤ K1 ∧ ∃ (y209_0 : List S86) (y209_1 : List Int) (x6 : List Int) (x7 : Int) (x8 : Int) (x9 : Int) (x38 : List (List Int)) (x39 : Int) (x40 : Int) (x45 : List Int) (x46 : Int) (x47 : Int), impl_LeastContrast.l1 k y209_1 x6 x7 x8 x9 x38 x39 x40 x45 x46 x47 = some (r0, r1) ∧ s = St.of [(3, .c (.ptr 209 0)), (6, .c (.own 210 x6.length)), (7, vI x7), (8, vI x8), (9, vI x9), (38, vR 23 (x38.map c23)), (39, vI x39), (40, vI x40), (45, vR 2 (x45.map c2)), (46, vI x46), (47, vI x47)] [(209, .box 32 [.d (.row 90 (y209_0.map c86)), .d (.row 2 (y209_1.map c2))]), (210, .row 2 (x6.map c2))]) ⟨hK1, _, _, _, _, _, _, _, _, _, _, _, _, H, rfl⟩ ?_ ?_) ⟨rfl, rfl, rfl, rfl, rfl, rfl, rfl, rfl, rfl, rfl, rfl, trivial⟩ ⟨rfl, rfl, trivial⟩ rfl
         ·rintro _ ⟨_, _, _, _, _, _, _, _, _, _, _, _, _, H, _⟩
          cases H
         ·clear H hK1
          rintro k ih1 _ ⟨hK1, y209_0, y209_1, x6, x7, x8, x9, x38, x39, x40, x45, x46, x47, H, rfl⟩
          unfold impl_LeastContrast.l1 at H
          refine AG.seq ?_
          refine AG.region HM ?_
          refine a_int (u := .bool (decide (x47 < x46))) ?_
          refine RA.nil nofun ?_
          refine AG.seq ?_
          by_cases hc14 : x47 < x46
          ·rw [if_pos hc14] at H
           refine AG.yes rfl (decide_eq_true hc14) ?_
           refine AG.skip ?_
           refine AG.seq ?_
           refine AG.block ?_
           refine AG.seq ?_
           refine AG.region HM ?_
           by_cases hc15 : 0 ≤ x47
           ·rw [if_pos hc15] at H
            by_cases hc16 : x47 < (x45.length : Int)
            ·rw [if_pos hc16] at H
             refine a_ixR (el := c2 (rd2 x45 x47)) ?_ ⟨hc15, hc16⟩ T2 Try.underlying23 (hel := R2 hc15 hc16)
             refine a_ldR (v := vI _) ?_ T2
             refine a_move (v := vI _) ?_
             refine RA.nil nofun ?_
             refine AG.seq ?_
             refine AG.region HM ?_
             refine a_move (v := .c (.own _ _)) ?_
             refine a_faB (q := 1) ?_ D32_1
             refine a_ldB (v := vR _ _) ?_ T23
             refine a_move (v := vI _) ?_
             by_cases hc17 : 0 ≤ (rd2 x45 x47)
             ·rw [if_pos hc17] at H
              by_cases hc18 : (rd2 x45 x47) < (y209_1.length : Int)
              ·rw [if_pos hc18] at H
               refine a_ixR (el := c2 (rd2 y209_1 (rd2 x45 x47))) ?_ ⟨hc17, hc18⟩ T2 Try.underlying23 (hel := R2 hc17 hc18)
               refine a_ldR (v := vI _) ?_ T2
               refine a_faB (q := 1) ?_ D32_1
               refine a_ldB (v := vR _ _) ?_ T23
               refine a_move (v := vI _) ?_
               by_cases hc19 : 0 ≤ x9
               ·rw [if_pos hc19] at H
                by_cases hc20 : x9 < (y209_1.length : Int)
                ·rw [if_pos hc20] at H
                 refine a_ixR (el := c2 (rd2 y209_1 x9)) ?_ ⟨hc19, hc20⟩ T2 Try.underlying23 (hel := R2 hc19 hc20)
                 refine a_ldR (v := vI _) ?_ T2
                 refine a_int (u := .int .i64 (wrap64 ((rd2 y209_1 (rd2 x45 x47)) - (rd2 y209_1 x9)))) ?_
                 refine a_move (v := vI _) ?_
                 refine a_int (u := .int .i64 (wrap64 ((wrap64 ((rd2 y209_1 (rd2 x45 x47)) - (rd2 y209_1 x9))) + x7))) ?_
                 refine a_move (v := vI _) ?_
                 by_cases hc21 : x7 = 0
                 ·rw [if_pos hc21] at H
                  cases H
                 ·rw [if_neg hc21] at H
                  refine a_rem (r := Int.tmod (wrap64 ((wrap64 ((rd2 y209_1 (rd2 x45 x47)) - (rd2 y209_1 x9))) + x7)) x7) ?_ hc21
                  by_cases hc22 : 0 ≤ (Int.tmod (wrap64 ((wrap64 ((rd2 y209_1 (rd2 x45 x47)) - (rd2 y209_1 x9))) + x7)) x7)
                  ·rw [if_pos hc22] at H
                   by_cases hc23 : (Int.tmod (wrap64 ((wrap64 ((rd2 y209_1 (rd2 x45 x47)) - (rd2 y209_1 x9))) + x7)) x7) < (x6.length : Int)
                   ·rw [if_pos hc23] at H
                    refine a_ixO ?_ ⟨hc22, hc23⟩ T2 Try.underlying23
                    refine a_ldE (v := vI _) ?_ (G2 hc22 hc23) T2
                    refine a_move (v := vI _) ?_
                    refine RA.nil (fun _ => by kernel_rfl) ?_
                    refine AG.seq ?_
                    refine AG.region HM ?_
                    refine a_move (v := vI _) ?_
                    refine a_int (u := .bool (decide (x8 < 0))) ?_
                    refine a_move (v := vB _) ?_
                    by_cases hc24 : x8 < 0
                    ·rw [if_pos hc24] at H
                     refine RA.skip rfl rfl rfl rfl rfl (decide_eq_true hc24) (by decide) ?_
                     refine RA.skip rfl rfl rfl rfl rfl (decide_eq_true hc24) (by decide) ?_
                     refine RA.skip rfl rfl rfl rfl rfl (decide_eq_true hc24) (by decide) ?_
                     refine a_pick (b := true) (v := vB _) ?_ (decide_eq_true hc24)
                     refine RA.nil nofun ?_
                     refine AG.yes rfl rfl ?_
                     refine AG.region HM ?_
                     refine a_move (v := vI _) ?_
                     refine a_move (v := vI _) ?_
                     refine RA.nil nofun ?_
                     refine AG.region HM ?_
                     refine a_int (u := .int .i64 (wrap64 (x47 + 1))) ?_
                     refine a_move (v := vI _) ?_
                     refine RA.nil nofun ?_
                     exact AGr.canon id (ih1 _ (by omega) _ ⟨by omega, _, _, _, _, _, _, _, _, _, _, _, _, H, rfl⟩) ⟨rfl, rfl, rfl, rfl, rfl, rfl, rfl, rfl, rfl, rfl, rfl, trivial⟩ ⟨rfl, rfl, trivial⟩ rfl
                    ·rw [if_neg hc24] at H
                     refine a_move (v := vI _) ?_ (hg := Gs.yes rfl rfl rfl (decide_eq_false hc24))
                     refine a_move (v := vI _) ?_ (hg := Gs.yes rfl rfl rfl (decide_eq_false hc24))
                     refine a_int (u := .bool (decide ((rd2 x6 (Int.tmod (wrap64 ((wrap64 ((rd2 y209_1 (rd2 x45 x47)) - (rd2 y209_1 x9))) + x7)) x7)) < x8))) ?_ (hg := Gs.yes rfl rfl rfl (decide_eq_false hc24))
                     refine a_pick (b := false) (v := vB _) ?_ (decide_eq_false hc24)
                     refine RA.nil nofun ?_
                     by_cases hc25 : (rd2 x6 (Int.tmod (wrap64 ((wrap64 ((rd2 y209_1 (rd2 x45 x47)) - (rd2 y209_1 x9))) + x7)) x7)) < x8
                     ·rw [if_pos hc25] at H
                      refine AG.yes rfl (decide_eq_true hc25) ?_
                      refine AG.region HM ?_
                      refine a_move (v := vI _) ?_
                      refine a_move (v := vI _) ?_
                      refine RA.nil nofun ?_
                      refine AG.region HM ?_
                      refine a_int (u := .int .i64 (wrap64 (x47 + 1))) ?_
                      refine a_move (v := vI _) ?_
                      refine RA.nil nofun ?_
                      exact AGr.canon id (ih1 _ (by omega) _ ⟨by omega, _, _, _, _, _, _, _, _, _, _, _, _, H, rfl⟩) ⟨rfl, rfl, rfl, rfl, rfl, rfl, rfl, rfl, rfl, rfl, rfl, trivial⟩ ⟨rfl, rfl, trivial⟩ rfl
                     ·rw [if_neg hc25] at H
                      refine AG.no rfl (decide_eq_false hc25) ?_
                      refine AG.skip ?_
                      refine AG.region HM ?_
                      refine a_int (u := .int .i64 (wrap64 (x47 + 1))) ?_
                      refine a_move (v := vI _) ?_
                      refine RA.nil nofun ?_
                      exact AGr.canon id (ih1 _ (by omega) _ ⟨by omega, _, _, _, _, _, _, _, _, _, _, _, _, H, rfl⟩) ⟨rfl, rfl, rfl, rfl, rfl, rfl, rfl, rfl, rfl, rfl, rfl, trivial⟩ ⟨rfl, rfl, trivial⟩ rfl
                   ·rw [if_neg hc23] at H
                    cases H
                  ·rw [if_neg hc22] at H
                   cases H
                ·rw [if_neg hc20] at H
                 cases H
               ·rw [if_neg hc19] at H
                cases H
              ·rw [if_neg hc18] at H
               cases H
             ·rw [if_neg hc17] at H
              cases H
            ·rw [if_neg hc16] at H
             cases H
           ·rw [if_neg hc15] at H
            cases H
          ·rw [if_neg hc14] at H
           refine AG.no rfl (decide_eq_false hc14) ?_
           refine AG.exit ?_
           refine AG.region HM ?_
           refine a_int (u := .int .i64 (wrap64 (x40 + 1))) ?_
           refine a_move (v := vI _) ?_
           refine RA.nil nofun ?_
           exact AGr.canon (fun κ => cond (Nat.beq κ 207) 209 (cond (Nat.beq κ 208) 210 (κ))) (ih0 _ (by omega) _ ⟨by omega, _, _, _, _, _, _, _, _, H, rfl⟩) ⟨rfl, rfl, rfl, rfl, rfl, rfl, rfl, trivial⟩ ⟨rfl, rfl, trivial⟩ rfl
        ·rw [if_neg hc13] at H
         cases H
       ·rw [if_neg hc12] at H
        cases H
      ·rw [if_neg hc11] at H
       refine AG.no rfl (decide_eq_false hc11) ?_
       refine AG.exit ?_
       refine AG.seq ?_
       refine AG.seq ?_
       refine AG.region HM ?_
       refine a_move (v := vI _) ?_
       refine a_int (u := .bool (decide (x8 < 0))) ?_
       refine RA.nil nofun ?_
       by_cases hc26 : x8 < 0
       ·rw [if_pos hc26] at H
        refine AG.yes rfl (decide_eq_true hc26) ?_
        refine AG.seq ?_
        refine AG.region HM ?_
        refine a_move (v := vI _) ?_
        refine a_move (v := vI _) ?_
        refine RA.nil nofun ?_
        refine AG.ret ?_
        simp only [Option.some.injEq, Prod.mk.injEq] at H
        obtain ⟨rfl, rfl⟩ := H
        exact RetP.mk id ⟨rfl, rfl, trivial⟩ trivial rfl
       ·rw [if_neg hc26] at H
        refine AG.no rfl (decide_eq_false hc26) ?_
        refine AG.skip ?_
        refine AG.seq ?_
        refine AG.region HM ?_
        refine a_move (v := vI _) ?_
        refine a_move (v := vI _) ?_
        refine a_move (v := vI _) ?_
        refine RA.nil nofun ?_
        refine AG.ret ?_
        simp only [Option.some.injEq, Prod.mk.injEq] at H
        obtain ⟨rfl, rfl⟩ := H
        exact RetP.mk id ⟨rfl, rfl, trivial⟩ trivial rfl
    ·rw [if_neg hc7] at H
     refine AG.yes rfl (bne_iff_ne.2 hc7) ?_
     refine AG.seq ?_
     refine AG.region HM ?_
     refine a_move (v := vI _) ?_
     refine a_move (v := vI _) ?_
     refine RA.nil nofun ?_
     refine AG.ret ?_
     simp only [Option.some.injEq, Prod.mk.injEq] at H
     obtain ⟨rfl, rfl⟩ := H
     exact RetP.mk id ⟨rfl, rfl, trivial⟩ trivial rfl
/-! ### laws_FnExactLeastContrast: function 5 -/
def laws_FnExactLeastContrast.j0 : Nat → Int → Int → List S107 → List S98 → List S86 → List Int → Int → Int → List S107 → List S98 → List S86 → List Int → Bool → Option (Bool)
 | 0, _, _, _, _, _, _, _, _, _, _, _, _, _ => none
 | k + 1, y216_0, y216_1, y216_2, y216_3, y217_0, y217_1, y218_0, y218_1, y218_2, y218_3, y220_0, y220_1, x47 => if x47 = true then (some false) else ((laws_toDrawing.f k y216_0 y216_1 y216_2 y216_3).bind fun bt31 => ((laws_eqDrawing.f k y218_0 y218_1 y218_2 y218_3 bt31.1 bt31.2.1 bt31.2.2.1 bt31.2.2.2).bind fun t36 => (if t36 = true then ((laws_toPacket.f k y217_0 y217_1).bind fun bt39 => ((laws_eqPacket.f k y220_0 y220_1 bt39.1 bt39.2).bind fun t42 => (if t42 = true then (some true) else (some false)))) else (some false))))
def laws_FnExactLeastContrast.f (k : Nat) (a0_0 : Int) (a0_1 : Int) (l0_2 : List S107) (l0_3 : List S98) (l1_0 : List S86) (l1_1 : List Int) : Option (Bool) := (laws_szDrawing.f k a0_0 a0_1 l0_2 l0_3 1048576).bind fun t1 => (if t1 < 0 then (some true) else ((laws_szPacket.f k l1_0 l1_1 t1).bind fun t4 => (if t4 < 0 then (some true) else ((laws_toDrawing.f k a0_0 a0_1 l0_2 l0_3).bind fun bt7 => ((laws_toPacket.f k l1_0 l1_1).bind fun bt12 => ((spec_LeastContrast.f k bt7.1 bt7.2.1 bt7.2.2.1 bt7.2.2.2 bt12.1 bt12.2).bind fun bt15 => ((laws_toDrawing.f k a0_0 a0_1 l0_2 l0_3).bind fun bt18 => ((laws_toPacket.f k l1_0 l1_1).bind fun bt23 => ((impl_LeastContrast.f k bt18.1 bt18.2.1 bt18.2.2.1 bt18.2.2.2 bt23.1 bt23.2).bind fun bt26 => (if bt26.1 = bt15.1 then (laws_FnExactLeastContrast.j0 k a0_0 a0_1 l0_2 l0_3 l1_0 l1_1 bt18.1 bt18.2.1 bt18.2.2.1 bt18.2.2.2 bt23.1 bt23.2 (bt26.2 != bt15.2)) else (laws_FnExactLeastContrast.j0 k a0_0 a0_1 l0_2 l0_3 l1_0 l1_1 bt18.1 bt18.2.1 bt18.2.2.1 bt18.2.2.2 bt23.1 bt23.2 true)))))))))))
set_option maxRecDepth 100000 in
theorem laws_FnExactLeastContrast.ok {k : Nat} {a0_0 : Int} {a0_1 : Int} {l0_2 : List S107} {l0_3 : List S98} {l1_0 : List S86} {l1_1 : List Int} {r : Bool} (H : laws_FnExactLeastContrast.f k a0_0 a0_1 l0_2 l0_3 l1_0 l1_1 = some r) : OkF Try.prog 5 [.agg [.d (.v (.int .i64 a0_0)), .d (.v (.int .i64 a0_1)), .d (.row 110 (l0_2.map c107)), .d (.row 99 (l0_3.map c98))], .agg [.d (.row 87 (l1_0.map c86)), .d (.row 2 (l1_1.map c2))]] [] (.c (.d (.v (.bool r)))) [] := by
 unfold laws_FnExactLeastContrast.f at H
 refine OkF.of (N := 58) (rs := [4]) (avs := [.c (.d (.v (.bool r)))]) Try.func5 rfl rfl (fun _ _ => results_tmp rfl _ _ _) (by decide) rfl rfl rfl rfl (fun w0 S => ?_)
 refine AG.seq ?_
 refine AG.region HM ?_
 refine a_box 200 ?_
 refine a_box 201 ?_
 refine a_move (v := vB _) ?_
 refine RA.nil nofun ?_
 refine AG.seq ?_
 refine AG.region HM ?_
 refine a_move (v := vI _) ?_
 refine RA.nil nofun ?_
 refine AG.seq ?_
 refine AG.region HM ?_
 refine a_ldB (v := .agg [_, _, _, _]) ?_ T42
 refine a_move (v := vI _) ?_
 obtain ⟨t1, e2, H⟩ := bindO H
 refine a_call (v := vI t1) (nk := []) (L := []) ?_ rfl (laws_szDrawing.ok e2) id (qg (qd qn)) trivial trivial trivial rfl
 refine a_move (v := vI _) ?_
 refine RA.nil nofun ?_
 refine AG.seq ?_
 refine AG.seq ?_
 refine AG.region HM ?_
 refine a_move (v := vI _) ?_
 refine a_int (u := .bool (decide (t1 < 0))) ?_
 refine RA.nil nofun ?_
 by_cases hc3 : t1 < 0
 ·rw [if_pos hc3] at H
  refine AG.yes rfl (decide_eq_true hc3) ?_
  refine AG.seq ?_
  refine AG.region HM ?_
  refine a_move (v := vB _) ?_
  refine RA.nil nofun ?_
  refine AG.ret ?_
  obtain rfl := Option.some.inj H
  exact RetP.mk id ⟨rfl, trivial⟩ trivial rfl
 ·rw [if_neg hc3] at H
  refine AG.no rfl (decide_eq_false hc3) ?_
  refine AG.skip ?_
  refine AG.seq ?_
  refine AG.region HM ?_
  refine a_ldB (v := .agg [_, _]) ?_ T25
  refine a_move (v := vI _) ?_
  obtain ⟨t4, e5, H⟩ := bindO H
  refine a_call (v := vI t4) (nk := []) (L := []) ?_ rfl (laws_szPacket.ok e5) id (qg (qd qn)) trivial trivial trivial rfl
  refine a_move (v := vI _) ?_
  refine RA.nil nofun ?_
  refine AG.seq ?_
  refine AG.seq ?_
  refine AG.region HM ?_
  refine a_move (v := vI _) ?_
  refine a_int (u := .bool (decide (t4 < 0))) ?_
  refine RA.nil nofun ?_
  by_cases hc6 : t4 < 0
  ·rw [if_pos hc6] at H
   refine AG.yes rfl (decide_eq_true hc6) ?_
   refine AG.seq ?_
   refine AG.region HM ?_
   refine a_move (v := vB _) ?_
   refine RA.nil nofun ?_
   refine AG.ret ?_
   obtain rfl := Option.some.inj H
   exact RetP.mk id ⟨rfl, trivial⟩ trivial rfl
  ·rw [if_neg hc6] at H
   refine AG.no rfl (decide_eq_false hc6) ?_
   refine AG.skip ?_
   refine AG.seq ?_
   refine AG.region HM ?_
   refine a_ldB (v := .agg [_, _, _, _]) ?_ T42
   obtain ⟨⟨t7, t8, t9, t10⟩, e11, H⟩ := bindO H
   refine a_call (v := .agg [.d (.v (.int .i64 t7)), .d (.v (.int .i64 t8)), .own 204 t9.length, .own 205 t10.length]) (nk := [(204, .row 108 (t9.map c107)), (205, .row 101 (t10.map c98))]) (L := []) ?_ rfl (laws_toDrawing.ok e11) (fun κ => cond (Nat.beq κ 204) 100 (cond (Nat.beq κ 205) 101 (κ))) (qg qn) trivial ⟨rfl, rfl, trivial⟩ ⟨rfl, rfl, trivial⟩ rfl
   refine a_ldB (v := .agg [_, _]) ?_ T25
   obtain ⟨⟨t12, t13⟩, e14, H⟩ := bindO H
   refine a_call (v := .agg [.own 206 t12.length, .own 207 t13.length]) (nk := [(206, .row 90 (t12.map c86)), (207, .row 2 (t13.map c2))]) (L := []) ?_ rfl (laws_toPacket.ok e14) (fun κ => cond (Nat.beq κ 206) 100 (cond (Nat.beq κ 207) 101 (κ))) (qg qn) trivial ⟨rfl, rfl, trivial⟩ ⟨rfl, rfl, trivial⟩ rfl
   obtain ⟨⟨t15, t16⟩, e17, H⟩ := bindO H
   refine a_call (v := .tup [.c (.d (.v (.int .i64 t15))), .c (.d (.v (.int .i64 t16)))]) (nk := []) (L := [(204, _), (205, _), (206, _), (207, _)]) ?_ rfl (spec_LeastContrast.ok e17) id (qm (eD (eD (eC rO (eC rO eN)))) (qm (eC rO (eC rO eN)) qn)) ⟨rfl, rfl, rfl, rfl, trivial⟩ trivial trivial rfl
   refine a_move (v := .tup [_, _]) ?_
   refine a_ext (v := vI _) ?_
   refine a_ext (v := vI _) ?_
   refine a_move (v := vI _) ?_
   refine a_move (v := vI _) ?_
   refine RA.nil (fun _ => by kernel_rfl) ?_
   refine AG.seq ?_
   refine AG.freeze 205 ?_
   refine AG.region HM ?_
   refine a_ldB (v := .agg [_, _, _, _]) ?_ T42
   obtain ⟨⟨t18, t19, t20, t21⟩, e22, H⟩ := bindO H
   refine a_call (v := .agg [.d (.v (.int .i64 t18)), .d (.v (.int .i64 t19)), .own 209 t20.length, .own 210 t21.length]) (nk := [(209, .row 108 (t20.map c107)), (210, .row 101 (t21.map c98))]) (L := []) ?_ rfl (laws_toDrawing.ok e22) (fun κ => cond (Nat.beq κ 209) 100 (cond (Nat.beq κ 210) 101 (κ))) (qg qn) trivial ⟨rfl, rfl, trivial⟩ ⟨rfl, rfl, trivial⟩ rfl
   refine a_alloc (cs := [_, _, _, _]) 211 ?_ T49
   refine a_stB (cs' := [_, _, _, _]) ?_ T49
   refine RA.nil nofun ?_
   refine AG.seq ?_
   refine AG.freeze 210 ?_
   refine AG.region HM ?_
   refine a_ldB (v := .agg [_, _]) ?_ T25
   obtain ⟨⟨t23, t24⟩, e25, H⟩ := bindO H
   refine a_call (v := .agg [.own 212 t23.length, .own 213 t24.length]) (nk := [(212, .row 90 (t23.map c86)), (213, .row 2 (t24.map c2))]) (L := []) ?_ rfl (laws_toPacket.ok e25) (fun κ => cond (Nat.beq κ 212) 100 (cond (Nat.beq κ 213) 101 (κ))) (qg qn) trivial ⟨rfl, rfl, trivial⟩ ⟨rfl, rfl, trivial⟩ rfl
   refine a_alloc (cs := [_, _]) 214 ?_ T32
   refine a_stB (cs' := [_, _]) ?_ T32
   refine RA.nil nofun ?_
   refine AG.seq ?_
   refine AG.region HM ?_
   refine a_ldB (v := .agg [_, _, _, _]) ?_ T49
   refine a_ldB (v := .agg [_, _]) ?_ T32
   obtain ⟨⟨t26, t27⟩, e28, H⟩ := bindO H
   refine a_call (v := .tup [.c (.d (.v (.int .i64 t26))), .c (.d (.v (.int .i64 t27)))]) (nk := []) (L := [(209, _), (212, _), (213, _)]) ?_ rfl (impl_LeastContrast.ok e28) id (qm (eD (eD (eC rO (eD eN)))) (qm (eC rO (eC rO eN)) qn)) ⟨rfl, rfl, rfl, trivial⟩ trivial trivial rfl
   refine a_move (v := .tup [_, _]) ?_
   refine a_ext (v := vI _) ?_
   refine a_ext (v := vI _) ?_
   refine a_move (v := vI _) ?_
   refine a_move (v := vI _) ?_
   refine RA.nil nofun ?_
   refine AG.seq ?_
   refine AG.seq ?_
   refine AG.joinR (fun s => ∃ q, q ≤ k ∧ ∃ (y216_0 : Int) (y216_1 : Int) (y216_2 : List S107) (y216_3 : List S98) (y217_0 : List S86) (y217_1 : List Int) (y218_0 : Int) (y218_1 : Int) (y218_2 : List S107) (y218_3 : List S98) (y220_0 : List S86) (y220_1 : List Int) (x47 : Bool), laws_FnExactLeastContrast.j0 q y216_0 y216_1 y216_2 y216_3 y217_0 y217_1 y218_0 y218_1 y218_2 y218_3 y220_0 y220_1 x47 = some r ∧ s = St.of [(2, .c (.ptr 216 0)), (3, .c (.ptr 217 0)), (8, .c (.ptr 218 0)), (9, .c (.ptr 220 0)), (47, vB x47)] [(216, .box 42 [.d (.v (.int .i64 y216_0)), .d (.v (.int .i64 y216_1)), .d (.row 110 (y216_2.map c107)), .d (.row 99 (y216_3.map c98))]), (217, .box 25 [.d (.row 87 (y217_0.map c86)), .d (.row 2 (y217_1.map c2))]), (218, .box 49 [.d (.v (.int .i64 y218_0)), .d (.v (.int .i64 y218_1)), .own 219 y218_2.length, .d (.row 101 (y218_3.map c98))]), (219, .row 108 (y218_2.map c107)), (220, .box 32 [.own 221 y220_0.length, .own 222 y220_1.length]), (221, .row 90 (y220_0.map c86)), (222, .row 2 (y220_1.map c2))]) ?_ ?_
   ·skip
    refine AG.region HM ?_
    refine a_move (v := vI _) ?_
    refine a_move (v := vI _) ?_
    refine a_int (u := .bool ((t26 != t15))) ?_
    refine a_move (v := vB _) ?_
    by_cases hc29 : t26 = t15
    ·rw [if_pos hc29] at H
     refine a_move (v := vI _) ?_ (hg := Gs.yes rfl rfl rfl (bne_eq_false_iff_eq.2 hc29))
     refine a_move (v := vI _) ?_ (hg := Gs.yes rfl rfl rfl (bne_eq_false_iff_eq.2 hc29))
     refine a_int (u := .bool ((t27 != t16))) ?_ (hg := Gs.yes rfl rfl rfl (bne_eq_false_iff_eq.2 hc29))
     refine a_pick (b := false) (v := vB _) ?_ (bne_eq_false_iff_eq.2 hc29)
     refine RA.nil nofun ?_
     exact CanR.mk (fun κ => cond (Nat.beq κ 216) 200 (cond (Nat.beq κ 217) 201 (cond (Nat.beq κ 218) 211 (cond (Nat.beq κ 219) 209 (cond (Nat.beq κ 220) 214 (cond (Nat.beq κ 221) 212 (cond (Nat.beq κ 222) 213 (κ)))))))) ⟨_, (by omega), _, _, _, _, _, _, _, _, _, _, _, _, _, H, rfl⟩ ⟨rfl, rfl, rfl, rfl, rfl, trivial⟩ ⟨rfl, rfl, rfl, rfl, rfl, rfl, rfl, trivial⟩ rfl
    ·rw [if_neg hc29] at H
     refine RA.skip rfl rfl rfl rfl rfl (bne_iff_ne.2 hc29) (by decide) ?_
     refine RA.skip rfl rfl rfl rfl rfl (bne_iff_ne.2 hc29) (by decide) ?_
     refine RA.skip rfl rfl rfl rfl rfl (bne_iff_ne.2 hc29) (by decide) ?_
     refine a_pick (b := true) (v := vB _) ?_ (bne_iff_ne.2 hc29)
     refine RA.nil nofun ?_
     exact CanR.mk (fun κ => cond (Nat.beq κ 216) 200 (cond (Nat.beq κ 217) 201 (cond (Nat.beq κ 218) 211 (cond (Nat.beq κ 219) 209 (cond (Nat.beq κ 220) 214 (cond (Nat.beq κ 221) 212 (cond (Nat.beq κ 222) 213 (κ)))))))) ⟨_, (by omega), _, _, _, _, _, _, _, _, _, _, _, _, _, H, rfl⟩ ⟨rfl, rfl, rfl, rfl, rfl, trivial⟩ ⟨rfl, rfl, rfl, rfl, rfl, rfl, rfl, trivial⟩ rfl
   ·clear H
    rintro _ ⟨k, hj0, y216_0, y216_1, y216_2, y216_3, y217_0, y217_1, y218_0, y218_1, y218_2, y218_3, y220_0, y220_1, x47, H, rfl⟩
    cases k with
    | zero => cases H
    | succ k =>
     rw [laws_FnExactLeastContrast.j0] at H
     by_cases hc30 : x47 = true
     ·rw [if_pos hc30] at H
      refine AG.yes rfl hc30 ?_
      refine AG.seq ?_
      refine AG.region HM ?_
      refine a_move (v := vB _) ?_
      refine RA.nil nofun ?_
      refine AG.ret ?_
      obtain rfl := Option.some.inj H
      exact RetP.mk id ⟨rfl, trivial⟩ trivial rfl
     ·rw [if_neg hc30] at H
      refine AG.no rfl (Bool.eq_false_iff.2 hc30) ?_
      refine AG.skip ?_
      refine AG.seq ?_
      refine AG.seq ?_
      refine AG.region HM ?_
      refine a_ldB (v := .agg [_, _, _, _]) ?_ T49
      refine a_ldB (v := .agg [_, _, _, _]) ?_ T42
      obtain ⟨⟨t31, t32, t33, t34⟩, e35, H⟩ := bindO H
      refine a_call (v := .agg [.d (.v (.int .i64 t31)), .d (.v (.int .i64 t32)), .own 223 t33.length, .own 224 t34.length]) (nk := [(223, .row 108 (t33.map c107)), (224, .row 101 (t34.map c98))]) (L := []) ?_ rfl (laws_toDrawing.ok e35) (fun κ => cond (Nat.beq κ 223) 100 (cond (Nat.beq κ 224) 101 (κ))) (qg qn) trivial ⟨rfl, rfl, trivial⟩ ⟨rfl, rfl, trivial⟩ rfl
      obtain ⟨t36, e37, H⟩ := bindO H
      refine a_call (v := vB t36) (nk := []) (L := [(219, _), (223, _), (224, _)]) ?_ rfl (laws_eqDrawing.ok e37) id (qm (eD (eD (eC rO (eD eN)))) (qm (eD (eD (eC rO (eC rO eN)))) qn)) ⟨rfl, rfl, rfl, trivial⟩ trivial trivial rfl
      refine a_un (u := .bool (!t36)) ?_
      refine RA.nil (fun _ => by kernel_rfl) ?_
      by_cases hc38 : t36 = true
      ·rw [if_pos hc38] at H
       refine AG.no rfl (congrArg Bool.not hc38) ?_
       refine AG.skip ?_
       refine AG.seq ?_
       refine AG.seq ?_
       refine AG.freeze 224 ?_
       refine AG.region HM ?_
       refine a_ldB (v := .agg [_, _]) ?_ T32
       refine a_ldB (v := .agg [_, _]) ?_ T25
       obtain ⟨⟨t39, t40⟩, e41, H⟩ := bindO H
       refine a_call (v := .agg [.own 226 t39.length, .own 227 t40.length]) (nk := [(226, .row 90 (t39.map c86)), (227, .row 2 (t40.map c2))]) (L := []) ?_ rfl (laws_toPacket.ok e41) (fun κ => cond (Nat.beq κ 226) 100 (cond (Nat.beq κ 227) 101 (κ))) (qg qn) trivial ⟨rfl, rfl, trivial⟩ ⟨rfl, rfl, trivial⟩ rfl
       obtain ⟨t42, e43, H⟩ := bindO H
       refine a_call (v := vB t42) (nk := []) (L := [(221, _), (222, _), (226, _), (227, _)]) ?_ rfl (laws_eqPacket.ok e43) id (qm (eC rO (eC rO eN)) (qm (eC rO (eC rO eN)) qn)) ⟨rfl, rfl, rfl, rfl, trivial⟩ trivial trivial rfl
       refine a_un (u := .bool (!t42)) ?_
       refine RA.nil (fun _ => by kernel_rfl) ?_
       by_cases hc44 : t42 = true
       ·rw [if_pos hc44] at H
        refine AG.no rfl (congrArg Bool.not hc44) ?_
        refine AG.skip ?_
        refine AG.seq ?_
        refine AG.region HM ?_
        refine a_move (v := vB _) ?_
        refine RA.nil nofun ?_
        refine AG.ret ?_
        obtain rfl := Option.some.inj H
        exact RetP.mk id ⟨rfl, trivial⟩ trivial rfl
       ·rw [if_neg hc44] at H
        refine AG.yes rfl (congrArg Bool.not (Bool.eq_false_iff.2 hc44)) ?_
        refine AG.seq ?_
        refine AG.region HM ?_
        refine a_move (v := vB _) ?_
        refine RA.nil nofun ?_
        refine AG.ret ?_
        obtain rfl := Option.some.inj H
        exact RetP.mk id ⟨rfl, trivial⟩ trivial rfl
      ·rw [if_neg hc38] at H
       refine AG.yes rfl (congrArg Bool.not (Bool.eq_false_iff.2 hc38)) ?_
       refine AG.seq ?_
       refine AG.freeze 224 ?_
       refine AG.region HM ?_
       refine a_move (v := vB _) ?_
       refine RA.nil nofun ?_
       refine AG.ret ?_
       obtain rfl := Option.some.inj H
       exact RetP.mk id ⟨rfl, trivial⟩ trivial rfl
def B107 (x : S107) : Prop := (Lit.int .i64 x.f0).wf = true ∧ (Lit.int .i64 x.f1).wf = true
def B98 (x : S98) : Prop := x.f0.size ≤ maxLen ∧ (x.f1.length ≤ maxLen ∧ ∀ x_ ∈ x.f1, (Lit.int .i64 x_).wf = true)
def B41 (x : S41) : Prop := (Lit.int .i64 x.f0).wf = true ∧ (Lit.int .i64 x.f1).wf = true ∧ (x.f2.length ≤ maxLen ∧ ∀ x_ ∈ x.f2, B107 x_) ∧ (x.f3.length ≤ maxLen ∧ ∀ x_ ∈ x.f3, B98 x_)
def B86 (x : S86) : Prop := x.f0.size ≤ maxLen ∧ (Lit.int .i64 x.f1).wf = true ∧ (Lit.int .i64 x.f2).wf = true
def B24 (x : S24) : Prop := (x.f0.length ≤ maxLen ∧ ∀ x_ ∈ x.f0, B86 x_) ∧ (x.f1.length ≤ maxLen ∧ ∀ x_ ∈ x.f1, (Lit.int .i64 x_).wf = true)
/-- The one plain statement of laws_FnExactLeastContrast. -/
def laws_FnExactLeastContrast.Pure : Prop := ∀ (a0_0 : Int) (a0_1 : Int) (l0_2 : List S107) (l0_3 : List S98) (l1_0 : List S86) (l1_1 : List Int), B41 (⟨a0_0, a0_1, l0_2, l0_3⟩ : S41) → B24 (⟨l1_0, l1_1⟩ : S24) → ∃ k, laws_FnExactLeastContrast.f k a0_0 a0_1 l0_2 l0_3 l1_0 l1_1 = some true
end Go.Proofs.Ytadjbffiomkljaa.PFnExactLeastContrast

/- What each function that the law FnExactReadPacket reaches comes to, and the proof that its walk comes to it; laid by a program of this session. No condition. -/
import Derived.Test.YtedakffelgmmnaaDoorAnE
import Derived.KernelRfl
import Derived.OwnWalk
import Derived.Test.YtedakffelgmmnaaDoorProg
import Derived.Test.YtedakffelgmmnaaDoorAnL
import Derived.Test.YtedakffelgmmnaaDoorAnN
import Derived.Test.YtedakffelgmmnaaDoorLibW
set_option linter.unnecessarySimpa false
set_option linter.unusedVariables false
set_option linter.unusedSimpArgs false
namespace Go.Proofs.YtedakffelgmmnaaDoor.PFnExactReadPacket
open Go Go.RowKit Go.Proofs.YtedakffelgmmnaaDoorM Go.Proofs Go.Proofs.YtedakffelgmmnaaDoor.LibW
theorem HM : Tryd.prog.follows .mixedOrders = true := by kernel_rfl
structure S35 where
 f0 : ByteArray
 f1 : Int
 f2 : Int
def z35 : S35 := ⟨(⟨#[]⟩ : ByteArray), 0, 0⟩
structure S24 where
 f0 : List S35
 f1 : List Int
def z24 : S24 := ⟨[], []⟩
def c9 (x : ByteArray) : List DV := [.v (.string x)]
def rd9 (l : List ByteArray) (i : Int) : ByteArray := l.getD i.toNat (⟨#[]⟩ : ByteArray)
theorem R9 {l : List ByteArray} {i : Int} {z : List DV} (h0 : 0 ≤ i) (h1 : i < (l.length : Int)) : (l.map c9).getD i.toNat z = c9 (rd9 l i) := by
 have : i.toNat < l.length := by omega
 simp [rd9, List.getD_eq_getElem?_getD, this]
theorem G9 {l : List ByteArray} {i : Int} (h0 : 0 ≤ i) (h1 : i < (l.length : Int)) : (l.map c9)[i.toNat]? = some (c9 (rd9 l i)) := by
 have : i.toNat < l.length := by omega
 simp [rd9, List.getD_eq_getElem?_getD, this]
def c2 (x : Int) : List DV := [.v (.int .i64 x)]
def rd2 (l : List Int) (i : Int) : Int := l.getD i.toNat 0
theorem R2 {l : List Int} {i : Int} {z : List DV} (h0 : 0 ≤ i) (h1 : i < (l.length : Int)) : (l.map c2).getD i.toNat z = c2 (rd2 l i) := by
 have : i.toNat < l.length := by omega
 simp [rd2, List.getD_eq_getElem?_getD, this]
theorem G2 {l : List Int} {i : Int} (h0 : 0 ≤ i) (h1 : i < (l.length : Int)) : (l.map c2)[i.toNat]? = some (c2 (rd2 l i)) := by
 have : i.toNat < l.length := by omega
 simp [rd2, List.getD_eq_getElem?_getD, this]
def c23 (x : List Int) : List DV := [.row 2 (x.map c2)]
def rd23 (l : List (List Int)) (i : Int) : List Int := l.getD i.toNat []
theorem R23 {l : List (List Int)} {i : Int} {z : List DV} (h0 : 0 ≤ i) (h1 : i < (l.length : Int)) : (l.map c23).getD i.toNat z = c23 (rd23 l i) := by
 have : i.toNat < l.length := by omega
 simp [rd23, List.getD_eq_getElem?_getD, this]
theorem G23 {l : List (List Int)} {i : Int} (h0 : 0 ≤ i) (h1 : i < (l.length : Int)) : (l.map c23)[i.toNat]? = some (c23 (rd23 l i)) := by
 have : i.toNat < l.length := by omega
 simp [rd23, List.getD_eq_getElem?_getD, this]
def c35 (x : S35) : List DV := [.v (.string x.f0), .v (.int .i64 x.f1), .v (.int .i64 x.f2)]
def rd35 (l : List S35) (i : Int) : S35 := l.getD i.toNat z35
theorem R35 {l : List S35} {i : Int} {z : List DV} (h0 : 0 ≤ i) (h1 : i < (l.length : Int)) : (l.map c35).getD i.toNat z = c35 (rd35 l i) := by
 have : i.toNat < l.length := by omega
 simp [rd35, List.getD_eq_getElem?_getD, this]
theorem G35 {l : List S35} {i : Int} (h0 : 0 ≤ i) (h1 : i < (l.length : Int)) : (l.map c35)[i.toNat]? = some (c35 (rd35 l i)) := by
 have : i.toNat < l.length := by omega
 simp [rd35, List.getD_eq_getElem?_getD, this]
def c5 (x : Int) : List DV := [.v (.int .u8 x)]
def rd5 (l : List Int) (i : Int) : Int := l.getD i.toNat 0
theorem R5 {l : List Int} {i : Int} {z : List DV} (h0 : 0 ≤ i) (h1 : i < (l.length : Int)) : (l.map c5).getD i.toNat z = c5 (rd5 l i) := by
 have : i.toNat < l.length := by omega
 simp [rd5, List.getD_eq_getElem?_getD, this]
theorem G5 {l : List Int} {i : Int} (h0 : 0 ≤ i) (h1 : i < (l.length : Int)) : (l.map c5)[i.toNat]? = some (c5 (rd5 l i)) := by
 have : i.toNat < l.length := by omega
 simp [rd5, List.getD_eq_getElem?_getD, this]
theorem T9 : tyi Tryd.prog 9 = some (1, 16, [.string ⟨#[]⟩], false) := by kernel_rfl
theorem T2 : tyi Tryd.prog 2 = some (1, 8, [.int .i64 0], false) := by kernel_rfl
theorem T23 : tyi Tryd.prog 23 = some (1, 24, [.slice none 0 0], false) := by kernel_rfl
theorem T36 : tyi Tryd.prog 36 = some (3, 32, [.string ⟨#[]⟩, .int .i64 0, .int .i64 0], true) := by kernel_rfl
theorem T22 : tyi Tryd.prog 22 = some (1, 24, [.slice none 0 0], false) := by kernel_rfl
theorem T25 : tyi Tryd.prog 25 = some (2, 48, [.slice none 0 0, .slice none 0 0], true) := by kernel_rfl
theorem T5 : tyi Tryd.prog 5 = some (1, 1, [.int .u8 0], false) := by kernel_rfl
theorem I36 : infosOk Tryd.prog 36 = true := by kernel_rfl
theorem I25 : infosOk Tryd.prog 25 = true := by kernel_rfl
theorem N31 : eln Tryd.prog 31 = some 9 := by kernel_rfl
theorem N23 : eln Tryd.prog 23 = some 2 := by kernel_rfl
theorem N62 : eln Tryd.prog 62 = some 23 := by kernel_rfl
theorem N22 : eln Tryd.prog 22 = some 36 := by kernel_rfl
theorem N69 : eln Tryd.prog 69 = some 5 := by kernel_rfl
theorem D36_0 : fld Tryd.prog 36 0 = some (0, 1, false) := by kernel_rfl
theorem D36_1 : fld Tryd.prog 36 1 = some (1, 1, false) := by kernel_rfl
theorem D36_2 : fld Tryd.prog 36 2 = some (2, 1, false) := by kernel_rfl
theorem D25_0 : fld Tryd.prog 25 0 = some (0, 1, false) := by kernel_rfl
theorem D25_1 : fld Tryd.prog 25 1 = some (1, 1, false) := by kernel_rfl
/-! ### spec_l01Split: function 9 -/
def spec_l01Split.l0 : Nat → ByteArray → Int → List ByteArray → Int → Int → Option ((List ByteArray))
 | 0, _, _, _, _, _ => none
 | k + 1, x0, x1, x5, x6, x7 => if x7 < (x0.size : Int) then (if 0 ≤ x7 then (if (bt x0 x7) = x1 then (if 0 ≤ x6 then (if x6 ≤ x7 then (if x7 ≤ (x0.size : Int) then (if x5.length < 8796093022208 then (spec_l01Split.l0 k x0 x1 (x5 ++ [x0.extract ((x6 : Int).toNat) ((x7 : Int).toNat)]) (wrap64 (x7 + 1)) (wrap64 (x7 + 1))) else (none)) else (none)) else (none)) else (none)) else (spec_l01Split.l0 k x0 x1 x5 x6 (wrap64 (x7 + 1)))) else (none)) else (if 0 ≤ x6 then (if x6 ≤ (x0.size : Int) then (if x5.length < 8796093022208 then (some (x5 ++ [x0.extract ((x6 : Int).toNat) x0.size])) else (none)) else (none)) else (none))
def spec_l01Split.f (k : Nat) (a0 : ByteArray) (a1 : Int) : Option ((List ByteArray)) := spec_l01Split.l0 k a0 a1 (([] : List ByteArray) : List ByteArray) 0 0
set_option maxRecDepth 100000 in
theorem spec_l01Split.ok {k : Nat} {a0 : ByteArray} {a1 : Int} {r : List ByteArray} (H : spec_l01Split.f k a0 a1 = some r) : OkF Tryd.prog 9 [vS a0, .c (.d (.v (.int .u8 a1)))] [] (.c (.own 100 r.length)) [(100, .row 9 (r.map c9))] := by
 unfold spec_l01Split.f at H
 refine OkF.of (N := 35) (rs := [4]) (avs := [.c (.own 100 r.length)]) Tryd.func9 rfl rfl (fun _ _ => results_tmp rfl _ _ _) (by decide) rfl rfl rfl rfl (fun w0 S => ?_)
 refine AG.seq ?_
 refine AG.region HM ?_
 refine a_nilO (e := 9) 200 ?_ T9
 refine RA.nil nofun ?_
 refine AG.seq ?_
 refine AG.region HM ?_
 refine a_lit (cs := []) (D := []) (css := (([] : List ByteArray) : List ByteArray).map c9) 201 ?_ N31 T9 (hcss := by rfl)
 refine a_move (v := .c (.own _ _)) ?_
 refine RA.nil nofun ?_
 refine AG.seq ?_
 refine AG.region HM ?_
 refine a_move (v := vI _) ?_
 refine RA.nil nofun ?_
 refine AG.seq ?_
 refine AG.seq ?_
 refine AG.region HM ?_
 refine a_move (v := vI _) ?_
 refine RA.nil nofun ?_
 refine AG.block ?_
 refine AG.loop ?_
 obtain ⟨K0, hK0, gK0⟩ : ∃ K, k ≤ K ∧ K ≤ k := ⟨k, Nat.le_refl k, Nat.le_refl k⟩
 refine AGr.canon (fun κ => cond (Nat.beq κ 202) 201 (κ)) (AGr.loopI (n := k) (fun k s => k ≤ K0 ∧ ∃ (x0 : ByteArray) (x1 : Int) (x5 : List ByteArray) (x6 : Int) (x7 : Int), spec_l01Split.l0 k x0 x1 x5 x6 x7 = some r ∧ s = St.of [(0, vS x0), (1, .c (.d (.v (.int .u8 x1)))), (5, .c (.own 202 x5.length)), (6, vI x6), (7, vI x7)] [(202, .row 9 (x5.map c9))]) ⟨hK0, _, _, _, _, _, H, rfl⟩ ?_ ?_) ⟨rfl, rfl, (ownE rfl (by simp)), rfl, rfl, trivial⟩ ⟨rfl, trivial⟩ rfl
 ·rintro _ ⟨_, _, _, _, _, _, H, _⟩
  cases H
 ·clear H hK0
  rintro k ih0 _ ⟨hK0, x0, x1, x5, x6, x7, H, rfl⟩
  unfold spec_l01Split.l0 at H
  refine AG.seq ?_
  refine AG.seq ?_
  refine AG.region HM ?_
  refine a_move (v := vI _) ?_
  refine a_move (v := vS _) ?_
  refine a_lenS ?_ Tryd.underlying9
  refine a_int (u := .bool (decide (x7 < (x0.size : Int)))) ?_
  refine RA.nil nofun ?_
  by_cases hc2 : x7 < (x0.size : Int)
  ·rw [if_pos hc2] at H
   refine AG.yes rfl (decide_eq_true hc2) ?_
   refine AG.skip ?_
   refine AG.seq ?_
   refine AG.block ?_
   refine AG.seq ?_
   refine AG.region HM ?_
   refine a_move (v := vS _) ?_
   refine a_move (v := vI _) ?_
   by_cases hc3 : 0 ≤ x7
   ·rw [if_pos hc3] at H
    refine a_str ?_ ⟨hc3, hc2⟩ Tryd.underlying9
    refine a_move (v := gV (.int .u8 _)) ?_
    refine a_int (u := .bool (((bt x0 x7) == x1))) ?_
    refine RA.nil nofun ?_
    by_cases hc4 : (bt x0 x7) = x1
    ·rw [if_pos hc4] at H
     refine AG.yes rfl (beq_iff_eq.2 hc4) ?_
     refine AG.seq ?_
     refine AG.region HM ?_
     refine a_move (v := .c (.own _ _)) ?_
     refine a_move (v := vS _) ?_
     refine a_move (v := vI _) ?_
     refine a_move (v := vI _) ?_
     by_cases hc5 : 0 ≤ x6
     ·rw [if_pos hc5] at H
      by_cases hc6 : x6 ≤ x7
      ·rw [if_pos hc6] at H
       by_cases hc7 : x7 ≤ (x0.size : Int)
       ·rw [if_pos hc7] at H
        refine a_slS (l := some x6) (h := some x7) (b' := x0.extract ((x6 : Int).toNat) ((x7 : Int).toNat)) ?_ Tryd.underlying9 ⟨hc5, hc6, hc7⟩
        refine a_lit (cs := [_]) (D := []) (css := ([x0.extract ((x6 : Int).toNat) ((x7 : Int).toNat)]).map c9) 203 ?_ N31 T9
        by_cases hc8 : x5.length < 8796093022208
        ·rw [if_pos hc8] at H
         refine a_appO (css' := (x5 ++ [x0.extract ((x6 : Int).toNat) ((x7 : Int).toNat)]).map c9) (n' := (x5 ++ [x0.extract ((x6 : Int).toNat) ((x7 : Int).toNat)]).length) ?_ T9 (by simp [maxLen]; omega) (by simp; omega) Tryd.underlying31 (hc := by exact List.map_append.symm) (hn := by exact List.length_map _)
         refine a_move (v := .c (.own _ _)) ?_
         refine RA.nil nofun ?_
         refine AG.region HM ?_
         refine a_move (v := vI _) ?_
         refine a_int (u := .int .i64 (wrap64 (x7 + 1))) ?_
         refine a_move (v := vI _) ?_
         refine RA.nil nofun ?_
         refine AG.region HM ?_
         refine a_move (v := vI _) ?_
         refine a_int (u := .int .i64 (wrap64 (x7 + 1))) ?_
         refine a_move (v := vI _) ?_
         refine RA.nil nofun ?_
         exact AGr.canon id (ih0 _ (by omega) _ ⟨by omega, _, _, _, _, _, H, rfl⟩) ⟨rfl, rfl, rfl, rfl, rfl, trivial⟩ ⟨rfl, trivial⟩ rfl
        ·rw [if_neg hc8] at H
         cases H
       ·rw [if_neg hc7] at H
        cases H
      ·rw [if_neg hc6] at H
       cases H
     ·rw [if_neg hc5] at H
      cases H
    ·rw [if_neg hc4] at H
     refine AG.no rfl (beq_eq_false_iff_ne.2 hc4) ?_
     refine AG.skip ?_
     refine AG.region HM ?_
     refine a_move (v := vI _) ?_
     refine a_int (u := .int .i64 (wrap64 (x7 + 1))) ?_
     refine a_move (v := vI _) ?_
     refine RA.nil nofun ?_
     exact AGr.canon id (ih0 _ (by omega) _ ⟨by omega, _, _, _, _, _, H, rfl⟩) ⟨rfl, rfl, rfl, rfl, rfl, trivial⟩ ⟨rfl, trivial⟩ rfl
   ·rw [if_neg hc3] at H
    cases H
  ·rw [if_neg hc2] at H
   refine AG.no rfl (decide_eq_false hc2) ?_
   refine AG.exit ?_
   refine AG.seq ?_
   refine AG.region HM ?_
   refine a_move (v := .c (.own _ _)) ?_
   refine a_move (v := vS _) ?_
   refine a_move (v := vI _) ?_
   by_cases hc10 : 0 ≤ x6
   ·rw [if_pos hc10] at H
    by_cases hc11 : x6 ≤ (x0.size : Int)
    ·rw [if_pos hc11] at H
     refine a_slS (l := some x6) (h := none) (b' := x0.extract ((x6 : Int).toNat) x0.size) ?_ Tryd.underlying9 ⟨hc10, hc11, (Int.le_refl _)⟩
     refine a_lit (cs := [_]) (D := []) (css := ([x0.extract ((x6 : Int).toNat) x0.size]).map c9) 204 ?_ N31 T9
     by_cases hc12 : x5.length < 8796093022208
     ·rw [if_pos hc12] at H
      refine a_appO (css' := (x5 ++ [x0.extract ((x6 : Int).toNat) x0.size]).map c9) (n' := (x5 ++ [x0.extract ((x6 : Int).toNat) x0.size]).length) ?_ T9 (by simp [maxLen]; omega) (by simp; omega) Tryd.underlying31 (hc := by exact List.map_append.symm) (hn := by exact List.length_map _)
      refine a_move (v := .c (.own _ _)) ?_
      refine RA.nil nofun ?_
      refine AG.ret ?_
      obtain rfl := Option.some.inj H
      exact RetP.mk (fun κ => cond (Nat.beq κ 100) 202 (κ)) ⟨rfl, trivial⟩ ⟨rfl, trivial⟩ rfl
     ·rw [if_neg hc12] at H
      cases H
    ·rw [if_neg hc11] at H
     cases H
   ·rw [if_neg hc10] at H
    cases H
/-! ### spec_l01Digit: function 37 -/
def spec_l01Digit.f (a0 : Int) : Option (Bool) := if a0 ≥ 48 then (some (decide (a0 ≤ 57))) else (some false)
set_option maxRecDepth 100000 in
theorem spec_l01Digit.ok {a0 : Int} {r : Bool} (H : spec_l01Digit.f a0 = some r) : OkF Tryd.prog 37 [.c (.d (.v (.int .u8 a0)))] [] (.c (.d (.v (.bool r)))) [] := by
 unfold spec_l01Digit.f at H
 refine OkF.of (N := 9) (rs := [2]) (avs := [.c (.d (.v (.bool r)))]) Tryd.func37 rfl rfl (fun _ _ => results_tmp rfl _ _ _) (by decide) rfl rfl rfl rfl (fun w0 S => ?_)
 refine AG.seq ?_
 refine AG.region HM ?_
 refine a_move (v := vB _) ?_
 refine RA.nil nofun ?_
 refine AG.seq ?_
 refine AG.region HM ?_
 refine a_move (v := gV (.int .u8 _)) ?_
 refine a_int (u := .bool (decide (a0 ≥ 48))) ?_
 refine a_move (v := vB _) ?_
 by_cases hc1 : a0 ≥ 48
 ·rw [if_pos hc1] at H
  refine a_move (v := gV (.int .u8 _)) ?_ (hg := Gs.yes rfl rfl rfl (decide_eq_true hc1))
  refine a_int (u := .bool (decide (a0 ≤ 57))) ?_ (hg := Gs.yes rfl rfl rfl (decide_eq_true hc1))
  refine a_pick (b := true) (v := vB _) ?_ (decide_eq_true hc1)
  refine a_move (v := vB _) ?_
  refine RA.nil nofun ?_
  refine AG.ret ?_
  obtain rfl := Option.some.inj H
  exact RetP.mk id ⟨rfl, trivial⟩ trivial rfl
 ·rw [if_neg hc1] at H
  refine RA.skip rfl rfl rfl rfl rfl (decide_eq_false hc1) (by decide) ?_
  refine RA.skip rfl rfl rfl rfl rfl (decide_eq_false hc1) (by decide) ?_
  refine a_pick (b := false) (v := vB _) ?_ (decide_eq_false hc1)
  refine a_move (v := vB _) ?_
  refine RA.nil nofun ?_
  refine AG.ret ?_
  obtain rfl := Option.some.inj H
  exact RetP.mk id ⟨rfl, trivial⟩ trivial rfl
/-! ### spec_l01Number: function 23 -/
mutual
def spec_l01Number.j0 : Nat → ByteArray → Int → Bool → Option (Int × Bool)
 | 0, _, _, _ => none
 | k + 1, x0, x4, x14 => if x14 = true then (spec_l01Number.j1 k x0 1) else (spec_l01Number.j1 k x0 x4)
def spec_l01Number.j1 : Nat → ByteArray → Int → Option (Int × Bool)
 | 0, _, _ => none
 | k + 1, x0, x4 => if (x0.size : Int) = x4 then (spec_l01Number.j2 k x0 x4 true) else (if (wrap64 ((x0.size : Int) - x4)) > 18 then (spec_l01Number.j2 k x0 x4 true) else (if 0 ≤ x4 then (if x4 < (x0.size : Int) then (if (bt x0 x4) = 48 then (spec_l01Number.j2 k x0 x4 (decide ((x0.size : Int) > 1))) else (spec_l01Number.j2 k x0 x4 false)) else (none)) else (none)))
def spec_l01Number.j2 : Nat → ByteArray → Int → Bool → Option (Int × Bool)
 | 0, _, _, _ => none
 | k + 1, x0, x4, x36 => if x36 = true then (some (0, false)) else (spec_l01Number.l0 k x0 x4 0 x4)
def spec_l01Number.l0 : Nat → ByteArray → Int → Int → Int → Option (Int × Bool)
 | 0, _, _, _, _ => none
 | k + 1, x0, x4, x5, x6 => if x6 < (x0.size : Int) then (if 0 ≤ x6 then ((spec_l01Digit.f (bt x0 x6)).bind fun t12 => (if t12 = true then (spec_l01Number.l0 k x0 x4 (wrap64 ((wrap64 (10 * x5)) + (wrap64 (((bt x0 x6) - 48) % 256)))) (wrap64 (x6 + 1))) else (some (0, false)))) else (none)) else (if x4 = 1 then (some (wrap64 (0 - x5), true)) else (some (x5, true)))
end
def spec_l01Number.f (k : Nat) (a0 : ByteArray) : Option (Int × Bool) := if (a0.size : Int) > 0 then (if 0 < (a0.size : Int) then (spec_l01Number.j0 k a0 0 ((bt a0 0) == 45)) else (none)) else (spec_l01Number.j0 k a0 0 false)
set_option maxRecDepth 100000 in
theorem spec_l01Number.ok {k : Nat} {a0 : ByteArray} {r0 : Int} {r1 : Bool} (H : spec_l01Number.f k a0 = some (r0, r1)) : OkF Tryd.prog 23 [vS a0] [] (.tup [.c (.d (.v (.int .i64 r0))), .c (.d (.v (.bool r1)))]) [] := by
 unfold spec_l01Number.f at H
 refine OkF.of (N := 62) (rs := [2, 3]) (avs := [.c (.d (.v (.int .i64 r0))), .c (.d (.v (.bool r1)))]) Tryd.func23 rfl rfl (fun _ _ => results_tmp2 rfl _ _ _) (by decide) rfl rfl rfl rfl (fun w0 S => ?_)
 refine AG.seq ?_
 refine AG.region HM ?_
 refine a_move (v := vI _) ?_
 refine a_move (v := vB _) ?_
 refine RA.nil nofun ?_
 refine AG.seq ?_
 refine AG.region HM ?_
 refine a_move (v := vI _) ?_
 refine RA.nil nofun ?_
 refine AG.seq ?_
 refine AG.seq ?_
 refine AG.joinR (fun s => ∃ q, q ≤ k ∧ ∃ (x0 : ByteArray) (x4 : Int) (x14 : Bool), spec_l01Number.j0 q x0 x4 x14 = some (r0, r1) ∧ s = St.of [(0, vS x0), (4, vI x4), (14, vB x14)] []) ?_ ?_
 ·skip
  refine AG.region HM ?_
  refine a_move (v := vS _) ?_
  refine a_lenS ?_ Tryd.underlying9
  refine a_int (u := .bool (decide ((a0.size : Int) > 0))) ?_
  refine a_move (v := vB _) ?_
  by_cases hc1 : (a0.size : Int) > 0
  ·rw [if_pos hc1] at H
   refine a_move (v := vS _) ?_ (hg := Gs.yes rfl rfl rfl (decide_eq_true hc1))
   by_cases hc2 : 0 < (a0.size : Int)
   ·rw [if_pos hc2] at H
    refine a_str ?_ ⟨(by decide), hc2⟩ Tryd.underlying9 (hg := Gs.yes rfl rfl rfl (decide_eq_true hc1))
    refine a_int (u := .bool (((bt a0 0) == 45))) ?_ (hg := Gs.yes rfl rfl rfl (decide_eq_true hc1))
    refine a_pick (b := true) (v := vB _) ?_ (decide_eq_true hc1)
    refine RA.nil nofun ?_
    exact CanR.mk id ⟨_, (by omega), _, _, _, H, rfl⟩ ⟨rfl, rfl, rfl, trivial⟩ trivial rfl
   ·rw [if_neg hc2] at H
    cases H
  ·rw [if_neg hc1] at H
   refine RA.skip rfl rfl rfl rfl rfl (decide_eq_false hc1) (by decide) ?_
   refine RA.skip rfl rfl rfl rfl rfl (decide_eq_false hc1) (by decide) ?_
   refine RA.skip rfl rfl rfl rfl rfl (decide_eq_false hc1) (by decide) ?_
   refine a_pick (b := false) (v := vB _) ?_ (decide_eq_false hc1)
   refine RA.nil nofun ?_
   exact CanR.mk id ⟨_, (by omega), _, _, _, H, rfl⟩ ⟨rfl, rfl, rfl, trivial⟩ trivial rfl
 ·clear H
  rintro _ ⟨k, hj0, x0, x4, x14, H, rfl⟩
  cases k with
  | zero => cases H
  | succ k =>
   rw [spec_l01Number.j0] at H
   refine AG.joinR (fun s => ∃ q, q ≤ k ∧ ∃ (x0 : ByteArray) (x4 : Int), spec_l01Number.j1 q x0 x4 = some (r0, r1) ∧ s = St.of [(0, vS x0), (4, vI x4)] []) ?_ ?_
   ·skip
    by_cases hc3 : x14 = true
    ·rw [if_pos hc3] at H
     refine AG.yes rfl hc3 ?_
     refine AG.region HM ?_
     refine a_move (v := vI _) ?_
     refine RA.nil nofun ?_
     exact CanR.mk id ⟨_, (by omega), _, _, H, rfl⟩ ⟨rfl, rfl, trivial⟩ trivial rfl
    ·rw [if_neg hc3] at H
     refine AG.no rfl (Bool.eq_false_iff.2 hc3) ?_
     refine AG.skip ?_
     exact CanR.mk id ⟨_, (by omega), _, _, H, rfl⟩ ⟨rfl, rfl, trivial⟩ trivial rfl
   ·clear H
    rintro _ ⟨k, hj1, x0, x4, H, rfl⟩
    cases k with
    | zero => cases H
    | succ k =>
     rw [spec_l01Number.j1] at H
     refine AG.seq ?_
     refine AG.seq ?_
     refine AG.joinR (fun s => ∃ q, q ≤ k ∧ ∃ (x0 : ByteArray) (x4 : Int) (x36 : Bool), spec_l01Number.j2 q x0 x4 x36 = some (r0, r1) ∧ s = St.of [(0, vS x0), (4, vI x4), (36, vB x36)] []) ?_ ?_
     ·skip
      refine AG.region HM ?_
      refine a_move (v := vS _) ?_
      refine a_lenS ?_ Tryd.underlying9
      refine a_move (v := vI _) ?_
      refine a_int (u := .bool (((x0.size : Int) == x4))) ?_
      refine a_move (v := vB _) ?_
      by_cases hc4 : (x0.size : Int) = x4
      ·rw [if_pos hc4] at H
       refine RA.skip rfl rfl rfl rfl rfl (beq_iff_eq.2 hc4) (by decide) ?_
       refine RA.skip rfl rfl rfl rfl rfl (beq_iff_eq.2 hc4) (by decide) ?_
       refine RA.skip rfl rfl rfl rfl rfl (beq_iff_eq.2 hc4) (by decide) ?_
       refine RA.skip rfl rfl rfl rfl rfl (beq_iff_eq.2 hc4) (by decide) ?_
       refine RA.skip rfl rfl rfl rfl rfl (beq_iff_eq.2 hc4) (by decide) ?_
       refine a_pick (b := true) (v := vB _) ?_ (beq_iff_eq.2 hc4)
       refine a_move (v := vB _) ?_
       refine RA.skip rfl rfl rfl rfl rfl rfl (by decide) ?_
       refine RA.skip rfl rfl rfl rfl rfl rfl (by decide) ?_
       refine RA.skip rfl rfl rfl rfl rfl rfl (by decide) ?_
       refine RA.skip rfl rfl rfl rfl rfl rfl (by decide) ?_
       refine RA.skip rfl rfl rfl rfl rfl rfl (by decide) ?_
       refine RA.skip0 rfl rfl rfl rfl rfl ?_
       refine RA.skip0 rfl rfl rfl rfl rfl ?_
       refine RA.skip0 rfl rfl rfl rfl rfl ?_
       refine RA.skip rfl rfl rfl rfl rfl rfl (by decide) ?_
       refine a_pick (b := true) (v := vB _) ?_ rfl
       refine RA.nil nofun ?_
       exact CanR.mk id ⟨_, (by omega), _, _, _, H, rfl⟩ ⟨rfl, rfl, rfl, trivial⟩ trivial rfl
      ·rw [if_neg hc4] at H
       refine a_move (v := vS _) ?_ (hg := Gs.yes rfl rfl rfl (beq_eq_false_iff_ne.2 hc4))
       refine a_lenS ?_ Tryd.underlying9 (hg := Gs.yes rfl rfl rfl (beq_eq_false_iff_ne.2 hc4))
       refine a_move (v := vI _) ?_ (hg := Gs.yes rfl rfl rfl (beq_eq_false_iff_ne.2 hc4))
       refine a_int (u := .int .i64 (wrap64 ((x0.size : Int) - x4))) ?_ (hg := Gs.yes rfl rfl rfl (beq_eq_false_iff_ne.2 hc4))
       refine a_int (u := .bool (decide ((wrap64 ((x0.size : Int) - x4)) > 18))) ?_ (hg := Gs.yes rfl rfl rfl (beq_eq_false_iff_ne.2 hc4))
       refine a_pick (b := false) (v := vB _) ?_ (beq_eq_false_iff_ne.2 hc4)
       refine a_move (v := vB _) ?_
       by_cases hc5 : (wrap64 ((x0.size : Int) - x4)) > 18
       ·rw [if_pos hc5] at H
        refine RA.skip rfl rfl rfl rfl rfl (decide_eq_true hc5) (by decide) ?_
        refine RA.skip rfl rfl rfl rfl rfl (decide_eq_true hc5) (by decide) ?_
        refine RA.skip rfl rfl rfl rfl rfl (decide_eq_true hc5) (by decide) ?_
        refine RA.skip rfl rfl rfl rfl rfl (decide_eq_true hc5) (by decide) ?_
        refine RA.skip rfl rfl rfl rfl rfl (decide_eq_true hc5) (by decide) ?_
        refine RA.skip0 rfl rfl rfl rfl rfl ?_
        refine RA.skip0 rfl rfl rfl rfl rfl ?_
        refine RA.skip0 rfl rfl rfl rfl rfl ?_
        refine RA.skip rfl rfl rfl rfl rfl (decide_eq_true hc5) (by decide) ?_
        refine a_pick (b := true) (v := vB _) ?_ (decide_eq_true hc5)
        refine RA.nil nofun ?_
        exact CanR.mk id ⟨_, (by omega), _, _, _, H, rfl⟩ ⟨rfl, rfl, rfl, trivial⟩ trivial rfl
       ·rw [if_neg hc5] at H
        refine a_move (v := vS _) ?_ (hg := Gs.yes rfl rfl rfl (decide_eq_false hc5))
        refine a_move (v := vI _) ?_ (hg := Gs.yes rfl rfl rfl (decide_eq_false hc5))
        by_cases hc6 : 0 ≤ x4
        ·rw [if_pos hc6] at H
         by_cases hc7 : x4 < (x0.size : Int)
         ·rw [if_pos hc7] at H
          refine a_str ?_ ⟨hc6, hc7⟩ Tryd.underlying9 (hg := Gs.yes rfl rfl rfl (decide_eq_false hc5))
          refine a_int (u := .bool (((bt x0 x4) == 48))) ?_ (hg := Gs.yes rfl rfl rfl (decide_eq_false hc5))
          refine a_move (v := vB _) ?_ (hg := Gs.yes rfl rfl rfl (decide_eq_false hc5))
          by_cases hc8 : (bt x0 x4) = 48
          ·rw [if_pos hc8] at H
           refine a_move (v := vS _) ?_ (hg := Gs.yes rfl rfl rfl (beq_iff_eq.2 hc8))
           refine a_lenS ?_ Tryd.underlying9 (hg := Gs.yes rfl rfl rfl (beq_iff_eq.2 hc8))
           refine a_int (u := .bool (decide ((x0.size : Int) > 1))) ?_ (hg := Gs.yes rfl rfl rfl (beq_iff_eq.2 hc8))
           refine a_pick (b := true) (v := vB _) ?_ (beq_iff_eq.2 hc8) (hg := Gs.yes rfl rfl rfl (decide_eq_false hc5))
           refine a_pick (b := false) (v := vB _) ?_ (decide_eq_false hc5)
           refine RA.nil nofun ?_
           exact CanR.mk id ⟨_, (by omega), _, _, _, H, rfl⟩ ⟨rfl, rfl, rfl, trivial⟩ trivial rfl
          ·rw [if_neg hc8] at H
           refine RA.skip rfl rfl rfl rfl rfl (beq_eq_false_iff_ne.2 hc8) (by decide) ?_
           refine RA.skip rfl rfl rfl rfl rfl (beq_eq_false_iff_ne.2 hc8) (by decide) ?_
           refine RA.skip rfl rfl rfl rfl rfl (beq_eq_false_iff_ne.2 hc8) (by decide) ?_
           refine a_pick (b := false) (v := vB _) ?_ (beq_eq_false_iff_ne.2 hc8) (hg := Gs.yes rfl rfl rfl (decide_eq_false hc5))
           refine a_pick (b := false) (v := vB _) ?_ (decide_eq_false hc5)
           refine RA.nil nofun ?_
           exact CanR.mk id ⟨_, (by omega), _, _, _, H, rfl⟩ ⟨rfl, rfl, rfl, trivial⟩ trivial rfl
         ·rw [if_neg hc7] at H
          cases H
        ·rw [if_neg hc6] at H
         cases H
     ·clear H
      rintro _ ⟨k, hj2, x0, x4, x36, H, rfl⟩
      cases k with
      | zero => cases H
      | succ k =>
       rw [spec_l01Number.j2] at H
       by_cases hc9 : x36 = true
       ·rw [if_pos hc9] at H
        refine AG.yes rfl hc9 ?_
        refine AG.seq ?_
        refine AG.region HM ?_
        refine a_move (v := vI _) ?_
        refine a_move (v := vB _) ?_
        refine RA.nil nofun ?_
        refine AG.ret ?_
        simp only [Option.some.injEq, Prod.mk.injEq] at H
        obtain ⟨rfl, rfl⟩ := H
        exact RetP.mk id ⟨rfl, rfl, trivial⟩ trivial rfl
       ·rw [if_neg hc9] at H
        refine AG.no rfl (Bool.eq_false_iff.2 hc9) ?_
        refine AG.skip ?_
        refine AG.seq ?_
        refine AG.region HM ?_
        refine a_move (v := vI _) ?_
        refine RA.nil nofun ?_
        refine AG.seq ?_
        refine AG.seq ?_
        refine AG.region HM ?_
        refine a_move (v := vI _) ?_
        refine a_move (v := vI _) ?_
        refine RA.nil nofun ?_
        refine AG.block ?_
        refine AG.loop ?_
        obtain ⟨K0, hK0, gK0⟩ : ∃ K, k ≤ K ∧ K ≤ k := ⟨k, Nat.le_refl k, Nat.le_refl k⟩
        refine AGr.canon id (AGr.loopI (n := k) (fun k s => k ≤ K0 ∧ ∃ (x0 : ByteArray) (x4 : Int) (x5 : Int) (x6 : Int), spec_l01Number.l0 k x0 x4 x5 x6 = some (r0, r1) ∧ s = St.of [(0, vS x0), (4, vI x4), (5, vI x5), (6, vI x6)] []) ⟨hK0, _, _, _, _, H, rfl⟩ ?_ ?_) ⟨rfl, rfl, rfl, rfl, trivial⟩ trivial rfl
        ·rintro _ ⟨_, _, _, _, _, H, _⟩
         cases H
        ·clear H hK0
         rintro k ih0 _ ⟨hK0, x0, x4, x5, x6, H, rfl⟩
         unfold spec_l01Number.l0 at H
         refine AG.seq ?_
         refine AG.seq ?_
         refine AG.region HM ?_
         refine a_move (v := vI _) ?_
         refine a_move (v := vS _) ?_
         refine a_lenS ?_ Tryd.underlying9
         refine a_int (u := .bool (decide (x6 < (x0.size : Int)))) ?_
         refine RA.nil nofun ?_
         by_cases hc10 : x6 < (x0.size : Int)
         ·rw [if_pos hc10] at H
          refine AG.yes rfl (decide_eq_true hc10) ?_
          refine AG.skip ?_
          refine AG.seq ?_
          refine AG.block ?_
          refine AG.seq ?_
          refine AG.seq ?_
          refine AG.region HM ?_
          refine a_move (v := vS _) ?_
          refine a_move (v := vI _) ?_
          by_cases hc11 : 0 ≤ x6
          ·rw [if_pos hc11] at H
           refine a_str ?_ ⟨hc11, hc10⟩ Tryd.underlying9
           obtain ⟨t12, e13, H⟩ := bindO H
           refine a_call (v := vB t12) (nk := []) (L := []) ?_ rfl (spec_l01Digit.ok e13) id (qd qn) trivial trivial trivial rfl
           refine a_un (u := .bool (!t12)) ?_
           refine RA.nil nofun ?_
           by_cases hc14 : t12 = true
           ·rw [if_pos hc14] at H
            refine AG.no rfl (congrArg Bool.not hc14) ?_
            refine AG.skip ?_
            refine AG.region HM ?_
            refine a_move (v := vI _) ?_
            refine a_int (u := .int .i64 (wrap64 (10 * x5))) ?_
            refine a_move (v := vS _) ?_
            refine a_move (v := vI _) ?_
            refine a_str ?_ ⟨hc11, hc10⟩ Tryd.underlying9
            refine a_int (u := .int .u8 (((bt x0 x6) - 48) % 256)) ?_
            refine a_conv (j := wrap64 (((bt x0 x6) - 48) % 256)) ?_ Tryd.underlying5 Tryd.underlying2
            refine a_int (u := .int .i64 (wrap64 ((wrap64 (10 * x5)) + (wrap64 (((bt x0 x6) - 48) % 256))))) ?_
            refine a_move (v := vI _) ?_
            refine RA.nil nofun ?_
            refine AG.region HM ?_
            refine a_move (v := vI _) ?_
            refine a_int (u := .int .i64 (wrap64 (x6 + 1))) ?_
            refine a_move (v := vI _) ?_
            refine RA.nil nofun ?_
            exact AGr.canon id (ih0 _ (by omega) _ ⟨by omega, _, _, _, _, H, rfl⟩) ⟨rfl, rfl, rfl, rfl, trivial⟩ trivial rfl
           ·rw [if_neg hc14] at H
            refine AG.yes rfl (congrArg Bool.not (Bool.eq_false_iff.2 hc14)) ?_
            refine AG.seq ?_
            refine AG.region HM ?_
            refine a_move (v := vI _) ?_
            refine a_move (v := vB _) ?_
            refine RA.nil nofun ?_
            refine AG.ret ?_
            simp only [Option.some.injEq, Prod.mk.injEq] at H
            obtain ⟨rfl, rfl⟩ := H
            exact RetP.mk id ⟨rfl, rfl, trivial⟩ trivial rfl
          ·rw [if_neg hc11] at H
           cases H
         ·rw [if_neg hc10] at H
          refine AG.no rfl (decide_eq_false hc10) ?_
          refine AG.exit ?_
          refine AG.seq ?_
          refine AG.seq ?_
          refine AG.region HM ?_
          refine a_move (v := vI _) ?_
          refine a_int (u := .bool ((x4 == 1))) ?_
          refine RA.nil nofun ?_
          by_cases hc15 : x4 = 1
          ·rw [if_pos hc15] at H
           refine AG.yes rfl (beq_iff_eq.2 hc15) ?_
           refine AG.region HM ?_
           refine a_move (v := vI _) ?_
           refine a_un (u := .int .i64 (wrap64 (0 - x5))) ?_
           refine a_move (v := vI _) ?_
           refine RA.nil nofun ?_
           refine AG.seq ?_
           refine AG.region HM ?_
           refine a_move (v := vI _) ?_
           refine a_move (v := vI _) ?_
           refine a_move (v := vB _) ?_
           refine RA.nil nofun ?_
           refine AG.ret ?_
           simp only [Option.some.injEq, Prod.mk.injEq] at H
           obtain ⟨rfl, rfl⟩ := H
           exact RetP.mk id ⟨rfl, rfl, trivial⟩ trivial rfl
          ·rw [if_neg hc15] at H
           refine AG.no rfl (beq_eq_false_iff_ne.2 hc15) ?_
           refine AG.skip ?_
           refine AG.seq ?_
           refine AG.region HM ?_
           refine a_move (v := vI _) ?_
           refine a_move (v := vI _) ?_
           refine a_move (v := vB _) ?_
           refine RA.nil nofun ?_
           refine AG.ret ?_
           simp only [Option.some.injEq, Prod.mk.injEq] at H
           obtain ⟨rfl, rfl⟩ := H
           exact RetP.mk id ⟨rfl, rfl, trivial⟩ trivial rfl
/-! ### spec_l00In: function 24 -/
def spec_l00In.f (a0 : Int) (a1 : Int) (a2 : Int) : Option (Bool) := if a0 ≥ a1 then (some (decide (a0 ≤ a2))) else (some false)
set_option maxRecDepth 100000 in
theorem spec_l00In.ok {a0 : Int} {a1 : Int} {a2 : Int} {r : Bool} (H : spec_l00In.f a0 a1 a2 = some r) : OkF Tryd.prog 24 [vI a0, vI a1, vI a2] [] (.c (.d (.v (.bool r)))) [] := by
 unfold spec_l00In.f at H
 refine OkF.of (N := 15) (rs := [6]) (avs := [.c (.d (.v (.bool r)))]) Tryd.func24 rfl rfl (fun _ _ => results_tmp rfl _ _ _) (by decide) rfl rfl rfl rfl (fun w0 S => ?_)
 refine AG.seq ?_
 refine AG.region HM ?_
 refine a_move (v := vB _) ?_
 refine RA.nil nofun ?_
 refine AG.seq ?_
 refine AG.region HM ?_
 refine a_move (v := vI _) ?_
 refine a_move (v := vI _) ?_
 refine a_int (u := .bool (decide (a0 ≥ a1))) ?_
 refine a_move (v := vB _) ?_
 by_cases hc1 : a0 ≥ a1
 ·rw [if_pos hc1] at H
  refine a_move (v := vI _) ?_ (hg := Gs.yes rfl rfl rfl (decide_eq_true hc1))
  refine a_move (v := vI _) ?_ (hg := Gs.yes rfl rfl rfl (decide_eq_true hc1))
  refine a_int (u := .bool (decide (a0 ≤ a2))) ?_ (hg := Gs.yes rfl rfl rfl (decide_eq_true hc1))
  refine a_pick (b := true) (v := vB _) ?_ (decide_eq_true hc1)
  refine a_move (v := vB _) ?_
  refine RA.nil nofun ?_
  refine AG.ret ?_
  obtain rfl := Option.some.inj H
  exact RetP.mk id ⟨rfl, trivial⟩ trivial rfl
 ·rw [if_neg hc1] at H
  refine RA.skip rfl rfl rfl rfl rfl (decide_eq_false hc1) (by decide) ?_
  refine RA.skip rfl rfl rfl rfl rfl (decide_eq_false hc1) (by decide) ?_
  refine RA.skip rfl rfl rfl rfl rfl (decide_eq_false hc1) (by decide) ?_
  refine a_pick (b := false) (v := vB _) ?_ (decide_eq_false hc1)
  refine a_move (v := vB _) ?_
  refine RA.nil nofun ?_
  refine AG.ret ?_
  obtain rfl := Option.some.inj H
  exact RetP.mk id ⟨rfl, trivial⟩ trivial rfl
/-! ### spec_ReadList: function 10 -/
def spec_ReadList.l0 : Nat → List ByteArray → List Int → Int → Option ((List Int) × Bool)
 | 0, _, _, _ => none
 | k + 1, x4, x5, x6 => if x6 < (x4.length : Int) then (if 0 ≤ x6 then ((spec_l01Number.f k (rd9 x4 x6)).bind fun bt9 => (if bt9.2 = true then ((spec_l00In.f bt9.1 (-1000000000000) 1000000000000).bind fun t13 => (if t13 = true then (if x5.length < 17592186044416 then (spec_ReadList.l0 k x4 (x5 ++ [bt9.1]) (wrap64 (x6 + 1))) else (none)) else (some (([] : List Int), false)))) else (some (([] : List Int), false)))) else (none)) else (some (x5, true))
def spec_ReadList.f (k : Nat) (a0 : ByteArray) : Option ((List Int) × Bool) := if a0.toList = (⟨#[45]⟩ : ByteArray).toList then (some ((([] : List Int) : List Int), true)) else ((spec_l01Split.f k a0 44).bind fun t3 => (if (t3.length : Int) > 64 then (some (([] : List Int), false)) else (spec_ReadList.l0 k t3 (([] : List Int) : List Int) 0)))
set_option maxRecDepth 100000 in
theorem spec_ReadList.ok {k : Nat} {a0 : ByteArray} {r0 : List Int} {r1 : Bool} (H : spec_ReadList.f k a0 = some (r0, r1)) : OkF Tryd.prog 10 [vS a0] [] (.tup [.c (.own 100 r0.length), .c (.d (.v (.bool r1)))]) [(100, .row 2 (r0.map c2))] := by
 unfold spec_ReadList.f at H
 refine OkF.of (N := 44) (rs := [2, 3]) (avs := [.c (.own 100 r0.length), .c (.d (.v (.bool r1)))]) Tryd.func10 rfl rfl (fun _ _ => results_tmp2 rfl _ _ _) (by decide) rfl rfl rfl rfl (fun w0 S => ?_)
 refine AG.seq ?_
 refine AG.region HM ?_
 refine a_nilO (e := 2) 200 ?_ T2
 refine a_move (v := vB _) ?_
 refine RA.nil nofun ?_
 refine AG.seq ?_
 refine AG.seq ?_
 refine AG.region HM ?_
 refine a_move (v := vS _) ?_
 refine a_bin (u := .bool (a0.toList == (⟨#[45]⟩ : ByteArray).toList)) ?_
 refine RA.nil nofun ?_
 by_cases hc1 : a0.toList = (⟨#[45]⟩ : ByteArray).toList
 ·rw [if_pos hc1] at H
  refine AG.yes rfl (beq_iff_eq.2 hc1) ?_
  refine AG.seq ?_
  refine AG.region HM ?_
  refine a_lit (cs := []) (D := []) (css := (([] : List Int) : List Int).map c2) 201 ?_ N23 T2 (hcss := by rfl)
  refine a_move (v := .c (.own _ _)) ?_
  refine a_move (v := vB _) ?_
  refine RA.nil nofun ?_
  refine AG.ret ?_
  simp only [Option.some.injEq, Prod.mk.injEq] at H
  obtain ⟨rfl, rfl⟩ := H
  exact RetP.mk (fun κ => cond (Nat.beq κ 100) 201 (κ)) ⟨(ownE rfl (by simp)), rfl, trivial⟩ ⟨rfl, trivial⟩ rfl
 ·rw [if_neg hc1] at H
  refine AG.no rfl (beq_eq_false_iff_ne.2 hc1) ?_
  refine AG.skip ?_
  refine AG.seq ?_
  refine AG.region HM ?_
  refine a_move (v := vS _) ?_
  obtain ⟨t3, e4, H⟩ := bindO H
  refine a_call (v := .c (.own 202 t3.length)) (nk := [(202, .row 9 (t3.map c9))]) (L := []) ?_ rfl (spec_l01Split.ok e4) (fun κ => cond (Nat.beq κ 202) 100 (κ)) (qd (qd qn)) trivial ⟨rfl, trivial⟩ ⟨rfl, trivial⟩ rfl
  refine a_move (v := .c (.own _ _)) ?_
  refine RA.nil nofun ?_
  refine AG.seq ?_
  refine AG.seq ?_
  refine AG.region HM ?_
  refine a_move (v := .c (.own _ _)) ?_
  refine a_lenO ?_ Tryd.underlying31
  refine a_int (u := .bool (decide ((t3.length : Int) > 64))) ?_
  refine RA.nil nofun ?_
  by_cases hc5 : (t3.length : Int) > 64
  ·rw [if_pos hc5] at H
   refine AG.yes rfl (decide_eq_true hc5) ?_
   refine AG.seq ?_
   refine AG.region HM ?_
   refine a_nilO (e := 2) 203 ?_ T2
   refine a_move (v := vB _) ?_
   refine RA.nil nofun ?_
   refine AG.ret ?_
   simp only [Option.some.injEq, Prod.mk.injEq] at H
   obtain ⟨rfl, rfl⟩ := H
   exact RetP.mk (fun κ => cond (Nat.beq κ 100) 203 (κ)) ⟨(ownE rfl (by simp)), rfl, trivial⟩ ⟨rfl, trivial⟩ rfl
  ·rw [if_neg hc5] at H
   refine AG.no rfl (decide_eq_false hc5) ?_
   refine AG.skip ?_
   refine AG.seq ?_
   refine AG.region HM ?_
   refine a_lit (cs := []) (D := []) (css := (([] : List Int) : List Int).map c2) 204 ?_ N23 T2 (hcss := by rfl)
   refine a_move (v := .c (.own _ _)) ?_
   refine RA.nil nofun ?_
   refine AG.seq ?_
   refine AG.seq ?_
   refine AG.region HM ?_
   refine a_move (v := vI _) ?_
   refine RA.nil nofun ?_
   refine AG.block ?_
   refine AG.loop ?_
   obtain ⟨K0, hK0, gK0⟩ : ∃ K, k ≤ K ∧ K ≤ k := ⟨k, Nat.le_refl k, Nat.le_refl k⟩
   refine AGr.canon (fun κ => cond (Nat.beq κ 205) 202 (cond (Nat.beq κ 206) 204 (κ))) (AGr.loopI (n := k) (fun k s => k ≤ K0 ∧ ∃ (x4 : List ByteArray) (x5 : List Int) (x6 : Int), spec_ReadList.l0 k x4 x5 x6 = some (r0, r1) ∧ s = St.of [(4, .c (.own 205 x4.length)), (5, .c (.own 206 x5.length)), (6, vI x6)] [(205, .row 9 (x4.map c9)), (206, .row 2 (x5.map c2))]) ⟨hK0, _, _, _, H, rfl⟩ ?_ ?_) ⟨rfl, (ownE rfl (by simp)), rfl, trivial⟩ ⟨rfl, rfl, trivial⟩ rfl
   ·rintro _ ⟨_, _, _, _, H, _⟩
    cases H
   ·clear H hK0
    rintro k ih0 _ ⟨hK0, x4, x5, x6, H, rfl⟩
    unfold spec_ReadList.l0 at H
    refine AG.seq ?_
    refine AG.seq ?_
    refine AG.region HM ?_
    refine a_move (v := vI _) ?_
    refine a_move (v := .c (.own _ _)) ?_
    refine a_lenO ?_ Tryd.underlying31
    refine a_int (u := .bool (decide (x6 < (x4.length : Int)))) ?_
    refine RA.nil nofun ?_
    by_cases hc7 : x6 < (x4.length : Int)
    ·rw [if_pos hc7] at H
     refine AG.yes rfl (decide_eq_true hc7) ?_
     refine AG.skip ?_
     refine AG.seq ?_
     refine AG.block ?_
     refine AG.seq ?_
     refine AG.region HM ?_
     refine a_move (v := .c (.own _ _)) ?_
     refine a_move (v := vI _) ?_
     by_cases hc8 : 0 ≤ x6
     ·rw [if_pos hc8] at H
      refine a_ixO ?_ ⟨hc8, hc7⟩ T9 Tryd.underlying31
      refine a_ldE (v := vS _) ?_ (G9 hc8 hc7) T9
      obtain ⟨⟨t9, t10⟩, e11, H⟩ := bindO H
      refine a_call (v := .tup [.c (.d (.v (.int .i64 t9))), .c (.d (.v (.bool t10)))]) (nk := []) (L := []) ?_ rfl (spec_l01Number.ok e11) id (qd qn) trivial trivial trivial rfl
      refine a_move (v := .tup [_, _]) ?_
      refine a_ext (v := vI _) ?_
      refine a_ext (v := vB _) ?_
      refine a_move (v := vI _) ?_
      refine a_move (v := vB _) ?_
      refine RA.nil nofun ?_
      refine AG.seq ?_
      refine AG.seq ?_
      refine AG.region HM ?_
      refine a_move (v := vB _) ?_
      refine a_un (u := .bool (!t10)) ?_
      refine a_move (v := vB _) ?_
      by_cases hc12 : t10 = true
      ·rw [if_pos hc12] at H
       refine a_move (v := vI _) ?_ (hg := Gs.yes rfl rfl rfl (congrArg Bool.not hc12))
       obtain ⟨t13, e14, H⟩ := bindO H
       refine a_call (v := vB t13) (nk := []) (L := []) ?_ rfl (spec_l00In.ok e14) id (qd (qd (qd qn))) trivial trivial trivial rfl (hg := Gs.yes rfl rfl rfl (congrArg Bool.not hc12))
       refine a_un (u := .bool (!t13)) ?_ (hg := Gs.yes rfl rfl rfl (congrArg Bool.not hc12))
       refine a_pick (b := false) (v := vB _) ?_ (congrArg Bool.not hc12)
       refine RA.nil nofun ?_
       by_cases hc15 : t13 = true
       ·rw [if_pos hc15] at H
        refine AG.no rfl (congrArg Bool.not hc15) ?_
        refine AG.skip ?_
        refine AG.region HM ?_
        refine a_move (v := .c (.own _ _)) ?_
        refine a_move (v := vI _) ?_
        refine a_lit (cs := [_]) (D := []) (css := ([t9]).map c2) 209 ?_ N23 T2
        by_cases hc16 : x5.length < 17592186044416
        ·rw [if_pos hc16] at H
         refine a_appO (css' := (x5 ++ [t9]).map c2) (n' := (x5 ++ [t9]).length) ?_ T2 (by simp [maxLen]; omega) (by simp; omega) Tryd.underlying23 (hc := by exact List.map_append.symm) (hn := by exact List.length_map _)
         refine a_move (v := .c (.own _ _)) ?_
         refine RA.nil nofun ?_
         refine AG.region HM ?_
         refine a_move (v := vI _) ?_
         refine a_int (u := .int .i64 (wrap64 (x6 + 1))) ?_
         refine a_move (v := vI _) ?_
         refine RA.nil nofun ?_
         exact AGr.canon id (ih0 _ (by omega) _ ⟨by omega, _, _, _, H, rfl⟩) ⟨rfl, rfl, rfl, trivial⟩ ⟨rfl, rfl, trivial⟩ rfl
        ·rw [if_neg hc16] at H
         cases H
       ·rw [if_neg hc15] at H
        refine AG.yes rfl (congrArg Bool.not (Bool.eq_false_iff.2 hc15)) ?_
        refine AG.seq ?_
        refine AG.region HM ?_
        refine a_nilO (e := 2) 210 ?_ T2
        refine a_move (v := vB _) ?_
        refine RA.nil nofun ?_
        refine AG.ret ?_
        simp only [Option.some.injEq, Prod.mk.injEq] at H
        obtain ⟨rfl, rfl⟩ := H
        exact RetP.mk (fun κ => cond (Nat.beq κ 100) 210 (κ)) ⟨(ownE rfl (by simp)), rfl, trivial⟩ ⟨rfl, trivial⟩ rfl
      ·rw [if_neg hc12] at H
       refine RA.skip rfl rfl rfl rfl rfl (congrArg Bool.not (Bool.eq_false_iff.2 hc12)) (by decide) ?_
       refine RA.skip rfl rfl rfl rfl rfl (congrArg Bool.not (Bool.eq_false_iff.2 hc12)) (by decide) ?_
       refine RA.skip rfl rfl rfl rfl rfl (congrArg Bool.not (Bool.eq_false_iff.2 hc12)) (by decide) ?_
       refine a_pick (b := true) (v := vB _) ?_ (congrArg Bool.not (Bool.eq_false_iff.2 hc12))
       refine RA.nil nofun ?_
       refine AG.yes rfl rfl ?_
       refine AG.seq ?_
       refine AG.region HM ?_
       refine a_nilO (e := 2) 210 ?_ T2
       refine a_move (v := vB _) ?_
       refine RA.nil nofun ?_
       refine AG.ret ?_
       simp only [Option.some.injEq, Prod.mk.injEq] at H
       obtain ⟨rfl, rfl⟩ := H
       exact RetP.mk (fun κ => cond (Nat.beq κ 100) 210 (κ)) ⟨(ownE rfl (by simp)), rfl, trivial⟩ ⟨rfl, trivial⟩ rfl
     ·rw [if_neg hc8] at H
      cases H
    ·rw [if_neg hc7] at H
     refine AG.no rfl (decide_eq_false hc7) ?_
     refine AG.exit ?_
     refine AG.seq ?_
     refine AG.region HM ?_
     refine a_move (v := .c (.own _ _)) ?_
     refine a_move (v := .c (.own _ _)) ?_
     refine a_move (v := vB _) ?_
     refine RA.nil nofun ?_
     refine AG.ret ?_
     simp only [Option.some.injEq, Prod.mk.injEq] at H
     obtain ⟨rfl, rfl⟩ := H
     exact RetP.mk (fun κ => cond (Nat.beq κ 100) 206 (κ)) ⟨rfl, rfl, trivial⟩ ⟨rfl, trivial⟩ rfl
/-! ### spec_l07Names: function 49 -/
def spec_l07Names.f  : Option ((List ByteArray)) := some ([(⟨#[97, 115, 104]⟩ : ByteArray), (⟨#[98, 101, 101, 99, 104]⟩ : ByteArray), (⟨#[98, 105, 114, 99, 104]⟩ : ByteArray), (⟨#[99, 104, 101, 114, 114, 121]⟩ : ByteArray), (⟨#[101, 98, 111, 110, 121]⟩ : ByteArray), (⟨#[104, 111, 108, 108, 121]⟩ : ByteArray), (⟨#[109, 97, 112, 108, 101]⟩ : ByteArray), (⟨#[111, 97, 107]⟩ : ByteArray), (⟨#[114, 111, 115, 101, 119, 111, 111, 100]⟩ : ByteArray), (⟨#[119, 97, 108, 110, 117, 116]⟩ : ByteArray)])
set_option maxRecDepth 100000 in
theorem spec_l07Names.ok {r : List ByteArray} (H : spec_l07Names.f  = some r) : OkF Tryd.prog 49 [] [] (.c (.own 100 r.length)) [(100, .row 9 (r.map c9))] := by
 unfold spec_l07Names.f at H
 refine OkF.of (N := 2) (rs := [0]) (avs := [.c (.own 100 r.length)]) Tryd.func49 rfl rfl (fun _ _ => results_tmp rfl _ _ _) (by decide) rfl rfl rfl rfl (fun w0 S => ?_)
 refine AG.seq ?_
 refine AG.region HM ?_
 refine a_nilO (e := 9) 200 ?_ T9
 refine RA.nil nofun ?_
 refine AG.seq ?_
 refine AG.region HM ?_
 refine a_lit (cs := [_, _, _, _, _, _, _, _, _, _]) (D := []) (css := ([(⟨#[97, 115, 104]⟩ : ByteArray), (⟨#[98, 101, 101, 99, 104]⟩ : ByteArray), (⟨#[98, 105, 114, 99, 104]⟩ : ByteArray), (⟨#[99, 104, 101, 114, 114, 121]⟩ : ByteArray), (⟨#[101, 98, 111, 110, 121]⟩ : ByteArray), (⟨#[104, 111, 108, 108, 121]⟩ : ByteArray), (⟨#[109, 97, 112, 108, 101]⟩ : ByteArray), (⟨#[111, 97, 107]⟩ : ByteArray), (⟨#[114, 111, 115, 101, 119, 111, 111, 100]⟩ : ByteArray), (⟨#[119, 97, 108, 110, 117, 116]⟩ : ByteArray)]).map c9) 201 ?_ N31 T9 (hcss := by rfl)
 refine a_move (v := .c (.own _ _)) ?_
 refine RA.nil nofun ?_
 refine AG.ret ?_
 obtain rfl := Option.some.inj H
 exact RetP.mk (fun κ => cond (Nat.beq κ 100) 201 (κ)) ⟨(ownE rfl (by simp)), trivial⟩ ⟨rfl, trivial⟩ rfl
/-! ### spec_l07Find: function 38 -/
def spec_l07Find.l0 : Nat → ByteArray → List ByteArray → Int → Option (Int)
 | 0, _, _, _ => none
 | k + 1, x0, x3, x4 => if x4 < (x3.length : Int) then (if 0 ≤ x4 then (if (rd9 x3 x4).toList = x0.toList then (some x4) else (spec_l07Find.l0 k x0 x3 (wrap64 (x4 + 1)))) else (none)) else (some (-1))
def spec_l07Find.f (k : Nat) (a0 : ByteArray) : Option (Int) := (spec_l07Names.f).bind fun t1 => (spec_l07Find.l0 k a0 t1 0)
set_option maxRecDepth 100000 in
theorem spec_l07Find.ok {k : Nat} {a0 : ByteArray} {r : Int} (H : spec_l07Find.f k a0 = some r) : OkF Tryd.prog 38 [vS a0] [] (.c (.d (.v (.int .i64 r)))) [] := by
 unfold spec_l07Find.f at H
 refine OkF.of (N := 19) (rs := [2]) (avs := [.c (.d (.v (.int .i64 r)))]) Tryd.func38 rfl rfl (fun _ _ => results_tmp rfl _ _ _) (by decide) rfl rfl rfl rfl (fun w0 S => ?_)
 refine AG.seq ?_
 refine AG.region HM ?_
 refine a_move (v := vI _) ?_
 refine RA.nil nofun ?_
 refine AG.seq ?_
 refine AG.region HM ?_
 obtain ⟨t1, e2, H⟩ := bindO H
 refine a_call (v := .c (.own 200 t1.length)) (nk := [(200, .row 9 (t1.map c9))]) (L := []) ?_ rfl (spec_l07Names.ok e2) (fun κ => cond (Nat.beq κ 200) 100 (κ)) qn trivial ⟨rfl, trivial⟩ ⟨rfl, trivial⟩ rfl
 refine a_move (v := .c (.own _ _)) ?_
 refine RA.nil nofun ?_
 refine AG.seq ?_
 refine AG.seq ?_
 refine AG.region HM ?_
 refine a_move (v := vI _) ?_
 refine RA.nil nofun ?_
 refine AG.block ?_
 refine AG.loop ?_
 obtain ⟨K0, hK0, gK0⟩ : ∃ K, k ≤ K ∧ K ≤ k := ⟨k, Nat.le_refl k, Nat.le_refl k⟩
 refine AGr.canon (fun κ => cond (Nat.beq κ 201) 200 (κ)) (AGr.loopI (n := k) (fun k s => k ≤ K0 ∧ ∃ (x0 : ByteArray) (x3 : List ByteArray) (x4 : Int), spec_l07Find.l0 k x0 x3 x4 = some r ∧ s = St.of [(0, vS x0), (3, .c (.own 201 x3.length)), (4, vI x4)] [(201, .row 9 (x3.map c9))]) ⟨hK0, _, _, _, H, rfl⟩ ?_ ?_) ⟨rfl, rfl, rfl, trivial⟩ ⟨rfl, trivial⟩ rfl
 ·rintro _ ⟨_, _, _, _, H, _⟩
  cases H
 ·clear H hK0
  rintro k ih0 _ ⟨hK0, x0, x3, x4, H, rfl⟩
  unfold spec_l07Find.l0 at H
  refine AG.seq ?_
  refine AG.seq ?_
  refine AG.region HM ?_
  refine a_move (v := vI _) ?_
  refine a_move (v := .c (.own _ _)) ?_
  refine a_lenO ?_ Tryd.underlying31
  refine a_int (u := .bool (decide (x4 < (x3.length : Int)))) ?_
  refine RA.nil nofun ?_
  by_cases hc3 : x4 < (x3.length : Int)
  ·rw [if_pos hc3] at H
   refine AG.yes rfl (decide_eq_true hc3) ?_
   refine AG.skip ?_
   refine AG.seq ?_
   refine AG.block ?_
   refine AG.seq ?_
   refine AG.region HM ?_
   refine a_move (v := .c (.own _ _)) ?_
   refine a_move (v := vI _) ?_
   by_cases hc4 : 0 ≤ x4
   ·rw [if_pos hc4] at H
    refine a_ixO ?_ ⟨hc4, hc3⟩ T9 Tryd.underlying31
    refine a_ldE (v := vS _) ?_ (G9 hc4 hc3) T9
    refine a_move (v := vS _) ?_
    refine a_bin (u := .bool ((rd9 x3 x4).toList == x0.toList)) ?_
    refine RA.nil nofun ?_
    by_cases hc5 : (rd9 x3 x4).toList = x0.toList
    ·rw [if_pos hc5] at H
     refine AG.yes rfl (beq_iff_eq.2 hc5) ?_
     refine AG.seq ?_
     refine AG.region HM ?_
     refine a_move (v := vI _) ?_
     refine a_move (v := vI _) ?_
     refine RA.nil nofun ?_
     refine AG.ret ?_
     obtain rfl := Option.some.inj H
     exact RetP.mk id ⟨rfl, trivial⟩ trivial rfl
    ·rw [if_neg hc5] at H
     refine AG.no rfl (beq_eq_false_iff_ne.2 hc5) ?_
     refine AG.skip ?_
     refine AG.region HM ?_
     refine a_move (v := vI _) ?_
     refine a_int (u := .int .i64 (wrap64 (x4 + 1))) ?_
     refine a_move (v := vI _) ?_
     refine RA.nil nofun ?_
     exact AGr.canon id (ih0 _ (by omega) _ ⟨by omega, _, _, _, H, rfl⟩) ⟨rfl, rfl, rfl, trivial⟩ ⟨rfl, trivial⟩ rfl
   ·rw [if_neg hc4] at H
    cases H
  ·rw [if_neg hc3] at H
   refine AG.no rfl (decide_eq_false hc3) ?_
   refine AG.exit ?_
   refine AG.seq ?_
   refine AG.region HM ?_
   refine a_move (v := vI _) ?_
   refine RA.nil nofun ?_
   refine AG.ret ?_
   obtain rfl := Option.some.inj H
   exact RetP.mk id ⟨rfl, trivial⟩ trivial rfl
/-! ### spec_l07Table: function 39 -/
def spec_l07Table.f  : Option ((List (List Int))) := some ([([20, 40, 310]), ([35, 45, 410]), ([15, 33, 280]), ([50, 36, 240]), ([95, 85, 270]), ([5, 35, 370]), ([10, 42, 290]), ([40, 40, 330]), ([80, 60, 220]), ([70, 38, 260])])
set_option maxRecDepth 100000 in
theorem spec_l07Table.ok {r : List (List Int)} (H : spec_l07Table.f  = some r) : OkF Tryd.prog 39 [] [] (.c (.own 100 r.length)) [(100, .row 23 (r.map c23))] := by
 unfold spec_l07Table.f at H
 refine OkF.of (N := 12) (rs := [0]) (avs := [.c (.own 100 r.length)]) Tryd.func39 rfl rfl (fun _ _ => results_tmp rfl _ _ _) (by decide) rfl rfl rfl rfl (fun w0 S => ?_)
 refine AG.seq ?_
 refine AG.region HM ?_
 refine a_nilO (e := 23) 200 ?_ T23
 refine RA.nil nofun ?_
 refine AG.seq ?_
 refine AG.region HM ?_
 refine a_lit (cs := [_, _, _]) (D := []) (css := ([20, 40, 310]).map c2) 201 ?_ N23 T2 (hcss := by rfl)
 refine a_lit (cs := [_, _, _]) (D := []) (css := ([35, 45, 410]).map c2) 202 ?_ N23 T2 (hcss := by rfl)
 refine a_lit (cs := [_, _, _]) (D := []) (css := ([15, 33, 280]).map c2) 203 ?_ N23 T2 (hcss := by rfl)
 refine a_lit (cs := [_, _, _]) (D := []) (css := ([50, 36, 240]).map c2) 204 ?_ N23 T2 (hcss := by rfl)
 refine a_lit (cs := [_, _, _]) (D := []) (css := ([95, 85, 270]).map c2) 205 ?_ N23 T2 (hcss := by rfl)
 refine a_lit (cs := [_, _, _]) (D := []) (css := ([5, 35, 370]).map c2) 206 ?_ N23 T2 (hcss := by rfl)
 refine a_lit (cs := [_, _, _]) (D := []) (css := ([10, 42, 290]).map c2) 207 ?_ N23 T2 (hcss := by rfl)
 refine a_lit (cs := [_, _, _]) (D := []) (css := ([40, 40, 330]).map c2) 208 ?_ N23 T2 (hcss := by rfl)
 refine a_lit (cs := [_, _, _]) (D := []) (css := ([80, 60, 220]).map c2) 209 ?_ N23 T2 (hcss := by rfl)
 refine a_lit (cs := [_, _, _]) (D := []) (css := ([70, 38, 260]).map c2) 210 ?_ N23 T2 (hcss := by rfl)
 refine a_lit (cs := [_, _, _, _, _, _, _, _, _, _]) (D := [201, 202, 203, 204, 205, 206, 207, 208, 209, 210]) (css := ([([20, 40, 310]), ([35, 45, 410]), ([15, 33, 280]), ([50, 36, 240]), ([95, 85, 270]), ([5, 35, 370]), ([10, 42, 290]), ([40, 40, 330]), ([80, 60, 220]), ([70, 38, 260])]).map c23) 211 ?_ N62 T23 (hcss := by rfl)
 refine a_move (v := .c (.own _ _)) ?_
 refine RA.nil nofun ?_
 refine AG.ret ?_
 obtain rfl := Option.some.inj H
 exact RetP.mk (fun κ => cond (Nat.beq κ 100) 211 (κ)) ⟨(ownE rfl (by simp)), trivial⟩ ⟨rfl, trivial⟩ rfl
/-! ### spec_l07Grain: function 40 -/
def spec_l07Grain.f (a0 : Int) : Option (Bool) := (spec_l00In.f a0 0 179).bind fun t1 => (some t1)
set_option maxRecDepth 100000 in
theorem spec_l07Grain.ok {a0 : Int} {r : Bool} (H : spec_l07Grain.f a0 = some r) : OkF Tryd.prog 40 [vI a0] [] (.c (.d (.v (.bool r)))) [] := by
 unfold spec_l07Grain.f at H
 refine OkF.of (N := 5) (rs := [2]) (avs := [.c (.d (.v (.bool r)))]) Tryd.func40 rfl rfl (fun _ _ => results_tmp rfl _ _ _) (by decide) rfl rfl rfl rfl (fun w0 S => ?_)
 refine AG.seq ?_
 refine AG.region HM ?_
 refine a_move (v := vB _) ?_
 refine RA.nil nofun ?_
 refine AG.seq ?_
 refine AG.region HM ?_
 refine a_move (v := vI _) ?_
 obtain ⟨t1, e2, H⟩ := bindO H
 refine a_call (v := vB t1) (nk := []) (L := []) ?_ rfl (spec_l00In.ok e2) id (qd (qd (qd qn))) trivial trivial trivial rfl
 refine a_move (v := vB _) ?_
 refine RA.nil nofun ?_
 refine AG.ret ?_
 obtain rfl := Option.some.inj H
 exact RetP.mk id ⟨rfl, trivial⟩ trivial rfl
/-! ### spec_l07Ok: function 25 -/
def spec_l07Ok.j0 : Nat → Int → Int → Int → Bool → Option (Bool)
 | 0, _, _, _, _ => none
 | k + 1, x0_1, x0_2, x3, x19 => if x19 = true then (some false) else ((spec_l07Table.f).bind fun t7 => (if 0 ≤ x3 then (if x3 < (t7.length : Int) then (if 0 < ((rd23 t7 x3).length : Int) then ((spec_l00In.f x0_1 (wrap64 ((rd2 (rd23 t7 x3) 0) - 15)) (wrap64 ((rd2 (rd23 t7 x3) 0) + 15))).bind fun t11 => (if t11 = true then ((spec_l07Grain.f x0_2).bind fun t14 => (some t14)) else (some false))) else (none)) else (none)) else (none)))
def spec_l07Ok.f (k : Nat) (a0_0 : ByteArray) (a0_1 : Int) (a0_2 : Int) : Option (Bool) := (spec_l07Find.f k a0_0).bind fun t1 => (if t1 < 0 then (spec_l07Ok.j0 k a0_1 a0_2 t1 true) else ((spec_l00In.f a0_1 0 100).bind fun t4 => (spec_l07Ok.j0 k a0_1 a0_2 t1 (!t4))))
set_option maxRecDepth 100000 in
theorem spec_l07Ok.ok {k : Nat} {a0_0 : ByteArray} {a0_1 : Int} {a0_2 : Int} {r : Bool} (H : spec_l07Ok.f k a0_0 a0_1 a0_2 = some r) : OkF Tryd.prog 25 [.c (.d (.ro [.v (.string a0_0), .v (.int .i64 a0_1), .v (.int .i64 a0_2)]))] [] (.c (.d (.v (.bool r)))) [] := by
 unfold spec_l07Ok.f at H
 refine OkF.of (N := 42) (rs := [2]) (avs := [.c (.d (.v (.bool r)))]) Tryd.func25 rfl rfl (fun _ _ => results_tmp rfl _ _ _) (by decide) rfl rfl rfl rfl (fun w0 S => ?_)
 refine AG.seq ?_
 refine AG.region HM ?_
 refine a_move (v := vB _) ?_
 refine RA.nil nofun ?_
 refine AG.seq ?_
 refine AG.region HM ?_
 refine a_move (v := vO [_, _, _]) ?_
 refine a_nil (v := vO [_, _, _]) ?_
 refine a_faR (cells' := [_, _, _]) ?_ D36_0
 refine a_ldR (v := vS _) ?_ T9
 obtain ⟨t1, e2, H⟩ := bindO H
 refine a_call (v := vI t1) (nk := []) (L := []) ?_ rfl (spec_l07Find.ok e2) id (qd qn) trivial trivial trivial rfl
 refine a_move (v := vI _) ?_
 refine RA.nil nofun ?_
 refine AG.seq ?_
 refine AG.seq ?_
 refine AG.joinR (fun s => ∃ q, q ≤ k ∧ ∃ (x0_0 : ByteArray) (x0_1 : Int) (x0_2 : Int) (x3 : Int) (x19 : Bool), spec_l07Ok.j0 q x0_1 x0_2 x3 x19 = some r ∧ s = St.of [(0, .c (.d (.ro [.v (.string x0_0), .v (.int .i64 x0_1), .v (.int .i64 x0_2)]))), (3, vI x3), (19, vB x19)] []) ?_ ?_
 ·skip
  refine AG.region HM ?_
  refine a_move (v := vI _) ?_
  refine a_int (u := .bool (decide (t1 < 0))) ?_
  refine a_move (v := vB _) ?_
  by_cases hc3 : t1 < 0
  ·rw [if_pos hc3] at H
   refine RA.skip rfl rfl rfl rfl rfl (decide_eq_true hc3) (by decide) ?_
   refine RA.skip rfl rfl rfl rfl rfl (decide_eq_true hc3) (by decide) ?_
   refine RA.skip rfl rfl rfl rfl rfl (decide_eq_true hc3) (by decide) ?_
   refine RA.skip rfl rfl rfl rfl rfl (decide_eq_true hc3) (by decide) ?_
   refine RA.skip rfl rfl rfl rfl rfl (decide_eq_true hc3) (by decide) ?_
   refine RA.skip rfl rfl rfl rfl rfl (decide_eq_true hc3) (by decide) ?_
   refine a_pick (b := true) (v := vB _) ?_ (decide_eq_true hc3)
   refine RA.nil nofun ?_
   exact CanR.mk id ⟨_, (by omega), _, _, _, _, _, H, rfl⟩ ⟨rfl, rfl, rfl, trivial⟩ trivial rfl
  ·rw [if_neg hc3] at H
   refine a_move (v := vO [_, _, _]) ?_ (hg := Gs.yes rfl rfl rfl (decide_eq_false hc3))
   refine a_nil (v := vO [_, _, _]) ?_ (hg := Gs.yes rfl rfl rfl (decide_eq_false hc3))
   refine a_faR (cells' := [_, _]) ?_ D36_1 (hg := Gs.yes rfl rfl rfl (decide_eq_false hc3))
   refine a_ldR (v := vI _) ?_ T2 (hg := Gs.yes rfl rfl rfl (decide_eq_false hc3))
   obtain ⟨t4, e5, H⟩ := bindO H
   refine a_call (v := vB t4) (nk := []) (L := []) ?_ rfl (spec_l00In.ok e5) id (qd (qd (qd qn))) trivial trivial trivial rfl (hg := Gs.yes rfl rfl rfl (decide_eq_false hc3))
   refine a_un (u := .bool (!t4)) ?_ (hg := Gs.yes rfl rfl rfl (decide_eq_false hc3))
   refine a_pick (b := false) (v := vB _) ?_ (decide_eq_false hc3)
   refine RA.nil nofun ?_
   exact CanR.mk id ⟨_, (by omega), _, _, _, _, _, H, rfl⟩ ⟨rfl, rfl, rfl, trivial⟩ trivial rfl
 ·clear H
  rintro _ ⟨k, hj0, x0_0, x0_1, x0_2, x3, x19, H, rfl⟩
  cases k with
  | zero => cases H
  | succ k =>
   rw [spec_l07Ok.j0] at H
   by_cases hc6 : x19 = true
   ·rw [if_pos hc6] at H
    refine AG.yes rfl hc6 ?_
    refine AG.seq ?_
    refine AG.region HM ?_
    refine a_move (v := vB _) ?_
    refine RA.nil nofun ?_
    refine AG.ret ?_
    obtain rfl := Option.some.inj H
    exact RetP.mk id ⟨rfl, trivial⟩ trivial rfl
   ·rw [if_neg hc6] at H
    refine AG.no rfl (Bool.eq_false_iff.2 hc6) ?_
    refine AG.skip ?_
    refine AG.seq ?_
    refine AG.region HM ?_
    obtain ⟨t7, et7, H⟩ := bindO H
    refine a_callF (L := []) ?_ rfl (spec_l07Table.ok et7) qn trivial
    refine a_move (v := vI _) ?_
    by_cases hc8 : 0 ≤ x3
    ·rw [if_pos hc8] at H
     by_cases hc9 : x3 < (t7.length : Int)
     ·rw [if_pos hc9] at H
      refine a_ixR (el := c23 (rd23 t7 x3)) ?_ ⟨hc8, hc9⟩ T23 Tryd.underlying62 (hel := R23 hc8 hc9)
      refine a_ldR (v := vR _ _) ?_ T23
      by_cases hc10 : 0 < ((rd23 t7 x3).length : Int)
      ·rw [if_pos hc10] at H
       refine a_ixR (el := c2 (rd2 (rd23 t7 x3) 0)) ?_ ⟨(by decide), hc10⟩ T2 Tryd.underlying23 (hel := R2 (by decide) hc10)
       refine a_ldR (v := vI _) ?_ T2
       refine a_move (v := vI _) ?_
       refine RA.nil nofun ?_
       refine AG.seq ?_
       refine AG.region HM ?_
       refine a_move (v := vO [_, _, _]) ?_
       refine a_nil (v := vO [_, _, _]) ?_
       refine a_faR (cells' := [_, _]) ?_ D36_1
       refine a_ldR (v := vI _) ?_ T2
       refine a_move (v := vI _) ?_
       refine a_int (u := .int .i64 (wrap64 ((rd2 (rd23 t7 x3) 0) - 15))) ?_
       refine a_move (v := vI _) ?_
       refine a_int (u := .int .i64 (wrap64 ((rd2 (rd23 t7 x3) 0) + 15))) ?_
       obtain ⟨t11, e12, H⟩ := bindO H
       refine a_call (v := vB t11) (nk := []) (L := []) ?_ rfl (spec_l00In.ok e12) id (qd (qd (qd qn))) trivial trivial trivial rfl
       refine a_move (v := vB _) ?_
       by_cases hc13 : t11 = true
       ·rw [if_pos hc13] at H
        refine a_move (v := vO [_, _, _]) ?_ (hg := Gs.yes rfl rfl rfl hc13)
        refine a_nil (v := vO [_, _, _]) ?_ (hg := Gs.yes rfl rfl rfl hc13)
        refine a_faR (cells' := [_]) ?_ D36_2 (hg := Gs.yes rfl rfl rfl hc13)
        refine a_ldR (v := vI _) ?_ T2 (hg := Gs.yes rfl rfl rfl hc13)
        obtain ⟨t14, e15, H⟩ := bindO H
        refine a_call (v := vB t14) (nk := []) (L := []) ?_ rfl (spec_l07Grain.ok e15) id (qd qn) trivial trivial trivial rfl (hg := Gs.yes rfl rfl rfl hc13)
        refine a_pick (b := true) (v := vB _) ?_ hc13
        refine a_move (v := vB _) ?_
        refine RA.nil nofun ?_
        refine AG.ret ?_
        obtain rfl := Option.some.inj H
        exact RetP.mk id ⟨rfl, trivial⟩ trivial rfl
       ·rw [if_neg hc13] at H
        refine RA.skip rfl rfl rfl rfl rfl (Bool.eq_false_iff.2 hc13) (by decide) ?_
        refine RA.skip rfl rfl rfl rfl rfl (Bool.eq_false_iff.2 hc13) (by decide) ?_
        refine RA.skip rfl rfl rfl rfl rfl (Bool.eq_false_iff.2 hc13) (by decide) ?_
        refine RA.skip rfl rfl rfl rfl rfl (Bool.eq_false_iff.2 hc13) (by decide) ?_
        refine RA.skip rfl rfl rfl rfl rfl (Bool.eq_false_iff.2 hc13) (by decide) ?_
        refine a_pick (b := false) (v := vB _) ?_ (Bool.eq_false_iff.2 hc13)
        refine a_move (v := vB _) ?_
        refine RA.nil nofun ?_
        refine AG.ret ?_
        obtain rfl := Option.some.inj H
        exact RetP.mk id ⟨rfl, trivial⟩ trivial rfl
      ·rw [if_neg hc10] at H
       cases H
     ·rw [if_neg hc9] at H
      cases H
    ·rw [if_neg hc8] at H
     cases H
/-! ### spec_l07Read: function 11 -/
def spec_l07Read.f (k : Nat) (a0 : ByteArray) : Option (ByteArray × Int × Int × Bool) := (spec_l01Split.f k a0 32).bind fun t1 => (if (t1.length : Int) = 3 then (if 1 < (t1.length : Int) then ((spec_l01Number.f k (rd9 t1 1)).bind fun bt5 => (if 2 < (t1.length : Int) then ((spec_l01Number.f k (rd9 t1 2)).bind fun bt9 => (if 0 < (t1.length : Int) then (if bt5.2 = true then (if bt9.2 = true then ((spec_l07Ok.f k (rd9 t1 0) bt5.1 bt9.1).bind fun t15 => (if t15 = true then (some ((rd9 t1 0), bt5.1, bt9.1, true)) else (some ((⟨#[]⟩ : ByteArray), 0, 0, false)))) else (some ((⟨#[]⟩ : ByteArray), 0, 0, false))) else (some ((⟨#[]⟩ : ByteArray), 0, 0, false))) else (none))) else (none))) else (none)) else (some ((⟨#[]⟩ : ByteArray), 0, 0, false)))
set_option maxRecDepth 100000 in
theorem spec_l07Read.ok {k : Nat} {a0 : ByteArray} {r0 : ByteArray} {r1 : Int} {r2 : Int} {r3 : Bool} (H : spec_l07Read.f k a0 = some (r0, r1, r2, r3)) : OkF Tryd.prog 11 [vS a0] [] (.tup [.agg [.d (.v (.string r0)), .d (.v (.int .i64 r1)), .d (.v (.int .i64 r2))], .c (.d (.v (.bool r3)))]) [] := by
 unfold spec_l07Read.f at H
 refine OkF.ofC (N := 48) (rs := [2, 3]) (avs := [.agg [.d (.v (.string r0)), .d (.v (.int .i64 r1)), .d (.v (.int .i64 r2))], .c (.d (.v (.bool r3)))]) [(2, 36)] Tryd.func11 rfl rfl (rc_ct rfl rfl) (by decide) rfl (by decide) rfl rfl rfl rfl (fun w0 S => ?_)
 refine AG.seq ?_
 refine AG.region HM ?_
 refine a_alloc (cs := [_, _, _]) 200 ?_ T36
 refine a_move (v := vB _) ?_
 refine RA.nil nofun ?_
 refine AG.seq ?_
 refine AG.region HM ?_
 refine a_move (v := vS _) ?_
 obtain ⟨t1, e2, H⟩ := bindO H
 refine a_call (v := .c (.own 201 t1.length)) (nk := [(201, .row 9 (t1.map c9))]) (L := []) ?_ rfl (spec_l01Split.ok e2) (fun κ => cond (Nat.beq κ 201) 100 (κ)) (qd (qd qn)) trivial ⟨rfl, trivial⟩ ⟨rfl, trivial⟩ rfl
 refine a_move (v := .c (.own _ _)) ?_
 refine RA.nil nofun ?_
 refine AG.seq ?_
 refine AG.seq ?_
 refine AG.region HM ?_
 refine a_move (v := .c (.own _ _)) ?_
 refine a_lenO ?_ Tryd.underlying31
 refine a_int (u := .bool (((t1.length : Int) != 3))) ?_
 refine RA.nil nofun ?_
 by_cases hc3 : (t1.length : Int) = 3
 ·rw [if_pos hc3] at H
  refine AG.no rfl (bne_eq_false_iff_eq.2 hc3) ?_
  refine AG.skip ?_
  refine AG.seq ?_
  refine AG.region HM ?_
  refine a_move (v := .c (.own _ _)) ?_
  by_cases hc4 : 1 < (t1.length : Int)
  ·rw [if_pos hc4] at H
   refine a_ixO ?_ ⟨(by decide), hc4⟩ T9 Tryd.underlying31
   refine a_ldE (v := vS _) ?_ (G9 (by decide) hc4) T9
   obtain ⟨⟨t5, t6⟩, e7, H⟩ := bindO H
   refine a_call (v := .tup [.c (.d (.v (.int .i64 t5))), .c (.d (.v (.bool t6)))]) (nk := []) (L := []) ?_ rfl (spec_l01Number.ok e7) id (qd qn) trivial trivial trivial rfl
   refine a_move (v := .tup [_, _]) ?_
   refine a_ext (v := vI _) ?_
   refine a_ext (v := vB _) ?_
   refine a_move (v := vI _) ?_
   refine a_move (v := vB _) ?_
   refine RA.nil nofun ?_
   refine AG.seq ?_
   refine AG.region HM ?_
   refine a_move (v := .c (.own _ _)) ?_
   by_cases hc8 : 2 < (t1.length : Int)
   ·rw [if_pos hc8] at H
    refine a_ixO ?_ ⟨(by decide), hc8⟩ T9 Tryd.underlying31
    refine a_ldE (v := vS _) ?_ (G9 (by decide) hc8) T9
    obtain ⟨⟨t9, t10⟩, e11, H⟩ := bindO H
    refine a_call (v := .tup [.c (.d (.v (.int .i64 t9))), .c (.d (.v (.bool t10)))]) (nk := []) (L := []) ?_ rfl (spec_l01Number.ok e11) id (qd qn) trivial trivial trivial rfl
    refine a_move (v := .tup [_, _]) ?_
    refine a_ext (v := vI _) ?_
    refine a_ext (v := vB _) ?_
    refine a_move (v := vI _) ?_
    refine a_move (v := vB _) ?_
    refine RA.nil nofun ?_
    refine AG.seq ?_
    refine AG.region HM ?_
    refine a_move (v := .c (.own _ _)) ?_
    by_cases hc12 : 0 < (t1.length : Int)
    ·rw [if_pos hc12] at H
     refine a_ixO ?_ ⟨(by decide), hc12⟩ T9 Tryd.underlying31
     refine a_ldE (v := vS _) ?_ (G9 (by decide) hc12) T9
     refine a_move (v := vI _) ?_
     refine a_move (v := vI _) ?_
     refine a_build (cs := [_, _, _]) ?_ T36 rfl (hin := I36)
     refine a_alloc (cs := [_, _, _]) 204 ?_ T36
     refine a_stB (cs' := [_, _, _]) ?_ T36
     refine RA.nil nofun ?_
     refine AG.seq ?_
     refine AG.seq ?_
     refine AG.region HM ?_
     refine a_move (v := vB _) ?_
     refine a_un (u := .bool (!t6)) ?_
     refine a_move (v := vB _) ?_
     by_cases hc13 : t6 = true
     ·rw [if_pos hc13] at H
      refine a_move (v := vB _) ?_ (hg := Gs.yes rfl rfl rfl (congrArg Bool.not hc13))
      refine a_un (u := .bool (!t10)) ?_ (hg := Gs.yes rfl rfl rfl (congrArg Bool.not hc13))
      refine a_pick (b := false) (v := vB _) ?_ (congrArg Bool.not hc13)
      refine a_move (v := vB _) ?_
      by_cases hc14 : t10 = true
      ·rw [if_pos hc14] at H
       obtain ⟨t15, e16, H⟩ := bindO H
       refine a_call (v := vB t15) (nk := []) (L := [(204, _)]) ?_ rfl (spec_l07Ok.ok e16) id (qc (rP (pD (pD (pD p0)))) qn) ⟨rfl, trivial⟩ trivial trivial rfl (hg := Gs.yes rfl rfl rfl (congrArg Bool.not hc14))
       refine a_un (u := .bool (!t15)) ?_ (hg := Gs.yes rfl rfl rfl (congrArg Bool.not hc14))
       refine a_pick (b := false) (v := vB _) ?_ (congrArg Bool.not hc14)
       refine RA.nil nofun ?_
       by_cases hc17 : t15 = true
       ·rw [if_pos hc17] at H
        refine AG.no rfl (congrArg Bool.not hc17) ?_
        refine AG.skip ?_
        refine AG.seq ?_
        refine AG.region HM ?_
        refine a_ldB (v := .agg [_, _, _]) ?_ T36
        refine a_stB (cs' := [_, _, _]) ?_ T36
        refine a_move (v := vB _) ?_
        refine RA.nil nofun ?_
        refine AG.ret ?_
        simp only [Option.some.injEq, Prod.mk.injEq] at H
        obtain ⟨rfl, rfl, rfl, rfl⟩ := H
        exact RetL.cell T36 rfl rfl rfl (RetL.nil (RetP.mk id ⟨rfl, rfl, trivial⟩ trivial rfl))
       ·rw [if_neg hc17] at H
        refine AG.yes rfl (congrArg Bool.not (Bool.eq_false_iff.2 hc17)) ?_
        refine AG.seq ?_
        refine AG.region HM ?_
        refine a_build (cs := [_, _, _]) ?_ T36 rfl (hin := I36)
        refine a_stB (cs' := [_, _, _]) ?_ T36
        refine a_move (v := vB _) ?_
        refine RA.nil nofun ?_
        refine AG.ret ?_
        simp only [Option.some.injEq, Prod.mk.injEq] at H
        obtain ⟨rfl, rfl, rfl, rfl⟩ := H
        exact RetL.cell T36 rfl rfl rfl (RetL.nil (RetP.mk id ⟨rfl, rfl, trivial⟩ trivial rfl))
      ·rw [if_neg hc14] at H
       refine RA.skip rfl rfl rfl rfl rfl (congrArg Bool.not (Bool.eq_false_iff.2 hc14)) (by decide) ?_
       refine RA.skip rfl rfl rfl rfl rfl (congrArg Bool.not (Bool.eq_false_iff.2 hc14)) (by decide) ?_
       refine a_pick (b := true) (v := vB _) ?_ (congrArg Bool.not (Bool.eq_false_iff.2 hc14))
       refine RA.nil nofun ?_
       refine AG.yes rfl rfl ?_
       refine AG.seq ?_
       refine AG.region HM ?_
       refine a_build (cs := [_, _, _]) ?_ T36 rfl (hin := I36)
       refine a_stB (cs' := [_, _, _]) ?_ T36
       refine a_move (v := vB _) ?_
       refine RA.nil nofun ?_
       refine AG.ret ?_
       simp only [Option.some.injEq, Prod.mk.injEq] at H
       obtain ⟨rfl, rfl, rfl, rfl⟩ := H
       exact RetL.cell T36 rfl rfl rfl (RetL.nil (RetP.mk id ⟨rfl, rfl, trivial⟩ trivial rfl))
     ·rw [if_neg hc13] at H
      refine RA.skip rfl rfl rfl rfl rfl (congrArg Bool.not (Bool.eq_false_iff.2 hc13)) (by decide) ?_
      refine RA.skip rfl rfl rfl rfl rfl (congrArg Bool.not (Bool.eq_false_iff.2 hc13)) (by decide) ?_
      refine a_pick (b := true) (v := vB _) ?_ (congrArg Bool.not (Bool.eq_false_iff.2 hc13))
      refine a_move (v := vB _) ?_
      refine RA.skip rfl rfl rfl rfl rfl rfl (by decide) ?_
      refine RA.skip rfl rfl rfl rfl rfl rfl (by decide) ?_
      refine a_pick (b := true) (v := vB _) ?_ rfl
      refine RA.nil nofun ?_
      refine AG.yes rfl rfl ?_
      refine AG.seq ?_
      refine AG.region HM ?_
      refine a_build (cs := [_, _, _]) ?_ T36 rfl (hin := I36)
      refine a_stB (cs' := [_, _, _]) ?_ T36
      refine a_move (v := vB _) ?_
      refine RA.nil nofun ?_
      refine AG.ret ?_
      simp only [Option.some.injEq, Prod.mk.injEq] at H
      obtain ⟨rfl, rfl, rfl, rfl⟩ := H
      exact RetL.cell T36 rfl rfl rfl (RetL.nil (RetP.mk id ⟨rfl, rfl, trivial⟩ trivial rfl))
    ·rw [if_neg hc12] at H
     cases H
   ·rw [if_neg hc8] at H
    cases H
  ·rw [if_neg hc4] at H
   cases H
 ·rw [if_neg hc3] at H
  refine AG.yes rfl (bne_iff_ne.2 hc3) ?_
  refine AG.seq ?_
  refine AG.region HM ?_
  refine a_build (cs := [_, _, _]) ?_ T36 rfl (hin := I36)
  refine a_stB (cs' := [_, _, _]) ?_ T36
  refine a_move (v := vB _) ?_
  refine RA.nil nofun ?_
  refine AG.ret ?_
  simp only [Option.some.injEq, Prod.mk.injEq] at H
  obtain ⟨rfl, rfl, rfl, rfl⟩ := H
  exact RetL.cell T36 rfl rfl rfl (RetL.nil (RetP.mk id ⟨rfl, rfl, trivial⟩ trivial rfl))
/-! ### spec_l15Sheets: function 26 -/
def spec_l15Sheets.l0 : Nat → List S35 → Int → Option (Bool)
 | 0, _, _ => none
 | k + 1, x0, x3 => if x3 < (x0.length : Int) then (if 0 ≤ x3 then ((spec_l07Ok.f k ((rd35 x0 x3).f0) ((rd35 x0 x3).f1) ((rd35 x0 x3).f2)).bind fun t3 => (if t3 = true then (spec_l15Sheets.l0 k x0 (wrap64 (x3 + 1))) else (some false))) else (none)) else (if (x0.length : Int) ≥ 1 then (some (decide ((x0.length : Int) ≤ 8))) else (some false))
def spec_l15Sheets.f (k : Nat) (l0 : List S35) : Option (Bool) := spec_l15Sheets.l0 k l0 0
set_option maxRecDepth 100000 in
theorem spec_l15Sheets.ok {k : Nat} {l0 : List S35} {r : Bool} (H : spec_l15Sheets.f k l0 = some r) : OkF Tryd.prog 26 [vR 36 (l0.map c35)] [] (.c (.d (.v (.bool r)))) [] := by
 unfold spec_l15Sheets.f at H
 refine OkF.of (N := 23) (rs := [2]) (avs := [.c (.d (.v (.bool r)))]) Tryd.func26 rfl rfl (fun _ _ => results_tmp rfl _ _ _) (by decide) rfl rfl rfl rfl (fun w0 S => ?_)
 refine AG.seq ?_
 refine AG.region HM ?_
 refine a_move (v := vB _) ?_
 refine RA.nil nofun ?_
 refine AG.seq ?_
 refine AG.seq ?_
 refine AG.region HM ?_
 refine a_move (v := vI _) ?_
 refine RA.nil nofun ?_
 refine AG.block ?_
 refine AG.loop ?_
 obtain ⟨K0, hK0, gK0⟩ : ∃ K, k ≤ K ∧ K ≤ k := ⟨k, Nat.le_refl k, Nat.le_refl k⟩
 refine AGr.canon id (AGr.loopI (n := k) (fun k s => k ≤ K0 ∧ ∃ (x0 : List S35) (x3 : Int), spec_l15Sheets.l0 k x0 x3 = some r ∧ s = St.of [(0, vR 36 (x0.map c35)), (3, vI x3)] []) ⟨hK0, _, _, H, rfl⟩ ?_ ?_) ⟨rfl, rfl, trivial⟩ trivial rfl
 ·rintro _ ⟨_, _, _, H, _⟩
  cases H
 ·clear H hK0
  rintro k ih0 _ ⟨hK0, x0, x3, H, rfl⟩
  unfold spec_l15Sheets.l0 at H
  refine AG.seq ?_
  refine AG.seq ?_
  refine AG.region HM ?_
  refine a_move (v := vI _) ?_
  refine a_move (v := vR _ _) ?_
  refine a_lenR ?_ Tryd.underlying22
  refine a_int (u := .bool (decide (x3 < (x0.length : Int)))) ?_
  refine RA.nil nofun ?_
  by_cases hc1 : x3 < (x0.length : Int)
  ·rw [if_pos hc1] at H
   refine AG.yes rfl (decide_eq_true hc1) ?_
   refine AG.skip ?_
   refine AG.seq ?_
   refine AG.block ?_
   refine AG.seq ?_
   refine AG.region HM ?_
   refine a_move (v := vR _ _) ?_
   refine a_move (v := vI _) ?_
   by_cases hc2 : 0 ≤ x3
   ·rw [if_pos hc2] at H
    refine a_ixR (el := c35 (rd35 x0 x3)) ?_ ⟨hc2, hc1⟩ T36 Tryd.underlying22 (hel := R35 hc2 hc1)
    obtain ⟨t3, e4, H⟩ := bindO H
    refine a_call (v := vB t3) (nk := []) (L := []) ?_ rfl (spec_l07Ok.ok e4) id (qd qn) trivial trivial trivial rfl
    refine a_un (u := .bool (!t3)) ?_
    refine RA.nil nofun ?_
    by_cases hc5 : t3 = true
    ·rw [if_pos hc5] at H
     refine AG.no rfl (congrArg Bool.not hc5) ?_
     refine AG.skip ?_
     refine AG.region HM ?_
     refine a_move (v := vI _) ?_
     refine a_int (u := .int .i64 (wrap64 (x3 + 1))) ?_
     refine a_move (v := vI _) ?_
     refine RA.nil nofun ?_
     exact AGr.canon id (ih0 _ (by omega) _ ⟨by omega, _, _, H, rfl⟩) ⟨rfl, rfl, trivial⟩ trivial rfl
    ·rw [if_neg hc5] at H
     refine AG.yes rfl (congrArg Bool.not (Bool.eq_false_iff.2 hc5)) ?_
     refine AG.seq ?_
     refine AG.region HM ?_
     refine a_move (v := vB _) ?_
     refine RA.nil nofun ?_
     refine AG.ret ?_
     obtain rfl := Option.some.inj H
     exact RetP.mk id ⟨rfl, trivial⟩ trivial rfl
   ·rw [if_neg hc2] at H
    cases H
  ·rw [if_neg hc1] at H
   refine AG.no rfl (decide_eq_false hc1) ?_
   refine AG.exit ?_
   refine AG.seq ?_
   refine AG.region HM ?_
   refine a_move (v := vR _ _) ?_
   refine a_lenR ?_ Tryd.underlying22
   refine a_int (u := .bool (decide ((x0.length : Int) ≥ 1))) ?_
   refine a_move (v := vB _) ?_
   by_cases hc6 : (x0.length : Int) ≥ 1
   ·rw [if_pos hc6] at H
    refine a_move (v := vR _ _) ?_ (hg := Gs.yes rfl rfl rfl (decide_eq_true hc6))
    refine a_lenR ?_ Tryd.underlying22 (hg := Gs.yes rfl rfl rfl (decide_eq_true hc6))
    refine a_int (u := .bool (decide ((x0.length : Int) ≤ 8))) ?_ (hg := Gs.yes rfl rfl rfl (decide_eq_true hc6))
    refine a_pick (b := true) (v := vB _) ?_ (decide_eq_true hc6)
    refine a_move (v := vB _) ?_
    refine RA.nil nofun ?_
    refine AG.ret ?_
    obtain rfl := Option.some.inj H
    exact RetP.mk id ⟨rfl, trivial⟩ trivial rfl
   ·rw [if_neg hc6] at H
    refine RA.skip rfl rfl rfl rfl rfl (decide_eq_false hc6) (by decide) ?_
    refine RA.skip rfl rfl rfl rfl rfl (decide_eq_false hc6) (by decide) ?_
    refine RA.skip rfl rfl rfl rfl rfl (decide_eq_false hc6) (by decide) ?_
    refine a_pick (b := false) (v := vB _) ?_ (decide_eq_false hc6)
    refine a_move (v := vB _) ?_
    refine RA.nil nofun ?_
    refine AG.ret ?_
    obtain rfl := Option.some.inj H
    exact RetP.mk id ⟨rfl, trivial⟩ trivial rfl
/-! ### spec_l15Shifts: function 27 -/
def spec_l15Shifts.l0 : Nat → List Int → Int → Int → Option (Bool)
 | 0, _, _, _ => none
 | k + 1, x0, x1, x5 => if x5 < (x0.length : Int) then (if 0 ≤ x5 then ((spec_l00In.f (rd2 x0 x5) 0 (wrap64 (x1 - 1))).bind fun t3 => (if t3 = true then (spec_l15Shifts.l0 k x0 x1 (wrap64 (x5 + 1))) else (some false))) else (none)) else (some (decide ((x0.length : Int) ≤ 24)))
def spec_l15Shifts.f (k : Nat) (l0 : List Int) (a1 : Int) : Option (Bool) := spec_l15Shifts.l0 k l0 a1 0
set_option maxRecDepth 100000 in
theorem spec_l15Shifts.ok {k : Nat} {l0 : List Int} {a1 : Int} {r : Bool} (H : spec_l15Shifts.f k l0 a1 = some r) : OkF Tryd.prog 27 [vR 2 (l0.map c2), vI a1] [] (.c (.d (.v (.bool r)))) [] := by
 unfold spec_l15Shifts.f at H
 refine OkF.of (N := 23) (rs := [4]) (avs := [.c (.d (.v (.bool r)))]) Tryd.func27 rfl rfl (fun _ _ => results_tmp rfl _ _ _) (by decide) rfl rfl rfl rfl (fun w0 S => ?_)
 refine AG.seq ?_
 refine AG.region HM ?_
 refine a_move (v := vB _) ?_
 refine RA.nil nofun ?_
 refine AG.seq ?_
 refine AG.seq ?_
 refine AG.region HM ?_
 refine a_move (v := vI _) ?_
 refine RA.nil nofun ?_
 refine AG.block ?_
 refine AG.loop ?_
 obtain ⟨K0, hK0, gK0⟩ : ∃ K, k ≤ K ∧ K ≤ k := ⟨k, Nat.le_refl k, Nat.le_refl k⟩
 refine AGr.canon id (AGr.loopI (n := k) (fun k s => k ≤ K0 ∧ ∃ (x0 : List Int) (x1 : Int) (x5 : Int), spec_l15Shifts.l0 k x0 x1 x5 = some r ∧ s = St.of [(0, vR 2 (x0.map c2)), (1, vI x1), (5, vI x5)] []) ⟨hK0, _, _, _, H, rfl⟩ ?_ ?_) ⟨rfl, rfl, rfl, trivial⟩ trivial rfl
 ·rintro _ ⟨_, _, _, _, H, _⟩
  cases H
 ·clear H hK0
  rintro k ih0 _ ⟨hK0, x0, x1, x5, H, rfl⟩
  unfold spec_l15Shifts.l0 at H
  refine AG.seq ?_
  refine AG.seq ?_
  refine AG.region HM ?_
  refine a_move (v := vI _) ?_
  refine a_move (v := vR _ _) ?_
  refine a_lenR ?_ Tryd.underlying23
  refine a_int (u := .bool (decide (x5 < (x0.length : Int)))) ?_
  refine RA.nil nofun ?_
  by_cases hc1 : x5 < (x0.length : Int)
  ·rw [if_pos hc1] at H
   refine AG.yes rfl (decide_eq_true hc1) ?_
   refine AG.skip ?_
   refine AG.seq ?_
   refine AG.block ?_
   refine AG.seq ?_
   refine AG.region HM ?_
   refine a_move (v := vR _ _) ?_
   refine a_move (v := vI _) ?_
   by_cases hc2 : 0 ≤ x5
   ·rw [if_pos hc2] at H
    refine a_ixR (el := c2 (rd2 x0 x5)) ?_ ⟨hc2, hc1⟩ T2 Tryd.underlying23 (hel := R2 hc2 hc1)
    refine a_ldR (v := vI _) ?_ T2
    refine a_move (v := vI _) ?_
    refine a_int (u := .int .i64 (wrap64 (x1 - 1))) ?_
    obtain ⟨t3, e4, H⟩ := bindO H
    refine a_call (v := vB t3) (nk := []) (L := []) ?_ rfl (spec_l00In.ok e4) id (qd (qd (qd qn))) trivial trivial trivial rfl
    refine a_un (u := .bool (!t3)) ?_
    refine RA.nil nofun ?_
    by_cases hc5 : t3 = true
    ·rw [if_pos hc5] at H
     refine AG.no rfl (congrArg Bool.not hc5) ?_
     refine AG.skip ?_
     refine AG.region HM ?_
     refine a_move (v := vI _) ?_
     refine a_int (u := .int .i64 (wrap64 (x5 + 1))) ?_
     refine a_move (v := vI _) ?_
     refine RA.nil nofun ?_
     exact AGr.canon id (ih0 _ (by omega) _ ⟨by omega, _, _, _, H, rfl⟩) ⟨rfl, rfl, rfl, trivial⟩ trivial rfl
    ·rw [if_neg hc5] at H
     refine AG.yes rfl (congrArg Bool.not (Bool.eq_false_iff.2 hc5)) ?_
     refine AG.seq ?_
     refine AG.region HM ?_
     refine a_move (v := vB _) ?_
     refine RA.nil nofun ?_
     refine AG.ret ?_
     obtain rfl := Option.some.inj H
     exact RetP.mk id ⟨rfl, trivial⟩ trivial rfl
   ·rw [if_neg hc2] at H
    cases H
  ·rw [if_neg hc1] at H
   refine AG.no rfl (decide_eq_false hc1) ?_
   refine AG.exit ?_
   refine AG.seq ?_
   refine AG.region HM ?_
   refine a_move (v := vR _ _) ?_
   refine a_lenR ?_ Tryd.underlying23
   refine a_int (u := .bool (decide ((x0.length : Int) ≤ 24))) ?_
   refine a_move (v := vB _) ?_
   refine RA.nil nofun ?_
   refine AG.ret ?_
   obtain rfl := Option.some.inj H
   exact RetP.mk id ⟨rfl, trivial⟩ trivial rfl
/-! ### spec_l15Ok: function 12 -/
def spec_l15Ok.f (k : Nat) (l0_0 : List S35) (l0_1 : List Int) : Option (Bool) := (spec_l15Sheets.f k l0_0).bind fun t1 => (if t1 = true then ((spec_l15Shifts.f k l0_1 (l0_0.length : Int)).bind fun t4 => (some t4)) else (some false))
set_option maxRecDepth 100000 in
theorem spec_l15Ok.ok {k : Nat} {l0_0 : List S35} {l0_1 : List Int} {r : Bool} (H : spec_l15Ok.f k l0_0 l0_1 = some r) : OkF Tryd.prog 12 [.c (.d (.ro [.row 36 (l0_0.map c35), .row 2 (l0_1.map c2)]))] [] (.c (.d (.v (.bool r)))) [] := by
 unfold spec_l15Ok.f at H
 refine OkF.of (N := 20) (rs := [2]) (avs := [.c (.d (.v (.bool r)))]) Tryd.func12 rfl rfl (fun _ _ => results_tmp rfl _ _ _) (by decide) rfl rfl rfl rfl (fun w0 S => ?_)
 refine AG.seq ?_
 refine AG.region HM ?_
 refine a_move (v := vB _) ?_
 refine RA.nil nofun ?_
 refine AG.seq ?_
 refine AG.region HM ?_
 refine a_move (v := vO [_, _]) ?_
 refine a_nil (v := vO [_, _]) ?_
 refine a_faR (cells' := [_, _]) ?_ D25_0
 refine a_ldR (v := vR _ _) ?_ T22
 obtain ⟨t1, e2, H⟩ := bindO H
 refine a_call (v := vB t1) (nk := []) (L := []) ?_ rfl (spec_l15Sheets.ok e2) id (qd qn) trivial trivial trivial rfl
 refine a_move (v := vB _) ?_
 by_cases hc3 : t1 = true
 ·rw [if_pos hc3] at H
  refine a_move (v := vO [_, _]) ?_ (hg := Gs.yes rfl rfl rfl hc3)
  refine a_nil (v := vO [_, _]) ?_ (hg := Gs.yes rfl rfl rfl hc3)
  refine a_faR (cells' := [_]) ?_ D25_1 (hg := Gs.yes rfl rfl rfl hc3)
  refine a_ldR (v := vR _ _) ?_ T23 (hg := Gs.yes rfl rfl rfl hc3)
  refine a_move (v := vO [_, _]) ?_ (hg := Gs.yes rfl rfl rfl hc3)
  refine a_nil (v := vO [_, _]) ?_ (hg := Gs.yes rfl rfl rfl hc3)
  refine a_faR (cells' := [_, _]) ?_ D25_0 (hg := Gs.yes rfl rfl rfl hc3)
  refine a_ldR (v := vR _ _) ?_ T22 (hg := Gs.yes rfl rfl rfl hc3)
  refine a_lenR ?_ Tryd.underlying22 (hg := Gs.yes rfl rfl rfl hc3)
  obtain ⟨t4, e5, H⟩ := bindO H
  refine a_call (v := vB t4) (nk := []) (L := []) ?_ rfl (spec_l15Shifts.ok e5) id (qd (qd qn)) trivial trivial trivial rfl (hg := Gs.yes rfl rfl rfl hc3)
  refine a_pick (b := true) (v := vB _) ?_ hc3
  refine a_move (v := vB _) ?_
  refine RA.nil (fun _ => by kernel_rfl) ?_
  refine AG.ret ?_
  obtain rfl := Option.some.inj H
  exact RetP.mk id ⟨rfl, trivial⟩ trivial rfl
 ·rw [if_neg hc3] at H
  refine RA.skip rfl rfl rfl rfl rfl (Bool.eq_false_iff.2 hc3) (by decide) ?_
  refine RA.skip rfl rfl rfl rfl rfl (Bool.eq_false_iff.2 hc3) (by decide) ?_
  refine RA.skip rfl rfl rfl rfl rfl (Bool.eq_false_iff.2 hc3) (by decide) ?_
  refine RA.skip rfl rfl rfl rfl rfl (Bool.eq_false_iff.2 hc3) (by decide) ?_
  refine RA.skip rfl rfl rfl rfl rfl (Bool.eq_false_iff.2 hc3) (by decide) ?_
  refine RA.skip rfl rfl rfl rfl rfl (Bool.eq_false_iff.2 hc3) (by decide) ?_
  refine RA.skip rfl rfl rfl rfl rfl (Bool.eq_false_iff.2 hc3) (by decide) ?_
  refine RA.skip rfl rfl rfl rfl rfl (Bool.eq_false_iff.2 hc3) (by decide) ?_
  refine RA.skip rfl rfl rfl rfl rfl (Bool.eq_false_iff.2 hc3) (by decide) ?_
  refine RA.skip rfl rfl rfl rfl rfl (Bool.eq_false_iff.2 hc3) (by decide) ?_
  refine a_pick (b := false) (v := vB _) ?_ (Bool.eq_false_iff.2 hc3)
  refine a_move (v := vB _) ?_
  refine RA.nil (fun _ => by kernel_rfl) ?_
  refine AG.ret ?_
  obtain rfl := Option.some.inj H
  exact RetP.mk id ⟨rfl, trivial⟩ trivial rfl
/-! ### spec_ReadPacket: function 4 -/
def spec_ReadPacket.l0 : Nat → List ByteArray → Bool → List S35 → List Int → Int → Option ((List S35) × (List Int) × Bool)
 | 0, _, _, _, _, _ => none
 | k + 1, x4, x6, y211_0, y211_1, x8 => if x8 < (x4.length : Int) then (if 0 ≤ x8 then ((spec_l07Read.f k (rd9 x4 x8)).bind fun bt9 => (if x6 = true then (if y211_0.length < 4398046511104 then (spec_ReadPacket.l0 k x4 bt9.2.2.2 (y211_0 ++ [(⟨bt9.1, bt9.2.1, bt9.2.2.1⟩ : S35)]) y211_1 (wrap64 (x8 + 1))) else (none)) else (if y211_0.length < 4398046511104 then (spec_ReadPacket.l0 k x4 false (y211_0 ++ [(⟨bt9.1, bt9.2.1, bt9.2.2.1⟩ : S35)]) y211_1 (wrap64 (x8 + 1))) else (none)))) else (none)) else (if x6 = true then ((spec_l15Ok.f k y211_0 y211_1).bind fun t20 => (if t20 = true then (some (y211_0, y211_1, true)) else (some (([] : List S35), ([] : List Int), false)))) else (some (([] : List S35), ([] : List Int), false)))
def spec_ReadPacket.f (k : Nat) (a0 : ByteArray) : Option ((List S35) × (List Int) × Bool) := (spec_l01Split.f k a0 47).bind fun t1 => (if 0 < (t1.length : Int) then ((spec_ReadList.f k (rd9 t1 0)).bind fun bt4 => (spec_ReadPacket.l0 k t1 bt4.2 ([] : List S35) bt4.1 1)) else (none))
set_option maxRecDepth 100000 in
theorem spec_ReadPacket.ok {k : Nat} {a0 : ByteArray} {r0 : List S35} {r1 : List Int} {r2 : Bool} (H : spec_ReadPacket.f k a0 = some (r0, r1, r2)) : OkF Tryd.prog 4 [vS a0] [] (.tup [.agg [.own 100 r0.length, .own 101 r1.length], .c (.d (.v (.bool r2)))]) [(100, .row 36 (r0.map c35)), (101, .row 2 (r1.map c2))] := by
 unfold spec_ReadPacket.f at H
 refine OkF.ofC (N := 54) (rs := [2, 3]) (avs := [.agg [.own 100 r0.length, .own 101 r1.length], .c (.d (.v (.bool r2)))]) [(2, 25)] Tryd.func4 rfl rfl (rc_ct rfl rfl) (by decide) rfl (by decide) rfl rfl rfl rfl (fun w0 S => ?_)
 refine AG.seq ?_
 refine AG.region HM ?_
 refine a_alloc (cs := [_, _]) 200 ?_ T25
 refine a_move (v := vB _) ?_
 refine RA.nil nofun ?_
 refine AG.nilBox (e := 36) (cs' := [.own 201 0, .d (.v (.slice none 0 0))]) 200 201 0 ?_ T36
 refine AG.nilBox (e := 2) (cs' := [.own 201 0, .own 202 0]) 200 202 1 ?_ T2
 refine AG.seq ?_
 refine AG.region HM ?_
 refine a_move (v := vS _) ?_
 obtain ⟨t1, e2, H⟩ := bindO H
 refine a_call (v := .c (.own 203 t1.length)) (nk := [(203, .row 9 (t1.map c9))]) (L := []) ?_ rfl (spec_l01Split.ok e2) (fun κ => cond (Nat.beq κ 203) 100 (κ)) (qd (qd qn)) trivial ⟨rfl, trivial⟩ ⟨rfl, trivial⟩ rfl
 refine a_move (v := .c (.own _ _)) ?_
 refine RA.nil nofun ?_
 refine AG.seq ?_
 refine AG.region HM ?_
 refine a_move (v := .c (.own _ _)) ?_
 by_cases hc3 : 0 < (t1.length : Int)
 ·rw [if_pos hc3] at H
  refine a_ixO ?_ ⟨(by decide), hc3⟩ T9 Tryd.underlying31
  refine a_ldE (v := vS _) ?_ (G9 (by decide) hc3) T9
  obtain ⟨⟨t4, t5⟩, e6, H⟩ := bindO H
  refine a_call (v := .tup [.c (.own 204 t4.length), .c (.d (.v (.bool t5)))]) (nk := [(204, .row 2 (t4.map c2))]) (L := []) ?_ rfl (spec_ReadList.ok e6) (fun κ => cond (Nat.beq κ 204) 100 (κ)) (qd qn) trivial ⟨rfl, trivial⟩ ⟨rfl, trivial⟩ rfl
  refine a_move (v := .tup [_, _]) ?_
  refine a_ext (v := .c (.own _ _)) ?_
  refine a_ext (v := vB _) ?_
  refine a_move (v := .c (.own _ _)) ?_
  refine a_move (v := vB _) ?_
  refine RA.nil nofun ?_
  refine AG.seq ?_
  refine AG.region HM ?_
  refine a_move (v := .c (.own _ _)) ?_
  refine a_build (cs := [_, _]) ?_ T25 rfl (hin := I25)
  refine a_alloc (cs := [_, _]) 205 ?_ T25
  refine a_stB (cs' := [_, _]) ?_ T25
  refine RA.nil nofun ?_
  refine AG.nilBox (e := 36) (cs' := [.own 206 0, .own 204 t4.length]) 205 206 0 ?_ T36
  refine AG.seq ?_
  refine AG.seq ?_
  refine AG.region HM ?_
  refine a_move (v := vI _) ?_
  refine RA.nil nofun ?_
  refine AG.block ?_
  refine AG.loop ?_
  obtain ⟨K0, hK0, gK0⟩ : ∃ K, k ≤ K ∧ K ≤ k := ⟨k, Nat.le_refl k, Nat.le_refl k⟩
  refine AGr.canon (fun κ => cond (Nat.beq κ 207) 200 (cond (Nat.beq κ 208) 201 (cond (Nat.beq κ 209) 202 (cond (Nat.beq κ 210) 203 (cond (Nat.beq κ 211) 205 (cond (Nat.beq κ 212) 206 (cond (Nat.beq κ 213) 204 (κ)))))))) (AGr.loopI (n := k) (fun k s => k ≤ K0 ∧ ∃ (y207_0 : List S35) (y207_1 : List Int) (x4 : List ByteArray) (x6 : Bool) (y211_0 : List S35) (y211_1 : List Int) (x8 : Int), spec_ReadPacket.l0 k x4 x6 y211_0 y211_1 x8 = some (r0, r1, r2) ∧ s = St.of [(2, .c (.ptr 207 0)), (4, .c (.own 210 x4.length)), (6, vB x6), (7, .c (.ptr 211 0)), (8, vI x8)] [(207, .box 25 [.own 208 y207_0.length, .own 209 y207_1.length]), (208, .row 36 (y207_0.map c35)), (209, .row 2 (y207_1.map c2)), (210, .row 9 (x4.map c9)), (211, .box 25 [.own 212 y211_0.length, .own 213 y211_1.length]), (212, .row 36 (y211_0.map c35)), (213, .row 2 (y211_1.map c2))]) ⟨hK0, ([] : List S35), ([] : List Int), _, _, ([] : List S35), _, _, H, rfl⟩ ?_ ?_) ⟨rfl, rfl, rfl, rfl, rfl, trivial⟩ ⟨rfl, rfl, rfl, rfl, rfl, rfl, rfl, trivial⟩ rfl
  ·rintro _ ⟨_, _, _, _, _, _, _, _, H, _⟩
   cases H
  ·clear H hK0
   rintro k ih0 _ ⟨hK0, y207_0, y207_1, x4, x6, y211_0, y211_1, x8, H, rfl⟩
   unfold spec_ReadPacket.l0 at H
   refine AG.seq ?_
   refine AG.seq ?_
   refine AG.region HM ?_
   refine a_move (v := vI _) ?_
   refine a_move (v := .c (.own _ _)) ?_
   refine a_lenO ?_ Tryd.underlying31
   refine a_int (u := .bool (decide (x8 < (x4.length : Int)))) ?_
   refine RA.nil nofun ?_
   by_cases hc7 : x8 < (x4.length : Int)
   ·rw [if_pos hc7] at H
    refine AG.yes rfl (decide_eq_true hc7) ?_
    refine AG.skip ?_
    refine AG.seq ?_
    refine AG.block ?_
    refine AG.seq ?_
    refine AG.region HM ?_
    refine a_move (v := .c (.own _ _)) ?_
    refine a_move (v := vI _) ?_
    by_cases hc8 : 0 ≤ x8
    ·rw [if_pos hc8] at H
     refine a_ixO ?_ ⟨hc8, hc7⟩ T9 Tryd.underlying31
     refine a_ldE (v := vS _) ?_ (G9 hc8 hc7) T9
     obtain ⟨⟨t9, t10, t11, t12⟩, e13, H⟩ := bindO H
     refine a_call (v := .tup [.agg [.d (.v (.string t9)), .d (.v (.int .i64 t10)), .d (.v (.int .i64 t11))], .c (.d (.v (.bool t12)))]) (nk := []) (L := []) ?_ rfl (spec_l07Read.ok e13) id (qd qn) trivial trivial trivial rfl
     refine a_move (v := .tup [_, _]) ?_
     refine a_ext (v := .agg [_, _, _]) ?_
     refine a_ext (v := vB _) ?_
     refine a_alloc (cs := [_, _, _]) 215 ?_ T36
     refine a_stB (cs' := [_, _, _]) ?_ T36
     refine a_move (v := vB _) ?_
     refine RA.nil nofun ?_
     refine AG.seq ?_
     refine AG.region HM ?_
     refine a_move (v := vB _) ?_
     refine a_move (v := vB _) ?_
     by_cases hc14 : x6 = true
     ·rw [if_pos hc14] at H
      refine a_move (v := vB _) ?_ (hg := Gs.yes rfl rfl rfl hc14)
      refine a_pick (b := true) (v := vB _) ?_ hc14
      refine a_move (v := vB _) ?_
      refine RA.nil nofun ?_
      refine AG.region HM ?_
      refine a_faB (q := 0) ?_ D25_0
      refine a_ldB (v := .c (.own _ _)) ?_ T22
      refine a_ldB (v := .agg [_, _, _]) ?_ T36
      refine a_lit (cs := [_, _, _]) (D := []) (css := ([(⟨t9, t10, t11⟩ : S35)]).map c35) 216 ?_ N22 T36
      by_cases hc15 : y211_0.length < 4398046511104
      ·rw [if_pos hc15] at H
       refine a_appO (css' := (y211_0 ++ [(⟨t9, t10, t11⟩ : S35)]).map c35) (n' := (y211_0 ++ [(⟨t9, t10, t11⟩ : S35)]).length) ?_ T36 (by simp [maxLen]; omega) (by simp; omega) Tryd.underlying22 (hc := by exact List.map_append.symm) (hn := by exact List.length_map _)
       refine a_faB (q := 0) ?_ D25_0
       refine a_stB (cs' := [_, _]) ?_ T22
       refine RA.nil nofun ?_
       refine AG.region HM ?_
       refine a_move (v := vI _) ?_
       refine a_int (u := .int .i64 (wrap64 (x8 + 1))) ?_
       refine a_move (v := vI _) ?_
       refine RA.nil nofun ?_
       exact AGr.canon id (ih0 _ (by omega) _ ⟨by omega, _, _, _, _, _, _, _, H, rfl⟩) ⟨rfl, rfl, rfl, rfl, rfl, trivial⟩ ⟨rfl, rfl, rfl, rfl, rfl, rfl, rfl, trivial⟩ rfl
      ·rw [if_neg hc15] at H
       cases H
     ·rw [if_neg hc14] at H
      refine RA.skip rfl rfl rfl rfl rfl (Bool.eq_false_iff.2 hc14) (by decide) ?_
      refine a_pick (b := false) (v := vB _) ?_ (Bool.eq_false_iff.2 hc14)
      refine a_move (v := vB _) ?_
      refine RA.nil nofun ?_
      refine AG.region HM ?_
      refine a_faB (q := 0) ?_ D25_0
      refine a_ldB (v := .c (.own _ _)) ?_ T22
      refine a_ldB (v := .agg [_, _, _]) ?_ T36
      refine a_lit (cs := [_, _, _]) (D := []) (css := ([(⟨t9, t10, t11⟩ : S35)]).map c35) 216 ?_ N22 T36
      by_cases hc17 : y211_0.length < 4398046511104
      ·rw [if_pos hc17] at H
       refine a_appO (css' := (y211_0 ++ [(⟨t9, t10, t11⟩ : S35)]).map c35) (n' := (y211_0 ++ [(⟨t9, t10, t11⟩ : S35)]).length) ?_ T36 (by simp [maxLen]; omega) (by simp; omega) Tryd.underlying22 (hc := by exact List.map_append.symm) (hn := by exact List.length_map _)
       refine a_faB (q := 0) ?_ D25_0
       refine a_stB (cs' := [_, _]) ?_ T22
       refine RA.nil nofun ?_
       refine AG.region HM ?_
       refine a_move (v := vI _) ?_
       refine a_int (u := .int .i64 (wrap64 (x8 + 1))) ?_
       refine a_move (v := vI _) ?_
       refine RA.nil nofun ?_
       exact AGr.canon id (ih0 _ (by omega) _ ⟨by omega, _, _, _, _, _, _, _, H, rfl⟩) ⟨rfl, rfl, rfl, rfl, rfl, trivial⟩ ⟨rfl, rfl, rfl, rfl, rfl, rfl, rfl, trivial⟩ rfl
      ·rw [if_neg hc17] at H
       cases H
    ·rw [if_neg hc8] at H
     cases H
   ·rw [if_neg hc7] at H
    refine AG.no rfl (decide_eq_false hc7) ?_
    refine AG.exit ?_
    refine AG.seq ?_
    refine AG.seq ?_
    refine AG.region HM ?_
    refine a_move (v := vB _) ?_
    refine a_un (u := .bool (!x6)) ?_
    refine a_move (v := vB _) ?_
    by_cases hc19 : x6 = true
    ·rw [if_pos hc19] at H
     obtain ⟨t20, e21, H⟩ := bindO H
     refine a_call (v := vB t20) (nk := []) (L := [(211, _), (212, _), (213, _)]) ?_ rfl (spec_l15Ok.ok e21) id (qc (rP (κ := 211) (off := 0) (cs := [.own 212 y211_0.length, .own 213 y211_1.length]) (pC rO (pC rO p0))) qn) ⟨rfl, rfl, rfl, trivial⟩ trivial trivial rfl (hg := Gs.yes rfl rfl rfl (congrArg Bool.not hc19))
     refine a_un (u := .bool (!t20)) ?_ (hg := Gs.yes rfl rfl rfl (congrArg Bool.not hc19))
     refine a_pick (b := false) (v := vB _) ?_ (congrArg Bool.not hc19)
     refine RA.nil nofun ?_
     by_cases hc22 : t20 = true
     ·rw [if_pos hc22] at H
      refine AG.no rfl (congrArg Bool.not hc22) ?_
      refine AG.skip ?_
      refine AG.seq ?_
      refine AG.region HM ?_
      refine a_ldB (v := .agg [_, _]) ?_ T25
      refine a_stB (cs' := [_, _]) ?_ T25
      refine a_move (v := vB _) ?_
      refine RA.nil nofun ?_
      refine AG.ret ?_
      simp only [Option.some.injEq, Prod.mk.injEq] at H
      obtain ⟨rfl, rfl, rfl⟩ := H
      exact RetL.cell T25 rfl rfl rfl (RetL.nil (RetP.mk (fun κ => cond (Nat.beq κ 100) 212 (cond (Nat.beq κ 101) 213 (κ))) ⟨rfl, rfl, trivial⟩ ⟨rfl, rfl, trivial⟩ rfl))
     ·rw [if_neg hc22] at H
      refine AG.yes rfl (congrArg Bool.not (Bool.eq_false_iff.2 hc22)) ?_
      refine AG.seq ?_
      refine AG.region HM ?_
      refine a_build (cs := [_, _]) ?_ T25 rfl (hin := I25)
      refine a_stB (cs' := [_, _]) ?_ T25
      refine a_move (v := vB _) ?_
      refine RA.nil nofun ?_
      refine AG.nilBox (e := 36) (cs' := [.own 218 0, .d (.v (.slice none 0 0))]) 207 218 0 ?_ T36
      refine AG.nilBox (e := 2) (cs' := [.own 218 0, .own 219 0]) 207 219 1 ?_ T2
      refine AG.ret ?_
      simp only [Option.some.injEq, Prod.mk.injEq] at H
      obtain ⟨rfl, rfl, rfl⟩ := H
      exact RetL.cell T25 rfl rfl rfl (RetL.nil (RetP.mk (fun κ => cond (Nat.beq κ 100) 218 (cond (Nat.beq κ 101) 219 (κ))) ⟨rfl, rfl, trivial⟩ ⟨rfl, rfl, trivial⟩ rfl))
    ·rw [if_neg hc19] at H
     refine RA.skip rfl rfl rfl rfl rfl (congrArg Bool.not (Bool.eq_false_iff.2 hc19)) (by decide) ?_
     refine RA.skip rfl rfl rfl rfl rfl (congrArg Bool.not (Bool.eq_false_iff.2 hc19)) (by decide) ?_
     refine a_pick (b := true) (v := vB _) ?_ (congrArg Bool.not (Bool.eq_false_iff.2 hc19))
     refine RA.nil nofun ?_
     refine AG.yes rfl rfl ?_
     refine AG.seq ?_
     refine AG.region HM ?_
     refine a_build (cs := [_, _]) ?_ T25 rfl (hin := I25)
     refine a_stB (cs' := [_, _]) ?_ T25
     refine a_move (v := vB _) ?_
     refine RA.nil nofun ?_
     refine AG.nilBox (e := 36) (cs' := [.own 218 0, .d (.v (.slice none 0 0))]) 207 218 0 ?_ T36
     refine AG.nilBox (e := 2) (cs' := [.own 218 0, .own 219 0]) 207 219 1 ?_ T2
     refine AG.ret ?_
     simp only [Option.some.injEq, Prod.mk.injEq] at H
     obtain ⟨rfl, rfl, rfl⟩ := H
     exact RetL.cell T25 rfl rfl rfl (RetL.nil (RetP.mk (fun κ => cond (Nat.beq κ 100) 218 (cond (Nat.beq κ 101) 219 (κ))) ⟨rfl, rfl, trivial⟩ ⟨rfl, rfl, trivial⟩ rfl))
 ·rw [if_neg hc3] at H
  cases H
/-! ### strings_Split: function 13 -/
def strings_Split.f (a0 a1 : ByteArray) : Option (List ByteArray) := if a0.size < 4294967281 then (if 1 ≤ a1.size then some (splitL a0 a1) else none) else none
theorem strings_Split.ok {a0 a1 : ByteArray} {r : List ByteArray} (H : strings_Split.f a0 a1 = some r) : OkW Tryd.prog V 13 [.c (.d (.v (.string a0))), .c (.d (.v (.string a1)))] (.c (.own 100 r.length)) [(100, .row 9 (r.map c9))] := by
 unfold strings_Split.f at H
 by_cases h : a0.size < 4294967281
 ·rw [if_pos h] at H
  by_cases h1 : 1 ≤ a1.size
  ·rw [if_pos h1] at H
   obtain rfl := Option.some.inj H
   exact split_okW _ _ h h1
  ·rw [if_neg h1] at H; cases H
 ·rw [if_neg h] at H
  cases H
/-! ### stringslite_HasPrefix: function 54 -/
def stringslite_HasPrefix.f (a0 : ByteArray) (a1 : ByteArray) : Option (Bool) := if (a0.size : Int) ≥ (a1.size : Int) then (if 0 ≤ (a1.size : Int) then (if (a1.size : Int) ≤ (a0.size : Int) then (some ((a0.extract 0 (((a1.size : Int) : Int).toNat)).toList == a1.toList)) else (none)) else (none)) else (some false)
set_option maxRecDepth 100000 in
theorem stringslite_HasPrefix.ok {a0 : ByteArray} {a1 : ByteArray} {r : Bool} (H : stringslite_HasPrefix.f a0 a1 = some r) : OkF Tryd.prog 54 [vS a0, vS a1] [] (.c (.d (.v (.bool r)))) [] := by
 unfold stringslite_HasPrefix.f at H
 refine OkF.of (N := 18) (rs := [4]) (avs := [.c (.d (.v (.bool r)))]) Tryd.func54 rfl rfl (fun _ _ => results_tmp rfl _ _ _) (by decide) rfl rfl rfl rfl (fun w0 S => ?_)
 refine AG.seq ?_
 refine AG.region HM ?_
 refine a_move (v := vB _) ?_
 refine RA.nil nofun ?_
 refine AG.seq ?_
 refine AG.region HM ?_
 refine a_move (v := vS _) ?_
 refine a_lenS ?_ Tryd.underlying9
 refine a_move (v := vS _) ?_
 refine a_lenS ?_ Tryd.underlying9
 refine a_int (u := .bool (decide ((a0.size : Int) ≥ (a1.size : Int)))) ?_
 refine a_move (v := vB _) ?_
 by_cases hc1 : (a0.size : Int) ≥ (a1.size : Int)
 ·rw [if_pos hc1] at H
  refine a_move (v := vS _) ?_ (hg := Gs.yes rfl rfl rfl (decide_eq_true hc1))
  refine a_move (v := vS _) ?_ (hg := Gs.yes rfl rfl rfl (decide_eq_true hc1))
  refine a_lenS ?_ Tryd.underlying9 (hg := Gs.yes rfl rfl rfl (decide_eq_true hc1))
  by_cases hc2 : 0 ≤ (a1.size : Int)
  ·rw [if_pos hc2] at H
   by_cases hc3 : (a1.size : Int) ≤ (a0.size : Int)
   ·rw [if_pos hc3] at H
    refine a_slS (l := none) (h := some (a1.size : Int)) (b' := a0.extract 0 (((a1.size : Int) : Int).toNat)) ?_ Tryd.underlying9 ⟨(Int.le_refl 0), hc2, hc3⟩ (hg := Gs.yes rfl rfl rfl (decide_eq_true hc1))
    refine a_move (v := vS _) ?_ (hg := Gs.yes rfl rfl rfl (decide_eq_true hc1))
    refine a_bin (u := .bool ((a0.extract 0 (((a1.size : Int) : Int).toNat)).toList == a1.toList)) ?_ (hg := Gs.yes rfl rfl rfl (decide_eq_true hc1))
    refine a_pick (b := true) (v := vB _) ?_ (decide_eq_true hc1)
    refine a_move (v := vB _) ?_
    refine RA.nil nofun ?_
    refine AG.ret ?_
    obtain rfl := Option.some.inj H
    exact RetP.mk id ⟨rfl, trivial⟩ trivial rfl
   ·rw [if_neg hc3] at H
    cases H
  ·rw [if_neg hc2] at H
   cases H
 ·rw [if_neg hc1] at H
  refine RA.skip rfl rfl rfl rfl rfl (decide_eq_false hc1) (by decide) ?_
  refine RA.skip rfl rfl rfl rfl rfl (decide_eq_false hc1) (by decide) ?_
  refine RA.skip rfl rfl rfl rfl rfl (decide_eq_false hc1) (by decide) ?_
  refine RA.skip rfl rfl rfl rfl rfl (decide_eq_false hc1) (by decide) ?_
  refine RA.skip rfl rfl rfl rfl rfl (decide_eq_false hc1) (by decide) ?_
  refine RA.skip rfl rfl rfl rfl rfl (decide_eq_false hc1) (by decide) ?_
  refine a_pick (b := false) (v := vB _) ?_ (decide_eq_false hc1)
  refine a_move (v := vB _) ?_
  refine RA.nil nofun ?_
  refine AG.ret ?_
  obtain rfl := Option.some.inj H
  exact RetP.mk id ⟨rfl, trivial⟩ trivial rfl
/-! ### strings_HasPrefix: function 44 -/
def strings_HasPrefix.f (a0 : ByteArray) (a1 : ByteArray) : Option (Bool) := (stringslite_HasPrefix.f a0 a1).bind fun t1 => (some t1)
set_option maxRecDepth 100000 in
theorem strings_HasPrefix.ok {a0 : ByteArray} {a1 : ByteArray} {r : Bool} (H : strings_HasPrefix.f a0 a1 = some r) : OkF Tryd.prog 44 [vS a0, vS a1] [] (.c (.d (.v (.bool r)))) [] := by
 unfold strings_HasPrefix.f at H
 refine OkF.of (N := 8) (rs := [4]) (avs := [.c (.d (.v (.bool r)))]) Tryd.func44 rfl rfl (fun _ _ => results_tmp rfl _ _ _) (by decide) rfl rfl rfl rfl (fun w0 S => ?_)
 refine AG.seq ?_
 refine AG.region HM ?_
 refine a_move (v := vB _) ?_
 refine RA.nil nofun ?_
 refine AG.seq ?_
 refine AG.region HM ?_
 refine a_move (v := vS _) ?_
 refine a_move (v := vS _) ?_
 obtain ⟨t1, e2, H⟩ := bindO H
 refine a_call (v := vB t1) (nk := []) (L := []) ?_ rfl (stringslite_HasPrefix.ok e2) id (qd (qd qn)) trivial trivial trivial rfl
 refine a_move (v := vB _) ?_
 refine RA.nil nofun ?_
 refine AG.ret ?_
 obtain rfl := Option.some.inj H
 exact RetP.mk id ⟨rfl, trivial⟩ trivial rfl
/-! ### strconv_FormatInt: function 55 -/
def strconv_FormatInt.f (a0 a1 : Int) : Option ByteArray := if a1 = 10 then (if -9223372036854775808 ≤ a0 then (if a0 ≤ 9223372036854775807 then some ⟨(Go.Lib.itoa a0).toArray⟩ else none) else none) else none
theorem strconv_FormatInt.ok {a0 a1 : Int} {r : ByteArray} (H : strconv_FormatInt.f a0 a1 = some r) : OkW Tryd.prog V 55 [.c (.d (.v (.int .i64 a0))), .c (.d (.v (.int .i64 a1)))] (.c (.d (.v (.string r)))) [] := by
 unfold strconv_FormatInt.f at H
 by_cases h : a1 = 10
 ·rw [if_pos h] at H
  subst h
  by_cases h1 : -9223372036854775808 ≤ a0
  ·rw [if_pos h1] at H
   by_cases h2 : a0 ≤ 9223372036854775807
   ·rw [if_pos h2] at H
    obtain rfl := Option.some.inj H
    exact fmt_okW _ h1 h2
   ·rw [if_neg h2] at H; cases H
  ·rw [if_neg h1] at H; cases H
 ·rw [if_neg h] at H
  cases H
/-! ### impl_Decimal: function 45 -/
def impl_Decimal.f (a0 : Int) : Option (ByteArray) := (strconv_FormatInt.f a0 10).bind fun t1 => (some t1)
set_option maxRecDepth 100000 in
theorem impl_Decimal.ok {a0 : Int} {r : ByteArray} (H : impl_Decimal.f a0 = some r) : OkW Tryd.prog V 45 [vI a0] (.c (.d (.v (.string r)))) [] := by
 unfold impl_Decimal.f at H
 refine OkW.of (N := 5) (rs := [2]) (avs := [.c (.d (.v (.string r)))]) Tryd.func45 rfl rfl (fun _ _ => results_tmp rfl _ _ _) (by decide) rfl rfl rfl rfl (fun w0 S hV_ hS_ => ?_)
 refine AG.seq ?_
 refine AG.region HM ?_
 refine a_move (v := vS _) ?_
 refine RA.nil nofun ?_
 refine AG.seq ?_
 refine AG.region HM ?_
 refine a_move (v := vI _) ?_
 obtain ⟨t1, e2, H⟩ := bindO H
 refine a_callG (v := vS t1) (nk := []) (L := []) ?_ rfl (fun w_ hf_ => V_fr hV_ hS_ hf_) (strconv_FormatInt.ok e2) id (qd (qd qn)) trivial trivial trivial rfl
 refine a_move (v := vS _) ?_
 refine RA.nil nofun ?_
 refine AG.ret ?_
 obtain rfl := Option.some.inj H
 exact RetP.mk id ⟨rfl, trivial⟩ trivial rfl
/-! ### impl_ReadDecimal: function 29 -/
mutual
def impl_ReadDecimal.j0 : Nat → ByteArray → ByteArray → Option (Int × Bool)
 | 0, _, _ => none
 | k + 1, x0, x4 => if (x4.size : Int) < 1 then (impl_ReadDecimal.j1 k x0 x4 true) else (impl_ReadDecimal.j1 k x0 x4 (decide ((x4.size : Int) > 18)))
def impl_ReadDecimal.j1 : Nat → ByteArray → ByteArray → Bool → Option (Int × Bool)
 | 0, _, _, _ => none
 | k + 1, x0, x4, x19 => if x19 = true then (some (0, false)) else (impl_ReadDecimal.l0 k x0 x4 0 0)
def impl_ReadDecimal.l0 : Nat → ByteArray → ByteArray → Int → Int → Option (Int × Bool)
 | 0, _, _, _, _ => none
 | k + 1, x0, x4, x5, x6 => if x6 < (x4.size : Int) then (if 0 ≤ x6 then (if (bt x4 x6) < 48 then (some (0, false)) else (if (bt x4 x6) > 57 then (some (0, false)) else (impl_ReadDecimal.l0 k x0 x4 (wrap64 ((wrap64 (x5 * 10)) + (wrap64 (((bt x4 x6) - 48) % 256)))) (wrap64 (x6 + 1))))) else (none)) else (if (x4.size : Int) < (x0.size : Int) then ((impl_Decimal.f (wrap64 (0 - x5))).bind fun t12 => (if t12.toList = x0.toList then (some (wrap64 (0 - x5), true)) else (some (0, false)))) else ((impl_Decimal.f x5).bind fun t15 => (if t15.toList = x0.toList then (some (x5, true)) else (some (0, false)))))
end
def impl_ReadDecimal.f (k : Nat) (a0 : ByteArray) : Option (Int × Bool) := (strings_HasPrefix.f a0 (⟨#[45]⟩ : ByteArray)).bind fun t1 => (if t1 = true then (if 1 ≤ (a0.size : Int) then (impl_ReadDecimal.j0 k a0 (a0.extract 1 a0.size)) else (none)) else (impl_ReadDecimal.j0 k a0 a0))
set_option maxRecDepth 100000 in
theorem impl_ReadDecimal.ok {k : Nat} {a0 : ByteArray} {r0 : Int} {r1 : Bool} (H : impl_ReadDecimal.f k a0 = some (r0, r1)) : OkW Tryd.prog V 29 [vS a0] (.tup [.c (.d (.v (.int .i64 r0))), .c (.d (.v (.bool r1)))]) [] := by
 unfold impl_ReadDecimal.f at H
 refine OkW.of (N := 56) (rs := [2, 3]) (avs := [.c (.d (.v (.int .i64 r0))), .c (.d (.v (.bool r1)))]) Tryd.func29 rfl rfl (fun _ _ => results_tmp2 rfl _ _ _) (by decide) rfl rfl rfl rfl (fun w0 S hV_ hS_ => ?_)
 refine AG.seq ?_
 refine AG.region HM ?_
 refine a_move (v := vI _) ?_
 refine a_move (v := vB _) ?_
 refine RA.nil nofun ?_
 refine AG.seq ?_
 refine AG.region HM ?_
 refine a_move (v := vS _) ?_
 refine a_move (v := vS _) ?_
 refine RA.nil nofun ?_
 refine AG.seq ?_
 refine AG.seq ?_
 refine AG.region HM ?_
 refine a_move (v := vS _) ?_
 obtain ⟨t1, e2, H⟩ := bindO H
 refine a_call (v := vB t1) (nk := []) (L := []) ?_ rfl (strings_HasPrefix.ok e2) id (qd (qd qn)) trivial trivial trivial rfl
 refine RA.nil nofun ?_
 refine AG.joinR (fun s => ∃ q, q ≤ k ∧ ∃ (x0 : ByteArray) (x4 : ByteArray), impl_ReadDecimal.j0 q x0 x4 = some (r0, r1) ∧ s = St.of [(0, vS x0), (4, vS x4)] []) ?_ ?_
 ·skip
  by_cases hc3 : t1 = true
  ·rw [if_pos hc3] at H
   refine AG.yes rfl hc3 ?_
   refine AG.region HM ?_
   refine a_move (v := vS _) ?_
   by_cases hc4 : 1 ≤ (a0.size : Int)
   ·rw [if_pos hc4] at H
    refine a_slS (l := some 1) (h := none) (b' := a0.extract 1 a0.size) ?_ Tryd.underlying9 ⟨(by decide), hc4, (Int.le_refl _)⟩
    refine a_move (v := vS _) ?_
    refine RA.nil nofun ?_
    exact CanR.mk id ⟨_, (by omega), _, _, H, rfl⟩ ⟨rfl, rfl, trivial⟩ trivial rfl
   ·rw [if_neg hc4] at H
    cases H
  ·rw [if_neg hc3] at H
   refine AG.no rfl (Bool.eq_false_iff.2 hc3) ?_
   refine AG.skip ?_
   exact CanR.mk id ⟨_, (by omega), _, _, H, rfl⟩ ⟨rfl, rfl, trivial⟩ trivial rfl
 ·clear H
  rintro _ ⟨k, hj0, x0, x4, H, rfl⟩
  cases k with
  | zero => cases H
  | succ k =>
   rw [impl_ReadDecimal.j0] at H
   refine AG.seq ?_
   refine AG.seq ?_
   refine AG.joinR (fun s => ∃ q, q ≤ k ∧ ∃ (x0 : ByteArray) (x4 : ByteArray) (x19 : Bool), impl_ReadDecimal.j1 q x0 x4 x19 = some (r0, r1) ∧ s = St.of [(0, vS x0), (4, vS x4), (19, vB x19)] []) ?_ ?_
   ·skip
    refine AG.region HM ?_
    refine a_move (v := vS _) ?_
    refine a_lenS ?_ Tryd.underlying9
    refine a_int (u := .bool (decide ((x4.size : Int) < 1))) ?_
    refine a_move (v := vB _) ?_
    by_cases hc5 : (x4.size : Int) < 1
    ·rw [if_pos hc5] at H
     refine RA.skip rfl rfl rfl rfl rfl (decide_eq_true hc5) (by decide) ?_
     refine RA.skip rfl rfl rfl rfl rfl (decide_eq_true hc5) (by decide) ?_
     refine RA.skip rfl rfl rfl rfl rfl (decide_eq_true hc5) (by decide) ?_
     refine a_pick (b := true) (v := vB _) ?_ (decide_eq_true hc5)
     refine RA.nil nofun ?_
     exact CanR.mk id ⟨_, (by omega), _, _, _, H, rfl⟩ ⟨rfl, rfl, rfl, trivial⟩ trivial rfl
    ·rw [if_neg hc5] at H
     refine a_move (v := vS _) ?_ (hg := Gs.yes rfl rfl rfl (decide_eq_false hc5))
     refine a_lenS ?_ Tryd.underlying9 (hg := Gs.yes rfl rfl rfl (decide_eq_false hc5))
     refine a_int (u := .bool (decide ((x4.size : Int) > 18))) ?_ (hg := Gs.yes rfl rfl rfl (decide_eq_false hc5))
     refine a_pick (b := false) (v := vB _) ?_ (decide_eq_false hc5)
     refine RA.nil nofun ?_
     exact CanR.mk id ⟨_, (by omega), _, _, _, H, rfl⟩ ⟨rfl, rfl, rfl, trivial⟩ trivial rfl
   ·clear H
    rintro _ ⟨k, hj1, x0, x4, x19, H, rfl⟩
    cases k with
    | zero => cases H
    | succ k =>
     rw [impl_ReadDecimal.j1] at H
     by_cases hc6 : x19 = true
     ·rw [if_pos hc6] at H
      refine AG.yes rfl hc6 ?_
      refine AG.seq ?_
      refine AG.region HM ?_
      refine a_move (v := vI _) ?_
      refine a_move (v := vB _) ?_
      refine RA.nil nofun ?_
      refine AG.ret ?_
      simp only [Option.some.injEq, Prod.mk.injEq] at H
      obtain ⟨rfl, rfl⟩ := H
      exact RetP.mk id ⟨rfl, rfl, trivial⟩ trivial rfl
     ·rw [if_neg hc6] at H
      refine AG.no rfl (Bool.eq_false_iff.2 hc6) ?_
      refine AG.skip ?_
      refine AG.seq ?_
      refine AG.region HM ?_
      refine a_move (v := vI _) ?_
      refine RA.nil nofun ?_
      refine AG.seq ?_
      refine AG.seq ?_
      refine AG.region HM ?_
      refine a_move (v := vI _) ?_
      refine RA.nil nofun ?_
      refine AG.block ?_
      refine AG.loop ?_
      obtain ⟨K0, hK0, gK0⟩ : ∃ K, k ≤ K ∧ K ≤ k := ⟨k, Nat.le_refl k, Nat.le_refl k⟩
      refine AGr.canon id (AGr.loopI (n := k) (fun k s => k ≤ K0 ∧ ∃ (x0 : ByteArray) (x4 : ByteArray) (x5 : Int) (x6 : Int), impl_ReadDecimal.l0 k x0 x4 x5 x6 = some (r0, r1) ∧ s = St.of [(0, vS x0), (4, vS x4), (5, vI x5), (6, vI x6)] []) ⟨hK0, _, _, _, _, H, rfl⟩ ?_ ?_) ⟨rfl, rfl, rfl, rfl, trivial⟩ trivial rfl
      ·rintro _ ⟨_, _, _, _, _, H, _⟩
       cases H
      ·clear H hK0
       rintro k ih0 _ ⟨hK0, x0, x4, x5, x6, H, rfl⟩
       unfold impl_ReadDecimal.l0 at H
       refine AG.seq ?_
       refine AG.seq ?_
       refine AG.region HM ?_
       refine a_move (v := vI _) ?_
       refine a_move (v := vS _) ?_
       refine a_lenS ?_ Tryd.underlying9
       refine a_int (u := .bool (decide (x6 < (x4.size : Int)))) ?_
       refine RA.nil nofun ?_
       by_cases hc7 : x6 < (x4.size : Int)
       ·rw [if_pos hc7] at H
        refine AG.yes rfl (decide_eq_true hc7) ?_
        refine AG.skip ?_
        refine AG.seq ?_
        refine AG.block ?_
        refine AG.seq ?_
        refine AG.seq ?_
        refine AG.region HM ?_
        refine a_move (v := vS _) ?_
        refine a_move (v := vI _) ?_
        by_cases hc8 : 0 ≤ x6
        ·rw [if_pos hc8] at H
         refine a_str ?_ ⟨hc8, hc7⟩ Tryd.underlying9
         refine a_int (u := .bool (decide ((bt x4 x6) < 48))) ?_
         refine a_move (v := vB _) ?_
         by_cases hc9 : (bt x4 x6) < 48
         ·rw [if_pos hc9] at H
          refine RA.skip rfl rfl rfl rfl rfl (decide_eq_true hc9) (by decide) ?_
          refine RA.skip rfl rfl rfl rfl rfl (decide_eq_true hc9) (by decide) ?_
          refine RA.skip rfl rfl rfl rfl rfl (decide_eq_true hc9) (by decide) ?_
          refine RA.skip rfl rfl rfl rfl rfl (decide_eq_true hc9) (by decide) ?_
          refine a_pick (b := true) (v := vB _) ?_ (decide_eq_true hc9)
          refine RA.nil nofun ?_
          refine AG.yes rfl rfl ?_
          refine AG.seq ?_
          refine AG.region HM ?_
          refine a_move (v := vI _) ?_
          refine a_move (v := vB _) ?_
          refine RA.nil nofun ?_
          refine AG.ret ?_
          simp only [Option.some.injEq, Prod.mk.injEq] at H
          obtain ⟨rfl, rfl⟩ := H
          exact RetP.mk id ⟨rfl, rfl, trivial⟩ trivial rfl
         ·rw [if_neg hc9] at H
          refine a_move (v := vS _) ?_ (hg := Gs.yes rfl rfl rfl (decide_eq_false hc9))
          refine a_move (v := vI _) ?_ (hg := Gs.yes rfl rfl rfl (decide_eq_false hc9))
          refine a_str ?_ ⟨hc8, hc7⟩ Tryd.underlying9 (hg := Gs.yes rfl rfl rfl (decide_eq_false hc9))
          refine a_int (u := .bool (decide ((bt x4 x6) > 57))) ?_ (hg := Gs.yes rfl rfl rfl (decide_eq_false hc9))
          refine a_pick (b := false) (v := vB _) ?_ (decide_eq_false hc9)
          refine RA.nil nofun ?_
          by_cases hc10 : (bt x4 x6) > 57
          ·rw [if_pos hc10] at H
           refine AG.yes rfl (decide_eq_true hc10) ?_
           refine AG.seq ?_
           refine AG.region HM ?_
           refine a_move (v := vI _) ?_
           refine a_move (v := vB _) ?_
           refine RA.nil nofun ?_
           refine AG.ret ?_
           simp only [Option.some.injEq, Prod.mk.injEq] at H
           obtain ⟨rfl, rfl⟩ := H
           exact RetP.mk id ⟨rfl, rfl, trivial⟩ trivial rfl
          ·rw [if_neg hc10] at H
           refine AG.no rfl (decide_eq_false hc10) ?_
           refine AG.skip ?_
           refine AG.region HM ?_
           refine a_move (v := vI _) ?_
           refine a_int (u := .int .i64 (wrap64 (x5 * 10))) ?_
           refine a_move (v := vS _) ?_
           refine a_move (v := vI _) ?_
           refine a_str ?_ ⟨hc8, hc7⟩ Tryd.underlying9
           refine a_int (u := .int .u8 (((bt x4 x6) - 48) % 256)) ?_
           refine a_conv (j := wrap64 (((bt x4 x6) - 48) % 256)) ?_ Tryd.underlying5 Tryd.underlying2
           refine a_int (u := .int .i64 (wrap64 ((wrap64 (x5 * 10)) + (wrap64 (((bt x4 x6) - 48) % 256))))) ?_
           refine a_move (v := vI _) ?_
           refine RA.nil nofun ?_
           refine AG.region HM ?_
           refine a_move (v := vI _) ?_
           refine a_int (u := .int .i64 (wrap64 (x6 + 1))) ?_
           refine a_move (v := vI _) ?_
           refine RA.nil nofun ?_
           exact AGr.canon id (ih0 _ (by omega) _ ⟨by omega, _, _, _, _, H, rfl⟩) ⟨rfl, rfl, rfl, rfl, trivial⟩ trivial rfl
        ·rw [if_neg hc8] at H
         cases H
       ·rw [if_neg hc7] at H
        refine AG.no rfl (decide_eq_false hc7) ?_
        refine AG.exit ?_
        refine AG.seq ?_
        refine AG.seq ?_
        refine AG.region HM ?_
        refine a_move (v := vS _) ?_
        refine a_lenS ?_ Tryd.underlying9
        refine a_move (v := vS _) ?_
        refine a_lenS ?_ Tryd.underlying9
        refine a_int (u := .bool (decide ((x4.size : Int) < (x0.size : Int)))) ?_
        refine RA.nil nofun ?_
        by_cases hc11 : (x4.size : Int) < (x0.size : Int)
        ·rw [if_pos hc11] at H
         refine AG.yes rfl (decide_eq_true hc11) ?_
         refine AG.region HM ?_
         refine a_move (v := vI _) ?_
         refine a_un (u := .int .i64 (wrap64 (0 - x5))) ?_
         refine a_move (v := vI _) ?_
         refine RA.nil nofun ?_
         refine AG.seq ?_
         refine AG.seq ?_
         refine AG.region HM ?_
         refine a_move (v := vI _) ?_
         obtain ⟨t12, e13, H⟩ := bindO H
         refine a_callG (v := vS t12) (nk := []) (L := []) ?_ rfl (fun w_ hf_ => V_fr hV_ hS_ hf_) (impl_Decimal.ok e13) id (qd qn) trivial trivial trivial rfl
         refine a_move (v := vS _) ?_
         refine a_bin (u := .bool (!(t12.toList == x0.toList))) ?_
         refine RA.nil nofun ?_
         by_cases hc14 : t12.toList = x0.toList
         ·rw [if_pos hc14] at H
          refine AG.no rfl (by rw [beq_iff_eq.2 hc14]; rfl) ?_
          refine AG.skip ?_
          refine AG.seq ?_
          refine AG.region HM ?_
          refine a_move (v := vI _) ?_
          refine a_move (v := vI _) ?_
          refine a_move (v := vB _) ?_
          refine RA.nil nofun ?_
          refine AG.ret ?_
          simp only [Option.some.injEq, Prod.mk.injEq] at H
          obtain ⟨rfl, rfl⟩ := H
          exact RetP.mk id ⟨rfl, rfl, trivial⟩ trivial rfl
         ·rw [if_neg hc14] at H
          refine AG.yes rfl (by rw [beq_eq_false_iff_ne.2 hc14]; rfl) ?_
          refine AG.seq ?_
          refine AG.region HM ?_
          refine a_move (v := vI _) ?_
          refine a_move (v := vB _) ?_
          refine RA.nil nofun ?_
          refine AG.ret ?_
          simp only [Option.some.injEq, Prod.mk.injEq] at H
          obtain ⟨rfl, rfl⟩ := H
          exact RetP.mk id ⟨rfl, rfl, trivial⟩ trivial rfl
        ·rw [if_neg hc11] at H
         refine AG.no rfl (decide_eq_false hc11) ?_
         refine AG.skip ?_
         refine AG.seq ?_
         refine AG.seq ?_
         refine AG.region HM ?_
         refine a_move (v := vI _) ?_
         obtain ⟨t15, e16, H⟩ := bindO H
         refine a_callG (v := vS t15) (nk := []) (L := []) ?_ rfl (fun w_ hf_ => V_fr hV_ hS_ hf_) (impl_Decimal.ok e16) id (qd qn) trivial trivial trivial rfl
         refine a_move (v := vS _) ?_
         refine a_bin (u := .bool (!(t15.toList == x0.toList))) ?_
         refine RA.nil nofun ?_
         by_cases hc17 : t15.toList = x0.toList
         ·rw [if_pos hc17] at H
          refine AG.no rfl (by rw [beq_iff_eq.2 hc17]; rfl) ?_
          refine AG.skip ?_
          refine AG.seq ?_
          refine AG.region HM ?_
          refine a_move (v := vI _) ?_
          refine a_move (v := vI _) ?_
          refine a_move (v := vB _) ?_
          refine RA.nil nofun ?_
          refine AG.ret ?_
          simp only [Option.some.injEq, Prod.mk.injEq] at H
          obtain ⟨rfl, rfl⟩ := H
          exact RetP.mk id ⟨rfl, rfl, trivial⟩ trivial rfl
         ·rw [if_neg hc17] at H
          refine AG.yes rfl (by rw [beq_eq_false_iff_ne.2 hc17]; rfl) ?_
          refine AG.seq ?_
          refine AG.region HM ?_
          refine a_move (v := vI _) ?_
          refine a_move (v := vB _) ?_
          refine RA.nil nofun ?_
          refine AG.ret ?_
          simp only [Option.some.injEq, Prod.mk.injEq] at H
          obtain ⟨rfl, rfl⟩ := H
          exact RetP.mk id ⟨rfl, rfl, trivial⟩ trivial rfl
/-! ### impl_within: function 30 -/
def impl_within.f (a0 : Int) (a1 : Int) (a2 : Int) : Option (Bool) := if a0 ≥ a1 then (some (decide (a0 ≤ a2))) else (some false)
set_option maxRecDepth 100000 in
theorem impl_within.ok {a0 : Int} {a1 : Int} {a2 : Int} {r : Bool} (H : impl_within.f a0 a1 a2 = some r) : OkF Tryd.prog 30 [vI a0, vI a1, vI a2] [] (.c (.d (.v (.bool r)))) [] := by
 unfold impl_within.f at H
 refine OkF.of (N := 15) (rs := [6]) (avs := [.c (.d (.v (.bool r)))]) Tryd.func30 rfl rfl (fun _ _ => results_tmp rfl _ _ _) (by decide) rfl rfl rfl rfl (fun w0 S => ?_)
 refine AG.seq ?_
 refine AG.region HM ?_
 refine a_move (v := vB _) ?_
 refine RA.nil nofun ?_
 refine AG.seq ?_
 refine AG.region HM ?_
 refine a_move (v := vI _) ?_
 refine a_move (v := vI _) ?_
 refine a_int (u := .bool (decide (a0 ≥ a1))) ?_
 refine a_move (v := vB _) ?_
 by_cases hc1 : a0 ≥ a1
 ·rw [if_pos hc1] at H
  refine a_move (v := vI _) ?_ (hg := Gs.yes rfl rfl rfl (decide_eq_true hc1))
  refine a_move (v := vI _) ?_ (hg := Gs.yes rfl rfl rfl (decide_eq_true hc1))
  refine a_int (u := .bool (decide (a0 ≤ a2))) ?_ (hg := Gs.yes rfl rfl rfl (decide_eq_true hc1))
  refine a_pick (b := true) (v := vB _) ?_ (decide_eq_true hc1)
  refine a_move (v := vB _) ?_
  refine RA.nil nofun ?_
  refine AG.ret ?_
  obtain rfl := Option.some.inj H
  exact RetP.mk id ⟨rfl, trivial⟩ trivial rfl
 ·rw [if_neg hc1] at H
  refine RA.skip rfl rfl rfl rfl rfl (decide_eq_false hc1) (by decide) ?_
  refine RA.skip rfl rfl rfl rfl rfl (decide_eq_false hc1) (by decide) ?_
  refine RA.skip rfl rfl rfl rfl rfl (decide_eq_false hc1) (by decide) ?_
  refine a_pick (b := false) (v := vB _) ?_ (decide_eq_false hc1)
  refine a_move (v := vB _) ?_
  refine RA.nil nofun ?_
  refine AG.ret ?_
  obtain rfl := Option.some.inj H
  exact RetP.mk id ⟨rfl, trivial⟩ trivial rfl
/-! ### impl_ReadList: function 14 -/
def impl_ReadList.l0 : Nat → List Int → List ByteArray → Int → Int → Option ((List Int) × Bool)
 | 0, _, _, _, _ => none
 | k + 1, x4, x13, x14, x15 => if x15 < x14 then (if 0 ≤ x15 then (if x15 < (x13.length : Int) then ((impl_ReadDecimal.f k (rd9 x13 x15)).bind fun bt8 => (if bt8.2 = true then ((impl_within.f bt8.1 (-1000000000000) 1000000000000).bind fun t12 => (if t12 = true then (if x4.length < 17592186044416 then (impl_ReadList.l0 k (x4 ++ [bt8.1]) x13 x14 (wrap64 (x15 + 1))) else (none)) else (some (([] : List Int), false)))) else (some (([] : List Int), false)))) else (none)) else (none)) else (if (x4.length : Int) > 64 then (some (([] : List Int), false)) else (some (x4, true)))
def impl_ReadList.f (k : Nat) (a0 : ByteArray) : Option ((List Int) × Bool) := if a0.toList = (⟨#[45]⟩ : ByteArray).toList then (some (([] : List Int), true)) else ((strings_Split.f a0 (⟨#[44]⟩ : ByteArray)).bind fun t3 => (impl_ReadList.l0 k (([] : List Int) : List Int) t3 (t3.length : Int) 0))
set_option maxRecDepth 100000 in
theorem impl_ReadList.ok {k : Nat} {a0 : ByteArray} {r0 : List Int} {r1 : Bool} (H : impl_ReadList.f k a0 = some (r0, r1)) : OkW Tryd.prog V 14 [vS a0] (.tup [.c (.own 100 r0.length), .c (.d (.v (.bool r1)))]) [(100, .row 2 (r0.map c2))] := by
 unfold impl_ReadList.f at H
 refine OkW.of (N := 40) (rs := [2, 3]) (avs := [.c (.own 100 r0.length), .c (.d (.v (.bool r1)))]) Tryd.func14 rfl rfl (fun _ _ => results_tmp2 rfl _ _ _) (by decide) rfl rfl rfl rfl (fun w0 S hV_ hS_ => ?_)
 refine AG.seq ?_
 refine AG.region HM ?_
 refine a_nilO (e := 2) 200 ?_ T2
 refine a_move (v := vB _) ?_
 refine RA.nil nofun ?_
 refine AG.seq ?_
 refine AG.seq ?_
 refine AG.region HM ?_
 refine a_move (v := vS _) ?_
 refine a_bin (u := .bool (a0.toList == (⟨#[45]⟩ : ByteArray).toList)) ?_
 refine RA.nil nofun ?_
 by_cases hc1 : a0.toList = (⟨#[45]⟩ : ByteArray).toList
 ·rw [if_pos hc1] at H
  refine AG.yes rfl (beq_iff_eq.2 hc1) ?_
  refine AG.seq ?_
  refine AG.region HM ?_
  refine a_nilO (e := 2) 201 ?_ T2
  refine a_move (v := vB _) ?_
  refine RA.nil nofun ?_
  refine AG.ret ?_
  simp only [Option.some.injEq, Prod.mk.injEq] at H
  obtain ⟨rfl, rfl⟩ := H
  exact RetP.mk (fun κ => cond (Nat.beq κ 100) 201 (κ)) ⟨(ownE rfl (by simp)), rfl, trivial⟩ ⟨rfl, trivial⟩ rfl
 ·rw [if_neg hc1] at H
  refine AG.no rfl (beq_eq_false_iff_ne.2 hc1) ?_
  refine AG.skip ?_
  refine AG.seq ?_
  refine AG.region HM ?_
  refine a_lit (cs := []) (D := []) (css := (([] : List Int) : List Int).map c2) 202 ?_ N23 T2 (hcss := by rfl)
  refine a_move (v := .c (.own _ _)) ?_
  refine RA.nil nofun ?_
  refine AG.seq ?_
  refine AG.seq ?_
  refine AG.region HM ?_
  refine a_move (v := vS _) ?_
  obtain ⟨t3, e4, H⟩ := bindO H
  refine a_callG (v := .c (.own 203 t3.length)) (nk := [(203, .row 9 (t3.map c9))]) (L := []) ?_ rfl (fun w_ hf_ => V_fr hV_ hS_ hf_) (strings_Split.ok e4) (fun κ => cond (Nat.beq κ 203) 100 (κ)) (qd (qd qn)) trivial ⟨rfl, trivial⟩ ⟨rfl, trivial⟩ rfl
  refine a_lenO ?_ Tryd.underlying31
  refine a_move (v := vI _) ?_
  refine RA.nil nofun ?_
  refine AG.block ?_
  refine AG.loop ?_
  obtain ⟨K0, hK0, gK0⟩ : ∃ K, k ≤ K ∧ K ≤ k := ⟨k, Nat.le_refl k, Nat.le_refl k⟩
  refine AGr.canon (fun κ => cond (Nat.beq κ 204) 202 (cond (Nat.beq κ 205) 203 (κ))) (AGr.loopI (n := k) (fun k s => k ≤ K0 ∧ ∃ (x4 : List Int) (x13 : List ByteArray) (x14 : Int) (x15 : Int), impl_ReadList.l0 k x4 x13 x14 x15 = some (r0, r1) ∧ s = St.of [(4, .c (.own 204 x4.length)), (13, .c (.own 205 x13.length)), (14, vI x14), (15, vI x15)] [(204, .row 2 (x4.map c2)), (205, .row 9 (x13.map c9))]) ⟨hK0, _, _, _, _, H, rfl⟩ ?_ ?_) ⟨(ownE rfl (by simp)), rfl, rfl, rfl, trivial⟩ ⟨rfl, rfl, trivial⟩ rfl
  ·rintro _ ⟨_, _, _, _, _, H, _⟩
   cases H
  ·clear H hK0
   rintro k ih0 _ ⟨hK0, x4, x13, x14, x15, H, rfl⟩
   unfold impl_ReadList.l0 at H
   refine AG.seq ?_
   refine AG.region HM ?_
   refine a_int (u := .bool (decide (x15 < x14))) ?_
   refine RA.nil nofun ?_
   refine AG.seq ?_
   by_cases hc5 : x15 < x14
   ·rw [if_pos hc5] at H
    refine AG.yes rfl (decide_eq_true hc5) ?_
    refine AG.skip ?_
    refine AG.seq ?_
    refine AG.block ?_
    refine AG.seq ?_
    refine AG.region HM ?_
    by_cases hc6 : 0 ≤ x15
    ·rw [if_pos hc6] at H
     by_cases hc7 : x15 < (x13.length : Int)
     ·rw [if_pos hc7] at H
      refine a_ixO ?_ ⟨hc6, hc7⟩ T9 Tryd.underlying31
      refine a_ldE (v := vS _) ?_ (G9 hc6 hc7) T9
      refine a_move (v := vS _) ?_
      refine RA.nil nofun ?_
      refine AG.seq ?_
      refine AG.region HM ?_
      refine a_move (v := vS _) ?_
      obtain ⟨⟨t8, t9⟩, e10, H⟩ := bindO H
      refine a_callG (v := .tup [.c (.d (.v (.int .i64 t8))), .c (.d (.v (.bool t9)))]) (nk := []) (L := []) ?_ rfl (fun w_ hf_ => V_fr hV_ hS_ hf_) (impl_ReadDecimal.ok e10) id (qd qn) trivial trivial trivial rfl
      refine a_move (v := .tup [_, _]) ?_
      refine a_ext (v := vI _) ?_
      refine a_ext (v := vB _) ?_
      refine a_move (v := vI _) ?_
      refine a_move (v := vB _) ?_
      refine RA.nil nofun ?_
      refine AG.seq ?_
      refine AG.seq ?_
      refine AG.region HM ?_
      refine a_move (v := vB _) ?_
      refine a_un (u := .bool (!t9)) ?_
      refine a_move (v := vB _) ?_
      by_cases hc11 : t9 = true
      ·rw [if_pos hc11] at H
       refine a_move (v := vI _) ?_ (hg := Gs.yes rfl rfl rfl (congrArg Bool.not hc11))
       obtain ⟨t12, e13, H⟩ := bindO H
       refine a_call (v := vB t12) (nk := []) (L := []) ?_ rfl (impl_within.ok e13) id (qd (qd (qd qn))) trivial trivial trivial rfl (hg := Gs.yes rfl rfl rfl (congrArg Bool.not hc11))
       refine a_un (u := .bool (!t12)) ?_ (hg := Gs.yes rfl rfl rfl (congrArg Bool.not hc11))
       refine a_pick (b := false) (v := vB _) ?_ (congrArg Bool.not hc11)
       refine RA.nil nofun ?_
       by_cases hc14 : t12 = true
       ·rw [if_pos hc14] at H
        refine AG.no rfl (congrArg Bool.not hc14) ?_
        refine AG.skip ?_
        refine AG.region HM ?_
        refine a_move (v := .c (.own _ _)) ?_
        refine a_move (v := vI _) ?_
        refine a_lit (cs := [_]) (D := []) (css := ([t8]).map c2) 209 ?_ N23 T2
        by_cases hc15 : x4.length < 17592186044416
        ·rw [if_pos hc15] at H
         refine a_appO (css' := (x4 ++ [t8]).map c2) (n' := (x4 ++ [t8]).length) ?_ T2 (by simp [maxLen]; omega) (by simp; omega) Tryd.underlying23 (hc := by exact List.map_append.symm) (hn := by exact List.length_map _)
         refine a_move (v := .c (.own _ _)) ?_
         refine RA.nil nofun ?_
         refine AG.region HM ?_
         refine a_int (u := .int .i64 (wrap64 (x15 + 1))) ?_
         refine a_move (v := vI _) ?_
         refine RA.nil nofun ?_
         exact AGr.canon id (ih0 _ (by omega) _ ⟨by omega, _, _, _, _, H, rfl⟩) ⟨rfl, rfl, rfl, rfl, trivial⟩ ⟨rfl, rfl, trivial⟩ rfl
        ·rw [if_neg hc15] at H
         cases H
       ·rw [if_neg hc14] at H
        refine AG.yes rfl (congrArg Bool.not (Bool.eq_false_iff.2 hc14)) ?_
        refine AG.seq ?_
        refine AG.region HM ?_
        refine a_nilO (e := 2) 210 ?_ T2
        refine a_move (v := vB _) ?_
        refine RA.nil nofun ?_
        refine AG.ret ?_
        simp only [Option.some.injEq, Prod.mk.injEq] at H
        obtain ⟨rfl, rfl⟩ := H
        exact RetP.mk (fun κ => cond (Nat.beq κ 100) 210 (κ)) ⟨(ownE rfl (by simp)), rfl, trivial⟩ ⟨rfl, trivial⟩ rfl
      ·rw [if_neg hc11] at H
       refine RA.skip rfl rfl rfl rfl rfl (congrArg Bool.not (Bool.eq_false_iff.2 hc11)) (by decide) ?_
       refine RA.skip rfl rfl rfl rfl rfl (congrArg Bool.not (Bool.eq_false_iff.2 hc11)) (by decide) ?_
       refine RA.skip rfl rfl rfl rfl rfl (congrArg Bool.not (Bool.eq_false_iff.2 hc11)) (by decide) ?_
       refine a_pick (b := true) (v := vB _) ?_ (congrArg Bool.not (Bool.eq_false_iff.2 hc11))
       refine RA.nil nofun ?_
       refine AG.yes rfl rfl ?_
       refine AG.seq ?_
       refine AG.region HM ?_
       refine a_nilO (e := 2) 210 ?_ T2
       refine a_move (v := vB _) ?_
       refine RA.nil nofun ?_
       refine AG.ret ?_
       simp only [Option.some.injEq, Prod.mk.injEq] at H
       obtain ⟨rfl, rfl⟩ := H
       exact RetP.mk (fun κ => cond (Nat.beq κ 100) 210 (κ)) ⟨(ownE rfl (by simp)), rfl, trivial⟩ ⟨rfl, trivial⟩ rfl
     ·rw [if_neg hc7] at H
      cases H
    ·rw [if_neg hc6] at H
     cases H
   ·rw [if_neg hc5] at H
    refine AG.no rfl (decide_eq_false hc5) ?_
    refine AG.exit ?_
    refine AG.seq ?_
    refine AG.seq ?_
    refine AG.region HM ?_
    refine a_move (v := .c (.own _ _)) ?_
    refine a_lenO ?_ Tryd.underlying23
    refine a_int (u := .bool (decide ((x4.length : Int) > 64))) ?_
    refine RA.nil nofun ?_
    by_cases hc17 : (x4.length : Int) > 64
    ·rw [if_pos hc17] at H
     refine AG.yes rfl (decide_eq_true hc17) ?_
     refine AG.seq ?_
     refine AG.region HM ?_
     refine a_nilO (e := 2) 206 ?_ T2
     refine a_move (v := vB _) ?_
     refine RA.nil nofun ?_
     refine AG.ret ?_
     simp only [Option.some.injEq, Prod.mk.injEq] at H
     obtain ⟨rfl, rfl⟩ := H
     exact RetP.mk (fun κ => cond (Nat.beq κ 100) 206 (κ)) ⟨(ownE rfl (by simp)), rfl, trivial⟩ ⟨rfl, trivial⟩ rfl
    ·rw [if_neg hc17] at H
     refine AG.no rfl (decide_eq_false hc17) ?_
     refine AG.skip ?_
     refine AG.seq ?_
     refine AG.region HM ?_
     refine a_move (v := .c (.own _ _)) ?_
     refine a_move (v := .c (.own _ _)) ?_
     refine a_move (v := vB _) ?_
     refine RA.nil nofun ?_
     refine AG.ret ?_
     simp only [Option.some.injEq, Prod.mk.injEq] at H
     obtain ⟨rfl, rfl⟩ := H
     exact RetP.mk (fun κ => cond (Nat.beq κ 100) 204 (κ)) ⟨rfl, rfl, trivial⟩ ⟨rfl, trivial⟩ rfl
/-! ### impl_SpeciesData: function 56 -/
def impl_SpeciesData.f (a0 : ByteArray) : Option (Int × Int × Int × Int) := if a0.toList = (⟨#[97, 115, 104]⟩ : ByteArray).toList then (some (20, 40, 310, 0)) else (if a0.toList = (⟨#[98, 101, 101, 99, 104]⟩ : ByteArray).toList then (some (35, 45, 410, 0)) else (if a0.toList = (⟨#[98, 105, 114, 99, 104]⟩ : ByteArray).toList then (some (15, 33, 280, 0)) else (if a0.toList = (⟨#[99, 104, 101, 114, 114, 121]⟩ : ByteArray).toList then (some (50, 36, 240, 0)) else (if a0.toList = (⟨#[101, 98, 111, 110, 121]⟩ : ByteArray).toList then (some (95, 85, 270, 0)) else (if a0.toList = (⟨#[104, 111, 108, 108, 121]⟩ : ByteArray).toList then (some (5, 35, 370, 0)) else (if a0.toList = (⟨#[109, 97, 112, 108, 101]⟩ : ByteArray).toList then (some (10, 42, 290, 0)) else (if a0.toList = (⟨#[111, 97, 107]⟩ : ByteArray).toList then (some (40, 40, 330, 0)) else (if a0.toList = (⟨#[114, 111, 115, 101, 119, 111, 111, 100]⟩ : ByteArray).toList then (some (80, 60, 220, 0)) else (if a0.toList = (⟨#[119, 97, 108, 110, 117, 116]⟩ : ByteArray).toList then (some (70, 38, 260, 0)) else (some (0, 0, 0, 3)))))))))))
set_option maxRecDepth 100000 in
theorem impl_SpeciesData.ok {a0 : ByteArray} {r0 : Int} {r1 : Int} {r2 : Int} {r3 : Int} (H : impl_SpeciesData.f a0 = some (r0, r1, r2, r3)) : OkF Tryd.prog 56 [vS a0] [] (.tup [.c (.d (.v (.int .i64 r0))), .c (.d (.v (.int .i64 r1))), .c (.d (.v (.int .i64 r2))), .c (.d (.v (.int .i64 r3)))]) [] := by
 unfold impl_SpeciesData.f at H
 refine OkF.of (N := 27) (rs := [2, 3, 4, 5]) (avs := [.c (.d (.v (.int .i64 r0))), .c (.d (.v (.int .i64 r1))), .c (.d (.v (.int .i64 r2))), .c (.d (.v (.int .i64 r3)))]) Tryd.func56 rfl rfl (fun _ _ => results_tmp4 rfl _ _ _) (by decide) rfl rfl rfl rfl (fun w0 S => ?_)
 refine AG.seq ?_
 refine AG.region HM ?_
 refine a_move (v := vI _) ?_
 refine a_move (v := vI _) ?_
 refine a_move (v := vI _) ?_
 refine a_move (v := vI _) ?_
 refine RA.nil nofun ?_
 refine AG.seq ?_
 refine AG.seq ?_
 refine AG.region HM ?_
 refine a_move (v := vS _) ?_
 refine RA.nil nofun ?_
 refine AG.block ?_
 refine AG.seq ?_
 refine AG.region HM ?_
 refine a_bin (u := .bool (a0.toList == (⟨#[97, 115, 104]⟩ : ByteArray).toList)) ?_
 refine a_move (v := vB _) ?_
 refine RA.nil nofun ?_
 by_cases hc1 : a0.toList = (⟨#[97, 115, 104]⟩ : ByteArray).toList
 ·rw [if_pos hc1] at H
  refine AG.yes rfl (beq_iff_eq.2 hc1) ?_
  refine AG.seq ?_
  refine AG.region HM ?_
  refine a_move (v := vI _) ?_
  refine a_move (v := vI _) ?_
  refine a_move (v := vI _) ?_
  refine a_move (v := vI _) ?_
  refine RA.nil nofun ?_
  refine AG.ret ?_
  simp only [Option.some.injEq, Prod.mk.injEq] at H
  obtain ⟨rfl, rfl, rfl, rfl⟩ := H
  exact RetP.mk id ⟨rfl, rfl, rfl, rfl, trivial⟩ trivial rfl
 ·rw [if_neg hc1] at H
  refine AG.no rfl (beq_eq_false_iff_ne.2 hc1) ?_
  refine AG.seq ?_
  refine AG.region HM ?_
  refine a_bin (u := .bool (a0.toList == (⟨#[98, 101, 101, 99, 104]⟩ : ByteArray).toList)) ?_
  refine a_move (v := vB _) ?_
  refine RA.nil nofun ?_
  by_cases hc2 : a0.toList = (⟨#[98, 101, 101, 99, 104]⟩ : ByteArray).toList
  ·rw [if_pos hc2] at H
   refine AG.yes rfl (beq_iff_eq.2 hc2) ?_
   refine AG.seq ?_
   refine AG.region HM ?_
   refine a_move (v := vI _) ?_
   refine a_move (v := vI _) ?_
   refine a_move (v := vI _) ?_
   refine a_move (v := vI _) ?_
   refine RA.nil nofun ?_
   refine AG.ret ?_
   simp only [Option.some.injEq, Prod.mk.injEq] at H
   obtain ⟨rfl, rfl, rfl, rfl⟩ := H
   exact RetP.mk id ⟨rfl, rfl, rfl, rfl, trivial⟩ trivial rfl
  ·rw [if_neg hc2] at H
   refine AG.no rfl (beq_eq_false_iff_ne.2 hc2) ?_
   refine AG.seq ?_
   refine AG.region HM ?_
   refine a_bin (u := .bool (a0.toList == (⟨#[98, 105, 114, 99, 104]⟩ : ByteArray).toList)) ?_
   refine a_move (v := vB _) ?_
   refine RA.nil nofun ?_
   by_cases hc3 : a0.toList = (⟨#[98, 105, 114, 99, 104]⟩ : ByteArray).toList
   ·rw [if_pos hc3] at H
    refine AG.yes rfl (beq_iff_eq.2 hc3) ?_
    refine AG.seq ?_
    refine AG.region HM ?_
    refine a_move (v := vI _) ?_
    refine a_move (v := vI _) ?_
    refine a_move (v := vI _) ?_
    refine a_move (v := vI _) ?_
    refine RA.nil nofun ?_
    refine AG.ret ?_
    simp only [Option.some.injEq, Prod.mk.injEq] at H
    obtain ⟨rfl, rfl, rfl, rfl⟩ := H
    exact RetP.mk id ⟨rfl, rfl, rfl, rfl, trivial⟩ trivial rfl
   ·rw [if_neg hc3] at H
    refine AG.no rfl (beq_eq_false_iff_ne.2 hc3) ?_
    refine AG.seq ?_
    refine AG.region HM ?_
    refine a_bin (u := .bool (a0.toList == (⟨#[99, 104, 101, 114, 114, 121]⟩ : ByteArray).toList)) ?_
    refine a_move (v := vB _) ?_
    refine RA.nil nofun ?_
    by_cases hc4 : a0.toList = (⟨#[99, 104, 101, 114, 114, 121]⟩ : ByteArray).toList
    ·rw [if_pos hc4] at H
     refine AG.yes rfl (beq_iff_eq.2 hc4) ?_
     refine AG.seq ?_
     refine AG.region HM ?_
     refine a_move (v := vI _) ?_
     refine a_move (v := vI _) ?_
     refine a_move (v := vI _) ?_
     refine a_move (v := vI _) ?_
     refine RA.nil nofun ?_
     refine AG.ret ?_
     simp only [Option.some.injEq, Prod.mk.injEq] at H
     obtain ⟨rfl, rfl, rfl, rfl⟩ := H
     exact RetP.mk id ⟨rfl, rfl, rfl, rfl, trivial⟩ trivial rfl
    ·rw [if_neg hc4] at H
     refine AG.no rfl (beq_eq_false_iff_ne.2 hc4) ?_
     refine AG.seq ?_
     refine AG.region HM ?_
     refine a_bin (u := .bool (a0.toList == (⟨#[101, 98, 111, 110, 121]⟩ : ByteArray).toList)) ?_
     refine a_move (v := vB _) ?_
     refine RA.nil nofun ?_
     by_cases hc5 : a0.toList = (⟨#[101, 98, 111, 110, 121]⟩ : ByteArray).toList
     ·rw [if_pos hc5] at H
      refine AG.yes rfl (beq_iff_eq.2 hc5) ?_
      refine AG.seq ?_
      refine AG.region HM ?_
      refine a_move (v := vI _) ?_
      refine a_move (v := vI _) ?_
      refine a_move (v := vI _) ?_
      refine a_move (v := vI _) ?_
      refine RA.nil nofun ?_
      refine AG.ret ?_
      simp only [Option.some.injEq, Prod.mk.injEq] at H
      obtain ⟨rfl, rfl, rfl, rfl⟩ := H
      exact RetP.mk id ⟨rfl, rfl, rfl, rfl, trivial⟩ trivial rfl
     ·rw [if_neg hc5] at H
      refine AG.no rfl (beq_eq_false_iff_ne.2 hc5) ?_
      refine AG.seq ?_
      refine AG.region HM ?_
      refine a_bin (u := .bool (a0.toList == (⟨#[104, 111, 108, 108, 121]⟩ : ByteArray).toList)) ?_
      refine a_move (v := vB _) ?_
      refine RA.nil nofun ?_
      by_cases hc6 : a0.toList = (⟨#[104, 111, 108, 108, 121]⟩ : ByteArray).toList
      ·rw [if_pos hc6] at H
       refine AG.yes rfl (beq_iff_eq.2 hc6) ?_
       refine AG.seq ?_
       refine AG.region HM ?_
       refine a_move (v := vI _) ?_
       refine a_move (v := vI _) ?_
       refine a_move (v := vI _) ?_
       refine a_move (v := vI _) ?_
       refine RA.nil nofun ?_
       refine AG.ret ?_
       simp only [Option.some.injEq, Prod.mk.injEq] at H
       obtain ⟨rfl, rfl, rfl, rfl⟩ := H
       exact RetP.mk id ⟨rfl, rfl, rfl, rfl, trivial⟩ trivial rfl
      ·rw [if_neg hc6] at H
       refine AG.no rfl (beq_eq_false_iff_ne.2 hc6) ?_
       refine AG.seq ?_
       refine AG.region HM ?_
       refine a_bin (u := .bool (a0.toList == (⟨#[109, 97, 112, 108, 101]⟩ : ByteArray).toList)) ?_
       refine a_move (v := vB _) ?_
       refine RA.nil nofun ?_
       by_cases hc7 : a0.toList = (⟨#[109, 97, 112, 108, 101]⟩ : ByteArray).toList
       ·rw [if_pos hc7] at H
        refine AG.yes rfl (beq_iff_eq.2 hc7) ?_
        refine AG.seq ?_
        refine AG.region HM ?_
        refine a_move (v := vI _) ?_
        refine a_move (v := vI _) ?_
        refine a_move (v := vI _) ?_
        refine a_move (v := vI _) ?_
        refine RA.nil nofun ?_
        refine AG.ret ?_
        simp only [Option.some.injEq, Prod.mk.injEq] at H
        obtain ⟨rfl, rfl, rfl, rfl⟩ := H
        exact RetP.mk id ⟨rfl, rfl, rfl, rfl, trivial⟩ trivial rfl
       ·rw [if_neg hc7] at H
        refine AG.no rfl (beq_eq_false_iff_ne.2 hc7) ?_
        refine AG.seq ?_
        refine AG.region HM ?_
        refine a_bin (u := .bool (a0.toList == (⟨#[111, 97, 107]⟩ : ByteArray).toList)) ?_
        refine a_move (v := vB _) ?_
        refine RA.nil nofun ?_
        by_cases hc8 : a0.toList = (⟨#[111, 97, 107]⟩ : ByteArray).toList
        ·rw [if_pos hc8] at H
         refine AG.yes rfl (beq_iff_eq.2 hc8) ?_
         refine AG.seq ?_
         refine AG.region HM ?_
         refine a_move (v := vI _) ?_
         refine a_move (v := vI _) ?_
         refine a_move (v := vI _) ?_
         refine a_move (v := vI _) ?_
         refine RA.nil nofun ?_
         refine AG.ret ?_
         simp only [Option.some.injEq, Prod.mk.injEq] at H
         obtain ⟨rfl, rfl, rfl, rfl⟩ := H
         exact RetP.mk id ⟨rfl, rfl, rfl, rfl, trivial⟩ trivial rfl
        ·rw [if_neg hc8] at H
         refine AG.no rfl (beq_eq_false_iff_ne.2 hc8) ?_
         refine AG.seq ?_
         refine AG.region HM ?_
         refine a_bin (u := .bool (a0.toList == (⟨#[114, 111, 115, 101, 119, 111, 111, 100]⟩ : ByteArray).toList)) ?_
         refine a_move (v := vB _) ?_
         refine RA.nil nofun ?_
         by_cases hc9 : a0.toList = (⟨#[114, 111, 115, 101, 119, 111, 111, 100]⟩ : ByteArray).toList
         ·rw [if_pos hc9] at H
          refine AG.yes rfl (beq_iff_eq.2 hc9) ?_
          refine AG.seq ?_
          refine AG.region HM ?_
          refine a_move (v := vI _) ?_
          refine a_move (v := vI _) ?_
          refine a_move (v := vI _) ?_
          refine a_move (v := vI _) ?_
          refine RA.nil nofun ?_
          refine AG.ret ?_
          simp only [Option.some.injEq, Prod.mk.injEq] at H
          obtain ⟨rfl, rfl, rfl, rfl⟩ := H
          exact RetP.mk id ⟨rfl, rfl, rfl, rfl, trivial⟩ trivial rfl
         ·rw [if_neg hc9] at H
          refine AG.no rfl (beq_eq_false_iff_ne.2 hc9) ?_
          refine AG.seq ?_
          refine AG.region HM ?_
          refine a_bin (u := .bool (a0.toList == (⟨#[119, 97, 108, 110, 117, 116]⟩ : ByteArray).toList)) ?_
          refine a_move (v := vB _) ?_
          refine RA.nil nofun ?_
          by_cases hc10 : a0.toList = (⟨#[119, 97, 108, 110, 117, 116]⟩ : ByteArray).toList
          ·rw [if_pos hc10] at H
           refine AG.yes rfl (beq_iff_eq.2 hc10) ?_
           refine AG.seq ?_
           refine AG.region HM ?_
           refine a_move (v := vI _) ?_
           refine a_move (v := vI _) ?_
           refine a_move (v := vI _) ?_
           refine a_move (v := vI _) ?_
           refine RA.nil nofun ?_
           refine AG.ret ?_
           simp only [Option.some.injEq, Prod.mk.injEq] at H
           obtain ⟨rfl, rfl, rfl, rfl⟩ := H
           exact RetP.mk id ⟨rfl, rfl, rfl, rfl, trivial⟩ trivial rfl
          ·rw [if_neg hc10] at H
           refine AG.no rfl (beq_eq_false_iff_ne.2 hc10) ?_
           refine AG.skip ?_
           refine AG.seq ?_
           refine AG.region HM ?_
           refine a_move (v := vI _) ?_
           refine a_move (v := vI _) ?_
           refine a_move (v := vI _) ?_
           refine a_move (v := vI _) ?_
           refine RA.nil nofun ?_
           refine AG.ret ?_
           simp only [Option.some.injEq, Prod.mk.injEq] at H
           obtain ⟨rfl, rfl, rfl, rfl⟩ := H
           exact RetP.mk id ⟨rfl, rfl, rfl, rfl, trivial⟩ trivial rfl
/-! ### impl_speciesShade: function 46 -/
def impl_speciesShade.f (a0 : ByteArray) : Option (Int × Bool) := (impl_SpeciesData.f a0).bind fun bt1 => (some (bt1.1, (bt1.2.2.2 == 0)))
set_option maxRecDepth 100000 in
theorem impl_speciesShade.ok {a0 : ByteArray} {r0 : Int} {r1 : Bool} (H : impl_speciesShade.f a0 = some (r0, r1)) : OkF Tryd.prog 46 [vS a0] [] (.tup [.c (.d (.v (.int .i64 r0))), .c (.d (.v (.bool r1)))]) [] := by
 unfold impl_speciesShade.f at H
 refine OkF.of (N := 18) (rs := [2, 3]) (avs := [.c (.d (.v (.int .i64 r0))), .c (.d (.v (.bool r1)))]) Tryd.func46 rfl rfl (fun _ _ => results_tmp2 rfl _ _ _) (by decide) rfl rfl rfl rfl (fun w0 S => ?_)
 refine AG.seq ?_
 refine AG.region HM ?_
 refine a_move (v := vI _) ?_
 refine a_move (v := vB _) ?_
 refine RA.nil nofun ?_
 refine AG.seq ?_
 refine AG.region HM ?_
 refine a_move (v := vS _) ?_
 obtain ⟨⟨t1, t2, t3, t4⟩, e5, H⟩ := bindO H
 refine a_call (v := .tup [.c (.d (.v (.int .i64 t1))), .c (.d (.v (.int .i64 t2))), .c (.d (.v (.int .i64 t3))), .c (.d (.v (.int .i64 t4)))]) (nk := []) (L := []) ?_ rfl (impl_SpeciesData.ok e5) id (qd qn) trivial trivial trivial rfl
 refine a_move (v := .tup [_, _, _, _]) ?_
 refine a_ext (v := vI _) ?_
 refine a_ext (v := vI _) ?_
 refine a_ext (v := vI _) ?_
 refine a_ext (v := vI _) ?_
 refine a_move (v := vI _) ?_
 refine a_move (v := vI _) ?_
 refine a_move (v := vI _) ?_
 refine a_move (v := vI _) ?_
 refine RA.nil nofun ?_
 refine AG.seq ?_
 refine AG.region HM ?_
 refine a_move (v := vI _) ?_
 refine a_move (v := vI _) ?_
 refine a_int (u := .bool ((t4 == 0))) ?_
 refine a_move (v := vI _) ?_
 refine a_move (v := vB _) ?_
 refine RA.nil nofun ?_
 refine AG.ret ?_
 simp only [Option.some.injEq, Prod.mk.injEq] at H
 obtain ⟨rfl, rfl⟩ := H
 exact RetP.mk id ⟨rfl, rfl, trivial⟩ trivial rfl
/-! ### impl_ValidVeneer: function 31 -/
def impl_ValidVeneer.f (a0_0 : ByteArray) (a0_1 : Int) (a0_2 : Int) : Option (Bool) := (impl_speciesShade.f a0_0).bind fun bt1 => (if bt1.2 = true then ((impl_within.f a0_1 0 100).bind fun t5 => (if t5 = true then ((impl_within.f (wrap64 (a0_1 - bt1.1)) (-15) 15).bind fun t8 => (if t8 = true then ((impl_within.f a0_2 0 179).bind fun t11 => (some t11)) else (some false))) else (some false))) else (some false))
set_option maxRecDepth 100000 in
theorem impl_ValidVeneer.ok {a0_0 : ByteArray} {a0_1 : Int} {a0_2 : Int} {r : Bool} (H : impl_ValidVeneer.f a0_0 a0_1 a0_2 = some r) : OkF Tryd.prog 31 [.agg [.d (.v (.string a0_0)), .d (.v (.int .i64 a0_1)), .d (.v (.int .i64 a0_2))]] [] (.c (.d (.v (.bool r)))) [] := by
 unfold impl_ValidVeneer.f at H
 refine OkF.of (N := 29) (rs := [2]) (avs := [.c (.d (.v (.bool r)))]) Tryd.func31 rfl rfl (fun _ _ => results_tmp rfl _ _ _) (by decide) rfl rfl rfl rfl (fun w0 S => ?_)
 refine AG.seq ?_
 refine AG.region HM ?_
 refine a_box 200 ?_
 refine a_move (v := vB _) ?_
 refine RA.nil nofun ?_
 refine AG.seq ?_
 refine AG.region HM ?_
 refine a_faB (q := 0) ?_ D36_0
 refine a_ldB (v := vS _) ?_ T9
 obtain ⟨⟨t1, t2⟩, e3, H⟩ := bindO H
 refine a_call (v := .tup [.c (.d (.v (.int .i64 t1))), .c (.d (.v (.bool t2)))]) (nk := []) (L := []) ?_ rfl (impl_speciesShade.ok e3) id (qd qn) trivial trivial trivial rfl
 refine a_move (v := .tup [_, _]) ?_
 refine a_ext (v := vI _) ?_
 refine a_ext (v := vB _) ?_
 refine a_move (v := vI _) ?_
 refine a_move (v := vB _) ?_
 refine RA.nil nofun ?_
 refine AG.seq ?_
 refine AG.region HM ?_
 refine a_move (v := vB _) ?_
 refine a_move (v := vB _) ?_
 by_cases hc4 : t2 = true
 ·rw [if_pos hc4] at H
  refine a_faB (q := 1) ?_ D36_1 (hg := Gs.yes rfl rfl rfl hc4)
  refine a_ldB (v := vI _) ?_ T2 (hg := Gs.yes rfl rfl rfl hc4)
  obtain ⟨t5, e6, H⟩ := bindO H
  refine a_call (v := vB t5) (nk := []) (L := []) ?_ rfl (impl_within.ok e6) id (qd (qd (qd qn))) trivial trivial trivial rfl (hg := Gs.yes rfl rfl rfl hc4)
  refine a_pick (b := true) (v := vB _) ?_ hc4
  refine a_move (v := vB _) ?_
  by_cases hc7 : t5 = true
  ·rw [if_pos hc7] at H
   refine a_faB (q := 1) ?_ D36_1 (hg := Gs.yes rfl rfl rfl hc7)
   refine a_ldB (v := vI _) ?_ T2 (hg := Gs.yes rfl rfl rfl hc7)
   refine a_move (v := vI _) ?_ (hg := Gs.yes rfl rfl rfl hc7)
   refine a_int (u := .int .i64 (wrap64 (a0_1 - t1))) ?_ (hg := Gs.yes rfl rfl rfl hc7)
   obtain ⟨t8, e9, H⟩ := bindO H
   refine a_call (v := vB t8) (nk := []) (L := []) ?_ rfl (impl_within.ok e9) id (qd (qd (qd qn))) trivial trivial trivial rfl (hg := Gs.yes rfl rfl rfl hc7)
   refine a_pick (b := true) (v := vB _) ?_ hc7
   refine a_move (v := vB _) ?_
   by_cases hc10 : t8 = true
   ·rw [if_pos hc10] at H
    refine a_faB (q := 2) ?_ D36_2 (hg := Gs.yes rfl rfl rfl hc10)
    refine a_ldB (v := vI _) ?_ T2 (hg := Gs.yes rfl rfl rfl hc10)
    obtain ⟨t11, e12, H⟩ := bindO H
    refine a_call (v := vB t11) (nk := []) (L := []) ?_ rfl (impl_within.ok e12) id (qd (qd (qd qn))) trivial trivial trivial rfl (hg := Gs.yes rfl rfl rfl hc10)
    refine a_pick (b := true) (v := vB _) ?_ hc10
    refine a_move (v := vB _) ?_
    refine RA.nil nofun ?_
    refine AG.ret ?_
    obtain rfl := Option.some.inj H
    exact RetP.mk id ⟨rfl, trivial⟩ trivial rfl
   ·rw [if_neg hc10] at H
    refine RA.skip rfl rfl rfl rfl rfl (Bool.eq_false_iff.2 hc10) (by decide) ?_
    refine RA.skip rfl rfl rfl rfl rfl (Bool.eq_false_iff.2 hc10) (by decide) ?_
    refine RA.skip rfl rfl rfl rfl rfl (Bool.eq_false_iff.2 hc10) (by decide) ?_
    refine a_pick (b := false) (v := vB _) ?_ (Bool.eq_false_iff.2 hc10)
    refine a_move (v := vB _) ?_
    refine RA.nil nofun ?_
    refine AG.ret ?_
    obtain rfl := Option.some.inj H
    exact RetP.mk id ⟨rfl, trivial⟩ trivial rfl
  ·rw [if_neg hc7] at H
   refine RA.skip rfl rfl rfl rfl rfl (Bool.eq_false_iff.2 hc7) (by decide) ?_
   refine RA.skip rfl rfl rfl rfl rfl (Bool.eq_false_iff.2 hc7) (by decide) ?_
   refine RA.skip rfl rfl rfl rfl rfl (Bool.eq_false_iff.2 hc7) (by decide) ?_
   refine RA.skip rfl rfl rfl rfl rfl (Bool.eq_false_iff.2 hc7) (by decide) ?_
   refine RA.skip rfl rfl rfl rfl rfl (Bool.eq_false_iff.2 hc7) (by decide) ?_
   refine a_pick (b := false) (v := vB _) ?_ (Bool.eq_false_iff.2 hc7)
   refine a_move (v := vB _) ?_
   refine RA.skip rfl rfl rfl rfl rfl rfl (by decide) ?_
   refine RA.skip rfl rfl rfl rfl rfl rfl (by decide) ?_
   refine RA.skip rfl rfl rfl rfl rfl rfl (by decide) ?_
   refine a_pick (b := false) (v := vB _) ?_ rfl
   refine a_move (v := vB _) ?_
   refine RA.nil nofun ?_
   refine AG.ret ?_
   obtain rfl := Option.some.inj H
   exact RetP.mk id ⟨rfl, trivial⟩ trivial rfl
 ·rw [if_neg hc4] at H
  refine RA.skip rfl rfl rfl rfl rfl (Bool.eq_false_iff.2 hc4) (by decide) ?_
  refine RA.skip rfl rfl rfl rfl rfl (Bool.eq_false_iff.2 hc4) (by decide) ?_
  refine RA.skip rfl rfl rfl rfl rfl (Bool.eq_false_iff.2 hc4) (by decide) ?_
  refine a_pick (b := false) (v := vB _) ?_ (Bool.eq_false_iff.2 hc4)
  refine a_move (v := vB _) ?_
  refine RA.skip rfl rfl rfl rfl rfl rfl (by decide) ?_
  refine RA.skip rfl rfl rfl rfl rfl rfl (by decide) ?_
  refine RA.skip rfl rfl rfl rfl rfl rfl (by decide) ?_
  refine RA.skip rfl rfl rfl rfl rfl rfl (by decide) ?_
  refine RA.skip rfl rfl rfl rfl rfl rfl (by decide) ?_
  refine a_pick (b := false) (v := vB _) ?_ rfl
  refine a_move (v := vB _) ?_
  refine RA.skip rfl rfl rfl rfl rfl rfl (by decide) ?_
  refine RA.skip rfl rfl rfl rfl rfl rfl (by decide) ?_
  refine RA.skip rfl rfl rfl rfl rfl rfl (by decide) ?_
  refine a_pick (b := false) (v := vB _) ?_ rfl
  refine a_move (v := vB _) ?_
  refine RA.nil nofun ?_
  refine AG.ret ?_
  obtain rfl := Option.some.inj H
  exact RetP.mk id ⟨rfl, trivial⟩ trivial rfl
/-! ### impl_ReadVeneer: function 15 -/
def impl_ReadVeneer.f (k : Nat) (a0 : ByteArray) : Option (ByteArray × Int × Int × Bool) := (strings_Split.f a0 (⟨#[32]⟩ : ByteArray)).bind fun t1 => (if (t1.length : Int) = 3 then (if 1 < (t1.length : Int) then ((impl_ReadDecimal.f k (rd9 t1 1)).bind fun bt5 => (if 2 < (t1.length : Int) then ((impl_ReadDecimal.f k (rd9 t1 2)).bind fun bt9 => (if 0 < (t1.length : Int) then (if bt5.2 = true then (if bt9.2 = true then ((impl_ValidVeneer.f (rd9 t1 0) bt5.1 bt9.1).bind fun t15 => (if t15 = true then (some ((rd9 t1 0), bt5.1, bt9.1, true)) else (some ((⟨#[]⟩ : ByteArray), 0, 0, false)))) else (some ((⟨#[]⟩ : ByteArray), 0, 0, false))) else (some ((⟨#[]⟩ : ByteArray), 0, 0, false))) else (none))) else (none))) else (none)) else (some ((⟨#[]⟩ : ByteArray), 0, 0, false)))
set_option maxRecDepth 100000 in
theorem impl_ReadVeneer.ok {k : Nat} {a0 : ByteArray} {r0 : ByteArray} {r1 : Int} {r2 : Int} {r3 : Bool} (H : impl_ReadVeneer.f k a0 = some (r0, r1, r2, r3)) : OkW Tryd.prog V 15 [vS a0] (.tup [.agg [.d (.v (.string r0)), .d (.v (.int .i64 r1)), .d (.v (.int .i64 r2))], .c (.d (.v (.bool r3)))]) [] := by
 unfold impl_ReadVeneer.f at H
 refine OkW.ofC (N := 46) (rs := [2, 3]) (avs := [.agg [.d (.v (.string r0)), .d (.v (.int .i64 r1)), .d (.v (.int .i64 r2))], .c (.d (.v (.bool r3)))]) [(2, 36)] Tryd.func15 rfl rfl (rc_ct rfl rfl) (by decide) rfl (by decide) rfl rfl rfl rfl (fun w0 S hV_ hS_ => ?_)
 refine AG.seq ?_
 refine AG.region HM ?_
 refine a_alloc (cs := [_, _, _]) 200 ?_ T36
 refine a_move (v := vB _) ?_
 refine RA.nil nofun ?_
 refine AG.seq ?_
 refine AG.region HM ?_
 refine a_move (v := vS _) ?_
 obtain ⟨t1, e2, H⟩ := bindO H
 refine a_callG (v := .c (.own 201 t1.length)) (nk := [(201, .row 9 (t1.map c9))]) (L := []) ?_ rfl (fun w_ hf_ => V_fr hV_ hS_ hf_) (strings_Split.ok e2) (fun κ => cond (Nat.beq κ 201) 100 (κ)) (qd (qd qn)) trivial ⟨rfl, trivial⟩ ⟨rfl, trivial⟩ rfl
 refine a_move (v := .c (.own _ _)) ?_
 refine RA.nil nofun ?_
 refine AG.seq ?_
 refine AG.seq ?_
 refine AG.region HM ?_
 refine a_move (v := .c (.own _ _)) ?_
 refine a_lenO ?_ Tryd.underlying31
 refine a_int (u := .bool (((t1.length : Int) != 3))) ?_
 refine RA.nil nofun ?_
 by_cases hc3 : (t1.length : Int) = 3
 ·rw [if_pos hc3] at H
  refine AG.no rfl (bne_eq_false_iff_eq.2 hc3) ?_
  refine AG.skip ?_
  refine AG.seq ?_
  refine AG.region HM ?_
  refine a_move (v := .c (.own _ _)) ?_
  by_cases hc4 : 1 < (t1.length : Int)
  ·rw [if_pos hc4] at H
   refine a_ixO ?_ ⟨(by decide), hc4⟩ T9 Tryd.underlying31
   refine a_ldE (v := vS _) ?_ (G9 (by decide) hc4) T9
   obtain ⟨⟨t5, t6⟩, e7, H⟩ := bindO H
   refine a_callG (v := .tup [.c (.d (.v (.int .i64 t5))), .c (.d (.v (.bool t6)))]) (nk := []) (L := []) ?_ rfl (fun w_ hf_ => V_fr hV_ hS_ hf_) (impl_ReadDecimal.ok e7) id (qd qn) trivial trivial trivial rfl
   refine a_move (v := .tup [_, _]) ?_
   refine a_ext (v := vI _) ?_
   refine a_ext (v := vB _) ?_
   refine a_move (v := vI _) ?_
   refine a_move (v := vB _) ?_
   refine RA.nil nofun ?_
   refine AG.seq ?_
   refine AG.region HM ?_
   refine a_move (v := .c (.own _ _)) ?_
   by_cases hc8 : 2 < (t1.length : Int)
   ·rw [if_pos hc8] at H
    refine a_ixO ?_ ⟨(by decide), hc8⟩ T9 Tryd.underlying31
    refine a_ldE (v := vS _) ?_ (G9 (by decide) hc8) T9
    obtain ⟨⟨t9, t10⟩, e11, H⟩ := bindO H
    refine a_callG (v := .tup [.c (.d (.v (.int .i64 t9))), .c (.d (.v (.bool t10)))]) (nk := []) (L := []) ?_ rfl (fun w_ hf_ => V_fr hV_ hS_ hf_) (impl_ReadDecimal.ok e11) id (qd qn) trivial trivial trivial rfl
    refine a_move (v := .tup [_, _]) ?_
    refine a_ext (v := vI _) ?_
    refine a_ext (v := vB _) ?_
    refine a_move (v := vI _) ?_
    refine a_move (v := vB _) ?_
    refine RA.nil nofun ?_
    refine AG.seq ?_
    refine AG.seq ?_
    refine AG.region HM ?_
    refine a_move (v := .c (.own _ _)) ?_
    by_cases hc12 : 0 < (t1.length : Int)
    ·rw [if_pos hc12] at H
     refine a_ixO ?_ ⟨(by decide), hc12⟩ T9 Tryd.underlying31
     refine a_ldE (v := vS _) ?_ (G9 (by decide) hc12) T9
     refine a_move (v := vI _) ?_
     refine a_move (v := vI _) ?_
     refine a_build (cs := [_, _, _]) ?_ T36 rfl (hin := I36)
     refine a_alloc (cs := [_, _, _]) 204 ?_ T36
     refine a_stB (cs' := [_, _, _]) ?_ T36
     refine RA.nil nofun ?_
     refine AG.seq ?_
     refine AG.region HM ?_
     refine a_move (v := vB _) ?_
     refine a_move (v := vB _) ?_
     by_cases hc13 : t6 = true
     ·rw [if_pos hc13] at H
      refine a_move (v := vB _) ?_ (hg := Gs.yes rfl rfl rfl hc13)
      refine a_pick (b := true) (v := vB _) ?_ hc13
      refine a_move (v := vB _) ?_
      by_cases hc14 : t10 = true
      ·rw [if_pos hc14] at H
       refine a_ldB (v := .agg [_, _, _]) ?_ T36 (hg := Gs.yes rfl rfl rfl hc14)
       obtain ⟨t15, e16, H⟩ := bindO H
       refine a_call (v := vB t15) (nk := []) (L := []) ?_ rfl (impl_ValidVeneer.ok e16) id (qg qn) trivial trivial trivial rfl (hg := Gs.yes rfl rfl rfl hc14)
       refine a_pick (b := true) (v := vB _) ?_ hc14
       refine RA.nil nofun ?_
       by_cases hc17 : t15 = true
       ·rw [if_pos hc17] at H
        refine AG.yes rfl hc17 ?_
        refine AG.seq ?_
        refine AG.region HM ?_
        refine a_ldB (v := .agg [_, _, _]) ?_ T36
        refine a_stB (cs' := [_, _, _]) ?_ T36
        refine a_move (v := vB _) ?_
        refine RA.nil nofun ?_
        refine AG.ret ?_
        simp only [Option.some.injEq, Prod.mk.injEq] at H
        obtain ⟨rfl, rfl, rfl, rfl⟩ := H
        exact RetL.cell T36 rfl rfl rfl (RetL.nil (RetP.mk id ⟨rfl, rfl, trivial⟩ trivial rfl))
       ·rw [if_neg hc17] at H
        refine AG.no rfl (Bool.eq_false_iff.2 hc17) ?_
        refine AG.skip ?_
        refine AG.seq ?_
        refine AG.region HM ?_
        refine a_build (cs := [_, _, _]) ?_ T36 rfl (hin := I36)
        refine a_stB (cs' := [_, _, _]) ?_ T36
        refine a_move (v := vB _) ?_
        refine RA.nil nofun ?_
        refine AG.ret ?_
        simp only [Option.some.injEq, Prod.mk.injEq] at H
        obtain ⟨rfl, rfl, rfl, rfl⟩ := H
        exact RetL.cell T36 rfl rfl rfl (RetL.nil (RetP.mk id ⟨rfl, rfl, trivial⟩ trivial rfl))
      ·rw [if_neg hc14] at H
       refine RA.skip rfl rfl rfl rfl rfl (Bool.eq_false_iff.2 hc14) (by decide) ?_
       refine RA.skip rfl rfl rfl rfl rfl (Bool.eq_false_iff.2 hc14) (by decide) ?_
       refine a_pick (b := false) (v := vB _) ?_ (Bool.eq_false_iff.2 hc14)
       refine RA.nil nofun ?_
       refine AG.no rfl rfl ?_
       refine AG.skip ?_
       refine AG.seq ?_
       refine AG.region HM ?_
       refine a_build (cs := [_, _, _]) ?_ T36 rfl (hin := I36)
       refine a_stB (cs' := [_, _, _]) ?_ T36
       refine a_move (v := vB _) ?_
       refine RA.nil nofun ?_
       refine AG.ret ?_
       simp only [Option.some.injEq, Prod.mk.injEq] at H
       obtain ⟨rfl, rfl, rfl, rfl⟩ := H
       exact RetL.cell T36 rfl rfl rfl (RetL.nil (RetP.mk id ⟨rfl, rfl, trivial⟩ trivial rfl))
     ·rw [if_neg hc13] at H
      refine RA.skip rfl rfl rfl rfl rfl (Bool.eq_false_iff.2 hc13) (by decide) ?_
      refine a_pick (b := false) (v := vB _) ?_ (Bool.eq_false_iff.2 hc13)
      refine a_move (v := vB _) ?_
      refine RA.skip rfl rfl rfl rfl rfl rfl (by decide) ?_
      refine RA.skip rfl rfl rfl rfl rfl rfl (by decide) ?_
      refine a_pick (b := false) (v := vB _) ?_ rfl
      refine RA.nil nofun ?_
      refine AG.no rfl rfl ?_
      refine AG.skip ?_
      refine AG.seq ?_
      refine AG.region HM ?_
      refine a_build (cs := [_, _, _]) ?_ T36 rfl (hin := I36)
      refine a_stB (cs' := [_, _, _]) ?_ T36
      refine a_move (v := vB _) ?_
      refine RA.nil nofun ?_
      refine AG.ret ?_
      simp only [Option.some.injEq, Prod.mk.injEq] at H
      obtain ⟨rfl, rfl, rfl, rfl⟩ := H
      exact RetL.cell T36 rfl rfl rfl (RetL.nil (RetP.mk id ⟨rfl, rfl, trivial⟩ trivial rfl))
    ·rw [if_neg hc12] at H
     cases H
   ·rw [if_neg hc8] at H
    cases H
  ·rw [if_neg hc4] at H
   cases H
 ·rw [if_neg hc3] at H
  refine AG.yes rfl (bne_iff_ne.2 hc3) ?_
  refine AG.seq ?_
  refine AG.region HM ?_
  refine a_build (cs := [_, _, _]) ?_ T36 rfl (hin := I36)
  refine a_stB (cs' := [_, _, _]) ?_ T36
  refine a_move (v := vB _) ?_
  refine RA.nil nofun ?_
  refine AG.ret ?_
  simp only [Option.some.injEq, Prod.mk.injEq] at H
  obtain ⟨rfl, rfl, rfl, rfl⟩ := H
  exact RetL.cell T36 rfl rfl rfl (RetL.nil (RetP.mk id ⟨rfl, rfl, trivial⟩ trivial rfl))
/-! ### impl_validVeneers_1: function 58 -/
def impl_validVeneers_1.f (a0_0 : ByteArray) (a0_1 : Int) (a0_2 : Int) : Option (Bool) := (impl_ValidVeneer.f a0_0 a0_1 a0_2).bind fun t1 => (some (!t1))
set_option maxRecDepth 100000 in
theorem impl_validVeneers_1.ok {a0_0 : ByteArray} {a0_1 : Int} {a0_2 : Int} {r : Bool} (H : impl_validVeneers_1.f a0_0 a0_1 a0_2 = some r) : OkF Tryd.prog 58 [.agg [.d (.v (.string a0_0)), .d (.v (.int .i64 a0_1)), .d (.v (.int .i64 a0_2))]] [] (.c (.d (.v (.bool r)))) [] := by
 unfold impl_validVeneers_1.f at H
 refine OkF.of (N := 6) (rs := [2]) (avs := [.c (.d (.v (.bool r)))]) Tryd.func58 rfl rfl (fun _ _ => results_tmp rfl _ _ _) (by decide) rfl rfl rfl rfl (fun w0 S => ?_)
 refine AG.seq ?_
 refine AG.region HM ?_
 refine a_box 200 ?_
 refine a_move (v := vB _) ?_
 refine RA.nil nofun ?_
 refine AG.seq ?_
 refine AG.region HM ?_
 refine a_ldB (v := .agg [_, _, _]) ?_ T36
 obtain ⟨t1, e2, H⟩ := bindO H
 refine a_call (v := vB t1) (nk := []) (L := []) ?_ rfl (impl_ValidVeneer.ok e2) id (qg qn) trivial trivial trivial rfl
 refine a_un (u := .bool (!t1)) ?_
 refine a_move (v := vB _) ?_
 refine RA.nil nofun ?_
 refine AG.ret ?_
 obtain rfl := Option.some.inj H
 exact RetP.mk id ⟨rfl, trivial⟩ trivial rfl
/-! ### slices_IndexFunc_impl_Veneer__impl_validVeneers_1: function 65 -/
def slices_IndexFunc_impl_Veneer__impl_validVeneers_1.l0 : Nat → List S35 → Int → Int → Option (Int)
 | 0, _, _, _ => none
 | k + 1, x0, x7, x8 => if x8 < x7 then (if 0 ≤ x8 then (if x8 < (x0.length : Int) then ((impl_validVeneers_1.f ((rd35 x0 x8).f0) ((rd35 x0 x8).f1) ((rd35 x0 x8).f2)).bind fun t4 => (if t4 = true then (some x8) else (slices_IndexFunc_impl_Veneer__impl_validVeneers_1.l0 k x0 x7 (wrap64 (x8 + 1))))) else (none)) else (none)) else (some (-1))
def slices_IndexFunc_impl_Veneer__impl_validVeneers_1.f (k : Nat) (l0 : List S35) : Option (Int) := slices_IndexFunc_impl_Veneer__impl_validVeneers_1.l0 k l0 (l0.length : Int) 0
set_option maxRecDepth 100000 in
theorem slices_IndexFunc_impl_Veneer__impl_validVeneers_1.ok {k : Nat} {l0 : List S35} {r : Int} (H : slices_IndexFunc_impl_Veneer__impl_validVeneers_1.f k l0 = some r) : OkF Tryd.prog 65 [vR 36 (l0.map c35), .c (.d (.fn 58 []))] [] (.c (.d (.v (.int .i64 r)))) [] := by
 unfold slices_IndexFunc_impl_Veneer__impl_validVeneers_1.f at H
 refine OkF.of (N := 19) (rs := [4]) (avs := [.c (.d (.v (.int .i64 r)))]) Tryd.func65 rfl rfl (fun _ _ => results_tmp rfl _ _ _) (by decide) rfl rfl rfl rfl (fun w0 S => ?_)
 refine AG.seq ?_
 refine AG.region HM ?_
 refine a_move (v := vI _) ?_
 refine RA.nil nofun ?_
 refine AG.seq ?_
 refine AG.seq ?_
 refine AG.region HM ?_
 refine a_move (v := vR _ _) ?_
 refine a_lenR ?_ Tryd.underlying22
 refine a_move (v := vI _) ?_
 refine RA.nil nofun ?_
 refine AG.block ?_
 refine AG.loop ?_
 obtain ⟨K0, hK0, gK0⟩ : ∃ K, k ≤ K ∧ K ≤ k := ⟨k, Nat.le_refl k, Nat.le_refl k⟩
 refine AGr.canon id (AGr.loopI (n := k) (fun k s => k ≤ K0 ∧ ∃ (x0 : List S35) (x7 : Int) (x8 : Int), slices_IndexFunc_impl_Veneer__impl_validVeneers_1.l0 k x0 x7 x8 = some r ∧ s = St.of [(0, vR 36 (x0.map c35)), (1, .c (.d (.fn 58 []))), (7, vI x7), (8, vI x8)] []) ⟨hK0, _, _, _, H, rfl⟩ ?_ ?_) ⟨rfl, rfl, rfl, rfl, trivial⟩ trivial rfl
 ·rintro _ ⟨_, _, _, _, H, _⟩
  cases H
 ·clear H hK0
  rintro k ih0 _ ⟨hK0, x0, x7, x8, H, rfl⟩
  unfold slices_IndexFunc_impl_Veneer__impl_validVeneers_1.l0 at H
  refine AG.seq ?_
  refine AG.region HM ?_
  refine a_int (u := .bool (decide (x8 < x7))) ?_
  refine RA.nil nofun ?_
  refine AG.seq ?_
  by_cases hc1 : x8 < x7
  ·rw [if_pos hc1] at H
   refine AG.yes rfl (decide_eq_true hc1) ?_
   refine AG.skip ?_
   refine AG.seq ?_
   refine AG.block ?_
   refine AG.seq ?_
   refine AG.region HM ?_
   refine a_move (v := vI _) ?_
   refine a_move (v := vI _) ?_
   refine RA.nil nofun ?_
   refine AG.seq ?_
   refine AG.region HM ?_
   refine a_move (v := .c (.d (.fn _ _))) ?_
   refine a_move (v := vR _ _) ?_
   refine a_move (v := vI _) ?_
   by_cases hc2 : 0 ≤ x8
   ·rw [if_pos hc2] at H
    by_cases hc3 : x8 < (x0.length : Int)
    ·rw [if_pos hc3] at H
     refine a_ixR (el := c35 (rd35 x0 x8)) ?_ ⟨hc2, hc3⟩ T36 Tryd.underlying22 (hel := R35 hc2 hc3)
     refine a_ldR (v := .agg [_, _, _]) ?_ T36
     obtain ⟨t4, e5, H⟩ := bindO H
     refine a_callV (v := vB t4) (nk := []) (L := []) ?_ rfl (impl_validVeneers_1.ok e5) id (qg qn) trivial trivial trivial rfl
     refine RA.nil nofun ?_
     by_cases hc6 : t4 = true
     ·rw [if_pos hc6] at H
      refine AG.yes rfl hc6 ?_
      refine AG.seq ?_
      refine AG.region HM ?_
      refine a_move (v := vI _) ?_
      refine a_move (v := vI _) ?_
      refine RA.nil nofun ?_
      refine AG.ret ?_
      obtain rfl := Option.some.inj H
      exact RetP.mk id ⟨rfl, trivial⟩ trivial rfl
     ·rw [if_neg hc6] at H
      refine AG.no rfl (Bool.eq_false_iff.2 hc6) ?_
      refine AG.skip ?_
      refine AG.region HM ?_
      refine a_int (u := .int .i64 (wrap64 (x8 + 1))) ?_
      refine a_move (v := vI _) ?_
      refine RA.nil nofun ?_
      exact AGr.canon id (ih0 _ (by omega) _ ⟨by omega, _, _, _, H, rfl⟩) ⟨rfl, rfl, rfl, rfl, trivial⟩ trivial rfl
    ·rw [if_neg hc3] at H
     cases H
   ·rw [if_neg hc2] at H
    cases H
  ·rw [if_neg hc1] at H
   refine AG.no rfl (decide_eq_false hc1) ?_
   refine AG.exit ?_
   refine AG.seq ?_
   refine AG.region HM ?_
   refine a_move (v := vI _) ?_
   refine RA.nil nofun ?_
   refine AG.ret ?_
   obtain rfl := Option.some.inj H
   exact RetP.mk id ⟨rfl, trivial⟩ trivial rfl
/-! ### slices_ContainsFunc_impl_Veneer__impl_validVeneers_1: function 57 -/
def slices_ContainsFunc_impl_Veneer__impl_validVeneers_1.f (k : Nat) (l0 : List S35) : Option (Bool) := (slices_IndexFunc_impl_Veneer__impl_validVeneers_1.f k l0).bind fun t1 => (some (decide (t1 ≥ 0)))
set_option maxRecDepth 100000 in
theorem slices_ContainsFunc_impl_Veneer__impl_validVeneers_1.ok {k : Nat} {l0 : List S35} {r : Bool} (H : slices_ContainsFunc_impl_Veneer__impl_validVeneers_1.f k l0 = some r) : OkF Tryd.prog 57 [vR 36 (l0.map c35), .c (.d (.fn 58 []))] [] (.c (.d (.v (.bool r)))) [] := by
 unfold slices_ContainsFunc_impl_Veneer__impl_validVeneers_1.f at H
 refine OkF.of (N := 9) (rs := [4]) (avs := [.c (.d (.v (.bool r)))]) Tryd.func57 rfl rfl (fun _ _ => results_tmp rfl _ _ _) (by decide) rfl rfl rfl rfl (fun w0 S => ?_)
 refine AG.seq ?_
 refine AG.region HM ?_
 refine a_move (v := vB _) ?_
 refine RA.nil nofun ?_
 refine AG.seq ?_
 refine AG.region HM ?_
 refine a_move (v := vR _ _) ?_
 refine a_move (v := .c (.d (.fn _ _))) ?_
 obtain ⟨t1, e2, H⟩ := bindO H
 refine a_call (v := vI t1) (nk := []) (L := []) ?_ rfl (slices_IndexFunc_impl_Veneer__impl_validVeneers_1.ok e2) id (qd (qd qn)) trivial trivial trivial rfl
 refine a_int (u := .bool (decide (t1 ≥ 0))) ?_
 refine a_move (v := vB _) ?_
 refine RA.nil nofun ?_
 refine AG.ret ?_
 obtain rfl := Option.some.inj H
 exact RetP.mk id ⟨rfl, trivial⟩ trivial rfl
/-! ### impl_validVeneers: function 47 -/
def impl_validVeneers.f (k : Nat) (l0 : List S35) : Option (Bool) := (slices_ContainsFunc_impl_Veneer__impl_validVeneers_1.f k l0).bind fun t1 => (some (!t1))
set_option maxRecDepth 100000 in
theorem impl_validVeneers.ok {k : Nat} {l0 : List S35} {r : Bool} (H : impl_validVeneers.f k l0 = some r) : OkF Tryd.prog 47 [vR 36 (l0.map c35)] [] (.c (.d (.v (.bool r)))) [] := by
 unfold impl_validVeneers.f at H
 refine OkF.of (N := 6) (rs := [2]) (avs := [.c (.d (.v (.bool r)))]) Tryd.func47 rfl rfl (fun _ _ => results_tmp rfl _ _ _) (by decide) rfl rfl rfl rfl (fun w0 S => ?_)
 refine AG.seq ?_
 refine AG.region HM ?_
 refine a_move (v := vB _) ?_
 refine RA.nil nofun ?_
 refine AG.seq ?_
 refine AG.region HM ?_
 refine a_move (v := vR _ _) ?_
 obtain ⟨t1, e2, H⟩ := bindO H
 refine a_call (v := vB t1) (nk := []) (L := []) ?_ rfl (slices_ContainsFunc_impl_Veneer__impl_validVeneers_1.ok e2) id (qd (qd qn)) trivial trivial trivial rfl
 refine a_un (u := .bool (!t1)) ?_
 refine a_move (v := vB _) ?_
 refine RA.nil nofun ?_
 refine AG.ret ?_
 obtain rfl := Option.some.inj H
 exact RetP.mk id ⟨rfl, trivial⟩ trivial rfl
/-! ### impl_validSheets: function 32 -/
def impl_validSheets.f (k : Nat) (l0 : List S35) : Option (Bool) := (impl_within.f (l0.length : Int) 1 8).bind fun t1 => (if t1 = true then ((impl_validVeneers.f k l0).bind fun t4 => (some t4)) else (some false))
set_option maxRecDepth 100000 in
theorem impl_validSheets.ok {k : Nat} {l0 : List S35} {r : Bool} (H : impl_validSheets.f k l0 = some r) : OkF Tryd.prog 32 [vR 36 (l0.map c35)] [] (.c (.d (.v (.bool r)))) [] := by
 unfold impl_validSheets.f at H
 refine OkF.of (N := 10) (rs := [2]) (avs := [.c (.d (.v (.bool r)))]) Tryd.func32 rfl rfl (fun _ _ => results_tmp rfl _ _ _) (by decide) rfl rfl rfl rfl (fun w0 S => ?_)
 refine AG.seq ?_
 refine AG.region HM ?_
 refine a_move (v := vB _) ?_
 refine RA.nil nofun ?_
 refine AG.seq ?_
 refine AG.region HM ?_
 refine a_move (v := vR _ _) ?_
 refine a_lenR ?_ Tryd.underlying22
 obtain ⟨t1, e2, H⟩ := bindO H
 refine a_call (v := vB t1) (nk := []) (L := []) ?_ rfl (impl_within.ok e2) id (qd (qd (qd qn))) trivial trivial trivial rfl
 refine a_move (v := vB _) ?_
 by_cases hc3 : t1 = true
 ·rw [if_pos hc3] at H
  refine a_move (v := vR _ _) ?_ (hg := Gs.yes rfl rfl rfl hc3)
  obtain ⟨t4, e5, H⟩ := bindO H
  refine a_call (v := vB t4) (nk := []) (L := []) ?_ rfl (impl_validVeneers.ok e5) id (qd qn) trivial trivial trivial rfl (hg := Gs.yes rfl rfl rfl hc3)
  refine a_pick (b := true) (v := vB _) ?_ hc3
  refine a_move (v := vB _) ?_
  refine RA.nil nofun ?_
  refine AG.ret ?_
  obtain rfl := Option.some.inj H
  exact RetP.mk id ⟨rfl, trivial⟩ trivial rfl
 ·rw [if_neg hc3] at H
  refine RA.skip rfl rfl rfl rfl rfl (Bool.eq_false_iff.2 hc3) (by decide) ?_
  refine RA.skip rfl rfl rfl rfl rfl (Bool.eq_false_iff.2 hc3) (by decide) ?_
  refine a_pick (b := false) (v := vB _) ?_ (Bool.eq_false_iff.2 hc3)
  refine a_move (v := vB _) ?_
  refine RA.nil nofun ?_
  refine AG.ret ?_
  obtain rfl := Option.some.inj H
  exact RetP.mk id ⟨rfl, trivial⟩ trivial rfl
/-! ### impl_ValidPacket_1: function 34 -/
def impl_ValidPacket_1.f (a0 : Int) (v_0_0 : List S35) (v_0_1 : List Int) : Option (Bool) := (impl_within.f a0 0 (wrap64 ((v_0_0.length : Int) - 1))).bind fun t1 => (some (!t1))
set_option maxRecDepth 100000 in
theorem impl_ValidPacket_1.ok {a0 : Int} {v_0_0 : List S35} {v_0_1 : List Int} {r : Bool} (H : impl_ValidPacket_1.f a0 v_0_0 v_0_1 = some r) : OkF Tryd.prog 34 [vI a0, .c (.d (.ro [.row 36 (v_0_0.map c35), .row 2 (v_0_1.map c2)]))] [] (.c (.d (.v (.bool r)))) [] := by
 unfold impl_ValidPacket_1.f at H
 refine OkF.of (N := 11) (rs := [3]) (avs := [.c (.d (.v (.bool r)))]) Tryd.func34 rfl rfl (fun _ _ => results_tmp rfl _ _ _) (by decide) rfl rfl rfl rfl (fun w0 S => ?_)
 refine AG.seq ?_
 refine AG.region HM ?_
 refine a_move (v := vB _) ?_
 refine RA.nil nofun ?_
 refine AG.seq ?_
 refine AG.region HM ?_
 refine a_move (v := vI _) ?_
 refine a_faR (cells' := [_, _]) ?_ D25_0
 refine a_ldR (v := vR _ _) ?_ T22
 refine a_lenR ?_ Tryd.underlying22
 refine a_int (u := .int .i64 (wrap64 ((v_0_0.length : Int) - 1))) ?_
 obtain ⟨t1, e2, H⟩ := bindO H
 refine a_call (v := vB t1) (nk := []) (L := []) ?_ rfl (impl_within.ok e2) id (qd (qd (qd qn))) trivial trivial trivial rfl
 refine a_un (u := .bool (!t1)) ?_
 refine a_move (v := vB _) ?_
 refine RA.nil nofun ?_
 refine AG.ret ?_
 obtain rfl := Option.some.inj H
 exact RetP.mk id ⟨rfl, trivial⟩ trivial rfl
/-! ### slices_IndexFunc_int64_int64__impl_ValidPacket_1: function 48 -/
def slices_IndexFunc_int64_int64__impl_ValidPacket_1.l0 : Nat → List Int → List S35 → List Int → Int → Int → Option (Int)
 | 0, _, _, _, _, _ => none
 | k + 1, x0, x1_0_0, x1_0_1, x7, x8 => if x8 < x7 then (if 0 ≤ x8 then (if x8 < (x0.length : Int) then ((impl_ValidPacket_1.f (rd2 x0 x8) x1_0_0 x1_0_1).bind fun t4 => (if t4 = true then (some x8) else (slices_IndexFunc_int64_int64__impl_ValidPacket_1.l0 k x0 x1_0_0 x1_0_1 x7 (wrap64 (x8 + 1))))) else (none)) else (none)) else (some (-1))
def slices_IndexFunc_int64_int64__impl_ValidPacket_1.f (k : Nat) (l0 : List Int) (v1_0_0 : List S35) (v1_0_1 : List Int) : Option (Int) := slices_IndexFunc_int64_int64__impl_ValidPacket_1.l0 k l0 v1_0_0 v1_0_1 (l0.length : Int) 0
set_option maxRecDepth 100000 in
theorem slices_IndexFunc_int64_int64__impl_ValidPacket_1.ok {k : Nat} {l0 : List Int} {v1_0_0 : List S35} {v1_0_1 : List Int} {r : Int} (H : slices_IndexFunc_int64_int64__impl_ValidPacket_1.f k l0 v1_0_0 v1_0_1 = some r) : OkF Tryd.prog 48 [vR 2 (l0.map c2), .c (.d (.fn 34 [.ro [.row 36 (v1_0_0.map c35), .row 2 (v1_0_1.map c2)]]))] [] (.c (.d (.v (.int .i64 r)))) [] := by
 unfold slices_IndexFunc_int64_int64__impl_ValidPacket_1.f at H
 refine OkF.of (N := 19) (rs := [4]) (avs := [.c (.d (.v (.int .i64 r)))]) Tryd.func48 rfl rfl (fun _ _ => results_tmp rfl _ _ _) (by decide) rfl rfl rfl rfl (fun w0 S => ?_)
 refine AG.seq ?_
 refine AG.region HM ?_
 refine a_move (v := vI _) ?_
 refine RA.nil nofun ?_
 refine AG.seq ?_
 refine AG.seq ?_
 refine AG.region HM ?_
 refine a_move (v := vR _ _) ?_
 refine a_lenR ?_ Tryd.underlying23
 refine a_move (v := vI _) ?_
 refine RA.nil nofun ?_
 refine AG.block ?_
 refine AG.loop ?_
 obtain ⟨K0, hK0, gK0⟩ : ∃ K, k ≤ K ∧ K ≤ k := ⟨k, Nat.le_refl k, Nat.le_refl k⟩
 refine AGr.canon id (AGr.loopI (n := k) (fun k s => k ≤ K0 ∧ ∃ (x0 : List Int) (x1_0_0 : List S35) (x1_0_1 : List Int) (x7 : Int) (x8 : Int), slices_IndexFunc_int64_int64__impl_ValidPacket_1.l0 k x0 x1_0_0 x1_0_1 x7 x8 = some r ∧ s = St.of [(0, vR 2 (x0.map c2)), (1, .c (.d (.fn 34 [.ro [.row 36 (x1_0_0.map c35), .row 2 (x1_0_1.map c2)]]))), (7, vI x7), (8, vI x8)] []) ⟨hK0, _, _, _, _, _, H, rfl⟩ ?_ ?_) ⟨rfl, rfl, rfl, rfl, trivial⟩ trivial rfl
 ·rintro _ ⟨_, _, _, _, _, _, H, _⟩
  cases H
 ·clear H hK0
  rintro k ih0 _ ⟨hK0, x0, x1_0_0, x1_0_1, x7, x8, H, rfl⟩
  unfold slices_IndexFunc_int64_int64__impl_ValidPacket_1.l0 at H
  refine AG.seq ?_
  refine AG.region HM ?_
  refine a_int (u := .bool (decide (x8 < x7))) ?_
  refine RA.nil nofun ?_
  refine AG.seq ?_
  by_cases hc1 : x8 < x7
  ·rw [if_pos hc1] at H
   refine AG.yes rfl (decide_eq_true hc1) ?_
   refine AG.skip ?_
   refine AG.seq ?_
   refine AG.block ?_
   refine AG.seq ?_
   refine AG.region HM ?_
   refine a_move (v := vI _) ?_
   refine a_move (v := vI _) ?_
   refine RA.nil nofun ?_
   refine AG.seq ?_
   refine AG.region HM ?_
   refine a_move (v := .c (.d (.fn _ _))) ?_
   refine a_move (v := vR _ _) ?_
   refine a_move (v := vI _) ?_
   by_cases hc2 : 0 ≤ x8
   ·rw [if_pos hc2] at H
    by_cases hc3 : x8 < (x0.length : Int)
    ·rw [if_pos hc3] at H
     refine a_ixR (el := c2 (rd2 x0 x8)) ?_ ⟨hc2, hc3⟩ T2 Tryd.underlying23 (hel := R2 hc2 hc3)
     refine a_ldR (v := vI _) ?_ T2
     obtain ⟨t4, e5, H⟩ := bindO H
     refine a_callW (v := vB t4) (nk := []) (L := []) ?_ rfl rfl (impl_ValidPacket_1.ok e5) id (qd qn) rfl trivial trivial trivial rfl
     refine RA.nil nofun ?_
     by_cases hc6 : t4 = true
     ·rw [if_pos hc6] at H
      refine AG.yes rfl hc6 ?_
      refine AG.seq ?_
      refine AG.region HM ?_
      refine a_move (v := vI _) ?_
      refine a_move (v := vI _) ?_
      refine RA.nil nofun ?_
      refine AG.ret ?_
      obtain rfl := Option.some.inj H
      exact RetP.mk id ⟨rfl, trivial⟩ trivial rfl
     ·rw [if_neg hc6] at H
      refine AG.no rfl (Bool.eq_false_iff.2 hc6) ?_
      refine AG.skip ?_
      refine AG.region HM ?_
      refine a_int (u := .int .i64 (wrap64 (x8 + 1))) ?_
      refine a_move (v := vI _) ?_
      refine RA.nil nofun ?_
      exact AGr.canon id (ih0 _ (by omega) _ ⟨by omega, _, _, _, _, _, H, rfl⟩) ⟨rfl, rfl, rfl, rfl, trivial⟩ trivial rfl
    ·rw [if_neg hc3] at H
     cases H
   ·rw [if_neg hc2] at H
    cases H
  ·rw [if_neg hc1] at H
   refine AG.no rfl (decide_eq_false hc1) ?_
   refine AG.exit ?_
   refine AG.seq ?_
   refine AG.region HM ?_
   refine a_move (v := vI _) ?_
   refine RA.nil nofun ?_
   refine AG.ret ?_
   obtain rfl := Option.some.inj H
   exact RetP.mk id ⟨rfl, trivial⟩ trivial rfl
/-! ### slices_ContainsFunc_int64_int64__impl_ValidPacket_1: function 33 -/
def slices_ContainsFunc_int64_int64__impl_ValidPacket_1.f (k : Nat) (l0 : List Int) (v1_0_0 : List S35) (v1_0_1 : List Int) : Option (Bool) := (slices_IndexFunc_int64_int64__impl_ValidPacket_1.f k l0 v1_0_0 v1_0_1).bind fun t1 => (some (decide (t1 ≥ 0)))
set_option maxRecDepth 100000 in
theorem slices_ContainsFunc_int64_int64__impl_ValidPacket_1.ok {k : Nat} {l0 : List Int} {v1_0_0 : List S35} {v1_0_1 : List Int} {r : Bool} (H : slices_ContainsFunc_int64_int64__impl_ValidPacket_1.f k l0 v1_0_0 v1_0_1 = some r) : OkF Tryd.prog 33 [vR 2 (l0.map c2), .c (.d (.fn 34 [.ro [.row 36 (v1_0_0.map c35), .row 2 (v1_0_1.map c2)]]))] [] (.c (.d (.v (.bool r)))) [] := by
 unfold slices_ContainsFunc_int64_int64__impl_ValidPacket_1.f at H
 refine OkF.of (N := 9) (rs := [4]) (avs := [.c (.d (.v (.bool r)))]) Tryd.func33 rfl rfl (fun _ _ => results_tmp rfl _ _ _) (by decide) rfl rfl rfl rfl (fun w0 S => ?_)
 refine AG.seq ?_
 refine AG.region HM ?_
 refine a_move (v := vB _) ?_
 refine RA.nil nofun ?_
 refine AG.seq ?_
 refine AG.region HM ?_
 refine a_move (v := vR _ _) ?_
 refine a_move (v := .c (.d (.fn _ _))) ?_
 obtain ⟨t1, e2, H⟩ := bindO H
 refine a_call (v := vI t1) (nk := []) (L := []) ?_ rfl (slices_IndexFunc_int64_int64__impl_ValidPacket_1.ok e2) id (qd (qd qn)) trivial trivial trivial rfl
 refine a_int (u := .bool (decide (t1 ≥ 0))) ?_
 refine a_move (v := vB _) ?_
 refine RA.nil nofun ?_
 refine AG.ret ?_
 obtain rfl := Option.some.inj H
 exact RetP.mk id ⟨rfl, trivial⟩ trivial rfl
/-! ### impl_ValidPacket: function 16 -/
def impl_ValidPacket.f (k : Nat) (l0_0 : List S35) (l0_1 : List Int) : Option (Bool) := (impl_validSheets.f k l0_0).bind fun t1 => (if t1 = true then (if (l0_1.length : Int) > 24 then (some false) else ((slices_ContainsFunc_int64_int64__impl_ValidPacket_1.f k l0_1 l0_0 l0_1).bind fun t5 => (some (!t5)))) else (some false))
set_option maxRecDepth 100000 in
theorem impl_ValidPacket.ok {k : Nat} {l0_0 : List S35} {l0_1 : List Int} {r : Bool} (H : impl_ValidPacket.f k l0_0 l0_1 = some r) : OkF Tryd.prog 16 [.agg [.d (.row 36 (l0_0.map c35)), .d (.row 2 (l0_1.map c2))]] [] (.c (.d (.v (.bool r)))) [] := by
 unfold impl_ValidPacket.f at H
 refine OkF.of (N := 18) (rs := [2]) (avs := [.c (.d (.v (.bool r)))]) Tryd.func16 rfl rfl (fun _ _ => results_tmp rfl _ _ _) (by decide) rfl rfl rfl rfl (fun w0 S => ?_)
 refine AG.seq ?_
 refine AG.region HM ?_
 refine a_box 200 ?_
 refine a_move (v := vB _) ?_
 refine RA.nil nofun ?_
 refine AG.seq ?_
 refine AG.seq ?_
 refine AG.region HM ?_
 refine a_faB (q := 0) ?_ D25_0
 refine a_ldB (v := vR _ _) ?_ T22
 obtain ⟨t1, e2, H⟩ := bindO H
 refine a_call (v := vB t1) (nk := []) (L := []) ?_ rfl (impl_validSheets.ok e2) id (qd qn) trivial trivial trivial rfl
 refine a_un (u := .bool (!t1)) ?_
 refine a_move (v := vB _) ?_
 by_cases hc3 : t1 = true
 ·rw [if_pos hc3] at H
  refine a_faB (q := 1) ?_ D25_1 (hg := Gs.yes rfl rfl rfl (congrArg Bool.not hc3))
  refine a_ldB (v := vR _ _) ?_ T23 (hg := Gs.yes rfl rfl rfl (congrArg Bool.not hc3))
  refine a_lenR ?_ Tryd.underlying23 (hg := Gs.yes rfl rfl rfl (congrArg Bool.not hc3))
  refine a_int (u := .bool (decide ((l0_1.length : Int) > 24))) ?_ (hg := Gs.yes rfl rfl rfl (congrArg Bool.not hc3))
  refine a_pick (b := false) (v := vB _) ?_ (congrArg Bool.not hc3)
  refine RA.nil nofun ?_
  by_cases hc4 : (l0_1.length : Int) > 24
  ·rw [if_pos hc4] at H
   refine AG.yes rfl (decide_eq_true hc4) ?_
   refine AG.seq ?_
   refine AG.region HM ?_
   refine a_move (v := vB _) ?_
   refine RA.nil nofun ?_
   refine AG.ret ?_
   obtain rfl := Option.some.inj H
   exact RetP.mk id ⟨rfl, trivial⟩ trivial rfl
  ·rw [if_neg hc4] at H
   refine AG.no rfl (decide_eq_false hc4) ?_
   refine AG.skip ?_
   refine AG.seq ?_
   refine AG.region HM ?_
   refine a_faB (q := 1) ?_ D25_1
   refine a_ldB (v := vR _ _) ?_ T23
   refine a_fnc (ks := [200]) ?_
   obtain ⟨t5, e6, H⟩ := bindO H
   refine a_call (v := vB t5) (nk := []) (L := [(200, _)]) ?_ rfl (slices_ContainsFunc_int64_int64__impl_ValidPacket_1.ok e6) id (qd (qc (rF1 (rP (pD (pD p0)))) qn)) ⟨rfl, trivial⟩ trivial trivial rfl
   refine a_un (u := .bool (!t5)) ?_
   refine a_move (v := vB _) ?_
   refine RA.nil nofun ?_
   refine AG.ret ?_
   obtain rfl := Option.some.inj H
   exact RetP.mk id ⟨rfl, trivial⟩ trivial rfl
 ·rw [if_neg hc3] at H
  refine RA.skip rfl rfl rfl rfl rfl (congrArg Bool.not (Bool.eq_false_iff.2 hc3)) (by decide) ?_
  refine RA.skip rfl rfl rfl rfl rfl (congrArg Bool.not (Bool.eq_false_iff.2 hc3)) (by decide) ?_
  refine RA.skip rfl rfl rfl rfl rfl (congrArg Bool.not (Bool.eq_false_iff.2 hc3)) (by decide) ?_
  refine RA.skip rfl rfl rfl rfl rfl (congrArg Bool.not (Bool.eq_false_iff.2 hc3)) (by decide) ?_
  refine a_pick (b := true) (v := vB _) ?_ (congrArg Bool.not (Bool.eq_false_iff.2 hc3))
  refine RA.nil nofun ?_
  refine AG.yes rfl rfl ?_
  refine AG.seq ?_
  refine AG.region HM ?_
  refine a_move (v := vB _) ?_
  refine RA.nil nofun ?_
  refine AG.ret ?_
  obtain rfl := Option.some.inj H
  exact RetP.mk id ⟨rfl, trivial⟩ trivial rfl
/-! ### impl_ReadPacket: function 5 -/
def impl_ReadPacket.l0 : Nat → List S35 → List Int → List ByteArray → Nat → Nat → Int → Int → Option ((List S35) × (List Int) × Bool)
 | 0, _, _, _, _, _, _, _ => none
 | k + 1, y212_0, y212_1, x27, x27_lo, x27_n, x28, x29 => if x29 < x28 then (if x27_lo + x27_n ≤ x27.length then (if 0 ≤ x29 then (if x29 < (x27_n : Int) then ((impl_ReadVeneer.f k (rd9 x27 ((x27_lo : Int) + x29))).bind fun bt13 => (if bt13.2.2.2 = true then (if y212_0.length < 4398046511104 then (impl_ReadPacket.l0 k (y212_0 ++ [(⟨bt13.1, bt13.2.1, bt13.2.2.1⟩ : S35)]) y212_1 x27 x27_lo x27_n x28 (wrap64 (x29 + 1))) else (none)) else (some (([] : List S35), ([] : List Int), false)))) else (none)) else (none)) else (none)) else ((impl_ValidPacket.f k y212_0 y212_1).bind fun t21 => (if t21 = true then (some (y212_0, y212_1, true)) else (some (([] : List S35), ([] : List Int), false))))
def impl_ReadPacket.f (k : Nat) (a0 : ByteArray) : Option ((List S35) × (List Int) × Bool) := (strings_Split.f a0 (⟨#[47]⟩ : ByteArray)).bind fun t1 => (if 0 < (t1.length : Int) then ((impl_ReadList.f k (rd9 t1 0)).bind fun bt4 => (if bt4.2 = true then (if 1 ≤ (t1.length : Int) then (impl_ReadPacket.l0 k ([] : List S35) bt4.1 t1 1 (t1.length - 1) (((t1.length - 1) : Nat) : Int) 0) else (none)) else (some (([] : List S35), ([] : List Int), false)))) else (none))
set_option maxRecDepth 100000 in
theorem impl_ReadPacket.ok {k : Nat} {a0 : ByteArray} {r0 : List S35} {r1 : List Int} {r2 : Bool} (H : impl_ReadPacket.f k a0 = some (r0, r1, r2)) : OkW Tryd.prog V 5 [vS a0] (.tup [.agg [.own 100 r0.length, .own 101 r1.length], .c (.d (.v (.bool r2)))]) [(100, .row 36 (r0.map c35)), (101, .row 2 (r1.map c2))] := by
 unfold impl_ReadPacket.f at H
 refine OkW.ofC (N := 53) (rs := [2, 3]) (avs := [.agg [.own 100 r0.length, .own 101 r1.length], .c (.d (.v (.bool r2)))]) [(2, 25)] Tryd.func5 rfl rfl (rc_ct rfl rfl) (by decide) rfl (by decide) rfl rfl rfl rfl (fun w0 S hV_ hS_ => ?_)
 refine AG.seq ?_
 refine AG.region HM ?_
 refine a_alloc (cs := [_, _]) 200 ?_ T25
 refine a_move (v := vB _) ?_
 refine RA.nil nofun ?_
 refine AG.nilBox (e := 36) (cs' := [.own 201 0, .d (.v (.slice none 0 0))]) 200 201 0 ?_ T36
 refine AG.nilBox (e := 2) (cs' := [.own 201 0, .own 202 0]) 200 202 1 ?_ T2
 refine AG.seq ?_
 refine AG.region HM ?_
 refine a_move (v := vS _) ?_
 obtain ⟨t1, e2, H⟩ := bindO H
 refine a_callG (v := .c (.own 203 t1.length)) (nk := [(203, .row 9 (t1.map c9))]) (L := []) ?_ rfl (fun w_ hf_ => V_fr hV_ hS_ hf_) (strings_Split.ok e2) (fun κ => cond (Nat.beq κ 203) 100 (κ)) (qd (qd qn)) trivial ⟨rfl, trivial⟩ ⟨rfl, trivial⟩ rfl
 refine a_move (v := .c (.own _ _)) ?_
 refine RA.nil nofun ?_
 refine AG.seq ?_
 refine AG.region HM ?_
 refine a_move (v := .c (.own _ _)) ?_
 by_cases hc3 : 0 < (t1.length : Int)
 ·rw [if_pos hc3] at H
  refine a_ixO ?_ ⟨(by decide), hc3⟩ T9 Tryd.underlying31
  refine a_ldE (v := vS _) ?_ (G9 (by decide) hc3) T9
  obtain ⟨⟨t4, t5⟩, e6, H⟩ := bindO H
  refine a_callG (v := .tup [.c (.own 204 t4.length), .c (.d (.v (.bool t5)))]) (nk := [(204, .row 2 (t4.map c2))]) (L := []) ?_ rfl (fun w_ hf_ => V_fr hV_ hS_ hf_) (impl_ReadList.ok e6) (fun κ => cond (Nat.beq κ 204) 100 (κ)) (qd qn) trivial ⟨rfl, trivial⟩ ⟨rfl, trivial⟩ rfl
  refine a_move (v := .tup [_, _]) ?_
  refine a_ext (v := .c (.own _ _)) ?_
  refine a_ext (v := vB _) ?_
  refine a_move (v := .c (.own _ _)) ?_
  refine a_move (v := vB _) ?_
  refine RA.nil nofun ?_
  refine AG.seq ?_
  refine AG.seq ?_
  refine AG.region HM ?_
  refine a_move (v := vB _) ?_
  refine a_un (u := .bool (!t5)) ?_
  refine RA.nil nofun ?_
  by_cases hc7 : t5 = true
  ·rw [if_pos hc7] at H
   refine AG.no rfl (congrArg Bool.not hc7) ?_
   refine AG.skip ?_
   refine AG.seq ?_
   refine AG.region HM ?_
   refine a_move (v := .c (.own _ _)) ?_
   refine a_build (cs := [_, _]) ?_ T25 rfl (hin := I25)
   refine a_alloc (cs := [_, _]) 207 ?_ T25
   refine a_stB (cs' := [_, _]) ?_ T25
   refine RA.nil nofun ?_
   refine AG.nilBox (e := 36) (cs' := [.own 208 0, .own 204 t4.length]) 207 208 0 ?_ T36
   refine AG.seq ?_
   refine AG.seq ?_
   refine AG.region HM ?_
   refine a_move (v := .c (.own _ _)) ?_
   by_cases hc8 : 1 ≤ (t1.length : Int)
   ·rw [if_pos hc8] at H
    refine a_slO (l := some 1) (h := none) ?_ Tryd.underlying31 T9 ⟨(by decide), hc8, (Int.le_refl _)⟩
    refine a_lenC ?_ Tryd.underlying31
    refine a_move (v := vI _) ?_
    refine RA.nil nofun ?_
    refine AG.block ?_
    refine AG.loop ?_
    obtain ⟨K0, hK0, gK0⟩ : ∃ K, k ≤ K ∧ K ≤ k := ⟨k, Nat.le_refl k, Nat.le_refl k⟩
    refine AGr.canon (fun κ => cond (Nat.beq κ 209) 200 (cond (Nat.beq κ 210) 201 (cond (Nat.beq κ 211) 202 (cond (Nat.beq κ 212) 207 (cond (Nat.beq κ 213) 208 (cond (Nat.beq κ 214) 204 (cond (Nat.beq κ 215) 203 (κ)))))))) (AGr.loopI (n := k) (fun k s => k ≤ K0 ∧ ∃ (y209_0 : List S35) (y209_1 : List Int) (y212_0 : List S35) (y212_1 : List Int) (x27 : List ByteArray) (x27_lo : Nat) (x27_n : Nat) (x28 : Int) (x29 : Int), impl_ReadPacket.l0 k y212_0 y212_1 x27 x27_lo x27_n x28 x29 = some (r0, r1, r2) ∧ s = St.of [(2, .c (.ptr 209 0)), (7, .c (.ptr 212 0)), (27, .c (.cut 215 x27_lo x27_n)), (28, vI x28), (29, vI x29)] [(209, .box 25 [.own 210 y209_0.length, .own 211 y209_1.length]), (210, .row 36 (y209_0.map c35)), (211, .row 2 (y209_1.map c2)), (212, .box 25 [.own 213 y212_0.length, .own 214 y212_1.length]), (213, .row 36 (y212_0.map c35)), (214, .row 2 (y212_1.map c2)), (215, .row 9 (x27.map c9))]) ⟨hK0, ([] : List S35), ([] : List Int), ([] : List S35), _, _, _, _, _, _, H, rfl⟩ ?_ ?_) ⟨rfl, rfl, rfl, rfl, rfl, trivial⟩ ⟨rfl, rfl, rfl, rfl, rfl, rfl, rfl, trivial⟩ rfl
    ·rintro _ ⟨_, _, _, _, _, _, _, _, _, _, H, _⟩
     cases H
    ·clear H hK0
     rintro k ih0 _ ⟨hK0, y209_0, y209_1, y212_0, y212_1, x27, x27_lo, x27_n, x28, x29, H, rfl⟩
     unfold impl_ReadPacket.l0 at H
     refine AG.seq ?_
     refine AG.region HM ?_
     refine a_int (u := .bool (decide (x29 < x28))) ?_
     refine RA.nil nofun ?_
     refine AG.seq ?_
     by_cases hc9 : x29 < x28
     ·rw [if_pos hc9] at H
      refine AG.yes rfl (decide_eq_true hc9) ?_
      refine AG.skip ?_
      refine AG.seq ?_
      refine AG.block ?_
      refine AG.seq ?_
      refine AG.region HM ?_
      by_cases hc10 : x27_lo + x27_n ≤ x27.length
      ·rw [if_pos hc10] at H
       by_cases hc11 : 0 ≤ x29
       ·rw [if_pos hc11] at H
        by_cases hc12 : x29 < (x27_n : Int)
        ·rw [if_pos hc12] at H
         refine a_ixC ?_ ⟨hc11, hc12⟩ T9 Tryd.underlying31
         refine a_ldE (v := vS _) ?_ (G9 (l := x27) (i := ((x27_lo : Int) + x29)) (by omega) (by omega)) T9
         refine a_move (v := vS _) ?_
         refine RA.nil nofun ?_
         refine AG.seq ?_
         refine AG.region HM ?_
         refine a_move (v := vS _) ?_
         obtain ⟨⟨t13, t14, t15, t16⟩, e17, H⟩ := bindO H
         refine a_callG (v := .tup [.agg [.d (.v (.string t13)), .d (.v (.int .i64 t14)), .d (.v (.int .i64 t15))], .c (.d (.v (.bool t16)))]) (nk := []) (L := []) ?_ rfl (fun w_ hf_ => V_fr hV_ hS_ hf_) (impl_ReadVeneer.ok e17) id (qd qn) trivial trivial trivial rfl
         refine a_move (v := .tup [_, _]) ?_
         refine a_ext (v := .agg [_, _, _]) ?_
         refine a_ext (v := vB _) ?_
         refine a_alloc (cs := [_, _, _]) 217 ?_ T36
         refine a_stB (cs' := [_, _, _]) ?_ T36
         refine a_move (v := vB _) ?_
         refine RA.nil nofun ?_
         refine AG.seq ?_
         refine AG.seq ?_
         refine AG.region HM ?_
         refine a_move (v := vB _) ?_
         refine a_un (u := .bool (!t16)) ?_
         refine RA.nil nofun ?_
         by_cases hc18 : t16 = true
         ·rw [if_pos hc18] at H
          refine AG.no rfl (congrArg Bool.not hc18) ?_
          refine AG.skip ?_
          refine AG.region HM ?_
          refine a_faB (q := 0) ?_ D25_0
          refine a_ldB (v := .c (.own _ _)) ?_ T22
          refine a_ldB (v := .agg [_, _, _]) ?_ T36
          refine a_lit (cs := [_, _, _]) (D := []) (css := ([(⟨t13, t14, t15⟩ : S35)]).map c35) 218 ?_ N22 T36
          by_cases hc19 : y212_0.length < 4398046511104
          ·rw [if_pos hc19] at H
           refine a_appO (css' := (y212_0 ++ [(⟨t13, t14, t15⟩ : S35)]).map c35) (n' := (y212_0 ++ [(⟨t13, t14, t15⟩ : S35)]).length) ?_ T36 (by simp [maxLen]; omega) (by simp; omega) Tryd.underlying22 (hc := by exact List.map_append.symm) (hn := by exact List.length_map _)
           refine a_faB (q := 0) ?_ D25_0
           refine a_stB (cs' := [_, _]) ?_ T22
           refine RA.nil nofun ?_
           refine AG.region HM ?_
           refine a_int (u := .int .i64 (wrap64 (x29 + 1))) ?_
           refine a_move (v := vI _) ?_
           refine RA.nil nofun ?_
           exact AGr.canon id (ih0 _ (by omega) _ ⟨by omega, _, _, _, _, _, _, _, _, _, H, rfl⟩) ⟨rfl, rfl, rfl, rfl, rfl, trivial⟩ ⟨rfl, rfl, rfl, rfl, rfl, rfl, rfl, trivial⟩ rfl
          ·rw [if_neg hc19] at H
           cases H
         ·rw [if_neg hc18] at H
          refine AG.yes rfl (congrArg Bool.not (Bool.eq_false_iff.2 hc18)) ?_
          refine AG.seq ?_
          refine AG.region HM ?_
          refine a_build (cs := [_, _]) ?_ T25 rfl (hin := I25)
          refine a_stB (cs' := [_, _]) ?_ T25
          refine a_move (v := vB _) ?_
          refine RA.nil nofun ?_
          refine AG.nilBox (e := 36) (cs' := [.own 219 0, .d (.v (.slice none 0 0))]) 209 219 0 ?_ T36
          refine AG.nilBox (e := 2) (cs' := [.own 219 0, .own 220 0]) 209 220 1 ?_ T2
          refine AG.ret ?_
          simp only [Option.some.injEq, Prod.mk.injEq] at H
          obtain ⟨rfl, rfl, rfl⟩ := H
          exact RetL.cell T25 rfl rfl rfl (RetL.nil (RetP.mk (fun κ => cond (Nat.beq κ 100) 219 (cond (Nat.beq κ 101) 220 (κ))) ⟨rfl, rfl, trivial⟩ ⟨rfl, rfl, trivial⟩ rfl))
        ·rw [if_neg hc12] at H
         cases H
       ·rw [if_neg hc11] at H
        cases H
      ·rw [if_neg hc10] at H
       cases H
     ·rw [if_neg hc9] at H
      refine AG.no rfl (decide_eq_false hc9) ?_
      refine AG.exit ?_
      refine AG.seq ?_
      refine AG.seq ?_
      refine AG.region HM ?_
      refine a_ldB (v := .agg [_, _]) ?_ T25
      obtain ⟨t21, e22, H⟩ := bindO H
      refine a_call (v := vB t21) (nk := []) (L := [(213, _), (214, _)]) ?_ rfl (impl_ValidPacket.ok e22) id (qm (eC rO (eC rO eN)) qn) ⟨rfl, rfl, trivial⟩ trivial trivial rfl
      refine a_un (u := .bool (!t21)) ?_
      refine RA.nil nofun ?_
      by_cases hc23 : t21 = true
      ·rw [if_pos hc23] at H
       refine AG.no rfl (congrArg Bool.not hc23) ?_
       refine AG.skip ?_
       refine AG.seq ?_
       refine AG.region HM ?_
       refine a_ldB (v := .agg [_, _]) ?_ T25
       refine a_stB (cs' := [_, _]) ?_ T25
       refine a_move (v := vB _) ?_
       refine RA.nil nofun ?_
       refine AG.ret ?_
       simp only [Option.some.injEq, Prod.mk.injEq] at H
       obtain ⟨rfl, rfl, rfl⟩ := H
       exact RetL.cell T25 rfl rfl rfl (RetL.nil (RetP.mk (fun κ => cond (Nat.beq κ 100) 213 (cond (Nat.beq κ 101) 214 (κ))) ⟨rfl, rfl, trivial⟩ ⟨rfl, rfl, trivial⟩ rfl))
      ·rw [if_neg hc23] at H
       refine AG.yes rfl (congrArg Bool.not (Bool.eq_false_iff.2 hc23)) ?_
       refine AG.seq ?_
       refine AG.region HM ?_
       refine a_build (cs := [_, _]) ?_ T25 rfl (hin := I25)
       refine a_stB (cs' := [_, _]) ?_ T25
       refine a_move (v := vB _) ?_
       refine RA.nil nofun ?_
       refine AG.nilBox (e := 36) (cs' := [.own 222 0, .d (.v (.slice none 0 0))]) 209 222 0 ?_ T36
       refine AG.nilBox (e := 2) (cs' := [.own 222 0, .own 223 0]) 209 223 1 ?_ T2
       refine AG.ret ?_
       simp only [Option.some.injEq, Prod.mk.injEq] at H
       obtain ⟨rfl, rfl, rfl⟩ := H
       exact RetL.cell T25 rfl rfl rfl (RetL.nil (RetP.mk (fun κ => cond (Nat.beq κ 100) 222 (cond (Nat.beq κ 101) 223 (κ))) ⟨rfl, rfl, trivial⟩ ⟨rfl, rfl, trivial⟩ rfl))
   ·rw [if_neg hc8] at H
    cases H
  ·rw [if_neg hc7] at H
   refine AG.yes rfl (congrArg Bool.not (Bool.eq_false_iff.2 hc7)) ?_
   refine AG.seq ?_
   refine AG.region HM ?_
   refine a_build (cs := [_, _]) ?_ T25 rfl (hin := I25)
   refine a_stB (cs' := [_, _]) ?_ T25
   refine a_move (v := vB _) ?_
   refine RA.nil nofun ?_
   refine AG.nilBox (e := 36) (cs' := [.own 205 0, .d (.v (.slice none 0 0))]) 200 205 0 ?_ T36
   refine AG.nilBox (e := 2) (cs' := [.own 205 0, .own 206 0]) 200 206 1 ?_ T2
   refine AG.ret ?_
   simp only [Option.some.injEq, Prod.mk.injEq] at H
   obtain ⟨rfl, rfl, rfl⟩ := H
   exact RetL.cell T25 rfl rfl rfl (RetL.nil (RetP.mk (fun κ => cond (Nat.beq κ 100) 205 (cond (Nat.beq κ 101) 206 (κ))) ⟨rfl, rfl, trivial⟩ ⟨rfl, rfl, trivial⟩ rfl))
 ·rw [if_neg hc3] at H
  cases H
/-! ### laws_eqVeneer: function 35 -/
def laws_eqVeneer.f (a0_0 : ByteArray) (a0_1 : Int) (a0_2 : Int) (a1_0 : ByteArray) (a1_1 : Int) (a1_2 : Int) : Option (Bool) := if a0_0.toList = a1_0.toList then (if a0_1 = a1_1 then (if a0_2 = a1_2 then (some true) else (some false)) else (some false)) else (some false)
set_option maxRecDepth 100000 in
theorem laws_eqVeneer.ok {a0_0 : ByteArray} {a0_1 : Int} {a0_2 : Int} {a1_0 : ByteArray} {a1_1 : Int} {a1_2 : Int} {r : Bool} (H : laws_eqVeneer.f a0_0 a0_1 a0_2 a1_0 a1_1 a1_2 = some r) : OkF Tryd.prog 35 [.agg [.d (.v (.string a0_0)), .d (.v (.int .i64 a0_1)), .d (.v (.int .i64 a0_2))], .agg [.d (.v (.string a1_0)), .d (.v (.int .i64 a1_1)), .d (.v (.int .i64 a1_2))]] [] (.c (.d (.v (.bool r)))) [] := by
 unfold laws_eqVeneer.f at H
 refine OkF.of (N := 20) (rs := [4]) (avs := [.c (.d (.v (.bool r)))]) Tryd.func35 rfl rfl (fun _ _ => results_tmp rfl _ _ _) (by decide) rfl rfl rfl rfl (fun w0 S => ?_)
 refine AG.seq ?_
 refine AG.region HM ?_
 refine a_box 200 ?_
 refine a_box 201 ?_
 refine a_move (v := vB _) ?_
 refine RA.nil nofun ?_
 refine AG.seq ?_
 refine AG.seq ?_
 refine AG.region HM ?_
 refine a_faB (q := 0) ?_ D36_0
 refine a_ldB (v := vS _) ?_ T9
 refine a_faB (q := 0) ?_ D36_0
 refine a_ldB (v := vS _) ?_ T9
 refine a_bin (u := .bool (!(a0_0.toList == a1_0.toList))) ?_
 refine RA.nil nofun ?_
 by_cases hc1 : a0_0.toList = a1_0.toList
 ·rw [if_pos hc1] at H
  refine AG.no rfl (by rw [beq_iff_eq.2 hc1]; rfl) ?_
  refine AG.skip ?_
  refine AG.seq ?_
  refine AG.seq ?_
  refine AG.region HM ?_
  refine a_faB (q := 1) ?_ D36_1
  refine a_ldB (v := vI _) ?_ T2
  refine a_faB (q := 1) ?_ D36_1
  refine a_ldB (v := vI _) ?_ T2
  refine a_int (u := .bool ((a0_1 != a1_1))) ?_
  refine RA.nil nofun ?_
  by_cases hc2 : a0_1 = a1_1
  ·rw [if_pos hc2] at H
   refine AG.no rfl (bne_eq_false_iff_eq.2 hc2) ?_
   refine AG.skip ?_
   refine AG.seq ?_
   refine AG.seq ?_
   refine AG.region HM ?_
   refine a_faB (q := 2) ?_ D36_2
   refine a_ldB (v := vI _) ?_ T2
   refine a_faB (q := 2) ?_ D36_2
   refine a_ldB (v := vI _) ?_ T2
   refine a_int (u := .bool ((a0_2 != a1_2))) ?_
   refine RA.nil nofun ?_
   by_cases hc3 : a0_2 = a1_2
   ·rw [if_pos hc3] at H
    refine AG.no rfl (bne_eq_false_iff_eq.2 hc3) ?_
    refine AG.skip ?_
    refine AG.seq ?_
    refine AG.region HM ?_
    refine a_move (v := vB _) ?_
    refine RA.nil nofun ?_
    refine AG.ret ?_
    obtain rfl := Option.some.inj H
    exact RetP.mk id ⟨rfl, trivial⟩ trivial rfl
   ·rw [if_neg hc3] at H
    refine AG.yes rfl (bne_iff_ne.2 hc3) ?_
    refine AG.seq ?_
    refine AG.region HM ?_
    refine a_move (v := vB _) ?_
    refine RA.nil nofun ?_
    refine AG.ret ?_
    obtain rfl := Option.some.inj H
    exact RetP.mk id ⟨rfl, trivial⟩ trivial rfl
  ·rw [if_neg hc2] at H
   refine AG.yes rfl (bne_iff_ne.2 hc2) ?_
   refine AG.seq ?_
   refine AG.region HM ?_
   refine a_move (v := vB _) ?_
   refine RA.nil nofun ?_
   refine AG.ret ?_
   obtain rfl := Option.some.inj H
   exact RetP.mk id ⟨rfl, trivial⟩ trivial rfl
 ·rw [if_neg hc1] at H
  refine AG.yes rfl (by rw [beq_eq_false_iff_ne.2 hc1]; rfl) ?_
  refine AG.seq ?_
  refine AG.region HM ?_
  refine a_move (v := vB _) ?_
  refine RA.nil nofun ?_
  refine AG.ret ?_
  obtain rfl := Option.some.inj H
  exact RetP.mk id ⟨rfl, trivial⟩ trivial rfl
/-! ### laws_eqVeneerS: function 17 -/
def laws_eqVeneerS.l0 : Nat → List S35 → List S35 → Int → Option (Bool)
 | 0, _, _, _ => none
 | k + 1, x0, x1, x5 => if x5 < (x0.length : Int) then (if 0 ≤ x5 then (if x5 < (x1.length : Int) then ((laws_eqVeneer.f ((rd35 x0 x5).f0) ((rd35 x0 x5).f1) ((rd35 x0 x5).f2) ((rd35 x1 x5).f0) ((rd35 x1 x5).f1) ((rd35 x1 x5).f2)).bind fun t5 => (if t5 = true then (laws_eqVeneerS.l0 k x0 x1 (wrap64 (x5 + 1))) else (some false))) else (none)) else (none)) else (some true)
def laws_eqVeneerS.f (k : Nat) (l0 : List S35) (l1 : List S35) : Option (Bool) := if (l0.length : Int) = (l1.length : Int) then (laws_eqVeneerS.l0 k l0 l1 0) else (some false)
set_option maxRecDepth 100000 in
theorem laws_eqVeneerS.ok {k : Nat} {l0 : List S35} {l1 : List S35} {r : Bool} (H : laws_eqVeneerS.f k l0 l1 = some r) : OkF Tryd.prog 17 [vR 36 (l0.map c35), vR 36 (l1.map c35)] [] (.c (.d (.v (.bool r)))) [] := by
 unfold laws_eqVeneerS.f at H
 refine OkF.of (N := 27) (rs := [4]) (avs := [.c (.d (.v (.bool r)))]) Tryd.func17 rfl rfl (fun _ _ => results_tmp rfl _ _ _) (by decide) rfl rfl rfl rfl (fun w0 S => ?_)
 refine AG.seq ?_
 refine AG.region HM ?_
 refine a_move (v := vB _) ?_
 refine RA.nil nofun ?_
 refine AG.seq ?_
 refine AG.seq ?_
 refine AG.region HM ?_
 refine a_move (v := vR _ _) ?_
 refine a_lenR ?_ Tryd.underlying22
 refine a_move (v := vR _ _) ?_
 refine a_lenR ?_ Tryd.underlying22
 refine a_int (u := .bool (((l0.length : Int) != (l1.length : Int)))) ?_
 refine RA.nil nofun ?_
 by_cases hc1 : (l0.length : Int) = (l1.length : Int)
 ·rw [if_pos hc1] at H
  refine AG.no rfl (bne_eq_false_iff_eq.2 hc1) ?_
  refine AG.skip ?_
  refine AG.seq ?_
  refine AG.seq ?_
  refine AG.region HM ?_
  refine a_move (v := vI _) ?_
  refine RA.nil nofun ?_
  refine AG.block ?_
  refine AG.loop ?_
  obtain ⟨K0, hK0, gK0⟩ : ∃ K, k ≤ K ∧ K ≤ k := ⟨k, Nat.le_refl k, Nat.le_refl k⟩
  refine AGr.canon id (AGr.loopI (n := k) (fun k s => k ≤ K0 ∧ ∃ (x0 : List S35) (x1 : List S35) (x5 : Int), laws_eqVeneerS.l0 k x0 x1 x5 = some r ∧ s = St.of [(0, vR 36 (x0.map c35)), (1, vR 36 (x1.map c35)), (5, vI x5)] []) ⟨hK0, _, _, _, H, rfl⟩ ?_ ?_) ⟨rfl, rfl, rfl, trivial⟩ trivial rfl
  ·rintro _ ⟨_, _, _, _, H, _⟩
   cases H
  ·clear H hK0
   rintro k ih0 _ ⟨hK0, x0, x1, x5, H, rfl⟩
   unfold laws_eqVeneerS.l0 at H
   refine AG.seq ?_
   refine AG.seq ?_
   refine AG.region HM ?_
   refine a_move (v := vI _) ?_
   refine a_move (v := vR _ _) ?_
   refine a_lenR ?_ Tryd.underlying22
   refine a_int (u := .bool (decide (x5 < (x0.length : Int)))) ?_
   refine RA.nil nofun ?_
   by_cases hc2 : x5 < (x0.length : Int)
   ·rw [if_pos hc2] at H
    refine AG.yes rfl (decide_eq_true hc2) ?_
    refine AG.skip ?_
    refine AG.seq ?_
    refine AG.block ?_
    refine AG.seq ?_
    refine AG.region HM ?_
    refine a_move (v := vR _ _) ?_
    refine a_move (v := vI _) ?_
    by_cases hc3 : 0 ≤ x5
    ·rw [if_pos hc3] at H
     refine a_ixR (el := c35 (rd35 x0 x5)) ?_ ⟨hc3, hc2⟩ T36 Tryd.underlying22 (hel := R35 hc3 hc2)
     refine a_ldR (v := .agg [_, _, _]) ?_ T36
     refine a_move (v := vR _ _) ?_
     refine a_move (v := vI _) ?_
     by_cases hc4 : x5 < (x1.length : Int)
     ·rw [if_pos hc4] at H
      refine a_ixR (el := c35 (rd35 x1 x5)) ?_ ⟨hc3, hc4⟩ T36 Tryd.underlying22 (hel := R35 hc3 hc4)
      refine a_ldR (v := .agg [_, _, _]) ?_ T36
      obtain ⟨t5, e6, H⟩ := bindO H
      refine a_call (v := vB t5) (nk := []) (L := []) ?_ rfl (laws_eqVeneer.ok e6) id (qg (qg qn)) trivial trivial trivial rfl
      refine a_un (u := .bool (!t5)) ?_
      refine RA.nil (fun _ => by kernel_rfl) ?_
      by_cases hc7 : t5 = true
      ·rw [if_pos hc7] at H
       refine AG.no rfl (congrArg Bool.not hc7) ?_
       refine AG.skip ?_
       refine AG.region HM ?_
       refine a_move (v := vI _) ?_
       refine a_int (u := .int .i64 (wrap64 (x5 + 1))) ?_
       refine a_move (v := vI _) ?_
       refine RA.nil nofun ?_
       exact AGr.canon id (ih0 _ (by omega) _ ⟨by omega, _, _, _, H, rfl⟩) ⟨rfl, rfl, rfl, trivial⟩ trivial rfl
      ·rw [if_neg hc7] at H
       refine AG.yes rfl (congrArg Bool.not (Bool.eq_false_iff.2 hc7)) ?_
       refine AG.seq ?_
       refine AG.region HM ?_
       refine a_move (v := vB _) ?_
       refine RA.nil nofun ?_
       refine AG.ret ?_
       obtain rfl := Option.some.inj H
       exact RetP.mk id ⟨rfl, trivial⟩ trivial rfl
     ·rw [if_neg hc4] at H
      cases H
    ·rw [if_neg hc3] at H
     cases H
   ·rw [if_neg hc2] at H
    refine AG.no rfl (decide_eq_false hc2) ?_
    refine AG.exit ?_
    refine AG.seq ?_
    refine AG.region HM ?_
    refine a_move (v := vB _) ?_
    refine RA.nil nofun ?_
    refine AG.ret ?_
    obtain rfl := Option.some.inj H
    exact RetP.mk id ⟨rfl, trivial⟩ trivial rfl
 ·rw [if_neg hc1] at H
  refine AG.yes rfl (bne_iff_ne.2 hc1) ?_
  refine AG.seq ?_
  refine AG.region HM ?_
  refine a_move (v := vB _) ?_
  refine RA.nil nofun ?_
  refine AG.ret ?_
  obtain rfl := Option.some.inj H
  exact RetP.mk id ⟨rfl, trivial⟩ trivial rfl
/-! ### laws_eqInt64S: function 18 -/
def laws_eqInt64S.l0 : Nat → List Int → List Int → Int → Option (Bool)
 | 0, _, _, _ => none
 | k + 1, x0, x1, x5 => if x5 < (x0.length : Int) then (if 0 ≤ x5 then (if x5 < (x1.length : Int) then (if (rd2 x0 x5) = (rd2 x1 x5) then (laws_eqInt64S.l0 k x0 x1 (wrap64 (x5 + 1))) else (some false)) else (none)) else (none)) else (some true)
def laws_eqInt64S.f (k : Nat) (l0 : List Int) (l1 : List Int) : Option (Bool) := if (l0.length : Int) = (l1.length : Int) then (laws_eqInt64S.l0 k l0 l1 0) else (some false)
set_option maxRecDepth 100000 in
theorem laws_eqInt64S.ok {k : Nat} {l0 : List Int} {l1 : List Int} {r : Bool} (H : laws_eqInt64S.f k l0 l1 = some r) : OkF Tryd.prog 18 [vR 2 (l0.map c2), vR 2 (l1.map c2)] [] (.c (.d (.v (.bool r)))) [] := by
 unfold laws_eqInt64S.f at H
 refine OkF.of (N := 26) (rs := [4]) (avs := [.c (.d (.v (.bool r)))]) Tryd.func18 rfl rfl (fun _ _ => results_tmp rfl _ _ _) (by decide) rfl rfl rfl rfl (fun w0 S => ?_)
 refine AG.seq ?_
 refine AG.region HM ?_
 refine a_move (v := vB _) ?_
 refine RA.nil nofun ?_
 refine AG.seq ?_
 refine AG.seq ?_
 refine AG.region HM ?_
 refine a_move (v := vR _ _) ?_
 refine a_lenR ?_ Tryd.underlying23
 refine a_move (v := vR _ _) ?_
 refine a_lenR ?_ Tryd.underlying23
 refine a_int (u := .bool (((l0.length : Int) != (l1.length : Int)))) ?_
 refine RA.nil nofun ?_
 by_cases hc1 : (l0.length : Int) = (l1.length : Int)
 ·rw [if_pos hc1] at H
  refine AG.no rfl (bne_eq_false_iff_eq.2 hc1) ?_
  refine AG.skip ?_
  refine AG.seq ?_
  refine AG.seq ?_
  refine AG.region HM ?_
  refine a_move (v := vI _) ?_
  refine RA.nil nofun ?_
  refine AG.block ?_
  refine AG.loop ?_
  obtain ⟨K0, hK0, gK0⟩ : ∃ K, k ≤ K ∧ K ≤ k := ⟨k, Nat.le_refl k, Nat.le_refl k⟩
  refine AGr.canon id (AGr.loopI (n := k) (fun k s => k ≤ K0 ∧ ∃ (x0 : List Int) (x1 : List Int) (x5 : Int), laws_eqInt64S.l0 k x0 x1 x5 = some r ∧ s = St.of [(0, vR 2 (x0.map c2)), (1, vR 2 (x1.map c2)), (5, vI x5)] []) ⟨hK0, _, _, _, H, rfl⟩ ?_ ?_) ⟨rfl, rfl, rfl, trivial⟩ trivial rfl
  ·rintro _ ⟨_, _, _, _, H, _⟩
   cases H
  ·clear H hK0
   rintro k ih0 _ ⟨hK0, x0, x1, x5, H, rfl⟩
   unfold laws_eqInt64S.l0 at H
   refine AG.seq ?_
   refine AG.seq ?_
   refine AG.region HM ?_
   refine a_move (v := vI _) ?_
   refine a_move (v := vR _ _) ?_
   refine a_lenR ?_ Tryd.underlying23
   refine a_int (u := .bool (decide (x5 < (x0.length : Int)))) ?_
   refine RA.nil nofun ?_
   by_cases hc2 : x5 < (x0.length : Int)
   ·rw [if_pos hc2] at H
    refine AG.yes rfl (decide_eq_true hc2) ?_
    refine AG.skip ?_
    refine AG.seq ?_
    refine AG.block ?_
    refine AG.seq ?_
    refine AG.region HM ?_
    refine a_move (v := vR _ _) ?_
    refine a_move (v := vI _) ?_
    by_cases hc3 : 0 ≤ x5
    ·rw [if_pos hc3] at H
     refine a_ixR (el := c2 (rd2 x0 x5)) ?_ ⟨hc3, hc2⟩ T2 Tryd.underlying23 (hel := R2 hc3 hc2)
     refine a_ldR (v := vI _) ?_ T2
     refine a_move (v := vR _ _) ?_
     refine a_move (v := vI _) ?_
     by_cases hc4 : x5 < (x1.length : Int)
     ·rw [if_pos hc4] at H
      refine a_ixR (el := c2 (rd2 x1 x5)) ?_ ⟨hc3, hc4⟩ T2 Tryd.underlying23 (hel := R2 hc3 hc4)
      refine a_ldR (v := vI _) ?_ T2
      refine a_int (u := .bool (((rd2 x0 x5) != (rd2 x1 x5)))) ?_
      refine RA.nil (fun _ => by kernel_rfl) ?_
      by_cases hc5 : (rd2 x0 x5) = (rd2 x1 x5)
      ·rw [if_pos hc5] at H
       refine AG.no rfl (bne_eq_false_iff_eq.2 hc5) ?_
       refine AG.skip ?_
       refine AG.region HM ?_
       refine a_move (v := vI _) ?_
       refine a_int (u := .int .i64 (wrap64 (x5 + 1))) ?_
       refine a_move (v := vI _) ?_
       refine RA.nil nofun ?_
       exact AGr.canon id (ih0 _ (by omega) _ ⟨by omega, _, _, _, H, rfl⟩) ⟨rfl, rfl, rfl, trivial⟩ trivial rfl
      ·rw [if_neg hc5] at H
       refine AG.yes rfl (bne_iff_ne.2 hc5) ?_
       refine AG.seq ?_
       refine AG.region HM ?_
       refine a_move (v := vB _) ?_
       refine RA.nil nofun ?_
       refine AG.ret ?_
       obtain rfl := Option.some.inj H
       exact RetP.mk id ⟨rfl, trivial⟩ trivial rfl
     ·rw [if_neg hc4] at H
      cases H
    ·rw [if_neg hc3] at H
     cases H
   ·rw [if_neg hc2] at H
    refine AG.no rfl (decide_eq_false hc2) ?_
    refine AG.exit ?_
    refine AG.seq ?_
    refine AG.region HM ?_
    refine a_move (v := vB _) ?_
    refine RA.nil nofun ?_
    refine AG.ret ?_
    obtain rfl := Option.some.inj H
    exact RetP.mk id ⟨rfl, trivial⟩ trivial rfl
 ·rw [if_neg hc1] at H
  refine AG.yes rfl (bne_iff_ne.2 hc1) ?_
  refine AG.seq ?_
  refine AG.region HM ?_
  refine a_move (v := vB _) ?_
  refine RA.nil nofun ?_
  refine AG.ret ?_
  obtain rfl := Option.some.inj H
  exact RetP.mk id ⟨rfl, trivial⟩ trivial rfl
/-! ### laws_eqPacket: function 6 -/
def laws_eqPacket.f (k : Nat) (l0_0 : List S35) (l0_1 : List Int) (l1_0 : List S35) (l1_1 : List Int) : Option (Bool) := (laws_eqVeneerS.f k l0_0 l1_0).bind fun t1 => (if t1 = true then ((laws_eqInt64S.f k l0_1 l1_1).bind fun t4 => (if t4 = true then (some true) else (some false))) else (some false))
set_option maxRecDepth 100000 in
theorem laws_eqPacket.ok {k : Nat} {l0_0 : List S35} {l0_1 : List Int} {l1_0 : List S35} {l1_1 : List Int} {r : Bool} (H : laws_eqPacket.f k l0_0 l0_1 l1_0 l1_1 = some r) : OkF Tryd.prog 6 [.agg [.d (.row 36 (l0_0.map c35)), .d (.row 2 (l0_1.map c2))], .agg [.d (.row 36 (l1_0.map c35)), .d (.row 2 (l1_1.map c2))]] [] (.c (.d (.v (.bool r)))) [] := by
 unfold laws_eqPacket.f at H
 refine OkF.of (N := 17) (rs := [4]) (avs := [.c (.d (.v (.bool r)))]) Tryd.func6 rfl rfl (fun _ _ => results_tmp rfl _ _ _) (by decide) rfl rfl rfl rfl (fun w0 S => ?_)
 refine AG.seq ?_
 refine AG.region HM ?_
 refine a_box 200 ?_
 refine a_box 201 ?_
 refine a_move (v := vB _) ?_
 refine RA.nil nofun ?_
 refine AG.seq ?_
 refine AG.seq ?_
 refine AG.region HM ?_
 refine a_faB (q := 0) ?_ D25_0
 refine a_ldB (v := vR _ _) ?_ T22
 refine a_faB (q := 0) ?_ D25_0
 refine a_ldB (v := vR _ _) ?_ T22
 obtain ⟨t1, e2, H⟩ := bindO H
 refine a_call (v := vB t1) (nk := []) (L := []) ?_ rfl (laws_eqVeneerS.ok e2) id (qd (qd qn)) trivial trivial trivial rfl
 refine a_un (u := .bool (!t1)) ?_
 refine RA.nil nofun ?_
 by_cases hc3 : t1 = true
 ·rw [if_pos hc3] at H
  refine AG.no rfl (congrArg Bool.not hc3) ?_
  refine AG.skip ?_
  refine AG.seq ?_
  refine AG.seq ?_
  refine AG.region HM ?_
  refine a_faB (q := 1) ?_ D25_1
  refine a_ldB (v := vR _ _) ?_ T23
  refine a_faB (q := 1) ?_ D25_1
  refine a_ldB (v := vR _ _) ?_ T23
  obtain ⟨t4, e5, H⟩ := bindO H
  refine a_call (v := vB t4) (nk := []) (L := []) ?_ rfl (laws_eqInt64S.ok e5) id (qd (qd qn)) trivial trivial trivial rfl
  refine a_un (u := .bool (!t4)) ?_
  refine RA.nil nofun ?_
  by_cases hc6 : t4 = true
  ·rw [if_pos hc6] at H
   refine AG.no rfl (congrArg Bool.not hc6) ?_
   refine AG.skip ?_
   refine AG.seq ?_
   refine AG.region HM ?_
   refine a_move (v := vB _) ?_
   refine RA.nil nofun ?_
   refine AG.ret ?_
   obtain rfl := Option.some.inj H
   exact RetP.mk id ⟨rfl, trivial⟩ trivial rfl
  ·rw [if_neg hc6] at H
   refine AG.yes rfl (congrArg Bool.not (Bool.eq_false_iff.2 hc6)) ?_
   refine AG.seq ?_
   refine AG.region HM ?_
   refine a_move (v := vB _) ?_
   refine RA.nil nofun ?_
   refine AG.ret ?_
   obtain rfl := Option.some.inj H
   exact RetP.mk id ⟨rfl, trivial⟩ trivial rfl
 ·rw [if_neg hc3] at H
  refine AG.yes rfl (congrArg Bool.not (Bool.eq_false_iff.2 hc3)) ?_
  refine AG.seq ?_
  refine AG.region HM ?_
  refine a_move (v := vB _) ?_
  refine RA.nil nofun ?_
  refine AG.ret ?_
  obtain rfl := Option.some.inj H
  exact RetP.mk id ⟨rfl, trivial⟩ trivial rfl
/-! ### laws_markText: function 36 -/
def laws_markText.l0 : Nat → Int → ByteArray → Option (ByteArray)
 | 0, _, _ => none
 | k + 1, x0, x3 => if x0 > 0 then ((some ([(wrap64 (48 + (Int.tmod x0 10))) % 256] : List Int)).bind fun y3 => (if (bs y3).size + x3.size ≤ 9223372036854775807 then (laws_markText.l0 k (wrap64 (Int.tdiv x0 10)) ((bs y3) ++ x3)) else (none))) else (if (⟨#[109]⟩ : ByteArray).size + x3.size ≤ 9223372036854775807 then (some ((⟨#[109]⟩ : ByteArray) ++ x3)) else (none))
def laws_markText.f (k : Nat) (a0 : Int) : Option (ByteArray) := if a0 ≤ 0 then (some (⟨#[109, 48]⟩ : ByteArray)) else (laws_markText.l0 k a0 (⟨#[]⟩ : ByteArray))
set_option maxRecDepth 100000 in
theorem laws_markText.ok {k : Nat} {a0 : Int} {r : ByteArray} (H : laws_markText.f k a0 = some r) : OkF Tryd.prog 36 [vI a0] [] (.c (.d (.v (.string r)))) [] := by
 unfold laws_markText.f at H
 refine OkF.of (N := 20) (rs := [2]) (avs := [.c (.d (.v (.string r)))]) Tryd.func36 rfl rfl (fun _ _ => results_tmp rfl _ _ _) (by decide) rfl rfl rfl rfl (fun w0 S => ?_)
 refine AG.seq ?_
 refine AG.region HM ?_
 refine a_move (v := vS _) ?_
 refine RA.nil nofun ?_
 refine AG.seq ?_
 refine AG.seq ?_
 refine AG.region HM ?_
 refine a_move (v := vI _) ?_
 refine a_int (u := .bool (decide (a0 ≤ 0))) ?_
 refine RA.nil nofun ?_
 by_cases hc1 : a0 ≤ 0
 ·rw [if_pos hc1] at H
  refine AG.yes rfl (decide_eq_true hc1) ?_
  refine AG.seq ?_
  refine AG.region HM ?_
  refine a_move (v := vS _) ?_
  refine RA.nil nofun ?_
  refine AG.ret ?_
  obtain rfl := Option.some.inj H
  exact RetP.mk id ⟨rfl, trivial⟩ trivial rfl
 ·rw [if_neg hc1] at H
  refine AG.no rfl (decide_eq_false hc1) ?_
  refine AG.skip ?_
  refine AG.seq ?_
  refine AG.region HM ?_
  refine a_move (v := vS _) ?_
  refine RA.nil nofun ?_
  refine AG.seq ?_
  refine AG.block ?_
  refine AG.loop ?_
  obtain ⟨K0, hK0, gK0⟩ : ∃ K, k ≤ K ∧ K ≤ k := ⟨k, Nat.le_refl k, Nat.le_refl k⟩
  refine AGr.canon id (AGr.loopI (n := k) (fun k s => k ≤ K0 ∧ ∃ (x0 : Int) (x3 : ByteArray), laws_markText.l0 k x0 x3 = some r ∧ s = St.of [(0, vI x0), (3, vS x3)] []) ⟨hK0, _, _, H, rfl⟩ ?_ ?_) ⟨rfl, rfl, trivial⟩ trivial rfl
  ·rintro _ ⟨_, _, _, H, _⟩
   cases H
  ·clear H hK0
   rintro k ih0 _ ⟨hK0, x0, x3, H, rfl⟩
   unfold laws_markText.l0 at H
   refine AG.seq ?_
   refine AG.seq ?_
   refine AG.region HM ?_
   refine a_move (v := vI _) ?_
   refine a_int (u := .bool (decide (x0 > 0))) ?_
   refine RA.nil nofun ?_
   by_cases hc2 : x0 > 0
   ·rw [if_pos hc2] at H
    refine AG.yes rfl (decide_eq_true hc2) ?_
    refine AG.skip ?_
    refine AG.block ?_
    refine AG.seq ?_
    refine AG.region HM ?_
    refine a_move (v := vI _) ?_
    refine a_rem (r := Int.tmod x0 10) ?_ (show ¬ (10 : Int) = 0 from by decide)
    refine a_int (u := .int .i64 (wrap64 (48 + (Int.tmod x0 10)))) ?_
    refine a_conv (j := (wrap64 (48 + (Int.tmod x0 10))) % 256) ?_ Tryd.underlying3 Tryd.underlying5
    obtain ⟨y3, ey3, H⟩ := bindO H
    have ey3 := Option.some.inj ey3
    refine a_lit (cs := [_]) (D := []) (css := y3.map c5) 200 ?_ N69 T5 (hcss := by rw [← ey3]; rfl)
    refine a_b2s y3 ?_ Tryd.underlying69 Tryd.underlying5 Tryd.underlying9
    refine a_move (v := vS _) ?_
    by_cases hc4 : (bs y3).size + x3.size ≤ 9223372036854775807
    ·rw [if_pos hc4] at H
     refine a_bin (u := .string ((bs y3) ++ x3)) ?_ (hp := by exact hc4)
     refine a_move (v := vS _) ?_
     refine RA.nil nofun ?_
     refine AG.region HM ?_
     refine a_move (v := vI _) ?_
     refine a_quo (r := wrap64 (Int.tdiv x0 10)) ?_ (show ¬ (10 : Int) = 0 from by decide)
     refine a_move (v := vI _) ?_
     refine RA.nil nofun ?_
     exact AGr.canon id (ih0 _ (by omega) _ ⟨by omega, _, _, H, rfl⟩) ⟨rfl, rfl, trivial⟩ trivial rfl
    ·rw [if_neg hc4] at H
     cases H
   ·rw [if_neg hc2] at H
    refine AG.no rfl (decide_eq_false hc2) ?_
    refine AG.exit ?_
    refine AG.seq ?_
    refine AG.region HM ?_
    refine a_move (v := vS _) ?_
    by_cases hc5 : (⟨#[109]⟩ : ByteArray).size + x3.size ≤ 9223372036854775807
    ·rw [if_pos hc5] at H
     refine a_bin (u := .string ((⟨#[109]⟩ : ByteArray) ++ x3)) ?_ (hp := by exact hc5)
     refine a_move (v := vS _) ?_
     refine RA.nil nofun ?_
     refine AG.ret ?_
     obtain rfl := Option.some.inj H
     exact RetP.mk id ⟨rfl, trivial⟩ trivial rfl
    ·rw [if_neg hc5] at H
     cases H
/-! ### laws_markVeneerS: function 19 -/
def laws_markVeneerS.l0 : Nat → List S35 → Int → Int → Option (Int × (List S35))
 | 0, _, _, _ => none
 | k + 1, x0, x1, x5 => if x5 < (x0.length : Int) then ((laws_markText.f k x1).bind fun t2 => (if 0 ≤ x5 then ((some (x0.set (x5 : Int).toNat (⟨t2, (rd35 x0 x5).f1, (rd35 x0 x5).f2⟩ : S35) : List S35)).bind fun y5 => ((some (y5.set (x5 : Int).toNat (⟨(rd35 y5 x5).f0, wrap64 (x1 + 1), (rd35 y5 x5).f2⟩ : S35) : List S35)).bind fun y6 => (laws_markVeneerS.l0 k (y6.set (x5 : Int).toNat (⟨(rd35 y6 x5).f0, (rd35 y6 x5).f1, wrap64 ((wrap64 (x1 + 1)) + 1)⟩ : S35)) (wrap64 ((wrap64 ((wrap64 (x1 + 1)) + 1)) + 1)) (wrap64 (x5 + 1))))) else (none))) else (some (x1, x0))
def laws_markVeneerS.f (k : Nat) (l0 : List S35) (a1 : Int) : Option (Int × (List S35)) := laws_markVeneerS.l0 k l0 a1 0
set_option maxRecDepth 100000 in
theorem laws_markVeneerS.ok {k : Nat} {l0 : List S35} {a1 : Int} {r0 : Int} {r1 : List S35} (H : laws_markVeneerS.f k l0 a1 = some (r0, r1)) : OkF Tryd.prog 19 [.c (.own 0 l0.length), vI a1] [(0, .row 36 (l0.map c35))] (.c (.d (.v (.int .i64 r0)))) [(0, .row 36 (r1.map c35))] := by
 unfold laws_markVeneerS.f at H
 refine OkF.of (N := 35) (rs := [4]) (avs := [.c (.d (.v (.int .i64 r0)))]) Tryd.func19 rfl rfl (fun _ _ => results_tmp rfl _ _ _) (by decide) rfl rfl rfl rfl (fun w0 S => ?_)
 refine AG.seq ?_
 refine AG.region HM ?_
 refine a_move (v := vI _) ?_
 refine RA.nil nofun ?_
 refine AG.seq ?_
 refine AG.seq ?_
 refine AG.region HM ?_
 refine a_move (v := vI _) ?_
 refine RA.nil nofun ?_
 refine AG.block ?_
 refine AG.loop ?_
 obtain ⟨K0, hK0, gK0⟩ : ∃ K, k ≤ K ∧ K ≤ k := ⟨k, Nat.le_refl k, Nat.le_refl k⟩
 refine AGr.canon id (AGr.loopI (n := k) (fun k s => k ≤ K0 ∧ ∃ (x0 : List S35) (x1 : Int) (x5 : Int), laws_markVeneerS.l0 k x0 x1 x5 = some (r0, r1) ∧ s = St.of [(0, .c (.own 0 x0.length)), (1, vI x1), (5, vI x5)] [(0, .row 36 (x0.map c35))]) ⟨hK0, _, _, _, H, rfl⟩ ?_ ?_) ⟨rfl, rfl, rfl, trivial⟩ ⟨rfl, trivial⟩ rfl
 ·rintro _ ⟨_, _, _, _, H, _⟩
  cases H
 ·clear H hK0
  rintro k ih0 _ ⟨hK0, x0, x1, x5, H, rfl⟩
  unfold laws_markVeneerS.l0 at H
  refine AG.seq ?_
  refine AG.seq ?_
  refine AG.region HM ?_
  refine a_move (v := vI _) ?_
  refine a_move (v := .c (.own _ _)) ?_
  refine a_lenO ?_ Tryd.underlying22
  refine a_int (u := .bool (decide (x5 < (x0.length : Int)))) ?_
  refine RA.nil nofun ?_
  by_cases hc1 : x5 < (x0.length : Int)
  ·rw [if_pos hc1] at H
   refine AG.yes rfl (decide_eq_true hc1) ?_
   refine AG.skip ?_
   refine AG.seq ?_
   refine AG.block ?_
   refine AG.seq ?_
   refine AG.region HM ?_
   refine a_move (v := .c (.own _ _)) ?_
   refine a_move (v := vI _) ?_
   refine a_move (v := vI _) ?_
   obtain ⟨t2, e3, H⟩ := bindO H
   refine a_call (v := vS t2) (nk := []) (L := []) ?_ rfl (laws_markText.ok e3) id (qd qn) trivial trivial trivial rfl
   by_cases hc4 : 0 ≤ x5
   ·rw [if_pos hc4] at H
    refine a_ixO ?_ ⟨hc4, hc1⟩ T36 Tryd.underlying22
    refine a_faE (q := 0) ?_ D36_0
    obtain ⟨y5, ey5, H⟩ := bindO H
    have ey5 := Option.some.inj ey5
    refine a_stF (css' := y5.map c35) ?_ (flat_map (fun _ => rfl)) (G35 hc4 hc1) T9 (hcss := by rw [← ey5]; exact set_map rfl)
    refine RA.nil nofun ?_
    refine AG.seq ?_
    refine AG.region HM ?_
    refine a_move (v := vI _) ?_
    refine a_int (u := .int .i64 (wrap64 (x1 + 1))) ?_
    refine a_move (v := vI _) ?_
    refine RA.nil nofun ?_
    refine AG.seq ?_
    refine AG.region HM ?_
    refine a_move (v := .c (.own _ _)) ?_
    refine a_move (v := vI _) ?_
    refine a_move (v := vI _) ?_
    refine a_ixO ?_ ⟨hc4, hc1⟩ T36 Tryd.underlying22
    refine a_faE (q := 1) ?_ D36_1
    obtain ⟨y6, ey6, H⟩ := bindO H
    have ey6 := Option.some.inj ey6
    refine a_stF (css' := y6.map c35) ?_ (flat_map (fun _ => rfl)) (G35 (l := y5) (i := x5) hc4 (by rw [← ey5]; simpa using hc1)) T2 (hcss := by rw [← ey6]; exact set_map rfl)
    refine RA.nil nofun ?_
    refine AG.seq ?_
    refine AG.region HM ?_
    refine a_move (v := vI _) ?_
    refine a_int (u := .int .i64 (wrap64 ((wrap64 (x1 + 1)) + 1))) ?_
    refine a_move (v := vI _) ?_
    refine RA.nil nofun ?_
    refine AG.seq ?_
    refine AG.region HM ?_
    refine a_move (v := .c (.own _ _)) ?_
    refine a_move (v := vI _) ?_
    refine a_move (v := vI _) ?_
    refine a_ixO ?_ ⟨hc4, hc1⟩ T36 Tryd.underlying22
    refine a_faE (q := 2) ?_ D36_2
    refine a_stF (css' := (y6.set (x5 : Int).toNat (⟨(rd35 y6 x5).f0, (rd35 y6 x5).f1, wrap64 ((wrap64 (x1 + 1)) + 1)⟩ : S35)).map c35) ?_ (flat_map (fun _ => rfl)) (G35 (l := y6) (i := x5) hc4 (by rw [← ey6]; rw [← ey5]; simpa using hc1)) T2 (hcss := by exact set_map rfl)
    refine RA.nil nofun ?_
    refine AG.region HM ?_
    refine a_move (v := vI _) ?_
    refine a_int (u := .int .i64 (wrap64 ((wrap64 ((wrap64 (x1 + 1)) + 1)) + 1))) ?_
    refine a_move (v := vI _) ?_
    refine RA.nil nofun ?_
    refine AG.region HM ?_
    refine a_move (v := vI _) ?_
    refine a_int (u := .int .i64 (wrap64 (x5 + 1))) ?_
    refine a_move (v := vI _) ?_
    refine RA.nil nofun ?_
    exact AGr.canon id (ih0 _ (by omega) _ ⟨by omega, _, _, _, H, rfl⟩) ⟨(ownE rfl (by rw [← ey6]; rw [← ey5]; simp)), rfl, rfl, trivial⟩ ⟨rfl, trivial⟩ rfl
   ·rw [if_neg hc4] at H
    cases H
  ·rw [if_neg hc1] at H
   refine AG.no rfl (decide_eq_false hc1) ?_
   refine AG.exit ?_
   refine AG.seq ?_
   refine AG.region HM ?_
   refine a_move (v := vI _) ?_
   refine a_move (v := vI _) ?_
   refine RA.nil nofun ?_
   refine AG.ret ?_
   simp only [Option.some.injEq, Prod.mk.injEq] at H
   obtain ⟨rfl, rfl⟩ := H
   exact RetP.mk (fun κ => cond (Nat.beq κ 0) 0 (κ)) ⟨rfl, trivial⟩ ⟨rfl, trivial⟩ rfl
/-! ### laws_markInt64S: function 20 -/
def laws_markInt64S.l0 : Nat → List Int → Int → Int → Option (Int × (List Int))
 | 0, _, _, _ => none
 | k + 1, x0, x1, x5 => if x5 < (x0.length : Int) then (if 0 ≤ x5 then (laws_markInt64S.l0 k (x0.set (x5 : Int).toNat x1) (wrap64 (x1 + 1)) (wrap64 (x5 + 1))) else (none)) else (some (x1, x0))
def laws_markInt64S.f (k : Nat) (l0 : List Int) (a1 : Int) : Option (Int × (List Int)) := laws_markInt64S.l0 k l0 a1 0
set_option maxRecDepth 100000 in
theorem laws_markInt64S.ok {k : Nat} {l0 : List Int} {a1 : Int} {r0 : Int} {r1 : List Int} (H : laws_markInt64S.f k l0 a1 = some (r0, r1)) : OkF Tryd.prog 20 [.c (.own 0 l0.length), vI a1] [(0, .row 2 (l0.map c2))] (.c (.d (.v (.int .i64 r0)))) [(0, .row 2 (r1.map c2))] := by
 unfold laws_markInt64S.f at H
 refine OkF.of (N := 19) (rs := [4]) (avs := [.c (.d (.v (.int .i64 r0)))]) Tryd.func20 rfl rfl (fun _ _ => results_tmp rfl _ _ _) (by decide) rfl rfl rfl rfl (fun w0 S => ?_)
 refine AG.seq ?_
 refine AG.region HM ?_
 refine a_move (v := vI _) ?_
 refine RA.nil nofun ?_
 refine AG.seq ?_
 refine AG.seq ?_
 refine AG.region HM ?_
 refine a_move (v := vI _) ?_
 refine RA.nil nofun ?_
 refine AG.block ?_
 refine AG.loop ?_
 obtain ⟨K0, hK0, gK0⟩ : ∃ K, k ≤ K ∧ K ≤ k := ⟨k, Nat.le_refl k, Nat.le_refl k⟩
 refine AGr.canon id (AGr.loopI (n := k) (fun k s => k ≤ K0 ∧ ∃ (x0 : List Int) (x1 : Int) (x5 : Int), laws_markInt64S.l0 k x0 x1 x5 = some (r0, r1) ∧ s = St.of [(0, .c (.own 0 x0.length)), (1, vI x1), (5, vI x5)] [(0, .row 2 (x0.map c2))]) ⟨hK0, _, _, _, H, rfl⟩ ?_ ?_) ⟨rfl, rfl, rfl, trivial⟩ ⟨rfl, trivial⟩ rfl
 ·rintro _ ⟨_, _, _, _, H, _⟩
  cases H
 ·clear H hK0
  rintro k ih0 _ ⟨hK0, x0, x1, x5, H, rfl⟩
  unfold laws_markInt64S.l0 at H
  refine AG.seq ?_
  refine AG.seq ?_
  refine AG.region HM ?_
  refine a_move (v := vI _) ?_
  refine a_move (v := .c (.own _ _)) ?_
  refine a_lenO ?_ Tryd.underlying23
  refine a_int (u := .bool (decide (x5 < (x0.length : Int)))) ?_
  refine RA.nil nofun ?_
  by_cases hc1 : x5 < (x0.length : Int)
  ·rw [if_pos hc1] at H
   refine AG.yes rfl (decide_eq_true hc1) ?_
   refine AG.skip ?_
   refine AG.seq ?_
   refine AG.block ?_
   refine AG.seq ?_
   refine AG.region HM ?_
   refine a_move (v := .c (.own _ _)) ?_
   refine a_move (v := vI _) ?_
   refine a_move (v := vI _) ?_
   by_cases hc2 : 0 ≤ x5
   ·rw [if_pos hc2] at H
    refine a_ixO ?_ ⟨hc2, hc1⟩ T2 Tryd.underlying23
    refine a_stF (css' := (x0.set (x5 : Int).toNat x1).map c2) ?_ (flat_map (fun _ => rfl)) (G2 hc2 hc1) T2 (hcss := by exact set_map rfl)
    refine RA.nil nofun ?_
    refine AG.region HM ?_
    refine a_move (v := vI _) ?_
    refine a_int (u := .int .i64 (wrap64 (x1 + 1))) ?_
    refine a_move (v := vI _) ?_
    refine RA.nil nofun ?_
    refine AG.region HM ?_
    refine a_move (v := vI _) ?_
    refine a_int (u := .int .i64 (wrap64 (x5 + 1))) ?_
    refine a_move (v := vI _) ?_
    refine RA.nil nofun ?_
    exact AGr.canon id (ih0 _ (by omega) _ ⟨by omega, _, _, _, H, rfl⟩) ⟨(ownE rfl (by simp)), rfl, rfl, trivial⟩ ⟨rfl, trivial⟩ rfl
   ·rw [if_neg hc2] at H
    cases H
  ·rw [if_neg hc1] at H
   refine AG.no rfl (decide_eq_false hc1) ?_
   refine AG.exit ?_
   refine AG.seq ?_
   refine AG.region HM ?_
   refine a_move (v := vI _) ?_
   refine a_move (v := vI _) ?_
   refine RA.nil nofun ?_
   refine AG.ret ?_
   simp only [Option.some.injEq, Prod.mk.injEq] at H
   obtain ⟨rfl, rfl⟩ := H
   exact RetP.mk (fun κ => cond (Nat.beq κ 0) 0 (κ)) ⟨rfl, trivial⟩ ⟨rfl, trivial⟩ rfl
/-! ### laws_markPacket: function 7 -/
def laws_markPacket.f (k : Nat) (l0_0 : List S35) (l0_1 : List Int) (a1 : Int) : Option (Int × (List S35) × (List Int)) := (laws_markVeneerS.f k l0_0 a1).bind fun bt1 => ((laws_markInt64S.f k l0_1 bt1.1).bind fun bt4 => (some (bt4.1, bt1.2, bt4.2)))
set_option maxRecDepth 100000 in
theorem laws_markPacket.ok {k : Nat} {l0_0 : List S35} {l0_1 : List Int} {a1 : Int} {r0 : Int} {r1 : List S35} {r2 : List Int} (H : laws_markPacket.f k l0_0 l0_1 a1 = some (r0, r1, r2)) : OkF Tryd.prog 7 [.agg [.own 0 l0_0.length, .own 1 l0_1.length], vI a1] [(0, .row 36 (l0_0.map c35)), (1, .row 2 (l0_1.map c2))] (.c (.d (.v (.int .i64 r0)))) [(0, .row 36 (r1.map c35)), (1, .row 2 (r2.map c2))] := by
 unfold laws_markPacket.f at H
 refine OkF.of (N := 14) (rs := [4]) (avs := [.c (.d (.v (.int .i64 r0)))]) Tryd.func7 rfl rfl (fun _ _ => results_tmp rfl _ _ _) (by decide) rfl rfl rfl rfl (fun w0 S => ?_)
 refine AG.seq ?_
 refine AG.region HM ?_
 refine a_box 200 ?_
 refine a_move (v := vI _) ?_
 refine RA.nil nofun ?_
 refine AG.seq ?_
 refine AG.region HM ?_
 refine a_faB (q := 0) ?_ D25_0
 refine a_ldB (v := .c (.own _ _)) ?_ T22
 refine a_move (v := vI _) ?_
 obtain ⟨⟨t1, t2⟩, e3, H⟩ := bindO H
 refine a_callM (v := vI t1) (nk := []) (L := []) (Mk := [(0, _)]) (ck := [(0, .row 36 (t2.map c35))]) ?_ rfl (laws_markVeneerS.ok e3) id id (mcO (mcD m0)) trivial ⟨rfl, trivial⟩ trivial ⟨rfl, trivial⟩ trivial ⟨rfl, trivial⟩ rfl rfl rfl
 refine a_move (v := vI _) ?_
 refine RA.nil nofun ?_
 refine AG.relen 0 t2.length ?_
 refine AG.seq ?_
 refine AG.region HM ?_
 refine a_faB (q := 1) ?_ D25_1
 refine a_ldB (v := .c (.own _ _)) ?_ T23
 refine a_move (v := vI _) ?_
 obtain ⟨⟨t4, t5⟩, e6, H⟩ := bindO H
 refine a_callM (v := vI t4) (nk := []) (L := []) (Mk := [(1, _)]) (ck := [(1, .row 2 (t5.map c2))]) ?_ rfl (laws_markInt64S.ok e6) (fun κ => cond (Nat.beq κ 0) 1 (κ)) (fun κ => cond (Nat.beq κ 1) 0 (κ)) (mcO (mcD m0)) trivial ⟨rfl, trivial⟩ trivial ⟨rfl, trivial⟩ trivial ⟨rfl, trivial⟩ rfl rfl rfl
 refine a_move (v := vI _) ?_
 refine RA.nil nofun ?_
 refine AG.relen 1 t5.length ?_
 refine AG.seq ?_
 refine AG.region HM ?_
 refine a_move (v := vI _) ?_
 refine a_move (v := vI _) ?_
 refine RA.nil nofun ?_
 refine AG.ret ?_
 simp only [Option.some.injEq, Prod.mk.injEq] at H
 obtain ⟨rfl, rfl, rfl⟩ := H
 exact RetP.mk (fun κ => cond (Nat.beq κ 0) 0 (cond (Nat.beq κ 1) 1 (κ))) ⟨rfl, trivial⟩ ⟨rfl, rfl, trivial⟩ rfl
/-! ### laws_heldVeneerS: function 21 -/
def laws_heldVeneerS.l0 : Nat → List S35 → Int → Int → Option (Int)
 | 0, _, _, _ => none
 | k + 1, x0, x1, x5 => if x5 < (x0.length : Int) then (if 0 ≤ x5 then ((laws_markText.f k x1).bind fun t3 => (if ((rd35 x0 x5).f0).toList = t3.toList then (if ((rd35 x0 x5).f1) = (wrap64 (x1 + 1)) then (if ((rd35 x0 x5).f2) = (wrap64 ((wrap64 (x1 + 1)) + 1)) then (laws_heldVeneerS.l0 k x0 (wrap64 ((wrap64 ((wrap64 (x1 + 1)) + 1)) + 1)) (wrap64 (x5 + 1))) else (some (-1))) else (some (-1))) else (some (-1)))) else (none)) else (some x1)
def laws_heldVeneerS.f (k : Nat) (l0 : List S35) (a1 : Int) : Option (Int) := laws_heldVeneerS.l0 k l0 a1 0
set_option maxRecDepth 100000 in
theorem laws_heldVeneerS.ok {k : Nat} {l0 : List S35} {a1 : Int} {r : Int} (H : laws_heldVeneerS.f k l0 a1 = some r) : OkF Tryd.prog 21 [vR 36 (l0.map c35), vI a1] [] (.c (.d (.v (.int .i64 r)))) [] := by
 unfold laws_heldVeneerS.f at H
 refine OkF.of (N := 41) (rs := [4]) (avs := [.c (.d (.v (.int .i64 r)))]) Tryd.func21 rfl rfl (fun _ _ => results_tmp rfl _ _ _) (by decide) rfl rfl rfl rfl (fun w0 S => ?_)
 refine AG.seq ?_
 refine AG.region HM ?_
 refine a_move (v := vI _) ?_
 refine RA.nil nofun ?_
 refine AG.seq ?_
 refine AG.seq ?_
 refine AG.region HM ?_
 refine a_move (v := vI _) ?_
 refine RA.nil nofun ?_
 refine AG.block ?_
 refine AG.loop ?_
 obtain ⟨K0, hK0, gK0⟩ : ∃ K, k ≤ K ∧ K ≤ k := ⟨k, Nat.le_refl k, Nat.le_refl k⟩
 refine AGr.canon id (AGr.loopI (n := k) (fun k s => k ≤ K0 ∧ ∃ (x0 : List S35) (x1 : Int) (x5 : Int), laws_heldVeneerS.l0 k x0 x1 x5 = some r ∧ s = St.of [(0, vR 36 (x0.map c35)), (1, vI x1), (5, vI x5)] []) ⟨hK0, _, _, _, H, rfl⟩ ?_ ?_) ⟨rfl, rfl, rfl, trivial⟩ trivial rfl
 ·rintro _ ⟨_, _, _, _, H, _⟩
  cases H
 ·clear H hK0
  rintro k ih0 _ ⟨hK0, x0, x1, x5, H, rfl⟩
  unfold laws_heldVeneerS.l0 at H
  refine AG.seq ?_
  refine AG.seq ?_
  refine AG.region HM ?_
  refine a_move (v := vI _) ?_
  refine a_move (v := vR _ _) ?_
  refine a_lenR ?_ Tryd.underlying22
  refine a_int (u := .bool (decide (x5 < (x0.length : Int)))) ?_
  refine RA.nil nofun ?_
  by_cases hc1 : x5 < (x0.length : Int)
  ·rw [if_pos hc1] at H
   refine AG.yes rfl (decide_eq_true hc1) ?_
   refine AG.skip ?_
   refine AG.seq ?_
   refine AG.block ?_
   refine AG.seq ?_
   refine AG.seq ?_
   refine AG.region HM ?_
   refine a_move (v := vR _ _) ?_
   refine a_move (v := vI _) ?_
   by_cases hc2 : 0 ≤ x5
   ·rw [if_pos hc2] at H
    refine a_ixR (el := c35 (rd35 x0 x5)) ?_ ⟨hc2, hc1⟩ T36 Tryd.underlying22 (hel := R35 hc2 hc1)
    refine a_faR (cells' := [_, _, _]) ?_ D36_0
    refine a_ldR (v := vS _) ?_ T9
    refine a_move (v := vI _) ?_
    obtain ⟨t3, e4, H⟩ := bindO H
    refine a_call (v := vS t3) (nk := []) (L := []) ?_ rfl (laws_markText.ok e4) id (qd qn) trivial trivial trivial rfl
    refine a_bin (u := .bool (!(((rd35 x0 x5).f0).toList == t3.toList))) ?_
    refine RA.nil (fun _ => by kernel_rfl) ?_
    by_cases hc5 : ((rd35 x0 x5).f0).toList = t3.toList
    ·rw [if_pos hc5] at H
     refine AG.no rfl (by rw [beq_iff_eq.2 hc5]; rfl) ?_
     refine AG.skip ?_
     refine AG.seq ?_
     refine AG.region HM ?_
     refine a_move (v := vI _) ?_
     refine a_int (u := .int .i64 (wrap64 (x1 + 1))) ?_
     refine a_move (v := vI _) ?_
     refine RA.nil nofun ?_
     refine AG.seq ?_
     refine AG.seq ?_
     refine AG.region HM ?_
     refine a_move (v := vR _ _) ?_
     refine a_move (v := vI _) ?_
     refine a_ixR (el := c35 (rd35 x0 x5)) ?_ ⟨hc2, hc1⟩ T36 Tryd.underlying22 (hel := R35 hc2 hc1)
     refine a_faR (cells' := [_, _]) ?_ D36_1
     refine a_ldR (v := vI _) ?_ T2
     refine a_move (v := vI _) ?_
     refine a_int (u := .bool ((((rd35 x0 x5).f1) != (wrap64 (x1 + 1))))) ?_
     refine RA.nil nofun ?_
     by_cases hc6 : ((rd35 x0 x5).f1) = (wrap64 (x1 + 1))
     ·rw [if_pos hc6] at H
      refine AG.no rfl (bne_eq_false_iff_eq.2 hc6) ?_
      refine AG.skip ?_
      refine AG.seq ?_
      refine AG.region HM ?_
      refine a_move (v := vI _) ?_
      refine a_int (u := .int .i64 (wrap64 ((wrap64 (x1 + 1)) + 1))) ?_
      refine a_move (v := vI _) ?_
      refine RA.nil nofun ?_
      refine AG.seq ?_
      refine AG.seq ?_
      refine AG.region HM ?_
      refine a_move (v := vR _ _) ?_
      refine a_move (v := vI _) ?_
      refine a_ixR (el := c35 (rd35 x0 x5)) ?_ ⟨hc2, hc1⟩ T36 Tryd.underlying22 (hel := R35 hc2 hc1)
      refine a_faR (cells' := [_]) ?_ D36_2
      refine a_ldR (v := vI _) ?_ T2
      refine a_move (v := vI _) ?_
      refine a_int (u := .bool ((((rd35 x0 x5).f2) != (wrap64 ((wrap64 (x1 + 1)) + 1))))) ?_
      refine RA.nil nofun ?_
      by_cases hc7 : ((rd35 x0 x5).f2) = (wrap64 ((wrap64 (x1 + 1)) + 1))
      ·rw [if_pos hc7] at H
       refine AG.no rfl (bne_eq_false_iff_eq.2 hc7) ?_
       refine AG.skip ?_
       refine AG.region HM ?_
       refine a_move (v := vI _) ?_
       refine a_int (u := .int .i64 (wrap64 ((wrap64 ((wrap64 (x1 + 1)) + 1)) + 1))) ?_
       refine a_move (v := vI _) ?_
       refine RA.nil nofun ?_
       refine AG.region HM ?_
       refine a_move (v := vI _) ?_
       refine a_int (u := .int .i64 (wrap64 (x5 + 1))) ?_
       refine a_move (v := vI _) ?_
       refine RA.nil nofun ?_
       exact AGr.canon id (ih0 _ (by omega) _ ⟨by omega, _, _, _, H, rfl⟩) ⟨rfl, rfl, rfl, trivial⟩ trivial rfl
      ·rw [if_neg hc7] at H
       refine AG.yes rfl (bne_iff_ne.2 hc7) ?_
       refine AG.seq ?_
       refine AG.region HM ?_
       refine a_move (v := vI _) ?_
       refine RA.nil nofun ?_
       refine AG.ret ?_
       obtain rfl := Option.some.inj H
       exact RetP.mk id ⟨rfl, trivial⟩ trivial rfl
     ·rw [if_neg hc6] at H
      refine AG.yes rfl (bne_iff_ne.2 hc6) ?_
      refine AG.seq ?_
      refine AG.region HM ?_
      refine a_move (v := vI _) ?_
      refine RA.nil nofun ?_
      refine AG.ret ?_
      obtain rfl := Option.some.inj H
      exact RetP.mk id ⟨rfl, trivial⟩ trivial rfl
    ·rw [if_neg hc5] at H
     refine AG.yes rfl (by rw [beq_eq_false_iff_ne.2 hc5]; rfl) ?_
     refine AG.seq ?_
     refine AG.region HM ?_
     refine a_move (v := vI _) ?_
     refine RA.nil nofun ?_
     refine AG.ret ?_
     obtain rfl := Option.some.inj H
     exact RetP.mk id ⟨rfl, trivial⟩ trivial rfl
   ·rw [if_neg hc2] at H
    cases H
  ·rw [if_neg hc1] at H
   refine AG.no rfl (decide_eq_false hc1) ?_
   refine AG.exit ?_
   refine AG.seq ?_
   refine AG.region HM ?_
   refine a_move (v := vI _) ?_
   refine a_move (v := vI _) ?_
   refine RA.nil nofun ?_
   refine AG.ret ?_
   obtain rfl := Option.some.inj H
   exact RetP.mk id ⟨rfl, trivial⟩ trivial rfl
/-! ### laws_heldInt64S: function 22 -/
def laws_heldInt64S.l0 : Nat → List Int → Int → Int → Option (Int)
 | 0, _, _, _ => none
 | k + 1, x0, x1, x5 => if x5 < (x0.length : Int) then (if 0 ≤ x5 then (if (rd2 x0 x5) = x1 then (laws_heldInt64S.l0 k x0 (wrap64 (x1 + 1)) (wrap64 (x5 + 1))) else (some (-1))) else (none)) else (some x1)
def laws_heldInt64S.f (k : Nat) (l0 : List Int) (a1 : Int) : Option (Int) := laws_heldInt64S.l0 k l0 a1 0
set_option maxRecDepth 100000 in
theorem laws_heldInt64S.ok {k : Nat} {l0 : List Int} {a1 : Int} {r : Int} (H : laws_heldInt64S.f k l0 a1 = some r) : OkF Tryd.prog 22 [vR 2 (l0.map c2), vI a1] [] (.c (.d (.v (.int .i64 r)))) [] := by
 unfold laws_heldInt64S.f at H
 refine OkF.of (N := 21) (rs := [4]) (avs := [.c (.d (.v (.int .i64 r)))]) Tryd.func22 rfl rfl (fun _ _ => results_tmp rfl _ _ _) (by decide) rfl rfl rfl rfl (fun w0 S => ?_)
 refine AG.seq ?_
 refine AG.region HM ?_
 refine a_move (v := vI _) ?_
 refine RA.nil nofun ?_
 refine AG.seq ?_
 refine AG.seq ?_
 refine AG.region HM ?_
 refine a_move (v := vI _) ?_
 refine RA.nil nofun ?_
 refine AG.block ?_
 refine AG.loop ?_
 obtain ⟨K0, hK0, gK0⟩ : ∃ K, k ≤ K ∧ K ≤ k := ⟨k, Nat.le_refl k, Nat.le_refl k⟩
 refine AGr.canon id (AGr.loopI (n := k) (fun k s => k ≤ K0 ∧ ∃ (x0 : List Int) (x1 : Int) (x5 : Int), laws_heldInt64S.l0 k x0 x1 x5 = some r ∧ s = St.of [(0, vR 2 (x0.map c2)), (1, vI x1), (5, vI x5)] []) ⟨hK0, _, _, _, H, rfl⟩ ?_ ?_) ⟨rfl, rfl, rfl, trivial⟩ trivial rfl
 ·rintro _ ⟨_, _, _, _, H, _⟩
  cases H
 ·clear H hK0
  rintro k ih0 _ ⟨hK0, x0, x1, x5, H, rfl⟩
  unfold laws_heldInt64S.l0 at H
  refine AG.seq ?_
  refine AG.seq ?_
  refine AG.region HM ?_
  refine a_move (v := vI _) ?_
  refine a_move (v := vR _ _) ?_
  refine a_lenR ?_ Tryd.underlying23
  refine a_int (u := .bool (decide (x5 < (x0.length : Int)))) ?_
  refine RA.nil nofun ?_
  by_cases hc1 : x5 < (x0.length : Int)
  ·rw [if_pos hc1] at H
   refine AG.yes rfl (decide_eq_true hc1) ?_
   refine AG.skip ?_
   refine AG.seq ?_
   refine AG.block ?_
   refine AG.seq ?_
   refine AG.seq ?_
   refine AG.region HM ?_
   refine a_move (v := vR _ _) ?_
   refine a_move (v := vI _) ?_
   by_cases hc2 : 0 ≤ x5
   ·rw [if_pos hc2] at H
    refine a_ixR (el := c2 (rd2 x0 x5)) ?_ ⟨hc2, hc1⟩ T2 Tryd.underlying23 (hel := R2 hc2 hc1)
    refine a_ldR (v := vI _) ?_ T2
    refine a_move (v := vI _) ?_
    refine a_int (u := .bool (((rd2 x0 x5) != x1))) ?_
    refine RA.nil nofun ?_
    by_cases hc3 : (rd2 x0 x5) = x1
    ·rw [if_pos hc3] at H
     refine AG.no rfl (bne_eq_false_iff_eq.2 hc3) ?_
     refine AG.skip ?_
     refine AG.region HM ?_
     refine a_move (v := vI _) ?_
     refine a_int (u := .int .i64 (wrap64 (x1 + 1))) ?_
     refine a_move (v := vI _) ?_
     refine RA.nil nofun ?_
     refine AG.region HM ?_
     refine a_move (v := vI _) ?_
     refine a_int (u := .int .i64 (wrap64 (x5 + 1))) ?_
     refine a_move (v := vI _) ?_
     refine RA.nil nofun ?_
     exact AGr.canon id (ih0 _ (by omega) _ ⟨by omega, _, _, _, H, rfl⟩) ⟨rfl, rfl, rfl, trivial⟩ trivial rfl
    ·rw [if_neg hc3] at H
     refine AG.yes rfl (bne_iff_ne.2 hc3) ?_
     refine AG.seq ?_
     refine AG.region HM ?_
     refine a_move (v := vI _) ?_
     refine RA.nil nofun ?_
     refine AG.ret ?_
     obtain rfl := Option.some.inj H
     exact RetP.mk id ⟨rfl, trivial⟩ trivial rfl
   ·rw [if_neg hc2] at H
    cases H
  ·rw [if_neg hc1] at H
   refine AG.no rfl (decide_eq_false hc1) ?_
   refine AG.exit ?_
   refine AG.seq ?_
   refine AG.region HM ?_
   refine a_move (v := vI _) ?_
   refine a_move (v := vI _) ?_
   refine RA.nil nofun ?_
   refine AG.ret ?_
   obtain rfl := Option.some.inj H
   exact RetP.mk id ⟨rfl, trivial⟩ trivial rfl
/-! ### laws_heldPacket: function 8 -/
def laws_heldPacket.f (k : Nat) (l0_0 : List S35) (l0_1 : List Int) (a1 : Int) : Option (Int) := (laws_heldVeneerS.f k l0_0 a1).bind fun t1 => (if t1 < 0 then (some (-1)) else ((laws_heldInt64S.f k l0_1 t1).bind fun t4 => (if t4 < 0 then (some (-1)) else (some t4))))
set_option maxRecDepth 100000 in
theorem laws_heldPacket.ok {k : Nat} {l0_0 : List S35} {l0_1 : List Int} {a1 : Int} {r : Int} (H : laws_heldPacket.f k l0_0 l0_1 a1 = some r) : OkF Tryd.prog 8 [.agg [.d (.row 36 (l0_0.map c35)), .d (.row 2 (l0_1.map c2))], vI a1] [] (.c (.d (.v (.int .i64 r)))) [] := by
 unfold laws_heldPacket.f at H
 refine OkF.of (N := 18) (rs := [4]) (avs := [.c (.d (.v (.int .i64 r)))]) Tryd.func8 rfl rfl (fun _ _ => results_tmp rfl _ _ _) (by decide) rfl rfl rfl rfl (fun w0 S => ?_)
 refine AG.seq ?_
 refine AG.region HM ?_
 refine a_box 200 ?_
 refine a_move (v := vI _) ?_
 refine RA.nil nofun ?_
 refine AG.seq ?_
 refine AG.region HM ?_
 refine a_faB (q := 0) ?_ D25_0
 refine a_ldB (v := vR _ _) ?_ T22
 refine a_move (v := vI _) ?_
 obtain ⟨t1, e2, H⟩ := bindO H
 refine a_call (v := vI t1) (nk := []) (L := []) ?_ rfl (laws_heldVeneerS.ok e2) id (qd (qd qn)) trivial trivial trivial rfl
 refine a_move (v := vI _) ?_
 refine RA.nil nofun ?_
 refine AG.seq ?_
 refine AG.seq ?_
 refine AG.region HM ?_
 refine a_move (v := vI _) ?_
 refine a_int (u := .bool (decide (t1 < 0))) ?_
 refine RA.nil nofun ?_
 by_cases hc3 : t1 < 0
 ·rw [if_pos hc3] at H
  refine AG.yes rfl (decide_eq_true hc3) ?_
  refine AG.seq ?_
  refine AG.region HM ?_
  refine a_move (v := vI _) ?_
  refine RA.nil nofun ?_
  refine AG.ret ?_
  obtain rfl := Option.some.inj H
  exact RetP.mk id ⟨rfl, trivial⟩ trivial rfl
 ·rw [if_neg hc3] at H
  refine AG.no rfl (decide_eq_false hc3) ?_
  refine AG.skip ?_
  refine AG.seq ?_
  refine AG.region HM ?_
  refine a_faB (q := 1) ?_ D25_1
  refine a_ldB (v := vR _ _) ?_ T23
  refine a_move (v := vI _) ?_
  obtain ⟨t4, e5, H⟩ := bindO H
  refine a_call (v := vI t4) (nk := []) (L := []) ?_ rfl (laws_heldInt64S.ok e5) id (qd (qd qn)) trivial trivial trivial rfl
  refine a_move (v := vI _) ?_
  refine RA.nil nofun ?_
  refine AG.seq ?_
  refine AG.seq ?_
  refine AG.region HM ?_
  refine a_move (v := vI _) ?_
  refine a_int (u := .bool (decide (t4 < 0))) ?_
  refine RA.nil nofun ?_
  by_cases hc6 : t4 < 0
  ·rw [if_pos hc6] at H
   refine AG.yes rfl (decide_eq_true hc6) ?_
   refine AG.seq ?_
   refine AG.region HM ?_
   refine a_move (v := vI _) ?_
   refine RA.nil nofun ?_
   refine AG.ret ?_
   obtain rfl := Option.some.inj H
   exact RetP.mk id ⟨rfl, trivial⟩ trivial rfl
  ·rw [if_neg hc6] at H
   refine AG.no rfl (decide_eq_false hc6) ?_
   refine AG.skip ?_
   refine AG.seq ?_
   refine AG.region HM ?_
   refine a_move (v := vI _) ?_
   refine a_move (v := vI _) ?_
   refine RA.nil nofun ?_
   refine AG.ret ?_
   obtain rfl := Option.some.inj H
   exact RetP.mk id ⟨rfl, trivial⟩ trivial rfl
/-! ### laws_FnExactReadPacket: function 3 -/
mutual
def laws_FnExactReadPacket.j0 : Nat → ByteArray → List S35 → List Int → Bool → List S35 → List Int → Bool → Option (Bool)
 | 0, _, _, _, _, _, _, _ => none
 | k + 1, x0, y207_0, y207_1, x4, y210_0, y210_1, x32 => if x32 = true then (some false) else ((laws_markPacket.f k y210_0 y210_1 1).bind fun bt14 => ((laws_heldPacket.f k bt14.2.1 bt14.2.2 1).bind fun t18 => (if t18 < 0 then (some false) else (if t18 = bt14.1 then ((impl_ReadPacket.f k x0).bind fun bt22 => ((laws_eqPacket.f k bt22.1 bt22.2.1 y207_0 y207_1).bind fun t26 => (if t26 = true then (laws_FnExactReadPacket.j1 k bt14.2.1 bt14.2.2 bt14.1 (!(bt22.2.2 == x4))) else (laws_FnExactReadPacket.j1 k bt14.2.1 bt14.2.2 bt14.1 true)))) else (some false)))))
def laws_FnExactReadPacket.j1 : Nat → List S35 → List Int → Int → Bool → Option (Bool)
 | 0, _, _, _, _ => none
 | k + 1, y219_0, y219_1, x7, x57 => if x57 = true then (some false) else ((laws_heldPacket.f k y219_0 y219_1 1).bind fun t30 => (if t30 < 0 then (some false) else (if t30 = x7 then (some true) else (some false))))
end
def laws_FnExactReadPacket.f (k : Nat) (a0 : ByteArray) : Option (Bool) := if (a0.size : Int) > 1048576 then (some true) else ((spec_ReadPacket.f k a0).bind fun bt2 => ((impl_ReadPacket.f k a0).bind fun bt6 => ((laws_eqPacket.f k bt6.1 bt6.2.1 bt2.1 bt2.2.1).bind fun t10 => (if t10 = true then (laws_FnExactReadPacket.j0 k a0 bt2.1 bt2.2.1 bt2.2.2 bt6.1 bt6.2.1 (!(bt6.2.2 == bt2.2.2))) else (laws_FnExactReadPacket.j0 k a0 bt2.1 bt2.2.1 bt2.2.2 bt6.1 bt6.2.1 true)))))
set_option maxRecDepth 100000 in
theorem laws_FnExactReadPacket.ok {k : Nat} {a0 : ByteArray} {r : Bool} (H : laws_FnExactReadPacket.f k a0 = some r) : OkW Tryd.prog V 3 [vS a0] (.c (.d (.v (.bool r)))) [] := by
 unfold laws_FnExactReadPacket.f at H
 refine OkW.of (N := 66) (rs := [2]) (avs := [.c (.d (.v (.bool r)))]) Tryd.func3 rfl rfl (fun _ _ => results_tmp rfl _ _ _) (by decide) rfl rfl rfl rfl (fun w0 S hV_ hS_ => ?_)
 refine AG.seq ?_
 refine AG.region HM ?_
 refine a_move (v := vB _) ?_
 refine RA.nil nofun ?_
 refine AG.seq ?_
 refine AG.seq ?_
 refine AG.region HM ?_
 refine a_move (v := vS _) ?_
 refine a_lenS ?_ Tryd.underlying9
 refine a_int (u := .bool (decide ((a0.size : Int) > 1048576))) ?_
 refine RA.nil nofun ?_
 by_cases hc1 : (a0.size : Int) > 1048576
 ·rw [if_pos hc1] at H
  refine AG.yes rfl (decide_eq_true hc1) ?_
  refine AG.seq ?_
  refine AG.region HM ?_
  refine a_move (v := vB _) ?_
  refine RA.nil nofun ?_
  refine AG.ret ?_
  obtain rfl := Option.some.inj H
  exact RetP.mk id ⟨rfl, trivial⟩ trivial rfl
 ·rw [if_neg hc1] at H
  refine AG.no rfl (decide_eq_false hc1) ?_
  refine AG.skip ?_
  refine AG.seq ?_
  refine AG.region HM ?_
  refine a_move (v := vS _) ?_
  obtain ⟨⟨t2, t3, t4⟩, e5, H⟩ := bindO H
  refine a_call (v := .tup [.agg [.own 200 t2.length, .own 201 t3.length], .c (.d (.v (.bool t4)))]) (nk := [(200, .row 36 (t2.map c35)), (201, .row 2 (t3.map c2))]) (L := []) ?_ rfl (spec_ReadPacket.ok e5) (fun κ => cond (Nat.beq κ 200) 100 (cond (Nat.beq κ 201) 101 (κ))) (qd qn) trivial ⟨rfl, rfl, trivial⟩ ⟨rfl, rfl, trivial⟩ rfl
  refine a_move (v := .tup [_, _]) ?_
  refine a_ext (v := .agg [_, _]) ?_
  refine a_ext (v := vB _) ?_
  refine a_alloc (cs := [_, _]) 202 ?_ T25
  refine a_stB (cs' := [_, _]) ?_ T25
  refine a_move (v := vB _) ?_
  refine RA.nil nofun ?_
  refine AG.seq ?_
  refine AG.region HM ?_
  refine a_move (v := vS _) ?_
  obtain ⟨⟨t6, t7, t8⟩, e9, H⟩ := bindO H
  refine a_callG (v := .tup [.agg [.own 203 t6.length, .own 204 t7.length], .c (.d (.v (.bool t8)))]) (nk := [(203, .row 36 (t6.map c35)), (204, .row 2 (t7.map c2))]) (L := []) ?_ rfl (fun w_ hf_ => V_fr hV_ hS_ hf_) (impl_ReadPacket.ok e9) (fun κ => cond (Nat.beq κ 203) 100 (cond (Nat.beq κ 204) 101 (κ))) (qd qn) trivial ⟨rfl, rfl, trivial⟩ ⟨rfl, rfl, trivial⟩ rfl
  refine a_move (v := .tup [_, _]) ?_
  refine a_ext (v := .agg [_, _]) ?_
  refine a_ext (v := vB _) ?_
  refine a_alloc (cs := [_, _]) 205 ?_ T25
  refine a_stB (cs' := [_, _]) ?_ T25
  refine a_move (v := vB _) ?_
  refine RA.nil nofun ?_
  refine AG.seq ?_
  refine AG.seq ?_
  refine AG.joinR (fun s => ∃ q, q ≤ k ∧ ∃ (x0 : ByteArray) (y207_0 : List S35) (y207_1 : List Int) (x4 : Bool) (y210_0 : List S35) (y210_1 : List Int) (x32 : Bool), laws_FnExactReadPacket.j0 q x0 y207_0 y207_1 x4 y210_0 y210_1 x32 = some r ∧ s = St.of [(0, vS x0), (3, .c (.ptr 207 0)), (4, vB x4), (5, .c (.ptr 210 0)), (32, vB x32)] [(207, .box 25 [.own 208 y207_0.length, .own 209 y207_1.length]), (208, .row 36 (y207_0.map c35)), (209, .row 2 (y207_1.map c2)), (210, .box 25 [.own 211 y210_0.length, .own 212 y210_1.length]), (211, .row 36 (y210_0.map c35)), (212, .row 2 (y210_1.map c2))]) ?_ ?_
  ·skip
   refine AG.region HM ?_
   refine a_ldB (v := .agg [_, _]) ?_ T25
   refine a_ldB (v := .agg [_, _]) ?_ T25
   obtain ⟨t10, e11, H⟩ := bindO H
   refine a_call (v := vB t10) (nk := []) (L := [(203, _), (204, _), (200, _), (201, _)]) ?_ rfl (laws_eqPacket.ok e11) id (qm (eC rO (eC rO eN)) (qm (eC rO (eC rO eN)) qn)) ⟨rfl, rfl, rfl, rfl, trivial⟩ trivial trivial rfl
   refine a_un (u := .bool (!t10)) ?_
   refine a_move (v := vB _) ?_
   by_cases hc12 : t10 = true
   ·rw [if_pos hc12] at H
    refine a_move (v := vB _) ?_ (hg := Gs.yes rfl rfl rfl (congrArg Bool.not hc12))
    refine a_move (v := vB _) ?_ (hg := Gs.yes rfl rfl rfl (congrArg Bool.not hc12))
    refine a_binB (p := t8) (q := t4) (b := (!(t8 == t4))) ?_ Tryd.underlying4 (.inr ⟨rfl, rfl⟩) (hg := Gs.yes rfl rfl rfl (congrArg Bool.not hc12))
    refine a_pick (b := false) (v := vB _) ?_ (congrArg Bool.not hc12)
    refine RA.nil nofun ?_
    exact CanR.mk (fun κ => cond (Nat.beq κ 207) 202 (cond (Nat.beq κ 208) 200 (cond (Nat.beq κ 209) 201 (cond (Nat.beq κ 210) 205 (cond (Nat.beq κ 211) 203 (cond (Nat.beq κ 212) 204 (κ))))))) ⟨_, (by omega), _, _, _, _, _, _, _, H, rfl⟩ ⟨rfl, rfl, rfl, rfl, rfl, trivial⟩ ⟨rfl, rfl, rfl, rfl, rfl, rfl, trivial⟩ rfl
   ·rw [if_neg hc12] at H
    refine RA.skip rfl rfl rfl rfl rfl (congrArg Bool.not (Bool.eq_false_iff.2 hc12)) (by decide) ?_
    refine RA.skip rfl rfl rfl rfl rfl (congrArg Bool.not (Bool.eq_false_iff.2 hc12)) (by decide) ?_
    refine RA.skip rfl rfl rfl rfl rfl (congrArg Bool.not (Bool.eq_false_iff.2 hc12)) (by decide) ?_
    refine a_pick (b := true) (v := vB _) ?_ (congrArg Bool.not (Bool.eq_false_iff.2 hc12))
    refine RA.nil nofun ?_
    exact CanR.mk (fun κ => cond (Nat.beq κ 207) 202 (cond (Nat.beq κ 208) 200 (cond (Nat.beq κ 209) 201 (cond (Nat.beq κ 210) 205 (cond (Nat.beq κ 211) 203 (cond (Nat.beq κ 212) 204 (κ))))))) ⟨_, (by omega), _, _, _, _, _, _, _, H, rfl⟩ ⟨rfl, rfl, rfl, rfl, rfl, trivial⟩ ⟨rfl, rfl, rfl, rfl, rfl, rfl, trivial⟩ rfl
  ·clear H
   rintro _ ⟨k, hj0, x0, y207_0, y207_1, x4, y210_0, y210_1, x32, H, rfl⟩
   cases k with
   | zero => cases H
   | succ k =>
    rw [laws_FnExactReadPacket.j0] at H
    by_cases hc13 : x32 = true
    ·rw [if_pos hc13] at H
     refine AG.yes rfl hc13 ?_
     refine AG.seq ?_
     refine AG.region HM ?_
     refine a_move (v := vB _) ?_
     refine RA.nil nofun ?_
     refine AG.ret ?_
     obtain rfl := Option.some.inj H
     exact RetP.mk id ⟨rfl, trivial⟩ trivial rfl
    ·rw [if_neg hc13] at H
     refine AG.no rfl (Bool.eq_false_iff.2 hc13) ?_
     refine AG.skip ?_
     refine AG.seq ?_
     refine AG.region HM ?_
     refine a_move (v := vI _) ?_
     refine RA.nil nofun ?_
     refine AG.seq ?_
     refine AG.region HM ?_
     refine a_ldB (v := .agg [_, _]) ?_ T25
     refine a_move (v := vI _) ?_
     obtain ⟨⟨t14, t15, t16⟩, e17, H⟩ := bindO H
     refine a_callM (v := vI t14) (nk := []) (L := []) (Mk := [(211, _), (212, _)]) (ck := [(211, .row 36 (t15.map c35)), (212, .row 2 (t16.map c2))]) ?_ rfl (laws_markPacket.ok e17) (fun κ => cond (Nat.beq κ 0) 211 (cond (Nat.beq κ 1) 212 (κ))) (fun κ => cond (Nat.beq κ 211) 0 (cond (Nat.beq κ 212) 1 (κ))) (mcA (kO (kO k0)) (mcD m0)) trivial ⟨rfl, rfl, trivial⟩ trivial ⟨rfl, rfl, trivial⟩ trivial ⟨rfl, rfl, trivial⟩ rfl rfl rfl
     refine a_move (v := vI _) ?_
     refine RA.nil nofun ?_
     refine AG.relen 211 t15.length ?_
     refine AG.relen 212 t16.length ?_
     refine AG.seq ?_
     refine AG.region HM ?_
     refine a_move (v := vI _) ?_
     refine RA.nil nofun ?_
     refine AG.seq ?_
     refine AG.region HM ?_
     refine a_ldB (v := .agg [_, _]) ?_ T25
     refine a_move (v := vI _) ?_
     obtain ⟨t18, e19, H⟩ := bindO H
     refine a_call (v := vI t18) (nk := []) (L := [(211, _), (212, _)]) ?_ rfl (laws_heldPacket.ok e19) id (qm (eC rO (eC rO eN)) (qd qn)) ⟨rfl, rfl, trivial⟩ trivial trivial rfl
     refine a_move (v := vI _) ?_
     refine RA.nil nofun ?_
     refine AG.seq ?_
     refine AG.seq ?_
     refine AG.region HM ?_
     refine a_move (v := vI _) ?_
     refine a_int (u := .bool (decide (t18 < 0))) ?_
     refine RA.nil nofun ?_
     by_cases hc20 : t18 < 0
     ·rw [if_pos hc20] at H
      refine AG.yes rfl (decide_eq_true hc20) ?_
      refine AG.seq ?_
      refine AG.region HM ?_
      refine a_move (v := vB _) ?_
      refine RA.nil nofun ?_
      refine AG.ret ?_
      obtain rfl := Option.some.inj H
      exact RetP.mk id ⟨rfl, trivial⟩ trivial rfl
     ·rw [if_neg hc20] at H
      refine AG.no rfl (decide_eq_false hc20) ?_
      refine AG.skip ?_
      refine AG.seq ?_
      refine AG.seq ?_
      refine AG.region HM ?_
      refine a_move (v := vI _) ?_
      refine a_move (v := vI _) ?_
      refine a_int (u := .bool ((t18 != t14))) ?_
      refine RA.nil nofun ?_
      by_cases hc21 : t18 = t14
      ·rw [if_pos hc21] at H
       refine AG.no rfl (bne_eq_false_iff_eq.2 hc21) ?_
       refine AG.skip ?_
       refine AG.seq ?_
       refine AG.region HM ?_
       refine a_move (v := vS _) ?_
       obtain ⟨⟨t22, t23, t24⟩, e25, H⟩ := bindO H
       refine a_callG (v := .tup [.agg [.own 215 t22.length, .own 216 t23.length], .c (.d (.v (.bool t24)))]) (nk := [(215, .row 36 (t22.map c35)), (216, .row 2 (t23.map c2))]) (L := []) ?_ rfl (fun w_ hf_ => V_fr hV_ hS_ hf_) (impl_ReadPacket.ok e25) (fun κ => cond (Nat.beq κ 215) 100 (cond (Nat.beq κ 216) 101 (κ))) (qd qn) trivial ⟨rfl, rfl, trivial⟩ ⟨rfl, rfl, trivial⟩ rfl
       refine a_move (v := .tup [_, _]) ?_
       refine a_ext (v := .agg [_, _]) ?_
       refine a_ext (v := vB _) ?_
       refine a_alloc (cs := [_, _]) 217 ?_ T25
       refine a_stB (cs' := [_, _]) ?_ T25
       refine a_move (v := vB _) ?_
       refine RA.nil nofun ?_
       refine AG.seq ?_
       refine AG.seq ?_
       refine AG.joinR (fun s => ∃ q, q ≤ k ∧ ∃ (y219_0 : List S35) (y219_1 : List Int) (x7 : Int) (x57 : Bool), laws_FnExactReadPacket.j1 q y219_0 y219_1 x7 x57 = some r ∧ s = St.of [(5, .c (.ptr 219 0)), (7, vI x7), (57, vB x57)] [(219, .box 25 [.own 220 y219_0.length, .own 221 y219_1.length]), (220, .row 36 (y219_0.map c35)), (221, .row 2 (y219_1.map c2))]) ?_ ?_
       ·skip
        refine AG.region HM ?_
        refine a_ldB (v := .agg [_, _]) ?_ T25
        refine a_ldB (v := .agg [_, _]) ?_ T25
        obtain ⟨t26, e27, H⟩ := bindO H
        refine a_call (v := vB t26) (nk := []) (L := [(215, _), (216, _), (208, _), (209, _)]) ?_ rfl (laws_eqPacket.ok e27) id (qm (eC rO (eC rO eN)) (qm (eC rO (eC rO eN)) qn)) ⟨rfl, rfl, rfl, rfl, trivial⟩ trivial trivial rfl
        refine a_un (u := .bool (!t26)) ?_
        refine a_move (v := vB _) ?_
        by_cases hc28 : t26 = true
        ·rw [if_pos hc28] at H
         refine a_move (v := vB _) ?_ (hg := Gs.yes rfl rfl rfl (congrArg Bool.not hc28))
         refine a_move (v := vB _) ?_ (hg := Gs.yes rfl rfl rfl (congrArg Bool.not hc28))
         refine a_binB (p := t24) (q := x4) (b := (!(t24 == x4))) ?_ Tryd.underlying4 (.inr ⟨rfl, rfl⟩) (hg := Gs.yes rfl rfl rfl (congrArg Bool.not hc28))
         refine a_pick (b := false) (v := vB _) ?_ (congrArg Bool.not hc28)
         refine RA.nil nofun ?_
         exact CanR.mk (fun κ => cond (Nat.beq κ 219) 210 (cond (Nat.beq κ 220) 211 (cond (Nat.beq κ 221) 212 (κ)))) ⟨_, (by omega), _, _, _, _, H, rfl⟩ ⟨rfl, rfl, rfl, trivial⟩ ⟨rfl, rfl, rfl, trivial⟩ rfl
        ·rw [if_neg hc28] at H
         refine RA.skip rfl rfl rfl rfl rfl (congrArg Bool.not (Bool.eq_false_iff.2 hc28)) (by decide) ?_
         refine RA.skip rfl rfl rfl rfl rfl (congrArg Bool.not (Bool.eq_false_iff.2 hc28)) (by decide) ?_
         refine RA.skip rfl rfl rfl rfl rfl (congrArg Bool.not (Bool.eq_false_iff.2 hc28)) (by decide) ?_
         refine a_pick (b := true) (v := vB _) ?_ (congrArg Bool.not (Bool.eq_false_iff.2 hc28))
         refine RA.nil nofun ?_
         exact CanR.mk (fun κ => cond (Nat.beq κ 219) 210 (cond (Nat.beq κ 220) 211 (cond (Nat.beq κ 221) 212 (κ)))) ⟨_, (by omega), _, _, _, _, H, rfl⟩ ⟨rfl, rfl, rfl, trivial⟩ ⟨rfl, rfl, rfl, trivial⟩ rfl
       ·clear H
        rintro _ ⟨k, hj1, y219_0, y219_1, x7, x57, H, rfl⟩
        cases k with
        | zero => cases H
        | succ k =>
         rw [laws_FnExactReadPacket.j1] at H
         by_cases hc29 : x57 = true
         ·rw [if_pos hc29] at H
          refine AG.yes rfl hc29 ?_
          refine AG.seq ?_
          refine AG.region HM ?_
          refine a_move (v := vB _) ?_
          refine RA.nil nofun ?_
          refine AG.ret ?_
          obtain rfl := Option.some.inj H
          exact RetP.mk id ⟨rfl, trivial⟩ trivial rfl
         ·rw [if_neg hc29] at H
          refine AG.no rfl (Bool.eq_false_iff.2 hc29) ?_
          refine AG.skip ?_
          refine AG.seq ?_
          refine AG.region HM ?_
          refine a_move (v := vI _) ?_
          refine RA.nil nofun ?_
          refine AG.seq ?_
          refine AG.region HM ?_
          refine a_ldB (v := .agg [_, _]) ?_ T25
          refine a_move (v := vI _) ?_
          obtain ⟨t30, e31, H⟩ := bindO H
          refine a_call (v := vI t30) (nk := []) (L := [(220, _), (221, _)]) ?_ rfl (laws_heldPacket.ok e31) id (qm (eC rO (eC rO eN)) (qd qn)) ⟨rfl, rfl, trivial⟩ trivial trivial rfl
          refine a_move (v := vI _) ?_
          refine RA.nil nofun ?_
          refine AG.seq ?_
          refine AG.seq ?_
          refine AG.region HM ?_
          refine a_move (v := vI _) ?_
          refine a_int (u := .bool (decide (t30 < 0))) ?_
          refine RA.nil nofun ?_
          by_cases hc32 : t30 < 0
          ·rw [if_pos hc32] at H
           refine AG.yes rfl (decide_eq_true hc32) ?_
           refine AG.seq ?_
           refine AG.region HM ?_
           refine a_move (v := vB _) ?_
           refine RA.nil nofun ?_
           refine AG.ret ?_
           obtain rfl := Option.some.inj H
           exact RetP.mk id ⟨rfl, trivial⟩ trivial rfl
          ·rw [if_neg hc32] at H
           refine AG.no rfl (decide_eq_false hc32) ?_
           refine AG.skip ?_
           refine AG.seq ?_
           refine AG.seq ?_
           refine AG.region HM ?_
           refine a_move (v := vI _) ?_
           refine a_move (v := vI _) ?_
           refine a_int (u := .bool ((t30 != x7))) ?_
           refine RA.nil nofun ?_
           by_cases hc33 : t30 = x7
           ·rw [if_pos hc33] at H
            refine AG.no rfl (bne_eq_false_iff_eq.2 hc33) ?_
            refine AG.skip ?_
            refine AG.seq ?_
            refine AG.region HM ?_
            refine a_move (v := vB _) ?_
            refine RA.nil nofun ?_
            refine AG.ret ?_
            obtain rfl := Option.some.inj H
            exact RetP.mk id ⟨rfl, trivial⟩ trivial rfl
           ·rw [if_neg hc33] at H
            refine AG.yes rfl (bne_iff_ne.2 hc33) ?_
            refine AG.seq ?_
            refine AG.region HM ?_
            refine a_move (v := vB _) ?_
            refine RA.nil nofun ?_
            refine AG.ret ?_
            obtain rfl := Option.some.inj H
            exact RetP.mk id ⟨rfl, trivial⟩ trivial rfl
      ·rw [if_neg hc21] at H
       refine AG.yes rfl (bne_iff_ne.2 hc21) ?_
       refine AG.seq ?_
       refine AG.region HM ?_
       refine a_move (v := vB _) ?_
       refine RA.nil nofun ?_
       refine AG.ret ?_
       obtain rfl := Option.some.inj H
       exact RetP.mk id ⟨rfl, trivial⟩ trivial rfl
/-- The one plain statement of laws_FnExactReadPacket. -/
def laws_FnExactReadPacket.Pure : Prop := ∀ (a0 : ByteArray), a0.size ≤ maxLen → ∃ k, laws_FnExactReadPacket.f k a0 = some true
end Go.Proofs.YtedakffelgmmnaaDoor.PFnExactReadPacket

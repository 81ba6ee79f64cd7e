/- What each function that the law FnExactDecreasingBlades reaches comes to, and the proof that its walk comes to it; laid by a program of this session. No condition. -/
import Derived.Test.YtedakffelgmmnaaAnE
import Derived.KernelRfl
import Derived.OwnWalk
import Derived.Test.YtedakffelgmmnaaProg
import Derived.Test.YtedakffelgmmnaaAnL
set_option linter.unusedVariables false
set_option linter.unusedSimpArgs false
namespace Go.Proofs.Ytedakffelgmmnaa.PFnExactDecreasingBlades
open Go Go.RowKit Go.Proofs.YtedakffelgmmnaaM Go.Proofs
theorem HM : Try.prog.follows .mixedOrders = true := by kernel_rfl
structure S31 where
 f0 : ByteArray
 f1 : Int
 f2 : Int
 f3 : Int
def z31 : S31 := ⟨(⟨#[]⟩ : ByteArray), 0, 0, 0⟩
structure S54 where
 f0 : ByteArray
 f1 : Int
 f2 : Int
def z54 : S54 := ⟨(⟨#[]⟩ : ByteArray), 0, 0⟩
def c54 (x : S54) : List DV := [.v (.string x.f0), .v (.int .i64 x.f1), .v (.int .i64 x.f2)]
def rd54 (l : List S54) (i : Int) : S54 := l.getD i.toNat z54
theorem R54 {l : List S54} {i : Int} {z : List DV} (h0 : 0 ≤ i) (h1 : i < (l.length : Int)) : (l.map c54).getD i.toNat z = c54 (rd54 l i) := by
 have : i.toNat < l.length := by omega
 simp [rd54, List.getD_eq_getElem?_getD, this]
theorem G54 {l : List S54} {i : Int} (h0 : 0 ≤ i) (h1 : i < (l.length : Int)) : (l.map c54)[i.toNat]? = some (c54 (rd54 l i)) := by
 have : i.toNat < l.length := by omega
 simp [rd54, List.getD_eq_getElem?_getD, this]
def c2 (x : Int) : List DV := [.v (.int .i64 x)]
def rd2 (l : List Int) (i : Int) : Int := l.getD i.toNat 0
theorem R2 {l : List Int} {i : Int} {z : List DV} (h0 : 0 ≤ i) (h1 : i < (l.length : Int)) : (l.map c2).getD i.toNat z = c2 (rd2 l i) := by
 have : i.toNat < l.length := by omega
 simp [rd2, List.getD_eq_getElem?_getD, this]
theorem G2 {l : List Int} {i : Int} (h0 : 0 ≤ i) (h1 : i < (l.length : Int)) : (l.map c2)[i.toNat]? = some (c2 (rd2 l i)) := by
 have : i.toNat < l.length := by omega
 simp [rd2, List.getD_eq_getElem?_getD, this]
def c3 (x : Int) : List DV := [.v (.int .i64 x)]
def rd3 (l : List Int) (i : Int) : Int := l.getD i.toNat 0
theorem R3 {l : List Int} {i : Int} {z : List DV} (h0 : 0 ≤ i) (h1 : i < (l.length : Int)) : (l.map c3).getD i.toNat z = c3 (rd3 l i) := by
 have : i.toNat < l.length := by omega
 simp [rd3, List.getD_eq_getElem?_getD, this]
theorem G3 {l : List Int} {i : Int} (h0 : 0 ≤ i) (h1 : i < (l.length : Int)) : (l.map c3)[i.toNat]? = some (c3 (rd3 l i)) := by
 have : i.toNat < l.length := by omega
 simp [rd3, List.getD_eq_getElem?_getD, this]
def c5 (x : Int) : List DV := [.v (.int .u8 x)]
def rd5 (l : List Int) (i : Int) : Int := l.getD i.toNat 0
theorem R5 {l : List Int} {i : Int} {z : List DV} (h0 : 0 ≤ i) (h1 : i < (l.length : Int)) : (l.map c5).getD i.toNat z = c5 (rd5 l i) := by
 have : i.toNat < l.length := by omega
 simp [rd5, List.getD_eq_getElem?_getD, this]
theorem G5 {l : List Int} {i : Int} (h0 : 0 ≤ i) (h1 : i < (l.length : Int)) : (l.map c5)[i.toNat]? = some (c5 (rd5 l i)) := by
 have : i.toNat < l.length := by omega
 simp [rd5, List.getD_eq_getElem?_getD, this]
def c31 (x : S31) : List DV := [.v (.string x.f0), .v (.int .i64 x.f1), .v (.int .i64 x.f2), .v (.int .i64 x.f3)]
def rd31 (l : List S31) (i : Int) : S31 := l.getD i.toNat z31
theorem R31 {l : List S31} {i : Int} {z : List DV} (h0 : 0 ≤ i) (h1 : i < (l.length : Int)) : (l.map c31).getD i.toNat z = c31 (rd31 l i) := by
 have : i.toNat < l.length := by omega
 simp [rd31, List.getD_eq_getElem?_getD, this]
theorem G31 {l : List S31} {i : Int} (h0 : 0 ≤ i) (h1 : i < (l.length : Int)) : (l.map c31)[i.toNat]? = some (c31 (rd31 l i)) := by
 have : i.toNat < l.length := by omega
 simp [rd31, List.getD_eq_getElem?_getD, this]
def c33 (x : List S54) : List DV := [.row 55 (x.map c54)]
def rd33 (l : List (List S54)) (i : Int) : List S54 := l.getD i.toNat []
theorem R33 {l : List (List S54)} {i : Int} {z : List DV} (h0 : 0 ≤ i) (h1 : i < (l.length : Int)) : (l.map c33).getD i.toNat z = c33 (rd33 l i) := by
 have : i.toNat < l.length := by omega
 simp [rd33, List.getD_eq_getElem?_getD, this]
theorem G33 {l : List (List S54)} {i : Int} (h0 : 0 ≤ i) (h1 : i < (l.length : Int)) : (l.map c33)[i.toNat]? = some (c33 (rd33 l i)) := by
 have : i.toNat < l.length := by omega
 simp [rd33, List.getD_eq_getElem?_getD, this]
theorem T9 : tyi Try.prog 9 = some (1, 16, [.string ⟨#[]⟩], false) := by kernel_rfl
theorem T55 : tyi Try.prog 55 = some (3, 32, [.string ⟨#[]⟩, .int .i64 0, .int .i64 0], true) := by kernel_rfl
theorem T2 : tyi Try.prog 2 = some (1, 8, [.int .i64 0], false) := by kernel_rfl
theorem T59 : tyi Try.prog 59 = some (3, 32, [.string ⟨#[]⟩, .int .i64 0, .int .i64 0], true) := by kernel_rfl
theorem T39 : tyi Try.prog 39 = some (4, 40, [.string ⟨#[]⟩, .int .i64 0, .int .i64 0, .int .i64 0], true) := by kernel_rfl
theorem T36 : tyi Try.prog 36 = some (1, 24, [.slice none 0 0], false) := by kernel_rfl
theorem T3 : tyi Try.prog 3 = some (1, 8, [.int .i64 0], false) := by kernel_rfl
theorem T5 : tyi Try.prog 5 = some (1, 1, [.int .u8 0], false) := by kernel_rfl
theorem T32 : tyi Try.prog 32 = some (4, 40, [.string ⟨#[]⟩, .int .i64 0, .int .i64 0, .int .i64 0], true) := by kernel_rfl
theorem N36 : eln Try.prog 36 = some 2 := by kernel_rfl
theorem N41 : eln Try.prog 41 = some 59 := by kernel_rfl
theorem N50 : eln Try.prog 50 = some 3 := by kernel_rfl
theorem N75 : eln Try.prog 75 = some 5 := by kernel_rfl
theorem D32_0 : fld Try.prog 32 0 = some (0, 1, false) := by kernel_rfl
theorem D55_0 : fld Try.prog 55 0 = some (0, 1, false) := by kernel_rfl
theorem D39_0 : fld Try.prog 39 0 = some (0, 1, false) := by kernel_rfl
theorem D39_1 : fld Try.prog 39 1 = some (1, 1, false) := by kernel_rfl
theorem D39_2 : fld Try.prog 39 2 = some (2, 1, false) := by kernel_rfl
theorem D39_3 : fld Try.prog 39 3 = some (3, 1, false) := by kernel_rfl
theorem D59_0 : fld Try.prog 59 0 = some (0, 1, false) := by kernel_rfl
theorem D59_1 : fld Try.prog 59 1 = some (1, 1, false) := by kernel_rfl
theorem D59_2 : fld Try.prog 59 2 = some (2, 1, false) := by kernel_rfl
theorem D32_1 : fld Try.prog 32 1 = some (1, 1, false) := by kernel_rfl
theorem D32_2 : fld Try.prog 32 2 = some (2, 1, false) := by kernel_rfl
theorem D32_3 : fld Try.prog 32 3 = some (3, 1, false) := by kernel_rfl
theorem D55_1 : fld Try.prog 55 1 = some (1, 1, false) := by kernel_rfl
theorem D55_2 : fld Try.prog 55 2 = some (2, 1, false) := by kernel_rfl
/-! ### laws_szBlade: function 15 -/
def laws_szBlade.f (a0_0 : ByteArray) (a0_1 : Int) (a0_2 : Int) (a0_3 : Int) (a1 : Int) : Option (Int) := if (wrap64 (a1 - (a0_0.size : Int))) < 0 then (some (-1)) else (some (wrap64 (a1 - (a0_0.size : Int))))
set_option maxRecDepth 100000 in
theorem laws_szBlade.ok {a0_0 : ByteArray} {a0_1 : Int} {a0_2 : Int} {a0_3 : Int} {a1 : Int} {r : Int} (H : laws_szBlade.f a0_0 a0_1 a0_2 a0_3 a1 = some r) : OkF Try.prog 15 [.agg [.d (.v (.string a0_0)), .d (.v (.int .i64 a0_1)), .d (.v (.int .i64 a0_2)), .d (.v (.int .i64 a0_3))], vI a1] [] (.c (.d (.v (.int .i64 r)))) [] := by
 unfold laws_szBlade.f at H
 refine OkF.of (N := 13) (rs := [4]) (avs := [.c (.d (.v (.int .i64 r)))]) Try.func15 rfl rfl (fun _ _ => results_tmp rfl _ _ _) (by decide) rfl rfl rfl rfl (fun w0 S => ?_)
 refine AG.seq ?_
 refine AG.region HM ?_
 refine a_box 200 ?_
 refine a_move (v := vI _) ?_
 refine RA.nil nofun ?_
 refine AG.seq ?_
 refine AG.region HM ?_
 refine a_move (v := vI _) ?_
 refine a_faB (q := 0) ?_ D32_0
 refine a_ldB (v := vS _) ?_ T9
 refine a_lenS ?_ Try.underlying9
 refine a_int (u := .int .i64 (wrap64 (a1 - (a0_0.size : Int)))) ?_
 refine a_move (v := vI _) ?_
 refine RA.nil nofun ?_
 refine AG.seq ?_
 refine AG.seq ?_
 refine AG.region HM ?_
 refine a_move (v := vI _) ?_
 refine a_int (u := .bool (decide ((wrap64 (a1 - (a0_0.size : Int))) < 0))) ?_
 refine RA.nil nofun ?_
 by_cases hc1 : (wrap64 (a1 - (a0_0.size : Int))) < 0
 ·rw [if_pos hc1] at H
  refine AG.yes rfl (decide_eq_true hc1) ?_
  refine AG.seq ?_
  refine AG.region HM ?_
  refine a_move (v := vI _) ?_
  refine RA.nil nofun ?_
  refine AG.ret ?_
  obtain rfl := Option.some.inj H
  exact RetP.mk id ⟨rfl, trivial⟩ trivial rfl
 ·rw [if_neg hc1] at H
  refine AG.no rfl (decide_eq_false hc1) ?_
  refine AG.skip ?_
  refine AG.seq ?_
  refine AG.region HM ?_
  refine a_move (v := vI _) ?_
  refine a_move (v := vI _) ?_
  refine RA.nil nofun ?_
  refine AG.ret ?_
  obtain rfl := Option.some.inj H
  exact RetP.mk id ⟨rfl, trivial⟩ trivial rfl
/-! ### laws_szCutting: function 33 -/
def laws_szCutting.f (a0_0 : ByteArray) (a0_1 : Int) (a0_2 : Int) (a1 : Int) : Option (Int) := if (wrap64 (a1 - (a0_0.size : Int))) < 0 then (some (-1)) else (some (wrap64 (a1 - (a0_0.size : Int))))
set_option maxRecDepth 100000 in
theorem laws_szCutting.ok {a0_0 : ByteArray} {a0_1 : Int} {a0_2 : Int} {a1 : Int} {r : Int} (H : laws_szCutting.f a0_0 a0_1 a0_2 a1 = some r) : OkF Try.prog 33 [.agg [.d (.v (.string a0_0)), .d (.v (.int .i64 a0_1)), .d (.v (.int .i64 a0_2))], vI a1] [] (.c (.d (.v (.int .i64 r)))) [] := by
 unfold laws_szCutting.f at H
 refine OkF.of (N := 13) (rs := [4]) (avs := [.c (.d (.v (.int .i64 r)))]) Try.func33 rfl rfl (fun _ _ => results_tmp rfl _ _ _) (by decide) rfl rfl rfl rfl (fun w0 S => ?_)
 refine AG.seq ?_
 refine AG.region HM ?_
 refine a_box 200 ?_
 refine a_move (v := vI _) ?_
 refine RA.nil nofun ?_
 refine AG.seq ?_
 refine AG.region HM ?_
 refine a_move (v := vI _) ?_
 refine a_faB (q := 0) ?_ D55_0
 refine a_ldB (v := vS _) ?_ T9
 refine a_lenS ?_ Try.underlying9
 refine a_int (u := .int .i64 (wrap64 (a1 - (a0_0.size : Int)))) ?_
 refine a_move (v := vI _) ?_
 refine RA.nil nofun ?_
 refine AG.seq ?_
 refine AG.seq ?_
 refine AG.region HM ?_
 refine a_move (v := vI _) ?_
 refine a_int (u := .bool (decide ((wrap64 (a1 - (a0_0.size : Int))) < 0))) ?_
 refine RA.nil nofun ?_
 by_cases hc1 : (wrap64 (a1 - (a0_0.size : Int))) < 0
 ·rw [if_pos hc1] at H
  refine AG.yes rfl (decide_eq_true hc1) ?_
  refine AG.seq ?_
  refine AG.region HM ?_
  refine a_move (v := vI _) ?_
  refine RA.nil nofun ?_
  refine AG.ret ?_
  obtain rfl := Option.some.inj H
  exact RetP.mk id ⟨rfl, trivial⟩ trivial rfl
 ·rw [if_neg hc1] at H
  refine AG.no rfl (decide_eq_false hc1) ?_
  refine AG.skip ?_
  refine AG.seq ?_
  refine AG.region HM ?_
  refine a_move (v := vI _) ?_
  refine a_move (v := vI _) ?_
  refine RA.nil nofun ?_
  refine AG.ret ?_
  obtain rfl := Option.some.inj H
  exact RetP.mk id ⟨rfl, trivial⟩ trivial rfl
/-! ### laws_szCuttingS: function 16 -/
def laws_szCuttingS.l0 : Nat → List S54 → Int → Int → Option (Int)
 | 0, _, _, _ => none
 | k + 1, x0, x1, x5 => if x5 < (x0.length : Int) then (if 0 ≤ x5 then ((laws_szCutting.f ((rd54 x0 x5).f0) ((rd54 x0 x5).f1) ((rd54 x0 x5).f2) x1).bind fun t4 => (if t4 < 0 then (some (-1)) else (laws_szCuttingS.l0 k x0 t4 (wrap64 (x5 + 1))))) else (none)) else (some x1)
def laws_szCuttingS.f (k : Nat) (l0 : List S54) (a1 : Int) : Option (Int) := if (wrap64 (a1 - (l0.length : Int))) < 0 then (some (-1)) else (laws_szCuttingS.l0 k l0 (wrap64 (a1 - (l0.length : Int))) 0)
set_option maxRecDepth 100000 in
theorem laws_szCuttingS.ok {k : Nat} {l0 : List S54} {a1 : Int} {r : Int} (H : laws_szCuttingS.f k l0 a1 = some r) : OkF Try.prog 16 [vR 55 (l0.map c54), vI a1] [] (.c (.d (.v (.int .i64 r)))) [] := by
 unfold laws_szCuttingS.f at H
 refine OkF.of (N := 27) (rs := [4]) (avs := [.c (.d (.v (.int .i64 r)))]) Try.func16 rfl rfl (fun _ _ => results_tmp rfl _ _ _) (by decide) rfl rfl rfl rfl (fun w0 S => ?_)
 refine AG.seq ?_
 refine AG.region HM ?_
 refine a_move (v := vI _) ?_
 refine RA.nil nofun ?_
 refine AG.seq ?_
 refine AG.region HM ?_
 refine a_move (v := vI _) ?_
 refine a_move (v := vR _ _) ?_
 refine a_lenR ?_ Try.underlying33
 refine a_int (u := .int .i64 (wrap64 (a1 - (l0.length : Int)))) ?_
 refine a_move (v := vI _) ?_
 refine RA.nil nofun ?_
 refine AG.seq ?_
 refine AG.seq ?_
 refine AG.region HM ?_
 refine a_move (v := vI _) ?_
 refine a_int (u := .bool (decide ((wrap64 (a1 - (l0.length : Int))) < 0))) ?_
 refine RA.nil nofun ?_
 by_cases hc1 : (wrap64 (a1 - (l0.length : Int))) < 0
 ·rw [if_pos hc1] at H
  refine AG.yes rfl (decide_eq_true hc1) ?_
  refine AG.seq ?_
  refine AG.region HM ?_
  refine a_move (v := vI _) ?_
  refine RA.nil nofun ?_
  refine AG.ret ?_
  obtain rfl := Option.some.inj H
  exact RetP.mk id ⟨rfl, trivial⟩ trivial rfl
 ·rw [if_neg hc1] at H
  refine AG.no rfl (decide_eq_false hc1) ?_
  refine AG.skip ?_
  refine AG.seq ?_
  refine AG.seq ?_
  refine AG.region HM ?_
  refine a_move (v := vI _) ?_
  refine RA.nil nofun ?_
  refine AG.block ?_
  refine AG.loop ?_
  obtain ⟨K0, hK0, gK0⟩ : ∃ K, k ≤ K ∧ K ≤ k := ⟨k, Nat.le_refl k, Nat.le_refl k⟩
  refine AGr.canon id (AGr.loopI (n := k) (fun k s => k ≤ K0 ∧ ∃ (x0 : List S54) (x1 : Int) (x5 : Int), laws_szCuttingS.l0 k x0 x1 x5 = some r ∧ s = St.of [(0, vR 55 (x0.map c54)), (1, vI x1), (5, vI x5)] []) ⟨hK0, _, _, _, H, rfl⟩ ?_ ?_) ⟨rfl, rfl, rfl, trivial⟩ trivial rfl
  ·rintro _ ⟨_, _, _, _, H, _⟩
   cases H
  ·clear H hK0
   rintro k ih0 _ ⟨hK0, x0, x1, x5, H, rfl⟩
   unfold laws_szCuttingS.l0 at H
   refine AG.seq ?_
   refine AG.seq ?_
   refine AG.region HM ?_
   refine a_move (v := vI _) ?_
   refine a_move (v := vR _ _) ?_
   refine a_lenR ?_ Try.underlying33
   refine a_int (u := .bool (decide (x5 < (x0.length : Int)))) ?_
   refine RA.nil nofun ?_
   by_cases hc2 : x5 < (x0.length : Int)
   ·rw [if_pos hc2] at H
    refine AG.yes rfl (decide_eq_true hc2) ?_
    refine AG.skip ?_
    refine AG.seq ?_
    refine AG.block ?_
    refine AG.seq ?_
    refine AG.region HM ?_
    refine a_move (v := vR _ _) ?_
    refine a_move (v := vI _) ?_
    by_cases hc3 : 0 ≤ x5
    ·rw [if_pos hc3] at H
     refine a_ixR (el := c54 (rd54 x0 x5)) ?_ ⟨hc3, hc2⟩ T55 Try.underlying33 (hel := R54 hc3 hc2)
     refine a_ldR (v := .agg [_, _, _]) ?_ T55
     refine a_move (v := vI _) ?_
     obtain ⟨t4, e5, H⟩ := bindO H
     refine a_call (v := vI t4) (nk := []) (L := []) ?_ rfl (laws_szCutting.ok e5) id (qg (qd qn)) trivial trivial trivial rfl
     refine a_move (v := vI _) ?_
     refine RA.nil nofun ?_
     refine AG.seq ?_
     refine AG.region HM ?_
     refine a_move (v := vI _) ?_
     refine a_int (u := .bool (decide (t4 < 0))) ?_
     refine RA.nil nofun ?_
     by_cases hc6 : t4 < 0
     ·rw [if_pos hc6] at H
      refine AG.yes rfl (decide_eq_true hc6) ?_
      refine AG.seq ?_
      refine AG.region HM ?_
      refine a_move (v := vI _) ?_
      refine RA.nil nofun ?_
      refine AG.ret ?_
      obtain rfl := Option.some.inj H
      exact RetP.mk id ⟨rfl, trivial⟩ trivial rfl
     ·rw [if_neg hc6] at H
      refine AG.no rfl (decide_eq_false hc6) ?_
      refine AG.skip ?_
      refine AG.region HM ?_
      refine a_move (v := vI _) ?_
      refine a_int (u := .int .i64 (wrap64 (x5 + 1))) ?_
      refine a_move (v := vI _) ?_
      refine RA.nil nofun ?_
      exact AGr.canon id (ih0 _ (by omega) _ ⟨by omega, _, _, _, H, rfl⟩) ⟨rfl, rfl, rfl, trivial⟩ trivial rfl
    ·rw [if_neg hc3] at H
     cases H
   ·rw [if_neg hc2] at H
    refine AG.no rfl (decide_eq_false hc2) ?_
    refine AG.exit ?_
    refine AG.seq ?_
    refine AG.region HM ?_
    refine a_move (v := vI _) ?_
    refine a_move (v := vI _) ?_
    refine RA.nil nofun ?_
    refine AG.ret ?_
    obtain rfl := Option.some.inj H
    exact RetP.mk id ⟨rfl, trivial⟩ trivial rfl
/-! ### spec_l00In: function 54 -/
def spec_l00In.f (a0 : Int) (a1 : Int) (a2 : Int) : Option (Bool) := if a0 ≥ a1 then (some (decide (a0 ≤ a2))) else (some false)
set_option maxRecDepth 100000 in
theorem spec_l00In.ok {a0 : Int} {a1 : Int} {a2 : Int} {r : Bool} (H : spec_l00In.f a0 a1 a2 = some r) : OkF Try.prog 54 [vI a0, vI a1, vI a2] [] (.c (.d (.v (.bool r)))) [] := by
 unfold spec_l00In.f at H
 refine OkF.of (N := 15) (rs := [6]) (avs := [.c (.d (.v (.bool r)))]) Try.func54 rfl rfl (fun _ _ => results_tmp rfl _ _ _) (by decide) rfl rfl rfl rfl (fun w0 S => ?_)
 refine AG.seq ?_
 refine AG.region HM ?_
 refine a_move (v := vB _) ?_
 refine RA.nil nofun ?_
 refine AG.seq ?_
 refine AG.region HM ?_
 refine a_move (v := vI _) ?_
 refine a_move (v := vI _) ?_
 refine a_int (u := .bool (decide (a0 ≥ a1))) ?_
 refine a_move (v := vB _) ?_
 by_cases hc1 : a0 ≥ a1
 ·rw [if_pos hc1] at H
  refine a_move (v := vI _) ?_ (hg := Gs.yes rfl rfl rfl (decide_eq_true hc1))
  refine a_move (v := vI _) ?_ (hg := Gs.yes rfl rfl rfl (decide_eq_true hc1))
  refine a_int (u := .bool (decide (a0 ≤ a2))) ?_ (hg := Gs.yes rfl rfl rfl (decide_eq_true hc1))
  refine a_pick (b := true) (v := vB _) ?_ (decide_eq_true hc1)
  refine a_move (v := vB _) ?_
  refine RA.nil nofun ?_
  refine AG.ret ?_
  obtain rfl := Option.some.inj H
  exact RetP.mk id ⟨rfl, trivial⟩ trivial rfl
 ·rw [if_neg hc1] at H
  refine RA.skip rfl rfl rfl rfl rfl (decide_eq_false hc1) (by decide) ?_
  refine RA.skip rfl rfl rfl rfl rfl (decide_eq_false hc1) (by decide) ?_
  refine RA.skip rfl rfl rfl rfl rfl (decide_eq_false hc1) (by decide) ?_
  refine a_pick (b := false) (v := vB _) ?_ (decide_eq_false hc1)
  refine a_move (v := vB _) ?_
  refine RA.nil nofun ?_
  refine AG.ret ?_
  obtain rfl := Option.some.inj H
  exact RetP.mk id ⟨rfl, trivial⟩ trivial rfl
/-! ### spec_l01Small: function 63 -/
def spec_l01Small.f (a0 : Int) : Option (Bool) := if a0 ≥ 97 then (some (decide (a0 ≤ 122))) else (some false)
set_option maxRecDepth 100000 in
theorem spec_l01Small.ok {a0 : Int} {r : Bool} (H : spec_l01Small.f a0 = some r) : OkF Try.prog 63 [.c (.d (.v (.int .u8 a0)))] [] (.c (.d (.v (.bool r)))) [] := by
 unfold spec_l01Small.f at H
 refine OkF.of (N := 9) (rs := [2]) (avs := [.c (.d (.v (.bool r)))]) Try.func63 rfl rfl (fun _ _ => results_tmp rfl _ _ _) (by decide) rfl rfl rfl rfl (fun w0 S => ?_)
 refine AG.seq ?_
 refine AG.region HM ?_
 refine a_move (v := vB _) ?_
 refine RA.nil nofun ?_
 refine AG.seq ?_
 refine AG.region HM ?_
 refine a_move (v := gV (.int .u8 _)) ?_
 refine a_int (u := .bool (decide (a0 ≥ 97))) ?_
 refine a_move (v := vB _) ?_
 by_cases hc1 : a0 ≥ 97
 ·rw [if_pos hc1] at H
  refine a_move (v := gV (.int .u8 _)) ?_ (hg := Gs.yes rfl rfl rfl (decide_eq_true hc1))
  refine a_int (u := .bool (decide (a0 ≤ 122))) ?_ (hg := Gs.yes rfl rfl rfl (decide_eq_true hc1))
  refine a_pick (b := true) (v := vB _) ?_ (decide_eq_true hc1)
  refine a_move (v := vB _) ?_
  refine RA.nil nofun ?_
  refine AG.ret ?_
  obtain rfl := Option.some.inj H
  exact RetP.mk id ⟨rfl, trivial⟩ trivial rfl
 ·rw [if_neg hc1] at H
  refine RA.skip rfl rfl rfl rfl rfl (decide_eq_false hc1) (by decide) ?_
  refine RA.skip rfl rfl rfl rfl rfl (decide_eq_false hc1) (by decide) ?_
  refine a_pick (b := false) (v := vB _) ?_ (decide_eq_false hc1)
  refine a_move (v := vB _) ?_
  refine RA.nil nofun ?_
  refine AG.ret ?_
  obtain rfl := Option.some.inj H
  exact RetP.mk id ⟨rfl, trivial⟩ trivial rfl
/-! ### spec_l01Digit: function 64 -/
def spec_l01Digit.f (a0 : Int) : Option (Bool) := if a0 ≥ 48 then (some (decide (a0 ≤ 57))) else (some false)
set_option maxRecDepth 100000 in
theorem spec_l01Digit.ok {a0 : Int} {r : Bool} (H : spec_l01Digit.f a0 = some r) : OkF Try.prog 64 [.c (.d (.v (.int .u8 a0)))] [] (.c (.d (.v (.bool r)))) [] := by
 unfold spec_l01Digit.f at H
 refine OkF.of (N := 9) (rs := [2]) (avs := [.c (.d (.v (.bool r)))]) Try.func64 rfl rfl (fun _ _ => results_tmp rfl _ _ _) (by decide) rfl rfl rfl rfl (fun w0 S => ?_)
 refine AG.seq ?_
 refine AG.region HM ?_
 refine a_move (v := vB _) ?_
 refine RA.nil nofun ?_
 refine AG.seq ?_
 refine AG.region HM ?_
 refine a_move (v := gV (.int .u8 _)) ?_
 refine a_int (u := .bool (decide (a0 ≥ 48))) ?_
 refine a_move (v := vB _) ?_
 by_cases hc1 : a0 ≥ 48
 ·rw [if_pos hc1] at H
  refine a_move (v := gV (.int .u8 _)) ?_ (hg := Gs.yes rfl rfl rfl (decide_eq_true hc1))
  refine a_int (u := .bool (decide (a0 ≤ 57))) ?_ (hg := Gs.yes rfl rfl rfl (decide_eq_true hc1))
  refine a_pick (b := true) (v := vB _) ?_ (decide_eq_true hc1)
  refine a_move (v := vB _) ?_
  refine RA.nil nofun ?_
  refine AG.ret ?_
  obtain rfl := Option.some.inj H
  exact RetP.mk id ⟨rfl, trivial⟩ trivial rfl
 ·rw [if_neg hc1] at H
  refine RA.skip rfl rfl rfl rfl rfl (decide_eq_false hc1) (by decide) ?_
  refine RA.skip rfl rfl rfl rfl rfl (decide_eq_false hc1) (by decide) ?_
  refine a_pick (b := false) (v := vB _) ?_ (decide_eq_false hc1)
  refine a_move (v := vB _) ?_
  refine RA.nil nofun ?_
  refine AG.ret ?_
  obtain rfl := Option.some.inj H
  exact RetP.mk id ⟨rfl, trivial⟩ trivial rfl
/-! ### spec_l01Name: function 57 -/
mutual
def spec_l01Name.j0 : Nat → ByteArray → Bool → Option (Bool)
 | 0, _, _ => none
 | k + 1, x0, x16 => if x16 = true then (some false) else (spec_l01Name.l0 k x0 0)
def spec_l01Name.l0 : Nat → ByteArray → Int → Option (Bool)
 | 0, _, _ => none
 | k + 1, x0, x3 => if x3 < (x0.size : Int) then (if 0 ≤ x3 then ((spec_l01Small.f (bt x0 x3)).bind fun t9 => (if t9 = true then (spec_l01Name.l0 k x0 (wrap64 (x3 + 1))) else ((spec_l01Digit.f (bt x0 x3)).bind fun t12 => (if t12 = true then (spec_l01Name.l0 k x0 (wrap64 (x3 + 1))) else (some false))))) else (none)) else (some true)
end
def spec_l01Name.f (k : Nat) (a0 : ByteArray) : Option (Bool) := if a0.toList = (⟨#[]⟩ : ByteArray).toList then (spec_l01Name.j0 k a0 true) else (if (a0.size : Int) > 10 then (spec_l01Name.j0 k a0 true) else (if 0 < (a0.size : Int) then ((spec_l01Small.f (bt a0 0)).bind fun t4 => (spec_l01Name.j0 k a0 (!t4))) else (none)))
set_option maxRecDepth 100000 in
theorem spec_l01Name.ok {k : Nat} {a0 : ByteArray} {r : Bool} (H : spec_l01Name.f k a0 = some r) : OkF Try.prog 57 [vS a0] [] (.c (.d (.v (.bool r)))) [] := by
 unfold spec_l01Name.f at H
 refine OkF.of (N := 35) (rs := [2]) (avs := [.c (.d (.v (.bool r)))]) Try.func57 rfl rfl (fun _ _ => results_tmp rfl _ _ _) (by decide) rfl rfl rfl rfl (fun w0 S => ?_)
 refine AG.seq ?_
 refine AG.region HM ?_
 refine a_move (v := vB _) ?_
 refine RA.nil nofun ?_
 refine AG.seq ?_
 refine AG.seq ?_
 refine AG.joinR (fun s => ∃ q, q ≤ k ∧ ∃ (x0 : ByteArray) (x16 : Bool), spec_l01Name.j0 q x0 x16 = some r ∧ s = St.of [(0, vS x0), (16, vB x16)] []) ?_ ?_
 ·skip
  refine AG.region HM ?_
  refine a_move (v := vS _) ?_
  refine a_bin (u := .bool (a0.toList == (⟨#[]⟩ : ByteArray).toList)) ?_
  refine a_move (v := vB _) ?_
  by_cases hc1 : a0.toList = (⟨#[]⟩ : ByteArray).toList
  ·rw [if_pos hc1] at H
   refine RA.skip rfl rfl rfl rfl rfl (beq_iff_eq.2 hc1) (by decide) ?_
   refine RA.skip rfl rfl rfl rfl rfl (beq_iff_eq.2 hc1) (by decide) ?_
   refine RA.skip rfl rfl rfl rfl rfl (beq_iff_eq.2 hc1) (by decide) ?_
   refine a_pick (b := true) (v := vB _) ?_ (beq_iff_eq.2 hc1)
   refine a_move (v := vB _) ?_
   refine RA.skip rfl rfl rfl rfl rfl rfl (by decide) ?_
   refine RA.skip rfl rfl rfl rfl rfl rfl (by decide) ?_
   refine RA.skip rfl rfl rfl rfl rfl rfl (by decide) ?_
   refine RA.skip rfl rfl rfl rfl rfl rfl (by decide) ?_
   refine a_pick (b := true) (v := vB _) ?_ rfl
   refine RA.nil nofun ?_
   exact CanR.mk id ⟨_, (by omega), _, _, H, rfl⟩ ⟨rfl, rfl, trivial⟩ trivial rfl
  ·rw [if_neg hc1] at H
   refine a_move (v := vS _) ?_ (hg := Gs.yes rfl rfl rfl (beq_eq_false_iff_ne.2 hc1))
   refine a_lenS ?_ Try.underlying9 (hg := Gs.yes rfl rfl rfl (beq_eq_false_iff_ne.2 hc1))
   refine a_int (u := .bool (decide ((a0.size : Int) > 10))) ?_ (hg := Gs.yes rfl rfl rfl (beq_eq_false_iff_ne.2 hc1))
   refine a_pick (b := false) (v := vB _) ?_ (beq_eq_false_iff_ne.2 hc1)
   refine a_move (v := vB _) ?_
   by_cases hc2 : (a0.size : Int) > 10
   ·rw [if_pos hc2] at H
    refine RA.skip rfl rfl rfl rfl rfl (decide_eq_true hc2) (by decide) ?_
    refine RA.skip rfl rfl rfl rfl rfl (decide_eq_true hc2) (by decide) ?_
    refine RA.skip rfl rfl rfl rfl rfl (decide_eq_true hc2) (by decide) ?_
    refine RA.skip rfl rfl rfl rfl rfl (decide_eq_true hc2) (by decide) ?_
    refine a_pick (b := true) (v := vB _) ?_ (decide_eq_true hc2)
    refine RA.nil nofun ?_
    exact CanR.mk id ⟨_, (by omega), _, _, H, rfl⟩ ⟨rfl, rfl, trivial⟩ trivial rfl
   ·rw [if_neg hc2] at H
    refine a_move (v := vS _) ?_ (hg := Gs.yes rfl rfl rfl (decide_eq_false hc2))
    by_cases hc3 : 0 < (a0.size : Int)
    ·rw [if_pos hc3] at H
     refine a_str ?_ ⟨(by decide), hc3⟩ Try.underlying9 (hg := Gs.yes rfl rfl rfl (decide_eq_false hc2))
     obtain ⟨t4, e5, H⟩ := bindO H
     refine a_call (v := vB t4) (nk := []) (L := []) ?_ rfl (spec_l01Small.ok e5) id (qd qn) trivial trivial trivial rfl (hg := Gs.yes rfl rfl rfl (decide_eq_false hc2))
     refine a_un (u := .bool (!t4)) ?_ (hg := Gs.yes rfl rfl rfl (decide_eq_false hc2))
     refine a_pick (b := false) (v := vB _) ?_ (decide_eq_false hc2)
     refine RA.nil nofun ?_
     exact CanR.mk id ⟨_, (by omega), _, _, H, rfl⟩ ⟨rfl, rfl, trivial⟩ trivial rfl
    ·rw [if_neg hc3] at H
     cases H
 ·clear H
  rintro _ ⟨k, hj0, x0, x16, H, rfl⟩
  cases k with
  | zero => cases H
  | succ k =>
   rw [spec_l01Name.j0] at H
   by_cases hc6 : x16 = true
   ·rw [if_pos hc6] at H
    refine AG.yes rfl hc6 ?_
    refine AG.seq ?_
    refine AG.region HM ?_
    refine a_move (v := vB _) ?_
    refine RA.nil nofun ?_
    refine AG.ret ?_
    obtain rfl := Option.some.inj H
    exact RetP.mk id ⟨rfl, trivial⟩ trivial rfl
   ·rw [if_neg hc6] at H
    refine AG.no rfl (Bool.eq_false_iff.2 hc6) ?_
    refine AG.skip ?_
    refine AG.seq ?_
    refine AG.seq ?_
    refine AG.region HM ?_
    refine a_move (v := vI _) ?_
    refine RA.nil nofun ?_
    refine AG.block ?_
    refine AG.loop ?_
    obtain ⟨K0, hK0, gK0⟩ : ∃ K, k ≤ K ∧ K ≤ k := ⟨k, Nat.le_refl k, Nat.le_refl k⟩
    refine AGr.canon id (AGr.loopI (n := k) (fun k s => k ≤ K0 ∧ ∃ (x0 : ByteArray) (x3 : Int), spec_l01Name.l0 k x0 x3 = some r ∧ s = St.of [(0, vS x0), (3, vI x3)] []) ⟨hK0, _, _, H, rfl⟩ ?_ ?_) ⟨rfl, rfl, trivial⟩ trivial rfl
    ·rintro _ ⟨_, _, _, H, _⟩
     cases H
    ·clear H hK0
     rintro k ih0 _ ⟨hK0, x0, x3, H, rfl⟩
     unfold spec_l01Name.l0 at H
     refine AG.seq ?_
     refine AG.seq ?_
     refine AG.region HM ?_
     refine a_move (v := vI _) ?_
     refine a_move (v := vS _) ?_
     refine a_lenS ?_ Try.underlying9
     refine a_int (u := .bool (decide (x3 < (x0.size : Int)))) ?_
     refine RA.nil nofun ?_
     by_cases hc7 : x3 < (x0.size : Int)
     ·rw [if_pos hc7] at H
      refine AG.yes rfl (decide_eq_true hc7) ?_
      refine AG.skip ?_
      refine AG.seq ?_
      refine AG.block ?_
      refine AG.seq ?_
      refine AG.region HM ?_
      refine a_move (v := vS _) ?_
      refine a_move (v := vI _) ?_
      by_cases hc8 : 0 ≤ x3
      ·rw [if_pos hc8] at H
       refine a_str ?_ ⟨hc8, hc7⟩ Try.underlying9
       obtain ⟨t9, e10, H⟩ := bindO H
       refine a_call (v := vB t9) (nk := []) (L := []) ?_ rfl (spec_l01Small.ok e10) id (qd qn) trivial trivial trivial rfl
       refine a_un (u := .bool (!t9)) ?_
       refine a_move (v := vB _) ?_
       by_cases hc11 : t9 = true
       ·rw [if_pos hc11] at H
        refine RA.skip rfl rfl rfl rfl rfl (congrArg Bool.not hc11) (by decide) ?_
        refine RA.skip rfl rfl rfl rfl rfl (congrArg Bool.not hc11) (by decide) ?_
        refine RA.skip rfl rfl rfl rfl rfl (congrArg Bool.not hc11) (by decide) ?_
        refine RA.skip rfl rfl rfl rfl rfl (congrArg Bool.not hc11) (by decide) ?_
        refine RA.skip rfl rfl rfl rfl rfl (congrArg Bool.not hc11) (by decide) ?_
        refine a_pick (b := false) (v := vB _) ?_ (congrArg Bool.not hc11)
        refine RA.nil nofun ?_
        refine AG.no rfl rfl ?_
        refine AG.skip ?_
        refine AG.region HM ?_
        refine a_move (v := vI _) ?_
        refine a_int (u := .int .i64 (wrap64 (x3 + 1))) ?_
        refine a_move (v := vI _) ?_
        refine RA.nil nofun ?_
        exact AGr.canon id (ih0 _ (by omega) _ ⟨by omega, _, _, H, rfl⟩) ⟨rfl, rfl, trivial⟩ trivial rfl
       ·rw [if_neg hc11] at H
        refine a_move (v := vS _) ?_ (hg := Gs.yes rfl rfl rfl (congrArg Bool.not (Bool.eq_false_iff.2 hc11)))
        refine a_move (v := vI _) ?_ (hg := Gs.yes rfl rfl rfl (congrArg Bool.not (Bool.eq_false_iff.2 hc11)))
        refine a_str ?_ ⟨hc8, hc7⟩ Try.underlying9 (hg := Gs.yes rfl rfl rfl (congrArg Bool.not (Bool.eq_false_iff.2 hc11)))
        obtain ⟨t12, e13, H⟩ := bindO H
        refine a_call (v := vB t12) (nk := []) (L := []) ?_ rfl (spec_l01Digit.ok e13) id (qd qn) trivial trivial trivial rfl (hg := Gs.yes rfl rfl rfl (congrArg Bool.not (Bool.eq_false_iff.2 hc11)))
        refine a_un (u := .bool (!t12)) ?_ (hg := Gs.yes rfl rfl rfl (congrArg Bool.not (Bool.eq_false_iff.2 hc11)))
        refine a_pick (b := true) (v := vB _) ?_ (congrArg Bool.not (Bool.eq_false_iff.2 hc11))
        refine RA.nil nofun ?_
        by_cases hc14 : t12 = true
        ·rw [if_pos hc14] at H
         refine AG.no rfl (congrArg Bool.not hc14) ?_
         refine AG.skip ?_
         refine AG.region HM ?_
         refine a_move (v := vI _) ?_
         refine a_int (u := .int .i64 (wrap64 (x3 + 1))) ?_
         refine a_move (v := vI _) ?_
         refine RA.nil nofun ?_
         exact AGr.canon id (ih0 _ (by omega) _ ⟨by omega, _, _, H, rfl⟩) ⟨rfl, rfl, trivial⟩ trivial rfl
        ·rw [if_neg hc14] at H
         refine AG.yes rfl (congrArg Bool.not (Bool.eq_false_iff.2 hc14)) ?_
         refine AG.seq ?_
         refine AG.region HM ?_
         refine a_move (v := vB _) ?_
         refine RA.nil nofun ?_
         refine AG.ret ?_
         obtain rfl := Option.some.inj H
         exact RetP.mk id ⟨rfl, trivial⟩ trivial rfl
      ·rw [if_neg hc8] at H
       cases H
     ·rw [if_neg hc7] at H
      refine AG.no rfl (decide_eq_false hc7) ?_
      refine AG.exit ?_
      refine AG.seq ?_
      refine AG.region HM ?_
      refine a_move (v := vB _) ?_
      refine RA.nil nofun ?_
      refine AG.ret ?_
      obtain rfl := Option.some.inj H
      exact RetP.mk id ⟨rfl, trivial⟩ trivial rfl
/-! ### spec_l16Ok: function 48 -/
def spec_l16Ok.f (k : Nat) (a0_0 : ByteArray) (a0_1 : Int) (a0_2 : Int) (a0_3 : Int) : Option (Bool) := (spec_l01Name.f k a0_0).bind fun t1 => (if t1 = true then ((spec_l00In.f a0_1 1 1000000).bind fun t4 => (if t4 = true then ((spec_l00In.f a0_2 0 1000000).bind fun t7 => (if t7 = true then ((spec_l00In.f a0_3 1 10000).bind fun t10 => (some t10)) else (some false))) else (some false))) else (some false))
set_option maxRecDepth 100000 in
theorem spec_l16Ok.ok {k : Nat} {a0_0 : ByteArray} {a0_1 : Int} {a0_2 : Int} {a0_3 : Int} {r : Bool} (H : spec_l16Ok.f k a0_0 a0_1 a0_2 a0_3 = some r) : OkF Try.prog 48 [.c (.d (.ro [.v (.string a0_0), .v (.int .i64 a0_1), .v (.int .i64 a0_2), .v (.int .i64 a0_3)]))] [] (.c (.d (.v (.bool r)))) [] := by
 unfold spec_l16Ok.f at H
 refine OkF.of (N := 29) (rs := [2]) (avs := [.c (.d (.v (.bool r)))]) Try.func48 rfl rfl (fun _ _ => results_tmp rfl _ _ _) (by decide) rfl rfl rfl rfl (fun w0 S => ?_)
 refine AG.seq ?_
 refine AG.region HM ?_
 refine a_move (v := vB _) ?_
 refine RA.nil nofun ?_
 refine AG.seq ?_
 refine AG.region HM ?_
 refine a_move (v := vO [_, _, _, _]) ?_
 refine a_nil (v := vO [_, _, _, _]) ?_
 refine a_faR (cells' := [_, _, _, _]) ?_ D39_0
 refine a_ldR (v := vS _) ?_ T9
 obtain ⟨t1, e2, H⟩ := bindO H
 refine a_call (v := vB t1) (nk := []) (L := []) ?_ rfl (spec_l01Name.ok e2) id (qd qn) trivial trivial trivial rfl
 refine a_move (v := vB _) ?_
 by_cases hc3 : t1 = true
 ·rw [if_pos hc3] at H
  refine a_move (v := vO [_, _, _, _]) ?_ (hg := Gs.yes rfl rfl rfl hc3)
  refine a_nil (v := vO [_, _, _, _]) ?_ (hg := Gs.yes rfl rfl rfl hc3)
  refine a_faR (cells' := [_, _, _]) ?_ D39_1 (hg := Gs.yes rfl rfl rfl hc3)
  refine a_ldR (v := vI _) ?_ T2 (hg := Gs.yes rfl rfl rfl hc3)
  obtain ⟨t4, e5, H⟩ := bindO H
  refine a_call (v := vB t4) (nk := []) (L := []) ?_ rfl (spec_l00In.ok e5) id (qd (qd (qd qn))) trivial trivial trivial rfl (hg := Gs.yes rfl rfl rfl hc3)
  refine a_pick (b := true) (v := vB _) ?_ hc3
  refine a_move (v := vB _) ?_
  by_cases hc6 : t4 = true
  ·rw [if_pos hc6] at H
   refine a_move (v := vO [_, _, _, _]) ?_ (hg := Gs.yes rfl rfl rfl hc6)
   refine a_nil (v := vO [_, _, _, _]) ?_ (hg := Gs.yes rfl rfl rfl hc6)
   refine a_faR (cells' := [_, _]) ?_ D39_2 (hg := Gs.yes rfl rfl rfl hc6)
   refine a_ldR (v := vI _) ?_ T2 (hg := Gs.yes rfl rfl rfl hc6)
   obtain ⟨t7, e8, H⟩ := bindO H
   refine a_call (v := vB t7) (nk := []) (L := []) ?_ rfl (spec_l00In.ok e8) id (qd (qd (qd qn))) trivial trivial trivial rfl (hg := Gs.yes rfl rfl rfl hc6)
   refine a_pick (b := true) (v := vB _) ?_ hc6
   refine a_move (v := vB _) ?_
   by_cases hc9 : t7 = true
   ·rw [if_pos hc9] at H
    refine a_move (v := vO [_, _, _, _]) ?_ (hg := Gs.yes rfl rfl rfl hc9)
    refine a_nil (v := vO [_, _, _, _]) ?_ (hg := Gs.yes rfl rfl rfl hc9)
    refine a_faR (cells' := [_]) ?_ D39_3 (hg := Gs.yes rfl rfl rfl hc9)
    refine a_ldR (v := vI _) ?_ T2 (hg := Gs.yes rfl rfl rfl hc9)
    obtain ⟨t10, e11, H⟩ := bindO H
    refine a_call (v := vB t10) (nk := []) (L := []) ?_ rfl (spec_l00In.ok e11) id (qd (qd (qd qn))) trivial trivial trivial rfl (hg := Gs.yes rfl rfl rfl hc9)
    refine a_pick (b := true) (v := vB _) ?_ hc9
    refine a_move (v := vB _) ?_
    refine RA.nil nofun ?_
    refine AG.ret ?_
    obtain rfl := Option.some.inj H
    exact RetP.mk id ⟨rfl, trivial⟩ trivial rfl
   ·rw [if_neg hc9] at H
    refine RA.skip rfl rfl rfl rfl rfl (Bool.eq_false_iff.2 hc9) (by decide) ?_
    refine RA.skip rfl rfl rfl rfl rfl (Bool.eq_false_iff.2 hc9) (by decide) ?_
    refine RA.skip rfl rfl rfl rfl rfl (Bool.eq_false_iff.2 hc9) (by decide) ?_
    refine RA.skip rfl rfl rfl rfl rfl (Bool.eq_false_iff.2 hc9) (by decide) ?_
    refine RA.skip rfl rfl rfl rfl rfl (Bool.eq_false_iff.2 hc9) (by decide) ?_
    refine a_pick (b := false) (v := vB _) ?_ (Bool.eq_false_iff.2 hc9)
    refine a_move (v := vB _) ?_
    refine RA.nil nofun ?_
    refine AG.ret ?_
    obtain rfl := Option.some.inj H
    exact RetP.mk id ⟨rfl, trivial⟩ trivial rfl
  ·rw [if_neg hc6] at H
   refine RA.skip rfl rfl rfl rfl rfl (Bool.eq_false_iff.2 hc6) (by decide) ?_
   refine RA.skip rfl rfl rfl rfl rfl (Bool.eq_false_iff.2 hc6) (by decide) ?_
   refine RA.skip rfl rfl rfl rfl rfl (Bool.eq_false_iff.2 hc6) (by decide) ?_
   refine RA.skip rfl rfl rfl rfl rfl (Bool.eq_false_iff.2 hc6) (by decide) ?_
   refine RA.skip rfl rfl rfl rfl rfl (Bool.eq_false_iff.2 hc6) (by decide) ?_
   refine a_pick (b := false) (v := vB _) ?_ (Bool.eq_false_iff.2 hc6)
   refine a_move (v := vB _) ?_
   refine RA.skip rfl rfl rfl rfl rfl rfl (by decide) ?_
   refine RA.skip rfl rfl rfl rfl rfl rfl (by decide) ?_
   refine RA.skip rfl rfl rfl rfl rfl rfl (by decide) ?_
   refine RA.skip rfl rfl rfl rfl rfl rfl (by decide) ?_
   refine RA.skip rfl rfl rfl rfl rfl rfl (by decide) ?_
   refine a_pick (b := false) (v := vB _) ?_ rfl
   refine a_move (v := vB _) ?_
   refine RA.nil nofun ?_
   refine AG.ret ?_
   obtain rfl := Option.some.inj H
   exact RetP.mk id ⟨rfl, trivial⟩ trivial rfl
 ·rw [if_neg hc3] at H
  refine RA.skip rfl rfl rfl rfl rfl (Bool.eq_false_iff.2 hc3) (by decide) ?_
  refine RA.skip rfl rfl rfl rfl rfl (Bool.eq_false_iff.2 hc3) (by decide) ?_
  refine RA.skip rfl rfl rfl rfl rfl (Bool.eq_false_iff.2 hc3) (by decide) ?_
  refine RA.skip rfl rfl rfl rfl rfl (Bool.eq_false_iff.2 hc3) (by decide) ?_
  refine RA.skip rfl rfl rfl rfl rfl (Bool.eq_false_iff.2 hc3) (by decide) ?_
  refine a_pick (b := false) (v := vB _) ?_ (Bool.eq_false_iff.2 hc3)
  refine a_move (v := vB _) ?_
  refine RA.skip rfl rfl rfl rfl rfl rfl (by decide) ?_
  refine RA.skip rfl rfl rfl rfl rfl rfl (by decide) ?_
  refine RA.skip rfl rfl rfl rfl rfl rfl (by decide) ?_
  refine RA.skip rfl rfl rfl rfl rfl rfl (by decide) ?_
  refine RA.skip rfl rfl rfl rfl rfl rfl (by decide) ?_
  refine a_pick (b := false) (v := vB _) ?_ rfl
  refine a_move (v := vB _) ?_
  refine RA.skip rfl rfl rfl rfl rfl rfl (by decide) ?_
  refine RA.skip rfl rfl rfl rfl rfl rfl (by decide) ?_
  refine RA.skip rfl rfl rfl rfl rfl rfl (by decide) ?_
  refine RA.skip rfl rfl rfl rfl rfl rfl (by decide) ?_
  refine RA.skip rfl rfl rfl rfl rfl rfl (by decide) ?_
  refine a_pick (b := false) (v := vB _) ?_ rfl
  refine a_move (v := vB _) ?_
  refine RA.nil nofun ?_
  refine AG.ret ?_
  obtain rfl := Option.some.inj H
  exact RetP.mk id ⟨rfl, trivial⟩ trivial rfl
/-! ### spec_l16One: function 58 -/
def spec_l16One.f (k : Nat) (a0_0 : ByteArray) (a0_1 : Int) (a0_2 : Int) : Option (Bool) := (spec_l01Name.f k a0_0).bind fun t1 => (if t1 = true then ((spec_l00In.f a0_1 1 1000000).bind fun t4 => (if t4 = true then ((spec_l00In.f a0_2 1 100).bind fun t7 => (some t7)) else (some false))) else (some false))
set_option maxRecDepth 100000 in
theorem spec_l16One.ok {k : Nat} {a0_0 : ByteArray} {a0_1 : Int} {a0_2 : Int} {r : Bool} (H : spec_l16One.f k a0_0 a0_1 a0_2 = some r) : OkF Try.prog 58 [.c (.d (.ro [.v (.string a0_0), .v (.int .i64 a0_1), .v (.int .i64 a0_2)]))] [] (.c (.d (.v (.bool r)))) [] := by
 unfold spec_l16One.f at H
 refine OkF.of (N := 22) (rs := [2]) (avs := [.c (.d (.v (.bool r)))]) Try.func58 rfl rfl (fun _ _ => results_tmp rfl _ _ _) (by decide) rfl rfl rfl rfl (fun w0 S => ?_)
 refine AG.seq ?_
 refine AG.region HM ?_
 refine a_move (v := vB _) ?_
 refine RA.nil nofun ?_
 refine AG.seq ?_
 refine AG.region HM ?_
 refine a_move (v := vO [_, _, _]) ?_
 refine a_nil (v := vO [_, _, _]) ?_
 refine a_faR (cells' := [_, _, _]) ?_ D59_0
 refine a_ldR (v := vS _) ?_ T9
 obtain ⟨t1, e2, H⟩ := bindO H
 refine a_call (v := vB t1) (nk := []) (L := []) ?_ rfl (spec_l01Name.ok e2) id (qd qn) trivial trivial trivial rfl
 refine a_move (v := vB _) ?_
 by_cases hc3 : t1 = true
 ·rw [if_pos hc3] at H
  refine a_move (v := vO [_, _, _]) ?_ (hg := Gs.yes rfl rfl rfl hc3)
  refine a_nil (v := vO [_, _, _]) ?_ (hg := Gs.yes rfl rfl rfl hc3)
  refine a_faR (cells' := [_, _]) ?_ D59_1 (hg := Gs.yes rfl rfl rfl hc3)
  refine a_ldR (v := vI _) ?_ T2 (hg := Gs.yes rfl rfl rfl hc3)
  obtain ⟨t4, e5, H⟩ := bindO H
  refine a_call (v := vB t4) (nk := []) (L := []) ?_ rfl (spec_l00In.ok e5) id (qd (qd (qd qn))) trivial trivial trivial rfl (hg := Gs.yes rfl rfl rfl hc3)
  refine a_pick (b := true) (v := vB _) ?_ hc3
  refine a_move (v := vB _) ?_
  by_cases hc6 : t4 = true
  ·rw [if_pos hc6] at H
   refine a_move (v := vO [_, _, _]) ?_ (hg := Gs.yes rfl rfl rfl hc6)
   refine a_nil (v := vO [_, _, _]) ?_ (hg := Gs.yes rfl rfl rfl hc6)
   refine a_faR (cells' := [_]) ?_ D59_2 (hg := Gs.yes rfl rfl rfl hc6)
   refine a_ldR (v := vI _) ?_ T2 (hg := Gs.yes rfl rfl rfl hc6)
   obtain ⟨t7, e8, H⟩ := bindO H
   refine a_call (v := vB t7) (nk := []) (L := []) ?_ rfl (spec_l00In.ok e8) id (qd (qd (qd qn))) trivial trivial trivial rfl (hg := Gs.yes rfl rfl rfl hc6)
   refine a_pick (b := true) (v := vB _) ?_ hc6
   refine a_move (v := vB _) ?_
   refine RA.nil nofun ?_
   refine AG.ret ?_
   obtain rfl := Option.some.inj H
   exact RetP.mk id ⟨rfl, trivial⟩ trivial rfl
  ·rw [if_neg hc6] at H
   refine RA.skip rfl rfl rfl rfl rfl (Bool.eq_false_iff.2 hc6) (by decide) ?_
   refine RA.skip rfl rfl rfl rfl rfl (Bool.eq_false_iff.2 hc6) (by decide) ?_
   refine RA.skip rfl rfl rfl rfl rfl (Bool.eq_false_iff.2 hc6) (by decide) ?_
   refine RA.skip rfl rfl rfl rfl rfl (Bool.eq_false_iff.2 hc6) (by decide) ?_
   refine RA.skip rfl rfl rfl rfl rfl (Bool.eq_false_iff.2 hc6) (by decide) ?_
   refine a_pick (b := false) (v := vB _) ?_ (Bool.eq_false_iff.2 hc6)
   refine a_move (v := vB _) ?_
   refine RA.nil nofun ?_
   refine AG.ret ?_
   obtain rfl := Option.some.inj H
   exact RetP.mk id ⟨rfl, trivial⟩ trivial rfl
 ·rw [if_neg hc3] at H
  refine RA.skip rfl rfl rfl rfl rfl (Bool.eq_false_iff.2 hc3) (by decide) ?_
  refine RA.skip rfl rfl rfl rfl rfl (Bool.eq_false_iff.2 hc3) (by decide) ?_
  refine RA.skip rfl rfl rfl rfl rfl (Bool.eq_false_iff.2 hc3) (by decide) ?_
  refine RA.skip rfl rfl rfl rfl rfl (Bool.eq_false_iff.2 hc3) (by decide) ?_
  refine RA.skip rfl rfl rfl rfl rfl (Bool.eq_false_iff.2 hc3) (by decide) ?_
  refine a_pick (b := false) (v := vB _) ?_ (Bool.eq_false_iff.2 hc3)
  refine a_move (v := vB _) ?_
  refine RA.skip rfl rfl rfl rfl rfl rfl (by decide) ?_
  refine RA.skip rfl rfl rfl rfl rfl rfl (by decide) ?_
  refine RA.skip rfl rfl rfl rfl rfl rfl (by decide) ?_
  refine RA.skip rfl rfl rfl rfl rfl rfl (by decide) ?_
  refine RA.skip rfl rfl rfl rfl rfl rfl (by decide) ?_
  refine a_pick (b := false) (v := vB _) ?_ rfl
  refine a_move (v := vB _) ?_
  refine RA.nil nofun ?_
  refine AG.ret ?_
  obtain rfl := Option.some.inj H
  exact RetP.mk id ⟨rfl, trivial⟩ trivial rfl
/-! ### spec_l16List: function 49 -/
def spec_l16List.l0 : Nat → List S54 → Int → Option (Bool)
 | 0, _, _ => none
 | k + 1, x0, x3 => if x3 < (x0.length : Int) then (if 0 ≤ x3 then ((spec_l16One.f k ((rd54 x0 x3).f0) ((rd54 x0 x3).f1) ((rd54 x0 x3).f2)).bind fun t3 => (if t3 = true then (if x3 > 0 then (if 0 ≤ (wrap64 (x3 - 1)) then (if (wrap64 (x3 - 1)) < (x0.length : Int) then (if (Op.bytesLess (((rd54 x0 (wrap64 (x3 - 1))).f0).toList) (((rd54 x0 x3).f0).toList)) = true then (spec_l16List.l0 k x0 (wrap64 (x3 + 1))) else (some false)) else (none)) else (none)) else (spec_l16List.l0 k x0 (wrap64 (x3 + 1)))) else (some false))) else (none)) else (some (decide ((x0.length : Int) ≤ 16)))
def spec_l16List.f (k : Nat) (l0 : List S54) : Option (Bool) := spec_l16List.l0 k l0 0
set_option maxRecDepth 100000 in
theorem spec_l16List.ok {k : Nat} {l0 : List S54} {r : Bool} (H : spec_l16List.f k l0 = some r) : OkF Try.prog 49 [vR 59 (l0.map c54)] [] (.c (.d (.v (.bool r)))) [] := by
 unfold spec_l16List.f at H
 refine OkF.of (N := 36) (rs := [2]) (avs := [.c (.d (.v (.bool r)))]) Try.func49 rfl rfl (fun _ _ => results_tmp rfl _ _ _) (by decide) rfl rfl rfl rfl (fun w0 S => ?_)
 refine AG.seq ?_
 refine AG.region HM ?_
 refine a_move (v := vB _) ?_
 refine RA.nil nofun ?_
 refine AG.seq ?_
 refine AG.seq ?_
 refine AG.region HM ?_
 refine a_move (v := vI _) ?_
 refine RA.nil nofun ?_
 refine AG.block ?_
 refine AG.loop ?_
 obtain ⟨K0, hK0, gK0⟩ : ∃ K, k ≤ K ∧ K ≤ k := ⟨k, Nat.le_refl k, Nat.le_refl k⟩
 refine AGr.canon id (AGr.loopI (n := k) (fun k s => k ≤ K0 ∧ ∃ (x0 : List S54) (x3 : Int), spec_l16List.l0 k x0 x3 = some r ∧ s = St.of [(0, vR 59 (x0.map c54)), (3, vI x3)] []) ⟨hK0, _, _, H, rfl⟩ ?_ ?_) ⟨rfl, rfl, trivial⟩ trivial rfl
 ·rintro _ ⟨_, _, _, H, _⟩
  cases H
 ·clear H hK0
  rintro k ih0 _ ⟨hK0, x0, x3, H, rfl⟩
  unfold spec_l16List.l0 at H
  refine AG.seq ?_
  refine AG.seq ?_
  refine AG.region HM ?_
  refine a_move (v := vI _) ?_
  refine a_move (v := vR _ _) ?_
  refine a_lenR ?_ Try.underlying41
  refine a_int (u := .bool (decide (x3 < (x0.length : Int)))) ?_
  refine RA.nil nofun ?_
  by_cases hc1 : x3 < (x0.length : Int)
  ·rw [if_pos hc1] at H
   refine AG.yes rfl (decide_eq_true hc1) ?_
   refine AG.skip ?_
   refine AG.seq ?_
   refine AG.block ?_
   refine AG.seq ?_
   refine AG.region HM ?_
   refine a_move (v := vR _ _) ?_
   refine a_move (v := vI _) ?_
   by_cases hc2 : 0 ≤ x3
   ·rw [if_pos hc2] at H
    refine a_ixR (el := c54 (rd54 x0 x3)) ?_ ⟨hc2, hc1⟩ T59 Try.underlying41 (hel := R54 hc2 hc1)
    obtain ⟨t3, e4, H⟩ := bindO H
    refine a_call (v := vB t3) (nk := []) (L := []) ?_ rfl (spec_l16One.ok e4) id (qd qn) trivial trivial trivial rfl
    refine a_un (u := .bool (!t3)) ?_
    refine a_move (v := vB _) ?_
    by_cases hc5 : t3 = true
    ·rw [if_pos hc5] at H
     refine a_move (v := vI _) ?_ (hg := Gs.yes rfl rfl rfl (congrArg Bool.not hc5))
     refine a_int (u := .bool (decide (x3 > 0))) ?_ (hg := Gs.yes rfl rfl rfl (congrArg Bool.not hc5))
     refine a_move (v := vB _) ?_ (hg := Gs.yes rfl rfl rfl (congrArg Bool.not hc5))
     by_cases hc6 : x3 > 0
     ·rw [if_pos hc6] at H
      refine a_move (v := vR _ _) ?_ (hg := Gs.yes rfl rfl rfl (decide_eq_true hc6))
      refine a_move (v := vI _) ?_ (hg := Gs.yes rfl rfl rfl (decide_eq_true hc6))
      refine a_int (u := .int .i64 (wrap64 (x3 - 1))) ?_ (hg := Gs.yes rfl rfl rfl (decide_eq_true hc6))
      by_cases hc7 : 0 ≤ (wrap64 (x3 - 1))
      ·rw [if_pos hc7] at H
       by_cases hc8 : (wrap64 (x3 - 1)) < (x0.length : Int)
       ·rw [if_pos hc8] at H
        refine a_ixR (el := c54 (rd54 x0 (wrap64 (x3 - 1)))) ?_ ⟨hc7, hc8⟩ T59 Try.underlying41 (hel := R54 hc7 hc8) (hg := Gs.yes rfl rfl rfl (decide_eq_true hc6))
        refine a_faR (cells' := [_, _, _]) ?_ D59_0 (hg := Gs.yes rfl rfl rfl (decide_eq_true hc6))
        refine a_ldR (v := vS _) ?_ T9 (hg := Gs.yes rfl rfl rfl (decide_eq_true hc6))
        refine a_move (v := vR _ _) ?_ (hg := Gs.yes rfl rfl rfl (decide_eq_true hc6))
        refine a_move (v := vI _) ?_ (hg := Gs.yes rfl rfl rfl (decide_eq_true hc6))
        refine a_ixR (el := c54 (rd54 x0 x3)) ?_ ⟨hc2, hc1⟩ T59 Try.underlying41 (hel := R54 hc2 hc1) (hg := Gs.yes rfl rfl rfl (decide_eq_true hc6))
        refine a_faR (cells' := [_, _, _]) ?_ D59_0 (hg := Gs.yes rfl rfl rfl (decide_eq_true hc6))
        refine a_ldR (v := vS _) ?_ T9 (hg := Gs.yes rfl rfl rfl (decide_eq_true hc6))
        refine a_bin (u := .bool (!(Op.bytesLess (((rd54 x0 (wrap64 (x3 - 1))).f0).toList) (((rd54 x0 x3).f0).toList)))) ?_ (hg := Gs.yes rfl rfl rfl (decide_eq_true hc6))
        refine a_pick (b := true) (v := vB _) ?_ (decide_eq_true hc6) (hg := Gs.yes rfl rfl rfl (congrArg Bool.not hc5))
        refine a_pick (b := false) (v := vB _) ?_ (congrArg Bool.not hc5)
        refine RA.nil (fun _ => by kernel_rfl) ?_
        by_cases hc9 : (Op.bytesLess (((rd54 x0 (wrap64 (x3 - 1))).f0).toList) (((rd54 x0 x3).f0).toList)) = true
        ·rw [if_pos hc9] at H
         refine AG.no rfl (by rw [show (Op.bytesLess (((rd54 x0 (wrap64 (x3 - 1))).f0).toList) (((rd54 x0 x3).f0).toList)) = true from hc9]; rfl) ?_
         refine AG.skip ?_
         refine AG.region HM ?_
         refine a_move (v := vI _) ?_
         refine a_int (u := .int .i64 (wrap64 (x3 + 1))) ?_
         refine a_move (v := vI _) ?_
         refine RA.nil nofun ?_
         exact AGr.canon id (ih0 _ (by omega) _ ⟨by omega, _, _, H, rfl⟩) ⟨rfl, rfl, trivial⟩ trivial rfl
        ·rw [if_neg hc9] at H
         refine AG.yes rfl (by rw [Bool.eq_false_iff.2 hc9]; rfl) ?_
         refine AG.seq ?_
         refine AG.region HM ?_
         refine a_move (v := vB _) ?_
         refine RA.nil nofun ?_
         refine AG.ret ?_
         obtain rfl := Option.some.inj H
         exact RetP.mk id ⟨rfl, trivial⟩ trivial rfl
       ·rw [if_neg hc8] at H
        cases H
      ·rw [if_neg hc7] at H
       cases H
     ·rw [if_neg hc6] at H
      refine RA.skip rfl rfl rfl rfl rfl (decide_eq_false hc6) (by decide) ?_
      refine RA.skip rfl rfl rfl rfl rfl (decide_eq_false hc6) (by decide) ?_
      refine RA.skip rfl rfl rfl rfl rfl (decide_eq_false hc6) (by decide) ?_
      refine RA.skip rfl rfl rfl rfl rfl (decide_eq_false hc6) (by decide) ?_
      refine RA.skip rfl rfl rfl rfl rfl (decide_eq_false hc6) (by decide) ?_
      refine RA.skip rfl rfl rfl rfl rfl (decide_eq_false hc6) (by decide) ?_
      refine RA.skip rfl rfl rfl rfl rfl (decide_eq_false hc6) (by decide) ?_
      refine RA.skip rfl rfl rfl rfl rfl (decide_eq_false hc6) (by decide) ?_
      refine RA.skip rfl rfl rfl rfl rfl (decide_eq_false hc6) (by decide) ?_
      refine RA.skip rfl rfl rfl rfl rfl (decide_eq_false hc6) (by decide) ?_
      refine RA.skip rfl rfl rfl rfl rfl (decide_eq_false hc6) (by decide) ?_
      refine RA.skip rfl rfl rfl rfl rfl (decide_eq_false hc6) (by decide) ?_
      refine a_pick (b := false) (v := vB _) ?_ (decide_eq_false hc6) (hg := Gs.yes rfl rfl rfl (congrArg Bool.not hc5))
      refine a_pick (b := false) (v := vB _) ?_ (congrArg Bool.not hc5)
      refine RA.nil (fun _ => by kernel_rfl) ?_
      refine AG.no rfl rfl ?_
      refine AG.skip ?_
      refine AG.region HM ?_
      refine a_move (v := vI _) ?_
      refine a_int (u := .int .i64 (wrap64 (x3 + 1))) ?_
      refine a_move (v := vI _) ?_
      refine RA.nil nofun ?_
      exact AGr.canon id (ih0 _ (by omega) _ ⟨by omega, _, _, H, rfl⟩) ⟨rfl, rfl, trivial⟩ trivial rfl
    ·rw [if_neg hc5] at H
     refine RA.skip rfl rfl rfl rfl rfl (congrArg Bool.not (Bool.eq_false_iff.2 hc5)) (by decide) ?_
     refine RA.skip rfl rfl rfl rfl rfl (congrArg Bool.not (Bool.eq_false_iff.2 hc5)) (by decide) ?_
     refine RA.skip rfl rfl rfl rfl rfl (congrArg Bool.not (Bool.eq_false_iff.2 hc5)) (by decide) ?_
     refine RA.skip0 rfl rfl rfl rfl rfl ?_
     refine RA.skip0 rfl rfl rfl rfl rfl ?_
     refine RA.skip0 rfl rfl rfl rfl rfl ?_
     refine RA.skip0 rfl rfl rfl rfl rfl ?_
     refine RA.skip0 rfl rfl rfl rfl rfl ?_
     refine RA.skip0 rfl rfl rfl rfl rfl ?_
     refine RA.skip0 rfl rfl rfl rfl rfl ?_
     refine RA.skip0 rfl rfl rfl rfl rfl ?_
     refine RA.skip0 rfl rfl rfl rfl rfl ?_
     refine RA.skip0 rfl rfl rfl rfl rfl ?_
     refine RA.skip0 rfl rfl rfl rfl rfl ?_
     refine RA.skip0 rfl rfl rfl rfl rfl ?_
     refine RA.skip rfl rfl rfl rfl rfl (congrArg Bool.not (Bool.eq_false_iff.2 hc5)) (by decide) ?_
     refine a_pick (b := true) (v := vB _) ?_ (congrArg Bool.not (Bool.eq_false_iff.2 hc5))
     refine RA.nil (fun _ => by kernel_rfl) ?_
     refine AG.yes rfl rfl ?_
     refine AG.seq ?_
     refine AG.region HM ?_
     refine a_move (v := vB _) ?_
     refine RA.nil nofun ?_
     refine AG.ret ?_
     obtain rfl := Option.some.inj H
     exact RetP.mk id ⟨rfl, trivial⟩ trivial rfl
   ·rw [if_neg hc2] at H
    cases H
  ·rw [if_neg hc1] at H
   refine AG.no rfl (decide_eq_false hc1) ?_
   refine AG.exit ?_
   refine AG.seq ?_
   refine AG.region HM ?_
   refine a_move (v := vR _ _) ?_
   refine a_lenR ?_ Try.underlying41
   refine a_int (u := .bool (decide ((x0.length : Int) ≤ 16))) ?_
   refine a_move (v := vB _) ?_
   refine RA.nil nofun ?_
   refine AG.ret ?_
   obtain rfl := Option.some.inj H
   exact RetP.mk id ⟨rfl, trivial⟩ trivial rfl
/-! ### spec_l16Wear: function 50 -/
def spec_l16Wear.f (a0_0 : ByteArray) (a0_1 : Int) (a0_2 : Int) : Option (Int) := some (wrap64 (Int.tdiv (wrap64 ((wrap64 (a0_1 * a0_2)) + 39)) 40))
set_option maxRecDepth 100000 in
theorem spec_l16Wear.ok {a0_0 : ByteArray} {a0_1 : Int} {a0_2 : Int} {r : Int} (H : spec_l16Wear.f a0_0 a0_1 a0_2 = some r) : OkF Try.prog 50 [.c (.d (.ro [.v (.string a0_0), .v (.int .i64 a0_1), .v (.int .i64 a0_2)]))] [] (.c (.d (.v (.int .i64 r)))) [] := by
 unfold spec_l16Wear.f at H
 refine OkF.of (N := 14) (rs := [2]) (avs := [.c (.d (.v (.int .i64 r)))]) Try.func50 rfl rfl (fun _ _ => results_tmp rfl _ _ _) (by decide) rfl rfl rfl rfl (fun w0 S => ?_)
 refine AG.seq ?_
 refine AG.region HM ?_
 refine a_move (v := vI _) ?_
 refine RA.nil nofun ?_
 refine AG.seq ?_
 refine AG.region HM ?_
 refine a_move (v := vO [_, _, _]) ?_
 refine a_nil (v := vO [_, _, _]) ?_
 refine a_faR (cells' := [_, _]) ?_ D59_1
 refine a_ldR (v := vI _) ?_ T2
 refine a_move (v := vO [_, _, _]) ?_
 refine a_nil (v := vO [_, _, _]) ?_
 refine a_faR (cells' := [_]) ?_ D59_2
 refine a_ldR (v := vI _) ?_ T2
 refine a_int (u := .int .i64 (wrap64 (a0_1 * a0_2))) ?_
 refine a_int (u := .int .i64 (wrap64 ((wrap64 (a0_1 * a0_2)) + 39))) ?_
 refine a_quo (r := wrap64 (Int.tdiv (wrap64 ((wrap64 (a0_1 * a0_2)) + 39)) 40)) ?_ (show ¬ (40 : Int) = 0 from by decide)
 refine a_move (v := vI _) ?_
 refine RA.nil (fun _ => by kernel_rfl) ?_
 refine AG.ret ?_
 obtain rfl := Option.some.inj H
 exact RetP.mk id ⟨rfl, trivial⟩ trivial rfl
/-! ### spec_l16Ask: function 34 -/
mutual
def spec_l16Ask.j0 : Nat → Int → List S54 → Bool → Option (Int)
 | 0, _, _, _ => none
 | k + 1, x0_1, x1, x13 => if x13 = true then (some 1) else (spec_l16Ask.l0 k x0_1 x1 0)
def spec_l16Ask.l0 : Nat → Int → List S54 → Int → Option (Int)
 | 0, _, _, _ => none
 | k + 1, x0_1, x1, x5 => if x5 < (x1.length : Int) then (if 0 ≤ x5 then ((spec_l16Wear.f ((rd54 x1 x5).f0) ((rd54 x1 x5).f1) ((rd54 x1 x5).f2)).bind fun t9 => (if t9 > x0_1 then (some 6) else (spec_l16Ask.l0 k x0_1 x1 (wrap64 (x5 + 1))))) else (none)) else (some 0)
end
def spec_l16Ask.f (k : Nat) (a0_0 : ByteArray) (a0_1 : Int) (a0_2 : Int) (a0_3 : Int) (l1 : List S54) : Option (Int) := (spec_l16Ok.f k a0_0 a0_1 a0_2 a0_3).bind fun t1 => (if t1 = true then ((spec_l16List.f k l1).bind fun t4 => (spec_l16Ask.j0 k a0_1 l1 (!t4))) else (spec_l16Ask.j0 k a0_1 l1 true))
set_option maxRecDepth 100000 in
theorem spec_l16Ask.ok {k : Nat} {a0_0 : ByteArray} {a0_1 : Int} {a0_2 : Int} {a0_3 : Int} {l1 : List S54} {r : Int} (H : spec_l16Ask.f k a0_0 a0_1 a0_2 a0_3 l1 = some r) : OkF Try.prog 34 [.c (.d (.ro [.v (.string a0_0), .v (.int .i64 a0_1), .v (.int .i64 a0_2), .v (.int .i64 a0_3)])), vR 59 (l1.map c54)] [] (.c (.d (.v (.int .i64 r)))) [] := by
 unfold spec_l16Ask.f at H
 refine OkF.of (N := 29) (rs := [4]) (avs := [.c (.d (.v (.int .i64 r)))]) Try.func34 rfl rfl (fun _ _ => results_tmp rfl _ _ _) (by decide) rfl rfl rfl rfl (fun w0 S => ?_)
 refine AG.seq ?_
 refine AG.region HM ?_
 refine a_move (v := vI _) ?_
 refine RA.nil nofun ?_
 refine AG.seq ?_
 refine AG.seq ?_
 refine AG.joinR (fun s => ∃ q, q ≤ k ∧ ∃ (x0_0 : ByteArray) (x0_1 : Int) (x0_2 : Int) (x0_3 : Int) (x1 : List S54) (x13 : Bool), spec_l16Ask.j0 q x0_1 x1 x13 = some r ∧ s = St.of [(0, .c (.d (.ro [.v (.string x0_0), .v (.int .i64 x0_1), .v (.int .i64 x0_2), .v (.int .i64 x0_3)]))), (1, vR 59 (x1.map c54)), (13, vB x13)] []) ?_ ?_
 ·skip
  refine AG.region HM ?_
  refine a_move (v := vO [_, _, _, _]) ?_
  obtain ⟨t1, e2, H⟩ := bindO H
  refine a_call (v := vB t1) (nk := []) (L := []) ?_ rfl (spec_l16Ok.ok e2) id (qd qn) trivial trivial trivial rfl
  refine a_un (u := .bool (!t1)) ?_
  refine a_move (v := vB _) ?_
  by_cases hc3 : t1 = true
  ·rw [if_pos hc3] at H
   refine a_move (v := vR _ _) ?_ (hg := Gs.yes rfl rfl rfl (congrArg Bool.not hc3))
   obtain ⟨t4, e5, H⟩ := bindO H
   refine a_call (v := vB t4) (nk := []) (L := []) ?_ rfl (spec_l16List.ok e5) id (qd qn) trivial trivial trivial rfl (hg := Gs.yes rfl rfl rfl (congrArg Bool.not hc3))
   refine a_un (u := .bool (!t4)) ?_ (hg := Gs.yes rfl rfl rfl (congrArg Bool.not hc3))
   refine a_pick (b := false) (v := vB _) ?_ (congrArg Bool.not hc3)
   refine RA.nil nofun ?_
   exact CanR.mk id ⟨_, (by omega), _, _, _, _, _, _, H, rfl⟩ ⟨rfl, rfl, rfl, trivial⟩ trivial rfl
  ·rw [if_neg hc3] at H
   refine RA.skip rfl rfl rfl rfl rfl (congrArg Bool.not (Bool.eq_false_iff.2 hc3)) (by decide) ?_
   refine RA.skip rfl rfl rfl rfl rfl (congrArg Bool.not (Bool.eq_false_iff.2 hc3)) (by decide) ?_
   refine RA.skip rfl rfl rfl rfl rfl (congrArg Bool.not (Bool.eq_false_iff.2 hc3)) (by decide) ?_
   refine a_pick (b := true) (v := vB _) ?_ (congrArg Bool.not (Bool.eq_false_iff.2 hc3))
   refine RA.nil nofun ?_
   exact CanR.mk id ⟨_, (by omega), _, _, _, _, _, _, H, rfl⟩ ⟨rfl, rfl, rfl, trivial⟩ trivial rfl
 ·clear H
  rintro _ ⟨k, hj0, x0_0, x0_1, x0_2, x0_3, x1, x13, H, rfl⟩
  cases k with
  | zero => cases H
  | succ k =>
   rw [spec_l16Ask.j0] at H
   by_cases hc6 : x13 = true
   ·rw [if_pos hc6] at H
    refine AG.yes rfl hc6 ?_
    refine AG.seq ?_
    refine AG.region HM ?_
    refine a_move (v := vI _) ?_
    refine RA.nil nofun ?_
    refine AG.ret ?_
    obtain rfl := Option.some.inj H
    exact RetP.mk id ⟨rfl, trivial⟩ trivial rfl
   ·rw [if_neg hc6] at H
    refine AG.no rfl (Bool.eq_false_iff.2 hc6) ?_
    refine AG.skip ?_
    refine AG.seq ?_
    refine AG.seq ?_
    refine AG.region HM ?_
    refine a_move (v := vI _) ?_
    refine RA.nil nofun ?_
    refine AG.block ?_
    refine AG.loop ?_
    obtain ⟨K0, hK0, gK0⟩ : ∃ K, k ≤ K ∧ K ≤ k := ⟨k, Nat.le_refl k, Nat.le_refl k⟩
    refine AGr.canon id (AGr.loopI (n := k) (fun k s => k ≤ K0 ∧ ∃ (x0_0 : ByteArray) (x0_1 : Int) (x0_2 : Int) (x0_3 : Int) (x1 : List S54) (x5 : Int), spec_l16Ask.l0 k x0_1 x1 x5 = some r ∧ s = St.of [(0, .c (.d (.ro [.v (.string x0_0), .v (.int .i64 x0_1), .v (.int .i64 x0_2), .v (.int .i64 x0_3)]))), (1, vR 59 (x1.map c54)), (5, vI x5)] []) ⟨hK0, _, _, _, _, _, _, H, rfl⟩ ?_ ?_) ⟨rfl, rfl, rfl, trivial⟩ trivial rfl
    ·rintro _ ⟨_, _, _, _, _, _, _, H, _⟩
     cases H
    ·clear H hK0
     rintro k ih0 _ ⟨hK0, x0_0, x0_1, x0_2, x0_3, x1, x5, H, rfl⟩
     unfold spec_l16Ask.l0 at H
     refine AG.seq ?_
     refine AG.seq ?_
     refine AG.region HM ?_
     refine a_move (v := vI _) ?_
     refine a_move (v := vR _ _) ?_
     refine a_lenR ?_ Try.underlying41
     refine a_int (u := .bool (decide (x5 < (x1.length : Int)))) ?_
     refine RA.nil nofun ?_
     by_cases hc7 : x5 < (x1.length : Int)
     ·rw [if_pos hc7] at H
      refine AG.yes rfl (decide_eq_true hc7) ?_
      refine AG.skip ?_
      refine AG.seq ?_
      refine AG.block ?_
      refine AG.seq ?_
      refine AG.region HM ?_
      refine a_move (v := vR _ _) ?_
      refine a_move (v := vI _) ?_
      by_cases hc8 : 0 ≤ x5
      ·rw [if_pos hc8] at H
       refine a_ixR (el := c54 (rd54 x1 x5)) ?_ ⟨hc8, hc7⟩ T59 Try.underlying41 (hel := R54 hc8 hc7)
       obtain ⟨t9, e10, H⟩ := bindO H
       refine a_call (v := vI t9) (nk := []) (L := []) ?_ rfl (spec_l16Wear.ok e10) id (qd qn) trivial trivial trivial rfl
       refine a_move (v := vO [_, _, _, _]) ?_
       refine a_nil (v := vO [_, _, _, _]) ?_
       refine a_faR (cells' := [_, _, _]) ?_ D39_1
       refine a_ldR (v := vI _) ?_ T2
       refine a_int (u := .bool (decide (t9 > x0_1))) ?_
       refine RA.nil (fun _ => by kernel_rfl) ?_
       by_cases hc11 : t9 > x0_1
       ·rw [if_pos hc11] at H
        refine AG.yes rfl (decide_eq_true hc11) ?_
        refine AG.seq ?_
        refine AG.region HM ?_
        refine a_move (v := vI _) ?_
        refine RA.nil nofun ?_
        refine AG.ret ?_
        obtain rfl := Option.some.inj H
        exact RetP.mk id ⟨rfl, trivial⟩ trivial rfl
       ·rw [if_neg hc11] at H
        refine AG.no rfl (decide_eq_false hc11) ?_
        refine AG.skip ?_
        refine AG.region HM ?_
        refine a_move (v := vI _) ?_
        refine a_int (u := .int .i64 (wrap64 (x5 + 1))) ?_
        refine a_move (v := vI _) ?_
        refine RA.nil nofun ?_
        exact AGr.canon id (ih0 _ (by omega) _ ⟨by omega, _, _, _, _, _, _, H, rfl⟩) ⟨rfl, rfl, rfl, trivial⟩ trivial rfl
      ·rw [if_neg hc8] at H
       cases H
     ·rw [if_neg hc7] at H
      refine AG.no rfl (decide_eq_false hc7) ?_
      refine AG.exit ?_
      refine AG.seq ?_
      refine AG.region HM ?_
      refine a_move (v := vI _) ?_
      refine RA.nil nofun ?_
      refine AG.ret ?_
      obtain rfl := Option.some.inj H
      exact RetP.mk id ⟨rfl, trivial⟩ trivial rfl
/-! ### spec_l16Wears: function 35 -/
def spec_l16Wears.l0 : Nat → List S54 → List Int → Int → Option ((List Int))
 | 0, _, _, _ => none
 | k + 1, x0, x3, x4 => if x4 < (x0.length : Int) then (if 0 ≤ x4 then ((spec_l16Wear.f ((rd54 x0 x4).f0) ((rd54 x0 x4).f1) ((rd54 x0 x4).f2)).bind fun t4 => (if x3.length < 17592186044416 then (spec_l16Wears.l0 k x0 (x3 ++ [t4]) (wrap64 (x4 + 1))) else (none))) else (none)) else (some x3)
def spec_l16Wears.f (k : Nat) (l0 : List S54) : Option ((List Int)) := spec_l16Wears.l0 k l0 (([] : List Int) : List Int) 0
set_option maxRecDepth 100000 in
theorem spec_l16Wears.ok {k : Nat} {l0 : List S54} {r : List Int} (H : spec_l16Wears.f k l0 = some r) : OkF Try.prog 35 [vR 59 (l0.map c54)] [] (.c (.own 100 r.length)) [(100, .row 2 (r.map c2))] := by
 unfold spec_l16Wears.f at H
 refine OkF.of (N := 20) (rs := [2]) (avs := [.c (.own 100 r.length)]) Try.func35 rfl rfl (fun _ _ => results_tmp rfl _ _ _) (by decide) rfl rfl rfl rfl (fun w0 S => ?_)
 refine AG.seq ?_
 refine AG.region HM ?_
 refine a_nilO (e := 2) 200 ?_ T2
 refine RA.nil nofun ?_
 refine AG.seq ?_
 refine AG.region HM ?_
 refine a_lit (cs := []) (D := []) (css := (([] : List Int) : List Int).map c2) 201 ?_ N36 T2 (hcss := by rfl)
 refine a_move (v := .c (.own _ _)) ?_
 refine RA.nil nofun ?_
 refine AG.seq ?_
 refine AG.seq ?_
 refine AG.region HM ?_
 refine a_move (v := vI _) ?_
 refine RA.nil nofun ?_
 refine AG.block ?_
 refine AG.loop ?_
 obtain ⟨K0, hK0, gK0⟩ : ∃ K, k ≤ K ∧ K ≤ k := ⟨k, Nat.le_refl k, Nat.le_refl k⟩
 refine AGr.canon (fun κ => cond (Nat.beq κ 202) 201 (κ)) (AGr.loopI (n := k) (fun k s => k ≤ K0 ∧ ∃ (x0 : List S54) (x3 : List Int) (x4 : Int), spec_l16Wears.l0 k x0 x3 x4 = some r ∧ s = St.of [(0, vR 59 (x0.map c54)), (3, .c (.own 202 x3.length)), (4, vI x4)] [(202, .row 2 (x3.map c2))]) ⟨hK0, _, _, _, H, rfl⟩ ?_ ?_) ⟨rfl, (ownE rfl (by simp)), rfl, trivial⟩ ⟨rfl, trivial⟩ rfl
 ·rintro _ ⟨_, _, _, _, H, _⟩
  cases H
 ·clear H hK0
  rintro k ih0 _ ⟨hK0, x0, x3, x4, H, rfl⟩
  unfold spec_l16Wears.l0 at H
  refine AG.seq ?_
  refine AG.seq ?_
  refine AG.region HM ?_
  refine a_move (v := vI _) ?_
  refine a_move (v := vR _ _) ?_
  refine a_lenR ?_ Try.underlying41
  refine a_int (u := .bool (decide (x4 < (x0.length : Int)))) ?_
  refine RA.nil nofun ?_
  by_cases hc2 : x4 < (x0.length : Int)
  ·rw [if_pos hc2] at H
   refine AG.yes rfl (decide_eq_true hc2) ?_
   refine AG.skip ?_
   refine AG.seq ?_
   refine AG.block ?_
   refine AG.region HM ?_
   refine a_move (v := .c (.own _ _)) ?_
   refine a_move (v := vR _ _) ?_
   refine a_move (v := vI _) ?_
   by_cases hc3 : 0 ≤ x4
   ·rw [if_pos hc3] at H
    refine a_ixR (el := c54 (rd54 x0 x4)) ?_ ⟨hc3, hc2⟩ T59 Try.underlying41 (hel := R54 hc3 hc2)
    obtain ⟨t4, e5, H⟩ := bindO H
    refine a_call (v := vI t4) (nk := []) (L := []) ?_ rfl (spec_l16Wear.ok e5) id (qd qn) trivial trivial trivial rfl
    refine a_lit (cs := [_]) (D := []) (css := ([t4]).map c2) 204 ?_ N36 T2
    by_cases hc6 : x3.length < 17592186044416
    ·rw [if_pos hc6] at H
     refine a_appO (css' := (x3 ++ [t4]).map c2) (n' := (x3 ++ [t4]).length) ?_ T2 (by simp [maxLen]; omega) (by simp; omega) Try.underlying36 (hc := by exact List.map_append.symm) (hn := by exact List.length_map _)
     refine a_move (v := .c (.own _ _)) ?_
     refine RA.nil nofun ?_
     refine AG.region HM ?_
     refine a_move (v := vI _) ?_
     refine a_int (u := .int .i64 (wrap64 (x4 + 1))) ?_
     refine a_move (v := vI _) ?_
     refine RA.nil nofun ?_
     exact AGr.canon id (ih0 _ (by omega) _ ⟨by omega, _, _, _, H, rfl⟩) ⟨rfl, rfl, rfl, trivial⟩ ⟨rfl, trivial⟩ rfl
    ·rw [if_neg hc6] at H
     cases H
   ·rw [if_neg hc3] at H
    cases H
  ·rw [if_neg hc2] at H
   refine AG.no rfl (decide_eq_false hc2) ?_
   refine AG.exit ?_
   refine AG.seq ?_
   refine AG.region HM ?_
   refine a_move (v := .c (.own _ _)) ?_
   refine a_move (v := .c (.own _ _)) ?_
   refine RA.nil nofun ?_
   refine AG.ret ?_
   obtain rfl := Option.some.inj H
   exact RetP.mk (fun κ => cond (Nat.beq κ 100) 202 (κ)) ⟨rfl, trivial⟩ ⟨rfl, trivial⟩ rfl
/-! ### spec_l00Own: function 45 -/
def spec_l00Own.f (l0 : List Int) : Option ((List Int)) := if ([] : List Int).length + l0.length < 17592186044416 then (some (([] : List Int) ++ l0)) else (none)
set_option maxRecDepth 100000 in
theorem spec_l00Own.ok {l0 : List Int} {r : List Int} (H : spec_l00Own.f l0 = some r) : OkF Try.prog 45 [vR 2 (l0.map c2)] [] (.c (.own 100 r.length)) [(100, .row 2 (r.map c2))] := by
 unfold spec_l00Own.f at H
 refine OkF.of (N := 6) (rs := [2]) (avs := [.c (.own 100 r.length)]) Try.func45 rfl rfl (fun _ _ => results_tmp rfl _ _ _) (by decide) rfl rfl rfl rfl (fun w0 S => ?_)
 refine AG.seq ?_
 refine AG.region HM ?_
 refine a_nilO (e := 2) 200 ?_ T2
 refine RA.nil nofun ?_
 refine AG.seq ?_
 refine AG.region HM ?_
 refine a_lit (cs := []) (D := []) (css := (([] : List Int)).map c2) 201 ?_ N36 T2
 refine a_move (v := vR _ _) ?_
 by_cases hc1 : ([] : List Int).length + l0.length < 17592186044416
 ·rw [if_pos hc1] at H
  refine a_appR (css2 := l0.map c2) (css' := (([] : List Int) ++ l0).map c2) (n' := (([] : List Int) ++ l0).length) ?_ (by simp [c2, isV, Value.oneCell']) T2 (by simp [maxLen]; omega) (by simp; omega) Try.underlying36 (hc := by exact List.map_append.symm) (hn := by exact List.length_map _)
  refine a_move (v := .c (.own _ _)) ?_
  refine RA.nil nofun ?_
  refine AG.ret ?_
  obtain rfl := Option.some.inj H
  exact RetP.mk (fun κ => cond (Nat.beq κ 100) 201 (κ)) ⟨rfl, trivial⟩ ⟨rfl, trivial⟩ rfl
 ·rw [if_neg hc1] at H
  cases H
/-! ### spec_l14Order: function 36 -/
mutual
def spec_l14Order.l0 : Nat → List Int → List Int → Int → Option ((List Int))
 | 0, _, _, _ => none
 | k + 1, x0, x3, x4 => if x4 < (x0.length : Int) then (spec_l14Order.l1 k x0 x3 x4 (x3.length : Int)) else (some x3)
def spec_l14Order.l1 : Nat → List Int → List Int → Int → Int → Option ((List Int))
 | 0, _, _, _, _ => none
 | k + 1, x0, x3, x4, x5 => if x5 > 0 then (if 0 ≤ (wrap64 (x5 - 1)) then (if (wrap64 (x5 - 1)) < (x3.length : Int) then (if 0 ≤ (rd2 x3 (wrap64 (x5 - 1))) then (if (rd2 x3 (wrap64 (x5 - 1))) < (x0.length : Int) then (if 0 ≤ x4 then (if x4 < (x0.length : Int) then (if (rd2 x0 (rd2 x3 (wrap64 (x5 - 1)))) < (rd2 x0 x4) then (spec_l14Order.l1 k x0 x3 x4 (wrap64 (x5 - 1))) else (if 0 ≤ x5 then (if x5 ≤ (x3.length : Int) then ((spec_l00Own.f (x3.take ((x5 : Int).toNat))).bind fun t13 => (if t13.length < 17592186044416 then ((some (t13 ++ [x4] : List Int)).bind fun y16 => (if y16.length + (x3.length - (x5 : Int).toNat) < 17592186044416 then (spec_l14Order.l0 k x0 (y16 ++ (x3.drop ((x5 : Int).toNat)).take (x3.length - (x5 : Int).toNat)) (wrap64 (x4 + 1))) else (none))) else (none))) else (none)) else (none))) else (none)) else (none)) else (none)) else (none)) else (none)) else (none)) else (if 0 ≤ x5 then (if x5 ≤ (x3.length : Int) then ((spec_l00Own.f (x3.take ((x5 : Int).toNat))).bind fun t21 => (if t21.length < 17592186044416 then ((some (t21 ++ [x4] : List Int)).bind fun y24 => (if y24.length + (x3.length - (x5 : Int).toNat) < 17592186044416 then (spec_l14Order.l0 k x0 (y24 ++ (x3.drop ((x5 : Int).toNat)).take (x3.length - (x5 : Int).toNat)) (wrap64 (x4 + 1))) else (none))) else (none))) else (none)) else (none))
end
def spec_l14Order.f (k : Nat) (l0 : List Int) : Option ((List Int)) := spec_l14Order.l0 k l0 (([] : List Int) : List Int) 0
set_option maxRecDepth 100000 in
theorem spec_l14Order.ok {k : Nat} {l0 : List Int} {r : List Int} (H : spec_l14Order.f k l0 = some r) : OkF Try.prog 36 [vR 2 (l0.map c2)] [] (.c (.own 100 r.length)) [(100, .row 2 (r.map c2))] := by
 unfold spec_l14Order.f at H
 refine OkF.of (N := 49) (rs := [2]) (avs := [.c (.own 100 r.length)]) Try.func36 rfl rfl (fun _ _ => results_tmp rfl _ _ _) (by decide) rfl rfl rfl rfl (fun w0 S => ?_)
 refine AG.seq ?_
 refine AG.region HM ?_
 refine a_nilO (e := 2) 200 ?_ T2
 refine RA.nil nofun ?_
 refine AG.seq ?_
 refine AG.region HM ?_
 refine a_lit (cs := []) (D := []) (css := (([] : List Int) : List Int).map c2) 201 ?_ N36 T2 (hcss := by rfl)
 refine a_move (v := .c (.own _ _)) ?_
 refine RA.nil nofun ?_
 refine AG.seq ?_
 refine AG.seq ?_
 refine AG.region HM ?_
 refine a_move (v := vI _) ?_
 refine RA.nil nofun ?_
 refine AG.block ?_
 refine AG.loop ?_
 obtain ⟨K0, hK0, gK0⟩ : ∃ K, k ≤ K ∧ K ≤ k := ⟨k, Nat.le_refl k, Nat.le_refl k⟩
 refine AGr.canon (fun κ => cond (Nat.beq κ 202) 201 (κ)) (AGr.loopI (n := k) (fun k s => k ≤ K0 ∧ ∃ (x0 : List Int) (x3 : List Int) (x4 : Int), spec_l14Order.l0 k x0 x3 x4 = some r ∧ s = St.of [(0, vR 2 (x0.map c2)), (3, .c (.own 202 x3.length)), (4, vI x4)] [(202, .row 2 (x3.map c2))]) ⟨hK0, _, _, _, H, rfl⟩ ?_ ?_) ⟨rfl, (ownE rfl (by simp)), rfl, trivial⟩ ⟨rfl, trivial⟩ rfl
 ·rintro _ ⟨_, _, _, _, H, _⟩
  cases H
 ·clear H hK0
  rintro k ih0 _ ⟨hK0, x0, x3, x4, H, rfl⟩
  unfold spec_l14Order.l0 at H
  refine AG.seq ?_
  refine AG.seq ?_
  refine AG.region HM ?_
  refine a_move (v := vI _) ?_
  refine a_move (v := vR _ _) ?_
  refine a_lenR ?_ Try.underlying36
  refine a_int (u := .bool (decide (x4 < (x0.length : Int)))) ?_
  refine RA.nil nofun ?_
  by_cases hc2 : x4 < (x0.length : Int)
  ·rw [if_pos hc2] at H
   refine AG.yes rfl (decide_eq_true hc2) ?_
   refine AG.skip ?_
   refine AG.seq ?_
   refine AG.block ?_
   refine AG.seq ?_
   refine AG.region HM ?_
   refine a_move (v := .c (.own _ _)) ?_
   refine a_lenO ?_ Try.underlying36
   refine a_move (v := vI _) ?_
   refine RA.nil nofun ?_
   refine AG.seq ?_
   refine AG.block ?_
   refine AG.loop ?_
   obtain ⟨K1, hK1, gK1⟩ : ∃ K, k ≤ K ∧ K ≤ k := ⟨k, Nat.le_refl k, Nat.le_refl k⟩
   refine AGr.canon (fun κ => cond (Nat.beq κ 203) 202 (κ)) (AGr.loopI (n := k) (fun k s => k ≤ K1 ∧ ∃ (x0 : List Int) (x3 : List Int) (x4 : Int) (x5 : Int), spec_l14Order.l1 k x0 x3 x4 x5 = some r ∧ s = St.of [(0, vR 2 (x0.map c2)), (3, .c (.own 203 x3.length)), (4, vI x4), (5, vI x5)] [(203, .row 2 (x3.map c2))]) ⟨hK1, _, _, _, _, H, rfl⟩ ?_ ?_) ⟨rfl, rfl, rfl, rfl, trivial⟩ ⟨rfl, trivial⟩ rfl
   ·rintro _ ⟨_, _, _, _, _, H, _⟩
    cases H
   ·clear H hK1
    rintro k ih1 _ ⟨hK1, x0, x3, x4, x5, H, rfl⟩
    unfold spec_l14Order.l1 at H
    refine AG.seq ?_
    refine AG.seq ?_
    refine AG.region HM ?_
    refine a_move (v := vI _) ?_
    refine a_int (u := .bool (decide (x5 > 0))) ?_
    refine a_move (v := vB _) ?_
    by_cases hc3 : x5 > 0
    ·rw [if_pos hc3] at H
     refine a_move (v := vR _ _) ?_ (hg := Gs.yes rfl rfl rfl (decide_eq_true hc3))
     refine a_move (v := .c (.own _ _)) ?_ (hg := Gs.yes rfl rfl rfl (decide_eq_true hc3))
     refine a_move (v := vI _) ?_ (hg := Gs.yes rfl rfl rfl (decide_eq_true hc3))
     refine a_int (u := .int .i64 (wrap64 (x5 - 1))) ?_ (hg := Gs.yes rfl rfl rfl (decide_eq_true hc3))
     by_cases hc4 : 0 ≤ (wrap64 (x5 - 1))
     ·rw [if_pos hc4] at H
      by_cases hc5 : (wrap64 (x5 - 1)) < (x3.length : Int)
      ·rw [if_pos hc5] at H
       refine a_ixO ?_ ⟨hc4, hc5⟩ T2 Try.underlying36 (hg := Gs.yes rfl rfl rfl (decide_eq_true hc3))
       refine a_ldE (v := vI _) ?_ (G2 hc4 hc5) T2 (hg := Gs.yes rfl rfl rfl (decide_eq_true hc3))
       by_cases hc6 : 0 ≤ (rd2 x3 (wrap64 (x5 - 1)))
       ·rw [if_pos hc6] at H
        by_cases hc7 : (rd2 x3 (wrap64 (x5 - 1))) < (x0.length : Int)
        ·rw [if_pos hc7] at H
         refine a_ixR (el := c2 (rd2 x0 (rd2 x3 (wrap64 (x5 - 1))))) ?_ ⟨hc6, hc7⟩ T2 Try.underlying36 (hel := R2 hc6 hc7) (hg := Gs.yes rfl rfl rfl (decide_eq_true hc3))
         refine a_ldR (v := vI _) ?_ T2 (hg := Gs.yes rfl rfl rfl (decide_eq_true hc3))
         refine a_move (v := vR _ _) ?_ (hg := Gs.yes rfl rfl rfl (decide_eq_true hc3))
         refine a_move (v := vI _) ?_ (hg := Gs.yes rfl rfl rfl (decide_eq_true hc3))
         by_cases hc8 : 0 ≤ x4
         ·rw [if_pos hc8] at H
          by_cases hc9 : x4 < (x0.length : Int)
          ·rw [if_pos hc9] at H
           refine a_ixR (el := c2 (rd2 x0 x4)) ?_ ⟨hc8, hc9⟩ T2 Try.underlying36 (hel := R2 hc8 hc9) (hg := Gs.yes rfl rfl rfl (decide_eq_true hc3))
           refine a_ldR (v := vI _) ?_ T2 (hg := Gs.yes rfl rfl rfl (decide_eq_true hc3))
           refine a_int (u := .bool (decide ((rd2 x0 (rd2 x3 (wrap64 (x5 - 1)))) < (rd2 x0 x4)))) ?_ (hg := Gs.yes rfl rfl rfl (decide_eq_true hc3))
           refine a_pick (b := true) (v := vB _) ?_ (decide_eq_true hc3)
           refine RA.nil (fun _ => by kernel_rfl) ?_
           by_cases hc10 : (rd2 x0 (rd2 x3 (wrap64 (x5 - 1)))) < (rd2 x0 x4)
           ·rw [if_pos hc10] at H
            refine AG.yes rfl (decide_eq_true hc10) ?_
            refine AG.skip ?_
            refine AG.block ?_
            refine AG.region HM ?_
            refine a_move (v := vI _) ?_
            refine a_int (u := .int .i64 (wrap64 (x5 - 1))) ?_
            refine a_move (v := vI _) ?_
            refine RA.nil nofun ?_
            exact AGr.canon id (ih1 _ (by omega) _ ⟨by omega, _, _, _, _, H, rfl⟩) ⟨rfl, rfl, rfl, rfl, trivial⟩ ⟨rfl, trivial⟩ rfl
           ·rw [if_neg hc10] at H
            refine AG.no rfl (decide_eq_false hc10) ?_
            refine AG.exit ?_
            refine AG.seq ?_
            refine AG.region HM ?_
            refine a_move (v := .c (.own _ _)) ?_
            refine a_move (v := vI _) ?_
            by_cases hc11 : 0 ≤ x5
            ·rw [if_pos hc11] at H
             by_cases hc12 : x5 ≤ (x3.length : Int)
             ·rw [if_pos hc12] at H
              refine a_slO (l := none) (h := some x5) ?_ Try.underlying36 T2 ⟨(Int.le_refl 0), hc11, hc12⟩
              obtain ⟨t13, e14, H⟩ := bindO H
              refine a_call (v := .c (.own 204 t13.length)) (nk := [(204, .row 2 (t13.map c2))]) (L := [(203, _)]) ?_ rfl (spec_l00Own.ok e14) (fun κ => cond (Nat.beq κ 204) 100 (κ)) (qc (rC (map_drop_take _ _ _ _)) qn) ⟨rfl, trivial⟩ ⟨rfl, trivial⟩ ⟨rfl, trivial⟩ rfl
              refine a_move (v := .c (.own _ _)) ?_
              refine RA.nil nofun ?_
              refine AG.seq ?_
              refine AG.region HM ?_
              refine a_move (v := .c (.own _ _)) ?_
              refine a_move (v := vI _) ?_
              refine a_lit (cs := [_]) (D := []) (css := ([x4]).map c2) 205 ?_ N36 T2
              by_cases hc15 : t13.length < 17592186044416
              ·rw [if_pos hc15] at H
               obtain ⟨y16, ey16, H⟩ := bindO H
               have ey16 := Option.some.inj ey16
               refine a_appO (css' := y16.map c2) (n' := y16.length) ?_ T2 (by rw [← ey16]; simp [maxLen]; omega) (by rw [← ey16]; simp; omega) Try.underlying36 (hc := by rw [← ey16]; exact List.map_append.symm) (hn := by exact List.length_map _)
               refine a_move (v := .c (.own _ _)) ?_
               refine RA.nil nofun ?_
               refine AG.region HM ?_
               refine a_move (v := .c (.own _ _)) ?_
               refine a_move (v := .c (.own _ _)) ?_
               refine a_move (v := vI _) ?_
               refine a_slO (l := some x5) (h := none) ?_ Try.underlying36 T2 ⟨hc11, hc12, (Int.le_refl _)⟩
               by_cases hc17 : y16.length + (x3.length - (x5 : Int).toNat) < 17592186044416
               ·rw [if_pos hc17] at H
                refine a_appC (css2 := x3.map c2) (css' := (y16 ++ (x3.drop ((x5 : Int).toNat)).take (x3.length - (x5 : Int).toNat)).map c2) (n' := (y16 ++ (x3.drop ((x5 : Int).toNat)).take (x3.length - (x5 : Int).toNat)).length) ?_ (by simp [c2, isV, Value.oneCell']) T2 (by simp [maxLen]; omega) (by simp; omega) (by rw [List.map_append, List.map_take, List.map_drop]) (by exact List.length_map _) Try.underlying36
                refine a_move (v := .c (.own _ _)) ?_
                refine RA.nil nofun ?_
                refine AG.region HM ?_
                refine a_move (v := vI _) ?_
                refine a_int (u := .int .i64 (wrap64 (x4 + 1))) ?_
                refine a_move (v := vI _) ?_
                refine RA.nil nofun ?_
                exact AGr.canon (fun κ => cond (Nat.beq κ 202) 204 (κ)) (ih0 _ (by omega) _ ⟨by omega, _, _, _, H, rfl⟩) ⟨rfl, rfl, rfl, trivial⟩ ⟨rfl, trivial⟩ rfl
               ·rw [if_neg hc17] at H
                cases H
              ·rw [if_neg hc15] at H
               cases H
             ·rw [if_neg hc12] at H
              cases H
            ·rw [if_neg hc11] at H
             cases H
          ·rw [if_neg hc9] at H
           cases H
         ·rw [if_neg hc8] at H
          cases H
        ·rw [if_neg hc7] at H
         cases H
       ·rw [if_neg hc6] at H
        cases H
      ·rw [if_neg hc5] at H
       cases H
     ·rw [if_neg hc4] at H
      cases H
    ·rw [if_neg hc3] at H
     refine RA.skip rfl rfl rfl rfl rfl (decide_eq_false hc3) (by decide) ?_
     refine RA.skip rfl rfl rfl rfl rfl (decide_eq_false hc3) (by decide) ?_
     refine RA.skip rfl rfl rfl rfl rfl (decide_eq_false hc3) (by decide) ?_
     refine RA.skip rfl rfl rfl rfl rfl (decide_eq_false hc3) (by decide) ?_
     refine RA.skip rfl rfl rfl rfl rfl (decide_eq_false hc3) (by decide) ?_
     refine RA.skip rfl rfl rfl rfl rfl (decide_eq_false hc3) (by decide) ?_
     refine RA.skip rfl rfl rfl rfl rfl (decide_eq_false hc3) (by decide) ?_
     refine RA.skip rfl rfl rfl rfl rfl (decide_eq_false hc3) (by decide) ?_
     refine RA.skip rfl rfl rfl rfl rfl (decide_eq_false hc3) (by decide) ?_
     refine RA.skip rfl rfl rfl rfl rfl (decide_eq_false hc3) (by decide) ?_
     refine RA.skip rfl rfl rfl rfl rfl (decide_eq_false hc3) (by decide) ?_
     refine RA.skip rfl rfl rfl rfl rfl (decide_eq_false hc3) (by decide) ?_
     refine RA.skip rfl rfl rfl rfl rfl (decide_eq_false hc3) (by decide) ?_
     refine a_pick (b := false) (v := vB _) ?_ (decide_eq_false hc3)
     refine RA.nil (fun _ => by kernel_rfl) ?_
     refine AG.no rfl rfl ?_
     refine AG.exit ?_
     refine AG.seq ?_
     refine AG.region HM ?_
     refine a_move (v := .c (.own _ _)) ?_
     refine a_move (v := vI _) ?_
     by_cases hc19 : 0 ≤ x5
     ·rw [if_pos hc19] at H
      by_cases hc20 : x5 ≤ (x3.length : Int)
      ·rw [if_pos hc20] at H
       refine a_slO (l := none) (h := some x5) ?_ Try.underlying36 T2 ⟨(Int.le_refl 0), hc19, hc20⟩
       obtain ⟨t21, e22, H⟩ := bindO H
       refine a_call (v := .c (.own 204 t21.length)) (nk := [(204, .row 2 (t21.map c2))]) (L := [(203, _)]) ?_ rfl (spec_l00Own.ok e22) (fun κ => cond (Nat.beq κ 204) 100 (κ)) (qc (rC (map_drop_take _ _ _ _)) qn) ⟨rfl, trivial⟩ ⟨rfl, trivial⟩ ⟨rfl, trivial⟩ rfl
       refine a_move (v := .c (.own _ _)) ?_
       refine RA.nil nofun ?_
       refine AG.seq ?_
       refine AG.region HM ?_
       refine a_move (v := .c (.own _ _)) ?_
       refine a_move (v := vI _) ?_
       refine a_lit (cs := [_]) (D := []) (css := ([x4]).map c2) 205 ?_ N36 T2
       by_cases hc23 : t21.length < 17592186044416
       ·rw [if_pos hc23] at H
        obtain ⟨y24, ey24, H⟩ := bindO H
        have ey24 := Option.some.inj ey24
        refine a_appO (css' := y24.map c2) (n' := y24.length) ?_ T2 (by rw [← ey24]; simp [maxLen]; omega) (by rw [← ey24]; simp; omega) Try.underlying36 (hc := by rw [← ey24]; exact List.map_append.symm) (hn := by exact List.length_map _)
        refine a_move (v := .c (.own _ _)) ?_
        refine RA.nil nofun ?_
        refine AG.region HM ?_
        refine a_move (v := .c (.own _ _)) ?_
        refine a_move (v := .c (.own _ _)) ?_
        refine a_move (v := vI _) ?_
        refine a_slO (l := some x5) (h := none) ?_ Try.underlying36 T2 ⟨hc19, hc20, (Int.le_refl _)⟩
        by_cases hc25 : y24.length + (x3.length - (x5 : Int).toNat) < 17592186044416
        ·rw [if_pos hc25] at H
         refine a_appC (css2 := x3.map c2) (css' := (y24 ++ (x3.drop ((x5 : Int).toNat)).take (x3.length - (x5 : Int).toNat)).map c2) (n' := (y24 ++ (x3.drop ((x5 : Int).toNat)).take (x3.length - (x5 : Int).toNat)).length) ?_ (by simp [c2, isV, Value.oneCell']) T2 (by simp [maxLen]; omega) (by simp; omega) (by rw [List.map_append, List.map_take, List.map_drop]) (by exact List.length_map _) Try.underlying36
         refine a_move (v := .c (.own _ _)) ?_
         refine RA.nil nofun ?_
         refine AG.region HM ?_
         refine a_move (v := vI _) ?_
         refine a_int (u := .int .i64 (wrap64 (x4 + 1))) ?_
         refine a_move (v := vI _) ?_
         refine RA.nil nofun ?_
         exact AGr.canon (fun κ => cond (Nat.beq κ 202) 204 (κ)) (ih0 _ (by omega) _ ⟨by omega, _, _, _, H, rfl⟩) ⟨rfl, rfl, rfl, trivial⟩ ⟨rfl, trivial⟩ rfl
        ·rw [if_neg hc25] at H
         cases H
       ·rw [if_neg hc23] at H
        cases H
      ·rw [if_neg hc20] at H
       cases H
     ·rw [if_neg hc19] at H
      cases H
  ·rw [if_neg hc2] at H
   refine AG.no rfl (decide_eq_false hc2) ?_
   refine AG.exit ?_
   refine AG.seq ?_
   refine AG.region HM ?_
   refine a_move (v := .c (.own _ _)) ?_
   refine a_move (v := .c (.own _ _)) ?_
   refine RA.nil nofun ?_
   refine AG.ret ?_
   obtain rfl := Option.some.inj H
   exact RetP.mk (fun κ => cond (Nat.beq κ 100) 202 (κ)) ⟨rfl, trivial⟩ ⟨rfl, trivial⟩ rfl
/-! ### spec_DecreasingBlades: function 17 -/
mutual
def spec_DecreasingBlades.l0 : Nat → Int → List Int → List Int → List Int → List Int → Int → Option ((List Int) × Int × Int)
 | 0, _, _, _, _, _, _ => none
 | k + 1, y208_1, x8, x9, x10, x11, x12 => if x12 < (x9.length : Int) then (if 0 ≤ x12 then (spec_DecreasingBlades.l1 k y208_1 x8 x9 x10 x11 x12 (rd2 x9 x12) 0) else (none)) else (some (x10, (x11.length : Int), 0))
def spec_DecreasingBlades.l1 : Nat → Int → List Int → List Int → List Int → List Int → Int → Int → Int → Option ((List Int) × Int × Int)
 | 0, _, _, _, _, _, _, _, _ => none
 | k + 1, y213_1, x8, x9, x10, x11, x12, x13, x14 => if x14 < (x11.length : Int) then (if 0 ≤ x14 then (if 0 ≤ x13 then (if x13 < (x8.length : Int) then (if (rd2 x11 x14) < (rd2 x8 x13) then (spec_DecreasingBlades.l1 k y213_1 x8 x9 x10 x11 x12 x13 (wrap64 (x14 + 1))) else (if x14 = (x11.length : Int) then (if x11.length < 17592186044416 then ((some (x11 ++ [y213_1] : List Int)).bind fun y21 => (if x14 < (y21.length : Int) then (if x13 < (x10.length : Int) then (spec_DecreasingBlades.l0 k y213_1 x8 x9 (x10.set (x13 : Int).toNat x14) (y21.set (x14 : Int).toNat (wrap64 ((rd2 y21 x14) - (rd2 x8 x13)))) (wrap64 (x12 + 1))) else (none)) else (none))) else (none)) else (if x13 < (x10.length : Int) then (spec_DecreasingBlades.l0 k y213_1 x8 x9 (x10.set (x13 : Int).toNat x14) (x11.set (x14 : Int).toNat (wrap64 ((rd2 x11 x14) - (rd2 x8 x13)))) (wrap64 (x12 + 1))) else (none)))) else (none)) else (none)) else (none)) else (if x14 = (x11.length : Int) then (if x11.length < 17592186044416 then ((some (x11 ++ [y213_1] : List Int)).bind fun y31 => (if 0 ≤ x14 then (if x14 < (y31.length : Int) then (if 0 ≤ x13 then (if x13 < (x8.length : Int) then (if x13 < (x10.length : Int) then (spec_DecreasingBlades.l0 k y213_1 x8 x9 (x10.set (x13 : Int).toNat x14) (y31.set (x14 : Int).toNat (wrap64 ((rd2 y31 x14) - (rd2 x8 x13)))) (wrap64 (x12 + 1))) else (none)) else (none)) else (none)) else (none)) else (none))) else (none)) else (if 0 ≤ x14 then (none) else (none)))
end
def spec_DecreasingBlades.f (k : Nat) (a0_0 : ByteArray) (a0_1 : Int) (a0_2 : Int) (a0_3 : Int) (l1 : List S54) : Option ((List Int) × Int × Int) := (spec_l16Ask.f k a0_0 a0_1 a0_2 a0_3 l1).bind fun t1 => (if t1 = 0 then ((spec_l16Wears.f k l1).bind fun t4 => ((spec_l14Order.f k t4).bind fun t6 => (if 0 ≤ (l1.length : Int) then (if ((l1.length : Int) : Int).toNat ≤ 35184372088832 then (spec_DecreasingBlades.l0 k a0_1 t4 t6 (List.replicate (((l1.length : Int) : Int).toNat) 0) (([] : List Int) : List Int) 0) else (none)) else (none)))) else (some (([] : List Int), 0, t1)))
set_option maxRecDepth 100000 in
theorem spec_DecreasingBlades.ok {k : Nat} {a0_0 : ByteArray} {a0_1 : Int} {a0_2 : Int} {a0_3 : Int} {l1 : List S54} {r0 : List Int} {r1 : Int} {r2 : Int} (H : spec_DecreasingBlades.f k a0_0 a0_1 a0_2 a0_3 l1 = some (r0, r1, r2)) : OkF Try.prog 17 [.agg [.d (.v (.string a0_0)), .d (.v (.int .i64 a0_1)), .d (.v (.int .i64 a0_2)), .d (.v (.int .i64 a0_3))], vR 59 (l1.map c54)] [] (.tup [.c (.own 100 r0.length), .c (.d (.v (.int .i64 r1))), .c (.d (.v (.int .i64 r2)))]) [(100, .row 2 (r0.map c2))] := by
 unfold spec_DecreasingBlades.f at H
 refine OkF.of (N := 81) (rs := [4, 5, 6]) (avs := [.c (.own 100 r0.length), .c (.d (.v (.int .i64 r1))), .c (.d (.v (.int .i64 r2)))]) Try.func17 rfl rfl (fun _ _ => results_tmp3 rfl _ _ _) (by decide) rfl rfl rfl rfl (fun w0 S => ?_)
 refine AG.seq ?_
 refine AG.region HM ?_
 refine a_box 200 ?_
 refine a_nilO (e := 2) 201 ?_ T2
 refine a_move (v := vI _) ?_
 refine a_move (v := vI _) ?_
 refine RA.nil nofun ?_
 refine AG.seq ?_
 refine AG.region HM ?_
 refine a_move (v := vR _ _) ?_
 obtain ⟨t1, e2, H⟩ := bindO H
 refine a_call (v := vI t1) (nk := []) (L := [(200, _)]) ?_ rfl (spec_l16Ask.ok e2) id (qc (rP (pD (pD (pD (pD p0))))) (qd qn)) ⟨rfl, trivial⟩ trivial trivial rfl
 refine a_move (v := vI _) ?_
 refine RA.nil nofun ?_
 refine AG.seq ?_
 refine AG.seq ?_
 refine AG.region HM ?_
 refine a_move (v := vI _) ?_
 refine a_int (u := .bool ((t1 != 0))) ?_
 refine RA.nil nofun ?_
 by_cases hc3 : t1 = 0
 ·rw [if_pos hc3] at H
  refine AG.no rfl (bne_eq_false_iff_eq.2 hc3) ?_
  refine AG.skip ?_
  refine AG.seq ?_
  refine AG.region HM ?_
  refine a_move (v := vR _ _) ?_
  obtain ⟨t4, e5, H⟩ := bindO H
  refine a_call (v := .c (.own 204 t4.length)) (nk := [(204, .row 2 (t4.map c2))]) (L := []) ?_ rfl (spec_l16Wears.ok e5) (fun κ => cond (Nat.beq κ 204) 100 (κ)) (qd qn) trivial ⟨rfl, trivial⟩ ⟨rfl, trivial⟩ rfl
  refine a_move (v := .c (.own _ _)) ?_
  refine RA.nil nofun ?_
  refine AG.seq ?_
  refine AG.region HM ?_
  refine a_move (v := .c (.own _ _)) ?_
  obtain ⟨t6, e7, H⟩ := bindO H
  refine a_call (v := .c (.own 205 t6.length)) (nk := [(205, .row 2 (t6.map c2))]) (L := [(204, _)]) ?_ rfl (spec_l14Order.ok e7) (fun κ => cond (Nat.beq κ 205) 100 (κ)) (qc rO qn) ⟨rfl, trivial⟩ ⟨rfl, trivial⟩ ⟨rfl, trivial⟩ rfl
  refine a_move (v := .c (.own _ _)) ?_
  refine RA.nil nofun ?_
  refine AG.seq ?_
  refine AG.region HM ?_
  refine a_move (v := vR _ _) ?_
  refine a_lenR ?_ Try.underlying41
  by_cases hc8 : 0 ≤ (l1.length : Int)
  ·rw [if_pos hc8] at H
   by_cases hc9 : ((l1.length : Int) : Int).toNat ≤ 35184372088832
   ·rw [if_pos hc9] at H
    refine a_make (n := (l1.length : Int)) (css := (List.replicate (((l1.length : Int) : Int).toNat) 0).map c2) 206 ?_ N36 T2 (zV zN) hc8 (by omega) (by omega) (hcss := by exact rep_map rfl)
    refine a_move (v := .c (.own _ _)) ?_
    refine RA.nil nofun ?_
    refine AG.seq ?_
    refine AG.region HM ?_
    refine a_lit (cs := []) (D := []) (css := (([] : List Int) : List Int).map c2) 207 ?_ N36 T2 (hcss := by rfl)
    refine a_move (v := .c (.own _ _)) ?_
    refine RA.nil nofun ?_
    refine AG.seq ?_
    refine AG.seq ?_
    refine AG.region HM ?_
    refine a_move (v := vI _) ?_
    refine RA.nil nofun ?_
    refine AG.block ?_
    refine AG.loop ?_
    obtain ⟨K0, hK0, gK0⟩ : ∃ K, k ≤ K ∧ K ≤ k := ⟨k, Nat.le_refl k, Nat.le_refl k⟩
    refine AGr.canon (fun κ => cond (Nat.beq κ 208) 200 (cond (Nat.beq κ 209) 204 (cond (Nat.beq κ 210) 205 (cond (Nat.beq κ 211) 206 (cond (Nat.beq κ 212) 207 (κ)))))) (AGr.loopI (n := k) (fun k s => k ≤ K0 ∧ ∃ (y208_0 : ByteArray) (y208_1 : Int) (y208_2 : Int) (y208_3 : Int) (x8 : List Int) (x9 : List Int) (x10 : List Int) (x11 : List Int) (x12 : Int), spec_DecreasingBlades.l0 k y208_1 x8 x9 x10 x11 x12 = some (r0, r1, r2) ∧ s = St.of [(2, .c (.ptr 208 0)), (8, .c (.own 209 x8.length)), (9, .c (.own 210 x9.length)), (10, .c (.own 211 x10.length)), (11, .c (.own 212 x11.length)), (12, vI x12)] [(208, .box 39 [.d (.v (.string y208_0)), .d (.v (.int .i64 y208_1)), .d (.v (.int .i64 y208_2)), .d (.v (.int .i64 y208_3))]), (209, .row 2 (x8.map c2)), (210, .row 2 (x9.map c2)), (211, .row 2 (x10.map c2)), (212, .row 2 (x11.map c2))]) ⟨hK0, _, _, _, _, _, _, _, _, _, H, rfl⟩ ?_ ?_) ⟨rfl, rfl, rfl, (ownE rfl (by simp)), (ownE rfl (by simp)), rfl, trivial⟩ ⟨rfl, rfl, rfl, rfl, rfl, trivial⟩ rfl
    ·rintro _ ⟨_, _, _, _, _, _, _, _, _, _, H, _⟩
     cases H
    ·clear H hK0
     rintro k ih0 _ ⟨hK0, y208_0, y208_1, y208_2, y208_3, x8, x9, x10, x11, x12, H, rfl⟩
     unfold spec_DecreasingBlades.l0 at H
     refine AG.seq ?_
     refine AG.seq ?_
     refine AG.region HM ?_
     refine a_move (v := vI _) ?_
     refine a_move (v := .c (.own _ _)) ?_
     refine a_lenO ?_ Try.underlying36
     refine a_int (u := .bool (decide (x12 < (x9.length : Int)))) ?_
     refine RA.nil nofun ?_
     by_cases hc12 : x12 < (x9.length : Int)
     ·rw [if_pos hc12] at H
      refine AG.yes rfl (decide_eq_true hc12) ?_
      refine AG.skip ?_
      refine AG.seq ?_
      refine AG.block ?_
      refine AG.seq ?_
      refine AG.region HM ?_
      refine a_move (v := .c (.own _ _)) ?_
      refine a_move (v := vI _) ?_
      by_cases hc13 : 0 ≤ x12
      ·rw [if_pos hc13] at H
       refine a_ixO ?_ ⟨hc13, hc12⟩ T2 Try.underlying36
       refine a_ldE (v := vI _) ?_ (G2 hc13 hc12) T2
       refine a_move (v := vI _) ?_
       refine RA.nil nofun ?_
       refine AG.seq ?_
       refine AG.region HM ?_
       refine a_move (v := vI _) ?_
       refine RA.nil nofun ?_
       refine AG.seq ?_
       refine AG.block ?_
       refine AG.loop ?_
       obtain ⟨K1, hK1, gK1⟩ : ∃ K, k ≤ K ∧ K ≤ k := ⟨k, Nat.le_refl k, Nat.le_refl k⟩
       refine AGr.canon (fun κ => cond (Nat.beq κ 213) 208 (cond (Nat.beq κ 214) 209 (cond (Nat.beq κ 215) 210 (cond (Nat.beq κ 216) 211 (cond (Nat.beq κ 217) 212 (κ)))))) (AGr.loopI (n := k) (fun k s => k ≤ K1 ∧ ∃ (y213_0 : ByteArray) (y213_1 : Int) (y213_2 : Int) (y213_3 : Int) (x8 : List Int) (x9 : List Int) (x10 : List Int) (x11 : List Int) (x12 : Int) (x13 : Int) (x14 : Int), spec_DecreasingBlades.l1 k y213_1 x8 x9 x10 x11 x12 x13 x14 = some (r0, r1, r2) ∧ s = St.of [(2, .c (.ptr 213 0)), (8, .c (.own 214 x8.length)), (9, .c (.own 215 x9.length)), (10, .c (.own 216 x10.length)), (11, .c (.own 217 x11.length)), (12, vI x12), (13, vI x13), (14, vI x14)] [(213, .box 39 [.d (.v (.string y213_0)), .d (.v (.int .i64 y213_1)), .d (.v (.int .i64 y213_2)), .d (.v (.int .i64 y213_3))]), (214, .row 2 (x8.map c2)), (215, .row 2 (x9.map c2)), (216, .row 2 (x10.map c2)), (217, .row 2 (x11.map c2))]) ⟨hK1, _, _, _, _, _, _, _, _, _, _, _, H, rfl⟩ ?_ ?_) ⟨rfl, rfl, rfl, rfl, rfl, rfl, rfl, rfl, trivial⟩ ⟨rfl, rfl, rfl, rfl, rfl, trivial⟩ rfl
       ·rintro _ ⟨_, _, _, _, _, _, _, _, _, _, _, _, H, _⟩
        cases H
       ·clear H hK1
        rintro k ih1 _ ⟨hK1, y213_0, y213_1, y213_2, y213_3, x8, x9, x10, x11, x12, x13, x14, H, rfl⟩
        unfold spec_DecreasingBlades.l1 at H
        refine AG.seq ?_
        refine AG.seq ?_
        refine AG.region HM ?_
        refine a_move (v := vI _) ?_
        refine a_move (v := .c (.own _ _)) ?_
        refine a_lenO ?_ Try.underlying36
        refine a_int (u := .bool (decide (x14 < (x11.length : Int)))) ?_
        refine a_move (v := vB _) ?_
        by_cases hc14 : x14 < (x11.length : Int)
        ·rw [if_pos hc14] at H
         refine a_move (v := .c (.own _ _)) ?_ (hg := Gs.yes rfl rfl rfl (decide_eq_true hc14))
         refine a_move (v := vI _) ?_ (hg := Gs.yes rfl rfl rfl (decide_eq_true hc14))
         by_cases hc15 : 0 ≤ x14
         ·rw [if_pos hc15] at H
          refine a_ixO ?_ ⟨hc15, hc14⟩ T2 Try.underlying36 (hg := Gs.yes rfl rfl rfl (decide_eq_true hc14))
          refine a_ldE (v := vI _) ?_ (G2 hc15 hc14) T2 (hg := Gs.yes rfl rfl rfl (decide_eq_true hc14))
          refine a_move (v := .c (.own _ _)) ?_ (hg := Gs.yes rfl rfl rfl (decide_eq_true hc14))
          refine a_move (v := vI _) ?_ (hg := Gs.yes rfl rfl rfl (decide_eq_true hc14))
          by_cases hc16 : 0 ≤ x13
          ·rw [if_pos hc16] at H
           by_cases hc17 : x13 < (x8.length : Int)
           ·rw [if_pos hc17] at H
            refine a_ixO ?_ ⟨hc16, hc17⟩ T2 Try.underlying36 (hg := Gs.yes rfl rfl rfl (decide_eq_true hc14))
            refine a_ldE (v := vI _) ?_ (G2 hc16 hc17) T2 (hg := Gs.yes rfl rfl rfl (decide_eq_true hc14))
            refine a_int (u := .bool (decide ((rd2 x11 x14) < (rd2 x8 x13)))) ?_ (hg := Gs.yes rfl rfl rfl (decide_eq_true hc14))
            refine a_pick (b := true) (v := vB _) ?_ (decide_eq_true hc14)
            refine RA.nil (fun _ => by kernel_rfl) ?_
            by_cases hc18 : (rd2 x11 x14) < (rd2 x8 x13)
            ·rw [if_pos hc18] at H
             refine AG.yes rfl (decide_eq_true hc18) ?_
             refine AG.skip ?_
             refine AG.block ?_
             refine AG.region HM ?_
             refine a_move (v := vI _) ?_
             refine a_int (u := .int .i64 (wrap64 (x14 + 1))) ?_
             refine a_move (v := vI _) ?_
             refine RA.nil nofun ?_
             exact AGr.canon id (ih1 _ (by omega) _ ⟨by omega, _, _, _, _, _, _, _, _, _, _, _, H, rfl⟩) ⟨rfl, rfl, rfl, rfl, rfl, rfl, rfl, rfl, trivial⟩ ⟨rfl, rfl, rfl, rfl, rfl, trivial⟩ rfl
            ·rw [if_neg hc18] at H
             refine AG.no rfl (decide_eq_false hc18) ?_
             refine AG.exit ?_
             refine AG.seq ?_
             refine AG.seq ?_
             refine AG.region HM ?_
             refine a_move (v := vI _) ?_
             refine a_move (v := .c (.own _ _)) ?_
             refine a_lenO ?_ Try.underlying36
             refine a_int (u := .bool ((x14 == (x11.length : Int)))) ?_
             refine RA.nil nofun ?_
             by_cases hc19 : x14 = (x11.length : Int)
             ·rw [if_pos hc19] at H
              refine AG.yes rfl (beq_iff_eq.2 hc19) ?_
              refine AG.region HM ?_
              refine a_move (v := .c (.own _ _)) ?_
              refine a_faB (q := 1) ?_ D39_1
              refine a_ldB (v := vI _) ?_ T2
              refine a_lit (cs := [_]) (D := []) (css := ([y213_1]).map c2) 218 ?_ N36 T2
              by_cases hc20 : x11.length < 17592186044416
              ·rw [if_pos hc20] at H
               obtain ⟨y21, ey21, H⟩ := bindO H
               have ey21 := Option.some.inj ey21
               refine a_appO (css' := y21.map c2) (n' := y21.length) ?_ T2 (by rw [← ey21]; simp [maxLen]; omega) (by rw [← ey21]; simp; omega) Try.underlying36 (hc := by rw [← ey21]; exact List.map_append.symm) (hn := by exact List.length_map _)
               refine a_move (v := .c (.own _ _)) ?_
               refine RA.nil nofun ?_
               refine AG.seq ?_
               refine AG.region HM ?_
               refine a_move (v := .c (.own _ _)) ?_
               refine a_move (v := vI _) ?_
               by_cases hc22 : x14 < (y21.length : Int)
               ·rw [if_pos hc22] at H
                refine a_ixO ?_ ⟨hc15, hc22⟩ T2 Try.underlying36
                refine a_ldE (v := vI _) ?_ (G2 hc15 hc22) T2
                refine a_move (v := .c (.own _ _)) ?_
                refine a_move (v := vI _) ?_
                refine a_ixO ?_ ⟨hc16, hc17⟩ T2 Try.underlying36
                refine a_ldE (v := vI _) ?_ (G2 hc16 hc17) T2
                refine a_int (u := .int .i64 (wrap64 ((rd2 y21 x14) - (rd2 x8 x13)))) ?_
                refine a_ixO ?_ ⟨hc15, hc22⟩ T2 Try.underlying36
                refine a_stF (css' := (y21.set (x14 : Int).toNat (wrap64 ((rd2 y21 x14) - (rd2 x8 x13)))).map c2) ?_ (flat_map (fun _ => rfl)) (G2 hc15 hc22) T2 (hcss := by exact set_map rfl)
                refine RA.nil (fun _ => by kernel_rfl) ?_
                refine AG.region HM ?_
                refine a_move (v := .c (.own _ _)) ?_
                refine a_move (v := vI _) ?_
                refine a_move (v := vI _) ?_
                by_cases hc24 : x13 < (x10.length : Int)
                ·rw [if_pos hc24] at H
                 refine a_ixO ?_ ⟨hc16, hc24⟩ T2 Try.underlying36
                 refine a_stF (css' := (x10.set (x13 : Int).toNat x14).map c2) ?_ (flat_map (fun _ => rfl)) (G2 hc16 hc24) T2 (hcss := by exact set_map rfl)
                 refine RA.nil nofun ?_
                 refine AG.region HM ?_
                 refine a_move (v := vI _) ?_
                 refine a_int (u := .int .i64 (wrap64 (x12 + 1))) ?_
                 refine a_move (v := vI _) ?_
                 refine RA.nil nofun ?_
                 exact AGr.canon (fun κ => cond (Nat.beq κ 208) 213 (cond (Nat.beq κ 209) 214 (cond (Nat.beq κ 210) 215 (cond (Nat.beq κ 211) 216 (cond (Nat.beq κ 212) 217 (κ)))))) (ih0 _ (by omega) _ ⟨by omega, _, _, _, _, _, _, _, _, _, H, rfl⟩) ⟨rfl, rfl, rfl, (ownE rfl (by simp)), (ownE rfl (by rw [← ey21]; simp)), rfl, trivial⟩ ⟨rfl, rfl, rfl, rfl, rfl, trivial⟩ rfl
                ·rw [if_neg hc24] at H
                 cases H
               ·rw [if_neg hc22] at H
                cases H
              ·rw [if_neg hc20] at H
               cases H
             ·rw [if_neg hc19] at H
              refine AG.no rfl (beq_eq_false_iff_ne.2 hc19) ?_
              refine AG.skip ?_
              refine AG.seq ?_
              refine AG.region HM ?_
              refine a_move (v := .c (.own _ _)) ?_
              refine a_move (v := vI _) ?_
              refine a_ixO ?_ ⟨hc15, hc14⟩ T2 Try.underlying36
              refine a_ldE (v := vI _) ?_ (G2 hc15 hc14) T2
              refine a_move (v := .c (.own _ _)) ?_
              refine a_move (v := vI _) ?_
              refine a_ixO ?_ ⟨hc16, hc17⟩ T2 Try.underlying36
              refine a_ldE (v := vI _) ?_ (G2 hc16 hc17) T2
              refine a_int (u := .int .i64 (wrap64 ((rd2 x11 x14) - (rd2 x8 x13)))) ?_
              refine a_ixO ?_ ⟨hc15, hc14⟩ T2 Try.underlying36
              refine a_stF (css' := (x11.set (x14 : Int).toNat (wrap64 ((rd2 x11 x14) - (rd2 x8 x13)))).map c2) ?_ (flat_map (fun _ => rfl)) (G2 hc15 hc14) T2 (hcss := by exact set_map rfl)
              refine RA.nil (fun _ => by kernel_rfl) ?_
              refine AG.region HM ?_
              refine a_move (v := .c (.own _ _)) ?_
              refine a_move (v := vI _) ?_
              refine a_move (v := vI _) ?_
              by_cases hc27 : x13 < (x10.length : Int)
              ·rw [if_pos hc27] at H
               refine a_ixO ?_ ⟨hc16, hc27⟩ T2 Try.underlying36
               refine a_stF (css' := (x10.set (x13 : Int).toNat x14).map c2) ?_ (flat_map (fun _ => rfl)) (G2 hc16 hc27) T2 (hcss := by exact set_map rfl)
               refine RA.nil nofun ?_
               refine AG.region HM ?_
               refine a_move (v := vI _) ?_
               refine a_int (u := .int .i64 (wrap64 (x12 + 1))) ?_
               refine a_move (v := vI _) ?_
               refine RA.nil nofun ?_
               exact AGr.canon (fun κ => cond (Nat.beq κ 208) 213 (cond (Nat.beq κ 209) 214 (cond (Nat.beq κ 210) 215 (cond (Nat.beq κ 211) 216 (cond (Nat.beq κ 212) 217 (κ)))))) (ih0 _ (by omega) _ ⟨by omega, _, _, _, _, _, _, _, _, _, H, rfl⟩) ⟨rfl, rfl, rfl, (ownE rfl (by simp)), (ownE rfl (by simp)), rfl, trivial⟩ ⟨rfl, rfl, rfl, rfl, rfl, trivial⟩ rfl
              ·rw [if_neg hc27] at H
               cases H
           ·rw [if_neg hc17] at H
            cases H
          ·rw [if_neg hc16] at H
           cases H
         ·rw [if_neg hc15] at H
          cases H
        ·rw [if_neg hc14] at H
         refine RA.skip rfl rfl rfl rfl rfl (decide_eq_false hc14) (by decide) ?_
         refine RA.skip rfl rfl rfl rfl rfl (decide_eq_false hc14) (by decide) ?_
         refine RA.skip rfl rfl rfl rfl rfl (decide_eq_false hc14) (by decide) ?_
         refine RA.skip rfl rfl rfl rfl rfl (decide_eq_false hc14) (by decide) ?_
         refine RA.skip rfl rfl rfl rfl rfl (decide_eq_false hc14) (by decide) ?_
         refine RA.skip rfl rfl rfl rfl rfl (decide_eq_false hc14) (by decide) ?_
         refine RA.skip rfl rfl rfl rfl rfl (decide_eq_false hc14) (by decide) ?_
         refine RA.skip rfl rfl rfl rfl rfl (decide_eq_false hc14) (by decide) ?_
         refine RA.skip rfl rfl rfl rfl rfl (decide_eq_false hc14) (by decide) ?_
         refine a_pick (b := false) (v := vB _) ?_ (decide_eq_false hc14)
         refine RA.nil (fun _ => by kernel_rfl) ?_
         refine AG.no rfl rfl ?_
         refine AG.exit ?_
         refine AG.seq ?_
         refine AG.seq ?_
         refine AG.region HM ?_
         refine a_move (v := vI _) ?_
         refine a_move (v := .c (.own _ _)) ?_
         refine a_lenO ?_ Try.underlying36
         refine a_int (u := .bool ((x14 == (x11.length : Int)))) ?_
         refine RA.nil nofun ?_
         by_cases hc29 : x14 = (x11.length : Int)
         ·rw [if_pos hc29] at H
          refine AG.yes rfl (beq_iff_eq.2 hc29) ?_
          refine AG.region HM ?_
          refine a_move (v := .c (.own _ _)) ?_
          refine a_faB (q := 1) ?_ D39_1
          refine a_ldB (v := vI _) ?_ T2
          refine a_lit (cs := [_]) (D := []) (css := ([y213_1]).map c2) 218 ?_ N36 T2
          by_cases hc30 : x11.length < 17592186044416
          ·rw [if_pos hc30] at H
           obtain ⟨y31, ey31, H⟩ := bindO H
           have ey31 := Option.some.inj ey31
           refine a_appO (css' := y31.map c2) (n' := y31.length) ?_ T2 (by rw [← ey31]; simp [maxLen]; omega) (by rw [← ey31]; simp; omega) Try.underlying36 (hc := by rw [← ey31]; exact List.map_append.symm) (hn := by exact List.length_map _)
           refine a_move (v := .c (.own _ _)) ?_
           refine RA.nil nofun ?_
           refine AG.seq ?_
           refine AG.region HM ?_
           refine a_move (v := .c (.own _ _)) ?_
           refine a_move (v := vI _) ?_
           by_cases hc32 : 0 ≤ x14
           ·rw [if_pos hc32] at H
            by_cases hc33 : x14 < (y31.length : Int)
            ·rw [if_pos hc33] at H
             refine a_ixO ?_ ⟨hc32, hc33⟩ T2 Try.underlying36
             refine a_ldE (v := vI _) ?_ (G2 hc32 hc33) T2
             refine a_move (v := .c (.own _ _)) ?_
             refine a_move (v := vI _) ?_
             by_cases hc34 : 0 ≤ x13
             ·rw [if_pos hc34] at H
              by_cases hc35 : x13 < (x8.length : Int)
              ·rw [if_pos hc35] at H
               refine a_ixO ?_ ⟨hc34, hc35⟩ T2 Try.underlying36
               refine a_ldE (v := vI _) ?_ (G2 hc34 hc35) T2
               refine a_int (u := .int .i64 (wrap64 ((rd2 y31 x14) - (rd2 x8 x13)))) ?_
               refine a_ixO ?_ ⟨hc32, hc33⟩ T2 Try.underlying36
               refine a_stF (css' := (y31.set (x14 : Int).toNat (wrap64 ((rd2 y31 x14) - (rd2 x8 x13)))).map c2) ?_ (flat_map (fun _ => rfl)) (G2 hc32 hc33) T2 (hcss := by exact set_map rfl)
               refine RA.nil (fun _ => by kernel_rfl) ?_
               refine AG.region HM ?_
               refine a_move (v := .c (.own _ _)) ?_
               refine a_move (v := vI _) ?_
               refine a_move (v := vI _) ?_
               by_cases hc37 : x13 < (x10.length : Int)
               ·rw [if_pos hc37] at H
                refine a_ixO ?_ ⟨hc34, hc37⟩ T2 Try.underlying36
                refine a_stF (css' := (x10.set (x13 : Int).toNat x14).map c2) ?_ (flat_map (fun _ => rfl)) (G2 hc34 hc37) T2 (hcss := by exact set_map rfl)
                refine RA.nil nofun ?_
                refine AG.region HM ?_
                refine a_move (v := vI _) ?_
                refine a_int (u := .int .i64 (wrap64 (x12 + 1))) ?_
                refine a_move (v := vI _) ?_
                refine RA.nil nofun ?_
                exact AGr.canon (fun κ => cond (Nat.beq κ 208) 213 (cond (Nat.beq κ 209) 214 (cond (Nat.beq κ 210) 215 (cond (Nat.beq κ 211) 216 (cond (Nat.beq κ 212) 217 (κ)))))) (ih0 _ (by omega) _ ⟨by omega, _, _, _, _, _, _, _, _, _, H, rfl⟩) ⟨rfl, rfl, rfl, (ownE rfl (by simp)), (ownE rfl (by rw [← ey31]; simp)), rfl, trivial⟩ ⟨rfl, rfl, rfl, rfl, rfl, trivial⟩ rfl
               ·rw [if_neg hc37] at H
                cases H
              ·rw [if_neg hc35] at H
               cases H
             ·rw [if_neg hc34] at H
              cases H
            ·rw [if_neg hc33] at H
             cases H
           ·rw [if_neg hc32] at H
            cases H
          ·rw [if_neg hc30] at H
           cases H
         ·rw [if_neg hc29] at H
          refine AG.no rfl (beq_eq_false_iff_ne.2 hc29) ?_
          refine AG.skip ?_
          refine AG.seq ?_
          refine AG.region HM ?_
          refine a_move (v := .c (.own _ _)) ?_
          refine a_move (v := vI _) ?_
          by_cases hc39 : 0 ≤ x14
          ·rw [if_pos hc39] at H
           cases H
          ·rw [if_neg hc39] at H
           cases H
      ·rw [if_neg hc13] at H
       cases H
     ·rw [if_neg hc12] at H
      refine AG.no rfl (decide_eq_false hc12) ?_
      refine AG.exit ?_
      refine AG.seq ?_
      refine AG.region HM ?_
      refine a_move (v := .c (.own _ _)) ?_
      refine a_move (v := .c (.own _ _)) ?_
      refine a_lenO ?_ Try.underlying36
      refine a_move (v := .c (.own _ _)) ?_
      refine a_move (v := vI _) ?_
      refine a_move (v := vI _) ?_
      refine RA.nil nofun ?_
      refine AG.ret ?_
      simp only [Option.some.injEq, Prod.mk.injEq] at H
      obtain ⟨rfl, rfl, rfl⟩ := H
      exact RetP.mk (fun κ => cond (Nat.beq κ 100) 211 (κ)) ⟨rfl, rfl, rfl, trivial⟩ ⟨rfl, trivial⟩ rfl
   ·rw [if_neg hc9] at H
    cases H
  ·rw [if_neg hc8] at H
   cases H
 ·rw [if_neg hc3] at H
  refine AG.yes rfl (bne_iff_ne.2 hc3) ?_
  refine AG.seq ?_
  refine AG.region HM ?_
  refine a_move (v := vI _) ?_
  refine a_nilO (e := 2) 203 ?_ T2
  refine a_move (v := vI _) ?_
  refine a_move (v := vI _) ?_
  refine RA.nil nofun ?_
  refine AG.ret ?_
  simp only [Option.some.injEq, Prod.mk.injEq] at H
  obtain ⟨rfl, rfl, rfl⟩ := H
  exact RetP.mk (fun κ => cond (Nat.beq κ 100) 203 (κ)) ⟨(ownE rfl (by simp)), rfl, rfl, trivial⟩ ⟨rfl, trivial⟩ rfl
/-! ### laws_toBlade: function 18 -/
def laws_toBlade.f (a0_0 : ByteArray) (a0_1 : Int) (a0_2 : Int) (a0_3 : Int) : Option (ByteArray × Int × Int × Int) := some (a0_0, a0_1, a0_2, a0_3)
set_option maxRecDepth 100000 in
theorem laws_toBlade.ok {a0_0 : ByteArray} {a0_1 : Int} {a0_2 : Int} {a0_3 : Int} {r0 : ByteArray} {r1 : Int} {r2 : Int} {r3 : Int} (H : laws_toBlade.f a0_0 a0_1 a0_2 a0_3 = some (r0, r1, r2, r3)) : OkF Try.prog 18 [.agg [.d (.v (.string a0_0)), .d (.v (.int .i64 a0_1)), .d (.v (.int .i64 a0_2)), .d (.v (.int .i64 a0_3))]] [] (.agg [.d (.v (.string r0)), .d (.v (.int .i64 r1)), .d (.v (.int .i64 r2)), .d (.v (.int .i64 r3))]) [] := by
 unfold laws_toBlade.f at H
 refine OkF.ofB (N := 17) (t := 2) (ty := 39) (av := .agg [.d (.v (.string r0)), .d (.v (.int .i64 r1)), .d (.v (.int .i64 r2)), .d (.v (.int .i64 r3))]) Try.func18 rfl rfl rfl rfl (by decide) rfl rfl (fun w0 S => ?_)
 refine AG.seq ?_
 refine AG.region HM ?_
 refine a_box 200 ?_
 refine a_alloc (cs := [_, _, _, _]) 201 ?_ T39
 refine RA.nil nofun ?_
 refine AG.seq ?_
 refine AG.region HM ?_
 refine a_alloc (cs := [_, _, _, _]) 202 ?_ T39
 refine RA.nil nofun ?_
 refine AG.seq ?_
 refine AG.region HM ?_
 refine a_faB (q := 0) ?_ D32_0
 refine a_ldB (v := vS _) ?_ T9
 refine a_faB (q := 0) ?_ D39_0
 refine a_stB (cs' := [_, _, _, _]) ?_ T9
 refine RA.nil nofun ?_
 refine AG.seq ?_
 refine AG.region HM ?_
 refine a_faB (q := 1) ?_ D32_1
 refine a_ldB (v := vI _) ?_ T2
 refine a_faB (q := 1) ?_ D39_1
 refine a_stB (cs' := [_, _, _, _]) ?_ T2
 refine RA.nil nofun ?_
 refine AG.seq ?_
 refine AG.region HM ?_
 refine a_faB (q := 2) ?_ D32_2
 refine a_ldB (v := vI _) ?_ T2
 refine a_faB (q := 2) ?_ D39_2
 refine a_stB (cs' := [_, _, _, _]) ?_ T2
 refine RA.nil nofun ?_
 refine AG.seq ?_
 refine AG.region HM ?_
 refine a_faB (q := 3) ?_ D32_3
 refine a_ldB (v := vI _) ?_ T2
 refine a_faB (q := 3) ?_ D39_3
 refine a_stB (cs' := [_, _, _, _]) ?_ T2
 refine RA.nil nofun ?_
 refine AG.seq ?_
 refine AG.region HM ?_
 refine a_ldB (v := .agg [_, _, _, _]) ?_ T39
 refine a_stB (cs' := [_, _, _, _]) ?_ T39
 refine RA.nil nofun ?_
 refine AG.ret ?_
 simp only [Option.some.injEq, Prod.mk.injEq] at H
 obtain ⟨rfl, rfl, rfl, rfl⟩ := H
 exact RetB.mk T39 rfl rfl rfl (RetP.mk id ⟨rfl, trivial⟩ trivial rfl)
/-! ### laws_toCutting: function 37 -/
def laws_toCutting.f (a0_0 : ByteArray) (a0_1 : Int) (a0_2 : Int) : Option (ByteArray × Int × Int) := some (a0_0, a0_1, a0_2)
set_option maxRecDepth 100000 in
theorem laws_toCutting.ok {a0_0 : ByteArray} {a0_1 : Int} {a0_2 : Int} {r0 : ByteArray} {r1 : Int} {r2 : Int} (H : laws_toCutting.f a0_0 a0_1 a0_2 = some (r0, r1, r2)) : OkF Try.prog 37 [.agg [.d (.v (.string a0_0)), .d (.v (.int .i64 a0_1)), .d (.v (.int .i64 a0_2))]] [] (.agg [.d (.v (.string r0)), .d (.v (.int .i64 r1)), .d (.v (.int .i64 r2))]) [] := by
 unfold laws_toCutting.f at H
 refine OkF.ofB (N := 14) (t := 2) (ty := 59) (av := .agg [.d (.v (.string r0)), .d (.v (.int .i64 r1)), .d (.v (.int .i64 r2))]) Try.func37 rfl rfl rfl rfl (by decide) rfl rfl (fun w0 S => ?_)
 refine AG.seq ?_
 refine AG.region HM ?_
 refine a_box 200 ?_
 refine a_alloc (cs := [_, _, _]) 201 ?_ T59
 refine RA.nil nofun ?_
 refine AG.seq ?_
 refine AG.region HM ?_
 refine a_alloc (cs := [_, _, _]) 202 ?_ T59
 refine RA.nil nofun ?_
 refine AG.seq ?_
 refine AG.region HM ?_
 refine a_faB (q := 0) ?_ D55_0
 refine a_ldB (v := vS _) ?_ T9
 refine a_faB (q := 0) ?_ D59_0
 refine a_stB (cs' := [_, _, _]) ?_ T9
 refine RA.nil nofun ?_
 refine AG.seq ?_
 refine AG.region HM ?_
 refine a_faB (q := 1) ?_ D55_1
 refine a_ldB (v := vI _) ?_ T2
 refine a_faB (q := 1) ?_ D59_1
 refine a_stB (cs' := [_, _, _]) ?_ T2
 refine RA.nil nofun ?_
 refine AG.seq ?_
 refine AG.region HM ?_
 refine a_faB (q := 2) ?_ D55_2
 refine a_ldB (v := vI _) ?_ T2
 refine a_faB (q := 2) ?_ D59_2
 refine a_stB (cs' := [_, _, _]) ?_ T2
 refine RA.nil nofun ?_
 refine AG.seq ?_
 refine AG.region HM ?_
 refine a_ldB (v := .agg [_, _, _]) ?_ T59
 refine a_stB (cs' := [_, _, _]) ?_ T59
 refine RA.nil nofun ?_
 refine AG.ret ?_
 simp only [Option.some.injEq, Prod.mk.injEq] at H
 obtain ⟨rfl, rfl, rfl⟩ := H
 exact RetB.mk T59 rfl rfl rfl (RetP.mk id ⟨rfl, trivial⟩ trivial rfl)
/-! ### laws_toCuttingS: function 19 -/
def laws_toCuttingS.l0 : Nat → List S54 → List S54 → Int → Option ((List S54))
 | 0, _, _, _ => none
 | k + 1, x0, x3, x4 => if x4 < (x0.length : Int) then (if 0 ≤ x4 then ((laws_toCutting.f ((rd54 x0 x4).f0) ((rd54 x0 x4).f1) ((rd54 x0 x4).f2)).bind fun bt6 => (if x4 < (x3.length : Int) then (laws_toCuttingS.l0 k x0 (x3.set (x4 : Int).toNat (⟨bt6.1, bt6.2.1, bt6.2.2⟩ : S54)) (wrap64 (x4 + 1))) else (none))) else (none)) else (some x3)
def laws_toCuttingS.f (k : Nat) (l0 : List S54) : Option ((List S54)) := if 0 ≤ (l0.length : Int) then (if ((l0.length : Int) : Int).toNat ≤ 8796093022208 then (laws_toCuttingS.l0 k l0 (List.replicate (((l0.length : Int) : Int).toNat) z54) 0) else (none)) else (none)
set_option maxRecDepth 100000 in
theorem laws_toCuttingS.ok {k : Nat} {l0 : List S54} {r : List S54} (H : laws_toCuttingS.f k l0 = some r) : OkF Try.prog 19 [vR 55 (l0.map c54)] [] (.c (.own 100 r.length)) [(100, .row 59 (r.map c54))] := by
 unfold laws_toCuttingS.f at H
 refine OkF.of (N := 23) (rs := [2]) (avs := [.c (.own 100 r.length)]) Try.func19 rfl rfl (fun _ _ => results_tmp rfl _ _ _) (by decide) rfl rfl rfl rfl (fun w0 S => ?_)
 refine AG.seq ?_
 refine AG.region HM ?_
 refine a_nilO (e := 59) 200 ?_ T59
 refine RA.nil nofun ?_
 refine AG.seq ?_
 refine AG.region HM ?_
 refine a_move (v := vR _ _) ?_
 refine a_lenR ?_ Try.underlying33
 by_cases hc1 : 0 ≤ (l0.length : Int)
 ·rw [if_pos hc1] at H
  by_cases hc2 : ((l0.length : Int) : Int).toNat ≤ 8796093022208
  ·rw [if_pos hc2] at H
   refine a_make (n := (l0.length : Int)) (css := (List.replicate (((l0.length : Int) : Int).toNat) z54).map c54) 201 ?_ N41 T59 (zV (zV (zV zN))) hc1 (by omega) (by omega) (hcss := by exact rep_map rfl)
   refine a_move (v := .c (.own _ _)) ?_
   refine RA.nil nofun ?_
   refine AG.seq ?_
   refine AG.seq ?_
   refine AG.region HM ?_
   refine a_move (v := vI _) ?_
   refine RA.nil nofun ?_
   refine AG.block ?_
   refine AG.loop ?_
   obtain ⟨K0, hK0, gK0⟩ : ∃ K, k ≤ K ∧ K ≤ k := ⟨k, Nat.le_refl k, Nat.le_refl k⟩
   refine AGr.canon (fun κ => cond (Nat.beq κ 202) 201 (κ)) (AGr.loopI (n := k) (fun k s => k ≤ K0 ∧ ∃ (x0 : List S54) (x3 : List S54) (x4 : Int), laws_toCuttingS.l0 k x0 x3 x4 = some r ∧ s = St.of [(0, vR 55 (x0.map c54)), (3, .c (.own 202 x3.length)), (4, vI x4)] [(202, .row 59 (x3.map c54))]) ⟨hK0, _, _, _, H, rfl⟩ ?_ ?_) ⟨rfl, (ownE rfl (by simp)), rfl, trivial⟩ ⟨rfl, trivial⟩ rfl
   ·rintro _ ⟨_, _, _, _, H, _⟩
    cases H
   ·clear H hK0
    rintro k ih0 _ ⟨hK0, x0, x3, x4, H, rfl⟩
    unfold laws_toCuttingS.l0 at H
    refine AG.seq ?_
    refine AG.seq ?_
    refine AG.region HM ?_
    refine a_move (v := vI _) ?_
    refine a_move (v := vR _ _) ?_
    refine a_lenR ?_ Try.underlying33
    refine a_int (u := .bool (decide (x4 < (x0.length : Int)))) ?_
    refine RA.nil nofun ?_
    by_cases hc4 : x4 < (x0.length : Int)
    ·rw [if_pos hc4] at H
     refine AG.yes rfl (decide_eq_true hc4) ?_
     refine AG.skip ?_
     refine AG.seq ?_
     refine AG.block ?_
     refine AG.region HM ?_
     refine a_move (v := .c (.own _ _)) ?_
     refine a_move (v := vI _) ?_
     refine a_move (v := vR _ _) ?_
     refine a_move (v := vI _) ?_
     by_cases hc5 : 0 ≤ x4
     ·rw [if_pos hc5] at H
      refine a_ixR (el := c54 (rd54 x0 x4)) ?_ ⟨hc5, hc4⟩ T55 Try.underlying33 (hel := R54 hc5 hc4)
      refine a_ldR (v := .agg [_, _, _]) ?_ T55
      obtain ⟨⟨t6, t7, t8⟩, e9, H⟩ := bindO H
      refine a_call (v := .agg [.d (.v (.string t6)), .d (.v (.int .i64 t7)), .d (.v (.int .i64 t8))]) (nk := []) (L := []) ?_ rfl (laws_toCutting.ok e9) id (qg qn) trivial trivial trivial rfl
      by_cases hc10 : x4 < (x3.length : Int)
      ·rw [if_pos hc10] at H
       refine a_ixO ?_ ⟨hc5, hc10⟩ T59 Try.underlying41
       refine a_stF (css' := (x3.set (x4 : Int).toNat (⟨t6, t7, t8⟩ : S54)).map c54) ?_ (flat_map (fun _ => rfl)) (G54 hc5 hc10) T59 (hcss := by exact set_map rfl)
       refine RA.nil nofun ?_
       refine AG.region HM ?_
       refine a_move (v := vI _) ?_
       refine a_int (u := .int .i64 (wrap64 (x4 + 1))) ?_
       refine a_move (v := vI _) ?_
       refine RA.nil nofun ?_
       exact AGr.canon id (ih0 _ (by omega) _ ⟨by omega, _, _, _, H, rfl⟩) ⟨rfl, (ownE rfl (by simp)), rfl, trivial⟩ ⟨rfl, trivial⟩ rfl
      ·rw [if_neg hc10] at H
       cases H
     ·rw [if_neg hc5] at H
      cases H
    ·rw [if_neg hc4] at H
     refine AG.no rfl (decide_eq_false hc4) ?_
     refine AG.exit ?_
     refine AG.seq ?_
     refine AG.region HM ?_
     refine a_move (v := .c (.own _ _)) ?_
     refine a_move (v := .c (.own _ _)) ?_
     refine RA.nil nofun ?_
     refine AG.ret ?_
     obtain rfl := Option.some.inj H
     exact RetP.mk (fun κ => cond (Nat.beq κ 100) 202 (κ)) ⟨rfl, trivial⟩ ⟨rfl, trivial⟩ rfl
  ·rw [if_neg hc2] at H
   cases H
 ·rw [if_neg hc1] at H
  cases H
/-! ### impl_within: function 46 -/
def impl_within.f (a0 : Int) (a1 : Int) (a2 : Int) : Option (Bool) := if a0 ≥ a1 then (some (decide (a0 ≤ a2))) else (some false)
set_option maxRecDepth 100000 in
theorem impl_within.ok {a0 : Int} {a1 : Int} {a2 : Int} {r : Bool} (H : impl_within.f a0 a1 a2 = some r) : OkF Try.prog 46 [vI a0, vI a1, vI a2] [] (.c (.d (.v (.bool r)))) [] := by
 unfold impl_within.f at H
 refine OkF.of (N := 15) (rs := [6]) (avs := [.c (.d (.v (.bool r)))]) Try.func46 rfl rfl (fun _ _ => results_tmp rfl _ _ _) (by decide) rfl rfl rfl rfl (fun w0 S => ?_)
 refine AG.seq ?_
 refine AG.region HM ?_
 refine a_move (v := vB _) ?_
 refine RA.nil nofun ?_
 refine AG.seq ?_
 refine AG.region HM ?_
 refine a_move (v := vI _) ?_
 refine a_move (v := vI _) ?_
 refine a_int (u := .bool (decide (a0 ≥ a1))) ?_
 refine a_move (v := vB _) ?_
 by_cases hc1 : a0 ≥ a1
 ·rw [if_pos hc1] at H
  refine a_move (v := vI _) ?_ (hg := Gs.yes rfl rfl rfl (decide_eq_true hc1))
  refine a_move (v := vI _) ?_ (hg := Gs.yes rfl rfl rfl (decide_eq_true hc1))
  refine a_int (u := .bool (decide (a0 ≤ a2))) ?_ (hg := Gs.yes rfl rfl rfl (decide_eq_true hc1))
  refine a_pick (b := true) (v := vB _) ?_ (decide_eq_true hc1)
  refine a_move (v := vB _) ?_
  refine RA.nil nofun ?_
  refine AG.ret ?_
  obtain rfl := Option.some.inj H
  exact RetP.mk id ⟨rfl, trivial⟩ trivial rfl
 ·rw [if_neg hc1] at H
  refine RA.skip rfl rfl rfl rfl rfl (decide_eq_false hc1) (by decide) ?_
  refine RA.skip rfl rfl rfl rfl rfl (decide_eq_false hc1) (by decide) ?_
  refine RA.skip rfl rfl rfl rfl rfl (decide_eq_false hc1) (by decide) ?_
  refine a_pick (b := false) (v := vB _) ?_ (decide_eq_false hc1)
  refine a_move (v := vB _) ?_
  refine RA.nil nofun ?_
  refine AG.ret ?_
  obtain rfl := Option.some.inj H
  exact RetP.mk id ⟨rfl, trivial⟩ trivial rfl
/-! ### impl_IsName: function 59 -/
mutual
def impl_IsName.j0 : Nat → ByteArray → Bool → Option (Bool)
 | 0, _, _ => none
 | k + 1, x0, x21 => if x21 = true then (some false) else (impl_IsName.l0 k x0 0)
def impl_IsName.l0 : Nat → ByteArray → Int → Option (Bool)
 | 0, _, _ => none
 | k + 1, x0, x3 => if x3 < (x0.size : Int) then (if 0 ≤ x3 then (if (bt x0 x3) < 97 then (if (bt x0 x3) < 48 then (some false) else (if (bt x0 x3) > 57 then (some false) else (impl_IsName.l0 k x0 (wrap64 (x3 + 1))))) else (if (bt x0 x3) > 122 then (if (bt x0 x3) < 48 then (some false) else (if (bt x0 x3) > 57 then (some false) else (impl_IsName.l0 k x0 (wrap64 (x3 + 1))))) else (impl_IsName.l0 k x0 (wrap64 (x3 + 1))))) else (none)) else (some true)
end
def impl_IsName.f (k : Nat) (a0 : ByteArray) : Option (Bool) := if (a0.size : Int) < 1 then (impl_IsName.j0 k a0 true) else (if (a0.size : Int) > 10 then (impl_IsName.j0 k a0 true) else (if 0 < (a0.size : Int) then (if (bt a0 0) < 97 then (impl_IsName.j0 k a0 true) else (impl_IsName.j0 k a0 (decide ((bt a0 0) > 122)))) else (none)))
set_option maxRecDepth 100000 in
theorem impl_IsName.ok {k : Nat} {a0 : ByteArray} {r : Bool} (H : impl_IsName.f k a0 = some r) : OkF Try.prog 59 [vS a0] [] (.c (.d (.v (.bool r)))) [] := by
 unfold impl_IsName.f at H
 refine OkF.of (N := 50) (rs := [2]) (avs := [.c (.d (.v (.bool r)))]) Try.func59 rfl rfl (fun _ _ => results_tmp rfl _ _ _) (by decide) rfl rfl rfl rfl (fun w0 S => ?_)
 refine AG.seq ?_
 refine AG.region HM ?_
 refine a_move (v := vB _) ?_
 refine RA.nil nofun ?_
 refine AG.seq ?_
 refine AG.seq ?_
 refine AG.joinR (fun s => ∃ q, q ≤ k ∧ ∃ (x0 : ByteArray) (x21 : Bool), impl_IsName.j0 q x0 x21 = some r ∧ s = St.of [(0, vS x0), (21, vB x21)] []) ?_ ?_
 ·skip
  refine AG.region HM ?_
  refine a_move (v := vS _) ?_
  refine a_lenS ?_ Try.underlying9
  refine a_int (u := .bool (decide ((a0.size : Int) < 1))) ?_
  refine a_move (v := vB _) ?_
  by_cases hc1 : (a0.size : Int) < 1
  ·rw [if_pos hc1] at H
   refine RA.skip rfl rfl rfl rfl rfl (decide_eq_true hc1) (by decide) ?_
   refine RA.skip rfl rfl rfl rfl rfl (decide_eq_true hc1) (by decide) ?_
   refine RA.skip rfl rfl rfl rfl rfl (decide_eq_true hc1) (by decide) ?_
   refine a_pick (b := true) (v := vB _) ?_ (decide_eq_true hc1)
   refine a_move (v := vB _) ?_
   refine RA.skip rfl rfl rfl rfl rfl rfl (by decide) ?_
   refine RA.skip rfl rfl rfl rfl rfl rfl (by decide) ?_
   refine RA.skip rfl rfl rfl rfl rfl rfl (by decide) ?_
   refine a_pick (b := true) (v := vB _) ?_ rfl
   refine a_move (v := vB _) ?_
   refine RA.skip rfl rfl rfl rfl rfl rfl (by decide) ?_
   refine RA.skip rfl rfl rfl rfl rfl rfl (by decide) ?_
   refine RA.skip rfl rfl rfl rfl rfl rfl (by decide) ?_
   refine a_pick (b := true) (v := vB _) ?_ rfl
   refine RA.nil nofun ?_
   exact CanR.mk id ⟨_, (by omega), _, _, H, rfl⟩ ⟨rfl, rfl, trivial⟩ trivial rfl
  ·rw [if_neg hc1] at H
   refine a_move (v := vS _) ?_ (hg := Gs.yes rfl rfl rfl (decide_eq_false hc1))
   refine a_lenS ?_ Try.underlying9 (hg := Gs.yes rfl rfl rfl (decide_eq_false hc1))
   refine a_int (u := .bool (decide ((a0.size : Int) > 10))) ?_ (hg := Gs.yes rfl rfl rfl (decide_eq_false hc1))
   refine a_pick (b := false) (v := vB _) ?_ (decide_eq_false hc1)
   refine a_move (v := vB _) ?_
   by_cases hc2 : (a0.size : Int) > 10
   ·rw [if_pos hc2] at H
    refine RA.skip rfl rfl rfl rfl rfl (decide_eq_true hc2) (by decide) ?_
    refine RA.skip rfl rfl rfl rfl rfl (decide_eq_true hc2) (by decide) ?_
    refine RA.skip rfl rfl rfl rfl rfl (decide_eq_true hc2) (by decide) ?_
    refine a_pick (b := true) (v := vB _) ?_ (decide_eq_true hc2)
    refine a_move (v := vB _) ?_
    refine RA.skip rfl rfl rfl rfl rfl rfl (by decide) ?_
    refine RA.skip rfl rfl rfl rfl rfl rfl (by decide) ?_
    refine RA.skip rfl rfl rfl rfl rfl rfl (by decide) ?_
    refine a_pick (b := true) (v := vB _) ?_ rfl
    refine RA.nil nofun ?_
    exact CanR.mk id ⟨_, (by omega), _, _, H, rfl⟩ ⟨rfl, rfl, trivial⟩ trivial rfl
   ·rw [if_neg hc2] at H
    refine a_move (v := vS _) ?_ (hg := Gs.yes rfl rfl rfl (decide_eq_false hc2))
    by_cases hc3 : 0 < (a0.size : Int)
    ·rw [if_pos hc3] at H
     refine a_str ?_ ⟨(by decide), hc3⟩ Try.underlying9 (hg := Gs.yes rfl rfl rfl (decide_eq_false hc2))
     refine a_int (u := .bool (decide ((bt a0 0) < 97))) ?_ (hg := Gs.yes rfl rfl rfl (decide_eq_false hc2))
     refine a_pick (b := false) (v := vB _) ?_ (decide_eq_false hc2)
     refine a_move (v := vB _) ?_
     by_cases hc4 : (bt a0 0) < 97
     ·rw [if_pos hc4] at H
      refine RA.skip rfl rfl rfl rfl rfl (decide_eq_true hc4) (by decide) ?_
      refine RA.skip rfl rfl rfl rfl rfl (decide_eq_true hc4) (by decide) ?_
      refine RA.skip rfl rfl rfl rfl rfl (decide_eq_true hc4) (by decide) ?_
      refine a_pick (b := true) (v := vB _) ?_ (decide_eq_true hc4)
      refine RA.nil nofun ?_
      exact CanR.mk id ⟨_, (by omega), _, _, H, rfl⟩ ⟨rfl, rfl, trivial⟩ trivial rfl
     ·rw [if_neg hc4] at H
      refine a_move (v := vS _) ?_ (hg := Gs.yes rfl rfl rfl (decide_eq_false hc4))
      refine a_str ?_ ⟨(by decide), hc3⟩ Try.underlying9 (hg := Gs.yes rfl rfl rfl (decide_eq_false hc4))
      refine a_int (u := .bool (decide ((bt a0 0) > 122))) ?_ (hg := Gs.yes rfl rfl rfl (decide_eq_false hc4))
      refine a_pick (b := false) (v := vB _) ?_ (decide_eq_false hc4)
      refine RA.nil nofun ?_
      exact CanR.mk id ⟨_, (by omega), _, _, H, rfl⟩ ⟨rfl, rfl, trivial⟩ trivial rfl
    ·rw [if_neg hc3] at H
     cases H
 ·clear H
  rintro _ ⟨k, hj0, x0, x21, H, rfl⟩
  cases k with
  | zero => cases H
  | succ k =>
   rw [impl_IsName.j0] at H
   by_cases hc5 : x21 = true
   ·rw [if_pos hc5] at H
    refine AG.yes rfl hc5 ?_
    refine AG.seq ?_
    refine AG.region HM ?_
    refine a_move (v := vB _) ?_
    refine RA.nil nofun ?_
    refine AG.ret ?_
    obtain rfl := Option.some.inj H
    exact RetP.mk id ⟨rfl, trivial⟩ trivial rfl
   ·rw [if_neg hc5] at H
    refine AG.no rfl (Bool.eq_false_iff.2 hc5) ?_
    refine AG.skip ?_
    refine AG.seq ?_
    refine AG.seq ?_
    refine AG.region HM ?_
    refine a_move (v := vI _) ?_
    refine RA.nil nofun ?_
    refine AG.block ?_
    refine AG.loop ?_
    obtain ⟨K0, hK0, gK0⟩ : ∃ K, k ≤ K ∧ K ≤ k := ⟨k, Nat.le_refl k, Nat.le_refl k⟩
    refine AGr.canon id (AGr.loopI (n := k) (fun k s => k ≤ K0 ∧ ∃ (x0 : ByteArray) (x3 : Int), impl_IsName.l0 k x0 x3 = some r ∧ s = St.of [(0, vS x0), (3, vI x3)] []) ⟨hK0, _, _, H, rfl⟩ ?_ ?_) ⟨rfl, rfl, trivial⟩ trivial rfl
    ·rintro _ ⟨_, _, _, H, _⟩
     cases H
    ·clear H hK0
     rintro k ih0 _ ⟨hK0, x0, x3, H, rfl⟩
     unfold impl_IsName.l0 at H
     refine AG.seq ?_
     refine AG.seq ?_
     refine AG.region HM ?_
     refine a_move (v := vI _) ?_
     refine a_move (v := vS _) ?_
     refine a_lenS ?_ Try.underlying9
     refine a_int (u := .bool (decide (x3 < (x0.size : Int)))) ?_
     refine RA.nil nofun ?_
     by_cases hc6 : x3 < (x0.size : Int)
     ·rw [if_pos hc6] at H
      refine AG.yes rfl (decide_eq_true hc6) ?_
      refine AG.skip ?_
      refine AG.seq ?_
      refine AG.block ?_
      refine AG.seq ?_
      refine AG.region HM ?_
      refine a_move (v := vS _) ?_
      refine a_move (v := vI _) ?_
      by_cases hc7 : 0 ≤ x3
      ·rw [if_pos hc7] at H
       refine a_str ?_ ⟨hc7, hc6⟩ Try.underlying9
       refine a_int (u := .bool (decide ((bt x0 x3) < 97))) ?_
       refine a_move (v := vB _) ?_
       by_cases hc8 : (bt x0 x3) < 97
       ·rw [if_pos hc8] at H
        refine RA.skip rfl rfl rfl rfl rfl (decide_eq_true hc8) (by decide) ?_
        refine RA.skip rfl rfl rfl rfl rfl (decide_eq_true hc8) (by decide) ?_
        refine RA.skip rfl rfl rfl rfl rfl (decide_eq_true hc8) (by decide) ?_
        refine RA.skip rfl rfl rfl rfl rfl (decide_eq_true hc8) (by decide) ?_
        refine a_pick (b := true) (v := vB _) ?_ (decide_eq_true hc8)
        refine a_move (v := vB _) ?_
        refine a_move (v := vS _) ?_ (hg := Gs.yes rfl rfl rfl rfl)
        refine a_move (v := vI _) ?_ (hg := Gs.yes rfl rfl rfl rfl)
        refine a_str ?_ ⟨hc7, hc6⟩ Try.underlying9 (hg := Gs.yes rfl rfl rfl rfl)
        refine a_int (u := .bool (decide ((bt x0 x3) < 48))) ?_ (hg := Gs.yes rfl rfl rfl rfl)
        refine a_move (v := vB _) ?_ (hg := Gs.yes rfl rfl rfl rfl)
        by_cases hc9 : (bt x0 x3) < 48
        ·rw [if_pos hc9] at H
         refine RA.skip rfl rfl rfl rfl rfl (decide_eq_true hc9) (by decide) ?_
         refine RA.skip rfl rfl rfl rfl rfl (decide_eq_true hc9) (by decide) ?_
         refine RA.skip rfl rfl rfl rfl rfl (decide_eq_true hc9) (by decide) ?_
         refine RA.skip rfl rfl rfl rfl rfl (decide_eq_true hc9) (by decide) ?_
         refine a_pick (b := true) (v := vB _) ?_ (decide_eq_true hc9) (hg := Gs.yes rfl rfl rfl rfl)
         refine a_pick (b := true) (v := vB _) ?_ rfl
         refine RA.nil nofun ?_
         refine AG.yes rfl rfl ?_
         refine AG.seq ?_
         refine AG.region HM ?_
         refine a_move (v := vB _) ?_
         refine RA.nil nofun ?_
         refine AG.ret ?_
         obtain rfl := Option.some.inj H
         exact RetP.mk id ⟨rfl, trivial⟩ trivial rfl
        ·rw [if_neg hc9] at H
         refine a_move (v := vS _) ?_ (hg := Gs.yes rfl rfl rfl (decide_eq_false hc9))
         refine a_move (v := vI _) ?_ (hg := Gs.yes rfl rfl rfl (decide_eq_false hc9))
         refine a_str ?_ ⟨hc7, hc6⟩ Try.underlying9 (hg := Gs.yes rfl rfl rfl (decide_eq_false hc9))
         refine a_int (u := .bool (decide ((bt x0 x3) > 57))) ?_ (hg := Gs.yes rfl rfl rfl (decide_eq_false hc9))
         refine a_pick (b := false) (v := vB _) ?_ (decide_eq_false hc9) (hg := Gs.yes rfl rfl rfl rfl)
         refine a_pick (b := true) (v := vB _) ?_ rfl
         refine RA.nil nofun ?_
         by_cases hc10 : (bt x0 x3) > 57
         ·rw [if_pos hc10] at H
          refine AG.yes rfl (decide_eq_true hc10) ?_
          refine AG.seq ?_
          refine AG.region HM ?_
          refine a_move (v := vB _) ?_
          refine RA.nil nofun ?_
          refine AG.ret ?_
          obtain rfl := Option.some.inj H
          exact RetP.mk id ⟨rfl, trivial⟩ trivial rfl
         ·rw [if_neg hc10] at H
          refine AG.no rfl (decide_eq_false hc10) ?_
          refine AG.skip ?_
          refine AG.region HM ?_
          refine a_move (v := vI _) ?_
          refine a_int (u := .int .i64 (wrap64 (x3 + 1))) ?_
          refine a_move (v := vI _) ?_
          refine RA.nil nofun ?_
          exact AGr.canon id (ih0 _ (by omega) _ ⟨by omega, _, _, H, rfl⟩) ⟨rfl, rfl, trivial⟩ trivial rfl
       ·rw [if_neg hc8] at H
        refine a_move (v := vS _) ?_ (hg := Gs.yes rfl rfl rfl (decide_eq_false hc8))
        refine a_move (v := vI _) ?_ (hg := Gs.yes rfl rfl rfl (decide_eq_false hc8))
        refine a_str ?_ ⟨hc7, hc6⟩ Try.underlying9 (hg := Gs.yes rfl rfl rfl (decide_eq_false hc8))
        refine a_int (u := .bool (decide ((bt x0 x3) > 122))) ?_ (hg := Gs.yes rfl rfl rfl (decide_eq_false hc8))
        refine a_pick (b := false) (v := vB _) ?_ (decide_eq_false hc8)
        refine a_move (v := vB _) ?_
        by_cases hc11 : (bt x0 x3) > 122
        ·rw [if_pos hc11] at H
         refine a_move (v := vS _) ?_ (hg := Gs.yes rfl rfl rfl (decide_eq_true hc11))
         refine a_move (v := vI _) ?_ (hg := Gs.yes rfl rfl rfl (decide_eq_true hc11))
         refine a_str ?_ ⟨hc7, hc6⟩ Try.underlying9 (hg := Gs.yes rfl rfl rfl (decide_eq_true hc11))
         refine a_int (u := .bool (decide ((bt x0 x3) < 48))) ?_ (hg := Gs.yes rfl rfl rfl (decide_eq_true hc11))
         refine a_move (v := vB _) ?_ (hg := Gs.yes rfl rfl rfl (decide_eq_true hc11))
         by_cases hc12 : (bt x0 x3) < 48
         ·rw [if_pos hc12] at H
          refine RA.skip rfl rfl rfl rfl rfl (decide_eq_true hc12) (by decide) ?_
          refine RA.skip rfl rfl rfl rfl rfl (decide_eq_true hc12) (by decide) ?_
          refine RA.skip rfl rfl rfl rfl rfl (decide_eq_true hc12) (by decide) ?_
          refine RA.skip rfl rfl rfl rfl rfl (decide_eq_true hc12) (by decide) ?_
          refine a_pick (b := true) (v := vB _) ?_ (decide_eq_true hc12) (hg := Gs.yes rfl rfl rfl (decide_eq_true hc11))
          refine a_pick (b := true) (v := vB _) ?_ (decide_eq_true hc11)
          refine RA.nil nofun ?_
          refine AG.yes rfl rfl ?_
          refine AG.seq ?_
          refine AG.region HM ?_
          refine a_move (v := vB _) ?_
          refine RA.nil nofun ?_
          refine AG.ret ?_
          obtain rfl := Option.some.inj H
          exact RetP.mk id ⟨rfl, trivial⟩ trivial rfl
         ·rw [if_neg hc12] at H
          refine a_move (v := vS _) ?_ (hg := Gs.yes rfl rfl rfl (decide_eq_false hc12))
          refine a_move (v := vI _) ?_ (hg := Gs.yes rfl rfl rfl (decide_eq_false hc12))
          refine a_str ?_ ⟨hc7, hc6⟩ Try.underlying9 (hg := Gs.yes rfl rfl rfl (decide_eq_false hc12))
          refine a_int (u := .bool (decide ((bt x0 x3) > 57))) ?_ (hg := Gs.yes rfl rfl rfl (decide_eq_false hc12))
          refine a_pick (b := false) (v := vB _) ?_ (decide_eq_false hc12) (hg := Gs.yes rfl rfl rfl (decide_eq_true hc11))
          refine a_pick (b := true) (v := vB _) ?_ (decide_eq_true hc11)
          refine RA.nil nofun ?_
          by_cases hc13 : (bt x0 x3) > 57
          ·rw [if_pos hc13] at H
           refine AG.yes rfl (decide_eq_true hc13) ?_
           refine AG.seq ?_
           refine AG.region HM ?_
           refine a_move (v := vB _) ?_
           refine RA.nil nofun ?_
           refine AG.ret ?_
           obtain rfl := Option.some.inj H
           exact RetP.mk id ⟨rfl, trivial⟩ trivial rfl
          ·rw [if_neg hc13] at H
           refine AG.no rfl (decide_eq_false hc13) ?_
           refine AG.skip ?_
           refine AG.region HM ?_
           refine a_move (v := vI _) ?_
           refine a_int (u := .int .i64 (wrap64 (x3 + 1))) ?_
           refine a_move (v := vI _) ?_
           refine RA.nil nofun ?_
           exact AGr.canon id (ih0 _ (by omega) _ ⟨by omega, _, _, H, rfl⟩) ⟨rfl, rfl, trivial⟩ trivial rfl
        ·rw [if_neg hc11] at H
         refine RA.skip rfl rfl rfl rfl rfl (decide_eq_false hc11) (by decide) ?_
         refine RA.skip rfl rfl rfl rfl rfl (decide_eq_false hc11) (by decide) ?_
         refine RA.skip rfl rfl rfl rfl rfl (decide_eq_false hc11) (by decide) ?_
         refine RA.skip rfl rfl rfl rfl rfl (decide_eq_false hc11) (by decide) ?_
         refine RA.skip rfl rfl rfl rfl rfl (decide_eq_false hc11) (by decide) ?_
         refine RA.skip0 rfl rfl rfl rfl rfl ?_
         refine RA.skip0 rfl rfl rfl rfl rfl ?_
         refine RA.skip0 rfl rfl rfl rfl rfl ?_
         refine RA.skip0 rfl rfl rfl rfl rfl ?_
         refine RA.skip rfl rfl rfl rfl rfl (decide_eq_false hc11) (by decide) ?_
         refine a_pick (b := false) (v := vB _) ?_ (decide_eq_false hc11)
         refine RA.nil nofun ?_
         refine AG.no rfl rfl ?_
         refine AG.skip ?_
         refine AG.region HM ?_
         refine a_move (v := vI _) ?_
         refine a_int (u := .int .i64 (wrap64 (x3 + 1))) ?_
         refine a_move (v := vI _) ?_
         refine RA.nil nofun ?_
         exact AGr.canon id (ih0 _ (by omega) _ ⟨by omega, _, _, H, rfl⟩) ⟨rfl, rfl, trivial⟩ trivial rfl
      ·rw [if_neg hc7] at H
       cases H
     ·rw [if_neg hc6] at H
      refine AG.no rfl (decide_eq_false hc6) ?_
      refine AG.exit ?_
      refine AG.seq ?_
      refine AG.region HM ?_
      refine a_move (v := vB _) ?_
      refine RA.nil nofun ?_
      refine AG.ret ?_
      obtain rfl := Option.some.inj H
      exact RetP.mk id ⟨rfl, trivial⟩ trivial rfl
/-! ### impl_ValidBlade: function 51 -/
def impl_ValidBlade.f (k : Nat) (a0_0 : ByteArray) (a0_1 : Int) (a0_2 : Int) (a0_3 : Int) : Option (Bool) := (impl_IsName.f k a0_0).bind fun t1 => (if t1 = true then ((impl_within.f a0_1 1 1000000).bind fun t4 => (if t4 = true then ((impl_within.f a0_2 0 1000000).bind fun t7 => (if t7 = true then ((impl_within.f a0_3 1 10000).bind fun t10 => (some t10)) else (some false))) else (some false))) else (some false))
set_option maxRecDepth 100000 in
theorem impl_ValidBlade.ok {k : Nat} {a0_0 : ByteArray} {a0_1 : Int} {a0_2 : Int} {a0_3 : Int} {r : Bool} (H : impl_ValidBlade.f k a0_0 a0_1 a0_2 a0_3 = some r) : OkF Try.prog 51 [.agg [.d (.v (.string a0_0)), .d (.v (.int .i64 a0_1)), .d (.v (.int .i64 a0_2)), .d (.v (.int .i64 a0_3))]] [] (.c (.d (.v (.bool r)))) [] := by
 unfold impl_ValidBlade.f at H
 refine OkF.of (N := 21) (rs := [2]) (avs := [.c (.d (.v (.bool r)))]) Try.func51 rfl rfl (fun _ _ => results_tmp rfl _ _ _) (by decide) rfl rfl rfl rfl (fun w0 S => ?_)
 refine AG.seq ?_
 refine AG.region HM ?_
 refine a_box 200 ?_
 refine a_move (v := vB _) ?_
 refine RA.nil nofun ?_
 refine AG.seq ?_
 refine AG.region HM ?_
 refine a_faB (q := 0) ?_ D39_0
 refine a_ldB (v := vS _) ?_ T9
 obtain ⟨t1, e2, H⟩ := bindO H
 refine a_call (v := vB t1) (nk := []) (L := []) ?_ rfl (impl_IsName.ok e2) id (qd qn) trivial trivial trivial rfl
 refine a_move (v := vB _) ?_
 by_cases hc3 : t1 = true
 ·rw [if_pos hc3] at H
  refine a_faB (q := 1) ?_ D39_1 (hg := Gs.yes rfl rfl rfl hc3)
  refine a_ldB (v := vI _) ?_ T2 (hg := Gs.yes rfl rfl rfl hc3)
  obtain ⟨t4, e5, H⟩ := bindO H
  refine a_call (v := vB t4) (nk := []) (L := []) ?_ rfl (impl_within.ok e5) id (qd (qd (qd qn))) trivial trivial trivial rfl (hg := Gs.yes rfl rfl rfl hc3)
  refine a_pick (b := true) (v := vB _) ?_ hc3
  refine a_move (v := vB _) ?_
  by_cases hc6 : t4 = true
  ·rw [if_pos hc6] at H
   refine a_faB (q := 2) ?_ D39_2 (hg := Gs.yes rfl rfl rfl hc6)
   refine a_ldB (v := vI _) ?_ T2 (hg := Gs.yes rfl rfl rfl hc6)
   obtain ⟨t7, e8, H⟩ := bindO H
   refine a_call (v := vB t7) (nk := []) (L := []) ?_ rfl (impl_within.ok e8) id (qd (qd (qd qn))) trivial trivial trivial rfl (hg := Gs.yes rfl rfl rfl hc6)
   refine a_pick (b := true) (v := vB _) ?_ hc6
   refine a_move (v := vB _) ?_
   by_cases hc9 : t7 = true
   ·rw [if_pos hc9] at H
    refine a_faB (q := 3) ?_ D39_3 (hg := Gs.yes rfl rfl rfl hc9)
    refine a_ldB (v := vI _) ?_ T2 (hg := Gs.yes rfl rfl rfl hc9)
    obtain ⟨t10, e11, H⟩ := bindO H
    refine a_call (v := vB t10) (nk := []) (L := []) ?_ rfl (impl_within.ok e11) id (qd (qd (qd qn))) trivial trivial trivial rfl (hg := Gs.yes rfl rfl rfl hc9)
    refine a_pick (b := true) (v := vB _) ?_ hc9
    refine a_move (v := vB _) ?_
    refine RA.nil nofun ?_
    refine AG.ret ?_
    obtain rfl := Option.some.inj H
    exact RetP.mk id ⟨rfl, trivial⟩ trivial rfl
   ·rw [if_neg hc9] at H
    refine RA.skip rfl rfl rfl rfl rfl (Bool.eq_false_iff.2 hc9) (by decide) ?_
    refine RA.skip rfl rfl rfl rfl rfl (Bool.eq_false_iff.2 hc9) (by decide) ?_
    refine RA.skip rfl rfl rfl rfl rfl (Bool.eq_false_iff.2 hc9) (by decide) ?_
    refine a_pick (b := false) (v := vB _) ?_ (Bool.eq_false_iff.2 hc9)
    refine a_move (v := vB _) ?_
    refine RA.nil nofun ?_
    refine AG.ret ?_
    obtain rfl := Option.some.inj H
    exact RetP.mk id ⟨rfl, trivial⟩ trivial rfl
  ·rw [if_neg hc6] at H
   refine RA.skip rfl rfl rfl rfl rfl (Bool.eq_false_iff.2 hc6) (by decide) ?_
   refine RA.skip rfl rfl rfl rfl rfl (Bool.eq_false_iff.2 hc6) (by decide) ?_
   refine RA.skip rfl rfl rfl rfl rfl (Bool.eq_false_iff.2 hc6) (by decide) ?_
   refine a_pick (b := false) (v := vB _) ?_ (Bool.eq_false_iff.2 hc6)
   refine a_move (v := vB _) ?_
   refine RA.skip rfl rfl rfl rfl rfl rfl (by decide) ?_
   refine RA.skip rfl rfl rfl rfl rfl rfl (by decide) ?_
   refine RA.skip rfl rfl rfl rfl rfl rfl (by decide) ?_
   refine a_pick (b := false) (v := vB _) ?_ rfl
   refine a_move (v := vB _) ?_
   refine RA.nil nofun ?_
   refine AG.ret ?_
   obtain rfl := Option.some.inj H
   exact RetP.mk id ⟨rfl, trivial⟩ trivial rfl
 ·rw [if_neg hc3] at H
  refine RA.skip rfl rfl rfl rfl rfl (Bool.eq_false_iff.2 hc3) (by decide) ?_
  refine RA.skip rfl rfl rfl rfl rfl (Bool.eq_false_iff.2 hc3) (by decide) ?_
  refine RA.skip rfl rfl rfl rfl rfl (Bool.eq_false_iff.2 hc3) (by decide) ?_
  refine a_pick (b := false) (v := vB _) ?_ (Bool.eq_false_iff.2 hc3)
  refine a_move (v := vB _) ?_
  refine RA.skip rfl rfl rfl rfl rfl rfl (by decide) ?_
  refine RA.skip rfl rfl rfl rfl rfl rfl (by decide) ?_
  refine RA.skip rfl rfl rfl rfl rfl rfl (by decide) ?_
  refine a_pick (b := false) (v := vB _) ?_ rfl
  refine a_move (v := vB _) ?_
  refine RA.skip rfl rfl rfl rfl rfl rfl (by decide) ?_
  refine RA.skip rfl rfl rfl rfl rfl rfl (by decide) ?_
  refine RA.skip rfl rfl rfl rfl rfl rfl (by decide) ?_
  refine a_pick (b := false) (v := vB _) ?_ rfl
  refine a_move (v := vB _) ?_
  refine RA.nil nofun ?_
  refine AG.ret ?_
  obtain rfl := Option.some.inj H
  exact RetP.mk id ⟨rfl, trivial⟩ trivial rfl
/-! ### impl_validCutting: function 60 -/
def impl_validCutting.f (k : Nat) (a0_0 : ByteArray) (a0_1 : Int) (a0_2 : Int) : Option (Bool) := (impl_IsName.f k a0_0).bind fun t1 => (if t1 = true then ((impl_within.f a0_1 1 1000000).bind fun t4 => (if t4 = true then ((impl_within.f a0_2 1 100).bind fun t7 => (some t7)) else (some false))) else (some false))
set_option maxRecDepth 100000 in
theorem impl_validCutting.ok {k : Nat} {a0_0 : ByteArray} {a0_1 : Int} {a0_2 : Int} {r : Bool} (H : impl_validCutting.f k a0_0 a0_1 a0_2 = some r) : OkF Try.prog 60 [.agg [.d (.v (.string a0_0)), .d (.v (.int .i64 a0_1)), .d (.v (.int .i64 a0_2))]] [] (.c (.d (.v (.bool r)))) [] := by
 unfold impl_validCutting.f at H
 refine OkF.of (N := 16) (rs := [2]) (avs := [.c (.d (.v (.bool r)))]) Try.func60 rfl rfl (fun _ _ => results_tmp rfl _ _ _) (by decide) rfl rfl rfl rfl (fun w0 S => ?_)
 refine AG.seq ?_
 refine AG.region HM ?_
 refine a_box 200 ?_
 refine a_move (v := vB _) ?_
 refine RA.nil nofun ?_
 refine AG.seq ?_
 refine AG.region HM ?_
 refine a_faB (q := 0) ?_ D59_0
 refine a_ldB (v := vS _) ?_ T9
 obtain ⟨t1, e2, H⟩ := bindO H
 refine a_call (v := vB t1) (nk := []) (L := []) ?_ rfl (impl_IsName.ok e2) id (qd qn) trivial trivial trivial rfl
 refine a_move (v := vB _) ?_
 by_cases hc3 : t1 = true
 ·rw [if_pos hc3] at H
  refine a_faB (q := 1) ?_ D59_1 (hg := Gs.yes rfl rfl rfl hc3)
  refine a_ldB (v := vI _) ?_ T2 (hg := Gs.yes rfl rfl rfl hc3)
  obtain ⟨t4, e5, H⟩ := bindO H
  refine a_call (v := vB t4) (nk := []) (L := []) ?_ rfl (impl_within.ok e5) id (qd (qd (qd qn))) trivial trivial trivial rfl (hg := Gs.yes rfl rfl rfl hc3)
  refine a_pick (b := true) (v := vB _) ?_ hc3
  refine a_move (v := vB _) ?_
  by_cases hc6 : t4 = true
  ·rw [if_pos hc6] at H
   refine a_faB (q := 2) ?_ D59_2 (hg := Gs.yes rfl rfl rfl hc6)
   refine a_ldB (v := vI _) ?_ T2 (hg := Gs.yes rfl rfl rfl hc6)
   obtain ⟨t7, e8, H⟩ := bindO H
   refine a_call (v := vB t7) (nk := []) (L := []) ?_ rfl (impl_within.ok e8) id (qd (qd (qd qn))) trivial trivial trivial rfl (hg := Gs.yes rfl rfl rfl hc6)
   refine a_pick (b := true) (v := vB _) ?_ hc6
   refine a_move (v := vB _) ?_
   refine RA.nil nofun ?_
   refine AG.ret ?_
   obtain rfl := Option.some.inj H
   exact RetP.mk id ⟨rfl, trivial⟩ trivial rfl
  ·rw [if_neg hc6] at H
   refine RA.skip rfl rfl rfl rfl rfl (Bool.eq_false_iff.2 hc6) (by decide) ?_
   refine RA.skip rfl rfl rfl rfl rfl (Bool.eq_false_iff.2 hc6) (by decide) ?_
   refine RA.skip rfl rfl rfl rfl rfl (Bool.eq_false_iff.2 hc6) (by decide) ?_
   refine a_pick (b := false) (v := vB _) ?_ (Bool.eq_false_iff.2 hc6)
   refine a_move (v := vB _) ?_
   refine RA.nil nofun ?_
   refine AG.ret ?_
   obtain rfl := Option.some.inj H
   exact RetP.mk id ⟨rfl, trivial⟩ trivial rfl
 ·rw [if_neg hc3] at H
  refine RA.skip rfl rfl rfl rfl rfl (Bool.eq_false_iff.2 hc3) (by decide) ?_
  refine RA.skip rfl rfl rfl rfl rfl (Bool.eq_false_iff.2 hc3) (by decide) ?_
  refine RA.skip rfl rfl rfl rfl rfl (Bool.eq_false_iff.2 hc3) (by decide) ?_
  refine a_pick (b := false) (v := vB _) ?_ (Bool.eq_false_iff.2 hc3)
  refine a_move (v := vB _) ?_
  refine RA.skip rfl rfl rfl rfl rfl rfl (by decide) ?_
  refine RA.skip rfl rfl rfl rfl rfl rfl (by decide) ?_
  refine RA.skip rfl rfl rfl rfl rfl rfl (by decide) ?_
  refine a_pick (b := false) (v := vB _) ?_ rfl
  refine a_move (v := vB _) ?_
  refine RA.nil nofun ?_
  refine AG.ret ?_
  obtain rfl := Option.some.inj H
  exact RetP.mk id ⟨rfl, trivial⟩ trivial rfl
/-! ### impl_ValidCuttings: function 52 -/
def impl_ValidCuttings.l0 : Nat → List S54 → List S54 → Int → Int → Option (Bool)
 | 0, _, _, _, _ => none
 | k + 1, x0, x5, x6, x7 => if x7 < x6 then (if 0 ≤ x7 then (if x7 < (x5.length : Int) then ((impl_validCutting.f k ((rd54 x5 x7).f0) ((rd54 x5 x7).f1) ((rd54 x5 x7).f2)).bind fun t4 => (if t4 = true then (if x7 > 0 then (if 0 ≤ (wrap64 (x7 - 1)) then (if (wrap64 (x7 - 1)) < (x0.length : Int) then (if (Op.bytesLess (((rd54 x0 (wrap64 (x7 - 1))).f0).toList) (((rd54 x5 x7).f0).toList)) = true then (impl_ValidCuttings.l0 k x0 x5 x6 (wrap64 (x7 + 1))) else (some false)) else (none)) else (none)) else (impl_ValidCuttings.l0 k x0 x5 x6 (wrap64 (x7 + 1)))) else (some false))) else (none)) else (none)) else (some (decide ((x0.length : Int) ≤ 16)))
def impl_ValidCuttings.f (k : Nat) (l0 : List S54) : Option (Bool) := impl_ValidCuttings.l0 k l0 l0 (l0.length : Int) 0
set_option maxRecDepth 100000 in
theorem impl_ValidCuttings.ok {k : Nat} {l0 : List S54} {r : Bool} (H : impl_ValidCuttings.f k l0 = some r) : OkF Try.prog 52 [vR 59 (l0.map c54)] [] (.c (.d (.v (.bool r)))) [] := by
 unfold impl_ValidCuttings.f at H
 refine OkF.of (N := 34) (rs := [2]) (avs := [.c (.d (.v (.bool r)))]) Try.func52 rfl rfl (fun _ _ => results_tmp rfl _ _ _) (by decide) rfl rfl rfl rfl (fun w0 S => ?_)
 refine AG.seq ?_
 refine AG.region HM ?_
 refine a_move (v := vB _) ?_
 refine RA.nil nofun ?_
 refine AG.seq ?_
 refine AG.seq ?_
 refine AG.region HM ?_
 refine a_move (v := vR _ _) ?_
 refine a_lenR ?_ Try.underlying41
 refine a_move (v := vI _) ?_
 refine RA.nil nofun ?_
 refine AG.block ?_
 refine AG.loop ?_
 obtain ⟨K0, hK0, gK0⟩ : ∃ K, k ≤ K ∧ K ≤ k := ⟨k, Nat.le_refl k, Nat.le_refl k⟩
 refine AGr.canon id (AGr.loopI (n := k) (fun k s => k ≤ K0 ∧ ∃ (x0 : List S54) (x5 : List S54) (x6 : Int) (x7 : Int), impl_ValidCuttings.l0 k x0 x5 x6 x7 = some r ∧ s = St.of [(0, vR 59 (x0.map c54)), (5, vR 59 (x5.map c54)), (6, vI x6), (7, vI x7)] []) ⟨hK0, _, _, _, _, H, rfl⟩ ?_ ?_) ⟨rfl, rfl, rfl, rfl, trivial⟩ trivial rfl
 ·rintro _ ⟨_, _, _, _, _, H, _⟩
  cases H
 ·clear H hK0
  rintro k ih0 _ ⟨hK0, x0, x5, x6, x7, H, rfl⟩
  unfold impl_ValidCuttings.l0 at H
  refine AG.seq ?_
  refine AG.region HM ?_
  refine a_int (u := .bool (decide (x7 < x6))) ?_
  refine RA.nil nofun ?_
  refine AG.seq ?_
  by_cases hc1 : x7 < x6
  ·rw [if_pos hc1] at H
   refine AG.yes rfl (decide_eq_true hc1) ?_
   refine AG.skip ?_
   refine AG.seq ?_
   refine AG.block ?_
   refine AG.seq ?_
   refine AG.region HM ?_
   refine a_move (v := vI _) ?_
   by_cases hc2 : 0 ≤ x7
   ·rw [if_pos hc2] at H
    by_cases hc3 : x7 < (x5.length : Int)
    ·rw [if_pos hc3] at H
     refine a_ixR (el := c54 (rd54 x5 x7)) ?_ ⟨hc2, hc3⟩ T59 Try.underlying41 (hel := R54 hc2 hc3)
     refine a_ldR (v := .agg [_, _, _]) ?_ T59
     refine a_alloc (cs := [_, _, _]) 200 ?_ T59
     refine a_move (v := vI _) ?_
     refine a_stB (cs' := [_, _, _]) ?_ T59
     refine RA.nil nofun ?_
     refine AG.seq ?_
     refine AG.region HM ?_
     refine a_ldB (v := .agg [_, _, _]) ?_ T59
     obtain ⟨t4, e5, H⟩ := bindO H
     refine a_call (v := vB t4) (nk := []) (L := []) ?_ rfl (impl_validCutting.ok e5) id (qg qn) trivial trivial trivial rfl
     refine a_un (u := .bool (!t4)) ?_
     refine a_move (v := vB _) ?_
     by_cases hc6 : t4 = true
     ·rw [if_pos hc6] at H
      refine a_move (v := vI _) ?_ (hg := Gs.yes rfl rfl rfl (congrArg Bool.not hc6))
      refine a_int (u := .bool (decide (x7 > 0))) ?_ (hg := Gs.yes rfl rfl rfl (congrArg Bool.not hc6))
      refine a_move (v := vB _) ?_ (hg := Gs.yes rfl rfl rfl (congrArg Bool.not hc6))
      by_cases hc7 : x7 > 0
      ·rw [if_pos hc7] at H
       refine a_move (v := vR _ _) ?_ (hg := Gs.yes rfl rfl rfl (decide_eq_true hc7))
       refine a_move (v := vI _) ?_ (hg := Gs.yes rfl rfl rfl (decide_eq_true hc7))
       refine a_int (u := .int .i64 (wrap64 (x7 - 1))) ?_ (hg := Gs.yes rfl rfl rfl (decide_eq_true hc7))
       by_cases hc8 : 0 ≤ (wrap64 (x7 - 1))
       ·rw [if_pos hc8] at H
        by_cases hc9 : (wrap64 (x7 - 1)) < (x0.length : Int)
        ·rw [if_pos hc9] at H
         refine a_ixR (el := c54 (rd54 x0 (wrap64 (x7 - 1)))) ?_ ⟨hc8, hc9⟩ T59 Try.underlying41 (hel := R54 hc8 hc9) (hg := Gs.yes rfl rfl rfl (decide_eq_true hc7))
         refine a_faR (cells' := [_, _, _]) ?_ D59_0 (hg := Gs.yes rfl rfl rfl (decide_eq_true hc7))
         refine a_ldR (v := vS _) ?_ T9 (hg := Gs.yes rfl rfl rfl (decide_eq_true hc7))
         refine a_faB (q := 0) ?_ D59_0 (hg := Gs.yes rfl rfl rfl (decide_eq_true hc7))
         refine a_ldB (v := vS _) ?_ T9 (hg := Gs.yes rfl rfl rfl (decide_eq_true hc7))
         refine a_bin (u := .bool (!(Op.bytesLess (((rd54 x0 (wrap64 (x7 - 1))).f0).toList) (((rd54 x5 x7).f0).toList)))) ?_ (hg := Gs.yes rfl rfl rfl (decide_eq_true hc7))
         refine a_pick (b := true) (v := vB _) ?_ (decide_eq_true hc7) (hg := Gs.yes rfl rfl rfl (congrArg Bool.not hc6))
         refine a_pick (b := false) (v := vB _) ?_ (congrArg Bool.not hc6)
         refine RA.nil (fun _ => by kernel_rfl) ?_
         by_cases hc10 : (Op.bytesLess (((rd54 x0 (wrap64 (x7 - 1))).f0).toList) (((rd54 x5 x7).f0).toList)) = true
         ·rw [if_pos hc10] at H
          refine AG.no rfl (by rw [show (Op.bytesLess (((rd54 x0 (wrap64 (x7 - 1))).f0).toList) (((rd54 x5 x7).f0).toList)) = true from hc10]; rfl) ?_
          refine AG.skip ?_
          refine AG.region HM ?_
          refine a_int (u := .int .i64 (wrap64 (x7 + 1))) ?_
          refine a_move (v := vI _) ?_
          refine RA.nil nofun ?_
          exact AGr.canon id (ih0 _ (by omega) _ ⟨by omega, _, _, _, _, H, rfl⟩) ⟨rfl, rfl, rfl, rfl, trivial⟩ trivial rfl
         ·rw [if_neg hc10] at H
          refine AG.yes rfl (by rw [Bool.eq_false_iff.2 hc10]; rfl) ?_
          refine AG.seq ?_
          refine AG.region HM ?_
          refine a_move (v := vB _) ?_
          refine RA.nil nofun ?_
          refine AG.ret ?_
          obtain rfl := Option.some.inj H
          exact RetP.mk id ⟨rfl, trivial⟩ trivial rfl
        ·rw [if_neg hc9] at H
         cases H
       ·rw [if_neg hc8] at H
        cases H
      ·rw [if_neg hc7] at H
       refine RA.skip rfl rfl rfl rfl rfl (decide_eq_false hc7) (by decide) ?_
       refine RA.skip rfl rfl rfl rfl rfl (decide_eq_false hc7) (by decide) ?_
       refine RA.skip rfl rfl rfl rfl rfl (decide_eq_false hc7) (by decide) ?_
       refine RA.skip rfl rfl rfl rfl rfl (decide_eq_false hc7) (by decide) ?_
       refine RA.skip rfl rfl rfl rfl rfl (decide_eq_false hc7) (by decide) ?_
       refine RA.skip rfl rfl rfl rfl rfl (decide_eq_false hc7) (by decide) ?_
       refine RA.skip rfl rfl rfl rfl rfl (decide_eq_false hc7) (by decide) ?_
       refine RA.skip rfl rfl rfl rfl rfl (decide_eq_false hc7) (by decide) ?_
       refine RA.skip rfl rfl rfl rfl rfl (decide_eq_false hc7) (by decide) ?_
       refine a_pick (b := false) (v := vB _) ?_ (decide_eq_false hc7) (hg := Gs.yes rfl rfl rfl (congrArg Bool.not hc6))
       refine a_pick (b := false) (v := vB _) ?_ (congrArg Bool.not hc6)
       refine RA.nil (fun _ => by kernel_rfl) ?_
       refine AG.no rfl rfl ?_
       refine AG.skip ?_
       refine AG.region HM ?_
       refine a_int (u := .int .i64 (wrap64 (x7 + 1))) ?_
       refine a_move (v := vI _) ?_
       refine RA.nil nofun ?_
       exact AGr.canon id (ih0 _ (by omega) _ ⟨by omega, _, _, _, _, H, rfl⟩) ⟨rfl, rfl, rfl, rfl, trivial⟩ trivial rfl
     ·rw [if_neg hc6] at H
      refine RA.skip rfl rfl rfl rfl rfl (congrArg Bool.not (Bool.eq_false_iff.2 hc6)) (by decide) ?_
      refine RA.skip rfl rfl rfl rfl rfl (congrArg Bool.not (Bool.eq_false_iff.2 hc6)) (by decide) ?_
      refine RA.skip rfl rfl rfl rfl rfl (congrArg Bool.not (Bool.eq_false_iff.2 hc6)) (by decide) ?_
      refine RA.skip0 rfl rfl rfl rfl rfl ?_
      refine RA.skip0 rfl rfl rfl rfl rfl ?_
      refine RA.skip0 rfl rfl rfl rfl rfl ?_
      refine RA.skip0 rfl rfl rfl rfl rfl ?_
      refine RA.skip0 rfl rfl rfl rfl rfl ?_
      refine RA.skip0 rfl rfl rfl rfl rfl ?_
      refine RA.skip0 rfl rfl rfl rfl rfl ?_
      refine RA.skip0 rfl rfl rfl rfl rfl ?_
      refine RA.skip0 rfl rfl rfl rfl rfl ?_
      refine RA.skip rfl rfl rfl rfl rfl (congrArg Bool.not (Bool.eq_false_iff.2 hc6)) (by decide) ?_
      refine a_pick (b := true) (v := vB _) ?_ (congrArg Bool.not (Bool.eq_false_iff.2 hc6))
      refine RA.nil (fun _ => by kernel_rfl) ?_
      refine AG.yes rfl rfl ?_
      refine AG.seq ?_
      refine AG.region HM ?_
      refine a_move (v := vB _) ?_
      refine RA.nil nofun ?_
      refine AG.ret ?_
      obtain rfl := Option.some.inj H
      exact RetP.mk id ⟨rfl, trivial⟩ trivial rfl
    ·rw [if_neg hc3] at H
     cases H
   ·rw [if_neg hc2] at H
    cases H
  ·rw [if_neg hc1] at H
   refine AG.no rfl (decide_eq_false hc1) ?_
   refine AG.exit ?_
   refine AG.seq ?_
   refine AG.region HM ?_
   refine a_move (v := vR _ _) ?_
   refine a_lenR ?_ Try.underlying41
   refine a_int (u := .bool (decide ((x0.length : Int) ≤ 16))) ?_
   refine a_move (v := vB _) ?_
   refine RA.nil nofun ?_
   refine AG.ret ?_
   obtain rfl := Option.some.inj H
   exact RetP.mk id ⟨rfl, trivial⟩ trivial rfl
/-! ### impl_upDiv: function 61 -/
def impl_upDiv.f (a0 : Int) (a1 : Int) : Option (Int) := if a1 = 0 then (none) else (some (wrap64 (Int.tdiv (wrap64 ((wrap64 (a0 + a1)) - 1)) a1)))
set_option maxRecDepth 100000 in
theorem impl_upDiv.ok {a0 : Int} {a1 : Int} {r : Int} (H : impl_upDiv.f a0 a1 = some r) : OkF Try.prog 61 [vI a0, vI a1] [] (.c (.d (.v (.int .i64 r)))) [] := by
 unfold impl_upDiv.f at H
 refine OkF.of (N := 11) (rs := [4]) (avs := [.c (.d (.v (.int .i64 r)))]) Try.func61 rfl rfl (fun _ _ => results_tmp rfl _ _ _) (by decide) rfl rfl rfl rfl (fun w0 S => ?_)
 refine AG.seq ?_
 refine AG.region HM ?_
 refine a_move (v := vI _) ?_
 refine RA.nil nofun ?_
 refine AG.seq ?_
 refine AG.region HM ?_
 refine a_move (v := vI _) ?_
 refine a_move (v := vI _) ?_
 refine a_int (u := .int .i64 (wrap64 (a0 + a1))) ?_
 refine a_int (u := .int .i64 (wrap64 ((wrap64 (a0 + a1)) - 1))) ?_
 refine a_move (v := vI _) ?_
 by_cases hc1 : a1 = 0
 ·rw [if_pos hc1] at H
  cases H
 ·rw [if_neg hc1] at H
  refine a_quo (r := wrap64 (Int.tdiv (wrap64 ((wrap64 (a0 + a1)) - 1)) a1)) ?_ hc1
  refine a_move (v := vI _) ?_
  refine RA.nil nofun ?_
  refine AG.ret ?_
  obtain rfl := Option.some.inj H
  exact RetP.mk id ⟨rfl, trivial⟩ trivial rfl
/-! ### impl_wear: function 53 -/
def impl_wear.f (a0_0 : ByteArray) (a0_1 : Int) (a0_2 : Int) : Option (Int) := (impl_upDiv.f (wrap64 (a0_1 * a0_2)) 40).bind fun t1 => (some t1)
set_option maxRecDepth 100000 in
theorem impl_wear.ok {a0_0 : ByteArray} {a0_1 : Int} {a0_2 : Int} {r : Int} (H : impl_wear.f a0_0 a0_1 a0_2 = some r) : OkF Try.prog 53 [.agg [.d (.v (.string a0_0)), .d (.v (.int .i64 a0_1)), .d (.v (.int .i64 a0_2))]] [] (.c (.d (.v (.int .i64 r)))) [] := by
 unfold impl_wear.f at H
 refine OkF.of (N := 9) (rs := [2]) (avs := [.c (.d (.v (.int .i64 r)))]) Try.func53 rfl rfl (fun _ _ => results_tmp rfl _ _ _) (by decide) rfl rfl rfl rfl (fun w0 S => ?_)
 refine AG.seq ?_
 refine AG.region HM ?_
 refine a_box 200 ?_
 refine a_move (v := vI _) ?_
 refine RA.nil nofun ?_
 refine AG.seq ?_
 refine AG.region HM ?_
 refine a_faB (q := 1) ?_ D59_1
 refine a_ldB (v := vI _) ?_ T2
 refine a_faB (q := 2) ?_ D59_2
 refine a_ldB (v := vI _) ?_ T2
 refine a_int (u := .int .i64 (wrap64 (a0_1 * a0_2))) ?_
 obtain ⟨t1, e2, H⟩ := bindO H
 refine a_call (v := vI t1) (nk := []) (L := []) ?_ rfl (impl_upDiv.ok e2) id (qd (qd qn)) trivial trivial trivial rfl
 refine a_move (v := vI _) ?_
 refine RA.nil nofun ?_
 refine AG.ret ?_
 obtain rfl := Option.some.inj H
 exact RetP.mk id ⟨rfl, trivial⟩ trivial rfl
/-! ### impl_wears: function 38 -/
mutual
def impl_wears.j0 : Nat → List S54 → Int → Bool → Option ((List Int) × Int)
 | 0, _, _, _ => none
 | k + 1, x1, y204_1, x16 => if x16 = true then (some (([] : List Int), 1)) else (impl_wears.l0 k y204_1 (([] : List Int) : List Int) x1 (x1.length : Int) 0)
def impl_wears.l0 : Nat → Int → List Int → List S54 → Int → Int → Option ((List Int) × Int)
 | 0, _, _, _, _, _ => none
 | k + 1, y207_1, x6, x18, x19, x20 => if x20 < x19 then (if 0 ≤ x20 then (if x20 < (x18.length : Int) then ((impl_wear.f ((rd54 x18 x20).f0) ((rd54 x18 x20).f1) ((rd54 x18 x20).f2)).bind fun t11 => (if t11 > y207_1 then (some (([] : List Int), 6)) else ((impl_wear.f ((rd54 x18 x20).f0) ((rd54 x18 x20).f1) ((rd54 x18 x20).f2)).bind fun t14 => (if x6.length < 17592186044416 then (impl_wears.l0 k y207_1 (x6 ++ [t14]) x18 x19 (wrap64 (x20 + 1))) else (none))))) else (none)) else (none)) else (some (x6, 0))
end
def impl_wears.f (k : Nat) (a0_0 : ByteArray) (a0_1 : Int) (a0_2 : Int) (a0_3 : Int) (l1 : List S54) : Option ((List Int) × Int) := (impl_ValidBlade.f k a0_0 a0_1 a0_2 a0_3).bind fun t1 => (if t1 = true then ((impl_ValidCuttings.f k l1).bind fun t4 => (impl_wears.j0 k l1 a0_1 (!t4))) else (impl_wears.j0 k l1 a0_1 true))
set_option maxRecDepth 100000 in
theorem impl_wears.ok {k : Nat} {a0_0 : ByteArray} {a0_1 : Int} {a0_2 : Int} {a0_3 : Int} {l1 : List S54} {r0 : List Int} {r1 : Int} (H : impl_wears.f k a0_0 a0_1 a0_2 a0_3 l1 = some (r0, r1)) : OkF Try.prog 38 [.agg [.d (.v (.string a0_0)), .d (.v (.int .i64 a0_1)), .d (.v (.int .i64 a0_2)), .d (.v (.int .i64 a0_3))], vR 59 (l1.map c54)] [] (.tup [.c (.own 100 r0.length), .c (.d (.v (.int .i64 r1)))]) [(100, .row 2 (r0.map c2))] := by
 unfold impl_wears.f at H
 refine OkF.of (N := 36) (rs := [4, 5]) (avs := [.c (.own 100 r0.length), .c (.d (.v (.int .i64 r1)))]) Try.func38 rfl rfl (fun _ _ => results_tmp2 rfl _ _ _) (by decide) rfl rfl rfl rfl (fun w0 S => ?_)
 refine AG.seq ?_
 refine AG.region HM ?_
 refine a_box 200 ?_
 refine a_nilO (e := 2) 201 ?_ T2
 refine a_move (v := vI _) ?_
 refine RA.nil nofun ?_
 refine AG.seq ?_
 refine AG.seq ?_
 refine AG.joinR (fun s => ∃ q, q ≤ k ∧ ∃ (x1 : List S54) (y204_0 : ByteArray) (y204_1 : Int) (y204_2 : Int) (y204_3 : Int) (x16 : Bool), impl_wears.j0 q x1 y204_1 x16 = some (r0, r1) ∧ s = St.of [(1, vR 59 (x1.map c54)), (2, .c (.ptr 204 0)), (16, vB x16)] [(204, .box 39 [.d (.v (.string y204_0)), .d (.v (.int .i64 y204_1)), .d (.v (.int .i64 y204_2)), .d (.v (.int .i64 y204_3))])]) ?_ ?_
 ·skip
  refine AG.region HM ?_
  refine a_ldB (v := .agg [_, _, _, _]) ?_ T39
  obtain ⟨t1, e2, H⟩ := bindO H
  refine a_call (v := vB t1) (nk := []) (L := []) ?_ rfl (impl_ValidBlade.ok e2) id (qg qn) trivial trivial trivial rfl
  refine a_un (u := .bool (!t1)) ?_
  refine a_move (v := vB _) ?_
  by_cases hc3 : t1 = true
  ·rw [if_pos hc3] at H
   refine a_move (v := vR _ _) ?_ (hg := Gs.yes rfl rfl rfl (congrArg Bool.not hc3))
   obtain ⟨t4, e5, H⟩ := bindO H
   refine a_call (v := vB t4) (nk := []) (L := []) ?_ rfl (impl_ValidCuttings.ok e5) id (qd qn) trivial trivial trivial rfl (hg := Gs.yes rfl rfl rfl (congrArg Bool.not hc3))
   refine a_un (u := .bool (!t4)) ?_ (hg := Gs.yes rfl rfl rfl (congrArg Bool.not hc3))
   refine a_pick (b := false) (v := vB _) ?_ (congrArg Bool.not hc3)
   refine RA.nil nofun ?_
   exact CanR.mk (fun κ => cond (Nat.beq κ 204) 200 (κ)) ⟨_, (by omega), _, _, _, _, _, _, H, rfl⟩ ⟨rfl, rfl, rfl, trivial⟩ ⟨rfl, trivial⟩ rfl
  ·rw [if_neg hc3] at H
   refine RA.skip rfl rfl rfl rfl rfl (congrArg Bool.not (Bool.eq_false_iff.2 hc3)) (by decide) ?_
   refine RA.skip rfl rfl rfl rfl rfl (congrArg Bool.not (Bool.eq_false_iff.2 hc3)) (by decide) ?_
   refine RA.skip rfl rfl rfl rfl rfl (congrArg Bool.not (Bool.eq_false_iff.2 hc3)) (by decide) ?_
   refine a_pick (b := true) (v := vB _) ?_ (congrArg Bool.not (Bool.eq_false_iff.2 hc3))
   refine RA.nil nofun ?_
   exact CanR.mk (fun κ => cond (Nat.beq κ 204) 200 (κ)) ⟨_, (by omega), _, _, _, _, _, _, H, rfl⟩ ⟨rfl, rfl, rfl, trivial⟩ ⟨rfl, trivial⟩ rfl
 ·clear H
  rintro _ ⟨k, hj0, x1, y204_0, y204_1, y204_2, y204_3, x16, H, rfl⟩
  cases k with
  | zero => cases H
  | succ k =>
   rw [impl_wears.j0] at H
   by_cases hc6 : x16 = true
   ·rw [if_pos hc6] at H
    refine AG.yes rfl hc6 ?_
    refine AG.seq ?_
    refine AG.region HM ?_
    refine a_nilO (e := 2) 205 ?_ T2
    refine a_move (v := vI _) ?_
    refine RA.nil nofun ?_
    refine AG.ret ?_
    simp only [Option.some.injEq, Prod.mk.injEq] at H
    obtain ⟨rfl, rfl⟩ := H
    exact RetP.mk (fun κ => cond (Nat.beq κ 100) 205 (κ)) ⟨(ownE rfl (by simp)), rfl, trivial⟩ ⟨rfl, trivial⟩ rfl
   ·rw [if_neg hc6] at H
    refine AG.no rfl (Bool.eq_false_iff.2 hc6) ?_
    refine AG.skip ?_
    refine AG.seq ?_
    refine AG.region HM ?_
    refine a_lit (cs := []) (D := []) (css := (([] : List Int) : List Int).map c2) 206 ?_ N36 T2 (hcss := by rfl)
    refine a_move (v := .c (.own _ _)) ?_
    refine RA.nil nofun ?_
    refine AG.seq ?_
    refine AG.seq ?_
    refine AG.region HM ?_
    refine a_move (v := vR _ _) ?_
    refine a_lenR ?_ Try.underlying41
    refine a_move (v := vI _) ?_
    refine RA.nil nofun ?_
    refine AG.block ?_
    refine AG.loop ?_
    obtain ⟨K0, hK0, gK0⟩ : ∃ K, k ≤ K ∧ K ≤ k := ⟨k, Nat.le_refl k, Nat.le_refl k⟩
    refine AGr.canon (fun κ => cond (Nat.beq κ 207) 204 (cond (Nat.beq κ 208) 206 (κ))) (AGr.loopI (n := k) (fun k s => k ≤ K0 ∧ ∃ (y207_0 : ByteArray) (y207_1 : Int) (y207_2 : Int) (y207_3 : Int) (x6 : List Int) (x18 : List S54) (x19 : Int) (x20 : Int), impl_wears.l0 k y207_1 x6 x18 x19 x20 = some (r0, r1) ∧ s = St.of [(2, .c (.ptr 207 0)), (6, .c (.own 208 x6.length)), (18, vR 59 (x18.map c54)), (19, vI x19), (20, vI x20)] [(207, .box 39 [.d (.v (.string y207_0)), .d (.v (.int .i64 y207_1)), .d (.v (.int .i64 y207_2)), .d (.v (.int .i64 y207_3))]), (208, .row 2 (x6.map c2))]) ⟨hK0, _, _, _, _, _, _, _, _, H, rfl⟩ ?_ ?_) ⟨rfl, (ownE rfl (by simp)), rfl, rfl, rfl, trivial⟩ ⟨rfl, rfl, trivial⟩ rfl
    ·rintro _ ⟨_, _, _, _, _, _, _, _, _, H, _⟩
     cases H
    ·clear H hK0
     rintro k ih0 _ ⟨hK0, y207_0, y207_1, y207_2, y207_3, x6, x18, x19, x20, H, rfl⟩
     unfold impl_wears.l0 at H
     refine AG.seq ?_
     refine AG.region HM ?_
     refine a_int (u := .bool (decide (x20 < x19))) ?_
     refine RA.nil nofun ?_
     refine AG.seq ?_
     by_cases hc8 : x20 < x19
     ·rw [if_pos hc8] at H
      refine AG.yes rfl (decide_eq_true hc8) ?_
      refine AG.skip ?_
      refine AG.seq ?_
      refine AG.block ?_
      refine AG.seq ?_
      refine AG.region HM ?_
      by_cases hc9 : 0 ≤ x20
      ·rw [if_pos hc9] at H
       by_cases hc10 : x20 < (x18.length : Int)
       ·rw [if_pos hc10] at H
        refine a_ixR (el := c54 (rd54 x18 x20)) ?_ ⟨hc9, hc10⟩ T59 Try.underlying41 (hel := R54 hc9 hc10)
        refine a_ldR (v := .agg [_, _, _]) ?_ T59
        refine a_alloc (cs := [_, _, _]) 209 ?_ T59
        refine a_stB (cs' := [_, _, _]) ?_ T59
        refine RA.nil nofun ?_
        refine AG.seq ?_
        refine AG.seq ?_
        refine AG.region HM ?_
        refine a_ldB (v := .agg [_, _, _]) ?_ T59
        obtain ⟨t11, e12, H⟩ := bindO H
        refine a_call (v := vI t11) (nk := []) (L := []) ?_ rfl (impl_wear.ok e12) id (qg qn) trivial trivial trivial rfl
        refine a_faB (q := 1) ?_ D39_1
        refine a_ldB (v := vI _) ?_ T2
        refine a_int (u := .bool (decide (t11 > y207_1))) ?_
        refine RA.nil (fun _ => by kernel_rfl) ?_
        by_cases hc13 : t11 > y207_1
        ·rw [if_pos hc13] at H
         refine AG.yes rfl (decide_eq_true hc13) ?_
         refine AG.seq ?_
         refine AG.region HM ?_
         refine a_nilO (e := 2) 211 ?_ T2
         refine a_move (v := vI _) ?_
         refine RA.nil nofun ?_
         refine AG.ret ?_
         simp only [Option.some.injEq, Prod.mk.injEq] at H
         obtain ⟨rfl, rfl⟩ := H
         exact RetP.mk (fun κ => cond (Nat.beq κ 100) 211 (κ)) ⟨(ownE rfl (by simp)), rfl, trivial⟩ ⟨rfl, trivial⟩ rfl
        ·rw [if_neg hc13] at H
         refine AG.no rfl (decide_eq_false hc13) ?_
         refine AG.skip ?_
         refine AG.region HM ?_
         refine a_move (v := .c (.own _ _)) ?_
         refine a_ldB (v := .agg [_, _, _]) ?_ T59
         obtain ⟨t14, e15, H⟩ := bindO H
         refine a_call (v := vI t14) (nk := []) (L := []) ?_ rfl (impl_wear.ok e15) id (qg qn) trivial trivial trivial rfl
         refine a_lit (cs := [_]) (D := []) (css := ([t14]).map c2) 213 ?_ N36 T2
         by_cases hc16 : x6.length < 17592186044416
         ·rw [if_pos hc16] at H
          refine a_appO (css' := (x6 ++ [t14]).map c2) (n' := (x6 ++ [t14]).length) ?_ T2 (by simp [maxLen]; omega) (by simp; omega) Try.underlying36 (hc := by exact List.map_append.symm) (hn := by exact List.length_map _)
          refine a_move (v := .c (.own _ _)) ?_
          refine RA.nil nofun ?_
          refine AG.region HM ?_
          refine a_int (u := .int .i64 (wrap64 (x20 + 1))) ?_
          refine a_move (v := vI _) ?_
          refine RA.nil nofun ?_
          exact AGr.canon id (ih0 _ (by omega) _ ⟨by omega, _, _, _, _, _, _, _, _, H, rfl⟩) ⟨rfl, rfl, rfl, rfl, rfl, trivial⟩ ⟨rfl, rfl, trivial⟩ rfl
         ·rw [if_neg hc16] at H
          cases H
       ·rw [if_neg hc10] at H
        cases H
      ·rw [if_neg hc9] at H
       cases H
     ·rw [if_neg hc8] at H
      refine AG.no rfl (decide_eq_false hc8) ?_
      refine AG.exit ?_
      refine AG.seq ?_
      refine AG.region HM ?_
      refine a_move (v := .c (.own _ _)) ?_
      refine a_move (v := .c (.own _ _)) ?_
      refine a_move (v := vI _) ?_
      refine RA.nil nofun ?_
      refine AG.ret ?_
      simp only [Option.some.injEq, Prod.mk.injEq] at H
      obtain ⟨rfl, rfl⟩ := H
      exact RetP.mk (fun κ => cond (Nat.beq κ 100) 208 (κ)) ⟨rfl, rfl, trivial⟩ ⟨rfl, trivial⟩ rfl
/-! ### impl_DecreasingBlades_1: function 39 -/
def impl_DecreasingBlades_1.f (a0 : Int) (a1 : Int) (v_0_0 : List Int) : Option (Int) := if 0 ≤ a1 then (if a1 < (v_0_0.length : Int) then (if 0 ≤ a0 then (if a0 < (v_0_0.length : Int) then (some (wrap64 ((rd2 v_0_0 a1) - (rd2 v_0_0 a0)))) else (none)) else (none)) else (none)) else (none)
set_option maxRecDepth 100000 in
theorem impl_DecreasingBlades_1.ok {a0 : Int} {a1 : Int} {v_0_0 : List Int} {r : Int} (H : impl_DecreasingBlades_1.f a0 a1 v_0_0 = some r) : OkF Try.prog 39 [vI a0, vI a1, .c (.d (.ro [.row 2 (v_0_0.map c2)]))] [] (.c (.d (.v (.int .i64 r)))) [] := by
 unfold impl_DecreasingBlades_1.f at H
 refine OkF.of (N := 15) (rs := [5]) (avs := [.c (.d (.v (.int .i64 r)))]) Try.func39 rfl rfl (fun _ _ => results_tmp rfl _ _ _) (by decide) rfl rfl rfl rfl (fun w0 S => ?_)
 refine AG.seq ?_
 refine AG.region HM ?_
 refine a_move (v := vI _) ?_
 refine RA.nil nofun ?_
 refine AG.seq ?_
 refine AG.region HM ?_
 refine a_ldR (v := vR _ _) ?_ T36
 refine a_move (v := vI _) ?_
 by_cases hc1 : 0 ≤ a1
 ·rw [if_pos hc1] at H
  by_cases hc2 : a1 < (v_0_0.length : Int)
  ·rw [if_pos hc2] at H
   refine a_ixR (el := c2 (rd2 v_0_0 a1)) ?_ ⟨hc1, hc2⟩ T2 Try.underlying36 (hel := R2 hc1 hc2)
   refine a_ldR (v := vI _) ?_ T2
   refine a_ldR (v := vR _ _) ?_ T36
   refine a_move (v := vI _) ?_
   by_cases hc3 : 0 ≤ a0
   ·rw [if_pos hc3] at H
    by_cases hc4 : a0 < (v_0_0.length : Int)
    ·rw [if_pos hc4] at H
     refine a_ixR (el := c2 (rd2 v_0_0 a0)) ?_ ⟨hc3, hc4⟩ T2 Try.underlying36 (hel := R2 hc3 hc4)
     refine a_ldR (v := vI _) ?_ T2
     refine a_int (u := .int .i64 (wrap64 ((rd2 v_0_0 a1) - (rd2 v_0_0 a0)))) ?_
     refine a_move (v := vI _) ?_
     refine RA.nil (fun _ => by kernel_rfl) ?_
     refine AG.ret ?_
     obtain rfl := Option.some.inj H
     exact RetP.mk id ⟨rfl, trivial⟩ trivial rfl
    ·rw [if_neg hc4] at H
     cases H
   ·rw [if_neg hc3] at H
    cases H
  ·rw [if_neg hc2] at H
   cases H
 ·rw [if_neg hc1] at H
  cases H
/-! ### slices_insertionSortCmpFunc_int__impl_DecreasingBlades_1: function 55 -/
mutual
def slices_insertionSortCmpFunc_int__impl_DecreasingBlades_1.l0 : Nat → List Int → Int → Int → List Int → Int → Option ((List Int))
 | 0, _, _, _, _, _ => none
 | k + 1, x0, x1, x2, x3_0_0, x8 => if x8 < x2 then (slices_insertionSortCmpFunc_int__impl_DecreasingBlades_1.l1 k x0 x1 x2 x3_0_0 x8 x8) else (some x0)
def slices_insertionSortCmpFunc_int__impl_DecreasingBlades_1.l1 : Nat → List Int → Int → Int → List Int → Int → Int → Option ((List Int))
 | 0, _, _, _, _, _, _ => none
 | k + 1, x0, x1, x2, x3_0_0, x8, x9 => if x9 > x1 then (if 0 ≤ x9 then (if x9 < (x0.length : Int) then (if 0 ≤ (wrap64 (x9 - 1)) then (if (wrap64 (x9 - 1)) < (x0.length : Int) then ((impl_DecreasingBlades_1.f (rd3 x0 x9) (rd3 x0 (wrap64 (x9 - 1))) x3_0_0).bind fun t7 => (if t7 < 0 then (slices_insertionSortCmpFunc_int__impl_DecreasingBlades_1.l1 k ((x0.set (x9 : Int).toNat (rd3 x0 (wrap64 (x9 - 1)))).set ((wrap64 (x9 - 1)) : Int).toNat (rd3 x0 x9)) x1 x2 x3_0_0 x8 (wrap64 (x9 - 1))) else (slices_insertionSortCmpFunc_int__impl_DecreasingBlades_1.l0 k x0 x1 x2 x3_0_0 (wrap64 (x8 + 1))))) else (none)) else (none)) else (none)) else (none)) else (slices_insertionSortCmpFunc_int__impl_DecreasingBlades_1.l0 k x0 x1 x2 x3_0_0 (wrap64 (x8 + 1)))
end
def slices_insertionSortCmpFunc_int__impl_DecreasingBlades_1.f (k : Nat) (l0 : List Int) (a1 : Int) (a2 : Int) (v3_0_0 : List Int) : Option ((List Int)) := slices_insertionSortCmpFunc_int__impl_DecreasingBlades_1.l0 k l0 a1 a2 v3_0_0 (wrap64 (a1 + 1))
set_option maxRecDepth 100000 in
theorem slices_insertionSortCmpFunc_int__impl_DecreasingBlades_1.ok {k : Nat} {l0 : List Int} {a1 : Int} {a2 : Int} {v3_0_0 : List Int} {r : List Int} (H : slices_insertionSortCmpFunc_int__impl_DecreasingBlades_1.f k l0 a1 a2 v3_0_0 = some r) : OkF Try.prog 55 [.c (.own 0 l0.length), vI a1, vI a2, .c (.d (.fn 39 [.ro [.row 2 (v3_0_0.map c2)]]))] [(0, .row 3 (l0.map c3))] (.tup []) [(0, .row 3 (r.map c3))] := by
 unfold slices_insertionSortCmpFunc_int__impl_DecreasingBlades_1.f at H
 refine OkF.of (N := 53) (rs := []) (avs := []) Try.func55 rfl rfl (fun _ _ => results_none rfl _ _ _) (by decide) rfl rfl rfl rfl (fun w0 S => ?_)
 refine AG.seq ?_
 refine AG.region HM ?_
 refine a_move (v := vI _) ?_
 refine a_int (u := .int .i64 (wrap64 (a1 + 1))) ?_
 refine a_move (v := vI _) ?_
 refine RA.nil nofun ?_
 refine AG.block ?_
 refine AG.loop ?_
 obtain ⟨K0, hK0, gK0⟩ : ∃ K, k ≤ K ∧ K ≤ k := ⟨k, Nat.le_refl k, Nat.le_refl k⟩
 refine AGr.canon id (AGr.loopI (n := k) (fun k s => k ≤ K0 ∧ ∃ (x0 : List Int) (x1 : Int) (x2 : Int) (x3_0_0 : List Int) (x8 : Int), slices_insertionSortCmpFunc_int__impl_DecreasingBlades_1.l0 k x0 x1 x2 x3_0_0 x8 = some r ∧ s = St.of [(0, .c (.own 0 x0.length)), (1, vI x1), (2, vI x2), (3, .c (.d (.fn 39 [.ro [.row 2 (x3_0_0.map c2)]]))), (8, vI x8)] [(0, .row 3 (x0.map c3))]) ⟨hK0, _, _, _, _, _, H, rfl⟩ ?_ ?_) ⟨rfl, rfl, rfl, rfl, rfl, trivial⟩ ⟨rfl, trivial⟩ rfl
 ·rintro _ ⟨_, _, _, _, _, _, H, _⟩
  cases H
 ·clear H hK0
  rintro k ih0 _ ⟨hK0, x0, x1, x2, x3_0_0, x8, H, rfl⟩
  unfold slices_insertionSortCmpFunc_int__impl_DecreasingBlades_1.l0 at H
  refine AG.seq ?_
  refine AG.seq ?_
  refine AG.region HM ?_
  refine a_move (v := vI _) ?_
  refine a_move (v := vI _) ?_
  refine a_int (u := .bool (decide (x8 < x2))) ?_
  refine RA.nil nofun ?_
  by_cases hc1 : x8 < x2
  ·rw [if_pos hc1] at H
   refine AG.yes rfl (decide_eq_true hc1) ?_
   refine AG.skip ?_
   refine AG.seq ?_
   refine AG.block ?_
   refine AG.seq ?_
   refine AG.region HM ?_
   refine a_move (v := vI _) ?_
   refine a_move (v := vI _) ?_
   refine RA.nil nofun ?_
   refine AG.block ?_
   refine AG.loop ?_
   obtain ⟨K1, hK1, gK1⟩ : ∃ K, k ≤ K ∧ K ≤ k := ⟨k, Nat.le_refl k, Nat.le_refl k⟩
   refine AGr.canon id (AGr.loopI (n := k) (fun k s => k ≤ K1 ∧ ∃ (x0 : List Int) (x1 : Int) (x2 : Int) (x3_0_0 : List Int) (x8 : Int) (x9 : Int), slices_insertionSortCmpFunc_int__impl_DecreasingBlades_1.l1 k x0 x1 x2 x3_0_0 x8 x9 = some r ∧ s = St.of [(0, .c (.own 0 x0.length)), (1, vI x1), (2, vI x2), (3, .c (.d (.fn 39 [.ro [.row 2 (x3_0_0.map c2)]]))), (8, vI x8), (9, vI x9)] [(0, .row 3 (x0.map c3))]) ⟨hK1, _, _, _, _, _, _, H, rfl⟩ ?_ ?_) ⟨rfl, rfl, rfl, rfl, rfl, rfl, trivial⟩ ⟨rfl, trivial⟩ rfl
   ·rintro _ ⟨_, _, _, _, _, _, _, H, _⟩
    cases H
   ·clear H hK1
    rintro k ih1 _ ⟨hK1, x0, x1, x2, x3_0_0, x8, x9, H, rfl⟩
    unfold slices_insertionSortCmpFunc_int__impl_DecreasingBlades_1.l1 at H
    refine AG.seq ?_
    refine AG.seq ?_
    refine AG.region HM ?_
    refine a_move (v := vI _) ?_
    refine a_move (v := vI _) ?_
    refine a_int (u := .bool (decide (x9 > x1))) ?_
    refine a_move (v := vB _) ?_
    by_cases hc2 : x9 > x1
    ·rw [if_pos hc2] at H
     refine a_move (v := .c (.d (.fn _ _))) ?_ (hg := Gs.yes rfl rfl rfl (decide_eq_true hc2))
     refine a_move (v := .c (.own _ _)) ?_ (hg := Gs.yes rfl rfl rfl (decide_eq_true hc2))
     refine a_move (v := vI _) ?_ (hg := Gs.yes rfl rfl rfl (decide_eq_true hc2))
     by_cases hc3 : 0 ≤ x9
     ·rw [if_pos hc3] at H
      by_cases hc4 : x9 < (x0.length : Int)
      ·rw [if_pos hc4] at H
       refine a_ixO ?_ ⟨hc3, hc4⟩ T3 Try.underlying50 (hg := Gs.yes rfl rfl rfl (decide_eq_true hc2))
       refine a_ldE (v := vI _) ?_ (G3 hc3 hc4) T3 (hg := Gs.yes rfl rfl rfl (decide_eq_true hc2))
       refine a_move (v := .c (.own _ _)) ?_ (hg := Gs.yes rfl rfl rfl (decide_eq_true hc2))
       refine a_move (v := vI _) ?_ (hg := Gs.yes rfl rfl rfl (decide_eq_true hc2))
       refine a_int (u := .int .i64 (wrap64 (x9 - 1))) ?_ (hg := Gs.yes rfl rfl rfl (decide_eq_true hc2))
       by_cases hc5 : 0 ≤ (wrap64 (x9 - 1))
       ·rw [if_pos hc5] at H
        by_cases hc6 : (wrap64 (x9 - 1)) < (x0.length : Int)
        ·rw [if_pos hc6] at H
         refine a_ixO ?_ ⟨hc5, hc6⟩ T3 Try.underlying50 (hg := Gs.yes rfl rfl rfl (decide_eq_true hc2))
         refine a_ldE (v := vI _) ?_ (G3 hc5 hc6) T3 (hg := Gs.yes rfl rfl rfl (decide_eq_true hc2))
         obtain ⟨t7, e8, H⟩ := bindO H
         refine a_callW (v := vI t7) (nk := []) (L := []) ?_ rfl rfl (impl_DecreasingBlades_1.ok e8) id (qd (qd qn)) rfl trivial trivial trivial rfl (hg := Gs.yes rfl rfl rfl (decide_eq_true hc2))
         refine a_int (u := .bool (decide (t7 < 0))) ?_ (hg := Gs.yes rfl rfl rfl (decide_eq_true hc2))
         refine a_pick (b := true) (v := vB _) ?_ (decide_eq_true hc2)
         refine RA.nil (fun _ => by kernel_rfl) ?_
         by_cases hc9 : t7 < 0
         ·rw [if_pos hc9] at H
          refine AG.yes rfl (decide_eq_true hc9) ?_
          refine AG.skip ?_
          refine AG.seq ?_
          refine AG.block ?_
          refine AG.region HM ?_
          refine a_move (v := .c (.own _ _)) ?_
          refine a_move (v := vI _) ?_
          refine a_move (v := .c (.own _ _)) ?_
          refine a_move (v := vI _) ?_
          refine a_int (u := .int .i64 (wrap64 (x9 - 1))) ?_
          refine a_move (v := .c (.own _ _)) ?_
          refine a_move (v := vI _) ?_
          refine a_int (u := .int .i64 (wrap64 (x9 - 1))) ?_
          refine a_ixO ?_ ⟨hc5, hc6⟩ T3 Try.underlying50
          refine a_ldE (v := vI _) ?_ (G3 hc5 hc6) T3
          refine a_move (v := .c (.own _ _)) ?_
          refine a_move (v := vI _) ?_
          refine a_ixO ?_ ⟨hc3, hc4⟩ T3 Try.underlying50
          refine a_ldE (v := vI _) ?_ (G3 hc3 hc4) T3
          refine a_ixO ?_ ⟨hc3, hc4⟩ T3 Try.underlying50
          refine a_stF (css' := (x0.set (x9 : Int).toNat (rd3 x0 (wrap64 (x9 - 1)))).map c3) ?_ (flat_map (fun _ => rfl)) (G3 hc3 hc4) T3 (hcss := by exact set_map rfl)
          refine a_ixO ?_ ⟨hc5, hc6⟩ T3 Try.underlying50
          refine a_stF (css' := ((x0.set (x9 : Int).toNat (rd3 x0 (wrap64 (x9 - 1)))).set ((wrap64 (x9 - 1)) : Int).toNat (rd3 x0 x9)).map c3) ?_ (flat_map (fun _ => rfl)) (G3 (l := (x0.set (x9 : Int).toNat (rd3 x0 (wrap64 (x9 - 1))))) (i := (wrap64 (x9 - 1))) hc5 (by simpa using hc6)) T3 (hcss := by exact set_map rfl)
          refine RA.nil (fun _ => by kernel_rfl) ?_
          refine AG.region HM ?_
          refine a_move (v := vI _) ?_
          refine a_int (u := .int .i64 (wrap64 (x9 - 1))) ?_
          refine a_move (v := vI _) ?_
          refine RA.nil nofun ?_
          exact AGr.canon id (ih1 _ (by omega) _ ⟨by omega, _, _, _, _, _, _, H, rfl⟩) ⟨(ownE rfl (by simp)), rfl, rfl, rfl, rfl, rfl, trivial⟩ ⟨rfl, trivial⟩ rfl
         ·rw [if_neg hc9] at H
          refine AG.no rfl (decide_eq_false hc9) ?_
          refine AG.exit ?_
          refine AG.region HM ?_
          refine a_move (v := vI _) ?_
          refine a_int (u := .int .i64 (wrap64 (x8 + 1))) ?_
          refine a_move (v := vI _) ?_
          refine RA.nil nofun ?_
          exact AGr.canon id (ih0 _ (by omega) _ ⟨by omega, _, _, _, _, _, H, rfl⟩) ⟨rfl, rfl, rfl, rfl, rfl, trivial⟩ ⟨rfl, trivial⟩ rfl
        ·rw [if_neg hc6] at H
         cases H
       ·rw [if_neg hc5] at H
        cases H
      ·rw [if_neg hc4] at H
       cases H
     ·rw [if_neg hc3] at H
      cases H
    ·rw [if_neg hc2] at H
     refine RA.skip rfl rfl rfl rfl rfl (decide_eq_false hc2) (by decide) ?_
     refine RA.skip rfl rfl rfl rfl rfl (decide_eq_false hc2) (by decide) ?_
     refine RA.skip rfl rfl rfl rfl rfl (decide_eq_false hc2) (by decide) ?_
     refine RA.skip rfl rfl rfl rfl rfl (decide_eq_false hc2) (by decide) ?_
     refine RA.skip rfl rfl rfl rfl rfl (decide_eq_false hc2) (by decide) ?_
     refine RA.skip rfl rfl rfl rfl rfl (decide_eq_false hc2) (by decide) ?_
     refine RA.skip rfl rfl rfl rfl rfl (decide_eq_false hc2) (by decide) ?_
     refine RA.skip rfl rfl rfl rfl rfl (decide_eq_false hc2) (by decide) ?_
     refine RA.skip rfl rfl rfl rfl rfl (decide_eq_false hc2) (by decide) ?_
     refine RA.skip rfl rfl rfl rfl rfl (decide_eq_false hc2) (by decide) ?_
     refine RA.skip rfl rfl rfl rfl rfl (decide_eq_false hc2) (by decide) ?_
     refine RA.skip rfl rfl rfl rfl rfl (decide_eq_false hc2) (by decide) ?_
     refine a_pick (b := false) (v := vB _) ?_ (decide_eq_false hc2)
     refine RA.nil (fun _ => by kernel_rfl) ?_
     refine AG.no rfl rfl ?_
     refine AG.exit ?_
     refine AG.region HM ?_
     refine a_move (v := vI _) ?_
     refine a_int (u := .int .i64 (wrap64 (x8 + 1))) ?_
     refine a_move (v := vI _) ?_
     refine RA.nil nofun ?_
     exact AGr.canon id (ih0 _ (by omega) _ ⟨by omega, _, _, _, _, _, H, rfl⟩) ⟨rfl, rfl, rfl, rfl, rfl, trivial⟩ ⟨rfl, trivial⟩ rfl
  ·rw [if_neg hc1] at H
   refine AG.no rfl (decide_eq_false hc1) ?_
   refine AG.exit ?_
   obtain rfl := Option.some.inj H
   exact RetP.mk (fun κ => cond (Nat.beq κ 0) 0 (κ)) trivial ⟨rfl, trivial⟩ rfl
/-! ### slices_swapRangeCmpFunc_int__impl_DecreasingBlades_1: function 65 -/
def slices_swapRangeCmpFunc_int__impl_DecreasingBlades_1.l0 : Nat → List Int → Int → Int → Int → Int → Option ((List Int))
 | 0, _, _, _, _, _ => none
 | k + 1, x0, x1, x2, x3, x10 => if x10 < x3 then (if 0 ≤ (wrap64 (x2 + x10)) then (if (wrap64 (x2 + x10)) < (x0.length : Int) then (if 0 ≤ (wrap64 (x1 + x10)) then (if (wrap64 (x1 + x10)) < (x0.length : Int) then (slices_swapRangeCmpFunc_int__impl_DecreasingBlades_1.l0 k ((x0.set ((wrap64 (x1 + x10)) : Int).toNat (rd3 x0 (wrap64 (x2 + x10)))).set ((wrap64 (x2 + x10)) : Int).toNat (rd3 x0 (wrap64 (x1 + x10)))) x1 x2 x3 (wrap64 (x10 + 1))) else (none)) else (none)) else (none)) else (none)) else (some x0)
def slices_swapRangeCmpFunc_int__impl_DecreasingBlades_1.f (k : Nat) (l0 : List Int) (a1 : Int) (a2 : Int) (a3 : Int) (v4_0_0 : List Int) : Option ((List Int)) := slices_swapRangeCmpFunc_int__impl_DecreasingBlades_1.l0 k l0 a1 a2 a3 0
set_option maxRecDepth 100000 in
theorem slices_swapRangeCmpFunc_int__impl_DecreasingBlades_1.ok {k : Nat} {l0 : List Int} {a1 : Int} {a2 : Int} {a3 : Int} {v4_0_0 : List Int} {r : List Int} (H : slices_swapRangeCmpFunc_int__impl_DecreasingBlades_1.f k l0 a1 a2 a3 v4_0_0 = some r) : OkF Try.prog 65 [.c (.own 0 l0.length), vI a1, vI a2, vI a3, .c (.d (.fn 39 [.ro [.row 2 (v4_0_0.map c2)]]))] [(0, .row 3 (l0.map c3))] (.tup []) [(0, .row 3 (r.map c3))] := by
 unfold slices_swapRangeCmpFunc_int__impl_DecreasingBlades_1.f at H
 refine OkF.of (N := 38) (rs := []) (avs := []) Try.func65 rfl rfl (fun _ _ => results_none rfl _ _ _) (by decide) rfl rfl rfl rfl (fun w0 S => ?_)
 refine AG.seq ?_
 refine AG.region HM ?_
 refine a_move (v := vI _) ?_
 refine RA.nil nofun ?_
 refine AG.block ?_
 refine AG.loop ?_
 obtain ⟨K0, hK0, gK0⟩ : ∃ K, k ≤ K ∧ K ≤ k := ⟨k, Nat.le_refl k, Nat.le_refl k⟩
 refine AGr.canon id (AGr.loopI (n := k) (fun k s => k ≤ K0 ∧ ∃ (x0 : List Int) (x1 : Int) (x2 : Int) (x3 : Int) (x10 : Int), slices_swapRangeCmpFunc_int__impl_DecreasingBlades_1.l0 k x0 x1 x2 x3 x10 = some r ∧ s = St.of [(0, .c (.own 0 x0.length)), (1, vI x1), (2, vI x2), (3, vI x3), (10, vI x10)] [(0, .row 3 (x0.map c3))]) ⟨hK0, _, _, _, _, _, H, rfl⟩ ?_ ?_) ⟨rfl, rfl, rfl, rfl, rfl, trivial⟩ ⟨rfl, trivial⟩ rfl
 ·rintro _ ⟨_, _, _, _, _, _, H, _⟩
  cases H
 ·clear H hK0
  rintro k ih0 _ ⟨hK0, x0, x1, x2, x3, x10, H, rfl⟩
  unfold slices_swapRangeCmpFunc_int__impl_DecreasingBlades_1.l0 at H
  refine AG.seq ?_
  refine AG.seq ?_
  refine AG.region HM ?_
  refine a_move (v := vI _) ?_
  refine a_move (v := vI _) ?_
  refine a_int (u := .bool (decide (x10 < x3))) ?_
  refine RA.nil nofun ?_
  by_cases hc1 : x10 < x3
  ·rw [if_pos hc1] at H
   refine AG.yes rfl (decide_eq_true hc1) ?_
   refine AG.skip ?_
   refine AG.seq ?_
   refine AG.block ?_
   refine AG.region HM ?_
   refine a_move (v := .c (.own _ _)) ?_
   refine a_move (v := vI _) ?_
   refine a_move (v := vI _) ?_
   refine a_int (u := .int .i64 (wrap64 (x1 + x10))) ?_
   refine a_move (v := .c (.own _ _)) ?_
   refine a_move (v := vI _) ?_
   refine a_move (v := vI _) ?_
   refine a_int (u := .int .i64 (wrap64 (x2 + x10))) ?_
   refine a_move (v := .c (.own _ _)) ?_
   refine a_move (v := vI _) ?_
   refine a_move (v := vI _) ?_
   refine a_int (u := .int .i64 (wrap64 (x2 + x10))) ?_
   by_cases hc2 : 0 ≤ (wrap64 (x2 + x10))
   ·rw [if_pos hc2] at H
    by_cases hc3 : (wrap64 (x2 + x10)) < (x0.length : Int)
    ·rw [if_pos hc3] at H
     refine a_ixO ?_ ⟨hc2, hc3⟩ T3 Try.underlying50
     refine a_ldE (v := vI _) ?_ (G3 hc2 hc3) T3
     refine a_move (v := .c (.own _ _)) ?_
     refine a_move (v := vI _) ?_
     refine a_move (v := vI _) ?_
     refine a_int (u := .int .i64 (wrap64 (x1 + x10))) ?_
     by_cases hc4 : 0 ≤ (wrap64 (x1 + x10))
     ·rw [if_pos hc4] at H
      by_cases hc5 : (wrap64 (x1 + x10)) < (x0.length : Int)
      ·rw [if_pos hc5] at H
       refine a_ixO ?_ ⟨hc4, hc5⟩ T3 Try.underlying50
       refine a_ldE (v := vI _) ?_ (G3 hc4 hc5) T3
       refine a_ixO ?_ ⟨hc4, hc5⟩ T3 Try.underlying50
       refine a_stF (css' := (x0.set ((wrap64 (x1 + x10)) : Int).toNat (rd3 x0 (wrap64 (x2 + x10)))).map c3) ?_ (flat_map (fun _ => rfl)) (G3 hc4 hc5) T3 (hcss := by exact set_map rfl)
       refine a_ixO ?_ ⟨hc2, hc3⟩ T3 Try.underlying50
       refine a_stF (css' := ((x0.set ((wrap64 (x1 + x10)) : Int).toNat (rd3 x0 (wrap64 (x2 + x10)))).set ((wrap64 (x2 + x10)) : Int).toNat (rd3 x0 (wrap64 (x1 + x10)))).map c3) ?_ (flat_map (fun _ => rfl)) (G3 (l := (x0.set ((wrap64 (x1 + x10)) : Int).toNat (rd3 x0 (wrap64 (x2 + x10))))) (i := (wrap64 (x2 + x10))) hc2 (by simpa using hc3)) T3 (hcss := by exact set_map rfl)
       refine RA.nil (fun _ => by kernel_rfl) ?_
       refine AG.region HM ?_
       refine a_move (v := vI _) ?_
       refine a_int (u := .int .i64 (wrap64 (x10 + 1))) ?_
       refine a_move (v := vI _) ?_
       refine RA.nil nofun ?_
       exact AGr.canon id (ih0 _ (by omega) _ ⟨by omega, _, _, _, _, _, H, rfl⟩) ⟨(ownE rfl (by simp)), rfl, rfl, rfl, rfl, trivial⟩ ⟨rfl, trivial⟩ rfl
      ·rw [if_neg hc5] at H
       cases H
     ·rw [if_neg hc4] at H
      cases H
    ·rw [if_neg hc3] at H
     cases H
   ·rw [if_neg hc2] at H
    cases H
  ·rw [if_neg hc1] at H
   refine AG.no rfl (decide_eq_false hc1) ?_
   refine AG.exit ?_
   obtain rfl := Option.some.inj H
   exact RetP.mk (fun κ => cond (Nat.beq κ 0) 0 (κ)) trivial ⟨rfl, trivial⟩ rfl
/-! ### slices_rotateCmpFunc_int__impl_DecreasingBlades_1: function 62 -/
def slices_rotateCmpFunc_int__impl_DecreasingBlades_1.l0 : Nat → List Int → Int → List Int → Int → Int → Option ((List Int))
 | 0, _, _, _, _, _ => none
 | k + 1, x0, x2, x4_0_0, x10, x11 => if x10 = x11 then ((slices_swapRangeCmpFunc_int__impl_DecreasingBlades_1.f k x0 (wrap64 (x2 - x10)) x2 x10 x4_0_0).bind fun t2 => (some t2)) else (if x10 > x11 then ((slices_swapRangeCmpFunc_int__impl_DecreasingBlades_1.f k x0 (wrap64 (x2 - x10)) x2 x11 x4_0_0).bind fun t5 => (slices_rotateCmpFunc_int__impl_DecreasingBlades_1.l0 k t5 x2 x4_0_0 (wrap64 (x10 - x11)) x11)) else ((slices_swapRangeCmpFunc_int__impl_DecreasingBlades_1.f k x0 (wrap64 (x2 - x10)) (wrap64 ((wrap64 (x2 + x11)) - x10)) x10 x4_0_0).bind fun t7 => (slices_rotateCmpFunc_int__impl_DecreasingBlades_1.l0 k t7 x2 x4_0_0 x10 (wrap64 (x11 - x10)))))
def slices_rotateCmpFunc_int__impl_DecreasingBlades_1.f (k : Nat) (l0 : List Int) (a1 : Int) (a2 : Int) (a3 : Int) (v4_0_0 : List Int) : Option ((List Int)) := slices_rotateCmpFunc_int__impl_DecreasingBlades_1.l0 k l0 a2 v4_0_0 (wrap64 (a2 - a1)) (wrap64 (a3 - a2))
set_option maxRecDepth 100000 in
theorem slices_rotateCmpFunc_int__impl_DecreasingBlades_1.ok {k : Nat} {l0 : List Int} {a1 : Int} {a2 : Int} {a3 : Int} {v4_0_0 : List Int} {r : List Int} (H : slices_rotateCmpFunc_int__impl_DecreasingBlades_1.f k l0 a1 a2 a3 v4_0_0 = some r) : OkF Try.prog 62 [.c (.own 0 l0.length), vI a1, vI a2, vI a3, .c (.d (.fn 39 [.ro [.row 2 (v4_0_0.map c2)]]))] [(0, .row 3 (l0.map c3))] (.tup []) [(0, .row 3 (r.map c3))] := by
 unfold slices_rotateCmpFunc_int__impl_DecreasingBlades_1.f at H
 refine OkF.of (N := 58) (rs := []) (avs := []) Try.func62 rfl rfl (fun _ _ => results_none rfl _ _ _) (by decide) rfl rfl rfl rfl (fun w0 S => ?_)
 refine AG.seq ?_
 refine AG.region HM ?_
 refine a_move (v := vI _) ?_
 refine a_move (v := vI _) ?_
 refine a_int (u := .int .i64 (wrap64 (a2 - a1))) ?_
 refine a_move (v := vI _) ?_
 refine RA.nil nofun ?_
 refine AG.seq ?_
 refine AG.region HM ?_
 refine a_move (v := vI _) ?_
 refine a_move (v := vI _) ?_
 refine a_int (u := .int .i64 (wrap64 (a3 - a2))) ?_
 refine a_move (v := vI _) ?_
 refine RA.nil nofun ?_
 refine AG.seq ?_
 refine AG.block ?_
 refine AG.loop ?_
 obtain ⟨K0, hK0, gK0⟩ : ∃ K, k ≤ K ∧ K ≤ k := ⟨k, Nat.le_refl k, Nat.le_refl k⟩
 refine AGr.canon id (AGr.loopI (n := k) (fun k s => k ≤ K0 ∧ ∃ (x0 : List Int) (x2 : Int) (x4_0_0 : List Int) (x10 : Int) (x11 : Int), slices_rotateCmpFunc_int__impl_DecreasingBlades_1.l0 k x0 x2 x4_0_0 x10 x11 = some r ∧ s = St.of [(0, .c (.own 0 x0.length)), (2, vI x2), (4, .c (.d (.fn 39 [.ro [.row 2 (x4_0_0.map c2)]]))), (10, vI x10), (11, vI x11)] [(0, .row 3 (x0.map c3))]) ⟨hK0, _, _, _, _, _, H, rfl⟩ ?_ ?_) ⟨rfl, rfl, rfl, rfl, rfl, trivial⟩ ⟨rfl, trivial⟩ rfl
 ·rintro _ ⟨_, _, _, _, _, _, H, _⟩
  cases H
 ·clear H hK0
  rintro k ih0 _ ⟨hK0, x0, x2, x4_0_0, x10, x11, H, rfl⟩
  unfold slices_rotateCmpFunc_int__impl_DecreasingBlades_1.l0 at H
  refine AG.seq ?_
  refine AG.seq ?_
  refine AG.region HM ?_
  refine a_move (v := vI _) ?_
  refine a_move (v := vI _) ?_
  refine a_int (u := .bool ((x10 != x11))) ?_
  refine RA.nil nofun ?_
  by_cases hc1 : x10 = x11
  ·rw [if_pos hc1] at H
   refine AG.no rfl (bne_eq_false_iff_eq.2 hc1) ?_
   refine AG.exit ?_
   refine AG.region HM ?_
   refine a_move (v := .c (.own _ _)) ?_
   refine a_move (v := vI _) ?_
   refine a_move (v := vI _) ?_
   refine a_int (u := .int .i64 (wrap64 (x2 - x10))) ?_
   refine a_move (v := vI _) ?_
   refine a_move (v := vI _) ?_
   refine a_move (v := .c (.d (.fn _ _))) ?_
   obtain ⟨t2, e3, H⟩ := bindO H
   refine a_callM (v := .tup []) (nk := []) (L := []) (Mk := [(0, _)]) (ck := [(0, .row 3 (t2.map c3))]) ?_ rfl (slices_swapRangeCmpFunc_int__impl_DecreasingBlades_1.ok e3) id id (mcO (mcD (mcD (mcD (mcD m0))))) trivial ⟨rfl, trivial⟩ trivial ⟨rfl, trivial⟩ trivial ⟨rfl, trivial⟩ rfl rfl rfl
   refine RA.nil nofun ?_
   obtain rfl := Option.some.inj H
   exact RetP.mk (fun κ => cond (Nat.beq κ 0) 0 (κ)) trivial ⟨rfl, trivial⟩ rfl
  ·rw [if_neg hc1] at H
   refine AG.yes rfl (bne_iff_ne.2 hc1) ?_
   refine AG.skip ?_
   refine AG.block ?_
   refine AG.seq ?_
   refine AG.region HM ?_
   refine a_move (v := vI _) ?_
   refine a_move (v := vI _) ?_
   refine a_int (u := .bool (decide (x10 > x11))) ?_
   refine RA.nil nofun ?_
   by_cases hc4 : x10 > x11
   ·rw [if_pos hc4] at H
    refine AG.yes rfl (decide_eq_true hc4) ?_
    refine AG.seq ?_
    refine AG.region HM ?_
    refine a_move (v := .c (.own _ _)) ?_
    refine a_move (v := vI _) ?_
    refine a_move (v := vI _) ?_
    refine a_int (u := .int .i64 (wrap64 (x2 - x10))) ?_
    refine a_move (v := vI _) ?_
    refine a_move (v := vI _) ?_
    refine a_move (v := .c (.d (.fn _ _))) ?_
    obtain ⟨t5, e6, H⟩ := bindO H
    refine a_callM (v := .tup []) (nk := []) (L := []) (Mk := [(0, _)]) (ck := [(0, .row 3 (t5.map c3))]) ?_ rfl (slices_swapRangeCmpFunc_int__impl_DecreasingBlades_1.ok e6) id id (mcO (mcD (mcD (mcD (mcD m0))))) trivial ⟨rfl, trivial⟩ trivial ⟨rfl, trivial⟩ trivial ⟨rfl, trivial⟩ rfl rfl rfl
    refine RA.nil nofun ?_
    refine AG.relen 0 t5.length ?_
    refine AG.region HM ?_
    refine a_move (v := vI _) ?_
    refine a_move (v := vI _) ?_
    refine a_int (u := .int .i64 (wrap64 (x10 - x11))) ?_
    refine a_move (v := vI _) ?_
    refine RA.nil nofun ?_
    exact AGr.canon id (ih0 _ (by omega) _ ⟨by omega, _, _, _, _, _, H, rfl⟩) ⟨rfl, rfl, rfl, rfl, rfl, trivial⟩ ⟨rfl, trivial⟩ rfl
   ·rw [if_neg hc4] at H
    refine AG.no rfl (decide_eq_false hc4) ?_
    refine AG.seq ?_
    refine AG.region HM ?_
    refine a_move (v := .c (.own _ _)) ?_
    refine a_move (v := vI _) ?_
    refine a_move (v := vI _) ?_
    refine a_int (u := .int .i64 (wrap64 (x2 - x10))) ?_
    refine a_move (v := vI _) ?_
    refine a_move (v := vI _) ?_
    refine a_int (u := .int .i64 (wrap64 (x2 + x11))) ?_
    refine a_move (v := vI _) ?_
    refine a_int (u := .int .i64 (wrap64 ((wrap64 (x2 + x11)) - x10))) ?_
    refine a_move (v := vI _) ?_
    refine a_move (v := .c (.d (.fn _ _))) ?_
    obtain ⟨t7, e8, H⟩ := bindO H
    refine a_callM (v := .tup []) (nk := []) (L := []) (Mk := [(0, _)]) (ck := [(0, .row 3 (t7.map c3))]) ?_ rfl (slices_swapRangeCmpFunc_int__impl_DecreasingBlades_1.ok e8) id id (mcO (mcD (mcD (mcD (mcD m0))))) trivial ⟨rfl, trivial⟩ trivial ⟨rfl, trivial⟩ trivial ⟨rfl, trivial⟩ rfl rfl rfl
    refine RA.nil nofun ?_
    refine AG.relen 0 t7.length ?_
    refine AG.region HM ?_
    refine a_move (v := vI _) ?_
    refine a_move (v := vI _) ?_
    refine a_int (u := .int .i64 (wrap64 (x11 - x10))) ?_
    refine a_move (v := vI _) ?_
    refine RA.nil nofun ?_
    exact AGr.canon id (ih0 _ (by omega) _ ⟨by omega, _, _, _, _, _, H, rfl⟩) ⟨rfl, rfl, rfl, rfl, rfl, trivial⟩ ⟨rfl, trivial⟩ rfl
/-! ### slices_symMergeCmpFunc_int__impl_DecreasingBlades_1: function 56 -/
mutual
def slices_symMergeCmpFunc_int__impl_DecreasingBlades_1.l0 (F : (List Int) → Int → Int → Int → (List Int) → Option ((List Int))) : Nat → List Int → Int → List Int → Int → Int → Option ((List Int))
 | 0, _, _, _, _, _ => none
 | k + 1, x0, x1, x4_0_0, x10, x11 => if x10 < x11 then (if 0 ≤ (wrap64 (Int.fdiv ((wrap64 (x10 + x11)) % 18446744073709551616) 2)) then (if (wrap64 (Int.fdiv ((wrap64 (x10 + x11)) % 18446744073709551616) 2)) < (x0.length : Int) then (if 0 ≤ x1 then (if x1 < (x0.length : Int) then ((impl_DecreasingBlades_1.f (rd3 x0 (wrap64 (Int.fdiv ((wrap64 (x10 + x11)) % 18446744073709551616) 2))) (rd3 x0 x1) x4_0_0).bind fun t7 => (if t7 < 0 then (slices_symMergeCmpFunc_int__impl_DecreasingBlades_1.l0 F k x0 x1 x4_0_0 (wrap64 ((wrap64 (Int.fdiv ((wrap64 (x10 + x11)) % 18446744073709551616) 2)) + 1)) x11) else (slices_symMergeCmpFunc_int__impl_DecreasingBlades_1.l0 F k x0 x1 x4_0_0 x10 (wrap64 (Int.fdiv ((wrap64 (x10 + x11)) % 18446744073709551616) 2))))) else (none)) else (none)) else (none)) else (none)) else (slices_symMergeCmpFunc_int__impl_DecreasingBlades_1.l1 F k x0 x10 x1)
def slices_symMergeCmpFunc_int__impl_DecreasingBlades_1.l1 (F : (List Int) → Int → Int → Int → (List Int) → Option ((List Int))) : Nat → List Int → Int → Int → Option ((List Int))
 | 0, _, _, _ => none
 | k + 1, x0, x10, x13 => if x13 < (wrap64 (x10 - 1)) then (if 0 ≤ (wrap64 (x13 + 1)) then (if (wrap64 (x13 + 1)) < (x0.length : Int) then (if 0 ≤ x13 then (if x13 < (x0.length : Int) then (slices_symMergeCmpFunc_int__impl_DecreasingBlades_1.l1 F k ((x0.set (x13 : Int).toNat (rd3 x0 (wrap64 (x13 + 1)))).set ((wrap64 (x13 + 1)) : Int).toNat (rd3 x0 x13)) x10 (wrap64 (x13 + 1))) else (none)) else (none)) else (none)) else (none)) else (some x0)
def slices_symMergeCmpFunc_int__impl_DecreasingBlades_1.l2 (F : (List Int) → Int → Int → Int → (List Int) → Option ((List Int))) : Nat → List Int → Int → List Int → Int → Int → Option ((List Int))
 | 0, _, _, _, _, _ => none
 | k + 1, x0, x2, x4_0_0, x14, x15 => if x14 < x15 then (if 0 ≤ x2 then (if x2 < (x0.length : Int) then (if 0 ≤ (wrap64 (Int.fdiv ((wrap64 (x14 + x15)) % 18446744073709551616) 2)) then (if (wrap64 (Int.fdiv ((wrap64 (x14 + x15)) % 18446744073709551616) 2)) < (x0.length : Int) then ((impl_DecreasingBlades_1.f (rd3 x0 x2) (rd3 x0 (wrap64 (Int.fdiv ((wrap64 (x14 + x15)) % 18446744073709551616) 2))) x4_0_0).bind fun t23 => (if t23 < 0 then (slices_symMergeCmpFunc_int__impl_DecreasingBlades_1.l2 F k x0 x2 x4_0_0 x14 (wrap64 (Int.fdiv ((wrap64 (x14 + x15)) % 18446744073709551616) 2))) else (slices_symMergeCmpFunc_int__impl_DecreasingBlades_1.l2 F k x0 x2 x4_0_0 (wrap64 ((wrap64 (Int.fdiv ((wrap64 (x14 + x15)) % 18446744073709551616) 2)) + 1)) x15))) else (none)) else (none)) else (none)) else (none)) else (slices_symMergeCmpFunc_int__impl_DecreasingBlades_1.l3 F k x0 x14 x2)
def slices_symMergeCmpFunc_int__impl_DecreasingBlades_1.l3 (F : (List Int) → Int → Int → Int → (List Int) → Option ((List Int))) : Nat → List Int → Int → Int → Option ((List Int))
 | 0, _, _, _ => none
 | k + 1, x0, x14, x17 => if x17 > x14 then (if 0 ≤ (wrap64 (x17 - 1)) then (if (wrap64 (x17 - 1)) < (x0.length : Int) then (if 0 ≤ x17 then (if x17 < (x0.length : Int) then (slices_symMergeCmpFunc_int__impl_DecreasingBlades_1.l3 F k ((x0.set (x17 : Int).toNat (rd3 x0 (wrap64 (x17 - 1)))).set ((wrap64 (x17 - 1)) : Int).toNat (rd3 x0 x17)) x14 (wrap64 (x17 - 1))) else (none)) else (none)) else (none)) else (none)) else (some x0)
def slices_symMergeCmpFunc_int__impl_DecreasingBlades_1.j0 (F : (List Int) → Int → Int → Int → (List Int) → Option ((List Int))) : Nat → List Int → Int → Int → Int → List Int → Int → Int → Int → Int → Option ((List Int))
 | 0, _, _, _, _, _, _, _, _, _ => none
 | k + 1, x0, x1, x2, x3, x4_0_0, x18, x19, x20, x21 => slices_symMergeCmpFunc_int__impl_DecreasingBlades_1.l4 F k x0 x1 x2 x3 x4_0_0 x18 x19 x20 x21 (wrap64 (x19 - 1))
def slices_symMergeCmpFunc_int__impl_DecreasingBlades_1.l4 (F : (List Int) → Int → Int → Int → (List Int) → Option ((List Int))) : Nat → List Int → Int → Int → Int → List Int → Int → Int → Int → Int → Int → Option ((List Int))
 | 0, _, _, _, _, _, _, _, _, _, _ => none
 | k + 1, x0, x1, x2, x3, x4_0_0, x18, x19, x20, x21, x22 => if x20 < x21 then (if 0 ≤ (wrap64 (x22 - (wrap64 (Int.fdiv ((wrap64 (x20 + x21)) % 18446744073709551616) 2)))) then (if (wrap64 (x22 - (wrap64 (Int.fdiv ((wrap64 (x20 + x21)) % 18446744073709551616) 2)))) < (x0.length : Int) then (if 0 ≤ (wrap64 (Int.fdiv ((wrap64 (x20 + x21)) % 18446744073709551616) 2)) then (if (wrap64 (Int.fdiv ((wrap64 (x20 + x21)) % 18446744073709551616) 2)) < (x0.length : Int) then ((impl_DecreasingBlades_1.f (rd3 x0 (wrap64 (x22 - (wrap64 (Int.fdiv ((wrap64 (x20 + x21)) % 18446744073709551616) 2))))) (rd3 x0 (wrap64 (Int.fdiv ((wrap64 (x20 + x21)) % 18446744073709551616) 2))) x4_0_0).bind fun t39 => (if t39 < 0 then (slices_symMergeCmpFunc_int__impl_DecreasingBlades_1.l4 F k x0 x1 x2 x3 x4_0_0 x18 x19 x20 (wrap64 (Int.fdiv ((wrap64 (x20 + x21)) % 18446744073709551616) 2)) x22) else (slices_symMergeCmpFunc_int__impl_DecreasingBlades_1.l4 F k x0 x1 x2 x3 x4_0_0 x18 x19 (wrap64 ((wrap64 (Int.fdiv ((wrap64 (x20 + x21)) % 18446744073709551616) 2)) + 1)) x21 x22))) else (none)) else (none)) else (none)) else (none)) else (if x20 < x2 then (slices_symMergeCmpFunc_int__impl_DecreasingBlades_1.j1 F k x0 x1 x2 x3 x4_0_0 x18 x20 (wrap64 (x19 - x20)) (decide (x2 < (wrap64 (x19 - x20))))) else (slices_symMergeCmpFunc_int__impl_DecreasingBlades_1.j1 F k x0 x1 x2 x3 x4_0_0 x18 x20 (wrap64 (x19 - x20)) false))
def slices_symMergeCmpFunc_int__impl_DecreasingBlades_1.j1 (F : (List Int) → Int → Int → Int → (List Int) → Option ((List Int))) : Nat → List Int → Int → Int → Int → List Int → Int → Int → Int → Bool → Option ((List Int))
 | 0, _, _, _, _, _, _, _, _, _ => none
 | k + 1, x0, x1, x2, x3, x4_0_0, x18, x20, x24, x185 => if x185 = true then ((slices_rotateCmpFunc_int__impl_DecreasingBlades_1.f k x0 x20 x2 x24 x4_0_0).bind fun t44 => (slices_symMergeCmpFunc_int__impl_DecreasingBlades_1.j2 F k t44 x1 x3 x4_0_0 x18 x20 x24)) else (slices_symMergeCmpFunc_int__impl_DecreasingBlades_1.j2 F k x0 x1 x3 x4_0_0 x18 x20 x24)
def slices_symMergeCmpFunc_int__impl_DecreasingBlades_1.j2 (F : (List Int) → Int → Int → Int → (List Int) → Option ((List Int))) : Nat → List Int → Int → Int → List Int → Int → Int → Int → Option ((List Int))
 | 0, _, _, _, _, _, _, _ => none
 | k + 1, x0, x1, x3, x4_0_0, x18, x20, x24 => if x1 < x20 then (slices_symMergeCmpFunc_int__impl_DecreasingBlades_1.j3 F k x0 x1 x3 x4_0_0 x18 x20 x24 (decide (x20 < x18))) else (slices_symMergeCmpFunc_int__impl_DecreasingBlades_1.j3 F k x0 x1 x3 x4_0_0 x18 x20 x24 false)
def slices_symMergeCmpFunc_int__impl_DecreasingBlades_1.j3 (F : (List Int) → Int → Int → Int → (List Int) → Option ((List Int))) : Nat → List Int → Int → Int → List Int → Int → Int → Int → Bool → Option ((List Int))
 | 0, _, _, _, _, _, _, _, _ => none
 | k + 1, x0, x1, x3, x4_0_0, x18, x20, x24, x199 => if x199 = true then ((F x0 x1 x20 x18 x4_0_0).bind fun t48 => (if x18 < x24 then (if x24 < x3 then ((F t48 x18 x24 x3 x4_0_0).bind fun t52 => (some t52)) else (some t48)) else (some t48))) else (if x18 < x24 then (if x24 < x3 then ((F x0 x18 x24 x3 x4_0_0).bind fun t56 => (some t56)) else (some x0)) else (some x0))
end
def slices_symMergeCmpFunc_int__impl_DecreasingBlades_1.g (F : (List Int) → Int → Int → Int → (List Int) → Option ((List Int))) (k : Nat) (l0 : List Int) (a1 : Int) (a2 : Int) (a3 : Int) (v4_0_0 : List Int) : Option ((List Int)) := if (wrap64 (a2 - a1)) = 1 then (slices_symMergeCmpFunc_int__impl_DecreasingBlades_1.l0 F k l0 a1 v4_0_0 a2 a3) else (if (wrap64 (a3 - a2)) = 1 then (slices_symMergeCmpFunc_int__impl_DecreasingBlades_1.l2 F k l0 a2 v4_0_0 a1 a2) else (if a2 > (wrap64 (Int.fdiv ((wrap64 (a1 + a3)) % 18446744073709551616) 2)) then (slices_symMergeCmpFunc_int__impl_DecreasingBlades_1.j0 F k l0 a1 a2 a3 v4_0_0 (wrap64 (Int.fdiv ((wrap64 (a1 + a3)) % 18446744073709551616) 2)) (wrap64 ((wrap64 (Int.fdiv ((wrap64 (a1 + a3)) % 18446744073709551616) 2)) + a2)) (wrap64 ((wrap64 ((wrap64 (Int.fdiv ((wrap64 (a1 + a3)) % 18446744073709551616) 2)) + a2)) - a3)) (wrap64 (Int.fdiv ((wrap64 (a1 + a3)) % 18446744073709551616) 2))) else (slices_symMergeCmpFunc_int__impl_DecreasingBlades_1.j0 F k l0 a1 a2 a3 v4_0_0 (wrap64 (Int.fdiv ((wrap64 (a1 + a3)) % 18446744073709551616) 2)) (wrap64 ((wrap64 (Int.fdiv ((wrap64 (a1 + a3)) % 18446744073709551616) 2)) + a2)) a1 a2)))
def slices_symMergeCmpFunc_int__impl_DecreasingBlades_1.r : Nat → (List Int) → Int → Int → Int → (List Int) → Option ((List Int))
 | 0, _, _, _, _, _ => none
 | k + 1, l0, a1, a2, a3, v4_0_0 => slices_symMergeCmpFunc_int__impl_DecreasingBlades_1.g (slices_symMergeCmpFunc_int__impl_DecreasingBlades_1.r k) k l0 a1 a2 a3 v4_0_0
def slices_symMergeCmpFunc_int__impl_DecreasingBlades_1.f (k : Nat) (l0 : List Int) (a1 : Int) (a2 : Int) (a3 : Int) (v4_0_0 : List Int) : Option ((List Int)) := slices_symMergeCmpFunc_int__impl_DecreasingBlades_1.r k l0 a1 a2 a3 v4_0_0
set_option maxRecDepth 100000 in
theorem slices_symMergeCmpFunc_int__impl_DecreasingBlades_1.gok {F : (List Int) → Int → Int → Int → (List Int) → Option ((List Int))} (hF : ∀ {l0 : List Int} {a1 : Int} {a2 : Int} {a3 : Int} {v4_0_0 : List Int} {r : List Int}, F l0 a1 a2 a3 v4_0_0 = some r → OkF Try.prog 56 [.c (.own 0 l0.length), vI a1, vI a2, vI a3, .c (.d (.fn 39 [.ro [.row 2 (v4_0_0.map c2)]]))] [(0, .row 3 (l0.map c3))] (.tup []) [(0, .row 3 (r.map c3))]) {k : Nat} {l0 : List Int} {a1 : Int} {a2 : Int} {a3 : Int} {v4_0_0 : List Int} {r : List Int} (H : slices_symMergeCmpFunc_int__impl_DecreasingBlades_1.g F k l0 a1 a2 a3 v4_0_0 = some r) : OkF Try.prog 56 [.c (.own 0 l0.length), vI a1, vI a2, vI a3, .c (.d (.fn 39 [.ro [.row 2 (v4_0_0.map c2)]]))] [(0, .row 3 (l0.map c3))] (.tup []) [(0, .row 3 (r.map c3))] := by
 unfold slices_symMergeCmpFunc_int__impl_DecreasingBlades_1.g at H
 refine OkF.of (N := 220) (rs := []) (avs := []) Try.func56 rfl rfl (fun _ _ => results_none rfl _ _ _) (by decide) rfl rfl rfl rfl (fun w0 S => ?_)
 refine AG.seq ?_
 refine AG.seq ?_
 refine AG.region HM ?_
 refine a_move (v := vI _) ?_
 refine a_move (v := vI _) ?_
 refine a_int (u := .int .i64 (wrap64 (a2 - a1))) ?_
 refine a_int (u := .bool (((wrap64 (a2 - a1)) == 1))) ?_
 refine RA.nil nofun ?_
 by_cases hc1 : (wrap64 (a2 - a1)) = 1
 ·rw [if_pos hc1] at H
  refine AG.yes rfl (beq_iff_eq.2 hc1) ?_
  refine AG.seq ?_
  refine AG.region HM ?_
  refine a_move (v := vI _) ?_
  refine a_move (v := vI _) ?_
  refine RA.nil nofun ?_
  refine AG.seq ?_
  refine AG.region HM ?_
  refine a_move (v := vI _) ?_
  refine a_move (v := vI _) ?_
  refine RA.nil nofun ?_
  refine AG.seq ?_
  refine AG.block ?_
  refine AG.loop ?_
  obtain ⟨K0, hK0, gK0⟩ : ∃ K, k ≤ K ∧ K ≤ k := ⟨k, Nat.le_refl k, Nat.le_refl k⟩
  refine AGr.canon id (AGr.loopI (n := k) (fun k s => k ≤ K0 ∧ ∃ (x0 : List Int) (x1 : Int) (x4_0_0 : List Int) (x10 : Int) (x11 : Int), slices_symMergeCmpFunc_int__impl_DecreasingBlades_1.l0 F k x0 x1 x4_0_0 x10 x11 = some r ∧ s = St.of [(0, .c (.own 0 x0.length)), (1, vI x1), (4, .c (.d (.fn 39 [.ro [.row 2 (x4_0_0.map c2)]]))), (10, vI x10), (11, vI x11)] [(0, .row 3 (x0.map c3))]) ⟨hK0, _, _, _, _, _, H, rfl⟩ ?_ ?_) ⟨rfl, rfl, rfl, rfl, rfl, trivial⟩ ⟨rfl, trivial⟩ rfl
  ·rintro _ ⟨_, _, _, _, _, _, H, _⟩
   cases H
  ·clear H hK0
   rintro k ih0 _ ⟨hK0, x0, x1, x4_0_0, x10, x11, H, rfl⟩
   unfold slices_symMergeCmpFunc_int__impl_DecreasingBlades_1.l0 at H
   refine AG.seq ?_
   refine AG.seq ?_
   refine AG.region HM ?_
   refine a_move (v := vI _) ?_
   refine a_move (v := vI _) ?_
   refine a_int (u := .bool (decide (x10 < x11))) ?_
   refine RA.nil nofun ?_
   by_cases hc2 : x10 < x11
   ·rw [if_pos hc2] at H
    refine AG.yes rfl (decide_eq_true hc2) ?_
    refine AG.skip ?_
    refine AG.block ?_
    refine AG.seq ?_
    refine AG.region HM ?_
    refine a_move (v := vI _) ?_
    refine a_move (v := vI _) ?_
    refine a_int (u := .int .i64 (wrap64 (x10 + x11))) ?_
    refine a_conv (j := (wrap64 (x10 + x11)) % 18446744073709551616) ?_ Try.underlying3 Try.underlying82
    refine a_bin (u := .int .u64 (Int.fdiv ((wrap64 (x10 + x11)) % 18446744073709551616) 2)) ?_ (hp := by exact rfl)
    refine a_conv (j := wrap64 (Int.fdiv ((wrap64 (x10 + x11)) % 18446744073709551616) 2)) ?_ Try.underlying82 Try.underlying3
    refine a_move (v := vI _) ?_
    refine RA.nil nofun ?_
    refine AG.seq ?_
    refine AG.region HM ?_
    refine a_move (v := .c (.d (.fn _ _))) ?_
    refine a_move (v := .c (.own _ _)) ?_
    refine a_move (v := vI _) ?_
    by_cases hc3 : 0 ≤ (wrap64 (Int.fdiv ((wrap64 (x10 + x11)) % 18446744073709551616) 2))
    ·rw [if_pos hc3] at H
     by_cases hc4 : (wrap64 (Int.fdiv ((wrap64 (x10 + x11)) % 18446744073709551616) 2)) < (x0.length : Int)
     ·rw [if_pos hc4] at H
      refine a_ixO ?_ ⟨hc3, hc4⟩ T3 Try.underlying50
      refine a_ldE (v := vI _) ?_ (G3 hc3 hc4) T3
      refine a_move (v := .c (.own _ _)) ?_
      refine a_move (v := vI _) ?_
      by_cases hc5 : 0 ≤ x1
      ·rw [if_pos hc5] at H
       by_cases hc6 : x1 < (x0.length : Int)
       ·rw [if_pos hc6] at H
        refine a_ixO ?_ ⟨hc5, hc6⟩ T3 Try.underlying50
        refine a_ldE (v := vI _) ?_ (G3 hc5 hc6) T3
        obtain ⟨t7, e8, H⟩ := bindO H
        refine a_callW (v := vI t7) (nk := []) (L := []) ?_ rfl rfl (impl_DecreasingBlades_1.ok e8) id (qd (qd qn)) rfl trivial trivial trivial rfl
        refine a_int (u := .bool (decide (t7 < 0))) ?_
        refine RA.nil (fun _ => by kernel_rfl) ?_
        by_cases hc9 : t7 < 0
        ·rw [if_pos hc9] at H
         refine AG.yes rfl (decide_eq_true hc9) ?_
         refine AG.region HM ?_
         refine a_move (v := vI _) ?_
         refine a_int (u := .int .i64 (wrap64 ((wrap64 (Int.fdiv ((wrap64 (x10 + x11)) % 18446744073709551616) 2)) + 1))) ?_
         refine a_move (v := vI _) ?_
         refine RA.nil nofun ?_
         exact AGr.canon id (ih0 _ (by omega) _ ⟨by omega, _, _, _, _, _, H, rfl⟩) ⟨rfl, rfl, rfl, rfl, rfl, trivial⟩ ⟨rfl, trivial⟩ rfl
        ·rw [if_neg hc9] at H
         refine AG.no rfl (decide_eq_false hc9) ?_
         refine AG.region HM ?_
         refine a_move (v := vI _) ?_
         refine a_move (v := vI _) ?_
         refine RA.nil nofun ?_
         exact AGr.canon id (ih0 _ (by omega) _ ⟨by omega, _, _, _, _, _, H, rfl⟩) ⟨rfl, rfl, rfl, rfl, rfl, trivial⟩ ⟨rfl, trivial⟩ rfl
       ·rw [if_neg hc6] at H
        cases H
      ·rw [if_neg hc5] at H
       cases H
     ·rw [if_neg hc4] at H
      cases H
    ·rw [if_neg hc3] at H
     cases H
   ·rw [if_neg hc2] at H
    refine AG.no rfl (decide_eq_false hc2) ?_
    refine AG.exit ?_
    refine AG.seq ?_
    refine AG.seq ?_
    refine AG.region HM ?_
    refine a_move (v := vI _) ?_
    refine a_move (v := vI _) ?_
    refine RA.nil nofun ?_
    refine AG.block ?_
    refine AG.loop ?_
    obtain ⟨K1, hK1, gK1⟩ : ∃ K, k ≤ K ∧ K ≤ k := ⟨k, Nat.le_refl k, Nat.le_refl k⟩
    refine AGr.canon id (AGr.loopI (n := k) (fun k s => k ≤ K1 ∧ ∃ (x0 : List Int) (x10 : Int) (x13 : Int), slices_symMergeCmpFunc_int__impl_DecreasingBlades_1.l1 F k x0 x10 x13 = some r ∧ s = St.of [(0, .c (.own 0 x0.length)), (10, vI x10), (13, vI x13)] [(0, .row 3 (x0.map c3))]) ⟨hK1, _, _, _, H, rfl⟩ ?_ ?_) ⟨rfl, rfl, rfl, trivial⟩ ⟨rfl, trivial⟩ rfl
    ·rintro _ ⟨_, _, _, _, H, _⟩
     cases H
    ·clear H hK1
     rintro k ih1 _ ⟨hK1, x0, x10, x13, H, rfl⟩
     unfold slices_symMergeCmpFunc_int__impl_DecreasingBlades_1.l1 at H
     refine AG.seq ?_
     refine AG.seq ?_
     refine AG.region HM ?_
     refine a_move (v := vI _) ?_
     refine a_move (v := vI _) ?_
     refine a_int (u := .int .i64 (wrap64 (x10 - 1))) ?_
     refine a_int (u := .bool (decide (x13 < (wrap64 (x10 - 1))))) ?_
     refine RA.nil nofun ?_
     by_cases hc10 : x13 < (wrap64 (x10 - 1))
     ·rw [if_pos hc10] at H
      refine AG.yes rfl (decide_eq_true hc10) ?_
      refine AG.skip ?_
      refine AG.seq ?_
      refine AG.block ?_
      refine AG.region HM ?_
      refine a_move (v := .c (.own _ _)) ?_
      refine a_move (v := vI _) ?_
      refine a_move (v := .c (.own _ _)) ?_
      refine a_move (v := vI _) ?_
      refine a_int (u := .int .i64 (wrap64 (x13 + 1))) ?_
      refine a_move (v := .c (.own _ _)) ?_
      refine a_move (v := vI _) ?_
      refine a_int (u := .int .i64 (wrap64 (x13 + 1))) ?_
      by_cases hc11 : 0 ≤ (wrap64 (x13 + 1))
      ·rw [if_pos hc11] at H
       by_cases hc12 : (wrap64 (x13 + 1)) < (x0.length : Int)
       ·rw [if_pos hc12] at H
        refine a_ixO ?_ ⟨hc11, hc12⟩ T3 Try.underlying50
        refine a_ldE (v := vI _) ?_ (G3 hc11 hc12) T3
        refine a_move (v := .c (.own _ _)) ?_
        refine a_move (v := vI _) ?_
        by_cases hc13 : 0 ≤ x13
        ·rw [if_pos hc13] at H
         by_cases hc14 : x13 < (x0.length : Int)
         ·rw [if_pos hc14] at H
          refine a_ixO ?_ ⟨hc13, hc14⟩ T3 Try.underlying50
          refine a_ldE (v := vI _) ?_ (G3 hc13 hc14) T3
          refine a_ixO ?_ ⟨hc13, hc14⟩ T3 Try.underlying50
          refine a_stF (css' := (x0.set (x13 : Int).toNat (rd3 x0 (wrap64 (x13 + 1)))).map c3) ?_ (flat_map (fun _ => rfl)) (G3 hc13 hc14) T3 (hcss := by exact set_map rfl)
          refine a_ixO ?_ ⟨hc11, hc12⟩ T3 Try.underlying50
          refine a_stF (css' := ((x0.set (x13 : Int).toNat (rd3 x0 (wrap64 (x13 + 1)))).set ((wrap64 (x13 + 1)) : Int).toNat (rd3 x0 x13)).map c3) ?_ (flat_map (fun _ => rfl)) (G3 (l := (x0.set (x13 : Int).toNat (rd3 x0 (wrap64 (x13 + 1))))) (i := (wrap64 (x13 + 1))) hc11 (by simpa using hc12)) T3 (hcss := by exact set_map rfl)
          refine RA.nil (fun _ => by kernel_rfl) ?_
          refine AG.region HM ?_
          refine a_move (v := vI _) ?_
          refine a_int (u := .int .i64 (wrap64 (x13 + 1))) ?_
          refine a_move (v := vI _) ?_
          refine RA.nil nofun ?_
          exact AGr.canon id (ih1 _ (by omega) _ ⟨by omega, _, _, _, H, rfl⟩) ⟨(ownE rfl (by simp)), rfl, rfl, trivial⟩ ⟨rfl, trivial⟩ rfl
         ·rw [if_neg hc14] at H
          cases H
        ·rw [if_neg hc13] at H
         cases H
       ·rw [if_neg hc12] at H
        cases H
      ·rw [if_neg hc11] at H
       cases H
     ·rw [if_neg hc10] at H
      refine AG.no rfl (decide_eq_false hc10) ?_
      refine AG.exit ?_
      refine AG.ret ?_
      obtain rfl := Option.some.inj H
      exact RetP.mk (fun κ => cond (Nat.beq κ 0) 0 (κ)) trivial ⟨rfl, trivial⟩ rfl
 ·rw [if_neg hc1] at H
  refine AG.no rfl (beq_eq_false_iff_ne.2 hc1) ?_
  refine AG.skip ?_
  refine AG.seq ?_
  refine AG.seq ?_
  refine AG.region HM ?_
  refine a_move (v := vI _) ?_
  refine a_move (v := vI _) ?_
  refine a_int (u := .int .i64 (wrap64 (a3 - a2))) ?_
  refine a_int (u := .bool (((wrap64 (a3 - a2)) == 1))) ?_
  refine RA.nil nofun ?_
  by_cases hc17 : (wrap64 (a3 - a2)) = 1
  ·rw [if_pos hc17] at H
   refine AG.yes rfl (beq_iff_eq.2 hc17) ?_
   refine AG.seq ?_
   refine AG.region HM ?_
   refine a_move (v := vI _) ?_
   refine a_move (v := vI _) ?_
   refine RA.nil nofun ?_
   refine AG.seq ?_
   refine AG.region HM ?_
   refine a_move (v := vI _) ?_
   refine a_move (v := vI _) ?_
   refine RA.nil nofun ?_
   refine AG.seq ?_
   refine AG.block ?_
   refine AG.loop ?_
   obtain ⟨K2, hK2, gK2⟩ : ∃ K, k ≤ K ∧ K ≤ k := ⟨k, Nat.le_refl k, Nat.le_refl k⟩
   refine AGr.canon id (AGr.loopI (n := k) (fun k s => k ≤ K2 ∧ ∃ (x0 : List Int) (x2 : Int) (x4_0_0 : List Int) (x14 : Int) (x15 : Int), slices_symMergeCmpFunc_int__impl_DecreasingBlades_1.l2 F k x0 x2 x4_0_0 x14 x15 = some r ∧ s = St.of [(0, .c (.own 0 x0.length)), (2, vI x2), (4, .c (.d (.fn 39 [.ro [.row 2 (x4_0_0.map c2)]]))), (14, vI x14), (15, vI x15)] [(0, .row 3 (x0.map c3))]) ⟨hK2, _, _, _, _, _, H, rfl⟩ ?_ ?_) ⟨rfl, rfl, rfl, rfl, rfl, trivial⟩ ⟨rfl, trivial⟩ rfl
   ·rintro _ ⟨_, _, _, _, _, _, H, _⟩
    cases H
   ·clear H hK2
    rintro k ih2 _ ⟨hK2, x0, x2, x4_0_0, x14, x15, H, rfl⟩
    unfold slices_symMergeCmpFunc_int__impl_DecreasingBlades_1.l2 at H
    refine AG.seq ?_
    refine AG.seq ?_
    refine AG.region HM ?_
    refine a_move (v := vI _) ?_
    refine a_move (v := vI _) ?_
    refine a_int (u := .bool (decide (x14 < x15))) ?_
    refine RA.nil nofun ?_
    by_cases hc18 : x14 < x15
    ·rw [if_pos hc18] at H
     refine AG.yes rfl (decide_eq_true hc18) ?_
     refine AG.skip ?_
     refine AG.block ?_
     refine AG.seq ?_
     refine AG.region HM ?_
     refine a_move (v := vI _) ?_
     refine a_move (v := vI _) ?_
     refine a_int (u := .int .i64 (wrap64 (x14 + x15))) ?_
     refine a_conv (j := (wrap64 (x14 + x15)) % 18446744073709551616) ?_ Try.underlying3 Try.underlying82
     refine a_bin (u := .int .u64 (Int.fdiv ((wrap64 (x14 + x15)) % 18446744073709551616) 2)) ?_ (hp := by exact rfl)
     refine a_conv (j := wrap64 (Int.fdiv ((wrap64 (x14 + x15)) % 18446744073709551616) 2)) ?_ Try.underlying82 Try.underlying3
     refine a_move (v := vI _) ?_
     refine RA.nil nofun ?_
     refine AG.seq ?_
     refine AG.region HM ?_
     refine a_move (v := .c (.d (.fn _ _))) ?_
     refine a_move (v := .c (.own _ _)) ?_
     refine a_move (v := vI _) ?_
     by_cases hc19 : 0 ≤ x2
     ·rw [if_pos hc19] at H
      by_cases hc20 : x2 < (x0.length : Int)
      ·rw [if_pos hc20] at H
       refine a_ixO ?_ ⟨hc19, hc20⟩ T3 Try.underlying50
       refine a_ldE (v := vI _) ?_ (G3 hc19 hc20) T3
       refine a_move (v := .c (.own _ _)) ?_
       refine a_move (v := vI _) ?_
       by_cases hc21 : 0 ≤ (wrap64 (Int.fdiv ((wrap64 (x14 + x15)) % 18446744073709551616) 2))
       ·rw [if_pos hc21] at H
        by_cases hc22 : (wrap64 (Int.fdiv ((wrap64 (x14 + x15)) % 18446744073709551616) 2)) < (x0.length : Int)
        ·rw [if_pos hc22] at H
         refine a_ixO ?_ ⟨hc21, hc22⟩ T3 Try.underlying50
         refine a_ldE (v := vI _) ?_ (G3 hc21 hc22) T3
         obtain ⟨t23, e24, H⟩ := bindO H
         refine a_callW (v := vI t23) (nk := []) (L := []) ?_ rfl rfl (impl_DecreasingBlades_1.ok e24) id (qd (qd qn)) rfl trivial trivial trivial rfl
         refine a_int (u := .bool (decide (t23 < 0))) ?_
         refine a_un (u := .bool (!(decide (t23 < 0)))) ?_
         refine RA.nil (fun _ => by kernel_rfl) ?_
         by_cases hc25 : t23 < 0
         ·rw [if_pos hc25] at H
          refine AG.no rfl (congrArg Bool.not (decide_eq_true hc25)) ?_
          refine AG.region HM ?_
          refine a_move (v := vI _) ?_
          refine a_move (v := vI _) ?_
          refine RA.nil nofun ?_
          exact AGr.canon id (ih2 _ (by omega) _ ⟨by omega, _, _, _, _, _, H, rfl⟩) ⟨rfl, rfl, rfl, rfl, rfl, trivial⟩ ⟨rfl, trivial⟩ rfl
         ·rw [if_neg hc25] at H
          refine AG.yes rfl (congrArg Bool.not (decide_eq_false hc25)) ?_
          refine AG.region HM ?_
          refine a_move (v := vI _) ?_
          refine a_int (u := .int .i64 (wrap64 ((wrap64 (Int.fdiv ((wrap64 (x14 + x15)) % 18446744073709551616) 2)) + 1))) ?_
          refine a_move (v := vI _) ?_
          refine RA.nil nofun ?_
          exact AGr.canon id (ih2 _ (by omega) _ ⟨by omega, _, _, _, _, _, H, rfl⟩) ⟨rfl, rfl, rfl, rfl, rfl, trivial⟩ ⟨rfl, trivial⟩ rfl
        ·rw [if_neg hc22] at H
         cases H
       ·rw [if_neg hc21] at H
        cases H
      ·rw [if_neg hc20] at H
       cases H
     ·rw [if_neg hc19] at H
      cases H
    ·rw [if_neg hc18] at H
     refine AG.no rfl (decide_eq_false hc18) ?_
     refine AG.exit ?_
     refine AG.seq ?_
     refine AG.seq ?_
     refine AG.region HM ?_
     refine a_move (v := vI _) ?_
     refine a_move (v := vI _) ?_
     refine RA.nil nofun ?_
     refine AG.block ?_
     refine AG.loop ?_
     obtain ⟨K3, hK3, gK3⟩ : ∃ K, k ≤ K ∧ K ≤ k := ⟨k, Nat.le_refl k, Nat.le_refl k⟩
     refine AGr.canon id (AGr.loopI (n := k) (fun k s => k ≤ K3 ∧ ∃ (x0 : List Int) (x14 : Int) (x17 : Int), slices_symMergeCmpFunc_int__impl_DecreasingBlades_1.l3 F k x0 x14 x17 = some r ∧ s = St.of [(0, .c (.own 0 x0.length)), (14, vI x14), (17, vI x17)] [(0, .row 3 (x0.map c3))]) ⟨hK3, _, _, _, H, rfl⟩ ?_ ?_) ⟨rfl, rfl, rfl, trivial⟩ ⟨rfl, trivial⟩ rfl
     ·rintro _ ⟨_, _, _, _, H, _⟩
      cases H
     ·clear H hK3
      rintro k ih3 _ ⟨hK3, x0, x14, x17, H, rfl⟩
      unfold slices_symMergeCmpFunc_int__impl_DecreasingBlades_1.l3 at H
      refine AG.seq ?_
      refine AG.seq ?_
      refine AG.region HM ?_
      refine a_move (v := vI _) ?_
      refine a_move (v := vI _) ?_
      refine a_int (u := .bool (decide (x17 > x14))) ?_
      refine RA.nil nofun ?_
      by_cases hc26 : x17 > x14
      ·rw [if_pos hc26] at H
       refine AG.yes rfl (decide_eq_true hc26) ?_
       refine AG.skip ?_
       refine AG.seq ?_
       refine AG.block ?_
       refine AG.region HM ?_
       refine a_move (v := .c (.own _ _)) ?_
       refine a_move (v := vI _) ?_
       refine a_move (v := .c (.own _ _)) ?_
       refine a_move (v := vI _) ?_
       refine a_int (u := .int .i64 (wrap64 (x17 - 1))) ?_
       refine a_move (v := .c (.own _ _)) ?_
       refine a_move (v := vI _) ?_
       refine a_int (u := .int .i64 (wrap64 (x17 - 1))) ?_
       by_cases hc27 : 0 ≤ (wrap64 (x17 - 1))
       ·rw [if_pos hc27] at H
        by_cases hc28 : (wrap64 (x17 - 1)) < (x0.length : Int)
        ·rw [if_pos hc28] at H
         refine a_ixO ?_ ⟨hc27, hc28⟩ T3 Try.underlying50
         refine a_ldE (v := vI _) ?_ (G3 hc27 hc28) T3
         refine a_move (v := .c (.own _ _)) ?_
         refine a_move (v := vI _) ?_
         by_cases hc29 : 0 ≤ x17
         ·rw [if_pos hc29] at H
          by_cases hc30 : x17 < (x0.length : Int)
          ·rw [if_pos hc30] at H
           refine a_ixO ?_ ⟨hc29, hc30⟩ T3 Try.underlying50
           refine a_ldE (v := vI _) ?_ (G3 hc29 hc30) T3
           refine a_ixO ?_ ⟨hc29, hc30⟩ T3 Try.underlying50
           refine a_stF (css' := (x0.set (x17 : Int).toNat (rd3 x0 (wrap64 (x17 - 1)))).map c3) ?_ (flat_map (fun _ => rfl)) (G3 hc29 hc30) T3 (hcss := by exact set_map rfl)
           refine a_ixO ?_ ⟨hc27, hc28⟩ T3 Try.underlying50
           refine a_stF (css' := ((x0.set (x17 : Int).toNat (rd3 x0 (wrap64 (x17 - 1)))).set ((wrap64 (x17 - 1)) : Int).toNat (rd3 x0 x17)).map c3) ?_ (flat_map (fun _ => rfl)) (G3 (l := (x0.set (x17 : Int).toNat (rd3 x0 (wrap64 (x17 - 1))))) (i := (wrap64 (x17 - 1))) hc27 (by simpa using hc28)) T3 (hcss := by exact set_map rfl)
           refine RA.nil (fun _ => by kernel_rfl) ?_
           refine AG.region HM ?_
           refine a_move (v := vI _) ?_
           refine a_int (u := .int .i64 (wrap64 (x17 - 1))) ?_
           refine a_move (v := vI _) ?_
           refine RA.nil nofun ?_
           exact AGr.canon id (ih3 _ (by omega) _ ⟨by omega, _, _, _, H, rfl⟩) ⟨(ownE rfl (by simp)), rfl, rfl, trivial⟩ ⟨rfl, trivial⟩ rfl
          ·rw [if_neg hc30] at H
           cases H
         ·rw [if_neg hc29] at H
          cases H
        ·rw [if_neg hc28] at H
         cases H
       ·rw [if_neg hc27] at H
        cases H
      ·rw [if_neg hc26] at H
       refine AG.no rfl (decide_eq_false hc26) ?_
       refine AG.exit ?_
       refine AG.ret ?_
       obtain rfl := Option.some.inj H
       exact RetP.mk (fun κ => cond (Nat.beq κ 0) 0 (κ)) trivial ⟨rfl, trivial⟩ rfl
  ·rw [if_neg hc17] at H
   refine AG.no rfl (beq_eq_false_iff_ne.2 hc17) ?_
   refine AG.skip ?_
   refine AG.seq ?_
   refine AG.region HM ?_
   refine a_move (v := vI _) ?_
   refine a_move (v := vI _) ?_
   refine a_int (u := .int .i64 (wrap64 (a1 + a3))) ?_
   refine a_conv (j := (wrap64 (a1 + a3)) % 18446744073709551616) ?_ Try.underlying3 Try.underlying82
   refine a_bin (u := .int .u64 (Int.fdiv ((wrap64 (a1 + a3)) % 18446744073709551616) 2)) ?_ (hp := by exact rfl)
   refine a_conv (j := wrap64 (Int.fdiv ((wrap64 (a1 + a3)) % 18446744073709551616) 2)) ?_ Try.underlying82 Try.underlying3
   refine a_move (v := vI _) ?_
   refine RA.nil nofun ?_
   refine AG.seq ?_
   refine AG.region HM ?_
   refine a_move (v := vI _) ?_
   refine a_move (v := vI _) ?_
   refine a_int (u := .int .i64 (wrap64 ((wrap64 (Int.fdiv ((wrap64 (a1 + a3)) % 18446744073709551616) 2)) + a2))) ?_
   refine a_move (v := vI _) ?_
   refine RA.nil nofun ?_
   refine AG.seq ?_
   refine AG.region HM ?_
   refine a_move (v := vI _) ?_
   refine a_move (v := vI _) ?_
   refine RA.nil nofun ?_
   refine AG.seq ?_
   refine AG.seq ?_
   refine AG.region HM ?_
   refine a_move (v := vI _) ?_
   refine a_move (v := vI _) ?_
   refine a_int (u := .bool (decide (a2 > (wrap64 (Int.fdiv ((wrap64 (a1 + a3)) % 18446744073709551616) 2))))) ?_
   refine RA.nil nofun ?_
   refine AG.joinR (fun s => ∃ q, q ≤ k ∧ ∃ (x0 : List Int) (x1 : Int) (x2 : Int) (x3 : Int) (x4_0_0 : List Int) (x18 : Int) (x19 : Int) (x20 : Int) (x21 : Int), slices_symMergeCmpFunc_int__impl_DecreasingBlades_1.j0 F q x0 x1 x2 x3 x4_0_0 x18 x19 x20 x21 = some r ∧ s = St.of [(0, .c (.own 0 x0.length)), (1, vI x1), (2, vI x2), (3, vI x3), (4, .c (.d (.fn 39 [.ro [.row 2 (x4_0_0.map c2)]]))), (18, vI x18), (19, vI x19), (20, vI x20), (21, vI x21)] [(0, .row 3 (x0.map c3))]) ?_ ?_
   ·skip
    by_cases hc33 : a2 > (wrap64 (Int.fdiv ((wrap64 (a1 + a3)) % 18446744073709551616) 2))
    ·rw [if_pos hc33] at H
     refine AG.yes rfl (decide_eq_true hc33) ?_
     refine AG.seq ?_
     refine AG.region HM ?_
     refine a_move (v := vI _) ?_
     refine a_move (v := vI _) ?_
     refine a_int (u := .int .i64 (wrap64 ((wrap64 ((wrap64 (Int.fdiv ((wrap64 (a1 + a3)) % 18446744073709551616) 2)) + a2)) - a3))) ?_
     refine a_move (v := vI _) ?_
     refine RA.nil nofun ?_
     refine AG.region HM ?_
     refine a_move (v := vI _) ?_
     refine a_move (v := vI _) ?_
     refine RA.nil nofun ?_
     exact CanR.mk id ⟨_, (by omega), _, _, _, _, _, _, _, _, _, H, rfl⟩ ⟨rfl, rfl, rfl, rfl, rfl, rfl, rfl, rfl, rfl, trivial⟩ ⟨rfl, trivial⟩ rfl
    ·rw [if_neg hc33] at H
     refine AG.no rfl (decide_eq_false hc33) ?_
     refine AG.seq ?_
     refine AG.region HM ?_
     refine a_move (v := vI _) ?_
     refine a_move (v := vI _) ?_
     refine RA.nil nofun ?_
     refine AG.region HM ?_
     refine a_move (v := vI _) ?_
     refine a_move (v := vI _) ?_
     refine RA.nil nofun ?_
     exact CanR.mk id ⟨_, (by omega), _, _, _, _, _, _, _, _, _, H, rfl⟩ ⟨rfl, rfl, rfl, rfl, rfl, rfl, rfl, rfl, rfl, trivial⟩ ⟨rfl, trivial⟩ rfl
   ·clear H
    rintro _ ⟨k, hj0, x0, x1, x2, x3, x4_0_0, x18, x19, x20, x21, H, rfl⟩
    cases k with
    | zero => cases H
    | succ k =>
     rw [slices_symMergeCmpFunc_int__impl_DecreasingBlades_1.j0] at H
     refine AG.seq ?_
     refine AG.region HM ?_
     refine a_move (v := vI _) ?_
     refine a_int (u := .int .i64 (wrap64 (x19 - 1))) ?_
     refine a_move (v := vI _) ?_
     refine RA.nil nofun ?_
     refine AG.seq ?_
     refine AG.block ?_
     refine AG.loop ?_
     obtain ⟨K4, hK4, gK4⟩ : ∃ K, k ≤ K ∧ K ≤ k := ⟨k, Nat.le_refl k, Nat.le_refl k⟩
     refine AGr.canon id (AGr.loopI (n := k) (fun k s => k ≤ K4 ∧ ∃ (x0 : List Int) (x1 : Int) (x2 : Int) (x3 : Int) (x4_0_0 : List Int) (x18 : Int) (x19 : Int) (x20 : Int) (x21 : Int) (x22 : Int), slices_symMergeCmpFunc_int__impl_DecreasingBlades_1.l4 F k x0 x1 x2 x3 x4_0_0 x18 x19 x20 x21 x22 = some r ∧ s = St.of [(0, .c (.own 0 x0.length)), (1, vI x1), (2, vI x2), (3, vI x3), (4, .c (.d (.fn 39 [.ro [.row 2 (x4_0_0.map c2)]]))), (18, vI x18), (19, vI x19), (20, vI x20), (21, vI x21), (22, vI x22)] [(0, .row 3 (x0.map c3))]) ⟨hK4, _, _, _, _, _, _, _, _, _, _, H, rfl⟩ ?_ ?_) ⟨rfl, rfl, rfl, rfl, rfl, rfl, rfl, rfl, rfl, rfl, trivial⟩ ⟨rfl, trivial⟩ rfl
     ·rintro _ ⟨_, _, _, _, _, _, _, _, _, _, _, H, _⟩
      cases H
     ·clear H hK4
      rintro k ih4 _ ⟨hK4, x0, x1, x2, x3, x4_0_0, x18, x19, x20, x21, x22, H, rfl⟩
      unfold slices_symMergeCmpFunc_int__impl_DecreasingBlades_1.l4 at H
      refine AG.seq ?_
      refine AG.seq ?_
      refine AG.region HM ?_
      refine a_move (v := vI _) ?_
      refine a_move (v := vI _) ?_
      refine a_int (u := .bool (decide (x20 < x21))) ?_
      refine RA.nil nofun ?_
      by_cases hc34 : x20 < x21
      ·rw [if_pos hc34] at H
       refine AG.yes rfl (decide_eq_true hc34) ?_
       refine AG.skip ?_
       refine AG.block ?_
       refine AG.seq ?_
       refine AG.region HM ?_
       refine a_move (v := vI _) ?_
       refine a_move (v := vI _) ?_
       refine a_int (u := .int .i64 (wrap64 (x20 + x21))) ?_
       refine a_conv (j := (wrap64 (x20 + x21)) % 18446744073709551616) ?_ Try.underlying3 Try.underlying82
       refine a_bin (u := .int .u64 (Int.fdiv ((wrap64 (x20 + x21)) % 18446744073709551616) 2)) ?_ (hp := by exact rfl)
       refine a_conv (j := wrap64 (Int.fdiv ((wrap64 (x20 + x21)) % 18446744073709551616) 2)) ?_ Try.underlying82 Try.underlying3
       refine a_move (v := vI _) ?_
       refine RA.nil nofun ?_
       refine AG.seq ?_
       refine AG.region HM ?_
       refine a_move (v := .c (.d (.fn _ _))) ?_
       refine a_move (v := .c (.own _ _)) ?_
       refine a_move (v := vI _) ?_
       refine a_move (v := vI _) ?_
       refine a_int (u := .int .i64 (wrap64 (x22 - (wrap64 (Int.fdiv ((wrap64 (x20 + x21)) % 18446744073709551616) 2))))) ?_
       by_cases hc35 : 0 ≤ (wrap64 (x22 - (wrap64 (Int.fdiv ((wrap64 (x20 + x21)) % 18446744073709551616) 2))))
       ·rw [if_pos hc35] at H
        by_cases hc36 : (wrap64 (x22 - (wrap64 (Int.fdiv ((wrap64 (x20 + x21)) % 18446744073709551616) 2)))) < (x0.length : Int)
        ·rw [if_pos hc36] at H
         refine a_ixO ?_ ⟨hc35, hc36⟩ T3 Try.underlying50
         refine a_ldE (v := vI _) ?_ (G3 hc35 hc36) T3
         refine a_move (v := .c (.own _ _)) ?_
         refine a_move (v := vI _) ?_
         by_cases hc37 : 0 ≤ (wrap64 (Int.fdiv ((wrap64 (x20 + x21)) % 18446744073709551616) 2))
         ·rw [if_pos hc37] at H
          by_cases hc38 : (wrap64 (Int.fdiv ((wrap64 (x20 + x21)) % 18446744073709551616) 2)) < (x0.length : Int)
          ·rw [if_pos hc38] at H
           refine a_ixO ?_ ⟨hc37, hc38⟩ T3 Try.underlying50
           refine a_ldE (v := vI _) ?_ (G3 hc37 hc38) T3
           obtain ⟨t39, e40, H⟩ := bindO H
           refine a_callW (v := vI t39) (nk := []) (L := []) ?_ rfl rfl (impl_DecreasingBlades_1.ok e40) id (qd (qd qn)) rfl trivial trivial trivial rfl
           refine a_int (u := .bool (decide (t39 < 0))) ?_
           refine a_un (u := .bool (!(decide (t39 < 0)))) ?_
           refine RA.nil (fun _ => by kernel_rfl) ?_
           by_cases hc41 : t39 < 0
           ·rw [if_pos hc41] at H
            refine AG.no rfl (congrArg Bool.not (decide_eq_true hc41)) ?_
            refine AG.region HM ?_
            refine a_move (v := vI _) ?_
            refine a_move (v := vI _) ?_
            refine RA.nil nofun ?_
            exact AGr.canon id (ih4 _ (by omega) _ ⟨by omega, _, _, _, _, _, _, _, _, _, _, H, rfl⟩) ⟨rfl, rfl, rfl, rfl, rfl, rfl, rfl, rfl, rfl, rfl, trivial⟩ ⟨rfl, trivial⟩ rfl
           ·rw [if_neg hc41] at H
            refine AG.yes rfl (congrArg Bool.not (decide_eq_false hc41)) ?_
            refine AG.region HM ?_
            refine a_move (v := vI _) ?_
            refine a_int (u := .int .i64 (wrap64 ((wrap64 (Int.fdiv ((wrap64 (x20 + x21)) % 18446744073709551616) 2)) + 1))) ?_
            refine a_move (v := vI _) ?_
            refine RA.nil nofun ?_
            exact AGr.canon id (ih4 _ (by omega) _ ⟨by omega, _, _, _, _, _, _, _, _, _, _, H, rfl⟩) ⟨rfl, rfl, rfl, rfl, rfl, rfl, rfl, rfl, rfl, rfl, trivial⟩ ⟨rfl, trivial⟩ rfl
          ·rw [if_neg hc38] at H
           cases H
         ·rw [if_neg hc37] at H
          cases H
        ·rw [if_neg hc36] at H
         cases H
       ·rw [if_neg hc35] at H
        cases H
      ·rw [if_neg hc34] at H
       refine AG.no rfl (decide_eq_false hc34) ?_
       refine AG.exit ?_
       refine AG.seq ?_
       refine AG.region HM ?_
       refine a_move (v := vI _) ?_
       refine a_move (v := vI _) ?_
       refine a_int (u := .int .i64 (wrap64 (x19 - x20))) ?_
       refine a_move (v := vI _) ?_
       refine RA.nil nofun ?_
       refine AG.seq ?_
       refine AG.seq ?_
       refine AG.joinR (fun s => ∃ q, q ≤ k ∧ ∃ (x0 : List Int) (x1 : Int) (x2 : Int) (x3 : Int) (x4_0_0 : List Int) (x18 : Int) (x20 : Int) (x24 : Int) (x185 : Bool), slices_symMergeCmpFunc_int__impl_DecreasingBlades_1.j1 F q x0 x1 x2 x3 x4_0_0 x18 x20 x24 x185 = some r ∧ s = St.of [(0, .c (.own 0 x0.length)), (1, vI x1), (2, vI x2), (3, vI x3), (4, .c (.d (.fn 39 [.ro [.row 2 (x4_0_0.map c2)]]))), (18, vI x18), (20, vI x20), (24, vI x24), (185, vB x185)] [(0, .row 3 (x0.map c3))]) ?_ ?_
       ·skip
        refine AG.region HM ?_
        refine a_move (v := vI _) ?_
        refine a_move (v := vI _) ?_
        refine a_int (u := .bool (decide (x20 < x2))) ?_
        refine a_move (v := vB _) ?_
        by_cases hc42 : x20 < x2
        ·rw [if_pos hc42] at H
         refine a_move (v := vI _) ?_ (hg := Gs.yes rfl rfl rfl (decide_eq_true hc42))
         refine a_move (v := vI _) ?_ (hg := Gs.yes rfl rfl rfl (decide_eq_true hc42))
         refine a_int (u := .bool (decide (x2 < (wrap64 (x19 - x20))))) ?_ (hg := Gs.yes rfl rfl rfl (decide_eq_true hc42))
         refine a_pick (b := true) (v := vB _) ?_ (decide_eq_true hc42)
         refine RA.nil nofun ?_
         exact CanR.mk id ⟨_, (by omega), _, _, _, _, _, _, _, _, _, H, rfl⟩ ⟨rfl, rfl, rfl, rfl, rfl, rfl, rfl, rfl, rfl, trivial⟩ ⟨rfl, trivial⟩ rfl
        ·rw [if_neg hc42] at H
         refine RA.skip rfl rfl rfl rfl rfl (decide_eq_false hc42) (by decide) ?_
         refine RA.skip rfl rfl rfl rfl rfl (decide_eq_false hc42) (by decide) ?_
         refine RA.skip rfl rfl rfl rfl rfl (decide_eq_false hc42) (by decide) ?_
         refine a_pick (b := false) (v := vB _) ?_ (decide_eq_false hc42)
         refine RA.nil nofun ?_
         exact CanR.mk id ⟨_, (by omega), _, _, _, _, _, _, _, _, _, H, rfl⟩ ⟨rfl, rfl, rfl, rfl, rfl, rfl, rfl, rfl, rfl, trivial⟩ ⟨rfl, trivial⟩ rfl
       ·clear H
        rintro _ ⟨k, hj1, x0, x1, x2, x3, x4_0_0, x18, x20, x24, x185, H, rfl⟩
        cases k with
        | zero => cases H
        | succ k =>
         rw [slices_symMergeCmpFunc_int__impl_DecreasingBlades_1.j1] at H
         refine AG.joinR (fun s => ∃ q, q ≤ k ∧ ∃ (x0 : List Int) (x1 : Int) (x3 : Int) (x4_0_0 : List Int) (x18 : Int) (x20 : Int) (x24 : Int), slices_symMergeCmpFunc_int__impl_DecreasingBlades_1.j2 F q x0 x1 x3 x4_0_0 x18 x20 x24 = some r ∧ s = St.of [(0, .c (.own 0 x0.length)), (1, vI x1), (3, vI x3), (4, .c (.d (.fn 39 [.ro [.row 2 (x4_0_0.map c2)]]))), (18, vI x18), (20, vI x20), (24, vI x24)] [(0, .row 3 (x0.map c3))]) ?_ ?_
         ·skip
          by_cases hc43 : x185 = true
          ·rw [if_pos hc43] at H
           refine AG.yes rfl hc43 ?_
           refine AG.region HM ?_
           refine a_move (v := .c (.own _ _)) ?_
           refine a_move (v := vI _) ?_
           refine a_move (v := vI _) ?_
           refine a_move (v := vI _) ?_
           refine a_move (v := .c (.d (.fn _ _))) ?_
           obtain ⟨t44, e45, H⟩ := bindO H
           refine a_callM (v := .tup []) (nk := []) (L := []) (Mk := [(0, _)]) (ck := [(0, .row 3 (t44.map c3))]) ?_ rfl (slices_rotateCmpFunc_int__impl_DecreasingBlades_1.ok e45) id id (mcO (mcD (mcD (mcD (mcD m0))))) trivial ⟨rfl, trivial⟩ trivial ⟨rfl, trivial⟩ trivial ⟨rfl, trivial⟩ rfl rfl rfl
           refine RA.nil nofun ?_
           refine CanR.rl 0 t44.length ?_
           exact CanR.mk id ⟨_, (by omega), _, _, _, _, _, _, _, H, rfl⟩ ⟨rfl, rfl, rfl, rfl, rfl, rfl, rfl, trivial⟩ ⟨rfl, trivial⟩ rfl
          ·rw [if_neg hc43] at H
           refine AG.no rfl (Bool.eq_false_iff.2 hc43) ?_
           refine AG.skip ?_
           exact CanR.mk id ⟨_, (by omega), _, _, _, _, _, _, _, H, rfl⟩ ⟨rfl, rfl, rfl, rfl, rfl, rfl, rfl, trivial⟩ ⟨rfl, trivial⟩ rfl
         ·clear H
          rintro _ ⟨k, hj2, x0, x1, x3, x4_0_0, x18, x20, x24, H, rfl⟩
          cases k with
          | zero => cases H
          | succ k =>
           rw [slices_symMergeCmpFunc_int__impl_DecreasingBlades_1.j2] at H
           refine AG.seq ?_
           refine AG.seq ?_
           refine AG.joinR (fun s => ∃ q, q ≤ k ∧ ∃ (x0 : List Int) (x1 : Int) (x3 : Int) (x4_0_0 : List Int) (x18 : Int) (x20 : Int) (x24 : Int) (x199 : Bool), slices_symMergeCmpFunc_int__impl_DecreasingBlades_1.j3 F q x0 x1 x3 x4_0_0 x18 x20 x24 x199 = some r ∧ s = St.of [(0, .c (.own 0 x0.length)), (1, vI x1), (3, vI x3), (4, .c (.d (.fn 39 [.ro [.row 2 (x4_0_0.map c2)]]))), (18, vI x18), (20, vI x20), (24, vI x24), (199, vB x199)] [(0, .row 3 (x0.map c3))]) ?_ ?_
           ·skip
            refine AG.region HM ?_
            refine a_move (v := vI _) ?_
            refine a_move (v := vI _) ?_
            refine a_int (u := .bool (decide (x1 < x20))) ?_
            refine a_move (v := vB _) ?_
            by_cases hc46 : x1 < x20
            ·rw [if_pos hc46] at H
             refine a_move (v := vI _) ?_ (hg := Gs.yes rfl rfl rfl (decide_eq_true hc46))
             refine a_move (v := vI _) ?_ (hg := Gs.yes rfl rfl rfl (decide_eq_true hc46))
             refine a_int (u := .bool (decide (x20 < x18))) ?_ (hg := Gs.yes rfl rfl rfl (decide_eq_true hc46))
             refine a_pick (b := true) (v := vB _) ?_ (decide_eq_true hc46)
             refine RA.nil nofun ?_
             exact CanR.mk id ⟨_, (by omega), _, _, _, _, _, _, _, _, H, rfl⟩ ⟨rfl, rfl, rfl, rfl, rfl, rfl, rfl, rfl, trivial⟩ ⟨rfl, trivial⟩ rfl
            ·rw [if_neg hc46] at H
             refine RA.skip rfl rfl rfl rfl rfl (decide_eq_false hc46) (by decide) ?_
             refine RA.skip rfl rfl rfl rfl rfl (decide_eq_false hc46) (by decide) ?_
             refine RA.skip rfl rfl rfl rfl rfl (decide_eq_false hc46) (by decide) ?_
             refine a_pick (b := false) (v := vB _) ?_ (decide_eq_false hc46)
             refine RA.nil nofun ?_
             exact CanR.mk id ⟨_, (by omega), _, _, _, _, _, _, _, _, H, rfl⟩ ⟨rfl, rfl, rfl, rfl, rfl, rfl, rfl, rfl, trivial⟩ ⟨rfl, trivial⟩ rfl
           ·clear H
            rintro _ ⟨k, hj3, x0, x1, x3, x4_0_0, x18, x20, x24, x199, H, rfl⟩
            cases k with
            | zero => cases H
            | succ k =>
             rw [slices_symMergeCmpFunc_int__impl_DecreasingBlades_1.j3] at H
             by_cases hc47 : x199 = true
             ·rw [if_pos hc47] at H
              refine AG.yes rfl hc47 ?_
              refine AG.region HM ?_
              refine a_move (v := .c (.own _ _)) ?_
              refine a_move (v := vI _) ?_
              refine a_move (v := vI _) ?_
              refine a_move (v := vI _) ?_
              refine a_move (v := .c (.d (.fn _ _))) ?_
              obtain ⟨t48, e49, H⟩ := bindO H
              refine a_callM (v := .tup []) (nk := []) (L := []) (Mk := [(0, _)]) (ck := [(0, .row 3 (t48.map c3))]) ?_ rfl (hF e49) id id (mcO (mcD (mcD (mcD (mcD m0))))) trivial ⟨rfl, trivial⟩ trivial ⟨rfl, trivial⟩ trivial ⟨rfl, trivial⟩ rfl rfl rfl
              refine RA.nil nofun ?_
              refine AG.relen 0 t48.length ?_
              refine AG.seq ?_
              refine AG.region HM ?_
              refine a_move (v := vI _) ?_
              refine a_move (v := vI _) ?_
              refine a_int (u := .bool (decide (x18 < x24))) ?_
              refine a_move (v := vB _) ?_
              by_cases hc50 : x18 < x24
              ·rw [if_pos hc50] at H
               refine a_move (v := vI _) ?_ (hg := Gs.yes rfl rfl rfl (decide_eq_true hc50))
               refine a_move (v := vI _) ?_ (hg := Gs.yes rfl rfl rfl (decide_eq_true hc50))
               refine a_int (u := .bool (decide (x24 < x3))) ?_ (hg := Gs.yes rfl rfl rfl (decide_eq_true hc50))
               refine a_pick (b := true) (v := vB _) ?_ (decide_eq_true hc50)
               refine RA.nil nofun ?_
               by_cases hc51 : x24 < x3
               ·rw [if_pos hc51] at H
                refine AG.yes rfl (decide_eq_true hc51) ?_
                refine AG.region HM ?_
                refine a_move (v := .c (.own _ _)) ?_
                refine a_move (v := vI _) ?_
                refine a_move (v := vI _) ?_
                refine a_move (v := vI _) ?_
                refine a_move (v := .c (.d (.fn _ _))) ?_
                obtain ⟨t52, e53, H⟩ := bindO H
                refine a_callM (v := .tup []) (nk := []) (L := []) (Mk := [(0, _)]) (ck := [(0, .row 3 (t52.map c3))]) ?_ rfl (hF e53) id id (mcO (mcD (mcD (mcD (mcD m0))))) trivial ⟨rfl, trivial⟩ trivial ⟨rfl, trivial⟩ trivial ⟨rfl, trivial⟩ rfl rfl rfl
                refine RA.nil nofun ?_
                obtain rfl := Option.some.inj H
                exact RetP.mk (fun κ => cond (Nat.beq κ 0) 0 (κ)) trivial ⟨rfl, trivial⟩ rfl
               ·rw [if_neg hc51] at H
                refine AG.no rfl (decide_eq_false hc51) ?_
                refine AG.skip ?_
                obtain rfl := Option.some.inj H
                exact RetP.mk (fun κ => cond (Nat.beq κ 0) 0 (κ)) trivial ⟨rfl, trivial⟩ rfl
              ·rw [if_neg hc50] at H
               refine RA.skip rfl rfl rfl rfl rfl (decide_eq_false hc50) (by decide) ?_
               refine RA.skip rfl rfl rfl rfl rfl (decide_eq_false hc50) (by decide) ?_
               refine RA.skip rfl rfl rfl rfl rfl (decide_eq_false hc50) (by decide) ?_
               refine a_pick (b := false) (v := vB _) ?_ (decide_eq_false hc50)
               refine RA.nil nofun ?_
               refine AG.no rfl rfl ?_
               refine AG.skip ?_
               obtain rfl := Option.some.inj H
               exact RetP.mk (fun κ => cond (Nat.beq κ 0) 0 (κ)) trivial ⟨rfl, trivial⟩ rfl
             ·rw [if_neg hc47] at H
              refine AG.no rfl (Bool.eq_false_iff.2 hc47) ?_
              refine AG.skip ?_
              refine AG.seq ?_
              refine AG.region HM ?_
              refine a_move (v := vI _) ?_
              refine a_move (v := vI _) ?_
              refine a_int (u := .bool (decide (x18 < x24))) ?_
              refine a_move (v := vB _) ?_
              by_cases hc54 : x18 < x24
              ·rw [if_pos hc54] at H
               refine a_move (v := vI _) ?_ (hg := Gs.yes rfl rfl rfl (decide_eq_true hc54))
               refine a_move (v := vI _) ?_ (hg := Gs.yes rfl rfl rfl (decide_eq_true hc54))
               refine a_int (u := .bool (decide (x24 < x3))) ?_ (hg := Gs.yes rfl rfl rfl (decide_eq_true hc54))
               refine a_pick (b := true) (v := vB _) ?_ (decide_eq_true hc54)
               refine RA.nil nofun ?_
               by_cases hc55 : x24 < x3
               ·rw [if_pos hc55] at H
                refine AG.yes rfl (decide_eq_true hc55) ?_
                refine AG.region HM ?_
                refine a_move (v := .c (.own _ _)) ?_
                refine a_move (v := vI _) ?_
                refine a_move (v := vI _) ?_
                refine a_move (v := vI _) ?_
                refine a_move (v := .c (.d (.fn _ _))) ?_
                obtain ⟨t56, e57, H⟩ := bindO H
                refine a_callM (v := .tup []) (nk := []) (L := []) (Mk := [(0, _)]) (ck := [(0, .row 3 (t56.map c3))]) ?_ rfl (hF e57) id id (mcO (mcD (mcD (mcD (mcD m0))))) trivial ⟨rfl, trivial⟩ trivial ⟨rfl, trivial⟩ trivial ⟨rfl, trivial⟩ rfl rfl rfl
                refine RA.nil nofun ?_
                obtain rfl := Option.some.inj H
                exact RetP.mk (fun κ => cond (Nat.beq κ 0) 0 (κ)) trivial ⟨rfl, trivial⟩ rfl
               ·rw [if_neg hc55] at H
                refine AG.no rfl (decide_eq_false hc55) ?_
                refine AG.skip ?_
                obtain rfl := Option.some.inj H
                exact RetP.mk (fun κ => cond (Nat.beq κ 0) 0 (κ)) trivial ⟨rfl, trivial⟩ rfl
              ·rw [if_neg hc54] at H
               refine RA.skip rfl rfl rfl rfl rfl (decide_eq_false hc54) (by decide) ?_
               refine RA.skip rfl rfl rfl rfl rfl (decide_eq_false hc54) (by decide) ?_
               refine RA.skip rfl rfl rfl rfl rfl (decide_eq_false hc54) (by decide) ?_
               refine a_pick (b := false) (v := vB _) ?_ (decide_eq_false hc54)
               refine RA.nil nofun ?_
               refine AG.no rfl rfl ?_
               refine AG.skip ?_
               obtain rfl := Option.some.inj H
               exact RetP.mk (fun κ => cond (Nat.beq κ 0) 0 (κ)) trivial ⟨rfl, trivial⟩ rfl
theorem slices_symMergeCmpFunc_int__impl_DecreasingBlades_1.rok : ∀ (k : Nat) {l0 : List Int} {a1 : Int} {a2 : Int} {a3 : Int} {v4_0_0 : List Int} {r : List Int}, slices_symMergeCmpFunc_int__impl_DecreasingBlades_1.r k l0 a1 a2 a3 v4_0_0 = some r → OkF Try.prog 56 [.c (.own 0 l0.length), vI a1, vI a2, vI a3, .c (.d (.fn 39 [.ro [.row 2 (v4_0_0.map c2)]]))] [(0, .row 3 (l0.map c3))] (.tup []) [(0, .row 3 (r.map c3))]
 | 0, _, _, _, _, _, _, H => by simp [slices_symMergeCmpFunc_int__impl_DecreasingBlades_1.r] at H
 | k + 1, _, _, _, _, _, _, H => slices_symMergeCmpFunc_int__impl_DecreasingBlades_1.gok (fun h => slices_symMergeCmpFunc_int__impl_DecreasingBlades_1.rok k h) (by rw [slices_symMergeCmpFunc_int__impl_DecreasingBlades_1.r] at H; exact H)
theorem slices_symMergeCmpFunc_int__impl_DecreasingBlades_1.ok {k : Nat} {l0 : List Int} {a1 : Int} {a2 : Int} {a3 : Int} {v4_0_0 : List Int} {r : List Int} (H : slices_symMergeCmpFunc_int__impl_DecreasingBlades_1.f k l0 a1 a2 a3 v4_0_0 = some r) : OkF Try.prog 56 [.c (.own 0 l0.length), vI a1, vI a2, vI a3, .c (.d (.fn 39 [.ro [.row 2 (v4_0_0.map c2)]]))] [(0, .row 3 (l0.map c3))] (.tup []) [(0, .row 3 (r.map c3))] := slices_symMergeCmpFunc_int__impl_DecreasingBlades_1.rok k H
/-! ### slices_stableCmpFunc_int__impl_DecreasingBlades_1: function 47 -/
mutual
def slices_stableCmpFunc_int__impl_DecreasingBlades_1.l0 : Nat → List Int → Int → List Int → Int → Int → Int → Option ((List Int))
 | 0, _, _, _, _, _, _ => none
 | k + 1, x0, x1, x2_0_0, x6, x7, x8 => if x8 ≤ x1 then ((slices_insertionSortCmpFunc_int__impl_DecreasingBlades_1.f k x0 x7 x8 x2_0_0).bind fun t2 => (slices_stableCmpFunc_int__impl_DecreasingBlades_1.l0 k t2 x1 x2_0_0 x6 x8 (wrap64 (x8 + x6)))) else ((slices_insertionSortCmpFunc_int__impl_DecreasingBlades_1.f k x0 x7 x1 x2_0_0).bind fun t4 => (slices_stableCmpFunc_int__impl_DecreasingBlades_1.l1 k t4 x1 x2_0_0 x6))
def slices_stableCmpFunc_int__impl_DecreasingBlades_1.l1 : Nat → List Int → Int → List Int → Int → Option ((List Int))
 | 0, _, _, _, _ => none
 | k + 1, x0, x1, x2_0_0, x6 => if x6 < x1 then (slices_stableCmpFunc_int__impl_DecreasingBlades_1.l2 k x0 x1 x2_0_0 x6 0 (wrap64 (2 * x6))) else (some x0)
def slices_stableCmpFunc_int__impl_DecreasingBlades_1.l2 : Nat → List Int → Int → List Int → Int → Int → Int → Option ((List Int))
 | 0, _, _, _, _, _, _ => none
 | k + 1, x0, x1, x2_0_0, x6, x7, x8 => if x8 ≤ x1 then ((slices_symMergeCmpFunc_int__impl_DecreasingBlades_1.f k x0 x7 (wrap64 (x7 + x6)) x8 x2_0_0).bind fun t8 => (slices_stableCmpFunc_int__impl_DecreasingBlades_1.l2 k t8 x1 x2_0_0 x6 x8 (wrap64 (x8 + (wrap64 (2 * x6)))))) else (if (wrap64 (x7 + x6)) < x1 then ((slices_symMergeCmpFunc_int__impl_DecreasingBlades_1.f k x0 x7 (wrap64 (x7 + x6)) x1 x2_0_0).bind fun t11 => (slices_stableCmpFunc_int__impl_DecreasingBlades_1.l1 k t11 x1 x2_0_0 (wrap64 (x6 * 2)))) else (slices_stableCmpFunc_int__impl_DecreasingBlades_1.l1 k x0 x1 x2_0_0 (wrap64 (x6 * 2))))
end
def slices_stableCmpFunc_int__impl_DecreasingBlades_1.f (k : Nat) (l0 : List Int) (a1 : Int) (v2_0_0 : List Int) : Option ((List Int)) := slices_stableCmpFunc_int__impl_DecreasingBlades_1.l0 k l0 a1 v2_0_0 20 0 20
set_option maxRecDepth 100000 in
theorem slices_stableCmpFunc_int__impl_DecreasingBlades_1.ok {k : Nat} {l0 : List Int} {a1 : Int} {v2_0_0 : List Int} {r : List Int} (H : slices_stableCmpFunc_int__impl_DecreasingBlades_1.f k l0 a1 v2_0_0 = some r) : OkF Try.prog 47 [.c (.own 0 l0.length), vI a1, .c (.d (.fn 39 [.ro [.row 2 (v2_0_0.map c2)]]))] [(0, .row 3 (l0.map c3))] (.tup []) [(0, .row 3 (r.map c3))] := by
 unfold slices_stableCmpFunc_int__impl_DecreasingBlades_1.f at H
 refine OkF.of (N := 63) (rs := []) (avs := []) Try.func47 rfl rfl (fun _ _ => results_none rfl _ _ _) (by decide) rfl rfl rfl rfl (fun w0 S => ?_)
 refine AG.seq ?_
 refine AG.region HM ?_
 refine a_move (v := vI _) ?_
 refine RA.nil nofun ?_
 refine AG.seq ?_
 refine AG.region HM ?_
 refine a_move (v := vI _) ?_
 refine a_move (v := vI _) ?_
 refine a_move (v := vI _) ?_
 refine RA.nil nofun ?_
 refine AG.seq ?_
 refine AG.block ?_
 refine AG.loop ?_
 obtain ⟨K0, hK0, gK0⟩ : ∃ K, k ≤ K ∧ K ≤ k := ⟨k, Nat.le_refl k, Nat.le_refl k⟩
 refine AGr.canon id (AGr.loopI (n := k) (fun k s => k ≤ K0 ∧ ∃ (x0 : List Int) (x1 : Int) (x2_0_0 : List Int) (x6 : Int) (x7 : Int) (x8 : Int), slices_stableCmpFunc_int__impl_DecreasingBlades_1.l0 k x0 x1 x2_0_0 x6 x7 x8 = some r ∧ s = St.of [(0, .c (.own 0 x0.length)), (1, vI x1), (2, .c (.d (.fn 39 [.ro [.row 2 (x2_0_0.map c2)]]))), (6, vI x6), (7, vI x7), (8, vI x8)] [(0, .row 3 (x0.map c3))]) ⟨hK0, _, _, _, _, _, _, H, rfl⟩ ?_ ?_) ⟨rfl, rfl, rfl, rfl, rfl, rfl, trivial⟩ ⟨rfl, trivial⟩ rfl
 ·rintro _ ⟨_, _, _, _, _, _, _, H, _⟩
  cases H
 ·clear H hK0
  rintro k ih0 _ ⟨hK0, x0, x1, x2_0_0, x6, x7, x8, H, rfl⟩
  unfold slices_stableCmpFunc_int__impl_DecreasingBlades_1.l0 at H
  refine AG.seq ?_
  refine AG.seq ?_
  refine AG.region HM ?_
  refine a_move (v := vI _) ?_
  refine a_move (v := vI _) ?_
  refine a_int (u := .bool (decide (x8 ≤ x1))) ?_
  refine RA.nil nofun ?_
  by_cases hc1 : x8 ≤ x1
  ·rw [if_pos hc1] at H
   refine AG.yes rfl (decide_eq_true hc1) ?_
   refine AG.skip ?_
   refine AG.block ?_
   refine AG.seq ?_
   refine AG.region HM ?_
   refine a_move (v := .c (.own _ _)) ?_
   refine a_move (v := vI _) ?_
   refine a_move (v := vI _) ?_
   refine a_move (v := .c (.d (.fn _ _))) ?_
   obtain ⟨t2, e3, H⟩ := bindO H
   refine a_callM (v := .tup []) (nk := []) (L := []) (Mk := [(0, _)]) (ck := [(0, .row 3 (t2.map c3))]) ?_ rfl (slices_insertionSortCmpFunc_int__impl_DecreasingBlades_1.ok e3) id id (mcO (mcD (mcD (mcD m0)))) trivial ⟨rfl, trivial⟩ trivial ⟨rfl, trivial⟩ trivial ⟨rfl, trivial⟩ rfl rfl rfl
   refine RA.nil nofun ?_
   refine AG.relen 0 t2.length ?_
   refine AG.seq ?_
   refine AG.region HM ?_
   refine a_move (v := vI _) ?_
   refine a_move (v := vI _) ?_
   refine RA.nil nofun ?_
   refine AG.region HM ?_
   refine a_move (v := vI _) ?_
   refine a_move (v := vI _) ?_
   refine a_int (u := .int .i64 (wrap64 (x8 + x6))) ?_
   refine a_move (v := vI _) ?_
   refine RA.nil nofun ?_
   exact AGr.canon id (ih0 _ (by omega) _ ⟨by omega, _, _, _, _, _, _, H, rfl⟩) ⟨rfl, rfl, rfl, rfl, rfl, rfl, trivial⟩ ⟨rfl, trivial⟩ rfl
  ·rw [if_neg hc1] at H
   refine AG.no rfl (decide_eq_false hc1) ?_
   refine AG.exit ?_
   refine AG.seq ?_
   refine AG.region HM ?_
   refine a_move (v := .c (.own _ _)) ?_
   refine a_move (v := vI _) ?_
   refine a_move (v := vI _) ?_
   refine a_move (v := .c (.d (.fn _ _))) ?_
   obtain ⟨t4, e5, H⟩ := bindO H
   refine a_callM (v := .tup []) (nk := []) (L := []) (Mk := [(0, _)]) (ck := [(0, .row 3 (t4.map c3))]) ?_ rfl (slices_insertionSortCmpFunc_int__impl_DecreasingBlades_1.ok e5) id id (mcO (mcD (mcD (mcD m0)))) trivial ⟨rfl, trivial⟩ trivial ⟨rfl, trivial⟩ trivial ⟨rfl, trivial⟩ rfl rfl rfl
   refine RA.nil nofun ?_
   refine AG.relen 0 t4.length ?_
   refine AG.block ?_
   refine AG.loop ?_
   obtain ⟨K1, hK1, gK1⟩ : ∃ K, k ≤ K ∧ K ≤ k := ⟨k, Nat.le_refl k, Nat.le_refl k⟩
   refine AGr.canon id (AGr.loopI (n := k) (fun k s => k ≤ K1 ∧ ∃ (x0 : List Int) (x1 : Int) (x2_0_0 : List Int) (x6 : Int), slices_stableCmpFunc_int__impl_DecreasingBlades_1.l1 k x0 x1 x2_0_0 x6 = some r ∧ s = St.of [(0, .c (.own 0 x0.length)), (1, vI x1), (2, .c (.d (.fn 39 [.ro [.row 2 (x2_0_0.map c2)]]))), (6, vI x6)] [(0, .row 3 (x0.map c3))]) ⟨hK1, _, _, _, _, H, rfl⟩ ?_ ?_) ⟨rfl, rfl, rfl, rfl, trivial⟩ ⟨rfl, trivial⟩ rfl
   ·rintro _ ⟨_, _, _, _, _, H, _⟩
    cases H
   ·clear H hK1
    rintro k ih1 _ ⟨hK1, x0, x1, x2_0_0, x6, H, rfl⟩
    unfold slices_stableCmpFunc_int__impl_DecreasingBlades_1.l1 at H
    refine AG.seq ?_
    refine AG.seq ?_
    refine AG.region HM ?_
    refine a_move (v := vI _) ?_
    refine a_move (v := vI _) ?_
    refine a_int (u := .bool (decide (x6 < x1))) ?_
    refine RA.nil nofun ?_
    by_cases hc6 : x6 < x1
    ·rw [if_pos hc6] at H
     refine AG.yes rfl (decide_eq_true hc6) ?_
     refine AG.skip ?_
     refine AG.block ?_
     refine AG.seq ?_
     refine AG.region HM ?_
     refine a_move (v := vI _) ?_
     refine a_int (u := .int .i64 (wrap64 (2 * x6))) ?_
     refine a_move (v := vI _) ?_
     refine a_move (v := vI _) ?_
     refine RA.nil nofun ?_
     refine AG.seq ?_
     refine AG.block ?_
     refine AG.loop ?_
     obtain ⟨K2, hK2, gK2⟩ : ∃ K, k ≤ K ∧ K ≤ k := ⟨k, Nat.le_refl k, Nat.le_refl k⟩
     refine AGr.canon id (AGr.loopI (n := k) (fun k s => k ≤ K2 ∧ ∃ (x0 : List Int) (x1 : Int) (x2_0_0 : List Int) (x6 : Int) (x7 : Int) (x8 : Int), slices_stableCmpFunc_int__impl_DecreasingBlades_1.l2 k x0 x1 x2_0_0 x6 x7 x8 = some r ∧ s = St.of [(0, .c (.own 0 x0.length)), (1, vI x1), (2, .c (.d (.fn 39 [.ro [.row 2 (x2_0_0.map c2)]]))), (6, vI x6), (7, vI x7), (8, vI x8)] [(0, .row 3 (x0.map c3))]) ⟨hK2, _, _, _, _, _, _, H, rfl⟩ ?_ ?_) ⟨rfl, rfl, rfl, rfl, rfl, rfl, trivial⟩ ⟨rfl, trivial⟩ rfl
     ·rintro _ ⟨_, _, _, _, _, _, _, H, _⟩
      cases H
     ·clear H hK2
      rintro k ih2 _ ⟨hK2, x0, x1, x2_0_0, x6, x7, x8, H, rfl⟩
      unfold slices_stableCmpFunc_int__impl_DecreasingBlades_1.l2 at H
      refine AG.seq ?_
      refine AG.seq ?_
      refine AG.region HM ?_
      refine a_move (v := vI _) ?_
      refine a_move (v := vI _) ?_
      refine a_int (u := .bool (decide (x8 ≤ x1))) ?_
      refine RA.nil nofun ?_
      by_cases hc7 : x8 ≤ x1
      ·rw [if_pos hc7] at H
       refine AG.yes rfl (decide_eq_true hc7) ?_
       refine AG.skip ?_
       refine AG.block ?_
       refine AG.seq ?_
       refine AG.region HM ?_
       refine a_move (v := .c (.own _ _)) ?_
       refine a_move (v := vI _) ?_
       refine a_move (v := vI _) ?_
       refine a_move (v := vI _) ?_
       refine a_int (u := .int .i64 (wrap64 (x7 + x6))) ?_
       refine a_move (v := vI _) ?_
       refine a_move (v := .c (.d (.fn _ _))) ?_
       obtain ⟨t8, e9, H⟩ := bindO H
       refine a_callM (v := .tup []) (nk := []) (L := []) (Mk := [(0, _)]) (ck := [(0, .row 3 (t8.map c3))]) ?_ rfl (slices_symMergeCmpFunc_int__impl_DecreasingBlades_1.ok e9) id id (mcO (mcD (mcD (mcD (mcD m0))))) trivial ⟨rfl, trivial⟩ trivial ⟨rfl, trivial⟩ trivial ⟨rfl, trivial⟩ rfl rfl rfl
       refine RA.nil nofun ?_
       refine AG.relen 0 t8.length ?_
       refine AG.seq ?_
       refine AG.region HM ?_
       refine a_move (v := vI _) ?_
       refine a_move (v := vI _) ?_
       refine RA.nil nofun ?_
       refine AG.region HM ?_
       refine a_move (v := vI _) ?_
       refine a_move (v := vI _) ?_
       refine a_int (u := .int .i64 (wrap64 (2 * x6))) ?_
       refine a_int (u := .int .i64 (wrap64 (x8 + (wrap64 (2 * x6))))) ?_
       refine a_move (v := vI _) ?_
       refine RA.nil nofun ?_
       exact AGr.canon id (ih2 _ (by omega) _ ⟨by omega, _, _, _, _, _, _, H, rfl⟩) ⟨rfl, rfl, rfl, rfl, rfl, rfl, trivial⟩ ⟨rfl, trivial⟩ rfl
      ·rw [if_neg hc7] at H
       refine AG.no rfl (decide_eq_false hc7) ?_
       refine AG.exit ?_
       refine AG.seq ?_
       refine AG.seq ?_
       refine AG.region HM ?_
       refine a_move (v := vI _) ?_
       refine a_move (v := vI _) ?_
       refine a_int (u := .int .i64 (wrap64 (x7 + x6))) ?_
       refine a_move (v := vI _) ?_
       refine RA.nil nofun ?_
       refine AG.seq ?_
       refine AG.region HM ?_
       refine a_move (v := vI _) ?_
       refine a_move (v := vI _) ?_
       refine a_int (u := .bool (decide ((wrap64 (x7 + x6)) < x1))) ?_
       refine RA.nil nofun ?_
       by_cases hc10 : (wrap64 (x7 + x6)) < x1
       ·rw [if_pos hc10] at H
        refine AG.yes rfl (decide_eq_true hc10) ?_
        refine AG.region HM ?_
        refine a_move (v := .c (.own _ _)) ?_
        refine a_move (v := vI _) ?_
        refine a_move (v := vI _) ?_
        refine a_move (v := vI _) ?_
        refine a_move (v := .c (.d (.fn _ _))) ?_
        obtain ⟨t11, e12, H⟩ := bindO H
        refine a_callM (v := .tup []) (nk := []) (L := []) (Mk := [(0, _)]) (ck := [(0, .row 3 (t11.map c3))]) ?_ rfl (slices_symMergeCmpFunc_int__impl_DecreasingBlades_1.ok e12) id id (mcO (mcD (mcD (mcD (mcD m0))))) trivial ⟨rfl, trivial⟩ trivial ⟨rfl, trivial⟩ trivial ⟨rfl, trivial⟩ rfl rfl rfl
        refine RA.nil nofun ?_
        refine AG.relen 0 t11.length ?_
        refine AG.region HM ?_
        refine a_move (v := vI _) ?_
        refine a_int (u := .int .i64 (wrap64 (x6 * 2))) ?_
        refine a_move (v := vI _) ?_
        refine RA.nil nofun ?_
        exact AGr.canon id (ih1 _ (by omega) _ ⟨by omega, _, _, _, _, H, rfl⟩) ⟨rfl, rfl, rfl, rfl, trivial⟩ ⟨rfl, trivial⟩ rfl
       ·rw [if_neg hc10] at H
        refine AG.no rfl (decide_eq_false hc10) ?_
        refine AG.skip ?_
        refine AG.region HM ?_
        refine a_move (v := vI _) ?_
        refine a_int (u := .int .i64 (wrap64 (x6 * 2))) ?_
        refine a_move (v := vI _) ?_
        refine RA.nil nofun ?_
        exact AGr.canon id (ih1 _ (by omega) _ ⟨by omega, _, _, _, _, H, rfl⟩) ⟨rfl, rfl, rfl, rfl, trivial⟩ ⟨rfl, trivial⟩ rfl
    ·rw [if_neg hc6] at H
     refine AG.no rfl (decide_eq_false hc6) ?_
     refine AG.exit ?_
     obtain rfl := Option.some.inj H
     exact RetP.mk (fun κ => cond (Nat.beq κ 0) 0 (κ)) trivial ⟨rfl, trivial⟩ rfl
/-! ### slices_SortStableFunc_int_int__impl_DecreasingBlades_1: function 31 -/
def slices_SortStableFunc_int_int__impl_DecreasingBlades_1.f (k : Nat) (l0 : List Int) (v1_0_0 : List Int) : Option ((List Int)) := (slices_stableCmpFunc_int__impl_DecreasingBlades_1.f k l0 (l0.length : Int) v1_0_0).bind fun t1 => (some t1)
set_option maxRecDepth 100000 in
theorem slices_SortStableFunc_int_int__impl_DecreasingBlades_1.ok {k : Nat} {l0 : List Int} {v1_0_0 : List Int} {r : List Int} (H : slices_SortStableFunc_int_int__impl_DecreasingBlades_1.f k l0 v1_0_0 = some r) : OkF Try.prog 31 [.c (.own 0 l0.length), .c (.d (.fn 39 [.ro [.row 2 (v1_0_0.map c2)]]))] [(0, .row 3 (l0.map c3))] (.tup []) [(0, .row 3 (r.map c3))] := by
 unfold slices_SortStableFunc_int_int__impl_DecreasingBlades_1.f at H
 refine OkF.of (N := 9) (rs := []) (avs := []) Try.func31 rfl rfl (fun _ _ => results_none rfl _ _ _) (by decide) rfl rfl rfl rfl (fun w0 S => ?_)
 refine AG.region HM ?_
 refine a_move (v := .c (.own _ _)) ?_
 refine a_move (v := .c (.own _ _)) ?_
 refine a_lenO ?_ Try.underlying50
 refine a_move (v := .c (.d (.fn _ _))) ?_
 obtain ⟨t1, e2, H⟩ := bindO H
 refine a_callM (v := .tup []) (nk := []) (L := []) (Mk := [(0, _)]) (ck := [(0, .row 3 (t1.map c3))]) ?_ rfl (slices_stableCmpFunc_int__impl_DecreasingBlades_1.ok e2) id id (mcO (mcD (mcD m0))) trivial ⟨rfl, trivial⟩ trivial ⟨rfl, trivial⟩ trivial ⟨rfl, trivial⟩ rfl rfl rfl
 refine RA.nil nofun ?_
 obtain rfl := Option.some.inj H
 exact RetP.mk (fun κ => cond (Nat.beq κ 0) 0 (κ)) trivial ⟨rfl, trivial⟩ rfl
/-! ### impl_DecreasingBlades_2: function 41 -/
def impl_DecreasingBlades_2.f (a0 : Int) (v_0_0 : List Int) (v_1_0 : Int) (v_2_0 : ByteArray) (v_2_1 : Int) (v_2_2 : Int) (v_2_3 : Int) : Option (Bool) := if 0 ≤ v_1_0 then (if v_1_0 < (v_0_0.length : Int) then (some (decide ((wrap64 (a0 + (rd2 v_0_0 v_1_0))) ≤ v_2_1))) else (none)) else (none)
set_option maxRecDepth 100000 in
theorem impl_DecreasingBlades_2.ok {a0 : Int} {v_0_0 : List Int} {v_1_0 : Int} {v_2_0 : ByteArray} {v_2_1 : Int} {v_2_2 : Int} {v_2_3 : Int} {r : Bool} (H : impl_DecreasingBlades_2.f a0 v_0_0 v_1_0 v_2_0 v_2_1 v_2_2 v_2_3 = some r) : OkF Try.prog 41 [vI a0, .c (.d (.ro [.row 2 (v_0_0.map c2)])), .c (.d (.ro [.v (.int .i64 v_1_0)])), .c (.d (.ro [.v (.string v_2_0), .v (.int .i64 v_2_1), .v (.int .i64 v_2_2), .v (.int .i64 v_2_3)]))] [] (.c (.d (.v (.bool r)))) [] := by
 unfold impl_DecreasingBlades_2.f at H
 refine OkF.of (N := 15) (rs := [5]) (avs := [.c (.d (.v (.bool r)))]) Try.func41 rfl rfl (fun _ _ => results_tmp rfl _ _ _) (by decide) rfl rfl rfl rfl (fun w0 S => ?_)
 refine AG.seq ?_
 refine AG.region HM ?_
 refine a_move (v := vB _) ?_
 refine RA.nil nofun ?_
 refine AG.seq ?_
 refine AG.region HM ?_
 refine a_move (v := vI _) ?_
 refine a_ldR (v := vR _ _) ?_ T36
 refine a_ldR (v := vI _) ?_ T3
 by_cases hc1 : 0 ≤ v_1_0
 ·rw [if_pos hc1] at H
  by_cases hc2 : v_1_0 < (v_0_0.length : Int)
  ·rw [if_pos hc2] at H
   refine a_ixR (el := c2 (rd2 v_0_0 v_1_0)) ?_ ⟨hc1, hc2⟩ T2 Try.underlying36 (hel := R2 hc1 hc2)
   refine a_ldR (v := vI _) ?_ T2
   refine a_int (u := .int .i64 (wrap64 (a0 + (rd2 v_0_0 v_1_0)))) ?_
   refine a_faR (cells' := [_, _, _]) ?_ D39_1
   refine a_ldR (v := vI _) ?_ T2
   refine a_int (u := .bool (decide ((wrap64 (a0 + (rd2 v_0_0 v_1_0))) ≤ v_2_1))) ?_
   refine a_move (v := vB _) ?_
   refine RA.nil (fun _ => by kernel_rfl) ?_
   refine AG.ret ?_
   obtain rfl := Option.some.inj H
   exact RetP.mk id ⟨rfl, trivial⟩ trivial rfl
  ·rw [if_neg hc2] at H
   cases H
 ·rw [if_neg hc1] at H
  cases H
end Go.Proofs.Ytedakffelgmmnaa.PFnExactDecreasingBlades

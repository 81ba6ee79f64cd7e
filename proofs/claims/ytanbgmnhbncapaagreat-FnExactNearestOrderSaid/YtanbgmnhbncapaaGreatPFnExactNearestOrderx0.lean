/- What each function that the law FnExactNearestOrder reaches comes to, and the proof that its walk comes to it; laid by a program of this session. No condition. -/
import Derived.Test.YtanbgmnhbncapaaGreatAnE
import Derived.KernelRfl
import Derived.OwnWalk
import Derived.Test.YtanbgmnhbncapaaGreatProg
import Derived.Test.YtanbgmnhbncapaaGreatAnK
import Derived.Test.YtanbgmnhbncapaaGreatSortP
set_option linter.unusedVariables false
set_option linter.unusedSimpArgs false
namespace Go.Proofs.YtanbgmnhbncapaaGreat.PFnExactNearestOrder
open Go Go.RowKit Go.Proofs.YtanbgmnhbncapaaGreatM Go.Proofs Go.Proofs.YtanbgmnhbncapaaGreat.SortP
theorem HM : Tryz.prog.follows .mixedOrders = true := by kernel_rfl
structure S50 where
 f0 : Int
 f1 : Int
def z50 : S50 := ⟨0, 0⟩
structure S72 where
 f0 : ByteArray
 f1 : List Int
def z72 : S72 := ⟨(⟨#[]⟩ : ByteArray), []⟩
structure S24 where
 f0 : Int
 f1 : Int
 f2 : List S50
 f3 : List S72
def z24 : S24 := ⟨0, 0, [], []⟩
structure S32 where
 f0 : Int
 f1 : Int
 f2 : List S50
 f3 : List S72
def z32 : S32 := ⟨0, 0, [], []⟩
structure S89 where
 f0 : Int
 f1 : Int
def z89 : S89 := ⟨0, 0⟩
def c50 (x : S50) : List DV := [.v (.int .i64 x.f0), .v (.int .i64 x.f1)]
def rd50 (l : List S50) (i : Int) : S50 := l.getD i.toNat z50
theorem R50 {l : List S50} {i : Int} {z : List DV} (h0 : 0 ≤ i) (h1 : i < (l.length : Int)) : (l.map c50).getD i.toNat z = c50 (rd50 l i) := by
 have : i.toNat < l.length := by omega
 simp [rd50, List.getD_eq_getElem?_getD, this]
theorem G50 {l : List S50} {i : Int} (h0 : 0 ≤ i) (h1 : i < (l.length : Int)) : (l.map c50)[i.toNat]? = some (c50 (rd50 l i)) := by
 have : i.toNat < l.length := by omega
 simp [rd50, List.getD_eq_getElem?_getD, this]
def c2 (x : Int) : List DV := [.v (.int .i64 x)]
def rd2 (l : List Int) (i : Int) : Int := l.getD i.toNat 0
theorem R2 {l : List Int} {i : Int} {z : List DV} (h0 : 0 ≤ i) (h1 : i < (l.length : Int)) : (l.map c2).getD i.toNat z = c2 (rd2 l i) := by
 have : i.toNat < l.length := by omega
 simp [rd2, List.getD_eq_getElem?_getD, this]
theorem G2 {l : List Int} {i : Int} (h0 : 0 ≤ i) (h1 : i < (l.length : Int)) : (l.map c2)[i.toNat]? = some (c2 (rd2 l i)) := by
 have : i.toNat < l.length := by omega
 simp [rd2, List.getD_eq_getElem?_getD, this]
def c72 (x : S72) : List DV := [.v (.string x.f0), .row 2 (x.f1.map c2)]
def rd72 (l : List S72) (i : Int) : S72 := l.getD i.toNat z72
theorem R72 {l : List S72} {i : Int} {z : List DV} (h0 : 0 ≤ i) (h1 : i < (l.length : Int)) : (l.map c72).getD i.toNat z = c72 (rd72 l i) := by
 have : i.toNat < l.length := by omega
 simp [rd72, List.getD_eq_getElem?_getD, this]
theorem G72 {l : List S72} {i : Int} (h0 : 0 ≤ i) (h1 : i < (l.length : Int)) : (l.map c72)[i.toNat]? = some (c72 (rd72 l i)) := by
 have : i.toNat < l.length := by omega
 simp [rd72, List.getD_eq_getElem?_getD, this]
def c27 (x : List Int) : List DV := [.row 2 (x.map c2)]
def rd27 (l : List (List Int)) (i : Int) : List Int := l.getD i.toNat []
theorem R27 {l : List (List Int)} {i : Int} {z : List DV} (h0 : 0 ≤ i) (h1 : i < (l.length : Int)) : (l.map c27).getD i.toNat z = c27 (rd27 l i) := by
 have : i.toNat < l.length := by omega
 simp [rd27, List.getD_eq_getElem?_getD, this]
theorem G27 {l : List (List Int)} {i : Int} (h0 : 0 ≤ i) (h1 : i < (l.length : Int)) : (l.map c27)[i.toNat]? = some (c27 (rd27 l i)) := by
 have : i.toNat < l.length := by omega
 simp [rd27, List.getD_eq_getElem?_getD, this]
def c89 (x : S89) : List DV := [.v (.int .i64 x.f0), .v (.int .i64 x.f1)]
def rd89 (l : List S89) (i : Int) : S89 := l.getD i.toNat z89
theorem R89 {l : List S89} {i : Int} {z : List DV} (h0 : 0 ≤ i) (h1 : i < (l.length : Int)) : (l.map c89).getD i.toNat z = c89 (rd89 l i) := by
 have : i.toNat < l.length := by omega
 simp [rd89, List.getD_eq_getElem?_getD, this]
theorem G89 {l : List S89} {i : Int} (h0 : 0 ≤ i) (h1 : i < (l.length : Int)) : (l.map c89)[i.toNat]? = some (c89 (rd89 l i)) := by
 have : i.toNat < l.length := by omega
 simp [rd89, List.getD_eq_getElem?_getD, this]
def c86 (x : List S89) : List DV := [.row 89 (x.map c89)]
def rd86 (l : List (List S89)) (i : Int) : List S89 := l.getD i.toNat []
theorem R86 {l : List (List S89)} {i : Int} {z : List DV} (h0 : 0 ≤ i) (h1 : i < (l.length : Int)) : (l.map c86).getD i.toNat z = c86 (rd86 l i) := by
 have : i.toNat < l.length := by omega
 simp [rd86, List.getD_eq_getElem?_getD, this]
theorem G86 {l : List (List S89)} {i : Int} (h0 : 0 ≤ i) (h1 : i < (l.length : Int)) : (l.map c86)[i.toNat]? = some (c86 (rd86 l i)) := by
 have : i.toNat < l.length := by omega
 simp [rd86, List.getD_eq_getElem?_getD, this]
def c4 (x : Bool) : List DV := [.v (.bool x)]
def rd4 (l : List Bool) (i : Int) : Bool := l.getD i.toNat false
theorem R4 {l : List Bool} {i : Int} {z : List DV} (h0 : 0 ≤ i) (h1 : i < (l.length : Int)) : (l.map c4).getD i.toNat z = c4 (rd4 l i) := by
 have : i.toNat < l.length := by omega
 simp [rd4, List.getD_eq_getElem?_getD, this]
theorem G4 {l : List Bool} {i : Int} (h0 : 0 ≤ i) (h1 : i < (l.length : Int)) : (l.map c4)[i.toNat]? = some (c4 (rd4 l i)) := by
 have : i.toNat < l.length := by omega
 simp [rd4, List.getD_eq_getElem?_getD, this]
def c5 (x : Int) : List DV := [.v (.int .u8 x)]
def rd5 (l : List Int) (i : Int) : Int := l.getD i.toNat 0
theorem R5 {l : List Int} {i : Int} {z : List DV} (h0 : 0 ≤ i) (h1 : i < (l.length : Int)) : (l.map c5).getD i.toNat z = c5 (rd5 l i) := by
 have : i.toNat < l.length := by omega
 simp [rd5, List.getD_eq_getElem?_getD, this]
theorem G5 {l : List Int} {i : Int} (h0 : 0 ≤ i) (h1 : i < (l.length : Int)) : (l.map c5)[i.toNat]? = some (c5 (rd5 l i)) := by
 have : i.toNat < l.length := by omega
 simp [rd5, List.getD_eq_getElem?_getD, this]
def c24 (x : S24) : List DV := [.v (.int .i64 x.f0), .v (.int .i64 x.f1), .row 84 (x.f2.map c50), .row 73 (x.f3.map c72)]
def rd24 (l : List S24) (i : Int) : S24 := l.getD i.toNat z24
theorem R24 {l : List S24} {i : Int} {z : List DV} (h0 : 0 ≤ i) (h1 : i < (l.length : Int)) : (l.map c24).getD i.toNat z = c24 (rd24 l i) := by
 have : i.toNat < l.length := by omega
 simp [rd24, List.getD_eq_getElem?_getD, this]
theorem G24 {l : List S24} {i : Int} (h0 : 0 ≤ i) (h1 : i < (l.length : Int)) : (l.map c24)[i.toNat]? = some (c24 (rd24 l i)) := by
 have : i.toNat < l.length := by omega
 simp [rd24, List.getD_eq_getElem?_getD, this]
theorem T9 : tyi Tryz.prog 9 = some (1, 16, [.string ⟨#[]⟩], false) := by kernel_rfl
theorem T27 : tyi Tryz.prog 27 = some (1, 24, [.slice none 0 0], false) := by kernel_rfl
theorem T73 : tyi Tryz.prog 73 = some (2, 40, [.string ⟨#[]⟩, .slice none 0 0], true) := by kernel_rfl
theorem T22 : tyi Tryz.prog 22 = some (1, 24, [.slice none 0 0], false) := by kernel_rfl
theorem T23 : tyi Tryz.prog 23 = some (1, 24, [.slice none 0 0], false) := by kernel_rfl
theorem T30 : tyi Tryz.prog 30 = some (1, 24, [.slice none 0 0], false) := by kernel_rfl
theorem T51 : tyi Tryz.prog 51 = some (2, 16, [.int .i64 0, .int .i64 0], true) := by kernel_rfl
theorem T2 : tyi Tryz.prog 2 = some (1, 8, [.int .i64 0], false) := by kernel_rfl
theorem T31 : tyi Tryz.prog 31 = some (1, 24, [.slice none 0 0], false) := by kernel_rfl
theorem T76 : tyi Tryz.prog 76 = some (2, 40, [.string ⟨#[]⟩, .slice none 0 0], true) := by kernel_rfl
theorem T33 : tyi Tryz.prog 33 = some (4, 64, [.int .i64 0, .int .i64 0, .slice none 0 0, .slice none 0 0], true) := by kernel_rfl
theorem T84 : tyi Tryz.prog 84 = some (2, 16, [.int .i64 0, .int .i64 0], true) := by kernel_rfl
theorem T89 : tyi Tryz.prog 89 = some (2, 16, [.int .i64 0, .int .i64 0], true) := by kernel_rfl
theorem T86 : tyi Tryz.prog 86 = some (1, 24, [.slice none 0 0], false) := by kernel_rfl
theorem T130 : tyi Tryz.prog 130 = some (1, 24, [.slice none 0 0], false) := by kernel_rfl
theorem T3 : tyi Tryz.prog 3 = some (1, 8, [.int .i64 0], false) := by kernel_rfl
theorem T4 : tyi Tryz.prog 4 = some (1, 1, [.bool false], false) := by kernel_rfl
theorem T5 : tyi Tryz.prog 5 = some (1, 1, [.int .u8 0], false) := by kernel_rfl
theorem T25 : tyi Tryz.prog 25 = some (4, 64, [.int .i64 0, .int .i64 0, .slice none 0 0, .slice none 0 0], true) := by kernel_rfl
theorem I51 : infosOk Tryz.prog 51 = true := by kernel_rfl
theorem N30 : eln Tryz.prog 30 = some 51 := by kernel_rfl
theorem N27 : eln Tryz.prog 27 = some 2 := by kernel_rfl
theorem N46 : eln Tryz.prog 46 = some 27 := by kernel_rfl
theorem N31 : eln Tryz.prog 31 = some 76 := by kernel_rfl
theorem N86 : eln Tryz.prog 86 = some 89 := by kernel_rfl
theorem N130 : eln Tryz.prog 130 = some 86 := by kernel_rfl
theorem N61 : eln Tryz.prog 61 = some 4 := by kernel_rfl
theorem N113 : eln Tryz.prog 113 = some 5 := by kernel_rfl
theorem Q51 (x0 y0 : Int) (x1 y1 : Int) : EqRun Tryz.prog .eql 51 [.int .i64 x0, .int .i64 x1] [.int .i64 y0, .int .i64 y1] (eqC [.int .i64 x0, .int .i64 x1] [.int .i64 y0, .int .i64 y1]) ∧ EqRun Tryz.prog .neq 51 [.int .i64 x0, .int .i64 x1] [.int .i64 y0, .int .i64 y1] (!(eqC [.int .i64 x0, .int .i64 x1] [.int .i64 y0, .int .i64 y1])) := by
 refine eqRun_of (by kernel_rfl) (fun w => ?_)
 show _ = Result.ok (x0 == y0 && (x1 == y1)) w
 go_simp
 (repeat' split) <;> simp_all
theorem Q89 (x0 y0 x1 y1 : Int) : EqRun Tryz.prog .eql 89 [.int .i64 x0, .int .i64 x1] [.int .i64 y0, .int .i64 y1] (eqC [.int .i64 x0, .int .i64 x1] [.int .i64 y0, .int .i64 y1]) ∧ EqRun Tryz.prog .neq 89 [.int .i64 x0, .int .i64 x1] [.int .i64 y0, .int .i64 y1] (!(eqC [.int .i64 x0, .int .i64 x1] [.int .i64 y0, .int .i64 y1])) := by
 refine eqRun_of (by kernel_rfl) (fun w => ?_)
 show _ = Result.ok (x0 == y0 && (x1 == y1)) w
 exact run_equalIn_arr2 9998 w x0 x1 y0 y1 Tryz.underlying89 Tryz.underlying2 Tryz.sizeOf2 Tryz.isAgg2
theorem D73_0 : fld Tryz.prog 73 0 = some (0, 1, false) := by kernel_rfl
theorem D73_1 : fld Tryz.prog 73 1 = some (1, 1, false) := by kernel_rfl
theorem D25_2 : fld Tryz.prog 25 2 = some (2, 1, false) := by kernel_rfl
theorem D25_3 : fld Tryz.prog 25 3 = some (3, 1, false) := by kernel_rfl
theorem D33_2 : fld Tryz.prog 33 2 = some (2, 1, false) := by kernel_rfl
theorem D51_0 : fld Tryz.prog 51 0 = some (0, 1, false) := by kernel_rfl
theorem D33_0 : fld Tryz.prog 33 0 = some (0, 1, false) := by kernel_rfl
theorem D51_1 : fld Tryz.prog 51 1 = some (1, 1, false) := by kernel_rfl
theorem D33_1 : fld Tryz.prog 33 1 = some (1, 1, false) := by kernel_rfl
theorem D33_3 : fld Tryz.prog 33 3 = some (3, 1, false) := by kernel_rfl
theorem D76_0 : fld Tryz.prog 76 0 = some (0, 1, false) := by kernel_rfl
theorem D76_1 : fld Tryz.prog 76 1 = some (1, 1, false) := by kernel_rfl
theorem D84_0 : fld Tryz.prog 84 0 = some (0, 1, false) := by kernel_rfl
theorem D84_1 : fld Tryz.prog 84 1 = some (1, 1, false) := by kernel_rfl
theorem D25_0 : fld Tryz.prog 25 0 = some (0, 1, false) := by kernel_rfl
theorem D25_1 : fld Tryz.prog 25 1 = some (1, 1, false) := by kernel_rfl
/-! ### laws_szPointS: function 16 -/
def laws_szPointS.f (l0 : List S50) (a1 : Int) : Option (Int) := if (wrap64 (a1 - (l0.length : Int))) < 0 then (some (-1)) else (some (wrap64 (a1 - (l0.length : Int))))
set_option maxRecDepth 100000 in
theorem laws_szPointS.ok {l0 : List S50} {a1 : Int} {r : Int} (H : laws_szPointS.f l0 a1 = some r) : OkF Tryz.prog 16 [vR 84 (l0.map c50), vI a1] [] (.c (.d (.v (.int .i64 r)))) [] := by
 unfold laws_szPointS.f at H
 refine OkF.of (N := 12) (rs := [4]) (avs := [.c (.d (.v (.int .i64 r)))]) Tryz.func16 rfl rfl (fun _ _ => results_tmp rfl _ _ _) (by decide) rfl rfl rfl rfl (fun w0 S => ?_)
 refine AG.seq ?_
 refine AG.region HM ?_
 refine a_move (v := vI _) ?_
 refine RA.nil nofun ?_
 refine AG.seq ?_
 refine AG.region HM ?_
 refine a_move (v := vI _) ?_
 refine a_move (v := vR _ _) ?_
 refine a_lenR ?_ Tryz.underlying22
 refine a_int (u := .int .i64 (wrap64 (a1 - (l0.length : Int)))) ?_
 refine a_move (v := vI _) ?_
 refine RA.nil nofun ?_
 refine AG.seq ?_
 refine AG.seq ?_
 refine AG.region HM ?_
 refine a_move (v := vI _) ?_
 refine a_int (u := .bool (decide ((wrap64 (a1 - (l0.length : Int))) < 0))) ?_
 refine RA.nil nofun ?_
 by_cases hc1 : (wrap64 (a1 - (l0.length : Int))) < 0
 ·rw [if_pos hc1] at H
  refine AG.yes rfl (decide_eq_true hc1) ?_
  refine AG.seq ?_
  refine AG.region HM ?_
  refine a_move (v := vI _) ?_
  refine RA.nil nofun ?_
  refine AG.ret ?_
  obtain rfl := Option.some.inj H
  exact RetP.mk id ⟨rfl, trivial⟩ trivial rfl
 ·rw [if_neg hc1] at H
  refine AG.no rfl (decide_eq_false hc1) ?_
  refine AG.skip ?_
  refine AG.seq ?_
  refine AG.region HM ?_
  refine a_move (v := vI _) ?_
  refine a_move (v := vI _) ?_
  refine RA.nil nofun ?_
  refine AG.ret ?_
  obtain rfl := Option.some.inj H
  exact RetP.mk id ⟨rfl, trivial⟩ trivial rfl
/-! ### laws_szInt64S: function 71 -/
def laws_szInt64S.f (l0 : List Int) (a1 : Int) : Option (Int) := if (wrap64 (a1 - (l0.length : Int))) < 0 then (some (-1)) else (some (wrap64 (a1 - (l0.length : Int))))
set_option maxRecDepth 100000 in
theorem laws_szInt64S.ok {l0 : List Int} {a1 : Int} {r : Int} (H : laws_szInt64S.f l0 a1 = some r) : OkF Tryz.prog 71 [vR 2 (l0.map c2), vI a1] [] (.c (.d (.v (.int .i64 r)))) [] := by
 unfold laws_szInt64S.f at H
 refine OkF.of (N := 12) (rs := [4]) (avs := [.c (.d (.v (.int .i64 r)))]) Tryz.func71 rfl rfl (fun _ _ => results_tmp rfl _ _ _) (by decide) rfl rfl rfl rfl (fun w0 S => ?_)
 refine AG.seq ?_
 refine AG.region HM ?_
 refine a_move (v := vI _) ?_
 refine RA.nil nofun ?_
 refine AG.seq ?_
 refine AG.region HM ?_
 refine a_move (v := vI _) ?_
 refine a_move (v := vR _ _) ?_
 refine a_lenR ?_ Tryz.underlying27
 refine a_int (u := .int .i64 (wrap64 (a1 - (l0.length : Int)))) ?_
 refine a_move (v := vI _) ?_
 refine RA.nil nofun ?_
 refine AG.seq ?_
 refine AG.seq ?_
 refine AG.region HM ?_
 refine a_move (v := vI _) ?_
 refine a_int (u := .bool (decide ((wrap64 (a1 - (l0.length : Int))) < 0))) ?_
 refine RA.nil nofun ?_
 by_cases hc1 : (wrap64 (a1 - (l0.length : Int))) < 0
 ·rw [if_pos hc1] at H
  refine AG.yes rfl (decide_eq_true hc1) ?_
  refine AG.seq ?_
  refine AG.region HM ?_
  refine a_move (v := vI _) ?_
  refine RA.nil nofun ?_
  refine AG.ret ?_
  obtain rfl := Option.some.inj H
  exact RetP.mk id ⟨rfl, trivial⟩ trivial rfl
 ·rw [if_neg hc1] at H
  refine AG.no rfl (decide_eq_false hc1) ?_
  refine AG.skip ?_
  refine AG.seq ?_
  refine AG.region HM ?_
  refine a_move (v := vI _) ?_
  refine a_move (v := vI _) ?_
  refine RA.nil nofun ?_
  refine AG.ret ?_
  obtain rfl := Option.some.inj H
  exact RetP.mk id ⟨rfl, trivial⟩ trivial rfl
/-! ### laws_szFace: function 39 -/
def laws_szFace.f (a0_0 : ByteArray) (l0_1 : List Int) (a1 : Int) : Option (Int) := if (wrap64 (a1 - (a0_0.size : Int))) < 0 then (some (-1)) else ((laws_szInt64S.f l0_1 (wrap64 (a1 - (a0_0.size : Int)))).bind fun t2 => (if t2 < 0 then (some (-1)) else (some t2)))
set_option maxRecDepth 100000 in
theorem laws_szFace.ok {a0_0 : ByteArray} {l0_1 : List Int} {a1 : Int} {r : Int} (H : laws_szFace.f a0_0 l0_1 a1 = some r) : OkF Tryz.prog 39 [.agg [.d (.v (.string a0_0)), .d (.row 2 (l0_1.map c2))], vI a1] [] (.c (.d (.v (.int .i64 r)))) [] := by
 unfold laws_szFace.f at H
 refine OkF.of (N := 19) (rs := [4]) (avs := [.c (.d (.v (.int .i64 r)))]) Tryz.func39 rfl rfl (fun _ _ => results_tmp rfl _ _ _) (by decide) rfl rfl rfl rfl (fun w0 S => ?_)
 refine AG.seq ?_
 refine AG.region HM ?_
 refine a_box 200 ?_
 refine a_move (v := vI _) ?_
 refine RA.nil nofun ?_
 refine AG.seq ?_
 refine AG.region HM ?_
 refine a_move (v := vI _) ?_
 refine a_faB (q := 0) ?_ D73_0
 refine a_ldB (v := vS _) ?_ T9
 refine a_lenS ?_ Tryz.underlying9
 refine a_int (u := .int .i64 (wrap64 (a1 - (a0_0.size : Int)))) ?_
 refine a_move (v := vI _) ?_
 refine RA.nil nofun ?_
 refine AG.seq ?_
 refine AG.seq ?_
 refine AG.region HM ?_
 refine a_move (v := vI _) ?_
 refine a_int (u := .bool (decide ((wrap64 (a1 - (a0_0.size : Int))) < 0))) ?_
 refine RA.nil nofun ?_
 by_cases hc1 : (wrap64 (a1 - (a0_0.size : Int))) < 0
 ·rw [if_pos hc1] at H
  refine AG.yes rfl (decide_eq_true hc1) ?_
  refine AG.seq ?_
  refine AG.region HM ?_
  refine a_move (v := vI _) ?_
  refine RA.nil nofun ?_
  refine AG.ret ?_
  obtain rfl := Option.some.inj H
  exact RetP.mk id ⟨rfl, trivial⟩ trivial rfl
 ·rw [if_neg hc1] at H
  refine AG.no rfl (decide_eq_false hc1) ?_
  refine AG.skip ?_
  refine AG.seq ?_
  refine AG.region HM ?_
  refine a_faB (q := 1) ?_ D73_1
  refine a_ldB (v := vR _ _) ?_ T27
  refine a_move (v := vI _) ?_
  obtain ⟨t2, e3, H⟩ := bindO H
  refine a_call (v := vI t2) (nk := []) (L := []) ?_ rfl (laws_szInt64S.ok e3) id (qd (qd qn)) trivial trivial trivial rfl
  refine a_move (v := vI _) ?_
  refine RA.nil nofun ?_
  refine AG.seq ?_
  refine AG.seq ?_
  refine AG.region HM ?_
  refine a_move (v := vI _) ?_
  refine a_int (u := .bool (decide (t2 < 0))) ?_
  refine RA.nil nofun ?_
  by_cases hc4 : t2 < 0
  ·rw [if_pos hc4] at H
   refine AG.yes rfl (decide_eq_true hc4) ?_
   refine AG.seq ?_
   refine AG.region HM ?_
   refine a_move (v := vI _) ?_
   refine RA.nil nofun ?_
   refine AG.ret ?_
   obtain rfl := Option.some.inj H
   exact RetP.mk id ⟨rfl, trivial⟩ trivial rfl
  ·rw [if_neg hc4] at H
   refine AG.no rfl (decide_eq_false hc4) ?_
   refine AG.skip ?_
   refine AG.seq ?_
   refine AG.region HM ?_
   refine a_move (v := vI _) ?_
   refine a_move (v := vI _) ?_
   refine RA.nil nofun ?_
   refine AG.ret ?_
   obtain rfl := Option.some.inj H
   exact RetP.mk id ⟨rfl, trivial⟩ trivial rfl
/-! ### laws_szFaceS: function 17 -/
def laws_szFaceS.l0 : Nat → List S72 → Int → Int → Option (Int)
 | 0, _, _, _ => none
 | k + 1, x0, x1, x5 => if x5 < (x0.length : Int) then (if 0 ≤ x5 then ((laws_szFace.f ((rd72 x0 x5).f0) ((rd72 x0 x5).f1) x1).bind fun t4 => (if t4 < 0 then (some (-1)) else (laws_szFaceS.l0 k x0 t4 (wrap64 (x5 + 1))))) else (none)) else (some x1)
def laws_szFaceS.f (k : Nat) (l0 : List S72) (a1 : Int) : Option (Int) := if (wrap64 (a1 - (l0.length : Int))) < 0 then (some (-1)) else (laws_szFaceS.l0 k l0 (wrap64 (a1 - (l0.length : Int))) 0)
set_option maxRecDepth 100000 in
theorem laws_szFaceS.ok {k : Nat} {l0 : List S72} {a1 : Int} {r : Int} (H : laws_szFaceS.f k l0 a1 = some r) : OkF Tryz.prog 17 [vR 73 (l0.map c72), vI a1] [] (.c (.d (.v (.int .i64 r)))) [] := by
 unfold laws_szFaceS.f at H
 refine OkF.of (N := 27) (rs := [4]) (avs := [.c (.d (.v (.int .i64 r)))]) Tryz.func17 rfl rfl (fun _ _ => results_tmp rfl _ _ _) (by decide) rfl rfl rfl rfl (fun w0 S => ?_)
 refine AG.seq ?_
 refine AG.region HM ?_
 refine a_move (v := vI _) ?_
 refine RA.nil nofun ?_
 refine AG.seq ?_
 refine AG.region HM ?_
 refine a_move (v := vI _) ?_
 refine a_move (v := vR _ _) ?_
 refine a_lenR ?_ Tryz.underlying23
 refine a_int (u := .int .i64 (wrap64 (a1 - (l0.length : Int)))) ?_
 refine a_move (v := vI _) ?_
 refine RA.nil nofun ?_
 refine AG.seq ?_
 refine AG.seq ?_
 refine AG.region HM ?_
 refine a_move (v := vI _) ?_
 refine a_int (u := .bool (decide ((wrap64 (a1 - (l0.length : Int))) < 0))) ?_
 refine RA.nil nofun ?_
 by_cases hc1 : (wrap64 (a1 - (l0.length : Int))) < 0
 ·rw [if_pos hc1] at H
  refine AG.yes rfl (decide_eq_true hc1) ?_
  refine AG.seq ?_
  refine AG.region HM ?_
  refine a_move (v := vI _) ?_
  refine RA.nil nofun ?_
  refine AG.ret ?_
  obtain rfl := Option.some.inj H
  exact RetP.mk id ⟨rfl, trivial⟩ trivial rfl
 ·rw [if_neg hc1] at H
  refine AG.no rfl (decide_eq_false hc1) ?_
  refine AG.skip ?_
  refine AG.seq ?_
  refine AG.seq ?_
  refine AG.region HM ?_
  refine a_move (v := vI _) ?_
  refine RA.nil nofun ?_
  refine AG.block ?_
  refine AG.loop ?_
  obtain ⟨K0, hK0, gK0⟩ : ∃ K, k ≤ K ∧ K ≤ k := ⟨k, Nat.le_refl k, Nat.le_refl k⟩
  refine AGr.canon id (AGr.loopI (n := k) (fun k s => k ≤ K0 ∧ ∃ (x0 : List S72) (x1 : Int) (x5 : Int), laws_szFaceS.l0 k x0 x1 x5 = some r ∧ s = St.of [(0, vR 73 (x0.map c72)), (1, vI x1), (5, vI x5)] []) ⟨hK0, _, _, _, H, rfl⟩ ?_ ?_) ⟨rfl, rfl, rfl, trivial⟩ trivial rfl
  ·rintro _ ⟨_, _, _, _, H, _⟩
   cases H
  ·clear H hK0
   rintro k ih0 _ ⟨hK0, x0, x1, x5, H, rfl⟩
   unfold laws_szFaceS.l0 at H
   refine AG.seq ?_
   refine AG.seq ?_
   refine AG.region HM ?_
   refine a_move (v := vI _) ?_
   refine a_move (v := vR _ _) ?_
   refine a_lenR ?_ Tryz.underlying23
   refine a_int (u := .bool (decide (x5 < (x0.length : Int)))) ?_
   refine RA.nil nofun ?_
   by_cases hc2 : x5 < (x0.length : Int)
   ·rw [if_pos hc2] at H
    refine AG.yes rfl (decide_eq_true hc2) ?_
    refine AG.skip ?_
    refine AG.seq ?_
    refine AG.block ?_
    refine AG.seq ?_
    refine AG.region HM ?_
    refine a_move (v := vR _ _) ?_
    refine a_move (v := vI _) ?_
    by_cases hc3 : 0 ≤ x5
    ·rw [if_pos hc3] at H
     refine a_ixR (el := c72 (rd72 x0 x5)) ?_ ⟨hc3, hc2⟩ T73 Tryz.underlying23 (hel := R72 hc3 hc2)
     refine a_ldR (v := .agg [_, _]) ?_ T73
     refine a_move (v := vI _) ?_
     obtain ⟨t4, e5, H⟩ := bindO H
     refine a_call (v := vI t4) (nk := []) (L := []) ?_ rfl (laws_szFace.ok e5) id (qg (qd qn)) trivial trivial trivial rfl
     refine a_move (v := vI _) ?_
     refine RA.nil nofun ?_
     refine AG.seq ?_
     refine AG.region HM ?_
     refine a_move (v := vI _) ?_
     refine a_int (u := .bool (decide (t4 < 0))) ?_
     refine RA.nil nofun ?_
     by_cases hc6 : t4 < 0
     ·rw [if_pos hc6] at H
      refine AG.yes rfl (decide_eq_true hc6) ?_
      refine AG.seq ?_
      refine AG.region HM ?_
      refine a_move (v := vI _) ?_
      refine RA.nil nofun ?_
      refine AG.ret ?_
      obtain rfl := Option.some.inj H
      exact RetP.mk id ⟨rfl, trivial⟩ trivial rfl
     ·rw [if_neg hc6] at H
      refine AG.no rfl (decide_eq_false hc6) ?_
      refine AG.skip ?_
      refine AG.region HM ?_
      refine a_move (v := vI _) ?_
      refine a_int (u := .int .i64 (wrap64 (x5 + 1))) ?_
      refine a_move (v := vI _) ?_
      refine RA.nil nofun ?_
      exact AGr.canon id (ih0 _ (by omega) _ ⟨by omega, _, _, _, H, rfl⟩) ⟨rfl, rfl, rfl, trivial⟩ trivial rfl
    ·rw [if_neg hc3] at H
     cases H
   ·rw [if_neg hc2] at H
    refine AG.no rfl (decide_eq_false hc2) ?_
    refine AG.exit ?_
    refine AG.seq ?_
    refine AG.region HM ?_
    refine a_move (v := vI _) ?_
    refine a_move (v := vI _) ?_
    refine RA.nil nofun ?_
    refine AG.ret ?_
    obtain rfl := Option.some.inj H
    exact RetP.mk id ⟨rfl, trivial⟩ trivial rfl
/-! ### laws_szDrawing: function 5 -/
def laws_szDrawing.f (k : Nat) (a0_0 : Int) (a0_1 : Int) (l0_2 : List S50) (l0_3 : List S72) (a1 : Int) : Option (Int) := (laws_szPointS.f l0_2 a1).bind fun t1 => (if t1 < 0 then (some (-1)) else ((laws_szFaceS.f k l0_3 t1).bind fun t4 => (if t4 < 0 then (some (-1)) else (some t4))))
set_option maxRecDepth 100000 in
theorem laws_szDrawing.ok {k : Nat} {a0_0 : Int} {a0_1 : Int} {l0_2 : List S50} {l0_3 : List S72} {a1 : Int} {r : Int} (H : laws_szDrawing.f k a0_0 a0_1 l0_2 l0_3 a1 = some r) : OkF Tryz.prog 5 [.agg [.d (.v (.int .i64 a0_0)), .d (.v (.int .i64 a0_1)), .d (.row 84 (l0_2.map c50)), .d (.row 73 (l0_3.map c72))], vI a1] [] (.c (.d (.v (.int .i64 r)))) [] := by
 unfold laws_szDrawing.f at H
 refine OkF.of (N := 18) (rs := [4]) (avs := [.c (.d (.v (.int .i64 r)))]) Tryz.func5 rfl rfl (fun _ _ => results_tmp rfl _ _ _) (by decide) rfl rfl rfl rfl (fun w0 S => ?_)
 refine AG.seq ?_
 refine AG.region HM ?_
 refine a_box 200 ?_
 refine a_move (v := vI _) ?_
 refine RA.nil nofun ?_
 refine AG.seq ?_
 refine AG.region HM ?_
 refine a_faB (q := 2) ?_ D25_2
 refine a_ldB (v := vR _ _) ?_ T22
 refine a_move (v := vI _) ?_
 obtain ⟨t1, e2, H⟩ := bindO H
 refine a_call (v := vI t1) (nk := []) (L := []) ?_ rfl (laws_szPointS.ok e2) id (qd (qd qn)) trivial trivial trivial rfl
 refine a_move (v := vI _) ?_
 refine RA.nil nofun ?_
 refine AG.seq ?_
 refine AG.seq ?_
 refine AG.region HM ?_
 refine a_move (v := vI _) ?_
 refine a_int (u := .bool (decide (t1 < 0))) ?_
 refine RA.nil nofun ?_
 by_cases hc3 : t1 < 0
 ·rw [if_pos hc3] at H
  refine AG.yes rfl (decide_eq_true hc3) ?_
  refine AG.seq ?_
  refine AG.region HM ?_
  refine a_move (v := vI _) ?_
  refine RA.nil nofun ?_
  refine AG.ret ?_
  obtain rfl := Option.some.inj H
  exact RetP.mk id ⟨rfl, trivial⟩ trivial rfl
 ·rw [if_neg hc3] at H
  refine AG.no rfl (decide_eq_false hc3) ?_
  refine AG.skip ?_
  refine AG.seq ?_
  refine AG.region HM ?_
  refine a_faB (q := 3) ?_ D25_3
  refine a_ldB (v := vR _ _) ?_ T23
  refine a_move (v := vI _) ?_
  obtain ⟨t4, e5, H⟩ := bindO H
  refine a_call (v := vI t4) (nk := []) (L := []) ?_ rfl (laws_szFaceS.ok e5) id (qd (qd qn)) trivial trivial trivial rfl
  refine a_move (v := vI _) ?_
  refine RA.nil nofun ?_
  refine AG.seq ?_
  refine AG.seq ?_
  refine AG.region HM ?_
  refine a_move (v := vI _) ?_
  refine a_int (u := .bool (decide (t4 < 0))) ?_
  refine RA.nil nofun ?_
  by_cases hc6 : t4 < 0
  ·rw [if_pos hc6] at H
   refine AG.yes rfl (decide_eq_true hc6) ?_
   refine AG.seq ?_
   refine AG.region HM ?_
   refine a_move (v := vI _) ?_
   refine RA.nil nofun ?_
   refine AG.ret ?_
   obtain rfl := Option.some.inj H
   exact RetP.mk id ⟨rfl, trivial⟩ trivial rfl
  ·rw [if_neg hc6] at H
   refine AG.no rfl (decide_eq_false hc6) ?_
   refine AG.skip ?_
   refine AG.seq ?_
   refine AG.region HM ?_
   refine a_move (v := vI _) ?_
   refine a_move (v := vI _) ?_
   refine RA.nil nofun ?_
   refine AG.ret ?_
   obtain rfl := Option.some.inj H
   exact RetP.mk id ⟨rfl, trivial⟩ trivial rfl
/-! ### spec_l00In: function 40 -/
def spec_l00In.f (a0 : Int) (a1 : Int) (a2 : Int) : Option (Bool) := if a0 ≥ a1 then (some (decide (a0 ≤ a2))) else (some false)
set_option maxRecDepth 100000 in
theorem spec_l00In.ok {a0 : Int} {a1 : Int} {a2 : Int} {r : Bool} (H : spec_l00In.f a0 a1 a2 = some r) : OkF Tryz.prog 40 [vI a0, vI a1, vI a2] [] (.c (.d (.v (.bool r)))) [] := by
 unfold spec_l00In.f at H
 refine OkF.of (N := 15) (rs := [6]) (avs := [.c (.d (.v (.bool r)))]) Tryz.func40 rfl rfl (fun _ _ => results_tmp rfl _ _ _) (by decide) rfl rfl rfl rfl (fun w0 S => ?_)
 refine AG.seq ?_
 refine AG.region HM ?_
 refine a_move (v := vB _) ?_
 refine RA.nil nofun ?_
 refine AG.seq ?_
 refine AG.region HM ?_
 refine a_move (v := vI _) ?_
 refine a_move (v := vI _) ?_
 refine a_int (u := .bool (decide (a0 ≥ a1))) ?_
 refine a_move (v := vB _) ?_
 by_cases hc1 : a0 ≥ a1
 ·rw [if_pos hc1] at H
  refine a_move (v := vI _) ?_ (hg := Gs.yes rfl rfl rfl (decide_eq_true hc1))
  refine a_move (v := vI _) ?_ (hg := Gs.yes rfl rfl rfl (decide_eq_true hc1))
  refine a_int (u := .bool (decide (a0 ≤ a2))) ?_ (hg := Gs.yes rfl rfl rfl (decide_eq_true hc1))
  refine a_pick (b := true) (v := vB _) ?_ (decide_eq_true hc1)
  refine a_move (v := vB _) ?_
  refine RA.nil nofun ?_
  refine AG.ret ?_
  obtain rfl := Option.some.inj H
  exact RetP.mk id ⟨rfl, trivial⟩ trivial rfl
 ·rw [if_neg hc1] at H
  refine RA.skip rfl rfl rfl rfl rfl (decide_eq_false hc1) (by decide) ?_
  refine RA.skip rfl rfl rfl rfl rfl (decide_eq_false hc1) (by decide) ?_
  refine RA.skip rfl rfl rfl rfl rfl (decide_eq_false hc1) (by decide) ?_
  refine a_pick (b := false) (v := vB _) ?_ (decide_eq_false hc1)
  refine a_move (v := vB _) ?_
  refine RA.nil nofun ?_
  refine AG.ret ?_
  obtain rfl := Option.some.inj H
  exact RetP.mk id ⟨rfl, trivial⟩ trivial rfl
/-! ### spec_l05Points: function 41 -/
mutual
def spec_l05Points.l0 : Nat → Int → Int → List S50 → Int → Option (Bool)
 | 0, _, _, _, _ => none
 | k + 1, x0_0, x0_1, x0_2, x3 => if x3 < (x0_2.length : Int) then (if 0 ≤ x3 then ((spec_l00In.f ((rd50 x0_2 x3).f0) 0 x0_0).bind fun t4 => (if t4 = true then ((spec_l00In.f ((rd50 x0_2 x3).f1) 0 x0_1).bind fun t7 => (spec_l05Points.j0 k x0_0 x0_1 x0_2 x3 (!t7))) else (spec_l05Points.j0 k x0_0 x0_1 x0_2 x3 true))) else (none)) else (some true)
def spec_l05Points.j0 : Nat → Int → Int → List S50 → Int → Bool → Option (Bool)
 | 0, _, _, _, _, _ => none
 | k + 1, x0_0, x0_1, x0_2, x3, x49 => if x49 = true then (some false) else (spec_l05Points.l1 k x0_0 x0_1 x0_2 x3 0)
def spec_l05Points.l1 : Nat → Int → Int → List S50 → Int → Int → Option (Bool)
 | 0, _, _, _, _, _ => none
 | k + 1, x0_0, x0_1, x0_2, x3, x4 => if x4 < x3 then (if 0 ≤ x3 then (if x3 < (x0_2.length : Int) then (if 0 ≤ x4 then (if x4 < (x0_2.length : Int) then (if (((rd50 x0_2 x3).f0) == ((rd50 x0_2 x4).f0) && (((rd50 x0_2 x3).f1) == ((rd50 x0_2 x4).f1))) = true then (some false) else (spec_l05Points.l1 k x0_0 x0_1 x0_2 x3 (wrap64 (x4 + 1)))) else (none)) else (none)) else (none)) else (none)) else (spec_l05Points.l0 k x0_0 x0_1 x0_2 (wrap64 (x3 + 1)))
end
def spec_l05Points.f (k : Nat) (a0_0 : Int) (a0_1 : Int) (l0_2 : List S50) (l0_3 : List S72) : Option (Bool) := if (l0_2.length : Int) > 48 then (some false) else (spec_l05Points.l0 k a0_0 a0_1 l0_2 0)
set_option maxRecDepth 100000 in
theorem spec_l05Points.ok {k : Nat} {a0_0 : Int} {a0_1 : Int} {l0_2 : List S50} {l0_3 : List S72} {r : Bool} (H : spec_l05Points.f k a0_0 a0_1 l0_2 l0_3 = some r) : OkF Tryz.prog 41 [.c (.d (.ro [.v (.int .i64 a0_0), .v (.int .i64 a0_1), .row 51 (l0_2.map c50), .row 76 (l0_3.map c72)]))] [] (.c (.d (.v (.bool r)))) [] := by
 unfold spec_l05Points.f at H
 refine OkF.of (N := 70) (rs := [2]) (avs := [.c (.d (.v (.bool r)))]) Tryz.func41 rfl rfl (fun _ _ => results_tmp rfl _ _ _) (by decide) rfl rfl rfl rfl (fun w0 S => ?_)
 refine AG.seq ?_
 refine AG.region HM ?_
 refine a_move (v := vB _) ?_
 refine RA.nil nofun ?_
 refine AG.seq ?_
 refine AG.seq ?_
 refine AG.region HM ?_
 refine a_move (v := vO [_, _, _, _]) ?_
 refine a_nil (v := vO [_, _, _, _]) ?_
 refine a_faR (cells' := [_, _]) ?_ D33_2
 refine a_ldR (v := vR _ _) ?_ T30
 refine a_lenR ?_ Tryz.underlying30
 refine a_int (u := .bool (decide ((l0_2.length : Int) > 48))) ?_
 refine RA.nil nofun ?_
 by_cases hc1 : (l0_2.length : Int) > 48
 ·rw [if_pos hc1] at H
  refine AG.yes rfl (decide_eq_true hc1) ?_
  refine AG.seq ?_
  refine AG.region HM ?_
  refine a_move (v := vB _) ?_
  refine RA.nil nofun ?_
  refine AG.ret ?_
  obtain rfl := Option.some.inj H
  exact RetP.mk id ⟨rfl, trivial⟩ trivial rfl
 ·rw [if_neg hc1] at H
  refine AG.no rfl (decide_eq_false hc1) ?_
  refine AG.skip ?_
  refine AG.seq ?_
  refine AG.seq ?_
  refine AG.region HM ?_
  refine a_move (v := vI _) ?_
  refine RA.nil nofun ?_
  refine AG.block ?_
  refine AG.loop ?_
  obtain ⟨K0, hK0, gK0⟩ : ∃ K, k ≤ K ∧ K ≤ k := ⟨k, Nat.le_refl k, Nat.le_refl k⟩
  refine AGr.canon id (AGr.loopI (n := k) (fun k s => k ≤ K0 ∧ ∃ (x0_0 : Int) (x0_1 : Int) (x0_2 : List S50) (x0_3 : List S72) (x3 : Int), spec_l05Points.l0 k x0_0 x0_1 x0_2 x3 = some r ∧ s = St.of [(0, .c (.d (.ro [.v (.int .i64 x0_0), .v (.int .i64 x0_1), .row 51 (x0_2.map c50), .row 76 (x0_3.map c72)]))), (3, vI x3)] []) ⟨hK0, _, _, _, _, _, H, rfl⟩ ?_ ?_) ⟨rfl, rfl, trivial⟩ trivial rfl
  ·rintro _ ⟨_, _, _, _, _, _, H, _⟩
   cases H
  ·clear H hK0
   rintro k ih0 _ ⟨hK0, x0_0, x0_1, x0_2, x0_3, x3, H, rfl⟩
   unfold spec_l05Points.l0 at H
   refine AG.seq ?_
   refine AG.seq ?_
   refine AG.region HM ?_
   refine a_move (v := vI _) ?_
   refine a_move (v := vO [_, _, _, _]) ?_
   refine a_nil (v := vO [_, _, _, _]) ?_
   refine a_faR (cells' := [_, _]) ?_ D33_2
   refine a_ldR (v := vR _ _) ?_ T30
   refine a_lenR ?_ Tryz.underlying30
   refine a_int (u := .bool (decide (x3 < (x0_2.length : Int)))) ?_
   refine RA.nil nofun ?_
   by_cases hc2 : x3 < (x0_2.length : Int)
   ·rw [if_pos hc2] at H
    refine AG.yes rfl (decide_eq_true hc2) ?_
    refine AG.skip ?_
    refine AG.seq ?_
    refine AG.block ?_
    refine AG.seq ?_
    refine AG.seq ?_
    refine AG.joinR (fun s => ∃ q, q ≤ k ∧ ∃ (x0_0 : Int) (x0_1 : Int) (x0_2 : List S50) (x0_3 : List S72) (x3 : Int) (x49 : Bool), spec_l05Points.j0 q x0_0 x0_1 x0_2 x3 x49 = some r ∧ s = St.of [(0, .c (.d (.ro [.v (.int .i64 x0_0), .v (.int .i64 x0_1), .row 51 (x0_2.map c50), .row 76 (x0_3.map c72)]))), (3, vI x3), (49, vB x49)] []) ?_ ?_
    ·skip
     refine AG.region HM ?_
     refine a_move (v := vO [_, _, _, _]) ?_
     refine a_nil (v := vO [_, _, _, _]) ?_
     refine a_faR (cells' := [_, _]) ?_ D33_2
     refine a_ldR (v := vR _ _) ?_ T30
     refine a_move (v := vI _) ?_
     by_cases hc3 : 0 ≤ x3
     ·rw [if_pos hc3] at H
      refine a_ixR (el := c50 (rd50 x0_2 x3)) ?_ ⟨hc3, hc2⟩ T51 Tryz.underlying30 (hel := R50 hc3 hc2)
      refine a_faR (cells' := [_, _]) ?_ D51_0
      refine a_ldR (v := vI _) ?_ T2
      refine a_move (v := vO [_, _, _, _]) ?_
      refine a_nil (v := vO [_, _, _, _]) ?_
      refine a_faR (cells' := [_, _, _, _]) ?_ D33_0
      refine a_ldR (v := vI _) ?_ T2
      obtain ⟨t4, e5, H⟩ := bindO H
      refine a_call (v := vB t4) (nk := []) (L := []) ?_ rfl (spec_l00In.ok e5) id (qd (qd (qd qn))) trivial trivial trivial rfl
      refine a_un (u := .bool (!t4)) ?_
      refine a_move (v := vB _) ?_
      by_cases hc6 : t4 = true
      ·rw [if_pos hc6] at H
       refine a_move (v := vO [_, _, _, _]) ?_ (hg := Gs.yes rfl rfl rfl (congrArg Bool.not hc6))
       refine a_nil (v := vO [_, _, _, _]) ?_ (hg := Gs.yes rfl rfl rfl (congrArg Bool.not hc6))
       refine a_faR (cells' := [_, _]) ?_ D33_2 (hg := Gs.yes rfl rfl rfl (congrArg Bool.not hc6))
       refine a_ldR (v := vR _ _) ?_ T30 (hg := Gs.yes rfl rfl rfl (congrArg Bool.not hc6))
       refine a_move (v := vI _) ?_ (hg := Gs.yes rfl rfl rfl (congrArg Bool.not hc6))
       refine a_ixR (el := c50 (rd50 x0_2 x3)) ?_ ⟨hc3, hc2⟩ T51 Tryz.underlying30 (hel := R50 hc3 hc2) (hg := Gs.yes rfl rfl rfl (congrArg Bool.not hc6))
       refine a_faR (cells' := [_]) ?_ D51_1 (hg := Gs.yes rfl rfl rfl (congrArg Bool.not hc6))
       refine a_ldR (v := vI _) ?_ T2 (hg := Gs.yes rfl rfl rfl (congrArg Bool.not hc6))
       refine a_move (v := vO [_, _, _, _]) ?_ (hg := Gs.yes rfl rfl rfl (congrArg Bool.not hc6))
       refine a_nil (v := vO [_, _, _, _]) ?_ (hg := Gs.yes rfl rfl rfl (congrArg Bool.not hc6))
       refine a_faR (cells' := [_, _, _]) ?_ D33_1 (hg := Gs.yes rfl rfl rfl (congrArg Bool.not hc6))
       refine a_ldR (v := vI _) ?_ T2 (hg := Gs.yes rfl rfl rfl (congrArg Bool.not hc6))
       obtain ⟨t7, e8, H⟩ := bindO H
       refine a_call (v := vB t7) (nk := []) (L := []) ?_ rfl (spec_l00In.ok e8) id (qd (qd (qd qn))) trivial trivial trivial rfl (hg := Gs.yes rfl rfl rfl (congrArg Bool.not hc6))
       refine a_un (u := .bool (!t7)) ?_ (hg := Gs.yes rfl rfl rfl (congrArg Bool.not hc6))
       refine a_pick (b := false) (v := vB _) ?_ (congrArg Bool.not hc6)
       refine RA.nil (fun _ => by kernel_rfl) ?_
       exact CanR.mk id ⟨_, (by omega), _, _, _, _, _, _, H, rfl⟩ ⟨rfl, rfl, rfl, trivial⟩ trivial rfl
      ·rw [if_neg hc6] at H
       refine RA.skip rfl rfl rfl rfl rfl (congrArg Bool.not (Bool.eq_false_iff.2 hc6)) (by decide) ?_
       refine RA.skip rfl rfl rfl rfl rfl (congrArg Bool.not (Bool.eq_false_iff.2 hc6)) (by decide) ?_
       refine RA.skip rfl rfl rfl rfl rfl (congrArg Bool.not (Bool.eq_false_iff.2 hc6)) (by decide) ?_
       refine RA.skip rfl rfl rfl rfl rfl (congrArg Bool.not (Bool.eq_false_iff.2 hc6)) (by decide) ?_
       refine RA.skip rfl rfl rfl rfl rfl (congrArg Bool.not (Bool.eq_false_iff.2 hc6)) (by decide) ?_
       refine RA.skip rfl rfl rfl rfl rfl (congrArg Bool.not (Bool.eq_false_iff.2 hc6)) (by decide) ?_
       refine RA.skip rfl rfl rfl rfl rfl (congrArg Bool.not (Bool.eq_false_iff.2 hc6)) (by decide) ?_
       refine RA.skip rfl rfl rfl rfl rfl (congrArg Bool.not (Bool.eq_false_iff.2 hc6)) (by decide) ?_
       refine RA.skip rfl rfl rfl rfl rfl (congrArg Bool.not (Bool.eq_false_iff.2 hc6)) (by decide) ?_
       refine RA.skip rfl rfl rfl rfl rfl (congrArg Bool.not (Bool.eq_false_iff.2 hc6)) (by decide) ?_
       refine RA.skip rfl rfl rfl rfl rfl (congrArg Bool.not (Bool.eq_false_iff.2 hc6)) (by decide) ?_
       refine RA.skip rfl rfl rfl rfl rfl (congrArg Bool.not (Bool.eq_false_iff.2 hc6)) (by decide) ?_
       refine RA.skip rfl rfl rfl rfl rfl (congrArg Bool.not (Bool.eq_false_iff.2 hc6)) (by decide) ?_
       refine RA.skip rfl rfl rfl rfl rfl (congrArg Bool.not (Bool.eq_false_iff.2 hc6)) (by decide) ?_
       refine a_pick (b := true) (v := vB _) ?_ (congrArg Bool.not (Bool.eq_false_iff.2 hc6))
       refine RA.nil (fun _ => by kernel_rfl) ?_
       exact CanR.mk id ⟨_, (by omega), _, _, _, _, _, _, H, rfl⟩ ⟨rfl, rfl, rfl, trivial⟩ trivial rfl
     ·rw [if_neg hc3] at H
      cases H
    ·clear H
     rintro _ ⟨k, hj0, x0_0, x0_1, x0_2, x0_3, x3, x49, H, rfl⟩
     cases k with
     | zero => cases H
     | succ k =>
      rw [spec_l05Points.j0] at H
      by_cases hc9 : x49 = true
      ·rw [if_pos hc9] at H
       refine AG.yes rfl hc9 ?_
       refine AG.seq ?_
       refine AG.region HM ?_
       refine a_move (v := vB _) ?_
       refine RA.nil nofun ?_
       refine AG.ret ?_
       obtain rfl := Option.some.inj H
       exact RetP.mk id ⟨rfl, trivial⟩ trivial rfl
      ·rw [if_neg hc9] at H
       refine AG.no rfl (Bool.eq_false_iff.2 hc9) ?_
       refine AG.skip ?_
       refine AG.seq ?_
       refine AG.region HM ?_
       refine a_move (v := vI _) ?_
       refine RA.nil nofun ?_
       refine AG.block ?_
       refine AG.loop ?_
       obtain ⟨K1, hK1, gK1⟩ : ∃ K, k ≤ K ∧ K ≤ k := ⟨k, Nat.le_refl k, Nat.le_refl k⟩
       refine AGr.canon id (AGr.loopI (n := k) (fun k s => k ≤ K1 ∧ ∃ (x0_0 : Int) (x0_1 : Int) (x0_2 : List S50) (x0_3 : List S72) (x3 : Int) (x4 : Int), spec_l05Points.l1 k x0_0 x0_1 x0_2 x3 x4 = some r ∧ s = St.of [(0, .c (.d (.ro [.v (.int .i64 x0_0), .v (.int .i64 x0_1), .row 51 (x0_2.map c50), .row 76 (x0_3.map c72)]))), (3, vI x3), (4, vI x4)] []) ⟨hK1, _, _, _, _, _, _, H, rfl⟩ ?_ ?_) ⟨rfl, rfl, rfl, trivial⟩ trivial rfl
       ·rintro _ ⟨_, _, _, _, _, _, _, H, _⟩
        cases H
       ·clear H hK1
        rintro k ih1 _ ⟨hK1, x0_0, x0_1, x0_2, x0_3, x3, x4, H, rfl⟩
        unfold spec_l05Points.l1 at H
        refine AG.seq ?_
        refine AG.seq ?_
        refine AG.region HM ?_
        refine a_move (v := vI _) ?_
        refine a_move (v := vI _) ?_
        refine a_int (u := .bool (decide (x4 < x3))) ?_
        refine RA.nil nofun ?_
        by_cases hc10 : x4 < x3
        ·rw [if_pos hc10] at H
         refine AG.yes rfl (decide_eq_true hc10) ?_
         refine AG.skip ?_
         refine AG.seq ?_
         refine AG.block ?_
         refine AG.seq ?_
         refine AG.region HM ?_
         refine a_move (v := vO [_, _, _, _]) ?_
         refine a_nil (v := vO [_, _, _, _]) ?_
         refine a_faR (cells' := [_, _]) ?_ D33_2
         refine a_ldR (v := vR _ _) ?_ T30
         refine a_move (v := vI _) ?_
         by_cases hc11 : 0 ≤ x3
         ·rw [if_pos hc11] at H
          by_cases hc12 : x3 < (x0_2.length : Int)
          ·rw [if_pos hc12] at H
           refine a_ixR (el := c50 (rd50 x0_2 x3)) ?_ ⟨hc11, hc12⟩ T51 Tryz.underlying30 (hel := R50 hc11 hc12)
           refine a_ldR (v := .agg [_, _]) ?_ T51
           refine a_move (v := vO [_, _, _, _]) ?_
           refine a_nil (v := vO [_, _, _, _]) ?_
           refine a_faR (cells' := [_, _]) ?_ D33_2
           refine a_ldR (v := vR _ _) ?_ T30
           refine a_move (v := vI _) ?_
           by_cases hc13 : 0 ≤ x4
           ·rw [if_pos hc13] at H
            by_cases hc14 : x4 < (x0_2.length : Int)
            ·rw [if_pos hc14] at H
             refine a_ixR (el := c50 (rd50 x0_2 x4)) ?_ ⟨hc13, hc14⟩ T51 Tryz.underlying30 (hel := R50 hc13 hc14)
             refine a_ldR (v := .agg [_, _]) ?_ T51
             refine a_eqS (b := (((rd50 x0_2 x3).f0) == ((rd50 x0_2 x4).f0) && (((rd50 x0_2 x3).f1) == ((rd50 x0_2 x4).f1)))) ?_ (.inl ⟨rfl, rfl⟩) (Q51 ((rd50 x0_2 x3).f0) ((rd50 x0_2 x4).f0) ((rd50 x0_2 x3).f1) ((rd50 x0_2 x4).f1)).1
             refine RA.nil (fun _ => by kernel_rfl) ?_
             by_cases hc15 : (((rd50 x0_2 x3).f0) == ((rd50 x0_2 x4).f0) && (((rd50 x0_2 x3).f1) == ((rd50 x0_2 x4).f1))) = true
             ·rw [if_pos hc15] at H
              refine AG.yes rfl hc15 ?_
              refine AG.seq ?_
              refine AG.region HM ?_
              refine a_move (v := vB _) ?_
              refine RA.nil nofun ?_
              refine AG.ret ?_
              obtain rfl := Option.some.inj H
              exact RetP.mk id ⟨rfl, trivial⟩ trivial rfl
             ·rw [if_neg hc15] at H
              refine AG.no rfl (Bool.eq_false_iff.2 hc15) ?_
              refine AG.skip ?_
              refine AG.region HM ?_
              refine a_move (v := vI _) ?_
              refine a_int (u := .int .i64 (wrap64 (x4 + 1))) ?_
              refine a_move (v := vI _) ?_
              refine RA.nil nofun ?_
              exact AGr.canon id (ih1 _ (by omega) _ ⟨by omega, _, _, _, _, _, _, H, rfl⟩) ⟨rfl, rfl, rfl, trivial⟩ trivial rfl
            ·rw [if_neg hc14] at H
             cases H
           ·rw [if_neg hc13] at H
            cases H
          ·rw [if_neg hc12] at H
           cases H
         ·rw [if_neg hc11] at H
          cases H
        ·rw [if_neg hc10] at H
         refine AG.no rfl (decide_eq_false hc10) ?_
         refine AG.exit ?_
         refine AG.region HM ?_
         refine a_move (v := vI _) ?_
         refine a_int (u := .int .i64 (wrap64 (x3 + 1))) ?_
         refine a_move (v := vI _) ?_
         refine RA.nil nofun ?_
         exact AGr.canon id (ih0 _ (by omega) _ ⟨by omega, _, _, _, _, _, H, rfl⟩) ⟨rfl, rfl, trivial⟩ trivial rfl
   ·rw [if_neg hc2] at H
    refine AG.no rfl (decide_eq_false hc2) ?_
    refine AG.exit ?_
    refine AG.seq ?_
    refine AG.region HM ?_
    refine a_move (v := vB _) ?_
    refine RA.nil nofun ?_
    refine AG.ret ?_
    obtain rfl := Option.some.inj H
    exact RetP.mk id ⟨rfl, trivial⟩ trivial rfl
/-! ### spec_l01Small: function 72 -/
def spec_l01Small.f (a0 : Int) : Option (Bool) := if a0 ≥ 97 then (some (decide (a0 ≤ 122))) else (some false)
set_option maxRecDepth 100000 in
theorem spec_l01Small.ok {a0 : Int} {r : Bool} (H : spec_l01Small.f a0 = some r) : OkF Tryz.prog 72 [.c (.d (.v (.int .u8 a0)))] [] (.c (.d (.v (.bool r)))) [] := by
 unfold spec_l01Small.f at H
 refine OkF.of (N := 9) (rs := [2]) (avs := [.c (.d (.v (.bool r)))]) Tryz.func72 rfl rfl (fun _ _ => results_tmp rfl _ _ _) (by decide) rfl rfl rfl rfl (fun w0 S => ?_)
 refine AG.seq ?_
 refine AG.region HM ?_
 refine a_move (v := vB _) ?_
 refine RA.nil nofun ?_
 refine AG.seq ?_
 refine AG.region HM ?_
 refine a_move (v := gV (.int .u8 _)) ?_
 refine a_int (u := .bool (decide (a0 ≥ 97))) ?_
 refine a_move (v := vB _) ?_
 by_cases hc1 : a0 ≥ 97
 ·rw [if_pos hc1] at H
  refine a_move (v := gV (.int .u8 _)) ?_ (hg := Gs.yes rfl rfl rfl (decide_eq_true hc1))
  refine a_int (u := .bool (decide (a0 ≤ 122))) ?_ (hg := Gs.yes rfl rfl rfl (decide_eq_true hc1))
  refine a_pick (b := true) (v := vB _) ?_ (decide_eq_true hc1)
  refine a_move (v := vB _) ?_
  refine RA.nil nofun ?_
  refine AG.ret ?_
  obtain rfl := Option.some.inj H
  exact RetP.mk id ⟨rfl, trivial⟩ trivial rfl
 ·rw [if_neg hc1] at H
  refine RA.skip rfl rfl rfl rfl rfl (decide_eq_false hc1) (by decide) ?_
  refine RA.skip rfl rfl rfl rfl rfl (decide_eq_false hc1) (by decide) ?_
  refine a_pick (b := false) (v := vB _) ?_ (decide_eq_false hc1)
  refine a_move (v := vB _) ?_
  refine RA.nil nofun ?_
  refine AG.ret ?_
  obtain rfl := Option.some.inj H
  exact RetP.mk id ⟨rfl, trivial⟩ trivial rfl
/-! ### spec_l01Digit: function 73 -/
def spec_l01Digit.f (a0 : Int) : Option (Bool) := if a0 ≥ 48 then (some (decide (a0 ≤ 57))) else (some false)
set_option maxRecDepth 100000 in
theorem spec_l01Digit.ok {a0 : Int} {r : Bool} (H : spec_l01Digit.f a0 = some r) : OkF Tryz.prog 73 [.c (.d (.v (.int .u8 a0)))] [] (.c (.d (.v (.bool r)))) [] := by
 unfold spec_l01Digit.f at H
 refine OkF.of (N := 9) (rs := [2]) (avs := [.c (.d (.v (.bool r)))]) Tryz.func73 rfl rfl (fun _ _ => results_tmp rfl _ _ _) (by decide) rfl rfl rfl rfl (fun w0 S => ?_)
 refine AG.seq ?_
 refine AG.region HM ?_
 refine a_move (v := vB _) ?_
 refine RA.nil nofun ?_
 refine AG.seq ?_
 refine AG.region HM ?_
 refine a_move (v := gV (.int .u8 _)) ?_
 refine a_int (u := .bool (decide (a0 ≥ 48))) ?_
 refine a_move (v := vB _) ?_
 by_cases hc1 : a0 ≥ 48
 ·rw [if_pos hc1] at H
  refine a_move (v := gV (.int .u8 _)) ?_ (hg := Gs.yes rfl rfl rfl (decide_eq_true hc1))
  refine a_int (u := .bool (decide (a0 ≤ 57))) ?_ (hg := Gs.yes rfl rfl rfl (decide_eq_true hc1))
  refine a_pick (b := true) (v := vB _) ?_ (decide_eq_true hc1)
  refine a_move (v := vB _) ?_
  refine RA.nil nofun ?_
  refine AG.ret ?_
  obtain rfl := Option.some.inj H
  exact RetP.mk id ⟨rfl, trivial⟩ trivial rfl
 ·rw [if_neg hc1] at H
  refine RA.skip rfl rfl rfl rfl rfl (decide_eq_false hc1) (by decide) ?_
  refine RA.skip rfl rfl rfl rfl rfl (decide_eq_false hc1) (by decide) ?_
  refine a_pick (b := false) (v := vB _) ?_ (decide_eq_false hc1)
  refine a_move (v := vB _) ?_
  refine RA.nil nofun ?_
  refine AG.ret ?_
  obtain rfl := Option.some.inj H
  exact RetP.mk id ⟨rfl, trivial⟩ trivial rfl
/-! ### spec_l01Name: function 42 -/
mutual
def spec_l01Name.j0 : Nat → ByteArray → Bool → Option (Bool)
 | 0, _, _ => none
 | k + 1, x0, x16 => if x16 = true then (some false) else (spec_l01Name.l0 k x0 0)
def spec_l01Name.l0 : Nat → ByteArray → Int → Option (Bool)
 | 0, _, _ => none
 | k + 1, x0, x3 => if x3 < (x0.size : Int) then (if 0 ≤ x3 then ((spec_l01Small.f (bt x0 x3)).bind fun t9 => (if t9 = true then (spec_l01Name.l0 k x0 (wrap64 (x3 + 1))) else ((spec_l01Digit.f (bt x0 x3)).bind fun t12 => (if t12 = true then (spec_l01Name.l0 k x0 (wrap64 (x3 + 1))) else (some false))))) else (none)) else (some true)
end
def spec_l01Name.f (k : Nat) (a0 : ByteArray) : Option (Bool) := if a0.toList = (⟨#[]⟩ : ByteArray).toList then (spec_l01Name.j0 k a0 true) else (if (a0.size : Int) > 10 then (spec_l01Name.j0 k a0 true) else (if 0 < (a0.size : Int) then ((spec_l01Small.f (bt a0 0)).bind fun t4 => (spec_l01Name.j0 k a0 (!t4))) else (none)))
set_option maxRecDepth 100000 in
theorem spec_l01Name.ok {k : Nat} {a0 : ByteArray} {r : Bool} (H : spec_l01Name.f k a0 = some r) : OkF Tryz.prog 42 [vS a0] [] (.c (.d (.v (.bool r)))) [] := by
 unfold spec_l01Name.f at H
 refine OkF.of (N := 35) (rs := [2]) (avs := [.c (.d (.v (.bool r)))]) Tryz.func42 rfl rfl (fun _ _ => results_tmp rfl _ _ _) (by decide) rfl rfl rfl rfl (fun w0 S => ?_)
 refine AG.seq ?_
 refine AG.region HM ?_
 refine a_move (v := vB _) ?_
 refine RA.nil nofun ?_
 refine AG.seq ?_
 refine AG.seq ?_
 refine AG.joinR (fun s => ∃ q, q ≤ k ∧ ∃ (x0 : ByteArray) (x16 : Bool), spec_l01Name.j0 q x0 x16 = some r ∧ s = St.of [(0, vS x0), (16, vB x16)] []) ?_ ?_
 ·skip
  refine AG.region HM ?_
  refine a_move (v := vS _) ?_
  refine a_bin (u := .bool (a0.toList == (⟨#[]⟩ : ByteArray).toList)) ?_
  refine a_move (v := vB _) ?_
  by_cases hc1 : a0.toList = (⟨#[]⟩ : ByteArray).toList
  ·rw [if_pos hc1] at H
   refine RA.skip rfl rfl rfl rfl rfl (beq_iff_eq.2 hc1) (by decide) ?_
   refine RA.skip rfl rfl rfl rfl rfl (beq_iff_eq.2 hc1) (by decide) ?_
   refine RA.skip rfl rfl rfl rfl rfl (beq_iff_eq.2 hc1) (by decide) ?_
   refine a_pick (b := true) (v := vB _) ?_ (beq_iff_eq.2 hc1)
   refine a_move (v := vB _) ?_
   refine RA.skip rfl rfl rfl rfl rfl rfl (by decide) ?_
   refine RA.skip rfl rfl rfl rfl rfl rfl (by decide) ?_
   refine RA.skip rfl rfl rfl rfl rfl rfl (by decide) ?_
   refine RA.skip rfl rfl rfl rfl rfl rfl (by decide) ?_
   refine a_pick (b := true) (v := vB _) ?_ rfl
   refine RA.nil nofun ?_
   exact CanR.mk id ⟨_, (by omega), _, _, H, rfl⟩ ⟨rfl, rfl, trivial⟩ trivial rfl
  ·rw [if_neg hc1] at H
   refine a_move (v := vS _) ?_ (hg := Gs.yes rfl rfl rfl (beq_eq_false_iff_ne.2 hc1))
   refine a_lenS ?_ Tryz.underlying9 (hg := Gs.yes rfl rfl rfl (beq_eq_false_iff_ne.2 hc1))
   refine a_int (u := .bool (decide ((a0.size : Int) > 10))) ?_ (hg := Gs.yes rfl rfl rfl (beq_eq_false_iff_ne.2 hc1))
   refine a_pick (b := false) (v := vB _) ?_ (beq_eq_false_iff_ne.2 hc1)
   refine a_move (v := vB _) ?_
   by_cases hc2 : (a0.size : Int) > 10
   ·rw [if_pos hc2] at H
    refine RA.skip rfl rfl rfl rfl rfl (decide_eq_true hc2) (by decide) ?_
    refine RA.skip rfl rfl rfl rfl rfl (decide_eq_true hc2) (by decide) ?_
    refine RA.skip rfl rfl rfl rfl rfl (decide_eq_true hc2) (by decide) ?_
    refine RA.skip rfl rfl rfl rfl rfl (decide_eq_true hc2) (by decide) ?_
    refine a_pick (b := true) (v := vB _) ?_ (decide_eq_true hc2)
    refine RA.nil nofun ?_
    exact CanR.mk id ⟨_, (by omega), _, _, H, rfl⟩ ⟨rfl, rfl, trivial⟩ trivial rfl
   ·rw [if_neg hc2] at H
    refine a_move (v := vS _) ?_ (hg := Gs.yes rfl rfl rfl (decide_eq_false hc2))
    by_cases hc3 : 0 < (a0.size : Int)
    ·rw [if_pos hc3] at H
     refine a_str ?_ ⟨(by decide), hc3⟩ Tryz.underlying9 (hg := Gs.yes rfl rfl rfl (decide_eq_false hc2))
     obtain ⟨t4, e5, H⟩ := bindO H
     refine a_call (v := vB t4) (nk := []) (L := []) ?_ rfl (spec_l01Small.ok e5) id (qd qn) trivial trivial trivial rfl (hg := Gs.yes rfl rfl rfl (decide_eq_false hc2))
     refine a_un (u := .bool (!t4)) ?_ (hg := Gs.yes rfl rfl rfl (decide_eq_false hc2))
     refine a_pick (b := false) (v := vB _) ?_ (decide_eq_false hc2)
     refine RA.nil nofun ?_
     exact CanR.mk id ⟨_, (by omega), _, _, H, rfl⟩ ⟨rfl, rfl, trivial⟩ trivial rfl
    ·rw [if_neg hc3] at H
     cases H
 ·clear H
  rintro _ ⟨k, hj0, x0, x16, H, rfl⟩
  cases k with
  | zero => cases H
  | succ k =>
   rw [spec_l01Name.j0] at H
   by_cases hc6 : x16 = true
   ·rw [if_pos hc6] at H
    refine AG.yes rfl hc6 ?_
    refine AG.seq ?_
    refine AG.region HM ?_
    refine a_move (v := vB _) ?_
    refine RA.nil nofun ?_
    refine AG.ret ?_
    obtain rfl := Option.some.inj H
    exact RetP.mk id ⟨rfl, trivial⟩ trivial rfl
   ·rw [if_neg hc6] at H
    refine AG.no rfl (Bool.eq_false_iff.2 hc6) ?_
    refine AG.skip ?_
    refine AG.seq ?_
    refine AG.seq ?_
    refine AG.region HM ?_
    refine a_move (v := vI _) ?_
    refine RA.nil nofun ?_
    refine AG.block ?_
    refine AG.loop ?_
    obtain ⟨K0, hK0, gK0⟩ : ∃ K, k ≤ K ∧ K ≤ k := ⟨k, Nat.le_refl k, Nat.le_refl k⟩
    refine AGr.canon id (AGr.loopI (n := k) (fun k s => k ≤ K0 ∧ ∃ (x0 : ByteArray) (x3 : Int), spec_l01Name.l0 k x0 x3 = some r ∧ s = St.of [(0, vS x0), (3, vI x3)] []) ⟨hK0, _, _, H, rfl⟩ ?_ ?_) ⟨rfl, rfl, trivial⟩ trivial rfl
    ·rintro _ ⟨_, _, _, H, _⟩
     cases H
    ·clear H hK0
     rintro k ih0 _ ⟨hK0, x0, x3, H, rfl⟩
     unfold spec_l01Name.l0 at H
     refine AG.seq ?_
     refine AG.seq ?_
     refine AG.region HM ?_
     refine a_move (v := vI _) ?_
     refine a_move (v := vS _) ?_
     refine a_lenS ?_ Tryz.underlying9
     refine a_int (u := .bool (decide (x3 < (x0.size : Int)))) ?_
     refine RA.nil nofun ?_
     by_cases hc7 : x3 < (x0.size : Int)
     ·rw [if_pos hc7] at H
      refine AG.yes rfl (decide_eq_true hc7) ?_
      refine AG.skip ?_
      refine AG.seq ?_
      refine AG.block ?_
      refine AG.seq ?_
      refine AG.region HM ?_
      refine a_move (v := vS _) ?_
      refine a_move (v := vI _) ?_
      by_cases hc8 : 0 ≤ x3
      ·rw [if_pos hc8] at H
       refine a_str ?_ ⟨hc8, hc7⟩ Tryz.underlying9
       obtain ⟨t9, e10, H⟩ := bindO H
       refine a_call (v := vB t9) (nk := []) (L := []) ?_ rfl (spec_l01Small.ok e10) id (qd qn) trivial trivial trivial rfl
       refine a_un (u := .bool (!t9)) ?_
       refine a_move (v := vB _) ?_
       by_cases hc11 : t9 = true
       ·rw [if_pos hc11] at H
        refine RA.skip rfl rfl rfl rfl rfl (congrArg Bool.not hc11) (by decide) ?_
        refine RA.skip rfl rfl rfl rfl rfl (congrArg Bool.not hc11) (by decide) ?_
        refine RA.skip rfl rfl rfl rfl rfl (congrArg Bool.not hc11) (by decide) ?_
        refine RA.skip rfl rfl rfl rfl rfl (congrArg Bool.not hc11) (by decide) ?_
        refine RA.skip rfl rfl rfl rfl rfl (congrArg Bool.not hc11) (by decide) ?_
        refine a_pick (b := false) (v := vB _) ?_ (congrArg Bool.not hc11)
        refine RA.nil nofun ?_
        refine AG.no rfl rfl ?_
        refine AG.skip ?_
        refine AG.region HM ?_
        refine a_move (v := vI _) ?_
        refine a_int (u := .int .i64 (wrap64 (x3 + 1))) ?_
        refine a_move (v := vI _) ?_
        refine RA.nil nofun ?_
        exact AGr.canon id (ih0 _ (by omega) _ ⟨by omega, _, _, H, rfl⟩) ⟨rfl, rfl, trivial⟩ trivial rfl
       ·rw [if_neg hc11] at H
        refine a_move (v := vS _) ?_ (hg := Gs.yes rfl rfl rfl (congrArg Bool.not (Bool.eq_false_iff.2 hc11)))
        refine a_move (v := vI _) ?_ (hg := Gs.yes rfl rfl rfl (congrArg Bool.not (Bool.eq_false_iff.2 hc11)))
        refine a_str ?_ ⟨hc8, hc7⟩ Tryz.underlying9 (hg := Gs.yes rfl rfl rfl (congrArg Bool.not (Bool.eq_false_iff.2 hc11)))
        obtain ⟨t12, e13, H⟩ := bindO H
        refine a_call (v := vB t12) (nk := []) (L := []) ?_ rfl (spec_l01Digit.ok e13) id (qd qn) trivial trivial trivial rfl (hg := Gs.yes rfl rfl rfl (congrArg Bool.not (Bool.eq_false_iff.2 hc11)))
        refine a_un (u := .bool (!t12)) ?_ (hg := Gs.yes rfl rfl rfl (congrArg Bool.not (Bool.eq_false_iff.2 hc11)))
        refine a_pick (b := true) (v := vB _) ?_ (congrArg Bool.not (Bool.eq_false_iff.2 hc11))
        refine RA.nil nofun ?_
        by_cases hc14 : t12 = true
        ·rw [if_pos hc14] at H
         refine AG.no rfl (congrArg Bool.not hc14) ?_
         refine AG.skip ?_
         refine AG.region HM ?_
         refine a_move (v := vI _) ?_
         refine a_int (u := .int .i64 (wrap64 (x3 + 1))) ?_
         refine a_move (v := vI _) ?_
         refine RA.nil nofun ?_
         exact AGr.canon id (ih0 _ (by omega) _ ⟨by omega, _, _, H, rfl⟩) ⟨rfl, rfl, trivial⟩ trivial rfl
        ·rw [if_neg hc14] at H
         refine AG.yes rfl (congrArg Bool.not (Bool.eq_false_iff.2 hc14)) ?_
         refine AG.seq ?_
         refine AG.region HM ?_
         refine a_move (v := vB _) ?_
         refine RA.nil nofun ?_
         refine AG.ret ?_
         obtain rfl := Option.some.inj H
         exact RetP.mk id ⟨rfl, trivial⟩ trivial rfl
      ·rw [if_neg hc8] at H
       cases H
     ·rw [if_neg hc7] at H
      refine AG.no rfl (decide_eq_false hc7) ?_
      refine AG.exit ?_
      refine AG.seq ?_
      refine AG.region HM ?_
      refine a_move (v := vB _) ?_
      refine RA.nil nofun ?_
      refine AG.ret ?_
      obtain rfl := Option.some.inj H
      exact RetP.mk id ⟨rfl, trivial⟩ trivial rfl
/-! ### spec_l05Ring: function 43 -/
def spec_l05Ring.l0 : Nat → List S50 → List Int → List S50 → Int → Option ((List S50) × Bool)
 | 0, _, _, _, _ => none
 | k + 1, x0_2, x1, x6, x7 => if x7 < (x1.length : Int) then (if 0 ≤ x7 then ((spec_l00In.f (rd2 x1 x7) 0 (wrap64 ((x0_2.length : Int) - 1))).bind fun t4 => (if t4 = true then (if 0 ≤ (rd2 x1 x7) then (if (rd2 x1 x7) < (x0_2.length : Int) then (if x6.length < 8796093022208 then (spec_l05Ring.l0 k x0_2 x1 (x6 ++ [(⟨(rd50 x0_2 (rd2 x1 x7)).f0, (rd50 x0_2 (rd2 x1 x7)).f1⟩ : S50)]) (wrap64 (x7 + 1))) else (none)) else (none)) else (none)) else (some (([] : List S50), false)))) else (none)) else (some (x6, true))
def spec_l05Ring.f (k : Nat) (a0_0 : Int) (a0_1 : Int) (l0_2 : List S50) (l0_3 : List S72) (l1 : List Int) : Option ((List S50) × Bool) := spec_l05Ring.l0 k l0_2 l1 (([] : List S50) : List S50) 0
set_option maxRecDepth 100000 in
theorem spec_l05Ring.ok {k : Nat} {a0_0 : Int} {a0_1 : Int} {l0_2 : List S50} {l0_3 : List S72} {l1 : List Int} {r0 : List S50} {r1 : Bool} (H : spec_l05Ring.f k a0_0 a0_1 l0_2 l0_3 l1 = some (r0, r1)) : OkF Tryz.prog 43 [.c (.d (.ro [.v (.int .i64 a0_0), .v (.int .i64 a0_1), .row 51 (l0_2.map c50), .row 76 (l0_3.map c72)])), vR 2 (l1.map c2)] [] (.tup [.c (.own 100 r0.length), .c (.d (.v (.bool r1)))]) [(100, .row 51 (r0.map c50))] := by
 unfold spec_l05Ring.f at H
 refine OkF.of (N := 41) (rs := [4, 5]) (avs := [.c (.own 100 r0.length), .c (.d (.v (.bool r1)))]) Tryz.func43 rfl rfl (fun _ _ => results_tmp2 rfl _ _ _) (by decide) rfl rfl rfl rfl (fun w0 S => ?_)
 refine AG.seq ?_
 refine AG.region HM ?_
 refine a_nilO (e := 51) 200 ?_ T51
 refine a_move (v := vB _) ?_
 refine RA.nil nofun ?_
 refine AG.seq ?_
 refine AG.region HM ?_
 refine a_lit (cs := []) (D := []) (css := (([] : List S50) : List S50).map c50) 201 ?_ N30 T51 (hcss := by rfl)
 refine a_move (v := .c (.own _ _)) ?_
 refine RA.nil nofun ?_
 refine AG.seq ?_
 refine AG.seq ?_
 refine AG.region HM ?_
 refine a_move (v := vI _) ?_
 refine RA.nil nofun ?_
 refine AG.block ?_
 refine AG.loop ?_
 obtain ⟨K0, hK0, gK0⟩ : ∃ K, k ≤ K ∧ K ≤ k := ⟨k, Nat.le_refl k, Nat.le_refl k⟩
 refine AGr.canon (fun κ => cond (Nat.beq κ 202) 201 (κ)) (AGr.loopI (n := k) (fun k s => k ≤ K0 ∧ ∃ (x0_0 : Int) (x0_1 : Int) (x0_2 : List S50) (x0_3 : List S72) (x1 : List Int) (x6 : List S50) (x7 : Int), spec_l05Ring.l0 k x0_2 x1 x6 x7 = some (r0, r1) ∧ s = St.of [(0, .c (.d (.ro [.v (.int .i64 x0_0), .v (.int .i64 x0_1), .row 51 (x0_2.map c50), .row 76 (x0_3.map c72)]))), (1, vR 2 (x1.map c2)), (6, .c (.own 202 x6.length)), (7, vI x7)] [(202, .row 51 (x6.map c50))]) ⟨hK0, _, _, _, _, _, _, _, H, rfl⟩ ?_ ?_) ⟨rfl, rfl, (ownE rfl (by simp)), rfl, trivial⟩ ⟨rfl, trivial⟩ rfl
 ·rintro _ ⟨_, _, _, _, _, _, _, _, H, _⟩
  cases H
 ·clear H hK0
  rintro k ih0 _ ⟨hK0, x0_0, x0_1, x0_2, x0_3, x1, x6, x7, H, rfl⟩
  unfold spec_l05Ring.l0 at H
  refine AG.seq ?_
  refine AG.seq ?_
  refine AG.region HM ?_
  refine a_move (v := vI _) ?_
  refine a_move (v := vR _ _) ?_
  refine a_lenR ?_ Tryz.underlying27
  refine a_int (u := .bool (decide (x7 < (x1.length : Int)))) ?_
  refine RA.nil nofun ?_
  by_cases hc2 : x7 < (x1.length : Int)
  ·rw [if_pos hc2] at H
   refine AG.yes rfl (decide_eq_true hc2) ?_
   refine AG.skip ?_
   refine AG.seq ?_
   refine AG.block ?_
   refine AG.seq ?_
   refine AG.seq ?_
   refine AG.region HM ?_
   refine a_move (v := vR _ _) ?_
   refine a_move (v := vI _) ?_
   by_cases hc3 : 0 ≤ x7
   ·rw [if_pos hc3] at H
    refine a_ixR (el := c2 (rd2 x1 x7)) ?_ ⟨hc3, hc2⟩ T2 Tryz.underlying27 (hel := R2 hc3 hc2)
    refine a_ldR (v := vI _) ?_ T2
    refine a_move (v := vO [_, _, _, _]) ?_
    refine a_nil (v := vO [_, _, _, _]) ?_
    refine a_faR (cells' := [_, _]) ?_ D33_2
    refine a_ldR (v := vR _ _) ?_ T30
    refine a_lenR ?_ Tryz.underlying30
    refine a_int (u := .int .i64 (wrap64 ((x0_2.length : Int) - 1))) ?_
    obtain ⟨t4, e5, H⟩ := bindO H
    refine a_call (v := vB t4) (nk := []) (L := []) ?_ rfl (spec_l00In.ok e5) id (qd (qd (qd qn))) trivial trivial trivial rfl
    refine a_un (u := .bool (!t4)) ?_
    refine RA.nil (fun _ => by kernel_rfl) ?_
    by_cases hc6 : t4 = true
    ·rw [if_pos hc6] at H
     refine AG.no rfl (congrArg Bool.not hc6) ?_
     refine AG.skip ?_
     refine AG.region HM ?_
     refine a_move (v := .c (.own _ _)) ?_
     refine a_move (v := vO [_, _, _, _]) ?_
     refine a_nil (v := vO [_, _, _, _]) ?_
     refine a_faR (cells' := [_, _]) ?_ D33_2
     refine a_ldR (v := vR _ _) ?_ T30
     refine a_move (v := vR _ _) ?_
     refine a_move (v := vI _) ?_
     refine a_ixR (el := c2 (rd2 x1 x7)) ?_ ⟨hc3, hc2⟩ T2 Tryz.underlying27 (hel := R2 hc3 hc2)
     refine a_ldR (v := vI _) ?_ T2
     by_cases hc7 : 0 ≤ (rd2 x1 x7)
     ·rw [if_pos hc7] at H
      by_cases hc8 : (rd2 x1 x7) < (x0_2.length : Int)
      ·rw [if_pos hc8] at H
       refine a_ixR (el := c50 (rd50 x0_2 (rd2 x1 x7))) ?_ ⟨hc7, hc8⟩ T51 Tryz.underlying30 (hel := R50 hc7 hc8)
       refine a_ldR (v := .agg [_, _]) ?_ T51
       refine a_lit (cs := [_, _]) (D := []) (css := ([(⟨(rd50 x0_2 (rd2 x1 x7)).f0, (rd50 x0_2 (rd2 x1 x7)).f1⟩ : S50)]).map c50) 204 ?_ N30 T51
       by_cases hc9 : x6.length < 8796093022208
       ·rw [if_pos hc9] at H
        refine a_appO (css' := (x6 ++ [(⟨(rd50 x0_2 (rd2 x1 x7)).f0, (rd50 x0_2 (rd2 x1 x7)).f1⟩ : S50)]).map c50) (n' := (x6 ++ [(⟨(rd50 x0_2 (rd2 x1 x7)).f0, (rd50 x0_2 (rd2 x1 x7)).f1⟩ : S50)]).length) ?_ T51 (by simp [maxLen]; omega) (by simp; omega) Tryz.underlying30 (hc := by exact List.map_append.symm) (hn := by exact List.length_map _)
        refine a_move (v := .c (.own _ _)) ?_
        refine RA.nil (fun _ => by kernel_rfl) ?_
        refine AG.region HM ?_
        refine a_move (v := vI _) ?_
        refine a_int (u := .int .i64 (wrap64 (x7 + 1))) ?_
        refine a_move (v := vI _) ?_
        refine RA.nil nofun ?_
        exact AGr.canon id (ih0 _ (by omega) _ ⟨by omega, _, _, _, _, _, _, _, H, rfl⟩) ⟨rfl, rfl, rfl, rfl, trivial⟩ ⟨rfl, trivial⟩ rfl
       ·rw [if_neg hc9] at H
        cases H
      ·rw [if_neg hc8] at H
       cases H
     ·rw [if_neg hc7] at H
      cases H
    ·rw [if_neg hc6] at H
     refine AG.yes rfl (congrArg Bool.not (Bool.eq_false_iff.2 hc6)) ?_
     refine AG.seq ?_
     refine AG.region HM ?_
     refine a_nilO (e := 51) 205 ?_ T51
     refine a_move (v := vB _) ?_
     refine RA.nil nofun ?_
     refine AG.ret ?_
     simp only [Option.some.injEq, Prod.mk.injEq] at H
     obtain ⟨rfl, rfl⟩ := H
     exact RetP.mk (fun κ => cond (Nat.beq κ 100) 205 (κ)) ⟨(ownE rfl (by simp)), rfl, trivial⟩ ⟨rfl, trivial⟩ rfl
   ·rw [if_neg hc3] at H
    cases H
  ·rw [if_neg hc2] at H
   refine AG.no rfl (decide_eq_false hc2) ?_
   refine AG.exit ?_
   refine AG.seq ?_
   refine AG.region HM ?_
   refine a_move (v := .c (.own _ _)) ?_
   refine a_move (v := .c (.own _ _)) ?_
   refine a_move (v := vB _) ?_
   refine RA.nil nofun ?_
   refine AG.ret ?_
   simp only [Option.some.injEq, Prod.mk.injEq] at H
   obtain ⟨rfl, rfl⟩ := H
   exact RetP.mk (fun κ => cond (Nat.beq κ 100) 202 (κ)) ⟨rfl, rfl, trivial⟩ ⟨rfl, trivial⟩ rfl
/-! ### spec_l02Ok: function 74 -/
def spec_l02Ok.f (a0_0 : Int) (a0_1 : Int) : Option (Bool) := (spec_l00In.f a0_0 0 20000).bind fun t1 => (if t1 = true then ((spec_l00In.f a0_1 0 20000).bind fun t4 => (some t4)) else (some false))
set_option maxRecDepth 100000 in
theorem spec_l02Ok.ok {a0_0 : Int} {a0_1 : Int} {r : Bool} (H : spec_l02Ok.f a0_0 a0_1 = some r) : OkF Tryz.prog 74 [.agg [.d (.v (.int .i64 a0_0)), .d (.v (.int .i64 a0_1))]] [] (.c (.d (.v (.bool r)))) [] := by
 unfold spec_l02Ok.f at H
 refine OkF.of (N := 11) (rs := [2]) (avs := [.c (.d (.v (.bool r)))]) Tryz.func74 rfl rfl (fun _ _ => results_tmp rfl _ _ _) (by decide) rfl rfl rfl rfl (fun w0 S => ?_)
 refine AG.seq ?_
 refine AG.region HM ?_
 refine a_box 200 ?_
 refine a_move (v := vB _) ?_
 refine RA.nil nofun ?_
 refine AG.seq ?_
 refine AG.region HM ?_
 refine a_faB (q := 0) ?_ D51_0
 refine a_ldB (v := vI _) ?_ T2
 obtain ⟨t1, e2, H⟩ := bindO H
 refine a_call (v := vB t1) (nk := []) (L := []) ?_ rfl (spec_l00In.ok e2) id (qd (qd (qd qn))) trivial trivial trivial rfl
 refine a_move (v := vB _) ?_
 by_cases hc3 : t1 = true
 ·rw [if_pos hc3] at H
  refine a_faB (q := 1) ?_ D51_1 (hg := Gs.yes rfl rfl rfl hc3)
  refine a_ldB (v := vI _) ?_ T2 (hg := Gs.yes rfl rfl rfl hc3)
  obtain ⟨t4, e5, H⟩ := bindO H
  refine a_call (v := vB t4) (nk := []) (L := []) ?_ rfl (spec_l00In.ok e5) id (qd (qd (qd qn))) trivial trivial trivial rfl (hg := Gs.yes rfl rfl rfl hc3)
  refine a_pick (b := true) (v := vB _) ?_ hc3
  refine a_move (v := vB _) ?_
  refine RA.nil nofun ?_
  refine AG.ret ?_
  obtain rfl := Option.some.inj H
  exact RetP.mk id ⟨rfl, trivial⟩ trivial rfl
 ·rw [if_neg hc3] at H
  refine RA.skip rfl rfl rfl rfl rfl (Bool.eq_false_iff.2 hc3) (by decide) ?_
  refine RA.skip rfl rfl rfl rfl rfl (Bool.eq_false_iff.2 hc3) (by decide) ?_
  refine RA.skip rfl rfl rfl rfl rfl (Bool.eq_false_iff.2 hc3) (by decide) ?_
  refine a_pick (b := false) (v := vB _) ?_ (Bool.eq_false_iff.2 hc3)
  refine a_move (v := vB _) ?_
  refine RA.nil nofun ?_
  refine AG.ret ?_
  obtain rfl := Option.some.inj H
  exact RetP.mk id ⟨rfl, trivial⟩ trivial rfl
/-! ### spec_l00Min: function 48 -/
def spec_l00Min.f (a0 : Int) (a1 : Int) : Option (Int) := if a0 < a1 then (some a0) else (some a1)
set_option maxRecDepth 100000 in
theorem spec_l00Min.ok {a0 : Int} {a1 : Int} {r : Int} (H : spec_l00Min.f a0 a1 = some r) : OkF Tryz.prog 48 [vI a0, vI a1] [] (.c (.d (.v (.int .i64 r)))) [] := by
 unfold spec_l00Min.f at H
 refine OkF.of (N := 10) (rs := [4]) (avs := [.c (.d (.v (.int .i64 r)))]) Tryz.func48 rfl rfl (fun _ _ => results_tmp rfl _ _ _) (by decide) rfl rfl rfl rfl (fun w0 S => ?_)
 refine AG.seq ?_
 refine AG.region HM ?_
 refine a_move (v := vI _) ?_
 refine RA.nil nofun ?_
 refine AG.seq ?_
 refine AG.seq ?_
 refine AG.region HM ?_
 refine a_move (v := vI _) ?_
 refine a_move (v := vI _) ?_
 refine a_int (u := .bool (decide (a0 < a1))) ?_
 refine RA.nil nofun ?_
 by_cases hc1 : a0 < a1
 ·rw [if_pos hc1] at H
  refine AG.yes rfl (decide_eq_true hc1) ?_
  refine AG.seq ?_
  refine AG.region HM ?_
  refine a_move (v := vI _) ?_
  refine a_move (v := vI _) ?_
  refine RA.nil nofun ?_
  refine AG.ret ?_
  obtain rfl := Option.some.inj H
  exact RetP.mk id ⟨rfl, trivial⟩ trivial rfl
 ·rw [if_neg hc1] at H
  refine AG.no rfl (decide_eq_false hc1) ?_
  refine AG.skip ?_
  refine AG.seq ?_
  refine AG.region HM ?_
  refine a_move (v := vI _) ?_
  refine a_move (v := vI _) ?_
  refine RA.nil nofun ?_
  refine AG.ret ?_
  obtain rfl := Option.some.inj H
  exact RetP.mk id ⟨rfl, trivial⟩ trivial rfl
/-! ### spec_l02Cross: function 113 -/
def spec_l02Cross.f (a0_0 : Int) (a0_1 : Int) (a1_0 : Int) (a1_1 : Int) (a2_0 : Int) (a2_1 : Int) : Option (Int) := some (wrap64 ((wrap64 ((wrap64 (a1_0 - a0_0)) * (wrap64 (a2_1 - a0_1)))) - (wrap64 ((wrap64 (a1_1 - a0_1)) * (wrap64 (a2_0 - a0_0))))))
set_option maxRecDepth 100000 in
theorem spec_l02Cross.ok {a0_0 : Int} {a0_1 : Int} {a1_0 : Int} {a1_1 : Int} {a2_0 : Int} {a2_1 : Int} {r : Int} (H : spec_l02Cross.f a0_0 a0_1 a1_0 a1_1 a2_0 a2_1 = some r) : OkF Tryz.prog 113 [.agg [.d (.v (.int .i64 a0_0)), .d (.v (.int .i64 a0_1))], .agg [.d (.v (.int .i64 a1_0)), .d (.v (.int .i64 a1_1))], .agg [.d (.v (.int .i64 a2_0)), .d (.v (.int .i64 a2_1))]] [] (.c (.d (.v (.int .i64 r)))) [] := by
 unfold spec_l02Cross.f at H
 refine OkF.of (N := 30) (rs := [6]) (avs := [.c (.d (.v (.int .i64 r)))]) Tryz.func113 rfl rfl (fun _ _ => results_tmp rfl _ _ _) (by decide) rfl rfl rfl rfl (fun w0 S => ?_)
 refine AG.seq ?_
 refine AG.region HM ?_
 refine a_box 200 ?_
 refine a_box 201 ?_
 refine a_box 202 ?_
 refine a_move (v := vI _) ?_
 refine RA.nil nofun ?_
 refine AG.seq ?_
 refine AG.region HM ?_
 refine a_faB (q := 0) ?_ D51_0
 refine a_ldB (v := vI _) ?_ T2
 refine a_faB (q := 0) ?_ D51_0
 refine a_ldB (v := vI _) ?_ T2
 refine a_int (u := .int .i64 (wrap64 (a1_0 - a0_0))) ?_
 refine a_faB (q := 1) ?_ D51_1
 refine a_ldB (v := vI _) ?_ T2
 refine a_faB (q := 1) ?_ D51_1
 refine a_ldB (v := vI _) ?_ T2
 refine a_int (u := .int .i64 (wrap64 (a2_1 - a0_1))) ?_
 refine a_int (u := .int .i64 (wrap64 ((wrap64 (a1_0 - a0_0)) * (wrap64 (a2_1 - a0_1))))) ?_
 refine a_faB (q := 1) ?_ D51_1
 refine a_ldB (v := vI _) ?_ T2
 refine a_faB (q := 1) ?_ D51_1
 refine a_ldB (v := vI _) ?_ T2
 refine a_int (u := .int .i64 (wrap64 (a1_1 - a0_1))) ?_
 refine a_faB (q := 0) ?_ D51_0
 refine a_ldB (v := vI _) ?_ T2
 refine a_faB (q := 0) ?_ D51_0
 refine a_ldB (v := vI _) ?_ T2
 refine a_int (u := .int .i64 (wrap64 (a2_0 - a0_0))) ?_
 refine a_int (u := .int .i64 (wrap64 ((wrap64 (a1_1 - a0_1)) * (wrap64 (a2_0 - a0_0))))) ?_
 refine a_int (u := .int .i64 (wrap64 ((wrap64 ((wrap64 (a1_0 - a0_0)) * (wrap64 (a2_1 - a0_1)))) - (wrap64 ((wrap64 (a1_1 - a0_1)) * (wrap64 (a2_0 - a0_0))))))) ?_
 refine a_move (v := vI _) ?_
 refine RA.nil nofun ?_
 refine AG.ret ?_
 obtain rfl := Option.some.inj H
 exact RetP.mk id ⟨rfl, trivial⟩ trivial rfl
/-! ### spec_l02Side: function 93 -/
def spec_l02Side.f (a0_0 : Int) (a0_1 : Int) (a1_0 : Int) (a1_1 : Int) (a2_0 : Int) (a2_1 : Int) : Option (Int) := (spec_l02Cross.f a0_0 a0_1 a1_0 a1_1 a2_0 a2_1).bind fun t1 => (if t1 > 0 then (some 1) else (if t1 < 0 then (some (-1)) else (some 0)))
set_option maxRecDepth 100000 in
theorem spec_l02Side.ok {a0_0 : Int} {a0_1 : Int} {a1_0 : Int} {a1_1 : Int} {a2_0 : Int} {a2_1 : Int} {r : Int} (H : spec_l02Side.f a0_0 a0_1 a1_0 a1_1 a2_0 a2_1 = some r) : OkF Tryz.prog 93 [.agg [.d (.v (.int .i64 a0_0)), .d (.v (.int .i64 a0_1))], .agg [.d (.v (.int .i64 a1_0)), .d (.v (.int .i64 a1_1))], .agg [.d (.v (.int .i64 a2_0)), .d (.v (.int .i64 a2_1))]] [] (.c (.d (.v (.int .i64 r)))) [] := by
 unfold spec_l02Side.f at H
 refine OkF.of (N := 16) (rs := [6]) (avs := [.c (.d (.v (.int .i64 r)))]) Tryz.func93 rfl rfl (fun _ _ => results_tmp rfl _ _ _) (by decide) rfl rfl rfl rfl (fun w0 S => ?_)
 refine AG.seq ?_
 refine AG.region HM ?_
 refine a_box 200 ?_
 refine a_box 201 ?_
 refine a_box 202 ?_
 refine a_move (v := vI _) ?_
 refine RA.nil nofun ?_
 refine AG.seq ?_
 refine AG.region HM ?_
 refine a_ldB (v := .agg [_, _]) ?_ T51
 refine a_ldB (v := .agg [_, _]) ?_ T51
 refine a_ldB (v := .agg [_, _]) ?_ T51
 obtain ⟨t1, e2, H⟩ := bindO H
 refine a_call (v := vI t1) (nk := []) (L := []) ?_ rfl (spec_l02Cross.ok e2) id (qg (qg (qg qn))) trivial trivial trivial rfl
 refine a_move (v := vI _) ?_
 refine RA.nil nofun ?_
 refine AG.seq ?_
 refine AG.seq ?_
 refine AG.region HM ?_
 refine a_move (v := vI _) ?_
 refine a_int (u := .bool (decide (t1 > 0))) ?_
 refine RA.nil nofun ?_
 by_cases hc3 : t1 > 0
 ·rw [if_pos hc3] at H
  refine AG.yes rfl (decide_eq_true hc3) ?_
  refine AG.seq ?_
  refine AG.region HM ?_
  refine a_move (v := vI _) ?_
  refine RA.nil nofun ?_
  refine AG.ret ?_
  obtain rfl := Option.some.inj H
  exact RetP.mk id ⟨rfl, trivial⟩ trivial rfl
 ·rw [if_neg hc3] at H
  refine AG.no rfl (decide_eq_false hc3) ?_
  refine AG.skip ?_
  refine AG.seq ?_
  refine AG.seq ?_
  refine AG.region HM ?_
  refine a_move (v := vI _) ?_
  refine a_int (u := .bool (decide (t1 < 0))) ?_
  refine RA.nil nofun ?_
  by_cases hc4 : t1 < 0
  ·rw [if_pos hc4] at H
   refine AG.yes rfl (decide_eq_true hc4) ?_
   refine AG.seq ?_
   refine AG.region HM ?_
   refine a_move (v := vI _) ?_
   refine RA.nil nofun ?_
   refine AG.ret ?_
   obtain rfl := Option.some.inj H
   exact RetP.mk id ⟨rfl, trivial⟩ trivial rfl
  ·rw [if_neg hc4] at H
   refine AG.no rfl (decide_eq_false hc4) ?_
   refine AG.skip ?_
   refine AG.seq ?_
   refine AG.region HM ?_
   refine a_move (v := vI _) ?_
   refine RA.nil nofun ?_
   refine AG.ret ?_
   obtain rfl := Option.some.inj H
   exact RetP.mk id ⟨rfl, trivial⟩ trivial rfl
/-! ### spec_l00Max: function 94 -/
def spec_l00Max.f (a0 : Int) (a1 : Int) : Option (Int) := if a0 > a1 then (some a0) else (some a1)
set_option maxRecDepth 100000 in
theorem spec_l00Max.ok {a0 : Int} {a1 : Int} {r : Int} (H : spec_l00Max.f a0 a1 = some r) : OkF Tryz.prog 94 [vI a0, vI a1] [] (.c (.d (.v (.int .i64 r)))) [] := by
 unfold spec_l00Max.f at H
 refine OkF.of (N := 10) (rs := [4]) (avs := [.c (.d (.v (.int .i64 r)))]) Tryz.func94 rfl rfl (fun _ _ => results_tmp rfl _ _ _) (by decide) rfl rfl rfl rfl (fun w0 S => ?_)
 refine AG.seq ?_
 refine AG.region HM ?_
 refine a_move (v := vI _) ?_
 refine RA.nil nofun ?_
 refine AG.seq ?_
 refine AG.seq ?_
 refine AG.region HM ?_
 refine a_move (v := vI _) ?_
 refine a_move (v := vI _) ?_
 refine a_int (u := .bool (decide (a0 > a1))) ?_
 refine RA.nil nofun ?_
 by_cases hc1 : a0 > a1
 ·rw [if_pos hc1] at H
  refine AG.yes rfl (decide_eq_true hc1) ?_
  refine AG.seq ?_
  refine AG.region HM ?_
  refine a_move (v := vI _) ?_
  refine a_move (v := vI _) ?_
  refine RA.nil nofun ?_
  refine AG.ret ?_
  obtain rfl := Option.some.inj H
  exact RetP.mk id ⟨rfl, trivial⟩ trivial rfl
 ·rw [if_neg hc1] at H
  refine AG.no rfl (decide_eq_false hc1) ?_
  refine AG.skip ?_
  refine AG.seq ?_
  refine AG.region HM ?_
  refine a_move (v := vI _) ?_
  refine a_move (v := vI _) ?_
  refine RA.nil nofun ?_
  refine AG.ret ?_
  obtain rfl := Option.some.inj H
  exact RetP.mk id ⟨rfl, trivial⟩ trivial rfl
/-! ### spec_l02On: function 75 -/
def spec_l02On.f (a0_0 : Int) (a0_1 : Int) (a1_0 : Int) (a1_1 : Int) (a2_0 : Int) (a2_1 : Int) : Option (Bool) := (spec_l02Side.f a0_0 a0_1 a1_0 a1_1 a2_0 a2_1).bind fun t1 => (if t1 = 0 then ((spec_l00Min.f a0_0 a1_0).bind fun t4 => ((spec_l00Max.f a0_0 a1_0).bind fun t6 => ((spec_l00In.f a2_0 t4 t6).bind fun t8 => (if t8 = true then ((spec_l00Min.f a0_1 a1_1).bind fun t11 => ((spec_l00Max.f a0_1 a1_1).bind fun t13 => ((spec_l00In.f a2_1 t11 t13).bind fun t15 => (some t15)))) else (some false))))) else (some false))
set_option maxRecDepth 100000 in
theorem spec_l02On.ok {a0_0 : Int} {a0_1 : Int} {a1_0 : Int} {a1_1 : Int} {a2_0 : Int} {a2_1 : Int} {r : Bool} (H : spec_l02On.f a0_0 a0_1 a1_0 a1_1 a2_0 a2_1 = some r) : OkF Tryz.prog 75 [.agg [.d (.v (.int .i64 a0_0)), .d (.v (.int .i64 a0_1))], .agg [.d (.v (.int .i64 a1_0)), .d (.v (.int .i64 a1_1))], .agg [.d (.v (.int .i64 a2_0)), .d (.v (.int .i64 a2_1))]] [] (.c (.d (.v (.bool r)))) [] := by
 unfold spec_l02On.f at H
 refine OkF.of (N := 42) (rs := [6]) (avs := [.c (.d (.v (.bool r)))]) Tryz.func75 rfl rfl (fun _ _ => results_tmp rfl _ _ _) (by decide) rfl rfl rfl rfl (fun w0 S => ?_)
 refine AG.seq ?_
 refine AG.region HM ?_
 refine a_box 200 ?_
 refine a_box 201 ?_
 refine a_box 202 ?_
 refine a_move (v := vB _) ?_
 refine RA.nil nofun ?_
 refine AG.seq ?_
 refine AG.region HM ?_
 refine a_ldB (v := .agg [_, _]) ?_ T51
 refine a_ldB (v := .agg [_, _]) ?_ T51
 refine a_ldB (v := .agg [_, _]) ?_ T51
 obtain ⟨t1, e2, H⟩ := bindO H
 refine a_call (v := vI t1) (nk := []) (L := []) ?_ rfl (spec_l02Side.ok e2) id (qg (qg (qg qn))) trivial trivial trivial rfl
 refine a_int (u := .bool ((t1 == 0))) ?_
 refine a_move (v := vB _) ?_
 by_cases hc3 : t1 = 0
 ·rw [if_pos hc3] at H
  refine a_faB (q := 0) ?_ D51_0 (hg := Gs.yes rfl rfl rfl (beq_iff_eq.2 hc3))
  refine a_ldB (v := vI _) ?_ T2 (hg := Gs.yes rfl rfl rfl (beq_iff_eq.2 hc3))
  refine a_faB (q := 0) ?_ D51_0 (hg := Gs.yes rfl rfl rfl (beq_iff_eq.2 hc3))
  refine a_ldB (v := vI _) ?_ T2 (hg := Gs.yes rfl rfl rfl (beq_iff_eq.2 hc3))
  refine a_faB (q := 0) ?_ D51_0 (hg := Gs.yes rfl rfl rfl (beq_iff_eq.2 hc3))
  refine a_ldB (v := vI _) ?_ T2 (hg := Gs.yes rfl rfl rfl (beq_iff_eq.2 hc3))
  obtain ⟨t4, e5, H⟩ := bindO H
  refine a_call (v := vI t4) (nk := []) (L := []) ?_ rfl (spec_l00Min.ok e5) id (qd (qd qn)) trivial trivial trivial rfl (hg := Gs.yes rfl rfl rfl (beq_iff_eq.2 hc3))
  refine a_faB (q := 0) ?_ D51_0 (hg := Gs.yes rfl rfl rfl (beq_iff_eq.2 hc3))
  refine a_ldB (v := vI _) ?_ T2 (hg := Gs.yes rfl rfl rfl (beq_iff_eq.2 hc3))
  refine a_faB (q := 0) ?_ D51_0 (hg := Gs.yes rfl rfl rfl (beq_iff_eq.2 hc3))
  refine a_ldB (v := vI _) ?_ T2 (hg := Gs.yes rfl rfl rfl (beq_iff_eq.2 hc3))
  obtain ⟨t6, e7, H⟩ := bindO H
  refine a_call (v := vI t6) (nk := []) (L := []) ?_ rfl (spec_l00Max.ok e7) id (qd (qd qn)) trivial trivial trivial rfl (hg := Gs.yes rfl rfl rfl (beq_iff_eq.2 hc3))
  obtain ⟨t8, e9, H⟩ := bindO H
  refine a_call (v := vB t8) (nk := []) (L := []) ?_ rfl (spec_l00In.ok e9) id (qd (qd (qd qn))) trivial trivial trivial rfl (hg := Gs.yes rfl rfl rfl (beq_iff_eq.2 hc3))
  refine a_pick (b := true) (v := vB _) ?_ (beq_iff_eq.2 hc3)
  refine a_move (v := vB _) ?_
  by_cases hc10 : t8 = true
  ·rw [if_pos hc10] at H
   refine a_faB (q := 1) ?_ D51_1 (hg := Gs.yes rfl rfl rfl hc10)
   refine a_ldB (v := vI _) ?_ T2 (hg := Gs.yes rfl rfl rfl hc10)
   refine a_faB (q := 1) ?_ D51_1 (hg := Gs.yes rfl rfl rfl hc10)
   refine a_ldB (v := vI _) ?_ T2 (hg := Gs.yes rfl rfl rfl hc10)
   refine a_faB (q := 1) ?_ D51_1 (hg := Gs.yes rfl rfl rfl hc10)
   refine a_ldB (v := vI _) ?_ T2 (hg := Gs.yes rfl rfl rfl hc10)
   obtain ⟨t11, e12, H⟩ := bindO H
   refine a_call (v := vI t11) (nk := []) (L := []) ?_ rfl (spec_l00Min.ok e12) id (qd (qd qn)) trivial trivial trivial rfl (hg := Gs.yes rfl rfl rfl hc10)
   refine a_faB (q := 1) ?_ D51_1 (hg := Gs.yes rfl rfl rfl hc10)
   refine a_ldB (v := vI _) ?_ T2 (hg := Gs.yes rfl rfl rfl hc10)
   refine a_faB (q := 1) ?_ D51_1 (hg := Gs.yes rfl rfl rfl hc10)
   refine a_ldB (v := vI _) ?_ T2 (hg := Gs.yes rfl rfl rfl hc10)
   obtain ⟨t13, e14, H⟩ := bindO H
   refine a_call (v := vI t13) (nk := []) (L := []) ?_ rfl (spec_l00Max.ok e14) id (qd (qd qn)) trivial trivial trivial rfl (hg := Gs.yes rfl rfl rfl hc10)
   obtain ⟨t15, e16, H⟩ := bindO H
   refine a_call (v := vB t15) (nk := []) (L := []) ?_ rfl (spec_l00In.ok e16) id (qd (qd (qd qn))) trivial trivial trivial rfl (hg := Gs.yes rfl rfl rfl hc10)
   refine a_pick (b := true) (v := vB _) ?_ hc10
   refine a_move (v := vB _) ?_
   refine RA.nil (fun _ => by kernel_rfl) ?_
   refine AG.ret ?_
   obtain rfl := Option.some.inj H
   exact RetP.mk id ⟨rfl, trivial⟩ trivial rfl
  ·rw [if_neg hc10] at H
   refine RA.skip rfl rfl rfl rfl rfl (Bool.eq_false_iff.2 hc10) (by decide) ?_
   refine RA.skip rfl rfl rfl rfl rfl (Bool.eq_false_iff.2 hc10) (by decide) ?_
   refine RA.skip rfl rfl rfl rfl rfl (Bool.eq_false_iff.2 hc10) (by decide) ?_
   refine RA.skip rfl rfl rfl rfl rfl (Bool.eq_false_iff.2 hc10) (by decide) ?_
   refine RA.skip rfl rfl rfl rfl rfl (Bool.eq_false_iff.2 hc10) (by decide) ?_
   refine RA.skip rfl rfl rfl rfl rfl (Bool.eq_false_iff.2 hc10) (by decide) ?_
   refine RA.skip rfl rfl rfl rfl rfl (Bool.eq_false_iff.2 hc10) (by decide) ?_
   refine RA.skip rfl rfl rfl rfl rfl (Bool.eq_false_iff.2 hc10) (by decide) ?_
   refine RA.skip rfl rfl rfl rfl rfl (Bool.eq_false_iff.2 hc10) (by decide) ?_
   refine RA.skip rfl rfl rfl rfl rfl (Bool.eq_false_iff.2 hc10) (by decide) ?_
   refine RA.skip rfl rfl rfl rfl rfl (Bool.eq_false_iff.2 hc10) (by decide) ?_
   refine RA.skip rfl rfl rfl rfl rfl (Bool.eq_false_iff.2 hc10) (by decide) ?_
   refine RA.skip rfl rfl rfl rfl rfl (Bool.eq_false_iff.2 hc10) (by decide) ?_
   refine a_pick (b := false) (v := vB _) ?_ (Bool.eq_false_iff.2 hc10)
   refine a_move (v := vB _) ?_
   refine RA.nil (fun _ => by kernel_rfl) ?_
   refine AG.ret ?_
   obtain rfl := Option.some.inj H
   exact RetP.mk id ⟨rfl, trivial⟩ trivial rfl
 ·rw [if_neg hc3] at H
  refine RA.skip rfl rfl rfl rfl rfl (beq_eq_false_iff_ne.2 hc3) (by decide) ?_
  refine RA.skip rfl rfl rfl rfl rfl (beq_eq_false_iff_ne.2 hc3) (by decide) ?_
  refine RA.skip rfl rfl rfl rfl rfl (beq_eq_false_iff_ne.2 hc3) (by decide) ?_
  refine RA.skip rfl rfl rfl rfl rfl (beq_eq_false_iff_ne.2 hc3) (by decide) ?_
  refine RA.skip rfl rfl rfl rfl rfl (beq_eq_false_iff_ne.2 hc3) (by decide) ?_
  refine RA.skip rfl rfl rfl rfl rfl (beq_eq_false_iff_ne.2 hc3) (by decide) ?_
  refine RA.skip rfl rfl rfl rfl rfl (beq_eq_false_iff_ne.2 hc3) (by decide) ?_
  refine RA.skip rfl rfl rfl rfl rfl (beq_eq_false_iff_ne.2 hc3) (by decide) ?_
  refine RA.skip rfl rfl rfl rfl rfl (beq_eq_false_iff_ne.2 hc3) (by decide) ?_
  refine RA.skip rfl rfl rfl rfl rfl (beq_eq_false_iff_ne.2 hc3) (by decide) ?_
  refine RA.skip rfl rfl rfl rfl rfl (beq_eq_false_iff_ne.2 hc3) (by decide) ?_
  refine RA.skip rfl rfl rfl rfl rfl (beq_eq_false_iff_ne.2 hc3) (by decide) ?_
  refine RA.skip rfl rfl rfl rfl rfl (beq_eq_false_iff_ne.2 hc3) (by decide) ?_
  refine a_pick (b := false) (v := vB _) ?_ (beq_eq_false_iff_ne.2 hc3)
  refine a_move (v := vB _) ?_
  refine RA.skip rfl rfl rfl rfl rfl rfl (by decide) ?_
  refine RA.skip rfl rfl rfl rfl rfl rfl (by decide) ?_
  refine RA.skip rfl rfl rfl rfl rfl rfl (by decide) ?_
  refine RA.skip rfl rfl rfl rfl rfl rfl (by decide) ?_
  refine RA.skip rfl rfl rfl rfl rfl rfl (by decide) ?_
  refine RA.skip rfl rfl rfl rfl rfl rfl (by decide) ?_
  refine RA.skip rfl rfl rfl rfl rfl rfl (by decide) ?_
  refine RA.skip rfl rfl rfl rfl rfl rfl (by decide) ?_
  refine RA.skip rfl rfl rfl rfl rfl rfl (by decide) ?_
  refine RA.skip rfl rfl rfl rfl rfl rfl (by decide) ?_
  refine RA.skip rfl rfl rfl rfl rfl rfl (by decide) ?_
  refine RA.skip rfl rfl rfl rfl rfl rfl (by decide) ?_
  refine RA.skip rfl rfl rfl rfl rfl rfl (by decide) ?_
  refine a_pick (b := false) (v := vB _) ?_ rfl
  refine a_move (v := vB _) ?_
  refine RA.nil (fun _ => by kernel_rfl) ?_
  refine AG.ret ?_
  obtain rfl := Option.some.inj H
  exact RetP.mk id ⟨rfl, trivial⟩ trivial rfl
/-! ### spec_l02Crosses: function 95 -/
def spec_l02Crosses.f (a0_0 : Int) (a0_1 : Int) (a1_0 : Int) (a1_1 : Int) (a2_0 : Int) (a2_1 : Int) (a3_0 : Int) (a3_1 : Int) : Option (Bool) := (spec_l02Side.f a0_0 a0_1 a1_0 a1_1 a2_0 a2_1).bind fun t1 => ((spec_l02Side.f a0_0 a0_1 a1_0 a1_1 a3_0 a3_1).bind fun t3 => (if (wrap64 (t1 * t3)) < 0 then ((spec_l02Side.f a2_0 a2_1 a3_0 a3_1 a0_0 a0_1).bind fun t6 => ((spec_l02Side.f a2_0 a2_1 a3_0 a3_1 a1_0 a1_1).bind fun t8 => (some (decide ((wrap64 (t6 * t8)) < 0))))) else (some false)))
set_option maxRecDepth 100000 in
theorem spec_l02Crosses.ok {a0_0 : Int} {a0_1 : Int} {a1_0 : Int} {a1_1 : Int} {a2_0 : Int} {a2_1 : Int} {a3_0 : Int} {a3_1 : Int} {r : Bool} (H : spec_l02Crosses.f a0_0 a0_1 a1_0 a1_1 a2_0 a2_1 a3_0 a3_1 = some r) : OkF Tryz.prog 95 [.agg [.d (.v (.int .i64 a0_0)), .d (.v (.int .i64 a0_1))], .agg [.d (.v (.int .i64 a1_0)), .d (.v (.int .i64 a1_1))], .agg [.d (.v (.int .i64 a2_0)), .d (.v (.int .i64 a2_1))], .agg [.d (.v (.int .i64 a3_0)), .d (.v (.int .i64 a3_1))]] [] (.c (.d (.v (.bool r)))) [] := by
 unfold spec_l02Crosses.f at H
 refine OkF.of (N := 31) (rs := [8]) (avs := [.c (.d (.v (.bool r)))]) Tryz.func95 rfl rfl (fun _ _ => results_tmp rfl _ _ _) (by decide) rfl rfl rfl rfl (fun w0 S => ?_)
 refine AG.seq ?_
 refine AG.region HM ?_
 refine a_box 200 ?_
 refine a_box 201 ?_
 refine a_box 202 ?_
 refine a_box 203 ?_
 refine a_move (v := vB _) ?_
 refine RA.nil nofun ?_
 refine AG.seq ?_
 refine AG.region HM ?_
 refine a_ldB (v := .agg [_, _]) ?_ T51
 refine a_ldB (v := .agg [_, _]) ?_ T51
 refine a_ldB (v := .agg [_, _]) ?_ T51
 obtain ⟨t1, e2, H⟩ := bindO H
 refine a_call (v := vI t1) (nk := []) (L := []) ?_ rfl (spec_l02Side.ok e2) id (qg (qg (qg qn))) trivial trivial trivial rfl
 refine a_ldB (v := .agg [_, _]) ?_ T51
 refine a_ldB (v := .agg [_, _]) ?_ T51
 refine a_ldB (v := .agg [_, _]) ?_ T51
 obtain ⟨t3, e4, H⟩ := bindO H
 refine a_call (v := vI t3) (nk := []) (L := []) ?_ rfl (spec_l02Side.ok e4) id (qg (qg (qg qn))) trivial trivial trivial rfl
 refine a_int (u := .int .i64 (wrap64 (t1 * t3))) ?_
 refine a_int (u := .bool (decide ((wrap64 (t1 * t3)) < 0))) ?_
 refine a_move (v := vB _) ?_
 by_cases hc5 : (wrap64 (t1 * t3)) < 0
 ·rw [if_pos hc5] at H
  refine a_ldB (v := .agg [_, _]) ?_ T51 (hg := Gs.yes rfl rfl rfl (decide_eq_true hc5))
  refine a_ldB (v := .agg [_, _]) ?_ T51 (hg := Gs.yes rfl rfl rfl (decide_eq_true hc5))
  refine a_ldB (v := .agg [_, _]) ?_ T51 (hg := Gs.yes rfl rfl rfl (decide_eq_true hc5))
  obtain ⟨t6, e7, H⟩ := bindO H
  refine a_call (v := vI t6) (nk := []) (L := []) ?_ rfl (spec_l02Side.ok e7) id (qg (qg (qg qn))) trivial trivial trivial rfl (hg := Gs.yes rfl rfl rfl (decide_eq_true hc5))
  refine a_ldB (v := .agg [_, _]) ?_ T51 (hg := Gs.yes rfl rfl rfl (decide_eq_true hc5))
  refine a_ldB (v := .agg [_, _]) ?_ T51 (hg := Gs.yes rfl rfl rfl (decide_eq_true hc5))
  refine a_ldB (v := .agg [_, _]) ?_ T51 (hg := Gs.yes rfl rfl rfl (decide_eq_true hc5))
  obtain ⟨t8, e9, H⟩ := bindO H
  refine a_call (v := vI t8) (nk := []) (L := []) ?_ rfl (spec_l02Side.ok e9) id (qg (qg (qg qn))) trivial trivial trivial rfl (hg := Gs.yes rfl rfl rfl (decide_eq_true hc5))
  refine a_int (u := .int .i64 (wrap64 (t6 * t8))) ?_ (hg := Gs.yes rfl rfl rfl (decide_eq_true hc5))
  refine a_int (u := .bool (decide ((wrap64 (t6 * t8)) < 0))) ?_ (hg := Gs.yes rfl rfl rfl (decide_eq_true hc5))
  refine a_pick (b := true) (v := vB _) ?_ (decide_eq_true hc5)
  refine a_move (v := vB _) ?_
  refine RA.nil (fun _ => by kernel_rfl) ?_
  refine AG.ret ?_
  obtain rfl := Option.some.inj H
  exact RetP.mk id ⟨rfl, trivial⟩ trivial rfl
 ·rw [if_neg hc5] at H
  refine RA.skip rfl rfl rfl rfl rfl (decide_eq_false hc5) (by decide) ?_
  refine RA.skip rfl rfl rfl rfl rfl (decide_eq_false hc5) (by decide) ?_
  refine RA.skip rfl rfl rfl rfl rfl (decide_eq_false hc5) (by decide) ?_
  refine RA.skip rfl rfl rfl rfl rfl (decide_eq_false hc5) (by decide) ?_
  refine RA.skip rfl rfl rfl rfl rfl (decide_eq_false hc5) (by decide) ?_
  refine RA.skip rfl rfl rfl rfl rfl (decide_eq_false hc5) (by decide) ?_
  refine RA.skip rfl rfl rfl rfl rfl (decide_eq_false hc5) (by decide) ?_
  refine RA.skip rfl rfl rfl rfl rfl (decide_eq_false hc5) (by decide) ?_
  refine RA.skip rfl rfl rfl rfl rfl (decide_eq_false hc5) (by decide) ?_
  refine RA.skip rfl rfl rfl rfl rfl (decide_eq_false hc5) (by decide) ?_
  refine a_pick (b := false) (v := vB _) ?_ (decide_eq_false hc5)
  refine a_move (v := vB _) ?_
  refine RA.nil (fun _ => by kernel_rfl) ?_
  refine AG.ret ?_
  obtain rfl := Option.some.inj H
  exact RetP.mk id ⟨rfl, trivial⟩ trivial rfl
/-! ### spec_l03Meet: function 76 -/
def spec_l03Meet.f (a0_0 : Int) (a0_1 : Int) (a1_0 : Int) (a1_1 : Int) (a2_0 : Int) (a2_1 : Int) (a3_0 : Int) (a3_1 : Int) : Option (Bool) := (spec_l02Crosses.f a0_0 a0_1 a1_0 a1_1 a2_0 a2_1 a3_0 a3_1).bind fun t1 => (if t1 = true then (some true) else ((spec_l02On.f a0_0 a0_1 a1_0 a1_1 a2_0 a2_1).bind fun t4 => (if t4 = true then (some true) else ((spec_l02On.f a0_0 a0_1 a1_0 a1_1 a3_0 a3_1).bind fun t7 => (if t7 = true then (some true) else ((spec_l02On.f a2_0 a2_1 a3_0 a3_1 a0_0 a0_1).bind fun t10 => (if t10 = true then (some true) else ((spec_l02On.f a2_0 a2_1 a3_0 a3_1 a1_0 a1_1).bind fun t13 => (some t13)))))))))
set_option maxRecDepth 100000 in
theorem spec_l03Meet.ok {a0_0 : Int} {a0_1 : Int} {a1_0 : Int} {a1_1 : Int} {a2_0 : Int} {a2_1 : Int} {a3_0 : Int} {a3_1 : Int} {r : Bool} (H : spec_l03Meet.f a0_0 a0_1 a1_0 a1_1 a2_0 a2_1 a3_0 a3_1 = some r) : OkF Tryz.prog 76 [.agg [.d (.v (.int .i64 a0_0)), .d (.v (.int .i64 a0_1))], .agg [.d (.v (.int .i64 a1_0)), .d (.v (.int .i64 a1_1))], .agg [.d (.v (.int .i64 a2_0)), .d (.v (.int .i64 a2_1))], .agg [.d (.v (.int .i64 a3_0)), .d (.v (.int .i64 a3_1))]] [] (.c (.d (.v (.bool r)))) [] := by
 unfold spec_l03Meet.f at H
 refine OkF.of (N := 38) (rs := [8]) (avs := [.c (.d (.v (.bool r)))]) Tryz.func76 rfl rfl (fun _ _ => results_tmp rfl _ _ _) (by decide) rfl rfl rfl rfl (fun w0 S => ?_)
 refine AG.seq ?_
 refine AG.region HM ?_
 refine a_box 200 ?_
 refine a_box 201 ?_
 refine a_box 202 ?_
 refine a_box 203 ?_
 refine a_move (v := vB _) ?_
 refine RA.nil nofun ?_
 refine AG.seq ?_
 refine AG.region HM ?_
 refine a_ldB (v := .agg [_, _]) ?_ T51
 refine a_ldB (v := .agg [_, _]) ?_ T51
 refine a_ldB (v := .agg [_, _]) ?_ T51
 refine a_ldB (v := .agg [_, _]) ?_ T51
 obtain ⟨t1, e2, H⟩ := bindO H
 refine a_call (v := vB t1) (nk := []) (L := []) ?_ rfl (spec_l02Crosses.ok e2) id (qg (qg (qg (qg qn)))) trivial trivial trivial rfl
 refine a_move (v := vB _) ?_
 by_cases hc3 : t1 = true
 ·rw [if_pos hc3] at H
  refine RA.skip rfl rfl rfl rfl rfl hc3 (by decide) ?_
  refine RA.skip rfl rfl rfl rfl rfl hc3 (by decide) ?_
  refine RA.skip rfl rfl rfl rfl rfl hc3 (by decide) ?_
  refine RA.skip rfl rfl rfl rfl rfl hc3 (by decide) ?_
  refine a_pick (b := true) (v := vB _) ?_ hc3
  refine a_move (v := vB _) ?_
  refine RA.skip rfl rfl rfl rfl rfl rfl (by decide) ?_
  refine RA.skip rfl rfl rfl rfl rfl rfl (by decide) ?_
  refine RA.skip rfl rfl rfl rfl rfl rfl (by decide) ?_
  refine RA.skip rfl rfl rfl rfl rfl rfl (by decide) ?_
  refine a_pick (b := true) (v := vB _) ?_ rfl
  refine a_move (v := vB _) ?_
  refine RA.skip rfl rfl rfl rfl rfl rfl (by decide) ?_
  refine RA.skip rfl rfl rfl rfl rfl rfl (by decide) ?_
  refine RA.skip rfl rfl rfl rfl rfl rfl (by decide) ?_
  refine RA.skip rfl rfl rfl rfl rfl rfl (by decide) ?_
  refine a_pick (b := true) (v := vB _) ?_ rfl
  refine a_move (v := vB _) ?_
  refine RA.skip rfl rfl rfl rfl rfl rfl (by decide) ?_
  refine RA.skip rfl rfl rfl rfl rfl rfl (by decide) ?_
  refine RA.skip rfl rfl rfl rfl rfl rfl (by decide) ?_
  refine RA.skip rfl rfl rfl rfl rfl rfl (by decide) ?_
  refine a_pick (b := true) (v := vB _) ?_ rfl
  refine a_move (v := vB _) ?_
  refine RA.nil nofun ?_
  refine AG.ret ?_
  obtain rfl := Option.some.inj H
  exact RetP.mk id ⟨rfl, trivial⟩ trivial rfl
 ·rw [if_neg hc3] at H
  refine a_ldB (v := .agg [_, _]) ?_ T51 (hg := Gs.yes rfl rfl rfl (Bool.eq_false_iff.2 hc3))
  refine a_ldB (v := .agg [_, _]) ?_ T51 (hg := Gs.yes rfl rfl rfl (Bool.eq_false_iff.2 hc3))
  refine a_ldB (v := .agg [_, _]) ?_ T51 (hg := Gs.yes rfl rfl rfl (Bool.eq_false_iff.2 hc3))
  obtain ⟨t4, e5, H⟩ := bindO H
  refine a_call (v := vB t4) (nk := []) (L := []) ?_ rfl (spec_l02On.ok e5) id (qg (qg (qg qn))) trivial trivial trivial rfl (hg := Gs.yes rfl rfl rfl (Bool.eq_false_iff.2 hc3))
  refine a_pick (b := false) (v := vB _) ?_ (Bool.eq_false_iff.2 hc3)
  refine a_move (v := vB _) ?_
  by_cases hc6 : t4 = true
  ·rw [if_pos hc6] at H
   refine RA.skip rfl rfl rfl rfl rfl hc6 (by decide) ?_
   refine RA.skip rfl rfl rfl rfl rfl hc6 (by decide) ?_
   refine RA.skip rfl rfl rfl rfl rfl hc6 (by decide) ?_
   refine RA.skip rfl rfl rfl rfl rfl hc6 (by decide) ?_
   refine a_pick (b := true) (v := vB _) ?_ hc6
   refine a_move (v := vB _) ?_
   refine RA.skip rfl rfl rfl rfl rfl rfl (by decide) ?_
   refine RA.skip rfl rfl rfl rfl rfl rfl (by decide) ?_
   refine RA.skip rfl rfl rfl rfl rfl rfl (by decide) ?_
   refine RA.skip rfl rfl rfl rfl rfl rfl (by decide) ?_
   refine a_pick (b := true) (v := vB _) ?_ rfl
   refine a_move (v := vB _) ?_
   refine RA.skip rfl rfl rfl rfl rfl rfl (by decide) ?_
   refine RA.skip rfl rfl rfl rfl rfl rfl (by decide) ?_
   refine RA.skip rfl rfl rfl rfl rfl rfl (by decide) ?_
   refine RA.skip rfl rfl rfl rfl rfl rfl (by decide) ?_
   refine a_pick (b := true) (v := vB _) ?_ rfl
   refine a_move (v := vB _) ?_
   refine RA.nil nofun ?_
   refine AG.ret ?_
   obtain rfl := Option.some.inj H
   exact RetP.mk id ⟨rfl, trivial⟩ trivial rfl
  ·rw [if_neg hc6] at H
   refine a_ldB (v := .agg [_, _]) ?_ T51 (hg := Gs.yes rfl rfl rfl (Bool.eq_false_iff.2 hc6))
   refine a_ldB (v := .agg [_, _]) ?_ T51 (hg := Gs.yes rfl rfl rfl (Bool.eq_false_iff.2 hc6))
   refine a_ldB (v := .agg [_, _]) ?_ T51 (hg := Gs.yes rfl rfl rfl (Bool.eq_false_iff.2 hc6))
   obtain ⟨t7, e8, H⟩ := bindO H
   refine a_call (v := vB t7) (nk := []) (L := []) ?_ rfl (spec_l02On.ok e8) id (qg (qg (qg qn))) trivial trivial trivial rfl (hg := Gs.yes rfl rfl rfl (Bool.eq_false_iff.2 hc6))
   refine a_pick (b := false) (v := vB _) ?_ (Bool.eq_false_iff.2 hc6)
   refine a_move (v := vB _) ?_
   by_cases hc9 : t7 = true
   ·rw [if_pos hc9] at H
    refine RA.skip rfl rfl rfl rfl rfl hc9 (by decide) ?_
    refine RA.skip rfl rfl rfl rfl rfl hc9 (by decide) ?_
    refine RA.skip rfl rfl rfl rfl rfl hc9 (by decide) ?_
    refine RA.skip rfl rfl rfl rfl rfl hc9 (by decide) ?_
    refine a_pick (b := true) (v := vB _) ?_ hc9
    refine a_move (v := vB _) ?_
    refine RA.skip rfl rfl rfl rfl rfl rfl (by decide) ?_
    refine RA.skip rfl rfl rfl rfl rfl rfl (by decide) ?_
    refine RA.skip rfl rfl rfl rfl rfl rfl (by decide) ?_
    refine RA.skip rfl rfl rfl rfl rfl rfl (by decide) ?_
    refine a_pick (b := true) (v := vB _) ?_ rfl
    refine a_move (v := vB _) ?_
    refine RA.nil nofun ?_
    refine AG.ret ?_
    obtain rfl := Option.some.inj H
    exact RetP.mk id ⟨rfl, trivial⟩ trivial rfl
   ·rw [if_neg hc9] at H
    refine a_ldB (v := .agg [_, _]) ?_ T51 (hg := Gs.yes rfl rfl rfl (Bool.eq_false_iff.2 hc9))
    refine a_ldB (v := .agg [_, _]) ?_ T51 (hg := Gs.yes rfl rfl rfl (Bool.eq_false_iff.2 hc9))
    refine a_ldB (v := .agg [_, _]) ?_ T51 (hg := Gs.yes rfl rfl rfl (Bool.eq_false_iff.2 hc9))
    obtain ⟨t10, e11, H⟩ := bindO H
    refine a_call (v := vB t10) (nk := []) (L := []) ?_ rfl (spec_l02On.ok e11) id (qg (qg (qg qn))) trivial trivial trivial rfl (hg := Gs.yes rfl rfl rfl (Bool.eq_false_iff.2 hc9))
    refine a_pick (b := false) (v := vB _) ?_ (Bool.eq_false_iff.2 hc9)
    refine a_move (v := vB _) ?_
    by_cases hc12 : t10 = true
    ·rw [if_pos hc12] at H
     refine RA.skip rfl rfl rfl rfl rfl hc12 (by decide) ?_
     refine RA.skip rfl rfl rfl rfl rfl hc12 (by decide) ?_
     refine RA.skip rfl rfl rfl rfl rfl hc12 (by decide) ?_
     refine RA.skip rfl rfl rfl rfl rfl hc12 (by decide) ?_
     refine a_pick (b := true) (v := vB _) ?_ hc12
     refine a_move (v := vB _) ?_
     refine RA.nil nofun ?_
     refine AG.ret ?_
     obtain rfl := Option.some.inj H
     exact RetP.mk id ⟨rfl, trivial⟩ trivial rfl
    ·rw [if_neg hc12] at H
     refine a_ldB (v := .agg [_, _]) ?_ T51 (hg := Gs.yes rfl rfl rfl (Bool.eq_false_iff.2 hc12))
     refine a_ldB (v := .agg [_, _]) ?_ T51 (hg := Gs.yes rfl rfl rfl (Bool.eq_false_iff.2 hc12))
     refine a_ldB (v := .agg [_, _]) ?_ T51 (hg := Gs.yes rfl rfl rfl (Bool.eq_false_iff.2 hc12))
     obtain ⟨t13, e14, H⟩ := bindO H
     refine a_call (v := vB t13) (nk := []) (L := []) ?_ rfl (spec_l02On.ok e14) id (qg (qg (qg qn))) trivial trivial trivial rfl (hg := Gs.yes rfl rfl rfl (Bool.eq_false_iff.2 hc12))
     refine a_pick (b := false) (v := vB _) ?_ (Bool.eq_false_iff.2 hc12)
     refine a_move (v := vB _) ?_
     refine RA.nil nofun ?_
     refine AG.ret ?_
     obtain rfl := Option.some.inj H
     exact RetP.mk id ⟨rfl, trivial⟩ trivial rfl
/-! ### spec_l03Area: function 77 -/
def spec_l03Area.l0 : Nat → List S50 → Int → Int → Option (Int)
 | 0, _, _, _ => none
 | k + 1, x0, x3, x4 => if x4 < (x0.length : Int) then (if (x0.length : Int) = 0 then (none) else (if 0 ≤ (Int.tmod (wrap64 (x4 + 1)) (x0.length : Int)) then (if (Int.tmod (wrap64 (x4 + 1)) (x0.length : Int)) < (x0.length : Int) then (if 0 ≤ x4 then (spec_l03Area.l0 k x0 (wrap64 (x3 + (wrap64 ((wrap64 (((rd50 x0 x4).f0) * ((rd50 x0 (Int.tmod (wrap64 (x4 + 1)) (x0.length : Int))).f1))) - (wrap64 (((rd50 x0 x4).f1) * ((rd50 x0 (Int.tmod (wrap64 (x4 + 1)) (x0.length : Int))).f0))))))) (wrap64 (x4 + 1))) else (none)) else (none)) else (none))) else (some x3)
def spec_l03Area.f (k : Nat) (l0 : List S50) : Option (Int) := spec_l03Area.l0 k l0 0 0
set_option maxRecDepth 100000 in
theorem spec_l03Area.ok {k : Nat} {l0 : List S50} {r : Int} (H : spec_l03Area.f k l0 = some r) : OkF Tryz.prog 77 [vR 51 (l0.map c50)] [] (.c (.d (.v (.int .i64 r)))) [] := by
 unfold spec_l03Area.f at H
 refine OkF.of (N := 40) (rs := [2]) (avs := [.c (.d (.v (.int .i64 r)))]) Tryz.func77 rfl rfl (fun _ _ => results_tmp rfl _ _ _) (by decide) rfl rfl rfl rfl (fun w0 S => ?_)
 refine AG.seq ?_
 refine AG.region HM ?_
 refine a_move (v := vI _) ?_
 refine RA.nil nofun ?_
 refine AG.seq ?_
 refine AG.region HM ?_
 refine a_move (v := vI _) ?_
 refine RA.nil nofun ?_
 refine AG.seq ?_
 refine AG.seq ?_
 refine AG.region HM ?_
 refine a_move (v := vI _) ?_
 refine RA.nil nofun ?_
 refine AG.block ?_
 refine AG.loop ?_
 obtain ⟨K0, hK0, gK0⟩ : ∃ K, k ≤ K ∧ K ≤ k := ⟨k, Nat.le_refl k, Nat.le_refl k⟩
 refine AGr.canon id (AGr.loopI (n := k) (fun k s => k ≤ K0 ∧ ∃ (x0 : List S50) (x3 : Int) (x4 : Int), spec_l03Area.l0 k x0 x3 x4 = some r ∧ s = St.of [(0, vR 51 (x0.map c50)), (3, vI x3), (4, vI x4)] []) ⟨hK0, _, _, _, H, rfl⟩ ?_ ?_) ⟨rfl, rfl, rfl, trivial⟩ trivial rfl
 ·rintro _ ⟨_, _, _, _, H, _⟩
  cases H
 ·clear H hK0
  rintro k ih0 _ ⟨hK0, x0, x3, x4, H, rfl⟩
  unfold spec_l03Area.l0 at H
  refine AG.seq ?_
  refine AG.seq ?_
  refine AG.region HM ?_
  refine a_move (v := vI _) ?_
  refine a_move (v := vR _ _) ?_
  refine a_lenR ?_ Tryz.underlying30
  refine a_int (u := .bool (decide (x4 < (x0.length : Int)))) ?_
  refine RA.nil nofun ?_
  by_cases hc1 : x4 < (x0.length : Int)
  ·rw [if_pos hc1] at H
   refine AG.yes rfl (decide_eq_true hc1) ?_
   refine AG.skip ?_
   refine AG.seq ?_
   refine AG.block ?_
   refine AG.seq ?_
   refine AG.region HM ?_
   refine a_move (v := vR _ _) ?_
   refine a_move (v := vI _) ?_
   refine a_int (u := .int .i64 (wrap64 (x4 + 1))) ?_
   refine a_move (v := vR _ _) ?_
   refine a_lenR ?_ Tryz.underlying30
   by_cases hc2 : (x0.length : Int) = 0
   ·rw [if_pos hc2] at H
    cases H
   ·rw [if_neg hc2] at H
    refine a_rem (r := Int.tmod (wrap64 (x4 + 1)) (x0.length : Int)) ?_ hc2
    by_cases hc3 : 0 ≤ (Int.tmod (wrap64 (x4 + 1)) (x0.length : Int))
    ·rw [if_pos hc3] at H
     by_cases hc4 : (Int.tmod (wrap64 (x4 + 1)) (x0.length : Int)) < (x0.length : Int)
     ·rw [if_pos hc4] at H
      refine a_ixR (el := c50 (rd50 x0 (Int.tmod (wrap64 (x4 + 1)) (x0.length : Int)))) ?_ ⟨hc3, hc4⟩ T51 Tryz.underlying30 (hel := R50 hc3 hc4)
      refine a_ldR (v := .agg [_, _]) ?_ T51
      refine a_alloc (cs := [_, _]) 200 ?_ T51
      refine a_stB (cs' := [_, _]) ?_ T51
      refine RA.nil nofun ?_
      refine AG.region HM ?_
      refine a_move (v := vI _) ?_
      refine a_move (v := vR _ _) ?_
      refine a_move (v := vI _) ?_
      by_cases hc5 : 0 ≤ x4
      ·rw [if_pos hc5] at H
       refine a_ixR (el := c50 (rd50 x0 x4)) ?_ ⟨hc5, hc1⟩ T51 Tryz.underlying30 (hel := R50 hc5 hc1)
       refine a_faR (cells' := [_, _]) ?_ D51_0
       refine a_ldR (v := vI _) ?_ T2
       refine a_faB (q := 1) ?_ D51_1
       refine a_ldB (v := vI _) ?_ T2
       refine a_int (u := .int .i64 (wrap64 (((rd50 x0 x4).f0) * ((rd50 x0 (Int.tmod (wrap64 (x4 + 1)) (x0.length : Int))).f1)))) ?_
       refine a_move (v := vR _ _) ?_
       refine a_move (v := vI _) ?_
       refine a_ixR (el := c50 (rd50 x0 x4)) ?_ ⟨hc5, hc1⟩ T51 Tryz.underlying30 (hel := R50 hc5 hc1)
       refine a_faR (cells' := [_]) ?_ D51_1
       refine a_ldR (v := vI _) ?_ T2
       refine a_faB (q := 0) ?_ D51_0
       refine a_ldB (v := vI _) ?_ T2
       refine a_int (u := .int .i64 (wrap64 (((rd50 x0 x4).f1) * ((rd50 x0 (Int.tmod (wrap64 (x4 + 1)) (x0.length : Int))).f0)))) ?_
       refine a_int (u := .int .i64 (wrap64 ((wrap64 (((rd50 x0 x4).f0) * ((rd50 x0 (Int.tmod (wrap64 (x4 + 1)) (x0.length : Int))).f1))) - (wrap64 (((rd50 x0 x4).f1) * ((rd50 x0 (Int.tmod (wrap64 (x4 + 1)) (x0.length : Int))).f0)))))) ?_
       refine a_int (u := .int .i64 (wrap64 (x3 + (wrap64 ((wrap64 (((rd50 x0 x4).f0) * ((rd50 x0 (Int.tmod (wrap64 (x4 + 1)) (x0.length : Int))).f1))) - (wrap64 (((rd50 x0 x4).f1) * ((rd50 x0 (Int.tmod (wrap64 (x4 + 1)) (x0.length : Int))).f0)))))))) ?_
       refine a_move (v := vI _) ?_
       refine RA.nil (fun _ => by kernel_rfl) ?_
       refine AG.region HM ?_
       refine a_move (v := vI _) ?_
       refine a_int (u := .int .i64 (wrap64 (x4 + 1))) ?_
       refine a_move (v := vI _) ?_
       refine RA.nil nofun ?_
       exact AGr.canon id (ih0 _ (by omega) _ ⟨by omega, _, _, _, H, rfl⟩) ⟨rfl, rfl, rfl, trivial⟩ trivial rfl
      ·rw [if_neg hc5] at H
       cases H
     ·rw [if_neg hc4] at H
      cases H
    ·rw [if_neg hc3] at H
     cases H
  ·rw [if_neg hc1] at H
   refine AG.no rfl (decide_eq_false hc1) ?_
   refine AG.exit ?_
   refine AG.seq ?_
   refine AG.region HM ?_
   refine a_move (v := vI _) ?_
   refine a_move (v := vI _) ?_
   refine RA.nil nofun ?_
   refine AG.ret ?_
   obtain rfl := Option.some.inj H
   exact RetP.mk id ⟨rfl, trivial⟩ trivial rfl
/-! ### spec_l03Ok: function 44 -/
mutual
def spec_l03Ok.j0 : Nat → List S50 → Int → Bool → Option (Bool)
 | 0, _, _, _ => none
 | k + 1, x0, x3, x17 => if x17 = true then (some false) else (spec_l03Ok.l0 k x0 x3 0)
def spec_l03Ok.l0 : Nat → List S50 → Int → Int → Option (Bool)
 | 0, _, _, _ => none
 | k + 1, x0, x3, x4 => if x4 < x3 then (if 0 ≤ x4 then (if x4 < (x0.length : Int) then ((spec_l02Ok.f ((rd50 x0 x4).f0) ((rd50 x0 x4).f1)).bind fun t6 => (if t6 = true then (spec_l03Ok.l0 k x0 x3 (wrap64 (x4 + 1))) else (some false))) else (none)) else (none)) else (spec_l03Ok.l1 k x0 x3 0)
def spec_l03Ok.l1 : Nat → List S50 → Int → Int → Option (Bool)
 | 0, _, _, _ => none
 | k + 1, x0, x3, x5 => if x5 < x3 then (if 0 ≤ x5 then (if x5 < (x0.length : Int) then (if x3 = 0 then (none) else (if 0 ≤ (Int.tmod (wrap64 (x5 + 1)) x3) then (if (Int.tmod (wrap64 (x5 + 1)) x3) < (x0.length : Int) then (if 0 ≤ (Int.tmod (wrap64 (x5 + 2)) x3) then (if (Int.tmod (wrap64 (x5 + 2)) x3) < (x0.length : Int) then (if (((rd50 x0 x5).f0) == ((rd50 x0 (Int.tmod (wrap64 (x5 + 1)) x3)).f0) && (((rd50 x0 x5).f1) == ((rd50 x0 (Int.tmod (wrap64 (x5 + 1)) x3)).f1))) = true then (spec_l03Ok.j1 k x0 x3 x5 ((rd50 x0 x5).f0) ((rd50 x0 x5).f1) ((rd50 x0 (Int.tmod (wrap64 (x5 + 1)) x3)).f0) ((rd50 x0 (Int.tmod (wrap64 (x5 + 1)) x3)).f1) true) else ((spec_l02On.f ((rd50 x0 x5).f0) ((rd50 x0 x5).f1) ((rd50 x0 (Int.tmod (wrap64 (x5 + 1)) x3)).f0) ((rd50 x0 (Int.tmod (wrap64 (x5 + 1)) x3)).f1) ((rd50 x0 (Int.tmod (wrap64 (x5 + 2)) x3)).f0) ((rd50 x0 (Int.tmod (wrap64 (x5 + 2)) x3)).f1)).bind fun t18 => (if t18 = true then (spec_l03Ok.j1 k x0 x3 x5 ((rd50 x0 x5).f0) ((rd50 x0 x5).f1) ((rd50 x0 (Int.tmod (wrap64 (x5 + 1)) x3)).f0) ((rd50 x0 (Int.tmod (wrap64 (x5 + 1)) x3)).f1) true) else ((spec_l02On.f ((rd50 x0 (Int.tmod (wrap64 (x5 + 1)) x3)).f0) ((rd50 x0 (Int.tmod (wrap64 (x5 + 1)) x3)).f1) ((rd50 x0 (Int.tmod (wrap64 (x5 + 2)) x3)).f0) ((rd50 x0 (Int.tmod (wrap64 (x5 + 2)) x3)).f1) ((rd50 x0 x5).f0) ((rd50 x0 x5).f1)).bind fun t21 => (spec_l03Ok.j1 k x0 x3 x5 ((rd50 x0 x5).f0) ((rd50 x0 x5).f1) ((rd50 x0 (Int.tmod (wrap64 (x5 + 1)) x3)).f0) ((rd50 x0 (Int.tmod (wrap64 (x5 + 1)) x3)).f1) t21))))) else (none)) else (none)) else (none)) else (none))) else (none)) else (none)) else ((spec_l03Area.f k x0).bind fun t34 => (some (decide (t34 > 0))))
def spec_l03Ok.j1 : Nat → List S50 → Int → Int → Int → Int → Int → Int → Bool → Option (Bool)
 | 0, _, _, _, _, _, _, _, _ => none
 | k + 1, x0, x3, x5, y207_0, y207_1, y208_0, y208_1, x66 => if x66 = true then (some false) else (spec_l03Ok.l2 k x0 x3 x5 y207_0 y207_1 y208_0 y208_1 (wrap64 (x5 + 2)))
def spec_l03Ok.l2 : Nat → List S50 → Int → Int → Int → Int → Int → Int → Int → Option (Bool)
 | 0, _, _, _, _, _, _, _, _ => none
 | k + 1, x0, x3, x5, y209_0, y209_1, y210_0, y210_1, x9 => if x9 < x3 then (if x3 = 0 then (none) else (if (Int.tmod (wrap64 (x9 + 1)) x3) = x5 then (spec_l03Ok.l2 k x0 x3 x5 y209_0 y209_1 y210_0 y210_1 (wrap64 (x9 + 1))) else (if 0 ≤ x9 then (if x9 < (x0.length : Int) then (if 0 ≤ (Int.tmod (wrap64 (x9 + 1)) x3) then (if (Int.tmod (wrap64 (x9 + 1)) x3) < (x0.length : Int) then ((spec_l03Meet.f y209_0 y209_1 y210_0 y210_1 ((rd50 x0 x9).f0) ((rd50 x0 x9).f1) ((rd50 x0 (Int.tmod (wrap64 (x9 + 1)) x3)).f0) ((rd50 x0 (Int.tmod (wrap64 (x9 + 1)) x3)).f1)).bind fun t31 => (if t31 = true then (some false) else (spec_l03Ok.l2 k x0 x3 x5 y209_0 y209_1 y210_0 y210_1 (wrap64 (x9 + 1))))) else (none)) else (none)) else (none)) else (none)))) else (spec_l03Ok.l1 k x0 x3 (wrap64 (x5 + 1)))
end
def spec_l03Ok.f (k : Nat) (l0 : List S50) : Option (Bool) := if (l0.length : Int) < 3 then (spec_l03Ok.j0 k l0 (l0.length : Int) true) else (spec_l03Ok.j0 k l0 (l0.length : Int) (decide ((l0.length : Int) > 24)))
set_option maxRecDepth 100000 in
theorem spec_l03Ok.ok {k : Nat} {l0 : List S50} {r : Bool} (H : spec_l03Ok.f k l0 = some r) : OkF Tryz.prog 44 [vR 51 (l0.map c50)] [] (.c (.d (.v (.bool r)))) [] := by
 unfold spec_l03Ok.f at H
 refine OkF.of (N := 99) (rs := [2]) (avs := [.c (.d (.v (.bool r)))]) Tryz.func44 rfl rfl (fun _ _ => results_tmp rfl _ _ _) (by decide) rfl rfl rfl rfl (fun w0 S => ?_)
 refine AG.seq ?_
 refine AG.region HM ?_
 refine a_move (v := vB _) ?_
 refine RA.nil nofun ?_
 refine AG.seq ?_
 refine AG.region HM ?_
 refine a_move (v := vR _ _) ?_
 refine a_lenR ?_ Tryz.underlying30
 refine a_move (v := vI _) ?_
 refine RA.nil nofun ?_
 refine AG.seq ?_
 refine AG.seq ?_
 refine AG.joinR (fun s => ∃ q, q ≤ k ∧ ∃ (x0 : List S50) (x3 : Int) (x17 : Bool), spec_l03Ok.j0 q x0 x3 x17 = some r ∧ s = St.of [(0, vR 51 (x0.map c50)), (3, vI x3), (17, vB x17)] []) ?_ ?_
 ·skip
  refine AG.region HM ?_
  refine a_move (v := vI _) ?_
  refine a_int (u := .bool (decide ((l0.length : Int) < 3))) ?_
  refine a_move (v := vB _) ?_
  by_cases hc1 : (l0.length : Int) < 3
  ·rw [if_pos hc1] at H
   refine RA.skip rfl rfl rfl rfl rfl (decide_eq_true hc1) (by decide) ?_
   refine RA.skip rfl rfl rfl rfl rfl (decide_eq_true hc1) (by decide) ?_
   refine a_pick (b := true) (v := vB _) ?_ (decide_eq_true hc1)
   refine RA.nil nofun ?_
   exact CanR.mk id ⟨_, (by omega), _, _, _, H, rfl⟩ ⟨rfl, rfl, rfl, trivial⟩ trivial rfl
  ·rw [if_neg hc1] at H
   refine a_move (v := vI _) ?_ (hg := Gs.yes rfl rfl rfl (decide_eq_false hc1))
   refine a_int (u := .bool (decide ((l0.length : Int) > 24))) ?_ (hg := Gs.yes rfl rfl rfl (decide_eq_false hc1))
   refine a_pick (b := false) (v := vB _) ?_ (decide_eq_false hc1)
   refine RA.nil nofun ?_
   exact CanR.mk id ⟨_, (by omega), _, _, _, H, rfl⟩ ⟨rfl, rfl, rfl, trivial⟩ trivial rfl
 ·clear H
  rintro _ ⟨k, hj0, x0, x3, x17, H, rfl⟩
  cases k with
  | zero => cases H
  | succ k =>
   rw [spec_l03Ok.j0] at H
   by_cases hc2 : x17 = true
   ·rw [if_pos hc2] at H
    refine AG.yes rfl hc2 ?_
    refine AG.seq ?_
    refine AG.region HM ?_
    refine a_move (v := vB _) ?_
    refine RA.nil nofun ?_
    refine AG.ret ?_
    obtain rfl := Option.some.inj H
    exact RetP.mk id ⟨rfl, trivial⟩ trivial rfl
   ·rw [if_neg hc2] at H
    refine AG.no rfl (Bool.eq_false_iff.2 hc2) ?_
    refine AG.skip ?_
    refine AG.seq ?_
    refine AG.seq ?_
    refine AG.region HM ?_
    refine a_move (v := vI _) ?_
    refine RA.nil nofun ?_
    refine AG.block ?_
    refine AG.loop ?_
    obtain ⟨K0, hK0, gK0⟩ : ∃ K, k ≤ K ∧ K ≤ k := ⟨k, Nat.le_refl k, Nat.le_refl k⟩
    refine AGr.canon id (AGr.loopI (n := k) (fun k s => k ≤ K0 ∧ ∃ (x0 : List S50) (x3 : Int) (x4 : Int), spec_l03Ok.l0 k x0 x3 x4 = some r ∧ s = St.of [(0, vR 51 (x0.map c50)), (3, vI x3), (4, vI x4)] []) ⟨hK0, _, _, _, H, rfl⟩ ?_ ?_) ⟨rfl, rfl, rfl, trivial⟩ trivial rfl
    ·rintro _ ⟨_, _, _, _, H, _⟩
     cases H
    ·clear H hK0
     rintro k ih0 _ ⟨hK0, x0, x3, x4, H, rfl⟩
     unfold spec_l03Ok.l0 at H
     refine AG.seq ?_
     refine AG.seq ?_
     refine AG.region HM ?_
     refine a_move (v := vI _) ?_
     refine a_move (v := vI _) ?_
     refine a_int (u := .bool (decide (x4 < x3))) ?_
     refine RA.nil nofun ?_
     by_cases hc3 : x4 < x3
     ·rw [if_pos hc3] at H
      refine AG.yes rfl (decide_eq_true hc3) ?_
      refine AG.skip ?_
      refine AG.seq ?_
      refine AG.block ?_
      refine AG.seq ?_
      refine AG.region HM ?_
      refine a_move (v := vR _ _) ?_
      refine a_move (v := vI _) ?_
      by_cases hc4 : 0 ≤ x4
      ·rw [if_pos hc4] at H
       by_cases hc5 : x4 < (x0.length : Int)
       ·rw [if_pos hc5] at H
        refine a_ixR (el := c50 (rd50 x0 x4)) ?_ ⟨hc4, hc5⟩ T51 Tryz.underlying30 (hel := R50 hc4 hc5)
        refine a_ldR (v := .agg [_, _]) ?_ T51
        obtain ⟨t6, e7, H⟩ := bindO H
        refine a_call (v := vB t6) (nk := []) (L := []) ?_ rfl (spec_l02Ok.ok e7) id (qg qn) trivial trivial trivial rfl
        refine a_un (u := .bool (!t6)) ?_
        refine RA.nil nofun ?_
        by_cases hc8 : t6 = true
        ·rw [if_pos hc8] at H
         refine AG.no rfl (congrArg Bool.not hc8) ?_
         refine AG.skip ?_
         refine AG.region HM ?_
         refine a_move (v := vI _) ?_
         refine a_int (u := .int .i64 (wrap64 (x4 + 1))) ?_
         refine a_move (v := vI _) ?_
         refine RA.nil nofun ?_
         exact AGr.canon id (ih0 _ (by omega) _ ⟨by omega, _, _, _, H, rfl⟩) ⟨rfl, rfl, rfl, trivial⟩ trivial rfl
        ·rw [if_neg hc8] at H
         refine AG.yes rfl (congrArg Bool.not (Bool.eq_false_iff.2 hc8)) ?_
         refine AG.seq ?_
         refine AG.region HM ?_
         refine a_move (v := vB _) ?_
         refine RA.nil nofun ?_
         refine AG.ret ?_
         obtain rfl := Option.some.inj H
         exact RetP.mk id ⟨rfl, trivial⟩ trivial rfl
       ·rw [if_neg hc5] at H
        cases H
      ·rw [if_neg hc4] at H
       cases H
     ·rw [if_neg hc3] at H
      refine AG.no rfl (decide_eq_false hc3) ?_
      refine AG.exit ?_
      refine AG.seq ?_
      refine AG.seq ?_
      refine AG.region HM ?_
      refine a_move (v := vI _) ?_
      refine RA.nil nofun ?_
      refine AG.block ?_
      refine AG.loop ?_
      obtain ⟨K1, hK1, gK1⟩ : ∃ K, k ≤ K ∧ K ≤ k := ⟨k, Nat.le_refl k, Nat.le_refl k⟩
      refine AGr.canon id (AGr.loopI (n := k) (fun k s => k ≤ K1 ∧ ∃ (x0 : List S50) (x3 : Int) (x5 : Int), spec_l03Ok.l1 k x0 x3 x5 = some r ∧ s = St.of [(0, vR 51 (x0.map c50)), (3, vI x3), (5, vI x5)] []) ⟨hK1, _, _, _, H, rfl⟩ ?_ ?_) ⟨rfl, rfl, rfl, trivial⟩ trivial rfl
      ·rintro _ ⟨_, _, _, _, H, _⟩
       cases H
      ·clear H hK1
       rintro k ih1 _ ⟨hK1, x0, x3, x5, H, rfl⟩
       unfold spec_l03Ok.l1 at H
       refine AG.seq ?_
       refine AG.seq ?_
       refine AG.region HM ?_
       refine a_move (v := vI _) ?_
       refine a_move (v := vI _) ?_
       refine a_int (u := .bool (decide (x5 < x3))) ?_
       refine RA.nil nofun ?_
       by_cases hc9 : x5 < x3
       ·rw [if_pos hc9] at H
        refine AG.yes rfl (decide_eq_true hc9) ?_
        refine AG.skip ?_
        refine AG.seq ?_
        refine AG.block ?_
        refine AG.seq ?_
        refine AG.region HM ?_
        refine a_move (v := vR _ _) ?_
        refine a_move (v := vI _) ?_
        by_cases hc10 : 0 ≤ x5
        ·rw [if_pos hc10] at H
         by_cases hc11 : x5 < (x0.length : Int)
         ·rw [if_pos hc11] at H
          refine a_ixR (el := c50 (rd50 x0 x5)) ?_ ⟨hc10, hc11⟩ T51 Tryz.underlying30 (hel := R50 hc10 hc11)
          refine a_ldR (v := .agg [_, _]) ?_ T51
          refine a_alloc (cs := [_, _]) 202 ?_ T51
          refine a_stB (cs' := [_, _]) ?_ T51
          refine RA.nil nofun ?_
          refine AG.seq ?_
          refine AG.region HM ?_
          refine a_move (v := vR _ _) ?_
          refine a_move (v := vI _) ?_
          refine a_int (u := .int .i64 (wrap64 (x5 + 1))) ?_
          refine a_move (v := vI _) ?_
          by_cases hc12 : x3 = 0
          ·rw [if_pos hc12] at H
           cases H
          ·rw [if_neg hc12] at H
           refine a_rem (r := Int.tmod (wrap64 (x5 + 1)) x3) ?_ hc12
           by_cases hc13 : 0 ≤ (Int.tmod (wrap64 (x5 + 1)) x3)
           ·rw [if_pos hc13] at H
            by_cases hc14 : (Int.tmod (wrap64 (x5 + 1)) x3) < (x0.length : Int)
            ·rw [if_pos hc14] at H
             refine a_ixR (el := c50 (rd50 x0 (Int.tmod (wrap64 (x5 + 1)) x3))) ?_ ⟨hc13, hc14⟩ T51 Tryz.underlying30 (hel := R50 hc13 hc14)
             refine a_ldR (v := .agg [_, _]) ?_ T51
             refine a_alloc (cs := [_, _]) 203 ?_ T51
             refine a_stB (cs' := [_, _]) ?_ T51
             refine RA.nil nofun ?_
             refine AG.seq ?_
             refine AG.region HM ?_
             refine a_move (v := vR _ _) ?_
             refine a_move (v := vI _) ?_
             refine a_int (u := .int .i64 (wrap64 (x5 + 2))) ?_
             refine a_move (v := vI _) ?_
             refine a_rem (r := Int.tmod (wrap64 (x5 + 2)) x3) ?_ hc12
             by_cases hc15 : 0 ≤ (Int.tmod (wrap64 (x5 + 2)) x3)
             ·rw [if_pos hc15] at H
              by_cases hc16 : (Int.tmod (wrap64 (x5 + 2)) x3) < (x0.length : Int)
              ·rw [if_pos hc16] at H
               refine a_ixR (el := c50 (rd50 x0 (Int.tmod (wrap64 (x5 + 2)) x3))) ?_ ⟨hc15, hc16⟩ T51 Tryz.underlying30 (hel := R50 hc15 hc16)
               refine a_ldR (v := .agg [_, _]) ?_ T51
               refine a_alloc (cs := [_, _]) 204 ?_ T51
               refine a_stB (cs' := [_, _]) ?_ T51
               refine RA.nil nofun ?_
               refine AG.seq ?_
               refine AG.seq ?_
               refine AG.joinR (fun s => ∃ q, q ≤ k ∧ ∃ (x0 : List S50) (x3 : Int) (x5 : Int) (y207_0 : Int) (y207_1 : Int) (y208_0 : Int) (y208_1 : Int) (x66 : Bool), spec_l03Ok.j1 q x0 x3 x5 y207_0 y207_1 y208_0 y208_1 x66 = some r ∧ s = St.of [(0, vR 51 (x0.map c50)), (3, vI x3), (5, vI x5), (6, .c (.ptr 207 0)), (7, .c (.ptr 208 0)), (66, vB x66)] [(207, .box 51 [.d (.v (.int .i64 y207_0)), .d (.v (.int .i64 y207_1))]), (208, .box 51 [.d (.v (.int .i64 y208_0)), .d (.v (.int .i64 y208_1))])]) ?_ ?_
               ·skip
                refine AG.region HM ?_
                refine a_ldB (v := .agg [_, _]) ?_ T51
                refine a_ldB (v := .agg [_, _]) ?_ T51
                refine a_eqS (b := (((rd50 x0 x5).f0) == ((rd50 x0 (Int.tmod (wrap64 (x5 + 1)) x3)).f0) && (((rd50 x0 x5).f1) == ((rd50 x0 (Int.tmod (wrap64 (x5 + 1)) x3)).f1)))) ?_ (.inl ⟨rfl, rfl⟩) (Q51 ((rd50 x0 x5).f0) ((rd50 x0 (Int.tmod (wrap64 (x5 + 1)) x3)).f0) ((rd50 x0 x5).f1) ((rd50 x0 (Int.tmod (wrap64 (x5 + 1)) x3)).f1)).1
                refine a_move (v := vB _) ?_
                by_cases hc17 : (((rd50 x0 x5).f0) == ((rd50 x0 (Int.tmod (wrap64 (x5 + 1)) x3)).f0) && (((rd50 x0 x5).f1) == ((rd50 x0 (Int.tmod (wrap64 (x5 + 1)) x3)).f1))) = true
                ·rw [if_pos hc17] at H
                 refine RA.skip rfl rfl rfl rfl rfl hc17 (by decide) ?_
                 refine RA.skip rfl rfl rfl rfl rfl hc17 (by decide) ?_
                 refine RA.skip rfl rfl rfl rfl rfl hc17 (by decide) ?_
                 refine RA.skip rfl rfl rfl rfl rfl hc17 (by decide) ?_
                 refine a_pick (b := true) (v := vB _) ?_ hc17
                 refine a_move (v := vB _) ?_
                 refine RA.skip rfl rfl rfl rfl rfl rfl (by decide) ?_
                 refine RA.skip rfl rfl rfl rfl rfl rfl (by decide) ?_
                 refine RA.skip rfl rfl rfl rfl rfl rfl (by decide) ?_
                 refine RA.skip rfl rfl rfl rfl rfl rfl (by decide) ?_
                 refine a_pick (b := true) (v := vB _) ?_ rfl
                 refine RA.nil nofun ?_
                 exact CanR.mk (fun κ => cond (Nat.beq κ 207) 202 (cond (Nat.beq κ 208) 203 (κ))) ⟨_, (by omega), _, _, _, _, _, _, _, _, H, rfl⟩ ⟨rfl, rfl, rfl, rfl, rfl, rfl, trivial⟩ ⟨rfl, rfl, trivial⟩ rfl
                ·rw [if_neg hc17] at H
                 refine a_ldB (v := .agg [_, _]) ?_ T51 (hg := Gs.yes rfl rfl rfl (Bool.eq_false_iff.2 hc17))
                 refine a_ldB (v := .agg [_, _]) ?_ T51 (hg := Gs.yes rfl rfl rfl (Bool.eq_false_iff.2 hc17))
                 refine a_ldB (v := .agg [_, _]) ?_ T51 (hg := Gs.yes rfl rfl rfl (Bool.eq_false_iff.2 hc17))
                 obtain ⟨t18, e19, H⟩ := bindO H
                 refine a_call (v := vB t18) (nk := []) (L := []) ?_ rfl (spec_l02On.ok e19) id (qg (qg (qg qn))) trivial trivial trivial rfl (hg := Gs.yes rfl rfl rfl (Bool.eq_false_iff.2 hc17))
                 refine a_pick (b := false) (v := vB _) ?_ (Bool.eq_false_iff.2 hc17)
                 refine a_move (v := vB _) ?_
                 by_cases hc20 : t18 = true
                 ·rw [if_pos hc20] at H
                  refine RA.skip rfl rfl rfl rfl rfl hc20 (by decide) ?_
                  refine RA.skip rfl rfl rfl rfl rfl hc20 (by decide) ?_
                  refine RA.skip rfl rfl rfl rfl rfl hc20 (by decide) ?_
                  refine RA.skip rfl rfl rfl rfl rfl hc20 (by decide) ?_
                  refine a_pick (b := true) (v := vB _) ?_ hc20
                  refine RA.nil nofun ?_
                  exact CanR.mk (fun κ => cond (Nat.beq κ 207) 202 (cond (Nat.beq κ 208) 203 (κ))) ⟨_, (by omega), _, _, _, _, _, _, _, _, H, rfl⟩ ⟨rfl, rfl, rfl, rfl, rfl, rfl, trivial⟩ ⟨rfl, rfl, trivial⟩ rfl
                 ·rw [if_neg hc20] at H
                  refine a_ldB (v := .agg [_, _]) ?_ T51 (hg := Gs.yes rfl rfl rfl (Bool.eq_false_iff.2 hc20))
                  refine a_ldB (v := .agg [_, _]) ?_ T51 (hg := Gs.yes rfl rfl rfl (Bool.eq_false_iff.2 hc20))
                  refine a_ldB (v := .agg [_, _]) ?_ T51 (hg := Gs.yes rfl rfl rfl (Bool.eq_false_iff.2 hc20))
                  obtain ⟨t21, e22, H⟩ := bindO H
                  refine a_call (v := vB t21) (nk := []) (L := []) ?_ rfl (spec_l02On.ok e22) id (qg (qg (qg qn))) trivial trivial trivial rfl (hg := Gs.yes rfl rfl rfl (Bool.eq_false_iff.2 hc20))
                  refine a_pick (b := false) (v := vB _) ?_ (Bool.eq_false_iff.2 hc20)
                  refine RA.nil nofun ?_
                  exact CanR.mk (fun κ => cond (Nat.beq κ 207) 202 (cond (Nat.beq κ 208) 203 (κ))) ⟨_, (by omega), _, _, _, _, _, _, _, _, H, rfl⟩ ⟨rfl, rfl, rfl, rfl, rfl, rfl, trivial⟩ ⟨rfl, rfl, trivial⟩ rfl
               ·clear H
                rintro _ ⟨k, hj1, x0, x3, x5, y207_0, y207_1, y208_0, y208_1, x66, H, rfl⟩
                cases k with
                | zero => cases H
                | succ k =>
                 rw [spec_l03Ok.j1] at H
                 by_cases hc23 : x66 = true
                 ·rw [if_pos hc23] at H
                  refine AG.yes rfl hc23 ?_
                  refine AG.seq ?_
                  refine AG.region HM ?_
                  refine a_move (v := vB _) ?_
                  refine RA.nil nofun ?_
                  refine AG.ret ?_
                  obtain rfl := Option.some.inj H
                  exact RetP.mk id ⟨rfl, trivial⟩ trivial rfl
                 ·rw [if_neg hc23] at H
                  refine AG.no rfl (Bool.eq_false_iff.2 hc23) ?_
                  refine AG.skip ?_
                  refine AG.seq ?_
                  refine AG.region HM ?_
                  refine a_move (v := vI _) ?_
                  refine a_int (u := .int .i64 (wrap64 (x5 + 2))) ?_
                  refine a_move (v := vI _) ?_
                  refine RA.nil nofun ?_
                  refine AG.block ?_
                  refine AG.loop ?_
                  obtain ⟨K2, hK2, gK2⟩ : ∃ K, k ≤ K ∧ K ≤ k := ⟨k, Nat.le_refl k, Nat.le_refl k⟩
                  refine AGr.canon (fun κ => cond (Nat.beq κ 209) 207 (cond (Nat.beq κ 210) 208 (κ))) (AGr.loopI (n := k) (fun k s => k ≤ K2 ∧ ∃ (x0 : List S50) (x3 : Int) (x5 : Int) (y209_0 : Int) (y209_1 : Int) (y210_0 : Int) (y210_1 : Int) (x9 : Int), spec_l03Ok.l2 k x0 x3 x5 y209_0 y209_1 y210_0 y210_1 x9 = some r ∧ s = St.of [(0, vR 51 (x0.map c50)), (3, vI x3), (5, vI x5), (6, .c (.ptr 209 0)), (7, .c (.ptr 210 0)), (9, vI x9)] [(209, .box 51 [.d (.v (.int .i64 y209_0)), .d (.v (.int .i64 y209_1))]), (210, .box 51 [.d (.v (.int .i64 y210_0)), .d (.v (.int .i64 y210_1))])]) ⟨hK2, _, _, _, _, _, _, _, _, H, rfl⟩ ?_ ?_) ⟨rfl, rfl, rfl, rfl, rfl, rfl, trivial⟩ ⟨rfl, rfl, trivial⟩ rfl
                  ·rintro _ ⟨_, _, _, _, _, _, _, _, _, H, _⟩
                   cases H
                  ·clear H hK2
                   rintro k ih2 _ ⟨hK2, x0, x3, x5, y209_0, y209_1, y210_0, y210_1, x9, H, rfl⟩
                   unfold spec_l03Ok.l2 at H
                   refine AG.seq ?_
                   refine AG.seq ?_
                   refine AG.region HM ?_
                   refine a_move (v := vI _) ?_
                   refine a_move (v := vI _) ?_
                   refine a_int (u := .bool (decide (x9 < x3))) ?_
                   refine RA.nil nofun ?_
                   by_cases hc24 : x9 < x3
                   ·rw [if_pos hc24] at H
                    refine AG.yes rfl (decide_eq_true hc24) ?_
                    refine AG.skip ?_
                    refine AG.seq ?_
                    refine AG.block ?_
                    refine AG.seq ?_
                    refine AG.region HM ?_
                    refine a_move (v := vI _) ?_
                    refine a_int (u := .int .i64 (wrap64 (x9 + 1))) ?_
                    refine a_move (v := vI _) ?_
                    by_cases hc25 : x3 = 0
                    ·rw [if_pos hc25] at H
                     cases H
                    ·rw [if_neg hc25] at H
                     refine a_rem (r := Int.tmod (wrap64 (x9 + 1)) x3) ?_ hc25
                     refine a_move (v := vI _) ?_
                     refine a_int (u := .bool (((Int.tmod (wrap64 (x9 + 1)) x3) != x5))) ?_
                     refine a_move (v := vB _) ?_
                     by_cases hc26 : (Int.tmod (wrap64 (x9 + 1)) x3) = x5
                     ·rw [if_pos hc26] at H
                      refine RA.skip rfl rfl rfl rfl rfl (bne_eq_false_iff_eq.2 hc26) (by decide) ?_
                      refine RA.skip rfl rfl rfl rfl rfl (bne_eq_false_iff_eq.2 hc26) (by decide) ?_
                      refine RA.skip rfl rfl rfl rfl rfl (bne_eq_false_iff_eq.2 hc26) (by decide) ?_
                      refine RA.skip rfl rfl rfl rfl rfl (bne_eq_false_iff_eq.2 hc26) (by decide) ?_
                      refine RA.skip rfl rfl rfl rfl rfl (bne_eq_false_iff_eq.2 hc26) (by decide) ?_
                      refine RA.skip rfl rfl rfl rfl rfl (bne_eq_false_iff_eq.2 hc26) (by decide) ?_
                      refine RA.skip rfl rfl rfl rfl rfl (bne_eq_false_iff_eq.2 hc26) (by decide) ?_
                      refine RA.skip rfl rfl rfl rfl rfl (bne_eq_false_iff_eq.2 hc26) (by decide) ?_
                      refine RA.skip rfl rfl rfl rfl rfl (bne_eq_false_iff_eq.2 hc26) (by decide) ?_
                      refine RA.skip rfl rfl rfl rfl rfl (bne_eq_false_iff_eq.2 hc26) (by decide) ?_
                      refine RA.skip rfl rfl rfl rfl rfl (bne_eq_false_iff_eq.2 hc26) (by decide) ?_
                      refine RA.skip rfl rfl rfl rfl rfl (bne_eq_false_iff_eq.2 hc26) (by decide) ?_
                      refine RA.skip rfl rfl rfl rfl rfl (bne_eq_false_iff_eq.2 hc26) (by decide) ?_
                      refine RA.skip rfl rfl rfl rfl rfl (bne_eq_false_iff_eq.2 hc26) (by decide) ?_
                      refine a_pick (b := false) (v := vB _) ?_ (bne_eq_false_iff_eq.2 hc26)
                      refine RA.nil (fun _ => by kernel_rfl) ?_
                      refine AG.no rfl rfl ?_
                      refine AG.skip ?_
                      refine AG.region HM ?_
                      refine a_move (v := vI _) ?_
                      refine a_int (u := .int .i64 (wrap64 (x9 + 1))) ?_
                      refine a_move (v := vI _) ?_
                      refine RA.nil nofun ?_
                      exact AGr.canon id (ih2 _ (by omega) _ ⟨by omega, _, _, _, _, _, _, _, _, H, rfl⟩) ⟨rfl, rfl, rfl, rfl, rfl, rfl, trivial⟩ ⟨rfl, rfl, trivial⟩ rfl
                     ·rw [if_neg hc26] at H
                      refine a_ldB (v := .agg [_, _]) ?_ T51 (hg := Gs.yes rfl rfl rfl (bne_iff_ne.2 hc26))
                      refine a_ldB (v := .agg [_, _]) ?_ T51 (hg := Gs.yes rfl rfl rfl (bne_iff_ne.2 hc26))
                      refine a_move (v := vR _ _) ?_ (hg := Gs.yes rfl rfl rfl (bne_iff_ne.2 hc26))
                      refine a_move (v := vI _) ?_ (hg := Gs.yes rfl rfl rfl (bne_iff_ne.2 hc26))
                      by_cases hc27 : 0 ≤ x9
                      ·rw [if_pos hc27] at H
                       by_cases hc28 : x9 < (x0.length : Int)
                       ·rw [if_pos hc28] at H
                        refine a_ixR (el := c50 (rd50 x0 x9)) ?_ ⟨hc27, hc28⟩ T51 Tryz.underlying30 (hel := R50 hc27 hc28) (hg := Gs.yes rfl rfl rfl (bne_iff_ne.2 hc26))
                        refine a_ldR (v := .agg [_, _]) ?_ T51 (hg := Gs.yes rfl rfl rfl (bne_iff_ne.2 hc26))
                        refine a_move (v := vR _ _) ?_ (hg := Gs.yes rfl rfl rfl (bne_iff_ne.2 hc26))
                        refine a_move (v := vI _) ?_ (hg := Gs.yes rfl rfl rfl (bne_iff_ne.2 hc26))
                        refine a_int (u := .int .i64 (wrap64 (x9 + 1))) ?_ (hg := Gs.yes rfl rfl rfl (bne_iff_ne.2 hc26))
                        refine a_move (v := vI _) ?_ (hg := Gs.yes rfl rfl rfl (bne_iff_ne.2 hc26))
                        refine a_rem (r := Int.tmod (wrap64 (x9 + 1)) x3) ?_ hc25 (hg := Gs.yes rfl rfl rfl (bne_iff_ne.2 hc26))
                        by_cases hc29 : 0 ≤ (Int.tmod (wrap64 (x9 + 1)) x3)
                        ·rw [if_pos hc29] at H
                         by_cases hc30 : (Int.tmod (wrap64 (x9 + 1)) x3) < (x0.length : Int)
                         ·rw [if_pos hc30] at H
                          refine a_ixR (el := c50 (rd50 x0 (Int.tmod (wrap64 (x9 + 1)) x3))) ?_ ⟨hc29, hc30⟩ T51 Tryz.underlying30 (hel := R50 hc29 hc30) (hg := Gs.yes rfl rfl rfl (bne_iff_ne.2 hc26))
                          refine a_ldR (v := .agg [_, _]) ?_ T51 (hg := Gs.yes rfl rfl rfl (bne_iff_ne.2 hc26))
                          obtain ⟨t31, e32, H⟩ := bindO H
                          refine a_call (v := vB t31) (nk := []) (L := []) ?_ rfl (spec_l03Meet.ok e32) id (qg (qg (qg (qg qn)))) trivial trivial trivial rfl (hg := Gs.yes rfl rfl rfl (bne_iff_ne.2 hc26))
                          refine a_pick (b := true) (v := vB _) ?_ (bne_iff_ne.2 hc26)
                          refine RA.nil (fun _ => by kernel_rfl) ?_
                          by_cases hc33 : t31 = true
                          ·rw [if_pos hc33] at H
                           refine AG.yes rfl hc33 ?_
                           refine AG.seq ?_
                           refine AG.region HM ?_
                           refine a_move (v := vB _) ?_
                           refine RA.nil nofun ?_
                           refine AG.ret ?_
                           obtain rfl := Option.some.inj H
                           exact RetP.mk id ⟨rfl, trivial⟩ trivial rfl
                          ·rw [if_neg hc33] at H
                           refine AG.no rfl (Bool.eq_false_iff.2 hc33) ?_
                           refine AG.skip ?_
                           refine AG.region HM ?_
                           refine a_move (v := vI _) ?_
                           refine a_int (u := .int .i64 (wrap64 (x9 + 1))) ?_
                           refine a_move (v := vI _) ?_
                           refine RA.nil nofun ?_
                           exact AGr.canon id (ih2 _ (by omega) _ ⟨by omega, _, _, _, _, _, _, _, _, H, rfl⟩) ⟨rfl, rfl, rfl, rfl, rfl, rfl, trivial⟩ ⟨rfl, rfl, trivial⟩ rfl
                         ·rw [if_neg hc30] at H
                          cases H
                        ·rw [if_neg hc29] at H
                         cases H
                       ·rw [if_neg hc28] at H
                        cases H
                      ·rw [if_neg hc27] at H
                       cases H
                   ·rw [if_neg hc24] at H
                    refine AG.no rfl (decide_eq_false hc24) ?_
                    refine AG.exit ?_
                    refine AG.region HM ?_
                    refine a_move (v := vI _) ?_
                    refine a_int (u := .int .i64 (wrap64 (x5 + 1))) ?_
                    refine a_move (v := vI _) ?_
                    refine RA.nil nofun ?_
                    exact AGr.canon id (ih1 _ (by omega) _ ⟨by omega, _, _, _, H, rfl⟩) ⟨rfl, rfl, rfl, trivial⟩ trivial rfl
              ·rw [if_neg hc16] at H
               cases H
             ·rw [if_neg hc15] at H
              cases H
            ·rw [if_neg hc14] at H
             cases H
           ·rw [if_neg hc13] at H
            cases H
         ·rw [if_neg hc11] at H
          cases H
        ·rw [if_neg hc10] at H
         cases H
       ·rw [if_neg hc9] at H
        refine AG.no rfl (decide_eq_false hc9) ?_
        refine AG.exit ?_
        refine AG.seq ?_
        refine AG.region HM ?_
        refine a_move (v := vR _ _) ?_
        obtain ⟨t34, e35, H⟩ := bindO H
        refine a_call (v := vI t34) (nk := []) (L := []) ?_ rfl (spec_l03Area.ok e35) id (qd qn) trivial trivial trivial rfl
        refine a_int (u := .bool (decide (t34 > 0))) ?_
        refine a_move (v := vB _) ?_
        refine RA.nil nofun ?_
        refine AG.ret ?_
        obtain rfl := Option.some.inj H
        exact RetP.mk id ⟨rfl, trivial⟩ trivial rfl
/-! ### spec_l05Ok: function 18 -/
mutual
def spec_l05Ok.j0 : Nat → Int → Int → List S50 → List S72 → Bool → Option (Bool)
 | 0, _, _, _, _, _ => none
 | k + 1, x0_0, x0_1, x0_2, x0_3, x32 => if x32 = true then (some false) else (spec_l05Ok.l0 k x0_0 x0_1 x0_2 x0_3 0)
def spec_l05Ok.l0 : Nat → Int → Int → List S50 → List S72 → Int → Option (Bool)
 | 0, _, _, _, _, _ => none
 | k + 1, x0_0, x0_1, x0_2, x0_3, x3 => if x3 < (x0_3.length : Int) then (if 0 ≤ x3 then ((spec_l01Name.f k ((rd72 x0_3 x3).f0)).bind fun t13 => (if t13 = true then (if x3 > 0 then (if 0 ≤ (wrap64 (x3 - 1)) then (if (wrap64 (x3 - 1)) < (x0_3.length : Int) then (spec_l05Ok.j1 k x0_0 x0_1 x0_2 x0_3 x3 (!(Op.bytesLess (((rd72 x0_3 (wrap64 (x3 - 1))).f0).toList) (((rd72 x0_3 x3).f0).toList)))) else (none)) else (none)) else (spec_l05Ok.j1 k x0_0 x0_1 x0_2 x0_3 x3 false)) else (spec_l05Ok.j1 k x0_0 x0_1 x0_2 x0_3 x3 true))) else (none)) else (some true)
def spec_l05Ok.j1 : Nat → Int → Int → List S50 → List S72 → Int → Bool → Option (Bool)
 | 0, _, _, _, _, _, _ => none
 | k + 1, x0_0, x0_1, x0_2, x0_3, x3, x75 => if x75 = true then (some false) else (if 0 ≤ x3 then (if x3 < (x0_3.length : Int) then ((spec_l05Ring.f k x0_0 x0_1 x0_2 x0_3 ((rd72 x0_3 x3).f1)).bind fun bt22 => (if bt22.2 = true then ((spec_l03Ok.f k bt22.1).bind fun t26 => (if t26 = true then (spec_l05Ok.l0 k x0_0 x0_1 x0_2 x0_3 (wrap64 (x3 + 1))) else (some false))) else (some false))) else (none)) else (none))
end
def spec_l05Ok.f (k : Nat) (a0_0 : Int) (a0_1 : Int) (l0_2 : List S50) (l0_3 : List S72) : Option (Bool) := (spec_l00In.f a0_0 10 20000).bind fun t1 => (if t1 = true then ((spec_l00In.f a0_1 10 20000).bind fun t4 => (if t4 = true then ((spec_l05Points.f k a0_0 a0_1 l0_2 l0_3).bind fun t7 => (if t7 = true then (spec_l05Ok.j0 k a0_0 a0_1 l0_2 l0_3 (decide ((l0_3.length : Int) > 24))) else (spec_l05Ok.j0 k a0_0 a0_1 l0_2 l0_3 true))) else (spec_l05Ok.j0 k a0_0 a0_1 l0_2 l0_3 true))) else (spec_l05Ok.j0 k a0_0 a0_1 l0_2 l0_3 true))
set_option maxRecDepth 100000 in
theorem spec_l05Ok.ok {k : Nat} {a0_0 : Int} {a0_1 : Int} {l0_2 : List S50} {l0_3 : List S72} {r : Bool} (H : spec_l05Ok.f k a0_0 a0_1 l0_2 l0_3 = some r) : OkF Tryz.prog 18 [.c (.d (.ro [.v (.int .i64 a0_0), .v (.int .i64 a0_1), .row 51 (l0_2.map c50), .row 76 (l0_3.map c72)]))] [] (.c (.d (.v (.bool r)))) [] := by
 unfold spec_l05Ok.f at H
 refine OkF.of (N := 96) (rs := [2]) (avs := [.c (.d (.v (.bool r)))]) Tryz.func18 rfl rfl (fun _ _ => results_tmp rfl _ _ _) (by decide) rfl rfl rfl rfl (fun w0 S => ?_)
 refine AG.seq ?_
 refine AG.region HM ?_
 refine a_move (v := vB _) ?_
 refine RA.nil nofun ?_
 refine AG.seq ?_
 refine AG.seq ?_
 refine AG.joinR (fun s => ∃ q, q ≤ k ∧ ∃ (x0_0 : Int) (x0_1 : Int) (x0_2 : List S50) (x0_3 : List S72) (x32 : Bool), spec_l05Ok.j0 q x0_0 x0_1 x0_2 x0_3 x32 = some r ∧ s = St.of [(0, .c (.d (.ro [.v (.int .i64 x0_0), .v (.int .i64 x0_1), .row 51 (x0_2.map c50), .row 76 (x0_3.map c72)]))), (32, vB x32)] []) ?_ ?_
 ·skip
  refine AG.region HM ?_
  refine a_move (v := vO [_, _, _, _]) ?_
  refine a_nil (v := vO [_, _, _, _]) ?_
  refine a_faR (cells' := [_, _, _, _]) ?_ D33_0
  refine a_ldR (v := vI _) ?_ T2
  obtain ⟨t1, e2, H⟩ := bindO H
  refine a_call (v := vB t1) (nk := []) (L := []) ?_ rfl (spec_l00In.ok e2) id (qd (qd (qd qn))) trivial trivial trivial rfl
  refine a_un (u := .bool (!t1)) ?_
  refine a_move (v := vB _) ?_
  by_cases hc3 : t1 = true
  ·rw [if_pos hc3] at H
   refine a_move (v := vO [_, _, _, _]) ?_ (hg := Gs.yes rfl rfl rfl (congrArg Bool.not hc3))
   refine a_nil (v := vO [_, _, _, _]) ?_ (hg := Gs.yes rfl rfl rfl (congrArg Bool.not hc3))
   refine a_faR (cells' := [_, _, _]) ?_ D33_1 (hg := Gs.yes rfl rfl rfl (congrArg Bool.not hc3))
   refine a_ldR (v := vI _) ?_ T2 (hg := Gs.yes rfl rfl rfl (congrArg Bool.not hc3))
   obtain ⟨t4, e5, H⟩ := bindO H
   refine a_call (v := vB t4) (nk := []) (L := []) ?_ rfl (spec_l00In.ok e5) id (qd (qd (qd qn))) trivial trivial trivial rfl (hg := Gs.yes rfl rfl rfl (congrArg Bool.not hc3))
   refine a_un (u := .bool (!t4)) ?_ (hg := Gs.yes rfl rfl rfl (congrArg Bool.not hc3))
   refine a_pick (b := false) (v := vB _) ?_ (congrArg Bool.not hc3)
   refine a_move (v := vB _) ?_
   by_cases hc6 : t4 = true
   ·rw [if_pos hc6] at H
    refine a_move (v := vO [_, _, _, _]) ?_ (hg := Gs.yes rfl rfl rfl (congrArg Bool.not hc6))
    obtain ⟨t7, e8, H⟩ := bindO H
    refine a_call (v := vB t7) (nk := []) (L := []) ?_ rfl (spec_l05Points.ok e8) id (qd qn) trivial trivial trivial rfl (hg := Gs.yes rfl rfl rfl (congrArg Bool.not hc6))
    refine a_un (u := .bool (!t7)) ?_ (hg := Gs.yes rfl rfl rfl (congrArg Bool.not hc6))
    refine a_pick (b := false) (v := vB _) ?_ (congrArg Bool.not hc6)
    refine a_move (v := vB _) ?_
    by_cases hc9 : t7 = true
    ·rw [if_pos hc9] at H
     refine a_move (v := vO [_, _, _, _]) ?_ (hg := Gs.yes rfl rfl rfl (congrArg Bool.not hc9))
     refine a_nil (v := vO [_, _, _, _]) ?_ (hg := Gs.yes rfl rfl rfl (congrArg Bool.not hc9))
     refine a_faR (cells' := [_]) ?_ D33_3 (hg := Gs.yes rfl rfl rfl (congrArg Bool.not hc9))
     refine a_ldR (v := vR _ _) ?_ T31 (hg := Gs.yes rfl rfl rfl (congrArg Bool.not hc9))
     refine a_lenR ?_ Tryz.underlying31 (hg := Gs.yes rfl rfl rfl (congrArg Bool.not hc9))
     refine a_int (u := .bool (decide ((l0_3.length : Int) > 24))) ?_ (hg := Gs.yes rfl rfl rfl (congrArg Bool.not hc9))
     refine a_pick (b := false) (v := vB _) ?_ (congrArg Bool.not hc9)
     refine RA.nil nofun ?_
     exact CanR.mk id ⟨_, (by omega), _, _, _, _, _, H, rfl⟩ ⟨rfl, rfl, trivial⟩ trivial rfl
    ·rw [if_neg hc9] at H
     refine RA.skip rfl rfl rfl rfl rfl (congrArg Bool.not (Bool.eq_false_iff.2 hc9)) (by decide) ?_
     refine RA.skip rfl rfl rfl rfl rfl (congrArg Bool.not (Bool.eq_false_iff.2 hc9)) (by decide) ?_
     refine RA.skip rfl rfl rfl rfl rfl (congrArg Bool.not (Bool.eq_false_iff.2 hc9)) (by decide) ?_
     refine RA.skip rfl rfl rfl rfl rfl (congrArg Bool.not (Bool.eq_false_iff.2 hc9)) (by decide) ?_
     refine RA.skip rfl rfl rfl rfl rfl (congrArg Bool.not (Bool.eq_false_iff.2 hc9)) (by decide) ?_
     refine RA.skip rfl rfl rfl rfl rfl (congrArg Bool.not (Bool.eq_false_iff.2 hc9)) (by decide) ?_
     refine a_pick (b := true) (v := vB _) ?_ (congrArg Bool.not (Bool.eq_false_iff.2 hc9))
     refine RA.nil nofun ?_
     exact CanR.mk id ⟨_, (by omega), _, _, _, _, _, H, rfl⟩ ⟨rfl, rfl, trivial⟩ trivial rfl
   ·rw [if_neg hc6] at H
    refine RA.skip rfl rfl rfl rfl rfl (congrArg Bool.not (Bool.eq_false_iff.2 hc6)) (by decide) ?_
    refine RA.skip rfl rfl rfl rfl rfl (congrArg Bool.not (Bool.eq_false_iff.2 hc6)) (by decide) ?_
    refine RA.skip rfl rfl rfl rfl rfl (congrArg Bool.not (Bool.eq_false_iff.2 hc6)) (by decide) ?_
    refine a_pick (b := true) (v := vB _) ?_ (congrArg Bool.not (Bool.eq_false_iff.2 hc6))
    refine a_move (v := vB _) ?_
    refine RA.skip rfl rfl rfl rfl rfl rfl (by decide) ?_
    refine RA.skip rfl rfl rfl rfl rfl rfl (by decide) ?_
    refine RA.skip rfl rfl rfl rfl rfl rfl (by decide) ?_
    refine RA.skip rfl rfl rfl rfl rfl rfl (by decide) ?_
    refine RA.skip rfl rfl rfl rfl rfl rfl (by decide) ?_
    refine RA.skip rfl rfl rfl rfl rfl rfl (by decide) ?_
    refine a_pick (b := true) (v := vB _) ?_ rfl
    refine RA.nil nofun ?_
    exact CanR.mk id ⟨_, (by omega), _, _, _, _, _, H, rfl⟩ ⟨rfl, rfl, trivial⟩ trivial rfl
  ·rw [if_neg hc3] at H
   refine RA.skip rfl rfl rfl rfl rfl (congrArg Bool.not (Bool.eq_false_iff.2 hc3)) (by decide) ?_
   refine RA.skip rfl rfl rfl rfl rfl (congrArg Bool.not (Bool.eq_false_iff.2 hc3)) (by decide) ?_
   refine RA.skip rfl rfl rfl rfl rfl (congrArg Bool.not (Bool.eq_false_iff.2 hc3)) (by decide) ?_
   refine RA.skip rfl rfl rfl rfl rfl (congrArg Bool.not (Bool.eq_false_iff.2 hc3)) (by decide) ?_
   refine RA.skip rfl rfl rfl rfl rfl (congrArg Bool.not (Bool.eq_false_iff.2 hc3)) (by decide) ?_
   refine RA.skip rfl rfl rfl rfl rfl (congrArg Bool.not (Bool.eq_false_iff.2 hc3)) (by decide) ?_
   refine a_pick (b := true) (v := vB _) ?_ (congrArg Bool.not (Bool.eq_false_iff.2 hc3))
   refine a_move (v := vB _) ?_
   refine RA.skip rfl rfl rfl rfl rfl rfl (by decide) ?_
   refine RA.skip rfl rfl rfl rfl rfl rfl (by decide) ?_
   refine RA.skip rfl rfl rfl rfl rfl rfl (by decide) ?_
   refine a_pick (b := true) (v := vB _) ?_ rfl
   refine a_move (v := vB _) ?_
   refine RA.skip rfl rfl rfl rfl rfl rfl (by decide) ?_
   refine RA.skip rfl rfl rfl rfl rfl rfl (by decide) ?_
   refine RA.skip rfl rfl rfl rfl rfl rfl (by decide) ?_
   refine RA.skip rfl rfl rfl rfl rfl rfl (by decide) ?_
   refine RA.skip rfl rfl rfl rfl rfl rfl (by decide) ?_
   refine RA.skip rfl rfl rfl rfl rfl rfl (by decide) ?_
   refine a_pick (b := true) (v := vB _) ?_ rfl
   refine RA.nil nofun ?_
   exact CanR.mk id ⟨_, (by omega), _, _, _, _, _, H, rfl⟩ ⟨rfl, rfl, trivial⟩ trivial rfl
 ·clear H
  rintro _ ⟨k, hj0, x0_0, x0_1, x0_2, x0_3, x32, H, rfl⟩
  cases k with
  | zero => cases H
  | succ k =>
   rw [spec_l05Ok.j0] at H
   by_cases hc10 : x32 = true
   ·rw [if_pos hc10] at H
    refine AG.yes rfl hc10 ?_
    refine AG.seq ?_
    refine AG.region HM ?_
    refine a_move (v := vB _) ?_
    refine RA.nil nofun ?_
    refine AG.ret ?_
    obtain rfl := Option.some.inj H
    exact RetP.mk id ⟨rfl, trivial⟩ trivial rfl
   ·rw [if_neg hc10] at H
    refine AG.no rfl (Bool.eq_false_iff.2 hc10) ?_
    refine AG.skip ?_
    refine AG.seq ?_
    refine AG.seq ?_
    refine AG.region HM ?_
    refine a_move (v := vI _) ?_
    refine RA.nil nofun ?_
    refine AG.block ?_
    refine AG.loop ?_
    obtain ⟨K0, hK0, gK0⟩ : ∃ K, k ≤ K ∧ K ≤ k := ⟨k, Nat.le_refl k, Nat.le_refl k⟩
    refine AGr.canon id (AGr.loopI (n := k) (fun k s => k ≤ K0 ∧ ∃ (x0_0 : Int) (x0_1 : Int) (x0_2 : List S50) (x0_3 : List S72) (x3 : Int), spec_l05Ok.l0 k x0_0 x0_1 x0_2 x0_3 x3 = some r ∧ s = St.of [(0, .c (.d (.ro [.v (.int .i64 x0_0), .v (.int .i64 x0_1), .row 51 (x0_2.map c50), .row 76 (x0_3.map c72)]))), (3, vI x3)] []) ⟨hK0, _, _, _, _, _, H, rfl⟩ ?_ ?_) ⟨rfl, rfl, trivial⟩ trivial rfl
    ·rintro _ ⟨_, _, _, _, _, _, H, _⟩
     cases H
    ·clear H hK0
     rintro k ih0 _ ⟨hK0, x0_0, x0_1, x0_2, x0_3, x3, H, rfl⟩
     unfold spec_l05Ok.l0 at H
     refine AG.seq ?_
     refine AG.seq ?_
     refine AG.region HM ?_
     refine a_move (v := vI _) ?_
     refine a_move (v := vO [_, _, _, _]) ?_
     refine a_nil (v := vO [_, _, _, _]) ?_
     refine a_faR (cells' := [_]) ?_ D33_3
     refine a_ldR (v := vR _ _) ?_ T31
     refine a_lenR ?_ Tryz.underlying31
     refine a_int (u := .bool (decide (x3 < (x0_3.length : Int)))) ?_
     refine RA.nil nofun ?_
     by_cases hc11 : x3 < (x0_3.length : Int)
     ·rw [if_pos hc11] at H
      refine AG.yes rfl (decide_eq_true hc11) ?_
      refine AG.skip ?_
      refine AG.seq ?_
      refine AG.block ?_
      refine AG.seq ?_
      refine AG.seq ?_
      refine AG.joinR (fun s => ∃ q, q ≤ k ∧ ∃ (x0_0 : Int) (x0_1 : Int) (x0_2 : List S50) (x0_3 : List S72) (x3 : Int) (x75 : Bool), spec_l05Ok.j1 q x0_0 x0_1 x0_2 x0_3 x3 x75 = some r ∧ s = St.of [(0, .c (.d (.ro [.v (.int .i64 x0_0), .v (.int .i64 x0_1), .row 51 (x0_2.map c50), .row 76 (x0_3.map c72)]))), (3, vI x3), (75, vB x75)] []) ?_ ?_
      ·skip
       refine AG.region HM ?_
       refine a_move (v := vO [_, _, _, _]) ?_
       refine a_nil (v := vO [_, _, _, _]) ?_
       refine a_faR (cells' := [_]) ?_ D33_3
       refine a_ldR (v := vR _ _) ?_ T31
       refine a_move (v := vI _) ?_
       by_cases hc12 : 0 ≤ x3
       ·rw [if_pos hc12] at H
        refine a_ixR (el := c72 (rd72 x0_3 x3)) ?_ ⟨hc12, hc11⟩ T76 Tryz.underlying31 (hel := R72 hc12 hc11)
        refine a_faR (cells' := [_, _]) ?_ D76_0
        refine a_ldR (v := vS _) ?_ T9
        obtain ⟨t13, e14, H⟩ := bindO H
        refine a_call (v := vB t13) (nk := []) (L := []) ?_ rfl (spec_l01Name.ok e14) id (qd qn) trivial trivial trivial rfl
        refine a_un (u := .bool (!t13)) ?_
        refine a_move (v := vB _) ?_
        by_cases hc15 : t13 = true
        ·rw [if_pos hc15] at H
         refine a_move (v := vI _) ?_ (hg := Gs.yes rfl rfl rfl (congrArg Bool.not hc15))
         refine a_int (u := .bool (decide (x3 > 0))) ?_ (hg := Gs.yes rfl rfl rfl (congrArg Bool.not hc15))
         refine a_move (v := vB _) ?_ (hg := Gs.yes rfl rfl rfl (congrArg Bool.not hc15))
         by_cases hc16 : x3 > 0
         ·rw [if_pos hc16] at H
          refine a_move (v := vO [_, _, _, _]) ?_ (hg := Gs.yes rfl rfl rfl (decide_eq_true hc16))
          refine a_nil (v := vO [_, _, _, _]) ?_ (hg := Gs.yes rfl rfl rfl (decide_eq_true hc16))
          refine a_faR (cells' := [_]) ?_ D33_3 (hg := Gs.yes rfl rfl rfl (decide_eq_true hc16))
          refine a_ldR (v := vR _ _) ?_ T31 (hg := Gs.yes rfl rfl rfl (decide_eq_true hc16))
          refine a_move (v := vI _) ?_ (hg := Gs.yes rfl rfl rfl (decide_eq_true hc16))
          refine a_int (u := .int .i64 (wrap64 (x3 - 1))) ?_ (hg := Gs.yes rfl rfl rfl (decide_eq_true hc16))
          by_cases hc17 : 0 ≤ (wrap64 (x3 - 1))
          ·rw [if_pos hc17] at H
           by_cases hc18 : (wrap64 (x3 - 1)) < (x0_3.length : Int)
           ·rw [if_pos hc18] at H
            refine a_ixR (el := c72 (rd72 x0_3 (wrap64 (x3 - 1)))) ?_ ⟨hc17, hc18⟩ T76 Tryz.underlying31 (hel := R72 hc17 hc18) (hg := Gs.yes rfl rfl rfl (decide_eq_true hc16))
            refine a_faR (cells' := [_, _]) ?_ D76_0 (hg := Gs.yes rfl rfl rfl (decide_eq_true hc16))
            refine a_ldR (v := vS _) ?_ T9 (hg := Gs.yes rfl rfl rfl (decide_eq_true hc16))
            refine a_move (v := vO [_, _, _, _]) ?_ (hg := Gs.yes rfl rfl rfl (decide_eq_true hc16))
            refine a_nil (v := vO [_, _, _, _]) ?_ (hg := Gs.yes rfl rfl rfl (decide_eq_true hc16))
            refine a_faR (cells' := [_]) ?_ D33_3 (hg := Gs.yes rfl rfl rfl (decide_eq_true hc16))
            refine a_ldR (v := vR _ _) ?_ T31 (hg := Gs.yes rfl rfl rfl (decide_eq_true hc16))
            refine a_move (v := vI _) ?_ (hg := Gs.yes rfl rfl rfl (decide_eq_true hc16))
            refine a_ixR (el := c72 (rd72 x0_3 x3)) ?_ ⟨hc12, hc11⟩ T76 Tryz.underlying31 (hel := R72 hc12 hc11) (hg := Gs.yes rfl rfl rfl (decide_eq_true hc16))
            refine a_faR (cells' := [_, _]) ?_ D76_0 (hg := Gs.yes rfl rfl rfl (decide_eq_true hc16))
            refine a_ldR (v := vS _) ?_ T9 (hg := Gs.yes rfl rfl rfl (decide_eq_true hc16))
            refine a_bin (u := .bool (!(Op.bytesLess (((rd72 x0_3 (wrap64 (x3 - 1))).f0).toList) (((rd72 x0_3 x3).f0).toList)))) ?_ (hg := Gs.yes rfl rfl rfl (decide_eq_true hc16))
            refine a_pick (b := true) (v := vB _) ?_ (decide_eq_true hc16) (hg := Gs.yes rfl rfl rfl (congrArg Bool.not hc15))
            refine a_pick (b := false) (v := vB _) ?_ (congrArg Bool.not hc15)
            refine RA.nil (fun _ => by kernel_rfl) ?_
            exact CanR.mk id ⟨_, (by omega), _, _, _, _, _, _, H, rfl⟩ ⟨rfl, rfl, rfl, trivial⟩ trivial rfl
           ·rw [if_neg hc18] at H
            cases H
          ·rw [if_neg hc17] at H
           cases H
         ·rw [if_neg hc16] at H
          refine RA.skip rfl rfl rfl rfl rfl (decide_eq_false hc16) (by decide) ?_
          refine RA.skip rfl rfl rfl rfl rfl (decide_eq_false hc16) (by decide) ?_
          refine RA.skip rfl rfl rfl rfl rfl (decide_eq_false hc16) (by decide) ?_
          refine RA.skip rfl rfl rfl rfl rfl (decide_eq_false hc16) (by decide) ?_
          refine RA.skip rfl rfl rfl rfl rfl (decide_eq_false hc16) (by decide) ?_
          refine RA.skip rfl rfl rfl rfl rfl (decide_eq_false hc16) (by decide) ?_
          refine RA.skip rfl rfl rfl rfl rfl (decide_eq_false hc16) (by decide) ?_
          refine RA.skip rfl rfl rfl rfl rfl (decide_eq_false hc16) (by decide) ?_
          refine RA.skip rfl rfl rfl rfl rfl (decide_eq_false hc16) (by decide) ?_
          refine RA.skip rfl rfl rfl rfl rfl (decide_eq_false hc16) (by decide) ?_
          refine RA.skip rfl rfl rfl rfl rfl (decide_eq_false hc16) (by decide) ?_
          refine RA.skip rfl rfl rfl rfl rfl (decide_eq_false hc16) (by decide) ?_
          refine RA.skip rfl rfl rfl rfl rfl (decide_eq_false hc16) (by decide) ?_
          refine RA.skip rfl rfl rfl rfl rfl (decide_eq_false hc16) (by decide) ?_
          refine RA.skip rfl rfl rfl rfl rfl (decide_eq_false hc16) (by decide) ?_
          refine RA.skip rfl rfl rfl rfl rfl (decide_eq_false hc16) (by decide) ?_
          refine RA.skip rfl rfl rfl rfl rfl (decide_eq_false hc16) (by decide) ?_
          refine RA.skip rfl rfl rfl rfl rfl (decide_eq_false hc16) (by decide) ?_
          refine a_pick (b := false) (v := vB _) ?_ (decide_eq_false hc16) (hg := Gs.yes rfl rfl rfl (congrArg Bool.not hc15))
          refine a_pick (b := false) (v := vB _) ?_ (congrArg Bool.not hc15)
          refine RA.nil (fun _ => by kernel_rfl) ?_
          exact CanR.mk id ⟨_, (by omega), _, _, _, _, _, _, H, rfl⟩ ⟨rfl, rfl, rfl, trivial⟩ trivial rfl
        ·rw [if_neg hc15] at H
         refine RA.skip rfl rfl rfl rfl rfl (congrArg Bool.not (Bool.eq_false_iff.2 hc15)) (by decide) ?_
         refine RA.skip rfl rfl rfl rfl rfl (congrArg Bool.not (Bool.eq_false_iff.2 hc15)) (by decide) ?_
         refine RA.skip rfl rfl rfl rfl rfl (congrArg Bool.not (Bool.eq_false_iff.2 hc15)) (by decide) ?_
         refine RA.skip0 rfl rfl rfl rfl rfl ?_
         refine RA.skip0 rfl rfl rfl rfl rfl ?_
         refine RA.skip0 rfl rfl rfl rfl rfl ?_
         refine RA.skip0 rfl rfl rfl rfl rfl ?_
         refine RA.skip0 rfl rfl rfl rfl rfl ?_
         refine RA.skip0 rfl rfl rfl rfl rfl ?_
         refine RA.skip0 rfl rfl rfl rfl rfl ?_
         refine RA.skip0 rfl rfl rfl rfl rfl ?_
         refine RA.skip0 rfl rfl rfl rfl rfl ?_
         refine RA.skip0 rfl rfl rfl rfl rfl ?_
         refine RA.skip0 rfl rfl rfl rfl rfl ?_
         refine RA.skip0 rfl rfl rfl rfl rfl ?_
         refine RA.skip0 rfl rfl rfl rfl rfl ?_
         refine RA.skip0 rfl rfl rfl rfl rfl ?_
         refine RA.skip0 rfl rfl rfl rfl rfl ?_
         refine RA.skip0 rfl rfl rfl rfl rfl ?_
         refine RA.skip0 rfl rfl rfl rfl rfl ?_
         refine RA.skip0 rfl rfl rfl rfl rfl ?_
         refine RA.skip rfl rfl rfl rfl rfl (congrArg Bool.not (Bool.eq_false_iff.2 hc15)) (by decide) ?_
         refine a_pick (b := true) (v := vB _) ?_ (congrArg Bool.not (Bool.eq_false_iff.2 hc15))
         refine RA.nil (fun _ => by kernel_rfl) ?_
         exact CanR.mk id ⟨_, (by omega), _, _, _, _, _, _, H, rfl⟩ ⟨rfl, rfl, rfl, trivial⟩ trivial rfl
       ·rw [if_neg hc12] at H
        cases H
      ·clear H
       rintro _ ⟨k, hj1, x0_0, x0_1, x0_2, x0_3, x3, x75, H, rfl⟩
       cases k with
       | zero => cases H
       | succ k =>
        rw [spec_l05Ok.j1] at H
        by_cases hc19 : x75 = true
        ·rw [if_pos hc19] at H
         refine AG.yes rfl hc19 ?_
         refine AG.seq ?_
         refine AG.region HM ?_
         refine a_move (v := vB _) ?_
         refine RA.nil nofun ?_
         refine AG.ret ?_
         obtain rfl := Option.some.inj H
         exact RetP.mk id ⟨rfl, trivial⟩ trivial rfl
        ·rw [if_neg hc19] at H
         refine AG.no rfl (Bool.eq_false_iff.2 hc19) ?_
         refine AG.skip ?_
         refine AG.seq ?_
         refine AG.region HM ?_
         refine a_move (v := vO [_, _, _, _]) ?_
         refine a_move (v := vO [_, _, _, _]) ?_
         refine a_nil (v := vO [_, _, _, _]) ?_
         refine a_faR (cells' := [_]) ?_ D33_3
         refine a_ldR (v := vR _ _) ?_ T31
         refine a_move (v := vI _) ?_
         by_cases hc20 : 0 ≤ x3
         ·rw [if_pos hc20] at H
          by_cases hc21 : x3 < (x0_3.length : Int)
          ·rw [if_pos hc21] at H
           refine a_ixR (el := c72 (rd72 x0_3 x3)) ?_ ⟨hc20, hc21⟩ T76 Tryz.underlying31 (hel := R72 hc20 hc21)
           refine a_faR (cells' := [_]) ?_ D76_1
           refine a_ldR (v := vR _ _) ?_ T27
           obtain ⟨⟨t22, t23⟩, e24, H⟩ := bindO H
           refine a_call (v := .tup [.c (.own 204 t22.length), .c (.d (.v (.bool t23)))]) (nk := [(204, .row 51 (t22.map c50))]) (L := []) ?_ rfl (spec_l05Ring.ok e24) (fun κ => cond (Nat.beq κ 204) 100 (κ)) (qd (qd qn)) trivial ⟨rfl, trivial⟩ ⟨rfl, trivial⟩ rfl
           refine a_move (v := .tup [_, _]) ?_
           refine a_ext (v := .c (.own _ _)) ?_
           refine a_ext (v := vB _) ?_
           refine a_move (v := .c (.own _ _)) ?_
           refine a_move (v := vB _) ?_
           refine RA.nil nofun ?_
           refine AG.seq ?_
           refine AG.region HM ?_
           refine a_move (v := vB _) ?_
           refine a_un (u := .bool (!t23)) ?_
           refine a_move (v := vB _) ?_
           by_cases hc25 : t23 = true
           ·rw [if_pos hc25] at H
            refine a_move (v := .c (.own _ _)) ?_ (hg := Gs.yes rfl rfl rfl (congrArg Bool.not hc25))
            obtain ⟨t26, e27, H⟩ := bindO H
            refine a_call (v := vB t26) (nk := []) (L := [(204, _)]) ?_ rfl (spec_l03Ok.ok e27) id (qc rO qn) ⟨rfl, trivial⟩ trivial trivial rfl (hg := Gs.yes rfl rfl rfl (congrArg Bool.not hc25))
            refine a_un (u := .bool (!t26)) ?_ (hg := Gs.yes rfl rfl rfl (congrArg Bool.not hc25))
            refine a_pick (b := false) (v := vB _) ?_ (congrArg Bool.not hc25)
            refine RA.nil nofun ?_
            by_cases hc28 : t26 = true
            ·rw [if_pos hc28] at H
             refine AG.no rfl (congrArg Bool.not hc28) ?_
             refine AG.skip ?_
             refine AG.region HM ?_
             refine a_move (v := vI _) ?_
             refine a_int (u := .int .i64 (wrap64 (x3 + 1))) ?_
             refine a_move (v := vI _) ?_
             refine RA.nil nofun ?_
             exact AGr.canon id (ih0 _ (by omega) _ ⟨by omega, _, _, _, _, _, H, rfl⟩) ⟨rfl, rfl, trivial⟩ trivial rfl
            ·rw [if_neg hc28] at H
             refine AG.yes rfl (congrArg Bool.not (Bool.eq_false_iff.2 hc28)) ?_
             refine AG.seq ?_
             refine AG.region HM ?_
             refine a_move (v := vB _) ?_
             refine RA.nil nofun ?_
             refine AG.ret ?_
             obtain rfl := Option.some.inj H
             exact RetP.mk id ⟨rfl, trivial⟩ trivial rfl
           ·rw [if_neg hc25] at H
            refine RA.skip rfl rfl rfl rfl rfl (congrArg Bool.not (Bool.eq_false_iff.2 hc25)) (by decide) ?_
            refine RA.skip rfl rfl rfl rfl rfl (congrArg Bool.not (Bool.eq_false_iff.2 hc25)) (by decide) ?_
            refine RA.skip rfl rfl rfl rfl rfl (congrArg Bool.not (Bool.eq_false_iff.2 hc25)) (by decide) ?_
            refine a_pick (b := true) (v := vB _) ?_ (congrArg Bool.not (Bool.eq_false_iff.2 hc25))
            refine RA.nil nofun ?_
            refine AG.yes rfl rfl ?_
            refine AG.seq ?_
            refine AG.region HM ?_
            refine a_move (v := vB _) ?_
            refine RA.nil nofun ?_
            refine AG.ret ?_
            obtain rfl := Option.some.inj H
            exact RetP.mk id ⟨rfl, trivial⟩ trivial rfl
          ·rw [if_neg hc21] at H
           cases H
         ·rw [if_neg hc20] at H
          cases H
     ·rw [if_neg hc11] at H
      refine AG.no rfl (decide_eq_false hc11) ?_
      refine AG.exit ?_
      refine AG.seq ?_
      refine AG.region HM ?_
      refine a_move (v := vB _) ?_
      refine RA.nil nofun ?_
      refine AG.ret ?_
      obtain rfl := Option.some.inj H
      exact RetP.mk id ⟨rfl, trivial⟩ trivial rfl
/-! ### spec_l05HasEdge: function 79 -/
def spec_l05HasEdge.l0 : Nat → List Int → Int → Int → Int → Option (Bool)
 | 0, _, _, _, _ => none
 | k + 1, x0, x1, x2, x7 => if x7 < (x0.length : Int) then (if 0 ≤ x7 then (if (x0.length : Int) = 0 then (none) else (if 0 ≤ (Int.tmod (wrap64 (x7 + 1)) (x0.length : Int)) then (if (Int.tmod (wrap64 (x7 + 1)) (x0.length : Int)) < (x0.length : Int) then (if (rd2 x0 x7) = x1 then (if (rd2 x0 (Int.tmod (wrap64 (x7 + 1)) (x0.length : Int))) = x2 then (some true) else (if (rd2 x0 x7) = x2 then (if (rd2 x0 (Int.tmod (wrap64 (x7 + 1)) (x0.length : Int))) = x1 then (some true) else (spec_l05HasEdge.l0 k x0 x1 x2 (wrap64 (x7 + 1)))) else (spec_l05HasEdge.l0 k x0 x1 x2 (wrap64 (x7 + 1))))) else (if (rd2 x0 x7) = x2 then (if (rd2 x0 (Int.tmod (wrap64 (x7 + 1)) (x0.length : Int))) = x1 then (some true) else (spec_l05HasEdge.l0 k x0 x1 x2 (wrap64 (x7 + 1)))) else (spec_l05HasEdge.l0 k x0 x1 x2 (wrap64 (x7 + 1))))) else (none)) else (none))) else (none)) else (some false)
def spec_l05HasEdge.f (k : Nat) (l0 : List Int) (a1 : Int) (a2 : Int) : Option (Bool) := spec_l05HasEdge.l0 k l0 a1 a2 0
set_option maxRecDepth 100000 in
theorem spec_l05HasEdge.ok {k : Nat} {l0 : List Int} {a1 : Int} {a2 : Int} {r : Bool} (H : spec_l05HasEdge.f k l0 a1 a2 = some r) : OkF Tryz.prog 79 [vR 2 (l0.map c2), vI a1, vI a2] [] (.c (.d (.v (.bool r)))) [] := by
 unfold spec_l05HasEdge.f at H
 refine OkF.of (N := 46) (rs := [6]) (avs := [.c (.d (.v (.bool r)))]) Tryz.func79 rfl rfl (fun _ _ => results_tmp rfl _ _ _) (by decide) rfl rfl rfl rfl (fun w0 S => ?_)
 refine AG.seq ?_
 refine AG.region HM ?_
 refine a_move (v := vB _) ?_
 refine RA.nil nofun ?_
 refine AG.seq ?_
 refine AG.seq ?_
 refine AG.region HM ?_
 refine a_move (v := vI _) ?_
 refine RA.nil nofun ?_
 refine AG.block ?_
 refine AG.loop ?_
 obtain ⟨K0, hK0, gK0⟩ : ∃ K, k ≤ K ∧ K ≤ k := ⟨k, Nat.le_refl k, Nat.le_refl k⟩
 refine AGr.canon id (AGr.loopI (n := k) (fun k s => k ≤ K0 ∧ ∃ (x0 : List Int) (x1 : Int) (x2 : Int) (x7 : Int), spec_l05HasEdge.l0 k x0 x1 x2 x7 = some r ∧ s = St.of [(0, vR 2 (x0.map c2)), (1, vI x1), (2, vI x2), (7, vI x7)] []) ⟨hK0, _, _, _, _, H, rfl⟩ ?_ ?_) ⟨rfl, rfl, rfl, rfl, trivial⟩ trivial rfl
 ·rintro _ ⟨_, _, _, _, _, H, _⟩
  cases H
 ·clear H hK0
  rintro k ih0 _ ⟨hK0, x0, x1, x2, x7, H, rfl⟩
  unfold spec_l05HasEdge.l0 at H
  refine AG.seq ?_
  refine AG.seq ?_
  refine AG.region HM ?_
  refine a_move (v := vI _) ?_
  refine a_move (v := vR _ _) ?_
  refine a_lenR ?_ Tryz.underlying27
  refine a_int (u := .bool (decide (x7 < (x0.length : Int)))) ?_
  refine RA.nil nofun ?_
  by_cases hc1 : x7 < (x0.length : Int)
  ·rw [if_pos hc1] at H
   refine AG.yes rfl (decide_eq_true hc1) ?_
   refine AG.skip ?_
   refine AG.seq ?_
   refine AG.block ?_
   refine AG.seq ?_
   refine AG.region HM ?_
   refine a_move (v := vR _ _) ?_
   refine a_move (v := vI _) ?_
   by_cases hc2 : 0 ≤ x7
   ·rw [if_pos hc2] at H
    refine a_ixR (el := c2 (rd2 x0 x7)) ?_ ⟨hc2, hc1⟩ T2 Tryz.underlying27 (hel := R2 hc2 hc1)
    refine a_ldR (v := vI _) ?_ T2
    refine a_move (v := vI _) ?_
    refine RA.nil nofun ?_
    refine AG.seq ?_
    refine AG.region HM ?_
    refine a_move (v := vR _ _) ?_
    refine a_move (v := vI _) ?_
    refine a_int (u := .int .i64 (wrap64 (x7 + 1))) ?_
    refine a_move (v := vR _ _) ?_
    refine a_lenR ?_ Tryz.underlying27
    by_cases hc3 : (x0.length : Int) = 0
    ·rw [if_pos hc3] at H
     cases H
    ·rw [if_neg hc3] at H
     refine a_rem (r := Int.tmod (wrap64 (x7 + 1)) (x0.length : Int)) ?_ hc3
     by_cases hc4 : 0 ≤ (Int.tmod (wrap64 (x7 + 1)) (x0.length : Int))
     ·rw [if_pos hc4] at H
      by_cases hc5 : (Int.tmod (wrap64 (x7 + 1)) (x0.length : Int)) < (x0.length : Int)
      ·rw [if_pos hc5] at H
       refine a_ixR (el := c2 (rd2 x0 (Int.tmod (wrap64 (x7 + 1)) (x0.length : Int)))) ?_ ⟨hc4, hc5⟩ T2 Tryz.underlying27 (hel := R2 hc4 hc5)
       refine a_ldR (v := vI _) ?_ T2
       refine a_move (v := vI _) ?_
       refine RA.nil nofun ?_
       refine AG.seq ?_
       refine AG.region HM ?_
       refine a_move (v := vI _) ?_
       refine a_move (v := vI _) ?_
       refine a_int (u := .bool (((rd2 x0 x7) == x1))) ?_
       refine a_move (v := vB _) ?_
       by_cases hc6 : (rd2 x0 x7) = x1
       ·rw [if_pos hc6] at H
        refine a_move (v := vI _) ?_ (hg := Gs.yes rfl rfl rfl (beq_iff_eq.2 hc6))
        refine a_move (v := vI _) ?_ (hg := Gs.yes rfl rfl rfl (beq_iff_eq.2 hc6))
        refine a_int (u := .bool (((rd2 x0 (Int.tmod (wrap64 (x7 + 1)) (x0.length : Int))) == x2))) ?_ (hg := Gs.yes rfl rfl rfl (beq_iff_eq.2 hc6))
        refine a_pick (b := true) (v := vB _) ?_ (beq_iff_eq.2 hc6)
        refine a_move (v := vB _) ?_
        by_cases hc7 : (rd2 x0 (Int.tmod (wrap64 (x7 + 1)) (x0.length : Int))) = x2
        ·rw [if_pos hc7] at H
         refine RA.skip rfl rfl rfl rfl rfl (beq_iff_eq.2 hc7) (by decide) ?_
         refine RA.skip rfl rfl rfl rfl rfl (beq_iff_eq.2 hc7) (by decide) ?_
         refine RA.skip rfl rfl rfl rfl rfl (beq_iff_eq.2 hc7) (by decide) ?_
         refine RA.skip rfl rfl rfl rfl rfl (beq_iff_eq.2 hc7) (by decide) ?_
         refine RA.skip0 rfl rfl rfl rfl rfl ?_
         refine RA.skip0 rfl rfl rfl rfl rfl ?_
         refine RA.skip0 rfl rfl rfl rfl rfl ?_
         refine RA.skip rfl rfl rfl rfl rfl (beq_iff_eq.2 hc7) (by decide) ?_
         refine a_pick (b := true) (v := vB _) ?_ (beq_iff_eq.2 hc7)
         refine RA.nil nofun ?_
         refine AG.yes rfl rfl ?_
         refine AG.seq ?_
         refine AG.region HM ?_
         refine a_move (v := vB _) ?_
         refine RA.nil nofun ?_
         refine AG.ret ?_
         obtain rfl := Option.some.inj H
         exact RetP.mk id ⟨rfl, trivial⟩ trivial rfl
        ·rw [if_neg hc7] at H
         refine a_move (v := vI _) ?_ (hg := Gs.yes rfl rfl rfl (beq_eq_false_iff_ne.2 hc7))
         refine a_move (v := vI _) ?_ (hg := Gs.yes rfl rfl rfl (beq_eq_false_iff_ne.2 hc7))
         refine a_int (u := .bool (((rd2 x0 x7) == x2))) ?_ (hg := Gs.yes rfl rfl rfl (beq_eq_false_iff_ne.2 hc7))
         refine a_move (v := vB _) ?_ (hg := Gs.yes rfl rfl rfl (beq_eq_false_iff_ne.2 hc7))
         by_cases hc8 : (rd2 x0 x7) = x2
         ·rw [if_pos hc8] at H
          refine a_move (v := vI _) ?_ (hg := Gs.yes rfl rfl rfl (beq_iff_eq.2 hc8))
          refine a_move (v := vI _) ?_ (hg := Gs.yes rfl rfl rfl (beq_iff_eq.2 hc8))
          refine a_int (u := .bool (((rd2 x0 (Int.tmod (wrap64 (x7 + 1)) (x0.length : Int))) == x1))) ?_ (hg := Gs.yes rfl rfl rfl (beq_iff_eq.2 hc8))
          refine a_pick (b := true) (v := vB _) ?_ (beq_iff_eq.2 hc8) (hg := Gs.yes rfl rfl rfl (beq_eq_false_iff_ne.2 hc7))
          refine a_pick (b := false) (v := vB _) ?_ (beq_eq_false_iff_ne.2 hc7)
          refine RA.nil nofun ?_
          by_cases hc9 : (rd2 x0 (Int.tmod (wrap64 (x7 + 1)) (x0.length : Int))) = x1
          ·rw [if_pos hc9] at H
           refine AG.yes rfl (beq_iff_eq.2 hc9) ?_
           refine AG.seq ?_
           refine AG.region HM ?_
           refine a_move (v := vB _) ?_
           refine RA.nil nofun ?_
           refine AG.ret ?_
           obtain rfl := Option.some.inj H
           exact RetP.mk id ⟨rfl, trivial⟩ trivial rfl
          ·rw [if_neg hc9] at H
           refine AG.no rfl (beq_eq_false_iff_ne.2 hc9) ?_
           refine AG.skip ?_
           refine AG.region HM ?_
           refine a_move (v := vI _) ?_
           refine a_int (u := .int .i64 (wrap64 (x7 + 1))) ?_
           refine a_move (v := vI _) ?_
           refine RA.nil nofun ?_
           exact AGr.canon id (ih0 _ (by omega) _ ⟨by omega, _, _, _, _, H, rfl⟩) ⟨rfl, rfl, rfl, rfl, trivial⟩ trivial rfl
         ·rw [if_neg hc8] at H
          refine RA.skip rfl rfl rfl rfl rfl (beq_eq_false_iff_ne.2 hc8) (by decide) ?_
          refine RA.skip rfl rfl rfl rfl rfl (beq_eq_false_iff_ne.2 hc8) (by decide) ?_
          refine RA.skip rfl rfl rfl rfl rfl (beq_eq_false_iff_ne.2 hc8) (by decide) ?_
          refine a_pick (b := false) (v := vB _) ?_ (beq_eq_false_iff_ne.2 hc8) (hg := Gs.yes rfl rfl rfl (beq_eq_false_iff_ne.2 hc7))
          refine a_pick (b := false) (v := vB _) ?_ (beq_eq_false_iff_ne.2 hc7)
          refine RA.nil nofun ?_
          refine AG.no rfl rfl ?_
          refine AG.skip ?_
          refine AG.region HM ?_
          refine a_move (v := vI _) ?_
          refine a_int (u := .int .i64 (wrap64 (x7 + 1))) ?_
          refine a_move (v := vI _) ?_
          refine RA.nil nofun ?_
          exact AGr.canon id (ih0 _ (by omega) _ ⟨by omega, _, _, _, _, H, rfl⟩) ⟨rfl, rfl, rfl, rfl, trivial⟩ trivial rfl
       ·rw [if_neg hc6] at H
        refine RA.skip rfl rfl rfl rfl rfl (beq_eq_false_iff_ne.2 hc6) (by decide) ?_
        refine RA.skip rfl rfl rfl rfl rfl (beq_eq_false_iff_ne.2 hc6) (by decide) ?_
        refine RA.skip rfl rfl rfl rfl rfl (beq_eq_false_iff_ne.2 hc6) (by decide) ?_
        refine a_pick (b := false) (v := vB _) ?_ (beq_eq_false_iff_ne.2 hc6)
        refine a_move (v := vB _) ?_
        refine a_move (v := vI _) ?_ (hg := Gs.yes rfl rfl rfl rfl)
        refine a_move (v := vI _) ?_ (hg := Gs.yes rfl rfl rfl rfl)
        refine a_int (u := .bool (((rd2 x0 x7) == x2))) ?_ (hg := Gs.yes rfl rfl rfl rfl)
        refine a_move (v := vB _) ?_ (hg := Gs.yes rfl rfl rfl rfl)
        by_cases hc10 : (rd2 x0 x7) = x2
        ·rw [if_pos hc10] at H
         refine a_move (v := vI _) ?_ (hg := Gs.yes rfl rfl rfl (beq_iff_eq.2 hc10))
         refine a_move (v := vI _) ?_ (hg := Gs.yes rfl rfl rfl (beq_iff_eq.2 hc10))
         refine a_int (u := .bool (((rd2 x0 (Int.tmod (wrap64 (x7 + 1)) (x0.length : Int))) == x1))) ?_ (hg := Gs.yes rfl rfl rfl (beq_iff_eq.2 hc10))
         refine a_pick (b := true) (v := vB _) ?_ (beq_iff_eq.2 hc10) (hg := Gs.yes rfl rfl rfl rfl)
         refine a_pick (b := false) (v := vB _) ?_ rfl
         refine RA.nil nofun ?_
         by_cases hc11 : (rd2 x0 (Int.tmod (wrap64 (x7 + 1)) (x0.length : Int))) = x1
         ·rw [if_pos hc11] at H
          refine AG.yes rfl (beq_iff_eq.2 hc11) ?_
          refine AG.seq ?_
          refine AG.region HM ?_
          refine a_move (v := vB _) ?_
          refine RA.nil nofun ?_
          refine AG.ret ?_
          obtain rfl := Option.some.inj H
          exact RetP.mk id ⟨rfl, trivial⟩ trivial rfl
         ·rw [if_neg hc11] at H
          refine AG.no rfl (beq_eq_false_iff_ne.2 hc11) ?_
          refine AG.skip ?_
          refine AG.region HM ?_
          refine a_move (v := vI _) ?_
          refine a_int (u := .int .i64 (wrap64 (x7 + 1))) ?_
          refine a_move (v := vI _) ?_
          refine RA.nil nofun ?_
          exact AGr.canon id (ih0 _ (by omega) _ ⟨by omega, _, _, _, _, H, rfl⟩) ⟨rfl, rfl, rfl, rfl, trivial⟩ trivial rfl
        ·rw [if_neg hc10] at H
         refine RA.skip rfl rfl rfl rfl rfl (beq_eq_false_iff_ne.2 hc10) (by decide) ?_
         refine RA.skip rfl rfl rfl rfl rfl (beq_eq_false_iff_ne.2 hc10) (by decide) ?_
         refine RA.skip rfl rfl rfl rfl rfl (beq_eq_false_iff_ne.2 hc10) (by decide) ?_
         refine a_pick (b := false) (v := vB _) ?_ (beq_eq_false_iff_ne.2 hc10) (hg := Gs.yes rfl rfl rfl rfl)
         refine a_pick (b := false) (v := vB _) ?_ rfl
         refine RA.nil nofun ?_
         refine AG.no rfl rfl ?_
         refine AG.skip ?_
         refine AG.region HM ?_
         refine a_move (v := vI _) ?_
         refine a_int (u := .int .i64 (wrap64 (x7 + 1))) ?_
         refine a_move (v := vI _) ?_
         refine RA.nil nofun ?_
         exact AGr.canon id (ih0 _ (by omega) _ ⟨by omega, _, _, _, _, H, rfl⟩) ⟨rfl, rfl, rfl, rfl, trivial⟩ trivial rfl
      ·rw [if_neg hc5] at H
       cases H
     ·rw [if_neg hc4] at H
      cases H
   ·rw [if_neg hc2] at H
    cases H
  ·rw [if_neg hc1] at H
   refine AG.no rfl (decide_eq_false hc1) ?_
   refine AG.exit ?_
   refine AG.seq ?_
   refine AG.region HM ?_
   refine a_move (v := vB _) ?_
   refine RA.nil nofun ?_
   refine AG.ret ?_
   obtain rfl := Option.some.inj H
   exact RetP.mk id ⟨rfl, trivial⟩ trivial rfl
/-! ### spec_l05OnEdge: function 47 -/
def spec_l05OnEdge.l0 : Nat → List S72 → Int → Int → List Int → Int → Option ((List Int))
 | 0, _, _, _, _, _ => none
 | k + 1, x0_3, x1, x2, x7, x8 => if x8 < (x0_3.length : Int) then (if 0 ≤ x8 then ((spec_l05HasEdge.f k ((rd72 x0_3 x8).f1) x1 x2).bind fun t4 => (if t4 = true then (if x7.length < 17592186044416 then (spec_l05OnEdge.l0 k x0_3 x1 x2 (x7 ++ [x8]) (wrap64 (x8 + 1))) else (none)) else (spec_l05OnEdge.l0 k x0_3 x1 x2 x7 (wrap64 (x8 + 1))))) else (none)) else (some x7)
def spec_l05OnEdge.f (k : Nat) (a0_0 : Int) (a0_1 : Int) (l0_2 : List S50) (l0_3 : List S72) (a1 : Int) (a2 : Int) : Option ((List Int)) := spec_l05OnEdge.l0 k l0_3 a1 a2 (([] : List Int) : List Int) 0
set_option maxRecDepth 100000 in
theorem spec_l05OnEdge.ok {k : Nat} {a0_0 : Int} {a0_1 : Int} {l0_2 : List S50} {l0_3 : List S72} {a1 : Int} {a2 : Int} {r : List Int} (H : spec_l05OnEdge.f k a0_0 a0_1 l0_2 l0_3 a1 a2 = some r) : OkF Tryz.prog 47 [.c (.d (.ro [.v (.int .i64 a0_0), .v (.int .i64 a0_1), .row 51 (l0_2.map c50), .row 76 (l0_3.map c72)])), vI a1, vI a2] [] (.c (.own 100 r.length)) [(100, .row 2 (r.map c2))] := by
 unfold spec_l05OnEdge.f at H
 refine OkF.of (N := 35) (rs := [6]) (avs := [.c (.own 100 r.length)]) Tryz.func47 rfl rfl (fun _ _ => results_tmp rfl _ _ _) (by decide) rfl rfl rfl rfl (fun w0 S => ?_)
 refine AG.seq ?_
 refine AG.region HM ?_
 refine a_nilO (e := 2) 200 ?_ T2
 refine RA.nil nofun ?_
 refine AG.seq ?_
 refine AG.region HM ?_
 refine a_lit (cs := []) (D := []) (css := (([] : List Int) : List Int).map c2) 201 ?_ N27 T2 (hcss := by rfl)
 refine a_move (v := .c (.own _ _)) ?_
 refine RA.nil nofun ?_
 refine AG.seq ?_
 refine AG.seq ?_
 refine AG.region HM ?_
 refine a_move (v := vI _) ?_
 refine RA.nil nofun ?_
 refine AG.block ?_
 refine AG.loop ?_
 obtain ⟨K0, hK0, gK0⟩ : ∃ K, k ≤ K ∧ K ≤ k := ⟨k, Nat.le_refl k, Nat.le_refl k⟩
 refine AGr.canon (fun κ => cond (Nat.beq κ 202) 201 (κ)) (AGr.loopI (n := k) (fun k s => k ≤ K0 ∧ ∃ (x0_0 : Int) (x0_1 : Int) (x0_2 : List S50) (x0_3 : List S72) (x1 : Int) (x2 : Int) (x7 : List Int) (x8 : Int), spec_l05OnEdge.l0 k x0_3 x1 x2 x7 x8 = some r ∧ s = St.of [(0, .c (.d (.ro [.v (.int .i64 x0_0), .v (.int .i64 x0_1), .row 51 (x0_2.map c50), .row 76 (x0_3.map c72)]))), (1, vI x1), (2, vI x2), (7, .c (.own 202 x7.length)), (8, vI x8)] [(202, .row 2 (x7.map c2))]) ⟨hK0, _, _, _, _, _, _, _, _, H, rfl⟩ ?_ ?_) ⟨rfl, rfl, rfl, (ownE rfl (by simp)), rfl, trivial⟩ ⟨rfl, trivial⟩ rfl
 ·rintro _ ⟨_, _, _, _, _, _, _, _, _, H, _⟩
  cases H
 ·clear H hK0
  rintro k ih0 _ ⟨hK0, x0_0, x0_1, x0_2, x0_3, x1, x2, x7, x8, H, rfl⟩
  unfold spec_l05OnEdge.l0 at H
  refine AG.seq ?_
  refine AG.seq ?_
  refine AG.region HM ?_
  refine a_move (v := vI _) ?_
  refine a_move (v := vO [_, _, _, _]) ?_
  refine a_nil (v := vO [_, _, _, _]) ?_
  refine a_faR (cells' := [_]) ?_ D33_3
  refine a_ldR (v := vR _ _) ?_ T31
  refine a_lenR ?_ Tryz.underlying31
  refine a_int (u := .bool (decide (x8 < (x0_3.length : Int)))) ?_
  refine RA.nil nofun ?_
  by_cases hc2 : x8 < (x0_3.length : Int)
  ·rw [if_pos hc2] at H
   refine AG.yes rfl (decide_eq_true hc2) ?_
   refine AG.skip ?_
   refine AG.seq ?_
   refine AG.block ?_
   refine AG.seq ?_
   refine AG.region HM ?_
   refine a_move (v := vO [_, _, _, _]) ?_
   refine a_nil (v := vO [_, _, _, _]) ?_
   refine a_faR (cells' := [_]) ?_ D33_3
   refine a_ldR (v := vR _ _) ?_ T31
   refine a_move (v := vI _) ?_
   by_cases hc3 : 0 ≤ x8
   ·rw [if_pos hc3] at H
    refine a_ixR (el := c72 (rd72 x0_3 x8)) ?_ ⟨hc3, hc2⟩ T76 Tryz.underlying31 (hel := R72 hc3 hc2)
    refine a_faR (cells' := [_]) ?_ D76_1
    refine a_ldR (v := vR _ _) ?_ T27
    refine a_move (v := vI _) ?_
    refine a_move (v := vI _) ?_
    obtain ⟨t4, e5, H⟩ := bindO H
    refine a_call (v := vB t4) (nk := []) (L := []) ?_ rfl (spec_l05HasEdge.ok e5) id (qd (qd (qd qn))) trivial trivial trivial rfl
    refine RA.nil nofun ?_
    by_cases hc6 : t4 = true
    ·rw [if_pos hc6] at H
     refine AG.yes rfl hc6 ?_
     refine AG.region HM ?_
     refine a_move (v := .c (.own _ _)) ?_
     refine a_move (v := vI _) ?_
     refine a_lit (cs := [_]) (D := []) (css := ([x8]).map c2) 204 ?_ N27 T2
     by_cases hc7 : x7.length < 17592186044416
     ·rw [if_pos hc7] at H
      refine a_appO (css' := (x7 ++ [x8]).map c2) (n' := (x7 ++ [x8]).length) ?_ T2 (by simp [maxLen]; omega) (by simp; omega) Tryz.underlying27 (hc := by exact List.map_append.symm) (hn := by exact List.length_map _)
      refine a_move (v := .c (.own _ _)) ?_
      refine RA.nil nofun ?_
      refine AG.region HM ?_
      refine a_move (v := vI _) ?_
      refine a_int (u := .int .i64 (wrap64 (x8 + 1))) ?_
      refine a_move (v := vI _) ?_
      refine RA.nil nofun ?_
      exact AGr.canon id (ih0 _ (by omega) _ ⟨by omega, _, _, _, _, _, _, _, _, H, rfl⟩) ⟨rfl, rfl, rfl, rfl, rfl, trivial⟩ ⟨rfl, trivial⟩ rfl
     ·rw [if_neg hc7] at H
      cases H
    ·rw [if_neg hc6] at H
     refine AG.no rfl (Bool.eq_false_iff.2 hc6) ?_
     refine AG.skip ?_
     refine AG.region HM ?_
     refine a_move (v := vI _) ?_
     refine a_int (u := .int .i64 (wrap64 (x8 + 1))) ?_
     refine a_move (v := vI _) ?_
     refine RA.nil nofun ?_
     exact AGr.canon id (ih0 _ (by omega) _ ⟨by omega, _, _, _, _, _, _, _, _, H, rfl⟩) ⟨rfl, rfl, rfl, rfl, rfl, trivial⟩ ⟨rfl, trivial⟩ rfl
   ·rw [if_neg hc3] at H
    cases H
  ·rw [if_neg hc2] at H
   refine AG.no rfl (decide_eq_false hc2) ?_
   refine AG.exit ?_
   refine AG.seq ?_
   refine AG.region HM ?_
   refine a_move (v := .c (.own _ _)) ?_
   refine a_move (v := .c (.own _ _)) ?_
   refine RA.nil nofun ?_
   refine AG.ret ?_
   obtain rfl := Option.some.inj H
   exact RetP.mk (fun κ => cond (Nat.beq κ 100) 202 (κ)) ⟨rfl, trivial⟩ ⟨rfl, trivial⟩ rfl
/-! ### spec_EdgesOf: function 45 -/
mutual
def spec_EdgesOf.l0 : Nat → Int → Int → List S50 → List S72 → List (List Int) → Int → Int → Option ((List (List Int)) × Int)
 | 0, _, _, _, _, _, _, _ => none
 | k + 1, y205_0, y205_1, y205_2, y205_3, x4, x5, x6 => if x6 < x5 then (spec_EdgesOf.l1 k y205_0 y205_1 y205_2 y205_3 x4 x5 x6 (wrap64 (x6 + 1))) else (some (x4, 0))
def spec_EdgesOf.l1 : Nat → Int → Int → List S50 → List S72 → List (List Int) → Int → Int → Int → Option ((List (List Int)) × Int)
 | 0, _, _, _, _, _, _, _, _ => none
 | k + 1, y207_0, y207_1, y207_2, y207_3, x4, x5, x6, x7 => if x7 < x5 then ((spec_l05OnEdge.f k y207_0 y207_1 y207_2 y207_3 x6 x7).bind fun t7 => (if (t7.length : Int) > 0 then (if x4.length < 5864062014805 then (spec_EdgesOf.l1 k y207_0 y207_1 y207_2 y207_3 (x4 ++ [[x6, x7]]) x5 x6 (wrap64 (x7 + 1))) else (none)) else (spec_EdgesOf.l1 k y207_0 y207_1 y207_2 y207_3 x4 x5 x6 (wrap64 (x7 + 1))))) else (spec_EdgesOf.l0 k y207_0 y207_1 y207_2 y207_3 x4 x5 (wrap64 (x6 + 1)))
end
def spec_EdgesOf.f (k : Nat) (a0_0 : Int) (a0_1 : Int) (l0_2 : List S50) (l0_3 : List S72) : Option ((List (List Int)) × Int) := (spec_l05Ok.f k a0_0 a0_1 l0_2 l0_3).bind fun t1 => (if t1 = true then (spec_EdgesOf.l0 k a0_0 a0_1 l0_2 l0_3 (([] : List (List Int)) : List (List Int)) (l0_2.length : Int) 0) else (some (([] : List (List Int)), 1)))
set_option maxRecDepth 100000 in
theorem spec_EdgesOf.ok {k : Nat} {a0_0 : Int} {a0_1 : Int} {l0_2 : List S50} {l0_3 : List S72} {r0 : List (List Int)} {r1 : Int} (H : spec_EdgesOf.f k a0_0 a0_1 l0_2 l0_3 = some (r0, r1)) : OkF Tryz.prog 45 [.agg [.d (.v (.int .i64 a0_0)), .d (.v (.int .i64 a0_1)), .d (.row 51 (l0_2.map c50)), .d (.row 76 (l0_3.map c72))]] [] (.tup [.c (.own 100 r0.length), .c (.d (.v (.int .i64 r1)))]) [(100, .row 27 (r0.map c27))] := by
 unfold spec_EdgesOf.f at H
 refine OkF.of (N := 38) (rs := [2, 3]) (avs := [.c (.own 100 r0.length), .c (.d (.v (.int .i64 r1)))]) Tryz.func45 rfl rfl (fun _ _ => results_tmp2 rfl _ _ _) (by decide) rfl rfl rfl rfl (fun w0 S => ?_)
 refine AG.seq ?_
 refine AG.region HM ?_
 refine a_box 200 ?_
 refine a_nilO (e := 27) 201 ?_ T27
 refine a_move (v := vI _) ?_
 refine RA.nil nofun ?_
 refine AG.seq ?_
 refine AG.seq ?_
 refine AG.region HM ?_
 obtain ⟨t1, e2, H⟩ := bindO H
 refine a_call (v := vB t1) (nk := []) (L := [(200, _)]) ?_ rfl (spec_l05Ok.ok e2) id (qc (rP (pD (pD (pD (pD p0))))) qn) ⟨rfl, trivial⟩ trivial trivial rfl
 refine a_un (u := .bool (!t1)) ?_
 refine RA.nil nofun ?_
 by_cases hc3 : t1 = true
 ·rw [if_pos hc3] at H
  refine AG.no rfl (congrArg Bool.not hc3) ?_
  refine AG.skip ?_
  refine AG.seq ?_
  refine AG.region HM ?_
  refine a_lit (cs := []) (D := []) (css := (([] : List (List Int)) : List (List Int)).map c27) 204 ?_ N46 T27 (hcss := by rfl)
  refine a_move (v := .c (.own _ _)) ?_
  refine RA.nil nofun ?_
  refine AG.seq ?_
  refine AG.region HM ?_
  refine a_faB (q := 2) ?_ D33_2
  refine a_ldB (v := vR _ _) ?_ T30
  refine a_lenR ?_ Tryz.underlying30
  refine a_move (v := vI _) ?_
  refine RA.nil nofun ?_
  refine AG.seq ?_
  refine AG.seq ?_
  refine AG.region HM ?_
  refine a_move (v := vI _) ?_
  refine RA.nil nofun ?_
  refine AG.block ?_
  refine AG.loop ?_
  obtain ⟨K0, hK0, gK0⟩ : ∃ K, k ≤ K ∧ K ≤ k := ⟨k, Nat.le_refl k, Nat.le_refl k⟩
  refine AGr.canon (fun κ => cond (Nat.beq κ 205) 200 (cond (Nat.beq κ 206) 204 (κ))) (AGr.loopI (n := k) (fun k s => k ≤ K0 ∧ ∃ (y205_0 : Int) (y205_1 : Int) (y205_2 : List S50) (y205_3 : List S72) (x4 : List (List Int)) (x5 : Int) (x6 : Int), spec_EdgesOf.l0 k y205_0 y205_1 y205_2 y205_3 x4 x5 x6 = some (r0, r1) ∧ s = St.of [(1, .c (.ptr 205 0)), (4, .c (.own 206 x4.length)), (5, vI x5), (6, vI x6)] [(205, .box 33 [.d (.v (.int .i64 y205_0)), .d (.v (.int .i64 y205_1)), .d (.row 51 (y205_2.map c50)), .d (.row 76 (y205_3.map c72))]), (206, .row 27 (x4.map c27))]) ⟨hK0, _, _, _, _, _, _, _, H, rfl⟩ ?_ ?_) ⟨rfl, (ownE rfl (by simp)), rfl, rfl, trivial⟩ ⟨rfl, rfl, trivial⟩ rfl
  ·rintro _ ⟨_, _, _, _, _, _, _, _, H, _⟩
   cases H
  ·clear H hK0
   rintro k ih0 _ ⟨hK0, y205_0, y205_1, y205_2, y205_3, x4, x5, x6, H, rfl⟩
   unfold spec_EdgesOf.l0 at H
   refine AG.seq ?_
   refine AG.seq ?_
   refine AG.region HM ?_
   refine a_move (v := vI _) ?_
   refine a_move (v := vI _) ?_
   refine a_int (u := .bool (decide (x6 < x5))) ?_
   refine RA.nil nofun ?_
   by_cases hc5 : x6 < x5
   ·rw [if_pos hc5] at H
    refine AG.yes rfl (decide_eq_true hc5) ?_
    refine AG.skip ?_
    refine AG.seq ?_
    refine AG.block ?_
    refine AG.seq ?_
    refine AG.region HM ?_
    refine a_move (v := vI _) ?_
    refine a_int (u := .int .i64 (wrap64 (x6 + 1))) ?_
    refine a_move (v := vI _) ?_
    refine RA.nil nofun ?_
    refine AG.block ?_
    refine AG.loop ?_
    obtain ⟨K1, hK1, gK1⟩ : ∃ K, k ≤ K ∧ K ≤ k := ⟨k, Nat.le_refl k, Nat.le_refl k⟩
    refine AGr.canon (fun κ => cond (Nat.beq κ 207) 205 (cond (Nat.beq κ 208) 206 (κ))) (AGr.loopI (n := k) (fun k s => k ≤ K1 ∧ ∃ (y207_0 : Int) (y207_1 : Int) (y207_2 : List S50) (y207_3 : List S72) (x4 : List (List Int)) (x5 : Int) (x6 : Int) (x7 : Int), spec_EdgesOf.l1 k y207_0 y207_1 y207_2 y207_3 x4 x5 x6 x7 = some (r0, r1) ∧ s = St.of [(1, .c (.ptr 207 0)), (4, .c (.own 208 x4.length)), (5, vI x5), (6, vI x6), (7, vI x7)] [(207, .box 33 [.d (.v (.int .i64 y207_0)), .d (.v (.int .i64 y207_1)), .d (.row 51 (y207_2.map c50)), .d (.row 76 (y207_3.map c72))]), (208, .row 27 (x4.map c27))]) ⟨hK1, _, _, _, _, _, _, _, _, H, rfl⟩ ?_ ?_) ⟨rfl, rfl, rfl, rfl, rfl, trivial⟩ ⟨rfl, rfl, trivial⟩ rfl
    ·rintro _ ⟨_, _, _, _, _, _, _, _, _, H, _⟩
     cases H
    ·clear H hK1
     rintro k ih1 _ ⟨hK1, y207_0, y207_1, y207_2, y207_3, x4, x5, x6, x7, H, rfl⟩
     unfold spec_EdgesOf.l1 at H
     refine AG.seq ?_
     refine AG.seq ?_
     refine AG.region HM ?_
     refine a_move (v := vI _) ?_
     refine a_move (v := vI _) ?_
     refine a_int (u := .bool (decide (x7 < x5))) ?_
     refine RA.nil nofun ?_
     by_cases hc6 : x7 < x5
     ·rw [if_pos hc6] at H
      refine AG.yes rfl (decide_eq_true hc6) ?_
      refine AG.skip ?_
      refine AG.seq ?_
      refine AG.block ?_
      refine AG.seq ?_
      refine AG.region HM ?_
      refine a_move (v := vI _) ?_
      refine a_move (v := vI _) ?_
      obtain ⟨t7, e8, H⟩ := bindO H
      refine a_call (v := .c (.own 209 t7.length)) (nk := [(209, .row 2 (t7.map c2))]) (L := [(207, _)]) ?_ rfl (spec_l05OnEdge.ok e8) (fun κ => cond (Nat.beq κ 209) 100 (κ)) (qc (rP (pD (pD (pD (pD p0))))) (qd (qd qn))) ⟨rfl, trivial⟩ ⟨rfl, trivial⟩ ⟨rfl, trivial⟩ rfl
      refine a_lenO ?_ Tryz.underlying27
      refine a_int (u := .bool (decide ((t7.length : Int) > 0))) ?_
      refine RA.nil nofun ?_
      by_cases hc9 : (t7.length : Int) > 0
      ·rw [if_pos hc9] at H
       refine AG.yes rfl (decide_eq_true hc9) ?_
       refine AG.region HM ?_
       refine a_move (v := .c (.own _ _)) ?_
       refine a_move (v := vI _) ?_
       refine a_move (v := vI _) ?_
       refine a_lit (cs := [_, _]) (D := []) (css := ([x6, x7]).map c2) 210 ?_ N27 T2
       refine a_lit (cs := [_]) (D := [210]) (css := ([[x6, x7]]).map c27) 211 ?_ N46 T27
       by_cases hc10 : x4.length < 5864062014805
       ·rw [if_pos hc10] at H
        refine a_appO (css' := (x4 ++ [[x6, x7]]).map c27) (n' := (x4 ++ [[x6, x7]]).length) ?_ T27 (by simp [maxLen]; omega) (by simp; omega) Tryz.underlying46 (hc := by exact List.map_append.symm) (hn := by exact List.length_map _)
        refine a_move (v := .c (.own _ _)) ?_
        refine RA.nil nofun ?_
        refine AG.region HM ?_
        refine a_move (v := vI _) ?_
        refine a_int (u := .int .i64 (wrap64 (x7 + 1))) ?_
        refine a_move (v := vI _) ?_
        refine RA.nil nofun ?_
        exact AGr.canon id (ih1 _ (by omega) _ ⟨by omega, _, _, _, _, _, _, _, _, H, rfl⟩) ⟨rfl, rfl, rfl, rfl, rfl, trivial⟩ ⟨rfl, rfl, trivial⟩ rfl
       ·rw [if_neg hc10] at H
        cases H
      ·rw [if_neg hc9] at H
       refine AG.no rfl (decide_eq_false hc9) ?_
       refine AG.skip ?_
       refine AG.region HM ?_
       refine a_move (v := vI _) ?_
       refine a_int (u := .int .i64 (wrap64 (x7 + 1))) ?_
       refine a_move (v := vI _) ?_
       refine RA.nil nofun ?_
       exact AGr.canon id (ih1 _ (by omega) _ ⟨by omega, _, _, _, _, _, _, _, _, H, rfl⟩) ⟨rfl, rfl, rfl, rfl, rfl, trivial⟩ ⟨rfl, rfl, trivial⟩ rfl
     ·rw [if_neg hc6] at H
      refine AG.no rfl (decide_eq_false hc6) ?_
      refine AG.exit ?_
      refine AG.region HM ?_
      refine a_move (v := vI _) ?_
      refine a_int (u := .int .i64 (wrap64 (x6 + 1))) ?_
      refine a_move (v := vI _) ?_
      refine RA.nil nofun ?_
      exact AGr.canon (fun κ => cond (Nat.beq κ 205) 207 (cond (Nat.beq κ 206) 208 (κ))) (ih0 _ (by omega) _ ⟨by omega, _, _, _, _, _, _, _, H, rfl⟩) ⟨rfl, rfl, rfl, rfl, trivial⟩ ⟨rfl, rfl, trivial⟩ rfl
   ·rw [if_neg hc5] at H
    refine AG.no rfl (decide_eq_false hc5) ?_
    refine AG.exit ?_
    refine AG.seq ?_
    refine AG.region HM ?_
    refine a_move (v := .c (.own _ _)) ?_
    refine a_move (v := .c (.own _ _)) ?_
    refine a_move (v := vI _) ?_
    refine RA.nil nofun ?_
    refine AG.ret ?_
    simp only [Option.some.injEq, Prod.mk.injEq] at H
    obtain ⟨rfl, rfl⟩ := H
    exact RetP.mk (fun κ => cond (Nat.beq κ 100) 206 (κ)) ⟨rfl, rfl, trivial⟩ ⟨rfl, trivial⟩ rfl
 ·rw [if_neg hc3] at H
  refine AG.yes rfl (congrArg Bool.not (Bool.eq_false_iff.2 hc3)) ?_
  refine AG.seq ?_
  refine AG.region HM ?_
  refine a_nilO (e := 27) 203 ?_ T27
  refine a_move (v := vI _) ?_
  refine RA.nil nofun ?_
  refine AG.ret ?_
  simp only [Option.some.injEq, Prod.mk.injEq] at H
  obtain ⟨rfl, rfl⟩ := H
  exact RetP.mk (fun κ => cond (Nat.beq κ 100) 203 (κ)) ⟨(ownE rfl (by simp)), rfl, trivial⟩ ⟨rfl, trivial⟩ rfl
/-! ### spec_l14Edges: function 19 -/
def spec_l14Edges.f (k : Nat) (a0_0 : Int) (a0_1 : Int) (l0_2 : List S50) (l0_3 : List S72) : Option ((List (List Int))) := (spec_EdgesOf.f k a0_0 a0_1 l0_2 l0_3).bind fun bt1 => (some bt1.1)
set_option maxRecDepth 100000 in
theorem spec_l14Edges.ok {k : Nat} {a0_0 : Int} {a0_1 : Int} {l0_2 : List S50} {l0_3 : List S72} {r : List (List Int)} (H : spec_l14Edges.f k a0_0 a0_1 l0_2 l0_3 = some r) : OkF Tryz.prog 19 [.c (.d (.ro [.v (.int .i64 a0_0), .v (.int .i64 a0_1), .row 51 (l0_2.map c50), .row 76 (l0_3.map c72)]))] [] (.c (.own 100 r.length)) [(100, .row 27 (r.map c27))] := by
 unfold spec_l14Edges.f at H
 refine OkF.of (N := 13) (rs := [2]) (avs := [.c (.own 100 r.length)]) Tryz.func19 rfl rfl (fun _ _ => results_tmp rfl _ _ _) (by decide) rfl rfl rfl rfl (fun w0 S => ?_)
 refine AG.seq ?_
 refine AG.region HM ?_
 refine a_nilO (e := 27) 200 ?_ T27
 refine RA.nil nofun ?_
 refine AG.seq ?_
 refine AG.region HM ?_
 refine a_move (v := vO [_, _, _, _]) ?_
 refine a_nil (v := vO [_, _, _, _]) ?_
 refine a_ldR (v := .agg [_, _, _, _]) ?_ T33
 obtain ⟨⟨t1, t2⟩, e3, H⟩ := bindO H
 refine a_call (v := .tup [.c (.own 201 t1.length), .c (.d (.v (.int .i64 t2)))]) (nk := [(201, .row 27 (t1.map c27))]) (L := []) ?_ rfl (spec_EdgesOf.ok e3) (fun κ => cond (Nat.beq κ 201) 100 (κ)) (qg qn) trivial ⟨rfl, trivial⟩ ⟨rfl, trivial⟩ rfl
 refine a_move (v := .tup [_, _]) ?_
 refine a_ext (v := .c (.own _ _)) ?_
 refine a_ext (v := vI _) ?_
 refine a_move (v := .c (.own _ _)) ?_
 refine a_move (v := vI _) ?_
 refine RA.nil nofun ?_
 refine AG.seq ?_
 refine AG.region HM ?_
 refine a_move (v := .c (.own _ _)) ?_
 refine a_move (v := .c (.own _ _)) ?_
 refine RA.nil nofun ?_
 refine AG.ret ?_
 obtain rfl := Option.some.inj H
 exact RetP.mk (fun κ => cond (Nat.beq κ 100) 201 (κ)) ⟨rfl, trivial⟩ ⟨rfl, trivial⟩ rfl
/-! ### spec_l05Near: function 78 -/
mutual
def spec_l05Near.l0 : Nat → List S72 → Int → List Int → List Int → Int → Option ((List Int))
 | 0, _, _, _, _, _ => none
 | k + 1, x0_3, x1, x5, x6, x7 => if x7 < (x0_3.length : Int) then (spec_l05Near.l1 k x0_3 x1 x5 x6 x7 false 0) else (some x5)
def spec_l05Near.l1 : Nat → List S72 → Int → List Int → List Int → Int → Bool → Int → Option ((List Int))
 | 0, _, _, _, _, _, _, _ => none
 | k + 1, x0_3, x1, x5, x6, x7, x8, x9 => if x9 < (x6.length : Int) then (if x8 = true then (spec_l05Near.l1 k x0_3 x1 x5 x6 x7 true (wrap64 (x9 + 1))) else (if 0 ≤ x7 then (if x7 < (x0_3.length : Int) then (if 0 ≤ x9 then (if (x6.length : Int) = 0 then (none) else (if 0 ≤ (Int.tmod (wrap64 (x9 + 1)) (x6.length : Int)) then (if (Int.tmod (wrap64 (x9 + 1)) (x6.length : Int)) < (x6.length : Int) then ((spec_l05HasEdge.f k ((rd72 x0_3 x7).f1) (rd2 x6 x9) (rd2 x6 (Int.tmod (wrap64 (x9 + 1)) (x6.length : Int)))).bind fun t13 => (spec_l05Near.l1 k x0_3 x1 x5 x6 x7 t13 (wrap64 (x9 + 1)))) else (none)) else (none))) else (none)) else (none)) else (none))) else (if x7 = x1 then (spec_l05Near.l0 k x0_3 x1 x5 x6 (wrap64 (x7 + 1))) else (if x8 = true then (if x5.length < 17592186044416 then (spec_l05Near.l0 k x0_3 x1 (x5 ++ [x7]) x6 (wrap64 (x7 + 1))) else (none)) else (spec_l05Near.l0 k x0_3 x1 x5 x6 (wrap64 (x7 + 1)))))
end
def spec_l05Near.f (k : Nat) (a0_0 : Int) (a0_1 : Int) (l0_2 : List S50) (l0_3 : List S72) (a1 : Int) : Option ((List Int)) := if 0 ≤ a1 then (if a1 < (l0_3.length : Int) then (spec_l05Near.l0 k l0_3 a1 (([] : List Int) : List Int) ((rd72 l0_3 a1).f1) 0) else (none)) else (none)
set_option maxRecDepth 100000 in
theorem spec_l05Near.ok {k : Nat} {a0_0 : Int} {a0_1 : Int} {l0_2 : List S50} {l0_3 : List S72} {a1 : Int} {r : List Int} (H : spec_l05Near.f k a0_0 a0_1 l0_2 l0_3 a1 = some r) : OkF Tryz.prog 78 [.c (.d (.ro [.v (.int .i64 a0_0), .v (.int .i64 a0_1), .row 51 (l0_2.map c50), .row 76 (l0_3.map c72)])), vI a1] [] (.c (.own 100 r.length)) [(100, .row 2 (r.map c2))] := by
 unfold spec_l05Near.f at H
 refine OkF.of (N := 69) (rs := [4]) (avs := [.c (.own 100 r.length)]) Tryz.func78 rfl rfl (fun _ _ => results_tmp rfl _ _ _) (by decide) rfl rfl rfl rfl (fun w0 S => ?_)
 refine AG.seq ?_
 refine AG.region HM ?_
 refine a_nilO (e := 2) 200 ?_ T2
 refine RA.nil nofun ?_
 refine AG.seq ?_
 refine AG.region HM ?_
 refine a_lit (cs := []) (D := []) (css := (([] : List Int) : List Int).map c2) 201 ?_ N27 T2 (hcss := by rfl)
 refine a_move (v := .c (.own _ _)) ?_
 refine RA.nil nofun ?_
 refine AG.seq ?_
 refine AG.region HM ?_
 refine a_move (v := vO [_, _, _, _]) ?_
 refine a_nil (v := vO [_, _, _, _]) ?_
 refine a_faR (cells' := [_]) ?_ D33_3
 refine a_ldR (v := vR _ _) ?_ T31
 refine a_move (v := vI _) ?_
 by_cases hc2 : 0 ≤ a1
 ·rw [if_pos hc2] at H
  by_cases hc3 : a1 < (l0_3.length : Int)
  ·rw [if_pos hc3] at H
   refine a_ixR (el := c72 (rd72 l0_3 a1)) ?_ ⟨hc2, hc3⟩ T76 Tryz.underlying31 (hel := R72 hc2 hc3)
   refine a_faR (cells' := [_]) ?_ D76_1
   refine a_ldR (v := vR _ _) ?_ T27
   refine a_move (v := vR _ _) ?_
   refine RA.nil nofun ?_
   refine AG.seq ?_
   refine AG.seq ?_
   refine AG.region HM ?_
   refine a_move (v := vI _) ?_
   refine RA.nil nofun ?_
   refine AG.block ?_
   refine AG.loop ?_
   obtain ⟨K0, hK0, gK0⟩ : ∃ K, k ≤ K ∧ K ≤ k := ⟨k, Nat.le_refl k, Nat.le_refl k⟩
   refine AGr.canon (fun κ => cond (Nat.beq κ 202) 201 (κ)) (AGr.loopI (n := k) (fun k s => k ≤ K0 ∧ ∃ (x0_0 : Int) (x0_1 : Int) (x0_2 : List S50) (x0_3 : List S72) (x1 : Int) (x5 : List Int) (x6 : List Int) (x7 : Int), spec_l05Near.l0 k x0_3 x1 x5 x6 x7 = some r ∧ s = St.of [(0, .c (.d (.ro [.v (.int .i64 x0_0), .v (.int .i64 x0_1), .row 51 (x0_2.map c50), .row 76 (x0_3.map c72)]))), (1, vI x1), (5, .c (.own 202 x5.length)), (6, vR 2 (x6.map c2)), (7, vI x7)] [(202, .row 2 (x5.map c2))]) ⟨hK0, _, _, _, _, _, _, _, _, H, rfl⟩ ?_ ?_) ⟨rfl, rfl, (ownE rfl (by simp)), rfl, rfl, trivial⟩ ⟨rfl, trivial⟩ rfl
   ·rintro _ ⟨_, _, _, _, _, _, _, _, _, H, _⟩
    cases H
   ·clear H hK0
    rintro k ih0 _ ⟨hK0, x0_0, x0_1, x0_2, x0_3, x1, x5, x6, x7, H, rfl⟩
    unfold spec_l05Near.l0 at H
    refine AG.seq ?_
    refine AG.seq ?_
    refine AG.region HM ?_
    refine a_move (v := vI _) ?_
    refine a_move (v := vO [_, _, _, _]) ?_
    refine a_nil (v := vO [_, _, _, _]) ?_
    refine a_faR (cells' := [_]) ?_ D33_3
    refine a_ldR (v := vR _ _) ?_ T31
    refine a_lenR ?_ Tryz.underlying31
    refine a_int (u := .bool (decide (x7 < (x0_3.length : Int)))) ?_
    refine RA.nil nofun ?_
    by_cases hc4 : x7 < (x0_3.length : Int)
    ·rw [if_pos hc4] at H
     refine AG.yes rfl (decide_eq_true hc4) ?_
     refine AG.skip ?_
     refine AG.seq ?_
     refine AG.block ?_
     refine AG.seq ?_
     refine AG.region HM ?_
     refine a_move (v := vB _) ?_
     refine RA.nil nofun ?_
     refine AG.seq ?_
     refine AG.seq ?_
     refine AG.region HM ?_
     refine a_move (v := vI _) ?_
     refine RA.nil nofun ?_
     refine AG.block ?_
     refine AG.loop ?_
     obtain ⟨K1, hK1, gK1⟩ : ∃ K, k ≤ K ∧ K ≤ k := ⟨k, Nat.le_refl k, Nat.le_refl k⟩
     refine AGr.canon (fun κ => cond (Nat.beq κ 203) 202 (κ)) (AGr.loopI (n := k) (fun k s => k ≤ K1 ∧ ∃ (x0_0 : Int) (x0_1 : Int) (x0_2 : List S50) (x0_3 : List S72) (x1 : Int) (x5 : List Int) (x6 : List Int) (x7 : Int) (x8 : Bool) (x9 : Int), spec_l05Near.l1 k x0_3 x1 x5 x6 x7 x8 x9 = some r ∧ s = St.of [(0, .c (.d (.ro [.v (.int .i64 x0_0), .v (.int .i64 x0_1), .row 51 (x0_2.map c50), .row 76 (x0_3.map c72)]))), (1, vI x1), (5, .c (.own 203 x5.length)), (6, vR 2 (x6.map c2)), (7, vI x7), (8, vB x8), (9, vI x9)] [(203, .row 2 (x5.map c2))]) ⟨hK1, _, _, _, _, _, _, _, _, _, _, H, rfl⟩ ?_ ?_) ⟨rfl, rfl, rfl, rfl, rfl, rfl, rfl, trivial⟩ ⟨rfl, trivial⟩ rfl
     ·rintro _ ⟨_, _, _, _, _, _, _, _, _, _, _, H, _⟩
      cases H
     ·clear H hK1
      rintro k ih1 _ ⟨hK1, x0_0, x0_1, x0_2, x0_3, x1, x5, x6, x7, x8, x9, H, rfl⟩
      unfold spec_l05Near.l1 at H
      refine AG.seq ?_
      refine AG.seq ?_
      refine AG.region HM ?_
      refine a_move (v := vI _) ?_
      refine a_move (v := vR _ _) ?_
      refine a_lenR ?_ Tryz.underlying27
      refine a_int (u := .bool (decide (x9 < (x6.length : Int)))) ?_
      refine RA.nil nofun ?_
      by_cases hc5 : x9 < (x6.length : Int)
      ·rw [if_pos hc5] at H
       refine AG.yes rfl (decide_eq_true hc5) ?_
       refine AG.skip ?_
       refine AG.seq ?_
       refine AG.block ?_
       refine AG.region HM ?_
       refine a_move (v := vB _) ?_
       refine a_move (v := vB _) ?_
       by_cases hc6 : x8 = true
       ·rw [if_pos hc6] at H
        refine RA.skip rfl rfl rfl rfl rfl hc6 (by decide) ?_
        refine RA.skip rfl rfl rfl rfl rfl hc6 (by decide) ?_
        refine RA.skip rfl rfl rfl rfl rfl hc6 (by decide) ?_
        refine RA.skip rfl rfl rfl rfl rfl hc6 (by decide) ?_
        refine RA.skip rfl rfl rfl rfl rfl hc6 (by decide) ?_
        refine RA.skip rfl rfl rfl rfl rfl hc6 (by decide) ?_
        refine RA.skip rfl rfl rfl rfl rfl hc6 (by decide) ?_
        refine RA.skip rfl rfl rfl rfl rfl hc6 (by decide) ?_
        refine RA.skip rfl rfl rfl rfl rfl hc6 (by decide) ?_
        refine RA.skip rfl rfl rfl rfl rfl hc6 (by decide) ?_
        refine RA.skip rfl rfl rfl rfl rfl hc6 (by decide) ?_
        refine RA.skip rfl rfl rfl rfl rfl hc6 (by decide) ?_
        refine RA.skip rfl rfl rfl rfl rfl hc6 (by decide) ?_
        refine RA.skip rfl rfl rfl rfl rfl hc6 (by decide) ?_
        refine RA.skip rfl rfl rfl rfl rfl hc6 (by decide) ?_
        refine RA.skip rfl rfl rfl rfl rfl hc6 (by decide) ?_
        refine RA.skip rfl rfl rfl rfl rfl hc6 (by decide) ?_
        refine RA.skip rfl rfl rfl rfl rfl hc6 (by decide) ?_
        refine RA.skip rfl rfl rfl rfl rfl hc6 (by decide) ?_
        refine RA.skip rfl rfl rfl rfl rfl hc6 (by decide) ?_
        refine RA.skip rfl rfl rfl rfl rfl hc6 (by decide) ?_
        refine a_pick (b := true) (v := vB _) ?_ hc6
        refine a_move (v := vB _) ?_
        refine RA.nil (fun _ => by kernel_rfl) ?_
        refine AG.region HM ?_
        refine a_move (v := vI _) ?_
        refine a_int (u := .int .i64 (wrap64 (x9 + 1))) ?_
        refine a_move (v := vI _) ?_
        refine RA.nil nofun ?_
        exact AGr.canon id (ih1 _ (by omega) _ ⟨by omega, _, _, _, _, _, _, _, _, _, _, H, rfl⟩) ⟨rfl, rfl, rfl, rfl, rfl, rfl, rfl, trivial⟩ ⟨rfl, trivial⟩ rfl
       ·rw [if_neg hc6] at H
        refine a_move (v := vO [_, _, _, _]) ?_ (hg := Gs.yes rfl rfl rfl (Bool.eq_false_iff.2 hc6))
        refine a_nil (v := vO [_, _, _, _]) ?_ (hg := Gs.yes rfl rfl rfl (Bool.eq_false_iff.2 hc6))
        refine a_faR (cells' := [_]) ?_ D33_3 (hg := Gs.yes rfl rfl rfl (Bool.eq_false_iff.2 hc6))
        refine a_ldR (v := vR _ _) ?_ T31 (hg := Gs.yes rfl rfl rfl (Bool.eq_false_iff.2 hc6))
        refine a_move (v := vI _) ?_ (hg := Gs.yes rfl rfl rfl (Bool.eq_false_iff.2 hc6))
        by_cases hc7 : 0 ≤ x7
        ·rw [if_pos hc7] at H
         by_cases hc8 : x7 < (x0_3.length : Int)
         ·rw [if_pos hc8] at H
          refine a_ixR (el := c72 (rd72 x0_3 x7)) ?_ ⟨hc7, hc8⟩ T76 Tryz.underlying31 (hel := R72 hc7 hc8) (hg := Gs.yes rfl rfl rfl (Bool.eq_false_iff.2 hc6))
          refine a_faR (cells' := [_]) ?_ D76_1 (hg := Gs.yes rfl rfl rfl (Bool.eq_false_iff.2 hc6))
          refine a_ldR (v := vR _ _) ?_ T27 (hg := Gs.yes rfl rfl rfl (Bool.eq_false_iff.2 hc6))
          refine a_move (v := vR _ _) ?_ (hg := Gs.yes rfl rfl rfl (Bool.eq_false_iff.2 hc6))
          refine a_move (v := vI _) ?_ (hg := Gs.yes rfl rfl rfl (Bool.eq_false_iff.2 hc6))
          by_cases hc9 : 0 ≤ x9
          ·rw [if_pos hc9] at H
           refine a_ixR (el := c2 (rd2 x6 x9)) ?_ ⟨hc9, hc5⟩ T2 Tryz.underlying27 (hel := R2 hc9 hc5) (hg := Gs.yes rfl rfl rfl (Bool.eq_false_iff.2 hc6))
           refine a_ldR (v := vI _) ?_ T2 (hg := Gs.yes rfl rfl rfl (Bool.eq_false_iff.2 hc6))
           refine a_move (v := vR _ _) ?_ (hg := Gs.yes rfl rfl rfl (Bool.eq_false_iff.2 hc6))
           refine a_move (v := vI _) ?_ (hg := Gs.yes rfl rfl rfl (Bool.eq_false_iff.2 hc6))
           refine a_int (u := .int .i64 (wrap64 (x9 + 1))) ?_ (hg := Gs.yes rfl rfl rfl (Bool.eq_false_iff.2 hc6))
           refine a_move (v := vR _ _) ?_ (hg := Gs.yes rfl rfl rfl (Bool.eq_false_iff.2 hc6))
           refine a_lenR ?_ Tryz.underlying27 (hg := Gs.yes rfl rfl rfl (Bool.eq_false_iff.2 hc6))
           by_cases hc10 : (x6.length : Int) = 0
           ·rw [if_pos hc10] at H
            cases H
           ·rw [if_neg hc10] at H
            refine a_rem (r := Int.tmod (wrap64 (x9 + 1)) (x6.length : Int)) ?_ hc10 (hg := Gs.yes rfl rfl rfl (Bool.eq_false_iff.2 hc6))
            by_cases hc11 : 0 ≤ (Int.tmod (wrap64 (x9 + 1)) (x6.length : Int))
            ·rw [if_pos hc11] at H
             by_cases hc12 : (Int.tmod (wrap64 (x9 + 1)) (x6.length : Int)) < (x6.length : Int)
             ·rw [if_pos hc12] at H
              refine a_ixR (el := c2 (rd2 x6 (Int.tmod (wrap64 (x9 + 1)) (x6.length : Int)))) ?_ ⟨hc11, hc12⟩ T2 Tryz.underlying27 (hel := R2 hc11 hc12) (hg := Gs.yes rfl rfl rfl (Bool.eq_false_iff.2 hc6))
              refine a_ldR (v := vI _) ?_ T2 (hg := Gs.yes rfl rfl rfl (Bool.eq_false_iff.2 hc6))
              obtain ⟨t13, e14, H⟩ := bindO H
              refine a_call (v := vB t13) (nk := []) (L := []) ?_ rfl (spec_l05HasEdge.ok e14) id (qd (qd (qd qn))) trivial trivial trivial rfl (hg := Gs.yes rfl rfl rfl (Bool.eq_false_iff.2 hc6))
              refine a_pick (b := false) (v := vB _) ?_ (Bool.eq_false_iff.2 hc6)
              refine a_move (v := vB _) ?_
              refine RA.nil (fun _ => by kernel_rfl) ?_
              refine AG.region HM ?_
              refine a_move (v := vI _) ?_
              refine a_int (u := .int .i64 (wrap64 (x9 + 1))) ?_
              refine a_move (v := vI _) ?_
              refine RA.nil nofun ?_
              exact AGr.canon id (ih1 _ (by omega) _ ⟨by omega, _, _, _, _, _, _, _, _, _, _, H, rfl⟩) ⟨rfl, rfl, rfl, rfl, rfl, rfl, rfl, trivial⟩ ⟨rfl, trivial⟩ rfl
             ·rw [if_neg hc12] at H
              cases H
            ·rw [if_neg hc11] at H
             cases H
          ·rw [if_neg hc9] at H
           cases H
         ·rw [if_neg hc8] at H
          cases H
        ·rw [if_neg hc7] at H
         cases H
      ·rw [if_neg hc5] at H
       refine AG.no rfl (decide_eq_false hc5) ?_
       refine AG.exit ?_
       refine AG.seq ?_
       refine AG.region HM ?_
       refine a_move (v := vI _) ?_
       refine a_move (v := vI _) ?_
       refine a_int (u := .bool ((x7 != x1))) ?_
       refine a_move (v := vB _) ?_
       by_cases hc15 : x7 = x1
       ·rw [if_pos hc15] at H
        refine RA.skip rfl rfl rfl rfl rfl (bne_eq_false_iff_eq.2 hc15) (by decide) ?_
        refine a_pick (b := false) (v := vB _) ?_ (bne_eq_false_iff_eq.2 hc15)
        refine RA.nil nofun ?_
        refine AG.no rfl rfl ?_
        refine AG.skip ?_
        refine AG.region HM ?_
        refine a_move (v := vI _) ?_
        refine a_int (u := .int .i64 (wrap64 (x7 + 1))) ?_
        refine a_move (v := vI _) ?_
        refine RA.nil nofun ?_
        exact AGr.canon (fun κ => cond (Nat.beq κ 202) 203 (κ)) (ih0 _ (by omega) _ ⟨by omega, _, _, _, _, _, _, _, _, H, rfl⟩) ⟨rfl, rfl, rfl, rfl, rfl, trivial⟩ ⟨rfl, trivial⟩ rfl
       ·rw [if_neg hc15] at H
        refine a_move (v := vB _) ?_ (hg := Gs.yes rfl rfl rfl (bne_iff_ne.2 hc15))
        refine a_pick (b := true) (v := vB _) ?_ (bne_iff_ne.2 hc15)
        refine RA.nil nofun ?_
        by_cases hc16 : x8 = true
        ·rw [if_pos hc16] at H
         refine AG.yes rfl hc16 ?_
         refine AG.region HM ?_
         refine a_move (v := .c (.own _ _)) ?_
         refine a_move (v := vI _) ?_
         refine a_lit (cs := [_]) (D := []) (css := ([x7]).map c2) 205 ?_ N27 T2
         by_cases hc17 : x5.length < 17592186044416
         ·rw [if_pos hc17] at H
          refine a_appO (css' := (x5 ++ [x7]).map c2) (n' := (x5 ++ [x7]).length) ?_ T2 (by simp [maxLen]; omega) (by simp; omega) Tryz.underlying27 (hc := by exact List.map_append.symm) (hn := by exact List.length_map _)
          refine a_move (v := .c (.own _ _)) ?_
          refine RA.nil nofun ?_
          refine AG.region HM ?_
          refine a_move (v := vI _) ?_
          refine a_int (u := .int .i64 (wrap64 (x7 + 1))) ?_
          refine a_move (v := vI _) ?_
          refine RA.nil nofun ?_
          exact AGr.canon (fun κ => cond (Nat.beq κ 202) 203 (κ)) (ih0 _ (by omega) _ ⟨by omega, _, _, _, _, _, _, _, _, H, rfl⟩) ⟨rfl, rfl, rfl, rfl, rfl, trivial⟩ ⟨rfl, trivial⟩ rfl
         ·rw [if_neg hc17] at H
          cases H
        ·rw [if_neg hc16] at H
         refine AG.no rfl (Bool.eq_false_iff.2 hc16) ?_
         refine AG.skip ?_
         refine AG.region HM ?_
         refine a_move (v := vI _) ?_
         refine a_int (u := .int .i64 (wrap64 (x7 + 1))) ?_
         refine a_move (v := vI _) ?_
         refine RA.nil nofun ?_
         exact AGr.canon (fun κ => cond (Nat.beq κ 202) 203 (κ)) (ih0 _ (by omega) _ ⟨by omega, _, _, _, _, _, _, _, _, H, rfl⟩) ⟨rfl, rfl, rfl, rfl, rfl, trivial⟩ ⟨rfl, trivial⟩ rfl
    ·rw [if_neg hc4] at H
     refine AG.no rfl (decide_eq_false hc4) ?_
     refine AG.exit ?_
     refine AG.seq ?_
     refine AG.region HM ?_
     refine a_move (v := .c (.own _ _)) ?_
     refine a_move (v := .c (.own _ _)) ?_
     refine RA.nil nofun ?_
     refine AG.ret ?_
     obtain rfl := Option.some.inj H
     exact RetP.mk (fun κ => cond (Nat.beq κ 100) 202 (κ)) ⟨rfl, trivial⟩ ⟨rfl, trivial⟩ rfl
  ·rw [if_neg hc3] at H
   cases H
 ·rw [if_neg hc2] at H
  cases H
/-! ### spec_l14Faces: function 46 -/
mutual
def spec_l14Faces.l0 : Nat → Int → Int → List S50 → List S72 → List (List Int) → List Int → Int → Option ((List Int))
 | 0, _, _, _, _, _, _, _ => none
 | k + 1, x0_0, x0_1, x0_2, x0_3, x1, x5, x6 => if x6 < (x0_3.length : Int) then (if x5.length < 17592186044416 then (spec_l14Faces.l0 k x0_0 x0_1 x0_2 x0_3 x1 (x5 ++ [24]) (wrap64 (x6 + 1))) else (none)) else (spec_l14Faces.l1 k x0_0 x0_1 x0_2 x0_3 x1 x5 0)
def spec_l14Faces.l1 : Nat → Int → Int → List S50 → List S72 → List (List Int) → List Int → Int → Option ((List Int))
 | 0, _, _, _, _, _, _, _ => none
 | k + 1, x0_0, x0_1, x0_2, x0_3, x1, x5, x7 => if x7 < (x1.length : Int) then (if 0 ≤ x7 then (if 0 < ((rd27 x1 x7).length : Int) then (if 1 < ((rd27 x1 x7).length : Int) then ((spec_l05OnEdge.f k x0_0 x0_1 x0_2 x0_3 (rd2 (rd27 x1 x7) 0) (rd2 (rd27 x1 x7) 1)).bind fun t9 => (if (t9.length : Int) = 1 then (if 0 < (t9.length : Int) then (if 0 ≤ (rd2 t9 0) then (if (rd2 t9 0) < (x5.length : Int) then (spec_l14Faces.l1 k x0_0 x0_1 x0_2 x0_3 x1 (x5.set ((rd2 t9 0) : Int).toNat 0) (wrap64 (x7 + 1))) else (none)) else (none)) else (none)) else (spec_l14Faces.l1 k x0_0 x0_1 x0_2 x0_3 x1 x5 (wrap64 (x7 + 1))))) else (none)) else (none)) else (none)) else (spec_l14Faces.l2 k x0_0 x0_1 x0_2 x0_3 x5 0)
def spec_l14Faces.l2 : Nat → Int → Int → List S50 → List S72 → List Int → Int → Option ((List Int))
 | 0, _, _, _, _, _, _ => none
 | k + 1, x0_0, x0_1, x0_2, x0_3, x5, x9 => if x9 < (x5.length : Int) then (spec_l14Faces.l3 k x0_0 x0_1 x0_2 x0_3 x5 x9 0) else (some x5)
def spec_l14Faces.l3 : Nat → Int → Int → List S50 → List S72 → List Int → Int → Int → Option ((List Int))
 | 0, _, _, _, _, _, _, _ => none
 | k + 1, x0_0, x0_1, x0_2, x0_3, x5, x9, x10 => if x10 < (x5.length : Int) then ((spec_l05Near.f k x0_0 x0_1 x0_2 x0_3 x10).bind fun t18 => (spec_l14Faces.l4 k x0_0 x0_1 x0_2 x0_3 x5 x9 x10 t18 0)) else (spec_l14Faces.l2 k x0_0 x0_1 x0_2 x0_3 x5 (wrap64 (x9 + 1)))
def spec_l14Faces.l4 : Nat → Int → Int → List S50 → List S72 → List Int → Int → Int → List Int → Int → Option ((List Int))
 | 0, _, _, _, _, _, _, _, _, _ => none
 | k + 1, x0_0, x0_1, x0_2, x0_3, x5, x9, x10, x11, x12 => if x12 < (x11.length : Int) then (if 0 ≤ x10 then (if x10 < (x5.length : Int) then (if 0 ≤ x12 then (if 0 ≤ (rd2 x11 x12) then (if (rd2 x11 x12) < (x5.length : Int) then ((spec_l00Min.f (rd2 x5 x10) (wrap64 ((rd2 x5 (rd2 x11 x12)) + 1))).bind fun t26 => (spec_l14Faces.l4 k x0_0 x0_1 x0_2 x0_3 (x5.set (x10 : Int).toNat t26) x9 x10 x11 (wrap64 (x12 + 1)))) else (none)) else (none)) else (none)) else (none)) else (none)) else (spec_l14Faces.l3 k x0_0 x0_1 x0_2 x0_3 x5 x9 (wrap64 (x10 + 1)))
end
def spec_l14Faces.f (k : Nat) (a0_0 : Int) (a0_1 : Int) (l0_2 : List S50) (l0_3 : List S72) (l1 : List (List Int)) : Option ((List Int)) := spec_l14Faces.l0 k a0_0 a0_1 l0_2 l0_3 l1 (([] : List Int) : List Int) 0
set_option maxRecDepth 100000 in
theorem spec_l14Faces.ok {k : Nat} {a0_0 : Int} {a0_1 : Int} {l0_2 : List S50} {l0_3 : List S72} {l1 : List (List Int)} {r : List Int} (H : spec_l14Faces.f k a0_0 a0_1 l0_2 l0_3 l1 = some r) : OkF Tryz.prog 46 [.c (.d (.ro [.v (.int .i64 a0_0), .v (.int .i64 a0_1), .row 51 (l0_2.map c50), .row 76 (l0_3.map c72)])), vR 27 (l1.map c27)] [] (.c (.own 100 r.length)) [(100, .row 2 (r.map c2))] := by
 unfold spec_l14Faces.f at H
 refine OkF.of (N := 92) (rs := [4]) (avs := [.c (.own 100 r.length)]) Tryz.func46 rfl rfl (fun _ _ => results_tmp rfl _ _ _) (by decide) rfl rfl rfl rfl (fun w0 S => ?_)
 refine AG.seq ?_
 refine AG.region HM ?_
 refine a_nilO (e := 2) 200 ?_ T2
 refine RA.nil nofun ?_
 refine AG.seq ?_
 refine AG.region HM ?_
 refine a_lit (cs := []) (D := []) (css := (([] : List Int) : List Int).map c2) 201 ?_ N27 T2 (hcss := by rfl)
 refine a_move (v := .c (.own _ _)) ?_
 refine RA.nil nofun ?_
 refine AG.seq ?_
 refine AG.seq ?_
 refine AG.region HM ?_
 refine a_move (v := vI _) ?_
 refine RA.nil nofun ?_
 refine AG.block ?_
 refine AG.loop ?_
 obtain ⟨K0, hK0, gK0⟩ : ∃ K, k ≤ K ∧ K ≤ k := ⟨k, Nat.le_refl k, Nat.le_refl k⟩
 refine AGr.canon (fun κ => cond (Nat.beq κ 202) 201 (κ)) (AGr.loopI (n := k) (fun k s => k ≤ K0 ∧ ∃ (x0_0 : Int) (x0_1 : Int) (x0_2 : List S50) (x0_3 : List S72) (x1 : List (List Int)) (x5 : List Int) (x6 : Int), spec_l14Faces.l0 k x0_0 x0_1 x0_2 x0_3 x1 x5 x6 = some r ∧ s = St.of [(0, .c (.d (.ro [.v (.int .i64 x0_0), .v (.int .i64 x0_1), .row 51 (x0_2.map c50), .row 76 (x0_3.map c72)]))), (1, vR 27 (x1.map c27)), (5, .c (.own 202 x5.length)), (6, vI x6)] [(202, .row 2 (x5.map c2))]) ⟨hK0, _, _, _, _, _, _, _, H, rfl⟩ ?_ ?_) ⟨rfl, rfl, (ownE rfl (by simp)), rfl, trivial⟩ ⟨rfl, trivial⟩ rfl
 ·rintro _ ⟨_, _, _, _, _, _, _, _, H, _⟩
  cases H
 ·clear H hK0
  rintro k ih0 _ ⟨hK0, x0_0, x0_1, x0_2, x0_3, x1, x5, x6, H, rfl⟩
  unfold spec_l14Faces.l0 at H
  refine AG.seq ?_
  refine AG.seq ?_
  refine AG.region HM ?_
  refine a_move (v := vI _) ?_
  refine a_move (v := vO [_, _, _, _]) ?_
  refine a_nil (v := vO [_, _, _, _]) ?_
  refine a_faR (cells' := [_]) ?_ D33_3
  refine a_ldR (v := vR _ _) ?_ T31
  refine a_lenR ?_ Tryz.underlying31
  refine a_int (u := .bool (decide (x6 < (x0_3.length : Int)))) ?_
  refine RA.nil nofun ?_
  by_cases hc2 : x6 < (x0_3.length : Int)
  ·rw [if_pos hc2] at H
   refine AG.yes rfl (decide_eq_true hc2) ?_
   refine AG.skip ?_
   refine AG.seq ?_
   refine AG.block ?_
   refine AG.region HM ?_
   refine a_move (v := .c (.own _ _)) ?_
   refine a_lit (cs := [_]) (D := []) (css := ([24]).map c2) 203 ?_ N27 T2
   by_cases hc3 : x5.length < 17592186044416
   ·rw [if_pos hc3] at H
    refine a_appO (css' := (x5 ++ [24]).map c2) (n' := (x5 ++ [24]).length) ?_ T2 (by simp [maxLen]; omega) (by simp; omega) Tryz.underlying27 (hc := by exact List.map_append.symm) (hn := by exact List.length_map _)
    refine a_move (v := .c (.own _ _)) ?_
    refine RA.nil nofun ?_
    refine AG.region HM ?_
    refine a_move (v := vI _) ?_
    refine a_int (u := .int .i64 (wrap64 (x6 + 1))) ?_
    refine a_move (v := vI _) ?_
    refine RA.nil nofun ?_
    exact AGr.canon id (ih0 _ (by omega) _ ⟨by omega, _, _, _, _, _, _, _, H, rfl⟩) ⟨rfl, rfl, rfl, rfl, trivial⟩ ⟨rfl, trivial⟩ rfl
   ·rw [if_neg hc3] at H
    cases H
  ·rw [if_neg hc2] at H
   refine AG.no rfl (decide_eq_false hc2) ?_
   refine AG.exit ?_
   refine AG.seq ?_
   refine AG.seq ?_
   refine AG.region HM ?_
   refine a_move (v := vI _) ?_
   refine RA.nil nofun ?_
   refine AG.block ?_
   refine AG.loop ?_
   obtain ⟨K1, hK1, gK1⟩ : ∃ K, k ≤ K ∧ K ≤ k := ⟨k, Nat.le_refl k, Nat.le_refl k⟩
   refine AGr.canon (fun κ => cond (Nat.beq κ 204) 202 (κ)) (AGr.loopI (n := k) (fun k s => k ≤ K1 ∧ ∃ (x0_0 : Int) (x0_1 : Int) (x0_2 : List S50) (x0_3 : List S72) (x1 : List (List Int)) (x5 : List Int) (x7 : Int), spec_l14Faces.l1 k x0_0 x0_1 x0_2 x0_3 x1 x5 x7 = some r ∧ s = St.of [(0, .c (.d (.ro [.v (.int .i64 x0_0), .v (.int .i64 x0_1), .row 51 (x0_2.map c50), .row 76 (x0_3.map c72)]))), (1, vR 27 (x1.map c27)), (5, .c (.own 204 x5.length)), (7, vI x7)] [(204, .row 2 (x5.map c2))]) ⟨hK1, _, _, _, _, _, _, _, H, rfl⟩ ?_ ?_) ⟨rfl, rfl, rfl, rfl, trivial⟩ ⟨rfl, trivial⟩ rfl
   ·rintro _ ⟨_, _, _, _, _, _, _, _, H, _⟩
    cases H
   ·clear H hK1
    rintro k ih1 _ ⟨hK1, x0_0, x0_1, x0_2, x0_3, x1, x5, x7, H, rfl⟩
    unfold spec_l14Faces.l1 at H
    refine AG.seq ?_
    refine AG.seq ?_
    refine AG.region HM ?_
    refine a_move (v := vI _) ?_
    refine a_move (v := vR _ _) ?_
    refine a_lenR ?_ Tryz.underlying46
    refine a_int (u := .bool (decide (x7 < (x1.length : Int)))) ?_
    refine RA.nil nofun ?_
    by_cases hc5 : x7 < (x1.length : Int)
    ·rw [if_pos hc5] at H
     refine AG.yes rfl (decide_eq_true hc5) ?_
     refine AG.skip ?_
     refine AG.seq ?_
     refine AG.block ?_
     refine AG.seq ?_
     refine AG.region HM ?_
     refine a_move (v := vO [_, _, _, _]) ?_
     refine a_move (v := vR _ _) ?_
     refine a_move (v := vI _) ?_
     by_cases hc6 : 0 ≤ x7
     ·rw [if_pos hc6] at H
      refine a_ixR (el := c27 (rd27 x1 x7)) ?_ ⟨hc6, hc5⟩ T27 Tryz.underlying46 (hel := R27 hc6 hc5)
      refine a_ldR (v := vR _ _) ?_ T27
      by_cases hc7 : 0 < ((rd27 x1 x7).length : Int)
      ·rw [if_pos hc7] at H
       refine a_ixR (el := c2 (rd2 (rd27 x1 x7) 0)) ?_ ⟨(by decide), hc7⟩ T2 Tryz.underlying27 (hel := R2 (by decide) hc7)
       refine a_ldR (v := vI _) ?_ T2
       refine a_move (v := vR _ _) ?_
       refine a_move (v := vI _) ?_
       refine a_ixR (el := c27 (rd27 x1 x7)) ?_ ⟨hc6, hc5⟩ T27 Tryz.underlying46 (hel := R27 hc6 hc5)
       refine a_ldR (v := vR _ _) ?_ T27
       by_cases hc8 : 1 < ((rd27 x1 x7).length : Int)
       ·rw [if_pos hc8] at H
        refine a_ixR (el := c2 (rd2 (rd27 x1 x7) 1)) ?_ ⟨(by decide), hc8⟩ T2 Tryz.underlying27 (hel := R2 (by decide) hc8)
        refine a_ldR (v := vI _) ?_ T2
        obtain ⟨t9, e10, H⟩ := bindO H
        refine a_call (v := .c (.own 205 t9.length)) (nk := [(205, .row 2 (t9.map c2))]) (L := []) ?_ rfl (spec_l05OnEdge.ok e10) (fun κ => cond (Nat.beq κ 205) 100 (κ)) (qd (qd (qd qn))) trivial ⟨rfl, trivial⟩ ⟨rfl, trivial⟩ rfl
        refine a_move (v := .c (.own _ _)) ?_
        refine RA.nil (fun _ => by kernel_rfl) ?_
        refine AG.seq ?_
        refine AG.region HM ?_
        refine a_move (v := .c (.own _ _)) ?_
        refine a_lenO ?_ Tryz.underlying27
        refine a_int (u := .bool (((t9.length : Int) == 1))) ?_
        refine RA.nil nofun ?_
        by_cases hc11 : (t9.length : Int) = 1
        ·rw [if_pos hc11] at H
         refine AG.yes rfl (beq_iff_eq.2 hc11) ?_
         refine AG.region HM ?_
         refine a_move (v := .c (.own _ _)) ?_
         refine a_move (v := .c (.own _ _)) ?_
         by_cases hc12 : 0 < (t9.length : Int)
         ·rw [if_pos hc12] at H
          refine a_ixO ?_ ⟨(by decide), hc12⟩ T2 Tryz.underlying27
          refine a_ldE (v := vI _) ?_ (G2 (by decide) hc12) T2
          by_cases hc13 : 0 ≤ (rd2 t9 0)
          ·rw [if_pos hc13] at H
           by_cases hc14 : (rd2 t9 0) < (x5.length : Int)
           ·rw [if_pos hc14] at H
            refine a_ixO ?_ ⟨hc13, hc14⟩ T2 Tryz.underlying27
            refine a_stF (css' := (x5.set ((rd2 t9 0) : Int).toNat 0).map c2) ?_ (flat_map (fun _ => rfl)) (G2 hc13 hc14) T2 (hcss := by exact set_map rfl)
            refine RA.nil nofun ?_
            refine AG.region HM ?_
            refine a_move (v := vI _) ?_
            refine a_int (u := .int .i64 (wrap64 (x7 + 1))) ?_
            refine a_move (v := vI _) ?_
            refine RA.nil nofun ?_
            exact AGr.canon id (ih1 _ (by omega) _ ⟨by omega, _, _, _, _, _, _, _, H, rfl⟩) ⟨rfl, rfl, (ownE rfl (by simp)), rfl, trivial⟩ ⟨rfl, trivial⟩ rfl
           ·rw [if_neg hc14] at H
            cases H
          ·rw [if_neg hc13] at H
           cases H
         ·rw [if_neg hc12] at H
          cases H
        ·rw [if_neg hc11] at H
         refine AG.no rfl (beq_eq_false_iff_ne.2 hc11) ?_
         refine AG.skip ?_
         refine AG.region HM ?_
         refine a_move (v := vI _) ?_
         refine a_int (u := .int .i64 (wrap64 (x7 + 1))) ?_
         refine a_move (v := vI _) ?_
         refine RA.nil nofun ?_
         exact AGr.canon id (ih1 _ (by omega) _ ⟨by omega, _, _, _, _, _, _, _, H, rfl⟩) ⟨rfl, rfl, rfl, rfl, trivial⟩ ⟨rfl, trivial⟩ rfl
       ·rw [if_neg hc8] at H
        cases H
      ·rw [if_neg hc7] at H
       cases H
     ·rw [if_neg hc6] at H
      cases H
    ·rw [if_neg hc5] at H
     refine AG.no rfl (decide_eq_false hc5) ?_
     refine AG.exit ?_
     refine AG.seq ?_
     refine AG.seq ?_
     refine AG.region HM ?_
     refine a_move (v := vI _) ?_
     refine RA.nil nofun ?_
     refine AG.block ?_
     refine AG.loop ?_
     obtain ⟨K2, hK2, gK2⟩ : ∃ K, k ≤ K ∧ K ≤ k := ⟨k, Nat.le_refl k, Nat.le_refl k⟩
     refine AGr.canon (fun κ => cond (Nat.beq κ 206) 204 (κ)) (AGr.loopI (n := k) (fun k s => k ≤ K2 ∧ ∃ (x0_0 : Int) (x0_1 : Int) (x0_2 : List S50) (x0_3 : List S72) (x5 : List Int) (x9 : Int), spec_l14Faces.l2 k x0_0 x0_1 x0_2 x0_3 x5 x9 = some r ∧ s = St.of [(0, .c (.d (.ro [.v (.int .i64 x0_0), .v (.int .i64 x0_1), .row 51 (x0_2.map c50), .row 76 (x0_3.map c72)]))), (5, .c (.own 206 x5.length)), (9, vI x9)] [(206, .row 2 (x5.map c2))]) ⟨hK2, _, _, _, _, _, _, H, rfl⟩ ?_ ?_) ⟨rfl, rfl, rfl, trivial⟩ ⟨rfl, trivial⟩ rfl
     ·rintro _ ⟨_, _, _, _, _, _, _, H, _⟩
      cases H
     ·clear H hK2
      rintro k ih2 _ ⟨hK2, x0_0, x0_1, x0_2, x0_3, x5, x9, H, rfl⟩
      unfold spec_l14Faces.l2 at H
      refine AG.seq ?_
      refine AG.seq ?_
      refine AG.region HM ?_
      refine a_move (v := vI _) ?_
      refine a_move (v := .c (.own _ _)) ?_
      refine a_lenO ?_ Tryz.underlying27
      refine a_int (u := .bool (decide (x9 < (x5.length : Int)))) ?_
      refine RA.nil nofun ?_
      by_cases hc16 : x9 < (x5.length : Int)
      ·rw [if_pos hc16] at H
       refine AG.yes rfl (decide_eq_true hc16) ?_
       refine AG.skip ?_
       refine AG.seq ?_
       refine AG.block ?_
       refine AG.seq ?_
       refine AG.region HM ?_
       refine a_move (v := vI _) ?_
       refine RA.nil nofun ?_
       refine AG.block ?_
       refine AG.loop ?_
       obtain ⟨K3, hK3, gK3⟩ : ∃ K, k ≤ K ∧ K ≤ k := ⟨k, Nat.le_refl k, Nat.le_refl k⟩
       refine AGr.canon (fun κ => cond (Nat.beq κ 207) 206 (κ)) (AGr.loopI (n := k) (fun k s => k ≤ K3 ∧ ∃ (x0_0 : Int) (x0_1 : Int) (x0_2 : List S50) (x0_3 : List S72) (x5 : List Int) (x9 : Int) (x10 : Int), spec_l14Faces.l3 k x0_0 x0_1 x0_2 x0_3 x5 x9 x10 = some r ∧ s = St.of [(0, .c (.d (.ro [.v (.int .i64 x0_0), .v (.int .i64 x0_1), .row 51 (x0_2.map c50), .row 76 (x0_3.map c72)]))), (5, .c (.own 207 x5.length)), (9, vI x9), (10, vI x10)] [(207, .row 2 (x5.map c2))]) ⟨hK3, _, _, _, _, _, _, _, H, rfl⟩ ?_ ?_) ⟨rfl, rfl, rfl, rfl, trivial⟩ ⟨rfl, trivial⟩ rfl
       ·rintro _ ⟨_, _, _, _, _, _, _, _, H, _⟩
        cases H
       ·clear H hK3
        rintro k ih3 _ ⟨hK3, x0_0, x0_1, x0_2, x0_3, x5, x9, x10, H, rfl⟩
        unfold spec_l14Faces.l3 at H
        refine AG.seq ?_
        refine AG.seq ?_
        refine AG.region HM ?_
        refine a_move (v := vI _) ?_
        refine a_move (v := .c (.own _ _)) ?_
        refine a_lenO ?_ Tryz.underlying27
        refine a_int (u := .bool (decide (x10 < (x5.length : Int)))) ?_
        refine RA.nil nofun ?_
        by_cases hc17 : x10 < (x5.length : Int)
        ·rw [if_pos hc17] at H
         refine AG.yes rfl (decide_eq_true hc17) ?_
         refine AG.skip ?_
         refine AG.seq ?_
         refine AG.block ?_
         refine AG.seq ?_
         refine AG.region HM ?_
         refine a_move (v := vO [_, _, _, _]) ?_
         refine a_move (v := vI _) ?_
         obtain ⟨t18, e19, H⟩ := bindO H
         refine a_call (v := .c (.own 208 t18.length)) (nk := [(208, .row 2 (t18.map c2))]) (L := []) ?_ rfl (spec_l05Near.ok e19) (fun κ => cond (Nat.beq κ 208) 100 (κ)) (qd (qd qn)) trivial ⟨rfl, trivial⟩ ⟨rfl, trivial⟩ rfl
         refine a_move (v := .c (.own _ _)) ?_
         refine RA.nil nofun ?_
         refine AG.seq ?_
         refine AG.region HM ?_
         refine a_move (v := vI _) ?_
         refine RA.nil nofun ?_
         refine AG.block ?_
         refine AG.loop ?_
         obtain ⟨K4, hK4, gK4⟩ : ∃ K, k ≤ K ∧ K ≤ k := ⟨k, Nat.le_refl k, Nat.le_refl k⟩
         refine AGr.canon (fun κ => cond (Nat.beq κ 209) 207 (cond (Nat.beq κ 210) 208 (κ))) (AGr.loopI (n := k) (fun k s => k ≤ K4 ∧ ∃ (x0_0 : Int) (x0_1 : Int) (x0_2 : List S50) (x0_3 : List S72) (x5 : List Int) (x9 : Int) (x10 : Int) (x11 : List Int) (x12 : Int), spec_l14Faces.l4 k x0_0 x0_1 x0_2 x0_3 x5 x9 x10 x11 x12 = some r ∧ s = St.of [(0, .c (.d (.ro [.v (.int .i64 x0_0), .v (.int .i64 x0_1), .row 51 (x0_2.map c50), .row 76 (x0_3.map c72)]))), (5, .c (.own 209 x5.length)), (9, vI x9), (10, vI x10), (11, .c (.own 210 x11.length)), (12, vI x12)] [(209, .row 2 (x5.map c2)), (210, .row 2 (x11.map c2))]) ⟨hK4, _, _, _, _, _, _, _, _, _, H, rfl⟩ ?_ ?_) ⟨rfl, rfl, rfl, rfl, rfl, rfl, trivial⟩ ⟨rfl, rfl, trivial⟩ rfl
         ·rintro _ ⟨_, _, _, _, _, _, _, _, _, _, H, _⟩
          cases H
         ·clear H hK4
          rintro k ih4 _ ⟨hK4, x0_0, x0_1, x0_2, x0_3, x5, x9, x10, x11, x12, H, rfl⟩
          unfold spec_l14Faces.l4 at H
          refine AG.seq ?_
          refine AG.seq ?_
          refine AG.region HM ?_
          refine a_move (v := vI _) ?_
          refine a_move (v := .c (.own _ _)) ?_
          refine a_lenO ?_ Tryz.underlying27
          refine a_int (u := .bool (decide (x12 < (x11.length : Int)))) ?_
          refine RA.nil nofun ?_
          by_cases hc20 : x12 < (x11.length : Int)
          ·rw [if_pos hc20] at H
           refine AG.yes rfl (decide_eq_true hc20) ?_
           refine AG.skip ?_
           refine AG.seq ?_
           refine AG.block ?_
           refine AG.region HM ?_
           refine a_move (v := .c (.own _ _)) ?_
           refine a_move (v := vI _) ?_
           refine a_move (v := .c (.own _ _)) ?_
           refine a_move (v := vI _) ?_
           by_cases hc21 : 0 ≤ x10
           ·rw [if_pos hc21] at H
            by_cases hc22 : x10 < (x5.length : Int)
            ·rw [if_pos hc22] at H
             refine a_ixO ?_ ⟨hc21, hc22⟩ T2 Tryz.underlying27
             refine a_ldE (v := vI _) ?_ (G2 hc21 hc22) T2
             refine a_move (v := .c (.own _ _)) ?_
             refine a_move (v := .c (.own _ _)) ?_
             refine a_move (v := vI _) ?_
             by_cases hc23 : 0 ≤ x12
             ·rw [if_pos hc23] at H
              refine a_ixO ?_ ⟨hc23, hc20⟩ T2 Tryz.underlying27
              refine a_ldE (v := vI _) ?_ (G2 hc23 hc20) T2
              by_cases hc24 : 0 ≤ (rd2 x11 x12)
              ·rw [if_pos hc24] at H
               by_cases hc25 : (rd2 x11 x12) < (x5.length : Int)
               ·rw [if_pos hc25] at H
                refine a_ixO ?_ ⟨hc24, hc25⟩ T2 Tryz.underlying27
                refine a_ldE (v := vI _) ?_ (G2 hc24 hc25) T2
                refine a_int (u := .int .i64 (wrap64 ((rd2 x5 (rd2 x11 x12)) + 1))) ?_
                obtain ⟨t26, e27, H⟩ := bindO H
                refine a_call (v := vI t26) (nk := []) (L := []) ?_ rfl (spec_l00Min.ok e27) id (qd (qd qn)) trivial trivial trivial rfl
                refine a_ixO ?_ ⟨hc21, hc22⟩ T2 Tryz.underlying27
                refine a_stF (css' := (x5.set (x10 : Int).toNat t26).map c2) ?_ (flat_map (fun _ => rfl)) (G2 hc21 hc22) T2 (hcss := by exact set_map rfl)
                refine RA.nil (fun _ => by kernel_rfl) ?_
                refine AG.region HM ?_
                refine a_move (v := vI _) ?_
                refine a_int (u := .int .i64 (wrap64 (x12 + 1))) ?_
                refine a_move (v := vI _) ?_
                refine RA.nil nofun ?_
                exact AGr.canon id (ih4 _ (by omega) _ ⟨by omega, _, _, _, _, _, _, _, _, _, H, rfl⟩) ⟨rfl, (ownE rfl (by simp)), rfl, rfl, rfl, rfl, trivial⟩ ⟨rfl, rfl, trivial⟩ rfl
               ·rw [if_neg hc25] at H
                cases H
              ·rw [if_neg hc24] at H
               cases H
             ·rw [if_neg hc23] at H
              cases H
            ·rw [if_neg hc22] at H
             cases H
           ·rw [if_neg hc21] at H
            cases H
          ·rw [if_neg hc20] at H
           refine AG.no rfl (decide_eq_false hc20) ?_
           refine AG.exit ?_
           refine AG.region HM ?_
           refine a_move (v := vI _) ?_
           refine a_int (u := .int .i64 (wrap64 (x10 + 1))) ?_
           refine a_move (v := vI _) ?_
           refine RA.nil nofun ?_
           exact AGr.canon (fun κ => cond (Nat.beq κ 207) 209 (κ)) (ih3 _ (by omega) _ ⟨by omega, _, _, _, _, _, _, _, H, rfl⟩) ⟨rfl, rfl, rfl, rfl, trivial⟩ ⟨rfl, trivial⟩ rfl
        ·rw [if_neg hc17] at H
         refine AG.no rfl (decide_eq_false hc17) ?_
         refine AG.exit ?_
         refine AG.region HM ?_
         refine a_move (v := vI _) ?_
         refine a_int (u := .int .i64 (wrap64 (x9 + 1))) ?_
         refine a_move (v := vI _) ?_
         refine RA.nil nofun ?_
         exact AGr.canon (fun κ => cond (Nat.beq κ 206) 207 (κ)) (ih2 _ (by omega) _ ⟨by omega, _, _, _, _, _, _, H, rfl⟩) ⟨rfl, rfl, rfl, trivial⟩ ⟨rfl, trivial⟩ rfl
      ·rw [if_neg hc16] at H
       refine AG.no rfl (decide_eq_false hc16) ?_
       refine AG.exit ?_
       refine AG.seq ?_
       refine AG.region HM ?_
       refine a_move (v := .c (.own _ _)) ?_
       refine a_move (v := .c (.own _ _)) ?_
       refine RA.nil nofun ?_
       refine AG.ret ?_
       obtain rfl := Option.some.inj H
       exact RetP.mk (fun κ => cond (Nat.beq κ 100) 206 (κ)) ⟨rfl, trivial⟩ ⟨rfl, trivial⟩ rfl
/-! ### spec_l14Depths: function 20 -/
mutual
def spec_l14Depths.l0 : Nat → Int → Int → List S50 → List S72 → List (List Int) → List Int → List Int → Int → Option ((List Int))
 | 0, _, _, _, _, _, _, _, _ => none
 | k + 1, x0_0, x0_1, x0_2, x0_3, x1, x5, x6, x7 => if x7 < (x1.length : Int) then (if 0 ≤ x7 then (if 0 < ((rd27 x1 x7).length : Int) then (if 1 < ((rd27 x1 x7).length : Int) then ((spec_l05OnEdge.f k x0_0 x0_1 x0_2 x0_3 (rd2 (rd27 x1 x7) 0) (rd2 (rd27 x1 x7) 1)).bind fun t8 => (if (t8.length : Int) > 1 then (if 0 < (t8.length : Int) then (if 0 ≤ (rd2 t8 0) then (if (rd2 t8 0) < (x5.length : Int) then (spec_l14Depths.l1 k x0_0 x0_1 x0_2 x0_3 x1 x5 x6 x7 t8 (wrap64 ((rd2 x5 (rd2 t8 0)) + 1)) 1) else (none)) else (none)) else (none)) else (if x6.length < 17592186044416 then (spec_l14Depths.l0 k x0_0 x0_1 x0_2 x0_3 x1 x5 (x6 ++ [0]) (wrap64 (x7 + 1))) else (none)))) else (none)) else (none)) else (none)) else (some x6)
def spec_l14Depths.l1 : Nat → Int → Int → List S50 → List S72 → List (List Int) → List Int → List Int → Int → List Int → Int → Int → Option ((List Int))
 | 0, _, _, _, _, _, _, _, _, _, _, _ => none
 | k + 1, x0_0, x0_1, x0_2, x0_3, x1, x5, x6, x7, x8, x9, x10 => if x10 < (x8.length : Int) then (if 0 ≤ x10 then (if 0 ≤ (rd2 x8 x10) then (if (rd2 x8 x10) < (x5.length : Int) then ((spec_l00Min.f x9 (wrap64 ((rd2 x5 (rd2 x8 x10)) + 1))).bind fun t18 => (spec_l14Depths.l1 k x0_0 x0_1 x0_2 x0_3 x1 x5 x6 x7 x8 t18 (wrap64 (x10 + 1)))) else (none)) else (none)) else (none)) else (if x6.length < 17592186044416 then (spec_l14Depths.l0 k x0_0 x0_1 x0_2 x0_3 x1 x5 (x6 ++ [x9]) (wrap64 (x7 + 1))) else (none))
end
def spec_l14Depths.f (k : Nat) (a0_0 : Int) (a0_1 : Int) (l0_2 : List S50) (l0_3 : List S72) (l1 : List (List Int)) : Option ((List Int)) := (spec_l14Faces.f k a0_0 a0_1 l0_2 l0_3 l1).bind fun t1 => (spec_l14Depths.l0 k a0_0 a0_1 l0_2 l0_3 l1 t1 (([] : List Int) : List Int) 0)
set_option maxRecDepth 100000 in
theorem spec_l14Depths.ok {k : Nat} {a0_0 : Int} {a0_1 : Int} {l0_2 : List S50} {l0_3 : List S72} {l1 : List (List Int)} {r : List Int} (H : spec_l14Depths.f k a0_0 a0_1 l0_2 l0_3 l1 = some r) : OkF Tryz.prog 20 [.c (.d (.ro [.v (.int .i64 a0_0), .v (.int .i64 a0_1), .row 51 (l0_2.map c50), .row 76 (l0_3.map c72)])), vR 27 (l1.map c27)] [] (.c (.own 100 r.length)) [(100, .row 2 (r.map c2))] := by
 unfold spec_l14Depths.f at H
 refine OkF.of (N := 66) (rs := [4]) (avs := [.c (.own 100 r.length)]) Tryz.func20 rfl rfl (fun _ _ => results_tmp rfl _ _ _) (by decide) rfl rfl rfl rfl (fun w0 S => ?_)
 refine AG.seq ?_
 refine AG.region HM ?_
 refine a_nilO (e := 2) 200 ?_ T2
 refine RA.nil nofun ?_
 refine AG.seq ?_
 refine AG.region HM ?_
 refine a_move (v := vO [_, _, _, _]) ?_
 refine a_move (v := vR _ _) ?_
 obtain ⟨t1, e2, H⟩ := bindO H
 refine a_call (v := .c (.own 201 t1.length)) (nk := [(201, .row 2 (t1.map c2))]) (L := []) ?_ rfl (spec_l14Faces.ok e2) (fun κ => cond (Nat.beq κ 201) 100 (κ)) (qd (qd qn)) trivial ⟨rfl, trivial⟩ ⟨rfl, trivial⟩ rfl
 refine a_move (v := .c (.own _ _)) ?_
 refine RA.nil nofun ?_
 refine AG.seq ?_
 refine AG.region HM ?_
 refine a_lit (cs := []) (D := []) (css := (([] : List Int) : List Int).map c2) 202 ?_ N27 T2 (hcss := by rfl)
 refine a_move (v := .c (.own _ _)) ?_
 refine RA.nil nofun ?_
 refine AG.seq ?_
 refine AG.seq ?_
 refine AG.region HM ?_
 refine a_move (v := vI _) ?_
 refine RA.nil nofun ?_
 refine AG.block ?_
 refine AG.loop ?_
 obtain ⟨K0, hK0, gK0⟩ : ∃ K, k ≤ K ∧ K ≤ k := ⟨k, Nat.le_refl k, Nat.le_refl k⟩
 refine AGr.canon (fun κ => cond (Nat.beq κ 203) 201 (cond (Nat.beq κ 204) 202 (κ))) (AGr.loopI (n := k) (fun k s => k ≤ K0 ∧ ∃ (x0_0 : Int) (x0_1 : Int) (x0_2 : List S50) (x0_3 : List S72) (x1 : List (List Int)) (x5 : List Int) (x6 : List Int) (x7 : Int), spec_l14Depths.l0 k x0_0 x0_1 x0_2 x0_3 x1 x5 x6 x7 = some r ∧ s = St.of [(0, .c (.d (.ro [.v (.int .i64 x0_0), .v (.int .i64 x0_1), .row 51 (x0_2.map c50), .row 76 (x0_3.map c72)]))), (1, vR 27 (x1.map c27)), (5, .c (.own 203 x5.length)), (6, .c (.own 204 x6.length)), (7, vI x7)] [(203, .row 2 (x5.map c2)), (204, .row 2 (x6.map c2))]) ⟨hK0, _, _, _, _, _, _, _, _, H, rfl⟩ ?_ ?_) ⟨rfl, rfl, rfl, (ownE rfl (by simp)), rfl, trivial⟩ ⟨rfl, rfl, trivial⟩ rfl
 ·rintro _ ⟨_, _, _, _, _, _, _, _, _, H, _⟩
  cases H
 ·clear H hK0
  rintro k ih0 _ ⟨hK0, x0_0, x0_1, x0_2, x0_3, x1, x5, x6, x7, H, rfl⟩
  unfold spec_l14Depths.l0 at H
  refine AG.seq ?_
  refine AG.seq ?_
  refine AG.region HM ?_
  refine a_move (v := vI _) ?_
  refine a_move (v := vR _ _) ?_
  refine a_lenR ?_ Tryz.underlying46
  refine a_int (u := .bool (decide (x7 < (x1.length : Int)))) ?_
  refine RA.nil nofun ?_
  by_cases hc4 : x7 < (x1.length : Int)
  ·rw [if_pos hc4] at H
   refine AG.yes rfl (decide_eq_true hc4) ?_
   refine AG.skip ?_
   refine AG.seq ?_
   refine AG.block ?_
   refine AG.seq ?_
   refine AG.region HM ?_
   refine a_move (v := vO [_, _, _, _]) ?_
   refine a_move (v := vR _ _) ?_
   refine a_move (v := vI _) ?_
   by_cases hc5 : 0 ≤ x7
   ·rw [if_pos hc5] at H
    refine a_ixR (el := c27 (rd27 x1 x7)) ?_ ⟨hc5, hc4⟩ T27 Tryz.underlying46 (hel := R27 hc5 hc4)
    refine a_ldR (v := vR _ _) ?_ T27
    by_cases hc6 : 0 < ((rd27 x1 x7).length : Int)
    ·rw [if_pos hc6] at H
     refine a_ixR (el := c2 (rd2 (rd27 x1 x7) 0)) ?_ ⟨(by decide), hc6⟩ T2 Tryz.underlying27 (hel := R2 (by decide) hc6)
     refine a_ldR (v := vI _) ?_ T2
     refine a_move (v := vR _ _) ?_
     refine a_move (v := vI _) ?_
     refine a_ixR (el := c27 (rd27 x1 x7)) ?_ ⟨hc5, hc4⟩ T27 Tryz.underlying46 (hel := R27 hc5 hc4)
     refine a_ldR (v := vR _ _) ?_ T27
     by_cases hc7 : 1 < ((rd27 x1 x7).length : Int)
     ·rw [if_pos hc7] at H
      refine a_ixR (el := c2 (rd2 (rd27 x1 x7) 1)) ?_ ⟨(by decide), hc7⟩ T2 Tryz.underlying27 (hel := R2 (by decide) hc7)
      refine a_ldR (v := vI _) ?_ T2
      obtain ⟨t8, e9, H⟩ := bindO H
      refine a_call (v := .c (.own 205 t8.length)) (nk := [(205, .row 2 (t8.map c2))]) (L := []) ?_ rfl (spec_l05OnEdge.ok e9) (fun κ => cond (Nat.beq κ 205) 100 (κ)) (qd (qd (qd qn))) trivial ⟨rfl, trivial⟩ ⟨rfl, trivial⟩ rfl
      refine a_move (v := .c (.own _ _)) ?_
      refine RA.nil (fun _ => by kernel_rfl) ?_
      refine AG.seq ?_
      refine AG.region HM ?_
      refine a_move (v := vI _) ?_
      refine RA.nil nofun ?_
      refine AG.seq ?_
      refine AG.seq ?_
      refine AG.region HM ?_
      refine a_move (v := .c (.own _ _)) ?_
      refine a_lenO ?_ Tryz.underlying27
      refine a_int (u := .bool (decide ((t8.length : Int) > 1))) ?_
      refine RA.nil nofun ?_
      by_cases hc10 : (t8.length : Int) > 1
      ·rw [if_pos hc10] at H
       refine AG.yes rfl (decide_eq_true hc10) ?_
       refine AG.seq ?_
       refine AG.region HM ?_
       refine a_move (v := .c (.own _ _)) ?_
       refine a_move (v := .c (.own _ _)) ?_
       by_cases hc11 : 0 < (t8.length : Int)
       ·rw [if_pos hc11] at H
        refine a_ixO ?_ ⟨(by decide), hc11⟩ T2 Tryz.underlying27
        refine a_ldE (v := vI _) ?_ (G2 (by decide) hc11) T2
        by_cases hc12 : 0 ≤ (rd2 t8 0)
        ·rw [if_pos hc12] at H
         by_cases hc13 : (rd2 t8 0) < (x5.length : Int)
         ·rw [if_pos hc13] at H
          refine a_ixO ?_ ⟨hc12, hc13⟩ T2 Tryz.underlying27
          refine a_ldE (v := vI _) ?_ (G2 hc12 hc13) T2
          refine a_int (u := .int .i64 (wrap64 ((rd2 x5 (rd2 t8 0)) + 1))) ?_
          refine a_move (v := vI _) ?_
          refine RA.nil nofun ?_
          refine AG.seq ?_
          refine AG.region HM ?_
          refine a_move (v := vI _) ?_
          refine RA.nil nofun ?_
          refine AG.block ?_
          refine AG.loop ?_
          obtain ⟨K1, hK1, gK1⟩ : ∃ K, k ≤ K ∧ K ≤ k := ⟨k, Nat.le_refl k, Nat.le_refl k⟩
          refine AGr.canon (fun κ => cond (Nat.beq κ 206) 203 (cond (Nat.beq κ 207) 204 (cond (Nat.beq κ 208) 205 (κ)))) (AGr.loopI (n := k) (fun k s => k ≤ K1 ∧ ∃ (x0_0 : Int) (x0_1 : Int) (x0_2 : List S50) (x0_3 : List S72) (x1 : List (List Int)) (x5 : List Int) (x6 : List Int) (x7 : Int) (x8 : List Int) (x9 : Int) (x10 : Int), spec_l14Depths.l1 k x0_0 x0_1 x0_2 x0_3 x1 x5 x6 x7 x8 x9 x10 = some r ∧ s = St.of [(0, .c (.d (.ro [.v (.int .i64 x0_0), .v (.int .i64 x0_1), .row 51 (x0_2.map c50), .row 76 (x0_3.map c72)]))), (1, vR 27 (x1.map c27)), (5, .c (.own 206 x5.length)), (6, .c (.own 207 x6.length)), (7, vI x7), (8, .c (.own 208 x8.length)), (9, vI x9), (10, vI x10)] [(206, .row 2 (x5.map c2)), (207, .row 2 (x6.map c2)), (208, .row 2 (x8.map c2))]) ⟨hK1, _, _, _, _, _, _, _, _, _, _, _, H, rfl⟩ ?_ ?_) ⟨rfl, rfl, rfl, rfl, rfl, rfl, rfl, rfl, trivial⟩ ⟨rfl, rfl, rfl, trivial⟩ rfl
          ·rintro _ ⟨_, _, _, _, _, _, _, _, _, _, _, _, H, _⟩
           cases H
          ·clear H hK1
           rintro k ih1 _ ⟨hK1, x0_0, x0_1, x0_2, x0_3, x1, x5, x6, x7, x8, x9, x10, H, rfl⟩
           unfold spec_l14Depths.l1 at H
           refine AG.seq ?_
           refine AG.seq ?_
           refine AG.region HM ?_
           refine a_move (v := vI _) ?_
           refine a_move (v := .c (.own _ _)) ?_
           refine a_lenO ?_ Tryz.underlying27
           refine a_int (u := .bool (decide (x10 < (x8.length : Int)))) ?_
           refine RA.nil nofun ?_
           by_cases hc14 : x10 < (x8.length : Int)
           ·rw [if_pos hc14] at H
            refine AG.yes rfl (decide_eq_true hc14) ?_
            refine AG.skip ?_
            refine AG.seq ?_
            refine AG.block ?_
            refine AG.region HM ?_
            refine a_move (v := vI _) ?_
            refine a_move (v := .c (.own _ _)) ?_
            refine a_move (v := .c (.own _ _)) ?_
            refine a_move (v := vI _) ?_
            by_cases hc15 : 0 ≤ x10
            ·rw [if_pos hc15] at H
             refine a_ixO ?_ ⟨hc15, hc14⟩ T2 Tryz.underlying27
             refine a_ldE (v := vI _) ?_ (G2 hc15 hc14) T2
             by_cases hc16 : 0 ≤ (rd2 x8 x10)
             ·rw [if_pos hc16] at H
              by_cases hc17 : (rd2 x8 x10) < (x5.length : Int)
              ·rw [if_pos hc17] at H
               refine a_ixO ?_ ⟨hc16, hc17⟩ T2 Tryz.underlying27
               refine a_ldE (v := vI _) ?_ (G2 hc16 hc17) T2
               refine a_int (u := .int .i64 (wrap64 ((rd2 x5 (rd2 x8 x10)) + 1))) ?_
               obtain ⟨t18, e19, H⟩ := bindO H
               refine a_call (v := vI t18) (nk := []) (L := []) ?_ rfl (spec_l00Min.ok e19) id (qd (qd qn)) trivial trivial trivial rfl
               refine a_move (v := vI _) ?_
               refine RA.nil nofun ?_
               refine AG.region HM ?_
               refine a_move (v := vI _) ?_
               refine a_int (u := .int .i64 (wrap64 (x10 + 1))) ?_
               refine a_move (v := vI _) ?_
               refine RA.nil nofun ?_
               exact AGr.canon id (ih1 _ (by omega) _ ⟨by omega, _, _, _, _, _, _, _, _, _, _, _, H, rfl⟩) ⟨rfl, rfl, rfl, rfl, rfl, rfl, rfl, rfl, trivial⟩ ⟨rfl, rfl, rfl, trivial⟩ rfl
              ·rw [if_neg hc17] at H
               cases H
             ·rw [if_neg hc16] at H
              cases H
            ·rw [if_neg hc15] at H
             cases H
           ·rw [if_neg hc14] at H
            refine AG.no rfl (decide_eq_false hc14) ?_
            refine AG.exit ?_
            refine AG.region HM ?_
            refine a_move (v := .c (.own _ _)) ?_
            refine a_move (v := vI _) ?_
            refine a_lit (cs := [_]) (D := []) (css := ([x9]).map c2) 210 ?_ N27 T2
            by_cases hc20 : x6.length < 17592186044416
            ·rw [if_pos hc20] at H
             refine a_appO (css' := (x6 ++ [x9]).map c2) (n' := (x6 ++ [x9]).length) ?_ T2 (by simp [maxLen]; omega) (by simp; omega) Tryz.underlying27 (hc := by exact List.map_append.symm) (hn := by exact List.length_map _)
             refine a_move (v := .c (.own _ _)) ?_
             refine RA.nil nofun ?_
             refine AG.region HM ?_
             refine a_move (v := vI _) ?_
             refine a_int (u := .int .i64 (wrap64 (x7 + 1))) ?_
             refine a_move (v := vI _) ?_
             refine RA.nil nofun ?_
             exact AGr.canon (fun κ => cond (Nat.beq κ 203) 206 (cond (Nat.beq κ 204) 207 (κ))) (ih0 _ (by omega) _ ⟨by omega, _, _, _, _, _, _, _, _, H, rfl⟩) ⟨rfl, rfl, rfl, rfl, rfl, trivial⟩ ⟨rfl, rfl, trivial⟩ rfl
            ·rw [if_neg hc20] at H
             cases H
         ·rw [if_neg hc13] at H
          cases H
        ·rw [if_neg hc12] at H
         cases H
       ·rw [if_neg hc11] at H
        cases H
      ·rw [if_neg hc10] at H
       refine AG.no rfl (decide_eq_false hc10) ?_
       refine AG.skip ?_
       refine AG.region HM ?_
       refine a_move (v := .c (.own _ _)) ?_
       refine a_move (v := vI _) ?_
       refine a_lit (cs := [_]) (D := []) (css := ([0]).map c2) 210 ?_ N27 T2
       by_cases hc22 : x6.length < 17592186044416
       ·rw [if_pos hc22] at H
        refine a_appO (css' := (x6 ++ [0]).map c2) (n' := (x6 ++ [0]).length) ?_ T2 (by simp [maxLen]; omega) (by simp; omega) Tryz.underlying27 (hc := by exact List.map_append.symm) (hn := by exact List.length_map _)
        refine a_move (v := .c (.own _ _)) ?_
        refine RA.nil nofun ?_
        refine AG.region HM ?_
        refine a_move (v := vI _) ?_
        refine a_int (u := .int .i64 (wrap64 (x7 + 1))) ?_
        refine a_move (v := vI _) ?_
        refine RA.nil nofun ?_
        exact AGr.canon id (ih0 _ (by omega) _ ⟨by omega, _, _, _, _, _, _, _, _, H, rfl⟩) ⟨rfl, rfl, rfl, rfl, rfl, trivial⟩ ⟨rfl, rfl, trivial⟩ rfl
       ·rw [if_neg hc22] at H
        cases H
     ·rw [if_neg hc7] at H
      cases H
    ·rw [if_neg hc6] at H
     cases H
   ·rw [if_neg hc5] at H
    cases H
  ·rw [if_neg hc4] at H
   refine AG.no rfl (decide_eq_false hc4) ?_
   refine AG.exit ?_
   refine AG.seq ?_
   refine AG.region HM ?_
   refine a_move (v := .c (.own _ _)) ?_
   refine a_move (v := .c (.own _ _)) ?_
   refine RA.nil nofun ?_
   refine AG.ret ?_
   obtain rfl := Option.some.inj H
   exact RetP.mk (fun κ => cond (Nat.beq κ 100) 204 (κ)) ⟨rfl, trivial⟩ ⟨rfl, trivial⟩ rfl
/-! ### spec_l00Has: function 21 -/
def spec_l00Has.l0 : Nat → List Int → Int → Int → Option (Bool)
 | 0, _, _, _ => none
 | k + 1, x0, x1, x5 => if x5 < (x0.length : Int) then (if 0 ≤ x5 then (if (rd2 x0 x5) = x1 then (some true) else (spec_l00Has.l0 k x0 x1 (wrap64 (x5 + 1)))) else (none)) else (some false)
def spec_l00Has.f (k : Nat) (l0 : List Int) (a1 : Int) : Option (Bool) := spec_l00Has.l0 k l0 a1 0
set_option maxRecDepth 100000 in
theorem spec_l00Has.ok {k : Nat} {l0 : List Int} {a1 : Int} {r : Bool} (H : spec_l00Has.f k l0 a1 = some r) : OkF Tryz.prog 21 [vR 2 (l0.map c2), vI a1] [] (.c (.d (.v (.bool r)))) [] := by
 unfold spec_l00Has.f at H
 refine OkF.of (N := 18) (rs := [4]) (avs := [.c (.d (.v (.bool r)))]) Tryz.func21 rfl rfl (fun _ _ => results_tmp rfl _ _ _) (by decide) rfl rfl rfl rfl (fun w0 S => ?_)
 refine AG.seq ?_
 refine AG.region HM ?_
 refine a_move (v := vB _) ?_
 refine RA.nil nofun ?_
 refine AG.seq ?_
 refine AG.seq ?_
 refine AG.region HM ?_
 refine a_move (v := vI _) ?_
 refine RA.nil nofun ?_
 refine AG.block ?_
 refine AG.loop ?_
 obtain ⟨K0, hK0, gK0⟩ : ∃ K, k ≤ K ∧ K ≤ k := ⟨k, Nat.le_refl k, Nat.le_refl k⟩
 refine AGr.canon id (AGr.loopI (n := k) (fun k s => k ≤ K0 ∧ ∃ (x0 : List Int) (x1 : Int) (x5 : Int), spec_l00Has.l0 k x0 x1 x5 = some r ∧ s = St.of [(0, vR 2 (x0.map c2)), (1, vI x1), (5, vI x5)] []) ⟨hK0, _, _, _, H, rfl⟩ ?_ ?_) ⟨rfl, rfl, rfl, trivial⟩ trivial rfl
 ·rintro _ ⟨_, _, _, _, H, _⟩
  cases H
 ·clear H hK0
  rintro k ih0 _ ⟨hK0, x0, x1, x5, H, rfl⟩
  unfold spec_l00Has.l0 at H
  refine AG.seq ?_
  refine AG.seq ?_
  refine AG.region HM ?_
  refine a_move (v := vI _) ?_
  refine a_move (v := vR _ _) ?_
  refine a_lenR ?_ Tryz.underlying27
  refine a_int (u := .bool (decide (x5 < (x0.length : Int)))) ?_
  refine RA.nil nofun ?_
  by_cases hc1 : x5 < (x0.length : Int)
  ·rw [if_pos hc1] at H
   refine AG.yes rfl (decide_eq_true hc1) ?_
   refine AG.skip ?_
   refine AG.seq ?_
   refine AG.block ?_
   refine AG.seq ?_
   refine AG.region HM ?_
   refine a_move (v := vR _ _) ?_
   refine a_move (v := vI _) ?_
   by_cases hc2 : 0 ≤ x5
   ·rw [if_pos hc2] at H
    refine a_ixR (el := c2 (rd2 x0 x5)) ?_ ⟨hc2, hc1⟩ T2 Tryz.underlying27 (hel := R2 hc2 hc1)
    refine a_ldR (v := vI _) ?_ T2
    refine a_move (v := vI _) ?_
    refine a_int (u := .bool (((rd2 x0 x5) == x1))) ?_
    refine RA.nil nofun ?_
    by_cases hc3 : (rd2 x0 x5) = x1
    ·rw [if_pos hc3] at H
     refine AG.yes rfl (beq_iff_eq.2 hc3) ?_
     refine AG.seq ?_
     refine AG.region HM ?_
     refine a_move (v := vB _) ?_
     refine RA.nil nofun ?_
     refine AG.ret ?_
     obtain rfl := Option.some.inj H
     exact RetP.mk id ⟨rfl, trivial⟩ trivial rfl
    ·rw [if_neg hc3] at H
     refine AG.no rfl (beq_eq_false_iff_ne.2 hc3) ?_
     refine AG.skip ?_
     refine AG.region HM ?_
     refine a_move (v := vI _) ?_
     refine a_int (u := .int .i64 (wrap64 (x5 + 1))) ?_
     refine a_move (v := vI _) ?_
     refine RA.nil nofun ?_
     exact AGr.canon id (ih0 _ (by omega) _ ⟨by omega, _, _, _, H, rfl⟩) ⟨rfl, rfl, rfl, trivial⟩ trivial rfl
   ·rw [if_neg hc2] at H
    cases H
  ·rw [if_neg hc1] at H
   refine AG.no rfl (decide_eq_false hc1) ?_
   refine AG.exit ?_
   refine AG.seq ?_
   refine AG.region HM ?_
   refine a_move (v := vB _) ?_
   refine RA.nil nofun ?_
   refine AG.ret ?_
   obtain rfl := Option.some.inj H
   exact RetP.mk id ⟨rfl, trivial⟩ trivial rfl
/-! ### spec_l14Ends: function 22 -/
def spec_l14Ends.f (a0_0 : Int) (a0_1 : Int) (l0_2 : List S50) (l0_3 : List S72) (l1 : List Int) (a2 : Int) : Option (Int × Int × Int × Int) := if a2 = 1 then (if 1 < (l1.length : Int) then (if 0 ≤ (rd2 l1 1) then (if (rd2 l1 1) < (l0_2.length : Int) then (if 0 < (l1.length : Int) then (if 0 ≤ (rd2 l1 0) then (if (rd2 l1 0) < (l0_2.length : Int) then (some ((rd50 l0_2 (rd2 l1 1)).f0, (rd50 l0_2 (rd2 l1 1)).f1, (rd50 l0_2 (rd2 l1 0)).f0, (rd50 l0_2 (rd2 l1 0)).f1)) else (none)) else (none)) else (none)) else (none)) else (none)) else (none)) else (if 0 < (l1.length : Int) then (if 0 ≤ (rd2 l1 0) then (if (rd2 l1 0) < (l0_2.length : Int) then (if 1 < (l1.length : Int) then (if 0 ≤ (rd2 l1 1) then (if (rd2 l1 1) < (l0_2.length : Int) then (some ((rd50 l0_2 (rd2 l1 0)).f0, (rd50 l0_2 (rd2 l1 0)).f1, (rd50 l0_2 (rd2 l1 1)).f0, (rd50 l0_2 (rd2 l1 1)).f1)) else (none)) else (none)) else (none)) else (none)) else (none)) else (none))
set_option maxRecDepth 100000 in
theorem spec_l14Ends.ok {a0_0 : Int} {a0_1 : Int} {l0_2 : List S50} {l0_3 : List S72} {l1 : List Int} {a2 : Int} {r0 : Int} {r1 : Int} {r2 : Int} {r3 : Int} (H : spec_l14Ends.f a0_0 a0_1 l0_2 l0_3 l1 a2 = some (r0, r1, r2, r3)) : OkF Tryz.prog 22 [.c (.d (.ro [.v (.int .i64 a0_0), .v (.int .i64 a0_1), .row 51 (l0_2.map c50), .row 76 (l0_3.map c72)])), vR 2 (l1.map c2), vI a2] [] (.tup [.agg [.d (.v (.int .i64 r0)), .d (.v (.int .i64 r1))], .agg [.d (.v (.int .i64 r2)), .d (.v (.int .i64 r3))]]) [] := by
 unfold spec_l14Ends.f at H
 refine OkF.ofC (N := 46) (rs := [6, 7]) (avs := [.agg [.d (.v (.int .i64 r0)), .d (.v (.int .i64 r1))], .agg [.d (.v (.int .i64 r2)), .d (.v (.int .i64 r3))]]) [(6, 51), (7, 51)] Tryz.func22 rfl rfl (rc_cc rfl) (by decide) rfl (by decide) rfl rfl rfl rfl (fun w0 S => ?_)
 refine AG.seq ?_
 refine AG.region HM ?_
 refine a_alloc (cs := [_, _]) 200 ?_ T51
 refine a_alloc (cs := [_, _]) 201 ?_ T51
 refine RA.nil nofun ?_
 refine AG.seq ?_
 refine AG.seq ?_
 refine AG.region HM ?_
 refine a_move (v := vI _) ?_
 refine a_int (u := .bool ((a2 == 1))) ?_
 refine RA.nil nofun ?_
 by_cases hc1 : a2 = 1
 ·rw [if_pos hc1] at H
  refine AG.yes rfl (beq_iff_eq.2 hc1) ?_
  refine AG.seq ?_
  refine AG.region HM ?_
  refine a_move (v := vO [_, _, _, _]) ?_
  refine a_nil (v := vO [_, _, _, _]) ?_
  refine a_faR (cells' := [_, _]) ?_ D33_2
  refine a_ldR (v := vR _ _) ?_ T30
  refine a_move (v := vR _ _) ?_
  by_cases hc2 : 1 < (l1.length : Int)
  ·rw [if_pos hc2] at H
   refine a_ixR (el := c2 (rd2 l1 1)) ?_ ⟨(by decide), hc2⟩ T2 Tryz.underlying27 (hel := R2 (by decide) hc2)
   refine a_ldR (v := vI _) ?_ T2
   by_cases hc3 : 0 ≤ (rd2 l1 1)
   ·rw [if_pos hc3] at H
    by_cases hc4 : (rd2 l1 1) < (l0_2.length : Int)
    ·rw [if_pos hc4] at H
     refine a_ixR (el := c50 (rd50 l0_2 (rd2 l1 1))) ?_ ⟨hc3, hc4⟩ T51 Tryz.underlying30 (hel := R50 hc3 hc4)
     refine a_ldR (v := .agg [_, _]) ?_ T51
     refine a_move (v := vO [_, _, _, _]) ?_
     refine a_nil (v := vO [_, _, _, _]) ?_
     refine a_faR (cells' := [_, _]) ?_ D33_2
     refine a_ldR (v := vR _ _) ?_ T30
     refine a_move (v := vR _ _) ?_
     by_cases hc5 : 0 < (l1.length : Int)
     ·rw [if_pos hc5] at H
      refine a_ixR (el := c2 (rd2 l1 0)) ?_ ⟨(by decide), hc5⟩ T2 Tryz.underlying27 (hel := R2 (by decide) hc5)
      refine a_ldR (v := vI _) ?_ T2
      by_cases hc6 : 0 ≤ (rd2 l1 0)
      ·rw [if_pos hc6] at H
       by_cases hc7 : (rd2 l1 0) < (l0_2.length : Int)
       ·rw [if_pos hc7] at H
        refine a_ixR (el := c50 (rd50 l0_2 (rd2 l1 0))) ?_ ⟨hc6, hc7⟩ T51 Tryz.underlying30 (hel := R50 hc6 hc7)
        refine a_ldR (v := .agg [_, _]) ?_ T51
        refine a_stB (cs' := [_, _]) ?_ T51
        refine a_stB (cs' := [_, _]) ?_ T51
        refine RA.nil (fun _ => by kernel_rfl) ?_
        refine AG.ret ?_
        simp only [Option.some.injEq, Prod.mk.injEq] at H
        obtain ⟨rfl, rfl, rfl, rfl⟩ := H
        exact RetL.cell T51 rfl rfl rfl (RetL.cell T51 rfl rfl rfl (RetL.nil (RetP.mk id ⟨rfl, rfl, trivial⟩ trivial rfl)))
       ·rw [if_neg hc7] at H
        cases H
      ·rw [if_neg hc6] at H
       cases H
     ·rw [if_neg hc5] at H
      cases H
    ·rw [if_neg hc4] at H
     cases H
   ·rw [if_neg hc3] at H
    cases H
  ·rw [if_neg hc2] at H
   cases H
 ·rw [if_neg hc1] at H
  refine AG.no rfl (beq_eq_false_iff_ne.2 hc1) ?_
  refine AG.skip ?_
  refine AG.seq ?_
  refine AG.region HM ?_
  refine a_move (v := vO [_, _, _, _]) ?_
  refine a_nil (v := vO [_, _, _, _]) ?_
  refine a_faR (cells' := [_, _]) ?_ D33_2
  refine a_ldR (v := vR _ _) ?_ T30
  refine a_move (v := vR _ _) ?_
  by_cases hc8 : 0 < (l1.length : Int)
  ·rw [if_pos hc8] at H
   refine a_ixR (el := c2 (rd2 l1 0)) ?_ ⟨(by decide), hc8⟩ T2 Tryz.underlying27 (hel := R2 (by decide) hc8)
   refine a_ldR (v := vI _) ?_ T2
   by_cases hc9 : 0 ≤ (rd2 l1 0)
   ·rw [if_pos hc9] at H
    by_cases hc10 : (rd2 l1 0) < (l0_2.length : Int)
    ·rw [if_pos hc10] at H
     refine a_ixR (el := c50 (rd50 l0_2 (rd2 l1 0))) ?_ ⟨hc9, hc10⟩ T51 Tryz.underlying30 (hel := R50 hc9 hc10)
     refine a_ldR (v := .agg [_, _]) ?_ T51
     refine a_move (v := vO [_, _, _, _]) ?_
     refine a_nil (v := vO [_, _, _, _]) ?_
     refine a_faR (cells' := [_, _]) ?_ D33_2
     refine a_ldR (v := vR _ _) ?_ T30
     refine a_move (v := vR _ _) ?_
     by_cases hc11 : 1 < (l1.length : Int)
     ·rw [if_pos hc11] at H
      refine a_ixR (el := c2 (rd2 l1 1)) ?_ ⟨(by decide), hc11⟩ T2 Tryz.underlying27 (hel := R2 (by decide) hc11)
      refine a_ldR (v := vI _) ?_ T2
      by_cases hc12 : 0 ≤ (rd2 l1 1)
      ·rw [if_pos hc12] at H
       by_cases hc13 : (rd2 l1 1) < (l0_2.length : Int)
       ·rw [if_pos hc13] at H
        refine a_ixR (el := c50 (rd50 l0_2 (rd2 l1 1))) ?_ ⟨hc12, hc13⟩ T51 Tryz.underlying30 (hel := R50 hc12 hc13)
        refine a_ldR (v := .agg [_, _]) ?_ T51
        refine a_stB (cs' := [_, _]) ?_ T51
        refine a_stB (cs' := [_, _]) ?_ T51
        refine RA.nil (fun _ => by kernel_rfl) ?_
        refine AG.ret ?_
        simp only [Option.some.injEq, Prod.mk.injEq] at H
        obtain ⟨rfl, rfl, rfl, rfl⟩ := H
        exact RetL.cell T51 rfl rfl rfl (RetL.cell T51 rfl rfl rfl (RetL.nil (RetP.mk id ⟨rfl, rfl, trivial⟩ trivial rfl)))
       ·rw [if_neg hc13] at H
        cases H
      ·rw [if_neg hc12] at H
       cases H
     ·rw [if_neg hc11] at H
      cases H
    ·rw [if_neg hc10] at H
     cases H
   ·rw [if_neg hc9] at H
    cases H
  ·rw [if_neg hc8] at H
   cases H
/-! ### spec_l01Root: function 49 -/
def spec_l01Root.l0 : Nat → Int → Int → Int → Option (Int)
 | 0, _, _, _ => none
 | k + 1, x0, x3, x4 => if x3 < x4 then (if (wrap64 ((wrap64 (Int.tdiv (wrap64 ((wrap64 (x3 + x4)) + 1)) 2)) * (wrap64 (Int.tdiv (wrap64 ((wrap64 (x3 + x4)) + 1)) 2)))) ≤ x0 then (spec_l01Root.l0 k x0 (wrap64 (Int.tdiv (wrap64 ((wrap64 (x3 + x4)) + 1)) 2)) x4) else (spec_l01Root.l0 k x0 x3 (wrap64 ((wrap64 (Int.tdiv (wrap64 ((wrap64 (x3 + x4)) + 1)) 2)) - 1)))) else (some x3)
def spec_l01Root.f (k : Nat) (a0 : Int) : Option (Int) := spec_l01Root.l0 k a0 0 3037000499
set_option maxRecDepth 100000 in
theorem spec_l01Root.ok {k : Nat} {a0 : Int} {r : Int} (H : spec_l01Root.f k a0 = some r) : OkF Tryz.prog 49 [vI a0] [] (.c (.d (.v (.int .i64 r)))) [] := by
 unfold spec_l01Root.f at H
 refine OkF.of (N := 23) (rs := [2]) (avs := [.c (.d (.v (.int .i64 r)))]) Tryz.func49 rfl rfl (fun _ _ => results_tmp rfl _ _ _) (by decide) rfl rfl rfl rfl (fun w0 S => ?_)
 refine AG.seq ?_
 refine AG.region HM ?_
 refine a_move (v := vI _) ?_
 refine RA.nil nofun ?_
 refine AG.seq ?_
 refine AG.region HM ?_
 refine a_move (v := vI _) ?_
 refine RA.nil nofun ?_
 refine AG.seq ?_
 refine AG.region HM ?_
 refine a_move (v := vI _) ?_
 refine RA.nil nofun ?_
 refine AG.seq ?_
 refine AG.block ?_
 refine AG.loop ?_
 obtain ⟨K0, hK0, gK0⟩ : ∃ K, k ≤ K ∧ K ≤ k := ⟨k, Nat.le_refl k, Nat.le_refl k⟩
 refine AGr.canon id (AGr.loopI (n := k) (fun k s => k ≤ K0 ∧ ∃ (x0 : Int) (x3 : Int) (x4 : Int), spec_l01Root.l0 k x0 x3 x4 = some r ∧ s = St.of [(0, vI x0), (3, vI x3), (4, vI x4)] []) ⟨hK0, _, _, _, H, rfl⟩ ?_ ?_) ⟨rfl, rfl, rfl, trivial⟩ trivial rfl
 ·rintro _ ⟨_, _, _, _, H, _⟩
  cases H
 ·clear H hK0
  rintro k ih0 _ ⟨hK0, x0, x3, x4, H, rfl⟩
  unfold spec_l01Root.l0 at H
  refine AG.seq ?_
  refine AG.seq ?_
  refine AG.region HM ?_
  refine a_move (v := vI _) ?_
  refine a_move (v := vI _) ?_
  refine a_int (u := .bool (decide (x3 < x4))) ?_
  refine RA.nil nofun ?_
  by_cases hc1 : x3 < x4
  ·rw [if_pos hc1] at H
   refine AG.yes rfl (decide_eq_true hc1) ?_
   refine AG.skip ?_
   refine AG.block ?_
   refine AG.seq ?_
   refine AG.region HM ?_
   refine a_move (v := vI _) ?_
   refine a_move (v := vI _) ?_
   refine a_int (u := .int .i64 (wrap64 (x3 + x4))) ?_
   refine a_int (u := .int .i64 (wrap64 ((wrap64 (x3 + x4)) + 1))) ?_
   refine a_quo (r := wrap64 (Int.tdiv (wrap64 ((wrap64 (x3 + x4)) + 1)) 2)) ?_ (show ¬ (2 : Int) = 0 from by decide)
   refine a_move (v := vI _) ?_
   refine RA.nil nofun ?_
   refine AG.seq ?_
   refine AG.region HM ?_
   refine a_move (v := vI _) ?_
   refine a_move (v := vI _) ?_
   refine a_int (u := .int .i64 (wrap64 ((wrap64 (Int.tdiv (wrap64 ((wrap64 (x3 + x4)) + 1)) 2)) * (wrap64 (Int.tdiv (wrap64 ((wrap64 (x3 + x4)) + 1)) 2))))) ?_
   refine a_move (v := vI _) ?_
   refine a_int (u := .bool (decide ((wrap64 ((wrap64 (Int.tdiv (wrap64 ((wrap64 (x3 + x4)) + 1)) 2)) * (wrap64 (Int.tdiv (wrap64 ((wrap64 (x3 + x4)) + 1)) 2)))) ≤ x0))) ?_
   refine RA.nil nofun ?_
   by_cases hc2 : (wrap64 ((wrap64 (Int.tdiv (wrap64 ((wrap64 (x3 + x4)) + 1)) 2)) * (wrap64 (Int.tdiv (wrap64 ((wrap64 (x3 + x4)) + 1)) 2)))) ≤ x0
   ·rw [if_pos hc2] at H
    refine AG.yes rfl (decide_eq_true hc2) ?_
    refine AG.region HM ?_
    refine a_move (v := vI _) ?_
    refine a_move (v := vI _) ?_
    refine RA.nil nofun ?_
    exact AGr.canon id (ih0 _ (by omega) _ ⟨by omega, _, _, _, H, rfl⟩) ⟨rfl, rfl, rfl, trivial⟩ trivial rfl
   ·rw [if_neg hc2] at H
    refine AG.no rfl (decide_eq_false hc2) ?_
    refine AG.region HM ?_
    refine a_move (v := vI _) ?_
    refine a_int (u := .int .i64 (wrap64 ((wrap64 (Int.tdiv (wrap64 ((wrap64 (x3 + x4)) + 1)) 2)) - 1))) ?_
    refine a_move (v := vI _) ?_
    refine RA.nil nofun ?_
    exact AGr.canon id (ih0 _ (by omega) _ ⟨by omega, _, _, _, H, rfl⟩) ⟨rfl, rfl, rfl, trivial⟩ trivial rfl
  ·rw [if_neg hc1] at H
   refine AG.no rfl (decide_eq_false hc1) ?_
   refine AG.exit ?_
   refine AG.seq ?_
   refine AG.region HM ?_
   refine a_move (v := vI _) ?_
   refine a_move (v := vI _) ?_
   refine RA.nil nofun ?_
   refine AG.ret ?_
   obtain rfl := Option.some.inj H
   exact RetP.mk id ⟨rfl, trivial⟩ trivial rfl
/-! ### spec_l02Square: function 50 -/
def spec_l02Square.f (a0_0 : Int) (a0_1 : Int) (a1_0 : Int) (a1_1 : Int) : Option (Int) := some (wrap64 ((wrap64 ((wrap64 (a0_0 - a1_0)) * (wrap64 (a0_0 - a1_0)))) + (wrap64 ((wrap64 (a0_1 - a1_1)) * (wrap64 (a0_1 - a1_1))))))
set_option maxRecDepth 100000 in
theorem spec_l02Square.ok {a0_0 : Int} {a0_1 : Int} {a1_0 : Int} {a1_1 : Int} {r : Int} (H : spec_l02Square.f a0_0 a0_1 a1_0 a1_1 = some r) : OkF Tryz.prog 50 [.agg [.d (.v (.int .i64 a0_0)), .d (.v (.int .i64 a0_1))], .agg [.d (.v (.int .i64 a1_0)), .d (.v (.int .i64 a1_1))]] [] (.c (.d (.v (.int .i64 r)))) [] := by
 unfold spec_l02Square.f at H
 refine OkF.of (N := 28) (rs := [4]) (avs := [.c (.d (.v (.int .i64 r)))]) Tryz.func50 rfl rfl (fun _ _ => results_tmp rfl _ _ _) (by decide) rfl rfl rfl rfl (fun w0 S => ?_)
 refine AG.seq ?_
 refine AG.region HM ?_
 refine a_box 200 ?_
 refine a_box 201 ?_
 refine a_move (v := vI _) ?_
 refine RA.nil nofun ?_
 refine AG.seq ?_
 refine AG.region HM ?_
 refine a_faB (q := 0) ?_ D51_0
 refine a_ldB (v := vI _) ?_ T2
 refine a_faB (q := 0) ?_ D51_0
 refine a_ldB (v := vI _) ?_ T2
 refine a_int (u := .int .i64 (wrap64 (a0_0 - a1_0))) ?_
 refine a_faB (q := 0) ?_ D51_0
 refine a_ldB (v := vI _) ?_ T2
 refine a_faB (q := 0) ?_ D51_0
 refine a_ldB (v := vI _) ?_ T2
 refine a_int (u := .int .i64 (wrap64 (a0_0 - a1_0))) ?_
 refine a_int (u := .int .i64 (wrap64 ((wrap64 (a0_0 - a1_0)) * (wrap64 (a0_0 - a1_0))))) ?_
 refine a_faB (q := 1) ?_ D51_1
 refine a_ldB (v := vI _) ?_ T2
 refine a_faB (q := 1) ?_ D51_1
 refine a_ldB (v := vI _) ?_ T2
 refine a_int (u := .int .i64 (wrap64 (a0_1 - a1_1))) ?_
 refine a_faB (q := 1) ?_ D51_1
 refine a_ldB (v := vI _) ?_ T2
 refine a_faB (q := 1) ?_ D51_1
 refine a_ldB (v := vI _) ?_ T2
 refine a_int (u := .int .i64 (wrap64 (a0_1 - a1_1))) ?_
 refine a_int (u := .int .i64 (wrap64 ((wrap64 (a0_1 - a1_1)) * (wrap64 (a0_1 - a1_1))))) ?_
 refine a_int (u := .int .i64 (wrap64 ((wrap64 ((wrap64 (a0_0 - a1_0)) * (wrap64 (a0_0 - a1_0)))) + (wrap64 ((wrap64 (a0_1 - a1_1)) * (wrap64 (a0_1 - a1_1))))))) ?_
 refine a_move (v := vI _) ?_
 refine RA.nil nofun ?_
 refine AG.ret ?_
 obtain rfl := Option.some.inj H
 exact RetP.mk id ⟨rfl, trivial⟩ trivial rfl
/-! ### spec_l02Apart: function 23 -/
def spec_l02Apart.f (k : Nat) (a0_0 : Int) (a0_1 : Int) (a1_0 : Int) (a1_1 : Int) : Option (Int) := (spec_l02Square.f a0_0 a0_1 a1_0 a1_1).bind fun t1 => ((spec_l01Root.f k t1).bind fun t3 => (some t3))
set_option maxRecDepth 100000 in
theorem spec_l02Apart.ok {k : Nat} {a0_0 : Int} {a0_1 : Int} {a1_0 : Int} {a1_1 : Int} {r : Int} (H : spec_l02Apart.f k a0_0 a0_1 a1_0 a1_1 = some r) : OkF Tryz.prog 23 [.agg [.d (.v (.int .i64 a0_0)), .d (.v (.int .i64 a0_1))], .agg [.d (.v (.int .i64 a1_0)), .d (.v (.int .i64 a1_1))]] [] (.c (.d (.v (.int .i64 r)))) [] := by
 unfold spec_l02Apart.f at H
 refine OkF.of (N := 9) (rs := [4]) (avs := [.c (.d (.v (.int .i64 r)))]) Tryz.func23 rfl rfl (fun _ _ => results_tmp rfl _ _ _) (by decide) rfl rfl rfl rfl (fun w0 S => ?_)
 refine AG.seq ?_
 refine AG.region HM ?_
 refine a_box 200 ?_
 refine a_box 201 ?_
 refine a_move (v := vI _) ?_
 refine RA.nil nofun ?_
 refine AG.seq ?_
 refine AG.region HM ?_
 refine a_ldB (v := .agg [_, _]) ?_ T51
 refine a_ldB (v := .agg [_, _]) ?_ T51
 obtain ⟨t1, e2, H⟩ := bindO H
 refine a_call (v := vI t1) (nk := []) (L := []) ?_ rfl (spec_l02Square.ok e2) id (qg (qg qn)) trivial trivial trivial rfl
 obtain ⟨t3, e4, H⟩ := bindO H
 refine a_call (v := vI t3) (nk := []) (L := []) ?_ rfl (spec_l01Root.ok e4) id (qd qn) trivial trivial trivial rfl
 refine a_move (v := vI _) ?_
 refine RA.nil nofun ?_
 refine AG.ret ?_
 obtain rfl := Option.some.inj H
 exact RetP.mk id ⟨rfl, trivial⟩ trivial rfl
end Go.Proofs.YtanbgmnhbncapaaGreat.PFnExactNearestOrder

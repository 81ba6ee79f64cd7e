/- What each function that the law FnExactBestWays reaches comes to, and the proof that its walk comes to it; laid by a program of this session. No condition. -/
import Derived.Test.YtanbgmnhbncapaaAnE
import Derived.KernelRfl
import Derived.OwnWalk
import Derived.Test.YtanbgmnhbncapaaProg
import Derived.Test.YtanbgmnhbncapaaAnL
import Derived.Test.YtanbgmnhbncapaaSortP
set_option linter.unnecessarySimpa false
set_option linter.unusedVariables false
set_option linter.unusedSimpArgs false
namespace Go.Proofs.Ytanbgmnhbncapaa.PFnExactBestWays
open Go Go.RowKit Go.Proofs.YtanbgmnhbncapaaM Go.Proofs Go.Proofs.Ytanbgmnhbncapaa.SortP
theorem HM : Try.prog.follows .mixedOrders = true := by kernel_rfl
structure S60 where
 f0 : Int
 f1 : Int
def z60 : S60 := ⟨0, 0⟩
structure S91 where
 f0 : ByteArray
 f1 : List Int
def z91 : S91 := ⟨(⟨#[]⟩ : ByteArray), []⟩
structure S24 where
 f0 : Int
 f1 : Int
 f2 : List S60
 f3 : List S91
def z24 : S24 := ⟨0, 0, [], []⟩
structure S31 where
 f0 : Int
 f1 : Int
 f2 : List S60
 f3 : List S91
def z31 : S31 := ⟨0, 0, [], []⟩
structure S88 where
 f0 : Int
 f1 : Int
def z88 : S88 := ⟨0, 0⟩
def c60 (x : S60) : List DV := [.v (.int .i64 x.f0), .v (.int .i64 x.f1)]
def rd60 (l : List S60) (i : Int) : S60 := l.getD i.toNat z60
theorem R60 {l : List S60} {i : Int} {z : List DV} (h0 : 0 ≤ i) (h1 : i < (l.length : Int)) : (l.map c60).getD i.toNat z = c60 (rd60 l i) := by
 have : i.toNat < l.length := by omega
 simp [rd60, List.getD_eq_getElem?_getD, this]
theorem G60 {l : List S60} {i : Int} (h0 : 0 ≤ i) (h1 : i < (l.length : Int)) : (l.map c60)[i.toNat]? = some (c60 (rd60 l i)) := by
 have : i.toNat < l.length := by omega
 simp [rd60, List.getD_eq_getElem?_getD, this]
def c2 (x : Int) : List DV := [.v (.int .i64 x)]
def rd2 (l : List Int) (i : Int) : Int := l.getD i.toNat 0
theorem R2 {l : List Int} {i : Int} {z : List DV} (h0 : 0 ≤ i) (h1 : i < (l.length : Int)) : (l.map c2).getD i.toNat z = c2 (rd2 l i) := by
 have : i.toNat < l.length := by omega
 simp [rd2, List.getD_eq_getElem?_getD, this]
theorem G2 {l : List Int} {i : Int} (h0 : 0 ≤ i) (h1 : i < (l.length : Int)) : (l.map c2)[i.toNat]? = some (c2 (rd2 l i)) := by
 have : i.toNat < l.length := by omega
 simp [rd2, List.getD_eq_getElem?_getD, this]
def c91 (x : S91) : List DV := [.v (.string x.f0), .row 2 (x.f1.map c2)]
def rd91 (l : List S91) (i : Int) : S91 := l.getD i.toNat z91
theorem R91 {l : List S91} {i : Int} {z : List DV} (h0 : 0 ≤ i) (h1 : i < (l.length : Int)) : (l.map c91).getD i.toNat z = c91 (rd91 l i) := by
 have : i.toNat < l.length := by omega
 simp [rd91, List.getD_eq_getElem?_getD, this]
theorem G91 {l : List S91} {i : Int} (h0 : 0 ≤ i) (h1 : i < (l.length : Int)) : (l.map c91)[i.toNat]? = some (c91 (rd91 l i)) := by
 have : i.toNat < l.length := by omega
 simp [rd91, List.getD_eq_getElem?_getD, this]
def c5 (x : Int) : List DV := [.v (.int .u8 x)]
def rd5 (l : List Int) (i : Int) : Int := l.getD i.toNat 0
theorem R5 {l : List Int} {i : Int} {z : List DV} (h0 : 0 ≤ i) (h1 : i < (l.length : Int)) : (l.map c5).getD i.toNat z = c5 (rd5 l i) := by
 have : i.toNat < l.length := by omega
 simp [rd5, List.getD_eq_getElem?_getD, this]
theorem G5 {l : List Int} {i : Int} (h0 : 0 ≤ i) (h1 : i < (l.length : Int)) : (l.map c5)[i.toNat]? = some (c5 (rd5 l i)) := by
 have : i.toNat < l.length := by omega
 simp [rd5, List.getD_eq_getElem?_getD, this]
def c38 (x : List Int) : List DV := [.row 2 (x.map c2)]
def rd38 (l : List (List Int)) (i : Int) : List Int := l.getD i.toNat []
theorem R38 {l : List (List Int)} {i : Int} {z : List DV} (h0 : 0 ≤ i) (h1 : i < (l.length : Int)) : (l.map c38).getD i.toNat z = c38 (rd38 l i) := by
 have : i.toNat < l.length := by omega
 simp [rd38, List.getD_eq_getElem?_getD, this]
theorem G38 {l : List (List Int)} {i : Int} (h0 : 0 ≤ i) (h1 : i < (l.length : Int)) : (l.map c38)[i.toNat]? = some (c38 (rd38 l i)) := by
 have : i.toNat < l.length := by omega
 simp [rd38, List.getD_eq_getElem?_getD, this]
def c4 (x : Bool) : List DV := [.v (.bool x)]
def rd4 (l : List Bool) (i : Int) : Bool := l.getD i.toNat false
theorem R4 {l : List Bool} {i : Int} {z : List DV} (h0 : 0 ≤ i) (h1 : i < (l.length : Int)) : (l.map c4).getD i.toNat z = c4 (rd4 l i) := by
 have : i.toNat < l.length := by omega
 simp [rd4, List.getD_eq_getElem?_getD, this]
theorem G4 {l : List Bool} {i : Int} (h0 : 0 ≤ i) (h1 : i < (l.length : Int)) : (l.map c4)[i.toNat]? = some (c4 (rd4 l i)) := by
 have : i.toNat < l.length := by omega
 simp [rd4, List.getD_eq_getElem?_getD, this]
def c88 (x : S88) : List DV := [.v (.int .i64 x.f0), .v (.int .i64 x.f1)]
def rd88 (l : List S88) (i : Int) : S88 := l.getD i.toNat z88
theorem R88 {l : List S88} {i : Int} {z : List DV} (h0 : 0 ≤ i) (h1 : i < (l.length : Int)) : (l.map c88).getD i.toNat z = c88 (rd88 l i) := by
 have : i.toNat < l.length := by omega
 simp [rd88, List.getD_eq_getElem?_getD, this]
theorem G88 {l : List S88} {i : Int} (h0 : 0 ≤ i) (h1 : i < (l.length : Int)) : (l.map c88)[i.toNat]? = some (c88 (rd88 l i)) := by
 have : i.toNat < l.length := by omega
 simp [rd88, List.getD_eq_getElem?_getD, this]
def c24 (x : S24) : List DV := [.v (.int .i64 x.f0), .v (.int .i64 x.f1), .row 95 (x.f2.map c60), .row 92 (x.f3.map c91)]
def rd24 (l : List S24) (i : Int) : S24 := l.getD i.toNat z24
theorem R24 {l : List S24} {i : Int} {z : List DV} (h0 : 0 ≤ i) (h1 : i < (l.length : Int)) : (l.map c24).getD i.toNat z = c24 (rd24 l i) := by
 have : i.toNat < l.length := by omega
 simp [rd24, List.getD_eq_getElem?_getD, this]
theorem G24 {l : List S24} {i : Int} (h0 : 0 ≤ i) (h1 : i < (l.length : Int)) : (l.map c24)[i.toNat]? = some (c24 (rd24 l i)) := by
 have : i.toNat < l.length := by omega
 simp [rd24, List.getD_eq_getElem?_getD, this]
theorem T9 : tyi Try.prog 9 = some (1, 16, [.string ⟨#[]⟩], false) := by kernel_rfl
theorem T38 : tyi Try.prog 38 = some (1, 24, [.slice none 0 0], false) := by kernel_rfl
theorem T92 : tyi Try.prog 92 = some (2, 40, [.string ⟨#[]⟩, .slice none 0 0], true) := by kernel_rfl
theorem T22 : tyi Try.prog 22 = some (1, 24, [.slice none 0 0], false) := by kernel_rfl
theorem T23 : tyi Try.prog 23 = some (1, 24, [.slice none 0 0], false) := by kernel_rfl
theorem T61 : tyi Try.prog 61 = some (2, 16, [.int .i64 0, .int .i64 0], true) := by kernel_rfl
theorem T2 : tyi Try.prog 2 = some (1, 8, [.int .i64 0], false) := by kernel_rfl
theorem T95 : tyi Try.prog 95 = some (2, 16, [.int .i64 0, .int .i64 0], true) := by kernel_rfl
theorem T96 : tyi Try.prog 96 = some (2, 40, [.string ⟨#[]⟩, .slice none 0 0], true) := by kernel_rfl
theorem T32 : tyi Try.prog 32 = some (4, 64, [.int .i64 0, .int .i64 0, .slice none 0 0, .slice none 0 0], true) := by kernel_rfl
theorem T29 : tyi Try.prog 29 = some (1, 24, [.slice none 0 0], false) := by kernel_rfl
theorem T30 : tyi Try.prog 30 = some (1, 24, [.slice none 0 0], false) := by kernel_rfl
theorem T5 : tyi Try.prog 5 = some (1, 1, [.int .u8 0], false) := by kernel_rfl
theorem T4 : tyi Try.prog 4 = some (1, 1, [.bool false], false) := by kernel_rfl
theorem T88 : tyi Try.prog 88 = some (2, 16, [.int .i64 0, .int .i64 0], true) := by kernel_rfl
theorem T56 : tyi Try.prog 56 = some (1, 24, [.slice none 0 0], false) := by kernel_rfl
theorem T87 : tyi Try.prog 87 = some (1, 24, [.slice none 0 0], false) := by kernel_rfl
theorem T25 : tyi Try.prog 25 = some (4, 64, [.int .i64 0, .int .i64 0, .slice none 0 0, .slice none 0 0], true) := by kernel_rfl
theorem N29 : eln Try.prog 29 = some 61 := by kernel_rfl
theorem N38 : eln Try.prog 38 = some 2 := by kernel_rfl
theorem N30 : eln Try.prog 30 = some 96 := by kernel_rfl
theorem N127 : eln Try.prog 127 = some 5 := by kernel_rfl
theorem N56 : eln Try.prog 56 = some 38 := by kernel_rfl
theorem N108 : eln Try.prog 108 = some 4 := by kernel_rfl
theorem N87 : eln Try.prog 87 = some 88 := by kernel_rfl
theorem Q61 (x0 y0 : Int) (x1 y1 : Int) : EqRun Try.prog .eql 61 [.int .i64 x0, .int .i64 x1] [.int .i64 y0, .int .i64 y1] (eqC [.int .i64 x0, .int .i64 x1] [.int .i64 y0, .int .i64 y1]) ∧ EqRun Try.prog .neq 61 [.int .i64 x0, .int .i64 x1] [.int .i64 y0, .int .i64 y1] (!(eqC [.int .i64 x0, .int .i64 x1] [.int .i64 y0, .int .i64 y1])) := by
 refine eqRun_of (by kernel_rfl) (fun w => ?_)
 show _ = Result.ok (x0 == y0 && (x1 == y1)) w
 go_simp
 (repeat' split) <;> simp_all
theorem Q88 (x0 y0 x1 y1 : Int) : EqRun Try.prog .eql 88 [.int .i64 x0, .int .i64 x1] [.int .i64 y0, .int .i64 y1] (eqC [.int .i64 x0, .int .i64 x1] [.int .i64 y0, .int .i64 y1]) ∧ EqRun Try.prog .neq 88 [.int .i64 x0, .int .i64 x1] [.int .i64 y0, .int .i64 y1] (!(eqC [.int .i64 x0, .int .i64 x1] [.int .i64 y0, .int .i64 y1])) := by
 refine eqRun_of (by kernel_rfl) (fun w => ?_)
 show _ = Result.ok (x0 == y0 && (x1 == y1)) w
 exact run_equalIn_arr2 9998 w x0 x1 y0 y1 Try.underlying88 Try.underlying2 Try.sizeOf2 Try.isAgg2
theorem D92_0 : fld Try.prog 92 0 = some (0, 1, false) := by kernel_rfl
theorem D92_1 : fld Try.prog 92 1 = some (1, 1, false) := by kernel_rfl
theorem D25_2 : fld Try.prog 25 2 = some (2, 1, false) := by kernel_rfl
theorem D25_3 : fld Try.prog 25 3 = some (3, 1, false) := by kernel_rfl
theorem D95_0 : fld Try.prog 95 0 = some (0, 1, false) := by kernel_rfl
theorem D61_0 : fld Try.prog 61 0 = some (0, 1, false) := by kernel_rfl
theorem D95_1 : fld Try.prog 95 1 = some (1, 1, false) := by kernel_rfl
theorem D61_1 : fld Try.prog 61 1 = some (1, 1, false) := by kernel_rfl
theorem D96_0 : fld Try.prog 96 0 = some (0, 1, false) := by kernel_rfl
theorem D96_1 : fld Try.prog 96 1 = some (1, 1, false) := by kernel_rfl
theorem D25_0 : fld Try.prog 25 0 = some (0, 1, false) := by kernel_rfl
theorem D32_0 : fld Try.prog 32 0 = some (0, 1, false) := by kernel_rfl
theorem D25_1 : fld Try.prog 25 1 = some (1, 1, false) := by kernel_rfl
theorem D32_1 : fld Try.prog 32 1 = some (1, 1, false) := by kernel_rfl
theorem D32_2 : fld Try.prog 32 2 = some (2, 1, false) := by kernel_rfl
theorem D32_3 : fld Try.prog 32 3 = some (3, 1, false) := by kernel_rfl
/-! ### laws_szPointS: function 38 -/
def laws_szPointS.f (l0 : List S60) (a1 : Int) : Option (Int) := if (wrap64 (a1 - (l0.length : Int))) < 0 then (some (-1)) else (some (wrap64 (a1 - (l0.length : Int))))
set_option maxRecDepth 100000 in
theorem laws_szPointS.ok {l0 : List S60} {a1 : Int} {r : Int} (H : laws_szPointS.f l0 a1 = some r) : OkF Try.prog 38 [vR 95 (l0.map c60), vI a1] [] (.c (.d (.v (.int .i64 r)))) [] := by
 unfold laws_szPointS.f at H
 refine OkF.of (N := 12) (rs := [4]) (avs := [.c (.d (.v (.int .i64 r)))]) Try.func38 rfl rfl (fun _ _ => results_tmp rfl _ _ _) (by decide) rfl rfl rfl rfl (fun w0 S => ?_)
 refine AG.seq ?_
 refine AG.region HM ?_
 refine a_move (v := vI _) ?_
 refine RA.nil nofun ?_
 refine AG.seq ?_
 refine AG.region HM ?_
 refine a_move (v := vI _) ?_
 refine a_move (v := vR _ _) ?_
 refine a_lenR ?_ Try.underlying22
 refine a_int (u := .int .i64 (wrap64 (a1 - (l0.length : Int)))) ?_
 refine a_move (v := vI _) ?_
 refine RA.nil nofun ?_
 refine AG.seq ?_
 refine AG.seq ?_
 refine AG.region HM ?_
 refine a_move (v := vI _) ?_
 refine a_int (u := .bool (decide ((wrap64 (a1 - (l0.length : Int))) < 0))) ?_
 refine RA.nil nofun ?_
 by_cases hc1 : (wrap64 (a1 - (l0.length : Int))) < 0
 ·rw [if_pos hc1] at H
  refine AG.yes rfl (decide_eq_true hc1) ?_
  refine AG.seq ?_
  refine AG.region HM ?_
  refine a_move (v := vI _) ?_
  refine RA.nil nofun ?_
  refine AG.ret ?_
  obtain rfl := Option.some.inj H
  exact RetP.mk id ⟨rfl, trivial⟩ trivial rfl
 ·rw [if_neg hc1] at H
  refine AG.no rfl (decide_eq_false hc1) ?_
  refine AG.skip ?_
  refine AG.seq ?_
  refine AG.region HM ?_
  refine a_move (v := vI _) ?_
  refine a_move (v := vI _) ?_
  refine RA.nil nofun ?_
  refine AG.ret ?_
  obtain rfl := Option.some.inj H
  exact RetP.mk id ⟨rfl, trivial⟩ trivial rfl
/-! ### laws_szInt64S: function 102 -/
def laws_szInt64S.f (l0 : List Int) (a1 : Int) : Option (Int) := if (wrap64 (a1 - (l0.length : Int))) < 0 then (some (-1)) else (some (wrap64 (a1 - (l0.length : Int))))
set_option maxRecDepth 100000 in
theorem laws_szInt64S.ok {l0 : List Int} {a1 : Int} {r : Int} (H : laws_szInt64S.f l0 a1 = some r) : OkF Try.prog 102 [vR 2 (l0.map c2), vI a1] [] (.c (.d (.v (.int .i64 r)))) [] := by
 unfold laws_szInt64S.f at H
 refine OkF.of (N := 12) (rs := [4]) (avs := [.c (.d (.v (.int .i64 r)))]) Try.func102 rfl rfl (fun _ _ => results_tmp rfl _ _ _) (by decide) rfl rfl rfl rfl (fun w0 S => ?_)
 refine AG.seq ?_
 refine AG.region HM ?_
 refine a_move (v := vI _) ?_
 refine RA.nil nofun ?_
 refine AG.seq ?_
 refine AG.region HM ?_
 refine a_move (v := vI _) ?_
 refine a_move (v := vR _ _) ?_
 refine a_lenR ?_ Try.underlying38
 refine a_int (u := .int .i64 (wrap64 (a1 - (l0.length : Int)))) ?_
 refine a_move (v := vI _) ?_
 refine RA.nil nofun ?_
 refine AG.seq ?_
 refine AG.seq ?_
 refine AG.region HM ?_
 refine a_move (v := vI _) ?_
 refine a_int (u := .bool (decide ((wrap64 (a1 - (l0.length : Int))) < 0))) ?_
 refine RA.nil nofun ?_
 by_cases hc1 : (wrap64 (a1 - (l0.length : Int))) < 0
 ·rw [if_pos hc1] at H
  refine AG.yes rfl (decide_eq_true hc1) ?_
  refine AG.seq ?_
  refine AG.region HM ?_
  refine a_move (v := vI _) ?_
  refine RA.nil nofun ?_
  refine AG.ret ?_
  obtain rfl := Option.some.inj H
  exact RetP.mk id ⟨rfl, trivial⟩ trivial rfl
 ·rw [if_neg hc1] at H
  refine AG.no rfl (decide_eq_false hc1) ?_
  refine AG.skip ?_
  refine AG.seq ?_
  refine AG.region HM ?_
  refine a_move (v := vI _) ?_
  refine a_move (v := vI _) ?_
  refine RA.nil nofun ?_
  refine AG.ret ?_
  obtain rfl := Option.some.inj H
  exact RetP.mk id ⟨rfl, trivial⟩ trivial rfl
/-! ### laws_szFace: function 73 -/
def laws_szFace.f (a0_0 : ByteArray) (l0_1 : List Int) (a1 : Int) : Option (Int) := if (wrap64 (a1 - (a0_0.size : Int))) < 0 then (some (-1)) else ((laws_szInt64S.f l0_1 (wrap64 (a1 - (a0_0.size : Int)))).bind fun t2 => (if t2 < 0 then (some (-1)) else (some t2)))
set_option maxRecDepth 100000 in
theorem laws_szFace.ok {a0_0 : ByteArray} {l0_1 : List Int} {a1 : Int} {r : Int} (H : laws_szFace.f a0_0 l0_1 a1 = some r) : OkF Try.prog 73 [.agg [.d (.v (.string a0_0)), .d (.row 2 (l0_1.map c2))], vI a1] [] (.c (.d (.v (.int .i64 r)))) [] := by
 unfold laws_szFace.f at H
 refine OkF.of (N := 19) (rs := [4]) (avs := [.c (.d (.v (.int .i64 r)))]) Try.func73 rfl rfl (fun _ _ => results_tmp rfl _ _ _) (by decide) rfl rfl rfl rfl (fun w0 S => ?_)
 refine AG.seq ?_
 refine AG.region HM ?_
 refine a_box 200 ?_
 refine a_move (v := vI _) ?_
 refine RA.nil nofun ?_
 refine AG.seq ?_
 refine AG.region HM ?_
 refine a_move (v := vI _) ?_
 refine a_faB (q := 0) ?_ D92_0
 refine a_ldB (v := vS _) ?_ T9
 refine a_lenS ?_ Try.underlying9
 refine a_int (u := .int .i64 (wrap64 (a1 - (a0_0.size : Int)))) ?_
 refine a_move (v := vI _) ?_
 refine RA.nil nofun ?_
 refine AG.seq ?_
 refine AG.seq ?_
 refine AG.region HM ?_
 refine a_move (v := vI _) ?_
 refine a_int (u := .bool (decide ((wrap64 (a1 - (a0_0.size : Int))) < 0))) ?_
 refine RA.nil nofun ?_
 by_cases hc1 : (wrap64 (a1 - (a0_0.size : Int))) < 0
 ·rw [if_pos hc1] at H
  refine AG.yes rfl (decide_eq_true hc1) ?_
  refine AG.seq ?_
  refine AG.region HM ?_
  refine a_move (v := vI _) ?_
  refine RA.nil nofun ?_
  refine AG.ret ?_
  obtain rfl := Option.some.inj H
  exact RetP.mk id ⟨rfl, trivial⟩ trivial rfl
 ·rw [if_neg hc1] at H
  refine AG.no rfl (decide_eq_false hc1) ?_
  refine AG.skip ?_
  refine AG.seq ?_
  refine AG.region HM ?_
  refine a_faB (q := 1) ?_ D92_1
  refine a_ldB (v := vR _ _) ?_ T38
  refine a_move (v := vI _) ?_
  obtain ⟨t2, e3, H⟩ := bindO H
  refine a_call (v := vI t2) (nk := []) (L := []) ?_ rfl (laws_szInt64S.ok e3) id (qd (qd qn)) trivial trivial trivial rfl
  refine a_move (v := vI _) ?_
  refine RA.nil nofun ?_
  refine AG.seq ?_
  refine AG.seq ?_
  refine AG.region HM ?_
  refine a_move (v := vI _) ?_
  refine a_int (u := .bool (decide (t2 < 0))) ?_
  refine RA.nil nofun ?_
  by_cases hc4 : t2 < 0
  ·rw [if_pos hc4] at H
   refine AG.yes rfl (decide_eq_true hc4) ?_
   refine AG.seq ?_
   refine AG.region HM ?_
   refine a_move (v := vI _) ?_
   refine RA.nil nofun ?_
   refine AG.ret ?_
   obtain rfl := Option.some.inj H
   exact RetP.mk id ⟨rfl, trivial⟩ trivial rfl
  ·rw [if_neg hc4] at H
   refine AG.no rfl (decide_eq_false hc4) ?_
   refine AG.skip ?_
   refine AG.seq ?_
   refine AG.region HM ?_
   refine a_move (v := vI _) ?_
   refine a_move (v := vI _) ?_
   refine RA.nil nofun ?_
   refine AG.ret ?_
   obtain rfl := Option.some.inj H
   exact RetP.mk id ⟨rfl, trivial⟩ trivial rfl
/-! ### laws_szFaceS: function 39 -/
def laws_szFaceS.l0 : Nat → List S91 → Int → Int → Option (Int)
 | 0, _, _, _ => none
 | k + 1, x0, x1, x5 => if x5 < (x0.length : Int) then (if 0 ≤ x5 then ((laws_szFace.f ((rd91 x0 x5).f0) ((rd91 x0 x5).f1) x1).bind fun t4 => (if t4 < 0 then (some (-1)) else (laws_szFaceS.l0 k x0 t4 (wrap64 (x5 + 1))))) else (none)) else (some x1)
def laws_szFaceS.f (k : Nat) (l0 : List S91) (a1 : Int) : Option (Int) := if (wrap64 (a1 - (l0.length : Int))) < 0 then (some (-1)) else (laws_szFaceS.l0 k l0 (wrap64 (a1 - (l0.length : Int))) 0)
set_option maxRecDepth 100000 in
theorem laws_szFaceS.ok {k : Nat} {l0 : List S91} {a1 : Int} {r : Int} (H : laws_szFaceS.f k l0 a1 = some r) : OkF Try.prog 39 [vR 92 (l0.map c91), vI a1] [] (.c (.d (.v (.int .i64 r)))) [] := by
 unfold laws_szFaceS.f at H
 refine OkF.of (N := 27) (rs := [4]) (avs := [.c (.d (.v (.int .i64 r)))]) Try.func39 rfl rfl (fun _ _ => results_tmp rfl _ _ _) (by decide) rfl rfl rfl rfl (fun w0 S => ?_)
 refine AG.seq ?_
 refine AG.region HM ?_
 refine a_move (v := vI _) ?_
 refine RA.nil nofun ?_
 refine AG.seq ?_
 refine AG.region HM ?_
 refine a_move (v := vI _) ?_
 refine a_move (v := vR _ _) ?_
 refine a_lenR ?_ Try.underlying23
 refine a_int (u := .int .i64 (wrap64 (a1 - (l0.length : Int)))) ?_
 refine a_move (v := vI _) ?_
 refine RA.nil nofun ?_
 refine AG.seq ?_
 refine AG.seq ?_
 refine AG.region HM ?_
 refine a_move (v := vI _) ?_
 refine a_int (u := .bool (decide ((wrap64 (a1 - (l0.length : Int))) < 0))) ?_
 refine RA.nil nofun ?_
 by_cases hc1 : (wrap64 (a1 - (l0.length : Int))) < 0
 ·rw [if_pos hc1] at H
  refine AG.yes rfl (decide_eq_true hc1) ?_
  refine AG.seq ?_
  refine AG.region HM ?_
  refine a_move (v := vI _) ?_
  refine RA.nil nofun ?_
  refine AG.ret ?_
  obtain rfl := Option.some.inj H
  exact RetP.mk id ⟨rfl, trivial⟩ trivial rfl
 ·rw [if_neg hc1] at H
  refine AG.no rfl (decide_eq_false hc1) ?_
  refine AG.skip ?_
  refine AG.seq ?_
  refine AG.seq ?_
  refine AG.region HM ?_
  refine a_move (v := vI _) ?_
  refine RA.nil nofun ?_
  refine AG.block ?_
  refine AG.loop ?_
  obtain ⟨K0, hK0, gK0⟩ : ∃ K, k ≤ K ∧ K ≤ k := ⟨k, Nat.le_refl k, Nat.le_refl k⟩
  refine AGr.canon id (AGr.loopI (n := k) (fun k s => k ≤ K0 ∧ ∃ (x0 : List S91) (x1 : Int) (x5 : Int), laws_szFaceS.l0 k x0 x1 x5 = some r ∧ s = St.of [(0, vR 92 (x0.map c91)), (1, vI x1), (5, vI x5)] []) ⟨hK0, _, _, _, H, rfl⟩ ?_ ?_) ⟨rfl, rfl, rfl, trivial⟩ trivial rfl
  ·rintro _ ⟨_, _, _, _, H, _⟩
   cases H
  ·clear H hK0
   rintro k ih0 _ ⟨hK0, x0, x1, x5, H, rfl⟩
   unfold laws_szFaceS.l0 at H
   refine AG.seq ?_
   refine AG.seq ?_
   refine AG.region HM ?_
   refine a_move (v := vI _) ?_
   refine a_move (v := vR _ _) ?_
   refine a_lenR ?_ Try.underlying23
   refine a_int (u := .bool (decide (x5 < (x0.length : Int)))) ?_
   refine RA.nil nofun ?_
   by_cases hc2 : x5 < (x0.length : Int)
   ·rw [if_pos hc2] at H
    refine AG.yes rfl (decide_eq_true hc2) ?_
    refine AG.skip ?_
    refine AG.seq ?_
    refine AG.block ?_
    refine AG.seq ?_
    refine AG.region HM ?_
    refine a_move (v := vR _ _) ?_
    refine a_move (v := vI _) ?_
    by_cases hc3 : 0 ≤ x5
    ·rw [if_pos hc3] at H
     refine a_ixR (el := c91 (rd91 x0 x5)) ?_ ⟨hc3, hc2⟩ T92 Try.underlying23 (hel := R91 hc3 hc2)
     refine a_ldR (v := .agg [_, _]) ?_ T92
     refine a_move (v := vI _) ?_
     obtain ⟨t4, e5, H⟩ := bindO H
     refine a_call (v := vI t4) (nk := []) (L := []) ?_ rfl (laws_szFace.ok e5) id (qg (qd qn)) trivial trivial trivial rfl
     refine a_move (v := vI _) ?_
     refine RA.nil nofun ?_
     refine AG.seq ?_
     refine AG.region HM ?_
     refine a_move (v := vI _) ?_
     refine a_int (u := .bool (decide (t4 < 0))) ?_
     refine RA.nil nofun ?_
     by_cases hc6 : t4 < 0
     ·rw [if_pos hc6] at H
      refine AG.yes rfl (decide_eq_true hc6) ?_
      refine AG.seq ?_
      refine AG.region HM ?_
      refine a_move (v := vI _) ?_
      refine RA.nil nofun ?_
      refine AG.ret ?_
      obtain rfl := Option.some.inj H
      exact RetP.mk id ⟨rfl, trivial⟩ trivial rfl
     ·rw [if_neg hc6] at H
      refine AG.no rfl (decide_eq_false hc6) ?_
      refine AG.skip ?_
      refine AG.region HM ?_
      refine a_move (v := vI _) ?_
      refine a_int (u := .int .i64 (wrap64 (x5 + 1))) ?_
      refine a_move (v := vI _) ?_
      refine RA.nil nofun ?_
      exact AGr.canon id (ih0 _ (by omega) _ ⟨by omega, _, _, _, H, rfl⟩) ⟨rfl, rfl, rfl, trivial⟩ trivial rfl
    ·rw [if_neg hc3] at H
     cases H
   ·rw [if_neg hc2] at H
    refine AG.no rfl (decide_eq_false hc2) ?_
    refine AG.exit ?_
    refine AG.seq ?_
    refine AG.region HM ?_
    refine a_move (v := vI _) ?_
    refine a_move (v := vI _) ?_
    refine RA.nil nofun ?_
    refine AG.ret ?_
    obtain rfl := Option.some.inj H
    exact RetP.mk id ⟨rfl, trivial⟩ trivial rfl
/-! ### laws_szDrawing: function 12 -/
def laws_szDrawing.f (k : Nat) (a0_0 : Int) (a0_1 : Int) (l0_2 : List S60) (l0_3 : List S91) (a1 : Int) : Option (Int) := (laws_szPointS.f l0_2 a1).bind fun t1 => (if t1 < 0 then (some (-1)) else ((laws_szFaceS.f k l0_3 t1).bind fun t4 => (if t4 < 0 then (some (-1)) else (some t4))))
set_option maxRecDepth 100000 in
theorem laws_szDrawing.ok {k : Nat} {a0_0 : Int} {a0_1 : Int} {l0_2 : List S60} {l0_3 : List S91} {a1 : Int} {r : Int} (H : laws_szDrawing.f k a0_0 a0_1 l0_2 l0_3 a1 = some r) : OkF Try.prog 12 [.agg [.d (.v (.int .i64 a0_0)), .d (.v (.int .i64 a0_1)), .d (.row 95 (l0_2.map c60)), .d (.row 92 (l0_3.map c91))], vI a1] [] (.c (.d (.v (.int .i64 r)))) [] := by
 unfold laws_szDrawing.f at H
 refine OkF.of (N := 18) (rs := [4]) (avs := [.c (.d (.v (.int .i64 r)))]) Try.func12 rfl rfl (fun _ _ => results_tmp rfl _ _ _) (by decide) rfl rfl rfl rfl (fun w0 S => ?_)
 refine AG.seq ?_
 refine AG.region HM ?_
 refine a_box 200 ?_
 refine a_move (v := vI _) ?_
 refine RA.nil nofun ?_
 refine AG.seq ?_
 refine AG.region HM ?_
 refine a_faB (q := 2) ?_ D25_2
 refine a_ldB (v := vR _ _) ?_ T22
 refine a_move (v := vI _) ?_
 obtain ⟨t1, e2, H⟩ := bindO H
 refine a_call (v := vI t1) (nk := []) (L := []) ?_ rfl (laws_szPointS.ok e2) id (qd (qd qn)) trivial trivial trivial rfl
 refine a_move (v := vI _) ?_
 refine RA.nil nofun ?_
 refine AG.seq ?_
 refine AG.seq ?_
 refine AG.region HM ?_
 refine a_move (v := vI _) ?_
 refine a_int (u := .bool (decide (t1 < 0))) ?_
 refine RA.nil nofun ?_
 by_cases hc3 : t1 < 0
 ·rw [if_pos hc3] at H
  refine AG.yes rfl (decide_eq_true hc3) ?_
  refine AG.seq ?_
  refine AG.region HM ?_
  refine a_move (v := vI _) ?_
  refine RA.nil nofun ?_
  refine AG.ret ?_
  obtain rfl := Option.some.inj H
  exact RetP.mk id ⟨rfl, trivial⟩ trivial rfl
 ·rw [if_neg hc3] at H
  refine AG.no rfl (decide_eq_false hc3) ?_
  refine AG.skip ?_
  refine AG.seq ?_
  refine AG.region HM ?_
  refine a_faB (q := 3) ?_ D25_3
  refine a_ldB (v := vR _ _) ?_ T23
  refine a_move (v := vI _) ?_
  obtain ⟨t4, e5, H⟩ := bindO H
  refine a_call (v := vI t4) (nk := []) (L := []) ?_ rfl (laws_szFaceS.ok e5) id (qd (qd qn)) trivial trivial trivial rfl
  refine a_move (v := vI _) ?_
  refine RA.nil nofun ?_
  refine AG.seq ?_
  refine AG.seq ?_
  refine AG.region HM ?_
  refine a_move (v := vI _) ?_
  refine a_int (u := .bool (decide (t4 < 0))) ?_
  refine RA.nil nofun ?_
  by_cases hc6 : t4 < 0
  ·rw [if_pos hc6] at H
   refine AG.yes rfl (decide_eq_true hc6) ?_
   refine AG.seq ?_
   refine AG.region HM ?_
   refine a_move (v := vI _) ?_
   refine RA.nil nofun ?_
   refine AG.ret ?_
   obtain rfl := Option.some.inj H
   exact RetP.mk id ⟨rfl, trivial⟩ trivial rfl
  ·rw [if_neg hc6] at H
   refine AG.no rfl (decide_eq_false hc6) ?_
   refine AG.skip ?_
   refine AG.seq ?_
   refine AG.region HM ?_
   refine a_move (v := vI _) ?_
   refine a_move (v := vI _) ?_
   refine RA.nil nofun ?_
   refine AG.ret ?_
   obtain rfl := Option.some.inj H
   exact RetP.mk id ⟨rfl, trivial⟩ trivial rfl
/-! ### laws_toPoint: function 76 -/
def laws_toPoint.f (a0_0 : Int) (a0_1 : Int) : Option (Int × Int) := some (a0_0, a0_1)
set_option maxRecDepth 100000 in
theorem laws_toPoint.ok {a0_0 : Int} {a0_1 : Int} {r0 : Int} {r1 : Int} (H : laws_toPoint.f a0_0 a0_1 = some (r0, r1)) : OkF Try.prog 76 [.agg [.d (.v (.int .i64 a0_0)), .d (.v (.int .i64 a0_1))]] [] (.agg [.d (.v (.int .i64 r0)), .d (.v (.int .i64 r1))]) [] := by
 unfold laws_toPoint.f at H
 refine OkF.ofB (N := 11) (t := 2) (ty := 61) (av := .agg [.d (.v (.int .i64 r0)), .d (.v (.int .i64 r1))]) Try.func76 rfl rfl rfl rfl (by decide) rfl rfl (fun w0 S => ?_)
 refine AG.seq ?_
 refine AG.region HM ?_
 refine a_box 200 ?_
 refine a_alloc (cs := [_, _]) 201 ?_ T61
 refine RA.nil nofun ?_
 refine AG.seq ?_
 refine AG.region HM ?_
 refine a_alloc (cs := [_, _]) 202 ?_ T61
 refine RA.nil nofun ?_
 refine AG.seq ?_
 refine AG.region HM ?_
 refine a_faB (q := 0) ?_ D95_0
 refine a_ldB (v := vI _) ?_ T2
 refine a_faB (q := 0) ?_ D61_0
 refine a_stB (cs' := [_, _]) ?_ T2
 refine RA.nil nofun ?_
 refine AG.seq ?_
 refine AG.region HM ?_
 refine a_faB (q := 1) ?_ D95_1
 refine a_ldB (v := vI _) ?_ T2
 refine a_faB (q := 1) ?_ D61_1
 refine a_stB (cs' := [_, _]) ?_ T2
 refine RA.nil nofun ?_
 refine AG.seq ?_
 refine AG.region HM ?_
 refine a_ldB (v := .agg [_, _]) ?_ T61
 refine a_stB (cs' := [_, _]) ?_ T61
 refine RA.nil nofun ?_
 refine AG.ret ?_
 simp only [Option.some.injEq, Prod.mk.injEq] at H
 obtain ⟨rfl, rfl⟩ := H
 exact RetB.mk T61 rfl rfl rfl (RetP.mk id ⟨rfl, trivial⟩ trivial rfl)
/-! ### laws_toPointS: function 42 -/
def laws_toPointS.l0 : Nat → List S60 → List S60 → Int → Option ((List S60))
 | 0, _, _, _ => none
 | k + 1, x0, x3, x4 => if x4 < (x0.length : Int) then (if 0 ≤ x4 then ((laws_toPoint.f ((rd60 x0 x4).f0) ((rd60 x0 x4).f1)).bind fun bt6 => (if x4 < (x3.length : Int) then (laws_toPointS.l0 k x0 (x3.set (x4 : Int).toNat (⟨bt6.1, bt6.2⟩ : S60)) (wrap64 (x4 + 1))) else (none))) else (none)) else (some x3)
def laws_toPointS.f (k : Nat) (l0 : List S60) : Option ((List S60)) := if 0 ≤ (l0.length : Int) then (if ((l0.length : Int) : Int).toNat ≤ 17592186044416 then (laws_toPointS.l0 k l0 (List.replicate (((l0.length : Int) : Int).toNat) z60) 0) else (none)) else (none)
set_option maxRecDepth 100000 in
theorem laws_toPointS.ok {k : Nat} {l0 : List S60} {r : List S60} (H : laws_toPointS.f k l0 = some r) : OkF Try.prog 42 [vR 95 (l0.map c60)] [] (.c (.own 100 r.length)) [(100, .row 61 (r.map c60))] := by
 unfold laws_toPointS.f at H
 refine OkF.of (N := 23) (rs := [2]) (avs := [.c (.own 100 r.length)]) Try.func42 rfl rfl (fun _ _ => results_tmp rfl _ _ _) (by decide) rfl rfl rfl rfl (fun w0 S => ?_)
 refine AG.seq ?_
 refine AG.region HM ?_
 refine a_nilO (e := 61) 200 ?_ T61
 refine RA.nil nofun ?_
 refine AG.seq ?_
 refine AG.region HM ?_
 refine a_move (v := vR _ _) ?_
 refine a_lenR ?_ Try.underlying22
 by_cases hc1 : 0 ≤ (l0.length : Int)
 ·rw [if_pos hc1] at H
  by_cases hc2 : ((l0.length : Int) : Int).toNat ≤ 17592186044416
  ·rw [if_pos hc2] at H
   refine a_make (n := (l0.length : Int)) (css := (List.replicate (((l0.length : Int) : Int).toNat) z60).map c60) 201 ?_ N29 T61 (zV (zV zN)) hc1 (by omega) (by omega) (hcss := by exact rep_map rfl)
   refine a_move (v := .c (.own _ _)) ?_
   refine RA.nil nofun ?_
   refine AG.seq ?_
   refine AG.seq ?_
   refine AG.region HM ?_
   refine a_move (v := vI _) ?_
   refine RA.nil nofun ?_
   refine AG.block ?_
   refine AG.loop ?_
   obtain ⟨K0, hK0, gK0⟩ : ∃ K, k ≤ K ∧ K ≤ k := ⟨k, Nat.le_refl k, Nat.le_refl k⟩
   refine AGr.canon (fun κ => cond (Nat.beq κ 202) 201 (κ)) (AGr.loopI (n := k) (fun k s => k ≤ K0 ∧ ∃ (x0 : List S60) (x3 : List S60) (x4 : Int), laws_toPointS.l0 k x0 x3 x4 = some r ∧ s = St.of [(0, vR 95 (x0.map c60)), (3, .c (.own 202 x3.length)), (4, vI x4)] [(202, .row 61 (x3.map c60))]) ⟨hK0, _, _, _, H, rfl⟩ ?_ ?_) ⟨rfl, (ownE rfl (by simp)), rfl, trivial⟩ ⟨rfl, trivial⟩ rfl
   ·rintro _ ⟨_, _, _, _, H, _⟩
    cases H
   ·clear H hK0
    rintro k ih0 _ ⟨hK0, x0, x3, x4, H, rfl⟩
    unfold laws_toPointS.l0 at H
    refine AG.seq ?_
    refine AG.seq ?_
    refine AG.region HM ?_
    refine a_move (v := vI _) ?_
    refine a_move (v := vR _ _) ?_
    refine a_lenR ?_ Try.underlying22
    refine a_int (u := .bool (decide (x4 < (x0.length : Int)))) ?_
    refine RA.nil nofun ?_
    by_cases hc4 : x4 < (x0.length : Int)
    ·rw [if_pos hc4] at H
     refine AG.yes rfl (decide_eq_true hc4) ?_
     refine AG.skip ?_
     refine AG.seq ?_
     refine AG.block ?_
     refine AG.region HM ?_
     refine a_move (v := .c (.own _ _)) ?_
     refine a_move (v := vI _) ?_
     refine a_move (v := vR _ _) ?_
     refine a_move (v := vI _) ?_
     by_cases hc5 : 0 ≤ x4
     ·rw [if_pos hc5] at H
      refine a_ixR (el := c60 (rd60 x0 x4)) ?_ ⟨hc5, hc4⟩ T95 Try.underlying22 (hel := R60 hc5 hc4)
      refine a_ldR (v := .agg [_, _]) ?_ T95
      obtain ⟨⟨t6, t7⟩, e8, H⟩ := bindO H
      refine a_call (v := .agg [.d (.v (.int .i64 t6)), .d (.v (.int .i64 t7))]) (nk := []) (L := []) ?_ rfl (laws_toPoint.ok e8) id (qg qn) trivial trivial trivial rfl
      by_cases hc9 : x4 < (x3.length : Int)
      ·rw [if_pos hc9] at H
       refine a_ixO ?_ ⟨hc5, hc9⟩ T61 Try.underlying29
       refine a_stF (css' := (x3.set (x4 : Int).toNat (⟨t6, t7⟩ : S60)).map c60) ?_ (flat_map (fun _ => rfl)) (G60 hc5 hc9) T61 (hcss := by exact set_map rfl)
       refine RA.nil nofun ?_
       refine AG.region HM ?_
       refine a_move (v := vI _) ?_
       refine a_int (u := .int .i64 (wrap64 (x4 + 1))) ?_
       refine a_move (v := vI _) ?_
       refine RA.nil nofun ?_
       exact AGr.canon id (ih0 _ (by omega) _ ⟨by omega, _, _, _, H, rfl⟩) ⟨rfl, (ownE rfl (by simp)), rfl, trivial⟩ ⟨rfl, trivial⟩ rfl
      ·rw [if_neg hc9] at H
       cases H
     ·rw [if_neg hc5] at H
      cases H
    ·rw [if_neg hc4] at H
     refine AG.no rfl (decide_eq_false hc4) ?_
     refine AG.exit ?_
     refine AG.seq ?_
     refine AG.region HM ?_
     refine a_move (v := .c (.own _ _)) ?_
     refine a_move (v := .c (.own _ _)) ?_
     refine RA.nil nofun ?_
     refine AG.ret ?_
     obtain rfl := Option.some.inj H
     exact RetP.mk (fun κ => cond (Nat.beq κ 100) 202 (κ)) ⟨rfl, trivial⟩ ⟨rfl, trivial⟩ rfl
  ·rw [if_neg hc2] at H
   cases H
 ·rw [if_neg hc1] at H
  cases H
/-! ### laws_toInt64S: function 20 -/
def laws_toInt64S.l0 : Nat → List Int → List Int → Int → Option ((List Int))
 | 0, _, _, _ => none
 | k + 1, x0, x3, x4 => if x4 < (x0.length : Int) then (if 0 ≤ x4 then (if x4 < (x3.length : Int) then (laws_toInt64S.l0 k x0 (x3.set (x4 : Int).toNat (rd2 x0 x4)) (wrap64 (x4 + 1))) else (none)) else (none)) else (some x3)
def laws_toInt64S.f (k : Nat) (l0 : List Int) : Option ((List Int)) := if 0 ≤ (l0.length : Int) then (if ((l0.length : Int) : Int).toNat ≤ 35184372088832 then (laws_toInt64S.l0 k l0 (List.replicate (((l0.length : Int) : Int).toNat) 0) 0) else (none)) else (none)
set_option maxRecDepth 100000 in
theorem laws_toInt64S.ok {k : Nat} {l0 : List Int} {r : List Int} (H : laws_toInt64S.f k l0 = some r) : OkF Try.prog 20 [vR 2 (l0.map c2)] [] (.c (.own 100 r.length)) [(100, .row 2 (r.map c2))] := by
 unfold laws_toInt64S.f at H
 refine OkF.of (N := 22) (rs := [2]) (avs := [.c (.own 100 r.length)]) Try.func20 rfl rfl (fun _ _ => results_tmp rfl _ _ _) (by decide) rfl rfl rfl rfl (fun w0 S => ?_)
 refine AG.seq ?_
 refine AG.region HM ?_
 refine a_nilO (e := 2) 200 ?_ T2
 refine RA.nil nofun ?_
 refine AG.seq ?_
 refine AG.region HM ?_
 refine a_move (v := vR _ _) ?_
 refine a_lenR ?_ Try.underlying38
 by_cases hc1 : 0 ≤ (l0.length : Int)
 ·rw [if_pos hc1] at H
  by_cases hc2 : ((l0.length : Int) : Int).toNat ≤ 35184372088832
  ·rw [if_pos hc2] at H
   refine a_make (n := (l0.length : Int)) (css := (List.replicate (((l0.length : Int) : Int).toNat) 0).map c2) 201 ?_ N38 T2 (zV zN) hc1 (by omega) (by omega) (hcss := by exact rep_map rfl)
   refine a_move (v := .c (.own _ _)) ?_
   refine RA.nil nofun ?_
   refine AG.seq ?_
   refine AG.seq ?_
   refine AG.region HM ?_
   refine a_move (v := vI _) ?_
   refine RA.nil nofun ?_
   refine AG.block ?_
   refine AG.loop ?_
   obtain ⟨K0, hK0, gK0⟩ : ∃ K, k ≤ K ∧ K ≤ k := ⟨k, Nat.le_refl k, Nat.le_refl k⟩
   refine AGr.canon (fun κ => cond (Nat.beq κ 202) 201 (κ)) (AGr.loopI (n := k) (fun k s => k ≤ K0 ∧ ∃ (x0 : List Int) (x3 : List Int) (x4 : Int), laws_toInt64S.l0 k x0 x3 x4 = some r ∧ s = St.of [(0, vR 2 (x0.map c2)), (3, .c (.own 202 x3.length)), (4, vI x4)] [(202, .row 2 (x3.map c2))]) ⟨hK0, _, _, _, H, rfl⟩ ?_ ?_) ⟨rfl, (ownE rfl (by simp)), rfl, trivial⟩ ⟨rfl, trivial⟩ rfl
   ·rintro _ ⟨_, _, _, _, H, _⟩
    cases H
   ·clear H hK0
    rintro k ih0 _ ⟨hK0, x0, x3, x4, H, rfl⟩
    unfold laws_toInt64S.l0 at H
    refine AG.seq ?_
    refine AG.seq ?_
    refine AG.region HM ?_
    refine a_move (v := vI _) ?_
    refine a_move (v := vR _ _) ?_
    refine a_lenR ?_ Try.underlying38
    refine a_int (u := .bool (decide (x4 < (x0.length : Int)))) ?_
    refine RA.nil nofun ?_
    by_cases hc4 : x4 < (x0.length : Int)
    ·rw [if_pos hc4] at H
     refine AG.yes rfl (decide_eq_true hc4) ?_
     refine AG.skip ?_
     refine AG.seq ?_
     refine AG.block ?_
     refine AG.region HM ?_
     refine a_move (v := .c (.own _ _)) ?_
     refine a_move (v := vI _) ?_
     refine a_move (v := vR _ _) ?_
     refine a_move (v := vI _) ?_
     by_cases hc5 : 0 ≤ x4
     ·rw [if_pos hc5] at H
      refine a_ixR (el := c2 (rd2 x0 x4)) ?_ ⟨hc5, hc4⟩ T2 Try.underlying38 (hel := R2 hc5 hc4)
      refine a_ldR (v := vI _) ?_ T2
      by_cases hc6 : x4 < (x3.length : Int)
      ·rw [if_pos hc6] at H
       refine a_ixO ?_ ⟨hc5, hc6⟩ T2 Try.underlying38
       refine a_stF (css' := (x3.set (x4 : Int).toNat (rd2 x0 x4)).map c2) ?_ (flat_map (fun _ => rfl)) (G2 hc5 hc6) T2 (hcss := by exact set_map rfl)
       refine RA.nil nofun ?_
       refine AG.region HM ?_
       refine a_move (v := vI _) ?_
       refine a_int (u := .int .i64 (wrap64 (x4 + 1))) ?_
       refine a_move (v := vI _) ?_
       refine RA.nil nofun ?_
       exact AGr.canon id (ih0 _ (by omega) _ ⟨by omega, _, _, _, H, rfl⟩) ⟨rfl, (ownE rfl (by simp)), rfl, trivial⟩ ⟨rfl, trivial⟩ rfl
      ·rw [if_neg hc6] at H
       cases H
     ·rw [if_neg hc5] at H
      cases H
    ·rw [if_neg hc4] at H
     refine AG.no rfl (decide_eq_false hc4) ?_
     refine AG.exit ?_
     refine AG.seq ?_
     refine AG.region HM ?_
     refine a_move (v := .c (.own _ _)) ?_
     refine a_move (v := .c (.own _ _)) ?_
     refine RA.nil nofun ?_
     refine AG.ret ?_
     obtain rfl := Option.some.inj H
     exact RetP.mk (fun κ => cond (Nat.beq κ 100) 202 (κ)) ⟨rfl, trivial⟩ ⟨rfl, trivial⟩ rfl
  ·rw [if_neg hc2] at H
   cases H
 ·rw [if_neg hc1] at H
  cases H
/-! ### laws_toFace: function 77 -/
def laws_toFace.f (k : Nat) (a0_0 : ByteArray) (l0_1 : List Int) : Option (ByteArray × (List Int)) := (laws_toInt64S.f k l0_1).bind fun t1 => (some (a0_0, t1))
set_option maxRecDepth 100000 in
theorem laws_toFace.ok {k : Nat} {a0_0 : ByteArray} {l0_1 : List Int} {r0 : ByteArray} {r1 : List Int} (H : laws_toFace.f k a0_0 l0_1 = some (r0, r1)) : OkF Try.prog 77 [.agg [.d (.v (.string a0_0)), .d (.row 2 (l0_1.map c2))]] [] (.agg [.d (.v (.string r0)), .own 100 r1.length]) [(100, .row 2 (r1.map c2))] := by
 unfold laws_toFace.f at H
 refine OkF.ofB (N := 12) (t := 2) (ty := 96) (av := .agg [.d (.v (.string r0)), .own 100 r1.length]) Try.func77 rfl rfl rfl rfl (by decide) rfl rfl (fun w0 S => ?_)
 refine AG.seq ?_
 refine AG.region HM ?_
 refine a_box 200 ?_
 refine a_alloc (cs := [_, _]) 201 ?_ T96
 refine RA.nil nofun ?_
 refine AG.seq ?_
 refine AG.region HM ?_
 refine a_alloc (cs := [_, _]) 202 ?_ T96
 refine RA.nil nofun ?_
 refine AG.seq ?_
 refine AG.region HM ?_
 refine a_faB (q := 0) ?_ D92_0
 refine a_ldB (v := vS _) ?_ T9
 refine a_faB (q := 0) ?_ D96_0
 refine a_stB (cs' := [_, _]) ?_ T9
 refine RA.nil nofun ?_
 refine AG.seq ?_
 refine AG.region HM ?_
 refine a_faB (q := 1) ?_ D92_1
 refine a_ldB (v := vR _ _) ?_ T38
 obtain ⟨t1, e2, H⟩ := bindO H
 refine a_call (v := .c (.own 203 t1.length)) (nk := [(203, .row 2 (t1.map c2))]) (L := []) ?_ rfl (laws_toInt64S.ok e2) (fun κ => cond (Nat.beq κ 203) 100 (κ)) (qd qn) trivial ⟨rfl, trivial⟩ ⟨rfl, trivial⟩ rfl
 refine a_faB (q := 1) ?_ D96_1
 refine a_stB (cs' := [_, _]) ?_ T38
 refine RA.nil nofun ?_
 refine AG.seq ?_
 refine AG.region HM ?_
 refine a_ldB (v := .agg [_, _]) ?_ T96
 refine a_stB (cs' := [_, _]) ?_ T96
 refine RA.nil nofun ?_
 refine AG.ret ?_
 simp only [Option.some.injEq, Prod.mk.injEq] at H
 obtain ⟨rfl, rfl⟩ := H
 exact RetB.mk T96 rfl rfl rfl (RetP.mk (fun κ => cond (Nat.beq κ 100) 203 (κ)) ⟨rfl, trivial⟩ ⟨rfl, trivial⟩ rfl)
/-! ### laws_toFaceS: function 43 -/
def laws_toFaceS.l0 : Nat → List S91 → List S91 → Int → Option ((List S91))
 | 0, _, _, _ => none
 | k + 1, x0, x3, x4 => if x4 < (x0.length : Int) then (if 0 ≤ x4 then ((laws_toFace.f k ((rd91 x0 x4).f0) ((rd91 x0 x4).f1)).bind fun bt6 => (if x4 < (x3.length : Int) then (laws_toFaceS.l0 k x0 (x3.set (x4 : Int).toNat (⟨bt6.1, bt6.2⟩ : S91)) (wrap64 (x4 + 1))) else (none))) else (none)) else (some x3)
def laws_toFaceS.f (k : Nat) (l0 : List S91) : Option ((List S91)) := if 0 ≤ (l0.length : Int) then (if ((l0.length : Int) : Int).toNat ≤ 7036874417766 then (laws_toFaceS.l0 k l0 (List.replicate (((l0.length : Int) : Int).toNat) z91) 0) else (none)) else (none)
set_option maxRecDepth 100000 in
theorem laws_toFaceS.ok {k : Nat} {l0 : List S91} {r : List S91} (H : laws_toFaceS.f k l0 = some r) : OkF Try.prog 43 [vR 92 (l0.map c91)] [] (.c (.own 100 r.length)) [(100, .row 96 (r.map c91))] := by
 unfold laws_toFaceS.f at H
 refine OkF.of (N := 23) (rs := [2]) (avs := [.c (.own 100 r.length)]) Try.func43 rfl rfl (fun _ _ => results_tmp rfl _ _ _) (by decide) rfl rfl rfl rfl (fun w0 S => ?_)
 refine AG.seq ?_
 refine AG.region HM ?_
 refine a_nilO (e := 96) 200 ?_ T96
 refine RA.nil nofun ?_
 refine AG.seq ?_
 refine AG.region HM ?_
 refine a_move (v := vR _ _) ?_
 refine a_lenR ?_ Try.underlying23
 by_cases hc1 : 0 ≤ (l0.length : Int)
 ·rw [if_pos hc1] at H
  by_cases hc2 : ((l0.length : Int) : Int).toNat ≤ 7036874417766
  ·rw [if_pos hc2] at H
   refine a_make (n := (l0.length : Int)) (css := (List.replicate (((l0.length : Int) : Int).toNat) z91).map c91) 201 ?_ N30 T96 (zV (zR T2 zN)) hc1 (by omega) (by omega) (hcss := by exact rep_map rfl)
   refine a_move (v := .c (.own _ _)) ?_
   refine RA.nil nofun ?_
   refine AG.seq ?_
   refine AG.seq ?_
   refine AG.region HM ?_
   refine a_move (v := vI _) ?_
   refine RA.nil nofun ?_
   refine AG.block ?_
   refine AG.loop ?_
   obtain ⟨K0, hK0, gK0⟩ : ∃ K, k ≤ K ∧ K ≤ k := ⟨k, Nat.le_refl k, Nat.le_refl k⟩
   refine AGr.canon (fun κ => cond (Nat.beq κ 202) 201 (κ)) (AGr.loopI (n := k) (fun k s => k ≤ K0 ∧ ∃ (x0 : List S91) (x3 : List S91) (x4 : Int), laws_toFaceS.l0 k x0 x3 x4 = some r ∧ s = St.of [(0, vR 92 (x0.map c91)), (3, .c (.own 202 x3.length)), (4, vI x4)] [(202, .row 96 (x3.map c91))]) ⟨hK0, _, _, _, H, rfl⟩ ?_ ?_) ⟨rfl, (ownE rfl (by simp)), rfl, trivial⟩ ⟨rfl, trivial⟩ rfl
   ·rintro _ ⟨_, _, _, _, H, _⟩
    cases H
   ·clear H hK0
    rintro k ih0 _ ⟨hK0, x0, x3, x4, H, rfl⟩
    unfold laws_toFaceS.l0 at H
    refine AG.seq ?_
    refine AG.seq ?_
    refine AG.region HM ?_
    refine a_move (v := vI _) ?_
    refine a_move (v := vR _ _) ?_
    refine a_lenR ?_ Try.underlying23
    refine a_int (u := .bool (decide (x4 < (x0.length : Int)))) ?_
    refine RA.nil nofun ?_
    by_cases hc4 : x4 < (x0.length : Int)
    ·rw [if_pos hc4] at H
     refine AG.yes rfl (decide_eq_true hc4) ?_
     refine AG.skip ?_
     refine AG.seq ?_
     refine AG.block ?_
     refine AG.region HM ?_
     refine a_move (v := .c (.own _ _)) ?_
     refine a_move (v := vI _) ?_
     refine a_move (v := vR _ _) ?_
     refine a_move (v := vI _) ?_
     by_cases hc5 : 0 ≤ x4
     ·rw [if_pos hc5] at H
      refine a_ixR (el := c91 (rd91 x0 x4)) ?_ ⟨hc5, hc4⟩ T92 Try.underlying23 (hel := R91 hc5 hc4)
      refine a_ldR (v := .agg [_, _]) ?_ T92
      obtain ⟨⟨t6, t7⟩, e8, H⟩ := bindO H
      refine a_call (v := .agg [.d (.v (.string t6)), .own 203 t7.length]) (nk := [(203, .row 2 (t7.map c2))]) (L := []) ?_ rfl (laws_toFace.ok e8) (fun κ => cond (Nat.beq κ 203) 100 (κ)) (qg qn) trivial ⟨rfl, trivial⟩ ⟨rfl, trivial⟩ rfl
      by_cases hc9 : x4 < (x3.length : Int)
      ·rw [if_pos hc9] at H
       refine a_ixO ?_ ⟨hc5, hc9⟩ T96 Try.underlying30
       refine a_stE (D := [203]) (css' := (x3.set (x4 : Int).toNat (⟨t6, t7⟩ : S91)).map c91) ?_ (G91 hc5 hc9) T96 (hcss := by exact set_map rfl)
       refine RA.nil nofun ?_
       refine AG.region HM ?_
       refine a_move (v := vI _) ?_
       refine a_int (u := .int .i64 (wrap64 (x4 + 1))) ?_
       refine a_move (v := vI _) ?_
       refine RA.nil nofun ?_
       exact AGr.canon id (ih0 _ (by omega) _ ⟨by omega, _, _, _, H, rfl⟩) ⟨rfl, (ownE rfl (by simp)), rfl, trivial⟩ ⟨rfl, trivial⟩ rfl
      ·rw [if_neg hc9] at H
       cases H
     ·rw [if_neg hc5] at H
      cases H
    ·rw [if_neg hc4] at H
     refine AG.no rfl (decide_eq_false hc4) ?_
     refine AG.exit ?_
     refine AG.seq ?_
     refine AG.region HM ?_
     refine a_move (v := .c (.own _ _)) ?_
     refine a_move (v := .c (.own _ _)) ?_
     refine RA.nil nofun ?_
     refine AG.ret ?_
     obtain rfl := Option.some.inj H
     exact RetP.mk (fun κ => cond (Nat.beq κ 100) 202 (κ)) ⟨rfl, trivial⟩ ⟨rfl, trivial⟩ rfl
  ·rw [if_neg hc2] at H
   cases H
 ·rw [if_neg hc1] at H
  cases H
/-! ### laws_toDrawing: function 14 -/
def laws_toDrawing.f (k : Nat) (a0_0 : Int) (a0_1 : Int) (l0_2 : List S60) (l0_3 : List S91) : Option (Int × Int × (List S60) × (List S91)) := (laws_toPointS.f k l0_2).bind fun t1 => ((laws_toFaceS.f k l0_3).bind fun t3 => (some (a0_0, a0_1, t1, t3)))
set_option maxRecDepth 100000 in
theorem laws_toDrawing.ok {k : Nat} {a0_0 : Int} {a0_1 : Int} {l0_2 : List S60} {l0_3 : List S91} {r0 : Int} {r1 : Int} {r2 : List S60} {r3 : List S91} (H : laws_toDrawing.f k a0_0 a0_1 l0_2 l0_3 = some (r0, r1, r2, r3)) : OkF Try.prog 14 [.agg [.d (.v (.int .i64 a0_0)), .d (.v (.int .i64 a0_1)), .d (.row 95 (l0_2.map c60)), .d (.row 92 (l0_3.map c91))]] [] (.agg [.d (.v (.int .i64 r0)), .d (.v (.int .i64 r1)), .own 100 r2.length, .own 101 r3.length]) [(100, .row 61 (r2.map c60)), (101, .row 96 (r3.map c91))] := by
 unfold laws_toDrawing.f at H
 refine OkF.ofB (N := 19) (t := 2) (ty := 32) (av := .agg [.d (.v (.int .i64 r0)), .d (.v (.int .i64 r1)), .own 100 r2.length, .own 101 r3.length]) Try.func14 rfl rfl rfl rfl (by decide) rfl rfl (fun w0 S => ?_)
 refine AG.seq ?_
 refine AG.region HM ?_
 refine a_box 200 ?_
 refine a_alloc (cs := [_, _, _, _]) 201 ?_ T32
 refine RA.nil nofun ?_
 refine AG.seq ?_
 refine AG.region HM ?_
 refine a_alloc (cs := [_, _, _, _]) 202 ?_ T32
 refine RA.nil nofun ?_
 refine AG.seq ?_
 refine AG.region HM ?_
 refine a_faB (q := 0) ?_ D25_0
 refine a_ldB (v := vI _) ?_ T2
 refine a_faB (q := 0) ?_ D32_0
 refine a_stB (cs' := [_, _, _, _]) ?_ T2
 refine RA.nil nofun ?_
 refine AG.seq ?_
 refine AG.region HM ?_
 refine a_faB (q := 1) ?_ D25_1
 refine a_ldB (v := vI _) ?_ T2
 refine a_faB (q := 1) ?_ D32_1
 refine a_stB (cs' := [_, _, _, _]) ?_ T2
 refine RA.nil nofun ?_
 refine AG.seq ?_
 refine AG.region HM ?_
 refine a_faB (q := 2) ?_ D25_2
 refine a_ldB (v := vR _ _) ?_ T22
 obtain ⟨t1, e2, H⟩ := bindO H
 refine a_call (v := .c (.own 203 t1.length)) (nk := [(203, .row 61 (t1.map c60))]) (L := []) ?_ rfl (laws_toPointS.ok e2) (fun κ => cond (Nat.beq κ 203) 100 (κ)) (qd qn) trivial ⟨rfl, trivial⟩ ⟨rfl, trivial⟩ rfl
 refine a_faB (q := 2) ?_ D32_2
 refine a_stB (cs' := [_, _, _, _]) ?_ T29
 refine RA.nil nofun ?_
 refine AG.seq ?_
 refine AG.region HM ?_
 refine a_faB (q := 3) ?_ D25_3
 refine a_ldB (v := vR _ _) ?_ T23
 obtain ⟨t3, e4, H⟩ := bindO H
 refine a_call (v := .c (.own 204 t3.length)) (nk := [(204, .row 96 (t3.map c91))]) (L := []) ?_ rfl (laws_toFaceS.ok e4) (fun κ => cond (Nat.beq κ 204) 100 (κ)) (qd qn) trivial ⟨rfl, trivial⟩ ⟨rfl, trivial⟩ rfl
 refine a_faB (q := 3) ?_ D32_3
 refine a_stB (cs' := [_, _, _, _]) ?_ T30
 refine RA.nil nofun ?_
 refine AG.seq ?_
 refine AG.region HM ?_
 refine a_ldB (v := .agg [_, _, _, _]) ?_ T32
 refine a_stB (cs' := [_, _, _, _]) ?_ T32
 refine RA.nil nofun ?_
 refine AG.ret ?_
 simp only [Option.some.injEq, Prod.mk.injEq] at H
 obtain ⟨rfl, rfl, rfl, rfl⟩ := H
 exact RetB.mk T32 rfl rfl rfl (RetP.mk (fun κ => cond (Nat.beq κ 100) 203 (cond (Nat.beq κ 101) 204 (κ))) ⟨rfl, trivial⟩ ⟨rfl, rfl, trivial⟩ rfl)
/-! ### laws_eqPoint: function 84 -/
def laws_eqPoint.f (a0_0 : Int) (a0_1 : Int) (a1_0 : Int) (a1_1 : Int) : Option (Bool) := if a0_0 = a1_0 then (if a0_1 = a1_1 then (some true) else (some false)) else (some false)
set_option maxRecDepth 100000 in
theorem laws_eqPoint.ok {a0_0 : Int} {a0_1 : Int} {a1_0 : Int} {a1_1 : Int} {r : Bool} (H : laws_eqPoint.f a0_0 a0_1 a1_0 a1_1 = some r) : OkF Try.prog 84 [.agg [.d (.v (.int .i64 a0_0)), .d (.v (.int .i64 a0_1))], .agg [.d (.v (.int .i64 a1_0)), .d (.v (.int .i64 a1_1))]] [] (.c (.d (.v (.bool r)))) [] := by
 unfold laws_eqPoint.f at H
 refine OkF.of (N := 15) (rs := [4]) (avs := [.c (.d (.v (.bool r)))]) Try.func84 rfl rfl (fun _ _ => results_tmp rfl _ _ _) (by decide) rfl rfl rfl rfl (fun w0 S => ?_)
 refine AG.seq ?_
 refine AG.region HM ?_
 refine a_box 200 ?_
 refine a_box 201 ?_
 refine a_move (v := vB _) ?_
 refine RA.nil nofun ?_
 refine AG.seq ?_
 refine AG.seq ?_
 refine AG.region HM ?_
 refine a_faB (q := 0) ?_ D61_0
 refine a_ldB (v := vI _) ?_ T2
 refine a_faB (q := 0) ?_ D61_0
 refine a_ldB (v := vI _) ?_ T2
 refine a_int (u := .bool ((a0_0 != a1_0))) ?_
 refine RA.nil nofun ?_
 by_cases hc1 : a0_0 = a1_0
 ·rw [if_pos hc1] at H
  refine AG.no rfl (bne_eq_false_iff_eq.2 hc1) ?_
  refine AG.skip ?_
  refine AG.seq ?_
  refine AG.seq ?_
  refine AG.region HM ?_
  refine a_faB (q := 1) ?_ D61_1
  refine a_ldB (v := vI _) ?_ T2
  refine a_faB (q := 1) ?_ D61_1
  refine a_ldB (v := vI _) ?_ T2
  refine a_int (u := .bool ((a0_1 != a1_1))) ?_
  refine RA.nil nofun ?_
  by_cases hc2 : a0_1 = a1_1
  ·rw [if_pos hc2] at H
   refine AG.no rfl (bne_eq_false_iff_eq.2 hc2) ?_
   refine AG.skip ?_
   refine AG.seq ?_
   refine AG.region HM ?_
   refine a_move (v := vB _) ?_
   refine RA.nil nofun ?_
   refine AG.ret ?_
   obtain rfl := Option.some.inj H
   exact RetP.mk id ⟨rfl, trivial⟩ trivial rfl
  ·rw [if_neg hc2] at H
   refine AG.yes rfl (bne_iff_ne.2 hc2) ?_
   refine AG.seq ?_
   refine AG.region HM ?_
   refine a_move (v := vB _) ?_
   refine RA.nil nofun ?_
   refine AG.ret ?_
   obtain rfl := Option.some.inj H
   exact RetP.mk id ⟨rfl, trivial⟩ trivial rfl
 ·rw [if_neg hc1] at H
  refine AG.yes rfl (bne_iff_ne.2 hc1) ?_
  refine AG.seq ?_
  refine AG.region HM ?_
  refine a_move (v := vB _) ?_
  refine RA.nil nofun ?_
  refine AG.ret ?_
  obtain rfl := Option.some.inj H
  exact RetP.mk id ⟨rfl, trivial⟩ trivial rfl
/-! ### laws_eqPointS: function 46 -/
def laws_eqPointS.l0 : Nat → List S60 → List S60 → Int → Option (Bool)
 | 0, _, _, _ => none
 | k + 1, x0, x1, x5 => if x5 < (x0.length : Int) then (if 0 ≤ x5 then (if x5 < (x1.length : Int) then ((laws_eqPoint.f ((rd60 x0 x5).f0) ((rd60 x0 x5).f1) ((rd60 x1 x5).f0) ((rd60 x1 x5).f1)).bind fun t5 => (if t5 = true then (laws_eqPointS.l0 k x0 x1 (wrap64 (x5 + 1))) else (some false))) else (none)) else (none)) else (some true)
def laws_eqPointS.f (k : Nat) (l0 : List S60) (l1 : List S60) : Option (Bool) := if (l0.length : Int) = (l1.length : Int) then (laws_eqPointS.l0 k l0 l1 0) else (some false)
set_option maxRecDepth 100000 in
theorem laws_eqPointS.ok {k : Nat} {l0 : List S60} {l1 : List S60} {r : Bool} (H : laws_eqPointS.f k l0 l1 = some r) : OkF Try.prog 46 [vR 61 (l0.map c60), vR 61 (l1.map c60)] [] (.c (.d (.v (.bool r)))) [] := by
 unfold laws_eqPointS.f at H
 refine OkF.of (N := 27) (rs := [4]) (avs := [.c (.d (.v (.bool r)))]) Try.func46 rfl rfl (fun _ _ => results_tmp rfl _ _ _) (by decide) rfl rfl rfl rfl (fun w0 S => ?_)
 refine AG.seq ?_
 refine AG.region HM ?_
 refine a_move (v := vB _) ?_
 refine RA.nil nofun ?_
 refine AG.seq ?_
 refine AG.seq ?_
 refine AG.region HM ?_
 refine a_move (v := vR _ _) ?_
 refine a_lenR ?_ Try.underlying29
 refine a_move (v := vR _ _) ?_
 refine a_lenR ?_ Try.underlying29
 refine a_int (u := .bool (((l0.length : Int) != (l1.length : Int)))) ?_
 refine RA.nil nofun ?_
 by_cases hc1 : (l0.length : Int) = (l1.length : Int)
 ·rw [if_pos hc1] at H
  refine AG.no rfl (bne_eq_false_iff_eq.2 hc1) ?_
  refine AG.skip ?_
  refine AG.seq ?_
  refine AG.seq ?_
  refine AG.region HM ?_
  refine a_move (v := vI _) ?_
  refine RA.nil nofun ?_
  refine AG.block ?_
  refine AG.loop ?_
  obtain ⟨K0, hK0, gK0⟩ : ∃ K, k ≤ K ∧ K ≤ k := ⟨k, Nat.le_refl k, Nat.le_refl k⟩
  refine AGr.canon id (AGr.loopI (n := k) (fun k s => k ≤ K0 ∧ ∃ (x0 : List S60) (x1 : List S60) (x5 : Int), laws_eqPointS.l0 k x0 x1 x5 = some r ∧ s = St.of [(0, vR 61 (x0.map c60)), (1, vR 61 (x1.map c60)), (5, vI x5)] []) ⟨hK0, _, _, _, H, rfl⟩ ?_ ?_) ⟨rfl, rfl, rfl, trivial⟩ trivial rfl
  ·rintro _ ⟨_, _, _, _, H, _⟩
   cases H
  ·clear H hK0
   rintro k ih0 _ ⟨hK0, x0, x1, x5, H, rfl⟩
   unfold laws_eqPointS.l0 at H
   refine AG.seq ?_
   refine AG.seq ?_
   refine AG.region HM ?_
   refine a_move (v := vI _) ?_
   refine a_move (v := vR _ _) ?_
   refine a_lenR ?_ Try.underlying29
   refine a_int (u := .bool (decide (x5 < (x0.length : Int)))) ?_
   refine RA.nil nofun ?_
   by_cases hc2 : x5 < (x0.length : Int)
   ·rw [if_pos hc2] at H
    refine AG.yes rfl (decide_eq_true hc2) ?_
    refine AG.skip ?_
    refine AG.seq ?_
    refine AG.block ?_
    refine AG.seq ?_
    refine AG.region HM ?_
    refine a_move (v := vR _ _) ?_
    refine a_move (v := vI _) ?_
    by_cases hc3 : 0 ≤ x5
    ·rw [if_pos hc3] at H
     refine a_ixR (el := c60 (rd60 x0 x5)) ?_ ⟨hc3, hc2⟩ T61 Try.underlying29 (hel := R60 hc3 hc2)
     refine a_ldR (v := .agg [_, _]) ?_ T61
     refine a_move (v := vR _ _) ?_
     refine a_move (v := vI _) ?_
     by_cases hc4 : x5 < (x1.length : Int)
     ·rw [if_pos hc4] at H
      refine a_ixR (el := c60 (rd60 x1 x5)) ?_ ⟨hc3, hc4⟩ T61 Try.underlying29 (hel := R60 hc3 hc4)
      refine a_ldR (v := .agg [_, _]) ?_ T61
      obtain ⟨t5, e6, H⟩ := bindO H
      refine a_call (v := vB t5) (nk := []) (L := []) ?_ rfl (laws_eqPoint.ok e6) id (qg (qg qn)) trivial trivial trivial rfl
      refine a_un (u := .bool (!t5)) ?_
      refine RA.nil (fun _ => by kernel_rfl) ?_
      by_cases hc7 : t5 = true
      ·rw [if_pos hc7] at H
       refine AG.no rfl (congrArg Bool.not hc7) ?_
       refine AG.skip ?_
       refine AG.region HM ?_
       refine a_move (v := vI _) ?_
       refine a_int (u := .int .i64 (wrap64 (x5 + 1))) ?_
       refine a_move (v := vI _) ?_
       refine RA.nil nofun ?_
       exact AGr.canon id (ih0 _ (by omega) _ ⟨by omega, _, _, _, H, rfl⟩) ⟨rfl, rfl, rfl, trivial⟩ trivial rfl
      ·rw [if_neg hc7] at H
       refine AG.yes rfl (congrArg Bool.not (Bool.eq_false_iff.2 hc7)) ?_
       refine AG.seq ?_
       refine AG.region HM ?_
       refine a_move (v := vB _) ?_
       refine RA.nil nofun ?_
       refine AG.ret ?_
       obtain rfl := Option.some.inj H
       exact RetP.mk id ⟨rfl, trivial⟩ trivial rfl
     ·rw [if_neg hc4] at H
      cases H
    ·rw [if_neg hc3] at H
     cases H
   ·rw [if_neg hc2] at H
    refine AG.no rfl (decide_eq_false hc2) ?_
    refine AG.exit ?_
    refine AG.seq ?_
    refine AG.region HM ?_
    refine a_move (v := vB _) ?_
    refine RA.nil nofun ?_
    refine AG.ret ?_
    obtain rfl := Option.some.inj H
    exact RetP.mk id ⟨rfl, trivial⟩ trivial rfl
 ·rw [if_neg hc1] at H
  refine AG.yes rfl (bne_iff_ne.2 hc1) ?_
  refine AG.seq ?_
  refine AG.region HM ?_
  refine a_move (v := vB _) ?_
  refine RA.nil nofun ?_
  refine AG.ret ?_
  obtain rfl := Option.some.inj H
  exact RetP.mk id ⟨rfl, trivial⟩ trivial rfl
/-! ### laws_eqInt64S: function 22 -/
def laws_eqInt64S.l0 : Nat → List Int → List Int → Int → Option (Bool)
 | 0, _, _, _ => none
 | k + 1, x0, x1, x5 => if x5 < (x0.length : Int) then (if 0 ≤ x5 then (if x5 < (x1.length : Int) then (if (rd2 x0 x5) = (rd2 x1 x5) then (laws_eqInt64S.l0 k x0 x1 (wrap64 (x5 + 1))) else (some false)) else (none)) else (none)) else (some true)
def laws_eqInt64S.f (k : Nat) (l0 : List Int) (l1 : List Int) : Option (Bool) := if (l0.length : Int) = (l1.length : Int) then (laws_eqInt64S.l0 k l0 l1 0) else (some false)
set_option maxRecDepth 100000 in
theorem laws_eqInt64S.ok {k : Nat} {l0 : List Int} {l1 : List Int} {r : Bool} (H : laws_eqInt64S.f k l0 l1 = some r) : OkF Try.prog 22 [vR 2 (l0.map c2), vR 2 (l1.map c2)] [] (.c (.d (.v (.bool r)))) [] := by
 unfold laws_eqInt64S.f at H
 refine OkF.of (N := 26) (rs := [4]) (avs := [.c (.d (.v (.bool r)))]) Try.func22 rfl rfl (fun _ _ => results_tmp rfl _ _ _) (by decide) rfl rfl rfl rfl (fun w0 S => ?_)
 refine AG.seq ?_
 refine AG.region HM ?_
 refine a_move (v := vB _) ?_
 refine RA.nil nofun ?_
 refine AG.seq ?_
 refine AG.seq ?_
 refine AG.region HM ?_
 refine a_move (v := vR _ _) ?_
 refine a_lenR ?_ Try.underlying38
 refine a_move (v := vR _ _) ?_
 refine a_lenR ?_ Try.underlying38
 refine a_int (u := .bool (((l0.length : Int) != (l1.length : Int)))) ?_
 refine RA.nil nofun ?_
 by_cases hc1 : (l0.length : Int) = (l1.length : Int)
 ·rw [if_pos hc1] at H
  refine AG.no rfl (bne_eq_false_iff_eq.2 hc1) ?_
  refine AG.skip ?_
  refine AG.seq ?_
  refine AG.seq ?_
  refine AG.region HM ?_
  refine a_move (v := vI _) ?_
  refine RA.nil nofun ?_
  refine AG.block ?_
  refine AG.loop ?_
  obtain ⟨K0, hK0, gK0⟩ : ∃ K, k ≤ K ∧ K ≤ k := ⟨k, Nat.le_refl k, Nat.le_refl k⟩
  refine AGr.canon id (AGr.loopI (n := k) (fun k s => k ≤ K0 ∧ ∃ (x0 : List Int) (x1 : List Int) (x5 : Int), laws_eqInt64S.l0 k x0 x1 x5 = some r ∧ s = St.of [(0, vR 2 (x0.map c2)), (1, vR 2 (x1.map c2)), (5, vI x5)] []) ⟨hK0, _, _, _, H, rfl⟩ ?_ ?_) ⟨rfl, rfl, rfl, trivial⟩ trivial rfl
  ·rintro _ ⟨_, _, _, _, H, _⟩
   cases H
  ·clear H hK0
   rintro k ih0 _ ⟨hK0, x0, x1, x5, H, rfl⟩
   unfold laws_eqInt64S.l0 at H
   refine AG.seq ?_
   refine AG.seq ?_
   refine AG.region HM ?_
   refine a_move (v := vI _) ?_
   refine a_move (v := vR _ _) ?_
   refine a_lenR ?_ Try.underlying38
   refine a_int (u := .bool (decide (x5 < (x0.length : Int)))) ?_
   refine RA.nil nofun ?_
   by_cases hc2 : x5 < (x0.length : Int)
   ·rw [if_pos hc2] at H
    refine AG.yes rfl (decide_eq_true hc2) ?_
    refine AG.skip ?_
    refine AG.seq ?_
    refine AG.block ?_
    refine AG.seq ?_
    refine AG.region HM ?_
    refine a_move (v := vR _ _) ?_
    refine a_move (v := vI _) ?_
    by_cases hc3 : 0 ≤ x5
    ·rw [if_pos hc3] at H
     refine a_ixR (el := c2 (rd2 x0 x5)) ?_ ⟨hc3, hc2⟩ T2 Try.underlying38 (hel := R2 hc3 hc2)
     refine a_ldR (v := vI _) ?_ T2
     refine a_move (v := vR _ _) ?_
     refine a_move (v := vI _) ?_
     by_cases hc4 : x5 < (x1.length : Int)
     ·rw [if_pos hc4] at H
      refine a_ixR (el := c2 (rd2 x1 x5)) ?_ ⟨hc3, hc4⟩ T2 Try.underlying38 (hel := R2 hc3 hc4)
      refine a_ldR (v := vI _) ?_ T2
      refine a_int (u := .bool (((rd2 x0 x5) != (rd2 x1 x5)))) ?_
      refine RA.nil (fun _ => by kernel_rfl) ?_
      by_cases hc5 : (rd2 x0 x5) = (rd2 x1 x5)
      ·rw [if_pos hc5] at H
       refine AG.no rfl (bne_eq_false_iff_eq.2 hc5) ?_
       refine AG.skip ?_
       refine AG.region HM ?_
       refine a_move (v := vI _) ?_
       refine a_int (u := .int .i64 (wrap64 (x5 + 1))) ?_
       refine a_move (v := vI _) ?_
       refine RA.nil nofun ?_
       exact AGr.canon id (ih0 _ (by omega) _ ⟨by omega, _, _, _, H, rfl⟩) ⟨rfl, rfl, rfl, trivial⟩ trivial rfl
      ·rw [if_neg hc5] at H
       refine AG.yes rfl (bne_iff_ne.2 hc5) ?_
       refine AG.seq ?_
       refine AG.region HM ?_
       refine a_move (v := vB _) ?_
       refine RA.nil nofun ?_
       refine AG.ret ?_
       obtain rfl := Option.some.inj H
       exact RetP.mk id ⟨rfl, trivial⟩ trivial rfl
     ·rw [if_neg hc4] at H
      cases H
    ·rw [if_neg hc3] at H
     cases H
   ·rw [if_neg hc2] at H
    refine AG.no rfl (decide_eq_false hc2) ?_
    refine AG.exit ?_
    refine AG.seq ?_
    refine AG.region HM ?_
    refine a_move (v := vB _) ?_
    refine RA.nil nofun ?_
    refine AG.ret ?_
    obtain rfl := Option.some.inj H
    exact RetP.mk id ⟨rfl, trivial⟩ trivial rfl
 ·rw [if_neg hc1] at H
  refine AG.yes rfl (bne_iff_ne.2 hc1) ?_
  refine AG.seq ?_
  refine AG.region HM ?_
  refine a_move (v := vB _) ?_
  refine RA.nil nofun ?_
  refine AG.ret ?_
  obtain rfl := Option.some.inj H
  exact RetP.mk id ⟨rfl, trivial⟩ trivial rfl
/-! ### laws_eqFace: function 85 -/
def laws_eqFace.f (k : Nat) (a0_0 : ByteArray) (l0_1 : List Int) (a1_0 : ByteArray) (l1_1 : List Int) : Option (Bool) := if a0_0.toList = a1_0.toList then ((laws_eqInt64S.f k l0_1 l1_1).bind fun t2 => (if t2 = true then (some true) else (some false))) else (some false)
set_option maxRecDepth 100000 in
theorem laws_eqFace.ok {k : Nat} {a0_0 : ByteArray} {l0_1 : List Int} {a1_0 : ByteArray} {l1_1 : List Int} {r : Bool} (H : laws_eqFace.f k a0_0 l0_1 a1_0 l1_1 = some r) : OkF Try.prog 85 [.agg [.d (.v (.string a0_0)), .d (.row 2 (l0_1.map c2))], .agg [.d (.v (.string a1_0)), .d (.row 2 (l1_1.map c2))]] [] (.c (.d (.v (.bool r)))) [] := by
 unfold laws_eqFace.f at H
 refine OkF.of (N := 16) (rs := [4]) (avs := [.c (.d (.v (.bool r)))]) Try.func85 rfl rfl (fun _ _ => results_tmp rfl _ _ _) (by decide) rfl rfl rfl rfl (fun w0 S => ?_)
 refine AG.seq ?_
 refine AG.region HM ?_
 refine a_box 200 ?_
 refine a_box 201 ?_
 refine a_move (v := vB _) ?_
 refine RA.nil nofun ?_
 refine AG.seq ?_
 refine AG.seq ?_
 refine AG.region HM ?_
 refine a_faB (q := 0) ?_ D96_0
 refine a_ldB (v := vS _) ?_ T9
 refine a_faB (q := 0) ?_ D96_0
 refine a_ldB (v := vS _) ?_ T9
 refine a_bin (u := .bool (!(a0_0.toList == a1_0.toList))) ?_
 refine RA.nil nofun ?_
 by_cases hc1 : a0_0.toList = a1_0.toList
 ·rw [if_pos hc1] at H
  refine AG.no rfl (by rw [beq_iff_eq.2 hc1]; rfl) ?_
  refine AG.skip ?_
  refine AG.seq ?_
  refine AG.seq ?_
  refine AG.region HM ?_
  refine a_faB (q := 1) ?_ D96_1
  refine a_ldB (v := vR _ _) ?_ T38
  refine a_faB (q := 1) ?_ D96_1
  refine a_ldB (v := vR _ _) ?_ T38
  obtain ⟨t2, e3, H⟩ := bindO H
  refine a_call (v := vB t2) (nk := []) (L := []) ?_ rfl (laws_eqInt64S.ok e3) id (qd (qd qn)) trivial trivial trivial rfl
  refine a_un (u := .bool (!t2)) ?_
  refine RA.nil nofun ?_
  by_cases hc4 : t2 = true
  ·rw [if_pos hc4] at H
   refine AG.no rfl (congrArg Bool.not hc4) ?_
   refine AG.skip ?_
   refine AG.seq ?_
   refine AG.region HM ?_
   refine a_move (v := vB _) ?_
   refine RA.nil nofun ?_
   refine AG.ret ?_
   obtain rfl := Option.some.inj H
   exact RetP.mk id ⟨rfl, trivial⟩ trivial rfl
  ·rw [if_neg hc4] at H
   refine AG.yes rfl (congrArg Bool.not (Bool.eq_false_iff.2 hc4)) ?_
   refine AG.seq ?_
   refine AG.region HM ?_
   refine a_move (v := vB _) ?_
   refine RA.nil nofun ?_
   refine AG.ret ?_
   obtain rfl := Option.some.inj H
   exact RetP.mk id ⟨rfl, trivial⟩ trivial rfl
 ·rw [if_neg hc1] at H
  refine AG.yes rfl (by rw [beq_eq_false_iff_ne.2 hc1]; rfl) ?_
  refine AG.seq ?_
  refine AG.region HM ?_
  refine a_move (v := vB _) ?_
  refine RA.nil nofun ?_
  refine AG.ret ?_
  obtain rfl := Option.some.inj H
  exact RetP.mk id ⟨rfl, trivial⟩ trivial rfl
/-! ### laws_eqFaceS: function 47 -/
def laws_eqFaceS.l0 : Nat → List S91 → List S91 → Int → Option (Bool)
 | 0, _, _, _ => none
 | k + 1, x0, x1, x5 => if x5 < (x0.length : Int) then (if 0 ≤ x5 then (if x5 < (x1.length : Int) then ((laws_eqFace.f k ((rd91 x0 x5).f0) ((rd91 x0 x5).f1) ((rd91 x1 x5).f0) ((rd91 x1 x5).f1)).bind fun t5 => (if t5 = true then (laws_eqFaceS.l0 k x0 x1 (wrap64 (x5 + 1))) else (some false))) else (none)) else (none)) else (some true)
def laws_eqFaceS.f (k : Nat) (l0 : List S91) (l1 : List S91) : Option (Bool) := if (l0.length : Int) = (l1.length : Int) then (laws_eqFaceS.l0 k l0 l1 0) else (some false)
set_option maxRecDepth 100000 in
theorem laws_eqFaceS.ok {k : Nat} {l0 : List S91} {l1 : List S91} {r : Bool} (H : laws_eqFaceS.f k l0 l1 = some r) : OkF Try.prog 47 [vR 96 (l0.map c91), vR 96 (l1.map c91)] [] (.c (.d (.v (.bool r)))) [] := by
 unfold laws_eqFaceS.f at H
 refine OkF.of (N := 27) (rs := [4]) (avs := [.c (.d (.v (.bool r)))]) Try.func47 rfl rfl (fun _ _ => results_tmp rfl _ _ _) (by decide) rfl rfl rfl rfl (fun w0 S => ?_)
 refine AG.seq ?_
 refine AG.region HM ?_
 refine a_move (v := vB _) ?_
 refine RA.nil nofun ?_
 refine AG.seq ?_
 refine AG.seq ?_
 refine AG.region HM ?_
 refine a_move (v := vR _ _) ?_
 refine a_lenR ?_ Try.underlying30
 refine a_move (v := vR _ _) ?_
 refine a_lenR ?_ Try.underlying30
 refine a_int (u := .bool (((l0.length : Int) != (l1.length : Int)))) ?_
 refine RA.nil nofun ?_
 by_cases hc1 : (l0.length : Int) = (l1.length : Int)
 ·rw [if_pos hc1] at H
  refine AG.no rfl (bne_eq_false_iff_eq.2 hc1) ?_
  refine AG.skip ?_
  refine AG.seq ?_
  refine AG.seq ?_
  refine AG.region HM ?_
  refine a_move (v := vI _) ?_
  refine RA.nil nofun ?_
  refine AG.block ?_
  refine AG.loop ?_
  obtain ⟨K0, hK0, gK0⟩ : ∃ K, k ≤ K ∧ K ≤ k := ⟨k, Nat.le_refl k, Nat.le_refl k⟩
  refine AGr.canon id (AGr.loopI (n := k) (fun k s => k ≤ K0 ∧ ∃ (x0 : List S91) (x1 : List S91) (x5 : Int), laws_eqFaceS.l0 k x0 x1 x5 = some r ∧ s = St.of [(0, vR 96 (x0.map c91)), (1, vR 96 (x1.map c91)), (5, vI x5)] []) ⟨hK0, _, _, _, H, rfl⟩ ?_ ?_) ⟨rfl, rfl, rfl, trivial⟩ trivial rfl
  ·rintro _ ⟨_, _, _, _, H, _⟩
   cases H
  ·clear H hK0
   rintro k ih0 _ ⟨hK0, x0, x1, x5, H, rfl⟩
   unfold laws_eqFaceS.l0 at H
   refine AG.seq ?_
   refine AG.seq ?_
   refine AG.region HM ?_
   refine a_move (v := vI _) ?_
   refine a_move (v := vR _ _) ?_
   refine a_lenR ?_ Try.underlying30
   refine a_int (u := .bool (decide (x5 < (x0.length : Int)))) ?_
   refine RA.nil nofun ?_
   by_cases hc2 : x5 < (x0.length : Int)
   ·rw [if_pos hc2] at H
    refine AG.yes rfl (decide_eq_true hc2) ?_
    refine AG.skip ?_
    refine AG.seq ?_
    refine AG.block ?_
    refine AG.seq ?_
    refine AG.region HM ?_
    refine a_move (v := vR _ _) ?_
    refine a_move (v := vI _) ?_
    by_cases hc3 : 0 ≤ x5
    ·rw [if_pos hc3] at H
     refine a_ixR (el := c91 (rd91 x0 x5)) ?_ ⟨hc3, hc2⟩ T96 Try.underlying30 (hel := R91 hc3 hc2)
     refine a_ldR (v := .agg [_, _]) ?_ T96
     refine a_move (v := vR _ _) ?_
     refine a_move (v := vI _) ?_
     by_cases hc4 : x5 < (x1.length : Int)
     ·rw [if_pos hc4] at H
      refine a_ixR (el := c91 (rd91 x1 x5)) ?_ ⟨hc3, hc4⟩ T96 Try.underlying30 (hel := R91 hc3 hc4)
      refine a_ldR (v := .agg [_, _]) ?_ T96
      obtain ⟨t5, e6, H⟩ := bindO H
      refine a_call (v := vB t5) (nk := []) (L := []) ?_ rfl (laws_eqFace.ok e6) id (qg (qg qn)) trivial trivial trivial rfl
      refine a_un (u := .bool (!t5)) ?_
      refine RA.nil (fun _ => by kernel_rfl) ?_
      by_cases hc7 : t5 = true
      ·rw [if_pos hc7] at H
       refine AG.no rfl (congrArg Bool.not hc7) ?_
       refine AG.skip ?_
       refine AG.region HM ?_
       refine a_move (v := vI _) ?_
       refine a_int (u := .int .i64 (wrap64 (x5 + 1))) ?_
       refine a_move (v := vI _) ?_
       refine RA.nil nofun ?_
       exact AGr.canon id (ih0 _ (by omega) _ ⟨by omega, _, _, _, H, rfl⟩) ⟨rfl, rfl, rfl, trivial⟩ trivial rfl
      ·rw [if_neg hc7] at H
       refine AG.yes rfl (congrArg Bool.not (Bool.eq_false_iff.2 hc7)) ?_
       refine AG.seq ?_
       refine AG.region HM ?_
       refine a_move (v := vB _) ?_
       refine RA.nil nofun ?_
       refine AG.ret ?_
       obtain rfl := Option.some.inj H
       exact RetP.mk id ⟨rfl, trivial⟩ trivial rfl
     ·rw [if_neg hc4] at H
      cases H
    ·rw [if_neg hc3] at H
     cases H
   ·rw [if_neg hc2] at H
    refine AG.no rfl (decide_eq_false hc2) ?_
    refine AG.exit ?_
    refine AG.seq ?_
    refine AG.region HM ?_
    refine a_move (v := vB _) ?_
    refine RA.nil nofun ?_
    refine AG.ret ?_
    obtain rfl := Option.some.inj H
    exact RetP.mk id ⟨rfl, trivial⟩ trivial rfl
 ·rw [if_neg hc1] at H
  refine AG.yes rfl (bne_iff_ne.2 hc1) ?_
  refine AG.seq ?_
  refine AG.region HM ?_
  refine a_move (v := vB _) ?_
  refine RA.nil nofun ?_
  refine AG.ret ?_
  obtain rfl := Option.some.inj H
  exact RetP.mk id ⟨rfl, trivial⟩ trivial rfl
/-! ### laws_eqDrawing: function 16 -/
def laws_eqDrawing.f (k : Nat) (a0_0 : Int) (a0_1 : Int) (l0_2 : List S60) (l0_3 : List S91) (a1_0 : Int) (a1_1 : Int) (l1_2 : List S60) (l1_3 : List S91) : Option (Bool) := if a0_0 = a1_0 then (if a0_1 = a1_1 then ((laws_eqPointS.f k l0_2 l1_2).bind fun t3 => (if t3 = true then ((laws_eqFaceS.f k l0_3 l1_3).bind fun t6 => (if t6 = true then (some true) else (some false))) else (some false))) else (some false)) else (some false)
set_option maxRecDepth 100000 in
theorem laws_eqDrawing.ok {k : Nat} {a0_0 : Int} {a0_1 : Int} {l0_2 : List S60} {l0_3 : List S91} {a1_0 : Int} {a1_1 : Int} {l1_2 : List S60} {l1_3 : List S91} {r : Bool} (H : laws_eqDrawing.f k a0_0 a0_1 l0_2 l0_3 a1_0 a1_1 l1_2 l1_3 = some r) : OkF Try.prog 16 [.agg [.d (.v (.int .i64 a0_0)), .d (.v (.int .i64 a0_1)), .d (.row 61 (l0_2.map c60)), .d (.row 96 (l0_3.map c91))], .agg [.d (.v (.int .i64 a1_0)), .d (.v (.int .i64 a1_1)), .d (.row 61 (l1_2.map c60)), .d (.row 96 (l1_3.map c91))]] [] (.c (.d (.v (.bool r)))) [] := by
 unfold laws_eqDrawing.f at H
 refine OkF.of (N := 27) (rs := [4]) (avs := [.c (.d (.v (.bool r)))]) Try.func16 rfl rfl (fun _ _ => results_tmp rfl _ _ _) (by decide) rfl rfl rfl rfl (fun w0 S => ?_)
 refine AG.seq ?_
 refine AG.region HM ?_
 refine a_box 200 ?_
 refine a_box 201 ?_
 refine a_move (v := vB _) ?_
 refine RA.nil nofun ?_
 refine AG.seq ?_
 refine AG.seq ?_
 refine AG.region HM ?_
 refine a_faB (q := 0) ?_ D32_0
 refine a_ldB (v := vI _) ?_ T2
 refine a_faB (q := 0) ?_ D32_0
 refine a_ldB (v := vI _) ?_ T2
 refine a_int (u := .bool ((a0_0 != a1_0))) ?_
 refine RA.nil nofun ?_
 by_cases hc1 : a0_0 = a1_0
 ·rw [if_pos hc1] at H
  refine AG.no rfl (bne_eq_false_iff_eq.2 hc1) ?_
  refine AG.skip ?_
  refine AG.seq ?_
  refine AG.seq ?_
  refine AG.region HM ?_
  refine a_faB (q := 1) ?_ D32_1
  refine a_ldB (v := vI _) ?_ T2
  refine a_faB (q := 1) ?_ D32_1
  refine a_ldB (v := vI _) ?_ T2
  refine a_int (u := .bool ((a0_1 != a1_1))) ?_
  refine RA.nil nofun ?_
  by_cases hc2 : a0_1 = a1_1
  ·rw [if_pos hc2] at H
   refine AG.no rfl (bne_eq_false_iff_eq.2 hc2) ?_
   refine AG.skip ?_
   refine AG.seq ?_
   refine AG.seq ?_
   refine AG.region HM ?_
   refine a_faB (q := 2) ?_ D32_2
   refine a_ldB (v := vR _ _) ?_ T29
   refine a_faB (q := 2) ?_ D32_2
   refine a_ldB (v := vR _ _) ?_ T29
   obtain ⟨t3, e4, H⟩ := bindO H
   refine a_call (v := vB t3) (nk := []) (L := []) ?_ rfl (laws_eqPointS.ok e4) id (qd (qd qn)) trivial trivial trivial rfl
   refine a_un (u := .bool (!t3)) ?_
   refine RA.nil nofun ?_
   by_cases hc5 : t3 = true
   ·rw [if_pos hc5] at H
    refine AG.no rfl (congrArg Bool.not hc5) ?_
    refine AG.skip ?_
    refine AG.seq ?_
    refine AG.seq ?_
    refine AG.region HM ?_
    refine a_faB (q := 3) ?_ D32_3
    refine a_ldB (v := vR _ _) ?_ T30
    refine a_faB (q := 3) ?_ D32_3
    refine a_ldB (v := vR _ _) ?_ T30
    obtain ⟨t6, e7, H⟩ := bindO H
    refine a_call (v := vB t6) (nk := []) (L := []) ?_ rfl (laws_eqFaceS.ok e7) id (qd (qd qn)) trivial trivial trivial rfl
    refine a_un (u := .bool (!t6)) ?_
    refine RA.nil nofun ?_
    by_cases hc8 : t6 = true
    ·rw [if_pos hc8] at H
     refine AG.no rfl (congrArg Bool.not hc8) ?_
     refine AG.skip ?_
     refine AG.seq ?_
     refine AG.region HM ?_
     refine a_move (v := vB _) ?_
     refine RA.nil nofun ?_
     refine AG.ret ?_
     obtain rfl := Option.some.inj H
     exact RetP.mk id ⟨rfl, trivial⟩ trivial rfl
    ·rw [if_neg hc8] at H
     refine AG.yes rfl (congrArg Bool.not (Bool.eq_false_iff.2 hc8)) ?_
     refine AG.seq ?_
     refine AG.region HM ?_
     refine a_move (v := vB _) ?_
     refine RA.nil nofun ?_
     refine AG.ret ?_
     obtain rfl := Option.some.inj H
     exact RetP.mk id ⟨rfl, trivial⟩ trivial rfl
   ·rw [if_neg hc5] at H
    refine AG.yes rfl (congrArg Bool.not (Bool.eq_false_iff.2 hc5)) ?_
    refine AG.seq ?_
    refine AG.region HM ?_
    refine a_move (v := vB _) ?_
    refine RA.nil nofun ?_
    refine AG.ret ?_
    obtain rfl := Option.some.inj H
    exact RetP.mk id ⟨rfl, trivial⟩ trivial rfl
  ·rw [if_neg hc2] at H
   refine AG.yes rfl (bne_iff_ne.2 hc2) ?_
   refine AG.seq ?_
   refine AG.region HM ?_
   refine a_move (v := vB _) ?_
   refine RA.nil nofun ?_
   refine AG.ret ?_
   obtain rfl := Option.some.inj H
   exact RetP.mk id ⟨rfl, trivial⟩ trivial rfl
 ·rw [if_neg hc1] at H
  refine AG.yes rfl (bne_iff_ne.2 hc1) ?_
  refine AG.seq ?_
  refine AG.region HM ?_
  refine a_move (v := vB _) ?_
  refine RA.nil nofun ?_
  refine AG.ret ?_
  obtain rfl := Option.some.inj H
  exact RetP.mk id ⟨rfl, trivial⟩ trivial rfl
/-! ### laws_markPointS: function 59 -/
def laws_markPointS.l0 : Nat → List S60 → Int → Int → Option (Int × (List S60))
 | 0, _, _, _ => none
 | k + 1, x0, x1, x5 => if x5 < (x0.length : Int) then (if 0 ≤ x5 then ((some (x0.set (x5 : Int).toNat (⟨x1, (rd60 x0 x5).f1⟩ : S60) : List S60)).bind fun y3 => (laws_markPointS.l0 k (y3.set (x5 : Int).toNat (⟨(rd60 y3 x5).f0, wrap64 (x1 + 1)⟩ : S60)) (wrap64 ((wrap64 (x1 + 1)) + 1)) (wrap64 (x5 + 1)))) else (none)) else (some (x1, x0))
def laws_markPointS.f (k : Nat) (l0 : List S60) (a1 : Int) : Option (Int × (List S60)) := laws_markPointS.l0 k l0 a1 0
set_option maxRecDepth 100000 in
theorem laws_markPointS.ok {k : Nat} {l0 : List S60} {a1 : Int} {r0 : Int} {r1 : List S60} (H : laws_markPointS.f k l0 a1 = some (r0, r1)) : OkF Try.prog 59 [.c (.own 0 l0.length), vI a1] [(0, .row 61 (l0.map c60))] (.c (.d (.v (.int .i64 r0)))) [(0, .row 61 (r1.map c60))] := by
 unfold laws_markPointS.f at H
 refine OkF.of (N := 27) (rs := [4]) (avs := [.c (.d (.v (.int .i64 r0)))]) Try.func59 rfl rfl (fun _ _ => results_tmp rfl _ _ _) (by decide) rfl rfl rfl rfl (fun w0 S => ?_)
 refine AG.seq ?_
 refine AG.region HM ?_
 refine a_move (v := vI _) ?_
 refine RA.nil nofun ?_
 refine AG.seq ?_
 refine AG.seq ?_
 refine AG.region HM ?_
 refine a_move (v := vI _) ?_
 refine RA.nil nofun ?_
 refine AG.block ?_
 refine AG.loop ?_
 obtain ⟨K0, hK0, gK0⟩ : ∃ K, k ≤ K ∧ K ≤ k := ⟨k, Nat.le_refl k, Nat.le_refl k⟩
 refine AGr.canon id (AGr.loopI (n := k) (fun k s => k ≤ K0 ∧ ∃ (x0 : List S60) (x1 : Int) (x5 : Int), laws_markPointS.l0 k x0 x1 x5 = some (r0, r1) ∧ s = St.of [(0, .c (.own 0 x0.length)), (1, vI x1), (5, vI x5)] [(0, .row 61 (x0.map c60))]) ⟨hK0, _, _, _, H, rfl⟩ ?_ ?_) ⟨rfl, rfl, rfl, trivial⟩ ⟨rfl, trivial⟩ rfl
 ·rintro _ ⟨_, _, _, _, H, _⟩
  cases H
 ·clear H hK0
  rintro k ih0 _ ⟨hK0, x0, x1, x5, H, rfl⟩
  unfold laws_markPointS.l0 at H
  refine AG.seq ?_
  refine AG.seq ?_
  refine AG.region HM ?_
  refine a_move (v := vI _) ?_
  refine a_move (v := .c (.own _ _)) ?_
  refine a_lenO ?_ Try.underlying29
  refine a_int (u := .bool (decide (x5 < (x0.length : Int)))) ?_
  refine RA.nil nofun ?_
  by_cases hc1 : x5 < (x0.length : Int)
  ·rw [if_pos hc1] at H
   refine AG.yes rfl (decide_eq_true hc1) ?_
   refine AG.skip ?_
   refine AG.seq ?_
   refine AG.block ?_
   refine AG.seq ?_
   refine AG.region HM ?_
   refine a_move (v := .c (.own _ _)) ?_
   refine a_move (v := vI _) ?_
   refine a_move (v := vI _) ?_
   by_cases hc2 : 0 ≤ x5
   ·rw [if_pos hc2] at H
    refine a_ixO ?_ ⟨hc2, hc1⟩ T61 Try.underlying29
    refine a_faE (q := 0) ?_ D61_0
    obtain ⟨y3, ey3, H⟩ := bindO H
    have ey3 := Option.some.inj ey3
    refine a_stF (css' := y3.map c60) ?_ (flat_map (fun _ => rfl)) (G60 hc2 hc1) T2 (hcss := by rw [← ey3]; exact set_map rfl)
    refine RA.nil nofun ?_
    refine AG.seq ?_
    refine AG.region HM ?_
    refine a_move (v := vI _) ?_
    refine a_int (u := .int .i64 (wrap64 (x1 + 1))) ?_
    refine a_move (v := vI _) ?_
    refine RA.nil nofun ?_
    refine AG.seq ?_
    refine AG.region HM ?_
    refine a_move (v := .c (.own _ _)) ?_
    refine a_move (v := vI _) ?_
    refine a_move (v := vI _) ?_
    refine a_ixO ?_ ⟨hc2, hc1⟩ T61 Try.underlying29
    refine a_faE (q := 1) ?_ D61_1
    refine a_stF (css' := (y3.set (x5 : Int).toNat (⟨(rd60 y3 x5).f0, wrap64 (x1 + 1)⟩ : S60)).map c60) ?_ (flat_map (fun _ => rfl)) (G60 (l := y3) (i := x5) hc2 (by rw [← ey3]; simpa using hc1)) T2 (hcss := by exact set_map rfl)
    refine RA.nil nofun ?_
    refine AG.region HM ?_
    refine a_move (v := vI _) ?_
    refine a_int (u := .int .i64 (wrap64 ((wrap64 (x1 + 1)) + 1))) ?_
    refine a_move (v := vI _) ?_
    refine RA.nil nofun ?_
    refine AG.region HM ?_
    refine a_move (v := vI _) ?_
    refine a_int (u := .int .i64 (wrap64 (x5 + 1))) ?_
    refine a_move (v := vI _) ?_
    refine RA.nil nofun ?_
    exact AGr.canon id (ih0 _ (by omega) _ ⟨by omega, _, _, _, H, rfl⟩) ⟨(ownE rfl (by rw [← ey3]; simp)), rfl, rfl, trivial⟩ ⟨rfl, trivial⟩ rfl
   ·rw [if_neg hc2] at H
    cases H
  ·rw [if_neg hc1] at H
   refine AG.no rfl (decide_eq_false hc1) ?_
   refine AG.exit ?_
   refine AG.seq ?_
   refine AG.region HM ?_
   refine a_move (v := vI _) ?_
   refine a_move (v := vI _) ?_
   refine RA.nil nofun ?_
   refine AG.ret ?_
   simp only [Option.some.injEq, Prod.mk.injEq] at H
   obtain ⟨rfl, rfl⟩ := H
   exact RetP.mk (fun κ => cond (Nat.beq κ 0) 0 (κ)) ⟨rfl, trivial⟩ ⟨rfl, trivial⟩ rfl
/-! ### laws_markInt64S: function 24 -/
def laws_markInt64S.l0 : Nat → List Int → Int → Int → Option (Int × (List Int))
 | 0, _, _, _ => none
 | k + 1, x0, x1, x5 => if x5 < (x0.length : Int) then (if 0 ≤ x5 then (laws_markInt64S.l0 k (x0.set (x5 : Int).toNat x1) (wrap64 (x1 + 1)) (wrap64 (x5 + 1))) else (none)) else (some (x1, x0))
def laws_markInt64S.f (k : Nat) (l0 : List Int) (a1 : Int) : Option (Int × (List Int)) := laws_markInt64S.l0 k l0 a1 0
set_option maxRecDepth 100000 in
theorem laws_markInt64S.ok {k : Nat} {l0 : List Int} {a1 : Int} {r0 : Int} {r1 : List Int} (H : laws_markInt64S.f k l0 a1 = some (r0, r1)) : OkF Try.prog 24 [.c (.own 0 l0.length), vI a1] [(0, .row 2 (l0.map c2))] (.c (.d (.v (.int .i64 r0)))) [(0, .row 2 (r1.map c2))] := by
 unfold laws_markInt64S.f at H
 refine OkF.of (N := 19) (rs := [4]) (avs := [.c (.d (.v (.int .i64 r0)))]) Try.func24 rfl rfl (fun _ _ => results_tmp rfl _ _ _) (by decide) rfl rfl rfl rfl (fun w0 S => ?_)
 refine AG.seq ?_
 refine AG.region HM ?_
 refine a_move (v := vI _) ?_
 refine RA.nil nofun ?_
 refine AG.seq ?_
 refine AG.seq ?_
 refine AG.region HM ?_
 refine a_move (v := vI _) ?_
 refine RA.nil nofun ?_
 refine AG.block ?_
 refine AG.loop ?_
 obtain ⟨K0, hK0, gK0⟩ : ∃ K, k ≤ K ∧ K ≤ k := ⟨k, Nat.le_refl k, Nat.le_refl k⟩
 refine AGr.canon id (AGr.loopI (n := k) (fun k s => k ≤ K0 ∧ ∃ (x0 : List Int) (x1 : Int) (x5 : Int), laws_markInt64S.l0 k x0 x1 x5 = some (r0, r1) ∧ s = St.of [(0, .c (.own 0 x0.length)), (1, vI x1), (5, vI x5)] [(0, .row 2 (x0.map c2))]) ⟨hK0, _, _, _, H, rfl⟩ ?_ ?_) ⟨rfl, rfl, rfl, trivial⟩ ⟨rfl, trivial⟩ rfl
 ·rintro _ ⟨_, _, _, _, H, _⟩
  cases H
 ·clear H hK0
  rintro k ih0 _ ⟨hK0, x0, x1, x5, H, rfl⟩
  unfold laws_markInt64S.l0 at H
  refine AG.seq ?_
  refine AG.seq ?_
  refine AG.region HM ?_
  refine a_move (v := vI _) ?_
  refine a_move (v := .c (.own _ _)) ?_
  refine a_lenO ?_ Try.underlying38
  refine a_int (u := .bool (decide (x5 < (x0.length : Int)))) ?_
  refine RA.nil nofun ?_
  by_cases hc1 : x5 < (x0.length : Int)
  ·rw [if_pos hc1] at H
   refine AG.yes rfl (decide_eq_true hc1) ?_
   refine AG.skip ?_
   refine AG.seq ?_
   refine AG.block ?_
   refine AG.seq ?_
   refine AG.region HM ?_
   refine a_move (v := .c (.own _ _)) ?_
   refine a_move (v := vI _) ?_
   refine a_move (v := vI _) ?_
   by_cases hc2 : 0 ≤ x5
   ·rw [if_pos hc2] at H
    refine a_ixO ?_ ⟨hc2, hc1⟩ T2 Try.underlying38
    refine a_stF (css' := (x0.set (x5 : Int).toNat x1).map c2) ?_ (flat_map (fun _ => rfl)) (G2 hc2 hc1) T2 (hcss := by exact set_map rfl)
    refine RA.nil nofun ?_
    refine AG.region HM ?_
    refine a_move (v := vI _) ?_
    refine a_int (u := .int .i64 (wrap64 (x1 + 1))) ?_
    refine a_move (v := vI _) ?_
    refine RA.nil nofun ?_
    refine AG.region HM ?_
    refine a_move (v := vI _) ?_
    refine a_int (u := .int .i64 (wrap64 (x5 + 1))) ?_
    refine a_move (v := vI _) ?_
    refine RA.nil nofun ?_
    exact AGr.canon id (ih0 _ (by omega) _ ⟨by omega, _, _, _, H, rfl⟩) ⟨(ownE rfl (by simp)), rfl, rfl, trivial⟩ ⟨rfl, trivial⟩ rfl
   ·rw [if_neg hc2] at H
    cases H
  ·rw [if_neg hc1] at H
   refine AG.no rfl (decide_eq_false hc1) ?_
   refine AG.exit ?_
   refine AG.seq ?_
   refine AG.region HM ?_
   refine a_move (v := vI _) ?_
   refine a_move (v := vI _) ?_
   refine RA.nil nofun ?_
   refine AG.ret ?_
   simp only [Option.some.injEq, Prod.mk.injEq] at H
   obtain ⟨rfl, rfl⟩ := H
   exact RetP.mk (fun κ => cond (Nat.beq κ 0) 0 (κ)) ⟨rfl, trivial⟩ ⟨rfl, trivial⟩ rfl
/-! ### laws_markText: function 99 -/
def laws_markText.l0 : Nat → Int → ByteArray → Option (ByteArray)
 | 0, _, _ => none
 | k + 1, x0, x3 => if x0 > 0 then ((some ([(wrap64 (48 + (Int.tmod x0 10))) % 256] : List Int)).bind fun y3 => (if (bs y3).size + x3.size ≤ 9223372036854775807 then (laws_markText.l0 k (wrap64 (Int.tdiv x0 10)) ((bs y3) ++ x3)) else (none))) else (if (⟨#[109]⟩ : ByteArray).size + x3.size ≤ 9223372036854775807 then (some ((⟨#[109]⟩ : ByteArray) ++ x3)) else (none))
def laws_markText.f (k : Nat) (a0 : Int) : Option (ByteArray) := if a0 ≤ 0 then (some (⟨#[109, 48]⟩ : ByteArray)) else (laws_markText.l0 k a0 (⟨#[]⟩ : ByteArray))
set_option maxRecDepth 100000 in
theorem laws_markText.ok {k : Nat} {a0 : Int} {r : ByteArray} (H : laws_markText.f k a0 = some r) : OkF Try.prog 99 [vI a0] [] (.c (.d (.v (.string r)))) [] := by
 unfold laws_markText.f at H
 refine OkF.of (N := 20) (rs := [2]) (avs := [.c (.d (.v (.string r)))]) Try.func99 rfl rfl (fun _ _ => results_tmp rfl _ _ _) (by decide) rfl rfl rfl rfl (fun w0 S => ?_)
 refine AG.seq ?_
 refine AG.region HM ?_
 refine a_move (v := vS _) ?_
 refine RA.nil nofun ?_
 refine AG.seq ?_
 refine AG.seq ?_
 refine AG.region HM ?_
 refine a_move (v := vI _) ?_
 refine a_int (u := .bool (decide (a0 ≤ 0))) ?_
 refine RA.nil nofun ?_
 by_cases hc1 : a0 ≤ 0
 ·rw [if_pos hc1] at H
  refine AG.yes rfl (decide_eq_true hc1) ?_
  refine AG.seq ?_
  refine AG.region HM ?_
  refine a_move (v := vS _) ?_
  refine RA.nil nofun ?_
  refine AG.ret ?_
  obtain rfl := Option.some.inj H
  exact RetP.mk id ⟨rfl, trivial⟩ trivial rfl
 ·rw [if_neg hc1] at H
  refine AG.no rfl (decide_eq_false hc1) ?_
  refine AG.skip ?_
  refine AG.seq ?_
  refine AG.region HM ?_
  refine a_move (v := vS _) ?_
  refine RA.nil nofun ?_
  refine AG.seq ?_
  refine AG.block ?_
  refine AG.loop ?_
  obtain ⟨K0, hK0, gK0⟩ : ∃ K, k ≤ K ∧ K ≤ k := ⟨k, Nat.le_refl k, Nat.le_refl k⟩
  refine AGr.canon id (AGr.loopI (n := k) (fun k s => k ≤ K0 ∧ ∃ (x0 : Int) (x3 : ByteArray), laws_markText.l0 k x0 x3 = some r ∧ s = St.of [(0, vI x0), (3, vS x3)] []) ⟨hK0, _, _, H, rfl⟩ ?_ ?_) ⟨rfl, rfl, trivial⟩ trivial rfl
  ·rintro _ ⟨_, _, _, H, _⟩
   cases H
  ·clear H hK0
   rintro k ih0 _ ⟨hK0, x0, x3, H, rfl⟩
   unfold laws_markText.l0 at H
   refine AG.seq ?_
   refine AG.seq ?_
   refine AG.region HM ?_
   refine a_move (v := vI _) ?_
   refine a_int (u := .bool (decide (x0 > 0))) ?_
   refine RA.nil nofun ?_
   by_cases hc2 : x0 > 0
   ·rw [if_pos hc2] at H
    refine AG.yes rfl (decide_eq_true hc2) ?_
    refine AG.skip ?_
    refine AG.block ?_
    refine AG.seq ?_
    refine AG.region HM ?_
    refine a_move (v := vI _) ?_
    refine a_rem (r := Int.tmod x0 10) ?_ (show ¬ (10 : Int) = 0 from by decide)
    refine a_int (u := .int .i64 (wrap64 (48 + (Int.tmod x0 10)))) ?_
    refine a_conv (j := (wrap64 (48 + (Int.tmod x0 10))) % 256) ?_ Try.underlying3 Try.underlying5
    obtain ⟨y3, ey3, H⟩ := bindO H
    have ey3 := Option.some.inj ey3
    refine a_lit (cs := [_]) (D := []) (css := y3.map c5) 200 ?_ N127 T5 (hcss := by rw [← ey3]; rfl)
    refine a_b2s y3 ?_ Try.underlying127 Try.underlying5 Try.underlying9
    refine a_move (v := vS _) ?_
    by_cases hc4 : (bs y3).size + x3.size ≤ 9223372036854775807
    ·rw [if_pos hc4] at H
     refine a_bin (u := .string ((bs y3) ++ x3)) ?_ (hp := by exact hc4)
     refine a_move (v := vS _) ?_
     refine RA.nil nofun ?_
     refine AG.region HM ?_
     refine a_move (v := vI _) ?_
     refine a_quo (r := wrap64 (Int.tdiv x0 10)) ?_ (show ¬ (10 : Int) = 0 from by decide)
     refine a_move (v := vI _) ?_
     refine RA.nil nofun ?_
     exact AGr.canon id (ih0 _ (by omega) _ ⟨by omega, _, _, H, rfl⟩) ⟨rfl, rfl, trivial⟩ trivial rfl
    ·rw [if_neg hc4] at H
     cases H
   ·rw [if_neg hc2] at H
    refine AG.no rfl (decide_eq_false hc2) ?_
    refine AG.exit ?_
    refine AG.seq ?_
    refine AG.region HM ?_
    refine a_move (v := vS _) ?_
    by_cases hc5 : (⟨#[109]⟩ : ByteArray).size + x3.size ≤ 9223372036854775807
    ·rw [if_pos hc5] at H
     refine a_bin (u := .string ((⟨#[109]⟩ : ByteArray) ++ x3)) ?_ (hp := by exact hc5)
     refine a_move (v := vS _) ?_
     refine RA.nil nofun ?_
     refine AG.ret ?_
     obtain rfl := Option.some.inj H
     exact RetP.mk id ⟨rfl, trivial⟩ trivial rfl
    ·rw [if_neg hc5] at H
     cases H
/-! ### laws_markFaceS: function 60 -/
def laws_markFaceS.l0 : Nat → List S91 → Int → Int → Option (Int × (List S91))
 | 0, _, _, _ => none
 | k + 1, x0, x1, x5 => if x5 < (x0.length : Int) then ((laws_markText.f k x1).bind fun t2 => (if 0 ≤ x5 then ((some (x0.set (x5 : Int).toNat (⟨t2, (rd91 x0 x5).f1⟩ : S91) : List S91)).bind fun y5 => ((laws_markInt64S.f k ((rd91 y5 x5).f1) (wrap64 (x1 + 1))).bind fun bt6 => (laws_markFaceS.l0 k (y5.set (x5 : Int).toNat (⟨(rd91 y5 x5).f0, bt6.2⟩ : S91)) bt6.1 (wrap64 (x5 + 1))))) else (none))) else (some (x1, x0))
def laws_markFaceS.f (k : Nat) (l0 : List S91) (a1 : Int) : Option (Int × (List S91)) := laws_markFaceS.l0 k l0 a1 0
set_option maxRecDepth 100000 in
theorem laws_markFaceS.ok {k : Nat} {l0 : List S91} {a1 : Int} {r0 : Int} {r1 : List S91} (H : laws_markFaceS.f k l0 a1 = some (r0, r1)) : OkF Try.prog 60 [.c (.own 0 l0.length), vI a1] [(0, .row 96 (l0.map c91))] (.c (.d (.v (.int .i64 r0)))) [(0, .row 96 (r1.map c91))] := by
 unfold laws_markFaceS.f at H
 refine OkF.of (N := 28) (rs := [4]) (avs := [.c (.d (.v (.int .i64 r0)))]) Try.func60 rfl rfl (fun _ _ => results_tmp rfl _ _ _) (by decide) rfl rfl rfl rfl (fun w0 S => ?_)
 refine AG.seq ?_
 refine AG.region HM ?_
 refine a_move (v := vI _) ?_
 refine RA.nil nofun ?_
 refine AG.seq ?_
 refine AG.seq ?_
 refine AG.region HM ?_
 refine a_move (v := vI _) ?_
 refine RA.nil nofun ?_
 refine AG.block ?_
 refine AG.loop ?_
 obtain ⟨K0, hK0, gK0⟩ : ∃ K, k ≤ K ∧ K ≤ k := ⟨k, Nat.le_refl k, Nat.le_refl k⟩
 refine AGr.canon id (AGr.loopI (n := k) (fun k s => k ≤ K0 ∧ ∃ (x0 : List S91) (x1 : Int) (x5 : Int), laws_markFaceS.l0 k x0 x1 x5 = some (r0, r1) ∧ s = St.of [(0, .c (.own 0 x0.length)), (1, vI x1), (5, vI x5)] [(0, .row 96 (x0.map c91))]) ⟨hK0, _, _, _, H, rfl⟩ ?_ ?_) ⟨rfl, rfl, rfl, trivial⟩ ⟨rfl, trivial⟩ rfl
 ·rintro _ ⟨_, _, _, _, H, _⟩
  cases H
 ·clear H hK0
  rintro k ih0 _ ⟨hK0, x0, x1, x5, H, rfl⟩
  unfold laws_markFaceS.l0 at H
  refine AG.seq ?_
  refine AG.seq ?_
  refine AG.region HM ?_
  refine a_move (v := vI _) ?_
  refine a_move (v := .c (.own _ _)) ?_
  refine a_lenO ?_ Try.underlying30
  refine a_int (u := .bool (decide (x5 < (x0.length : Int)))) ?_
  refine RA.nil nofun ?_
  by_cases hc1 : x5 < (x0.length : Int)
  ·rw [if_pos hc1] at H
   refine AG.yes rfl (decide_eq_true hc1) ?_
   refine AG.skip ?_
   refine AG.seq ?_
   refine AG.block ?_
   refine AG.seq ?_
   refine AG.region HM ?_
   refine a_move (v := .c (.own _ _)) ?_
   refine a_move (v := vI _) ?_
   refine a_move (v := vI _) ?_
   obtain ⟨t2, e3, H⟩ := bindO H
   refine a_call (v := vS t2) (nk := []) (L := []) ?_ rfl (laws_markText.ok e3) id (qd qn) trivial trivial trivial rfl
   by_cases hc4 : 0 ≤ x5
   ·rw [if_pos hc4] at H
    refine a_ixO ?_ ⟨hc4, hc1⟩ T96 Try.underlying30
    refine a_faE (q := 0) ?_ D96_0
    obtain ⟨y5, ey5, H⟩ := bindO H
    have ey5 := Option.some.inj ey5
    refine a_stE (D := []) (css' := y5.map c91) ?_ (G91 hc4 hc1) T9 (hcss := by rw [← ey5]; exact set_map rfl)
    refine RA.nil nofun ?_
    refine AG.seq ?_
    refine AG.region HM ?_
    refine a_move (v := vI _) ?_
    refine a_int (u := .int .i64 (wrap64 (x1 + 1))) ?_
    refine a_move (v := vI _) ?_
    refine RA.nil nofun ?_
    refine AG.region HM ?_
    refine a_move (v := .c (.own _ _)) ?_
    refine a_move (v := vI _) ?_
    refine a_ixO ?_ ⟨hc4, hc1⟩ T96 Try.underlying30
    refine a_faE (q := 1) ?_ D96_1
    refine a_ldE (v := .c (.sub _ _ _ _)) ?_ (G91 (l := y5) (i := x5) hc4 (by rw [← ey5]; simpa using hc1)) T38
    refine a_move (v := vI _) ?_
    obtain ⟨⟨t6, t7⟩, e8, H⟩ := bindO H
    refine a_callU (κ := 0) (i := (x5 : Int).toNat) (j := 1) (μ := 0) (v := vI t6) (L := []) (css2 := (y5.set (x5 : Int).toNat (⟨(rd91 y5 x5).f0, t7⟩ : S91)).map c91) ?_ rfl (laws_markInt64S.ok e8) (uS (uD u0)) trivial (G91 (l := y5) (i := x5) hc4 (by rw [← ey5]; simpa using hc1)) rfl (by exact set_map2 rfl)
    refine a_move (v := vI _) ?_
    refine RA.nil nofun ?_
    refine AG.relen 0 (y5.set (x5 : Int).toNat (⟨(rd91 y5 x5).f0, t7⟩ : S91)).length ?_
    refine AG.region HM ?_
    refine a_move (v := vI _) ?_
    refine a_int (u := .int .i64 (wrap64 (x5 + 1))) ?_
    refine a_move (v := vI _) ?_
    refine RA.nil nofun ?_
    exact AGr.canon id (ih0 _ (by omega) _ ⟨by omega, _, _, _, H, rfl⟩) ⟨rfl, rfl, rfl, trivial⟩ ⟨rfl, trivial⟩ rfl
   ·rw [if_neg hc4] at H
    cases H
  ·rw [if_neg hc1] at H
   refine AG.no rfl (decide_eq_false hc1) ?_
   refine AG.exit ?_
   refine AG.seq ?_
   refine AG.region HM ?_
   refine a_move (v := vI _) ?_
   refine a_move (v := vI _) ?_
   refine RA.nil nofun ?_
   refine AG.ret ?_
   simp only [Option.some.injEq, Prod.mk.injEq] at H
   obtain ⟨rfl, rfl⟩ := H
   exact RetP.mk (fun κ => cond (Nat.beq κ 0) 0 (κ)) ⟨rfl, trivial⟩ ⟨rfl, trivial⟩ rfl
/-! ### laws_markDrawing: function 23 -/
def laws_markDrawing.f (k : Nat) (a0_0 : Int) (a0_1 : Int) (l0_2 : List S60) (l0_3 : List S91) (a1 : Int) : Option (Int × (List S60) × (List S91)) := (laws_markPointS.f k l0_2 a1).bind fun bt1 => ((laws_markFaceS.f k l0_3 bt1.1).bind fun bt4 => (some (bt4.1, bt1.2, bt4.2)))
set_option maxRecDepth 100000 in
theorem laws_markDrawing.ok {k : Nat} {a0_0 : Int} {a0_1 : Int} {l0_2 : List S60} {l0_3 : List S91} {a1 : Int} {r0 : Int} {r1 : List S60} {r2 : List S91} (H : laws_markDrawing.f k a0_0 a0_1 l0_2 l0_3 a1 = some (r0, r1, r2)) : OkF Try.prog 23 [.agg [.d (.v (.int .i64 a0_0)), .d (.v (.int .i64 a0_1)), .own 0 l0_2.length, .own 1 l0_3.length], vI a1] [(0, .row 61 (l0_2.map c60)), (1, .row 96 (l0_3.map c91))] (.c (.d (.v (.int .i64 r0)))) [(0, .row 61 (r1.map c60)), (1, .row 96 (r2.map c91))] := by
 unfold laws_markDrawing.f at H
 refine OkF.of (N := 14) (rs := [4]) (avs := [.c (.d (.v (.int .i64 r0)))]) Try.func23 rfl rfl (fun _ _ => results_tmp rfl _ _ _) (by decide) rfl rfl rfl rfl (fun w0 S => ?_)
 refine AG.seq ?_
 refine AG.region HM ?_
 refine a_box 200 ?_
 refine a_move (v := vI _) ?_
 refine RA.nil nofun ?_
 refine AG.seq ?_
 refine AG.region HM ?_
 refine a_faB (q := 2) ?_ D32_2
 refine a_ldB (v := .c (.own _ _)) ?_ T29
 refine a_move (v := vI _) ?_
 obtain ⟨⟨t1, t2⟩, e3, H⟩ := bindO H
 refine a_callM (v := vI t1) (nk := []) (L := []) (Mk := [(0, _)]) (ck := [(0, .row 61 (t2.map c60))]) ?_ rfl (laws_markPointS.ok e3) id id (mcO (mcD m0)) trivial ⟨rfl, trivial⟩ trivial ⟨rfl, trivial⟩ trivial ⟨rfl, trivial⟩ rfl rfl rfl
 refine a_move (v := vI _) ?_
 refine RA.nil nofun ?_
 refine AG.relen 0 t2.length ?_
 refine AG.seq ?_
 refine AG.region HM ?_
 refine a_faB (q := 3) ?_ D32_3
 refine a_ldB (v := .c (.own _ _)) ?_ T30
 refine a_move (v := vI _) ?_
 obtain ⟨⟨t4, t5⟩, e6, H⟩ := bindO H
 refine a_callM (v := vI t4) (nk := []) (L := []) (Mk := [(1, _)]) (ck := [(1, .row 96 (t5.map c91))]) ?_ rfl (laws_markFaceS.ok e6) (fun κ => cond (Nat.beq κ 0) 1 (κ)) (fun κ => cond (Nat.beq κ 1) 0 (κ)) (mcO (mcD m0)) trivial ⟨rfl, trivial⟩ trivial ⟨rfl, trivial⟩ trivial ⟨rfl, trivial⟩ rfl rfl rfl
 refine a_move (v := vI _) ?_
 refine RA.nil nofun ?_
 refine AG.relen 1 t5.length ?_
 refine AG.seq ?_
 refine AG.region HM ?_
 refine a_move (v := vI _) ?_
 refine a_move (v := vI _) ?_
 refine RA.nil nofun ?_
 refine AG.ret ?_
 simp only [Option.some.injEq, Prod.mk.injEq] at H
 obtain ⟨rfl, rfl, rfl⟩ := H
 exact RetP.mk (fun κ => cond (Nat.beq κ 0) 0 (cond (Nat.beq κ 1) 1 (κ))) ⟨rfl, trivial⟩ ⟨rfl, rfl, trivial⟩ rfl
/-! ### laws_heldInt64S: function 25 -/
def laws_heldInt64S.l0 : Nat → List Int → Int → Int → Option (Int)
 | 0, _, _, _ => none
 | k + 1, x0, x1, x5 => if x5 < (x0.length : Int) then (if 0 ≤ x5 then (if (rd2 x0 x5) = x1 then (laws_heldInt64S.l0 k x0 (wrap64 (x1 + 1)) (wrap64 (x5 + 1))) else (some (-1))) else (none)) else (some x1)
def laws_heldInt64S.f (k : Nat) (l0 : List Int) (a1 : Int) : Option (Int) := laws_heldInt64S.l0 k l0 a1 0
set_option maxRecDepth 100000 in
theorem laws_heldInt64S.ok {k : Nat} {l0 : List Int} {a1 : Int} {r : Int} (H : laws_heldInt64S.f k l0 a1 = some r) : OkF Try.prog 25 [vR 2 (l0.map c2), vI a1] [] (.c (.d (.v (.int .i64 r)))) [] := by
 unfold laws_heldInt64S.f at H
 refine OkF.of (N := 21) (rs := [4]) (avs := [.c (.d (.v (.int .i64 r)))]) Try.func25 rfl rfl (fun _ _ => results_tmp rfl _ _ _) (by decide) rfl rfl rfl rfl (fun w0 S => ?_)
 refine AG.seq ?_
 refine AG.region HM ?_
 refine a_move (v := vI _) ?_
 refine RA.nil nofun ?_
 refine AG.seq ?_
 refine AG.seq ?_
 refine AG.region HM ?_
 refine a_move (v := vI _) ?_
 refine RA.nil nofun ?_
 refine AG.block ?_
 refine AG.loop ?_
 obtain ⟨K0, hK0, gK0⟩ : ∃ K, k ≤ K ∧ K ≤ k := ⟨k, Nat.le_refl k, Nat.le_refl k⟩
 refine AGr.canon id (AGr.loopI (n := k) (fun k s => k ≤ K0 ∧ ∃ (x0 : List Int) (x1 : Int) (x5 : Int), laws_heldInt64S.l0 k x0 x1 x5 = some r ∧ s = St.of [(0, vR 2 (x0.map c2)), (1, vI x1), (5, vI x5)] []) ⟨hK0, _, _, _, H, rfl⟩ ?_ ?_) ⟨rfl, rfl, rfl, trivial⟩ trivial rfl
 ·rintro _ ⟨_, _, _, _, H, _⟩
  cases H
 ·clear H hK0
  rintro k ih0 _ ⟨hK0, x0, x1, x5, H, rfl⟩
  unfold laws_heldInt64S.l0 at H
  refine AG.seq ?_
  refine AG.seq ?_
  refine AG.region HM ?_
  refine a_move (v := vI _) ?_
  refine a_move (v := vR _ _) ?_
  refine a_lenR ?_ Try.underlying38
  refine a_int (u := .bool (decide (x5 < (x0.length : Int)))) ?_
  refine RA.nil nofun ?_
  by_cases hc1 : x5 < (x0.length : Int)
  ·rw [if_pos hc1] at H
   refine AG.yes rfl (decide_eq_true hc1) ?_
   refine AG.skip ?_
   refine AG.seq ?_
   refine AG.block ?_
   refine AG.seq ?_
   refine AG.seq ?_
   refine AG.region HM ?_
   refine a_move (v := vR _ _) ?_
   refine a_move (v := vI _) ?_
   by_cases hc2 : 0 ≤ x5
   ·rw [if_pos hc2] at H
    refine a_ixR (el := c2 (rd2 x0 x5)) ?_ ⟨hc2, hc1⟩ T2 Try.underlying38 (hel := R2 hc2 hc1)
    refine a_ldR (v := vI _) ?_ T2
    refine a_move (v := vI _) ?_
    refine a_int (u := .bool (((rd2 x0 x5) != x1))) ?_
    refine RA.nil nofun ?_
    by_cases hc3 : (rd2 x0 x5) = x1
    ·rw [if_pos hc3] at H
     refine AG.no rfl (bne_eq_false_iff_eq.2 hc3) ?_
     refine AG.skip ?_
     refine AG.region HM ?_
     refine a_move (v := vI _) ?_
     refine a_int (u := .int .i64 (wrap64 (x1 + 1))) ?_
     refine a_move (v := vI _) ?_
     refine RA.nil nofun ?_
     refine AG.region HM ?_
     refine a_move (v := vI _) ?_
     refine a_int (u := .int .i64 (wrap64 (x5 + 1))) ?_
     refine a_move (v := vI _) ?_
     refine RA.nil nofun ?_
     exact AGr.canon id (ih0 _ (by omega) _ ⟨by omega, _, _, _, H, rfl⟩) ⟨rfl, rfl, rfl, trivial⟩ trivial rfl
    ·rw [if_neg hc3] at H
     refine AG.yes rfl (bne_iff_ne.2 hc3) ?_
     refine AG.seq ?_
     refine AG.region HM ?_
     refine a_move (v := vI _) ?_
     refine RA.nil nofun ?_
     refine AG.ret ?_
     obtain rfl := Option.some.inj H
     exact RetP.mk id ⟨rfl, trivial⟩ trivial rfl
   ·rw [if_neg hc2] at H
    cases H
  ·rw [if_neg hc1] at H
   refine AG.no rfl (decide_eq_false hc1) ?_
   refine AG.exit ?_
   refine AG.seq ?_
   refine AG.region HM ?_
   refine a_move (v := vI _) ?_
   refine a_move (v := vI _) ?_
   refine RA.nil nofun ?_
   refine AG.ret ?_
   obtain rfl := Option.some.inj H
   exact RetP.mk id ⟨rfl, trivial⟩ trivial rfl
/-! ### spec_l01Root: function 74 -/
def spec_l01Root.l0 : Nat → Int → Int → Int → Option (Int)
 | 0, _, _, _ => none
 | k + 1, x0, x3, x4 => if x3 < x4 then (if (wrap64 ((wrap64 (Int.tdiv (wrap64 ((wrap64 (x3 + x4)) + 1)) 2)) * (wrap64 (Int.tdiv (wrap64 ((wrap64 (x3 + x4)) + 1)) 2)))) ≤ x0 then (spec_l01Root.l0 k x0 (wrap64 (Int.tdiv (wrap64 ((wrap64 (x3 + x4)) + 1)) 2)) x4) else (spec_l01Root.l0 k x0 x3 (wrap64 ((wrap64 (Int.tdiv (wrap64 ((wrap64 (x3 + x4)) + 1)) 2)) - 1)))) else (some x3)
def spec_l01Root.f (k : Nat) (a0 : Int) : Option (Int) := spec_l01Root.l0 k a0 0 3037000499
set_option maxRecDepth 100000 in
theorem spec_l01Root.ok {k : Nat} {a0 : Int} {r : Int} (H : spec_l01Root.f k a0 = some r) : OkF Try.prog 74 [vI a0] [] (.c (.d (.v (.int .i64 r)))) [] := by
 unfold spec_l01Root.f at H
 refine OkF.of (N := 23) (rs := [2]) (avs := [.c (.d (.v (.int .i64 r)))]) Try.func74 rfl rfl (fun _ _ => results_tmp rfl _ _ _) (by decide) rfl rfl rfl rfl (fun w0 S => ?_)
 refine AG.seq ?_
 refine AG.region HM ?_
 refine a_move (v := vI _) ?_
 refine RA.nil nofun ?_
 refine AG.seq ?_
 refine AG.region HM ?_
 refine a_move (v := vI _) ?_
 refine RA.nil nofun ?_
 refine AG.seq ?_
 refine AG.region HM ?_
 refine a_move (v := vI _) ?_
 refine RA.nil nofun ?_
 refine AG.seq ?_
 refine AG.block ?_
 refine AG.loop ?_
 obtain ⟨K0, hK0, gK0⟩ : ∃ K, k ≤ K ∧ K ≤ k := ⟨k, Nat.le_refl k, Nat.le_refl k⟩
 refine AGr.canon id (AGr.loopI (n := k) (fun k s => k ≤ K0 ∧ ∃ (x0 : Int) (x3 : Int) (x4 : Int), spec_l01Root.l0 k x0 x3 x4 = some r ∧ s = St.of [(0, vI x0), (3, vI x3), (4, vI x4)] []) ⟨hK0, _, _, _, H, rfl⟩ ?_ ?_) ⟨rfl, rfl, rfl, trivial⟩ trivial rfl
 ·rintro _ ⟨_, _, _, _, H, _⟩
  cases H
 ·clear H hK0
  rintro k ih0 _ ⟨hK0, x0, x3, x4, H, rfl⟩
  unfold spec_l01Root.l0 at H
  refine AG.seq ?_
  refine AG.seq ?_
  refine AG.region HM ?_
  refine a_move (v := vI _) ?_
  refine a_move (v := vI _) ?_
  refine a_int (u := .bool (decide (x3 < x4))) ?_
  refine RA.nil nofun ?_
  by_cases hc1 : x3 < x4
  ·rw [if_pos hc1] at H
   refine AG.yes rfl (decide_eq_true hc1) ?_
   refine AG.skip ?_
   refine AG.block ?_
   refine AG.seq ?_
   refine AG.region HM ?_
   refine a_move (v := vI _) ?_
   refine a_move (v := vI _) ?_
   refine a_int (u := .int .i64 (wrap64 (x3 + x4))) ?_
   refine a_int (u := .int .i64 (wrap64 ((wrap64 (x3 + x4)) + 1))) ?_
   refine a_quo (r := wrap64 (Int.tdiv (wrap64 ((wrap64 (x3 + x4)) + 1)) 2)) ?_ (show ¬ (2 : Int) = 0 from by decide)
   refine a_move (v := vI _) ?_
   refine RA.nil nofun ?_
   refine AG.seq ?_
   refine AG.region HM ?_
   refine a_move (v := vI _) ?_
   refine a_move (v := vI _) ?_
   refine a_int (u := .int .i64 (wrap64 ((wrap64 (Int.tdiv (wrap64 ((wrap64 (x3 + x4)) + 1)) 2)) * (wrap64 (Int.tdiv (wrap64 ((wrap64 (x3 + x4)) + 1)) 2))))) ?_
   refine a_move (v := vI _) ?_
   refine a_int (u := .bool (decide ((wrap64 ((wrap64 (Int.tdiv (wrap64 ((wrap64 (x3 + x4)) + 1)) 2)) * (wrap64 (Int.tdiv (wrap64 ((wrap64 (x3 + x4)) + 1)) 2)))) ≤ x0))) ?_
   refine RA.nil nofun ?_
   by_cases hc2 : (wrap64 ((wrap64 (Int.tdiv (wrap64 ((wrap64 (x3 + x4)) + 1)) 2)) * (wrap64 (Int.tdiv (wrap64 ((wrap64 (x3 + x4)) + 1)) 2)))) ≤ x0
   ·rw [if_pos hc2] at H
    refine AG.yes rfl (decide_eq_true hc2) ?_
    refine AG.region HM ?_
    refine a_move (v := vI _) ?_
    refine a_move (v := vI _) ?_
    refine RA.nil nofun ?_
    exact AGr.canon id (ih0 _ (by omega) _ ⟨by omega, _, _, _, H, rfl⟩) ⟨rfl, rfl, rfl, trivial⟩ trivial rfl
   ·rw [if_neg hc2] at H
    refine AG.no rfl (decide_eq_false hc2) ?_
    refine AG.region HM ?_
    refine a_move (v := vI _) ?_
    refine a_int (u := .int .i64 (wrap64 ((wrap64 (Int.tdiv (wrap64 ((wrap64 (x3 + x4)) + 1)) 2)) - 1))) ?_
    refine a_move (v := vI _) ?_
    refine RA.nil nofun ?_
    exact AGr.canon id (ih0 _ (by omega) _ ⟨by omega, _, _, _, H, rfl⟩) ⟨rfl, rfl, rfl, trivial⟩ trivial rfl
  ·rw [if_neg hc1] at H
   refine AG.no rfl (decide_eq_false hc1) ?_
   refine AG.exit ?_
   refine AG.seq ?_
   refine AG.region HM ?_
   refine a_move (v := vI _) ?_
   refine a_move (v := vI _) ?_
   refine RA.nil nofun ?_
   refine AG.ret ?_
   obtain rfl := Option.some.inj H
   exact RetP.mk id ⟨rfl, trivial⟩ trivial rfl
/-! ### spec_l02Square: function 75 -/
def spec_l02Square.f (a0_0 : Int) (a0_1 : Int) (a1_0 : Int) (a1_1 : Int) : Option (Int) := some (wrap64 ((wrap64 ((wrap64 (a0_0 - a1_0)) * (wrap64 (a0_0 - a1_0)))) + (wrap64 ((wrap64 (a0_1 - a1_1)) * (wrap64 (a0_1 - a1_1))))))
set_option maxRecDepth 100000 in
theorem spec_l02Square.ok {a0_0 : Int} {a0_1 : Int} {a1_0 : Int} {a1_1 : Int} {r : Int} (H : spec_l02Square.f a0_0 a0_1 a1_0 a1_1 = some r) : OkF Try.prog 75 [.agg [.d (.v (.int .i64 a0_0)), .d (.v (.int .i64 a0_1))], .agg [.d (.v (.int .i64 a1_0)), .d (.v (.int .i64 a1_1))]] [] (.c (.d (.v (.int .i64 r)))) [] := by
 unfold spec_l02Square.f at H
 refine OkF.of (N := 28) (rs := [4]) (avs := [.c (.d (.v (.int .i64 r)))]) Try.func75 rfl rfl (fun _ _ => results_tmp rfl _ _ _) (by decide) rfl rfl rfl rfl (fun w0 S => ?_)
 refine AG.seq ?_
 refine AG.region HM ?_
 refine a_box 200 ?_
 refine a_box 201 ?_
 refine a_move (v := vI _) ?_
 refine RA.nil nofun ?_
 refine AG.seq ?_
 refine AG.region HM ?_
 refine a_faB (q := 0) ?_ D61_0
 refine a_ldB (v := vI _) ?_ T2
 refine a_faB (q := 0) ?_ D61_0
 refine a_ldB (v := vI _) ?_ T2
 refine a_int (u := .int .i64 (wrap64 (a0_0 - a1_0))) ?_
 refine a_faB (q := 0) ?_ D61_0
 refine a_ldB (v := vI _) ?_ T2
 refine a_faB (q := 0) ?_ D61_0
 refine a_ldB (v := vI _) ?_ T2
 refine a_int (u := .int .i64 (wrap64 (a0_0 - a1_0))) ?_
 refine a_int (u := .int .i64 (wrap64 ((wrap64 (a0_0 - a1_0)) * (wrap64 (a0_0 - a1_0))))) ?_
 refine a_faB (q := 1) ?_ D61_1
 refine a_ldB (v := vI _) ?_ T2
 refine a_faB (q := 1) ?_ D61_1
 refine a_ldB (v := vI _) ?_ T2
 refine a_int (u := .int .i64 (wrap64 (a0_1 - a1_1))) ?_
 refine a_faB (q := 1) ?_ D61_1
 refine a_ldB (v := vI _) ?_ T2
 refine a_faB (q := 1) ?_ D61_1
 refine a_ldB (v := vI _) ?_ T2
 refine a_int (u := .int .i64 (wrap64 (a0_1 - a1_1))) ?_
 refine a_int (u := .int .i64 (wrap64 ((wrap64 (a0_1 - a1_1)) * (wrap64 (a0_1 - a1_1))))) ?_
 refine a_int (u := .int .i64 (wrap64 ((wrap64 ((wrap64 (a0_0 - a1_0)) * (wrap64 (a0_0 - a1_0)))) + (wrap64 ((wrap64 (a0_1 - a1_1)) * (wrap64 (a0_1 - a1_1))))))) ?_
 refine a_move (v := vI _) ?_
 refine RA.nil nofun ?_
 refine AG.ret ?_
 obtain rfl := Option.some.inj H
 exact RetP.mk id ⟨rfl, trivial⟩ trivial rfl
/-! ### spec_l02Apart: function 41 -/
def spec_l02Apart.f (k : Nat) (a0_0 : Int) (a0_1 : Int) (a1_0 : Int) (a1_1 : Int) : Option (Int) := (spec_l02Square.f a0_0 a0_1 a1_0 a1_1).bind fun t1 => ((spec_l01Root.f k t1).bind fun t3 => (some t3))
set_option maxRecDepth 100000 in
theorem spec_l02Apart.ok {k : Nat} {a0_0 : Int} {a0_1 : Int} {a1_0 : Int} {a1_1 : Int} {r : Int} (H : spec_l02Apart.f k a0_0 a0_1 a1_0 a1_1 = some r) : OkF Try.prog 41 [.agg [.d (.v (.int .i64 a0_0)), .d (.v (.int .i64 a0_1))], .agg [.d (.v (.int .i64 a1_0)), .d (.v (.int .i64 a1_1))]] [] (.c (.d (.v (.int .i64 r)))) [] := by
 unfold spec_l02Apart.f at H
 refine OkF.of (N := 9) (rs := [4]) (avs := [.c (.d (.v (.int .i64 r)))]) Try.func41 rfl rfl (fun _ _ => results_tmp rfl _ _ _) (by decide) rfl rfl rfl rfl (fun w0 S => ?_)
 refine AG.seq ?_
 refine AG.region HM ?_
 refine a_box 200 ?_
 refine a_box 201 ?_
 refine a_move (v := vI _) ?_
 refine RA.nil nofun ?_
 refine AG.seq ?_
 refine AG.region HM ?_
 refine a_ldB (v := .agg [_, _]) ?_ T61
 refine a_ldB (v := .agg [_, _]) ?_ T61
 obtain ⟨t1, e2, H⟩ := bindO H
 refine a_call (v := vI t1) (nk := []) (L := []) ?_ rfl (spec_l02Square.ok e2) id (qg (qg qn)) trivial trivial trivial rfl
 obtain ⟨t3, e4, H⟩ := bindO H
 refine a_call (v := vI t3) (nk := []) (L := []) ?_ rfl (spec_l01Root.ok e4) id (qd qn) trivial trivial trivial rfl
 refine a_move (v := vI _) ?_
 refine RA.nil nofun ?_
 refine AG.ret ?_
 obtain rfl := Option.some.inj H
 exact RetP.mk id ⟨rfl, trivial⟩ trivial rfl
/-! ### spec_l00In: function 49 -/
def spec_l00In.f (a0 : Int) (a1 : Int) (a2 : Int) : Option (Bool) := if a0 ≥ a1 then (some (decide (a0 ≤ a2))) else (some false)
set_option maxRecDepth 100000 in
theorem spec_l00In.ok {a0 : Int} {a1 : Int} {a2 : Int} {r : Bool} (H : spec_l00In.f a0 a1 a2 = some r) : OkF Try.prog 49 [vI a0, vI a1, vI a2] [] (.c (.d (.v (.bool r)))) [] := by
 unfold spec_l00In.f at H
 refine OkF.of (N := 15) (rs := [6]) (avs := [.c (.d (.v (.bool r)))]) Try.func49 rfl rfl (fun _ _ => results_tmp rfl _ _ _) (by decide) rfl rfl rfl rfl (fun w0 S => ?_)
 refine AG.seq ?_
 refine AG.region HM ?_
 refine a_move (v := vB _) ?_
 refine RA.nil nofun ?_
 refine AG.seq ?_
 refine AG.region HM ?_
 refine a_move (v := vI _) ?_
 refine a_move (v := vI _) ?_
 refine a_int (u := .bool (decide (a0 ≥ a1))) ?_
 refine a_move (v := vB _) ?_
 by_cases hc1 : a0 ≥ a1
 ·rw [if_pos hc1] at H
  refine a_move (v := vI _) ?_ (hg := Gs.yes rfl rfl rfl (decide_eq_true hc1))
  refine a_move (v := vI _) ?_ (hg := Gs.yes rfl rfl rfl (decide_eq_true hc1))
  refine a_int (u := .bool (decide (a0 ≤ a2))) ?_ (hg := Gs.yes rfl rfl rfl (decide_eq_true hc1))
  refine a_pick (b := true) (v := vB _) ?_ (decide_eq_true hc1)
  refine a_move (v := vB _) ?_
  refine RA.nil nofun ?_
  refine AG.ret ?_
  obtain rfl := Option.some.inj H
  exact RetP.mk id ⟨rfl, trivial⟩ trivial rfl
 ·rw [if_neg hc1] at H
  refine RA.skip rfl rfl rfl rfl rfl (decide_eq_false hc1) (by decide) ?_
  refine RA.skip rfl rfl rfl rfl rfl (decide_eq_false hc1) (by decide) ?_
  refine RA.skip rfl rfl rfl rfl rfl (decide_eq_false hc1) (by decide) ?_
  refine a_pick (b := false) (v := vB _) ?_ (decide_eq_false hc1)
  refine a_move (v := vB _) ?_
  refine RA.nil nofun ?_
  refine AG.ret ?_
  obtain rfl := Option.some.inj H
  exact RetP.mk id ⟨rfl, trivial⟩ trivial rfl
/-! ### spec_l05Points: function 86 -/
mutual
def spec_l05Points.l0 : Nat → Int → Int → List S60 → Int → Option (Bool)
 | 0, _, _, _, _ => none
 | k + 1, x0_0, x0_1, x0_2, x3 => if x3 < (x0_2.length : Int) then (if 0 ≤ x3 then ((spec_l00In.f ((rd60 x0_2 x3).f0) 0 x0_0).bind fun t4 => (if t4 = true then ((spec_l00In.f ((rd60 x0_2 x3).f1) 0 x0_1).bind fun t7 => (spec_l05Points.j0 k x0_0 x0_1 x0_2 x3 (!t7))) else (spec_l05Points.j0 k x0_0 x0_1 x0_2 x3 true))) else (none)) else (some true)
def spec_l05Points.j0 : Nat → Int → Int → List S60 → Int → Bool → Option (Bool)
 | 0, _, _, _, _, _ => none
 | k + 1, x0_0, x0_1, x0_2, x3, x49 => if x49 = true then (some false) else (spec_l05Points.l1 k x0_0 x0_1 x0_2 x3 0)
def spec_l05Points.l1 : Nat → Int → Int → List S60 → Int → Int → Option (Bool)
 | 0, _, _, _, _, _ => none
 | k + 1, x0_0, x0_1, x0_2, x3, x4 => if x4 < x3 then (if 0 ≤ x3 then (if x3 < (x0_2.length : Int) then (if 0 ≤ x4 then (if x4 < (x0_2.length : Int) then (if (((rd60 x0_2 x3).f0) == ((rd60 x0_2 x4).f0) && (((rd60 x0_2 x3).f1) == ((rd60 x0_2 x4).f1))) = true then (some false) else (spec_l05Points.l1 k x0_0 x0_1 x0_2 x3 (wrap64 (x4 + 1)))) else (none)) else (none)) else (none)) else (none)) else (spec_l05Points.l0 k x0_0 x0_1 x0_2 (wrap64 (x3 + 1)))
end
def spec_l05Points.f (k : Nat) (a0_0 : Int) (a0_1 : Int) (l0_2 : List S60) (l0_3 : List S91) : Option (Bool) := if (l0_2.length : Int) > 48 then (some false) else (spec_l05Points.l0 k a0_0 a0_1 l0_2 0)
set_option maxRecDepth 100000 in
theorem spec_l05Points.ok {k : Nat} {a0_0 : Int} {a0_1 : Int} {l0_2 : List S60} {l0_3 : List S91} {r : Bool} (H : spec_l05Points.f k a0_0 a0_1 l0_2 l0_3 = some r) : OkF Try.prog 86 [.c (.d (.ro [.v (.int .i64 a0_0), .v (.int .i64 a0_1), .row 61 (l0_2.map c60), .row 96 (l0_3.map c91)]))] [] (.c (.d (.v (.bool r)))) [] := by
 unfold spec_l05Points.f at H
 refine OkF.of (N := 70) (rs := [2]) (avs := [.c (.d (.v (.bool r)))]) Try.func86 rfl rfl (fun _ _ => results_tmp rfl _ _ _) (by decide) rfl rfl rfl rfl (fun w0 S => ?_)
 refine AG.seq ?_
 refine AG.region HM ?_
 refine a_move (v := vB _) ?_
 refine RA.nil nofun ?_
 refine AG.seq ?_
 refine AG.seq ?_
 refine AG.region HM ?_
 refine a_move (v := vO [_, _, _, _]) ?_
 refine a_nil (v := vO [_, _, _, _]) ?_
 refine a_faR (cells' := [_, _]) ?_ D32_2
 refine a_ldR (v := vR _ _) ?_ T29
 refine a_lenR ?_ Try.underlying29
 refine a_int (u := .bool (decide ((l0_2.length : Int) > 48))) ?_
 refine RA.nil nofun ?_
 by_cases hc1 : (l0_2.length : Int) > 48
 ·rw [if_pos hc1] at H
  refine AG.yes rfl (decide_eq_true hc1) ?_
  refine AG.seq ?_
  refine AG.region HM ?_
  refine a_move (v := vB _) ?_
  refine RA.nil nofun ?_
  refine AG.ret ?_
  obtain rfl := Option.some.inj H
  exact RetP.mk id ⟨rfl, trivial⟩ trivial rfl
 ·rw [if_neg hc1] at H
  refine AG.no rfl (decide_eq_false hc1) ?_
  refine AG.skip ?_
  refine AG.seq ?_
  refine AG.seq ?_
  refine AG.region HM ?_
  refine a_move (v := vI _) ?_
  refine RA.nil nofun ?_
  refine AG.block ?_
  refine AG.loop ?_
  obtain ⟨K0, hK0, gK0⟩ : ∃ K, k ≤ K ∧ K ≤ k := ⟨k, Nat.le_refl k, Nat.le_refl k⟩
  refine AGr.canon id (AGr.loopI (n := k) (fun k s => k ≤ K0 ∧ ∃ (x0_0 : Int) (x0_1 : Int) (x0_2 : List S60) (x0_3 : List S91) (x3 : Int), spec_l05Points.l0 k x0_0 x0_1 x0_2 x3 = some r ∧ s = St.of [(0, .c (.d (.ro [.v (.int .i64 x0_0), .v (.int .i64 x0_1), .row 61 (x0_2.map c60), .row 96 (x0_3.map c91)]))), (3, vI x3)] []) ⟨hK0, _, _, _, _, _, H, rfl⟩ ?_ ?_) ⟨rfl, rfl, trivial⟩ trivial rfl
  ·rintro _ ⟨_, _, _, _, _, _, H, _⟩
   cases H
  ·clear H hK0
   rintro k ih0 _ ⟨hK0, x0_0, x0_1, x0_2, x0_3, x3, H, rfl⟩
   unfold spec_l05Points.l0 at H
   refine AG.seq ?_
   refine AG.seq ?_
   refine AG.region HM ?_
   refine a_move (v := vI _) ?_
   refine a_move (v := vO [_, _, _, _]) ?_
   refine a_nil (v := vO [_, _, _, _]) ?_
   refine a_faR (cells' := [_, _]) ?_ D32_2
   refine a_ldR (v := vR _ _) ?_ T29
   refine a_lenR ?_ Try.underlying29
   refine a_int (u := .bool (decide (x3 < (x0_2.length : Int)))) ?_
   refine RA.nil nofun ?_
   by_cases hc2 : x3 < (x0_2.length : Int)
   ·rw [if_pos hc2] at H
    refine AG.yes rfl (decide_eq_true hc2) ?_
    refine AG.skip ?_
    refine AG.seq ?_
    refine AG.block ?_
    refine AG.seq ?_
    refine AG.seq ?_
    refine AG.joinR (fun s => ∃ q, q ≤ k ∧ ∃ (x0_0 : Int) (x0_1 : Int) (x0_2 : List S60) (x0_3 : List S91) (x3 : Int) (x49 : Bool), spec_l05Points.j0 q x0_0 x0_1 x0_2 x3 x49 = some r ∧ s = St.of [(0, .c (.d (.ro [.v (.int .i64 x0_0), .v (.int .i64 x0_1), .row 61 (x0_2.map c60), .row 96 (x0_3.map c91)]))), (3, vI x3), (49, vB x49)] []) ?_ ?_
    ·skip
     refine AG.region HM ?_
     refine a_move (v := vO [_, _, _, _]) ?_
     refine a_nil (v := vO [_, _, _, _]) ?_
     refine a_faR (cells' := [_, _]) ?_ D32_2
     refine a_ldR (v := vR _ _) ?_ T29
     refine a_move (v := vI _) ?_
     by_cases hc3 : 0 ≤ x3
     ·rw [if_pos hc3] at H
      refine a_ixR (el := c60 (rd60 x0_2 x3)) ?_ ⟨hc3, hc2⟩ T61 Try.underlying29 (hel := R60 hc3 hc2)
      refine a_faR (cells' := [_, _]) ?_ D61_0
      refine a_ldR (v := vI _) ?_ T2
      refine a_move (v := vO [_, _, _, _]) ?_
      refine a_nil (v := vO [_, _, _, _]) ?_
      refine a_faR (cells' := [_, _, _, _]) ?_ D32_0
      refine a_ldR (v := vI _) ?_ T2
      obtain ⟨t4, e5, H⟩ := bindO H
      refine a_call (v := vB t4) (nk := []) (L := []) ?_ rfl (spec_l00In.ok e5) id (qd (qd (qd qn))) trivial trivial trivial rfl
      refine a_un (u := .bool (!t4)) ?_
      refine a_move (v := vB _) ?_
      by_cases hc6 : t4 = true
      ·rw [if_pos hc6] at H
       refine a_move (v := vO [_, _, _, _]) ?_ (hg := Gs.yes rfl rfl rfl (congrArg Bool.not hc6))
       refine a_nil (v := vO [_, _, _, _]) ?_ (hg := Gs.yes rfl rfl rfl (congrArg Bool.not hc6))
       refine a_faR (cells' := [_, _]) ?_ D32_2 (hg := Gs.yes rfl rfl rfl (congrArg Bool.not hc6))
       refine a_ldR (v := vR _ _) ?_ T29 (hg := Gs.yes rfl rfl rfl (congrArg Bool.not hc6))
       refine a_move (v := vI _) ?_ (hg := Gs.yes rfl rfl rfl (congrArg Bool.not hc6))
       refine a_ixR (el := c60 (rd60 x0_2 x3)) ?_ ⟨hc3, hc2⟩ T61 Try.underlying29 (hel := R60 hc3 hc2) (hg := Gs.yes rfl rfl rfl (congrArg Bool.not hc6))
       refine a_faR (cells' := [_]) ?_ D61_1 (hg := Gs.yes rfl rfl rfl (congrArg Bool.not hc6))
       refine a_ldR (v := vI _) ?_ T2 (hg := Gs.yes rfl rfl rfl (congrArg Bool.not hc6))
       refine a_move (v := vO [_, _, _, _]) ?_ (hg := Gs.yes rfl rfl rfl (congrArg Bool.not hc6))
       refine a_nil (v := vO [_, _, _, _]) ?_ (hg := Gs.yes rfl rfl rfl (congrArg Bool.not hc6))
       refine a_faR (cells' := [_, _, _]) ?_ D32_1 (hg := Gs.yes rfl rfl rfl (congrArg Bool.not hc6))
       refine a_ldR (v := vI _) ?_ T2 (hg := Gs.yes rfl rfl rfl (congrArg Bool.not hc6))
       obtain ⟨t7, e8, H⟩ := bindO H
       refine a_call (v := vB t7) (nk := []) (L := []) ?_ rfl (spec_l00In.ok e8) id (qd (qd (qd qn))) trivial trivial trivial rfl (hg := Gs.yes rfl rfl rfl (congrArg Bool.not hc6))
       refine a_un (u := .bool (!t7)) ?_ (hg := Gs.yes rfl rfl rfl (congrArg Bool.not hc6))
       refine a_pick (b := false) (v := vB _) ?_ (congrArg Bool.not hc6)
       refine RA.nil (fun _ => by kernel_rfl) ?_
       exact CanR.mk id ⟨_, (by omega), _, _, _, _, _, _, H, rfl⟩ ⟨rfl, rfl, rfl, trivial⟩ trivial rfl
      ·rw [if_neg hc6] at H
       refine RA.skip rfl rfl rfl rfl rfl (congrArg Bool.not (Bool.eq_false_iff.2 hc6)) (by decide) ?_
       refine RA.skip rfl rfl rfl rfl rfl (congrArg Bool.not (Bool.eq_false_iff.2 hc6)) (by decide) ?_
       refine RA.skip rfl rfl rfl rfl rfl (congrArg Bool.not (Bool.eq_false_iff.2 hc6)) (by decide) ?_
       refine RA.skip rfl rfl rfl rfl rfl (congrArg Bool.not (Bool.eq_false_iff.2 hc6)) (by decide) ?_
       refine RA.skip rfl rfl rfl rfl rfl (congrArg Bool.not (Bool.eq_false_iff.2 hc6)) (by decide) ?_
       refine RA.skip rfl rfl rfl rfl rfl (congrArg Bool.not (Bool.eq_false_iff.2 hc6)) (by decide) ?_
       refine RA.skip rfl rfl rfl rfl rfl (congrArg Bool.not (Bool.eq_false_iff.2 hc6)) (by decide) ?_
       refine RA.skip rfl rfl rfl rfl rfl (congrArg Bool.not (Bool.eq_false_iff.2 hc6)) (by decide) ?_
       refine RA.skip rfl rfl rfl rfl rfl (congrArg Bool.not (Bool.eq_false_iff.2 hc6)) (by decide) ?_
       refine RA.skip rfl rfl rfl rfl rfl (congrArg Bool.not (Bool.eq_false_iff.2 hc6)) (by decide) ?_
       refine RA.skip rfl rfl rfl rfl rfl (congrArg Bool.not (Bool.eq_false_iff.2 hc6)) (by decide) ?_
       refine RA.skip rfl rfl rfl rfl rfl (congrArg Bool.not (Bool.eq_false_iff.2 hc6)) (by decide) ?_
       refine RA.skip rfl rfl rfl rfl rfl (congrArg Bool.not (Bool.eq_false_iff.2 hc6)) (by decide) ?_
       refine RA.skip rfl rfl rfl rfl rfl (congrArg Bool.not (Bool.eq_false_iff.2 hc6)) (by decide) ?_
       refine a_pick (b := true) (v := vB _) ?_ (congrArg Bool.not (Bool.eq_false_iff.2 hc6))
       refine RA.nil (fun _ => by kernel_rfl) ?_
       exact CanR.mk id ⟨_, (by omega), _, _, _, _, _, _, H, rfl⟩ ⟨rfl, rfl, rfl, trivial⟩ trivial rfl
     ·rw [if_neg hc3] at H
      cases H
    ·clear H
     rintro _ ⟨k, hj0, x0_0, x0_1, x0_2, x0_3, x3, x49, H, rfl⟩
     cases k with
     | zero => cases H
     | succ k =>
      rw [spec_l05Points.j0] at H
      by_cases hc9 : x49 = true
      ·rw [if_pos hc9] at H
       refine AG.yes rfl hc9 ?_
       refine AG.seq ?_
       refine AG.region HM ?_
       refine a_move (v := vB _) ?_
       refine RA.nil nofun ?_
       refine AG.ret ?_
       obtain rfl := Option.some.inj H
       exact RetP.mk id ⟨rfl, trivial⟩ trivial rfl
      ·rw [if_neg hc9] at H
       refine AG.no rfl (Bool.eq_false_iff.2 hc9) ?_
       refine AG.skip ?_
       refine AG.seq ?_
       refine AG.region HM ?_
       refine a_move (v := vI _) ?_
       refine RA.nil nofun ?_
       refine AG.block ?_
       refine AG.loop ?_
       obtain ⟨K1, hK1, gK1⟩ : ∃ K, k ≤ K ∧ K ≤ k := ⟨k, Nat.le_refl k, Nat.le_refl k⟩
       refine AGr.canon id (AGr.loopI (n := k) (fun k s => k ≤ K1 ∧ ∃ (x0_0 : Int) (x0_1 : Int) (x0_2 : List S60) (x0_3 : List S91) (x3 : Int) (x4 : Int), spec_l05Points.l1 k x0_0 x0_1 x0_2 x3 x4 = some r ∧ s = St.of [(0, .c (.d (.ro [.v (.int .i64 x0_0), .v (.int .i64 x0_1), .row 61 (x0_2.map c60), .row 96 (x0_3.map c91)]))), (3, vI x3), (4, vI x4)] []) ⟨hK1, _, _, _, _, _, _, H, rfl⟩ ?_ ?_) ⟨rfl, rfl, rfl, trivial⟩ trivial rfl
       ·rintro _ ⟨_, _, _, _, _, _, _, H, _⟩
        cases H
       ·clear H hK1
        rintro k ih1 _ ⟨hK1, x0_0, x0_1, x0_2, x0_3, x3, x4, H, rfl⟩
        unfold spec_l05Points.l1 at H
        refine AG.seq ?_
        refine AG.seq ?_
        refine AG.region HM ?_
        refine a_move (v := vI _) ?_
        refine a_move (v := vI _) ?_
        refine a_int (u := .bool (decide (x4 < x3))) ?_
        refine RA.nil nofun ?_
        by_cases hc10 : x4 < x3
        ·rw [if_pos hc10] at H
         refine AG.yes rfl (decide_eq_true hc10) ?_
         refine AG.skip ?_
         refine AG.seq ?_
         refine AG.block ?_
         refine AG.seq ?_
         refine AG.region HM ?_
         refine a_move (v := vO [_, _, _, _]) ?_
         refine a_nil (v := vO [_, _, _, _]) ?_
         refine a_faR (cells' := [_, _]) ?_ D32_2
         refine a_ldR (v := vR _ _) ?_ T29
         refine a_move (v := vI _) ?_
         by_cases hc11 : 0 ≤ x3
         ·rw [if_pos hc11] at H
          by_cases hc12 : x3 < (x0_2.length : Int)
          ·rw [if_pos hc12] at H
           refine a_ixR (el := c60 (rd60 x0_2 x3)) ?_ ⟨hc11, hc12⟩ T61 Try.underlying29 (hel := R60 hc11 hc12)
           refine a_ldR (v := .agg [_, _]) ?_ T61
           refine a_move (v := vO [_, _, _, _]) ?_
           refine a_nil (v := vO [_, _, _, _]) ?_
           refine a_faR (cells' := [_, _]) ?_ D32_2
           refine a_ldR (v := vR _ _) ?_ T29
           refine a_move (v := vI _) ?_
           by_cases hc13 : 0 ≤ x4
           ·rw [if_pos hc13] at H
            by_cases hc14 : x4 < (x0_2.length : Int)
            ·rw [if_pos hc14] at H
             refine a_ixR (el := c60 (rd60 x0_2 x4)) ?_ ⟨hc13, hc14⟩ T61 Try.underlying29 (hel := R60 hc13 hc14)
             refine a_ldR (v := .agg [_, _]) ?_ T61
             refine a_eqS (b := (((rd60 x0_2 x3).f0) == ((rd60 x0_2 x4).f0) && (((rd60 x0_2 x3).f1) == ((rd60 x0_2 x4).f1)))) ?_ (.inl ⟨rfl, rfl⟩) (Q61 ((rd60 x0_2 x3).f0) ((rd60 x0_2 x4).f0) ((rd60 x0_2 x3).f1) ((rd60 x0_2 x4).f1)).1
             refine RA.nil (fun _ => by kernel_rfl) ?_
             by_cases hc15 : (((rd60 x0_2 x3).f0) == ((rd60 x0_2 x4).f0) && (((rd60 x0_2 x3).f1) == ((rd60 x0_2 x4).f1))) = true
             ·rw [if_pos hc15] at H
              refine AG.yes rfl hc15 ?_
              refine AG.seq ?_
              refine AG.region HM ?_
              refine a_move (v := vB _) ?_
              refine RA.nil nofun ?_
              refine AG.ret ?_
              obtain rfl := Option.some.inj H
              exact RetP.mk id ⟨rfl, trivial⟩ trivial rfl
             ·rw [if_neg hc15] at H
              refine AG.no rfl (Bool.eq_false_iff.2 hc15) ?_
              refine AG.skip ?_
              refine AG.region HM ?_
              refine a_move (v := vI _) ?_
              refine a_int (u := .int .i64 (wrap64 (x4 + 1))) ?_
              refine a_move (v := vI _) ?_
              refine RA.nil nofun ?_
              exact AGr.canon id (ih1 _ (by omega) _ ⟨by omega, _, _, _, _, _, _, H, rfl⟩) ⟨rfl, rfl, rfl, trivial⟩ trivial rfl
            ·rw [if_neg hc14] at H
             cases H
           ·rw [if_neg hc13] at H
            cases H
          ·rw [if_neg hc12] at H
           cases H
         ·rw [if_neg hc11] at H
          cases H
        ·rw [if_neg hc10] at H
         refine AG.no rfl (decide_eq_false hc10) ?_
         refine AG.exit ?_
         refine AG.region HM ?_
         refine a_move (v := vI _) ?_
         refine a_int (u := .int .i64 (wrap64 (x3 + 1))) ?_
         refine a_move (v := vI _) ?_
         refine RA.nil nofun ?_
         exact AGr.canon id (ih0 _ (by omega) _ ⟨by omega, _, _, _, _, _, H, rfl⟩) ⟨rfl, rfl, trivial⟩ trivial rfl
   ·rw [if_neg hc2] at H
    refine AG.no rfl (decide_eq_false hc2) ?_
    refine AG.exit ?_
    refine AG.seq ?_
    refine AG.region HM ?_
    refine a_move (v := vB _) ?_
    refine RA.nil nofun ?_
    refine AG.ret ?_
    obtain rfl := Option.some.inj H
    exact RetP.mk id ⟨rfl, trivial⟩ trivial rfl
/-! ### spec_l01Small: function 107 -/
def spec_l01Small.f (a0 : Int) : Option (Bool) := if a0 ≥ 97 then (some (decide (a0 ≤ 122))) else (some false)
set_option maxRecDepth 100000 in
theorem spec_l01Small.ok {a0 : Int} {r : Bool} (H : spec_l01Small.f a0 = some r) : OkF Try.prog 107 [.c (.d (.v (.int .u8 a0)))] [] (.c (.d (.v (.bool r)))) [] := by
 unfold spec_l01Small.f at H
 refine OkF.of (N := 9) (rs := [2]) (avs := [.c (.d (.v (.bool r)))]) Try.func107 rfl rfl (fun _ _ => results_tmp rfl _ _ _) (by decide) rfl rfl rfl rfl (fun w0 S => ?_)
 refine AG.seq ?_
 refine AG.region HM ?_
 refine a_move (v := vB _) ?_
 refine RA.nil nofun ?_
 refine AG.seq ?_
 refine AG.region HM ?_
 refine a_move (v := gV (.int .u8 _)) ?_
 refine a_int (u := .bool (decide (a0 ≥ 97))) ?_
 refine a_move (v := vB _) ?_
 by_cases hc1 : a0 ≥ 97
 ·rw [if_pos hc1] at H
  refine a_move (v := gV (.int .u8 _)) ?_ (hg := Gs.yes rfl rfl rfl (decide_eq_true hc1))
  refine a_int (u := .bool (decide (a0 ≤ 122))) ?_ (hg := Gs.yes rfl rfl rfl (decide_eq_true hc1))
  refine a_pick (b := true) (v := vB _) ?_ (decide_eq_true hc1)
  refine a_move (v := vB _) ?_
  refine RA.nil nofun ?_
  refine AG.ret ?_
  obtain rfl := Option.some.inj H
  exact RetP.mk id ⟨rfl, trivial⟩ trivial rfl
 ·rw [if_neg hc1] at H
  refine RA.skip rfl rfl rfl rfl rfl (decide_eq_false hc1) (by decide) ?_
  refine RA.skip rfl rfl rfl rfl rfl (decide_eq_false hc1) (by decide) ?_
  refine a_pick (b := false) (v := vB _) ?_ (decide_eq_false hc1)
  refine a_move (v := vB _) ?_
  refine RA.nil nofun ?_
  refine AG.ret ?_
  obtain rfl := Option.some.inj H
  exact RetP.mk id ⟨rfl, trivial⟩ trivial rfl
/-! ### spec_l01Digit: function 108 -/
def spec_l01Digit.f (a0 : Int) : Option (Bool) := if a0 ≥ 48 then (some (decide (a0 ≤ 57))) else (some false)
set_option maxRecDepth 100000 in
theorem spec_l01Digit.ok {a0 : Int} {r : Bool} (H : spec_l01Digit.f a0 = some r) : OkF Try.prog 108 [.c (.d (.v (.int .u8 a0)))] [] (.c (.d (.v (.bool r)))) [] := by
 unfold spec_l01Digit.f at H
 refine OkF.of (N := 9) (rs := [2]) (avs := [.c (.d (.v (.bool r)))]) Try.func108 rfl rfl (fun _ _ => results_tmp rfl _ _ _) (by decide) rfl rfl rfl rfl (fun w0 S => ?_)
 refine AG.seq ?_
 refine AG.region HM ?_
 refine a_move (v := vB _) ?_
 refine RA.nil nofun ?_
 refine AG.seq ?_
 refine AG.region HM ?_
 refine a_move (v := gV (.int .u8 _)) ?_
 refine a_int (u := .bool (decide (a0 ≥ 48))) ?_
 refine a_move (v := vB _) ?_
 by_cases hc1 : a0 ≥ 48
 ·rw [if_pos hc1] at H
  refine a_move (v := gV (.int .u8 _)) ?_ (hg := Gs.yes rfl rfl rfl (decide_eq_true hc1))
  refine a_int (u := .bool (decide (a0 ≤ 57))) ?_ (hg := Gs.yes rfl rfl rfl (decide_eq_true hc1))
  refine a_pick (b := true) (v := vB _) ?_ (decide_eq_true hc1)
  refine a_move (v := vB _) ?_
  refine RA.nil nofun ?_
  refine AG.ret ?_
  obtain rfl := Option.some.inj H
  exact RetP.mk id ⟨rfl, trivial⟩ trivial rfl
 ·rw [if_neg hc1] at H
  refine RA.skip rfl rfl rfl rfl rfl (decide_eq_false hc1) (by decide) ?_
  refine RA.skip rfl rfl rfl rfl rfl (decide_eq_false hc1) (by decide) ?_
  refine a_pick (b := false) (v := vB _) ?_ (decide_eq_false hc1)
  refine a_move (v := vB _) ?_
  refine RA.nil nofun ?_
  refine AG.ret ?_
  obtain rfl := Option.some.inj H
  exact RetP.mk id ⟨rfl, trivial⟩ trivial rfl
/-! ### spec_l01Name: function 87 -/
mutual
def spec_l01Name.j0 : Nat → ByteArray → Bool → Option (Bool)
 | 0, _, _ => none
 | k + 1, x0, x16 => if x16 = true then (some false) else (spec_l01Name.l0 k x0 0)
def spec_l01Name.l0 : Nat → ByteArray → Int → Option (Bool)
 | 0, _, _ => none
 | k + 1, x0, x3 => if x3 < (x0.size : Int) then (if 0 ≤ x3 then ((spec_l01Small.f (bt x0 x3)).bind fun t9 => (if t9 = true then (spec_l01Name.l0 k x0 (wrap64 (x3 + 1))) else ((spec_l01Digit.f (bt x0 x3)).bind fun t12 => (if t12 = true then (spec_l01Name.l0 k x0 (wrap64 (x3 + 1))) else (some false))))) else (none)) else (some true)
end
def spec_l01Name.f (k : Nat) (a0 : ByteArray) : Option (Bool) := if a0.toList = (⟨#[]⟩ : ByteArray).toList then (spec_l01Name.j0 k a0 true) else (if (a0.size : Int) > 10 then (spec_l01Name.j0 k a0 true) else (if 0 < (a0.size : Int) then ((spec_l01Small.f (bt a0 0)).bind fun t4 => (spec_l01Name.j0 k a0 (!t4))) else (none)))
set_option maxRecDepth 100000 in
theorem spec_l01Name.ok {k : Nat} {a0 : ByteArray} {r : Bool} (H : spec_l01Name.f k a0 = some r) : OkF Try.prog 87 [vS a0] [] (.c (.d (.v (.bool r)))) [] := by
 unfold spec_l01Name.f at H
 refine OkF.of (N := 35) (rs := [2]) (avs := [.c (.d (.v (.bool r)))]) Try.func87 rfl rfl (fun _ _ => results_tmp rfl _ _ _) (by decide) rfl rfl rfl rfl (fun w0 S => ?_)
 refine AG.seq ?_
 refine AG.region HM ?_
 refine a_move (v := vB _) ?_
 refine RA.nil nofun ?_
 refine AG.seq ?_
 refine AG.seq ?_
 refine AG.joinR (fun s => ∃ q, q ≤ k ∧ ∃ (x0 : ByteArray) (x16 : Bool), spec_l01Name.j0 q x0 x16 = some r ∧ s = St.of [(0, vS x0), (16, vB x16)] []) ?_ ?_
 ·skip
  refine AG.region HM ?_
  refine a_move (v := vS _) ?_
  refine a_bin (u := .bool (a0.toList == (⟨#[]⟩ : ByteArray).toList)) ?_
  refine a_move (v := vB _) ?_
  by_cases hc1 : a0.toList = (⟨#[]⟩ : ByteArray).toList
  ·rw [if_pos hc1] at H
   refine RA.skip rfl rfl rfl rfl rfl (beq_iff_eq.2 hc1) (by decide) ?_
   refine RA.skip rfl rfl rfl rfl rfl (beq_iff_eq.2 hc1) (by decide) ?_
   refine RA.skip rfl rfl rfl rfl rfl (beq_iff_eq.2 hc1) (by decide) ?_
   refine a_pick (b := true) (v := vB _) ?_ (beq_iff_eq.2 hc1)
   refine a_move (v := vB _) ?_
   refine RA.skip rfl rfl rfl rfl rfl rfl (by decide) ?_
   refine RA.skip rfl rfl rfl rfl rfl rfl (by decide) ?_
   refine RA.skip rfl rfl rfl rfl rfl rfl (by decide) ?_
   refine RA.skip rfl rfl rfl rfl rfl rfl (by decide) ?_
   refine a_pick (b := true) (v := vB _) ?_ rfl
   refine RA.nil nofun ?_
   exact CanR.mk id ⟨_, (by omega), _, _, H, rfl⟩ ⟨rfl, rfl, trivial⟩ trivial rfl
  ·rw [if_neg hc1] at H
   refine a_move (v := vS _) ?_ (hg := Gs.yes rfl rfl rfl (beq_eq_false_iff_ne.2 hc1))
   refine a_lenS ?_ Try.underlying9 (hg := Gs.yes rfl rfl rfl (beq_eq_false_iff_ne.2 hc1))
   refine a_int (u := .bool (decide ((a0.size : Int) > 10))) ?_ (hg := Gs.yes rfl rfl rfl (beq_eq_false_iff_ne.2 hc1))
   refine a_pick (b := false) (v := vB _) ?_ (beq_eq_false_iff_ne.2 hc1)
   refine a_move (v := vB _) ?_
   by_cases hc2 : (a0.size : Int) > 10
   ·rw [if_pos hc2] at H
    refine RA.skip rfl rfl rfl rfl rfl (decide_eq_true hc2) (by decide) ?_
    refine RA.skip rfl rfl rfl rfl rfl (decide_eq_true hc2) (by decide) ?_
    refine RA.skip rfl rfl rfl rfl rfl (decide_eq_true hc2) (by decide) ?_
    refine RA.skip rfl rfl rfl rfl rfl (decide_eq_true hc2) (by decide) ?_
    refine a_pick (b := true) (v := vB _) ?_ (decide_eq_true hc2)
    refine RA.nil nofun ?_
    exact CanR.mk id ⟨_, (by omega), _, _, H, rfl⟩ ⟨rfl, rfl, trivial⟩ trivial rfl
   ·rw [if_neg hc2] at H
    refine a_move (v := vS _) ?_ (hg := Gs.yes rfl rfl rfl (decide_eq_false hc2))
    by_cases hc3 : 0 < (a0.size : Int)
    ·rw [if_pos hc3] at H
     refine a_str ?_ ⟨(by decide), hc3⟩ Try.underlying9 (hg := Gs.yes rfl rfl rfl (decide_eq_false hc2))
     obtain ⟨t4, e5, H⟩ := bindO H
     refine a_call (v := vB t4) (nk := []) (L := []) ?_ rfl (spec_l01Small.ok e5) id (qd qn) trivial trivial trivial rfl (hg := Gs.yes rfl rfl rfl (decide_eq_false hc2))
     refine a_un (u := .bool (!t4)) ?_ (hg := Gs.yes rfl rfl rfl (decide_eq_false hc2))
     refine a_pick (b := false) (v := vB _) ?_ (decide_eq_false hc2)
     refine RA.nil nofun ?_
     exact CanR.mk id ⟨_, (by omega), _, _, H, rfl⟩ ⟨rfl, rfl, trivial⟩ trivial rfl
    ·rw [if_neg hc3] at H
     cases H
 ·clear H
  rintro _ ⟨k, hj0, x0, x16, H, rfl⟩
  cases k with
  | zero => cases H
  | succ k =>
   rw [spec_l01Name.j0] at H
   by_cases hc6 : x16 = true
   ·rw [if_pos hc6] at H
    refine AG.yes rfl hc6 ?_
    refine AG.seq ?_
    refine AG.region HM ?_
    refine a_move (v := vB _) ?_
    refine RA.nil nofun ?_
    refine AG.ret ?_
    obtain rfl := Option.some.inj H
    exact RetP.mk id ⟨rfl, trivial⟩ trivial rfl
   ·rw [if_neg hc6] at H
    refine AG.no rfl (Bool.eq_false_iff.2 hc6) ?_
    refine AG.skip ?_
    refine AG.seq ?_
    refine AG.seq ?_
    refine AG.region HM ?_
    refine a_move (v := vI _) ?_
    refine RA.nil nofun ?_
    refine AG.block ?_
    refine AG.loop ?_
    obtain ⟨K0, hK0, gK0⟩ : ∃ K, k ≤ K ∧ K ≤ k := ⟨k, Nat.le_refl k, Nat.le_refl k⟩
    refine AGr.canon id (AGr.loopI (n := k) (fun k s => k ≤ K0 ∧ ∃ (x0 : ByteArray) (x3 : Int), spec_l01Name.l0 k x0 x3 = some r ∧ s = St.of [(0, vS x0), (3, vI x3)] []) ⟨hK0, _, _, H, rfl⟩ ?_ ?_) ⟨rfl, rfl, trivial⟩ trivial rfl
    ·rintro _ ⟨_, _, _, H, _⟩
     cases H
    ·clear H hK0
     rintro k ih0 _ ⟨hK0, x0, x3, H, rfl⟩
     unfold spec_l01Name.l0 at H
     refine AG.seq ?_
     refine AG.seq ?_
     refine AG.region HM ?_
     refine a_move (v := vI _) ?_
     refine a_move (v := vS _) ?_
     refine a_lenS ?_ Try.underlying9
     refine a_int (u := .bool (decide (x3 < (x0.size : Int)))) ?_
     refine RA.nil nofun ?_
     by_cases hc7 : x3 < (x0.size : Int)
     ·rw [if_pos hc7] at H
      refine AG.yes rfl (decide_eq_true hc7) ?_
      refine AG.skip ?_
      refine AG.seq ?_
      refine AG.block ?_
      refine AG.seq ?_
      refine AG.region HM ?_
      refine a_move (v := vS _) ?_
      refine a_move (v := vI _) ?_
      by_cases hc8 : 0 ≤ x3
      ·rw [if_pos hc8] at H
       refine a_str ?_ ⟨hc8, hc7⟩ Try.underlying9
       obtain ⟨t9, e10, H⟩ := bindO H
       refine a_call (v := vB t9) (nk := []) (L := []) ?_ rfl (spec_l01Small.ok e10) id (qd qn) trivial trivial trivial rfl
       refine a_un (u := .bool (!t9)) ?_
       refine a_move (v := vB _) ?_
       by_cases hc11 : t9 = true
       ·rw [if_pos hc11] at H
        refine RA.skip rfl rfl rfl rfl rfl (congrArg Bool.not hc11) (by decide) ?_
        refine RA.skip rfl rfl rfl rfl rfl (congrArg Bool.not hc11) (by decide) ?_
        refine RA.skip rfl rfl rfl rfl rfl (congrArg Bool.not hc11) (by decide) ?_
        refine RA.skip rfl rfl rfl rfl rfl (congrArg Bool.not hc11) (by decide) ?_
        refine RA.skip rfl rfl rfl rfl rfl (congrArg Bool.not hc11) (by decide) ?_
        refine a_pick (b := false) (v := vB _) ?_ (congrArg Bool.not hc11)
        refine RA.nil nofun ?_
        refine AG.no rfl rfl ?_
        refine AG.skip ?_
        refine AG.region HM ?_
        refine a_move (v := vI _) ?_
        refine a_int (u := .int .i64 (wrap64 (x3 + 1))) ?_
        refine a_move (v := vI _) ?_
        refine RA.nil nofun ?_
        exact AGr.canon id (ih0 _ (by omega) _ ⟨by omega, _, _, H, rfl⟩) ⟨rfl, rfl, trivial⟩ trivial rfl
       ·rw [if_neg hc11] at H
        refine a_move (v := vS _) ?_ (hg := Gs.yes rfl rfl rfl (congrArg Bool.not (Bool.eq_false_iff.2 hc11)))
        refine a_move (v := vI _) ?_ (hg := Gs.yes rfl rfl rfl (congrArg Bool.not (Bool.eq_false_iff.2 hc11)))
        refine a_str ?_ ⟨hc8, hc7⟩ Try.underlying9 (hg := Gs.yes rfl rfl rfl (congrArg Bool.not (Bool.eq_false_iff.2 hc11)))
        obtain ⟨t12, e13, H⟩ := bindO H
        refine a_call (v := vB t12) (nk := []) (L := []) ?_ rfl (spec_l01Digit.ok e13) id (qd qn) trivial trivial trivial rfl (hg := Gs.yes rfl rfl rfl (congrArg Bool.not (Bool.eq_false_iff.2 hc11)))
        refine a_un (u := .bool (!t12)) ?_ (hg := Gs.yes rfl rfl rfl (congrArg Bool.not (Bool.eq_false_iff.2 hc11)))
        refine a_pick (b := true) (v := vB _) ?_ (congrArg Bool.not (Bool.eq_false_iff.2 hc11))
        refine RA.nil nofun ?_
        by_cases hc14 : t12 = true
        ·rw [if_pos hc14] at H
         refine AG.no rfl (congrArg Bool.not hc14) ?_
         refine AG.skip ?_
         refine AG.region HM ?_
         refine a_move (v := vI _) ?_
         refine a_int (u := .int .i64 (wrap64 (x3 + 1))) ?_
         refine a_move (v := vI _) ?_
         refine RA.nil nofun ?_
         exact AGr.canon id (ih0 _ (by omega) _ ⟨by omega, _, _, H, rfl⟩) ⟨rfl, rfl, trivial⟩ trivial rfl
        ·rw [if_neg hc14] at H
         refine AG.yes rfl (congrArg Bool.not (Bool.eq_false_iff.2 hc14)) ?_
         refine AG.seq ?_
         refine AG.region HM ?_
         refine a_move (v := vB _) ?_
         refine RA.nil nofun ?_
         refine AG.ret ?_
         obtain rfl := Option.some.inj H
         exact RetP.mk id ⟨rfl, trivial⟩ trivial rfl
      ·rw [if_neg hc8] at H
       cases H
     ·rw [if_neg hc7] at H
      refine AG.no rfl (decide_eq_false hc7) ?_
      refine AG.exit ?_
      refine AG.seq ?_
      refine AG.region HM ?_
      refine a_move (v := vB _) ?_
      refine RA.nil nofun ?_
      refine AG.ret ?_
      obtain rfl := Option.some.inj H
      exact RetP.mk id ⟨rfl, trivial⟩ trivial rfl
/-! ### spec_l05Ring: function 88 -/
def spec_l05Ring.l0 : Nat → List S60 → List Int → List S60 → Int → Option ((List S60) × Bool)
 | 0, _, _, _, _ => none
 | k + 1, x0_2, x1, x6, x7 => if x7 < (x1.length : Int) then (if 0 ≤ x7 then ((spec_l00In.f (rd2 x1 x7) 0 (wrap64 ((x0_2.length : Int) - 1))).bind fun t4 => (if t4 = true then (if 0 ≤ (rd2 x1 x7) then (if (rd2 x1 x7) < (x0_2.length : Int) then (if x6.length < 8796093022208 then (spec_l05Ring.l0 k x0_2 x1 (x6 ++ [(⟨(rd60 x0_2 (rd2 x1 x7)).f0, (rd60 x0_2 (rd2 x1 x7)).f1⟩ : S60)]) (wrap64 (x7 + 1))) else (none)) else (none)) else (none)) else (some (([] : List S60), false)))) else (none)) else (some (x6, true))
def spec_l05Ring.f (k : Nat) (a0_0 : Int) (a0_1 : Int) (l0_2 : List S60) (l0_3 : List S91) (l1 : List Int) : Option ((List S60) × Bool) := spec_l05Ring.l0 k l0_2 l1 (([] : List S60) : List S60) 0
set_option maxRecDepth 100000 in
theorem spec_l05Ring.ok {k : Nat} {a0_0 : Int} {a0_1 : Int} {l0_2 : List S60} {l0_3 : List S91} {l1 : List Int} {r0 : List S60} {r1 : Bool} (H : spec_l05Ring.f k a0_0 a0_1 l0_2 l0_3 l1 = some (r0, r1)) : OkF Try.prog 88 [.c (.d (.ro [.v (.int .i64 a0_0), .v (.int .i64 a0_1), .row 61 (l0_2.map c60), .row 96 (l0_3.map c91)])), vR 2 (l1.map c2)] [] (.tup [.c (.own 100 r0.length), .c (.d (.v (.bool r1)))]) [(100, .row 61 (r0.map c60))] := by
 unfold spec_l05Ring.f at H
 refine OkF.of (N := 41) (rs := [4, 5]) (avs := [.c (.own 100 r0.length), .c (.d (.v (.bool r1)))]) Try.func88 rfl rfl (fun _ _ => results_tmp2 rfl _ _ _) (by decide) rfl rfl rfl rfl (fun w0 S => ?_)
 refine AG.seq ?_
 refine AG.region HM ?_
 refine a_nilO (e := 61) 200 ?_ T61
 refine a_move (v := vB _) ?_
 refine RA.nil nofun ?_
 refine AG.seq ?_
 refine AG.region HM ?_
 refine a_lit (cs := []) (D := []) (css := (([] : List S60) : List S60).map c60) 201 ?_ N29 T61 (hcss := by rfl)
 refine a_move (v := .c (.own _ _)) ?_
 refine RA.nil nofun ?_
 refine AG.seq ?_
 refine AG.seq ?_
 refine AG.region HM ?_
 refine a_move (v := vI _) ?_
 refine RA.nil nofun ?_
 refine AG.block ?_
 refine AG.loop ?_
 obtain ⟨K0, hK0, gK0⟩ : ∃ K, k ≤ K ∧ K ≤ k := ⟨k, Nat.le_refl k, Nat.le_refl k⟩
 refine AGr.canon (fun κ => cond (Nat.beq κ 202) 201 (κ)) (AGr.loopI (n := k) (fun k s => k ≤ K0 ∧ ∃ (x0_0 : Int) (x0_1 : Int) (x0_2 : List S60) (x0_3 : List S91) (x1 : List Int) (x6 : List S60) (x7 : Int), spec_l05Ring.l0 k x0_2 x1 x6 x7 = some (r0, r1) ∧ s = St.of [(0, .c (.d (.ro [.v (.int .i64 x0_0), .v (.int .i64 x0_1), .row 61 (x0_2.map c60), .row 96 (x0_3.map c91)]))), (1, vR 2 (x1.map c2)), (6, .c (.own 202 x6.length)), (7, vI x7)] [(202, .row 61 (x6.map c60))]) ⟨hK0, _, _, _, _, _, _, _, H, rfl⟩ ?_ ?_) ⟨rfl, rfl, (ownE rfl (by simp)), rfl, trivial⟩ ⟨rfl, trivial⟩ rfl
 ·rintro _ ⟨_, _, _, _, _, _, _, _, H, _⟩
  cases H
 ·clear H hK0
  rintro k ih0 _ ⟨hK0, x0_0, x0_1, x0_2, x0_3, x1, x6, x7, H, rfl⟩
  unfold spec_l05Ring.l0 at H
  refine AG.seq ?_
  refine AG.seq ?_
  refine AG.region HM ?_
  refine a_move (v := vI _) ?_
  refine a_move (v := vR _ _) ?_
  refine a_lenR ?_ Try.underlying38
  refine a_int (u := .bool (decide (x7 < (x1.length : Int)))) ?_
  refine RA.nil nofun ?_
  by_cases hc2 : x7 < (x1.length : Int)
  ·rw [if_pos hc2] at H
   refine AG.yes rfl (decide_eq_true hc2) ?_
   refine AG.skip ?_
   refine AG.seq ?_
   refine AG.block ?_
   refine AG.seq ?_
   refine AG.seq ?_
   refine AG.region HM ?_
   refine a_move (v := vR _ _) ?_
   refine a_move (v := vI _) ?_
   by_cases hc3 : 0 ≤ x7
   ·rw [if_pos hc3] at H
    refine a_ixR (el := c2 (rd2 x1 x7)) ?_ ⟨hc3, hc2⟩ T2 Try.underlying38 (hel := R2 hc3 hc2)
    refine a_ldR (v := vI _) ?_ T2
    refine a_move (v := vO [_, _, _, _]) ?_
    refine a_nil (v := vO [_, _, _, _]) ?_
    refine a_faR (cells' := [_, _]) ?_ D32_2
    refine a_ldR (v := vR _ _) ?_ T29
    refine a_lenR ?_ Try.underlying29
    refine a_int (u := .int .i64 (wrap64 ((x0_2.length : Int) - 1))) ?_
    obtain ⟨t4, e5, H⟩ := bindO H
    refine a_call (v := vB t4) (nk := []) (L := []) ?_ rfl (spec_l00In.ok e5) id (qd (qd (qd qn))) trivial trivial trivial rfl
    refine a_un (u := .bool (!t4)) ?_
    refine RA.nil (fun _ => by kernel_rfl) ?_
    by_cases hc6 : t4 = true
    ·rw [if_pos hc6] at H
     refine AG.no rfl (congrArg Bool.not hc6) ?_
     refine AG.skip ?_
     refine AG.region HM ?_
     refine a_move (v := .c (.own _ _)) ?_
     refine a_move (v := vO [_, _, _, _]) ?_
     refine a_nil (v := vO [_, _, _, _]) ?_
     refine a_faR (cells' := [_, _]) ?_ D32_2
     refine a_ldR (v := vR _ _) ?_ T29
     refine a_move (v := vR _ _) ?_
     refine a_move (v := vI _) ?_
     refine a_ixR (el := c2 (rd2 x1 x7)) ?_ ⟨hc3, hc2⟩ T2 Try.underlying38 (hel := R2 hc3 hc2)
     refine a_ldR (v := vI _) ?_ T2
     by_cases hc7 : 0 ≤ (rd2 x1 x7)
     ·rw [if_pos hc7] at H
      by_cases hc8 : (rd2 x1 x7) < (x0_2.length : Int)
      ·rw [if_pos hc8] at H
       refine a_ixR (el := c60 (rd60 x0_2 (rd2 x1 x7))) ?_ ⟨hc7, hc8⟩ T61 Try.underlying29 (hel := R60 hc7 hc8)
       refine a_ldR (v := .agg [_, _]) ?_ T61
       refine a_lit (cs := [_, _]) (D := []) (css := ([(⟨(rd60 x0_2 (rd2 x1 x7)).f0, (rd60 x0_2 (rd2 x1 x7)).f1⟩ : S60)]).map c60) 204 ?_ N29 T61
       by_cases hc9 : x6.length < 8796093022208
       ·rw [if_pos hc9] at H
        refine a_appO (css' := (x6 ++ [(⟨(rd60 x0_2 (rd2 x1 x7)).f0, (rd60 x0_2 (rd2 x1 x7)).f1⟩ : S60)]).map c60) (n' := (x6 ++ [(⟨(rd60 x0_2 (rd2 x1 x7)).f0, (rd60 x0_2 (rd2 x1 x7)).f1⟩ : S60)]).length) ?_ T61 (by simp [maxLen]; omega) (by simp; omega) Try.underlying29 (hc := by exact List.map_append.symm) (hn := by exact List.length_map _)
        refine a_move (v := .c (.own _ _)) ?_
        refine RA.nil (fun _ => by kernel_rfl) ?_
        refine AG.region HM ?_
        refine a_move (v := vI _) ?_
        refine a_int (u := .int .i64 (wrap64 (x7 + 1))) ?_
        refine a_move (v := vI _) ?_
        refine RA.nil nofun ?_
        exact AGr.canon id (ih0 _ (by omega) _ ⟨by omega, _, _, _, _, _, _, _, H, rfl⟩) ⟨rfl, rfl, rfl, rfl, trivial⟩ ⟨rfl, trivial⟩ rfl
       ·rw [if_neg hc9] at H
        cases H
      ·rw [if_neg hc8] at H
       cases H
     ·rw [if_neg hc7] at H
      cases H
    ·rw [if_neg hc6] at H
     refine AG.yes rfl (congrArg Bool.not (Bool.eq_false_iff.2 hc6)) ?_
     refine AG.seq ?_
     refine AG.region HM ?_
     refine a_nilO (e := 61) 205 ?_ T61
     refine a_move (v := vB _) ?_
     refine RA.nil nofun ?_
     refine AG.ret ?_
     simp only [Option.some.injEq, Prod.mk.injEq] at H
     obtain ⟨rfl, rfl⟩ := H
     exact RetP.mk (fun κ => cond (Nat.beq κ 100) 205 (κ)) ⟨(ownE rfl (by simp)), rfl, trivial⟩ ⟨rfl, trivial⟩ rfl
   ·rw [if_neg hc3] at H
    cases H
  ·rw [if_neg hc2] at H
   refine AG.no rfl (decide_eq_false hc2) ?_
   refine AG.exit ?_
   refine AG.seq ?_
   refine AG.region HM ?_
   refine a_move (v := .c (.own _ _)) ?_
   refine a_move (v := .c (.own _ _)) ?_
   refine a_move (v := vB _) ?_
   refine RA.nil nofun ?_
   refine AG.ret ?_
   simp only [Option.some.injEq, Prod.mk.injEq] at H
   obtain ⟨rfl, rfl⟩ := H
   exact RetP.mk (fun κ => cond (Nat.beq κ 100) 202 (κ)) ⟨rfl, rfl, trivial⟩ ⟨rfl, trivial⟩ rfl
/-! ### spec_l02Ok: function 109 -/
def spec_l02Ok.f (a0_0 : Int) (a0_1 : Int) : Option (Bool) := (spec_l00In.f a0_0 0 20000).bind fun t1 => (if t1 = true then ((spec_l00In.f a0_1 0 20000).bind fun t4 => (some t4)) else (some false))
set_option maxRecDepth 100000 in
theorem spec_l02Ok.ok {a0_0 : Int} {a0_1 : Int} {r : Bool} (H : spec_l02Ok.f a0_0 a0_1 = some r) : OkF Try.prog 109 [.agg [.d (.v (.int .i64 a0_0)), .d (.v (.int .i64 a0_1))]] [] (.c (.d (.v (.bool r)))) [] := by
 unfold spec_l02Ok.f at H
 refine OkF.of (N := 11) (rs := [2]) (avs := [.c (.d (.v (.bool r)))]) Try.func109 rfl rfl (fun _ _ => results_tmp rfl _ _ _) (by decide) rfl rfl rfl rfl (fun w0 S => ?_)
 refine AG.seq ?_
 refine AG.region HM ?_
 refine a_box 200 ?_
 refine a_move (v := vB _) ?_
 refine RA.nil nofun ?_
 refine AG.seq ?_
 refine AG.region HM ?_
 refine a_faB (q := 0) ?_ D61_0
 refine a_ldB (v := vI _) ?_ T2
 obtain ⟨t1, e2, H⟩ := bindO H
 refine a_call (v := vB t1) (nk := []) (L := []) ?_ rfl (spec_l00In.ok e2) id (qd (qd (qd qn))) trivial trivial trivial rfl
 refine a_move (v := vB _) ?_
 by_cases hc3 : t1 = true
 ·rw [if_pos hc3] at H
  refine a_faB (q := 1) ?_ D61_1 (hg := Gs.yes rfl rfl rfl hc3)
  refine a_ldB (v := vI _) ?_ T2 (hg := Gs.yes rfl rfl rfl hc3)
  obtain ⟨t4, e5, H⟩ := bindO H
  refine a_call (v := vB t4) (nk := []) (L := []) ?_ rfl (spec_l00In.ok e5) id (qd (qd (qd qn))) trivial trivial trivial rfl (hg := Gs.yes rfl rfl rfl hc3)
  refine a_pick (b := true) (v := vB _) ?_ hc3
  refine a_move (v := vB _) ?_
  refine RA.nil nofun ?_
  refine AG.ret ?_
  obtain rfl := Option.some.inj H
  exact RetP.mk id ⟨rfl, trivial⟩ trivial rfl
 ·rw [if_neg hc3] at H
  refine RA.skip rfl rfl rfl rfl rfl (Bool.eq_false_iff.2 hc3) (by decide) ?_
  refine RA.skip rfl rfl rfl rfl rfl (Bool.eq_false_iff.2 hc3) (by decide) ?_
  refine RA.skip rfl rfl rfl rfl rfl (Bool.eq_false_iff.2 hc3) (by decide) ?_
  refine a_pick (b := false) (v := vB _) ?_ (Bool.eq_false_iff.2 hc3)
  refine a_move (v := vB _) ?_
  refine RA.nil nofun ?_
  refine AG.ret ?_
  obtain rfl := Option.some.inj H
  exact RetP.mk id ⟨rfl, trivial⟩ trivial rfl
/-! ### spec_l00Min: function 71 -/
def spec_l00Min.f (a0 : Int) (a1 : Int) : Option (Int) := if a0 < a1 then (some a0) else (some a1)
set_option maxRecDepth 100000 in
theorem spec_l00Min.ok {a0 : Int} {a1 : Int} {r : Int} (H : spec_l00Min.f a0 a1 = some r) : OkF Try.prog 71 [vI a0, vI a1] [] (.c (.d (.v (.int .i64 r)))) [] := by
 unfold spec_l00Min.f at H
 refine OkF.of (N := 10) (rs := [4]) (avs := [.c (.d (.v (.int .i64 r)))]) Try.func71 rfl rfl (fun _ _ => results_tmp rfl _ _ _) (by decide) rfl rfl rfl rfl (fun w0 S => ?_)
 refine AG.seq ?_
 refine AG.region HM ?_
 refine a_move (v := vI _) ?_
 refine RA.nil nofun ?_
 refine AG.seq ?_
 refine AG.seq ?_
 refine AG.region HM ?_
 refine a_move (v := vI _) ?_
 refine a_move (v := vI _) ?_
 refine a_int (u := .bool (decide (a0 < a1))) ?_
 refine RA.nil nofun ?_
 by_cases hc1 : a0 < a1
 ·rw [if_pos hc1] at H
  refine AG.yes rfl (decide_eq_true hc1) ?_
  refine AG.seq ?_
  refine AG.region HM ?_
  refine a_move (v := vI _) ?_
  refine a_move (v := vI _) ?_
  refine RA.nil nofun ?_
  refine AG.ret ?_
  obtain rfl := Option.some.inj H
  exact RetP.mk id ⟨rfl, trivial⟩ trivial rfl
 ·rw [if_neg hc1] at H
  refine AG.no rfl (decide_eq_false hc1) ?_
  refine AG.skip ?_
  refine AG.seq ?_
  refine AG.region HM ?_
  refine a_move (v := vI _) ?_
  refine a_move (v := vI _) ?_
  refine RA.nil nofun ?_
  refine AG.ret ?_
  obtain rfl := Option.some.inj H
  exact RetP.mk id ⟨rfl, trivial⟩ trivial rfl
/-! ### spec_l00Max: function 90 -/
def spec_l00Max.f (a0 : Int) (a1 : Int) : Option (Int) := if a0 > a1 then (some a0) else (some a1)
set_option maxRecDepth 100000 in
theorem spec_l00Max.ok {a0 : Int} {a1 : Int} {r : Int} (H : spec_l00Max.f a0 a1 = some r) : OkF Try.prog 90 [vI a0, vI a1] [] (.c (.d (.v (.int .i64 r)))) [] := by
 unfold spec_l00Max.f at H
 refine OkF.of (N := 10) (rs := [4]) (avs := [.c (.d (.v (.int .i64 r)))]) Try.func90 rfl rfl (fun _ _ => results_tmp rfl _ _ _) (by decide) rfl rfl rfl rfl (fun w0 S => ?_)
 refine AG.seq ?_
 refine AG.region HM ?_
 refine a_move (v := vI _) ?_
 refine RA.nil nofun ?_
 refine AG.seq ?_
 refine AG.seq ?_
 refine AG.region HM ?_
 refine a_move (v := vI _) ?_
 refine a_move (v := vI _) ?_
 refine a_int (u := .bool (decide (a0 > a1))) ?_
 refine RA.nil nofun ?_
 by_cases hc1 : a0 > a1
 ·rw [if_pos hc1] at H
  refine AG.yes rfl (decide_eq_true hc1) ?_
  refine AG.seq ?_
  refine AG.region HM ?_
  refine a_move (v := vI _) ?_
  refine a_move (v := vI _) ?_
  refine RA.nil nofun ?_
  refine AG.ret ?_
  obtain rfl := Option.some.inj H
  exact RetP.mk id ⟨rfl, trivial⟩ trivial rfl
 ·rw [if_neg hc1] at H
  refine AG.no rfl (decide_eq_false hc1) ?_
  refine AG.skip ?_
  refine AG.seq ?_
  refine AG.region HM ?_
  refine a_move (v := vI _) ?_
  refine a_move (v := vI _) ?_
  refine RA.nil nofun ?_
  refine AG.ret ?_
  obtain rfl := Option.some.inj H
  exact RetP.mk id ⟨rfl, trivial⟩ trivial rfl
/-! ### spec_l02Cross: function 143 -/
def spec_l02Cross.f (a0_0 : Int) (a0_1 : Int) (a1_0 : Int) (a1_1 : Int) (a2_0 : Int) (a2_1 : Int) : Option (Int) := some (wrap64 ((wrap64 ((wrap64 (a1_0 - a0_0)) * (wrap64 (a2_1 - a0_1)))) - (wrap64 ((wrap64 (a1_1 - a0_1)) * (wrap64 (a2_0 - a0_0))))))
set_option maxRecDepth 100000 in
theorem spec_l02Cross.ok {a0_0 : Int} {a0_1 : Int} {a1_0 : Int} {a1_1 : Int} {a2_0 : Int} {a2_1 : Int} {r : Int} (H : spec_l02Cross.f a0_0 a0_1 a1_0 a1_1 a2_0 a2_1 = some r) : OkF Try.prog 143 [.agg [.d (.v (.int .i64 a0_0)), .d (.v (.int .i64 a0_1))], .agg [.d (.v (.int .i64 a1_0)), .d (.v (.int .i64 a1_1))], .agg [.d (.v (.int .i64 a2_0)), .d (.v (.int .i64 a2_1))]] [] (.c (.d (.v (.int .i64 r)))) [] := by
 unfold spec_l02Cross.f at H
 refine OkF.of (N := 30) (rs := [6]) (avs := [.c (.d (.v (.int .i64 r)))]) Try.func143 rfl rfl (fun _ _ => results_tmp rfl _ _ _) (by decide) rfl rfl rfl rfl (fun w0 S => ?_)
 refine AG.seq ?_
 refine AG.region HM ?_
 refine a_box 200 ?_
 refine a_box 201 ?_
 refine a_box 202 ?_
 refine a_move (v := vI _) ?_
 refine RA.nil nofun ?_
 refine AG.seq ?_
 refine AG.region HM ?_
 refine a_faB (q := 0) ?_ D61_0
 refine a_ldB (v := vI _) ?_ T2
 refine a_faB (q := 0) ?_ D61_0
 refine a_ldB (v := vI _) ?_ T2
 refine a_int (u := .int .i64 (wrap64 (a1_0 - a0_0))) ?_
 refine a_faB (q := 1) ?_ D61_1
 refine a_ldB (v := vI _) ?_ T2
 refine a_faB (q := 1) ?_ D61_1
 refine a_ldB (v := vI _) ?_ T2
 refine a_int (u := .int .i64 (wrap64 (a2_1 - a0_1))) ?_
 refine a_int (u := .int .i64 (wrap64 ((wrap64 (a1_0 - a0_0)) * (wrap64 (a2_1 - a0_1))))) ?_
 refine a_faB (q := 1) ?_ D61_1
 refine a_ldB (v := vI _) ?_ T2
 refine a_faB (q := 1) ?_ D61_1
 refine a_ldB (v := vI _) ?_ T2
 refine a_int (u := .int .i64 (wrap64 (a1_1 - a0_1))) ?_
 refine a_faB (q := 0) ?_ D61_0
 refine a_ldB (v := vI _) ?_ T2
 refine a_faB (q := 0) ?_ D61_0
 refine a_ldB (v := vI _) ?_ T2
 refine a_int (u := .int .i64 (wrap64 (a2_0 - a0_0))) ?_
 refine a_int (u := .int .i64 (wrap64 ((wrap64 (a1_1 - a0_1)) * (wrap64 (a2_0 - a0_0))))) ?_
 refine a_int (u := .int .i64 (wrap64 ((wrap64 ((wrap64 (a1_0 - a0_0)) * (wrap64 (a2_1 - a0_1)))) - (wrap64 ((wrap64 (a1_1 - a0_1)) * (wrap64 (a2_0 - a0_0))))))) ?_
 refine a_move (v := vI _) ?_
 refine RA.nil nofun ?_
 refine AG.ret ?_
 obtain rfl := Option.some.inj H
 exact RetP.mk id ⟨rfl, trivial⟩ trivial rfl
/-! ### spec_l02Side: function 131 -/
def spec_l02Side.f (a0_0 : Int) (a0_1 : Int) (a1_0 : Int) (a1_1 : Int) (a2_0 : Int) (a2_1 : Int) : Option (Int) := (spec_l02Cross.f a0_0 a0_1 a1_0 a1_1 a2_0 a2_1).bind fun t1 => (if t1 > 0 then (some 1) else (if t1 < 0 then (some (-1)) else (some 0)))
set_option maxRecDepth 100000 in
theorem spec_l02Side.ok {a0_0 : Int} {a0_1 : Int} {a1_0 : Int} {a1_1 : Int} {a2_0 : Int} {a2_1 : Int} {r : Int} (H : spec_l02Side.f a0_0 a0_1 a1_0 a1_1 a2_0 a2_1 = some r) : OkF Try.prog 131 [.agg [.d (.v (.int .i64 a0_0)), .d (.v (.int .i64 a0_1))], .agg [.d (.v (.int .i64 a1_0)), .d (.v (.int .i64 a1_1))], .agg [.d (.v (.int .i64 a2_0)), .d (.v (.int .i64 a2_1))]] [] (.c (.d (.v (.int .i64 r)))) [] := by
 unfold spec_l02Side.f at H
 refine OkF.of (N := 16) (rs := [6]) (avs := [.c (.d (.v (.int .i64 r)))]) Try.func131 rfl rfl (fun _ _ => results_tmp rfl _ _ _) (by decide) rfl rfl rfl rfl (fun w0 S => ?_)
 refine AG.seq ?_
 refine AG.region HM ?_
 refine a_box 200 ?_
 refine a_box 201 ?_
 refine a_box 202 ?_
 refine a_move (v := vI _) ?_
 refine RA.nil nofun ?_
 refine AG.seq ?_
 refine AG.region HM ?_
 refine a_ldB (v := .agg [_, _]) ?_ T61
 refine a_ldB (v := .agg [_, _]) ?_ T61
 refine a_ldB (v := .agg [_, _]) ?_ T61
 obtain ⟨t1, e2, H⟩ := bindO H
 refine a_call (v := vI t1) (nk := []) (L := []) ?_ rfl (spec_l02Cross.ok e2) id (qg (qg (qg qn))) trivial trivial trivial rfl
 refine a_move (v := vI _) ?_
 refine RA.nil nofun ?_
 refine AG.seq ?_
 refine AG.seq ?_
 refine AG.region HM ?_
 refine a_move (v := vI _) ?_
 refine a_int (u := .bool (decide (t1 > 0))) ?_
 refine RA.nil nofun ?_
 by_cases hc3 : t1 > 0
 ·rw [if_pos hc3] at H
  refine AG.yes rfl (decide_eq_true hc3) ?_
  refine AG.seq ?_
  refine AG.region HM ?_
  refine a_move (v := vI _) ?_
  refine RA.nil nofun ?_
  refine AG.ret ?_
  obtain rfl := Option.some.inj H
  exact RetP.mk id ⟨rfl, trivial⟩ trivial rfl
 ·rw [if_neg hc3] at H
  refine AG.no rfl (decide_eq_false hc3) ?_
  refine AG.skip ?_
  refine AG.seq ?_
  refine AG.seq ?_
  refine AG.region HM ?_
  refine a_move (v := vI _) ?_
  refine a_int (u := .bool (decide (t1 < 0))) ?_
  refine RA.nil nofun ?_
  by_cases hc4 : t1 < 0
  ·rw [if_pos hc4] at H
   refine AG.yes rfl (decide_eq_true hc4) ?_
   refine AG.seq ?_
   refine AG.region HM ?_
   refine a_move (v := vI _) ?_
   refine RA.nil nofun ?_
   refine AG.ret ?_
   obtain rfl := Option.some.inj H
   exact RetP.mk id ⟨rfl, trivial⟩ trivial rfl
  ·rw [if_neg hc4] at H
   refine AG.no rfl (decide_eq_false hc4) ?_
   refine AG.skip ?_
   refine AG.seq ?_
   refine AG.region HM ?_
   refine a_move (v := vI _) ?_
   refine RA.nil nofun ?_
   refine AG.ret ?_
   obtain rfl := Option.some.inj H
   exact RetP.mk id ⟨rfl, trivial⟩ trivial rfl
/-! ### spec_l02On: function 110 -/
def spec_l02On.f (a0_0 : Int) (a0_1 : Int) (a1_0 : Int) (a1_1 : Int) (a2_0 : Int) (a2_1 : Int) : Option (Bool) := (spec_l02Side.f a0_0 a0_1 a1_0 a1_1 a2_0 a2_1).bind fun t1 => (if t1 = 0 then ((spec_l00Min.f a0_0 a1_0).bind fun t4 => ((spec_l00Max.f a0_0 a1_0).bind fun t6 => ((spec_l00In.f a2_0 t4 t6).bind fun t8 => (if t8 = true then ((spec_l00Min.f a0_1 a1_1).bind fun t11 => ((spec_l00Max.f a0_1 a1_1).bind fun t13 => ((spec_l00In.f a2_1 t11 t13).bind fun t15 => (some t15)))) else (some false))))) else (some false))
set_option maxRecDepth 100000 in
theorem spec_l02On.ok {a0_0 : Int} {a0_1 : Int} {a1_0 : Int} {a1_1 : Int} {a2_0 : Int} {a2_1 : Int} {r : Bool} (H : spec_l02On.f a0_0 a0_1 a1_0 a1_1 a2_0 a2_1 = some r) : OkF Try.prog 110 [.agg [.d (.v (.int .i64 a0_0)), .d (.v (.int .i64 a0_1))], .agg [.d (.v (.int .i64 a1_0)), .d (.v (.int .i64 a1_1))], .agg [.d (.v (.int .i64 a2_0)), .d (.v (.int .i64 a2_1))]] [] (.c (.d (.v (.bool r)))) [] := by
 unfold spec_l02On.f at H
 refine OkF.of (N := 42) (rs := [6]) (avs := [.c (.d (.v (.bool r)))]) Try.func110 rfl rfl (fun _ _ => results_tmp rfl _ _ _) (by decide) rfl rfl rfl rfl (fun w0 S => ?_)
 refine AG.seq ?_
 refine AG.region HM ?_
 refine a_box 200 ?_
 refine a_box 201 ?_
 refine a_box 202 ?_
 refine a_move (v := vB _) ?_
 refine RA.nil nofun ?_
 refine AG.seq ?_
 refine AG.region HM ?_
 refine a_ldB (v := .agg [_, _]) ?_ T61
 refine a_ldB (v := .agg [_, _]) ?_ T61
 refine a_ldB (v := .agg [_, _]) ?_ T61
 obtain ⟨t1, e2, H⟩ := bindO H
 refine a_call (v := vI t1) (nk := []) (L := []) ?_ rfl (spec_l02Side.ok e2) id (qg (qg (qg qn))) trivial trivial trivial rfl
 refine a_int (u := .bool ((t1 == 0))) ?_
 refine a_move (v := vB _) ?_
 by_cases hc3 : t1 = 0
 ·rw [if_pos hc3] at H
  refine a_faB (q := 0) ?_ D61_0 (hg := Gs.yes rfl rfl rfl (beq_iff_eq.2 hc3))
  refine a_ldB (v := vI _) ?_ T2 (hg := Gs.yes rfl rfl rfl (beq_iff_eq.2 hc3))
  refine a_faB (q := 0) ?_ D61_0 (hg := Gs.yes rfl rfl rfl (beq_iff_eq.2 hc3))
  refine a_ldB (v := vI _) ?_ T2 (hg := Gs.yes rfl rfl rfl (beq_iff_eq.2 hc3))
  refine a_faB (q := 0) ?_ D61_0 (hg := Gs.yes rfl rfl rfl (beq_iff_eq.2 hc3))
  refine a_ldB (v := vI _) ?_ T2 (hg := Gs.yes rfl rfl rfl (beq_iff_eq.2 hc3))
  obtain ⟨t4, e5, H⟩ := bindO H
  refine a_call (v := vI t4) (nk := []) (L := []) ?_ rfl (spec_l00Min.ok e5) id (qd (qd qn)) trivial trivial trivial rfl (hg := Gs.yes rfl rfl rfl (beq_iff_eq.2 hc3))
  refine a_faB (q := 0) ?_ D61_0 (hg := Gs.yes rfl rfl rfl (beq_iff_eq.2 hc3))
  refine a_ldB (v := vI _) ?_ T2 (hg := Gs.yes rfl rfl rfl (beq_iff_eq.2 hc3))
  refine a_faB (q := 0) ?_ D61_0 (hg := Gs.yes rfl rfl rfl (beq_iff_eq.2 hc3))
  refine a_ldB (v := vI _) ?_ T2 (hg := Gs.yes rfl rfl rfl (beq_iff_eq.2 hc3))
  obtain ⟨t6, e7, H⟩ := bindO H
  refine a_call (v := vI t6) (nk := []) (L := []) ?_ rfl (spec_l00Max.ok e7) id (qd (qd qn)) trivial trivial trivial rfl (hg := Gs.yes rfl rfl rfl (beq_iff_eq.2 hc3))
  obtain ⟨t8, e9, H⟩ := bindO H
  refine a_call (v := vB t8) (nk := []) (L := []) ?_ rfl (spec_l00In.ok e9) id (qd (qd (qd qn))) trivial trivial trivial rfl (hg := Gs.yes rfl rfl rfl (beq_iff_eq.2 hc3))
  refine a_pick (b := true) (v := vB _) ?_ (beq_iff_eq.2 hc3)
  refine a_move (v := vB _) ?_
  by_cases hc10 : t8 = true
  ·rw [if_pos hc10] at H
   refine a_faB (q := 1) ?_ D61_1 (hg := Gs.yes rfl rfl rfl hc10)
   refine a_ldB (v := vI _) ?_ T2 (hg := Gs.yes rfl rfl rfl hc10)
   refine a_faB (q := 1) ?_ D61_1 (hg := Gs.yes rfl rfl rfl hc10)
   refine a_ldB (v := vI _) ?_ T2 (hg := Gs.yes rfl rfl rfl hc10)
   refine a_faB (q := 1) ?_ D61_1 (hg := Gs.yes rfl rfl rfl hc10)
   refine a_ldB (v := vI _) ?_ T2 (hg := Gs.yes rfl rfl rfl hc10)
   obtain ⟨t11, e12, H⟩ := bindO H
   refine a_call (v := vI t11) (nk := []) (L := []) ?_ rfl (spec_l00Min.ok e12) id (qd (qd qn)) trivial trivial trivial rfl (hg := Gs.yes rfl rfl rfl hc10)
   refine a_faB (q := 1) ?_ D61_1 (hg := Gs.yes rfl rfl rfl hc10)
   refine a_ldB (v := vI _) ?_ T2 (hg := Gs.yes rfl rfl rfl hc10)
   refine a_faB (q := 1) ?_ D61_1 (hg := Gs.yes rfl rfl rfl hc10)
   refine a_ldB (v := vI _) ?_ T2 (hg := Gs.yes rfl rfl rfl hc10)
   obtain ⟨t13, e14, H⟩ := bindO H
   refine a_call (v := vI t13) (nk := []) (L := []) ?_ rfl (spec_l00Max.ok e14) id (qd (qd qn)) trivial trivial trivial rfl (hg := Gs.yes rfl rfl rfl hc10)
   obtain ⟨t15, e16, H⟩ := bindO H
   refine a_call (v := vB t15) (nk := []) (L := []) ?_ rfl (spec_l00In.ok e16) id (qd (qd (qd qn))) trivial trivial trivial rfl (hg := Gs.yes rfl rfl rfl hc10)
   refine a_pick (b := true) (v := vB _) ?_ hc10
   refine a_move (v := vB _) ?_
   refine RA.nil (fun _ => by kernel_rfl) ?_
   refine AG.ret ?_
   obtain rfl := Option.some.inj H
   exact RetP.mk id ⟨rfl, trivial⟩ trivial rfl
  ·rw [if_neg hc10] at H
   refine RA.skip rfl rfl rfl rfl rfl (Bool.eq_false_iff.2 hc10) (by decide) ?_
   refine RA.skip rfl rfl rfl rfl rfl (Bool.eq_false_iff.2 hc10) (by decide) ?_
   refine RA.skip rfl rfl rfl rfl rfl (Bool.eq_false_iff.2 hc10) (by decide) ?_
   refine RA.skip rfl rfl rfl rfl rfl (Bool.eq_false_iff.2 hc10) (by decide) ?_
   refine RA.skip rfl rfl rfl rfl rfl (Bool.eq_false_iff.2 hc10) (by decide) ?_
   refine RA.skip rfl rfl rfl rfl rfl (Bool.eq_false_iff.2 hc10) (by decide) ?_
   refine RA.skip rfl rfl rfl rfl rfl (Bool.eq_false_iff.2 hc10) (by decide) ?_
   refine RA.skip rfl rfl rfl rfl rfl (Bool.eq_false_iff.2 hc10) (by decide) ?_
   refine RA.skip rfl rfl rfl rfl rfl (Bool.eq_false_iff.2 hc10) (by decide) ?_
   refine RA.skip rfl rfl rfl rfl rfl (Bool.eq_false_iff.2 hc10) (by decide) ?_
   refine RA.skip rfl rfl rfl rfl rfl (Bool.eq_false_iff.2 hc10) (by decide) ?_
   refine RA.skip rfl rfl rfl rfl rfl (Bool.eq_false_iff.2 hc10) (by decide) ?_
   refine RA.skip rfl rfl rfl rfl rfl (Bool.eq_false_iff.2 hc10) (by decide) ?_
   refine a_pick (b := false) (v := vB _) ?_ (Bool.eq_false_iff.2 hc10)
   refine a_move (v := vB _) ?_
   refine RA.nil (fun _ => by kernel_rfl) ?_
   refine AG.ret ?_
   obtain rfl := Option.some.inj H
   exact RetP.mk id ⟨rfl, trivial⟩ trivial rfl
 ·rw [if_neg hc3] at H
  refine RA.skip rfl rfl rfl rfl rfl (beq_eq_false_iff_ne.2 hc3) (by decide) ?_
  refine RA.skip rfl rfl rfl rfl rfl (beq_eq_false_iff_ne.2 hc3) (by decide) ?_
  refine RA.skip rfl rfl rfl rfl rfl (beq_eq_false_iff_ne.2 hc3) (by decide) ?_
  refine RA.skip rfl rfl rfl rfl rfl (beq_eq_false_iff_ne.2 hc3) (by decide) ?_
  refine RA.skip rfl rfl rfl rfl rfl (beq_eq_false_iff_ne.2 hc3) (by decide) ?_
  refine RA.skip rfl rfl rfl rfl rfl (beq_eq_false_iff_ne.2 hc3) (by decide) ?_
  refine RA.skip rfl rfl rfl rfl rfl (beq_eq_false_iff_ne.2 hc3) (by decide) ?_
  refine RA.skip rfl rfl rfl rfl rfl (beq_eq_false_iff_ne.2 hc3) (by decide) ?_
  refine RA.skip rfl rfl rfl rfl rfl (beq_eq_false_iff_ne.2 hc3) (by decide) ?_
  refine RA.skip rfl rfl rfl rfl rfl (beq_eq_false_iff_ne.2 hc3) (by decide) ?_
  refine RA.skip rfl rfl rfl rfl rfl (beq_eq_false_iff_ne.2 hc3) (by decide) ?_
  refine RA.skip rfl rfl rfl rfl rfl (beq_eq_false_iff_ne.2 hc3) (by decide) ?_
  refine RA.skip rfl rfl rfl rfl rfl (beq_eq_false_iff_ne.2 hc3) (by decide) ?_
  refine a_pick (b := false) (v := vB _) ?_ (beq_eq_false_iff_ne.2 hc3)
  refine a_move (v := vB _) ?_
  refine RA.skip rfl rfl rfl rfl rfl rfl (by decide) ?_
  refine RA.skip rfl rfl rfl rfl rfl rfl (by decide) ?_
  refine RA.skip rfl rfl rfl rfl rfl rfl (by decide) ?_
  refine RA.skip rfl rfl rfl rfl rfl rfl (by decide) ?_
  refine RA.skip rfl rfl rfl rfl rfl rfl (by decide) ?_
  refine RA.skip rfl rfl rfl rfl rfl rfl (by decide) ?_
  refine RA.skip rfl rfl rfl rfl rfl rfl (by decide) ?_
  refine RA.skip rfl rfl rfl rfl rfl rfl (by decide) ?_
  refine RA.skip rfl rfl rfl rfl rfl rfl (by decide) ?_
  refine RA.skip rfl rfl rfl rfl rfl rfl (by decide) ?_
  refine RA.skip rfl rfl rfl rfl rfl rfl (by decide) ?_
  refine RA.skip rfl rfl rfl rfl rfl rfl (by decide) ?_
  refine RA.skip rfl rfl rfl rfl rfl rfl (by decide) ?_
  refine a_pick (b := false) (v := vB _) ?_ rfl
  refine a_move (v := vB _) ?_
  refine RA.nil (fun _ => by kernel_rfl) ?_
  refine AG.ret ?_
  obtain rfl := Option.some.inj H
  exact RetP.mk id ⟨rfl, trivial⟩ trivial rfl
/-! ### spec_l02Crosses: function 132 -/
def spec_l02Crosses.f (a0_0 : Int) (a0_1 : Int) (a1_0 : Int) (a1_1 : Int) (a2_0 : Int) (a2_1 : Int) (a3_0 : Int) (a3_1 : Int) : Option (Bool) := (spec_l02Side.f a0_0 a0_1 a1_0 a1_1 a2_0 a2_1).bind fun t1 => ((spec_l02Side.f a0_0 a0_1 a1_0 a1_1 a3_0 a3_1).bind fun t3 => (if (wrap64 (t1 * t3)) < 0 then ((spec_l02Side.f a2_0 a2_1 a3_0 a3_1 a0_0 a0_1).bind fun t6 => ((spec_l02Side.f a2_0 a2_1 a3_0 a3_1 a1_0 a1_1).bind fun t8 => (some (decide ((wrap64 (t6 * t8)) < 0))))) else (some false)))
set_option maxRecDepth 100000 in
theorem spec_l02Crosses.ok {a0_0 : Int} {a0_1 : Int} {a1_0 : Int} {a1_1 : Int} {a2_0 : Int} {a2_1 : Int} {a3_0 : Int} {a3_1 : Int} {r : Bool} (H : spec_l02Crosses.f a0_0 a0_1 a1_0 a1_1 a2_0 a2_1 a3_0 a3_1 = some r) : OkF Try.prog 132 [.agg [.d (.v (.int .i64 a0_0)), .d (.v (.int .i64 a0_1))], .agg [.d (.v (.int .i64 a1_0)), .d (.v (.int .i64 a1_1))], .agg [.d (.v (.int .i64 a2_0)), .d (.v (.int .i64 a2_1))], .agg [.d (.v (.int .i64 a3_0)), .d (.v (.int .i64 a3_1))]] [] (.c (.d (.v (.bool r)))) [] := by
 unfold spec_l02Crosses.f at H
 refine OkF.of (N := 31) (rs := [8]) (avs := [.c (.d (.v (.bool r)))]) Try.func132 rfl rfl (fun _ _ => results_tmp rfl _ _ _) (by decide) rfl rfl rfl rfl (fun w0 S => ?_)
 refine AG.seq ?_
 refine AG.region HM ?_
 refine a_box 200 ?_
 refine a_box 201 ?_
 refine a_box 202 ?_
 refine a_box 203 ?_
 refine a_move (v := vB _) ?_
 refine RA.nil nofun ?_
 refine AG.seq ?_
 refine AG.region HM ?_
 refine a_ldB (v := .agg [_, _]) ?_ T61
 refine a_ldB (v := .agg [_, _]) ?_ T61
 refine a_ldB (v := .agg [_, _]) ?_ T61
 obtain ⟨t1, e2, H⟩ := bindO H
 refine a_call (v := vI t1) (nk := []) (L := []) ?_ rfl (spec_l02Side.ok e2) id (qg (qg (qg qn))) trivial trivial trivial rfl
 refine a_ldB (v := .agg [_, _]) ?_ T61
 refine a_ldB (v := .agg [_, _]) ?_ T61
 refine a_ldB (v := .agg [_, _]) ?_ T61
 obtain ⟨t3, e4, H⟩ := bindO H
 refine a_call (v := vI t3) (nk := []) (L := []) ?_ rfl (spec_l02Side.ok e4) id (qg (qg (qg qn))) trivial trivial trivial rfl
 refine a_int (u := .int .i64 (wrap64 (t1 * t3))) ?_
 refine a_int (u := .bool (decide ((wrap64 (t1 * t3)) < 0))) ?_
 refine a_move (v := vB _) ?_
 by_cases hc5 : (wrap64 (t1 * t3)) < 0
 ·rw [if_pos hc5] at H
  refine a_ldB (v := .agg [_, _]) ?_ T61 (hg := Gs.yes rfl rfl rfl (decide_eq_true hc5))
  refine a_ldB (v := .agg [_, _]) ?_ T61 (hg := Gs.yes rfl rfl rfl (decide_eq_true hc5))
  refine a_ldB (v := .agg [_, _]) ?_ T61 (hg := Gs.yes rfl rfl rfl (decide_eq_true hc5))
  obtain ⟨t6, e7, H⟩ := bindO H
  refine a_call (v := vI t6) (nk := []) (L := []) ?_ rfl (spec_l02Side.ok e7) id (qg (qg (qg qn))) trivial trivial trivial rfl (hg := Gs.yes rfl rfl rfl (decide_eq_true hc5))
  refine a_ldB (v := .agg [_, _]) ?_ T61 (hg := Gs.yes rfl rfl rfl (decide_eq_true hc5))
  refine a_ldB (v := .agg [_, _]) ?_ T61 (hg := Gs.yes rfl rfl rfl (decide_eq_true hc5))
  refine a_ldB (v := .agg [_, _]) ?_ T61 (hg := Gs.yes rfl rfl rfl (decide_eq_true hc5))
  obtain ⟨t8, e9, H⟩ := bindO H
  refine a_call (v := vI t8) (nk := []) (L := []) ?_ rfl (spec_l02Side.ok e9) id (qg (qg (qg qn))) trivial trivial trivial rfl (hg := Gs.yes rfl rfl rfl (decide_eq_true hc5))
  refine a_int (u := .int .i64 (wrap64 (t6 * t8))) ?_ (hg := Gs.yes rfl rfl rfl (decide_eq_true hc5))
  refine a_int (u := .bool (decide ((wrap64 (t6 * t8)) < 0))) ?_ (hg := Gs.yes rfl rfl rfl (decide_eq_true hc5))
  refine a_pick (b := true) (v := vB _) ?_ (decide_eq_true hc5)
  refine a_move (v := vB _) ?_
  refine RA.nil (fun _ => by kernel_rfl) ?_
  refine AG.ret ?_
  obtain rfl := Option.some.inj H
  exact RetP.mk id ⟨rfl, trivial⟩ trivial rfl
 ·rw [if_neg hc5] at H
  refine RA.skip rfl rfl rfl rfl rfl (decide_eq_false hc5) (by decide) ?_
  refine RA.skip rfl rfl rfl rfl rfl (decide_eq_false hc5) (by decide) ?_
  refine RA.skip rfl rfl rfl rfl rfl (decide_eq_false hc5) (by decide) ?_
  refine RA.skip rfl rfl rfl rfl rfl (decide_eq_false hc5) (by decide) ?_
  refine RA.skip rfl rfl rfl rfl rfl (decide_eq_false hc5) (by decide) ?_
  refine RA.skip rfl rfl rfl rfl rfl (decide_eq_false hc5) (by decide) ?_
  refine RA.skip rfl rfl rfl rfl rfl (decide_eq_false hc5) (by decide) ?_
  refine RA.skip rfl rfl rfl rfl rfl (decide_eq_false hc5) (by decide) ?_
  refine RA.skip rfl rfl rfl rfl rfl (decide_eq_false hc5) (by decide) ?_
  refine RA.skip rfl rfl rfl rfl rfl (decide_eq_false hc5) (by decide) ?_
  refine a_pick (b := false) (v := vB _) ?_ (decide_eq_false hc5)
  refine a_move (v := vB _) ?_
  refine RA.nil (fun _ => by kernel_rfl) ?_
  refine AG.ret ?_
  obtain rfl := Option.some.inj H
  exact RetP.mk id ⟨rfl, trivial⟩ trivial rfl
/-! ### spec_l03Meet: function 111 -/
def spec_l03Meet.f (a0_0 : Int) (a0_1 : Int) (a1_0 : Int) (a1_1 : Int) (a2_0 : Int) (a2_1 : Int) (a3_0 : Int) (a3_1 : Int) : Option (Bool) := (spec_l02Crosses.f a0_0 a0_1 a1_0 a1_1 a2_0 a2_1 a3_0 a3_1).bind fun t1 => (if t1 = true then (some true) else ((spec_l02On.f a0_0 a0_1 a1_0 a1_1 a2_0 a2_1).bind fun t4 => (if t4 = true then (some true) else ((spec_l02On.f a0_0 a0_1 a1_0 a1_1 a3_0 a3_1).bind fun t7 => (if t7 = true then (some true) else ((spec_l02On.f a2_0 a2_1 a3_0 a3_1 a0_0 a0_1).bind fun t10 => (if t10 = true then (some true) else ((spec_l02On.f a2_0 a2_1 a3_0 a3_1 a1_0 a1_1).bind fun t13 => (some t13)))))))))
set_option maxRecDepth 100000 in
theorem spec_l03Meet.ok {a0_0 : Int} {a0_1 : Int} {a1_0 : Int} {a1_1 : Int} {a2_0 : Int} {a2_1 : Int} {a3_0 : Int} {a3_1 : Int} {r : Bool} (H : spec_l03Meet.f a0_0 a0_1 a1_0 a1_1 a2_0 a2_1 a3_0 a3_1 = some r) : OkF Try.prog 111 [.agg [.d (.v (.int .i64 a0_0)), .d (.v (.int .i64 a0_1))], .agg [.d (.v (.int .i64 a1_0)), .d (.v (.int .i64 a1_1))], .agg [.d (.v (.int .i64 a2_0)), .d (.v (.int .i64 a2_1))], .agg [.d (.v (.int .i64 a3_0)), .d (.v (.int .i64 a3_1))]] [] (.c (.d (.v (.bool r)))) [] := by
 unfold spec_l03Meet.f at H
 refine OkF.of (N := 38) (rs := [8]) (avs := [.c (.d (.v (.bool r)))]) Try.func111 rfl rfl (fun _ _ => results_tmp rfl _ _ _) (by decide) rfl rfl rfl rfl (fun w0 S => ?_)
 refine AG.seq ?_
 refine AG.region HM ?_
 refine a_box 200 ?_
 refine a_box 201 ?_
 refine a_box 202 ?_
 refine a_box 203 ?_
 refine a_move (v := vB _) ?_
 refine RA.nil nofun ?_
 refine AG.seq ?_
 refine AG.region HM ?_
 refine a_ldB (v := .agg [_, _]) ?_ T61
 refine a_ldB (v := .agg [_, _]) ?_ T61
 refine a_ldB (v := .agg [_, _]) ?_ T61
 refine a_ldB (v := .agg [_, _]) ?_ T61
 obtain ⟨t1, e2, H⟩ := bindO H
 refine a_call (v := vB t1) (nk := []) (L := []) ?_ rfl (spec_l02Crosses.ok e2) id (qg (qg (qg (qg qn)))) trivial trivial trivial rfl
 refine a_move (v := vB _) ?_
 by_cases hc3 : t1 = true
 ·rw [if_pos hc3] at H
  refine RA.skip rfl rfl rfl rfl rfl hc3 (by decide) ?_
  refine RA.skip rfl rfl rfl rfl rfl hc3 (by decide) ?_
  refine RA.skip rfl rfl rfl rfl rfl hc3 (by decide) ?_
  refine RA.skip rfl rfl rfl rfl rfl hc3 (by decide) ?_
  refine a_pick (b := true) (v := vB _) ?_ hc3
  refine a_move (v := vB _) ?_
  refine RA.skip rfl rfl rfl rfl rfl rfl (by decide) ?_
  refine RA.skip rfl rfl rfl rfl rfl rfl (by decide) ?_
  refine RA.skip rfl rfl rfl rfl rfl rfl (by decide) ?_
  refine RA.skip rfl rfl rfl rfl rfl rfl (by decide) ?_
  refine a_pick (b := true) (v := vB _) ?_ rfl
  refine a_move (v := vB _) ?_
  refine RA.skip rfl rfl rfl rfl rfl rfl (by decide) ?_
  refine RA.skip rfl rfl rfl rfl rfl rfl (by decide) ?_
  refine RA.skip rfl rfl rfl rfl rfl rfl (by decide) ?_
  refine RA.skip rfl rfl rfl rfl rfl rfl (by decide) ?_
  refine a_pick (b := true) (v := vB _) ?_ rfl
  refine a_move (v := vB _) ?_
  refine RA.skip rfl rfl rfl rfl rfl rfl (by decide) ?_
  refine RA.skip rfl rfl rfl rfl rfl rfl (by decide) ?_
  refine RA.skip rfl rfl rfl rfl rfl rfl (by decide) ?_
  refine RA.skip rfl rfl rfl rfl rfl rfl (by decide) ?_
  refine a_pick (b := true) (v := vB _) ?_ rfl
  refine a_move (v := vB _) ?_
  refine RA.nil nofun ?_
  refine AG.ret ?_
  obtain rfl := Option.some.inj H
  exact RetP.mk id ⟨rfl, trivial⟩ trivial rfl
 ·rw [if_neg hc3] at H
  refine a_ldB (v := .agg [_, _]) ?_ T61 (hg := Gs.yes rfl rfl rfl (Bool.eq_false_iff.2 hc3))
  refine a_ldB (v := .agg [_, _]) ?_ T61 (hg := Gs.yes rfl rfl rfl (Bool.eq_false_iff.2 hc3))
  refine a_ldB (v := .agg [_, _]) ?_ T61 (hg := Gs.yes rfl rfl rfl (Bool.eq_false_iff.2 hc3))
  obtain ⟨t4, e5, H⟩ := bindO H
  refine a_call (v := vB t4) (nk := []) (L := []) ?_ rfl (spec_l02On.ok e5) id (qg (qg (qg qn))) trivial trivial trivial rfl (hg := Gs.yes rfl rfl rfl (Bool.eq_false_iff.2 hc3))
  refine a_pick (b := false) (v := vB _) ?_ (Bool.eq_false_iff.2 hc3)
  refine a_move (v := vB _) ?_
  by_cases hc6 : t4 = true
  ·rw [if_pos hc6] at H
   refine RA.skip rfl rfl rfl rfl rfl hc6 (by decide) ?_
   refine RA.skip rfl rfl rfl rfl rfl hc6 (by decide) ?_
   refine RA.skip rfl rfl rfl rfl rfl hc6 (by decide) ?_
   refine RA.skip rfl rfl rfl rfl rfl hc6 (by decide) ?_
   refine a_pick (b := true) (v := vB _) ?_ hc6
   refine a_move (v := vB _) ?_
   refine RA.skip rfl rfl rfl rfl rfl rfl (by decide) ?_
   refine RA.skip rfl rfl rfl rfl rfl rfl (by decide) ?_
   refine RA.skip rfl rfl rfl rfl rfl rfl (by decide) ?_
   refine RA.skip rfl rfl rfl rfl rfl rfl (by decide) ?_
   refine a_pick (b := true) (v := vB _) ?_ rfl
   refine a_move (v := vB _) ?_
   refine RA.skip rfl rfl rfl rfl rfl rfl (by decide) ?_
   refine RA.skip rfl rfl rfl rfl rfl rfl (by decide) ?_
   refine RA.skip rfl rfl rfl rfl rfl rfl (by decide) ?_
   refine RA.skip rfl rfl rfl rfl rfl rfl (by decide) ?_
   refine a_pick (b := true) (v := vB _) ?_ rfl
   refine a_move (v := vB _) ?_
   refine RA.nil nofun ?_
   refine AG.ret ?_
   obtain rfl := Option.some.inj H
   exact RetP.mk id ⟨rfl, trivial⟩ trivial rfl
  ·rw [if_neg hc6] at H
   refine a_ldB (v := .agg [_, _]) ?_ T61 (hg := Gs.yes rfl rfl rfl (Bool.eq_false_iff.2 hc6))
   refine a_ldB (v := .agg [_, _]) ?_ T61 (hg := Gs.yes rfl rfl rfl (Bool.eq_false_iff.2 hc6))
   refine a_ldB (v := .agg [_, _]) ?_ T61 (hg := Gs.yes rfl rfl rfl (Bool.eq_false_iff.2 hc6))
   obtain ⟨t7, e8, H⟩ := bindO H
   refine a_call (v := vB t7) (nk := []) (L := []) ?_ rfl (spec_l02On.ok e8) id (qg (qg (qg qn))) trivial trivial trivial rfl (hg := Gs.yes rfl rfl rfl (Bool.eq_false_iff.2 hc6))
   refine a_pick (b := false) (v := vB _) ?_ (Bool.eq_false_iff.2 hc6)
   refine a_move (v := vB _) ?_
   by_cases hc9 : t7 = true
   ·rw [if_pos hc9] at H
    refine RA.skip rfl rfl rfl rfl rfl hc9 (by decide) ?_
    refine RA.skip rfl rfl rfl rfl rfl hc9 (by decide) ?_
    refine RA.skip rfl rfl rfl rfl rfl hc9 (by decide) ?_
    refine RA.skip rfl rfl rfl rfl rfl hc9 (by decide) ?_
    refine a_pick (b := true) (v := vB _) ?_ hc9
    refine a_move (v := vB _) ?_
    refine RA.skip rfl rfl rfl rfl rfl rfl (by decide) ?_
    refine RA.skip rfl rfl rfl rfl rfl rfl (by decide) ?_
    refine RA.skip rfl rfl rfl rfl rfl rfl (by decide) ?_
    refine RA.skip rfl rfl rfl rfl rfl rfl (by decide) ?_
    refine a_pick (b := true) (v := vB _) ?_ rfl
    refine a_move (v := vB _) ?_
    refine RA.nil nofun ?_
    refine AG.ret ?_
    obtain rfl := Option.some.inj H
    exact RetP.mk id ⟨rfl, trivial⟩ trivial rfl
   ·rw [if_neg hc9] at H
    refine a_ldB (v := .agg [_, _]) ?_ T61 (hg := Gs.yes rfl rfl rfl (Bool.eq_false_iff.2 hc9))
    refine a_ldB (v := .agg [_, _]) ?_ T61 (hg := Gs.yes rfl rfl rfl (Bool.eq_false_iff.2 hc9))
    refine a_ldB (v := .agg [_, _]) ?_ T61 (hg := Gs.yes rfl rfl rfl (Bool.eq_false_iff.2 hc9))
    obtain ⟨t10, e11, H⟩ := bindO H
    refine a_call (v := vB t10) (nk := []) (L := []) ?_ rfl (spec_l02On.ok e11) id (qg (qg (qg qn))) trivial trivial trivial rfl (hg := Gs.yes rfl rfl rfl (Bool.eq_false_iff.2 hc9))
    refine a_pick (b := false) (v := vB _) ?_ (Bool.eq_false_iff.2 hc9)
    refine a_move (v := vB _) ?_
    by_cases hc12 : t10 = true
    ·rw [if_pos hc12] at H
     refine RA.skip rfl rfl rfl rfl rfl hc12 (by decide) ?_
     refine RA.skip rfl rfl rfl rfl rfl hc12 (by decide) ?_
     refine RA.skip rfl rfl rfl rfl rfl hc12 (by decide) ?_
     refine RA.skip rfl rfl rfl rfl rfl hc12 (by decide) ?_
     refine a_pick (b := true) (v := vB _) ?_ hc12
     refine a_move (v := vB _) ?_
     refine RA.nil nofun ?_
     refine AG.ret ?_
     obtain rfl := Option.some.inj H
     exact RetP.mk id ⟨rfl, trivial⟩ trivial rfl
    ·rw [if_neg hc12] at H
     refine a_ldB (v := .agg [_, _]) ?_ T61 (hg := Gs.yes rfl rfl rfl (Bool.eq_false_iff.2 hc12))
     refine a_ldB (v := .agg [_, _]) ?_ T61 (hg := Gs.yes rfl rfl rfl (Bool.eq_false_iff.2 hc12))
     refine a_ldB (v := .agg [_, _]) ?_ T61 (hg := Gs.yes rfl rfl rfl (Bool.eq_false_iff.2 hc12))
     obtain ⟨t13, e14, H⟩ := bindO H
     refine a_call (v := vB t13) (nk := []) (L := []) ?_ rfl (spec_l02On.ok e14) id (qg (qg (qg qn))) trivial trivial trivial rfl (hg := Gs.yes rfl rfl rfl (Bool.eq_false_iff.2 hc12))
     refine a_pick (b := false) (v := vB _) ?_ (Bool.eq_false_iff.2 hc12)
     refine a_move (v := vB _) ?_
     refine RA.nil nofun ?_
     refine AG.ret ?_
     obtain rfl := Option.some.inj H
     exact RetP.mk id ⟨rfl, trivial⟩ trivial rfl
/-! ### spec_l03Area: function 112 -/
def spec_l03Area.l0 : Nat → List S60 → Int → Int → Option (Int)
 | 0, _, _, _ => none
 | k + 1, x0, x3, x4 => if x4 < (x0.length : Int) then (if (x0.length : Int) = 0 then (none) else (if 0 ≤ (Int.tmod (wrap64 (x4 + 1)) (x0.length : Int)) then (if (Int.tmod (wrap64 (x4 + 1)) (x0.length : Int)) < (x0.length : Int) then (if 0 ≤ x4 then (spec_l03Area.l0 k x0 (wrap64 (x3 + (wrap64 ((wrap64 (((rd60 x0 x4).f0) * ((rd60 x0 (Int.tmod (wrap64 (x4 + 1)) (x0.length : Int))).f1))) - (wrap64 (((rd60 x0 x4).f1) * ((rd60 x0 (Int.tmod (wrap64 (x4 + 1)) (x0.length : Int))).f0))))))) (wrap64 (x4 + 1))) else (none)) else (none)) else (none))) else (some x3)
def spec_l03Area.f (k : Nat) (l0 : List S60) : Option (Int) := spec_l03Area.l0 k l0 0 0
set_option maxRecDepth 100000 in
theorem spec_l03Area.ok {k : Nat} {l0 : List S60} {r : Int} (H : spec_l03Area.f k l0 = some r) : OkF Try.prog 112 [vR 61 (l0.map c60)] [] (.c (.d (.v (.int .i64 r)))) [] := by
 unfold spec_l03Area.f at H
 refine OkF.of (N := 40) (rs := [2]) (avs := [.c (.d (.v (.int .i64 r)))]) Try.func112 rfl rfl (fun _ _ => results_tmp rfl _ _ _) (by decide) rfl rfl rfl rfl (fun w0 S => ?_)
 refine AG.seq ?_
 refine AG.region HM ?_
 refine a_move (v := vI _) ?_
 refine RA.nil nofun ?_
 refine AG.seq ?_
 refine AG.region HM ?_
 refine a_move (v := vI _) ?_
 refine RA.nil nofun ?_
 refine AG.seq ?_
 refine AG.seq ?_
 refine AG.region HM ?_
 refine a_move (v := vI _) ?_
 refine RA.nil nofun ?_
 refine AG.block ?_
 refine AG.loop ?_
 obtain ⟨K0, hK0, gK0⟩ : ∃ K, k ≤ K ∧ K ≤ k := ⟨k, Nat.le_refl k, Nat.le_refl k⟩
 refine AGr.canon id (AGr.loopI (n := k) (fun k s => k ≤ K0 ∧ ∃ (x0 : List S60) (x3 : Int) (x4 : Int), spec_l03Area.l0 k x0 x3 x4 = some r ∧ s = St.of [(0, vR 61 (x0.map c60)), (3, vI x3), (4, vI x4)] []) ⟨hK0, _, _, _, H, rfl⟩ ?_ ?_) ⟨rfl, rfl, rfl, trivial⟩ trivial rfl
 ·rintro _ ⟨_, _, _, _, H, _⟩
  cases H
 ·clear H hK0
  rintro k ih0 _ ⟨hK0, x0, x3, x4, H, rfl⟩
  unfold spec_l03Area.l0 at H
  refine AG.seq ?_
  refine AG.seq ?_
  refine AG.region HM ?_
  refine a_move (v := vI _) ?_
  refine a_move (v := vR _ _) ?_
  refine a_lenR ?_ Try.underlying29
  refine a_int (u := .bool (decide (x4 < (x0.length : Int)))) ?_
  refine RA.nil nofun ?_
  by_cases hc1 : x4 < (x0.length : Int)
  ·rw [if_pos hc1] at H
   refine AG.yes rfl (decide_eq_true hc1) ?_
   refine AG.skip ?_
   refine AG.seq ?_
   refine AG.block ?_
   refine AG.seq ?_
   refine AG.region HM ?_
   refine a_move (v := vR _ _) ?_
   refine a_move (v := vI _) ?_
   refine a_int (u := .int .i64 (wrap64 (x4 + 1))) ?_
   refine a_move (v := vR _ _) ?_
   refine a_lenR ?_ Try.underlying29
   by_cases hc2 : (x0.length : Int) = 0
   ·rw [if_pos hc2] at H
    cases H
   ·rw [if_neg hc2] at H
    refine a_rem (r := Int.tmod (wrap64 (x4 + 1)) (x0.length : Int)) ?_ hc2
    by_cases hc3 : 0 ≤ (Int.tmod (wrap64 (x4 + 1)) (x0.length : Int))
    ·rw [if_pos hc3] at H
     by_cases hc4 : (Int.tmod (wrap64 (x4 + 1)) (x0.length : Int)) < (x0.length : Int)
     ·rw [if_pos hc4] at H
      refine a_ixR (el := c60 (rd60 x0 (Int.tmod (wrap64 (x4 + 1)) (x0.length : Int)))) ?_ ⟨hc3, hc4⟩ T61 Try.underlying29 (hel := R60 hc3 hc4)
      refine a_ldR (v := .agg [_, _]) ?_ T61
      refine a_alloc (cs := [_, _]) 200 ?_ T61
      refine a_stB (cs' := [_, _]) ?_ T61
      refine RA.nil nofun ?_
      refine AG.region HM ?_
      refine a_move (v := vI _) ?_
      refine a_move (v := vR _ _) ?_
      refine a_move (v := vI _) ?_
      by_cases hc5 : 0 ≤ x4
      ·rw [if_pos hc5] at H
       refine a_ixR (el := c60 (rd60 x0 x4)) ?_ ⟨hc5, hc1⟩ T61 Try.underlying29 (hel := R60 hc5 hc1)
       refine a_faR (cells' := [_, _]) ?_ D61_0
       refine a_ldR (v := vI _) ?_ T2
       refine a_faB (q := 1) ?_ D61_1
       refine a_ldB (v := vI _) ?_ T2
       refine a_int (u := .int .i64 (wrap64 (((rd60 x0 x4).f0) * ((rd60 x0 (Int.tmod (wrap64 (x4 + 1)) (x0.length : Int))).f1)))) ?_
       refine a_move (v := vR _ _) ?_
       refine a_move (v := vI _) ?_
       refine a_ixR (el := c60 (rd60 x0 x4)) ?_ ⟨hc5, hc1⟩ T61 Try.underlying29 (hel := R60 hc5 hc1)
       refine a_faR (cells' := [_]) ?_ D61_1
       refine a_ldR (v := vI _) ?_ T2
       refine a_faB (q := 0) ?_ D61_0
       refine a_ldB (v := vI _) ?_ T2
       refine a_int (u := .int .i64 (wrap64 (((rd60 x0 x4).f1) * ((rd60 x0 (Int.tmod (wrap64 (x4 + 1)) (x0.length : Int))).f0)))) ?_
       refine a_int (u := .int .i64 (wrap64 ((wrap64 (((rd60 x0 x4).f0) * ((rd60 x0 (Int.tmod (wrap64 (x4 + 1)) (x0.length : Int))).f1))) - (wrap64 (((rd60 x0 x4).f1) * ((rd60 x0 (Int.tmod (wrap64 (x4 + 1)) (x0.length : Int))).f0)))))) ?_
       refine a_int (u := .int .i64 (wrap64 (x3 + (wrap64 ((wrap64 (((rd60 x0 x4).f0) * ((rd60 x0 (Int.tmod (wrap64 (x4 + 1)) (x0.length : Int))).f1))) - (wrap64 (((rd60 x0 x4).f1) * ((rd60 x0 (Int.tmod (wrap64 (x4 + 1)) (x0.length : Int))).f0)))))))) ?_
       refine a_move (v := vI _) ?_
       refine RA.nil (fun _ => by kernel_rfl) ?_
       refine AG.region HM ?_
       refine a_move (v := vI _) ?_
       refine a_int (u := .int .i64 (wrap64 (x4 + 1))) ?_
       refine a_move (v := vI _) ?_
       refine RA.nil nofun ?_
       exact AGr.canon id (ih0 _ (by omega) _ ⟨by omega, _, _, _, H, rfl⟩) ⟨rfl, rfl, rfl, trivial⟩ trivial rfl
      ·rw [if_neg hc5] at H
       cases H
     ·rw [if_neg hc4] at H
      cases H
    ·rw [if_neg hc3] at H
     cases H
  ·rw [if_neg hc1] at H
   refine AG.no rfl (decide_eq_false hc1) ?_
   refine AG.exit ?_
   refine AG.seq ?_
   refine AG.region HM ?_
   refine a_move (v := vI _) ?_
   refine a_move (v := vI _) ?_
   refine RA.nil nofun ?_
   refine AG.ret ?_
   obtain rfl := Option.some.inj H
   exact RetP.mk id ⟨rfl, trivial⟩ trivial rfl
/-! ### spec_l03Ok: function 89 -/
mutual
def spec_l03Ok.j0 : Nat → List S60 → Int → Bool → Option (Bool)
 | 0, _, _, _ => none
 | k + 1, x0, x3, x17 => if x17 = true then (some false) else (spec_l03Ok.l0 k x0 x3 0)
def spec_l03Ok.l0 : Nat → List S60 → Int → Int → Option (Bool)
 | 0, _, _, _ => none
 | k + 1, x0, x3, x4 => if x4 < x3 then (if 0 ≤ x4 then (if x4 < (x0.length : Int) then ((spec_l02Ok.f ((rd60 x0 x4).f0) ((rd60 x0 x4).f1)).bind fun t6 => (if t6 = true then (spec_l03Ok.l0 k x0 x3 (wrap64 (x4 + 1))) else (some false))) else (none)) else (none)) else (spec_l03Ok.l1 k x0 x3 0)
def spec_l03Ok.l1 : Nat → List S60 → Int → Int → Option (Bool)
 | 0, _, _, _ => none
 | k + 1, x0, x3, x5 => if x5 < x3 then (if 0 ≤ x5 then (if x5 < (x0.length : Int) then (if x3 = 0 then (none) else (if 0 ≤ (Int.tmod (wrap64 (x5 + 1)) x3) then (if (Int.tmod (wrap64 (x5 + 1)) x3) < (x0.length : Int) then (if 0 ≤ (Int.tmod (wrap64 (x5 + 2)) x3) then (if (Int.tmod (wrap64 (x5 + 2)) x3) < (x0.length : Int) then (if (((rd60 x0 x5).f0) == ((rd60 x0 (Int.tmod (wrap64 (x5 + 1)) x3)).f0) && (((rd60 x0 x5).f1) == ((rd60 x0 (Int.tmod (wrap64 (x5 + 1)) x3)).f1))) = true then (spec_l03Ok.j1 k x0 x3 x5 ((rd60 x0 x5).f0) ((rd60 x0 x5).f1) ((rd60 x0 (Int.tmod (wrap64 (x5 + 1)) x3)).f0) ((rd60 x0 (Int.tmod (wrap64 (x5 + 1)) x3)).f1) true) else ((spec_l02On.f ((rd60 x0 x5).f0) ((rd60 x0 x5).f1) ((rd60 x0 (Int.tmod (wrap64 (x5 + 1)) x3)).f0) ((rd60 x0 (Int.tmod (wrap64 (x5 + 1)) x3)).f1) ((rd60 x0 (Int.tmod (wrap64 (x5 + 2)) x3)).f0) ((rd60 x0 (Int.tmod (wrap64 (x5 + 2)) x3)).f1)).bind fun t18 => (if t18 = true then (spec_l03Ok.j1 k x0 x3 x5 ((rd60 x0 x5).f0) ((rd60 x0 x5).f1) ((rd60 x0 (Int.tmod (wrap64 (x5 + 1)) x3)).f0) ((rd60 x0 (Int.tmod (wrap64 (x5 + 1)) x3)).f1) true) else ((spec_l02On.f ((rd60 x0 (Int.tmod (wrap64 (x5 + 1)) x3)).f0) ((rd60 x0 (Int.tmod (wrap64 (x5 + 1)) x3)).f1) ((rd60 x0 (Int.tmod (wrap64 (x5 + 2)) x3)).f0) ((rd60 x0 (Int.tmod (wrap64 (x5 + 2)) x3)).f1) ((rd60 x0 x5).f0) ((rd60 x0 x5).f1)).bind fun t21 => (spec_l03Ok.j1 k x0 x3 x5 ((rd60 x0 x5).f0) ((rd60 x0 x5).f1) ((rd60 x0 (Int.tmod (wrap64 (x5 + 1)) x3)).f0) ((rd60 x0 (Int.tmod (wrap64 (x5 + 1)) x3)).f1) t21))))) else (none)) else (none)) else (none)) else (none))) else (none)) else (none)) else ((spec_l03Area.f k x0).bind fun t34 => (some (decide (t34 > 0))))
def spec_l03Ok.j1 : Nat → List S60 → Int → Int → Int → Int → Int → Int → Bool → Option (Bool)
 | 0, _, _, _, _, _, _, _, _ => none
 | k + 1, x0, x3, x5, y207_0, y207_1, y208_0, y208_1, x66 => if x66 = true then (some false) else (spec_l03Ok.l2 k x0 x3 x5 y207_0 y207_1 y208_0 y208_1 (wrap64 (x5 + 2)))
def spec_l03Ok.l2 : Nat → List S60 → Int → Int → Int → Int → Int → Int → Int → Option (Bool)
 | 0, _, _, _, _, _, _, _, _ => none
 | k + 1, x0, x3, x5, y209_0, y209_1, y210_0, y210_1, x9 => if x9 < x3 then (if x3 = 0 then (none) else (if (Int.tmod (wrap64 (x9 + 1)) x3) = x5 then (spec_l03Ok.l2 k x0 x3 x5 y209_0 y209_1 y210_0 y210_1 (wrap64 (x9 + 1))) else (if 0 ≤ x9 then (if x9 < (x0.length : Int) then (if 0 ≤ (Int.tmod (wrap64 (x9 + 1)) x3) then (if (Int.tmod (wrap64 (x9 + 1)) x3) < (x0.length : Int) then ((spec_l03Meet.f y209_0 y209_1 y210_0 y210_1 ((rd60 x0 x9).f0) ((rd60 x0 x9).f1) ((rd60 x0 (Int.tmod (wrap64 (x9 + 1)) x3)).f0) ((rd60 x0 (Int.tmod (wrap64 (x9 + 1)) x3)).f1)).bind fun t31 => (if t31 = true then (some false) else (spec_l03Ok.l2 k x0 x3 x5 y209_0 y209_1 y210_0 y210_1 (wrap64 (x9 + 1))))) else (none)) else (none)) else (none)) else (none)))) else (spec_l03Ok.l1 k x0 x3 (wrap64 (x5 + 1)))
end
def spec_l03Ok.f (k : Nat) (l0 : List S60) : Option (Bool) := if (l0.length : Int) < 3 then (spec_l03Ok.j0 k l0 (l0.length : Int) true) else (spec_l03Ok.j0 k l0 (l0.length : Int) (decide ((l0.length : Int) > 24)))
set_option maxRecDepth 100000 in
theorem spec_l03Ok.ok {k : Nat} {l0 : List S60} {r : Bool} (H : spec_l03Ok.f k l0 = some r) : OkF Try.prog 89 [vR 61 (l0.map c60)] [] (.c (.d (.v (.bool r)))) [] := by
 unfold spec_l03Ok.f at H
 refine OkF.of (N := 99) (rs := [2]) (avs := [.c (.d (.v (.bool r)))]) Try.func89 rfl rfl (fun _ _ => results_tmp rfl _ _ _) (by decide) rfl rfl rfl rfl (fun w0 S => ?_)
 refine AG.seq ?_
 refine AG.region HM ?_
 refine a_move (v := vB _) ?_
 refine RA.nil nofun ?_
 refine AG.seq ?_
 refine AG.region HM ?_
 refine a_move (v := vR _ _) ?_
 refine a_lenR ?_ Try.underlying29
 refine a_move (v := vI _) ?_
 refine RA.nil nofun ?_
 refine AG.seq ?_
 refine AG.seq ?_
 refine AG.joinR (fun s => ∃ q, q ≤ k ∧ ∃ (x0 : List S60) (x3 : Int) (x17 : Bool), spec_l03Ok.j0 q x0 x3 x17 = some r ∧ s = St.of [(0, vR 61 (x0.map c60)), (3, vI x3), (17, vB x17)] []) ?_ ?_
 ·skip
  refine AG.region HM ?_
  refine a_move (v := vI _) ?_
  refine a_int (u := .bool (decide ((l0.length : Int) < 3))) ?_
  refine a_move (v := vB _) ?_
  by_cases hc1 : (l0.length : Int) < 3
  ·rw [if_pos hc1] at H
   refine RA.skip rfl rfl rfl rfl rfl (decide_eq_true hc1) (by decide) ?_
   refine RA.skip rfl rfl rfl rfl rfl (decide_eq_true hc1) (by decide) ?_
   refine a_pick (b := true) (v := vB _) ?_ (decide_eq_true hc1)
   refine RA.nil nofun ?_
   exact CanR.mk id ⟨_, (by omega), _, _, _, H, rfl⟩ ⟨rfl, rfl, rfl, trivial⟩ trivial rfl
  ·rw [if_neg hc1] at H
   refine a_move (v := vI _) ?_ (hg := Gs.yes rfl rfl rfl (decide_eq_false hc1))
   refine a_int (u := .bool (decide ((l0.length : Int) > 24))) ?_ (hg := Gs.yes rfl rfl rfl (decide_eq_false hc1))
   refine a_pick (b := false) (v := vB _) ?_ (decide_eq_false hc1)
   refine RA.nil nofun ?_
   exact CanR.mk id ⟨_, (by omega), _, _, _, H, rfl⟩ ⟨rfl, rfl, rfl, trivial⟩ trivial rfl
 ·clear H
  rintro _ ⟨k, hj0, x0, x3, x17, H, rfl⟩
  cases k with
  | zero => cases H
  | succ k =>
   rw [spec_l03Ok.j0] at H
   by_cases hc2 : x17 = true
   ·rw [if_pos hc2] at H
    refine AG.yes rfl hc2 ?_
    refine AG.seq ?_
    refine AG.region HM ?_
    refine a_move (v := vB _) ?_
    refine RA.nil nofun ?_
    refine AG.ret ?_
    obtain rfl := Option.some.inj H
    exact RetP.mk id ⟨rfl, trivial⟩ trivial rfl
   ·rw [if_neg hc2] at H
    refine AG.no rfl (Bool.eq_false_iff.2 hc2) ?_
    refine AG.skip ?_
    refine AG.seq ?_
    refine AG.seq ?_
    refine AG.region HM ?_
    refine a_move (v := vI _) ?_
    refine RA.nil nofun ?_
    refine AG.block ?_
    refine AG.loop ?_
    obtain ⟨K0, hK0, gK0⟩ : ∃ K, k ≤ K ∧ K ≤ k := ⟨k, Nat.le_refl k, Nat.le_refl k⟩
    refine AGr.canon id (AGr.loopI (n := k) (fun k s => k ≤ K0 ∧ ∃ (x0 : List S60) (x3 : Int) (x4 : Int), spec_l03Ok.l0 k x0 x3 x4 = some r ∧ s = St.of [(0, vR 61 (x0.map c60)), (3, vI x3), (4, vI x4)] []) ⟨hK0, _, _, _, H, rfl⟩ ?_ ?_) ⟨rfl, rfl, rfl, trivial⟩ trivial rfl
    ·rintro _ ⟨_, _, _, _, H, _⟩
     cases H
    ·clear H hK0
     rintro k ih0 _ ⟨hK0, x0, x3, x4, H, rfl⟩
     unfold spec_l03Ok.l0 at H
     refine AG.seq ?_
     refine AG.seq ?_
     refine AG.region HM ?_
     refine a_move (v := vI _) ?_
     refine a_move (v := vI _) ?_
     refine a_int (u := .bool (decide (x4 < x3))) ?_
     refine RA.nil nofun ?_
     by_cases hc3 : x4 < x3
     ·rw [if_pos hc3] at H
      refine AG.yes rfl (decide_eq_true hc3) ?_
      refine AG.skip ?_
      refine AG.seq ?_
      refine AG.block ?_
      refine AG.seq ?_
      refine AG.region HM ?_
      refine a_move (v := vR _ _) ?_
      refine a_move (v := vI _) ?_
      by_cases hc4 : 0 ≤ x4
      ·rw [if_pos hc4] at H
       by_cases hc5 : x4 < (x0.length : Int)
       ·rw [if_pos hc5] at H
        refine a_ixR (el := c60 (rd60 x0 x4)) ?_ ⟨hc4, hc5⟩ T61 Try.underlying29 (hel := R60 hc4 hc5)
        refine a_ldR (v := .agg [_, _]) ?_ T61
        obtain ⟨t6, e7, H⟩ := bindO H
        refine a_call (v := vB t6) (nk := []) (L := []) ?_ rfl (spec_l02Ok.ok e7) id (qg qn) trivial trivial trivial rfl
        refine a_un (u := .bool (!t6)) ?_
        refine RA.nil nofun ?_
        by_cases hc8 : t6 = true
        ·rw [if_pos hc8] at H
         refine AG.no rfl (congrArg Bool.not hc8) ?_
         refine AG.skip ?_
         refine AG.region HM ?_
         refine a_move (v := vI _) ?_
         refine a_int (u := .int .i64 (wrap64 (x4 + 1))) ?_
         refine a_move (v := vI _) ?_
         refine RA.nil nofun ?_
         exact AGr.canon id (ih0 _ (by omega) _ ⟨by omega, _, _, _, H, rfl⟩) ⟨rfl, rfl, rfl, trivial⟩ trivial rfl
        ·rw [if_neg hc8] at H
         refine AG.yes rfl (congrArg Bool.not (Bool.eq_false_iff.2 hc8)) ?_
         refine AG.seq ?_
         refine AG.region HM ?_
         refine a_move (v := vB _) ?_
         refine RA.nil nofun ?_
         refine AG.ret ?_
         obtain rfl := Option.some.inj H
         exact RetP.mk id ⟨rfl, trivial⟩ trivial rfl
       ·rw [if_neg hc5] at H
        cases H
      ·rw [if_neg hc4] at H
       cases H
     ·rw [if_neg hc3] at H
      refine AG.no rfl (decide_eq_false hc3) ?_
      refine AG.exit ?_
      refine AG.seq ?_
      refine AG.seq ?_
      refine AG.region HM ?_
      refine a_move (v := vI _) ?_
      refine RA.nil nofun ?_
      refine AG.block ?_
      refine AG.loop ?_
      obtain ⟨K1, hK1, gK1⟩ : ∃ K, k ≤ K ∧ K ≤ k := ⟨k, Nat.le_refl k, Nat.le_refl k⟩
      refine AGr.canon id (AGr.loopI (n := k) (fun k s => k ≤ K1 ∧ ∃ (x0 : List S60) (x3 : Int) (x5 : Int), spec_l03Ok.l1 k x0 x3 x5 = some r ∧ s = St.of [(0, vR 61 (x0.map c60)), (3, vI x3), (5, vI x5)] []) ⟨hK1, _, _, _, H, rfl⟩ ?_ ?_) ⟨rfl, rfl, rfl, trivial⟩ trivial rfl
      ·rintro _ ⟨_, _, _, _, H, _⟩
       cases H
      ·clear H hK1
       rintro k ih1 _ ⟨hK1, x0, x3, x5, H, rfl⟩
       unfold spec_l03Ok.l1 at H
       refine AG.seq ?_
       refine AG.seq ?_
       refine AG.region HM ?_
       refine a_move (v := vI _) ?_
       refine a_move (v := vI _) ?_
       refine a_int (u := .bool (decide (x5 < x3))) ?_
       refine RA.nil nofun ?_
       by_cases hc9 : x5 < x3
       ·rw [if_pos hc9] at H
        refine AG.yes rfl (decide_eq_true hc9) ?_
        refine AG.skip ?_
        refine AG.seq ?_
        refine AG.block ?_
        refine AG.seq ?_
        refine AG.region HM ?_
        refine a_move (v := vR _ _) ?_
        refine a_move (v := vI _) ?_
        by_cases hc10 : 0 ≤ x5
        ·rw [if_pos hc10] at H
         by_cases hc11 : x5 < (x0.length : Int)
         ·rw [if_pos hc11] at H
          refine a_ixR (el := c60 (rd60 x0 x5)) ?_ ⟨hc10, hc11⟩ T61 Try.underlying29 (hel := R60 hc10 hc11)
          refine a_ldR (v := .agg [_, _]) ?_ T61
          refine a_alloc (cs := [_, _]) 202 ?_ T61
          refine a_stB (cs' := [_, _]) ?_ T61
          refine RA.nil nofun ?_
          refine AG.seq ?_
          refine AG.region HM ?_
          refine a_move (v := vR _ _) ?_
          refine a_move (v := vI _) ?_
          refine a_int (u := .int .i64 (wrap64 (x5 + 1))) ?_
          refine a_move (v := vI _) ?_
          by_cases hc12 : x3 = 0
          ·rw [if_pos hc12] at H
           cases H
          ·rw [if_neg hc12] at H
           refine a_rem (r := Int.tmod (wrap64 (x5 + 1)) x3) ?_ hc12
           by_cases hc13 : 0 ≤ (Int.tmod (wrap64 (x5 + 1)) x3)
           ·rw [if_pos hc13] at H
            by_cases hc14 : (Int.tmod (wrap64 (x5 + 1)) x3) < (x0.length : Int)
            ·rw [if_pos hc14] at H
             refine a_ixR (el := c60 (rd60 x0 (Int.tmod (wrap64 (x5 + 1)) x3))) ?_ ⟨hc13, hc14⟩ T61 Try.underlying29 (hel := R60 hc13 hc14)
             refine a_ldR (v := .agg [_, _]) ?_ T61
             refine a_alloc (cs := [_, _]) 203 ?_ T61
             refine a_stB (cs' := [_, _]) ?_ T61
             refine RA.nil nofun ?_
             refine AG.seq ?_
             refine AG.region HM ?_
             refine a_move (v := vR _ _) ?_
             refine a_move (v := vI _) ?_
             refine a_int (u := .int .i64 (wrap64 (x5 + 2))) ?_
             refine a_move (v := vI _) ?_
             refine a_rem (r := Int.tmod (wrap64 (x5 + 2)) x3) ?_ hc12
             by_cases hc15 : 0 ≤ (Int.tmod (wrap64 (x5 + 2)) x3)
             ·rw [if_pos hc15] at H
              by_cases hc16 : (Int.tmod (wrap64 (x5 + 2)) x3) < (x0.length : Int)
              ·rw [if_pos hc16] at H
               refine a_ixR (el := c60 (rd60 x0 (Int.tmod (wrap64 (x5 + 2)) x3))) ?_ ⟨hc15, hc16⟩ T61 Try.underlying29 (hel := R60 hc15 hc16)
               refine a_ldR (v := .agg [_, _]) ?_ T61
               refine a_alloc (cs := [_, _]) 204 ?_ T61
               refine a_stB (cs' := [_, _]) ?_ T61
               refine RA.nil nofun ?_
               refine AG.seq ?_
               refine AG.seq ?_
               refine AG.joinR (fun s => ∃ q, q ≤ k ∧ ∃ (x0 : List S60) (x3 : Int) (x5 : Int) (y207_0 : Int) (y207_1 : Int) (y208_0 : Int) (y208_1 : Int) (x66 : Bool), spec_l03Ok.j1 q x0 x3 x5 y207_0 y207_1 y208_0 y208_1 x66 = some r ∧ s = St.of [(0, vR 61 (x0.map c60)), (3, vI x3), (5, vI x5), (6, .c (.ptr 207 0)), (7, .c (.ptr 208 0)), (66, vB x66)] [(207, .box 61 [.d (.v (.int .i64 y207_0)), .d (.v (.int .i64 y207_1))]), (208, .box 61 [.d (.v (.int .i64 y208_0)), .d (.v (.int .i64 y208_1))])]) ?_ ?_
               ·skip
                refine AG.region HM ?_
                refine a_ldB (v := .agg [_, _]) ?_ T61
                refine a_ldB (v := .agg [_, _]) ?_ T61
                refine a_eqS (b := (((rd60 x0 x5).f0) == ((rd60 x0 (Int.tmod (wrap64 (x5 + 1)) x3)).f0) && (((rd60 x0 x5).f1) == ((rd60 x0 (Int.tmod (wrap64 (x5 + 1)) x3)).f1)))) ?_ (.inl ⟨rfl, rfl⟩) (Q61 ((rd60 x0 x5).f0) ((rd60 x0 (Int.tmod (wrap64 (x5 + 1)) x3)).f0) ((rd60 x0 x5).f1) ((rd60 x0 (Int.tmod (wrap64 (x5 + 1)) x3)).f1)).1
                refine a_move (v := vB _) ?_
                by_cases hc17 : (((rd60 x0 x5).f0) == ((rd60 x0 (Int.tmod (wrap64 (x5 + 1)) x3)).f0) && (((rd60 x0 x5).f1) == ((rd60 x0 (Int.tmod (wrap64 (x5 + 1)) x3)).f1))) = true
                ·rw [if_pos hc17] at H
                 refine RA.skip rfl rfl rfl rfl rfl hc17 (by decide) ?_
                 refine RA.skip rfl rfl rfl rfl rfl hc17 (by decide) ?_
                 refine RA.skip rfl rfl rfl rfl rfl hc17 (by decide) ?_
                 refine RA.skip rfl rfl rfl rfl rfl hc17 (by decide) ?_
                 refine a_pick (b := true) (v := vB _) ?_ hc17
                 refine a_move (v := vB _) ?_
                 refine RA.skip rfl rfl rfl rfl rfl rfl (by decide) ?_
                 refine RA.skip rfl rfl rfl rfl rfl rfl (by decide) ?_
                 refine RA.skip rfl rfl rfl rfl rfl rfl (by decide) ?_
                 refine RA.skip rfl rfl rfl rfl rfl rfl (by decide) ?_
                 refine a_pick (b := true) (v := vB _) ?_ rfl
                 refine RA.nil nofun ?_
                 exact CanR.mk (fun κ => cond (Nat.beq κ 207) 202 (cond (Nat.beq κ 208) 203 (κ))) ⟨_, (by omega), _, _, _, _, _, _, _, _, H, rfl⟩ ⟨rfl, rfl, rfl, rfl, rfl, rfl, trivial⟩ ⟨rfl, rfl, trivial⟩ rfl
                ·rw [if_neg hc17] at H
                 refine a_ldB (v := .agg [_, _]) ?_ T61 (hg := Gs.yes rfl rfl rfl (Bool.eq_false_iff.2 hc17))
                 refine a_ldB (v := .agg [_, _]) ?_ T61 (hg := Gs.yes rfl rfl rfl (Bool.eq_false_iff.2 hc17))
                 refine a_ldB (v := .agg [_, _]) ?_ T61 (hg := Gs.yes rfl rfl rfl (Bool.eq_false_iff.2 hc17))
                 obtain ⟨t18, e19, H⟩ := bindO H
                 refine a_call (v := vB t18) (nk := []) (L := []) ?_ rfl (spec_l02On.ok e19) id (qg (qg (qg qn))) trivial trivial trivial rfl (hg := Gs.yes rfl rfl rfl (Bool.eq_false_iff.2 hc17))
                 refine a_pick (b := false) (v := vB _) ?_ (Bool.eq_false_iff.2 hc17)
                 refine a_move (v := vB _) ?_
                 by_cases hc20 : t18 = true
                 ·rw [if_pos hc20] at H
                  refine RA.skip rfl rfl rfl rfl rfl hc20 (by decide) ?_
                  refine RA.skip rfl rfl rfl rfl rfl hc20 (by decide) ?_
                  refine RA.skip rfl rfl rfl rfl rfl hc20 (by decide) ?_
                  refine RA.skip rfl rfl rfl rfl rfl hc20 (by decide) ?_
                  refine a_pick (b := true) (v := vB _) ?_ hc20
                  refine RA.nil nofun ?_
                  exact CanR.mk (fun κ => cond (Nat.beq κ 207) 202 (cond (Nat.beq κ 208) 203 (κ))) ⟨_, (by omega), _, _, _, _, _, _, _, _, H, rfl⟩ ⟨rfl, rfl, rfl, rfl, rfl, rfl, trivial⟩ ⟨rfl, rfl, trivial⟩ rfl
                 ·rw [if_neg hc20] at H
                  refine a_ldB (v := .agg [_, _]) ?_ T61 (hg := Gs.yes rfl rfl rfl (Bool.eq_false_iff.2 hc20))
                  refine a_ldB (v := .agg [_, _]) ?_ T61 (hg := Gs.yes rfl rfl rfl (Bool.eq_false_iff.2 hc20))
                  refine a_ldB (v := .agg [_, _]) ?_ T61 (hg := Gs.yes rfl rfl rfl (Bool.eq_false_iff.2 hc20))
                  obtain ⟨t21, e22, H⟩ := bindO H
                  refine a_call (v := vB t21) (nk := []) (L := []) ?_ rfl (spec_l02On.ok e22) id (qg (qg (qg qn))) trivial trivial trivial rfl (hg := Gs.yes rfl rfl rfl (Bool.eq_false_iff.2 hc20))
                  refine a_pick (b := false) (v := vB _) ?_ (Bool.eq_false_iff.2 hc20)
                  refine RA.nil nofun ?_
                  exact CanR.mk (fun κ => cond (Nat.beq κ 207) 202 (cond (Nat.beq κ 208) 203 (κ))) ⟨_, (by omega), _, _, _, _, _, _, _, _, H, rfl⟩ ⟨rfl, rfl, rfl, rfl, rfl, rfl, trivial⟩ ⟨rfl, rfl, trivial⟩ rfl
               ·clear H
                rintro _ ⟨k, hj1, x0, x3, x5, y207_0, y207_1, y208_0, y208_1, x66, H, rfl⟩
                cases k with
                | zero => cases H
                | succ k =>
                 rw [spec_l03Ok.j1] at H
                 by_cases hc23 : x66 = true
                 ·rw [if_pos hc23] at H
                  refine AG.yes rfl hc23 ?_
                  refine AG.seq ?_
                  refine AG.region HM ?_
                  refine a_move (v := vB _) ?_
                  refine RA.nil nofun ?_
                  refine AG.ret ?_
                  obtain rfl := Option.some.inj H
                  exact RetP.mk id ⟨rfl, trivial⟩ trivial rfl
                 ·rw [if_neg hc23] at H
                  refine AG.no rfl (Bool.eq_false_iff.2 hc23) ?_
                  refine AG.skip ?_
                  refine AG.seq ?_
                  refine AG.region HM ?_
                  refine a_move (v := vI _) ?_
                  refine a_int (u := .int .i64 (wrap64 (x5 + 2))) ?_
                  refine a_move (v := vI _) ?_
                  refine RA.nil nofun ?_
                  refine AG.block ?_
                  refine AG.loop ?_
                  obtain ⟨K2, hK2, gK2⟩ : ∃ K, k ≤ K ∧ K ≤ k := ⟨k, Nat.le_refl k, Nat.le_refl k⟩
                  refine AGr.canon (fun κ => cond (Nat.beq κ 209) 207 (cond (Nat.beq κ 210) 208 (κ))) (AGr.loopI (n := k) (fun k s => k ≤ K2 ∧ ∃ (x0 : List S60) (x3 : Int) (x5 : Int) (y209_0 : Int) (y209_1 : Int) (y210_0 : Int) (y210_1 : Int) (x9 : Int), spec_l03Ok.l2 k x0 x3 x5 y209_0 y209_1 y210_0 y210_1 x9 = some r ∧ s = St.of [(0, vR 61 (x0.map c60)), (3, vI x3), (5, vI x5), (6, .c (.ptr 209 0)), (7, .c (.ptr 210 0)), (9, vI x9)] [(209, .box 61 [.d (.v (.int .i64 y209_0)), .d (.v (.int .i64 y209_1))]), (210, .box 61 [.d (.v (.int .i64 y210_0)), .d (.v (.int .i64 y210_1))])]) ⟨hK2, _, _, _, _, _, _, _, _, H, rfl⟩ ?_ ?_) ⟨rfl, rfl, rfl, rfl, rfl, rfl, trivial⟩ ⟨rfl, rfl, trivial⟩ rfl
                  ·rintro _ ⟨_, _, _, _, _, _, _, _, _, H, _⟩
                   cases H
                  ·clear H hK2
                   rintro k ih2 _ ⟨hK2, x0, x3, x5, y209_0, y209_1, y210_0, y210_1, x9, H, rfl⟩
                   unfold spec_l03Ok.l2 at H
                   refine AG.seq ?_
                   refine AG.seq ?_
                   refine AG.region HM ?_
                   refine a_move (v := vI _) ?_
                   refine a_move (v := vI _) ?_
                   refine a_int (u := .bool (decide (x9 < x3))) ?_
                   refine RA.nil nofun ?_
                   by_cases hc24 : x9 < x3
                   ·rw [if_pos hc24] at H
                    refine AG.yes rfl (decide_eq_true hc24) ?_
                    refine AG.skip ?_
                    refine AG.seq ?_
                    refine AG.block ?_
                    refine AG.seq ?_
                    refine AG.region HM ?_
                    refine a_move (v := vI _) ?_
                    refine a_int (u := .int .i64 (wrap64 (x9 + 1))) ?_
                    refine a_move (v := vI _) ?_
                    by_cases hc25 : x3 = 0
                    ·rw [if_pos hc25] at H
                     cases H
                    ·rw [if_neg hc25] at H
                     refine a_rem (r := Int.tmod (wrap64 (x9 + 1)) x3) ?_ hc25
                     refine a_move (v := vI _) ?_
                     refine a_int (u := .bool (((Int.tmod (wrap64 (x9 + 1)) x3) != x5))) ?_
                     refine a_move (v := vB _) ?_
                     by_cases hc26 : (Int.tmod (wrap64 (x9 + 1)) x3) = x5
                     ·rw [if_pos hc26] at H
                      refine RA.skip rfl rfl rfl rfl rfl (bne_eq_false_iff_eq.2 hc26) (by decide) ?_
                      refine RA.skip rfl rfl rfl rfl rfl (bne_eq_false_iff_eq.2 hc26) (by decide) ?_
                      refine RA.skip rfl rfl rfl rfl rfl (bne_eq_false_iff_eq.2 hc26) (by decide) ?_
                      refine RA.skip rfl rfl rfl rfl rfl (bne_eq_false_iff_eq.2 hc26) (by decide) ?_
                      refine RA.skip rfl rfl rfl rfl rfl (bne_eq_false_iff_eq.2 hc26) (by decide) ?_
                      refine RA.skip rfl rfl rfl rfl rfl (bne_eq_false_iff_eq.2 hc26) (by decide) ?_
                      refine RA.skip rfl rfl rfl rfl rfl (bne_eq_false_iff_eq.2 hc26) (by decide) ?_
                      refine RA.skip rfl rfl rfl rfl rfl (bne_eq_false_iff_eq.2 hc26) (by decide) ?_
                      refine RA.skip rfl rfl rfl rfl rfl (bne_eq_false_iff_eq.2 hc26) (by decide) ?_
                      refine RA.skip rfl rfl rfl rfl rfl (bne_eq_false_iff_eq.2 hc26) (by decide) ?_
                      refine RA.skip rfl rfl rfl rfl rfl (bne_eq_false_iff_eq.2 hc26) (by decide) ?_
                      refine RA.skip rfl rfl rfl rfl rfl (bne_eq_false_iff_eq.2 hc26) (by decide) ?_
                      refine RA.skip rfl rfl rfl rfl rfl (bne_eq_false_iff_eq.2 hc26) (by decide) ?_
                      refine RA.skip rfl rfl rfl rfl rfl (bne_eq_false_iff_eq.2 hc26) (by decide) ?_
                      refine a_pick (b := false) (v := vB _) ?_ (bne_eq_false_iff_eq.2 hc26)
                      refine RA.nil (fun _ => by kernel_rfl) ?_
                      refine AG.no rfl rfl ?_
                      refine AG.skip ?_
                      refine AG.region HM ?_
                      refine a_move (v := vI _) ?_
                      refine a_int (u := .int .i64 (wrap64 (x9 + 1))) ?_
                      refine a_move (v := vI _) ?_
                      refine RA.nil nofun ?_
                      exact AGr.canon id (ih2 _ (by omega) _ ⟨by omega, _, _, _, _, _, _, _, _, H, rfl⟩) ⟨rfl, rfl, rfl, rfl, rfl, rfl, trivial⟩ ⟨rfl, rfl, trivial⟩ rfl
                     ·rw [if_neg hc26] at H
                      refine a_ldB (v := .agg [_, _]) ?_ T61 (hg := Gs.yes rfl rfl rfl (bne_iff_ne.2 hc26))
                      refine a_ldB (v := .agg [_, _]) ?_ T61 (hg := Gs.yes rfl rfl rfl (bne_iff_ne.2 hc26))
                      refine a_move (v := vR _ _) ?_ (hg := Gs.yes rfl rfl rfl (bne_iff_ne.2 hc26))
                      refine a_move (v := vI _) ?_ (hg := Gs.yes rfl rfl rfl (bne_iff_ne.2 hc26))
                      by_cases hc27 : 0 ≤ x9
                      ·rw [if_pos hc27] at H
                       by_cases hc28 : x9 < (x0.length : Int)
                       ·rw [if_pos hc28] at H
                        refine a_ixR (el := c60 (rd60 x0 x9)) ?_ ⟨hc27, hc28⟩ T61 Try.underlying29 (hel := R60 hc27 hc28) (hg := Gs.yes rfl rfl rfl (bne_iff_ne.2 hc26))
                        refine a_ldR (v := .agg [_, _]) ?_ T61 (hg := Gs.yes rfl rfl rfl (bne_iff_ne.2 hc26))
                        refine a_move (v := vR _ _) ?_ (hg := Gs.yes rfl rfl rfl (bne_iff_ne.2 hc26))
                        refine a_move (v := vI _) ?_ (hg := Gs.yes rfl rfl rfl (bne_iff_ne.2 hc26))
                        refine a_int (u := .int .i64 (wrap64 (x9 + 1))) ?_ (hg := Gs.yes rfl rfl rfl (bne_iff_ne.2 hc26))
                        refine a_move (v := vI _) ?_ (hg := Gs.yes rfl rfl rfl (bne_iff_ne.2 hc26))
                        refine a_rem (r := Int.tmod (wrap64 (x9 + 1)) x3) ?_ hc25 (hg := Gs.yes rfl rfl rfl (bne_iff_ne.2 hc26))
                        by_cases hc29 : 0 ≤ (Int.tmod (wrap64 (x9 + 1)) x3)
                        ·rw [if_pos hc29] at H
                         by_cases hc30 : (Int.tmod (wrap64 (x9 + 1)) x3) < (x0.length : Int)
                         ·rw [if_pos hc30] at H
                          refine a_ixR (el := c60 (rd60 x0 (Int.tmod (wrap64 (x9 + 1)) x3))) ?_ ⟨hc29, hc30⟩ T61 Try.underlying29 (hel := R60 hc29 hc30) (hg := Gs.yes rfl rfl rfl (bne_iff_ne.2 hc26))
                          refine a_ldR (v := .agg [_, _]) ?_ T61 (hg := Gs.yes rfl rfl rfl (bne_iff_ne.2 hc26))
                          obtain ⟨t31, e32, H⟩ := bindO H
                          refine a_call (v := vB t31) (nk := []) (L := []) ?_ rfl (spec_l03Meet.ok e32) id (qg (qg (qg (qg qn)))) trivial trivial trivial rfl (hg := Gs.yes rfl rfl rfl (bne_iff_ne.2 hc26))
                          refine a_pick (b := true) (v := vB _) ?_ (bne_iff_ne.2 hc26)
                          refine RA.nil (fun _ => by kernel_rfl) ?_
                          by_cases hc33 : t31 = true
                          ·rw [if_pos hc33] at H
                           refine AG.yes rfl hc33 ?_
                           refine AG.seq ?_
                           refine AG.region HM ?_
                           refine a_move (v := vB _) ?_
                           refine RA.nil nofun ?_
                           refine AG.ret ?_
                           obtain rfl := Option.some.inj H
                           exact RetP.mk id ⟨rfl, trivial⟩ trivial rfl
                          ·rw [if_neg hc33] at H
                           refine AG.no rfl (Bool.eq_false_iff.2 hc33) ?_
                           refine AG.skip ?_
                           refine AG.region HM ?_
                           refine a_move (v := vI _) ?_
                           refine a_int (u := .int .i64 (wrap64 (x9 + 1))) ?_
                           refine a_move (v := vI _) ?_
                           refine RA.nil nofun ?_
                           exact AGr.canon id (ih2 _ (by omega) _ ⟨by omega, _, _, _, _, _, _, _, _, H, rfl⟩) ⟨rfl, rfl, rfl, rfl, rfl, rfl, trivial⟩ ⟨rfl, rfl, trivial⟩ rfl
                         ·rw [if_neg hc30] at H
                          cases H
                        ·rw [if_neg hc29] at H
                         cases H
                       ·rw [if_neg hc28] at H
                        cases H
                      ·rw [if_neg hc27] at H
                       cases H
                   ·rw [if_neg hc24] at H
                    refine AG.no rfl (decide_eq_false hc24) ?_
                    refine AG.exit ?_
                    refine AG.region HM ?_
                    refine a_move (v := vI _) ?_
                    refine a_int (u := .int .i64 (wrap64 (x5 + 1))) ?_
                    refine a_move (v := vI _) ?_
                    refine RA.nil nofun ?_
                    exact AGr.canon id (ih1 _ (by omega) _ ⟨by omega, _, _, _, H, rfl⟩) ⟨rfl, rfl, rfl, trivial⟩ trivial rfl
              ·rw [if_neg hc16] at H
               cases H
             ·rw [if_neg hc15] at H
              cases H
            ·rw [if_neg hc14] at H
             cases H
           ·rw [if_neg hc13] at H
            cases H
         ·rw [if_neg hc11] at H
          cases H
        ·rw [if_neg hc10] at H
         cases H
       ·rw [if_neg hc9] at H
        refine AG.no rfl (decide_eq_false hc9) ?_
        refine AG.exit ?_
        refine AG.seq ?_
        refine AG.region HM ?_
        refine a_move (v := vR _ _) ?_
        obtain ⟨t34, e35, H⟩ := bindO H
        refine a_call (v := vI t34) (nk := []) (L := []) ?_ rfl (spec_l03Area.ok e35) id (qd qn) trivial trivial trivial rfl
        refine a_int (u := .bool (decide (t34 > 0))) ?_
        refine a_move (v := vB _) ?_
        refine RA.nil nofun ?_
        refine AG.ret ?_
        obtain rfl := Option.some.inj H
        exact RetP.mk id ⟨rfl, trivial⟩ trivial rfl
/-! ### spec_l05Ok: function 48 -/
mutual
def spec_l05Ok.j0 : Nat → Int → Int → List S60 → List S91 → Bool → Option (Bool)
 | 0, _, _, _, _, _ => none
 | k + 1, x0_0, x0_1, x0_2, x0_3, x32 => if x32 = true then (some false) else (spec_l05Ok.l0 k x0_0 x0_1 x0_2 x0_3 0)
def spec_l05Ok.l0 : Nat → Int → Int → List S60 → List S91 → Int → Option (Bool)
 | 0, _, _, _, _, _ => none
 | k + 1, x0_0, x0_1, x0_2, x0_3, x3 => if x3 < (x0_3.length : Int) then (if 0 ≤ x3 then ((spec_l01Name.f k ((rd91 x0_3 x3).f0)).bind fun t13 => (if t13 = true then (if x3 > 0 then (if 0 ≤ (wrap64 (x3 - 1)) then (if (wrap64 (x3 - 1)) < (x0_3.length : Int) then (spec_l05Ok.j1 k x0_0 x0_1 x0_2 x0_3 x3 (!(Op.bytesLess (((rd91 x0_3 (wrap64 (x3 - 1))).f0).toList) (((rd91 x0_3 x3).f0).toList)))) else (none)) else (none)) else (spec_l05Ok.j1 k x0_0 x0_1 x0_2 x0_3 x3 false)) else (spec_l05Ok.j1 k x0_0 x0_1 x0_2 x0_3 x3 true))) else (none)) else (some true)
def spec_l05Ok.j1 : Nat → Int → Int → List S60 → List S91 → Int → Bool → Option (Bool)
 | 0, _, _, _, _, _, _ => none
 | k + 1, x0_0, x0_1, x0_2, x0_3, x3, x75 => if x75 = true then (some false) else (if 0 ≤ x3 then (if x3 < (x0_3.length : Int) then ((spec_l05Ring.f k x0_0 x0_1 x0_2 x0_3 ((rd91 x0_3 x3).f1)).bind fun bt22 => (if bt22.2 = true then ((spec_l03Ok.f k bt22.1).bind fun t26 => (if t26 = true then (spec_l05Ok.l0 k x0_0 x0_1 x0_2 x0_3 (wrap64 (x3 + 1))) else (some false))) else (some false))) else (none)) else (none))
end
def spec_l05Ok.f (k : Nat) (a0_0 : Int) (a0_1 : Int) (l0_2 : List S60) (l0_3 : List S91) : Option (Bool) := (spec_l00In.f a0_0 10 20000).bind fun t1 => (if t1 = true then ((spec_l00In.f a0_1 10 20000).bind fun t4 => (if t4 = true then ((spec_l05Points.f k a0_0 a0_1 l0_2 l0_3).bind fun t7 => (if t7 = true then (spec_l05Ok.j0 k a0_0 a0_1 l0_2 l0_3 (decide ((l0_3.length : Int) > 24))) else (spec_l05Ok.j0 k a0_0 a0_1 l0_2 l0_3 true))) else (spec_l05Ok.j0 k a0_0 a0_1 l0_2 l0_3 true))) else (spec_l05Ok.j0 k a0_0 a0_1 l0_2 l0_3 true))
set_option maxRecDepth 100000 in
theorem spec_l05Ok.ok {k : Nat} {a0_0 : Int} {a0_1 : Int} {l0_2 : List S60} {l0_3 : List S91} {r : Bool} (H : spec_l05Ok.f k a0_0 a0_1 l0_2 l0_3 = some r) : OkF Try.prog 48 [.c (.d (.ro [.v (.int .i64 a0_0), .v (.int .i64 a0_1), .row 61 (l0_2.map c60), .row 96 (l0_3.map c91)]))] [] (.c (.d (.v (.bool r)))) [] := by
 unfold spec_l05Ok.f at H
 refine OkF.of (N := 96) (rs := [2]) (avs := [.c (.d (.v (.bool r)))]) Try.func48 rfl rfl (fun _ _ => results_tmp rfl _ _ _) (by decide) rfl rfl rfl rfl (fun w0 S => ?_)
 refine AG.seq ?_
 refine AG.region HM ?_
 refine a_move (v := vB _) ?_
 refine RA.nil nofun ?_
 refine AG.seq ?_
 refine AG.seq ?_
 refine AG.joinR (fun s => ∃ q, q ≤ k ∧ ∃ (x0_0 : Int) (x0_1 : Int) (x0_2 : List S60) (x0_3 : List S91) (x32 : Bool), spec_l05Ok.j0 q x0_0 x0_1 x0_2 x0_3 x32 = some r ∧ s = St.of [(0, .c (.d (.ro [.v (.int .i64 x0_0), .v (.int .i64 x0_1), .row 61 (x0_2.map c60), .row 96 (x0_3.map c91)]))), (32, vB x32)] []) ?_ ?_
 ·skip
  refine AG.region HM ?_
  refine a_move (v := vO [_, _, _, _]) ?_
  refine a_nil (v := vO [_, _, _, _]) ?_
  refine a_faR (cells' := [_, _, _, _]) ?_ D32_0
  refine a_ldR (v := vI _) ?_ T2
  obtain ⟨t1, e2, H⟩ := bindO H
  refine a_call (v := vB t1) (nk := []) (L := []) ?_ rfl (spec_l00In.ok e2) id (qd (qd (qd qn))) trivial trivial trivial rfl
  refine a_un (u := .bool (!t1)) ?_
  refine a_move (v := vB _) ?_
  by_cases hc3 : t1 = true
  ·rw [if_pos hc3] at H
   refine a_move (v := vO [_, _, _, _]) ?_ (hg := Gs.yes rfl rfl rfl (congrArg Bool.not hc3))
   refine a_nil (v := vO [_, _, _, _]) ?_ (hg := Gs.yes rfl rfl rfl (congrArg Bool.not hc3))
   refine a_faR (cells' := [_, _, _]) ?_ D32_1 (hg := Gs.yes rfl rfl rfl (congrArg Bool.not hc3))
   refine a_ldR (v := vI _) ?_ T2 (hg := Gs.yes rfl rfl rfl (congrArg Bool.not hc3))
   obtain ⟨t4, e5, H⟩ := bindO H
   refine a_call (v := vB t4) (nk := []) (L := []) ?_ rfl (spec_l00In.ok e5) id (qd (qd (qd qn))) trivial trivial trivial rfl (hg := Gs.yes rfl rfl rfl (congrArg Bool.not hc3))
   refine a_un (u := .bool (!t4)) ?_ (hg := Gs.yes rfl rfl rfl (congrArg Bool.not hc3))
   refine a_pick (b := false) (v := vB _) ?_ (congrArg Bool.not hc3)
   refine a_move (v := vB _) ?_
   by_cases hc6 : t4 = true
   ·rw [if_pos hc6] at H
    refine a_move (v := vO [_, _, _, _]) ?_ (hg := Gs.yes rfl rfl rfl (congrArg Bool.not hc6))
    obtain ⟨t7, e8, H⟩ := bindO H
    refine a_call (v := vB t7) (nk := []) (L := []) ?_ rfl (spec_l05Points.ok e8) id (qd qn) trivial trivial trivial rfl (hg := Gs.yes rfl rfl rfl (congrArg Bool.not hc6))
    refine a_un (u := .bool (!t7)) ?_ (hg := Gs.yes rfl rfl rfl (congrArg Bool.not hc6))
    refine a_pick (b := false) (v := vB _) ?_ (congrArg Bool.not hc6)
    refine a_move (v := vB _) ?_
    by_cases hc9 : t7 = true
    ·rw [if_pos hc9] at H
     refine a_move (v := vO [_, _, _, _]) ?_ (hg := Gs.yes rfl rfl rfl (congrArg Bool.not hc9))
     refine a_nil (v := vO [_, _, _, _]) ?_ (hg := Gs.yes rfl rfl rfl (congrArg Bool.not hc9))
     refine a_faR (cells' := [_]) ?_ D32_3 (hg := Gs.yes rfl rfl rfl (congrArg Bool.not hc9))
     refine a_ldR (v := vR _ _) ?_ T30 (hg := Gs.yes rfl rfl rfl (congrArg Bool.not hc9))
     refine a_lenR ?_ Try.underlying30 (hg := Gs.yes rfl rfl rfl (congrArg Bool.not hc9))
     refine a_int (u := .bool (decide ((l0_3.length : Int) > 24))) ?_ (hg := Gs.yes rfl rfl rfl (congrArg Bool.not hc9))
     refine a_pick (b := false) (v := vB _) ?_ (congrArg Bool.not hc9)
     refine RA.nil nofun ?_
     exact CanR.mk id ⟨_, (by omega), _, _, _, _, _, H, rfl⟩ ⟨rfl, rfl, trivial⟩ trivial rfl
    ·rw [if_neg hc9] at H
     refine RA.skip rfl rfl rfl rfl rfl (congrArg Bool.not (Bool.eq_false_iff.2 hc9)) (by decide) ?_
     refine RA.skip rfl rfl rfl rfl rfl (congrArg Bool.not (Bool.eq_false_iff.2 hc9)) (by decide) ?_
     refine RA.skip rfl rfl rfl rfl rfl (congrArg Bool.not (Bool.eq_false_iff.2 hc9)) (by decide) ?_
     refine RA.skip rfl rfl rfl rfl rfl (congrArg Bool.not (Bool.eq_false_iff.2 hc9)) (by decide) ?_
     refine RA.skip rfl rfl rfl rfl rfl (congrArg Bool.not (Bool.eq_false_iff.2 hc9)) (by decide) ?_
     refine RA.skip rfl rfl rfl rfl rfl (congrArg Bool.not (Bool.eq_false_iff.2 hc9)) (by decide) ?_
     refine a_pick (b := true) (v := vB _) ?_ (congrArg Bool.not (Bool.eq_false_iff.2 hc9))
     refine RA.nil nofun ?_
     exact CanR.mk id ⟨_, (by omega), _, _, _, _, _, H, rfl⟩ ⟨rfl, rfl, trivial⟩ trivial rfl
   ·rw [if_neg hc6] at H
    refine RA.skip rfl rfl rfl rfl rfl (congrArg Bool.not (Bool.eq_false_iff.2 hc6)) (by decide) ?_
    refine RA.skip rfl rfl rfl rfl rfl (congrArg Bool.not (Bool.eq_false_iff.2 hc6)) (by decide) ?_
    refine RA.skip rfl rfl rfl rfl rfl (congrArg Bool.not (Bool.eq_false_iff.2 hc6)) (by decide) ?_
    refine a_pick (b := true) (v := vB _) ?_ (congrArg Bool.not (Bool.eq_false_iff.2 hc6))
    refine a_move (v := vB _) ?_
    refine RA.skip rfl rfl rfl rfl rfl rfl (by decide) ?_
    refine RA.skip rfl rfl rfl rfl rfl rfl (by decide) ?_
    refine RA.skip rfl rfl rfl rfl rfl rfl (by decide) ?_
    refine RA.skip rfl rfl rfl rfl rfl rfl (by decide) ?_
    refine RA.skip rfl rfl rfl rfl rfl rfl (by decide) ?_
    refine RA.skip rfl rfl rfl rfl rfl rfl (by decide) ?_
    refine a_pick (b := true) (v := vB _) ?_ rfl
    refine RA.nil nofun ?_
    exact CanR.mk id ⟨_, (by omega), _, _, _, _, _, H, rfl⟩ ⟨rfl, rfl, trivial⟩ trivial rfl
  ·rw [if_neg hc3] at H
   refine RA.skip rfl rfl rfl rfl rfl (congrArg Bool.not (Bool.eq_false_iff.2 hc3)) (by decide) ?_
   refine RA.skip rfl rfl rfl rfl rfl (congrArg Bool.not (Bool.eq_false_iff.2 hc3)) (by decide) ?_
   refine RA.skip rfl rfl rfl rfl rfl (congrArg Bool.not (Bool.eq_false_iff.2 hc3)) (by decide) ?_
   refine RA.skip rfl rfl rfl rfl rfl (congrArg Bool.not (Bool.eq_false_iff.2 hc3)) (by decide) ?_
   refine RA.skip rfl rfl rfl rfl rfl (congrArg Bool.not (Bool.eq_false_iff.2 hc3)) (by decide) ?_
   refine RA.skip rfl rfl rfl rfl rfl (congrArg Bool.not (Bool.eq_false_iff.2 hc3)) (by decide) ?_
   refine a_pick (b := true) (v := vB _) ?_ (congrArg Bool.not (Bool.eq_false_iff.2 hc3))
   refine a_move (v := vB _) ?_
   refine RA.skip rfl rfl rfl rfl rfl rfl (by decide) ?_
   refine RA.skip rfl rfl rfl rfl rfl rfl (by decide) ?_
   refine RA.skip rfl rfl rfl rfl rfl rfl (by decide) ?_
   refine a_pick (b := true) (v := vB _) ?_ rfl
   refine a_move (v := vB _) ?_
   refine RA.skip rfl rfl rfl rfl rfl rfl (by decide) ?_
   refine RA.skip rfl rfl rfl rfl rfl rfl (by decide) ?_
   refine RA.skip rfl rfl rfl rfl rfl rfl (by decide) ?_
   refine RA.skip rfl rfl rfl rfl rfl rfl (by decide) ?_
   refine RA.skip rfl rfl rfl rfl rfl rfl (by decide) ?_
   refine RA.skip rfl rfl rfl rfl rfl rfl (by decide) ?_
   refine a_pick (b := true) (v := vB _) ?_ rfl
   refine RA.nil nofun ?_
   exact CanR.mk id ⟨_, (by omega), _, _, _, _, _, H, rfl⟩ ⟨rfl, rfl, trivial⟩ trivial rfl
 ·clear H
  rintro _ ⟨k, hj0, x0_0, x0_1, x0_2, x0_3, x32, H, rfl⟩
  cases k with
  | zero => cases H
  | succ k =>
   rw [spec_l05Ok.j0] at H
   by_cases hc10 : x32 = true
   ·rw [if_pos hc10] at H
    refine AG.yes rfl hc10 ?_
    refine AG.seq ?_
    refine AG.region HM ?_
    refine a_move (v := vB _) ?_
    refine RA.nil nofun ?_
    refine AG.ret ?_
    obtain rfl := Option.some.inj H
    exact RetP.mk id ⟨rfl, trivial⟩ trivial rfl
   ·rw [if_neg hc10] at H
    refine AG.no rfl (Bool.eq_false_iff.2 hc10) ?_
    refine AG.skip ?_
    refine AG.seq ?_
    refine AG.seq ?_
    refine AG.region HM ?_
    refine a_move (v := vI _) ?_
    refine RA.nil nofun ?_
    refine AG.block ?_
    refine AG.loop ?_
    obtain ⟨K0, hK0, gK0⟩ : ∃ K, k ≤ K ∧ K ≤ k := ⟨k, Nat.le_refl k, Nat.le_refl k⟩
    refine AGr.canon id (AGr.loopI (n := k) (fun k s => k ≤ K0 ∧ ∃ (x0_0 : Int) (x0_1 : Int) (x0_2 : List S60) (x0_3 : List S91) (x3 : Int), spec_l05Ok.l0 k x0_0 x0_1 x0_2 x0_3 x3 = some r ∧ s = St.of [(0, .c (.d (.ro [.v (.int .i64 x0_0), .v (.int .i64 x0_1), .row 61 (x0_2.map c60), .row 96 (x0_3.map c91)]))), (3, vI x3)] []) ⟨hK0, _, _, _, _, _, H, rfl⟩ ?_ ?_) ⟨rfl, rfl, trivial⟩ trivial rfl
    ·rintro _ ⟨_, _, _, _, _, _, H, _⟩
     cases H
    ·clear H hK0
     rintro k ih0 _ ⟨hK0, x0_0, x0_1, x0_2, x0_3, x3, H, rfl⟩
     unfold spec_l05Ok.l0 at H
     refine AG.seq ?_
     refine AG.seq ?_
     refine AG.region HM ?_
     refine a_move (v := vI _) ?_
     refine a_move (v := vO [_, _, _, _]) ?_
     refine a_nil (v := vO [_, _, _, _]) ?_
     refine a_faR (cells' := [_]) ?_ D32_3
     refine a_ldR (v := vR _ _) ?_ T30
     refine a_lenR ?_ Try.underlying30
     refine a_int (u := .bool (decide (x3 < (x0_3.length : Int)))) ?_
     refine RA.nil nofun ?_
     by_cases hc11 : x3 < (x0_3.length : Int)
     ·rw [if_pos hc11] at H
      refine AG.yes rfl (decide_eq_true hc11) ?_
      refine AG.skip ?_
      refine AG.seq ?_
      refine AG.block ?_
      refine AG.seq ?_
      refine AG.seq ?_
      refine AG.joinR (fun s => ∃ q, q ≤ k ∧ ∃ (x0_0 : Int) (x0_1 : Int) (x0_2 : List S60) (x0_3 : List S91) (x3 : Int) (x75 : Bool), spec_l05Ok.j1 q x0_0 x0_1 x0_2 x0_3 x3 x75 = some r ∧ s = St.of [(0, .c (.d (.ro [.v (.int .i64 x0_0), .v (.int .i64 x0_1), .row 61 (x0_2.map c60), .row 96 (x0_3.map c91)]))), (3, vI x3), (75, vB x75)] []) ?_ ?_
      ·skip
       refine AG.region HM ?_
       refine a_move (v := vO [_, _, _, _]) ?_
       refine a_nil (v := vO [_, _, _, _]) ?_
       refine a_faR (cells' := [_]) ?_ D32_3
       refine a_ldR (v := vR _ _) ?_ T30
       refine a_move (v := vI _) ?_
       by_cases hc12 : 0 ≤ x3
       ·rw [if_pos hc12] at H
        refine a_ixR (el := c91 (rd91 x0_3 x3)) ?_ ⟨hc12, hc11⟩ T96 Try.underlying30 (hel := R91 hc12 hc11)
        refine a_faR (cells' := [_, _]) ?_ D96_0
        refine a_ldR (v := vS _) ?_ T9
        obtain ⟨t13, e14, H⟩ := bindO H
        refine a_call (v := vB t13) (nk := []) (L := []) ?_ rfl (spec_l01Name.ok e14) id (qd qn) trivial trivial trivial rfl
        refine a_un (u := .bool (!t13)) ?_
        refine a_move (v := vB _) ?_
        by_cases hc15 : t13 = true
        ·rw [if_pos hc15] at H
         refine a_move (v := vI _) ?_ (hg := Gs.yes rfl rfl rfl (congrArg Bool.not hc15))
         refine a_int (u := .bool (decide (x3 > 0))) ?_ (hg := Gs.yes rfl rfl rfl (congrArg Bool.not hc15))
         refine a_move (v := vB _) ?_ (hg := Gs.yes rfl rfl rfl (congrArg Bool.not hc15))
         by_cases hc16 : x3 > 0
         ·rw [if_pos hc16] at H
          refine a_move (v := vO [_, _, _, _]) ?_ (hg := Gs.yes rfl rfl rfl (decide_eq_true hc16))
          refine a_nil (v := vO [_, _, _, _]) ?_ (hg := Gs.yes rfl rfl rfl (decide_eq_true hc16))
          refine a_faR (cells' := [_]) ?_ D32_3 (hg := Gs.yes rfl rfl rfl (decide_eq_true hc16))
          refine a_ldR (v := vR _ _) ?_ T30 (hg := Gs.yes rfl rfl rfl (decide_eq_true hc16))
          refine a_move (v := vI _) ?_ (hg := Gs.yes rfl rfl rfl (decide_eq_true hc16))
          refine a_int (u := .int .i64 (wrap64 (x3 - 1))) ?_ (hg := Gs.yes rfl rfl rfl (decide_eq_true hc16))
          by_cases hc17 : 0 ≤ (wrap64 (x3 - 1))
          ·rw [if_pos hc17] at H
           by_cases hc18 : (wrap64 (x3 - 1)) < (x0_3.length : Int)
           ·rw [if_pos hc18] at H
            refine a_ixR (el := c91 (rd91 x0_3 (wrap64 (x3 - 1)))) ?_ ⟨hc17, hc18⟩ T96 Try.underlying30 (hel := R91 hc17 hc18) (hg := Gs.yes rfl rfl rfl (decide_eq_true hc16))
            refine a_faR (cells' := [_, _]) ?_ D96_0 (hg := Gs.yes rfl rfl rfl (decide_eq_true hc16))
            refine a_ldR (v := vS _) ?_ T9 (hg := Gs.yes rfl rfl rfl (decide_eq_true hc16))
            refine a_move (v := vO [_, _, _, _]) ?_ (hg := Gs.yes rfl rfl rfl (decide_eq_true hc16))
            refine a_nil (v := vO [_, _, _, _]) ?_ (hg := Gs.yes rfl rfl rfl (decide_eq_true hc16))
            refine a_faR (cells' := [_]) ?_ D32_3 (hg := Gs.yes rfl rfl rfl (decide_eq_true hc16))
            refine a_ldR (v := vR _ _) ?_ T30 (hg := Gs.yes rfl rfl rfl (decide_eq_true hc16))
            refine a_move (v := vI _) ?_ (hg := Gs.yes rfl rfl rfl (decide_eq_true hc16))
            refine a_ixR (el := c91 (rd91 x0_3 x3)) ?_ ⟨hc12, hc11⟩ T96 Try.underlying30 (hel := R91 hc12 hc11) (hg := Gs.yes rfl rfl rfl (decide_eq_true hc16))
            refine a_faR (cells' := [_, _]) ?_ D96_0 (hg := Gs.yes rfl rfl rfl (decide_eq_true hc16))
            refine a_ldR (v := vS _) ?_ T9 (hg := Gs.yes rfl rfl rfl (decide_eq_true hc16))
            refine a_bin (u := .bool (!(Op.bytesLess (((rd91 x0_3 (wrap64 (x3 - 1))).f0).toList) (((rd91 x0_3 x3).f0).toList)))) ?_ (hg := Gs.yes rfl rfl rfl (decide_eq_true hc16))
            refine a_pick (b := true) (v := vB _) ?_ (decide_eq_true hc16) (hg := Gs.yes rfl rfl rfl (congrArg Bool.not hc15))
            refine a_pick (b := false) (v := vB _) ?_ (congrArg Bool.not hc15)
            refine RA.nil (fun _ => by kernel_rfl) ?_
            exact CanR.mk id ⟨_, (by omega), _, _, _, _, _, _, H, rfl⟩ ⟨rfl, rfl, rfl, trivial⟩ trivial rfl
           ·rw [if_neg hc18] at H
            cases H
          ·rw [if_neg hc17] at H
           cases H
         ·rw [if_neg hc16] at H
          refine RA.skip rfl rfl rfl rfl rfl (decide_eq_false hc16) (by decide) ?_
          refine RA.skip rfl rfl rfl rfl rfl (decide_eq_false hc16) (by decide) ?_
          refine RA.skip rfl rfl rfl rfl rfl (decide_eq_false hc16) (by decide) ?_
          refine RA.skip rfl rfl rfl rfl rfl (decide_eq_false hc16) (by decide) ?_
          refine RA.skip rfl rfl rfl rfl rfl (decide_eq_false hc16) (by decide) ?_
          refine RA.skip rfl rfl rfl rfl rfl (decide_eq_false hc16) (by decide) ?_
          refine RA.skip rfl rfl rfl rfl rfl (decide_eq_false hc16) (by decide) ?_
          refine RA.skip rfl rfl rfl rfl rfl (decide_eq_false hc16) (by decide) ?_
          refine RA.skip rfl rfl rfl rfl rfl (decide_eq_false hc16) (by decide) ?_
          refine RA.skip rfl rfl rfl rfl rfl (decide_eq_false hc16) (by decide) ?_
          refine RA.skip rfl rfl rfl rfl rfl (decide_eq_false hc16) (by decide) ?_
          refine RA.skip rfl rfl rfl rfl rfl (decide_eq_false hc16) (by decide) ?_
          refine RA.skip rfl rfl rfl rfl rfl (decide_eq_false hc16) (by decide) ?_
          refine RA.skip rfl rfl rfl rfl rfl (decide_eq_false hc16) (by decide) ?_
          refine RA.skip rfl rfl rfl rfl rfl (decide_eq_false hc16) (by decide) ?_
          refine RA.skip rfl rfl rfl rfl rfl (decide_eq_false hc16) (by decide) ?_
          refine RA.skip rfl rfl rfl rfl rfl (decide_eq_false hc16) (by decide) ?_
          refine RA.skip rfl rfl rfl rfl rfl (decide_eq_false hc16) (by decide) ?_
          refine a_pick (b := false) (v := vB _) ?_ (decide_eq_false hc16) (hg := Gs.yes rfl rfl rfl (congrArg Bool.not hc15))
          refine a_pick (b := false) (v := vB _) ?_ (congrArg Bool.not hc15)
          refine RA.nil (fun _ => by kernel_rfl) ?_
          exact CanR.mk id ⟨_, (by omega), _, _, _, _, _, _, H, rfl⟩ ⟨rfl, rfl, rfl, trivial⟩ trivial rfl
        ·rw [if_neg hc15] at H
         refine RA.skip rfl rfl rfl rfl rfl (congrArg Bool.not (Bool.eq_false_iff.2 hc15)) (by decide) ?_
         refine RA.skip rfl rfl rfl rfl rfl (congrArg Bool.not (Bool.eq_false_iff.2 hc15)) (by decide) ?_
         refine RA.skip rfl rfl rfl rfl rfl (congrArg Bool.not (Bool.eq_false_iff.2 hc15)) (by decide) ?_
         refine RA.skip0 rfl rfl rfl rfl rfl ?_
         refine RA.skip0 rfl rfl rfl rfl rfl ?_
         refine RA.skip0 rfl rfl rfl rfl rfl ?_
         refine RA.skip0 rfl rfl rfl rfl rfl ?_
         refine RA.skip0 rfl rfl rfl rfl rfl ?_
         refine RA.skip0 rfl rfl rfl rfl rfl ?_
         refine RA.skip0 rfl rfl rfl rfl rfl ?_
         refine RA.skip0 rfl rfl rfl rfl rfl ?_
         refine RA.skip0 rfl rfl rfl rfl rfl ?_
         refine RA.skip0 rfl rfl rfl rfl rfl ?_
         refine RA.skip0 rfl rfl rfl rfl rfl ?_
         refine RA.skip0 rfl rfl rfl rfl rfl ?_
         refine RA.skip0 rfl rfl rfl rfl rfl ?_
         refine RA.skip0 rfl rfl rfl rfl rfl ?_
         refine RA.skip0 rfl rfl rfl rfl rfl ?_
         refine RA.skip0 rfl rfl rfl rfl rfl ?_
         refine RA.skip0 rfl rfl rfl rfl rfl ?_
         refine RA.skip0 rfl rfl rfl rfl rfl ?_
         refine RA.skip rfl rfl rfl rfl rfl (congrArg Bool.not (Bool.eq_false_iff.2 hc15)) (by decide) ?_
         refine a_pick (b := true) (v := vB _) ?_ (congrArg Bool.not (Bool.eq_false_iff.2 hc15))
         refine RA.nil (fun _ => by kernel_rfl) ?_
         exact CanR.mk id ⟨_, (by omega), _, _, _, _, _, _, H, rfl⟩ ⟨rfl, rfl, rfl, trivial⟩ trivial rfl
       ·rw [if_neg hc12] at H
        cases H
      ·clear H
       rintro _ ⟨k, hj1, x0_0, x0_1, x0_2, x0_3, x3, x75, H, rfl⟩
       cases k with
       | zero => cases H
       | succ k =>
        rw [spec_l05Ok.j1] at H
        by_cases hc19 : x75 = true
        ·rw [if_pos hc19] at H
         refine AG.yes rfl hc19 ?_
         refine AG.seq ?_
         refine AG.region HM ?_
         refine a_move (v := vB _) ?_
         refine RA.nil nofun ?_
         refine AG.ret ?_
         obtain rfl := Option.some.inj H
         exact RetP.mk id ⟨rfl, trivial⟩ trivial rfl
        ·rw [if_neg hc19] at H
         refine AG.no rfl (Bool.eq_false_iff.2 hc19) ?_
         refine AG.skip ?_
         refine AG.seq ?_
         refine AG.region HM ?_
         refine a_move (v := vO [_, _, _, _]) ?_
         refine a_move (v := vO [_, _, _, _]) ?_
         refine a_nil (v := vO [_, _, _, _]) ?_
         refine a_faR (cells' := [_]) ?_ D32_3
         refine a_ldR (v := vR _ _) ?_ T30
         refine a_move (v := vI _) ?_
         by_cases hc20 : 0 ≤ x3
         ·rw [if_pos hc20] at H
          by_cases hc21 : x3 < (x0_3.length : Int)
          ·rw [if_pos hc21] at H
           refine a_ixR (el := c91 (rd91 x0_3 x3)) ?_ ⟨hc20, hc21⟩ T96 Try.underlying30 (hel := R91 hc20 hc21)
           refine a_faR (cells' := [_]) ?_ D96_1
           refine a_ldR (v := vR _ _) ?_ T38
           obtain ⟨⟨t22, t23⟩, e24, H⟩ := bindO H
           refine a_call (v := .tup [.c (.own 204 t22.length), .c (.d (.v (.bool t23)))]) (nk := [(204, .row 61 (t22.map c60))]) (L := []) ?_ rfl (spec_l05Ring.ok e24) (fun κ => cond (Nat.beq κ 204) 100 (κ)) (qd (qd qn)) trivial ⟨rfl, trivial⟩ ⟨rfl, trivial⟩ rfl
           refine a_move (v := .tup [_, _]) ?_
           refine a_ext (v := .c (.own _ _)) ?_
           refine a_ext (v := vB _) ?_
           refine a_move (v := .c (.own _ _)) ?_
           refine a_move (v := vB _) ?_
           refine RA.nil nofun ?_
           refine AG.seq ?_
           refine AG.region HM ?_
           refine a_move (v := vB _) ?_
           refine a_un (u := .bool (!t23)) ?_
           refine a_move (v := vB _) ?_
           by_cases hc25 : t23 = true
           ·rw [if_pos hc25] at H
            refine a_move (v := .c (.own _ _)) ?_ (hg := Gs.yes rfl rfl rfl (congrArg Bool.not hc25))
            obtain ⟨t26, e27, H⟩ := bindO H
            refine a_call (v := vB t26) (nk := []) (L := [(204, _)]) ?_ rfl (spec_l03Ok.ok e27) id (qc rO qn) ⟨rfl, trivial⟩ trivial trivial rfl (hg := Gs.yes rfl rfl rfl (congrArg Bool.not hc25))
            refine a_un (u := .bool (!t26)) ?_ (hg := Gs.yes rfl rfl rfl (congrArg Bool.not hc25))
            refine a_pick (b := false) (v := vB _) ?_ (congrArg Bool.not hc25)
            refine RA.nil nofun ?_
            by_cases hc28 : t26 = true
            ·rw [if_pos hc28] at H
             refine AG.no rfl (congrArg Bool.not hc28) ?_
             refine AG.skip ?_
             refine AG.region HM ?_
             refine a_move (v := vI _) ?_
             refine a_int (u := .int .i64 (wrap64 (x3 + 1))) ?_
             refine a_move (v := vI _) ?_
             refine RA.nil nofun ?_
             exact AGr.canon id (ih0 _ (by omega) _ ⟨by omega, _, _, _, _, _, H, rfl⟩) ⟨rfl, rfl, trivial⟩ trivial rfl
            ·rw [if_neg hc28] at H
             refine AG.yes rfl (congrArg Bool.not (Bool.eq_false_iff.2 hc28)) ?_
             refine AG.seq ?_
             refine AG.region HM ?_
             refine a_move (v := vB _) ?_
             refine RA.nil nofun ?_
             refine AG.ret ?_
             obtain rfl := Option.some.inj H
             exact RetP.mk id ⟨rfl, trivial⟩ trivial rfl
           ·rw [if_neg hc25] at H
            refine RA.skip rfl rfl rfl rfl rfl (congrArg Bool.not (Bool.eq_false_iff.2 hc25)) (by decide) ?_
            refine RA.skip rfl rfl rfl rfl rfl (congrArg Bool.not (Bool.eq_false_iff.2 hc25)) (by decide) ?_
            refine RA.skip rfl rfl rfl rfl rfl (congrArg Bool.not (Bool.eq_false_iff.2 hc25)) (by decide) ?_
            refine a_pick (b := true) (v := vB _) ?_ (congrArg Bool.not (Bool.eq_false_iff.2 hc25))
            refine RA.nil nofun ?_
            refine AG.yes rfl rfl ?_
            refine AG.seq ?_
            refine AG.region HM ?_
            refine a_move (v := vB _) ?_
            refine RA.nil nofun ?_
            refine AG.ret ?_
            obtain rfl := Option.some.inj H
            exact RetP.mk id ⟨rfl, trivial⟩ trivial rfl
          ·rw [if_neg hc21] at H
           cases H
         ·rw [if_neg hc20] at H
          cases H
     ·rw [if_neg hc11] at H
      refine AG.no rfl (decide_eq_false hc11) ?_
      refine AG.exit ?_
      refine AG.seq ?_
      refine AG.region HM ?_
      refine a_move (v := vB _) ?_
      refine RA.nil nofun ?_
      refine AG.ret ?_
      obtain rfl := Option.some.inj H
      exact RetP.mk id ⟨rfl, trivial⟩ trivial rfl
/-! ### spec_l05HasEdge: function 93 -/
def spec_l05HasEdge.l0 : Nat → List Int → Int → Int → Int → Option (Bool)
 | 0, _, _, _, _ => none
 | k + 1, x0, x1, x2, x7 => if x7 < (x0.length : Int) then (if 0 ≤ x7 then (if (x0.length : Int) = 0 then (none) else (if 0 ≤ (Int.tmod (wrap64 (x7 + 1)) (x0.length : Int)) then (if (Int.tmod (wrap64 (x7 + 1)) (x0.length : Int)) < (x0.length : Int) then (if (rd2 x0 x7) = x1 then (if (rd2 x0 (Int.tmod (wrap64 (x7 + 1)) (x0.length : Int))) = x2 then (some true) else (if (rd2 x0 x7) = x2 then (if (rd2 x0 (Int.tmod (wrap64 (x7 + 1)) (x0.length : Int))) = x1 then (some true) else (spec_l05HasEdge.l0 k x0 x1 x2 (wrap64 (x7 + 1)))) else (spec_l05HasEdge.l0 k x0 x1 x2 (wrap64 (x7 + 1))))) else (if (rd2 x0 x7) = x2 then (if (rd2 x0 (Int.tmod (wrap64 (x7 + 1)) (x0.length : Int))) = x1 then (some true) else (spec_l05HasEdge.l0 k x0 x1 x2 (wrap64 (x7 + 1)))) else (spec_l05HasEdge.l0 k x0 x1 x2 (wrap64 (x7 + 1))))) else (none)) else (none))) else (none)) else (some false)
def spec_l05HasEdge.f (k : Nat) (l0 : List Int) (a1 : Int) (a2 : Int) : Option (Bool) := spec_l05HasEdge.l0 k l0 a1 a2 0
set_option maxRecDepth 100000 in
theorem spec_l05HasEdge.ok {k : Nat} {l0 : List Int} {a1 : Int} {a2 : Int} {r : Bool} (H : spec_l05HasEdge.f k l0 a1 a2 = some r) : OkF Try.prog 93 [vR 2 (l0.map c2), vI a1, vI a2] [] (.c (.d (.v (.bool r)))) [] := by
 unfold spec_l05HasEdge.f at H
 refine OkF.of (N := 46) (rs := [6]) (avs := [.c (.d (.v (.bool r)))]) Try.func93 rfl rfl (fun _ _ => results_tmp rfl _ _ _) (by decide) rfl rfl rfl rfl (fun w0 S => ?_)
 refine AG.seq ?_
 refine AG.region HM ?_
 refine a_move (v := vB _) ?_
 refine RA.nil nofun ?_
 refine AG.seq ?_
 refine AG.seq ?_
 refine AG.region HM ?_
 refine a_move (v := vI _) ?_
 refine RA.nil nofun ?_
 refine AG.block ?_
 refine AG.loop ?_
 obtain ⟨K0, hK0, gK0⟩ : ∃ K, k ≤ K ∧ K ≤ k := ⟨k, Nat.le_refl k, Nat.le_refl k⟩
 refine AGr.canon id (AGr.loopI (n := k) (fun k s => k ≤ K0 ∧ ∃ (x0 : List Int) (x1 : Int) (x2 : Int) (x7 : Int), spec_l05HasEdge.l0 k x0 x1 x2 x7 = some r ∧ s = St.of [(0, vR 2 (x0.map c2)), (1, vI x1), (2, vI x2), (7, vI x7)] []) ⟨hK0, _, _, _, _, H, rfl⟩ ?_ ?_) ⟨rfl, rfl, rfl, rfl, trivial⟩ trivial rfl
 ·rintro _ ⟨_, _, _, _, _, H, _⟩
  cases H
 ·clear H hK0
  rintro k ih0 _ ⟨hK0, x0, x1, x2, x7, H, rfl⟩
  unfold spec_l05HasEdge.l0 at H
  refine AG.seq ?_
  refine AG.seq ?_
  refine AG.region HM ?_
  refine a_move (v := vI _) ?_
  refine a_move (v := vR _ _) ?_
  refine a_lenR ?_ Try.underlying38
  refine a_int (u := .bool (decide (x7 < (x0.length : Int)))) ?_
  refine RA.nil nofun ?_
  by_cases hc1 : x7 < (x0.length : Int)
  ·rw [if_pos hc1] at H
   refine AG.yes rfl (decide_eq_true hc1) ?_
   refine AG.skip ?_
   refine AG.seq ?_
   refine AG.block ?_
   refine AG.seq ?_
   refine AG.region HM ?_
   refine a_move (v := vR _ _) ?_
   refine a_move (v := vI _) ?_
   by_cases hc2 : 0 ≤ x7
   ·rw [if_pos hc2] at H
    refine a_ixR (el := c2 (rd2 x0 x7)) ?_ ⟨hc2, hc1⟩ T2 Try.underlying38 (hel := R2 hc2 hc1)
    refine a_ldR (v := vI _) ?_ T2
    refine a_move (v := vI _) ?_
    refine RA.nil nofun ?_
    refine AG.seq ?_
    refine AG.region HM ?_
    refine a_move (v := vR _ _) ?_
    refine a_move (v := vI _) ?_
    refine a_int (u := .int .i64 (wrap64 (x7 + 1))) ?_
    refine a_move (v := vR _ _) ?_
    refine a_lenR ?_ Try.underlying38
    by_cases hc3 : (x0.length : Int) = 0
    ·rw [if_pos hc3] at H
     cases H
    ·rw [if_neg hc3] at H
     refine a_rem (r := Int.tmod (wrap64 (x7 + 1)) (x0.length : Int)) ?_ hc3
     by_cases hc4 : 0 ≤ (Int.tmod (wrap64 (x7 + 1)) (x0.length : Int))
     ·rw [if_pos hc4] at H
      by_cases hc5 : (Int.tmod (wrap64 (x7 + 1)) (x0.length : Int)) < (x0.length : Int)
      ·rw [if_pos hc5] at H
       refine a_ixR (el := c2 (rd2 x0 (Int.tmod (wrap64 (x7 + 1)) (x0.length : Int)))) ?_ ⟨hc4, hc5⟩ T2 Try.underlying38 (hel := R2 hc4 hc5)
       refine a_ldR (v := vI _) ?_ T2
       refine a_move (v := vI _) ?_
       refine RA.nil nofun ?_
       refine AG.seq ?_
       refine AG.region HM ?_
       refine a_move (v := vI _) ?_
       refine a_move (v := vI _) ?_
       refine a_int (u := .bool (((rd2 x0 x7) == x1))) ?_
       refine a_move (v := vB _) ?_
       by_cases hc6 : (rd2 x0 x7) = x1
       ·rw [if_pos hc6] at H
        refine a_move (v := vI _) ?_ (hg := Gs.yes rfl rfl rfl (beq_iff_eq.2 hc6))
        refine a_move (v := vI _) ?_ (hg := Gs.yes rfl rfl rfl (beq_iff_eq.2 hc6))
        refine a_int (u := .bool (((rd2 x0 (Int.tmod (wrap64 (x7 + 1)) (x0.length : Int))) == x2))) ?_ (hg := Gs.yes rfl rfl rfl (beq_iff_eq.2 hc6))
        refine a_pick (b := true) (v := vB _) ?_ (beq_iff_eq.2 hc6)
        refine a_move (v := vB _) ?_
        by_cases hc7 : (rd2 x0 (Int.tmod (wrap64 (x7 + 1)) (x0.length : Int))) = x2
        ·rw [if_pos hc7] at H
         refine RA.skip rfl rfl rfl rfl rfl (beq_iff_eq.2 hc7) (by decide) ?_
         refine RA.skip rfl rfl rfl rfl rfl (beq_iff_eq.2 hc7) (by decide) ?_
         refine RA.skip rfl rfl rfl rfl rfl (beq_iff_eq.2 hc7) (by decide) ?_
         refine RA.skip rfl rfl rfl rfl rfl (beq_iff_eq.2 hc7) (by decide) ?_
         refine RA.skip0 rfl rfl rfl rfl rfl ?_
         refine RA.skip0 rfl rfl rfl rfl rfl ?_
         refine RA.skip0 rfl rfl rfl rfl rfl ?_
         refine RA.skip rfl rfl rfl rfl rfl (beq_iff_eq.2 hc7) (by decide) ?_
         refine a_pick (b := true) (v := vB _) ?_ (beq_iff_eq.2 hc7)
         refine RA.nil nofun ?_
         refine AG.yes rfl rfl ?_
         refine AG.seq ?_
         refine AG.region HM ?_
         refine a_move (v := vB _) ?_
         refine RA.nil nofun ?_
         refine AG.ret ?_
         obtain rfl := Option.some.inj H
         exact RetP.mk id ⟨rfl, trivial⟩ trivial rfl
        ·rw [if_neg hc7] at H
         refine a_move (v := vI _) ?_ (hg := Gs.yes rfl rfl rfl (beq_eq_false_iff_ne.2 hc7))
         refine a_move (v := vI _) ?_ (hg := Gs.yes rfl rfl rfl (beq_eq_false_iff_ne.2 hc7))
         refine a_int (u := .bool (((rd2 x0 x7) == x2))) ?_ (hg := Gs.yes rfl rfl rfl (beq_eq_false_iff_ne.2 hc7))
         refine a_move (v := vB _) ?_ (hg := Gs.yes rfl rfl rfl (beq_eq_false_iff_ne.2 hc7))
         by_cases hc8 : (rd2 x0 x7) = x2
         ·rw [if_pos hc8] at H
          refine a_move (v := vI _) ?_ (hg := Gs.yes rfl rfl rfl (beq_iff_eq.2 hc8))
          refine a_move (v := vI _) ?_ (hg := Gs.yes rfl rfl rfl (beq_iff_eq.2 hc8))
          refine a_int (u := .bool (((rd2 x0 (Int.tmod (wrap64 (x7 + 1)) (x0.length : Int))) == x1))) ?_ (hg := Gs.yes rfl rfl rfl (beq_iff_eq.2 hc8))
          refine a_pick (b := true) (v := vB _) ?_ (beq_iff_eq.2 hc8) (hg := Gs.yes rfl rfl rfl (beq_eq_false_iff_ne.2 hc7))
          refine a_pick (b := false) (v := vB _) ?_ (beq_eq_false_iff_ne.2 hc7)
          refine RA.nil nofun ?_
          by_cases hc9 : (rd2 x0 (Int.tmod (wrap64 (x7 + 1)) (x0.length : Int))) = x1
          ·rw [if_pos hc9] at H
           refine AG.yes rfl (beq_iff_eq.2 hc9) ?_
           refine AG.seq ?_
           refine AG.region HM ?_
           refine a_move (v := vB _) ?_
           refine RA.nil nofun ?_
           refine AG.ret ?_
           obtain rfl := Option.some.inj H
           exact RetP.mk id ⟨rfl, trivial⟩ trivial rfl
          ·rw [if_neg hc9] at H
           refine AG.no rfl (beq_eq_false_iff_ne.2 hc9) ?_
           refine AG.skip ?_
           refine AG.region HM ?_
           refine a_move (v := vI _) ?_
           refine a_int (u := .int .i64 (wrap64 (x7 + 1))) ?_
           refine a_move (v := vI _) ?_
           refine RA.nil nofun ?_
           exact AGr.canon id (ih0 _ (by omega) _ ⟨by omega, _, _, _, _, H, rfl⟩) ⟨rfl, rfl, rfl, rfl, trivial⟩ trivial rfl
         ·rw [if_neg hc8] at H
          refine RA.skip rfl rfl rfl rfl rfl (beq_eq_false_iff_ne.2 hc8) (by decide) ?_
          refine RA.skip rfl rfl rfl rfl rfl (beq_eq_false_iff_ne.2 hc8) (by decide) ?_
          refine RA.skip rfl rfl rfl rfl rfl (beq_eq_false_iff_ne.2 hc8) (by decide) ?_
          refine a_pick (b := false) (v := vB _) ?_ (beq_eq_false_iff_ne.2 hc8) (hg := Gs.yes rfl rfl rfl (beq_eq_false_iff_ne.2 hc7))
          refine a_pick (b := false) (v := vB _) ?_ (beq_eq_false_iff_ne.2 hc7)
          refine RA.nil nofun ?_
          refine AG.no rfl rfl ?_
          refine AG.skip ?_
          refine AG.region HM ?_
          refine a_move (v := vI _) ?_
          refine a_int (u := .int .i64 (wrap64 (x7 + 1))) ?_
          refine a_move (v := vI _) ?_
          refine RA.nil nofun ?_
          exact AGr.canon id (ih0 _ (by omega) _ ⟨by omega, _, _, _, _, H, rfl⟩) ⟨rfl, rfl, rfl, rfl, trivial⟩ trivial rfl
       ·rw [if_neg hc6] at H
        refine RA.skip rfl rfl rfl rfl rfl (beq_eq_false_iff_ne.2 hc6) (by decide) ?_
        refine RA.skip rfl rfl rfl rfl rfl (beq_eq_false_iff_ne.2 hc6) (by decide) ?_
        refine RA.skip rfl rfl rfl rfl rfl (beq_eq_false_iff_ne.2 hc6) (by decide) ?_
        refine a_pick (b := false) (v := vB _) ?_ (beq_eq_false_iff_ne.2 hc6)
        refine a_move (v := vB _) ?_
        refine a_move (v := vI _) ?_ (hg := Gs.yes rfl rfl rfl rfl)
        refine a_move (v := vI _) ?_ (hg := Gs.yes rfl rfl rfl rfl)
        refine a_int (u := .bool (((rd2 x0 x7) == x2))) ?_ (hg := Gs.yes rfl rfl rfl rfl)
        refine a_move (v := vB _) ?_ (hg := Gs.yes rfl rfl rfl rfl)
        by_cases hc10 : (rd2 x0 x7) = x2
        ·rw [if_pos hc10] at H
         refine a_move (v := vI _) ?_ (hg := Gs.yes rfl rfl rfl (beq_iff_eq.2 hc10))
         refine a_move (v := vI _) ?_ (hg := Gs.yes rfl rfl rfl (beq_iff_eq.2 hc10))
         refine a_int (u := .bool (((rd2 x0 (Int.tmod (wrap64 (x7 + 1)) (x0.length : Int))) == x1))) ?_ (hg := Gs.yes rfl rfl rfl (beq_iff_eq.2 hc10))
         refine a_pick (b := true) (v := vB _) ?_ (beq_iff_eq.2 hc10) (hg := Gs.yes rfl rfl rfl rfl)
         refine a_pick (b := false) (v := vB _) ?_ rfl
         refine RA.nil nofun ?_
         by_cases hc11 : (rd2 x0 (Int.tmod (wrap64 (x7 + 1)) (x0.length : Int))) = x1
         ·rw [if_pos hc11] at H
          refine AG.yes rfl (beq_iff_eq.2 hc11) ?_
          refine AG.seq ?_
          refine AG.region HM ?_
          refine a_move (v := vB _) ?_
          refine RA.nil nofun ?_
          refine AG.ret ?_
          obtain rfl := Option.some.inj H
          exact RetP.mk id ⟨rfl, trivial⟩ trivial rfl
         ·rw [if_neg hc11] at H
          refine AG.no rfl (beq_eq_false_iff_ne.2 hc11) ?_
          refine AG.skip ?_
          refine AG.region HM ?_
          refine a_move (v := vI _) ?_
          refine a_int (u := .int .i64 (wrap64 (x7 + 1))) ?_
          refine a_move (v := vI _) ?_
          refine RA.nil nofun ?_
          exact AGr.canon id (ih0 _ (by omega) _ ⟨by omega, _, _, _, _, H, rfl⟩) ⟨rfl, rfl, rfl, rfl, trivial⟩ trivial rfl
        ·rw [if_neg hc10] at H
         refine RA.skip rfl rfl rfl rfl rfl (beq_eq_false_iff_ne.2 hc10) (by decide) ?_
         refine RA.skip rfl rfl rfl rfl rfl (beq_eq_false_iff_ne.2 hc10) (by decide) ?_
         refine RA.skip rfl rfl rfl rfl rfl (beq_eq_false_iff_ne.2 hc10) (by decide) ?_
         refine a_pick (b := false) (v := vB _) ?_ (beq_eq_false_iff_ne.2 hc10) (hg := Gs.yes rfl rfl rfl rfl)
         refine a_pick (b := false) (v := vB _) ?_ rfl
         refine RA.nil nofun ?_
         refine AG.no rfl rfl ?_
         refine AG.skip ?_
         refine AG.region HM ?_
         refine a_move (v := vI _) ?_
         refine a_int (u := .int .i64 (wrap64 (x7 + 1))) ?_
         refine a_move (v := vI _) ?_
         refine RA.nil nofun ?_
         exact AGr.canon id (ih0 _ (by omega) _ ⟨by omega, _, _, _, _, H, rfl⟩) ⟨rfl, rfl, rfl, rfl, trivial⟩ trivial rfl
      ·rw [if_neg hc5] at H
       cases H
     ·rw [if_neg hc4] at H
      cases H
   ·rw [if_neg hc2] at H
    cases H
  ·rw [if_neg hc1] at H
   refine AG.no rfl (decide_eq_false hc1) ?_
   refine AG.exit ?_
   refine AG.seq ?_
   refine AG.region HM ?_
   refine a_move (v := vB _) ?_
   refine RA.nil nofun ?_
   refine AG.ret ?_
   obtain rfl := Option.some.inj H
   exact RetP.mk id ⟨rfl, trivial⟩ trivial rfl
/-! ### spec_l05OnEdge: function 55 -/
def spec_l05OnEdge.l0 : Nat → List S91 → Int → Int → List Int → Int → Option ((List Int))
 | 0, _, _, _, _, _ => none
 | k + 1, x0_3, x1, x2, x7, x8 => if x8 < (x0_3.length : Int) then (if 0 ≤ x8 then ((spec_l05HasEdge.f k ((rd91 x0_3 x8).f1) x1 x2).bind fun t4 => (if t4 = true then (if x7.length < 17592186044416 then (spec_l05OnEdge.l0 k x0_3 x1 x2 (x7 ++ [x8]) (wrap64 (x8 + 1))) else (none)) else (spec_l05OnEdge.l0 k x0_3 x1 x2 x7 (wrap64 (x8 + 1))))) else (none)) else (some x7)
def spec_l05OnEdge.f (k : Nat) (a0_0 : Int) (a0_1 : Int) (l0_2 : List S60) (l0_3 : List S91) (a1 : Int) (a2 : Int) : Option ((List Int)) := spec_l05OnEdge.l0 k l0_3 a1 a2 (([] : List Int) : List Int) 0
set_option maxRecDepth 100000 in
theorem spec_l05OnEdge.ok {k : Nat} {a0_0 : Int} {a0_1 : Int} {l0_2 : List S60} {l0_3 : List S91} {a1 : Int} {a2 : Int} {r : List Int} (H : spec_l05OnEdge.f k a0_0 a0_1 l0_2 l0_3 a1 a2 = some r) : OkF Try.prog 55 [.c (.d (.ro [.v (.int .i64 a0_0), .v (.int .i64 a0_1), .row 61 (l0_2.map c60), .row 96 (l0_3.map c91)])), vI a1, vI a2] [] (.c (.own 100 r.length)) [(100, .row 2 (r.map c2))] := by
 unfold spec_l05OnEdge.f at H
 refine OkF.of (N := 35) (rs := [6]) (avs := [.c (.own 100 r.length)]) Try.func55 rfl rfl (fun _ _ => results_tmp rfl _ _ _) (by decide) rfl rfl rfl rfl (fun w0 S => ?_)
 refine AG.seq ?_
 refine AG.region HM ?_
 refine a_nilO (e := 2) 200 ?_ T2
 refine RA.nil nofun ?_
 refine AG.seq ?_
 refine AG.region HM ?_
 refine a_lit (cs := []) (D := []) (css := (([] : List Int) : List Int).map c2) 201 ?_ N38 T2 (hcss := by rfl)
 refine a_move (v := .c (.own _ _)) ?_
 refine RA.nil nofun ?_
 refine AG.seq ?_
 refine AG.seq ?_
 refine AG.region HM ?_
 refine a_move (v := vI _) ?_
 refine RA.nil nofun ?_
 refine AG.block ?_
 refine AG.loop ?_
 obtain ⟨K0, hK0, gK0⟩ : ∃ K, k ≤ K ∧ K ≤ k := ⟨k, Nat.le_refl k, Nat.le_refl k⟩
 refine AGr.canon (fun κ => cond (Nat.beq κ 202) 201 (κ)) (AGr.loopI (n := k) (fun k s => k ≤ K0 ∧ ∃ (x0_0 : Int) (x0_1 : Int) (x0_2 : List S60) (x0_3 : List S91) (x1 : Int) (x2 : Int) (x7 : List Int) (x8 : Int), spec_l05OnEdge.l0 k x0_3 x1 x2 x7 x8 = some r ∧ s = St.of [(0, .c (.d (.ro [.v (.int .i64 x0_0), .v (.int .i64 x0_1), .row 61 (x0_2.map c60), .row 96 (x0_3.map c91)]))), (1, vI x1), (2, vI x2), (7, .c (.own 202 x7.length)), (8, vI x8)] [(202, .row 2 (x7.map c2))]) ⟨hK0, _, _, _, _, _, _, _, _, H, rfl⟩ ?_ ?_) ⟨rfl, rfl, rfl, (ownE rfl (by simp)), rfl, trivial⟩ ⟨rfl, trivial⟩ rfl
 ·rintro _ ⟨_, _, _, _, _, _, _, _, _, H, _⟩
  cases H
 ·clear H hK0
  rintro k ih0 _ ⟨hK0, x0_0, x0_1, x0_2, x0_3, x1, x2, x7, x8, H, rfl⟩
  unfold spec_l05OnEdge.l0 at H
  refine AG.seq ?_
  refine AG.seq ?_
  refine AG.region HM ?_
  refine a_move (v := vI _) ?_
  refine a_move (v := vO [_, _, _, _]) ?_
  refine a_nil (v := vO [_, _, _, _]) ?_
  refine a_faR (cells' := [_]) ?_ D32_3
  refine a_ldR (v := vR _ _) ?_ T30
  refine a_lenR ?_ Try.underlying30
  refine a_int (u := .bool (decide (x8 < (x0_3.length : Int)))) ?_
  refine RA.nil nofun ?_
  by_cases hc2 : x8 < (x0_3.length : Int)
  ·rw [if_pos hc2] at H
   refine AG.yes rfl (decide_eq_true hc2) ?_
   refine AG.skip ?_
   refine AG.seq ?_
   refine AG.block ?_
   refine AG.seq ?_
   refine AG.region HM ?_
   refine a_move (v := vO [_, _, _, _]) ?_
   refine a_nil (v := vO [_, _, _, _]) ?_
   refine a_faR (cells' := [_]) ?_ D32_3
   refine a_ldR (v := vR _ _) ?_ T30
   refine a_move (v := vI _) ?_
   by_cases hc3 : 0 ≤ x8
   ·rw [if_pos hc3] at H
    refine a_ixR (el := c91 (rd91 x0_3 x8)) ?_ ⟨hc3, hc2⟩ T96 Try.underlying30 (hel := R91 hc3 hc2)
    refine a_faR (cells' := [_]) ?_ D96_1
    refine a_ldR (v := vR _ _) ?_ T38
    refine a_move (v := vI _) ?_
    refine a_move (v := vI _) ?_
    obtain ⟨t4, e5, H⟩ := bindO H
    refine a_call (v := vB t4) (nk := []) (L := []) ?_ rfl (spec_l05HasEdge.ok e5) id (qd (qd (qd qn))) trivial trivial trivial rfl
    refine RA.nil nofun ?_
    by_cases hc6 : t4 = true
    ·rw [if_pos hc6] at H
     refine AG.yes rfl hc6 ?_
     refine AG.region HM ?_
     refine a_move (v := .c (.own _ _)) ?_
     refine a_move (v := vI _) ?_
     refine a_lit (cs := [_]) (D := []) (css := ([x8]).map c2) 204 ?_ N38 T2
     by_cases hc7 : x7.length < 17592186044416
     ·rw [if_pos hc7] at H
      refine a_appO (css' := (x7 ++ [x8]).map c2) (n' := (x7 ++ [x8]).length) ?_ T2 (by simp [maxLen]; omega) (by simp; omega) Try.underlying38 (hc := by exact List.map_append.symm) (hn := by exact List.length_map _)
      refine a_move (v := .c (.own _ _)) ?_
      refine RA.nil nofun ?_
      refine AG.region HM ?_
      refine a_move (v := vI _) ?_
      refine a_int (u := .int .i64 (wrap64 (x8 + 1))) ?_
      refine a_move (v := vI _) ?_
      refine RA.nil nofun ?_
      exact AGr.canon id (ih0 _ (by omega) _ ⟨by omega, _, _, _, _, _, _, _, _, H, rfl⟩) ⟨rfl, rfl, rfl, rfl, rfl, trivial⟩ ⟨rfl, trivial⟩ rfl
     ·rw [if_neg hc7] at H
      cases H
    ·rw [if_neg hc6] at H
     refine AG.no rfl (Bool.eq_false_iff.2 hc6) ?_
     refine AG.skip ?_
     refine AG.region HM ?_
     refine a_move (v := vI _) ?_
     refine a_int (u := .int .i64 (wrap64 (x8 + 1))) ?_
     refine a_move (v := vI _) ?_
     refine RA.nil nofun ?_
     exact AGr.canon id (ih0 _ (by omega) _ ⟨by omega, _, _, _, _, _, _, _, _, H, rfl⟩) ⟨rfl, rfl, rfl, rfl, rfl, trivial⟩ ⟨rfl, trivial⟩ rfl
   ·rw [if_neg hc3] at H
    cases H
  ·rw [if_neg hc2] at H
   refine AG.no rfl (decide_eq_false hc2) ?_
   refine AG.exit ?_
   refine AG.seq ?_
   refine AG.region HM ?_
   refine a_move (v := .c (.own _ _)) ?_
   refine a_move (v := .c (.own _ _)) ?_
   refine RA.nil nofun ?_
   refine AG.ret ?_
   obtain rfl := Option.some.inj H
   exact RetP.mk (fun κ => cond (Nat.beq κ 100) 202 (κ)) ⟨rfl, trivial⟩ ⟨rfl, trivial⟩ rfl
/-! ### spec_EdgesOf: function 40 -/
mutual
def spec_EdgesOf.l0 : Nat → Int → Int → List S60 → List S91 → List (List Int) → Int → Int → Option ((List (List Int)) × Int)
 | 0, _, _, _, _, _, _, _ => none
 | k + 1, y205_0, y205_1, y205_2, y205_3, x4, x5, x6 => if x6 < x5 then (spec_EdgesOf.l1 k y205_0 y205_1 y205_2 y205_3 x4 x5 x6 (wrap64 (x6 + 1))) else (some (x4, 0))
def spec_EdgesOf.l1 : Nat → Int → Int → List S60 → List S91 → List (List Int) → Int → Int → Int → Option ((List (List Int)) × Int)
 | 0, _, _, _, _, _, _, _, _ => none
 | k + 1, y207_0, y207_1, y207_2, y207_3, x4, x5, x6, x7 => if x7 < x5 then ((spec_l05OnEdge.f k y207_0 y207_1 y207_2 y207_3 x6 x7).bind fun t7 => (if (t7.length : Int) > 0 then (if x4.length < 5864062014805 then (spec_EdgesOf.l1 k y207_0 y207_1 y207_2 y207_3 (x4 ++ [[x6, x7]]) x5 x6 (wrap64 (x7 + 1))) else (none)) else (spec_EdgesOf.l1 k y207_0 y207_1 y207_2 y207_3 x4 x5 x6 (wrap64 (x7 + 1))))) else (spec_EdgesOf.l0 k y207_0 y207_1 y207_2 y207_3 x4 x5 (wrap64 (x6 + 1)))
end
def spec_EdgesOf.f (k : Nat) (a0_0 : Int) (a0_1 : Int) (l0_2 : List S60) (l0_3 : List S91) : Option ((List (List Int)) × Int) := (spec_l05Ok.f k a0_0 a0_1 l0_2 l0_3).bind fun t1 => (if t1 = true then (spec_EdgesOf.l0 k a0_0 a0_1 l0_2 l0_3 (([] : List (List Int)) : List (List Int)) (l0_2.length : Int) 0) else (some (([] : List (List Int)), 1)))
set_option maxRecDepth 100000 in
theorem spec_EdgesOf.ok {k : Nat} {a0_0 : Int} {a0_1 : Int} {l0_2 : List S60} {l0_3 : List S91} {r0 : List (List Int)} {r1 : Int} (H : spec_EdgesOf.f k a0_0 a0_1 l0_2 l0_3 = some (r0, r1)) : OkF Try.prog 40 [.agg [.d (.v (.int .i64 a0_0)), .d (.v (.int .i64 a0_1)), .d (.row 61 (l0_2.map c60)), .d (.row 96 (l0_3.map c91))]] [] (.tup [.c (.own 100 r0.length), .c (.d (.v (.int .i64 r1)))]) [(100, .row 38 (r0.map c38))] := by
 unfold spec_EdgesOf.f at H
 refine OkF.of (N := 38) (rs := [2, 3]) (avs := [.c (.own 100 r0.length), .c (.d (.v (.int .i64 r1)))]) Try.func40 rfl rfl (fun _ _ => results_tmp2 rfl _ _ _) (by decide) rfl rfl rfl rfl (fun w0 S => ?_)
 refine AG.seq ?_
 refine AG.region HM ?_
 refine a_box 200 ?_
 refine a_nilO (e := 38) 201 ?_ T38
 refine a_move (v := vI _) ?_
 refine RA.nil nofun ?_
 refine AG.seq ?_
 refine AG.seq ?_
 refine AG.region HM ?_
 obtain ⟨t1, e2, H⟩ := bindO H
 refine a_call (v := vB t1) (nk := []) (L := [(200, _)]) ?_ rfl (spec_l05Ok.ok e2) id (qc (rP (pD (pD (pD (pD p0))))) qn) ⟨rfl, trivial⟩ trivial trivial rfl
 refine a_un (u := .bool (!t1)) ?_
 refine RA.nil nofun ?_
 by_cases hc3 : t1 = true
 ·rw [if_pos hc3] at H
  refine AG.no rfl (congrArg Bool.not hc3) ?_
  refine AG.skip ?_
  refine AG.seq ?_
  refine AG.region HM ?_
  refine a_lit (cs := []) (D := []) (css := (([] : List (List Int)) : List (List Int)).map c38) 204 ?_ N56 T38 (hcss := by rfl)
  refine a_move (v := .c (.own _ _)) ?_
  refine RA.nil nofun ?_
  refine AG.seq ?_
  refine AG.region HM ?_
  refine a_faB (q := 2) ?_ D32_2
  refine a_ldB (v := vR _ _) ?_ T29
  refine a_lenR ?_ Try.underlying29
  refine a_move (v := vI _) ?_
  refine RA.nil nofun ?_
  refine AG.seq ?_
  refine AG.seq ?_
  refine AG.region HM ?_
  refine a_move (v := vI _) ?_
  refine RA.nil nofun ?_
  refine AG.block ?_
  refine AG.loop ?_
  obtain ⟨K0, hK0, gK0⟩ : ∃ K, k ≤ K ∧ K ≤ k := ⟨k, Nat.le_refl k, Nat.le_refl k⟩
  refine AGr.canon (fun κ => cond (Nat.beq κ 205) 200 (cond (Nat.beq κ 206) 204 (κ))) (AGr.loopI (n := k) (fun k s => k ≤ K0 ∧ ∃ (y205_0 : Int) (y205_1 : Int) (y205_2 : List S60) (y205_3 : List S91) (x4 : List (List Int)) (x5 : Int) (x6 : Int), spec_EdgesOf.l0 k y205_0 y205_1 y205_2 y205_3 x4 x5 x6 = some (r0, r1) ∧ s = St.of [(1, .c (.ptr 205 0)), (4, .c (.own 206 x4.length)), (5, vI x5), (6, vI x6)] [(205, .box 32 [.d (.v (.int .i64 y205_0)), .d (.v (.int .i64 y205_1)), .d (.row 61 (y205_2.map c60)), .d (.row 96 (y205_3.map c91))]), (206, .row 38 (x4.map c38))]) ⟨hK0, _, _, _, _, _, _, _, H, rfl⟩ ?_ ?_) ⟨rfl, (ownE rfl (by simp)), rfl, rfl, trivial⟩ ⟨rfl, rfl, trivial⟩ rfl
  ·rintro _ ⟨_, _, _, _, _, _, _, _, H, _⟩
   cases H
  ·clear H hK0
   rintro k ih0 _ ⟨hK0, y205_0, y205_1, y205_2, y205_3, x4, x5, x6, H, rfl⟩
   unfold spec_EdgesOf.l0 at H
   refine AG.seq ?_
   refine AG.seq ?_
   refine AG.region HM ?_
   refine a_move (v := vI _) ?_
   refine a_move (v := vI _) ?_
   refine a_int (u := .bool (decide (x6 < x5))) ?_
   refine RA.nil nofun ?_
   by_cases hc5 : x6 < x5
   ·rw [if_pos hc5] at H
    refine AG.yes rfl (decide_eq_true hc5) ?_
    refine AG.skip ?_
    refine AG.seq ?_
    refine AG.block ?_
    refine AG.seq ?_
    refine AG.region HM ?_
    refine a_move (v := vI _) ?_
    refine a_int (u := .int .i64 (wrap64 (x6 + 1))) ?_
    refine a_move (v := vI _) ?_
    refine RA.nil nofun ?_
    refine AG.block ?_
    refine AG.loop ?_
    obtain ⟨K1, hK1, gK1⟩ : ∃ K, k ≤ K ∧ K ≤ k := ⟨k, Nat.le_refl k, Nat.le_refl k⟩
    refine AGr.canon (fun κ => cond (Nat.beq κ 207) 205 (cond (Nat.beq κ 208) 206 (κ))) (AGr.loopI (n := k) (fun k s => k ≤ K1 ∧ ∃ (y207_0 : Int) (y207_1 : Int) (y207_2 : List S60) (y207_3 : List S91) (x4 : List (List Int)) (x5 : Int) (x6 : Int) (x7 : Int), spec_EdgesOf.l1 k y207_0 y207_1 y207_2 y207_3 x4 x5 x6 x7 = some (r0, r1) ∧ s = St.of [(1, .c (.ptr 207 0)), (4, .c (.own 208 x4.length)), (5, vI x5), (6, vI x6), (7, vI x7)] [(207, .box 32 [.d (.v (.int .i64 y207_0)), .d (.v (.int .i64 y207_1)), .d (.row 61 (y207_2.map c60)), .d (.row 96 (y207_3.map c91))]), (208, .row 38 (x4.map c38))]) ⟨hK1, _, _, _, _, _, _, _, _, H, rfl⟩ ?_ ?_) ⟨rfl, rfl, rfl, rfl, rfl, trivial⟩ ⟨rfl, rfl, trivial⟩ rfl
    ·rintro _ ⟨_, _, _, _, _, _, _, _, _, H, _⟩
     cases H
    ·clear H hK1
     rintro k ih1 _ ⟨hK1, y207_0, y207_1, y207_2, y207_3, x4, x5, x6, x7, H, rfl⟩
     unfold spec_EdgesOf.l1 at H
     refine AG.seq ?_
     refine AG.seq ?_
     refine AG.region HM ?_
     refine a_move (v := vI _) ?_
     refine a_move (v := vI _) ?_
     refine a_int (u := .bool (decide (x7 < x5))) ?_
     refine RA.nil nofun ?_
     by_cases hc6 : x7 < x5
     ·rw [if_pos hc6] at H
      refine AG.yes rfl (decide_eq_true hc6) ?_
      refine AG.skip ?_
      refine AG.seq ?_
      refine AG.block ?_
      refine AG.seq ?_
      refine AG.region HM ?_
      refine a_move (v := vI _) ?_
      refine a_move (v := vI _) ?_
      obtain ⟨t7, e8, H⟩ := bindO H
      refine a_call (v := .c (.own 209 t7.length)) (nk := [(209, .row 2 (t7.map c2))]) (L := [(207, _)]) ?_ rfl (spec_l05OnEdge.ok e8) (fun κ => cond (Nat.beq κ 209) 100 (κ)) (qc (rP (pD (pD (pD (pD p0))))) (qd (qd qn))) ⟨rfl, trivial⟩ ⟨rfl, trivial⟩ ⟨rfl, trivial⟩ rfl
      refine a_lenO ?_ Try.underlying38
      refine a_int (u := .bool (decide ((t7.length : Int) > 0))) ?_
      refine RA.nil nofun ?_
      by_cases hc9 : (t7.length : Int) > 0
      ·rw [if_pos hc9] at H
       refine AG.yes rfl (decide_eq_true hc9) ?_
       refine AG.region HM ?_
       refine a_move (v := .c (.own _ _)) ?_
       refine a_move (v := vI _) ?_
       refine a_move (v := vI _) ?_
       refine a_lit (cs := [_, _]) (D := []) (css := ([x6, x7]).map c2) 210 ?_ N38 T2
       refine a_lit (cs := [_]) (D := [210]) (css := ([[x6, x7]]).map c38) 211 ?_ N56 T38
       by_cases hc10 : x4.length < 5864062014805
       ·rw [if_pos hc10] at H
        refine a_appO (css' := (x4 ++ [[x6, x7]]).map c38) (n' := (x4 ++ [[x6, x7]]).length) ?_ T38 (by simp [maxLen]; omega) (by simp; omega) Try.underlying56 (hc := by exact List.map_append.symm) (hn := by exact List.length_map _)
        refine a_move (v := .c (.own _ _)) ?_
        refine RA.nil nofun ?_
        refine AG.region HM ?_
        refine a_move (v := vI _) ?_
        refine a_int (u := .int .i64 (wrap64 (x7 + 1))) ?_
        refine a_move (v := vI _) ?_
        refine RA.nil nofun ?_
        exact AGr.canon id (ih1 _ (by omega) _ ⟨by omega, _, _, _, _, _, _, _, _, H, rfl⟩) ⟨rfl, rfl, rfl, rfl, rfl, trivial⟩ ⟨rfl, rfl, trivial⟩ rfl
       ·rw [if_neg hc10] at H
        cases H
      ·rw [if_neg hc9] at H
       refine AG.no rfl (decide_eq_false hc9) ?_
       refine AG.skip ?_
       refine AG.region HM ?_
       refine a_move (v := vI _) ?_
       refine a_int (u := .int .i64 (wrap64 (x7 + 1))) ?_
       refine a_move (v := vI _) ?_
       refine RA.nil nofun ?_
       exact AGr.canon id (ih1 _ (by omega) _ ⟨by omega, _, _, _, _, _, _, _, _, H, rfl⟩) ⟨rfl, rfl, rfl, rfl, rfl, trivial⟩ ⟨rfl, rfl, trivial⟩ rfl
     ·rw [if_neg hc6] at H
      refine AG.no rfl (decide_eq_false hc6) ?_
      refine AG.exit ?_
      refine AG.region HM ?_
      refine a_move (v := vI _) ?_
      refine a_int (u := .int .i64 (wrap64 (x6 + 1))) ?_
      refine a_move (v := vI _) ?_
      refine RA.nil nofun ?_
      exact AGr.canon (fun κ => cond (Nat.beq κ 205) 207 (cond (Nat.beq κ 206) 208 (κ))) (ih0 _ (by omega) _ ⟨by omega, _, _, _, _, _, _, _, H, rfl⟩) ⟨rfl, rfl, rfl, rfl, trivial⟩ ⟨rfl, rfl, trivial⟩ rfl
   ·rw [if_neg hc5] at H
    refine AG.no rfl (decide_eq_false hc5) ?_
    refine AG.exit ?_
    refine AG.seq ?_
    refine AG.region HM ?_
    refine a_move (v := .c (.own _ _)) ?_
    refine a_move (v := .c (.own _ _)) ?_
    refine a_move (v := vI _) ?_
    refine RA.nil nofun ?_
    refine AG.ret ?_
    simp only [Option.some.injEq, Prod.mk.injEq] at H
    obtain ⟨rfl, rfl⟩ := H
    exact RetP.mk (fun κ => cond (Nat.beq κ 100) 206 (κ)) ⟨rfl, rfl, trivial⟩ ⟨rfl, trivial⟩ rfl
 ·rw [if_neg hc3] at H
  refine AG.yes rfl (congrArg Bool.not (Bool.eq_false_iff.2 hc3)) ?_
  refine AG.seq ?_
  refine AG.region HM ?_
  refine a_nilO (e := 38) 203 ?_ T38
  refine a_move (v := vI _) ?_
  refine RA.nil nofun ?_
  refine AG.ret ?_
  simp only [Option.some.injEq, Prod.mk.injEq] at H
  obtain ⟨rfl, rfl⟩ := H
  exact RetP.mk (fun κ => cond (Nat.beq κ 100) 203 (κ)) ⟨(ownE rfl (by simp)), rfl, trivial⟩ ⟨rfl, trivial⟩ rfl
/-! ### spec_l14Edges: function 50 -/
def spec_l14Edges.f (k : Nat) (a0_0 : Int) (a0_1 : Int) (l0_2 : List S60) (l0_3 : List S91) : Option ((List (List Int))) := (spec_EdgesOf.f k a0_0 a0_1 l0_2 l0_3).bind fun bt1 => (some bt1.1)
set_option maxRecDepth 100000 in
theorem spec_l14Edges.ok {k : Nat} {a0_0 : Int} {a0_1 : Int} {l0_2 : List S60} {l0_3 : List S91} {r : List (List Int)} (H : spec_l14Edges.f k a0_0 a0_1 l0_2 l0_3 = some r) : OkF Try.prog 50 [.c (.d (.ro [.v (.int .i64 a0_0), .v (.int .i64 a0_1), .row 61 (l0_2.map c60), .row 96 (l0_3.map c91)]))] [] (.c (.own 100 r.length)) [(100, .row 38 (r.map c38))] := by
 unfold spec_l14Edges.f at H
 refine OkF.of (N := 13) (rs := [2]) (avs := [.c (.own 100 r.length)]) Try.func50 rfl rfl (fun _ _ => results_tmp rfl _ _ _) (by decide) rfl rfl rfl rfl (fun w0 S => ?_)
 refine AG.seq ?_
 refine AG.region HM ?_
 refine a_nilO (e := 38) 200 ?_ T38
 refine RA.nil nofun ?_
 refine AG.seq ?_
 refine AG.region HM ?_
 refine a_move (v := vO [_, _, _, _]) ?_
 refine a_nil (v := vO [_, _, _, _]) ?_
 refine a_ldR (v := .agg [_, _, _, _]) ?_ T32
 obtain ⟨⟨t1, t2⟩, e3, H⟩ := bindO H
 refine a_call (v := .tup [.c (.own 201 t1.length), .c (.d (.v (.int .i64 t2)))]) (nk := [(201, .row 38 (t1.map c38))]) (L := []) ?_ rfl (spec_EdgesOf.ok e3) (fun κ => cond (Nat.beq κ 201) 100 (κ)) (qg qn) trivial ⟨rfl, trivial⟩ ⟨rfl, trivial⟩ rfl
 refine a_move (v := .tup [_, _]) ?_
 refine a_ext (v := .c (.own _ _)) ?_
 refine a_ext (v := vI _) ?_
 refine a_move (v := .c (.own _ _)) ?_
 refine a_move (v := vI _) ?_
 refine RA.nil nofun ?_
 refine AG.seq ?_
 refine AG.region HM ?_
 refine a_move (v := .c (.own _ _)) ?_
 refine a_move (v := .c (.own _ _)) ?_
 refine RA.nil nofun ?_
 refine AG.ret ?_
 obtain rfl := Option.some.inj H
 exact RetP.mk (fun κ => cond (Nat.beq κ 100) 201 (κ)) ⟨rfl, trivial⟩ ⟨rfl, trivial⟩ rfl
end Go.Proofs.Ytanbgmnhbncapaa.PFnExactBestWays

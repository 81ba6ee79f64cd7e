/- What each function that the law FnExactLeastContrast reaches comes to, and the proof that its walk comes to it; laid by a program of this session. No condition. -/
import Derived.Test.YtadjbffiomkljaaAnE
import Derived.KernelRfl
import Derived.OwnWalk
import Derived.Test.YtadjbffiomkljaaProg
import Derived.Test.YtadjbffiomkljaaAnL
set_option linter.unusedVariables false
set_option linter.unusedSimpArgs false
namespace Go.Proofs.Ytadjbffiomkljaa.PFnExactLeastContrast
open Go Go.RowKit Go.Proofs.YtadjbffiomkljaaM Go.Proofs
theorem HM : Try.prog.follows .mixedOrders = true := by kernel_rfl
structure S86 where
 f0 : ByteArray
 f1 : Int
 f2 : Int
def z86 : S86 := ⟨(⟨#[]⟩ : ByteArray), 0, 0⟩
structure S24 where
 f0 : List S86
 f1 : List Int
def z24 : S24 := ⟨[], []⟩
structure S31 where
 f0 : List S86
 f1 : List Int
def z31 : S31 := ⟨[], []⟩
structure S107 where
 f0 : Int
 f1 : Int
def z107 : S107 := ⟨0, 0⟩
structure S98 where
 f0 : ByteArray
 f1 : List Int
def z98 : S98 := ⟨(⟨#[]⟩ : ByteArray), []⟩
structure S41 where
 f0 : Int
 f1 : Int
 f2 : List S107
 f3 : List S98
def z41 : S41 := ⟨0, 0, [], []⟩
structure S48 where
 f0 : Int
 f1 : Int
 f2 : List S107
 f3 : List S98
def z48 : S48 := ⟨0, 0, [], []⟩
structure S125 where
 f0 : Int
 f1 : Int
def z125 : S125 := ⟨0, 0⟩
def c86 (x : S86) : List DV := [.v (.string x.f0), .v (.int .i64 x.f1), .v (.int .i64 x.f2)]
def rd86 (l : List S86) (i : Int) : S86 := l.getD i.toNat z86
theorem R86 {l : List S86} {i : Int} {z : List DV} (h0 : 0 ≤ i) (h1 : i < (l.length : Int)) : (l.map c86).getD i.toNat z = c86 (rd86 l i) := by
 have : i.toNat < l.length := by omega
 simp [rd86, List.getD_eq_getElem?_getD, this]
theorem G86 {l : List S86} {i : Int} (h0 : 0 ≤ i) (h1 : i < (l.length : Int)) : (l.map c86)[i.toNat]? = some (c86 (rd86 l i)) := by
 have : i.toNat < l.length := by omega
 simp [rd86, List.getD_eq_getElem?_getD, this]
def c2 (x : Int) : List DV := [.v (.int .i64 x)]
def rd2 (l : List Int) (i : Int) : Int := l.getD i.toNat 0
theorem R2 {l : List Int} {i : Int} {z : List DV} (h0 : 0 ≤ i) (h1 : i < (l.length : Int)) : (l.map c2).getD i.toNat z = c2 (rd2 l i) := by
 have : i.toNat < l.length := by omega
 simp [rd2, List.getD_eq_getElem?_getD, this]
theorem G2 {l : List Int} {i : Int} (h0 : 0 ≤ i) (h1 : i < (l.length : Int)) : (l.map c2)[i.toNat]? = some (c2 (rd2 l i)) := by
 have : i.toNat < l.length := by omega
 simp [rd2, List.getD_eq_getElem?_getD, this]
def c107 (x : S107) : List DV := [.v (.int .i64 x.f0), .v (.int .i64 x.f1)]
def rd107 (l : List S107) (i : Int) : S107 := l.getD i.toNat z107
theorem R107 {l : List S107} {i : Int} {z : List DV} (h0 : 0 ≤ i) (h1 : i < (l.length : Int)) : (l.map c107).getD i.toNat z = c107 (rd107 l i) := by
 have : i.toNat < l.length := by omega
 simp [rd107, List.getD_eq_getElem?_getD, this]
theorem G107 {l : List S107} {i : Int} (h0 : 0 ≤ i) (h1 : i < (l.length : Int)) : (l.map c107)[i.toNat]? = some (c107 (rd107 l i)) := by
 have : i.toNat < l.length := by omega
 simp [rd107, List.getD_eq_getElem?_getD, this]
def c98 (x : S98) : List DV := [.v (.string x.f0), .row 2 (x.f1.map c2)]
def rd98 (l : List S98) (i : Int) : S98 := l.getD i.toNat z98
theorem R98 {l : List S98} {i : Int} {z : List DV} (h0 : 0 ≤ i) (h1 : i < (l.length : Int)) : (l.map c98).getD i.toNat z = c98 (rd98 l i) := by
 have : i.toNat < l.length := by omega
 simp [rd98, List.getD_eq_getElem?_getD, this]
theorem G98 {l : List S98} {i : Int} (h0 : 0 ≤ i) (h1 : i < (l.length : Int)) : (l.map c98)[i.toNat]? = some (c98 (rd98 l i)) := by
 have : i.toNat < l.length := by omega
 simp [rd98, List.getD_eq_getElem?_getD, this]
def c9 (x : ByteArray) : List DV := [.v (.string x)]
def rd9 (l : List ByteArray) (i : Int) : ByteArray := l.getD i.toNat (⟨#[]⟩ : ByteArray)
theorem R9 {l : List ByteArray} {i : Int} {z : List DV} (h0 : 0 ≤ i) (h1 : i < (l.length : Int)) : (l.map c9).getD i.toNat z = c9 (rd9 l i) := by
 have : i.toNat < l.length := by omega
 simp [rd9, List.getD_eq_getElem?_getD, this]
theorem G9 {l : List ByteArray} {i : Int} (h0 : 0 ≤ i) (h1 : i < (l.length : Int)) : (l.map c9)[i.toNat]? = some (c9 (rd9 l i)) := by
 have : i.toNat < l.length := by omega
 simp [rd9, List.getD_eq_getElem?_getD, this]
def c23 (x : List Int) : List DV := [.row 2 (x.map c2)]
def rd23 (l : List (List Int)) (i : Int) : List Int := l.getD i.toNat []
theorem R23 {l : List (List Int)} {i : Int} {z : List DV} (h0 : 0 ≤ i) (h1 : i < (l.length : Int)) : (l.map c23).getD i.toNat z = c23 (rd23 l i) := by
 have : i.toNat < l.length := by omega
 simp [rd23, List.getD_eq_getElem?_getD, this]
theorem G23 {l : List (List Int)} {i : Int} (h0 : 0 ≤ i) (h1 : i < (l.length : Int)) : (l.map c23)[i.toNat]? = some (c23 (rd23 l i)) := by
 have : i.toNat < l.length := by omega
 simp [rd23, List.getD_eq_getElem?_getD, this]
def c125 (x : S125) : List DV := [.v (.int .i64 x.f0), .v (.int .i64 x.f1)]
def rd125 (l : List S125) (i : Int) : S125 := l.getD i.toNat z125
theorem R125 {l : List S125} {i : Int} {z : List DV} (h0 : 0 ≤ i) (h1 : i < (l.length : Int)) : (l.map c125).getD i.toNat z = c125 (rd125 l i) := by
 have : i.toNat < l.length := by omega
 simp [rd125, List.getD_eq_getElem?_getD, this]
theorem G125 {l : List S125} {i : Int} (h0 : 0 ≤ i) (h1 : i < (l.length : Int)) : (l.map c125)[i.toNat]? = some (c125 (rd125 l i)) := by
 have : i.toNat < l.length := by omega
 simp [rd125, List.getD_eq_getElem?_getD, this]
def c122 (x : List S125) : List DV := [.row 125 (x.map c125)]
def rd122 (l : List (List S125)) (i : Int) : List S125 := l.getD i.toNat []
theorem R122 {l : List (List S125)} {i : Int} {z : List DV} (h0 : 0 ≤ i) (h1 : i < (l.length : Int)) : (l.map c122).getD i.toNat z = c122 (rd122 l i) := by
 have : i.toNat < l.length := by omega
 simp [rd122, List.getD_eq_getElem?_getD, this]
theorem G122 {l : List (List S125)} {i : Int} (h0 : 0 ≤ i) (h1 : i < (l.length : Int)) : (l.map c122)[i.toNat]? = some (c122 (rd122 l i)) := by
 have : i.toNat < l.length := by omega
 simp [rd122, List.getD_eq_getElem?_getD, this]
def c41 (x : S41) : List DV := [.v (.int .i64 x.f0), .v (.int .i64 x.f1), .row 110 (x.f2.map c107), .row 99 (x.f3.map c98)]
def rd41 (l : List S41) (i : Int) : S41 := l.getD i.toNat z41
theorem R41 {l : List S41} {i : Int} {z : List DV} (h0 : 0 ≤ i) (h1 : i < (l.length : Int)) : (l.map c41).getD i.toNat z = c41 (rd41 l i) := by
 have : i.toNat < l.length := by omega
 simp [rd41, List.getD_eq_getElem?_getD, this]
theorem G41 {l : List S41} {i : Int} (h0 : 0 ≤ i) (h1 : i < (l.length : Int)) : (l.map c41)[i.toNat]? = some (c41 (rd41 l i)) := by
 have : i.toNat < l.length := by omega
 simp [rd41, List.getD_eq_getElem?_getD, this]
def c24 (x : S24) : List DV := [.row 87 (x.f0.map c86), .row 2 (x.f1.map c2)]
def rd24 (l : List S24) (i : Int) : S24 := l.getD i.toNat z24
theorem R24 {l : List S24} {i : Int} {z : List DV} (h0 : 0 ≤ i) (h1 : i < (l.length : Int)) : (l.map c24).getD i.toNat z = c24 (rd24 l i) := by
 have : i.toNat < l.length := by omega
 simp [rd24, List.getD_eq_getElem?_getD, this]
theorem G24 {l : List S24} {i : Int} (h0 : 0 ≤ i) (h1 : i < (l.length : Int)) : (l.map c24)[i.toNat]? = some (c24 (rd24 l i)) := by
 have : i.toNat < l.length := by omega
 simp [rd24, List.getD_eq_getElem?_getD, this]
theorem T9 : tyi Try.prog 9 = some (1, 16, [.string ⟨#[]⟩], false) := by kernel_rfl
theorem T87 : tyi Try.prog 87 = some (3, 32, [.string ⟨#[]⟩, .int .i64 0, .int .i64 0], true) := by kernel_rfl
theorem T22 : tyi Try.prog 22 = some (1, 24, [.slice none 0 0], false) := by kernel_rfl
theorem T23 : tyi Try.prog 23 = some (1, 24, [.slice none 0 0], false) := by kernel_rfl
theorem T90 : tyi Try.prog 90 = some (3, 32, [.string ⟨#[]⟩, .int .i64 0, .int .i64 0], true) := by kernel_rfl
theorem T2 : tyi Try.prog 2 = some (1, 8, [.int .i64 0], false) := by kernel_rfl
theorem T32 : tyi Try.prog 32 = some (2, 48, [.slice none 0 0, .slice none 0 0], true) := by kernel_rfl
theorem T30 : tyi Try.prog 30 = some (1, 24, [.slice none 0 0], false) := by kernel_rfl
theorem T99 : tyi Try.prog 99 = some (2, 40, [.string ⟨#[]⟩, .slice none 0 0], true) := by kernel_rfl
theorem T39 : tyi Try.prog 39 = some (1, 24, [.slice none 0 0], false) := by kernel_rfl
theorem T40 : tyi Try.prog 40 = some (1, 24, [.slice none 0 0], false) := by kernel_rfl
theorem T108 : tyi Try.prog 108 = some (2, 16, [.int .i64 0, .int .i64 0], true) := by kernel_rfl
theorem T110 : tyi Try.prog 110 = some (2, 16, [.int .i64 0, .int .i64 0], true) := by kernel_rfl
theorem T101 : tyi Try.prog 101 = some (2, 40, [.string ⟨#[]⟩, .slice none 0 0], true) := by kernel_rfl
theorem T49 : tyi Try.prog 49 = some (4, 64, [.int .i64 0, .int .i64 0, .slice none 0 0, .slice none 0 0], true) := by kernel_rfl
theorem T46 : tyi Try.prog 46 = some (1, 24, [.slice none 0 0], false) := by kernel_rfl
theorem T47 : tyi Try.prog 47 = some (1, 24, [.slice none 0 0], false) := by kernel_rfl
theorem T125 : tyi Try.prog 125 = some (2, 16, [.int .i64 0, .int .i64 0], true) := by kernel_rfl
theorem T122 : tyi Try.prog 122 = some (1, 24, [.slice none 0 0], false) := by kernel_rfl
theorem T121 : tyi Try.prog 121 = some (1, 24, [.slice none 0 0], false) := by kernel_rfl
theorem T3 : tyi Try.prog 3 = some (1, 8, [.int .i64 0], false) := by kernel_rfl
theorem T42 : tyi Try.prog 42 = some (4, 64, [.int .i64 0, .int .i64 0, .slice none 0 0, .slice none 0 0], true) := by kernel_rfl
theorem T25 : tyi Try.prog 25 = some (2, 48, [.slice none 0 0, .slice none 0 0], true) := by kernel_rfl
theorem N30 : eln Try.prog 30 = some 90 := by kernel_rfl
theorem N23 : eln Try.prog 23 = some 2 := by kernel_rfl
theorem N46 : eln Try.prog 46 = some 108 := by kernel_rfl
theorem N47 : eln Try.prog 47 = some 101 := by kernel_rfl
theorem N147 : eln Try.prog 147 = some 9 := by kernel_rfl
theorem N27 : eln Try.prog 27 = some 23 := by kernel_rfl
theorem N122 : eln Try.prog 122 = some 125 := by kernel_rfl
theorem N121 : eln Try.prog 121 = some 122 := by kernel_rfl
theorem Q108 (x0 y0 : Int) (x1 y1 : Int) : EqRun Try.prog .eql 108 [.int .i64 x0, .int .i64 x1] [.int .i64 y0, .int .i64 y1] (eqC [.int .i64 x0, .int .i64 x1] [.int .i64 y0, .int .i64 y1]) ∧ EqRun Try.prog .neq 108 [.int .i64 x0, .int .i64 x1] [.int .i64 y0, .int .i64 y1] (!(eqC [.int .i64 x0, .int .i64 x1] [.int .i64 y0, .int .i64 y1])) := by
 refine eqRun_of (by kernel_rfl) (fun w => ?_)
 show _ = Result.ok (x0 == y0 && (x1 == y1)) w
 go_simp
 (repeat' split) <;> simp_all
theorem Q125 (x0 y0 x1 y1 : Int) : EqRun Try.prog .eql 125 [.int .i64 x0, .int .i64 x1] [.int .i64 y0, .int .i64 y1] (eqC [.int .i64 x0, .int .i64 x1] [.int .i64 y0, .int .i64 y1]) ∧ EqRun Try.prog .neq 125 [.int .i64 x0, .int .i64 x1] [.int .i64 y0, .int .i64 y1] (!(eqC [.int .i64 x0, .int .i64 x1] [.int .i64 y0, .int .i64 y1])) := by
 refine eqRun_of (by kernel_rfl) (fun w => ?_)
 show _ = Result.ok (x0 == y0 && (x1 == y1)) w
 exact run_equalIn_arr2 9998 w x0 x1 y0 y1 Try.underlying125 Try.underlying2 Try.sizeOf2 Try.isAgg2
theorem D87_0 : fld Try.prog 87 0 = some (0, 1, false) := by kernel_rfl
theorem D25_0 : fld Try.prog 25 0 = some (0, 1, false) := by kernel_rfl
theorem D25_1 : fld Try.prog 25 1 = some (1, 1, false) := by kernel_rfl
theorem D90_0 : fld Try.prog 90 0 = some (0, 1, false) := by kernel_rfl
theorem D87_1 : fld Try.prog 87 1 = some (1, 1, false) := by kernel_rfl
theorem D90_1 : fld Try.prog 90 1 = some (1, 1, false) := by kernel_rfl
theorem D87_2 : fld Try.prog 87 2 = some (2, 1, false) := by kernel_rfl
theorem D90_2 : fld Try.prog 90 2 = some (2, 1, false) := by kernel_rfl
theorem D32_0 : fld Try.prog 32 0 = some (0, 1, false) := by kernel_rfl
theorem D32_1 : fld Try.prog 32 1 = some (1, 1, false) := by kernel_rfl
theorem D99_0 : fld Try.prog 99 0 = some (0, 1, false) := by kernel_rfl
theorem D99_1 : fld Try.prog 99 1 = some (1, 1, false) := by kernel_rfl
theorem D42_2 : fld Try.prog 42 2 = some (2, 1, false) := by kernel_rfl
theorem D42_3 : fld Try.prog 42 3 = some (3, 1, false) := by kernel_rfl
theorem D110_0 : fld Try.prog 110 0 = some (0, 1, false) := by kernel_rfl
theorem D108_0 : fld Try.prog 108 0 = some (0, 1, false) := by kernel_rfl
theorem D110_1 : fld Try.prog 110 1 = some (1, 1, false) := by kernel_rfl
theorem D108_1 : fld Try.prog 108 1 = some (1, 1, false) := by kernel_rfl
theorem D101_0 : fld Try.prog 101 0 = some (0, 1, false) := by kernel_rfl
theorem D101_1 : fld Try.prog 101 1 = some (1, 1, false) := by kernel_rfl
theorem D42_0 : fld Try.prog 42 0 = some (0, 1, false) := by kernel_rfl
theorem D49_0 : fld Try.prog 49 0 = some (0, 1, false) := by kernel_rfl
theorem D42_1 : fld Try.prog 42 1 = some (1, 1, false) := by kernel_rfl
theorem D49_1 : fld Try.prog 49 1 = some (1, 1, false) := by kernel_rfl
theorem D49_2 : fld Try.prog 49 2 = some (2, 1, false) := by kernel_rfl
theorem D49_3 : fld Try.prog 49 3 = some (3, 1, false) := by kernel_rfl
/-! ### laws_szVeneer: function 51 -/
def laws_szVeneer.f (a0_0 : ByteArray) (a0_1 : Int) (a0_2 : Int) (a1 : Int) : Option (Int) := if (wrap64 (a1 - (a0_0.size : Int))) < 0 then (some (-1)) else (some (wrap64 (a1 - (a0_0.size : Int))))
set_option maxRecDepth 100000 in
theorem laws_szVeneer.ok {a0_0 : ByteArray} {a0_1 : Int} {a0_2 : Int} {a1 : Int} {r : Int} (H : laws_szVeneer.f a0_0 a0_1 a0_2 a1 = some r) : OkF Try.prog 51 [.agg [.d (.v (.string a0_0)), .d (.v (.int .i64 a0_1)), .d (.v (.int .i64 a0_2))], vI a1] [] (.c (.d (.v (.int .i64 r)))) [] := by
 unfold laws_szVeneer.f at H
 refine OkF.of (N := 13) (rs := [4]) (avs := [.c (.d (.v (.int .i64 r)))]) Try.func51 rfl rfl (fun _ _ => results_tmp rfl _ _ _) (by decide) rfl rfl rfl rfl (fun w0 S => ?_)
 refine AG.seq ?_
 refine AG.region HM ?_
 refine a_box 200 ?_
 refine a_move (v := vI _) ?_
 refine RA.nil nofun ?_
 refine AG.seq ?_
 refine AG.region HM ?_
 refine a_move (v := vI _) ?_
 refine a_faB (q := 0) ?_ D87_0
 refine a_ldB (v := vS _) ?_ T9
 refine a_lenS ?_ Try.underlying9
 refine a_int (u := .int .i64 (wrap64 (a1 - (a0_0.size : Int)))) ?_
 refine a_move (v := vI _) ?_
 refine RA.nil nofun ?_
 refine AG.seq ?_
 refine AG.seq ?_
 refine AG.region HM ?_
 refine a_move (v := vI _) ?_
 refine a_int (u := .bool (decide ((wrap64 (a1 - (a0_0.size : Int))) < 0))) ?_
 refine RA.nil nofun ?_
 by_cases hc1 : (wrap64 (a1 - (a0_0.size : Int))) < 0
 ·rw [if_pos hc1] at H
  refine AG.yes rfl (decide_eq_true hc1) ?_
  refine AG.seq ?_
  refine AG.region HM ?_
  refine a_move (v := vI _) ?_
  refine RA.nil nofun ?_
  refine AG.ret ?_
  obtain rfl := Option.some.inj H
  exact RetP.mk id ⟨rfl, trivial⟩ trivial rfl
 ·rw [if_neg hc1] at H
  refine AG.no rfl (decide_eq_false hc1) ?_
  refine AG.skip ?_
  refine AG.seq ?_
  refine AG.region HM ?_
  refine a_move (v := vI _) ?_
  refine a_move (v := vI _) ?_
  refine RA.nil nofun ?_
  refine AG.ret ?_
  obtain rfl := Option.some.inj H
  exact RetP.mk id ⟨rfl, trivial⟩ trivial rfl
/-! ### laws_szVeneerS: function 26 -/
def laws_szVeneerS.l0 : Nat → List S86 → Int → Int → Option (Int)
 | 0, _, _, _ => none
 | k + 1, x0, x1, x5 => if x5 < (x0.length : Int) then (if 0 ≤ x5 then ((laws_szVeneer.f ((rd86 x0 x5).f0) ((rd86 x0 x5).f1) ((rd86 x0 x5).f2) x1).bind fun t4 => (if t4 < 0 then (some (-1)) else (laws_szVeneerS.l0 k x0 t4 (wrap64 (x5 + 1))))) else (none)) else (some x1)
def laws_szVeneerS.f (k : Nat) (l0 : List S86) (a1 : Int) : Option (Int) := if (wrap64 (a1 - (l0.length : Int))) < 0 then (some (-1)) else (laws_szVeneerS.l0 k l0 (wrap64 (a1 - (l0.length : Int))) 0)
set_option maxRecDepth 100000 in
theorem laws_szVeneerS.ok {k : Nat} {l0 : List S86} {a1 : Int} {r : Int} (H : laws_szVeneerS.f k l0 a1 = some r) : OkF Try.prog 26 [vR 87 (l0.map c86), vI a1] [] (.c (.d (.v (.int .i64 r)))) [] := by
 unfold laws_szVeneerS.f at H
 refine OkF.of (N := 27) (rs := [4]) (avs := [.c (.d (.v (.int .i64 r)))]) Try.func26 rfl rfl (fun _ _ => results_tmp rfl _ _ _) (by decide) rfl rfl rfl rfl (fun w0 S => ?_)
 refine AG.seq ?_
 refine AG.region HM ?_
 refine a_move (v := vI _) ?_
 refine RA.nil nofun ?_
 refine AG.seq ?_
 refine AG.region HM ?_
 refine a_move (v := vI _) ?_
 refine a_move (v := vR _ _) ?_
 refine a_lenR ?_ Try.underlying22
 refine a_int (u := .int .i64 (wrap64 (a1 - (l0.length : Int)))) ?_
 refine a_move (v := vI _) ?_
 refine RA.nil nofun ?_
 refine AG.seq ?_
 refine AG.seq ?_
 refine AG.region HM ?_
 refine a_move (v := vI _) ?_
 refine a_int (u := .bool (decide ((wrap64 (a1 - (l0.length : Int))) < 0))) ?_
 refine RA.nil nofun ?_
 by_cases hc1 : (wrap64 (a1 - (l0.length : Int))) < 0
 ·rw [if_pos hc1] at H
  refine AG.yes rfl (decide_eq_true hc1) ?_
  refine AG.seq ?_
  refine AG.region HM ?_
  refine a_move (v := vI _) ?_
  refine RA.nil nofun ?_
  refine AG.ret ?_
  obtain rfl := Option.some.inj H
  exact RetP.mk id ⟨rfl, trivial⟩ trivial rfl
 ·rw [if_neg hc1] at H
  refine AG.no rfl (decide_eq_false hc1) ?_
  refine AG.skip ?_
  refine AG.seq ?_
  refine AG.seq ?_
  refine AG.region HM ?_
  refine a_move (v := vI _) ?_
  refine RA.nil nofun ?_
  refine AG.block ?_
  refine AG.loop ?_
  obtain ⟨K0, hK0, gK0⟩ : ∃ K, k ≤ K ∧ K ≤ k := ⟨k, Nat.le_refl k, Nat.le_refl k⟩
  refine AGr.canon id (AGr.loopI (n := k) (fun k s => k ≤ K0 ∧ ∃ (x0 : List S86) (x1 : Int) (x5 : Int), laws_szVeneerS.l0 k x0 x1 x5 = some r ∧ s = St.of [(0, vR 87 (x0.map c86)), (1, vI x1), (5, vI x5)] []) ⟨hK0, _, _, _, H, rfl⟩ ?_ ?_) ⟨rfl, rfl, rfl, trivial⟩ trivial rfl
  ·rintro _ ⟨_, _, _, _, H, _⟩
   cases H
  ·clear H hK0
   rintro k ih0 _ ⟨hK0, x0, x1, x5, H, rfl⟩
   unfold laws_szVeneerS.l0 at H
   refine AG.seq ?_
   refine AG.seq ?_
   refine AG.region HM ?_
   refine a_move (v := vI _) ?_
   refine a_move (v := vR _ _) ?_
   refine a_lenR ?_ Try.underlying22
   refine a_int (u := .bool (decide (x5 < (x0.length : Int)))) ?_
   refine RA.nil nofun ?_
   by_cases hc2 : x5 < (x0.length : Int)
   ·rw [if_pos hc2] at H
    refine AG.yes rfl (decide_eq_true hc2) ?_
    refine AG.skip ?_
    refine AG.seq ?_
    refine AG.block ?_
    refine AG.seq ?_
    refine AG.region HM ?_
    refine a_move (v := vR _ _) ?_
    refine a_move (v := vI _) ?_
    by_cases hc3 : 0 ≤ x5
    ·rw [if_pos hc3] at H
     refine a_ixR (el := c86 (rd86 x0 x5)) ?_ ⟨hc3, hc2⟩ T87 Try.underlying22 (hel := R86 hc3 hc2)
     refine a_ldR (v := .agg [_, _, _]) ?_ T87
     refine a_move (v := vI _) ?_
     obtain ⟨t4, e5, H⟩ := bindO H
     refine a_call (v := vI t4) (nk := []) (L := []) ?_ rfl (laws_szVeneer.ok e5) id (qg (qd qn)) trivial trivial trivial rfl
     refine a_move (v := vI _) ?_
     refine RA.nil nofun ?_
     refine AG.seq ?_
     refine AG.region HM ?_
     refine a_move (v := vI _) ?_
     refine a_int (u := .bool (decide (t4 < 0))) ?_
     refine RA.nil nofun ?_
     by_cases hc6 : t4 < 0
     ·rw [if_pos hc6] at H
      refine AG.yes rfl (decide_eq_true hc6) ?_
      refine AG.seq ?_
      refine AG.region HM ?_
      refine a_move (v := vI _) ?_
      refine RA.nil nofun ?_
      refine AG.ret ?_
      obtain rfl := Option.some.inj H
      exact RetP.mk id ⟨rfl, trivial⟩ trivial rfl
     ·rw [if_neg hc6] at H
      refine AG.no rfl (decide_eq_false hc6) ?_
      refine AG.skip ?_
      refine AG.region HM ?_
      refine a_move (v := vI _) ?_
      refine a_int (u := .int .i64 (wrap64 (x5 + 1))) ?_
      refine a_move (v := vI _) ?_
      refine RA.nil nofun ?_
      exact AGr.canon id (ih0 _ (by omega) _ ⟨by omega, _, _, _, H, rfl⟩) ⟨rfl, rfl, rfl, trivial⟩ trivial rfl
    ·rw [if_neg hc3] at H
     cases H
   ·rw [if_neg hc2] at H
    refine AG.no rfl (decide_eq_false hc2) ?_
    refine AG.exit ?_
    refine AG.seq ?_
    refine AG.region HM ?_
    refine a_move (v := vI _) ?_
    refine a_move (v := vI _) ?_
    refine RA.nil nofun ?_
    refine AG.ret ?_
    obtain rfl := Option.some.inj H
    exact RetP.mk id ⟨rfl, trivial⟩ trivial rfl
/-! ### laws_szInt64S: function 27 -/
def laws_szInt64S.f (l0 : List Int) (a1 : Int) : Option (Int) := if (wrap64 (a1 - (l0.length : Int))) < 0 then (some (-1)) else (some (wrap64 (a1 - (l0.length : Int))))
set_option maxRecDepth 100000 in
theorem laws_szInt64S.ok {l0 : List Int} {a1 : Int} {r : Int} (H : laws_szInt64S.f l0 a1 = some r) : OkF Try.prog 27 [vR 2 (l0.map c2), vI a1] [] (.c (.d (.v (.int .i64 r)))) [] := by
 unfold laws_szInt64S.f at H
 refine OkF.of (N := 12) (rs := [4]) (avs := [.c (.d (.v (.int .i64 r)))]) Try.func27 rfl rfl (fun _ _ => results_tmp rfl _ _ _) (by decide) rfl rfl rfl rfl (fun w0 S => ?_)
 refine AG.seq ?_
 refine AG.region HM ?_
 refine a_move (v := vI _) ?_
 refine RA.nil nofun ?_
 refine AG.seq ?_
 refine AG.region HM ?_
 refine a_move (v := vI _) ?_
 refine a_move (v := vR _ _) ?_
 refine a_lenR ?_ Try.underlying23
 refine a_int (u := .int .i64 (wrap64 (a1 - (l0.length : Int)))) ?_
 refine a_move (v := vI _) ?_
 refine RA.nil nofun ?_
 refine AG.seq ?_
 refine AG.seq ?_
 refine AG.region HM ?_
 refine a_move (v := vI _) ?_
 refine a_int (u := .bool (decide ((wrap64 (a1 - (l0.length : Int))) < 0))) ?_
 refine RA.nil nofun ?_
 by_cases hc1 : (wrap64 (a1 - (l0.length : Int))) < 0
 ·rw [if_pos hc1] at H
  refine AG.yes rfl (decide_eq_true hc1) ?_
  refine AG.seq ?_
  refine AG.region HM ?_
  refine a_move (v := vI _) ?_
  refine RA.nil nofun ?_
  refine AG.ret ?_
  obtain rfl := Option.some.inj H
  exact RetP.mk id ⟨rfl, trivial⟩ trivial rfl
 ·rw [if_neg hc1] at H
  refine AG.no rfl (decide_eq_false hc1) ?_
  refine AG.skip ?_
  refine AG.seq ?_
  refine AG.region HM ?_
  refine a_move (v := vI _) ?_
  refine a_move (v := vI _) ?_
  refine RA.nil nofun ?_
  refine AG.ret ?_
  obtain rfl := Option.some.inj H
  exact RetP.mk id ⟨rfl, trivial⟩ trivial rfl
/-! ### laws_szPacket: function 6 -/
def laws_szPacket.f (k : Nat) (l0_0 : List S86) (l0_1 : List Int) (a1 : Int) : Option (Int) := (laws_szVeneerS.f k l0_0 a1).bind fun t1 => (if t1 < 0 then (some (-1)) else ((laws_szInt64S.f l0_1 t1).bind fun t4 => (if t4 < 0 then (some (-1)) else (some t4))))
set_option maxRecDepth 100000 in
theorem laws_szPacket.ok {k : Nat} {l0_0 : List S86} {l0_1 : List Int} {a1 : Int} {r : Int} (H : laws_szPacket.f k l0_0 l0_1 a1 = some r) : OkF Try.prog 6 [.agg [.d (.row 87 (l0_0.map c86)), .d (.row 2 (l0_1.map c2))], vI a1] [] (.c (.d (.v (.int .i64 r)))) [] := by
 unfold laws_szPacket.f at H
 refine OkF.of (N := 18) (rs := [4]) (avs := [.c (.d (.v (.int .i64 r)))]) Try.func6 rfl rfl (fun _ _ => results_tmp rfl _ _ _) (by decide) rfl rfl rfl rfl (fun w0 S => ?_)
 refine AG.seq ?_
 refine AG.region HM ?_
 refine a_box 200 ?_
 refine a_move (v := vI _) ?_
 refine RA.nil nofun ?_
 refine AG.seq ?_
 refine AG.region HM ?_
 refine a_faB (q := 0) ?_ D25_0
 refine a_ldB (v := vR _ _) ?_ T22
 refine a_move (v := vI _) ?_
 obtain ⟨t1, e2, H⟩ := bindO H
 refine a_call (v := vI t1) (nk := []) (L := []) ?_ rfl (laws_szVeneerS.ok e2) id (qd (qd qn)) trivial trivial trivial rfl
 refine a_move (v := vI _) ?_
 refine RA.nil nofun ?_
 refine AG.seq ?_
 refine AG.seq ?_
 refine AG.region HM ?_
 refine a_move (v := vI _) ?_
 refine a_int (u := .bool (decide (t1 < 0))) ?_
 refine RA.nil nofun ?_
 by_cases hc3 : t1 < 0
 ·rw [if_pos hc3] at H
  refine AG.yes rfl (decide_eq_true hc3) ?_
  refine AG.seq ?_
  refine AG.region HM ?_
  refine a_move (v := vI _) ?_
  refine RA.nil nofun ?_
  refine AG.ret ?_
  obtain rfl := Option.some.inj H
  exact RetP.mk id ⟨rfl, trivial⟩ trivial rfl
 ·rw [if_neg hc3] at H
  refine AG.no rfl (decide_eq_false hc3) ?_
  refine AG.skip ?_
  refine AG.seq ?_
  refine AG.region HM ?_
  refine a_faB (q := 1) ?_ D25_1
  refine a_ldB (v := vR _ _) ?_ T23
  refine a_move (v := vI _) ?_
  obtain ⟨t4, e5, H⟩ := bindO H
  refine a_call (v := vI t4) (nk := []) (L := []) ?_ rfl (laws_szInt64S.ok e5) id (qd (qd qn)) trivial trivial trivial rfl
  refine a_move (v := vI _) ?_
  refine RA.nil nofun ?_
  refine AG.seq ?_
  refine AG.seq ?_
  refine AG.region HM ?_
  refine a_move (v := vI _) ?_
  refine a_int (u := .bool (decide (t4 < 0))) ?_
  refine RA.nil nofun ?_
  by_cases hc6 : t4 < 0
  ·rw [if_pos hc6] at H
   refine AG.yes rfl (decide_eq_true hc6) ?_
   refine AG.seq ?_
   refine AG.region HM ?_
   refine a_move (v := vI _) ?_
   refine RA.nil nofun ?_
   refine AG.ret ?_
   obtain rfl := Option.some.inj H
   exact RetP.mk id ⟨rfl, trivial⟩ trivial rfl
  ·rw [if_neg hc6] at H
   refine AG.no rfl (decide_eq_false hc6) ?_
   refine AG.skip ?_
   refine AG.seq ?_
   refine AG.region HM ?_
   refine a_move (v := vI _) ?_
   refine a_move (v := vI _) ?_
   refine RA.nil nofun ?_
   refine AG.ret ?_
   obtain rfl := Option.some.inj H
   exact RetP.mk id ⟨rfl, trivial⟩ trivial rfl
/-! ### laws_toVeneer: function 54 -/
def laws_toVeneer.f (a0_0 : ByteArray) (a0_1 : Int) (a0_2 : Int) : Option (ByteArray × Int × Int) := some (a0_0, a0_1, a0_2)
set_option maxRecDepth 100000 in
theorem laws_toVeneer.ok {a0_0 : ByteArray} {a0_1 : Int} {a0_2 : Int} {r0 : ByteArray} {r1 : Int} {r2 : Int} (H : laws_toVeneer.f a0_0 a0_1 a0_2 = some (r0, r1, r2)) : OkF Try.prog 54 [.agg [.d (.v (.string a0_0)), .d (.v (.int .i64 a0_1)), .d (.v (.int .i64 a0_2))]] [] (.agg [.d (.v (.string r0)), .d (.v (.int .i64 r1)), .d (.v (.int .i64 r2))]) [] := by
 unfold laws_toVeneer.f at H
 refine OkF.ofB (N := 14) (t := 2) (ty := 90) (av := .agg [.d (.v (.string r0)), .d (.v (.int .i64 r1)), .d (.v (.int .i64 r2))]) Try.func54 rfl rfl rfl rfl (by decide) rfl rfl (fun w0 S => ?_)
 refine AG.seq ?_
 refine AG.region HM ?_
 refine a_box 200 ?_
 refine a_alloc (cs := [_, _, _]) 201 ?_ T90
 refine RA.nil nofun ?_
 refine AG.seq ?_
 refine AG.region HM ?_
 refine a_alloc (cs := [_, _, _]) 202 ?_ T90
 refine RA.nil nofun ?_
 refine AG.seq ?_
 refine AG.region HM ?_
 refine a_faB (q := 0) ?_ D87_0
 refine a_ldB (v := vS _) ?_ T9
 refine a_faB (q := 0) ?_ D90_0
 refine a_stB (cs' := [_, _, _]) ?_ T9
 refine RA.nil nofun ?_
 refine AG.seq ?_
 refine AG.region HM ?_
 refine a_faB (q := 1) ?_ D87_1
 refine a_ldB (v := vI _) ?_ T2
 refine a_faB (q := 1) ?_ D90_1
 refine a_stB (cs' := [_, _, _]) ?_ T2
 refine RA.nil nofun ?_
 refine AG.seq ?_
 refine AG.region HM ?_
 refine a_faB (q := 2) ?_ D87_2
 refine a_ldB (v := vI _) ?_ T2
 refine a_faB (q := 2) ?_ D90_2
 refine a_stB (cs' := [_, _, _]) ?_ T2
 refine RA.nil nofun ?_
 refine AG.seq ?_
 refine AG.region HM ?_
 refine a_ldB (v := .agg [_, _, _]) ?_ T90
 refine a_stB (cs' := [_, _, _]) ?_ T90
 refine RA.nil nofun ?_
 refine AG.ret ?_
 simp only [Option.some.injEq, Prod.mk.injEq] at H
 obtain ⟨rfl, rfl, rfl⟩ := H
 exact RetB.mk T90 rfl rfl rfl (RetP.mk id ⟨rfl, trivial⟩ trivial rfl)
/-! ### laws_toVeneerS: function 30 -/
def laws_toVeneerS.l0 : Nat → List S86 → List S86 → Int → Option ((List S86))
 | 0, _, _, _ => none
 | k + 1, x0, x3, x4 => if x4 < (x0.length : Int) then (if 0 ≤ x4 then ((laws_toVeneer.f ((rd86 x0 x4).f0) ((rd86 x0 x4).f1) ((rd86 x0 x4).f2)).bind fun bt6 => (if x4 < (x3.length : Int) then (laws_toVeneerS.l0 k x0 (x3.set (x4 : Int).toNat (⟨bt6.1, bt6.2.1, bt6.2.2⟩ : S86)) (wrap64 (x4 + 1))) else (none))) else (none)) else (some x3)
def laws_toVeneerS.f (k : Nat) (l0 : List S86) : Option ((List S86)) := if 0 ≤ (l0.length : Int) then (if ((l0.length : Int) : Int).toNat ≤ 8796093022208 then (laws_toVeneerS.l0 k l0 (List.replicate (((l0.length : Int) : Int).toNat) z86) 0) else (none)) else (none)
set_option maxRecDepth 100000 in
theorem laws_toVeneerS.ok {k : Nat} {l0 : List S86} {r : List S86} (H : laws_toVeneerS.f k l0 = some r) : OkF Try.prog 30 [vR 87 (l0.map c86)] [] (.c (.own 100 r.length)) [(100, .row 90 (r.map c86))] := by
 unfold laws_toVeneerS.f at H
 refine OkF.of (N := 23) (rs := [2]) (avs := [.c (.own 100 r.length)]) Try.func30 rfl rfl (fun _ _ => results_tmp rfl _ _ _) (by decide) rfl rfl rfl rfl (fun w0 S => ?_)
 refine AG.seq ?_
 refine AG.region HM ?_
 refine a_nilO (e := 90) 200 ?_ T90
 refine RA.nil nofun ?_
 refine AG.seq ?_
 refine AG.region HM ?_
 refine a_move (v := vR _ _) ?_
 refine a_lenR ?_ Try.underlying22
 by_cases hc1 : 0 ≤ (l0.length : Int)
 ·rw [if_pos hc1] at H
  by_cases hc2 : ((l0.length : Int) : Int).toNat ≤ 8796093022208
  ·rw [if_pos hc2] at H
   refine a_make (n := (l0.length : Int)) (css := (List.replicate (((l0.length : Int) : Int).toNat) z86).map c86) 201 ?_ N30 T90 (zV (zV (zV zN))) hc1 (by omega) (by omega) (hcss := by exact rep_map rfl)
   refine a_move (v := .c (.own _ _)) ?_
   refine RA.nil nofun ?_
   refine AG.seq ?_
   refine AG.seq ?_
   refine AG.region HM ?_
   refine a_move (v := vI _) ?_
   refine RA.nil nofun ?_
   refine AG.block ?_
   refine AG.loop ?_
   obtain ⟨K0, hK0, gK0⟩ : ∃ K, k ≤ K ∧ K ≤ k := ⟨k, Nat.le_refl k, Nat.le_refl k⟩
   refine AGr.canon (fun κ => cond (Nat.beq κ 202) 201 (κ)) (AGr.loopI (n := k) (fun k s => k ≤ K0 ∧ ∃ (x0 : List S86) (x3 : List S86) (x4 : Int), laws_toVeneerS.l0 k x0 x3 x4 = some r ∧ s = St.of [(0, vR 87 (x0.map c86)), (3, .c (.own 202 x3.length)), (4, vI x4)] [(202, .row 90 (x3.map c86))]) ⟨hK0, _, _, _, H, rfl⟩ ?_ ?_) ⟨rfl, (ownE rfl (by simp)), rfl, trivial⟩ ⟨rfl, trivial⟩ rfl
   ·rintro _ ⟨_, _, _, _, H, _⟩
    cases H
   ·clear H hK0
    rintro k ih0 _ ⟨hK0, x0, x3, x4, H, rfl⟩
    unfold laws_toVeneerS.l0 at H
    refine AG.seq ?_
    refine AG.seq ?_
    refine AG.region HM ?_
    refine a_move (v := vI _) ?_
    refine a_move (v := vR _ _) ?_
    refine a_lenR ?_ Try.underlying22
    refine a_int (u := .bool (decide (x4 < (x0.length : Int)))) ?_
    refine RA.nil nofun ?_
    by_cases hc4 : x4 < (x0.length : Int)
    ·rw [if_pos hc4] at H
     refine AG.yes rfl (decide_eq_true hc4) ?_
     refine AG.skip ?_
     refine AG.seq ?_
     refine AG.block ?_
     refine AG.region HM ?_
     refine a_move (v := .c (.own _ _)) ?_
     refine a_move (v := vI _) ?_
     refine a_move (v := vR _ _) ?_
     refine a_move (v := vI _) ?_
     by_cases hc5 : 0 ≤ x4
     ·rw [if_pos hc5] at H
      refine a_ixR (el := c86 (rd86 x0 x4)) ?_ ⟨hc5, hc4⟩ T87 Try.underlying22 (hel := R86 hc5 hc4)
      refine a_ldR (v := .agg [_, _, _]) ?_ T87
      obtain ⟨⟨t6, t7, t8⟩, e9, H⟩ := bindO H
      refine a_call (v := .agg [.d (.v (.string t6)), .d (.v (.int .i64 t7)), .d (.v (.int .i64 t8))]) (nk := []) (L := []) ?_ rfl (laws_toVeneer.ok e9) id (qg qn) trivial trivial trivial rfl
      by_cases hc10 : x4 < (x3.length : Int)
      ·rw [if_pos hc10] at H
       refine a_ixO ?_ ⟨hc5, hc10⟩ T90 Try.underlying30
       refine a_stF (css' := (x3.set (x4 : Int).toNat (⟨t6, t7, t8⟩ : S86)).map c86) ?_ (flat_map (fun _ => rfl)) (G86 hc5 hc10) T90 (hcss := by exact set_map rfl)
       refine RA.nil nofun ?_
       refine AG.region HM ?_
       refine a_move (v := vI _) ?_
       refine a_int (u := .int .i64 (wrap64 (x4 + 1))) ?_
       refine a_move (v := vI _) ?_
       refine RA.nil nofun ?_
       exact AGr.canon id (ih0 _ (by omega) _ ⟨by omega, _, _, _, H, rfl⟩) ⟨rfl, (ownE rfl (by simp)), rfl, trivial⟩ ⟨rfl, trivial⟩ rfl
      ·rw [if_neg hc10] at H
       cases H
     ·rw [if_neg hc5] at H
      cases H
    ·rw [if_neg hc4] at H
     refine AG.no rfl (decide_eq_false hc4) ?_
     refine AG.exit ?_
     refine AG.seq ?_
     refine AG.region HM ?_
     refine a_move (v := .c (.own _ _)) ?_
     refine a_move (v := .c (.own _ _)) ?_
     refine RA.nil nofun ?_
     refine AG.ret ?_
     obtain rfl := Option.some.inj H
     exact RetP.mk (fun κ => cond (Nat.beq κ 100) 202 (κ)) ⟨rfl, trivial⟩ ⟨rfl, trivial⟩ rfl
  ·rw [if_neg hc2] at H
   cases H
 ·rw [if_neg hc1] at H
  cases H
/-! ### laws_toInt64S: function 31 -/
def laws_toInt64S.l0 : Nat → List Int → List Int → Int → Option ((List Int))
 | 0, _, _, _ => none
 | k + 1, x0, x3, x4 => if x4 < (x0.length : Int) then (if 0 ≤ x4 then (if x4 < (x3.length : Int) then (laws_toInt64S.l0 k x0 (x3.set (x4 : Int).toNat (rd2 x0 x4)) (wrap64 (x4 + 1))) else (none)) else (none)) else (some x3)
def laws_toInt64S.f (k : Nat) (l0 : List Int) : Option ((List Int)) := if 0 ≤ (l0.length : Int) then (if ((l0.length : Int) : Int).toNat ≤ 35184372088832 then (laws_toInt64S.l0 k l0 (List.replicate (((l0.length : Int) : Int).toNat) 0) 0) else (none)) else (none)
set_option maxRecDepth 100000 in
theorem laws_toInt64S.ok {k : Nat} {l0 : List Int} {r : List Int} (H : laws_toInt64S.f k l0 = some r) : OkF Try.prog 31 [vR 2 (l0.map c2)] [] (.c (.own 100 r.length)) [(100, .row 2 (r.map c2))] := by
 unfold laws_toInt64S.f at H
 refine OkF.of (N := 22) (rs := [2]) (avs := [.c (.own 100 r.length)]) Try.func31 rfl rfl (fun _ _ => results_tmp rfl _ _ _) (by decide) rfl rfl rfl rfl (fun w0 S => ?_)
 refine AG.seq ?_
 refine AG.region HM ?_
 refine a_nilO (e := 2) 200 ?_ T2
 refine RA.nil nofun ?_
 refine AG.seq ?_
 refine AG.region HM ?_
 refine a_move (v := vR _ _) ?_
 refine a_lenR ?_ Try.underlying23
 by_cases hc1 : 0 ≤ (l0.length : Int)
 ·rw [if_pos hc1] at H
  by_cases hc2 : ((l0.length : Int) : Int).toNat ≤ 35184372088832
  ·rw [if_pos hc2] at H
   refine a_make (n := (l0.length : Int)) (css := (List.replicate (((l0.length : Int) : Int).toNat) 0).map c2) 201 ?_ N23 T2 (zV zN) hc1 (by omega) (by omega) (hcss := by exact rep_map rfl)
   refine a_move (v := .c (.own _ _)) ?_
   refine RA.nil nofun ?_
   refine AG.seq ?_
   refine AG.seq ?_
   refine AG.region HM ?_
   refine a_move (v := vI _) ?_
   refine RA.nil nofun ?_
   refine AG.block ?_
   refine AG.loop ?_
   obtain ⟨K0, hK0, gK0⟩ : ∃ K, k ≤ K ∧ K ≤ k := ⟨k, Nat.le_refl k, Nat.le_refl k⟩
   refine AGr.canon (fun κ => cond (Nat.beq κ 202) 201 (κ)) (AGr.loopI (n := k) (fun k s => k ≤ K0 ∧ ∃ (x0 : List Int) (x3 : List Int) (x4 : Int), laws_toInt64S.l0 k x0 x3 x4 = some r ∧ s = St.of [(0, vR 2 (x0.map c2)), (3, .c (.own 202 x3.length)), (4, vI x4)] [(202, .row 2 (x3.map c2))]) ⟨hK0, _, _, _, H, rfl⟩ ?_ ?_) ⟨rfl, (ownE rfl (by simp)), rfl, trivial⟩ ⟨rfl, trivial⟩ rfl
   ·rintro _ ⟨_, _, _, _, H, _⟩
    cases H
   ·clear H hK0
    rintro k ih0 _ ⟨hK0, x0, x3, x4, H, rfl⟩
    unfold laws_toInt64S.l0 at H
    refine AG.seq ?_
    refine AG.seq ?_
    refine AG.region HM ?_
    refine a_move (v := vI _) ?_
    refine a_move (v := vR _ _) ?_
    refine a_lenR ?_ Try.underlying23
    refine a_int (u := .bool (decide (x4 < (x0.length : Int)))) ?_
    refine RA.nil nofun ?_
    by_cases hc4 : x4 < (x0.length : Int)
    ·rw [if_pos hc4] at H
     refine AG.yes rfl (decide_eq_true hc4) ?_
     refine AG.skip ?_
     refine AG.seq ?_
     refine AG.block ?_
     refine AG.region HM ?_
     refine a_move (v := .c (.own _ _)) ?_
     refine a_move (v := vI _) ?_
     refine a_move (v := vR _ _) ?_
     refine a_move (v := vI _) ?_
     by_cases hc5 : 0 ≤ x4
     ·rw [if_pos hc5] at H
      refine a_ixR (el := c2 (rd2 x0 x4)) ?_ ⟨hc5, hc4⟩ T2 Try.underlying23 (hel := R2 hc5 hc4)
      refine a_ldR (v := vI _) ?_ T2
      by_cases hc6 : x4 < (x3.length : Int)
      ·rw [if_pos hc6] at H
       refine a_ixO ?_ ⟨hc5, hc6⟩ T2 Try.underlying23
       refine a_stF (css' := (x3.set (x4 : Int).toNat (rd2 x0 x4)).map c2) ?_ (flat_map (fun _ => rfl)) (G2 hc5 hc6) T2 (hcss := by exact set_map rfl)
       refine RA.nil nofun ?_
       refine AG.region HM ?_
       refine a_move (v := vI _) ?_
       refine a_int (u := .int .i64 (wrap64 (x4 + 1))) ?_
       refine a_move (v := vI _) ?_
       refine RA.nil nofun ?_
       exact AGr.canon id (ih0 _ (by omega) _ ⟨by omega, _, _, _, H, rfl⟩) ⟨rfl, (ownE rfl (by simp)), rfl, trivial⟩ ⟨rfl, trivial⟩ rfl
      ·rw [if_neg hc6] at H
       cases H
     ·rw [if_neg hc5] at H
      cases H
    ·rw [if_neg hc4] at H
     refine AG.no rfl (decide_eq_false hc4) ?_
     refine AG.exit ?_
     refine AG.seq ?_
     refine AG.region HM ?_
     refine a_move (v := .c (.own _ _)) ?_
     refine a_move (v := .c (.own _ _)) ?_
     refine RA.nil nofun ?_
     refine AG.ret ?_
     obtain rfl := Option.some.inj H
     exact RetP.mk (fun κ => cond (Nat.beq κ 100) 202 (κ)) ⟨rfl, trivial⟩ ⟨rfl, trivial⟩ rfl
  ·rw [if_neg hc2] at H
   cases H
 ·rw [if_neg hc1] at H
  cases H
/-! ### laws_toPacket: function 8 -/
def laws_toPacket.f (k : Nat) (l0_0 : List S86) (l0_1 : List Int) : Option ((List S86) × (List Int)) := (laws_toVeneerS.f k l0_0).bind fun t1 => ((laws_toInt64S.f k l0_1).bind fun t3 => (some (t1, t3)))
set_option maxRecDepth 100000 in
theorem laws_toPacket.ok {k : Nat} {l0_0 : List S86} {l0_1 : List Int} {r0 : List S86} {r1 : List Int} (H : laws_toPacket.f k l0_0 l0_1 = some (r0, r1)) : OkF Try.prog 8 [.agg [.d (.row 87 (l0_0.map c86)), .d (.row 2 (l0_1.map c2))]] [] (.agg [.own 100 r0.length, .own 101 r1.length]) [(100, .row 90 (r0.map c86)), (101, .row 2 (r1.map c2))] := by
 unfold laws_toPacket.f at H
 refine OkF.ofB (N := 13) (t := 2) (ty := 32) (av := .agg [.own 100 r0.length, .own 101 r1.length]) Try.func8 rfl rfl rfl rfl (by decide) rfl rfl (fun w0 S => ?_)
 refine AG.seq ?_
 refine AG.region HM ?_
 refine a_box 200 ?_
 refine a_alloc (cs := [_, _]) 201 ?_ T32
 refine RA.nil nofun ?_
 refine AG.seq ?_
 refine AG.region HM ?_
 refine a_alloc (cs := [_, _]) 202 ?_ T32
 refine RA.nil nofun ?_
 refine AG.seq ?_
 refine AG.region HM ?_
 refine a_faB (q := 0) ?_ D25_0
 refine a_ldB (v := vR _ _) ?_ T22
 obtain ⟨t1, e2, H⟩ := bindO H
 refine a_call (v := .c (.own 203 t1.length)) (nk := [(203, .row 90 (t1.map c86))]) (L := []) ?_ rfl (laws_toVeneerS.ok e2) (fun κ => cond (Nat.beq κ 203) 100 (κ)) (qd qn) trivial ⟨rfl, trivial⟩ ⟨rfl, trivial⟩ rfl
 refine a_faB (q := 0) ?_ D32_0
 refine a_stB (cs' := [_, _]) ?_ T30
 refine RA.nil nofun ?_
 refine AG.seq ?_
 refine AG.region HM ?_
 refine a_faB (q := 1) ?_ D25_1
 refine a_ldB (v := vR _ _) ?_ T23
 obtain ⟨t3, e4, H⟩ := bindO H
 refine a_call (v := .c (.own 204 t3.length)) (nk := [(204, .row 2 (t3.map c2))]) (L := []) ?_ rfl (laws_toInt64S.ok e4) (fun κ => cond (Nat.beq κ 204) 100 (κ)) (qd qn) trivial ⟨rfl, trivial⟩ ⟨rfl, trivial⟩ rfl
 refine a_faB (q := 1) ?_ D32_1
 refine a_stB (cs' := [_, _]) ?_ T23
 refine RA.nil nofun ?_
 refine AG.seq ?_
 refine AG.region HM ?_
 refine a_ldB (v := .agg [_, _]) ?_ T32
 refine a_stB (cs' := [_, _]) ?_ T32
 refine RA.nil nofun ?_
 refine AG.ret ?_
 simp only [Option.some.injEq, Prod.mk.injEq] at H
 obtain ⟨rfl, rfl⟩ := H
 exact RetB.mk T32 rfl rfl rfl (RetP.mk (fun κ => cond (Nat.beq κ 100) 203 (cond (Nat.beq κ 101) 204 (κ))) ⟨rfl, trivial⟩ ⟨rfl, rfl, trivial⟩ rfl)
/-! ### laws_eqInt64S: function 19 -/
def laws_eqInt64S.l0 : Nat → List Int → List Int → Int → Option (Bool)
 | 0, _, _, _ => none
 | k + 1, x0, x1, x5 => if x5 < (x0.length : Int) then (if 0 ≤ x5 then (if x5 < (x1.length : Int) then (if (rd2 x0 x5) = (rd2 x1 x5) then (laws_eqInt64S.l0 k x0 x1 (wrap64 (x5 + 1))) else (some false)) else (none)) else (none)) else (some true)
def laws_eqInt64S.f (k : Nat) (l0 : List Int) (l1 : List Int) : Option (Bool) := if (l0.length : Int) = (l1.length : Int) then (laws_eqInt64S.l0 k l0 l1 0) else (some false)
set_option maxRecDepth 100000 in
theorem laws_eqInt64S.ok {k : Nat} {l0 : List Int} {l1 : List Int} {r : Bool} (H : laws_eqInt64S.f k l0 l1 = some r) : OkF Try.prog 19 [vR 2 (l0.map c2), vR 2 (l1.map c2)] [] (.c (.d (.v (.bool r)))) [] := by
 unfold laws_eqInt64S.f at H
 refine OkF.of (N := 26) (rs := [4]) (avs := [.c (.d (.v (.bool r)))]) Try.func19 rfl rfl (fun _ _ => results_tmp rfl _ _ _) (by decide) rfl rfl rfl rfl (fun w0 S => ?_)
 refine AG.seq ?_
 refine AG.region HM ?_
 refine a_move (v := vB _) ?_
 refine RA.nil nofun ?_
 refine AG.seq ?_
 refine AG.seq ?_
 refine AG.region HM ?_
 refine a_move (v := vR _ _) ?_
 refine a_lenR ?_ Try.underlying23
 refine a_move (v := vR _ _) ?_
 refine a_lenR ?_ Try.underlying23
 refine a_int (u := .bool (((l0.length : Int) != (l1.length : Int)))) ?_
 refine RA.nil nofun ?_
 by_cases hc1 : (l0.length : Int) = (l1.length : Int)
 ·rw [if_pos hc1] at H
  refine AG.no rfl (bne_eq_false_iff_eq.2 hc1) ?_
  refine AG.skip ?_
  refine AG.seq ?_
  refine AG.seq ?_
  refine AG.region HM ?_
  refine a_move (v := vI _) ?_
  refine RA.nil nofun ?_
  refine AG.block ?_
  refine AG.loop ?_
  obtain ⟨K0, hK0, gK0⟩ : ∃ K, k ≤ K ∧ K ≤ k := ⟨k, Nat.le_refl k, Nat.le_refl k⟩
  refine AGr.canon id (AGr.loopI (n := k) (fun k s => k ≤ K0 ∧ ∃ (x0 : List Int) (x1 : List Int) (x5 : Int), laws_eqInt64S.l0 k x0 x1 x5 = some r ∧ s = St.of [(0, vR 2 (x0.map c2)), (1, vR 2 (x1.map c2)), (5, vI x5)] []) ⟨hK0, _, _, _, H, rfl⟩ ?_ ?_) ⟨rfl, rfl, rfl, trivial⟩ trivial rfl
  ·rintro _ ⟨_, _, _, _, H, _⟩
   cases H
  ·clear H hK0
   rintro k ih0 _ ⟨hK0, x0, x1, x5, H, rfl⟩
   unfold laws_eqInt64S.l0 at H
   refine AG.seq ?_
   refine AG.seq ?_
   refine AG.region HM ?_
   refine a_move (v := vI _) ?_
   refine a_move (v := vR _ _) ?_
   refine a_lenR ?_ Try.underlying23
   refine a_int (u := .bool (decide (x5 < (x0.length : Int)))) ?_
   refine RA.nil nofun ?_
   by_cases hc2 : x5 < (x0.length : Int)
   ·rw [if_pos hc2] at H
    refine AG.yes rfl (decide_eq_true hc2) ?_
    refine AG.skip ?_
    refine AG.seq ?_
    refine AG.block ?_
    refine AG.seq ?_
    refine AG.region HM ?_
    refine a_move (v := vR _ _) ?_
    refine a_move (v := vI _) ?_
    by_cases hc3 : 0 ≤ x5
    ·rw [if_pos hc3] at H
     refine a_ixR (el := c2 (rd2 x0 x5)) ?_ ⟨hc3, hc2⟩ T2 Try.underlying23 (hel := R2 hc3 hc2)
     refine a_ldR (v := vI _) ?_ T2
     refine a_move (v := vR _ _) ?_
     refine a_move (v := vI _) ?_
     by_cases hc4 : x5 < (x1.length : Int)
     ·rw [if_pos hc4] at H
      refine a_ixR (el := c2 (rd2 x1 x5)) ?_ ⟨hc3, hc4⟩ T2 Try.underlying23 (hel := R2 hc3 hc4)
      refine a_ldR (v := vI _) ?_ T2
      refine a_int (u := .bool (((rd2 x0 x5) != (rd2 x1 x5)))) ?_
      refine RA.nil (fun _ => by kernel_rfl) ?_
      by_cases hc5 : (rd2 x0 x5) = (rd2 x1 x5)
      ·rw [if_pos hc5] at H
       refine AG.no rfl (bne_eq_false_iff_eq.2 hc5) ?_
       refine AG.skip ?_
       refine AG.region HM ?_
       refine a_move (v := vI _) ?_
       refine a_int (u := .int .i64 (wrap64 (x5 + 1))) ?_
       refine a_move (v := vI _) ?_
       refine RA.nil nofun ?_
       exact AGr.canon id (ih0 _ (by omega) _ ⟨by omega, _, _, _, H, rfl⟩) ⟨rfl, rfl, rfl, trivial⟩ trivial rfl
      ·rw [if_neg hc5] at H
       refine AG.yes rfl (bne_iff_ne.2 hc5) ?_
       refine AG.seq ?_
       refine AG.region HM ?_
       refine a_move (v := vB _) ?_
       refine RA.nil nofun ?_
       refine AG.ret ?_
       obtain rfl := Option.some.inj H
       exact RetP.mk id ⟨rfl, trivial⟩ trivial rfl
     ·rw [if_neg hc4] at H
      cases H
    ·rw [if_neg hc3] at H
     cases H
   ·rw [if_neg hc2] at H
    refine AG.no rfl (decide_eq_false hc2) ?_
    refine AG.exit ?_
    refine AG.seq ?_
    refine AG.region HM ?_
    refine a_move (v := vB _) ?_
    refine RA.nil nofun ?_
    refine AG.ret ?_
    obtain rfl := Option.some.inj H
    exact RetP.mk id ⟨rfl, trivial⟩ trivial rfl
 ·rw [if_neg hc1] at H
  refine AG.yes rfl (bne_iff_ne.2 hc1) ?_
  refine AG.seq ?_
  refine AG.region HM ?_
  refine a_move (v := vB _) ?_
  refine RA.nil nofun ?_
  refine AG.ret ?_
  obtain rfl := Option.some.inj H
  exact RetP.mk id ⟨rfl, trivial⟩ trivial rfl
/-! ### laws_eqVeneer: function 59 -/
def laws_eqVeneer.f (a0_0 : ByteArray) (a0_1 : Int) (a0_2 : Int) (a1_0 : ByteArray) (a1_1 : Int) (a1_2 : Int) : Option (Bool) := if a0_0.toList = a1_0.toList then (if a0_1 = a1_1 then (if a0_2 = a1_2 then (some true) else (some false)) else (some false)) else (some false)
set_option maxRecDepth 100000 in
theorem laws_eqVeneer.ok {a0_0 : ByteArray} {a0_1 : Int} {a0_2 : Int} {a1_0 : ByteArray} {a1_1 : Int} {a1_2 : Int} {r : Bool} (H : laws_eqVeneer.f a0_0 a0_1 a0_2 a1_0 a1_1 a1_2 = some r) : OkF Try.prog 59 [.agg [.d (.v (.string a0_0)), .d (.v (.int .i64 a0_1)), .d (.v (.int .i64 a0_2))], .agg [.d (.v (.string a1_0)), .d (.v (.int .i64 a1_1)), .d (.v (.int .i64 a1_2))]] [] (.c (.d (.v (.bool r)))) [] := by
 unfold laws_eqVeneer.f at H
 refine OkF.of (N := 20) (rs := [4]) (avs := [.c (.d (.v (.bool r)))]) Try.func59 rfl rfl (fun _ _ => results_tmp rfl _ _ _) (by decide) rfl rfl rfl rfl (fun w0 S => ?_)
 refine AG.seq ?_
 refine AG.region HM ?_
 refine a_box 200 ?_
 refine a_box 201 ?_
 refine a_move (v := vB _) ?_
 refine RA.nil nofun ?_
 refine AG.seq ?_
 refine AG.seq ?_
 refine AG.region HM ?_
 refine a_faB (q := 0) ?_ D90_0
 refine a_ldB (v := vS _) ?_ T9
 refine a_faB (q := 0) ?_ D90_0
 refine a_ldB (v := vS _) ?_ T9
 refine a_bin (u := .bool (!(a0_0.toList == a1_0.toList))) ?_
 refine RA.nil nofun ?_
 by_cases hc1 : a0_0.toList = a1_0.toList
 ·rw [if_pos hc1] at H
  refine AG.no rfl (by rw [beq_iff_eq.2 hc1]; rfl) ?_
  refine AG.skip ?_
  refine AG.seq ?_
  refine AG.seq ?_
  refine AG.region HM ?_
  refine a_faB (q := 1) ?_ D90_1
  refine a_ldB (v := vI _) ?_ T2
  refine a_faB (q := 1) ?_ D90_1
  refine a_ldB (v := vI _) ?_ T2
  refine a_int (u := .bool ((a0_1 != a1_1))) ?_
  refine RA.nil nofun ?_
  by_cases hc2 : a0_1 = a1_1
  ·rw [if_pos hc2] at H
   refine AG.no rfl (bne_eq_false_iff_eq.2 hc2) ?_
   refine AG.skip ?_
   refine AG.seq ?_
   refine AG.seq ?_
   refine AG.region HM ?_
   refine a_faB (q := 2) ?_ D90_2
   refine a_ldB (v := vI _) ?_ T2
   refine a_faB (q := 2) ?_ D90_2
   refine a_ldB (v := vI _) ?_ T2
   refine a_int (u := .bool ((a0_2 != a1_2))) ?_
   refine RA.nil nofun ?_
   by_cases hc3 : a0_2 = a1_2
   ·rw [if_pos hc3] at H
    refine AG.no rfl (bne_eq_false_iff_eq.2 hc3) ?_
    refine AG.skip ?_
    refine AG.seq ?_
    refine AG.region HM ?_
    refine a_move (v := vB _) ?_
    refine RA.nil nofun ?_
    refine AG.ret ?_
    obtain rfl := Option.some.inj H
    exact RetP.mk id ⟨rfl, trivial⟩ trivial rfl
   ·rw [if_neg hc3] at H
    refine AG.yes rfl (bne_iff_ne.2 hc3) ?_
    refine AG.seq ?_
    refine AG.region HM ?_
    refine a_move (v := vB _) ?_
    refine RA.nil nofun ?_
    refine AG.ret ?_
    obtain rfl := Option.some.inj H
    exact RetP.mk id ⟨rfl, trivial⟩ trivial rfl
  ·rw [if_neg hc2] at H
   refine AG.yes rfl (bne_iff_ne.2 hc2) ?_
   refine AG.seq ?_
   refine AG.region HM ?_
   refine a_move (v := vB _) ?_
   refine RA.nil nofun ?_
   refine AG.ret ?_
   obtain rfl := Option.some.inj H
   exact RetP.mk id ⟨rfl, trivial⟩ trivial rfl
 ·rw [if_neg hc1] at H
  refine AG.yes rfl (by rw [beq_eq_false_iff_ne.2 hc1]; rfl) ?_
  refine AG.seq ?_
  refine AG.region HM ?_
  refine a_move (v := vB _) ?_
  refine RA.nil nofun ?_
  refine AG.ret ?_
  obtain rfl := Option.some.inj H
  exact RetP.mk id ⟨rfl, trivial⟩ trivial rfl
/-! ### laws_eqVeneerS: function 33 -/
def laws_eqVeneerS.l0 : Nat → List S86 → List S86 → Int → Option (Bool)
 | 0, _, _, _ => none
 | k + 1, x0, x1, x5 => if x5 < (x0.length : Int) then (if 0 ≤ x5 then (if x5 < (x1.length : Int) then ((laws_eqVeneer.f ((rd86 x0 x5).f0) ((rd86 x0 x5).f1) ((rd86 x0 x5).f2) ((rd86 x1 x5).f0) ((rd86 x1 x5).f1) ((rd86 x1 x5).f2)).bind fun t5 => (if t5 = true then (laws_eqVeneerS.l0 k x0 x1 (wrap64 (x5 + 1))) else (some false))) else (none)) else (none)) else (some true)
def laws_eqVeneerS.f (k : Nat) (l0 : List S86) (l1 : List S86) : Option (Bool) := if (l0.length : Int) = (l1.length : Int) then (laws_eqVeneerS.l0 k l0 l1 0) else (some false)
set_option maxRecDepth 100000 in
theorem laws_eqVeneerS.ok {k : Nat} {l0 : List S86} {l1 : List S86} {r : Bool} (H : laws_eqVeneerS.f k l0 l1 = some r) : OkF Try.prog 33 [vR 90 (l0.map c86), vR 90 (l1.map c86)] [] (.c (.d (.v (.bool r)))) [] := by
 unfold laws_eqVeneerS.f at H
 refine OkF.of (N := 27) (rs := [4]) (avs := [.c (.d (.v (.bool r)))]) Try.func33 rfl rfl (fun _ _ => results_tmp rfl _ _ _) (by decide) rfl rfl rfl rfl (fun w0 S => ?_)
 refine AG.seq ?_
 refine AG.region HM ?_
 refine a_move (v := vB _) ?_
 refine RA.nil nofun ?_
 refine AG.seq ?_
 refine AG.seq ?_
 refine AG.region HM ?_
 refine a_move (v := vR _ _) ?_
 refine a_lenR ?_ Try.underlying30
 refine a_move (v := vR _ _) ?_
 refine a_lenR ?_ Try.underlying30
 refine a_int (u := .bool (((l0.length : Int) != (l1.length : Int)))) ?_
 refine RA.nil nofun ?_
 by_cases hc1 : (l0.length : Int) = (l1.length : Int)
 ·rw [if_pos hc1] at H
  refine AG.no rfl (bne_eq_false_iff_eq.2 hc1) ?_
  refine AG.skip ?_
  refine AG.seq ?_
  refine AG.seq ?_
  refine AG.region HM ?_
  refine a_move (v := vI _) ?_
  refine RA.nil nofun ?_
  refine AG.block ?_
  refine AG.loop ?_
  obtain ⟨K0, hK0, gK0⟩ : ∃ K, k ≤ K ∧ K ≤ k := ⟨k, Nat.le_refl k, Nat.le_refl k⟩
  refine AGr.canon id (AGr.loopI (n := k) (fun k s => k ≤ K0 ∧ ∃ (x0 : List S86) (x1 : List S86) (x5 : Int), laws_eqVeneerS.l0 k x0 x1 x5 = some r ∧ s = St.of [(0, vR 90 (x0.map c86)), (1, vR 90 (x1.map c86)), (5, vI x5)] []) ⟨hK0, _, _, _, H, rfl⟩ ?_ ?_) ⟨rfl, rfl, rfl, trivial⟩ trivial rfl
  ·rintro _ ⟨_, _, _, _, H, _⟩
   cases H
  ·clear H hK0
   rintro k ih0 _ ⟨hK0, x0, x1, x5, H, rfl⟩
   unfold laws_eqVeneerS.l0 at H
   refine AG.seq ?_
   refine AG.seq ?_
   refine AG.region HM ?_
   refine a_move (v := vI _) ?_
   refine a_move (v := vR _ _) ?_
   refine a_lenR ?_ Try.underlying30
   refine a_int (u := .bool (decide (x5 < (x0.length : Int)))) ?_
   refine RA.nil nofun ?_
   by_cases hc2 : x5 < (x0.length : Int)
   ·rw [if_pos hc2] at H
    refine AG.yes rfl (decide_eq_true hc2) ?_
    refine AG.skip ?_
    refine AG.seq ?_
    refine AG.block ?_
    refine AG.seq ?_
    refine AG.region HM ?_
    refine a_move (v := vR _ _) ?_
    refine a_move (v := vI _) ?_
    by_cases hc3 : 0 ≤ x5
    ·rw [if_pos hc3] at H
     refine a_ixR (el := c86 (rd86 x0 x5)) ?_ ⟨hc3, hc2⟩ T90 Try.underlying30 (hel := R86 hc3 hc2)
     refine a_ldR (v := .agg [_, _, _]) ?_ T90
     refine a_move (v := vR _ _) ?_
     refine a_move (v := vI _) ?_
     by_cases hc4 : x5 < (x1.length : Int)
     ·rw [if_pos hc4] at H
      refine a_ixR (el := c86 (rd86 x1 x5)) ?_ ⟨hc3, hc4⟩ T90 Try.underlying30 (hel := R86 hc3 hc4)
      refine a_ldR (v := .agg [_, _, _]) ?_ T90
      obtain ⟨t5, e6, H⟩ := bindO H
      refine a_call (v := vB t5) (nk := []) (L := []) ?_ rfl (laws_eqVeneer.ok e6) id (qg (qg qn)) trivial trivial trivial rfl
      refine a_un (u := .bool (!t5)) ?_
      refine RA.nil (fun _ => by kernel_rfl) ?_
      by_cases hc7 : t5 = true
      ·rw [if_pos hc7] at H
       refine AG.no rfl (congrArg Bool.not hc7) ?_
       refine AG.skip ?_
       refine AG.region HM ?_
       refine a_move (v := vI _) ?_
       refine a_int (u := .int .i64 (wrap64 (x5 + 1))) ?_
       refine a_move (v := vI _) ?_
       refine RA.nil nofun ?_
       exact AGr.canon id (ih0 _ (by omega) _ ⟨by omega, _, _, _, H, rfl⟩) ⟨rfl, rfl, rfl, trivial⟩ trivial rfl
      ·rw [if_neg hc7] at H
       refine AG.yes rfl (congrArg Bool.not (Bool.eq_false_iff.2 hc7)) ?_
       refine AG.seq ?_
       refine AG.region HM ?_
       refine a_move (v := vB _) ?_
       refine RA.nil nofun ?_
       refine AG.ret ?_
       obtain rfl := Option.some.inj H
       exact RetP.mk id ⟨rfl, trivial⟩ trivial rfl
     ·rw [if_neg hc4] at H
      cases H
    ·rw [if_neg hc3] at H
     cases H
   ·rw [if_neg hc2] at H
    refine AG.no rfl (decide_eq_false hc2) ?_
    refine AG.exit ?_
    refine AG.seq ?_
    refine AG.region HM ?_
    refine a_move (v := vB _) ?_
    refine RA.nil nofun ?_
    refine AG.ret ?_
    obtain rfl := Option.some.inj H
    exact RetP.mk id ⟨rfl, trivial⟩ trivial rfl
 ·rw [if_neg hc1] at H
  refine AG.yes rfl (bne_iff_ne.2 hc1) ?_
  refine AG.seq ?_
  refine AG.region HM ?_
  refine a_move (v := vB _) ?_
  refine RA.nil nofun ?_
  refine AG.ret ?_
  obtain rfl := Option.some.inj H
  exact RetP.mk id ⟨rfl, trivial⟩ trivial rfl
/-! ### laws_eqPacket: function 11 -/
def laws_eqPacket.f (k : Nat) (l0_0 : List S86) (l0_1 : List Int) (l1_0 : List S86) (l1_1 : List Int) : Option (Bool) := (laws_eqVeneerS.f k l0_0 l1_0).bind fun t1 => (if t1 = true then ((laws_eqInt64S.f k l0_1 l1_1).bind fun t4 => (if t4 = true then (some true) else (some false))) else (some false))
set_option maxRecDepth 100000 in
theorem laws_eqPacket.ok {k : Nat} {l0_0 : List S86} {l0_1 : List Int} {l1_0 : List S86} {l1_1 : List Int} {r : Bool} (H : laws_eqPacket.f k l0_0 l0_1 l1_0 l1_1 = some r) : OkF Try.prog 11 [.agg [.d (.row 90 (l0_0.map c86)), .d (.row 2 (l0_1.map c2))], .agg [.d (.row 90 (l1_0.map c86)), .d (.row 2 (l1_1.map c2))]] [] (.c (.d (.v (.bool r)))) [] := by
 unfold laws_eqPacket.f at H
 refine OkF.of (N := 17) (rs := [4]) (avs := [.c (.d (.v (.bool r)))]) Try.func11 rfl rfl (fun _ _ => results_tmp rfl _ _ _) (by decide) rfl rfl rfl rfl (fun w0 S => ?_)
 refine AG.seq ?_
 refine AG.region HM ?_
 refine a_box 200 ?_
 refine a_box 201 ?_
 refine a_move (v := vB _) ?_
 refine RA.nil nofun ?_
 refine AG.seq ?_
 refine AG.seq ?_
 refine AG.region HM ?_
 refine a_faB (q := 0) ?_ D32_0
 refine a_ldB (v := vR _ _) ?_ T30
 refine a_faB (q := 0) ?_ D32_0
 refine a_ldB (v := vR _ _) ?_ T30
 obtain ⟨t1, e2, H⟩ := bindO H
 refine a_call (v := vB t1) (nk := []) (L := []) ?_ rfl (laws_eqVeneerS.ok e2) id (qd (qd qn)) trivial trivial trivial rfl
 refine a_un (u := .bool (!t1)) ?_
 refine RA.nil nofun ?_
 by_cases hc3 : t1 = true
 ·rw [if_pos hc3] at H
  refine AG.no rfl (congrArg Bool.not hc3) ?_
  refine AG.skip ?_
  refine AG.seq ?_
  refine AG.seq ?_
  refine AG.region HM ?_
  refine a_faB (q := 1) ?_ D32_1
  refine a_ldB (v := vR _ _) ?_ T23
  refine a_faB (q := 1) ?_ D32_1
  refine a_ldB (v := vR _ _) ?_ T23
  obtain ⟨t4, e5, H⟩ := bindO H
  refine a_call (v := vB t4) (nk := []) (L := []) ?_ rfl (laws_eqInt64S.ok e5) id (qd (qd qn)) trivial trivial trivial rfl
  refine a_un (u := .bool (!t4)) ?_
  refine RA.nil nofun ?_
  by_cases hc6 : t4 = true
  ·rw [if_pos hc6] at H
   refine AG.no rfl (congrArg Bool.not hc6) ?_
   refine AG.skip ?_
   refine AG.seq ?_
   refine AG.region HM ?_
   refine a_move (v := vB _) ?_
   refine RA.nil nofun ?_
   refine AG.ret ?_
   obtain rfl := Option.some.inj H
   exact RetP.mk id ⟨rfl, trivial⟩ trivial rfl
  ·rw [if_neg hc6] at H
   refine AG.yes rfl (congrArg Bool.not (Bool.eq_false_iff.2 hc6)) ?_
   refine AG.seq ?_
   refine AG.region HM ?_
   refine a_move (v := vB _) ?_
   refine RA.nil nofun ?_
   refine AG.ret ?_
   obtain rfl := Option.some.inj H
   exact RetP.mk id ⟨rfl, trivial⟩ trivial rfl
 ·rw [if_neg hc3] at H
  refine AG.yes rfl (congrArg Bool.not (Bool.eq_false_iff.2 hc3)) ?_
  refine AG.seq ?_
  refine AG.region HM ?_
  refine a_move (v := vB _) ?_
  refine RA.nil nofun ?_
  refine AG.ret ?_
  obtain rfl := Option.some.inj H
  exact RetP.mk id ⟨rfl, trivial⟩ trivial rfl
/-! ### laws_szPointS: function 35 -/
def laws_szPointS.f (l0 : List S107) (a1 : Int) : Option (Int) := if (wrap64 (a1 - (l0.length : Int))) < 0 then (some (-1)) else (some (wrap64 (a1 - (l0.length : Int))))
set_option maxRecDepth 100000 in
theorem laws_szPointS.ok {l0 : List S107} {a1 : Int} {r : Int} (H : laws_szPointS.f l0 a1 = some r) : OkF Try.prog 35 [vR 110 (l0.map c107), vI a1] [] (.c (.d (.v (.int .i64 r)))) [] := by
 unfold laws_szPointS.f at H
 refine OkF.of (N := 12) (rs := [4]) (avs := [.c (.d (.v (.int .i64 r)))]) Try.func35 rfl rfl (fun _ _ => results_tmp rfl _ _ _) (by decide) rfl rfl rfl rfl (fun w0 S => ?_)
 refine AG.seq ?_
 refine AG.region HM ?_
 refine a_move (v := vI _) ?_
 refine RA.nil nofun ?_
 refine AG.seq ?_
 refine AG.region HM ?_
 refine a_move (v := vI _) ?_
 refine a_move (v := vR _ _) ?_
 refine a_lenR ?_ Try.underlying39
 refine a_int (u := .int .i64 (wrap64 (a1 - (l0.length : Int)))) ?_
 refine a_move (v := vI _) ?_
 refine RA.nil nofun ?_
 refine AG.seq ?_
 refine AG.seq ?_
 refine AG.region HM ?_
 refine a_move (v := vI _) ?_
 refine a_int (u := .bool (decide ((wrap64 (a1 - (l0.length : Int))) < 0))) ?_
 refine RA.nil nofun ?_
 by_cases hc1 : (wrap64 (a1 - (l0.length : Int))) < 0
 ·rw [if_pos hc1] at H
  refine AG.yes rfl (decide_eq_true hc1) ?_
  refine AG.seq ?_
  refine AG.region HM ?_
  refine a_move (v := vI _) ?_
  refine RA.nil nofun ?_
  refine AG.ret ?_
  obtain rfl := Option.some.inj H
  exact RetP.mk id ⟨rfl, trivial⟩ trivial rfl
 ·rw [if_neg hc1] at H
  refine AG.no rfl (decide_eq_false hc1) ?_
  refine AG.skip ?_
  refine AG.seq ?_
  refine AG.region HM ?_
  refine a_move (v := vI _) ?_
  refine a_move (v := vI _) ?_
  refine RA.nil nofun ?_
  refine AG.ret ?_
  obtain rfl := Option.some.inj H
  exact RetP.mk id ⟨rfl, trivial⟩ trivial rfl
/-! ### laws_szFace: function 61 -/
def laws_szFace.f (a0_0 : ByteArray) (l0_1 : List Int) (a1 : Int) : Option (Int) := if (wrap64 (a1 - (a0_0.size : Int))) < 0 then (some (-1)) else ((laws_szInt64S.f l0_1 (wrap64 (a1 - (a0_0.size : Int)))).bind fun t2 => (if t2 < 0 then (some (-1)) else (some t2)))
set_option maxRecDepth 100000 in
theorem laws_szFace.ok {a0_0 : ByteArray} {l0_1 : List Int} {a1 : Int} {r : Int} (H : laws_szFace.f a0_0 l0_1 a1 = some r) : OkF Try.prog 61 [.agg [.d (.v (.string a0_0)), .d (.row 2 (l0_1.map c2))], vI a1] [] (.c (.d (.v (.int .i64 r)))) [] := by
 unfold laws_szFace.f at H
 refine OkF.of (N := 19) (rs := [4]) (avs := [.c (.d (.v (.int .i64 r)))]) Try.func61 rfl rfl (fun _ _ => results_tmp rfl _ _ _) (by decide) rfl rfl rfl rfl (fun w0 S => ?_)
 refine AG.seq ?_
 refine AG.region HM ?_
 refine a_box 200 ?_
 refine a_move (v := vI _) ?_
 refine RA.nil nofun ?_
 refine AG.seq ?_
 refine AG.region HM ?_
 refine a_move (v := vI _) ?_
 refine a_faB (q := 0) ?_ D99_0
 refine a_ldB (v := vS _) ?_ T9
 refine a_lenS ?_ Try.underlying9
 refine a_int (u := .int .i64 (wrap64 (a1 - (a0_0.size : Int)))) ?_
 refine a_move (v := vI _) ?_
 refine RA.nil nofun ?_
 refine AG.seq ?_
 refine AG.seq ?_
 refine AG.region HM ?_
 refine a_move (v := vI _) ?_
 refine a_int (u := .bool (decide ((wrap64 (a1 - (a0_0.size : Int))) < 0))) ?_
 refine RA.nil nofun ?_
 by_cases hc1 : (wrap64 (a1 - (a0_0.size : Int))) < 0
 ·rw [if_pos hc1] at H
  refine AG.yes rfl (decide_eq_true hc1) ?_
  refine AG.seq ?_
  refine AG.region HM ?_
  refine a_move (v := vI _) ?_
  refine RA.nil nofun ?_
  refine AG.ret ?_
  obtain rfl := Option.some.inj H
  exact RetP.mk id ⟨rfl, trivial⟩ trivial rfl
 ·rw [if_neg hc1] at H
  refine AG.no rfl (decide_eq_false hc1) ?_
  refine AG.skip ?_
  refine AG.seq ?_
  refine AG.region HM ?_
  refine a_faB (q := 1) ?_ D99_1
  refine a_ldB (v := vR _ _) ?_ T23
  refine a_move (v := vI _) ?_
  obtain ⟨t2, e3, H⟩ := bindO H
  refine a_call (v := vI t2) (nk := []) (L := []) ?_ rfl (laws_szInt64S.ok e3) id (qd (qd qn)) trivial trivial trivial rfl
  refine a_move (v := vI _) ?_
  refine RA.nil nofun ?_
  refine AG.seq ?_
  refine AG.seq ?_
  refine AG.region HM ?_
  refine a_move (v := vI _) ?_
  refine a_int (u := .bool (decide (t2 < 0))) ?_
  refine RA.nil nofun ?_
  by_cases hc4 : t2 < 0
  ·rw [if_pos hc4] at H
   refine AG.yes rfl (decide_eq_true hc4) ?_
   refine AG.seq ?_
   refine AG.region HM ?_
   refine a_move (v := vI _) ?_
   refine RA.nil nofun ?_
   refine AG.ret ?_
   obtain rfl := Option.some.inj H
   exact RetP.mk id ⟨rfl, trivial⟩ trivial rfl
  ·rw [if_neg hc4] at H
   refine AG.no rfl (decide_eq_false hc4) ?_
   refine AG.skip ?_
   refine AG.seq ?_
   refine AG.region HM ?_
   refine a_move (v := vI _) ?_
   refine a_move (v := vI _) ?_
   refine RA.nil nofun ?_
   refine AG.ret ?_
   obtain rfl := Option.some.inj H
   exact RetP.mk id ⟨rfl, trivial⟩ trivial rfl
/-! ### laws_szFaceS: function 36 -/
def laws_szFaceS.l0 : Nat → List S98 → Int → Int → Option (Int)
 | 0, _, _, _ => none
 | k + 1, x0, x1, x5 => if x5 < (x0.length : Int) then (if 0 ≤ x5 then ((laws_szFace.f ((rd98 x0 x5).f0) ((rd98 x0 x5).f1) x1).bind fun t4 => (if t4 < 0 then (some (-1)) else (laws_szFaceS.l0 k x0 t4 (wrap64 (x5 + 1))))) else (none)) else (some x1)
def laws_szFaceS.f (k : Nat) (l0 : List S98) (a1 : Int) : Option (Int) := if (wrap64 (a1 - (l0.length : Int))) < 0 then (some (-1)) else (laws_szFaceS.l0 k l0 (wrap64 (a1 - (l0.length : Int))) 0)
set_option maxRecDepth 100000 in
theorem laws_szFaceS.ok {k : Nat} {l0 : List S98} {a1 : Int} {r : Int} (H : laws_szFaceS.f k l0 a1 = some r) : OkF Try.prog 36 [vR 99 (l0.map c98), vI a1] [] (.c (.d (.v (.int .i64 r)))) [] := by
 unfold laws_szFaceS.f at H
 refine OkF.of (N := 27) (rs := [4]) (avs := [.c (.d (.v (.int .i64 r)))]) Try.func36 rfl rfl (fun _ _ => results_tmp rfl _ _ _) (by decide) rfl rfl rfl rfl (fun w0 S => ?_)
 refine AG.seq ?_
 refine AG.region HM ?_
 refine a_move (v := vI _) ?_
 refine RA.nil nofun ?_
 refine AG.seq ?_
 refine AG.region HM ?_
 refine a_move (v := vI _) ?_
 refine a_move (v := vR _ _) ?_
 refine a_lenR ?_ Try.underlying40
 refine a_int (u := .int .i64 (wrap64 (a1 - (l0.length : Int)))) ?_
 refine a_move (v := vI _) ?_
 refine RA.nil nofun ?_
 refine AG.seq ?_
 refine AG.seq ?_
 refine AG.region HM ?_
 refine a_move (v := vI _) ?_
 refine a_int (u := .bool (decide ((wrap64 (a1 - (l0.length : Int))) < 0))) ?_
 refine RA.nil nofun ?_
 by_cases hc1 : (wrap64 (a1 - (l0.length : Int))) < 0
 ·rw [if_pos hc1] at H
  refine AG.yes rfl (decide_eq_true hc1) ?_
  refine AG.seq ?_
  refine AG.region HM ?_
  refine a_move (v := vI _) ?_
  refine RA.nil nofun ?_
  refine AG.ret ?_
  obtain rfl := Option.some.inj H
  exact RetP.mk id ⟨rfl, trivial⟩ trivial rfl
 ·rw [if_neg hc1] at H
  refine AG.no rfl (decide_eq_false hc1) ?_
  refine AG.skip ?_
  refine AG.seq ?_
  refine AG.seq ?_
  refine AG.region HM ?_
  refine a_move (v := vI _) ?_
  refine RA.nil nofun ?_
  refine AG.block ?_
  refine AG.loop ?_
  obtain ⟨K0, hK0, gK0⟩ : ∃ K, k ≤ K ∧ K ≤ k := ⟨k, Nat.le_refl k, Nat.le_refl k⟩
  refine AGr.canon id (AGr.loopI (n := k) (fun k s => k ≤ K0 ∧ ∃ (x0 : List S98) (x1 : Int) (x5 : Int), laws_szFaceS.l0 k x0 x1 x5 = some r ∧ s = St.of [(0, vR 99 (x0.map c98)), (1, vI x1), (5, vI x5)] []) ⟨hK0, _, _, _, H, rfl⟩ ?_ ?_) ⟨rfl, rfl, rfl, trivial⟩ trivial rfl
  ·rintro _ ⟨_, _, _, _, H, _⟩
   cases H
  ·clear H hK0
   rintro k ih0 _ ⟨hK0, x0, x1, x5, H, rfl⟩
   unfold laws_szFaceS.l0 at H
   refine AG.seq ?_
   refine AG.seq ?_
   refine AG.region HM ?_
   refine a_move (v := vI _) ?_
   refine a_move (v := vR _ _) ?_
   refine a_lenR ?_ Try.underlying40
   refine a_int (u := .bool (decide (x5 < (x0.length : Int)))) ?_
   refine RA.nil nofun ?_
   by_cases hc2 : x5 < (x0.length : Int)
   ·rw [if_pos hc2] at H
    refine AG.yes rfl (decide_eq_true hc2) ?_
    refine AG.skip ?_
    refine AG.seq ?_
    refine AG.block ?_
    refine AG.seq ?_
    refine AG.region HM ?_
    refine a_move (v := vR _ _) ?_
    refine a_move (v := vI _) ?_
    by_cases hc3 : 0 ≤ x5
    ·rw [if_pos hc3] at H
     refine a_ixR (el := c98 (rd98 x0 x5)) ?_ ⟨hc3, hc2⟩ T99 Try.underlying40 (hel := R98 hc3 hc2)
     refine a_ldR (v := .agg [_, _]) ?_ T99
     refine a_move (v := vI _) ?_
     obtain ⟨t4, e5, H⟩ := bindO H
     refine a_call (v := vI t4) (nk := []) (L := []) ?_ rfl (laws_szFace.ok e5) id (qg (qd qn)) trivial trivial trivial rfl
     refine a_move (v := vI _) ?_
     refine RA.nil nofun ?_
     refine AG.seq ?_
     refine AG.region HM ?_
     refine a_move (v := vI _) ?_
     refine a_int (u := .bool (decide (t4 < 0))) ?_
     refine RA.nil nofun ?_
     by_cases hc6 : t4 < 0
     ·rw [if_pos hc6] at H
      refine AG.yes rfl (decide_eq_true hc6) ?_
      refine AG.seq ?_
      refine AG.region HM ?_
      refine a_move (v := vI _) ?_
      refine RA.nil nofun ?_
      refine AG.ret ?_
      obtain rfl := Option.some.inj H
      exact RetP.mk id ⟨rfl, trivial⟩ trivial rfl
     ·rw [if_neg hc6] at H
      refine AG.no rfl (decide_eq_false hc6) ?_
      refine AG.skip ?_
      refine AG.region HM ?_
      refine a_move (v := vI _) ?_
      refine a_int (u := .int .i64 (wrap64 (x5 + 1))) ?_
      refine a_move (v := vI _) ?_
      refine RA.nil nofun ?_
      exact AGr.canon id (ih0 _ (by omega) _ ⟨by omega, _, _, _, H, rfl⟩) ⟨rfl, rfl, rfl, trivial⟩ trivial rfl
    ·rw [if_neg hc3] at H
     cases H
   ·rw [if_neg hc2] at H
    refine AG.no rfl (decide_eq_false hc2) ?_
    refine AG.exit ?_
    refine AG.seq ?_
    refine AG.region HM ?_
    refine a_move (v := vI _) ?_
    refine a_move (v := vI _) ?_
    refine RA.nil nofun ?_
    refine AG.ret ?_
    obtain rfl := Option.some.inj H
    exact RetP.mk id ⟨rfl, trivial⟩ trivial rfl
/-! ### laws_szDrawing: function 15 -/
def laws_szDrawing.f (k : Nat) (a0_0 : Int) (a0_1 : Int) (l0_2 : List S107) (l0_3 : List S98) (a1 : Int) : Option (Int) := (laws_szPointS.f l0_2 a1).bind fun t1 => (if t1 < 0 then (some (-1)) else ((laws_szFaceS.f k l0_3 t1).bind fun t4 => (if t4 < 0 then (some (-1)) else (some t4))))
set_option maxRecDepth 100000 in
theorem laws_szDrawing.ok {k : Nat} {a0_0 : Int} {a0_1 : Int} {l0_2 : List S107} {l0_3 : List S98} {a1 : Int} {r : Int} (H : laws_szDrawing.f k a0_0 a0_1 l0_2 l0_3 a1 = some r) : OkF Try.prog 15 [.agg [.d (.v (.int .i64 a0_0)), .d (.v (.int .i64 a0_1)), .d (.row 110 (l0_2.map c107)), .d (.row 99 (l0_3.map c98))], vI a1] [] (.c (.d (.v (.int .i64 r)))) [] := by
 unfold laws_szDrawing.f at H
 refine OkF.of (N := 18) (rs := [4]) (avs := [.c (.d (.v (.int .i64 r)))]) Try.func15 rfl rfl (fun _ _ => results_tmp rfl _ _ _) (by decide) rfl rfl rfl rfl (fun w0 S => ?_)
 refine AG.seq ?_
 refine AG.region HM ?_
 refine a_box 200 ?_
 refine a_move (v := vI _) ?_
 refine RA.nil nofun ?_
 refine AG.seq ?_
 refine AG.region HM ?_
 refine a_faB (q := 2) ?_ D42_2
 refine a_ldB (v := vR _ _) ?_ T39
 refine a_move (v := vI _) ?_
 obtain ⟨t1, e2, H⟩ := bindO H
 refine a_call (v := vI t1) (nk := []) (L := []) ?_ rfl (laws_szPointS.ok e2) id (qd (qd qn)) trivial trivial trivial rfl
 refine a_move (v := vI _) ?_
 refine RA.nil nofun ?_
 refine AG.seq ?_
 refine AG.seq ?_
 refine AG.region HM ?_
 refine a_move (v := vI _) ?_
 refine a_int (u := .bool (decide (t1 < 0))) ?_
 refine RA.nil nofun ?_
 by_cases hc3 : t1 < 0
 ·rw [if_pos hc3] at H
  refine AG.yes rfl (decide_eq_true hc3) ?_
  refine AG.seq ?_
  refine AG.region HM ?_
  refine a_move (v := vI _) ?_
  refine RA.nil nofun ?_
  refine AG.ret ?_
  obtain rfl := Option.some.inj H
  exact RetP.mk id ⟨rfl, trivial⟩ trivial rfl
 ·rw [if_neg hc3] at H
  refine AG.no rfl (decide_eq_false hc3) ?_
  refine AG.skip ?_
  refine AG.seq ?_
  refine AG.region HM ?_
  refine a_faB (q := 3) ?_ D42_3
  refine a_ldB (v := vR _ _) ?_ T40
  refine a_move (v := vI _) ?_
  obtain ⟨t4, e5, H⟩ := bindO H
  refine a_call (v := vI t4) (nk := []) (L := []) ?_ rfl (laws_szFaceS.ok e5) id (qd (qd qn)) trivial trivial trivial rfl
  refine a_move (v := vI _) ?_
  refine RA.nil nofun ?_
  refine AG.seq ?_
  refine AG.seq ?_
  refine AG.region HM ?_
  refine a_move (v := vI _) ?_
  refine a_int (u := .bool (decide (t4 < 0))) ?_
  refine RA.nil nofun ?_
  by_cases hc6 : t4 < 0
  ·rw [if_pos hc6] at H
   refine AG.yes rfl (decide_eq_true hc6) ?_
   refine AG.seq ?_
   refine AG.region HM ?_
   refine a_move (v := vI _) ?_
   refine RA.nil nofun ?_
   refine AG.ret ?_
   obtain rfl := Option.some.inj H
   exact RetP.mk id ⟨rfl, trivial⟩ trivial rfl
  ·rw [if_neg hc6] at H
   refine AG.no rfl (decide_eq_false hc6) ?_
   refine AG.skip ?_
   refine AG.seq ?_
   refine AG.region HM ?_
   refine a_move (v := vI _) ?_
   refine a_move (v := vI _) ?_
   refine RA.nil nofun ?_
   refine AG.ret ?_
   obtain rfl := Option.some.inj H
   exact RetP.mk id ⟨rfl, trivial⟩ trivial rfl
/-! ### laws_toPoint: function 69 -/
def laws_toPoint.f (a0_0 : Int) (a0_1 : Int) : Option (Int × Int) := some (a0_0, a0_1)
set_option maxRecDepth 100000 in
theorem laws_toPoint.ok {a0_0 : Int} {a0_1 : Int} {r0 : Int} {r1 : Int} (H : laws_toPoint.f a0_0 a0_1 = some (r0, r1)) : OkF Try.prog 69 [.agg [.d (.v (.int .i64 a0_0)), .d (.v (.int .i64 a0_1))]] [] (.agg [.d (.v (.int .i64 r0)), .d (.v (.int .i64 r1))]) [] := by
 unfold laws_toPoint.f at H
 refine OkF.ofB (N := 11) (t := 2) (ty := 108) (av := .agg [.d (.v (.int .i64 r0)), .d (.v (.int .i64 r1))]) Try.func69 rfl rfl rfl rfl (by decide) rfl rfl (fun w0 S => ?_)
 refine AG.seq ?_
 refine AG.region HM ?_
 refine a_box 200 ?_
 refine a_alloc (cs := [_, _]) 201 ?_ T108
 refine RA.nil nofun ?_
 refine AG.seq ?_
 refine AG.region HM ?_
 refine a_alloc (cs := [_, _]) 202 ?_ T108
 refine RA.nil nofun ?_
 refine AG.seq ?_
 refine AG.region HM ?_
 refine a_faB (q := 0) ?_ D110_0
 refine a_ldB (v := vI _) ?_ T2
 refine a_faB (q := 0) ?_ D108_0
 refine a_stB (cs' := [_, _]) ?_ T2
 refine RA.nil nofun ?_
 refine AG.seq ?_
 refine AG.region HM ?_
 refine a_faB (q := 1) ?_ D110_1
 refine a_ldB (v := vI _) ?_ T2
 refine a_faB (q := 1) ?_ D108_1
 refine a_stB (cs' := [_, _]) ?_ T2
 refine RA.nil nofun ?_
 refine AG.seq ?_
 refine AG.region HM ?_
 refine a_ldB (v := .agg [_, _]) ?_ T108
 refine a_stB (cs' := [_, _]) ?_ T108
 refine RA.nil nofun ?_
 refine AG.ret ?_
 simp only [Option.some.injEq, Prod.mk.injEq] at H
 obtain ⟨rfl, rfl⟩ := H
 exact RetB.mk T108 rfl rfl rfl (RetP.mk id ⟨rfl, trivial⟩ trivial rfl)
/-! ### laws_toPointS: function 39 -/
def laws_toPointS.l0 : Nat → List S107 → List S107 → Int → Option ((List S107))
 | 0, _, _, _ => none
 | k + 1, x0, x3, x4 => if x4 < (x0.length : Int) then (if 0 ≤ x4 then ((laws_toPoint.f ((rd107 x0 x4).f0) ((rd107 x0 x4).f1)).bind fun bt6 => (if x4 < (x3.length : Int) then (laws_toPointS.l0 k x0 (x3.set (x4 : Int).toNat (⟨bt6.1, bt6.2⟩ : S107)) (wrap64 (x4 + 1))) else (none))) else (none)) else (some x3)
def laws_toPointS.f (k : Nat) (l0 : List S107) : Option ((List S107)) := if 0 ≤ (l0.length : Int) then (if ((l0.length : Int) : Int).toNat ≤ 17592186044416 then (laws_toPointS.l0 k l0 (List.replicate (((l0.length : Int) : Int).toNat) z107) 0) else (none)) else (none)
set_option maxRecDepth 100000 in
theorem laws_toPointS.ok {k : Nat} {l0 : List S107} {r : List S107} (H : laws_toPointS.f k l0 = some r) : OkF Try.prog 39 [vR 110 (l0.map c107)] [] (.c (.own 100 r.length)) [(100, .row 108 (r.map c107))] := by
 unfold laws_toPointS.f at H
 refine OkF.of (N := 23) (rs := [2]) (avs := [.c (.own 100 r.length)]) Try.func39 rfl rfl (fun _ _ => results_tmp rfl _ _ _) (by decide) rfl rfl rfl rfl (fun w0 S => ?_)
 refine AG.seq ?_
 refine AG.region HM ?_
 refine a_nilO (e := 108) 200 ?_ T108
 refine RA.nil nofun ?_
 refine AG.seq ?_
 refine AG.region HM ?_
 refine a_move (v := vR _ _) ?_
 refine a_lenR ?_ Try.underlying39
 by_cases hc1 : 0 ≤ (l0.length : Int)
 ·rw [if_pos hc1] at H
  by_cases hc2 : ((l0.length : Int) : Int).toNat ≤ 17592186044416
  ·rw [if_pos hc2] at H
   refine a_make (n := (l0.length : Int)) (css := (List.replicate (((l0.length : Int) : Int).toNat) z107).map c107) 201 ?_ N46 T108 (zV (zV zN)) hc1 (by omega) (by omega) (hcss := by exact rep_map rfl)
   refine a_move (v := .c (.own _ _)) ?_
   refine RA.nil nofun ?_
   refine AG.seq ?_
   refine AG.seq ?_
   refine AG.region HM ?_
   refine a_move (v := vI _) ?_
   refine RA.nil nofun ?_
   refine AG.block ?_
   refine AG.loop ?_
   obtain ⟨K0, hK0, gK0⟩ : ∃ K, k ≤ K ∧ K ≤ k := ⟨k, Nat.le_refl k, Nat.le_refl k⟩
   refine AGr.canon (fun κ => cond (Nat.beq κ 202) 201 (κ)) (AGr.loopI (n := k) (fun k s => k ≤ K0 ∧ ∃ (x0 : List S107) (x3 : List S107) (x4 : Int), laws_toPointS.l0 k x0 x3 x4 = some r ∧ s = St.of [(0, vR 110 (x0.map c107)), (3, .c (.own 202 x3.length)), (4, vI x4)] [(202, .row 108 (x3.map c107))]) ⟨hK0, _, _, _, H, rfl⟩ ?_ ?_) ⟨rfl, (ownE rfl (by simp)), rfl, trivial⟩ ⟨rfl, trivial⟩ rfl
   ·rintro _ ⟨_, _, _, _, H, _⟩
    cases H
   ·clear H hK0
    rintro k ih0 _ ⟨hK0, x0, x3, x4, H, rfl⟩
    unfold laws_toPointS.l0 at H
    refine AG.seq ?_
    refine AG.seq ?_
    refine AG.region HM ?_
    refine a_move (v := vI _) ?_
    refine a_move (v := vR _ _) ?_
    refine a_lenR ?_ Try.underlying39
    refine a_int (u := .bool (decide (x4 < (x0.length : Int)))) ?_
    refine RA.nil nofun ?_
    by_cases hc4 : x4 < (x0.length : Int)
    ·rw [if_pos hc4] at H
     refine AG.yes rfl (decide_eq_true hc4) ?_
     refine AG.skip ?_
     refine AG.seq ?_
     refine AG.block ?_
     refine AG.region HM ?_
     refine a_move (v := .c (.own _ _)) ?_
     refine a_move (v := vI _) ?_
     refine a_move (v := vR _ _) ?_
     refine a_move (v := vI _) ?_
     by_cases hc5 : 0 ≤ x4
     ·rw [if_pos hc5] at H
      refine a_ixR (el := c107 (rd107 x0 x4)) ?_ ⟨hc5, hc4⟩ T110 Try.underlying39 (hel := R107 hc5 hc4)
      refine a_ldR (v := .agg [_, _]) ?_ T110
      obtain ⟨⟨t6, t7⟩, e8, H⟩ := bindO H
      refine a_call (v := .agg [.d (.v (.int .i64 t6)), .d (.v (.int .i64 t7))]) (nk := []) (L := []) ?_ rfl (laws_toPoint.ok e8) id (qg qn) trivial trivial trivial rfl
      by_cases hc9 : x4 < (x3.length : Int)
      ·rw [if_pos hc9] at H
       refine a_ixO ?_ ⟨hc5, hc9⟩ T108 Try.underlying46
       refine a_stF (css' := (x3.set (x4 : Int).toNat (⟨t6, t7⟩ : S107)).map c107) ?_ (flat_map (fun _ => rfl)) (G107 hc5 hc9) T108 (hcss := by exact set_map rfl)
       refine RA.nil nofun ?_
       refine AG.region HM ?_
       refine a_move (v := vI _) ?_
       refine a_int (u := .int .i64 (wrap64 (x4 + 1))) ?_
       refine a_move (v := vI _) ?_
       refine RA.nil nofun ?_
       exact AGr.canon id (ih0 _ (by omega) _ ⟨by omega, _, _, _, H, rfl⟩) ⟨rfl, (ownE rfl (by simp)), rfl, trivial⟩ ⟨rfl, trivial⟩ rfl
      ·rw [if_neg hc9] at H
       cases H
     ·rw [if_neg hc5] at H
      cases H
    ·rw [if_neg hc4] at H
     refine AG.no rfl (decide_eq_false hc4) ?_
     refine AG.exit ?_
     refine AG.seq ?_
     refine AG.region HM ?_
     refine a_move (v := .c (.own _ _)) ?_
     refine a_move (v := .c (.own _ _)) ?_
     refine RA.nil nofun ?_
     refine AG.ret ?_
     obtain rfl := Option.some.inj H
     exact RetP.mk (fun κ => cond (Nat.beq κ 100) 202 (κ)) ⟨rfl, trivial⟩ ⟨rfl, trivial⟩ rfl
  ·rw [if_neg hc2] at H
   cases H
 ·rw [if_neg hc1] at H
  cases H
/-! ### laws_toFace: function 70 -/
def laws_toFace.f (k : Nat) (a0_0 : ByteArray) (l0_1 : List Int) : Option (ByteArray × (List Int)) := (laws_toInt64S.f k l0_1).bind fun t1 => (some (a0_0, t1))
set_option maxRecDepth 100000 in
theorem laws_toFace.ok {k : Nat} {a0_0 : ByteArray} {l0_1 : List Int} {r0 : ByteArray} {r1 : List Int} (H : laws_toFace.f k a0_0 l0_1 = some (r0, r1)) : OkF Try.prog 70 [.agg [.d (.v (.string a0_0)), .d (.row 2 (l0_1.map c2))]] [] (.agg [.d (.v (.string r0)), .own 100 r1.length]) [(100, .row 2 (r1.map c2))] := by
 unfold laws_toFace.f at H
 refine OkF.ofB (N := 12) (t := 2) (ty := 101) (av := .agg [.d (.v (.string r0)), .own 100 r1.length]) Try.func70 rfl rfl rfl rfl (by decide) rfl rfl (fun w0 S => ?_)
 refine AG.seq ?_
 refine AG.region HM ?_
 refine a_box 200 ?_
 refine a_alloc (cs := [_, _]) 201 ?_ T101
 refine RA.nil nofun ?_
 refine AG.seq ?_
 refine AG.region HM ?_
 refine a_alloc (cs := [_, _]) 202 ?_ T101
 refine RA.nil nofun ?_
 refine AG.seq ?_
 refine AG.region HM ?_
 refine a_faB (q := 0) ?_ D99_0
 refine a_ldB (v := vS _) ?_ T9
 refine a_faB (q := 0) ?_ D101_0
 refine a_stB (cs' := [_, _]) ?_ T9
 refine RA.nil nofun ?_
 refine AG.seq ?_
 refine AG.region HM ?_
 refine a_faB (q := 1) ?_ D99_1
 refine a_ldB (v := vR _ _) ?_ T23
 obtain ⟨t1, e2, H⟩ := bindO H
 refine a_call (v := .c (.own 203 t1.length)) (nk := [(203, .row 2 (t1.map c2))]) (L := []) ?_ rfl (laws_toInt64S.ok e2) (fun κ => cond (Nat.beq κ 203) 100 (κ)) (qd qn) trivial ⟨rfl, trivial⟩ ⟨rfl, trivial⟩ rfl
 refine a_faB (q := 1) ?_ D101_1
 refine a_stB (cs' := [_, _]) ?_ T23
 refine RA.nil nofun ?_
 refine AG.seq ?_
 refine AG.region HM ?_
 refine a_ldB (v := .agg [_, _]) ?_ T101
 refine a_stB (cs' := [_, _]) ?_ T101
 refine RA.nil nofun ?_
 refine AG.ret ?_
 simp only [Option.some.injEq, Prod.mk.injEq] at H
 obtain ⟨rfl, rfl⟩ := H
 exact RetB.mk T101 rfl rfl rfl (RetP.mk (fun κ => cond (Nat.beq κ 100) 203 (κ)) ⟨rfl, trivial⟩ ⟨rfl, trivial⟩ rfl)
/-! ### laws_toFaceS: function 40 -/
def laws_toFaceS.l0 : Nat → List S98 → List S98 → Int → Option ((List S98))
 | 0, _, _, _ => none
 | k + 1, x0, x3, x4 => if x4 < (x0.length : Int) then (if 0 ≤ x4 then ((laws_toFace.f k ((rd98 x0 x4).f0) ((rd98 x0 x4).f1)).bind fun bt6 => (if x4 < (x3.length : Int) then (laws_toFaceS.l0 k x0 (x3.set (x4 : Int).toNat (⟨bt6.1, bt6.2⟩ : S98)) (wrap64 (x4 + 1))) else (none))) else (none)) else (some x3)
def laws_toFaceS.f (k : Nat) (l0 : List S98) : Option ((List S98)) := if 0 ≤ (l0.length : Int) then (if ((l0.length : Int) : Int).toNat ≤ 7036874417766 then (laws_toFaceS.l0 k l0 (List.replicate (((l0.length : Int) : Int).toNat) z98) 0) else (none)) else (none)
set_option maxRecDepth 100000 in
theorem laws_toFaceS.ok {k : Nat} {l0 : List S98} {r : List S98} (H : laws_toFaceS.f k l0 = some r) : OkF Try.prog 40 [vR 99 (l0.map c98)] [] (.c (.own 100 r.length)) [(100, .row 101 (r.map c98))] := by
 unfold laws_toFaceS.f at H
 refine OkF.of (N := 23) (rs := [2]) (avs := [.c (.own 100 r.length)]) Try.func40 rfl rfl (fun _ _ => results_tmp rfl _ _ _) (by decide) rfl rfl rfl rfl (fun w0 S => ?_)
 refine AG.seq ?_
 refine AG.region HM ?_
 refine a_nilO (e := 101) 200 ?_ T101
 refine RA.nil nofun ?_
 refine AG.seq ?_
 refine AG.region HM ?_
 refine a_move (v := vR _ _) ?_
 refine a_lenR ?_ Try.underlying40
 by_cases hc1 : 0 ≤ (l0.length : Int)
 ·rw [if_pos hc1] at H
  by_cases hc2 : ((l0.length : Int) : Int).toNat ≤ 7036874417766
  ·rw [if_pos hc2] at H
   refine a_make (n := (l0.length : Int)) (css := (List.replicate (((l0.length : Int) : Int).toNat) z98).map c98) 201 ?_ N47 T101 (zV (zR T2 zN)) hc1 (by omega) (by omega) (hcss := by exact rep_map rfl)
   refine a_move (v := .c (.own _ _)) ?_
   refine RA.nil nofun ?_
   refine AG.seq ?_
   refine AG.seq ?_
   refine AG.region HM ?_
   refine a_move (v := vI _) ?_
   refine RA.nil nofun ?_
   refine AG.block ?_
   refine AG.loop ?_
   obtain ⟨K0, hK0, gK0⟩ : ∃ K, k ≤ K ∧ K ≤ k := ⟨k, Nat.le_refl k, Nat.le_refl k⟩
   refine AGr.canon (fun κ => cond (Nat.beq κ 202) 201 (κ)) (AGr.loopI (n := k) (fun k s => k ≤ K0 ∧ ∃ (x0 : List S98) (x3 : List S98) (x4 : Int), laws_toFaceS.l0 k x0 x3 x4 = some r ∧ s = St.of [(0, vR 99 (x0.map c98)), (3, .c (.own 202 x3.length)), (4, vI x4)] [(202, .row 101 (x3.map c98))]) ⟨hK0, _, _, _, H, rfl⟩ ?_ ?_) ⟨rfl, (ownE rfl (by simp)), rfl, trivial⟩ ⟨rfl, trivial⟩ rfl
   ·rintro _ ⟨_, _, _, _, H, _⟩
    cases H
   ·clear H hK0
    rintro k ih0 _ ⟨hK0, x0, x3, x4, H, rfl⟩
    unfold laws_toFaceS.l0 at H
    refine AG.seq ?_
    refine AG.seq ?_
    refine AG.region HM ?_
    refine a_move (v := vI _) ?_
    refine a_move (v := vR _ _) ?_
    refine a_lenR ?_ Try.underlying40
    refine a_int (u := .bool (decide (x4 < (x0.length : Int)))) ?_
    refine RA.nil nofun ?_
    by_cases hc4 : x4 < (x0.length : Int)
    ·rw [if_pos hc4] at H
     refine AG.yes rfl (decide_eq_true hc4) ?_
     refine AG.skip ?_
     refine AG.seq ?_
     refine AG.block ?_
     refine AG.region HM ?_
     refine a_move (v := .c (.own _ _)) ?_
     refine a_move (v := vI _) ?_
     refine a_move (v := vR _ _) ?_
     refine a_move (v := vI _) ?_
     by_cases hc5 : 0 ≤ x4
     ·rw [if_pos hc5] at H
      refine a_ixR (el := c98 (rd98 x0 x4)) ?_ ⟨hc5, hc4⟩ T99 Try.underlying40 (hel := R98 hc5 hc4)
      refine a_ldR (v := .agg [_, _]) ?_ T99
      obtain ⟨⟨t6, t7⟩, e8, H⟩ := bindO H
      refine a_call (v := .agg [.d (.v (.string t6)), .own 203 t7.length]) (nk := [(203, .row 2 (t7.map c2))]) (L := []) ?_ rfl (laws_toFace.ok e8) (fun κ => cond (Nat.beq κ 203) 100 (κ)) (qg qn) trivial ⟨rfl, trivial⟩ ⟨rfl, trivial⟩ rfl
      by_cases hc9 : x4 < (x3.length : Int)
      ·rw [if_pos hc9] at H
       refine a_ixO ?_ ⟨hc5, hc9⟩ T101 Try.underlying47
       refine a_stE (D := [203]) (css' := (x3.set (x4 : Int).toNat (⟨t6, t7⟩ : S98)).map c98) ?_ (G98 hc5 hc9) T101 (hcss := by exact set_map rfl)
       refine RA.nil nofun ?_
       refine AG.region HM ?_
       refine a_move (v := vI _) ?_
       refine a_int (u := .int .i64 (wrap64 (x4 + 1))) ?_
       refine a_move (v := vI _) ?_
       refine RA.nil nofun ?_
       exact AGr.canon id (ih0 _ (by omega) _ ⟨by omega, _, _, _, H, rfl⟩) ⟨rfl, (ownE rfl (by simp)), rfl, trivial⟩ ⟨rfl, trivial⟩ rfl
      ·rw [if_neg hc9] at H
       cases H
     ·rw [if_neg hc5] at H
      cases H
    ·rw [if_neg hc4] at H
     refine AG.no rfl (decide_eq_false hc4) ?_
     refine AG.exit ?_
     refine AG.seq ?_
     refine AG.region HM ?_
     refine a_move (v := .c (.own _ _)) ?_
     refine a_move (v := .c (.own _ _)) ?_
     refine RA.nil nofun ?_
     refine AG.ret ?_
     obtain rfl := Option.some.inj H
     exact RetP.mk (fun κ => cond (Nat.beq κ 100) 202 (κ)) ⟨rfl, trivial⟩ ⟨rfl, trivial⟩ rfl
  ·rw [if_neg hc2] at H
   cases H
 ·rw [if_neg hc1] at H
  cases H
/-! ### laws_toDrawing: function 17 -/
def laws_toDrawing.f (k : Nat) (a0_0 : Int) (a0_1 : Int) (l0_2 : List S107) (l0_3 : List S98) : Option (Int × Int × (List S107) × (List S98)) := (laws_toPointS.f k l0_2).bind fun t1 => ((laws_toFaceS.f k l0_3).bind fun t3 => (some (a0_0, a0_1, t1, t3)))
set_option maxRecDepth 100000 in
theorem laws_toDrawing.ok {k : Nat} {a0_0 : Int} {a0_1 : Int} {l0_2 : List S107} {l0_3 : List S98} {r0 : Int} {r1 : Int} {r2 : List S107} {r3 : List S98} (H : laws_toDrawing.f k a0_0 a0_1 l0_2 l0_3 = some (r0, r1, r2, r3)) : OkF Try.prog 17 [.agg [.d (.v (.int .i64 a0_0)), .d (.v (.int .i64 a0_1)), .d (.row 110 (l0_2.map c107)), .d (.row 99 (l0_3.map c98))]] [] (.agg [.d (.v (.int .i64 r0)), .d (.v (.int .i64 r1)), .own 100 r2.length, .own 101 r3.length]) [(100, .row 108 (r2.map c107)), (101, .row 101 (r3.map c98))] := by
 unfold laws_toDrawing.f at H
 refine OkF.ofB (N := 19) (t := 2) (ty := 49) (av := .agg [.d (.v (.int .i64 r0)), .d (.v (.int .i64 r1)), .own 100 r2.length, .own 101 r3.length]) Try.func17 rfl rfl rfl rfl (by decide) rfl rfl (fun w0 S => ?_)
 refine AG.seq ?_
 refine AG.region HM ?_
 refine a_box 200 ?_
 refine a_alloc (cs := [_, _, _, _]) 201 ?_ T49
 refine RA.nil nofun ?_
 refine AG.seq ?_
 refine AG.region HM ?_
 refine a_alloc (cs := [_, _, _, _]) 202 ?_ T49
 refine RA.nil nofun ?_
 refine AG.seq ?_
 refine AG.region HM ?_
 refine a_faB (q := 0) ?_ D42_0
 refine a_ldB (v := vI _) ?_ T2
 refine a_faB (q := 0) ?_ D49_0
 refine a_stB (cs' := [_, _, _, _]) ?_ T2
 refine RA.nil nofun ?_
 refine AG.seq ?_
 refine AG.region HM ?_
 refine a_faB (q := 1) ?_ D42_1
 refine a_ldB (v := vI _) ?_ T2
 refine a_faB (q := 1) ?_ D49_1
 refine a_stB (cs' := [_, _, _, _]) ?_ T2
 refine RA.nil nofun ?_
 refine AG.seq ?_
 refine AG.region HM ?_
 refine a_faB (q := 2) ?_ D42_2
 refine a_ldB (v := vR _ _) ?_ T39
 obtain ⟨t1, e2, H⟩ := bindO H
 refine a_call (v := .c (.own 203 t1.length)) (nk := [(203, .row 108 (t1.map c107))]) (L := []) ?_ rfl (laws_toPointS.ok e2) (fun κ => cond (Nat.beq κ 203) 100 (κ)) (qd qn) trivial ⟨rfl, trivial⟩ ⟨rfl, trivial⟩ rfl
 refine a_faB (q := 2) ?_ D49_2
 refine a_stB (cs' := [_, _, _, _]) ?_ T46
 refine RA.nil nofun ?_
 refine AG.seq ?_
 refine AG.region HM ?_
 refine a_faB (q := 3) ?_ D42_3
 refine a_ldB (v := vR _ _) ?_ T40
 obtain ⟨t3, e4, H⟩ := bindO H
 refine a_call (v := .c (.own 204 t3.length)) (nk := [(204, .row 101 (t3.map c98))]) (L := []) ?_ rfl (laws_toFaceS.ok e4) (fun κ => cond (Nat.beq κ 204) 100 (κ)) (qd qn) trivial ⟨rfl, trivial⟩ ⟨rfl, trivial⟩ rfl
 refine a_faB (q := 3) ?_ D49_3
 refine a_stB (cs' := [_, _, _, _]) ?_ T47
 refine RA.nil nofun ?_
 refine AG.seq ?_
 refine AG.region HM ?_
 refine a_ldB (v := .agg [_, _, _, _]) ?_ T49
 refine a_stB (cs' := [_, _, _, _]) ?_ T49
 refine RA.nil nofun ?_
 refine AG.ret ?_
 simp only [Option.some.injEq, Prod.mk.injEq] at H
 obtain ⟨rfl, rfl, rfl, rfl⟩ := H
 exact RetB.mk T49 rfl rfl rfl (RetP.mk (fun κ => cond (Nat.beq κ 100) 203 (cond (Nat.beq κ 101) 204 (κ))) ⟨rfl, trivial⟩ ⟨rfl, rfl, trivial⟩ rfl)
/-! ### laws_eqPoint: function 77 -/
def laws_eqPoint.f (a0_0 : Int) (a0_1 : Int) (a1_0 : Int) (a1_1 : Int) : Option (Bool) := if a0_0 = a1_0 then (if a0_1 = a1_1 then (some true) else (some false)) else (some false)
set_option maxRecDepth 100000 in
theorem laws_eqPoint.ok {a0_0 : Int} {a0_1 : Int} {a1_0 : Int} {a1_1 : Int} {r : Bool} (H : laws_eqPoint.f a0_0 a0_1 a1_0 a1_1 = some r) : OkF Try.prog 77 [.agg [.d (.v (.int .i64 a0_0)), .d (.v (.int .i64 a0_1))], .agg [.d (.v (.int .i64 a1_0)), .d (.v (.int .i64 a1_1))]] [] (.c (.d (.v (.bool r)))) [] := by
 unfold laws_eqPoint.f at H
 refine OkF.of (N := 15) (rs := [4]) (avs := [.c (.d (.v (.bool r)))]) Try.func77 rfl rfl (fun _ _ => results_tmp rfl _ _ _) (by decide) rfl rfl rfl rfl (fun w0 S => ?_)
 refine AG.seq ?_
 refine AG.region HM ?_
 refine a_box 200 ?_
 refine a_box 201 ?_
 refine a_move (v := vB _) ?_
 refine RA.nil nofun ?_
 refine AG.seq ?_
 refine AG.seq ?_
 refine AG.region HM ?_
 refine a_faB (q := 0) ?_ D108_0
 refine a_ldB (v := vI _) ?_ T2
 refine a_faB (q := 0) ?_ D108_0
 refine a_ldB (v := vI _) ?_ T2
 refine a_int (u := .bool ((a0_0 != a1_0))) ?_
 refine RA.nil nofun ?_
 by_cases hc1 : a0_0 = a1_0
 ·rw [if_pos hc1] at H
  refine AG.no rfl (bne_eq_false_iff_eq.2 hc1) ?_
  refine AG.skip ?_
  refine AG.seq ?_
  refine AG.seq ?_
  refine AG.region HM ?_
  refine a_faB (q := 1) ?_ D108_1
  refine a_ldB (v := vI _) ?_ T2
  refine a_faB (q := 1) ?_ D108_1
  refine a_ldB (v := vI _) ?_ T2
  refine a_int (u := .bool ((a0_1 != a1_1))) ?_
  refine RA.nil nofun ?_
  by_cases hc2 : a0_1 = a1_1
  ·rw [if_pos hc2] at H
   refine AG.no rfl (bne_eq_false_iff_eq.2 hc2) ?_
   refine AG.skip ?_
   refine AG.seq ?_
   refine AG.region HM ?_
   refine a_move (v := vB _) ?_
   refine RA.nil nofun ?_
   refine AG.ret ?_
   obtain rfl := Option.some.inj H
   exact RetP.mk id ⟨rfl, trivial⟩ trivial rfl
  ·rw [if_neg hc2] at H
   refine AG.yes rfl (bne_iff_ne.2 hc2) ?_
   refine AG.seq ?_
   refine AG.region HM ?_
   refine a_move (v := vB _) ?_
   refine RA.nil nofun ?_
   refine AG.ret ?_
   obtain rfl := Option.some.inj H
   exact RetP.mk id ⟨rfl, trivial⟩ trivial rfl
 ·rw [if_neg hc1] at H
  refine AG.yes rfl (bne_iff_ne.2 hc1) ?_
  refine AG.seq ?_
  refine AG.region HM ?_
  refine a_move (v := vB _) ?_
  refine RA.nil nofun ?_
  refine AG.ret ?_
  obtain rfl := Option.some.inj H
  exact RetP.mk id ⟨rfl, trivial⟩ trivial rfl
/-! ### laws_eqPointS: function 43 -/
def laws_eqPointS.l0 : Nat → List S107 → List S107 → Int → Option (Bool)
 | 0, _, _, _ => none
 | k + 1, x0, x1, x5 => if x5 < (x0.length : Int) then (if 0 ≤ x5 then (if x5 < (x1.length : Int) then ((laws_eqPoint.f ((rd107 x0 x5).f0) ((rd107 x0 x5).f1) ((rd107 x1 x5).f0) ((rd107 x1 x5).f1)).bind fun t5 => (if t5 = true then (laws_eqPointS.l0 k x0 x1 (wrap64 (x5 + 1))) else (some false))) else (none)) else (none)) else (some true)
def laws_eqPointS.f (k : Nat) (l0 : List S107) (l1 : List S107) : Option (Bool) := if (l0.length : Int) = (l1.length : Int) then (laws_eqPointS.l0 k l0 l1 0) else (some false)
set_option maxRecDepth 100000 in
theorem laws_eqPointS.ok {k : Nat} {l0 : List S107} {l1 : List S107} {r : Bool} (H : laws_eqPointS.f k l0 l1 = some r) : OkF Try.prog 43 [vR 108 (l0.map c107), vR 108 (l1.map c107)] [] (.c (.d (.v (.bool r)))) [] := by
 unfold laws_eqPointS.f at H
 refine OkF.of (N := 27) (rs := [4]) (avs := [.c (.d (.v (.bool r)))]) Try.func43 rfl rfl (fun _ _ => results_tmp rfl _ _ _) (by decide) rfl rfl rfl rfl (fun w0 S => ?_)
 refine AG.seq ?_
 refine AG.region HM ?_
 refine a_move (v := vB _) ?_
 refine RA.nil nofun ?_
 refine AG.seq ?_
 refine AG.seq ?_
 refine AG.region HM ?_
 refine a_move (v := vR _ _) ?_
 refine a_lenR ?_ Try.underlying46
 refine a_move (v := vR _ _) ?_
 refine a_lenR ?_ Try.underlying46
 refine a_int (u := .bool (((l0.length : Int) != (l1.length : Int)))) ?_
 refine RA.nil nofun ?_
 by_cases hc1 : (l0.length : Int) = (l1.length : Int)
 ·rw [if_pos hc1] at H
  refine AG.no rfl (bne_eq_false_iff_eq.2 hc1) ?_
  refine AG.skip ?_
  refine AG.seq ?_
  refine AG.seq ?_
  refine AG.region HM ?_
  refine a_move (v := vI _) ?_
  refine RA.nil nofun ?_
  refine AG.block ?_
  refine AG.loop ?_
  obtain ⟨K0, hK0, gK0⟩ : ∃ K, k ≤ K ∧ K ≤ k := ⟨k, Nat.le_refl k, Nat.le_refl k⟩
  refine AGr.canon id (AGr.loopI (n := k) (fun k s => k ≤ K0 ∧ ∃ (x0 : List S107) (x1 : List S107) (x5 : Int), laws_eqPointS.l0 k x0 x1 x5 = some r ∧ s = St.of [(0, vR 108 (x0.map c107)), (1, vR 108 (x1.map c107)), (5, vI x5)] []) ⟨hK0, _, _, _, H, rfl⟩ ?_ ?_) ⟨rfl, rfl, rfl, trivial⟩ trivial rfl
  ·rintro _ ⟨_, _, _, _, H, _⟩
   cases H
  ·clear H hK0
   rintro k ih0 _ ⟨hK0, x0, x1, x5, H, rfl⟩
   unfold laws_eqPointS.l0 at H
   refine AG.seq ?_
   refine AG.seq ?_
   refine AG.region HM ?_
   refine a_move (v := vI _) ?_
   refine a_move (v := vR _ _) ?_
   refine a_lenR ?_ Try.underlying46
   refine a_int (u := .bool (decide (x5 < (x0.length : Int)))) ?_
   refine RA.nil nofun ?_
   by_cases hc2 : x5 < (x0.length : Int)
   ·rw [if_pos hc2] at H
    refine AG.yes rfl (decide_eq_true hc2) ?_
    refine AG.skip ?_
    refine AG.seq ?_
    refine AG.block ?_
    refine AG.seq ?_
    refine AG.region HM ?_
    refine a_move (v := vR _ _) ?_
    refine a_move (v := vI _) ?_
    by_cases hc3 : 0 ≤ x5
    ·rw [if_pos hc3] at H
     refine a_ixR (el := c107 (rd107 x0 x5)) ?_ ⟨hc3, hc2⟩ T108 Try.underlying46 (hel := R107 hc3 hc2)
     refine a_ldR (v := .agg [_, _]) ?_ T108
     refine a_move (v := vR _ _) ?_
     refine a_move (v := vI _) ?_
     by_cases hc4 : x5 < (x1.length : Int)
     ·rw [if_pos hc4] at H
      refine a_ixR (el := c107 (rd107 x1 x5)) ?_ ⟨hc3, hc4⟩ T108 Try.underlying46 (hel := R107 hc3 hc4)
      refine a_ldR (v := .agg [_, _]) ?_ T108
      obtain ⟨t5, e6, H⟩ := bindO H
      refine a_call (v := vB t5) (nk := []) (L := []) ?_ rfl (laws_eqPoint.ok e6) id (qg (qg qn)) trivial trivial trivial rfl
      refine a_un (u := .bool (!t5)) ?_
      refine RA.nil (fun _ => by kernel_rfl) ?_
      by_cases hc7 : t5 = true
      ·rw [if_pos hc7] at H
       refine AG.no rfl (congrArg Bool.not hc7) ?_
       refine AG.skip ?_
       refine AG.region HM ?_
       refine a_move (v := vI _) ?_
       refine a_int (u := .int .i64 (wrap64 (x5 + 1))) ?_
       refine a_move (v := vI _) ?_
       refine RA.nil nofun ?_
       exact AGr.canon id (ih0 _ (by omega) _ ⟨by omega, _, _, _, H, rfl⟩) ⟨rfl, rfl, rfl, trivial⟩ trivial rfl
      ·rw [if_neg hc7] at H
       refine AG.yes rfl (congrArg Bool.not (Bool.eq_false_iff.2 hc7)) ?_
       refine AG.seq ?_
       refine AG.region HM ?_
       refine a_move (v := vB _) ?_
       refine RA.nil nofun ?_
       refine AG.ret ?_
       obtain rfl := Option.some.inj H
       exact RetP.mk id ⟨rfl, trivial⟩ trivial rfl
     ·rw [if_neg hc4] at H
      cases H
    ·rw [if_neg hc3] at H
     cases H
   ·rw [if_neg hc2] at H
    refine AG.no rfl (decide_eq_false hc2) ?_
    refine AG.exit ?_
    refine AG.seq ?_
    refine AG.region HM ?_
    refine a_move (v := vB _) ?_
    refine RA.nil nofun ?_
    refine AG.ret ?_
    obtain rfl := Option.some.inj H
    exact RetP.mk id ⟨rfl, trivial⟩ trivial rfl
 ·rw [if_neg hc1] at H
  refine AG.yes rfl (bne_iff_ne.2 hc1) ?_
  refine AG.seq ?_
  refine AG.region HM ?_
  refine a_move (v := vB _) ?_
  refine RA.nil nofun ?_
  refine AG.ret ?_
  obtain rfl := Option.some.inj H
  exact RetP.mk id ⟨rfl, trivial⟩ trivial rfl
/-! ### laws_eqFace: function 78 -/
def laws_eqFace.f (k : Nat) (a0_0 : ByteArray) (l0_1 : List Int) (a1_0 : ByteArray) (l1_1 : List Int) : Option (Bool) := if a0_0.toList = a1_0.toList then ((laws_eqInt64S.f k l0_1 l1_1).bind fun t2 => (if t2 = true then (some true) else (some false))) else (some false)
set_option maxRecDepth 100000 in
theorem laws_eqFace.ok {k : Nat} {a0_0 : ByteArray} {l0_1 : List Int} {a1_0 : ByteArray} {l1_1 : List Int} {r : Bool} (H : laws_eqFace.f k a0_0 l0_1 a1_0 l1_1 = some r) : OkF Try.prog 78 [.agg [.d (.v (.string a0_0)), .d (.row 2 (l0_1.map c2))], .agg [.d (.v (.string a1_0)), .d (.row 2 (l1_1.map c2))]] [] (.c (.d (.v (.bool r)))) [] := by
 unfold laws_eqFace.f at H
 refine OkF.of (N := 16) (rs := [4]) (avs := [.c (.d (.v (.bool r)))]) Try.func78 rfl rfl (fun _ _ => results_tmp rfl _ _ _) (by decide) rfl rfl rfl rfl (fun w0 S => ?_)
 refine AG.seq ?_
 refine AG.region HM ?_
 refine a_box 200 ?_
 refine a_box 201 ?_
 refine a_move (v := vB _) ?_
 refine RA.nil nofun ?_
 refine AG.seq ?_
 refine AG.seq ?_
 refine AG.region HM ?_
 refine a_faB (q := 0) ?_ D101_0
 refine a_ldB (v := vS _) ?_ T9
 refine a_faB (q := 0) ?_ D101_0
 refine a_ldB (v := vS _) ?_ T9
 refine a_bin (u := .bool (!(a0_0.toList == a1_0.toList))) ?_
 refine RA.nil nofun ?_
 by_cases hc1 : a0_0.toList = a1_0.toList
 ·rw [if_pos hc1] at H
  refine AG.no rfl (by rw [beq_iff_eq.2 hc1]; rfl) ?_
  refine AG.skip ?_
  refine AG.seq ?_
  refine AG.seq ?_
  refine AG.region HM ?_
  refine a_faB (q := 1) ?_ D101_1
  refine a_ldB (v := vR _ _) ?_ T23
  refine a_faB (q := 1) ?_ D101_1
  refine a_ldB (v := vR _ _) ?_ T23
  obtain ⟨t2, e3, H⟩ := bindO H
  refine a_call (v := vB t2) (nk := []) (L := []) ?_ rfl (laws_eqInt64S.ok e3) id (qd (qd qn)) trivial trivial trivial rfl
  refine a_un (u := .bool (!t2)) ?_
  refine RA.nil nofun ?_
  by_cases hc4 : t2 = true
  ·rw [if_pos hc4] at H
   refine AG.no rfl (congrArg Bool.not hc4) ?_
   refine AG.skip ?_
   refine AG.seq ?_
   refine AG.region HM ?_
   refine a_move (v := vB _) ?_
   refine RA.nil nofun ?_
   refine AG.ret ?_
   obtain rfl := Option.some.inj H
   exact RetP.mk id ⟨rfl, trivial⟩ trivial rfl
  ·rw [if_neg hc4] at H
   refine AG.yes rfl (congrArg Bool.not (Bool.eq_false_iff.2 hc4)) ?_
   refine AG.seq ?_
   refine AG.region HM ?_
   refine a_move (v := vB _) ?_
   refine RA.nil nofun ?_
   refine AG.ret ?_
   obtain rfl := Option.some.inj H
   exact RetP.mk id ⟨rfl, trivial⟩ trivial rfl
 ·rw [if_neg hc1] at H
  refine AG.yes rfl (by rw [beq_eq_false_iff_ne.2 hc1]; rfl) ?_
  refine AG.seq ?_
  refine AG.region HM ?_
  refine a_move (v := vB _) ?_
  refine RA.nil nofun ?_
  refine AG.ret ?_
  obtain rfl := Option.some.inj H
  exact RetP.mk id ⟨rfl, trivial⟩ trivial rfl
/-! ### laws_eqFaceS: function 44 -/
def laws_eqFaceS.l0 : Nat → List S98 → List S98 → Int → Option (Bool)
 | 0, _, _, _ => none
 | k + 1, x0, x1, x5 => if x5 < (x0.length : Int) then (if 0 ≤ x5 then (if x5 < (x1.length : Int) then ((laws_eqFace.f k ((rd98 x0 x5).f0) ((rd98 x0 x5).f1) ((rd98 x1 x5).f0) ((rd98 x1 x5).f1)).bind fun t5 => (if t5 = true then (laws_eqFaceS.l0 k x0 x1 (wrap64 (x5 + 1))) else (some false))) else (none)) else (none)) else (some true)
def laws_eqFaceS.f (k : Nat) (l0 : List S98) (l1 : List S98) : Option (Bool) := if (l0.length : Int) = (l1.length : Int) then (laws_eqFaceS.l0 k l0 l1 0) else (some false)
set_option maxRecDepth 100000 in
theorem laws_eqFaceS.ok {k : Nat} {l0 : List S98} {l1 : List S98} {r : Bool} (H : laws_eqFaceS.f k l0 l1 = some r) : OkF Try.prog 44 [vR 101 (l0.map c98), vR 101 (l1.map c98)] [] (.c (.d (.v (.bool r)))) [] := by
 unfold laws_eqFaceS.f at H
 refine OkF.of (N := 27) (rs := [4]) (avs := [.c (.d (.v (.bool r)))]) Try.func44 rfl rfl (fun _ _ => results_tmp rfl _ _ _) (by decide) rfl rfl rfl rfl (fun w0 S => ?_)
 refine AG.seq ?_
 refine AG.region HM ?_
 refine a_move (v := vB _) ?_
 refine RA.nil nofun ?_
 refine AG.seq ?_
 refine AG.seq ?_
 refine AG.region HM ?_
 refine a_move (v := vR _ _) ?_
 refine a_lenR ?_ Try.underlying47
 refine a_move (v := vR _ _) ?_
 refine a_lenR ?_ Try.underlying47
 refine a_int (u := .bool (((l0.length : Int) != (l1.length : Int)))) ?_
 refine RA.nil nofun ?_
 by_cases hc1 : (l0.length : Int) = (l1.length : Int)
 ·rw [if_pos hc1] at H
  refine AG.no rfl (bne_eq_false_iff_eq.2 hc1) ?_
  refine AG.skip ?_
  refine AG.seq ?_
  refine AG.seq ?_
  refine AG.region HM ?_
  refine a_move (v := vI _) ?_
  refine RA.nil nofun ?_
  refine AG.block ?_
  refine AG.loop ?_
  obtain ⟨K0, hK0, gK0⟩ : ∃ K, k ≤ K ∧ K ≤ k := ⟨k, Nat.le_refl k, Nat.le_refl k⟩
  refine AGr.canon id (AGr.loopI (n := k) (fun k s => k ≤ K0 ∧ ∃ (x0 : List S98) (x1 : List S98) (x5 : Int), laws_eqFaceS.l0 k x0 x1 x5 = some r ∧ s = St.of [(0, vR 101 (x0.map c98)), (1, vR 101 (x1.map c98)), (5, vI x5)] []) ⟨hK0, _, _, _, H, rfl⟩ ?_ ?_) ⟨rfl, rfl, rfl, trivial⟩ trivial rfl
  ·rintro _ ⟨_, _, _, _, H, _⟩
   cases H
  ·clear H hK0
   rintro k ih0 _ ⟨hK0, x0, x1, x5, H, rfl⟩
   unfold laws_eqFaceS.l0 at H
   refine AG.seq ?_
   refine AG.seq ?_
   refine AG.region HM ?_
   refine a_move (v := vI _) ?_
   refine a_move (v := vR _ _) ?_
   refine a_lenR ?_ Try.underlying47
   refine a_int (u := .bool (decide (x5 < (x0.length : Int)))) ?_
   refine RA.nil nofun ?_
   by_cases hc2 : x5 < (x0.length : Int)
   ·rw [if_pos hc2] at H
    refine AG.yes rfl (decide_eq_true hc2) ?_
    refine AG.skip ?_
    refine AG.seq ?_
    refine AG.block ?_
    refine AG.seq ?_
    refine AG.region HM ?_
    refine a_move (v := vR _ _) ?_
    refine a_move (v := vI _) ?_
    by_cases hc3 : 0 ≤ x5
    ·rw [if_pos hc3] at H
     refine a_ixR (el := c98 (rd98 x0 x5)) ?_ ⟨hc3, hc2⟩ T101 Try.underlying47 (hel := R98 hc3 hc2)
     refine a_ldR (v := .agg [_, _]) ?_ T101
     refine a_move (v := vR _ _) ?_
     refine a_move (v := vI _) ?_
     by_cases hc4 : x5 < (x1.length : Int)
     ·rw [if_pos hc4] at H
      refine a_ixR (el := c98 (rd98 x1 x5)) ?_ ⟨hc3, hc4⟩ T101 Try.underlying47 (hel := R98 hc3 hc4)
      refine a_ldR (v := .agg [_, _]) ?_ T101
      obtain ⟨t5, e6, H⟩ := bindO H
      refine a_call (v := vB t5) (nk := []) (L := []) ?_ rfl (laws_eqFace.ok e6) id (qg (qg qn)) trivial trivial trivial rfl
      refine a_un (u := .bool (!t5)) ?_
      refine RA.nil (fun _ => by kernel_rfl) ?_
      by_cases hc7 : t5 = true
      ·rw [if_pos hc7] at H
       refine AG.no rfl (congrArg Bool.not hc7) ?_
       refine AG.skip ?_
       refine AG.region HM ?_
       refine a_move (v := vI _) ?_
       refine a_int (u := .int .i64 (wrap64 (x5 + 1))) ?_
       refine a_move (v := vI _) ?_
       refine RA.nil nofun ?_
       exact AGr.canon id (ih0 _ (by omega) _ ⟨by omega, _, _, _, H, rfl⟩) ⟨rfl, rfl, rfl, trivial⟩ trivial rfl
      ·rw [if_neg hc7] at H
       refine AG.yes rfl (congrArg Bool.not (Bool.eq_false_iff.2 hc7)) ?_
       refine AG.seq ?_
       refine AG.region HM ?_
       refine a_move (v := vB _) ?_
       refine RA.nil nofun ?_
       refine AG.ret ?_
       obtain rfl := Option.some.inj H
       exact RetP.mk id ⟨rfl, trivial⟩ trivial rfl
     ·rw [if_neg hc4] at H
      cases H
    ·rw [if_neg hc3] at H
     cases H
   ·rw [if_neg hc2] at H
    refine AG.no rfl (decide_eq_false hc2) ?_
    refine AG.exit ?_
    refine AG.seq ?_
    refine AG.region HM ?_
    refine a_move (v := vB _) ?_
    refine RA.nil nofun ?_
    refine AG.ret ?_
    obtain rfl := Option.some.inj H
    exact RetP.mk id ⟨rfl, trivial⟩ trivial rfl
 ·rw [if_neg hc1] at H
  refine AG.yes rfl (bne_iff_ne.2 hc1) ?_
  refine AG.seq ?_
  refine AG.region HM ?_
  refine a_move (v := vB _) ?_
  refine RA.nil nofun ?_
  refine AG.ret ?_
  obtain rfl := Option.some.inj H
  exact RetP.mk id ⟨rfl, trivial⟩ trivial rfl
/-! ### laws_eqDrawing: function 20 -/
def laws_eqDrawing.f (k : Nat) (a0_0 : Int) (a0_1 : Int) (l0_2 : List S107) (l0_3 : List S98) (a1_0 : Int) (a1_1 : Int) (l1_2 : List S107) (l1_3 : List S98) : Option (Bool) := if a0_0 = a1_0 then (if a0_1 = a1_1 then ((laws_eqPointS.f k l0_2 l1_2).bind fun t3 => (if t3 = true then ((laws_eqFaceS.f k l0_3 l1_3).bind fun t6 => (if t6 = true then (some true) else (some false))) else (some false))) else (some false)) else (some false)
set_option maxRecDepth 100000 in
theorem laws_eqDrawing.ok {k : Nat} {a0_0 : Int} {a0_1 : Int} {l0_2 : List S107} {l0_3 : List S98} {a1_0 : Int} {a1_1 : Int} {l1_2 : List S107} {l1_3 : List S98} {r : Bool} (H : laws_eqDrawing.f k a0_0 a0_1 l0_2 l0_3 a1_0 a1_1 l1_2 l1_3 = some r) : OkF Try.prog 20 [.agg [.d (.v (.int .i64 a0_0)), .d (.v (.int .i64 a0_1)), .d (.row 108 (l0_2.map c107)), .d (.row 101 (l0_3.map c98))], .agg [.d (.v (.int .i64 a1_0)), .d (.v (.int .i64 a1_1)), .d (.row 108 (l1_2.map c107)), .d (.row 101 (l1_3.map c98))]] [] (.c (.d (.v (.bool r)))) [] := by
 unfold laws_eqDrawing.f at H
 refine OkF.of (N := 27) (rs := [4]) (avs := [.c (.d (.v (.bool r)))]) Try.func20 rfl rfl (fun _ _ => results_tmp rfl _ _ _) (by decide) rfl rfl rfl rfl (fun w0 S => ?_)
 refine AG.seq ?_
 refine AG.region HM ?_
 refine a_box 200 ?_
 refine a_box 201 ?_
 refine a_move (v := vB _) ?_
 refine RA.nil nofun ?_
 refine AG.seq ?_
 refine AG.seq ?_
 refine AG.region HM ?_
 refine a_faB (q := 0) ?_ D49_0
 refine a_ldB (v := vI _) ?_ T2
 refine a_faB (q := 0) ?_ D49_0
 refine a_ldB (v := vI _) ?_ T2
 refine a_int (u := .bool ((a0_0 != a1_0))) ?_
 refine RA.nil nofun ?_
 by_cases hc1 : a0_0 = a1_0
 ·rw [if_pos hc1] at H
  refine AG.no rfl (bne_eq_false_iff_eq.2 hc1) ?_
  refine AG.skip ?_
  refine AG.seq ?_
  refine AG.seq ?_
  refine AG.region HM ?_
  refine a_faB (q := 1) ?_ D49_1
  refine a_ldB (v := vI _) ?_ T2
  refine a_faB (q := 1) ?_ D49_1
  refine a_ldB (v := vI _) ?_ T2
  refine a_int (u := .bool ((a0_1 != a1_1))) ?_
  refine RA.nil nofun ?_
  by_cases hc2 : a0_1 = a1_1
  ·rw [if_pos hc2] at H
   refine AG.no rfl (bne_eq_false_iff_eq.2 hc2) ?_
   refine AG.skip ?_
   refine AG.seq ?_
   refine AG.seq ?_
   refine AG.region HM ?_
   refine a_faB (q := 2) ?_ D49_2
   refine a_ldB (v := vR _ _) ?_ T46
   refine a_faB (q := 2) ?_ D49_2
   refine a_ldB (v := vR _ _) ?_ T46
   obtain ⟨t3, e4, H⟩ := bindO H
   refine a_call (v := vB t3) (nk := []) (L := []) ?_ rfl (laws_eqPointS.ok e4) id (qd (qd qn)) trivial trivial trivial rfl
   refine a_un (u := .bool (!t3)) ?_
   refine RA.nil nofun ?_
   by_cases hc5 : t3 = true
   ·rw [if_pos hc5] at H
    refine AG.no rfl (congrArg Bool.not hc5) ?_
    refine AG.skip ?_
    refine AG.seq ?_
    refine AG.seq ?_
    refine AG.region HM ?_
    refine a_faB (q := 3) ?_ D49_3
    refine a_ldB (v := vR _ _) ?_ T47
    refine a_faB (q := 3) ?_ D49_3
    refine a_ldB (v := vR _ _) ?_ T47
    obtain ⟨t6, e7, H⟩ := bindO H
    refine a_call (v := vB t6) (nk := []) (L := []) ?_ rfl (laws_eqFaceS.ok e7) id (qd (qd qn)) trivial trivial trivial rfl
    refine a_un (u := .bool (!t6)) ?_
    refine RA.nil nofun ?_
    by_cases hc8 : t6 = true
    ·rw [if_pos hc8] at H
     refine AG.no rfl (congrArg Bool.not hc8) ?_
     refine AG.skip ?_
     refine AG.seq ?_
     refine AG.region HM ?_
     refine a_move (v := vB _) ?_
     refine RA.nil nofun ?_
     refine AG.ret ?_
     obtain rfl := Option.some.inj H
     exact RetP.mk id ⟨rfl, trivial⟩ trivial rfl
    ·rw [if_neg hc8] at H
     refine AG.yes rfl (congrArg Bool.not (Bool.eq_false_iff.2 hc8)) ?_
     refine AG.seq ?_
     refine AG.region HM ?_
     refine a_move (v := vB _) ?_
     refine RA.nil nofun ?_
     refine AG.ret ?_
     obtain rfl := Option.some.inj H
     exact RetP.mk id ⟨rfl, trivial⟩ trivial rfl
   ·rw [if_neg hc5] at H
    refine AG.yes rfl (congrArg Bool.not (Bool.eq_false_iff.2 hc5)) ?_
    refine AG.seq ?_
    refine AG.region HM ?_
    refine a_move (v := vB _) ?_
    refine RA.nil nofun ?_
    refine AG.ret ?_
    obtain rfl := Option.some.inj H
    exact RetP.mk id ⟨rfl, trivial⟩ trivial rfl
  ·rw [if_neg hc2] at H
   refine AG.yes rfl (bne_iff_ne.2 hc2) ?_
   refine AG.seq ?_
   refine AG.region HM ?_
   refine a_move (v := vB _) ?_
   refine RA.nil nofun ?_
   refine AG.ret ?_
   obtain rfl := Option.some.inj H
   exact RetP.mk id ⟨rfl, trivial⟩ trivial rfl
 ·rw [if_neg hc1] at H
  refine AG.yes rfl (bne_iff_ne.2 hc1) ?_
  refine AG.seq ?_
  refine AG.region HM ?_
  refine a_move (v := vB _) ?_
  refine RA.nil nofun ?_
  refine AG.ret ?_
  obtain rfl := Option.some.inj H
  exact RetP.mk id ⟨rfl, trivial⟩ trivial rfl
/-! ### spec_l00In: function 62 -/
def spec_l00In.f (a0 : Int) (a1 : Int) (a2 : Int) : Option (Bool) := if a0 ≥ a1 then (some (decide (a0 ≤ a2))) else (some false)
set_option maxRecDepth 100000 in
theorem spec_l00In.ok {a0 : Int} {a1 : Int} {a2 : Int} {r : Bool} (H : spec_l00In.f a0 a1 a2 = some r) : OkF Try.prog 62 [vI a0, vI a1, vI a2] [] (.c (.d (.v (.bool r)))) [] := by
 unfold spec_l00In.f at H
 refine OkF.of (N := 15) (rs := [6]) (avs := [.c (.d (.v (.bool r)))]) Try.func62 rfl rfl (fun _ _ => results_tmp rfl _ _ _) (by decide) rfl rfl rfl rfl (fun w0 S => ?_)
 refine AG.seq ?_
 refine AG.region HM ?_
 refine a_move (v := vB _) ?_
 refine RA.nil nofun ?_
 refine AG.seq ?_
 refine AG.region HM ?_
 refine a_move (v := vI _) ?_
 refine a_move (v := vI _) ?_
 refine a_int (u := .bool (decide (a0 ≥ a1))) ?_
 refine a_move (v := vB _) ?_
 by_cases hc1 : a0 ≥ a1
 ·rw [if_pos hc1] at H
  refine a_move (v := vI _) ?_ (hg := Gs.yes rfl rfl rfl (decide_eq_true hc1))
  refine a_move (v := vI _) ?_ (hg := Gs.yes rfl rfl rfl (decide_eq_true hc1))
  refine a_int (u := .bool (decide (a0 ≤ a2))) ?_ (hg := Gs.yes rfl rfl rfl (decide_eq_true hc1))
  refine a_pick (b := true) (v := vB _) ?_ (decide_eq_true hc1)
  refine a_move (v := vB _) ?_
  refine RA.nil nofun ?_
  refine AG.ret ?_
  obtain rfl := Option.some.inj H
  exact RetP.mk id ⟨rfl, trivial⟩ trivial rfl
 ·rw [if_neg hc1] at H
  refine RA.skip rfl rfl rfl rfl rfl (decide_eq_false hc1) (by decide) ?_
  refine RA.skip rfl rfl rfl rfl rfl (decide_eq_false hc1) (by decide) ?_
  refine RA.skip rfl rfl rfl rfl rfl (decide_eq_false hc1) (by decide) ?_
  refine a_pick (b := false) (v := vB _) ?_ (decide_eq_false hc1)
  refine a_move (v := vB _) ?_
  refine RA.nil nofun ?_
  refine AG.ret ?_
  obtain rfl := Option.some.inj H
  exact RetP.mk id ⟨rfl, trivial⟩ trivial rfl
/-! ### spec_l07Names: function 116 -/
def spec_l07Names.f  : Option ((List ByteArray)) := some ([(⟨#[97, 115, 104]⟩ : ByteArray), (⟨#[98, 101, 101, 99, 104]⟩ : ByteArray), (⟨#[98, 105, 114, 99, 104]⟩ : ByteArray), (⟨#[99, 104, 101, 114, 114, 121]⟩ : ByteArray), (⟨#[101, 98, 111, 110, 121]⟩ : ByteArray), (⟨#[104, 111, 108, 108, 121]⟩ : ByteArray), (⟨#[109, 97, 112, 108, 101]⟩ : ByteArray), (⟨#[111, 97, 107]⟩ : ByteArray), (⟨#[114, 111, 115, 101, 119, 111, 111, 100]⟩ : ByteArray), (⟨#[119, 97, 108, 110, 117, 116]⟩ : ByteArray)])
set_option maxRecDepth 100000 in
theorem spec_l07Names.ok {r : List ByteArray} (H : spec_l07Names.f  = some r) : OkF Try.prog 116 [] [] (.c (.own 100 r.length)) [(100, .row 9 (r.map c9))] := by
 unfold spec_l07Names.f at H
 refine OkF.of (N := 2) (rs := [0]) (avs := [.c (.own 100 r.length)]) Try.func116 rfl rfl (fun _ _ => results_tmp rfl _ _ _) (by decide) rfl rfl rfl rfl (fun w0 S => ?_)
 refine AG.seq ?_
 refine AG.region HM ?_
 refine a_nilO (e := 9) 200 ?_ T9
 refine RA.nil nofun ?_
 refine AG.seq ?_
 refine AG.region HM ?_
 refine a_lit (cs := [_, _, _, _, _, _, _, _, _, _]) (D := []) (css := ([(⟨#[97, 115, 104]⟩ : ByteArray), (⟨#[98, 101, 101, 99, 104]⟩ : ByteArray), (⟨#[98, 105, 114, 99, 104]⟩ : ByteArray), (⟨#[99, 104, 101, 114, 114, 121]⟩ : ByteArray), (⟨#[101, 98, 111, 110, 121]⟩ : ByteArray), (⟨#[104, 111, 108, 108, 121]⟩ : ByteArray), (⟨#[109, 97, 112, 108, 101]⟩ : ByteArray), (⟨#[111, 97, 107]⟩ : ByteArray), (⟨#[114, 111, 115, 101, 119, 111, 111, 100]⟩ : ByteArray), (⟨#[119, 97, 108, 110, 117, 116]⟩ : ByteArray)]).map c9) 201 ?_ N147 T9 (hcss := by rfl)
 refine a_move (v := .c (.own _ _)) ?_
 refine RA.nil nofun ?_
 refine AG.ret ?_
 obtain rfl := Option.some.inj H
 exact RetP.mk (fun κ => cond (Nat.beq κ 100) 201 (κ)) ⟨(ownE rfl (by simp)), trivial⟩ ⟨rfl, trivial⟩ rfl
/-! ### spec_l07Find: function 104 -/
def spec_l07Find.l0 : Nat → ByteArray → List ByteArray → Int → Option (Int)
 | 0, _, _, _ => none
 | k + 1, x0, x3, x4 => if x4 < (x3.length : Int) then (if 0 ≤ x4 then (if (rd9 x3 x4).toList = x0.toList then (some x4) else (spec_l07Find.l0 k x0 x3 (wrap64 (x4 + 1)))) else (none)) else (some (-1))
def spec_l07Find.f (k : Nat) (a0 : ByteArray) : Option (Int) := (spec_l07Names.f).bind fun t1 => (spec_l07Find.l0 k a0 t1 0)
set_option maxRecDepth 100000 in
theorem spec_l07Find.ok {k : Nat} {a0 : ByteArray} {r : Int} (H : spec_l07Find.f k a0 = some r) : OkF Try.prog 104 [vS a0] [] (.c (.d (.v (.int .i64 r)))) [] := by
 unfold spec_l07Find.f at H
 refine OkF.of (N := 19) (rs := [2]) (avs := [.c (.d (.v (.int .i64 r)))]) Try.func104 rfl rfl (fun _ _ => results_tmp rfl _ _ _) (by decide) rfl rfl rfl rfl (fun w0 S => ?_)
 refine AG.seq ?_
 refine AG.region HM ?_
 refine a_move (v := vI _) ?_
 refine RA.nil nofun ?_
 refine AG.seq ?_
 refine AG.region HM ?_
 obtain ⟨t1, e2, H⟩ := bindO H
 refine a_call (v := .c (.own 200 t1.length)) (nk := [(200, .row 9 (t1.map c9))]) (L := []) ?_ rfl (spec_l07Names.ok e2) (fun κ => cond (Nat.beq κ 200) 100 (κ)) qn trivial ⟨rfl, trivial⟩ ⟨rfl, trivial⟩ rfl
 refine a_move (v := .c (.own _ _)) ?_
 refine RA.nil nofun ?_
 refine AG.seq ?_
 refine AG.seq ?_
 refine AG.region HM ?_
 refine a_move (v := vI _) ?_
 refine RA.nil nofun ?_
 refine AG.block ?_
 refine AG.loop ?_
 obtain ⟨K0, hK0, gK0⟩ : ∃ K, k ≤ K ∧ K ≤ k := ⟨k, Nat.le_refl k, Nat.le_refl k⟩
 refine AGr.canon (fun κ => cond (Nat.beq κ 201) 200 (κ)) (AGr.loopI (n := k) (fun k s => k ≤ K0 ∧ ∃ (x0 : ByteArray) (x3 : List ByteArray) (x4 : Int), spec_l07Find.l0 k x0 x3 x4 = some r ∧ s = St.of [(0, vS x0), (3, .c (.own 201 x3.length)), (4, vI x4)] [(201, .row 9 (x3.map c9))]) ⟨hK0, _, _, _, H, rfl⟩ ?_ ?_) ⟨rfl, rfl, rfl, trivial⟩ ⟨rfl, trivial⟩ rfl
 ·rintro _ ⟨_, _, _, _, H, _⟩
  cases H
 ·clear H hK0
  rintro k ih0 _ ⟨hK0, x0, x3, x4, H, rfl⟩
  unfold spec_l07Find.l0 at H
  refine AG.seq ?_
  refine AG.seq ?_
  refine AG.region HM ?_
  refine a_move (v := vI _) ?_
  refine a_move (v := .c (.own _ _)) ?_
  refine a_lenO ?_ Try.underlying147
  refine a_int (u := .bool (decide (x4 < (x3.length : Int)))) ?_
  refine RA.nil nofun ?_
  by_cases hc3 : x4 < (x3.length : Int)
  ·rw [if_pos hc3] at H
   refine AG.yes rfl (decide_eq_true hc3) ?_
   refine AG.skip ?_
   refine AG.seq ?_
   refine AG.block ?_
   refine AG.seq ?_
   refine AG.region HM ?_
   refine a_move (v := .c (.own _ _)) ?_
   refine a_move (v := vI _) ?_
   by_cases hc4 : 0 ≤ x4
   ·rw [if_pos hc4] at H
    refine a_ixO ?_ ⟨hc4, hc3⟩ T9 Try.underlying147
    refine a_ldE (v := vS _) ?_ (G9 hc4 hc3) T9
    refine a_move (v := vS _) ?_
    refine a_bin (u := .bool ((rd9 x3 x4).toList == x0.toList)) ?_
    refine RA.nil nofun ?_
    by_cases hc5 : (rd9 x3 x4).toList = x0.toList
    ·rw [if_pos hc5] at H
     refine AG.yes rfl (beq_iff_eq.2 hc5) ?_
     refine AG.seq ?_
     refine AG.region HM ?_
     refine a_move (v := vI _) ?_
     refine a_move (v := vI _) ?_
     refine RA.nil nofun ?_
     refine AG.ret ?_
     obtain rfl := Option.some.inj H
     exact RetP.mk id ⟨rfl, trivial⟩ trivial rfl
    ·rw [if_neg hc5] at H
     refine AG.no rfl (beq_eq_false_iff_ne.2 hc5) ?_
     refine AG.skip ?_
     refine AG.region HM ?_
     refine a_move (v := vI _) ?_
     refine a_int (u := .int .i64 (wrap64 (x4 + 1))) ?_
     refine a_move (v := vI _) ?_
     refine RA.nil nofun ?_
     exact AGr.canon id (ih0 _ (by omega) _ ⟨by omega, _, _, _, H, rfl⟩) ⟨rfl, rfl, rfl, trivial⟩ ⟨rfl, trivial⟩ rfl
   ·rw [if_neg hc4] at H
    cases H
  ·rw [if_neg hc3] at H
   refine AG.no rfl (decide_eq_false hc3) ?_
   refine AG.exit ?_
   refine AG.seq ?_
   refine AG.region HM ?_
   refine a_move (v := vI _) ?_
   refine RA.nil nofun ?_
   refine AG.ret ?_
   obtain rfl := Option.some.inj H
   exact RetP.mk id ⟨rfl, trivial⟩ trivial rfl
/-! ### spec_l07Table: function 105 -/
def spec_l07Table.f  : Option ((List (List Int))) := some ([([20, 40, 310]), ([35, 45, 410]), ([15, 33, 280]), ([50, 36, 240]), ([95, 85, 270]), ([5, 35, 370]), ([10, 42, 290]), ([40, 40, 330]), ([80, 60, 220]), ([70, 38, 260])])
set_option maxRecDepth 100000 in
theorem spec_l07Table.ok {r : List (List Int)} (H : spec_l07Table.f  = some r) : OkF Try.prog 105 [] [] (.c (.own 100 r.length)) [(100, .row 23 (r.map c23))] := by
 unfold spec_l07Table.f at H
 refine OkF.of (N := 12) (rs := [0]) (avs := [.c (.own 100 r.length)]) Try.func105 rfl rfl (fun _ _ => results_tmp rfl _ _ _) (by decide) rfl rfl rfl rfl (fun w0 S => ?_)
 refine AG.seq ?_
 refine AG.region HM ?_
 refine a_nilO (e := 23) 200 ?_ T23
 refine RA.nil nofun ?_
 refine AG.seq ?_
 refine AG.region HM ?_
 refine a_lit (cs := [_, _, _]) (D := []) (css := ([20, 40, 310]).map c2) 201 ?_ N23 T2 (hcss := by rfl)
 refine a_lit (cs := [_, _, _]) (D := []) (css := ([35, 45, 410]).map c2) 202 ?_ N23 T2 (hcss := by rfl)
 refine a_lit (cs := [_, _, _]) (D := []) (css := ([15, 33, 280]).map c2) 203 ?_ N23 T2 (hcss := by rfl)
 refine a_lit (cs := [_, _, _]) (D := []) (css := ([50, 36, 240]).map c2) 204 ?_ N23 T2 (hcss := by rfl)
 refine a_lit (cs := [_, _, _]) (D := []) (css := ([95, 85, 270]).map c2) 205 ?_ N23 T2 (hcss := by rfl)
 refine a_lit (cs := [_, _, _]) (D := []) (css := ([5, 35, 370]).map c2) 206 ?_ N23 T2 (hcss := by rfl)
 refine a_lit (cs := [_, _, _]) (D := []) (css := ([10, 42, 290]).map c2) 207 ?_ N23 T2 (hcss := by rfl)
 refine a_lit (cs := [_, _, _]) (D := []) (css := ([40, 40, 330]).map c2) 208 ?_ N23 T2 (hcss := by rfl)
 refine a_lit (cs := [_, _, _]) (D := []) (css := ([80, 60, 220]).map c2) 209 ?_ N23 T2 (hcss := by rfl)
 refine a_lit (cs := [_, _, _]) (D := []) (css := ([70, 38, 260]).map c2) 210 ?_ N23 T2 (hcss := by rfl)
 refine a_lit (cs := [_, _, _, _, _, _, _, _, _, _]) (D := [201, 202, 203, 204, 205, 206, 207, 208, 209, 210]) (css := ([([20, 40, 310]), ([35, 45, 410]), ([15, 33, 280]), ([50, 36, 240]), ([95, 85, 270]), ([5, 35, 370]), ([10, 42, 290]), ([40, 40, 330]), ([80, 60, 220]), ([70, 38, 260])]).map c23) 211 ?_ N27 T23 (hcss := by rfl)
 refine a_move (v := .c (.own _ _)) ?_
 refine RA.nil nofun ?_
 refine AG.ret ?_
 obtain rfl := Option.some.inj H
 exact RetP.mk (fun κ => cond (Nat.beq κ 100) 211 (κ)) ⟨(ownE rfl (by simp)), trivial⟩ ⟨rfl, trivial⟩ rfl
/-! ### spec_l07Grain: function 106 -/
def spec_l07Grain.f (a0 : Int) : Option (Bool) := (spec_l00In.f a0 0 179).bind fun t1 => (some t1)
set_option maxRecDepth 100000 in
theorem spec_l07Grain.ok {a0 : Int} {r : Bool} (H : spec_l07Grain.f a0 = some r) : OkF Try.prog 106 [vI a0] [] (.c (.d (.v (.bool r)))) [] := by
 unfold spec_l07Grain.f at H
 refine OkF.of (N := 5) (rs := [2]) (avs := [.c (.d (.v (.bool r)))]) Try.func106 rfl rfl (fun _ _ => results_tmp rfl _ _ _) (by decide) rfl rfl rfl rfl (fun w0 S => ?_)
 refine AG.seq ?_
 refine AG.region HM ?_
 refine a_move (v := vB _) ?_
 refine RA.nil nofun ?_
 refine AG.seq ?_
 refine AG.region HM ?_
 refine a_move (v := vI _) ?_
 obtain ⟨t1, e2, H⟩ := bindO H
 refine a_call (v := vB t1) (nk := []) (L := []) ?_ rfl (spec_l00In.ok e2) id (qd (qd (qd qn))) trivial trivial trivial rfl
 refine a_move (v := vB _) ?_
 refine RA.nil nofun ?_
 refine AG.ret ?_
 obtain rfl := Option.some.inj H
 exact RetP.mk id ⟨rfl, trivial⟩ trivial rfl
/-! ### spec_l07Ok: function 86 -/
def spec_l07Ok.j0 : Nat → Int → Int → Int → Bool → Option (Bool)
 | 0, _, _, _, _ => none
 | k + 1, x0_1, x0_2, x3, x19 => if x19 = true then (some false) else ((spec_l07Table.f).bind fun t7 => (if 0 ≤ x3 then (if x3 < (t7.length : Int) then (if 0 < ((rd23 t7 x3).length : Int) then ((spec_l00In.f x0_1 (wrap64 ((rd2 (rd23 t7 x3) 0) - 15)) (wrap64 ((rd2 (rd23 t7 x3) 0) + 15))).bind fun t11 => (if t11 = true then ((spec_l07Grain.f x0_2).bind fun t14 => (some t14)) else (some false))) else (none)) else (none)) else (none)))
def spec_l07Ok.f (k : Nat) (a0_0 : ByteArray) (a0_1 : Int) (a0_2 : Int) : Option (Bool) := (spec_l07Find.f k a0_0).bind fun t1 => (if t1 < 0 then (spec_l07Ok.j0 k a0_1 a0_2 t1 true) else ((spec_l00In.f a0_1 0 100).bind fun t4 => (spec_l07Ok.j0 k a0_1 a0_2 t1 (!t4))))
set_option maxRecDepth 100000 in
theorem spec_l07Ok.ok {k : Nat} {a0_0 : ByteArray} {a0_1 : Int} {a0_2 : Int} {r : Bool} (H : spec_l07Ok.f k a0_0 a0_1 a0_2 = some r) : OkF Try.prog 86 [.c (.d (.ro [.v (.string a0_0), .v (.int .i64 a0_1), .v (.int .i64 a0_2)]))] [] (.c (.d (.v (.bool r)))) [] := by
 unfold spec_l07Ok.f at H
 refine OkF.of (N := 42) (rs := [2]) (avs := [.c (.d (.v (.bool r)))]) Try.func86 rfl rfl (fun _ _ => results_tmp rfl _ _ _) (by decide) rfl rfl rfl rfl (fun w0 S => ?_)
 refine AG.seq ?_
 refine AG.region HM ?_
 refine a_move (v := vB _) ?_
 refine RA.nil nofun ?_
 refine AG.seq ?_
 refine AG.region HM ?_
 refine a_move (v := vO [_, _, _]) ?_
 refine a_nil (v := vO [_, _, _]) ?_
 refine a_faR (cells' := [_, _, _]) ?_ D90_0
 refine a_ldR (v := vS _) ?_ T9
 obtain ⟨t1, e2, H⟩ := bindO H
 refine a_call (v := vI t1) (nk := []) (L := []) ?_ rfl (spec_l07Find.ok e2) id (qd qn) trivial trivial trivial rfl
 refine a_move (v := vI _) ?_
 refine RA.nil nofun ?_
 refine AG.seq ?_
 refine AG.seq ?_
 refine AG.joinR (fun s => ∃ q, q ≤ k ∧ ∃ (x0_0 : ByteArray) (x0_1 : Int) (x0_2 : Int) (x3 : Int) (x19 : Bool), spec_l07Ok.j0 q x0_1 x0_2 x3 x19 = some r ∧ s = St.of [(0, .c (.d (.ro [.v (.string x0_0), .v (.int .i64 x0_1), .v (.int .i64 x0_2)]))), (3, vI x3), (19, vB x19)] []) ?_ ?_
 ·skip
  refine AG.region HM ?_
  refine a_move (v := vI _) ?_
  refine a_int (u := .bool (decide (t1 < 0))) ?_
  refine a_move (v := vB _) ?_
  by_cases hc3 : t1 < 0
  ·rw [if_pos hc3] at H
   refine RA.skip rfl rfl rfl rfl rfl (decide_eq_true hc3) (by decide) ?_
   refine RA.skip rfl rfl rfl rfl rfl (decide_eq_true hc3) (by decide) ?_
   refine RA.skip rfl rfl rfl rfl rfl (decide_eq_true hc3) (by decide) ?_
   refine RA.skip rfl rfl rfl rfl rfl (decide_eq_true hc3) (by decide) ?_
   refine RA.skip rfl rfl rfl rfl rfl (decide_eq_true hc3) (by decide) ?_
   refine RA.skip rfl rfl rfl rfl rfl (decide_eq_true hc3) (by decide) ?_
   refine a_pick (b := true) (v := vB _) ?_ (decide_eq_true hc3)
   refine RA.nil nofun ?_
   exact CanR.mk id ⟨_, (by omega), _, _, _, _, _, H, rfl⟩ ⟨rfl, rfl, rfl, trivial⟩ trivial rfl
  ·rw [if_neg hc3] at H
   refine a_move (v := vO [_, _, _]) ?_ (hg := Gs.yes rfl rfl rfl (decide_eq_false hc3))
   refine a_nil (v := vO [_, _, _]) ?_ (hg := Gs.yes rfl rfl rfl (decide_eq_false hc3))
   refine a_faR (cells' := [_, _]) ?_ D90_1 (hg := Gs.yes rfl rfl rfl (decide_eq_false hc3))
   refine a_ldR (v := vI _) ?_ T2 (hg := Gs.yes rfl rfl rfl (decide_eq_false hc3))
   obtain ⟨t4, e5, H⟩ := bindO H
   refine a_call (v := vB t4) (nk := []) (L := []) ?_ rfl (spec_l00In.ok e5) id (qd (qd (qd qn))) trivial trivial trivial rfl (hg := Gs.yes rfl rfl rfl (decide_eq_false hc3))
   refine a_un (u := .bool (!t4)) ?_ (hg := Gs.yes rfl rfl rfl (decide_eq_false hc3))
   refine a_pick (b := false) (v := vB _) ?_ (decide_eq_false hc3)
   refine RA.nil nofun ?_
   exact CanR.mk id ⟨_, (by omega), _, _, _, _, _, H, rfl⟩ ⟨rfl, rfl, rfl, trivial⟩ trivial rfl
 ·clear H
  rintro _ ⟨k, hj0, x0_0, x0_1, x0_2, x3, x19, H, rfl⟩
  cases k with
  | zero => cases H
  | succ k =>
   rw [spec_l07Ok.j0] at H
   by_cases hc6 : x19 = true
   ·rw [if_pos hc6] at H
    refine AG.yes rfl hc6 ?_
    refine AG.seq ?_
    refine AG.region HM ?_
    refine a_move (v := vB _) ?_
    refine RA.nil nofun ?_
    refine AG.ret ?_
    obtain rfl := Option.some.inj H
    exact RetP.mk id ⟨rfl, trivial⟩ trivial rfl
   ·rw [if_neg hc6] at H
    refine AG.no rfl (Bool.eq_false_iff.2 hc6) ?_
    refine AG.skip ?_
    refine AG.seq ?_
    refine AG.region HM ?_
    obtain ⟨t7, et7, H⟩ := bindO H
    refine a_callF (L := []) ?_ rfl (spec_l07Table.ok et7) qn trivial
    refine a_move (v := vI _) ?_
    by_cases hc8 : 0 ≤ x3
    ·rw [if_pos hc8] at H
     by_cases hc9 : x3 < (t7.length : Int)
     ·rw [if_pos hc9] at H
      refine a_ixR (el := c23 (rd23 t7 x3)) ?_ ⟨hc8, hc9⟩ T23 Try.underlying27 (hel := R23 hc8 hc9)
      refine a_ldR (v := vR _ _) ?_ T23
      by_cases hc10 : 0 < ((rd23 t7 x3).length : Int)
      ·rw [if_pos hc10] at H
       refine a_ixR (el := c2 (rd2 (rd23 t7 x3) 0)) ?_ ⟨(by decide), hc10⟩ T2 Try.underlying23 (hel := R2 (by decide) hc10)
       refine a_ldR (v := vI _) ?_ T2
       refine a_move (v := vI _) ?_
       refine RA.nil nofun ?_
       refine AG.seq ?_
       refine AG.region HM ?_
       refine a_move (v := vO [_, _, _]) ?_
       refine a_nil (v := vO [_, _, _]) ?_
       refine a_faR (cells' := [_, _]) ?_ D90_1
       refine a_ldR (v := vI _) ?_ T2
       refine a_move (v := vI _) ?_
       refine a_int (u := .int .i64 (wrap64 ((rd2 (rd23 t7 x3) 0) - 15))) ?_
       refine a_move (v := vI _) ?_
       refine a_int (u := .int .i64 (wrap64 ((rd2 (rd23 t7 x3) 0) + 15))) ?_
       obtain ⟨t11, e12, H⟩ := bindO H
       refine a_call (v := vB t11) (nk := []) (L := []) ?_ rfl (spec_l00In.ok e12) id (qd (qd (qd qn))) trivial trivial trivial rfl
       refine a_move (v := vB _) ?_
       by_cases hc13 : t11 = true
       ·rw [if_pos hc13] at H
        refine a_move (v := vO [_, _, _]) ?_ (hg := Gs.yes rfl rfl rfl hc13)
        refine a_nil (v := vO [_, _, _]) ?_ (hg := Gs.yes rfl rfl rfl hc13)
        refine a_faR (cells' := [_]) ?_ D90_2 (hg := Gs.yes rfl rfl rfl hc13)
        refine a_ldR (v := vI _) ?_ T2 (hg := Gs.yes rfl rfl rfl hc13)
        obtain ⟨t14, e15, H⟩ := bindO H
        refine a_call (v := vB t14) (nk := []) (L := []) ?_ rfl (spec_l07Grain.ok e15) id (qd qn) trivial trivial trivial rfl (hg := Gs.yes rfl rfl rfl hc13)
        refine a_pick (b := true) (v := vB _) ?_ hc13
        refine a_move (v := vB _) ?_
        refine RA.nil nofun ?_
        refine AG.ret ?_
        obtain rfl := Option.some.inj H
        exact RetP.mk id ⟨rfl, trivial⟩ trivial rfl
       ·rw [if_neg hc13] at H
        refine RA.skip rfl rfl rfl rfl rfl (Bool.eq_false_iff.2 hc13) (by decide) ?_
        refine RA.skip rfl rfl rfl rfl rfl (Bool.eq_false_iff.2 hc13) (by decide) ?_
        refine RA.skip rfl rfl rfl rfl rfl (Bool.eq_false_iff.2 hc13) (by decide) ?_
        refine RA.skip rfl rfl rfl rfl rfl (Bool.eq_false_iff.2 hc13) (by decide) ?_
        refine RA.skip rfl rfl rfl rfl rfl (Bool.eq_false_iff.2 hc13) (by decide) ?_
        refine a_pick (b := false) (v := vB _) ?_ (Bool.eq_false_iff.2 hc13)
        refine a_move (v := vB _) ?_
        refine RA.nil nofun ?_
        refine AG.ret ?_
        obtain rfl := Option.some.inj H
        exact RetP.mk id ⟨rfl, trivial⟩ trivial rfl
      ·rw [if_neg hc10] at H
       cases H
     ·rw [if_neg hc9] at H
      cases H
    ·rw [if_neg hc8] at H
     cases H
/-! ### spec_l15Sheets: function 52 -/
def spec_l15Sheets.l0 : Nat → List S86 → Int → Option (Bool)
 | 0, _, _ => none
 | k + 1, x0, x3 => if x3 < (x0.length : Int) then (if 0 ≤ x3 then ((spec_l07Ok.f k ((rd86 x0 x3).f0) ((rd86 x0 x3).f1) ((rd86 x0 x3).f2)).bind fun t3 => (if t3 = true then (spec_l15Sheets.l0 k x0 (wrap64 (x3 + 1))) else (some false))) else (none)) else (if (x0.length : Int) ≥ 1 then (some (decide ((x0.length : Int) ≤ 8))) else (some false))
def spec_l15Sheets.f (k : Nat) (l0 : List S86) : Option (Bool) := spec_l15Sheets.l0 k l0 0
set_option maxRecDepth 100000 in
theorem spec_l15Sheets.ok {k : Nat} {l0 : List S86} {r : Bool} (H : spec_l15Sheets.f k l0 = some r) : OkF Try.prog 52 [vR 90 (l0.map c86)] [] (.c (.d (.v (.bool r)))) [] := by
 unfold spec_l15Sheets.f at H
 refine OkF.of (N := 23) (rs := [2]) (avs := [.c (.d (.v (.bool r)))]) Try.func52 rfl rfl (fun _ _ => results_tmp rfl _ _ _) (by decide) rfl rfl rfl rfl (fun w0 S => ?_)
 refine AG.seq ?_
 refine AG.region HM ?_
 refine a_move (v := vB _) ?_
 refine RA.nil nofun ?_
 refine AG.seq ?_
 refine AG.seq ?_
 refine AG.region HM ?_
 refine a_move (v := vI _) ?_
 refine RA.nil nofun ?_
 refine AG.block ?_
 refine AG.loop ?_
 obtain ⟨K0, hK0, gK0⟩ : ∃ K, k ≤ K ∧ K ≤ k := ⟨k, Nat.le_refl k, Nat.le_refl k⟩
 refine AGr.canon id (AGr.loopI (n := k) (fun k s => k ≤ K0 ∧ ∃ (x0 : List S86) (x3 : Int), spec_l15Sheets.l0 k x0 x3 = some r ∧ s = St.of [(0, vR 90 (x0.map c86)), (3, vI x3)] []) ⟨hK0, _, _, H, rfl⟩ ?_ ?_) ⟨rfl, rfl, trivial⟩ trivial rfl
 ·rintro _ ⟨_, _, _, H, _⟩
  cases H
 ·clear H hK0
  rintro k ih0 _ ⟨hK0, x0, x3, H, rfl⟩
  unfold spec_l15Sheets.l0 at H
  refine AG.seq ?_
  refine AG.seq ?_
  refine AG.region HM ?_
  refine a_move (v := vI _) ?_
  refine a_move (v := vR _ _) ?_
  refine a_lenR ?_ Try.underlying30
  refine a_int (u := .bool (decide (x3 < (x0.length : Int)))) ?_
  refine RA.nil nofun ?_
  by_cases hc1 : x3 < (x0.length : Int)
  ·rw [if_pos hc1] at H
   refine AG.yes rfl (decide_eq_true hc1) ?_
   refine AG.skip ?_
   refine AG.seq ?_
   refine AG.block ?_
   refine AG.seq ?_
   refine AG.region HM ?_
   refine a_move (v := vR _ _) ?_
   refine a_move (v := vI _) ?_
   by_cases hc2 : 0 ≤ x3
   ·rw [if_pos hc2] at H
    refine a_ixR (el := c86 (rd86 x0 x3)) ?_ ⟨hc2, hc1⟩ T90 Try.underlying30 (hel := R86 hc2 hc1)
    obtain ⟨t3, e4, H⟩ := bindO H
    refine a_call (v := vB t3) (nk := []) (L := []) ?_ rfl (spec_l07Ok.ok e4) id (qd qn) trivial trivial trivial rfl
    refine a_un (u := .bool (!t3)) ?_
    refine RA.nil nofun ?_
    by_cases hc5 : t3 = true
    ·rw [if_pos hc5] at H
     refine AG.no rfl (congrArg Bool.not hc5) ?_
     refine AG.skip ?_
     refine AG.region HM ?_
     refine a_move (v := vI _) ?_
     refine a_int (u := .int .i64 (wrap64 (x3 + 1))) ?_
     refine a_move (v := vI _) ?_
     refine RA.nil nofun ?_
     exact AGr.canon id (ih0 _ (by omega) _ ⟨by omega, _, _, H, rfl⟩) ⟨rfl, rfl, trivial⟩ trivial rfl
    ·rw [if_neg hc5] at H
     refine AG.yes rfl (congrArg Bool.not (Bool.eq_false_iff.2 hc5)) ?_
     refine AG.seq ?_
     refine AG.region HM ?_
     refine a_move (v := vB _) ?_
     refine RA.nil nofun ?_
     refine AG.ret ?_
     obtain rfl := Option.some.inj H
     exact RetP.mk id ⟨rfl, trivial⟩ trivial rfl
   ·rw [if_neg hc2] at H
    cases H
  ·rw [if_neg hc1] at H
   refine AG.no rfl (decide_eq_false hc1) ?_
   refine AG.exit ?_
   refine AG.seq ?_
   refine AG.region HM ?_
   refine a_move (v := vR _ _) ?_
   refine a_lenR ?_ Try.underlying30
   refine a_int (u := .bool (decide ((x0.length : Int) ≥ 1))) ?_
   refine a_move (v := vB _) ?_
   by_cases hc6 : (x0.length : Int) ≥ 1
   ·rw [if_pos hc6] at H
    refine a_move (v := vR _ _) ?_ (hg := Gs.yes rfl rfl rfl (decide_eq_true hc6))
    refine a_lenR ?_ Try.underlying30 (hg := Gs.yes rfl rfl rfl (decide_eq_true hc6))
    refine a_int (u := .bool (decide ((x0.length : Int) ≤ 8))) ?_ (hg := Gs.yes rfl rfl rfl (decide_eq_true hc6))
    refine a_pick (b := true) (v := vB _) ?_ (decide_eq_true hc6)
    refine a_move (v := vB _) ?_
    refine RA.nil nofun ?_
    refine AG.ret ?_
    obtain rfl := Option.some.inj H
    exact RetP.mk id ⟨rfl, trivial⟩ trivial rfl
   ·rw [if_neg hc6] at H
    refine RA.skip rfl rfl rfl rfl rfl (decide_eq_false hc6) (by decide) ?_
    refine RA.skip rfl rfl rfl rfl rfl (decide_eq_false hc6) (by decide) ?_
    refine RA.skip rfl rfl rfl rfl rfl (decide_eq_false hc6) (by decide) ?_
    refine a_pick (b := false) (v := vB _) ?_ (decide_eq_false hc6)
    refine a_move (v := vB _) ?_
    refine RA.nil nofun ?_
    refine AG.ret ?_
    obtain rfl := Option.some.inj H
    exact RetP.mk id ⟨rfl, trivial⟩ trivial rfl
/-! ### spec_l15Shifts: function 53 -/
def spec_l15Shifts.l0 : Nat → List Int → Int → Int → Option (Bool)
 | 0, _, _, _ => none
 | k + 1, x0, x1, x5 => if x5 < (x0.length : Int) then (if 0 ≤ x5 then ((spec_l00In.f (rd2 x0 x5) 0 (wrap64 (x1 - 1))).bind fun t3 => (if t3 = true then (spec_l15Shifts.l0 k x0 x1 (wrap64 (x5 + 1))) else (some false))) else (none)) else (some (decide ((x0.length : Int) ≤ 24)))
def spec_l15Shifts.f (k : Nat) (l0 : List Int) (a1 : Int) : Option (Bool) := spec_l15Shifts.l0 k l0 a1 0
set_option maxRecDepth 100000 in
theorem spec_l15Shifts.ok {k : Nat} {l0 : List Int} {a1 : Int} {r : Bool} (H : spec_l15Shifts.f k l0 a1 = some r) : OkF Try.prog 53 [vR 2 (l0.map c2), vI a1] [] (.c (.d (.v (.bool r)))) [] := by
 unfold spec_l15Shifts.f at H
 refine OkF.of (N := 23) (rs := [4]) (avs := [.c (.d (.v (.bool r)))]) Try.func53 rfl rfl (fun _ _ => results_tmp rfl _ _ _) (by decide) rfl rfl rfl rfl (fun w0 S => ?_)
 refine AG.seq ?_
 refine AG.region HM ?_
 refine a_move (v := vB _) ?_
 refine RA.nil nofun ?_
 refine AG.seq ?_
 refine AG.seq ?_
 refine AG.region HM ?_
 refine a_move (v := vI _) ?_
 refine RA.nil nofun ?_
 refine AG.block ?_
 refine AG.loop ?_
 obtain ⟨K0, hK0, gK0⟩ : ∃ K, k ≤ K ∧ K ≤ k := ⟨k, Nat.le_refl k, Nat.le_refl k⟩
 refine AGr.canon id (AGr.loopI (n := k) (fun k s => k ≤ K0 ∧ ∃ (x0 : List Int) (x1 : Int) (x5 : Int), spec_l15Shifts.l0 k x0 x1 x5 = some r ∧ s = St.of [(0, vR 2 (x0.map c2)), (1, vI x1), (5, vI x5)] []) ⟨hK0, _, _, _, H, rfl⟩ ?_ ?_) ⟨rfl, rfl, rfl, trivial⟩ trivial rfl
 ·rintro _ ⟨_, _, _, _, H, _⟩
  cases H
 ·clear H hK0
  rintro k ih0 _ ⟨hK0, x0, x1, x5, H, rfl⟩
  unfold spec_l15Shifts.l0 at H
  refine AG.seq ?_
  refine AG.seq ?_
  refine AG.region HM ?_
  refine a_move (v := vI _) ?_
  refine a_move (v := vR _ _) ?_
  refine a_lenR ?_ Try.underlying23
  refine a_int (u := .bool (decide (x5 < (x0.length : Int)))) ?_
  refine RA.nil nofun ?_
  by_cases hc1 : x5 < (x0.length : Int)
  ·rw [if_pos hc1] at H
   refine AG.yes rfl (decide_eq_true hc1) ?_
   refine AG.skip ?_
   refine AG.seq ?_
   refine AG.block ?_
   refine AG.seq ?_
   refine AG.region HM ?_
   refine a_move (v := vR _ _) ?_
   refine a_move (v := vI _) ?_
   by_cases hc2 : 0 ≤ x5
   ·rw [if_pos hc2] at H
    refine a_ixR (el := c2 (rd2 x0 x5)) ?_ ⟨hc2, hc1⟩ T2 Try.underlying23 (hel := R2 hc2 hc1)
    refine a_ldR (v := vI _) ?_ T2
    refine a_move (v := vI _) ?_
    refine a_int (u := .int .i64 (wrap64 (x1 - 1))) ?_
    obtain ⟨t3, e4, H⟩ := bindO H
    refine a_call (v := vB t3) (nk := []) (L := []) ?_ rfl (spec_l00In.ok e4) id (qd (qd (qd qn))) trivial trivial trivial rfl
    refine a_un (u := .bool (!t3)) ?_
    refine RA.nil nofun ?_
    by_cases hc5 : t3 = true
    ·rw [if_pos hc5] at H
     refine AG.no rfl (congrArg Bool.not hc5) ?_
     refine AG.skip ?_
     refine AG.region HM ?_
     refine a_move (v := vI _) ?_
     refine a_int (u := .int .i64 (wrap64 (x5 + 1))) ?_
     refine a_move (v := vI _) ?_
     refine RA.nil nofun ?_
     exact AGr.canon id (ih0 _ (by omega) _ ⟨by omega, _, _, _, H, rfl⟩) ⟨rfl, rfl, rfl, trivial⟩ trivial rfl
    ·rw [if_neg hc5] at H
     refine AG.yes rfl (congrArg Bool.not (Bool.eq_false_iff.2 hc5)) ?_
     refine AG.seq ?_
     refine AG.region HM ?_
     refine a_move (v := vB _) ?_
     refine RA.nil nofun ?_
     refine AG.ret ?_
     obtain rfl := Option.some.inj H
     exact RetP.mk id ⟨rfl, trivial⟩ trivial rfl
   ·rw [if_neg hc2] at H
    cases H
  ·rw [if_neg hc1] at H
   refine AG.no rfl (decide_eq_false hc1) ?_
   refine AG.exit ?_
   refine AG.seq ?_
   refine AG.region HM ?_
   refine a_move (v := vR _ _) ?_
   refine a_lenR ?_ Try.underlying23
   refine a_int (u := .bool (decide ((x0.length : Int) ≤ 24))) ?_
   refine a_move (v := vB _) ?_
   refine RA.nil nofun ?_
   refine AG.ret ?_
   obtain rfl := Option.some.inj H
   exact RetP.mk id ⟨rfl, trivial⟩ trivial rfl
/-! ### spec_l15Ok: function 28 -/
def spec_l15Ok.f (k : Nat) (l0_0 : List S86) (l0_1 : List Int) : Option (Bool) := (spec_l15Sheets.f k l0_0).bind fun t1 => (if t1 = true then ((spec_l15Shifts.f k l0_1 (l0_0.length : Int)).bind fun t4 => (some t4)) else (some false))
set_option maxRecDepth 100000 in
theorem spec_l15Ok.ok {k : Nat} {l0_0 : List S86} {l0_1 : List Int} {r : Bool} (H : spec_l15Ok.f k l0_0 l0_1 = some r) : OkF Try.prog 28 [.c (.d (.ro [.row 90 (l0_0.map c86), .row 2 (l0_1.map c2)]))] [] (.c (.d (.v (.bool r)))) [] := by
 unfold spec_l15Ok.f at H
 refine OkF.of (N := 20) (rs := [2]) (avs := [.c (.d (.v (.bool r)))]) Try.func28 rfl rfl (fun _ _ => results_tmp rfl _ _ _) (by decide) rfl rfl rfl rfl (fun w0 S => ?_)
 refine AG.seq ?_
 refine AG.region HM ?_
 refine a_move (v := vB _) ?_
 refine RA.nil nofun ?_
 refine AG.seq ?_
 refine AG.region HM ?_
 refine a_move (v := vO [_, _]) ?_
 refine a_nil (v := vO [_, _]) ?_
 refine a_faR (cells' := [_, _]) ?_ D32_0
 refine a_ldR (v := vR _ _) ?_ T30
 obtain ⟨t1, e2, H⟩ := bindO H
 refine a_call (v := vB t1) (nk := []) (L := []) ?_ rfl (spec_l15Sheets.ok e2) id (qd qn) trivial trivial trivial rfl
 refine a_move (v := vB _) ?_
 by_cases hc3 : t1 = true
 ·rw [if_pos hc3] at H
  refine a_move (v := vO [_, _]) ?_ (hg := Gs.yes rfl rfl rfl hc3)
  refine a_nil (v := vO [_, _]) ?_ (hg := Gs.yes rfl rfl rfl hc3)
  refine a_faR (cells' := [_]) ?_ D32_1 (hg := Gs.yes rfl rfl rfl hc3)
  refine a_ldR (v := vR _ _) ?_ T23 (hg := Gs.yes rfl rfl rfl hc3)
  refine a_move (v := vO [_, _]) ?_ (hg := Gs.yes rfl rfl rfl hc3)
  refine a_nil (v := vO [_, _]) ?_ (hg := Gs.yes rfl rfl rfl hc3)
  refine a_faR (cells' := [_, _]) ?_ D32_0 (hg := Gs.yes rfl rfl rfl hc3)
  refine a_ldR (v := vR _ _) ?_ T30 (hg := Gs.yes rfl rfl rfl hc3)
  refine a_lenR ?_ Try.underlying30 (hg := Gs.yes rfl rfl rfl hc3)
  obtain ⟨t4, e5, H⟩ := bindO H
  refine a_call (v := vB t4) (nk := []) (L := []) ?_ rfl (spec_l15Shifts.ok e5) id (qd (qd qn)) trivial trivial trivial rfl (hg := Gs.yes rfl rfl rfl hc3)
  refine a_pick (b := true) (v := vB _) ?_ hc3
  refine a_move (v := vB _) ?_
  refine RA.nil (fun _ => by kernel_rfl) ?_
  refine AG.ret ?_
  obtain rfl := Option.some.inj H
  exact RetP.mk id ⟨rfl, trivial⟩ trivial rfl
 ·rw [if_neg hc3] at H
  refine RA.skip rfl rfl rfl rfl rfl (Bool.eq_false_iff.2 hc3) (by decide) ?_
  refine RA.skip rfl rfl rfl rfl rfl (Bool.eq_false_iff.2 hc3) (by decide) ?_
  refine RA.skip rfl rfl rfl rfl rfl (Bool.eq_false_iff.2 hc3) (by decide) ?_
  refine RA.skip rfl rfl rfl rfl rfl (Bool.eq_false_iff.2 hc3) (by decide) ?_
  refine RA.skip rfl rfl rfl rfl rfl (Bool.eq_false_iff.2 hc3) (by decide) ?_
  refine RA.skip rfl rfl rfl rfl rfl (Bool.eq_false_iff.2 hc3) (by decide) ?_
  refine RA.skip rfl rfl rfl rfl rfl (Bool.eq_false_iff.2 hc3) (by decide) ?_
  refine RA.skip rfl rfl rfl rfl rfl (Bool.eq_false_iff.2 hc3) (by decide) ?_
  refine RA.skip rfl rfl rfl rfl rfl (Bool.eq_false_iff.2 hc3) (by decide) ?_
  refine RA.skip rfl rfl rfl rfl rfl (Bool.eq_false_iff.2 hc3) (by decide) ?_
  refine a_pick (b := false) (v := vB _) ?_ (Bool.eq_false_iff.2 hc3)
  refine a_move (v := vB _) ?_
  refine RA.nil (fun _ => by kernel_rfl) ?_
  refine AG.ret ?_
  obtain rfl := Option.some.inj H
  exact RetP.mk id ⟨rfl, trivial⟩ trivial rfl
/-! ### spec_l05Points: function 63 -/
mutual
def spec_l05Points.l0 : Nat → Int → Int → List S107 → Int → Option (Bool)
 | 0, _, _, _, _ => none
 | k + 1, x0_0, x0_1, x0_2, x3 => if x3 < (x0_2.length : Int) then (if 0 ≤ x3 then ((spec_l00In.f ((rd107 x0_2 x3).f0) 0 x0_0).bind fun t4 => (if t4 = true then ((spec_l00In.f ((rd107 x0_2 x3).f1) 0 x0_1).bind fun t7 => (spec_l05Points.j0 k x0_0 x0_1 x0_2 x3 (!t7))) else (spec_l05Points.j0 k x0_0 x0_1 x0_2 x3 true))) else (none)) else (some true)
def spec_l05Points.j0 : Nat → Int → Int → List S107 → Int → Bool → Option (Bool)
 | 0, _, _, _, _, _ => none
 | k + 1, x0_0, x0_1, x0_2, x3, x49 => if x49 = true then (some false) else (spec_l05Points.l1 k x0_0 x0_1 x0_2 x3 0)
def spec_l05Points.l1 : Nat → Int → Int → List S107 → Int → Int → Option (Bool)
 | 0, _, _, _, _, _ => none
 | k + 1, x0_0, x0_1, x0_2, x3, x4 => if x4 < x3 then (if 0 ≤ x3 then (if x3 < (x0_2.length : Int) then (if 0 ≤ x4 then (if x4 < (x0_2.length : Int) then (if (((rd107 x0_2 x3).f0) == ((rd107 x0_2 x4).f0) && (((rd107 x0_2 x3).f1) == ((rd107 x0_2 x4).f1))) = true then (some false) else (spec_l05Points.l1 k x0_0 x0_1 x0_2 x3 (wrap64 (x4 + 1)))) else (none)) else (none)) else (none)) else (none)) else (spec_l05Points.l0 k x0_0 x0_1 x0_2 (wrap64 (x3 + 1)))
end
def spec_l05Points.f (k : Nat) (a0_0 : Int) (a0_1 : Int) (l0_2 : List S107) (l0_3 : List S98) : Option (Bool) := if (l0_2.length : Int) > 48 then (some false) else (spec_l05Points.l0 k a0_0 a0_1 l0_2 0)
set_option maxRecDepth 100000 in
theorem spec_l05Points.ok {k : Nat} {a0_0 : Int} {a0_1 : Int} {l0_2 : List S107} {l0_3 : List S98} {r : Bool} (H : spec_l05Points.f k a0_0 a0_1 l0_2 l0_3 = some r) : OkF Try.prog 63 [.c (.d (.ro [.v (.int .i64 a0_0), .v (.int .i64 a0_1), .row 108 (l0_2.map c107), .row 101 (l0_3.map c98)]))] [] (.c (.d (.v (.bool r)))) [] := by
 unfold spec_l05Points.f at H
 refine OkF.of (N := 70) (rs := [2]) (avs := [.c (.d (.v (.bool r)))]) Try.func63 rfl rfl (fun _ _ => results_tmp rfl _ _ _) (by decide) rfl rfl rfl rfl (fun w0 S => ?_)
 refine AG.seq ?_
 refine AG.region HM ?_
 refine a_move (v := vB _) ?_
 refine RA.nil nofun ?_
 refine AG.seq ?_
 refine AG.seq ?_
 refine AG.region HM ?_
 refine a_move (v := vO [_, _, _, _]) ?_
 refine a_nil (v := vO [_, _, _, _]) ?_
 refine a_faR (cells' := [_, _]) ?_ D49_2
 refine a_ldR (v := vR _ _) ?_ T46
 refine a_lenR ?_ Try.underlying46
 refine a_int (u := .bool (decide ((l0_2.length : Int) > 48))) ?_
 refine RA.nil nofun ?_
 by_cases hc1 : (l0_2.length : Int) > 48
 ·rw [if_pos hc1] at H
  refine AG.yes rfl (decide_eq_true hc1) ?_
  refine AG.seq ?_
  refine AG.region HM ?_
  refine a_move (v := vB _) ?_
  refine RA.nil nofun ?_
  refine AG.ret ?_
  obtain rfl := Option.some.inj H
  exact RetP.mk id ⟨rfl, trivial⟩ trivial rfl
 ·rw [if_neg hc1] at H
  refine AG.no rfl (decide_eq_false hc1) ?_
  refine AG.skip ?_
  refine AG.seq ?_
  refine AG.seq ?_
  refine AG.region HM ?_
  refine a_move (v := vI _) ?_
  refine RA.nil nofun ?_
  refine AG.block ?_
  refine AG.loop ?_
  obtain ⟨K0, hK0, gK0⟩ : ∃ K, k ≤ K ∧ K ≤ k := ⟨k, Nat.le_refl k, Nat.le_refl k⟩
  refine AGr.canon id (AGr.loopI (n := k) (fun k s => k ≤ K0 ∧ ∃ (x0_0 : Int) (x0_1 : Int) (x0_2 : List S107) (x0_3 : List S98) (x3 : Int), spec_l05Points.l0 k x0_0 x0_1 x0_2 x3 = some r ∧ s = St.of [(0, .c (.d (.ro [.v (.int .i64 x0_0), .v (.int .i64 x0_1), .row 108 (x0_2.map c107), .row 101 (x0_3.map c98)]))), (3, vI x3)] []) ⟨hK0, _, _, _, _, _, H, rfl⟩ ?_ ?_) ⟨rfl, rfl, trivial⟩ trivial rfl
  ·rintro _ ⟨_, _, _, _, _, _, H, _⟩
   cases H
  ·clear H hK0
   rintro k ih0 _ ⟨hK0, x0_0, x0_1, x0_2, x0_3, x3, H, rfl⟩
   unfold spec_l05Points.l0 at H
   refine AG.seq ?_
   refine AG.seq ?_
   refine AG.region HM ?_
   refine a_move (v := vI _) ?_
   refine a_move (v := vO [_, _, _, _]) ?_
   refine a_nil (v := vO [_, _, _, _]) ?_
   refine a_faR (cells' := [_, _]) ?_ D49_2
   refine a_ldR (v := vR _ _) ?_ T46
   refine a_lenR ?_ Try.underlying46
   refine a_int (u := .bool (decide (x3 < (x0_2.length : Int)))) ?_
   refine RA.nil nofun ?_
   by_cases hc2 : x3 < (x0_2.length : Int)
   ·rw [if_pos hc2] at H
    refine AG.yes rfl (decide_eq_true hc2) ?_
    refine AG.skip ?_
    refine AG.seq ?_
    refine AG.block ?_
    refine AG.seq ?_
    refine AG.seq ?_
    refine AG.joinR (fun s => ∃ q, q ≤ k ∧ ∃ (x0_0 : Int) (x0_1 : Int) (x0_2 : List S107) (x0_3 : List S98) (x3 : Int) (x49 : Bool), spec_l05Points.j0 q x0_0 x0_1 x0_2 x3 x49 = some r ∧ s = St.of [(0, .c (.d (.ro [.v (.int .i64 x0_0), .v (.int .i64 x0_1), .row 108 (x0_2.map c107), .row 101 (x0_3.map c98)]))), (3, vI x3), (49, vB x49)] []) ?_ ?_
    ·skip
     refine AG.region HM ?_
     refine a_move (v := vO [_, _, _, _]) ?_
     refine a_nil (v := vO [_, _, _, _]) ?_
     refine a_faR (cells' := [_, _]) ?_ D49_2
     refine a_ldR (v := vR _ _) ?_ T46
     refine a_move (v := vI _) ?_
     by_cases hc3 : 0 ≤ x3
     ·rw [if_pos hc3] at H
      refine a_ixR (el := c107 (rd107 x0_2 x3)) ?_ ⟨hc3, hc2⟩ T108 Try.underlying46 (hel := R107 hc3 hc2)
      refine a_faR (cells' := [_, _]) ?_ D108_0
      refine a_ldR (v := vI _) ?_ T2
      refine a_move (v := vO [_, _, _, _]) ?_
      refine a_nil (v := vO [_, _, _, _]) ?_
      refine a_faR (cells' := [_, _, _, _]) ?_ D49_0
      refine a_ldR (v := vI _) ?_ T2
      obtain ⟨t4, e5, H⟩ := bindO H
      refine a_call (v := vB t4) (nk := []) (L := []) ?_ rfl (spec_l00In.ok e5) id (qd (qd (qd qn))) trivial trivial trivial rfl
      refine a_un (u := .bool (!t4)) ?_
      refine a_move (v := vB _) ?_
      by_cases hc6 : t4 = true
      ·rw [if_pos hc6] at H
       refine a_move (v := vO [_, _, _, _]) ?_ (hg := Gs.yes rfl rfl rfl (congrArg Bool.not hc6))
       refine a_nil (v := vO [_, _, _, _]) ?_ (hg := Gs.yes rfl rfl rfl (congrArg Bool.not hc6))
       refine a_faR (cells' := [_, _]) ?_ D49_2 (hg := Gs.yes rfl rfl rfl (congrArg Bool.not hc6))
       refine a_ldR (v := vR _ _) ?_ T46 (hg := Gs.yes rfl rfl rfl (congrArg Bool.not hc6))
       refine a_move (v := vI _) ?_ (hg := Gs.yes rfl rfl rfl (congrArg Bool.not hc6))
       refine a_ixR (el := c107 (rd107 x0_2 x3)) ?_ ⟨hc3, hc2⟩ T108 Try.underlying46 (hel := R107 hc3 hc2) (hg := Gs.yes rfl rfl rfl (congrArg Bool.not hc6))
       refine a_faR (cells' := [_]) ?_ D108_1 (hg := Gs.yes rfl rfl rfl (congrArg Bool.not hc6))
       refine a_ldR (v := vI _) ?_ T2 (hg := Gs.yes rfl rfl rfl (congrArg Bool.not hc6))
       refine a_move (v := vO [_, _, _, _]) ?_ (hg := Gs.yes rfl rfl rfl (congrArg Bool.not hc6))
       refine a_nil (v := vO [_, _, _, _]) ?_ (hg := Gs.yes rfl rfl rfl (congrArg Bool.not hc6))
       refine a_faR (cells' := [_, _, _]) ?_ D49_1 (hg := Gs.yes rfl rfl rfl (congrArg Bool.not hc6))
       refine a_ldR (v := vI _) ?_ T2 (hg := Gs.yes rfl rfl rfl (congrArg Bool.not hc6))
       obtain ⟨t7, e8, H⟩ := bindO H
       refine a_call (v := vB t7) (nk := []) (L := []) ?_ rfl (spec_l00In.ok e8) id (qd (qd (qd qn))) trivial trivial trivial rfl (hg := Gs.yes rfl rfl rfl (congrArg Bool.not hc6))
       refine a_un (u := .bool (!t7)) ?_ (hg := Gs.yes rfl rfl rfl (congrArg Bool.not hc6))
       refine a_pick (b := false) (v := vB _) ?_ (congrArg Bool.not hc6)
       refine RA.nil (fun _ => by kernel_rfl) ?_
       exact CanR.mk id ⟨_, (by omega), _, _, _, _, _, _, H, rfl⟩ ⟨rfl, rfl, rfl, trivial⟩ trivial rfl
      ·rw [if_neg hc6] at H
       refine RA.skip rfl rfl rfl rfl rfl (congrArg Bool.not (Bool.eq_false_iff.2 hc6)) (by decide) ?_
       refine RA.skip rfl rfl rfl rfl rfl (congrArg Bool.not (Bool.eq_false_iff.2 hc6)) (by decide) ?_
       refine RA.skip rfl rfl rfl rfl rfl (congrArg Bool.not (Bool.eq_false_iff.2 hc6)) (by decide) ?_
       refine RA.skip rfl rfl rfl rfl rfl (congrArg Bool.not (Bool.eq_false_iff.2 hc6)) (by decide) ?_
       refine RA.skip rfl rfl rfl rfl rfl (congrArg Bool.not (Bool.eq_false_iff.2 hc6)) (by decide) ?_
       refine RA.skip rfl rfl rfl rfl rfl (congrArg Bool.not (Bool.eq_false_iff.2 hc6)) (by decide) ?_
       refine RA.skip rfl rfl rfl rfl rfl (congrArg Bool.not (Bool.eq_false_iff.2 hc6)) (by decide) ?_
       refine RA.skip rfl rfl rfl rfl rfl (congrArg Bool.not (Bool.eq_false_iff.2 hc6)) (by decide) ?_
       refine RA.skip rfl rfl rfl rfl rfl (congrArg Bool.not (Bool.eq_false_iff.2 hc6)) (by decide) ?_
       refine RA.skip rfl rfl rfl rfl rfl (congrArg Bool.not (Bool.eq_false_iff.2 hc6)) (by decide) ?_
       refine RA.skip rfl rfl rfl rfl rfl (congrArg Bool.not (Bool.eq_false_iff.2 hc6)) (by decide) ?_
       refine RA.skip rfl rfl rfl rfl rfl (congrArg Bool.not (Bool.eq_false_iff.2 hc6)) (by decide) ?_
       refine RA.skip rfl rfl rfl rfl rfl (congrArg Bool.not (Bool.eq_false_iff.2 hc6)) (by decide) ?_
       refine RA.skip rfl rfl rfl rfl rfl (congrArg Bool.not (Bool.eq_false_iff.2 hc6)) (by decide) ?_
       refine a_pick (b := true) (v := vB _) ?_ (congrArg Bool.not (Bool.eq_false_iff.2 hc6))
       refine RA.nil (fun _ => by kernel_rfl) ?_
       exact CanR.mk id ⟨_, (by omega), _, _, _, _, _, _, H, rfl⟩ ⟨rfl, rfl, rfl, trivial⟩ trivial rfl
     ·rw [if_neg hc3] at H
      cases H
    ·clear H
     rintro _ ⟨k, hj0, x0_0, x0_1, x0_2, x0_3, x3, x49, H, rfl⟩
     cases k with
     | zero => cases H
     | succ k =>
      rw [spec_l05Points.j0] at H
      by_cases hc9 : x49 = true
      ·rw [if_pos hc9] at H
       refine AG.yes rfl hc9 ?_
       refine AG.seq ?_
       refine AG.region HM ?_
       refine a_move (v := vB _) ?_
       refine RA.nil nofun ?_
       refine AG.ret ?_
       obtain rfl := Option.some.inj H
       exact RetP.mk id ⟨rfl, trivial⟩ trivial rfl
      ·rw [if_neg hc9] at H
       refine AG.no rfl (Bool.eq_false_iff.2 hc9) ?_
       refine AG.skip ?_
       refine AG.seq ?_
       refine AG.region HM ?_
       refine a_move (v := vI _) ?_
       refine RA.nil nofun ?_
       refine AG.block ?_
       refine AG.loop ?_
       obtain ⟨K1, hK1, gK1⟩ : ∃ K, k ≤ K ∧ K ≤ k := ⟨k, Nat.le_refl k, Nat.le_refl k⟩
       refine AGr.canon id (AGr.loopI (n := k) (fun k s => k ≤ K1 ∧ ∃ (x0_0 : Int) (x0_1 : Int) (x0_2 : List S107) (x0_3 : List S98) (x3 : Int) (x4 : Int), spec_l05Points.l1 k x0_0 x0_1 x0_2 x3 x4 = some r ∧ s = St.of [(0, .c (.d (.ro [.v (.int .i64 x0_0), .v (.int .i64 x0_1), .row 108 (x0_2.map c107), .row 101 (x0_3.map c98)]))), (3, vI x3), (4, vI x4)] []) ⟨hK1, _, _, _, _, _, _, H, rfl⟩ ?_ ?_) ⟨rfl, rfl, rfl, trivial⟩ trivial rfl
       ·rintro _ ⟨_, _, _, _, _, _, _, H, _⟩
        cases H
       ·clear H hK1
        rintro k ih1 _ ⟨hK1, x0_0, x0_1, x0_2, x0_3, x3, x4, H, rfl⟩
        unfold spec_l05Points.l1 at H
        refine AG.seq ?_
        refine AG.seq ?_
        refine AG.region HM ?_
        refine a_move (v := vI _) ?_
        refine a_move (v := vI _) ?_
        refine a_int (u := .bool (decide (x4 < x3))) ?_
        refine RA.nil nofun ?_
        by_cases hc10 : x4 < x3
        ·rw [if_pos hc10] at H
         refine AG.yes rfl (decide_eq_true hc10) ?_
         refine AG.skip ?_
         refine AG.seq ?_
         refine AG.block ?_
         refine AG.seq ?_
         refine AG.region HM ?_
         refine a_move (v := vO [_, _, _, _]) ?_
         refine a_nil (v := vO [_, _, _, _]) ?_
         refine a_faR (cells' := [_, _]) ?_ D49_2
         refine a_ldR (v := vR _ _) ?_ T46
         refine a_move (v := vI _) ?_
         by_cases hc11 : 0 ≤ x3
         ·rw [if_pos hc11] at H
          by_cases hc12 : x3 < (x0_2.length : Int)
          ·rw [if_pos hc12] at H
           refine a_ixR (el := c107 (rd107 x0_2 x3)) ?_ ⟨hc11, hc12⟩ T108 Try.underlying46 (hel := R107 hc11 hc12)
           refine a_ldR (v := .agg [_, _]) ?_ T108
           refine a_move (v := vO [_, _, _, _]) ?_
           refine a_nil (v := vO [_, _, _, _]) ?_
           refine a_faR (cells' := [_, _]) ?_ D49_2
           refine a_ldR (v := vR _ _) ?_ T46
           refine a_move (v := vI _) ?_
           by_cases hc13 : 0 ≤ x4
           ·rw [if_pos hc13] at H
            by_cases hc14 : x4 < (x0_2.length : Int)
            ·rw [if_pos hc14] at H
             refine a_ixR (el := c107 (rd107 x0_2 x4)) ?_ ⟨hc13, hc14⟩ T108 Try.underlying46 (hel := R107 hc13 hc14)
             refine a_ldR (v := .agg [_, _]) ?_ T108
             refine a_eqS (b := (((rd107 x0_2 x3).f0) == ((rd107 x0_2 x4).f0) && (((rd107 x0_2 x3).f1) == ((rd107 x0_2 x4).f1)))) ?_ (.inl ⟨rfl, rfl⟩) (Q108 ((rd107 x0_2 x3).f0) ((rd107 x0_2 x4).f0) ((rd107 x0_2 x3).f1) ((rd107 x0_2 x4).f1)).1
             refine RA.nil (fun _ => by kernel_rfl) ?_
             by_cases hc15 : (((rd107 x0_2 x3).f0) == ((rd107 x0_2 x4).f0) && (((rd107 x0_2 x3).f1) == ((rd107 x0_2 x4).f1))) = true
             ·rw [if_pos hc15] at H
              refine AG.yes rfl hc15 ?_
              refine AG.seq ?_
              refine AG.region HM ?_
              refine a_move (v := vB _) ?_
              refine RA.nil nofun ?_
              refine AG.ret ?_
              obtain rfl := Option.some.inj H
              exact RetP.mk id ⟨rfl, trivial⟩ trivial rfl
             ·rw [if_neg hc15] at H
              refine AG.no rfl (Bool.eq_false_iff.2 hc15) ?_
              refine AG.skip ?_
              refine AG.region HM ?_
              refine a_move (v := vI _) ?_
              refine a_int (u := .int .i64 (wrap64 (x4 + 1))) ?_
              refine a_move (v := vI _) ?_
              refine RA.nil nofun ?_
              exact AGr.canon id (ih1 _ (by omega) _ ⟨by omega, _, _, _, _, _, _, H, rfl⟩) ⟨rfl, rfl, rfl, trivial⟩ trivial rfl
            ·rw [if_neg hc14] at H
             cases H
           ·rw [if_neg hc13] at H
            cases H
          ·rw [if_neg hc12] at H
           cases H
         ·rw [if_neg hc11] at H
          cases H
        ·rw [if_neg hc10] at H
         refine AG.no rfl (decide_eq_false hc10) ?_
         refine AG.exit ?_
         refine AG.region HM ?_
         refine a_move (v := vI _) ?_
         refine a_int (u := .int .i64 (wrap64 (x3 + 1))) ?_
         refine a_move (v := vI _) ?_
         refine RA.nil nofun ?_
         exact AGr.canon id (ih0 _ (by omega) _ ⟨by omega, _, _, _, _, _, H, rfl⟩) ⟨rfl, rfl, trivial⟩ trivial rfl
   ·rw [if_neg hc2] at H
    refine AG.no rfl (decide_eq_false hc2) ?_
    refine AG.exit ?_
    refine AG.seq ?_
    refine AG.region HM ?_
    refine a_move (v := vB _) ?_
    refine RA.nil nofun ?_
    refine AG.ret ?_
    obtain rfl := Option.some.inj H
    exact RetP.mk id ⟨rfl, trivial⟩ trivial rfl
/-! ### spec_l01Small: function 89 -/
def spec_l01Small.f (a0 : Int) : Option (Bool) := if a0 ≥ 97 then (some (decide (a0 ≤ 122))) else (some false)
set_option maxRecDepth 100000 in
theorem spec_l01Small.ok {a0 : Int} {r : Bool} (H : spec_l01Small.f a0 = some r) : OkF Try.prog 89 [.c (.d (.v (.int .u8 a0)))] [] (.c (.d (.v (.bool r)))) [] := by
 unfold spec_l01Small.f at H
 refine OkF.of (N := 9) (rs := [2]) (avs := [.c (.d (.v (.bool r)))]) Try.func89 rfl rfl (fun _ _ => results_tmp rfl _ _ _) (by decide) rfl rfl rfl rfl (fun w0 S => ?_)
 refine AG.seq ?_
 refine AG.region HM ?_
 refine a_move (v := vB _) ?_
 refine RA.nil nofun ?_
 refine AG.seq ?_
 refine AG.region HM ?_
 refine a_move (v := gV (.int .u8 _)) ?_
 refine a_int (u := .bool (decide (a0 ≥ 97))) ?_
 refine a_move (v := vB _) ?_
 by_cases hc1 : a0 ≥ 97
 ·rw [if_pos hc1] at H
  refine a_move (v := gV (.int .u8 _)) ?_ (hg := Gs.yes rfl rfl rfl (decide_eq_true hc1))
  refine a_int (u := .bool (decide (a0 ≤ 122))) ?_ (hg := Gs.yes rfl rfl rfl (decide_eq_true hc1))
  refine a_pick (b := true) (v := vB _) ?_ (decide_eq_true hc1)
  refine a_move (v := vB _) ?_
  refine RA.nil nofun ?_
  refine AG.ret ?_
  obtain rfl := Option.some.inj H
  exact RetP.mk id ⟨rfl, trivial⟩ trivial rfl
 ·rw [if_neg hc1] at H
  refine RA.skip rfl rfl rfl rfl rfl (decide_eq_false hc1) (by decide) ?_
  refine RA.skip rfl rfl rfl rfl rfl (decide_eq_false hc1) (by decide) ?_
  refine a_pick (b := false) (v := vB _) ?_ (decide_eq_false hc1)
  refine a_move (v := vB _) ?_
  refine RA.nil nofun ?_
  refine AG.ret ?_
  obtain rfl := Option.some.inj H
  exact RetP.mk id ⟨rfl, trivial⟩ trivial rfl
/-! ### spec_l01Digit: function 90 -/
def spec_l01Digit.f (a0 : Int) : Option (Bool) := if a0 ≥ 48 then (some (decide (a0 ≤ 57))) else (some false)
set_option maxRecDepth 100000 in
theorem spec_l01Digit.ok {a0 : Int} {r : Bool} (H : spec_l01Digit.f a0 = some r) : OkF Try.prog 90 [.c (.d (.v (.int .u8 a0)))] [] (.c (.d (.v (.bool r)))) [] := by
 unfold spec_l01Digit.f at H
 refine OkF.of (N := 9) (rs := [2]) (avs := [.c (.d (.v (.bool r)))]) Try.func90 rfl rfl (fun _ _ => results_tmp rfl _ _ _) (by decide) rfl rfl rfl rfl (fun w0 S => ?_)
 refine AG.seq ?_
 refine AG.region HM ?_
 refine a_move (v := vB _) ?_
 refine RA.nil nofun ?_
 refine AG.seq ?_
 refine AG.region HM ?_
 refine a_move (v := gV (.int .u8 _)) ?_
 refine a_int (u := .bool (decide (a0 ≥ 48))) ?_
 refine a_move (v := vB _) ?_
 by_cases hc1 : a0 ≥ 48
 ·rw [if_pos hc1] at H
  refine a_move (v := gV (.int .u8 _)) ?_ (hg := Gs.yes rfl rfl rfl (decide_eq_true hc1))
  refine a_int (u := .bool (decide (a0 ≤ 57))) ?_ (hg := Gs.yes rfl rfl rfl (decide_eq_true hc1))
  refine a_pick (b := true) (v := vB _) ?_ (decide_eq_true hc1)
  refine a_move (v := vB _) ?_
  refine RA.nil nofun ?_
  refine AG.ret ?_
  obtain rfl := Option.some.inj H
  exact RetP.mk id ⟨rfl, trivial⟩ trivial rfl
 ·rw [if_neg hc1] at H
  refine RA.skip rfl rfl rfl rfl rfl (decide_eq_false hc1) (by decide) ?_
  refine RA.skip rfl rfl rfl rfl rfl (decide_eq_false hc1) (by decide) ?_
  refine a_pick (b := false) (v := vB _) ?_ (decide_eq_false hc1)
  refine a_move (v := vB _) ?_
  refine RA.nil nofun ?_
  refine AG.ret ?_
  obtain rfl := Option.some.inj H
  exact RetP.mk id ⟨rfl, trivial⟩ trivial rfl
/-! ### spec_l01Name: function 64 -/
mutual
def spec_l01Name.j0 : Nat → ByteArray → Bool → Option (Bool)
 | 0, _, _ => none
 | k + 1, x0, x16 => if x16 = true then (some false) else (spec_l01Name.l0 k x0 0)
def spec_l01Name.l0 : Nat → ByteArray → Int → Option (Bool)
 | 0, _, _ => none
 | k + 1, x0, x3 => if x3 < (x0.size : Int) then (if 0 ≤ x3 then ((spec_l01Small.f (bt x0 x3)).bind fun t9 => (if t9 = true then (spec_l01Name.l0 k x0 (wrap64 (x3 + 1))) else ((spec_l01Digit.f (bt x0 x3)).bind fun t12 => (if t12 = true then (spec_l01Name.l0 k x0 (wrap64 (x3 + 1))) else (some false))))) else (none)) else (some true)
end
def spec_l01Name.f (k : Nat) (a0 : ByteArray) : Option (Bool) := if a0.toList = (⟨#[]⟩ : ByteArray).toList then (spec_l01Name.j0 k a0 true) else (if (a0.size : Int) > 10 then (spec_l01Name.j0 k a0 true) else (if 0 < (a0.size : Int) then ((spec_l01Small.f (bt a0 0)).bind fun t4 => (spec_l01Name.j0 k a0 (!t4))) else (none)))
set_option maxRecDepth 100000 in
theorem spec_l01Name.ok {k : Nat} {a0 : ByteArray} {r : Bool} (H : spec_l01Name.f k a0 = some r) : OkF Try.prog 64 [vS a0] [] (.c (.d (.v (.bool r)))) [] := by
 unfold spec_l01Name.f at H
 refine OkF.of (N := 35) (rs := [2]) (avs := [.c (.d (.v (.bool r)))]) Try.func64 rfl rfl (fun _ _ => results_tmp rfl _ _ _) (by decide) rfl rfl rfl rfl (fun w0 S => ?_)
 refine AG.seq ?_
 refine AG.region HM ?_
 refine a_move (v := vB _) ?_
 refine RA.nil nofun ?_
 refine AG.seq ?_
 refine AG.seq ?_
 refine AG.joinR (fun s => ∃ q, q ≤ k ∧ ∃ (x0 : ByteArray) (x16 : Bool), spec_l01Name.j0 q x0 x16 = some r ∧ s = St.of [(0, vS x0), (16, vB x16)] []) ?_ ?_
 ·skip
  refine AG.region HM ?_
  refine a_move (v := vS _) ?_
  refine a_bin (u := .bool (a0.toList == (⟨#[]⟩ : ByteArray).toList)) ?_
  refine a_move (v := vB _) ?_
  by_cases hc1 : a0.toList = (⟨#[]⟩ : ByteArray).toList
  ·rw [if_pos hc1] at H
   refine RA.skip rfl rfl rfl rfl rfl (beq_iff_eq.2 hc1) (by decide) ?_
   refine RA.skip rfl rfl rfl rfl rfl (beq_iff_eq.2 hc1) (by decide) ?_
   refine RA.skip rfl rfl rfl rfl rfl (beq_iff_eq.2 hc1) (by decide) ?_
   refine a_pick (b := true) (v := vB _) ?_ (beq_iff_eq.2 hc1)
   refine a_move (v := vB _) ?_
   refine RA.skip rfl rfl rfl rfl rfl rfl (by decide) ?_
   refine RA.skip rfl rfl rfl rfl rfl rfl (by decide) ?_
   refine RA.skip rfl rfl rfl rfl rfl rfl (by decide) ?_
   refine RA.skip rfl rfl rfl rfl rfl rfl (by decide) ?_
   refine a_pick (b := true) (v := vB _) ?_ rfl
   refine RA.nil nofun ?_
   exact CanR.mk id ⟨_, (by omega), _, _, H, rfl⟩ ⟨rfl, rfl, trivial⟩ trivial rfl
  ·rw [if_neg hc1] at H
   refine a_move (v := vS _) ?_ (hg := Gs.yes rfl rfl rfl (beq_eq_false_iff_ne.2 hc1))
   refine a_lenS ?_ Try.underlying9 (hg := Gs.yes rfl rfl rfl (beq_eq_false_iff_ne.2 hc1))
   refine a_int (u := .bool (decide ((a0.size : Int) > 10))) ?_ (hg := Gs.yes rfl rfl rfl (beq_eq_false_iff_ne.2 hc1))
   refine a_pick (b := false) (v := vB _) ?_ (beq_eq_false_iff_ne.2 hc1)
   refine a_move (v := vB _) ?_
   by_cases hc2 : (a0.size : Int) > 10
   ·rw [if_pos hc2] at H
    refine RA.skip rfl rfl rfl rfl rfl (decide_eq_true hc2) (by decide) ?_
    refine RA.skip rfl rfl rfl rfl rfl (decide_eq_true hc2) (by decide) ?_
    refine RA.skip rfl rfl rfl rfl rfl (decide_eq_true hc2) (by decide) ?_
    refine RA.skip rfl rfl rfl rfl rfl (decide_eq_true hc2) (by decide) ?_
    refine a_pick (b := true) (v := vB _) ?_ (decide_eq_true hc2)
    refine RA.nil nofun ?_
    exact CanR.mk id ⟨_, (by omega), _, _, H, rfl⟩ ⟨rfl, rfl, trivial⟩ trivial rfl
   ·rw [if_neg hc2] at H
    refine a_move (v := vS _) ?_ (hg := Gs.yes rfl rfl rfl (decide_eq_false hc2))
    by_cases hc3 : 0 < (a0.size : Int)
    ·rw [if_pos hc3] at H
     refine a_str ?_ ⟨(by decide), hc3⟩ Try.underlying9 (hg := Gs.yes rfl rfl rfl (decide_eq_false hc2))
     obtain ⟨t4, e5, H⟩ := bindO H
     refine a_call (v := vB t4) (nk := []) (L := []) ?_ rfl (spec_l01Small.ok e5) id (qd qn) trivial trivial trivial rfl (hg := Gs.yes rfl rfl rfl (decide_eq_false hc2))
     refine a_un (u := .bool (!t4)) ?_ (hg := Gs.yes rfl rfl rfl (decide_eq_false hc2))
     refine a_pick (b := false) (v := vB _) ?_ (decide_eq_false hc2)
     refine RA.nil nofun ?_
     exact CanR.mk id ⟨_, (by omega), _, _, H, rfl⟩ ⟨rfl, rfl, trivial⟩ trivial rfl
    ·rw [if_neg hc3] at H
     cases H
 ·clear H
  rintro _ ⟨k, hj0, x0, x16, H, rfl⟩
  cases k with
  | zero => cases H
  | succ k =>
   rw [spec_l01Name.j0] at H
   by_cases hc6 : x16 = true
   ·rw [if_pos hc6] at H
    refine AG.yes rfl hc6 ?_
    refine AG.seq ?_
    refine AG.region HM ?_
    refine a_move (v := vB _) ?_
    refine RA.nil nofun ?_
    refine AG.ret ?_
    obtain rfl := Option.some.inj H
    exact RetP.mk id ⟨rfl, trivial⟩ trivial rfl
   ·rw [if_neg hc6] at H
    refine AG.no rfl (Bool.eq_false_iff.2 hc6) ?_
    refine AG.skip ?_
    refine AG.seq ?_
    refine AG.seq ?_
    refine AG.region HM ?_
    refine a_move (v := vI _) ?_
    refine RA.nil nofun ?_
    refine AG.block ?_
    refine AG.loop ?_
    obtain ⟨K0, hK0, gK0⟩ : ∃ K, k ≤ K ∧ K ≤ k := ⟨k, Nat.le_refl k, Nat.le_refl k⟩
    refine AGr.canon id (AGr.loopI (n := k) (fun k s => k ≤ K0 ∧ ∃ (x0 : ByteArray) (x3 : Int), spec_l01Name.l0 k x0 x3 = some r ∧ s = St.of [(0, vS x0), (3, vI x3)] []) ⟨hK0, _, _, H, rfl⟩ ?_ ?_) ⟨rfl, rfl, trivial⟩ trivial rfl
    ·rintro _ ⟨_, _, _, H, _⟩
     cases H
    ·clear H hK0
     rintro k ih0 _ ⟨hK0, x0, x3, H, rfl⟩
     unfold spec_l01Name.l0 at H
     refine AG.seq ?_
     refine AG.seq ?_
     refine AG.region HM ?_
     refine a_move (v := vI _) ?_
     refine a_move (v := vS _) ?_
     refine a_lenS ?_ Try.underlying9
     refine a_int (u := .bool (decide (x3 < (x0.size : Int)))) ?_
     refine RA.nil nofun ?_
     by_cases hc7 : x3 < (x0.size : Int)
     ·rw [if_pos hc7] at H
      refine AG.yes rfl (decide_eq_true hc7) ?_
      refine AG.skip ?_
      refine AG.seq ?_
      refine AG.block ?_
      refine AG.seq ?_
      refine AG.region HM ?_
      refine a_move (v := vS _) ?_
      refine a_move (v := vI _) ?_
      by_cases hc8 : 0 ≤ x3
      ·rw [if_pos hc8] at H
       refine a_str ?_ ⟨hc8, hc7⟩ Try.underlying9
       obtain ⟨t9, e10, H⟩ := bindO H
       refine a_call (v := vB t9) (nk := []) (L := []) ?_ rfl (spec_l01Small.ok e10) id (qd qn) trivial trivial trivial rfl
       refine a_un (u := .bool (!t9)) ?_
       refine a_move (v := vB _) ?_
       by_cases hc11 : t9 = true
       ·rw [if_pos hc11] at H
        refine RA.skip rfl rfl rfl rfl rfl (congrArg Bool.not hc11) (by decide) ?_
        refine RA.skip rfl rfl rfl rfl rfl (congrArg Bool.not hc11) (by decide) ?_
        refine RA.skip rfl rfl rfl rfl rfl (congrArg Bool.not hc11) (by decide) ?_
        refine RA.skip rfl rfl rfl rfl rfl (congrArg Bool.not hc11) (by decide) ?_
        refine RA.skip rfl rfl rfl rfl rfl (congrArg Bool.not hc11) (by decide) ?_
        refine a_pick (b := false) (v := vB _) ?_ (congrArg Bool.not hc11)
        refine RA.nil nofun ?_
        refine AG.no rfl rfl ?_
        refine AG.skip ?_
        refine AG.region HM ?_
        refine a_move (v := vI _) ?_
        refine a_int (u := .int .i64 (wrap64 (x3 + 1))) ?_
        refine a_move (v := vI _) ?_
        refine RA.nil nofun ?_
        exact AGr.canon id (ih0 _ (by omega) _ ⟨by omega, _, _, H, rfl⟩) ⟨rfl, rfl, trivial⟩ trivial rfl
       ·rw [if_neg hc11] at H
        refine a_move (v := vS _) ?_ (hg := Gs.yes rfl rfl rfl (congrArg Bool.not (Bool.eq_false_iff.2 hc11)))
        refine a_move (v := vI _) ?_ (hg := Gs.yes rfl rfl rfl (congrArg Bool.not (Bool.eq_false_iff.2 hc11)))
        refine a_str ?_ ⟨hc8, hc7⟩ Try.underlying9 (hg := Gs.yes rfl rfl rfl (congrArg Bool.not (Bool.eq_false_iff.2 hc11)))
        obtain ⟨t12, e13, H⟩ := bindO H
        refine a_call (v := vB t12) (nk := []) (L := []) ?_ rfl (spec_l01Digit.ok e13) id (qd qn) trivial trivial trivial rfl (hg := Gs.yes rfl rfl rfl (congrArg Bool.not (Bool.eq_false_iff.2 hc11)))
        refine a_un (u := .bool (!t12)) ?_ (hg := Gs.yes rfl rfl rfl (congrArg Bool.not (Bool.eq_false_iff.2 hc11)))
        refine a_pick (b := true) (v := vB _) ?_ (congrArg Bool.not (Bool.eq_false_iff.2 hc11))
        refine RA.nil nofun ?_
        by_cases hc14 : t12 = true
        ·rw [if_pos hc14] at H
         refine AG.no rfl (congrArg Bool.not hc14) ?_
         refine AG.skip ?_
         refine AG.region HM ?_
         refine a_move (v := vI _) ?_
         refine a_int (u := .int .i64 (wrap64 (x3 + 1))) ?_
         refine a_move (v := vI _) ?_
         refine RA.nil nofun ?_
         exact AGr.canon id (ih0 _ (by omega) _ ⟨by omega, _, _, H, rfl⟩) ⟨rfl, rfl, trivial⟩ trivial rfl
        ·rw [if_neg hc14] at H
         refine AG.yes rfl (congrArg Bool.not (Bool.eq_false_iff.2 hc14)) ?_
         refine AG.seq ?_
         refine AG.region HM ?_
         refine a_move (v := vB _) ?_
         refine RA.nil nofun ?_
         refine AG.ret ?_
         obtain rfl := Option.some.inj H
         exact RetP.mk id ⟨rfl, trivial⟩ trivial rfl
      ·rw [if_neg hc8] at H
       cases H
     ·rw [if_neg hc7] at H
      refine AG.no rfl (decide_eq_false hc7) ?_
      refine AG.exit ?_
      refine AG.seq ?_
      refine AG.region HM ?_
      refine a_move (v := vB _) ?_
      refine RA.nil nofun ?_
      refine AG.ret ?_
      obtain rfl := Option.some.inj H
      exact RetP.mk id ⟨rfl, trivial⟩ trivial rfl
/-! ### spec_l05Ring: function 65 -/
def spec_l05Ring.l0 : Nat → List S107 → List Int → List S107 → Int → Option ((List S107) × Bool)
 | 0, _, _, _, _ => none
 | k + 1, x0_2, x1, x6, x7 => if x7 < (x1.length : Int) then (if 0 ≤ x7 then ((spec_l00In.f (rd2 x1 x7) 0 (wrap64 ((x0_2.length : Int) - 1))).bind fun t4 => (if t4 = true then (if 0 ≤ (rd2 x1 x7) then (if (rd2 x1 x7) < (x0_2.length : Int) then (if x6.length < 8796093022208 then (spec_l05Ring.l0 k x0_2 x1 (x6 ++ [(⟨(rd107 x0_2 (rd2 x1 x7)).f0, (rd107 x0_2 (rd2 x1 x7)).f1⟩ : S107)]) (wrap64 (x7 + 1))) else (none)) else (none)) else (none)) else (some (([] : List S107), false)))) else (none)) else (some (x6, true))
def spec_l05Ring.f (k : Nat) (a0_0 : Int) (a0_1 : Int) (l0_2 : List S107) (l0_3 : List S98) (l1 : List Int) : Option ((List S107) × Bool) := spec_l05Ring.l0 k l0_2 l1 (([] : List S107) : List S107) 0
set_option maxRecDepth 100000 in
theorem spec_l05Ring.ok {k : Nat} {a0_0 : Int} {a0_1 : Int} {l0_2 : List S107} {l0_3 : List S98} {l1 : List Int} {r0 : List S107} {r1 : Bool} (H : spec_l05Ring.f k a0_0 a0_1 l0_2 l0_3 l1 = some (r0, r1)) : OkF Try.prog 65 [.c (.d (.ro [.v (.int .i64 a0_0), .v (.int .i64 a0_1), .row 108 (l0_2.map c107), .row 101 (l0_3.map c98)])), vR 2 (l1.map c2)] [] (.tup [.c (.own 100 r0.length), .c (.d (.v (.bool r1)))]) [(100, .row 108 (r0.map c107))] := by
 unfold spec_l05Ring.f at H
 refine OkF.of (N := 41) (rs := [4, 5]) (avs := [.c (.own 100 r0.length), .c (.d (.v (.bool r1)))]) Try.func65 rfl rfl (fun _ _ => results_tmp2 rfl _ _ _) (by decide) rfl rfl rfl rfl (fun w0 S => ?_)
 refine AG.seq ?_
 refine AG.region HM ?_
 refine a_nilO (e := 108) 200 ?_ T108
 refine a_move (v := vB _) ?_
 refine RA.nil nofun ?_
 refine AG.seq ?_
 refine AG.region HM ?_
 refine a_lit (cs := []) (D := []) (css := (([] : List S107) : List S107).map c107) 201 ?_ N46 T108 (hcss := by rfl)
 refine a_move (v := .c (.own _ _)) ?_
 refine RA.nil nofun ?_
 refine AG.seq ?_
 refine AG.seq ?_
 refine AG.region HM ?_
 refine a_move (v := vI _) ?_
 refine RA.nil nofun ?_
 refine AG.block ?_
 refine AG.loop ?_
 obtain ⟨K0, hK0, gK0⟩ : ∃ K, k ≤ K ∧ K ≤ k := ⟨k, Nat.le_refl k, Nat.le_refl k⟩
 refine AGr.canon (fun κ => cond (Nat.beq κ 202) 201 (κ)) (AGr.loopI (n := k) (fun k s => k ≤ K0 ∧ ∃ (x0_0 : Int) (x0_1 : Int) (x0_2 : List S107) (x0_3 : List S98) (x1 : List Int) (x6 : List S107) (x7 : Int), spec_l05Ring.l0 k x0_2 x1 x6 x7 = some (r0, r1) ∧ s = St.of [(0, .c (.d (.ro [.v (.int .i64 x0_0), .v (.int .i64 x0_1), .row 108 (x0_2.map c107), .row 101 (x0_3.map c98)]))), (1, vR 2 (x1.map c2)), (6, .c (.own 202 x6.length)), (7, vI x7)] [(202, .row 108 (x6.map c107))]) ⟨hK0, _, _, _, _, _, _, _, H, rfl⟩ ?_ ?_) ⟨rfl, rfl, (ownE rfl (by simp)), rfl, trivial⟩ ⟨rfl, trivial⟩ rfl
 ·rintro _ ⟨_, _, _, _, _, _, _, _, H, _⟩
  cases H
 ·clear H hK0
  rintro k ih0 _ ⟨hK0, x0_0, x0_1, x0_2, x0_3, x1, x6, x7, H, rfl⟩
  unfold spec_l05Ring.l0 at H
  refine AG.seq ?_
  refine AG.seq ?_
  refine AG.region HM ?_
  refine a_move (v := vI _) ?_
  refine a_move (v := vR _ _) ?_
  refine a_lenR ?_ Try.underlying23
  refine a_int (u := .bool (decide (x7 < (x1.length : Int)))) ?_
  refine RA.nil nofun ?_
  by_cases hc2 : x7 < (x1.length : Int)
  ·rw [if_pos hc2] at H
   refine AG.yes rfl (decide_eq_true hc2) ?_
   refine AG.skip ?_
   refine AG.seq ?_
   refine AG.block ?_
   refine AG.seq ?_
   refine AG.seq ?_
   refine AG.region HM ?_
   refine a_move (v := vR _ _) ?_
   refine a_move (v := vI _) ?_
   by_cases hc3 : 0 ≤ x7
   ·rw [if_pos hc3] at H
    refine a_ixR (el := c2 (rd2 x1 x7)) ?_ ⟨hc3, hc2⟩ T2 Try.underlying23 (hel := R2 hc3 hc2)
    refine a_ldR (v := vI _) ?_ T2
    refine a_move (v := vO [_, _, _, _]) ?_
    refine a_nil (v := vO [_, _, _, _]) ?_
    refine a_faR (cells' := [_, _]) ?_ D49_2
    refine a_ldR (v := vR _ _) ?_ T46
    refine a_lenR ?_ Try.underlying46
    refine a_int (u := .int .i64 (wrap64 ((x0_2.length : Int) - 1))) ?_
    obtain ⟨t4, e5, H⟩ := bindO H
    refine a_call (v := vB t4) (nk := []) (L := []) ?_ rfl (spec_l00In.ok e5) id (qd (qd (qd qn))) trivial trivial trivial rfl
    refine a_un (u := .bool (!t4)) ?_
    refine RA.nil (fun _ => by kernel_rfl) ?_
    by_cases hc6 : t4 = true
    ·rw [if_pos hc6] at H
     refine AG.no rfl (congrArg Bool.not hc6) ?_
     refine AG.skip ?_
     refine AG.region HM ?_
     refine a_move (v := .c (.own _ _)) ?_
     refine a_move (v := vO [_, _, _, _]) ?_
     refine a_nil (v := vO [_, _, _, _]) ?_
     refine a_faR (cells' := [_, _]) ?_ D49_2
     refine a_ldR (v := vR _ _) ?_ T46
     refine a_move (v := vR _ _) ?_
     refine a_move (v := vI _) ?_
     refine a_ixR (el := c2 (rd2 x1 x7)) ?_ ⟨hc3, hc2⟩ T2 Try.underlying23 (hel := R2 hc3 hc2)
     refine a_ldR (v := vI _) ?_ T2
     by_cases hc7 : 0 ≤ (rd2 x1 x7)
     ·rw [if_pos hc7] at H
      by_cases hc8 : (rd2 x1 x7) < (x0_2.length : Int)
      ·rw [if_pos hc8] at H
       refine a_ixR (el := c107 (rd107 x0_2 (rd2 x1 x7))) ?_ ⟨hc7, hc8⟩ T108 Try.underlying46 (hel := R107 hc7 hc8)
       refine a_ldR (v := .agg [_, _]) ?_ T108
       refine a_lit (cs := [_, _]) (D := []) (css := ([(⟨(rd107 x0_2 (rd2 x1 x7)).f0, (rd107 x0_2 (rd2 x1 x7)).f1⟩ : S107)]).map c107) 204 ?_ N46 T108
       by_cases hc9 : x6.length < 8796093022208
       ·rw [if_pos hc9] at H
        refine a_appO (css' := (x6 ++ [(⟨(rd107 x0_2 (rd2 x1 x7)).f0, (rd107 x0_2 (rd2 x1 x7)).f1⟩ : S107)]).map c107) (n' := (x6 ++ [(⟨(rd107 x0_2 (rd2 x1 x7)).f0, (rd107 x0_2 (rd2 x1 x7)).f1⟩ : S107)]).length) ?_ T108 (by simp [maxLen]; omega) (by simp; omega) Try.underlying46 (hc := by exact List.map_append.symm) (hn := by exact List.length_map _)
        refine a_move (v := .c (.own _ _)) ?_
        refine RA.nil (fun _ => by kernel_rfl) ?_
        refine AG.region HM ?_
        refine a_move (v := vI _) ?_
        refine a_int (u := .int .i64 (wrap64 (x7 + 1))) ?_
        refine a_move (v := vI _) ?_
        refine RA.nil nofun ?_
        exact AGr.canon id (ih0 _ (by omega) _ ⟨by omega, _, _, _, _, _, _, _, H, rfl⟩) ⟨rfl, rfl, rfl, rfl, trivial⟩ ⟨rfl, trivial⟩ rfl
       ·rw [if_neg hc9] at H
        cases H
      ·rw [if_neg hc8] at H
       cases H
     ·rw [if_neg hc7] at H
      cases H
    ·rw [if_neg hc6] at H
     refine AG.yes rfl (congrArg Bool.not (Bool.eq_false_iff.2 hc6)) ?_
     refine AG.seq ?_
     refine AG.region HM ?_
     refine a_nilO (e := 108) 205 ?_ T108
     refine a_move (v := vB _) ?_
     refine RA.nil nofun ?_
     refine AG.ret ?_
     simp only [Option.some.injEq, Prod.mk.injEq] at H
     obtain ⟨rfl, rfl⟩ := H
     exact RetP.mk (fun κ => cond (Nat.beq κ 100) 205 (κ)) ⟨(ownE rfl (by simp)), rfl, trivial⟩ ⟨rfl, trivial⟩ rfl
   ·rw [if_neg hc3] at H
    cases H
  ·rw [if_neg hc2] at H
   refine AG.no rfl (decide_eq_false hc2) ?_
   refine AG.exit ?_
   refine AG.seq ?_
   refine AG.region HM ?_
   refine a_move (v := .c (.own _ _)) ?_
   refine a_move (v := .c (.own _ _)) ?_
   refine a_move (v := vB _) ?_
   refine RA.nil nofun ?_
   refine AG.ret ?_
   simp only [Option.some.injEq, Prod.mk.injEq] at H
   obtain ⟨rfl, rfl⟩ := H
   exact RetP.mk (fun κ => cond (Nat.beq κ 100) 202 (κ)) ⟨rfl, rfl, trivial⟩ ⟨rfl, trivial⟩ rfl
/-! ### spec_l03Area: function 67 -/
def spec_l03Area.l0 : Nat → List S107 → Int → Int → Option (Int)
 | 0, _, _, _ => none
 | k + 1, x0, x3, x4 => if x4 < (x0.length : Int) then (if (x0.length : Int) = 0 then (none) else (if 0 ≤ (Int.tmod (wrap64 (x4 + 1)) (x0.length : Int)) then (if (Int.tmod (wrap64 (x4 + 1)) (x0.length : Int)) < (x0.length : Int) then (if 0 ≤ x4 then (spec_l03Area.l0 k x0 (wrap64 (x3 + (wrap64 ((wrap64 (((rd107 x0 x4).f0) * ((rd107 x0 (Int.tmod (wrap64 (x4 + 1)) (x0.length : Int))).f1))) - (wrap64 (((rd107 x0 x4).f1) * ((rd107 x0 (Int.tmod (wrap64 (x4 + 1)) (x0.length : Int))).f0))))))) (wrap64 (x4 + 1))) else (none)) else (none)) else (none))) else (some x3)
def spec_l03Area.f (k : Nat) (l0 : List S107) : Option (Int) := spec_l03Area.l0 k l0 0 0
set_option maxRecDepth 100000 in
theorem spec_l03Area.ok {k : Nat} {l0 : List S107} {r : Int} (H : spec_l03Area.f k l0 = some r) : OkF Try.prog 67 [vR 108 (l0.map c107)] [] (.c (.d (.v (.int .i64 r)))) [] := by
 unfold spec_l03Area.f at H
 refine OkF.of (N := 40) (rs := [2]) (avs := [.c (.d (.v (.int .i64 r)))]) Try.func67 rfl rfl (fun _ _ => results_tmp rfl _ _ _) (by decide) rfl rfl rfl rfl (fun w0 S => ?_)
 refine AG.seq ?_
 refine AG.region HM ?_
 refine a_move (v := vI _) ?_
 refine RA.nil nofun ?_
 refine AG.seq ?_
 refine AG.region HM ?_
 refine a_move (v := vI _) ?_
 refine RA.nil nofun ?_
 refine AG.seq ?_
 refine AG.seq ?_
 refine AG.region HM ?_
 refine a_move (v := vI _) ?_
 refine RA.nil nofun ?_
 refine AG.block ?_
 refine AG.loop ?_
 obtain ⟨K0, hK0, gK0⟩ : ∃ K, k ≤ K ∧ K ≤ k := ⟨k, Nat.le_refl k, Nat.le_refl k⟩
 refine AGr.canon id (AGr.loopI (n := k) (fun k s => k ≤ K0 ∧ ∃ (x0 : List S107) (x3 : Int) (x4 : Int), spec_l03Area.l0 k x0 x3 x4 = some r ∧ s = St.of [(0, vR 108 (x0.map c107)), (3, vI x3), (4, vI x4)] []) ⟨hK0, _, _, _, H, rfl⟩ ?_ ?_) ⟨rfl, rfl, rfl, trivial⟩ trivial rfl
 ·rintro _ ⟨_, _, _, _, H, _⟩
  cases H
 ·clear H hK0
  rintro k ih0 _ ⟨hK0, x0, x3, x4, H, rfl⟩
  unfold spec_l03Area.l0 at H
  refine AG.seq ?_
  refine AG.seq ?_
  refine AG.region HM ?_
  refine a_move (v := vI _) ?_
  refine a_move (v := vR _ _) ?_
  refine a_lenR ?_ Try.underlying46
  refine a_int (u := .bool (decide (x4 < (x0.length : Int)))) ?_
  refine RA.nil nofun ?_
  by_cases hc1 : x4 < (x0.length : Int)
  ·rw [if_pos hc1] at H
   refine AG.yes rfl (decide_eq_true hc1) ?_
   refine AG.skip ?_
   refine AG.seq ?_
   refine AG.block ?_
   refine AG.seq ?_
   refine AG.region HM ?_
   refine a_move (v := vR _ _) ?_
   refine a_move (v := vI _) ?_
   refine a_int (u := .int .i64 (wrap64 (x4 + 1))) ?_
   refine a_move (v := vR _ _) ?_
   refine a_lenR ?_ Try.underlying46
   by_cases hc2 : (x0.length : Int) = 0
   ·rw [if_pos hc2] at H
    cases H
   ·rw [if_neg hc2] at H
    refine a_rem (r := Int.tmod (wrap64 (x4 + 1)) (x0.length : Int)) ?_ hc2
    by_cases hc3 : 0 ≤ (Int.tmod (wrap64 (x4 + 1)) (x0.length : Int))
    ·rw [if_pos hc3] at H
     by_cases hc4 : (Int.tmod (wrap64 (x4 + 1)) (x0.length : Int)) < (x0.length : Int)
     ·rw [if_pos hc4] at H
      refine a_ixR (el := c107 (rd107 x0 (Int.tmod (wrap64 (x4 + 1)) (x0.length : Int)))) ?_ ⟨hc3, hc4⟩ T108 Try.underlying46 (hel := R107 hc3 hc4)
      refine a_ldR (v := .agg [_, _]) ?_ T108
      refine a_alloc (cs := [_, _]) 200 ?_ T108
      refine a_stB (cs' := [_, _]) ?_ T108
      refine RA.nil nofun ?_
      refine AG.region HM ?_
      refine a_move (v := vI _) ?_
      refine a_move (v := vR _ _) ?_
      refine a_move (v := vI _) ?_
      by_cases hc5 : 0 ≤ x4
      ·rw [if_pos hc5] at H
       refine a_ixR (el := c107 (rd107 x0 x4)) ?_ ⟨hc5, hc1⟩ T108 Try.underlying46 (hel := R107 hc5 hc1)
       refine a_faR (cells' := [_, _]) ?_ D108_0
       refine a_ldR (v := vI _) ?_ T2
       refine a_faB (q := 1) ?_ D108_1
       refine a_ldB (v := vI _) ?_ T2
       refine a_int (u := .int .i64 (wrap64 (((rd107 x0 x4).f0) * ((rd107 x0 (Int.tmod (wrap64 (x4 + 1)) (x0.length : Int))).f1)))) ?_
       refine a_move (v := vR _ _) ?_
       refine a_move (v := vI _) ?_
       refine a_ixR (el := c107 (rd107 x0 x4)) ?_ ⟨hc5, hc1⟩ T108 Try.underlying46 (hel := R107 hc5 hc1)
       refine a_faR (cells' := [_]) ?_ D108_1
       refine a_ldR (v := vI _) ?_ T2
       refine a_faB (q := 0) ?_ D108_0
       refine a_ldB (v := vI _) ?_ T2
       refine a_int (u := .int .i64 (wrap64 (((rd107 x0 x4).f1) * ((rd107 x0 (Int.tmod (wrap64 (x4 + 1)) (x0.length : Int))).f0)))) ?_
       refine a_int (u := .int .i64 (wrap64 ((wrap64 (((rd107 x0 x4).f0) * ((rd107 x0 (Int.tmod (wrap64 (x4 + 1)) (x0.length : Int))).f1))) - (wrap64 (((rd107 x0 x4).f1) * ((rd107 x0 (Int.tmod (wrap64 (x4 + 1)) (x0.length : Int))).f0)))))) ?_
       refine a_int (u := .int .i64 (wrap64 (x3 + (wrap64 ((wrap64 (((rd107 x0 x4).f0) * ((rd107 x0 (Int.tmod (wrap64 (x4 + 1)) (x0.length : Int))).f1))) - (wrap64 (((rd107 x0 x4).f1) * ((rd107 x0 (Int.tmod (wrap64 (x4 + 1)) (x0.length : Int))).f0)))))))) ?_
       refine a_move (v := vI _) ?_
       refine RA.nil (fun _ => by kernel_rfl) ?_
       refine AG.region HM ?_
       refine a_move (v := vI _) ?_
       refine a_int (u := .int .i64 (wrap64 (x4 + 1))) ?_
       refine a_move (v := vI _) ?_
       refine RA.nil nofun ?_
       exact AGr.canon id (ih0 _ (by omega) _ ⟨by omega, _, _, _, H, rfl⟩) ⟨rfl, rfl, rfl, trivial⟩ trivial rfl
      ·rw [if_neg hc5] at H
       cases H
     ·rw [if_neg hc4] at H
      cases H
    ·rw [if_neg hc3] at H
     cases H
  ·rw [if_neg hc1] at H
   refine AG.no rfl (decide_eq_false hc1) ?_
   refine AG.exit ?_
   refine AG.seq ?_
   refine AG.region HM ?_
   refine a_move (v := vI _) ?_
   refine a_move (v := vI _) ?_
   refine RA.nil nofun ?_
   refine AG.ret ?_
   obtain rfl := Option.some.inj H
   exact RetP.mk id ⟨rfl, trivial⟩ trivial rfl
/-! ### spec_l02Ok: function 91 -/
def spec_l02Ok.f (a0_0 : Int) (a0_1 : Int) : Option (Bool) := (spec_l00In.f a0_0 0 20000).bind fun t1 => (if t1 = true then ((spec_l00In.f a0_1 0 20000).bind fun t4 => (some t4)) else (some false))
set_option maxRecDepth 100000 in
theorem spec_l02Ok.ok {a0_0 : Int} {a0_1 : Int} {r : Bool} (H : spec_l02Ok.f a0_0 a0_1 = some r) : OkF Try.prog 91 [.agg [.d (.v (.int .i64 a0_0)), .d (.v (.int .i64 a0_1))]] [] (.c (.d (.v (.bool r)))) [] := by
 unfold spec_l02Ok.f at H
 refine OkF.of (N := 11) (rs := [2]) (avs := [.c (.d (.v (.bool r)))]) Try.func91 rfl rfl (fun _ _ => results_tmp rfl _ _ _) (by decide) rfl rfl rfl rfl (fun w0 S => ?_)
 refine AG.seq ?_
 refine AG.region HM ?_
 refine a_box 200 ?_
 refine a_move (v := vB _) ?_
 refine RA.nil nofun ?_
 refine AG.seq ?_
 refine AG.region HM ?_
 refine a_faB (q := 0) ?_ D108_0
 refine a_ldB (v := vI _) ?_ T2
 obtain ⟨t1, e2, H⟩ := bindO H
 refine a_call (v := vB t1) (nk := []) (L := []) ?_ rfl (spec_l00In.ok e2) id (qd (qd (qd qn))) trivial trivial trivial rfl
 refine a_move (v := vB _) ?_
 by_cases hc3 : t1 = true
 ·rw [if_pos hc3] at H
  refine a_faB (q := 1) ?_ D108_1 (hg := Gs.yes rfl rfl rfl hc3)
  refine a_ldB (v := vI _) ?_ T2 (hg := Gs.yes rfl rfl rfl hc3)
  obtain ⟨t4, e5, H⟩ := bindO H
  refine a_call (v := vB t4) (nk := []) (L := []) ?_ rfl (spec_l00In.ok e5) id (qd (qd (qd qn))) trivial trivial trivial rfl (hg := Gs.yes rfl rfl rfl hc3)
  refine a_pick (b := true) (v := vB _) ?_ hc3
  refine a_move (v := vB _) ?_
  refine RA.nil nofun ?_
  refine AG.ret ?_
  obtain rfl := Option.some.inj H
  exact RetP.mk id ⟨rfl, trivial⟩ trivial rfl
 ·rw [if_neg hc3] at H
  refine RA.skip rfl rfl rfl rfl rfl (Bool.eq_false_iff.2 hc3) (by decide) ?_
  refine RA.skip rfl rfl rfl rfl rfl (Bool.eq_false_iff.2 hc3) (by decide) ?_
  refine RA.skip rfl rfl rfl rfl rfl (Bool.eq_false_iff.2 hc3) (by decide) ?_
  refine a_pick (b := false) (v := vB _) ?_ (Bool.eq_false_iff.2 hc3)
  refine a_move (v := vB _) ?_
  refine RA.nil nofun ?_
  refine AG.ret ?_
  obtain rfl := Option.some.inj H
  exact RetP.mk id ⟨rfl, trivial⟩ trivial rfl
/-! ### spec_l00Max: function 99 -/
def spec_l00Max.f (a0 : Int) (a1 : Int) : Option (Int) := if a0 > a1 then (some a0) else (some a1)
set_option maxRecDepth 100000 in
theorem spec_l00Max.ok {a0 : Int} {a1 : Int} {r : Int} (H : spec_l00Max.f a0 a1 = some r) : OkF Try.prog 99 [vI a0, vI a1] [] (.c (.d (.v (.int .i64 r)))) [] := by
 unfold spec_l00Max.f at H
 refine OkF.of (N := 10) (rs := [4]) (avs := [.c (.d (.v (.int .i64 r)))]) Try.func99 rfl rfl (fun _ _ => results_tmp rfl _ _ _) (by decide) rfl rfl rfl rfl (fun w0 S => ?_)
 refine AG.seq ?_
 refine AG.region HM ?_
 refine a_move (v := vI _) ?_
 refine RA.nil nofun ?_
 refine AG.seq ?_
 refine AG.seq ?_
 refine AG.region HM ?_
 refine a_move (v := vI _) ?_
 refine a_move (v := vI _) ?_
 refine a_int (u := .bool (decide (a0 > a1))) ?_
 refine RA.nil nofun ?_
 by_cases hc1 : a0 > a1
 ·rw [if_pos hc1] at H
  refine AG.yes rfl (decide_eq_true hc1) ?_
  refine AG.seq ?_
  refine AG.region HM ?_
  refine a_move (v := vI _) ?_
  refine a_move (v := vI _) ?_
  refine RA.nil nofun ?_
  refine AG.ret ?_
  obtain rfl := Option.some.inj H
  exact RetP.mk id ⟨rfl, trivial⟩ trivial rfl
 ·rw [if_neg hc1] at H
  refine AG.no rfl (decide_eq_false hc1) ?_
  refine AG.skip ?_
  refine AG.seq ?_
  refine AG.region HM ?_
  refine a_move (v := vI _) ?_
  refine a_move (v := vI _) ?_
  refine RA.nil nofun ?_
  refine AG.ret ?_
  obtain rfl := Option.some.inj H
  exact RetP.mk id ⟨rfl, trivial⟩ trivial rfl
/-! ### spec_l02Cross: function 119 -/
def spec_l02Cross.f (a0_0 : Int) (a0_1 : Int) (a1_0 : Int) (a1_1 : Int) (a2_0 : Int) (a2_1 : Int) : Option (Int) := some (wrap64 ((wrap64 ((wrap64 (a1_0 - a0_0)) * (wrap64 (a2_1 - a0_1)))) - (wrap64 ((wrap64 (a1_1 - a0_1)) * (wrap64 (a2_0 - a0_0))))))
set_option maxRecDepth 100000 in
theorem spec_l02Cross.ok {a0_0 : Int} {a0_1 : Int} {a1_0 : Int} {a1_1 : Int} {a2_0 : Int} {a2_1 : Int} {r : Int} (H : spec_l02Cross.f a0_0 a0_1 a1_0 a1_1 a2_0 a2_1 = some r) : OkF Try.prog 119 [.agg [.d (.v (.int .i64 a0_0)), .d (.v (.int .i64 a0_1))], .agg [.d (.v (.int .i64 a1_0)), .d (.v (.int .i64 a1_1))], .agg [.d (.v (.int .i64 a2_0)), .d (.v (.int .i64 a2_1))]] [] (.c (.d (.v (.int .i64 r)))) [] := by
 unfold spec_l02Cross.f at H
 refine OkF.of (N := 30) (rs := [6]) (avs := [.c (.d (.v (.int .i64 r)))]) Try.func119 rfl rfl (fun _ _ => results_tmp rfl _ _ _) (by decide) rfl rfl rfl rfl (fun w0 S => ?_)
 refine AG.seq ?_
 refine AG.region HM ?_
 refine a_box 200 ?_
 refine a_box 201 ?_
 refine a_box 202 ?_
 refine a_move (v := vI _) ?_
 refine RA.nil nofun ?_
 refine AG.seq ?_
 refine AG.region HM ?_
 refine a_faB (q := 0) ?_ D108_0
 refine a_ldB (v := vI _) ?_ T2
 refine a_faB (q := 0) ?_ D108_0
 refine a_ldB (v := vI _) ?_ T2
 refine a_int (u := .int .i64 (wrap64 (a1_0 - a0_0))) ?_
 refine a_faB (q := 1) ?_ D108_1
 refine a_ldB (v := vI _) ?_ T2
 refine a_faB (q := 1) ?_ D108_1
 refine a_ldB (v := vI _) ?_ T2
 refine a_int (u := .int .i64 (wrap64 (a2_1 - a0_1))) ?_
 refine a_int (u := .int .i64 (wrap64 ((wrap64 (a1_0 - a0_0)) * (wrap64 (a2_1 - a0_1))))) ?_
 refine a_faB (q := 1) ?_ D108_1
 refine a_ldB (v := vI _) ?_ T2
 refine a_faB (q := 1) ?_ D108_1
 refine a_ldB (v := vI _) ?_ T2
 refine a_int (u := .int .i64 (wrap64 (a1_1 - a0_1))) ?_
 refine a_faB (q := 0) ?_ D108_0
 refine a_ldB (v := vI _) ?_ T2
 refine a_faB (q := 0) ?_ D108_0
 refine a_ldB (v := vI _) ?_ T2
 refine a_int (u := .int .i64 (wrap64 (a2_0 - a0_0))) ?_
 refine a_int (u := .int .i64 (wrap64 ((wrap64 (a1_1 - a0_1)) * (wrap64 (a2_0 - a0_0))))) ?_
 refine a_int (u := .int .i64 (wrap64 ((wrap64 ((wrap64 (a1_0 - a0_0)) * (wrap64 (a2_1 - a0_1)))) - (wrap64 ((wrap64 (a1_1 - a0_1)) * (wrap64 (a2_0 - a0_0))))))) ?_
 refine a_move (v := vI _) ?_
 refine RA.nil nofun ?_
 refine AG.ret ?_
 obtain rfl := Option.some.inj H
 exact RetP.mk id ⟨rfl, trivial⟩ trivial rfl
/-! ### spec_l02Side: function 110 -/
def spec_l02Side.f (a0_0 : Int) (a0_1 : Int) (a1_0 : Int) (a1_1 : Int) (a2_0 : Int) (a2_1 : Int) : Option (Int) := (spec_l02Cross.f a0_0 a0_1 a1_0 a1_1 a2_0 a2_1).bind fun t1 => (if t1 > 0 then (some 1) else (if t1 < 0 then (some (-1)) else (some 0)))
set_option maxRecDepth 100000 in
theorem spec_l02Side.ok {a0_0 : Int} {a0_1 : Int} {a1_0 : Int} {a1_1 : Int} {a2_0 : Int} {a2_1 : Int} {r : Int} (H : spec_l02Side.f a0_0 a0_1 a1_0 a1_1 a2_0 a2_1 = some r) : OkF Try.prog 110 [.agg [.d (.v (.int .i64 a0_0)), .d (.v (.int .i64 a0_1))], .agg [.d (.v (.int .i64 a1_0)), .d (.v (.int .i64 a1_1))], .agg [.d (.v (.int .i64 a2_0)), .d (.v (.int .i64 a2_1))]] [] (.c (.d (.v (.int .i64 r)))) [] := by
 unfold spec_l02Side.f at H
 refine OkF.of (N := 16) (rs := [6]) (avs := [.c (.d (.v (.int .i64 r)))]) Try.func110 rfl rfl (fun _ _ => results_tmp rfl _ _ _) (by decide) rfl rfl rfl rfl (fun w0 S => ?_)
 refine AG.seq ?_
 refine AG.region HM ?_
 refine a_box 200 ?_
 refine a_box 201 ?_
 refine a_box 202 ?_
 refine a_move (v := vI _) ?_
 refine RA.nil nofun ?_
 refine AG.seq ?_
 refine AG.region HM ?_
 refine a_ldB (v := .agg [_, _]) ?_ T108
 refine a_ldB (v := .agg [_, _]) ?_ T108
 refine a_ldB (v := .agg [_, _]) ?_ T108
 obtain ⟨t1, e2, H⟩ := bindO H
 refine a_call (v := vI t1) (nk := []) (L := []) ?_ rfl (spec_l02Cross.ok e2) id (qg (qg (qg qn))) trivial trivial trivial rfl
 refine a_move (v := vI _) ?_
 refine RA.nil nofun ?_
 refine AG.seq ?_
 refine AG.seq ?_
 refine AG.region HM ?_
 refine a_move (v := vI _) ?_
 refine a_int (u := .bool (decide (t1 > 0))) ?_
 refine RA.nil nofun ?_
 by_cases hc3 : t1 > 0
 ·rw [if_pos hc3] at H
  refine AG.yes rfl (decide_eq_true hc3) ?_
  refine AG.seq ?_
  refine AG.region HM ?_
  refine a_move (v := vI _) ?_
  refine RA.nil nofun ?_
  refine AG.ret ?_
  obtain rfl := Option.some.inj H
  exact RetP.mk id ⟨rfl, trivial⟩ trivial rfl
 ·rw [if_neg hc3] at H
  refine AG.no rfl (decide_eq_false hc3) ?_
  refine AG.skip ?_
  refine AG.seq ?_
  refine AG.seq ?_
  refine AG.region HM ?_
  refine a_move (v := vI _) ?_
  refine a_int (u := .bool (decide (t1 < 0))) ?_
  refine RA.nil nofun ?_
  by_cases hc4 : t1 < 0
  ·rw [if_pos hc4] at H
   refine AG.yes rfl (decide_eq_true hc4) ?_
   refine AG.seq ?_
   refine AG.region HM ?_
   refine a_move (v := vI _) ?_
   refine RA.nil nofun ?_
   refine AG.ret ?_
   obtain rfl := Option.some.inj H
   exact RetP.mk id ⟨rfl, trivial⟩ trivial rfl
  ·rw [if_neg hc4] at H
   refine AG.no rfl (decide_eq_false hc4) ?_
   refine AG.skip ?_
   refine AG.seq ?_
   refine AG.region HM ?_
   refine a_move (v := vI _) ?_
   refine RA.nil nofun ?_
   refine AG.ret ?_
   obtain rfl := Option.some.inj H
   exact RetP.mk id ⟨rfl, trivial⟩ trivial rfl
/-! ### spec_l00Min: function 111 -/
def spec_l00Min.f (a0 : Int) (a1 : Int) : Option (Int) := if a0 < a1 then (some a0) else (some a1)
set_option maxRecDepth 100000 in
theorem spec_l00Min.ok {a0 : Int} {a1 : Int} {r : Int} (H : spec_l00Min.f a0 a1 = some r) : OkF Try.prog 111 [vI a0, vI a1] [] (.c (.d (.v (.int .i64 r)))) [] := by
 unfold spec_l00Min.f at H
 refine OkF.of (N := 10) (rs := [4]) (avs := [.c (.d (.v (.int .i64 r)))]) Try.func111 rfl rfl (fun _ _ => results_tmp rfl _ _ _) (by decide) rfl rfl rfl rfl (fun w0 S => ?_)
 refine AG.seq ?_
 refine AG.region HM ?_
 refine a_move (v := vI _) ?_
 refine RA.nil nofun ?_
 refine AG.seq ?_
 refine AG.seq ?_
 refine AG.region HM ?_
 refine a_move (v := vI _) ?_
 refine a_move (v := vI _) ?_
 refine a_int (u := .bool (decide (a0 < a1))) ?_
 refine RA.nil nofun ?_
 by_cases hc1 : a0 < a1
 ·rw [if_pos hc1] at H
  refine AG.yes rfl (decide_eq_true hc1) ?_
  refine AG.seq ?_
  refine AG.region HM ?_
  refine a_move (v := vI _) ?_
  refine a_move (v := vI _) ?_
  refine RA.nil nofun ?_
  refine AG.ret ?_
  obtain rfl := Option.some.inj H
  exact RetP.mk id ⟨rfl, trivial⟩ trivial rfl
 ·rw [if_neg hc1] at H
  refine AG.no rfl (decide_eq_false hc1) ?_
  refine AG.skip ?_
  refine AG.seq ?_
  refine AG.region HM ?_
  refine a_move (v := vI _) ?_
  refine a_move (v := vI _) ?_
  refine RA.nil nofun ?_
  refine AG.ret ?_
  obtain rfl := Option.some.inj H
  exact RetP.mk id ⟨rfl, trivial⟩ trivial rfl
/-! ### spec_l02On: function 92 -/
def spec_l02On.f (a0_0 : Int) (a0_1 : Int) (a1_0 : Int) (a1_1 : Int) (a2_0 : Int) (a2_1 : Int) : Option (Bool) := (spec_l02Side.f a0_0 a0_1 a1_0 a1_1 a2_0 a2_1).bind fun t1 => (if t1 = 0 then ((spec_l00Min.f a0_0 a1_0).bind fun t4 => ((spec_l00Max.f a0_0 a1_0).bind fun t6 => ((spec_l00In.f a2_0 t4 t6).bind fun t8 => (if t8 = true then ((spec_l00Min.f a0_1 a1_1).bind fun t11 => ((spec_l00Max.f a0_1 a1_1).bind fun t13 => ((spec_l00In.f a2_1 t11 t13).bind fun t15 => (some t15)))) else (some false))))) else (some false))
set_option maxRecDepth 100000 in
theorem spec_l02On.ok {a0_0 : Int} {a0_1 : Int} {a1_0 : Int} {a1_1 : Int} {a2_0 : Int} {a2_1 : Int} {r : Bool} (H : spec_l02On.f a0_0 a0_1 a1_0 a1_1 a2_0 a2_1 = some r) : OkF Try.prog 92 [.agg [.d (.v (.int .i64 a0_0)), .d (.v (.int .i64 a0_1))], .agg [.d (.v (.int .i64 a1_0)), .d (.v (.int .i64 a1_1))], .agg [.d (.v (.int .i64 a2_0)), .d (.v (.int .i64 a2_1))]] [] (.c (.d (.v (.bool r)))) [] := by
 unfold spec_l02On.f at H
 refine OkF.of (N := 42) (rs := [6]) (avs := [.c (.d (.v (.bool r)))]) Try.func92 rfl rfl (fun _ _ => results_tmp rfl _ _ _) (by decide) rfl rfl rfl rfl (fun w0 S => ?_)
 refine AG.seq ?_
 refine AG.region HM ?_
 refine a_box 200 ?_
 refine a_box 201 ?_
 refine a_box 202 ?_
 refine a_move (v := vB _) ?_
 refine RA.nil nofun ?_
 refine AG.seq ?_
 refine AG.region HM ?_
 refine a_ldB (v := .agg [_, _]) ?_ T108
 refine a_ldB (v := .agg [_, _]) ?_ T108
 refine a_ldB (v := .agg [_, _]) ?_ T108
 obtain ⟨t1, e2, H⟩ := bindO H
 refine a_call (v := vI t1) (nk := []) (L := []) ?_ rfl (spec_l02Side.ok e2) id (qg (qg (qg qn))) trivial trivial trivial rfl
 refine a_int (u := .bool ((t1 == 0))) ?_
 refine a_move (v := vB _) ?_
 by_cases hc3 : t1 = 0
 ·rw [if_pos hc3] at H
  refine a_faB (q := 0) ?_ D108_0 (hg := Gs.yes rfl rfl rfl (beq_iff_eq.2 hc3))
  refine a_ldB (v := vI _) ?_ T2 (hg := Gs.yes rfl rfl rfl (beq_iff_eq.2 hc3))
  refine a_faB (q := 0) ?_ D108_0 (hg := Gs.yes rfl rfl rfl (beq_iff_eq.2 hc3))
  refine a_ldB (v := vI _) ?_ T2 (hg := Gs.yes rfl rfl rfl (beq_iff_eq.2 hc3))
  refine a_faB (q := 0) ?_ D108_0 (hg := Gs.yes rfl rfl rfl (beq_iff_eq.2 hc3))
  refine a_ldB (v := vI _) ?_ T2 (hg := Gs.yes rfl rfl rfl (beq_iff_eq.2 hc3))
  obtain ⟨t4, e5, H⟩ := bindO H
  refine a_call (v := vI t4) (nk := []) (L := []) ?_ rfl (spec_l00Min.ok e5) id (qd (qd qn)) trivial trivial trivial rfl (hg := Gs.yes rfl rfl rfl (beq_iff_eq.2 hc3))
  refine a_faB (q := 0) ?_ D108_0 (hg := Gs.yes rfl rfl rfl (beq_iff_eq.2 hc3))
  refine a_ldB (v := vI _) ?_ T2 (hg := Gs.yes rfl rfl rfl (beq_iff_eq.2 hc3))
  refine a_faB (q := 0) ?_ D108_0 (hg := Gs.yes rfl rfl rfl (beq_iff_eq.2 hc3))
  refine a_ldB (v := vI _) ?_ T2 (hg := Gs.yes rfl rfl rfl (beq_iff_eq.2 hc3))
  obtain ⟨t6, e7, H⟩ := bindO H
  refine a_call (v := vI t6) (nk := []) (L := []) ?_ rfl (spec_l00Max.ok e7) id (qd (qd qn)) trivial trivial trivial rfl (hg := Gs.yes rfl rfl rfl (beq_iff_eq.2 hc3))
  obtain ⟨t8, e9, H⟩ := bindO H
  refine a_call (v := vB t8) (nk := []) (L := []) ?_ rfl (spec_l00In.ok e9) id (qd (qd (qd qn))) trivial trivial trivial rfl (hg := Gs.yes rfl rfl rfl (beq_iff_eq.2 hc3))
  refine a_pick (b := true) (v := vB _) ?_ (beq_iff_eq.2 hc3)
  refine a_move (v := vB _) ?_
  by_cases hc10 : t8 = true
  ·rw [if_pos hc10] at H
   refine a_faB (q := 1) ?_ D108_1 (hg := Gs.yes rfl rfl rfl hc10)
   refine a_ldB (v := vI _) ?_ T2 (hg := Gs.yes rfl rfl rfl hc10)
   refine a_faB (q := 1) ?_ D108_1 (hg := Gs.yes rfl rfl rfl hc10)
   refine a_ldB (v := vI _) ?_ T2 (hg := Gs.yes rfl rfl rfl hc10)
   refine a_faB (q := 1) ?_ D108_1 (hg := Gs.yes rfl rfl rfl hc10)
   refine a_ldB (v := vI _) ?_ T2 (hg := Gs.yes rfl rfl rfl hc10)
   obtain ⟨t11, e12, H⟩ := bindO H
   refine a_call (v := vI t11) (nk := []) (L := []) ?_ rfl (spec_l00Min.ok e12) id (qd (qd qn)) trivial trivial trivial rfl (hg := Gs.yes rfl rfl rfl hc10)
   refine a_faB (q := 1) ?_ D108_1 (hg := Gs.yes rfl rfl rfl hc10)
   refine a_ldB (v := vI _) ?_ T2 (hg := Gs.yes rfl rfl rfl hc10)
   refine a_faB (q := 1) ?_ D108_1 (hg := Gs.yes rfl rfl rfl hc10)
   refine a_ldB (v := vI _) ?_ T2 (hg := Gs.yes rfl rfl rfl hc10)
   obtain ⟨t13, e14, H⟩ := bindO H
   refine a_call (v := vI t13) (nk := []) (L := []) ?_ rfl (spec_l00Max.ok e14) id (qd (qd qn)) trivial trivial trivial rfl (hg := Gs.yes rfl rfl rfl hc10)
   obtain ⟨t15, e16, H⟩ := bindO H
   refine a_call (v := vB t15) (nk := []) (L := []) ?_ rfl (spec_l00In.ok e16) id (qd (qd (qd qn))) trivial trivial trivial rfl (hg := Gs.yes rfl rfl rfl hc10)
   refine a_pick (b := true) (v := vB _) ?_ hc10
   refine a_move (v := vB _) ?_
   refine RA.nil (fun _ => by kernel_rfl) ?_
   refine AG.ret ?_
   obtain rfl := Option.some.inj H
   exact RetP.mk id ⟨rfl, trivial⟩ trivial rfl
  ·rw [if_neg hc10] at H
   refine RA.skip rfl rfl rfl rfl rfl (Bool.eq_false_iff.2 hc10) (by decide) ?_
   refine RA.skip rfl rfl rfl rfl rfl (Bool.eq_false_iff.2 hc10) (by decide) ?_
   refine RA.skip rfl rfl rfl rfl rfl (Bool.eq_false_iff.2 hc10) (by decide) ?_
   refine RA.skip rfl rfl rfl rfl rfl (Bool.eq_false_iff.2 hc10) (by decide) ?_
   refine RA.skip rfl rfl rfl rfl rfl (Bool.eq_false_iff.2 hc10) (by decide) ?_
   refine RA.skip rfl rfl rfl rfl rfl (Bool.eq_false_iff.2 hc10) (by decide) ?_
   refine RA.skip rfl rfl rfl rfl rfl (Bool.eq_false_iff.2 hc10) (by decide) ?_
   refine RA.skip rfl rfl rfl rfl rfl (Bool.eq_false_iff.2 hc10) (by decide) ?_
   refine RA.skip rfl rfl rfl rfl rfl (Bool.eq_false_iff.2 hc10) (by decide) ?_
   refine RA.skip rfl rfl rfl rfl rfl (Bool.eq_false_iff.2 hc10) (by decide) ?_
   refine RA.skip rfl rfl rfl rfl rfl (Bool.eq_false_iff.2 hc10) (by decide) ?_
   refine RA.skip rfl rfl rfl rfl rfl (Bool.eq_false_iff.2 hc10) (by decide) ?_
   refine RA.skip rfl rfl rfl rfl rfl (Bool.eq_false_iff.2 hc10) (by decide) ?_
   refine a_pick (b := false) (v := vB _) ?_ (Bool.eq_false_iff.2 hc10)
   refine a_move (v := vB _) ?_
   refine RA.nil (fun _ => by kernel_rfl) ?_
   refine AG.ret ?_
   obtain rfl := Option.some.inj H
   exact RetP.mk id ⟨rfl, trivial⟩ trivial rfl
 ·rw [if_neg hc3] at H
  refine RA.skip rfl rfl rfl rfl rfl (beq_eq_false_iff_ne.2 hc3) (by decide) ?_
  refine RA.skip rfl rfl rfl rfl rfl (beq_eq_false_iff_ne.2 hc3) (by decide) ?_
  refine RA.skip rfl rfl rfl rfl rfl (beq_eq_false_iff_ne.2 hc3) (by decide) ?_
  refine RA.skip rfl rfl rfl rfl rfl (beq_eq_false_iff_ne.2 hc3) (by decide) ?_
  refine RA.skip rfl rfl rfl rfl rfl (beq_eq_false_iff_ne.2 hc3) (by decide) ?_
  refine RA.skip rfl rfl rfl rfl rfl (beq_eq_false_iff_ne.2 hc3) (by decide) ?_
  refine RA.skip rfl rfl rfl rfl rfl (beq_eq_false_iff_ne.2 hc3) (by decide) ?_
  refine RA.skip rfl rfl rfl rfl rfl (beq_eq_false_iff_ne.2 hc3) (by decide) ?_
  refine RA.skip rfl rfl rfl rfl rfl (beq_eq_false_iff_ne.2 hc3) (by decide) ?_
  refine RA.skip rfl rfl rfl rfl rfl (beq_eq_false_iff_ne.2 hc3) (by decide) ?_
  refine RA.skip rfl rfl rfl rfl rfl (beq_eq_false_iff_ne.2 hc3) (by decide) ?_
  refine RA.skip rfl rfl rfl rfl rfl (beq_eq_false_iff_ne.2 hc3) (by decide) ?_
  refine RA.skip rfl rfl rfl rfl rfl (beq_eq_false_iff_ne.2 hc3) (by decide) ?_
  refine a_pick (b := false) (v := vB _) ?_ (beq_eq_false_iff_ne.2 hc3)
  refine a_move (v := vB _) ?_
  refine RA.skip rfl rfl rfl rfl rfl rfl (by decide) ?_
  refine RA.skip rfl rfl rfl rfl rfl rfl (by decide) ?_
  refine RA.skip rfl rfl rfl rfl rfl rfl (by decide) ?_
  refine RA.skip rfl rfl rfl rfl rfl rfl (by decide) ?_
  refine RA.skip rfl rfl rfl rfl rfl rfl (by decide) ?_
  refine RA.skip rfl rfl rfl rfl rfl rfl (by decide) ?_
  refine RA.skip rfl rfl rfl rfl rfl rfl (by decide) ?_
  refine RA.skip rfl rfl rfl rfl rfl rfl (by decide) ?_
  refine RA.skip rfl rfl rfl rfl rfl rfl (by decide) ?_
  refine RA.skip rfl rfl rfl rfl rfl rfl (by decide) ?_
  refine RA.skip rfl rfl rfl rfl rfl rfl (by decide) ?_
  refine RA.skip rfl rfl rfl rfl rfl rfl (by decide) ?_
  refine RA.skip rfl rfl rfl rfl rfl rfl (by decide) ?_
  refine a_pick (b := false) (v := vB _) ?_ rfl
  refine a_move (v := vB _) ?_
  refine RA.nil (fun _ => by kernel_rfl) ?_
  refine AG.ret ?_
  obtain rfl := Option.some.inj H
  exact RetP.mk id ⟨rfl, trivial⟩ trivial rfl
/-! ### spec_l02Crosses: function 112 -/
def spec_l02Crosses.f (a0_0 : Int) (a0_1 : Int) (a1_0 : Int) (a1_1 : Int) (a2_0 : Int) (a2_1 : Int) (a3_0 : Int) (a3_1 : Int) : Option (Bool) := (spec_l02Side.f a0_0 a0_1 a1_0 a1_1 a2_0 a2_1).bind fun t1 => ((spec_l02Side.f a0_0 a0_1 a1_0 a1_1 a3_0 a3_1).bind fun t3 => (if (wrap64 (t1 * t3)) < 0 then ((spec_l02Side.f a2_0 a2_1 a3_0 a3_1 a0_0 a0_1).bind fun t6 => ((spec_l02Side.f a2_0 a2_1 a3_0 a3_1 a1_0 a1_1).bind fun t8 => (some (decide ((wrap64 (t6 * t8)) < 0))))) else (some false)))
set_option maxRecDepth 100000 in
theorem spec_l02Crosses.ok {a0_0 : Int} {a0_1 : Int} {a1_0 : Int} {a1_1 : Int} {a2_0 : Int} {a2_1 : Int} {a3_0 : Int} {a3_1 : Int} {r : Bool} (H : spec_l02Crosses.f a0_0 a0_1 a1_0 a1_1 a2_0 a2_1 a3_0 a3_1 = some r) : OkF Try.prog 112 [.agg [.d (.v (.int .i64 a0_0)), .d (.v (.int .i64 a0_1))], .agg [.d (.v (.int .i64 a1_0)), .d (.v (.int .i64 a1_1))], .agg [.d (.v (.int .i64 a2_0)), .d (.v (.int .i64 a2_1))], .agg [.d (.v (.int .i64 a3_0)), .d (.v (.int .i64 a3_1))]] [] (.c (.d (.v (.bool r)))) [] := by
 unfold spec_l02Crosses.f at H
 refine OkF.of (N := 31) (rs := [8]) (avs := [.c (.d (.v (.bool r)))]) Try.func112 rfl rfl (fun _ _ => results_tmp rfl _ _ _) (by decide) rfl rfl rfl rfl (fun w0 S => ?_)
 refine AG.seq ?_
 refine AG.region HM ?_
 refine a_box 200 ?_
 refine a_box 201 ?_
 refine a_box 202 ?_
 refine a_box 203 ?_
 refine a_move (v := vB _) ?_
 refine RA.nil nofun ?_
 refine AG.seq ?_
 refine AG.region HM ?_
 refine a_ldB (v := .agg [_, _]) ?_ T108
 refine a_ldB (v := .agg [_, _]) ?_ T108
 refine a_ldB (v := .agg [_, _]) ?_ T108
 obtain ⟨t1, e2, H⟩ := bindO H
 refine a_call (v := vI t1) (nk := []) (L := []) ?_ rfl (spec_l02Side.ok e2) id (qg (qg (qg qn))) trivial trivial trivial rfl
 refine a_ldB (v := .agg [_, _]) ?_ T108
 refine a_ldB (v := .agg [_, _]) ?_ T108
 refine a_ldB (v := .agg [_, _]) ?_ T108
 obtain ⟨t3, e4, H⟩ := bindO H
 refine a_call (v := vI t3) (nk := []) (L := []) ?_ rfl (spec_l02Side.ok e4) id (qg (qg (qg qn))) trivial trivial trivial rfl
 refine a_int (u := .int .i64 (wrap64 (t1 * t3))) ?_
 refine a_int (u := .bool (decide ((wrap64 (t1 * t3)) < 0))) ?_
 refine a_move (v := vB _) ?_
 by_cases hc5 : (wrap64 (t1 * t3)) < 0
 ·rw [if_pos hc5] at H
  refine a_ldB (v := .agg [_, _]) ?_ T108 (hg := Gs.yes rfl rfl rfl (decide_eq_true hc5))
  refine a_ldB (v := .agg [_, _]) ?_ T108 (hg := Gs.yes rfl rfl rfl (decide_eq_true hc5))
  refine a_ldB (v := .agg [_, _]) ?_ T108 (hg := Gs.yes rfl rfl rfl (decide_eq_true hc5))
  obtain ⟨t6, e7, H⟩ := bindO H
  refine a_call (v := vI t6) (nk := []) (L := []) ?_ rfl (spec_l02Side.ok e7) id (qg (qg (qg qn))) trivial trivial trivial rfl (hg := Gs.yes rfl rfl rfl (decide_eq_true hc5))
  refine a_ldB (v := .agg [_, _]) ?_ T108 (hg := Gs.yes rfl rfl rfl (decide_eq_true hc5))
  refine a_ldB (v := .agg [_, _]) ?_ T108 (hg := Gs.yes rfl rfl rfl (decide_eq_true hc5))
  refine a_ldB (v := .agg [_, _]) ?_ T108 (hg := Gs.yes rfl rfl rfl (decide_eq_true hc5))
  obtain ⟨t8, e9, H⟩ := bindO H
  refine a_call (v := vI t8) (nk := []) (L := []) ?_ rfl (spec_l02Side.ok e9) id (qg (qg (qg qn))) trivial trivial trivial rfl (hg := Gs.yes rfl rfl rfl (decide_eq_true hc5))
  refine a_int (u := .int .i64 (wrap64 (t6 * t8))) ?_ (hg := Gs.yes rfl rfl rfl (decide_eq_true hc5))
  refine a_int (u := .bool (decide ((wrap64 (t6 * t8)) < 0))) ?_ (hg := Gs.yes rfl rfl rfl (decide_eq_true hc5))
  refine a_pick (b := true) (v := vB _) ?_ (decide_eq_true hc5)
  refine a_move (v := vB _) ?_
  refine RA.nil (fun _ => by kernel_rfl) ?_
  refine AG.ret ?_
  obtain rfl := Option.some.inj H
  exact RetP.mk id ⟨rfl, trivial⟩ trivial rfl
 ·rw [if_neg hc5] at H
  refine RA.skip rfl rfl rfl rfl rfl (decide_eq_false hc5) (by decide) ?_
  refine RA.skip rfl rfl rfl rfl rfl (decide_eq_false hc5) (by decide) ?_
  refine RA.skip rfl rfl rfl rfl rfl (decide_eq_false hc5) (by decide) ?_
  refine RA.skip rfl rfl rfl rfl rfl (decide_eq_false hc5) (by decide) ?_
  refine RA.skip rfl rfl rfl rfl rfl (decide_eq_false hc5) (by decide) ?_
  refine RA.skip rfl rfl rfl rfl rfl (decide_eq_false hc5) (by decide) ?_
  refine RA.skip rfl rfl rfl rfl rfl (decide_eq_false hc5) (by decide) ?_
  refine RA.skip rfl rfl rfl rfl rfl (decide_eq_false hc5) (by decide) ?_
  refine RA.skip rfl rfl rfl rfl rfl (decide_eq_false hc5) (by decide) ?_
  refine RA.skip rfl rfl rfl rfl rfl (decide_eq_false hc5) (by decide) ?_
  refine a_pick (b := false) (v := vB _) ?_ (decide_eq_false hc5)
  refine a_move (v := vB _) ?_
  refine RA.nil (fun _ => by kernel_rfl) ?_
  refine AG.ret ?_
  obtain rfl := Option.some.inj H
  exact RetP.mk id ⟨rfl, trivial⟩ trivial rfl
/-! ### spec_l03Meet: function 93 -/
def spec_l03Meet.f (a0_0 : Int) (a0_1 : Int) (a1_0 : Int) (a1_1 : Int) (a2_0 : Int) (a2_1 : Int) (a3_0 : Int) (a3_1 : Int) : Option (Bool) := (spec_l02Crosses.f a0_0 a0_1 a1_0 a1_1 a2_0 a2_1 a3_0 a3_1).bind fun t1 => (if t1 = true then (some true) else ((spec_l02On.f a0_0 a0_1 a1_0 a1_1 a2_0 a2_1).bind fun t4 => (if t4 = true then (some true) else ((spec_l02On.f a0_0 a0_1 a1_0 a1_1 a3_0 a3_1).bind fun t7 => (if t7 = true then (some true) else ((spec_l02On.f a2_0 a2_1 a3_0 a3_1 a0_0 a0_1).bind fun t10 => (if t10 = true then (some true) else ((spec_l02On.f a2_0 a2_1 a3_0 a3_1 a1_0 a1_1).bind fun t13 => (some t13)))))))))
set_option maxRecDepth 100000 in
theorem spec_l03Meet.ok {a0_0 : Int} {a0_1 : Int} {a1_0 : Int} {a1_1 : Int} {a2_0 : Int} {a2_1 : Int} {a3_0 : Int} {a3_1 : Int} {r : Bool} (H : spec_l03Meet.f a0_0 a0_1 a1_0 a1_1 a2_0 a2_1 a3_0 a3_1 = some r) : OkF Try.prog 93 [.agg [.d (.v (.int .i64 a0_0)), .d (.v (.int .i64 a0_1))], .agg [.d (.v (.int .i64 a1_0)), .d (.v (.int .i64 a1_1))], .agg [.d (.v (.int .i64 a2_0)), .d (.v (.int .i64 a2_1))], .agg [.d (.v (.int .i64 a3_0)), .d (.v (.int .i64 a3_1))]] [] (.c (.d (.v (.bool r)))) [] := by
 unfold spec_l03Meet.f at H
 refine OkF.of (N := 38) (rs := [8]) (avs := [.c (.d (.v (.bool r)))]) Try.func93 rfl rfl (fun _ _ => results_tmp rfl _ _ _) (by decide) rfl rfl rfl rfl (fun w0 S => ?_)
 refine AG.seq ?_
 refine AG.region HM ?_
 refine a_box 200 ?_
 refine a_box 201 ?_
 refine a_box 202 ?_
 refine a_box 203 ?_
 refine a_move (v := vB _) ?_
 refine RA.nil nofun ?_
 refine AG.seq ?_
 refine AG.region HM ?_
 refine a_ldB (v := .agg [_, _]) ?_ T108
 refine a_ldB (v := .agg [_, _]) ?_ T108
 refine a_ldB (v := .agg [_, _]) ?_ T108
 refine a_ldB (v := .agg [_, _]) ?_ T108
 obtain ⟨t1, e2, H⟩ := bindO H
 refine a_call (v := vB t1) (nk := []) (L := []) ?_ rfl (spec_l02Crosses.ok e2) id (qg (qg (qg (qg qn)))) trivial trivial trivial rfl
 refine a_move (v := vB _) ?_
 by_cases hc3 : t1 = true
 ·rw [if_pos hc3] at H
  refine RA.skip rfl rfl rfl rfl rfl hc3 (by decide) ?_
  refine RA.skip rfl rfl rfl rfl rfl hc3 (by decide) ?_
  refine RA.skip rfl rfl rfl rfl rfl hc3 (by decide) ?_
  refine RA.skip rfl rfl rfl rfl rfl hc3 (by decide) ?_
  refine a_pick (b := true) (v := vB _) ?_ hc3
  refine a_move (v := vB _) ?_
  refine RA.skip rfl rfl rfl rfl rfl rfl (by decide) ?_
  refine RA.skip rfl rfl rfl rfl rfl rfl (by decide) ?_
  refine RA.skip rfl rfl rfl rfl rfl rfl (by decide) ?_
  refine RA.skip rfl rfl rfl rfl rfl rfl (by decide) ?_
  refine a_pick (b := true) (v := vB _) ?_ rfl
  refine a_move (v := vB _) ?_
  refine RA.skip rfl rfl rfl rfl rfl rfl (by decide) ?_
  refine RA.skip rfl rfl rfl rfl rfl rfl (by decide) ?_
  refine RA.skip rfl rfl rfl rfl rfl rfl (by decide) ?_
  refine RA.skip rfl rfl rfl rfl rfl rfl (by decide) ?_
  refine a_pick (b := true) (v := vB _) ?_ rfl
  refine a_move (v := vB _) ?_
  refine RA.skip rfl rfl rfl rfl rfl rfl (by decide) ?_
  refine RA.skip rfl rfl rfl rfl rfl rfl (by decide) ?_
  refine RA.skip rfl rfl rfl rfl rfl rfl (by decide) ?_
  refine RA.skip rfl rfl rfl rfl rfl rfl (by decide) ?_
  refine a_pick (b := true) (v := vB _) ?_ rfl
  refine a_move (v := vB _) ?_
  refine RA.nil nofun ?_
  refine AG.ret ?_
  obtain rfl := Option.some.inj H
  exact RetP.mk id ⟨rfl, trivial⟩ trivial rfl
 ·rw [if_neg hc3] at H
  refine a_ldB (v := .agg [_, _]) ?_ T108 (hg := Gs.yes rfl rfl rfl (Bool.eq_false_iff.2 hc3))
  refine a_ldB (v := .agg [_, _]) ?_ T108 (hg := Gs.yes rfl rfl rfl (Bool.eq_false_iff.2 hc3))
  refine a_ldB (v := .agg [_, _]) ?_ T108 (hg := Gs.yes rfl rfl rfl (Bool.eq_false_iff.2 hc3))
  obtain ⟨t4, e5, H⟩ := bindO H
  refine a_call (v := vB t4) (nk := []) (L := []) ?_ rfl (spec_l02On.ok e5) id (qg (qg (qg qn))) trivial trivial trivial rfl (hg := Gs.yes rfl rfl rfl (Bool.eq_false_iff.2 hc3))
  refine a_pick (b := false) (v := vB _) ?_ (Bool.eq_false_iff.2 hc3)
  refine a_move (v := vB _) ?_
  by_cases hc6 : t4 = true
  ·rw [if_pos hc6] at H
   refine RA.skip rfl rfl rfl rfl rfl hc6 (by decide) ?_
   refine RA.skip rfl rfl rfl rfl rfl hc6 (by decide) ?_
   refine RA.skip rfl rfl rfl rfl rfl hc6 (by decide) ?_
   refine RA.skip rfl rfl rfl rfl rfl hc6 (by decide) ?_
   refine a_pick (b := true) (v := vB _) ?_ hc6
   refine a_move (v := vB _) ?_
   refine RA.skip rfl rfl rfl rfl rfl rfl (by decide) ?_
   refine RA.skip rfl rfl rfl rfl rfl rfl (by decide) ?_
   refine RA.skip rfl rfl rfl rfl rfl rfl (by decide) ?_
   refine RA.skip rfl rfl rfl rfl rfl rfl (by decide) ?_
   refine a_pick (b := true) (v := vB _) ?_ rfl
   refine a_move (v := vB _) ?_
   refine RA.skip rfl rfl rfl rfl rfl rfl (by decide) ?_
   refine RA.skip rfl rfl rfl rfl rfl rfl (by decide) ?_
   refine RA.skip rfl rfl rfl rfl rfl rfl (by decide) ?_
   refine RA.skip rfl rfl rfl rfl rfl rfl (by decide) ?_
   refine a_pick (b := true) (v := vB _) ?_ rfl
   refine a_move (v := vB _) ?_
   refine RA.nil nofun ?_
   refine AG.ret ?_
   obtain rfl := Option.some.inj H
   exact RetP.mk id ⟨rfl, trivial⟩ trivial rfl
  ·rw [if_neg hc6] at H
   refine a_ldB (v := .agg [_, _]) ?_ T108 (hg := Gs.yes rfl rfl rfl (Bool.eq_false_iff.2 hc6))
   refine a_ldB (v := .agg [_, _]) ?_ T108 (hg := Gs.yes rfl rfl rfl (Bool.eq_false_iff.2 hc6))
   refine a_ldB (v := .agg [_, _]) ?_ T108 (hg := Gs.yes rfl rfl rfl (Bool.eq_false_iff.2 hc6))
   obtain ⟨t7, e8, H⟩ := bindO H
   refine a_call (v := vB t7) (nk := []) (L := []) ?_ rfl (spec_l02On.ok e8) id (qg (qg (qg qn))) trivial trivial trivial rfl (hg := Gs.yes rfl rfl rfl (Bool.eq_false_iff.2 hc6))
   refine a_pick (b := false) (v := vB _) ?_ (Bool.eq_false_iff.2 hc6)
   refine a_move (v := vB _) ?_
   by_cases hc9 : t7 = true
   ·rw [if_pos hc9] at H
    refine RA.skip rfl rfl rfl rfl rfl hc9 (by decide) ?_
    refine RA.skip rfl rfl rfl rfl rfl hc9 (by decide) ?_
    refine RA.skip rfl rfl rfl rfl rfl hc9 (by decide) ?_
    refine RA.skip rfl rfl rfl rfl rfl hc9 (by decide) ?_
    refine a_pick (b := true) (v := vB _) ?_ hc9
    refine a_move (v := vB _) ?_
    refine RA.skip rfl rfl rfl rfl rfl rfl (by decide) ?_
    refine RA.skip rfl rfl rfl rfl rfl rfl (by decide) ?_
    refine RA.skip rfl rfl rfl rfl rfl rfl (by decide) ?_
    refine RA.skip rfl rfl rfl rfl rfl rfl (by decide) ?_
    refine a_pick (b := true) (v := vB _) ?_ rfl
    refine a_move (v := vB _) ?_
    refine RA.nil nofun ?_
    refine AG.ret ?_
    obtain rfl := Option.some.inj H
    exact RetP.mk id ⟨rfl, trivial⟩ trivial rfl
   ·rw [if_neg hc9] at H
    refine a_ldB (v := .agg [_, _]) ?_ T108 (hg := Gs.yes rfl rfl rfl (Bool.eq_false_iff.2 hc9))
    refine a_ldB (v := .agg [_, _]) ?_ T108 (hg := Gs.yes rfl rfl rfl (Bool.eq_false_iff.2 hc9))
    refine a_ldB (v := .agg [_, _]) ?_ T108 (hg := Gs.yes rfl rfl rfl (Bool.eq_false_iff.2 hc9))
    obtain ⟨t10, e11, H⟩ := bindO H
    refine a_call (v := vB t10) (nk := []) (L := []) ?_ rfl (spec_l02On.ok e11) id (qg (qg (qg qn))) trivial trivial trivial rfl (hg := Gs.yes rfl rfl rfl (Bool.eq_false_iff.2 hc9))
    refine a_pick (b := false) (v := vB _) ?_ (Bool.eq_false_iff.2 hc9)
    refine a_move (v := vB _) ?_
    by_cases hc12 : t10 = true
    ·rw [if_pos hc12] at H
     refine RA.skip rfl rfl rfl rfl rfl hc12 (by decide) ?_
     refine RA.skip rfl rfl rfl rfl rfl hc12 (by decide) ?_
     refine RA.skip rfl rfl rfl rfl rfl hc12 (by decide) ?_
     refine RA.skip rfl rfl rfl rfl rfl hc12 (by decide) ?_
     refine a_pick (b := true) (v := vB _) ?_ hc12
     refine a_move (v := vB _) ?_
     refine RA.nil nofun ?_
     refine AG.ret ?_
     obtain rfl := Option.some.inj H
     exact RetP.mk id ⟨rfl, trivial⟩ trivial rfl
    ·rw [if_neg hc12] at H
     refine a_ldB (v := .agg [_, _]) ?_ T108 (hg := Gs.yes rfl rfl rfl (Bool.eq_false_iff.2 hc12))
     refine a_ldB (v := .agg [_, _]) ?_ T108 (hg := Gs.yes rfl rfl rfl (Bool.eq_false_iff.2 hc12))
     refine a_ldB (v := .agg [_, _]) ?_ T108 (hg := Gs.yes rfl rfl rfl (Bool.eq_false_iff.2 hc12))
     obtain ⟨t13, e14, H⟩ := bindO H
     refine a_call (v := vB t13) (nk := []) (L := []) ?_ rfl (spec_l02On.ok e14) id (qg (qg (qg qn))) trivial trivial trivial rfl (hg := Gs.yes rfl rfl rfl (Bool.eq_false_iff.2 hc12))
     refine a_pick (b := false) (v := vB _) ?_ (Bool.eq_false_iff.2 hc12)
     refine a_move (v := vB _) ?_
     refine RA.nil nofun ?_
     refine AG.ret ?_
     obtain rfl := Option.some.inj H
     exact RetP.mk id ⟨rfl, trivial⟩ trivial rfl
/-! ### spec_l03Ok: function 66 -/
mutual
def spec_l03Ok.j0 : Nat → List S107 → Int → Bool → Option (Bool)
 | 0, _, _, _ => none
 | k + 1, x0, x3, x17 => if x17 = true then (some false) else (spec_l03Ok.l0 k x0 x3 0)
def spec_l03Ok.l0 : Nat → List S107 → Int → Int → Option (Bool)
 | 0, _, _, _ => none
 | k + 1, x0, x3, x4 => if x4 < x3 then (if 0 ≤ x4 then (if x4 < (x0.length : Int) then ((spec_l02Ok.f ((rd107 x0 x4).f0) ((rd107 x0 x4).f1)).bind fun t6 => (if t6 = true then (spec_l03Ok.l0 k x0 x3 (wrap64 (x4 + 1))) else (some false))) else (none)) else (none)) else (spec_l03Ok.l1 k x0 x3 0)
def spec_l03Ok.l1 : Nat → List S107 → Int → Int → Option (Bool)
 | 0, _, _, _ => none
 | k + 1, x0, x3, x5 => if x5 < x3 then (if 0 ≤ x5 then (if x5 < (x0.length : Int) then (if x3 = 0 then (none) else (if 0 ≤ (Int.tmod (wrap64 (x5 + 1)) x3) then (if (Int.tmod (wrap64 (x5 + 1)) x3) < (x0.length : Int) then (if 0 ≤ (Int.tmod (wrap64 (x5 + 2)) x3) then (if (Int.tmod (wrap64 (x5 + 2)) x3) < (x0.length : Int) then (if (((rd107 x0 x5).f0) == ((rd107 x0 (Int.tmod (wrap64 (x5 + 1)) x3)).f0) && (((rd107 x0 x5).f1) == ((rd107 x0 (Int.tmod (wrap64 (x5 + 1)) x3)).f1))) = true then (spec_l03Ok.j1 k x0 x3 x5 ((rd107 x0 x5).f0) ((rd107 x0 x5).f1) ((rd107 x0 (Int.tmod (wrap64 (x5 + 1)) x3)).f0) ((rd107 x0 (Int.tmod (wrap64 (x5 + 1)) x3)).f1) true) else ((spec_l02On.f ((rd107 x0 x5).f0) ((rd107 x0 x5).f1) ((rd107 x0 (Int.tmod (wrap64 (x5 + 1)) x3)).f0) ((rd107 x0 (Int.tmod (wrap64 (x5 + 1)) x3)).f1) ((rd107 x0 (Int.tmod (wrap64 (x5 + 2)) x3)).f0) ((rd107 x0 (Int.tmod (wrap64 (x5 + 2)) x3)).f1)).bind fun t18 => (if t18 = true then (spec_l03Ok.j1 k x0 x3 x5 ((rd107 x0 x5).f0) ((rd107 x0 x5).f1) ((rd107 x0 (Int.tmod (wrap64 (x5 + 1)) x3)).f0) ((rd107 x0 (Int.tmod (wrap64 (x5 + 1)) x3)).f1) true) else ((spec_l02On.f ((rd107 x0 (Int.tmod (wrap64 (x5 + 1)) x3)).f0) ((rd107 x0 (Int.tmod (wrap64 (x5 + 1)) x3)).f1) ((rd107 x0 (Int.tmod (wrap64 (x5 + 2)) x3)).f0) ((rd107 x0 (Int.tmod (wrap64 (x5 + 2)) x3)).f1) ((rd107 x0 x5).f0) ((rd107 x0 x5).f1)).bind fun t21 => (spec_l03Ok.j1 k x0 x3 x5 ((rd107 x0 x5).f0) ((rd107 x0 x5).f1) ((rd107 x0 (Int.tmod (wrap64 (x5 + 1)) x3)).f0) ((rd107 x0 (Int.tmod (wrap64 (x5 + 1)) x3)).f1) t21))))) else (none)) else (none)) else (none)) else (none))) else (none)) else (none)) else ((spec_l03Area.f k x0).bind fun t34 => (some (decide (t34 > 0))))
def spec_l03Ok.j1 : Nat → List S107 → Int → Int → Int → Int → Int → Int → Bool → Option (Bool)
 | 0, _, _, _, _, _, _, _, _ => none
 | k + 1, x0, x3, x5, y207_0, y207_1, y208_0, y208_1, x66 => if x66 = true then (some false) else (spec_l03Ok.l2 k x0 x3 x5 y207_0 y207_1 y208_0 y208_1 (wrap64 (x5 + 2)))
def spec_l03Ok.l2 : Nat → List S107 → Int → Int → Int → Int → Int → Int → Int → Option (Bool)
 | 0, _, _, _, _, _, _, _, _ => none
 | k + 1, x0, x3, x5, y209_0, y209_1, y210_0, y210_1, x9 => if x9 < x3 then (if x3 = 0 then (none) else (if (Int.tmod (wrap64 (x9 + 1)) x3) = x5 then (spec_l03Ok.l2 k x0 x3 x5 y209_0 y209_1 y210_0 y210_1 (wrap64 (x9 + 1))) else (if 0 ≤ x9 then (if x9 < (x0.length : Int) then (if 0 ≤ (Int.tmod (wrap64 (x9 + 1)) x3) then (if (Int.tmod (wrap64 (x9 + 1)) x3) < (x0.length : Int) then ((spec_l03Meet.f y209_0 y209_1 y210_0 y210_1 ((rd107 x0 x9).f0) ((rd107 x0 x9).f1) ((rd107 x0 (Int.tmod (wrap64 (x9 + 1)) x3)).f0) ((rd107 x0 (Int.tmod (wrap64 (x9 + 1)) x3)).f1)).bind fun t31 => (if t31 = true then (some false) else (spec_l03Ok.l2 k x0 x3 x5 y209_0 y209_1 y210_0 y210_1 (wrap64 (x9 + 1))))) else (none)) else (none)) else (none)) else (none)))) else (spec_l03Ok.l1 k x0 x3 (wrap64 (x5 + 1)))
end
def spec_l03Ok.f (k : Nat) (l0 : List S107) : Option (Bool) := if (l0.length : Int) < 3 then (spec_l03Ok.j0 k l0 (l0.length : Int) true) else (spec_l03Ok.j0 k l0 (l0.length : Int) (decide ((l0.length : Int) > 24)))
set_option maxRecDepth 100000 in
theorem spec_l03Ok.ok {k : Nat} {l0 : List S107} {r : Bool} (H : spec_l03Ok.f k l0 = some r) : OkF Try.prog 66 [vR 108 (l0.map c107)] [] (.c (.d (.v (.bool r)))) [] := by
 unfold spec_l03Ok.f at H
 refine OkF.of (N := 99) (rs := [2]) (avs := [.c (.d (.v (.bool r)))]) Try.func66 rfl rfl (fun _ _ => results_tmp rfl _ _ _) (by decide) rfl rfl rfl rfl (fun w0 S => ?_)
 refine AG.seq ?_
 refine AG.region HM ?_
 refine a_move (v := vB _) ?_
 refine RA.nil nofun ?_
 refine AG.seq ?_
 refine AG.region HM ?_
 refine a_move (v := vR _ _) ?_
 refine a_lenR ?_ Try.underlying46
 refine a_move (v := vI _) ?_
 refine RA.nil nofun ?_
 refine AG.seq ?_
 refine AG.seq ?_
 refine AG.joinR (fun s => ∃ q, q ≤ k ∧ ∃ (x0 : List S107) (x3 : Int) (x17 : Bool), spec_l03Ok.j0 q x0 x3 x17 = some r ∧ s = St.of [(0, vR 108 (x0.map c107)), (3, vI x3), (17, vB x17)] []) ?_ ?_
 ·skip
  refine AG.region HM ?_
  refine a_move (v := vI _) ?_
  refine a_int (u := .bool (decide ((l0.length : Int) < 3))) ?_
  refine a_move (v := vB _) ?_
  by_cases hc1 : (l0.length : Int) < 3
  ·rw [if_pos hc1] at H
   refine RA.skip rfl rfl rfl rfl rfl (decide_eq_true hc1) (by decide) ?_
   refine RA.skip rfl rfl rfl rfl rfl (decide_eq_true hc1) (by decide) ?_
   refine a_pick (b := true) (v := vB _) ?_ (decide_eq_true hc1)
   refine RA.nil nofun ?_
   exact CanR.mk id ⟨_, (by omega), _, _, _, H, rfl⟩ ⟨rfl, rfl, rfl, trivial⟩ trivial rfl
  ·rw [if_neg hc1] at H
   refine a_move (v := vI _) ?_ (hg := Gs.yes rfl rfl rfl (decide_eq_false hc1))
   refine a_int (u := .bool (decide ((l0.length : Int) > 24))) ?_ (hg := Gs.yes rfl rfl rfl (decide_eq_false hc1))
   refine a_pick (b := false) (v := vB _) ?_ (decide_eq_false hc1)
   refine RA.nil nofun ?_
   exact CanR.mk id ⟨_, (by omega), _, _, _, H, rfl⟩ ⟨rfl, rfl, rfl, trivial⟩ trivial rfl
 ·clear H
  rintro _ ⟨k, hj0, x0, x3, x17, H, rfl⟩
  cases k with
  | zero => cases H
  | succ k =>
   rw [spec_l03Ok.j0] at H
   by_cases hc2 : x17 = true
   ·rw [if_pos hc2] at H
    refine AG.yes rfl hc2 ?_
    refine AG.seq ?_
    refine AG.region HM ?_
    refine a_move (v := vB _) ?_
    refine RA.nil nofun ?_
    refine AG.ret ?_
    obtain rfl := Option.some.inj H
    exact RetP.mk id ⟨rfl, trivial⟩ trivial rfl
   ·rw [if_neg hc2] at H
    refine AG.no rfl (Bool.eq_false_iff.2 hc2) ?_
    refine AG.skip ?_
    refine AG.seq ?_
    refine AG.seq ?_
    refine AG.region HM ?_
    refine a_move (v := vI _) ?_
    refine RA.nil nofun ?_
    refine AG.block ?_
    refine AG.loop ?_
    obtain ⟨K0, hK0, gK0⟩ : ∃ K, k ≤ K ∧ K ≤ k := ⟨k, Nat.le_refl k, Nat.le_refl k⟩
    refine AGr.canon id (AGr.loopI (n := k) (fun k s => k ≤ K0 ∧ ∃ (x0 : List S107) (x3 : Int) (x4 : Int), spec_l03Ok.l0 k x0 x3 x4 = some r ∧ s = St.of [(0, vR 108 (x0.map c107)), (3, vI x3), (4, vI x4)] []) ⟨hK0, _, _, _, H, rfl⟩ ?_ ?_) ⟨rfl, rfl, rfl, trivial⟩ trivial rfl
    ·rintro _ ⟨_, _, _, _, H, _⟩
     cases H
    ·clear H hK0
     rintro k ih0 _ ⟨hK0, x0, x3, x4, H, rfl⟩
     unfold spec_l03Ok.l0 at H
     refine AG.seq ?_
     refine AG.seq ?_
     refine AG.region HM ?_
     refine a_move (v := vI _) ?_
     refine a_move (v := vI _) ?_
     refine a_int (u := .bool (decide (x4 < x3))) ?_
     refine RA.nil nofun ?_
     by_cases hc3 : x4 < x3
     ·rw [if_pos hc3] at H
      refine AG.yes rfl (decide_eq_true hc3) ?_
      refine AG.skip ?_
      refine AG.seq ?_
      refine AG.block ?_
      refine AG.seq ?_
      refine AG.region HM ?_
      refine a_move (v := vR _ _) ?_
      refine a_move (v := vI _) ?_
      by_cases hc4 : 0 ≤ x4
      ·rw [if_pos hc4] at H
       by_cases hc5 : x4 < (x0.length : Int)
       ·rw [if_pos hc5] at H
        refine a_ixR (el := c107 (rd107 x0 x4)) ?_ ⟨hc4, hc5⟩ T108 Try.underlying46 (hel := R107 hc4 hc5)
        refine a_ldR (v := .agg [_, _]) ?_ T108
        obtain ⟨t6, e7, H⟩ := bindO H
        refine a_call (v := vB t6) (nk := []) (L := []) ?_ rfl (spec_l02Ok.ok e7) id (qg qn) trivial trivial trivial rfl
        refine a_un (u := .bool (!t6)) ?_
        refine RA.nil nofun ?_
        by_cases hc8 : t6 = true
        ·rw [if_pos hc8] at H
         refine AG.no rfl (congrArg Bool.not hc8) ?_
         refine AG.skip ?_
         refine AG.region HM ?_
         refine a_move (v := vI _) ?_
         refine a_int (u := .int .i64 (wrap64 (x4 + 1))) ?_
         refine a_move (v := vI _) ?_
         refine RA.nil nofun ?_
         exact AGr.canon id (ih0 _ (by omega) _ ⟨by omega, _, _, _, H, rfl⟩) ⟨rfl, rfl, rfl, trivial⟩ trivial rfl
        ·rw [if_neg hc8] at H
         refine AG.yes rfl (congrArg Bool.not (Bool.eq_false_iff.2 hc8)) ?_
         refine AG.seq ?_
         refine AG.region HM ?_
         refine a_move (v := vB _) ?_
         refine RA.nil nofun ?_
         refine AG.ret ?_
         obtain rfl := Option.some.inj H
         exact RetP.mk id ⟨rfl, trivial⟩ trivial rfl
       ·rw [if_neg hc5] at H
        cases H
      ·rw [if_neg hc4] at H
       cases H
     ·rw [if_neg hc3] at H
      refine AG.no rfl (decide_eq_false hc3) ?_
      refine AG.exit ?_
      refine AG.seq ?_
      refine AG.seq ?_
      refine AG.region HM ?_
      refine a_move (v := vI _) ?_
      refine RA.nil nofun ?_
      refine AG.block ?_
      refine AG.loop ?_
      obtain ⟨K1, hK1, gK1⟩ : ∃ K, k ≤ K ∧ K ≤ k := ⟨k, Nat.le_refl k, Nat.le_refl k⟩
      refine AGr.canon id (AGr.loopI (n := k) (fun k s => k ≤ K1 ∧ ∃ (x0 : List S107) (x3 : Int) (x5 : Int), spec_l03Ok.l1 k x0 x3 x5 = some r ∧ s = St.of [(0, vR 108 (x0.map c107)), (3, vI x3), (5, vI x5)] []) ⟨hK1, _, _, _, H, rfl⟩ ?_ ?_) ⟨rfl, rfl, rfl, trivial⟩ trivial rfl
      ·rintro _ ⟨_, _, _, _, H, _⟩
       cases H
      ·clear H hK1
       rintro k ih1 _ ⟨hK1, x0, x3, x5, H, rfl⟩
       unfold spec_l03Ok.l1 at H
       refine AG.seq ?_
       refine AG.seq ?_
       refine AG.region HM ?_
       refine a_move (v := vI _) ?_
       refine a_move (v := vI _) ?_
       refine a_int (u := .bool (decide (x5 < x3))) ?_
       refine RA.nil nofun ?_
       by_cases hc9 : x5 < x3
       ·rw [if_pos hc9] at H
        refine AG.yes rfl (decide_eq_true hc9) ?_
        refine AG.skip ?_
        refine AG.seq ?_
        refine AG.block ?_
        refine AG.seq ?_
        refine AG.region HM ?_
        refine a_move (v := vR _ _) ?_
        refine a_move (v := vI _) ?_
        by_cases hc10 : 0 ≤ x5
        ·rw [if_pos hc10] at H
         by_cases hc11 : x5 < (x0.length : Int)
         ·rw [if_pos hc11] at H
          refine a_ixR (el := c107 (rd107 x0 x5)) ?_ ⟨hc10, hc11⟩ T108 Try.underlying46 (hel := R107 hc10 hc11)
          refine a_ldR (v := .agg [_, _]) ?_ T108
          refine a_alloc (cs := [_, _]) 202 ?_ T108
          refine a_stB (cs' := [_, _]) ?_ T108
          refine RA.nil nofun ?_
          refine AG.seq ?_
          refine AG.region HM ?_
          refine a_move (v := vR _ _) ?_
          refine a_move (v := vI _) ?_
          refine a_int (u := .int .i64 (wrap64 (x5 + 1))) ?_
          refine a_move (v := vI _) ?_
          by_cases hc12 : x3 = 0
          ·rw [if_pos hc12] at H
           cases H
          ·rw [if_neg hc12] at H
           refine a_rem (r := Int.tmod (wrap64 (x5 + 1)) x3) ?_ hc12
           by_cases hc13 : 0 ≤ (Int.tmod (wrap64 (x5 + 1)) x3)
           ·rw [if_pos hc13] at H
            by_cases hc14 : (Int.tmod (wrap64 (x5 + 1)) x3) < (x0.length : Int)
            ·rw [if_pos hc14] at H
             refine a_ixR (el := c107 (rd107 x0 (Int.tmod (wrap64 (x5 + 1)) x3))) ?_ ⟨hc13, hc14⟩ T108 Try.underlying46 (hel := R107 hc13 hc14)
             refine a_ldR (v := .agg [_, _]) ?_ T108
             refine a_alloc (cs := [_, _]) 203 ?_ T108
             refine a_stB (cs' := [_, _]) ?_ T108
             refine RA.nil nofun ?_
             refine AG.seq ?_
             refine AG.region HM ?_
             refine a_move (v := vR _ _) ?_
             refine a_move (v := vI _) ?_
             refine a_int (u := .int .i64 (wrap64 (x5 + 2))) ?_
             refine a_move (v := vI _) ?_
             refine a_rem (r := Int.tmod (wrap64 (x5 + 2)) x3) ?_ hc12
             by_cases hc15 : 0 ≤ (Int.tmod (wrap64 (x5 + 2)) x3)
             ·rw [if_pos hc15] at H
              by_cases hc16 : (Int.tmod (wrap64 (x5 + 2)) x3) < (x0.length : Int)
              ·rw [if_pos hc16] at H
               refine a_ixR (el := c107 (rd107 x0 (Int.tmod (wrap64 (x5 + 2)) x3))) ?_ ⟨hc15, hc16⟩ T108 Try.underlying46 (hel := R107 hc15 hc16)
               refine a_ldR (v := .agg [_, _]) ?_ T108
               refine a_alloc (cs := [_, _]) 204 ?_ T108
               refine a_stB (cs' := [_, _]) ?_ T108
               refine RA.nil nofun ?_
               refine AG.seq ?_
               refine AG.seq ?_
               refine AG.joinR (fun s => ∃ q, q ≤ k ∧ ∃ (x0 : List S107) (x3 : Int) (x5 : Int) (y207_0 : Int) (y207_1 : Int) (y208_0 : Int) (y208_1 : Int) (x66 : Bool), spec_l03Ok.j1 q x0 x3 x5 y207_0 y207_1 y208_0 y208_1 x66 = some r ∧ s = St.of [(0, vR 108 (x0.map c107)), (3, vI x3), (5, vI x5), (6, .c (.ptr 207 0)), (7, .c (.ptr 208 0)), (66, vB x66)] [(207, .box 108 [.d (.v (.int .i64 y207_0)), .d (.v (.int .i64 y207_1))]), (208, .box 108 [.d (.v (.int .i64 y208_0)), .d (.v (.int .i64 y208_1))])]) ?_ ?_
               ·skip
                refine AG.region HM ?_
                refine a_ldB (v := .agg [_, _]) ?_ T108
                refine a_ldB (v := .agg [_, _]) ?_ T108
                refine a_eqS (b := (((rd107 x0 x5).f0) == ((rd107 x0 (Int.tmod (wrap64 (x5 + 1)) x3)).f0) && (((rd107 x0 x5).f1) == ((rd107 x0 (Int.tmod (wrap64 (x5 + 1)) x3)).f1)))) ?_ (.inl ⟨rfl, rfl⟩) (Q108 ((rd107 x0 x5).f0) ((rd107 x0 (Int.tmod (wrap64 (x5 + 1)) x3)).f0) ((rd107 x0 x5).f1) ((rd107 x0 (Int.tmod (wrap64 (x5 + 1)) x3)).f1)).1
                refine a_move (v := vB _) ?_
                by_cases hc17 : (((rd107 x0 x5).f0) == ((rd107 x0 (Int.tmod (wrap64 (x5 + 1)) x3)).f0) && (((rd107 x0 x5).f1) == ((rd107 x0 (Int.tmod (wrap64 (x5 + 1)) x3)).f1))) = true
                ·rw [if_pos hc17] at H
                 refine RA.skip rfl rfl rfl rfl rfl hc17 (by decide) ?_
                 refine RA.skip rfl rfl rfl rfl rfl hc17 (by decide) ?_
                 refine RA.skip rfl rfl rfl rfl rfl hc17 (by decide) ?_
                 refine RA.skip rfl rfl rfl rfl rfl hc17 (by decide) ?_
                 refine a_pick (b := true) (v := vB _) ?_ hc17
                 refine a_move (v := vB _) ?_
                 refine RA.skip rfl rfl rfl rfl rfl rfl (by decide) ?_
                 refine RA.skip rfl rfl rfl rfl rfl rfl (by decide) ?_
                 refine RA.skip rfl rfl rfl rfl rfl rfl (by decide) ?_
                 refine RA.skip rfl rfl rfl rfl rfl rfl (by decide) ?_
                 refine a_pick (b := true) (v := vB _) ?_ rfl
                 refine RA.nil nofun ?_
                 exact CanR.mk (fun κ => cond (Nat.beq κ 207) 202 (cond (Nat.beq κ 208) 203 (κ))) ⟨_, (by omega), _, _, _, _, _, _, _, _, H, rfl⟩ ⟨rfl, rfl, rfl, rfl, rfl, rfl, trivial⟩ ⟨rfl, rfl, trivial⟩ rfl
                ·rw [if_neg hc17] at H
                 refine a_ldB (v := .agg [_, _]) ?_ T108 (hg := Gs.yes rfl rfl rfl (Bool.eq_false_iff.2 hc17))
                 refine a_ldB (v := .agg [_, _]) ?_ T108 (hg := Gs.yes rfl rfl rfl (Bool.eq_false_iff.2 hc17))
                 refine a_ldB (v := .agg [_, _]) ?_ T108 (hg := Gs.yes rfl rfl rfl (Bool.eq_false_iff.2 hc17))
                 obtain ⟨t18, e19, H⟩ := bindO H
                 refine a_call (v := vB t18) (nk := []) (L := []) ?_ rfl (spec_l02On.ok e19) id (qg (qg (qg qn))) trivial trivial trivial rfl (hg := Gs.yes rfl rfl rfl (Bool.eq_false_iff.2 hc17))
                 refine a_pick (b := false) (v := vB _) ?_ (Bool.eq_false_iff.2 hc17)
                 refine a_move (v := vB _) ?_
                 by_cases hc20 : t18 = true
                 ·rw [if_pos hc20] at H
                  refine RA.skip rfl rfl rfl rfl rfl hc20 (by decide) ?_
                  refine RA.skip rfl rfl rfl rfl rfl hc20 (by decide) ?_
                  refine RA.skip rfl rfl rfl rfl rfl hc20 (by decide) ?_
                  refine RA.skip rfl rfl rfl rfl rfl hc20 (by decide) ?_
                  refine a_pick (b := true) (v := vB _) ?_ hc20
                  refine RA.nil nofun ?_
                  exact CanR.mk (fun κ => cond (Nat.beq κ 207) 202 (cond (Nat.beq κ 208) 203 (κ))) ⟨_, (by omega), _, _, _, _, _, _, _, _, H, rfl⟩ ⟨rfl, rfl, rfl, rfl, rfl, rfl, trivial⟩ ⟨rfl, rfl, trivial⟩ rfl
                 ·rw [if_neg hc20] at H
                  refine a_ldB (v := .agg [_, _]) ?_ T108 (hg := Gs.yes rfl rfl rfl (Bool.eq_false_iff.2 hc20))
                  refine a_ldB (v := .agg [_, _]) ?_ T108 (hg := Gs.yes rfl rfl rfl (Bool.eq_false_iff.2 hc20))
                  refine a_ldB (v := .agg [_, _]) ?_ T108 (hg := Gs.yes rfl rfl rfl (Bool.eq_false_iff.2 hc20))
                  obtain ⟨t21, e22, H⟩ := bindO H
                  refine a_call (v := vB t21) (nk := []) (L := []) ?_ rfl (spec_l02On.ok e22) id (qg (qg (qg qn))) trivial trivial trivial rfl (hg := Gs.yes rfl rfl rfl (Bool.eq_false_iff.2 hc20))
                  refine a_pick (b := false) (v := vB _) ?_ (Bool.eq_false_iff.2 hc20)
                  refine RA.nil nofun ?_
                  exact CanR.mk (fun κ => cond (Nat.beq κ 207) 202 (cond (Nat.beq κ 208) 203 (κ))) ⟨_, (by omega), _, _, _, _, _, _, _, _, H, rfl⟩ ⟨rfl, rfl, rfl, rfl, rfl, rfl, trivial⟩ ⟨rfl, rfl, trivial⟩ rfl
               ·clear H
                rintro _ ⟨k, hj1, x0, x3, x5, y207_0, y207_1, y208_0, y208_1, x66, H, rfl⟩
                cases k with
                | zero => cases H
                | succ k =>
                 rw [spec_l03Ok.j1] at H
                 by_cases hc23 : x66 = true
                 ·rw [if_pos hc23] at H
                  refine AG.yes rfl hc23 ?_
                  refine AG.seq ?_
                  refine AG.region HM ?_
                  refine a_move (v := vB _) ?_
                  refine RA.nil nofun ?_
                  refine AG.ret ?_
                  obtain rfl := Option.some.inj H
                  exact RetP.mk id ⟨rfl, trivial⟩ trivial rfl
                 ·rw [if_neg hc23] at H
                  refine AG.no rfl (Bool.eq_false_iff.2 hc23) ?_
                  refine AG.skip ?_
                  refine AG.seq ?_
                  refine AG.region HM ?_
                  refine a_move (v := vI _) ?_
                  refine a_int (u := .int .i64 (wrap64 (x5 + 2))) ?_
                  refine a_move (v := vI _) ?_
                  refine RA.nil nofun ?_
                  refine AG.block ?_
                  refine AG.loop ?_
                  obtain ⟨K2, hK2, gK2⟩ : ∃ K, k ≤ K ∧ K ≤ k := ⟨k, Nat.le_refl k, Nat.le_refl k⟩
                  refine AGr.canon (fun κ => cond (Nat.beq κ 209) 207 (cond (Nat.beq κ 210) 208 (κ))) (AGr.loopI (n := k) (fun k s => k ≤ K2 ∧ ∃ (x0 : List S107) (x3 : Int) (x5 : Int) (y209_0 : Int) (y209_1 : Int) (y210_0 : Int) (y210_1 : Int) (x9 : Int), spec_l03Ok.l2 k x0 x3 x5 y209_0 y209_1 y210_0 y210_1 x9 = some r ∧ s = St.of [(0, vR 108 (x0.map c107)), (3, vI x3), (5, vI x5), (6, .c (.ptr 209 0)), (7, .c (.ptr 210 0)), (9, vI x9)] [(209, .box 108 [.d (.v (.int .i64 y209_0)), .d (.v (.int .i64 y209_1))]), (210, .box 108 [.d (.v (.int .i64 y210_0)), .d (.v (.int .i64 y210_1))])]) ⟨hK2, _, _, _, _, _, _, _, _, H, rfl⟩ ?_ ?_) ⟨rfl, rfl, rfl, rfl, rfl, rfl, trivial⟩ ⟨rfl, rfl, trivial⟩ rfl
                  ·rintro _ ⟨_, _, _, _, _, _, _, _, _, H, _⟩
                   cases H
                  ·clear H hK2
                   rintro k ih2 _ ⟨hK2, x0, x3, x5, y209_0, y209_1, y210_0, y210_1, x9, H, rfl⟩
                   unfold spec_l03Ok.l2 at H
                   refine AG.seq ?_
                   refine AG.seq ?_
                   refine AG.region HM ?_
                   refine a_move (v := vI _) ?_
                   refine a_move (v := vI _) ?_
                   refine a_int (u := .bool (decide (x9 < x3))) ?_
                   refine RA.nil nofun ?_
                   by_cases hc24 : x9 < x3
                   ·rw [if_pos hc24] at H
                    refine AG.yes rfl (decide_eq_true hc24) ?_
                    refine AG.skip ?_
                    refine AG.seq ?_
                    refine AG.block ?_
                    refine AG.seq ?_
                    refine AG.region HM ?_
                    refine a_move (v := vI _) ?_
                    refine a_int (u := .int .i64 (wrap64 (x9 + 1))) ?_
                    refine a_move (v := vI _) ?_
                    by_cases hc25 : x3 = 0
                    ·rw [if_pos hc25] at H
                     cases H
                    ·rw [if_neg hc25] at H
                     refine a_rem (r := Int.tmod (wrap64 (x9 + 1)) x3) ?_ hc25
                     refine a_move (v := vI _) ?_
                     refine a_int (u := .bool (((Int.tmod (wrap64 (x9 + 1)) x3) != x5))) ?_
                     refine a_move (v := vB _) ?_
                     by_cases hc26 : (Int.tmod (wrap64 (x9 + 1)) x3) = x5
                     ·rw [if_pos hc26] at H
                      refine RA.skip rfl rfl rfl rfl rfl (bne_eq_false_iff_eq.2 hc26) (by decide) ?_
                      refine RA.skip rfl rfl rfl rfl rfl (bne_eq_false_iff_eq.2 hc26) (by decide) ?_
                      refine RA.skip rfl rfl rfl rfl rfl (bne_eq_false_iff_eq.2 hc26) (by decide) ?_
                      refine RA.skip rfl rfl rfl rfl rfl (bne_eq_false_iff_eq.2 hc26) (by decide) ?_
                      refine RA.skip rfl rfl rfl rfl rfl (bne_eq_false_iff_eq.2 hc26) (by decide) ?_
                      refine RA.skip rfl rfl rfl rfl rfl (bne_eq_false_iff_eq.2 hc26) (by decide) ?_
                      refine RA.skip rfl rfl rfl rfl rfl (bne_eq_false_iff_eq.2 hc26) (by decide) ?_
                      refine RA.skip rfl rfl rfl rfl rfl (bne_eq_false_iff_eq.2 hc26) (by decide) ?_
                      refine RA.skip rfl rfl rfl rfl rfl (bne_eq_false_iff_eq.2 hc26) (by decide) ?_
                      refine RA.skip rfl rfl rfl rfl rfl (bne_eq_false_iff_eq.2 hc26) (by decide) ?_
                      refine RA.skip rfl rfl rfl rfl rfl (bne_eq_false_iff_eq.2 hc26) (by decide) ?_
                      refine RA.skip rfl rfl rfl rfl rfl (bne_eq_false_iff_eq.2 hc26) (by decide) ?_
                      refine RA.skip rfl rfl rfl rfl rfl (bne_eq_false_iff_eq.2 hc26) (by decide) ?_
                      refine RA.skip rfl rfl rfl rfl rfl (bne_eq_false_iff_eq.2 hc26) (by decide) ?_
                      refine a_pick (b := false) (v := vB _) ?_ (bne_eq_false_iff_eq.2 hc26)
                      refine RA.nil (fun _ => by kernel_rfl) ?_
                      refine AG.no rfl rfl ?_
                      refine AG.skip ?_
                      refine AG.region HM ?_
                      refine a_move (v := vI _) ?_
                      refine a_int (u := .int .i64 (wrap64 (x9 + 1))) ?_
                      refine a_move (v := vI _) ?_
                      refine RA.nil nofun ?_
                      exact AGr.canon id (ih2 _ (by omega) _ ⟨by omega, _, _, _, _, _, _, _, _, H, rfl⟩) ⟨rfl, rfl, rfl, rfl, rfl, rfl, trivial⟩ ⟨rfl, rfl, trivial⟩ rfl
                     ·rw [if_neg hc26] at H
                      refine a_ldB (v := .agg [_, _]) ?_ T108 (hg := Gs.yes rfl rfl rfl (bne_iff_ne.2 hc26))
                      refine a_ldB (v := .agg [_, _]) ?_ T108 (hg := Gs.yes rfl rfl rfl (bne_iff_ne.2 hc26))
                      refine a_move (v := vR _ _) ?_ (hg := Gs.yes rfl rfl rfl (bne_iff_ne.2 hc26))
                      refine a_move (v := vI _) ?_ (hg := Gs.yes rfl rfl rfl (bne_iff_ne.2 hc26))
                      by_cases hc27 : 0 ≤ x9
                      ·rw [if_pos hc27] at H
                       by_cases hc28 : x9 < (x0.length : Int)
                       ·rw [if_pos hc28] at H
                        refine a_ixR (el := c107 (rd107 x0 x9)) ?_ ⟨hc27, hc28⟩ T108 Try.underlying46 (hel := R107 hc27 hc28) (hg := Gs.yes rfl rfl rfl (bne_iff_ne.2 hc26))
                        refine a_ldR (v := .agg [_, _]) ?_ T108 (hg := Gs.yes rfl rfl rfl (bne_iff_ne.2 hc26))
                        refine a_move (v := vR _ _) ?_ (hg := Gs.yes rfl rfl rfl (bne_iff_ne.2 hc26))
                        refine a_move (v := vI _) ?_ (hg := Gs.yes rfl rfl rfl (bne_iff_ne.2 hc26))
                        refine a_int (u := .int .i64 (wrap64 (x9 + 1))) ?_ (hg := Gs.yes rfl rfl rfl (bne_iff_ne.2 hc26))
                        refine a_move (v := vI _) ?_ (hg := Gs.yes rfl rfl rfl (bne_iff_ne.2 hc26))
                        refine a_rem (r := Int.tmod (wrap64 (x9 + 1)) x3) ?_ hc25 (hg := Gs.yes rfl rfl rfl (bne_iff_ne.2 hc26))
                        by_cases hc29 : 0 ≤ (Int.tmod (wrap64 (x9 + 1)) x3)
                        ·rw [if_pos hc29] at H
                         by_cases hc30 : (Int.tmod (wrap64 (x9 + 1)) x3) < (x0.length : Int)
                         ·rw [if_pos hc30] at H
                          refine a_ixR (el := c107 (rd107 x0 (Int.tmod (wrap64 (x9 + 1)) x3))) ?_ ⟨hc29, hc30⟩ T108 Try.underlying46 (hel := R107 hc29 hc30) (hg := Gs.yes rfl rfl rfl (bne_iff_ne.2 hc26))
                          refine a_ldR (v := .agg [_, _]) ?_ T108 (hg := Gs.yes rfl rfl rfl (bne_iff_ne.2 hc26))
                          obtain ⟨t31, e32, H⟩ := bindO H
                          refine a_call (v := vB t31) (nk := []) (L := []) ?_ rfl (spec_l03Meet.ok e32) id (qg (qg (qg (qg qn)))) trivial trivial trivial rfl (hg := Gs.yes rfl rfl rfl (bne_iff_ne.2 hc26))
                          refine a_pick (b := true) (v := vB _) ?_ (bne_iff_ne.2 hc26)
                          refine RA.nil (fun _ => by kernel_rfl) ?_
                          by_cases hc33 : t31 = true
                          ·rw [if_pos hc33] at H
                           refine AG.yes rfl hc33 ?_
                           refine AG.seq ?_
                           refine AG.region HM ?_
                           refine a_move (v := vB _) ?_
                           refine RA.nil nofun ?_
                           refine AG.ret ?_
                           obtain rfl := Option.some.inj H
                           exact RetP.mk id ⟨rfl, trivial⟩ trivial rfl
                          ·rw [if_neg hc33] at H
                           refine AG.no rfl (Bool.eq_false_iff.2 hc33) ?_
                           refine AG.skip ?_
                           refine AG.region HM ?_
                           refine a_move (v := vI _) ?_
                           refine a_int (u := .int .i64 (wrap64 (x9 + 1))) ?_
                           refine a_move (v := vI _) ?_
                           refine RA.nil nofun ?_
                           exact AGr.canon id (ih2 _ (by omega) _ ⟨by omega, _, _, _, _, _, _, _, _, H, rfl⟩) ⟨rfl, rfl, rfl, rfl, rfl, rfl, trivial⟩ ⟨rfl, rfl, trivial⟩ rfl
                         ·rw [if_neg hc30] at H
                          cases H
                        ·rw [if_neg hc29] at H
                         cases H
                       ·rw [if_neg hc28] at H
                        cases H
                      ·rw [if_neg hc27] at H
                       cases H
                   ·rw [if_neg hc24] at H
                    refine AG.no rfl (decide_eq_false hc24) ?_
                    refine AG.exit ?_
                    refine AG.region HM ?_
                    refine a_move (v := vI _) ?_
                    refine a_int (u := .int .i64 (wrap64 (x5 + 1))) ?_
                    refine a_move (v := vI _) ?_
                    refine RA.nil nofun ?_
                    exact AGr.canon id (ih1 _ (by omega) _ ⟨by omega, _, _, _, H, rfl⟩) ⟨rfl, rfl, rfl, trivial⟩ trivial rfl
              ·rw [if_neg hc16] at H
               cases H
             ·rw [if_neg hc15] at H
              cases H
            ·rw [if_neg hc14] at H
             cases H
           ·rw [if_neg hc13] at H
            cases H
         ·rw [if_neg hc11] at H
          cases H
        ·rw [if_neg hc10] at H
         cases H
       ·rw [if_neg hc9] at H
        refine AG.no rfl (decide_eq_false hc9) ?_
        refine AG.exit ?_
        refine AG.seq ?_
        refine AG.region HM ?_
        refine a_move (v := vR _ _) ?_
        obtain ⟨t34, e35, H⟩ := bindO H
        refine a_call (v := vI t34) (nk := []) (L := []) ?_ rfl (spec_l03Area.ok e35) id (qd qn) trivial trivial trivial rfl
        refine a_int (u := .bool (decide (t34 > 0))) ?_
        refine a_move (v := vB _) ?_
        refine RA.nil nofun ?_
        refine AG.ret ?_
        obtain rfl := Option.some.inj H
        exact RetP.mk id ⟨rfl, trivial⟩ trivial rfl
end Go.Proofs.Ytadjbffiomkljaa.PFnExactLeastContrast

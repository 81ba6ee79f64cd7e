/- What each function that the law FnExactEnoughStock reaches comes to, and the proof that its walk comes to it; laid by a program of this session. No condition. -/
import Derived.Test.YtadjbffiomkljaaGreatAnE
import Derived.KernelRfl
import Derived.OwnWalk
import Derived.Test.YtadjbffiomkljaaGreatProg
import Derived.Test.YtadjbffiomkljaaGreatAnL
import Derived.Test.YtadjbffiomkljaaGreatAnN
import Derived.Test.YtadjbffiomkljaaGreatSortI
import Derived.Test.YtadjbffiomkljaaGreatCloneI
import Derived.Test.YtadjbffiomkljaaGreatReverseI
set_option linter.unusedVariables false
set_option linter.unusedSimpArgs false
namespace Go.Proofs.YtadjbffiomkljaaGreat.PFnExactEnoughStock
open Go Go.RowKit Go.Proofs.YtadjbffiomkljaaGreatM Go.Proofs Go.Proofs.YtadjbffiomkljaaGreat.SortI Go.Proofs.YtadjbffiomkljaaGreat.CloneI Go.Proofs.YtadjbffiomkljaaGreat.ReverseI
theorem HM : Tryz.prog.follows .mixedOrders = true := by kernel_rfl
structure S159 where
 f0 : Int
 f1 : Int
def z159 : S159 := ⟨0, 0⟩
structure S146 where
 f0 : ByteArray
 f1 : List Int
def z146 : S146 := ⟨(⟨#[]⟩ : ByteArray), []⟩
structure S24 where
 f0 : Int
 f1 : Int
 f2 : List S159
 f3 : List S146
def z24 : S24 := ⟨0, 0, [], []⟩
structure S81 where
 f0 : ByteArray
 f1 : Int
 f2 : Int
def z81 : S81 := ⟨(⟨#[]⟩ : ByteArray), 0, 0⟩
structure S176 where
 f0 : Int
 f1 : Int
 f2 : Int
 f3 : Int
def z176 : S176 := ⟨0, 0, 0, 0⟩
structure S84 where
 f0 : ByteArray
 f1 : ByteArray
 f2 : Int
 f3 : S81
 f4 : Int
 f5 : Int
 f6 : List S176
def z84 : S84 := ⟨(⟨#[]⟩ : ByteArray), (⟨#[]⟩ : ByteArray), 0, z81, 0, 0, []⟩
structure S94 where
 f0 : ByteArray
 f1 : ByteArray
 f2 : Int
 f3 : S81
 f4 : Int
 f5 : Int
 f6 : List S176
def z94 : S94 := ⟨(⟨#[]⟩ : ByteArray), (⟨#[]⟩ : ByteArray), 0, z81, 0, 0, []⟩
structure S34 where
 f0 : Int
 f1 : Int
 f2 : List S159
 f3 : List S146
def z34 : S34 := ⟨0, 0, [], []⟩
def c159 (x : S159) : List DV := [.v (.int .i64 x.f0), .v (.int .i64 x.f1)]
def rd159 (l : List S159) (i : Int) : S159 := l.getD i.toNat z159
theorem R159 {l : List S159} {i : Int} {z : List DV} (h0 : 0 ≤ i) (h1 : i < (l.length : Int)) : (l.map c159).getD i.toNat z = c159 (rd159 l i) := by
 have : i.toNat < l.length := by omega
 simp [rd159, List.getD_eq_getElem?_getD, this]
theorem G159 {l : List S159} {i : Int} (h0 : 0 ≤ i) (h1 : i < (l.length : Int)) : (l.map c159)[i.toNat]? = some (c159 (rd159 l i)) := by
 have : i.toNat < l.length := by omega
 simp [rd159, List.getD_eq_getElem?_getD, this]
def c2 (x : Int) : List DV := [.v (.int .i64 x)]
def rd2 (l : List Int) (i : Int) : Int := l.getD i.toNat 0
theorem R2 {l : List Int} {i : Int} {z : List DV} (h0 : 0 ≤ i) (h1 : i < (l.length : Int)) : (l.map c2).getD i.toNat z = c2 (rd2 l i) := by
 have : i.toNat < l.length := by omega
 simp [rd2, List.getD_eq_getElem?_getD, this]
theorem G2 {l : List Int} {i : Int} (h0 : 0 ≤ i) (h1 : i < (l.length : Int)) : (l.map c2)[i.toNat]? = some (c2 (rd2 l i)) := by
 have : i.toNat < l.length := by omega
 simp [rd2, List.getD_eq_getElem?_getD, this]
def c146 (x : S146) : List DV := [.v (.string x.f0), .row 2 (x.f1.map c2)]
def rd146 (l : List S146) (i : Int) : S146 := l.getD i.toNat z146
theorem R146 {l : List S146} {i : Int} {z : List DV} (h0 : 0 ≤ i) (h1 : i < (l.length : Int)) : (l.map c146).getD i.toNat z = c146 (rd146 l i) := by
 have : i.toNat < l.length := by omega
 simp [rd146, List.getD_eq_getElem?_getD, this]
theorem G146 {l : List S146} {i : Int} (h0 : 0 ≤ i) (h1 : i < (l.length : Int)) : (l.map c146)[i.toNat]? = some (c146 (rd146 l i)) := by
 have : i.toNat < l.length := by omega
 simp [rd146, List.getD_eq_getElem?_getD, this]
def c176 (x : S176) : List DV := [.v (.int .i64 x.f0), .v (.int .i64 x.f1), .v (.int .i64 x.f2), .v (.int .i64 x.f3)]
def rd176 (l : List S176) (i : Int) : S176 := l.getD i.toNat z176
theorem R176 {l : List S176} {i : Int} {z : List DV} (h0 : 0 ≤ i) (h1 : i < (l.length : Int)) : (l.map c176).getD i.toNat z = c176 (rd176 l i) := by
 have : i.toNat < l.length := by omega
 simp [rd176, List.getD_eq_getElem?_getD, this]
theorem G176 {l : List S176} {i : Int} (h0 : 0 ≤ i) (h1 : i < (l.length : Int)) : (l.map c176)[i.toNat]? = some (c176 (rd176 l i)) := by
 have : i.toNat < l.length := by omega
 simp [rd176, List.getD_eq_getElem?_getD, this]
def c84 (x : S84) : List DV := [.v (.string x.f0), .v (.string x.f1), .v (.int .i64 x.f2), .v (.string x.f3.f0), .v (.int .i64 x.f3.f1), .v (.int .i64 x.f3.f2), .v (.int .i64 x.f4), .v (.int .i64 x.f5), .row 210 (x.f6.map c176)]
def rd84 (l : List S84) (i : Int) : S84 := l.getD i.toNat z84
theorem R84 {l : List S84} {i : Int} {z : List DV} (h0 : 0 ≤ i) (h1 : i < (l.length : Int)) : (l.map c84).getD i.toNat z = c84 (rd84 l i) := by
 have : i.toNat < l.length := by omega
 simp [rd84, List.getD_eq_getElem?_getD, this]
theorem G84 {l : List S84} {i : Int} (h0 : 0 ≤ i) (h1 : i < (l.length : Int)) : (l.map c84)[i.toNat]? = some (c84 (rd84 l i)) := by
 have : i.toNat < l.length := by omega
 simp [rd84, List.getD_eq_getElem?_getD, this]
def c94 (x : S94) : List DV := [.v (.string x.f0), .v (.string x.f1), .v (.int .i64 x.f2), .v (.string x.f3.f0), .v (.int .i64 x.f3.f1), .v (.int .i64 x.f3.f2), .v (.int .i64 x.f4), .v (.int .i64 x.f5), .row 177 (x.f6.map c176)]
def rd94 (l : List S94) (i : Int) : S94 := l.getD i.toNat z94
theorem R94 {l : List S94} {i : Int} {z : List DV} (h0 : 0 ≤ i) (h1 : i < (l.length : Int)) : (l.map c94).getD i.toNat z = c94 (rd94 l i) := by
 have : i.toNat < l.length := by omega
 simp [rd94, List.getD_eq_getElem?_getD, this]
theorem G94 {l : List S94} {i : Int} (h0 : 0 ≤ i) (h1 : i < (l.length : Int)) : (l.map c94)[i.toNat]? = some (c94 (rd94 l i)) := by
 have : i.toNat < l.length := by omega
 simp [rd94, List.getD_eq_getElem?_getD, this]
def c9 (x : ByteArray) : List DV := [.v (.string x)]
def rd9 (l : List ByteArray) (i : Int) : ByteArray := l.getD i.toNat (⟨#[]⟩ : ByteArray)
theorem R9 {l : List ByteArray} {i : Int} {z : List DV} (h0 : 0 ≤ i) (h1 : i < (l.length : Int)) : (l.map c9).getD i.toNat z = c9 (rd9 l i) := by
 have : i.toNat < l.length := by omega
 simp [rd9, List.getD_eq_getElem?_getD, this]
theorem G9 {l : List ByteArray} {i : Int} (h0 : 0 ≤ i) (h1 : i < (l.length : Int)) : (l.map c9)[i.toNat]? = some (c9 (rd9 l i)) := by
 have : i.toNat < l.length := by omega
 simp [rd9, List.getD_eq_getElem?_getD, this]
def c29 (x : List Int) : List DV := [.row 2 (x.map c2)]
def rd29 (l : List (List Int)) (i : Int) : List Int := l.getD i.toNat []
theorem R29 {l : List (List Int)} {i : Int} {z : List DV} (h0 : 0 ≤ i) (h1 : i < (l.length : Int)) : (l.map c29).getD i.toNat z = c29 (rd29 l i) := by
 have : i.toNat < l.length := by omega
 simp [rd29, List.getD_eq_getElem?_getD, this]
theorem G29 {l : List (List Int)} {i : Int} (h0 : 0 ≤ i) (h1 : i < (l.length : Int)) : (l.map c29)[i.toNat]? = some (c29 (rd29 l i)) := by
 have : i.toNat < l.length := by omega
 simp [rd29, List.getD_eq_getElem?_getD, this]
def c24 (x : S24) : List DV := [.v (.int .i64 x.f0), .v (.int .i64 x.f1), .row 162 (x.f2.map c159), .row 147 (x.f3.map c146)]
def rd24 (l : List S24) (i : Int) : S24 := l.getD i.toNat z24
theorem R24 {l : List S24} {i : Int} {z : List DV} (h0 : 0 ≤ i) (h1 : i < (l.length : Int)) : (l.map c24).getD i.toNat z = c24 (rd24 l i) := by
 have : i.toNat < l.length := by omega
 simp [rd24, List.getD_eq_getElem?_getD, this]
theorem G24 {l : List S24} {i : Int} (h0 : 0 ≤ i) (h1 : i < (l.length : Int)) : (l.map c24)[i.toNat]? = some (c24 (rd24 l i)) := by
 have : i.toNat < l.length := by omega
 simp [rd24, List.getD_eq_getElem?_getD, this]
def c26 (x : List S84) : List DV := [.row 85 (x.map c84)]
def rd26 (l : List (List S84)) (i : Int) : List S84 := l.getD i.toNat []
theorem R26 {l : List (List S84)} {i : Int} {z : List DV} (h0 : 0 ≤ i) (h1 : i < (l.length : Int)) : (l.map c26).getD i.toNat z = c26 (rd26 l i) := by
 have : i.toNat < l.length := by omega
 simp [rd26, List.getD_eq_getElem?_getD, this]
theorem G26 {l : List (List S84)} {i : Int} (h0 : 0 ≤ i) (h1 : i < (l.length : Int)) : (l.map c26)[i.toNat]? = some (c26 (rd26 l i)) := by
 have : i.toNat < l.length := by omega
 simp [rd26, List.getD_eq_getElem?_getD, this]
def c81 (x : S81) : List DV := [.v (.string x.f0), .v (.int .i64 x.f1), .v (.int .i64 x.f2)]
def rd81 (l : List S81) (i : Int) : S81 := l.getD i.toNat z81
theorem R81 {l : List S81} {i : Int} {z : List DV} (h0 : 0 ≤ i) (h1 : i < (l.length : Int)) : (l.map c81).getD i.toNat z = c81 (rd81 l i) := by
 have : i.toNat < l.length := by omega
 simp [rd81, List.getD_eq_getElem?_getD, this]
theorem G81 {l : List S81} {i : Int} (h0 : 0 ≤ i) (h1 : i < (l.length : Int)) : (l.map c81)[i.toNat]? = some (c81 (rd81 l i)) := by
 have : i.toNat < l.length := by omega
 simp [rd81, List.getD_eq_getElem?_getD, this]
theorem T9 : tyi Tryz.prog 9 = some (1, 16, [.string ⟨#[]⟩], false) := by kernel_rfl
theorem T29 : tyi Tryz.prog 29 = some (1, 24, [.slice none 0 0], false) := by kernel_rfl
theorem T147 : tyi Tryz.prog 147 = some (2, 40, [.string ⟨#[]⟩, .slice none 0 0], true) := by kernel_rfl
theorem T22 : tyi Tryz.prog 22 = some (1, 24, [.slice none 0 0], false) := by kernel_rfl
theorem T23 : tyi Tryz.prog 23 = some (1, 24, [.slice none 0 0], false) := by kernel_rfl
theorem T82 : tyi Tryz.prog 82 = some (3, 32, [.string ⟨#[]⟩, .int .i64 0, .int .i64 0], true) := by kernel_rfl
theorem T83 : tyi Tryz.prog 83 = some (1, 24, [.slice none 0 0], false) := by kernel_rfl
theorem T85 : tyi Tryz.prog 85 = some (9, 112, [.string ⟨#[]⟩, .string ⟨#[]⟩, .int .i64 0, .string ⟨#[]⟩, .int .i64 0, .int .i64 0, .int .i64 0, .int .i64 0, .slice none 0 0], true) := by kernel_rfl
theorem T160 : tyi Tryz.prog 160 = some (2, 16, [.int .i64 0, .int .i64 0], true) := by kernel_rfl
theorem T2 : tyi Tryz.prog 2 = some (1, 8, [.int .i64 0], false) := by kernel_rfl
theorem T162 : tyi Tryz.prog 162 = some (2, 16, [.int .i64 0, .int .i64 0], true) := by kernel_rfl
theorem T152 : tyi Tryz.prog 152 = some (2, 40, [.string ⟨#[]⟩, .slice none 0 0], true) := by kernel_rfl
theorem T35 : tyi Tryz.prog 35 = some (4, 64, [.int .i64 0, .int .i64 0, .slice none 0 0, .slice none 0 0], true) := by kernel_rfl
theorem T32 : tyi Tryz.prog 32 = some (1, 24, [.slice none 0 0], false) := by kernel_rfl
theorem T33 : tyi Tryz.prog 33 = some (1, 24, [.slice none 0 0], false) := by kernel_rfl
theorem T92 : tyi Tryz.prog 92 = some (3, 32, [.string ⟨#[]⟩, .int .i64 0, .int .i64 0], true) := by kernel_rfl
theorem T177 : tyi Tryz.prog 177 = some (4, 32, [.int .i64 0, .int .i64 0, .int .i64 0, .int .i64 0], true) := by kernel_rfl
theorem T210 : tyi Tryz.prog 210 = some (4, 32, [.int .i64 0, .int .i64 0, .int .i64 0, .int .i64 0], true) := by kernel_rfl
theorem T95 : tyi Tryz.prog 95 = some (9, 112, [.string ⟨#[]⟩, .string ⟨#[]⟩, .int .i64 0, .string ⟨#[]⟩, .int .i64 0, .int .i64 0, .int .i64 0, .int .i64 0, .slice none 0 0], true) := by kernel_rfl
theorem T93 : tyi Tryz.prog 93 = some (1, 24, [.slice none 0 0], false) := by kernel_rfl
theorem T25 : tyi Tryz.prog 25 = some (4, 64, [.int .i64 0, .int .i64 0, .slice none 0 0, .slice none 0 0], true) := by kernel_rfl
theorem I177 : infosOk Tryz.prog 177 = true := by kernel_rfl
theorem I160 : infosOk Tryz.prog 160 = true := by kernel_rfl
theorem N32 : eln Tryz.prog 32 = some 160 := by kernel_rfl
theorem N29 : eln Tryz.prog 29 = some 2 := by kernel_rfl
theorem N33 : eln Tryz.prog 33 = some 152 := by kernel_rfl
theorem N93 : eln Tryz.prog 93 = some 177 := by kernel_rfl
theorem N37 : eln Tryz.prog 37 = some 95 := by kernel_rfl
theorem N258 : eln Tryz.prog 258 = some 9 := by kernel_rfl
theorem N184 : eln Tryz.prog 184 = some 29 := by kernel_rfl
theorem Q160 (x0 y0 : Int) (x1 y1 : Int) : EqRun Tryz.prog .eql 160 [.int .i64 x0, .int .i64 x1] [.int .i64 y0, .int .i64 y1] (eqC [.int .i64 x0, .int .i64 x1] [.int .i64 y0, .int .i64 y1]) ∧ EqRun Tryz.prog .neq 160 [.int .i64 x0, .int .i64 x1] [.int .i64 y0, .int .i64 y1] (!(eqC [.int .i64 x0, .int .i64 x1] [.int .i64 y0, .int .i64 y1])) := by
 refine eqRun_of (by kernel_rfl) (fun w => ?_)
 show _ = Result.ok (x0 == y0 && (x1 == y1)) w
 go_simp
 (repeat' split) <;> simp_all
theorem D147_0 : fld Tryz.prog 147 0 = some (0, 1, false) := by kernel_rfl
theorem D147_1 : fld Tryz.prog 147 1 = some (1, 1, false) := by kernel_rfl
theorem D25_2 : fld Tryz.prog 25 2 = some (2, 1, false) := by kernel_rfl
theorem D25_3 : fld Tryz.prog 25 3 = some (3, 1, false) := by kernel_rfl
theorem D82_0 : fld Tryz.prog 82 0 = some (0, 1, false) := by kernel_rfl
theorem D85_0 : fld Tryz.prog 85 0 = some (0, 1, false) := by kernel_rfl
theorem D85_1 : fld Tryz.prog 85 1 = some (1, 1, false) := by kernel_rfl
theorem D85_3 : fld Tryz.prog 85 3 = some (3, 3, true) := by kernel_rfl
theorem D85_6 : fld Tryz.prog 85 6 = some (8, 1, false) := by kernel_rfl
theorem D162_0 : fld Tryz.prog 162 0 = some (0, 1, false) := by kernel_rfl
theorem D160_0 : fld Tryz.prog 160 0 = some (0, 1, false) := by kernel_rfl
theorem D162_1 : fld Tryz.prog 162 1 = some (1, 1, false) := by kernel_rfl
theorem D160_1 : fld Tryz.prog 160 1 = some (1, 1, false) := by kernel_rfl
theorem D152_0 : fld Tryz.prog 152 0 = some (0, 1, false) := by kernel_rfl
theorem D152_1 : fld Tryz.prog 152 1 = some (1, 1, false) := by kernel_rfl
theorem D25_0 : fld Tryz.prog 25 0 = some (0, 1, false) := by kernel_rfl
theorem D35_0 : fld Tryz.prog 35 0 = some (0, 1, false) := by kernel_rfl
theorem D25_1 : fld Tryz.prog 25 1 = some (1, 1, false) := by kernel_rfl
theorem D35_1 : fld Tryz.prog 35 1 = some (1, 1, false) := by kernel_rfl
theorem D35_2 : fld Tryz.prog 35 2 = some (2, 1, false) := by kernel_rfl
theorem D35_3 : fld Tryz.prog 35 3 = some (3, 1, false) := by kernel_rfl
theorem D92_0 : fld Tryz.prog 92 0 = some (0, 1, false) := by kernel_rfl
theorem D82_1 : fld Tryz.prog 82 1 = some (1, 1, false) := by kernel_rfl
theorem D92_1 : fld Tryz.prog 92 1 = some (1, 1, false) := by kernel_rfl
theorem D82_2 : fld Tryz.prog 82 2 = some (2, 1, false) := by kernel_rfl
theorem D92_2 : fld Tryz.prog 92 2 = some (2, 1, false) := by kernel_rfl
theorem D210_0 : fld Tryz.prog 210 0 = some (0, 1, false) := by kernel_rfl
theorem D177_0 : fld Tryz.prog 177 0 = some (0, 1, false) := by kernel_rfl
theorem D210_1 : fld Tryz.prog 210 1 = some (1, 1, false) := by kernel_rfl
theorem D177_1 : fld Tryz.prog 177 1 = some (1, 1, false) := by kernel_rfl
theorem D210_2 : fld Tryz.prog 210 2 = some (2, 1, false) := by kernel_rfl
theorem D177_2 : fld Tryz.prog 177 2 = some (2, 1, false) := by kernel_rfl
theorem D210_3 : fld Tryz.prog 210 3 = some (3, 1, false) := by kernel_rfl
theorem D177_3 : fld Tryz.prog 177 3 = some (3, 1, false) := by kernel_rfl
theorem D95_0 : fld Tryz.prog 95 0 = some (0, 1, false) := by kernel_rfl
theorem D95_1 : fld Tryz.prog 95 1 = some (1, 1, false) := by kernel_rfl
theorem D85_2 : fld Tryz.prog 85 2 = some (2, 1, false) := by kernel_rfl
theorem D95_2 : fld Tryz.prog 95 2 = some (2, 1, false) := by kernel_rfl
theorem D95_3 : fld Tryz.prog 95 3 = some (3, 3, true) := by kernel_rfl
theorem D85_4 : fld Tryz.prog 85 4 = some (6, 1, false) := by kernel_rfl
theorem D95_4 : fld Tryz.prog 95 4 = some (6, 1, false) := by kernel_rfl
theorem D85_5 : fld Tryz.prog 85 5 = some (7, 1, false) := by kernel_rfl
theorem D95_5 : fld Tryz.prog 95 5 = some (7, 1, false) := by kernel_rfl
theorem D95_6 : fld Tryz.prog 95 6 = some (8, 1, false) := by kernel_rfl
def laws_szPointS.f (l0 : List S159) (a1 : Int) : Option (Int) := if (wrap64 (a1 - (l0.length : Int))) < 0 then (some (-1)) else (some (wrap64 (a1 - (l0.length : Int))))
set_option maxRecDepth 100000 in
theorem laws_szPointS.ok {l0 : List S159} {a1 : Int} {r : Int} (H : laws_szPointS.f l0 a1 = some r) : OkF Tryz.prog 44 [vR 162 (l0.map c159), vI a1] [] (.c (.d (.v (.int .i64 r)))) [] := by
 unfold laws_szPointS.f at H
 refine OkF.of (N := 12) (rs := [4]) (avs := [.c (.d (.v (.int .i64 r)))]) Tryz.func44 rfl rfl (fun _ _ => results_tmp rfl _ _ _) (by decide) rfl rfl rfl rfl (fun w0 S => ?_)
 refine AG.seq ?_
 refine AG.region HM ?_
 refine a_move (v := vI _) ?_
 refine RA.nil nofun ?_
 refine AG.seq ?_
 refine AG.region HM ?_
 refine a_move (v := vI _) ?_
 refine a_move (v := vR _ _) ?_
 refine a_lenR ?_ Tryz.underlying22
 refine a_int (u := .int .i64 (wrap64 (a1 - (l0.length : Int)))) ?_
 refine a_move (v := vI _) ?_
 refine RA.nil nofun ?_
 refine AG.seq ?_
 refine AG.seq ?_
 refine AG.region HM ?_
 refine a_move (v := vI _) ?_
 refine a_int (u := .bool (decide ((wrap64 (a1 - (l0.length : Int))) < 0))) ?_
 refine RA.nil nofun ?_
 by_cases hc1 : (wrap64 (a1 - (l0.length : Int))) < 0
 ·rw [if_pos hc1] at H
  refine AG.yes rfl (decide_eq_true hc1) ?_
  refine AG.seq ?_
  refine AG.region HM ?_
  refine a_move (v := vI _) ?_
  refine RA.nil nofun ?_
  refine AG.ret ?_
  obtain rfl := Option.some.inj H
  exact RetP.mk id ⟨rfl, trivial⟩ trivial rfl
 ·rw [if_neg hc1] at H
  refine AG.no rfl (decide_eq_false hc1) ?_
  refine AG.skip ?_
  refine AG.seq ?_
  refine AG.region HM ?_
  refine a_move (v := vI _) ?_
  refine a_move (v := vI _) ?_
  refine RA.nil nofun ?_
  refine AG.ret ?_
  obtain rfl := Option.some.inj H
  exact RetP.mk id ⟨rfl, trivial⟩ trivial rfl
def laws_szInt64S.f (l0 : List Int) (a1 : Int) : Option (Int) := if (wrap64 (a1 - (l0.length : Int))) < 0 then (some (-1)) else (some (wrap64 (a1 - (l0.length : Int))))
set_option maxRecDepth 100000 in
theorem laws_szInt64S.ok {l0 : List Int} {a1 : Int} {r : Int} (H : laws_szInt64S.f l0 a1 = some r) : OkF Tryz.prog 150 [vR 2 (l0.map c2), vI a1] [] (.c (.d (.v (.int .i64 r)))) [] := by
 unfold laws_szInt64S.f at H
 refine OkF.of (N := 12) (rs := [4]) (avs := [.c (.d (.v (.int .i64 r)))]) Tryz.func150 rfl rfl (fun _ _ => results_tmp rfl _ _ _) (by decide) rfl rfl rfl rfl (fun w0 S => ?_)
 refine AG.seq ?_
 refine AG.region HM ?_
 refine a_move (v := vI _) ?_
 refine RA.nil nofun ?_
 refine AG.seq ?_
 refine AG.region HM ?_
 refine a_move (v := vI _) ?_
 refine a_move (v := vR _ _) ?_
 refine a_lenR ?_ Tryz.underlying29
 refine a_int (u := .int .i64 (wrap64 (a1 - (l0.length : Int)))) ?_
 refine a_move (v := vI _) ?_
 refine RA.nil nofun ?_
 refine AG.seq ?_
 refine AG.seq ?_
 refine AG.region HM ?_
 refine a_move (v := vI _) ?_
 refine a_int (u := .bool (decide ((wrap64 (a1 - (l0.length : Int))) < 0))) ?_
 refine RA.nil nofun ?_
 by_cases hc1 : (wrap64 (a1 - (l0.length : Int))) < 0
 ·rw [if_pos hc1] at H
  refine AG.yes rfl (decide_eq_true hc1) ?_
  refine AG.seq ?_
  refine AG.region HM ?_
  refine a_move (v := vI _) ?_
  refine RA.nil nofun ?_
  refine AG.ret ?_
  obtain rfl := Option.some.inj H
  exact RetP.mk id ⟨rfl, trivial⟩ trivial rfl
 ·rw [if_neg hc1] at H
  refine AG.no rfl (decide_eq_false hc1) ?_
  refine AG.skip ?_
  refine AG.seq ?_
  refine AG.region HM ?_
  refine a_move (v := vI _) ?_
  refine a_move (v := vI _) ?_
  refine RA.nil nofun ?_
  refine AG.ret ?_
  obtain rfl := Option.some.inj H
  exact RetP.mk id ⟨rfl, trivial⟩ trivial rfl
def laws_szFace.f (a0_0 : ByteArray) (l0_1 : List Int) (a1 : Int) : Option (Int) := if (wrap64 (a1 - (a0_0.size : Int))) < 0 then (some (-1)) else ((laws_szInt64S.f l0_1 (wrap64 (a1 - (a0_0.size : Int)))).bind fun t2 => (if t2 < 0 then (some (-1)) else (some t2)))
set_option maxRecDepth 100000 in
theorem laws_szFace.ok {a0_0 : ByteArray} {l0_1 : List Int} {a1 : Int} {r : Int} (H : laws_szFace.f a0_0 l0_1 a1 = some r) : OkF Tryz.prog 96 [.agg [.d (.v (.string a0_0)), .d (.row 2 (l0_1.map c2))], vI a1] [] (.c (.d (.v (.int .i64 r)))) [] := by
 unfold laws_szFace.f at H
 refine OkF.of (N := 19) (rs := [4]) (avs := [.c (.d (.v (.int .i64 r)))]) Tryz.func96 rfl rfl (fun _ _ => results_tmp rfl _ _ _) (by decide) rfl rfl rfl rfl (fun w0 S => ?_)
 refine AG.seq ?_
 refine AG.region HM ?_
 refine a_box 200 ?_
 refine a_move (v := vI _) ?_
 refine RA.nil nofun ?_
 refine AG.seq ?_
 refine AG.region HM ?_
 refine a_move (v := vI _) ?_
 refine a_faB (q := 0) ?_ D147_0
 refine a_ldB (v := vS _) ?_ T9
 refine a_lenS ?_ Tryz.underlying9
 refine a_int (u := .int .i64 (wrap64 (a1 - (a0_0.size : Int)))) ?_
 refine a_move (v := vI _) ?_
 refine RA.nil nofun ?_
 refine AG.seq ?_
 refine AG.seq ?_
 refine AG.region HM ?_
 refine a_move (v := vI _) ?_
 refine a_int (u := .bool (decide ((wrap64 (a1 - (a0_0.size : Int))) < 0))) ?_
 refine RA.nil nofun ?_
 by_cases hc1 : (wrap64 (a1 - (a0_0.size : Int))) < 0
 ·rw [if_pos hc1] at H
  refine AG.yes rfl (decide_eq_true hc1) ?_
  refine AG.seq ?_
  refine AG.region HM ?_
  refine a_move (v := vI _) ?_
  refine RA.nil nofun ?_
  refine AG.ret ?_
  obtain rfl := Option.some.inj H
  exact RetP.mk id ⟨rfl, trivial⟩ trivial rfl
 ·rw [if_neg hc1] at H
  refine AG.no rfl (decide_eq_false hc1) ?_
  refine AG.skip ?_
  refine AG.seq ?_
  refine AG.region HM ?_
  refine a_faB (q := 1) ?_ D147_1
  refine a_ldB (v := vR _ _) ?_ T29
  refine a_move (v := vI _) ?_
  obtain ⟨t2, e3, H⟩ := bindO H
  refine a_call (v := vI t2) (nk := []) (L := []) ?_ rfl (laws_szInt64S.ok e3) id (qd (qd qn)) trivial trivial trivial rfl
  refine a_move (v := vI _) ?_
  refine RA.nil nofun ?_
  refine AG.seq ?_
  refine AG.seq ?_
  refine AG.region HM ?_
  refine a_move (v := vI _) ?_
  refine a_int (u := .bool (decide (t2 < 0))) ?_
  refine RA.nil nofun ?_
  by_cases hc4 : t2 < 0
  ·rw [if_pos hc4] at H
   refine AG.yes rfl (decide_eq_true hc4) ?_
   refine AG.seq ?_
   refine AG.region HM ?_
   refine a_move (v := vI _) ?_
   refine RA.nil nofun ?_
   refine AG.ret ?_
   obtain rfl := Option.some.inj H
   exact RetP.mk id ⟨rfl, trivial⟩ trivial rfl
  ·rw [if_neg hc4] at H
   refine AG.no rfl (decide_eq_false hc4) ?_
   refine AG.skip ?_
   refine AG.seq ?_
   refine AG.region HM ?_
   refine a_move (v := vI _) ?_
   refine a_move (v := vI _) ?_
   refine RA.nil nofun ?_
   refine AG.ret ?_
   obtain rfl := Option.some.inj H
   exact RetP.mk id ⟨rfl, trivial⟩ trivial rfl
def laws_szFaceS.l0 : Nat → List S146 → Int → Int → Option (Int)
 | 0, _, _, _ => none
 | k + 1, x0, x1, x5 => if x5 < (x0.length : Int) then (if 0 ≤ x5 then ((laws_szFace.f ((rd146 x0 x5).f0) ((rd146 x0 x5).f1) x1).bind fun t4 => (if t4 < 0 then (some (-1)) else (laws_szFaceS.l0 k x0 t4 (wrap64 (x5 + 1))))) else (none)) else (some x1)
def laws_szFaceS.f (k : Nat) (l0 : List S146) (a1 : Int) : Option (Int) := if (wrap64 (a1 - (l0.length : Int))) < 0 then (some (-1)) else (laws_szFaceS.l0 k l0 (wrap64 (a1 - (l0.length : Int))) 0)
set_option maxRecDepth 100000 in
theorem laws_szFaceS.ok {k : Nat} {l0 : List S146} {a1 : Int} {r : Int} (H : laws_szFaceS.f k l0 a1 = some r) : OkF Tryz.prog 45 [vR 147 (l0.map c146), vI a1] [] (.c (.d (.v (.int .i64 r)))) [] := by
 unfold laws_szFaceS.f at H
 refine OkF.of (N := 27) (rs := [4]) (avs := [.c (.d (.v (.int .i64 r)))]) Tryz.func45 rfl rfl (fun _ _ => results_tmp rfl _ _ _) (by decide) rfl rfl rfl rfl (fun w0 S => ?_)
 refine AG.seq ?_
 refine AG.region HM ?_
 refine a_move (v := vI _) ?_
 refine RA.nil nofun ?_
 refine AG.seq ?_
 refine AG.region HM ?_
 refine a_move (v := vI _) ?_
 refine a_move (v := vR _ _) ?_
 refine a_lenR ?_ Tryz.underlying23
 refine a_int (u := .int .i64 (wrap64 (a1 - (l0.length : Int)))) ?_
 refine a_move (v := vI _) ?_
 refine RA.nil nofun ?_
 refine AG.seq ?_
 refine AG.seq ?_
 refine AG.region HM ?_
 refine a_move (v := vI _) ?_
 refine a_int (u := .bool (decide ((wrap64 (a1 - (l0.length : Int))) < 0))) ?_
 refine RA.nil nofun ?_
 by_cases hc1 : (wrap64 (a1 - (l0.length : Int))) < 0
 ·rw [if_pos hc1] at H
  refine AG.yes rfl (decide_eq_true hc1) ?_
  refine AG.seq ?_
  refine AG.region HM ?_
  refine a_move (v := vI _) ?_
  refine RA.nil nofun ?_
  refine AG.ret ?_
  obtain rfl := Option.some.inj H
  exact RetP.mk id ⟨rfl, trivial⟩ trivial rfl
 ·rw [if_neg hc1] at H
  refine AG.no rfl (decide_eq_false hc1) ?_
  refine AG.skip ?_
  refine AG.seq ?_
  refine AG.seq ?_
  refine AG.region HM ?_
  refine a_move (v := vI _) ?_
  refine RA.nil nofun ?_
  refine AG.block ?_
  refine AG.loop ?_
  obtain ⟨K0, hK0, gK0⟩ : ∃ K, k ≤ K ∧ K ≤ k := ⟨k, Nat.le_refl k, Nat.le_refl k⟩
  refine AGr.canon id (AGr.loopI (n := k) (fun k s => k ≤ K0 ∧ ∃ (x0 : List S146) (x1 : Int) (x5 : Int), laws_szFaceS.l0 k x0 x1 x5 = some r ∧ s = St.of [(0, vR 147 (x0.map c146)), (1, vI x1), (5, vI x5)] []) ⟨hK0, _, _, _, H, rfl⟩ ?_ ?_) ⟨rfl, rfl, rfl, trivial⟩ trivial rfl
  ·rintro _ ⟨_, _, _, _, H, _⟩
   cases H
  ·clear H hK0
   rintro k ih0 _ ⟨hK0, x0, x1, x5, H, rfl⟩
   unfold laws_szFaceS.l0 at H
   refine AG.seq ?_
   refine AG.seq ?_
   refine AG.region HM ?_
   refine a_move (v := vI _) ?_
   refine a_move (v := vR _ _) ?_
   refine a_lenR ?_ Tryz.underlying23
   refine a_int (u := .bool (decide (x5 < (x0.length : Int)))) ?_
   refine RA.nil nofun ?_
   by_cases hc2 : x5 < (x0.length : Int)
   ·rw [if_pos hc2] at H
    refine AG.yes rfl (decide_eq_true hc2) ?_
    refine AG.skip ?_
    refine AG.seq ?_
    refine AG.block ?_
    refine AG.seq ?_
    refine AG.region HM ?_
    refine a_move (v := vR _ _) ?_
    refine a_move (v := vI _) ?_
    by_cases hc3 : 0 ≤ x5
    ·rw [if_pos hc3] at H
     refine a_ixR (el := c146 (rd146 x0 x5)) ?_ ⟨hc3, hc2⟩ T147 Tryz.underlying23 (hel := R146 hc3 hc2)
     refine a_ldR (v := .agg [_, _]) ?_ T147
     refine a_move (v := vI _) ?_
     obtain ⟨t4, e5, H⟩ := bindO H
     refine a_call (v := vI t4) (nk := []) (L := []) ?_ rfl (laws_szFace.ok e5) id (qg (qd qn)) trivial trivial trivial rfl
     refine a_move (v := vI _) ?_
     refine RA.nil nofun ?_
     refine AG.seq ?_
     refine AG.region HM ?_
     refine a_move (v := vI _) ?_
     refine a_int (u := .bool (decide (t4 < 0))) ?_
     refine RA.nil nofun ?_
     by_cases hc6 : t4 < 0
     ·rw [if_pos hc6] at H
      refine AG.yes rfl (decide_eq_true hc6) ?_
      refine AG.seq ?_
      refine AG.region HM ?_
      refine a_move (v := vI _) ?_
      refine RA.nil nofun ?_
      refine AG.ret ?_
      obtain rfl := Option.some.inj H
      exact RetP.mk id ⟨rfl, trivial⟩ trivial rfl
     ·rw [if_neg hc6] at H
      refine AG.no rfl (decide_eq_false hc6) ?_
      refine AG.skip ?_
      refine AG.region HM ?_
      refine a_move (v := vI _) ?_
      refine a_int (u := .int .i64 (wrap64 (x5 + 1))) ?_
      refine a_move (v := vI _) ?_
      refine RA.nil nofun ?_
      exact AGr.canon id (ih0 _ (by omega) _ ⟨by omega, _, _, _, H, rfl⟩) ⟨rfl, rfl, rfl, trivial⟩ trivial rfl
    ·rw [if_neg hc3] at H
     cases H
   ·rw [if_neg hc2] at H
    refine AG.no rfl (decide_eq_false hc2) ?_
    refine AG.exit ?_
    refine AG.seq ?_
    refine AG.region HM ?_
    refine a_move (v := vI _) ?_
    refine a_move (v := vI _) ?_
    refine RA.nil nofun ?_
    refine AG.ret ?_
    obtain rfl := Option.some.inj H
    exact RetP.mk id ⟨rfl, trivial⟩ trivial rfl
def laws_szDrawing.f (k : Nat) (a0_0 : Int) (a0_1 : Int) (l0_2 : List S159) (l0_3 : List S146) (a1 : Int) : Option (Int) := (laws_szPointS.f l0_2 a1).bind fun t1 => (if t1 < 0 then (some (-1)) else ((laws_szFaceS.f k l0_3 t1).bind fun t4 => (if t4 < 0 then (some (-1)) else (some t4))))
set_option maxRecDepth 100000 in
theorem laws_szDrawing.ok {k : Nat} {a0_0 : Int} {a0_1 : Int} {l0_2 : List S159} {l0_3 : List S146} {a1 : Int} {r : Int} (H : laws_szDrawing.f k a0_0 a0_1 l0_2 l0_3 a1 = some r) : OkF Tryz.prog 9 [.agg [.d (.v (.int .i64 a0_0)), .d (.v (.int .i64 a0_1)), .d (.row 162 (l0_2.map c159)), .d (.row 147 (l0_3.map c146))], vI a1] [] (.c (.d (.v (.int .i64 r)))) [] := by
 unfold laws_szDrawing.f at H
 refine OkF.of (N := 18) (rs := [4]) (avs := [.c (.d (.v (.int .i64 r)))]) Tryz.func9 rfl rfl (fun _ _ => results_tmp rfl _ _ _) (by decide) rfl rfl rfl rfl (fun w0 S => ?_)
 refine AG.seq ?_
 refine AG.region HM ?_
 refine a_box 200 ?_
 refine a_move (v := vI _) ?_
 refine RA.nil nofun ?_
 refine AG.seq ?_
 refine AG.region HM ?_
 refine a_faB (q := 2) ?_ D25_2
 refine a_ldB (v := vR _ _) ?_ T22
 refine a_move (v := vI _) ?_
 obtain ⟨t1, e2, H⟩ := bindO H
 refine a_call (v := vI t1) (nk := []) (L := []) ?_ rfl (laws_szPointS.ok e2) id (qd (qd qn)) trivial trivial trivial rfl
 refine a_move (v := vI _) ?_
 refine RA.nil nofun ?_
 refine AG.seq ?_
 refine AG.seq ?_
 refine AG.region HM ?_
 refine a_move (v := vI _) ?_
 refine a_int (u := .bool (decide (t1 < 0))) ?_
 refine RA.nil nofun ?_
 by_cases hc3 : t1 < 0
 ·rw [if_pos hc3] at H
  refine AG.yes rfl (decide_eq_true hc3) ?_
  refine AG.seq ?_
  refine AG.region HM ?_
  refine a_move (v := vI _) ?_
  refine RA.nil nofun ?_
  refine AG.ret ?_
  obtain rfl := Option.some.inj H
  exact RetP.mk id ⟨rfl, trivial⟩ trivial rfl
 ·rw [if_neg hc3] at H
  refine AG.no rfl (decide_eq_false hc3) ?_
  refine AG.skip ?_
  refine AG.seq ?_
  refine AG.region HM ?_
  refine a_faB (q := 3) ?_ D25_3
  refine a_ldB (v := vR _ _) ?_ T23
  refine a_move (v := vI _) ?_
  obtain ⟨t4, e5, H⟩ := bindO H
  refine a_call (v := vI t4) (nk := []) (L := []) ?_ rfl (laws_szFaceS.ok e5) id (qd (qd qn)) trivial trivial trivial rfl
  refine a_move (v := vI _) ?_
  refine RA.nil nofun ?_
  refine AG.seq ?_
  refine AG.seq ?_
  refine AG.region HM ?_
  refine a_move (v := vI _) ?_
  refine a_int (u := .bool (decide (t4 < 0))) ?_
  refine RA.nil nofun ?_
  by_cases hc6 : t4 < 0
  ·rw [if_pos hc6] at H
   refine AG.yes rfl (decide_eq_true hc6) ?_
   refine AG.seq ?_
   refine AG.region HM ?_
   refine a_move (v := vI _) ?_
   refine RA.nil nofun ?_
   refine AG.ret ?_
   obtain rfl := Option.some.inj H
   exact RetP.mk id ⟨rfl, trivial⟩ trivial rfl
  ·rw [if_neg hc6] at H
   refine AG.no rfl (decide_eq_false hc6) ?_
   refine AG.skip ?_
   refine AG.seq ?_
   refine AG.region HM ?_
   refine a_move (v := vI _) ?_
   refine a_move (v := vI _) ?_
   refine RA.nil nofun ?_
   refine AG.ret ?_
   obtain rfl := Option.some.inj H
   exact RetP.mk id ⟨rfl, trivial⟩ trivial rfl
def laws_szVeneer.f (a0_0 : ByteArray) (a0_1 : Int) (a0_2 : Int) (a1 : Int) : Option (Int) := if (wrap64 (a1 - (a0_0.size : Int))) < 0 then (some (-1)) else (some (wrap64 (a1 - (a0_0.size : Int))))
set_option maxRecDepth 100000 in
theorem laws_szVeneer.ok {a0_0 : ByteArray} {a0_1 : Int} {a0_2 : Int} {a1 : Int} {r : Int} (H : laws_szVeneer.f a0_0 a0_1 a0_2 a1 = some r) : OkF Tryz.prog 97 [.agg [.d (.v (.string a0_0)), .d (.v (.int .i64 a0_1)), .d (.v (.int .i64 a0_2))], vI a1] [] (.c (.d (.v (.int .i64 r)))) [] := by
 unfold laws_szVeneer.f at H
 refine OkF.of (N := 13) (rs := [4]) (avs := [.c (.d (.v (.int .i64 r)))]) Tryz.func97 rfl rfl (fun _ _ => results_tmp rfl _ _ _) (by decide) rfl rfl rfl rfl (fun w0 S => ?_)
 refine AG.seq ?_
 refine AG.region HM ?_
 refine a_box 200 ?_
 refine a_move (v := vI _) ?_
 refine RA.nil nofun ?_
 refine AG.seq ?_
 refine AG.region HM ?_
 refine a_move (v := vI _) ?_
 refine a_faB (q := 0) ?_ D82_0
 refine a_ldB (v := vS _) ?_ T9
 refine a_lenS ?_ Tryz.underlying9
 refine a_int (u := .int .i64 (wrap64 (a1 - (a0_0.size : Int)))) ?_
 refine a_move (v := vI _) ?_
 refine RA.nil nofun ?_
 refine AG.seq ?_
 refine AG.seq ?_
 refine AG.region HM ?_
 refine a_move (v := vI _) ?_
 refine a_int (u := .bool (decide ((wrap64 (a1 - (a0_0.size : Int))) < 0))) ?_
 refine RA.nil nofun ?_
 by_cases hc1 : (wrap64 (a1 - (a0_0.size : Int))) < 0
 ·rw [if_pos hc1] at H
  refine AG.yes rfl (decide_eq_true hc1) ?_
  refine AG.seq ?_
  refine AG.region HM ?_
  refine a_move (v := vI _) ?_
  refine RA.nil nofun ?_
  refine AG.ret ?_
  obtain rfl := Option.some.inj H
  exact RetP.mk id ⟨rfl, trivial⟩ trivial rfl
 ·rw [if_neg hc1] at H
  refine AG.no rfl (decide_eq_false hc1) ?_
  refine AG.skip ?_
  refine AG.seq ?_
  refine AG.region HM ?_
  refine a_move (v := vI _) ?_
  refine a_move (v := vI _) ?_
  refine RA.nil nofun ?_
  refine AG.ret ?_
  obtain rfl := Option.some.inj H
  exact RetP.mk id ⟨rfl, trivial⟩ trivial rfl
def laws_szBoxS.f (l0 : List S176) (a1 : Int) : Option (Int) := if (wrap64 (a1 - (l0.length : Int))) < 0 then (some (-1)) else (some (wrap64 (a1 - (l0.length : Int))))
set_option maxRecDepth 100000 in
theorem laws_szBoxS.ok {l0 : List S176} {a1 : Int} {r : Int} (H : laws_szBoxS.f l0 a1 = some r) : OkF Tryz.prog 98 [vR 210 (l0.map c176), vI a1] [] (.c (.d (.v (.int .i64 r)))) [] := by
 unfold laws_szBoxS.f at H
 refine OkF.of (N := 12) (rs := [4]) (avs := [.c (.d (.v (.int .i64 r)))]) Tryz.func98 rfl rfl (fun _ _ => results_tmp rfl _ _ _) (by decide) rfl rfl rfl rfl (fun w0 S => ?_)
 refine AG.seq ?_
 refine AG.region HM ?_
 refine a_move (v := vI _) ?_
 refine RA.nil nofun ?_
 refine AG.seq ?_
 refine AG.region HM ?_
 refine a_move (v := vI _) ?_
 refine a_move (v := vR _ _) ?_
 refine a_lenR ?_ Tryz.underlying83
 refine a_int (u := .int .i64 (wrap64 (a1 - (l0.length : Int)))) ?_
 refine a_move (v := vI _) ?_
 refine RA.nil nofun ?_
 refine AG.seq ?_
 refine AG.seq ?_
 refine AG.region HM ?_
 refine a_move (v := vI _) ?_
 refine a_int (u := .bool (decide ((wrap64 (a1 - (l0.length : Int))) < 0))) ?_
 refine RA.nil nofun ?_
 by_cases hc1 : (wrap64 (a1 - (l0.length : Int))) < 0
 ·rw [if_pos hc1] at H
  refine AG.yes rfl (decide_eq_true hc1) ?_
  refine AG.seq ?_
  refine AG.region HM ?_
  refine a_move (v := vI _) ?_
  refine RA.nil nofun ?_
  refine AG.ret ?_
  obtain rfl := Option.some.inj H
  exact RetP.mk id ⟨rfl, trivial⟩ trivial rfl
 ·rw [if_neg hc1] at H
  refine AG.no rfl (decide_eq_false hc1) ?_
  refine AG.skip ?_
  refine AG.seq ?_
  refine AG.region HM ?_
  refine a_move (v := vI _) ?_
  refine a_move (v := vI _) ?_
  refine RA.nil nofun ?_
  refine AG.ret ?_
  obtain rfl := Option.some.inj H
  exact RetP.mk id ⟨rfl, trivial⟩ trivial rfl
def laws_szLeaf.f (a0_0 : ByteArray) (a0_1 : ByteArray) (a0_2 : Int) (a0_3 : ByteArray) (a0_4 : Int) (a0_5 : Int) (a0_6 : Int) (a0_7 : Int) (l0_8 : List S176) (a1 : Int) : Option (Int) := if (wrap64 (a1 - (a0_0.size : Int))) < 0 then (some (-1)) else (if (wrap64 ((wrap64 (a1 - (a0_0.size : Int))) - (a0_1.size : Int))) < 0 then (some (-1)) else ((laws_szVeneer.f a0_3 a0_4 a0_5 (wrap64 ((wrap64 (a1 - (a0_0.size : Int))) - (a0_1.size : Int)))).bind fun t3 => (if t3 < 0 then (some (-1)) else ((laws_szBoxS.f l0_8 t3).bind fun t6 => (if t6 < 0 then (some (-1)) else (some t6))))))
set_option maxRecDepth 100000 in
theorem laws_szLeaf.ok {a0_0 : ByteArray} {a0_1 : ByteArray} {a0_2 : Int} {a0_3 : ByteArray} {a0_4 : Int} {a0_5 : Int} {a0_6 : Int} {a0_7 : Int} {l0_8 : List S176} {a1 : Int} {r : Int} (H : laws_szLeaf.f a0_0 a0_1 a0_2 a0_3 a0_4 a0_5 a0_6 a0_7 l0_8 a1 = some r) : OkF Tryz.prog 46 [.agg [.d (.v (.string a0_0)), .d (.v (.string a0_1)), .d (.v (.int .i64 a0_2)), .d (.v (.string a0_3)), .d (.v (.int .i64 a0_4)), .d (.v (.int .i64 a0_5)), .d (.v (.int .i64 a0_6)), .d (.v (.int .i64 a0_7)), .d (.row 210 (l0_8.map c176))], vI a1] [] (.c (.d (.v (.int .i64 r)))) [] := by
 unfold laws_szLeaf.f at H
 refine OkF.of (N := 32) (rs := [4]) (avs := [.c (.d (.v (.int .i64 r)))]) Tryz.func46 rfl rfl (fun _ _ => results_tmp rfl _ _ _) (by decide) rfl rfl rfl rfl (fun w0 S => ?_)
 refine AG.seq ?_
 refine AG.region HM ?_
 refine a_box 200 ?_
 refine a_move (v := vI _) ?_
 refine RA.nil nofun ?_
 refine AG.seq ?_
 refine AG.region HM ?_
 refine a_move (v := vI _) ?_
 refine a_faB (q := 0) ?_ D85_0
 refine a_ldB (v := vS _) ?_ T9
 refine a_lenS ?_ Tryz.underlying9
 refine a_int (u := .int .i64 (wrap64 (a1 - (a0_0.size : Int)))) ?_
 refine a_move (v := vI _) ?_
 refine RA.nil nofun ?_
 refine AG.seq ?_
 refine AG.seq ?_
 refine AG.region HM ?_
 refine a_move (v := vI _) ?_
 refine a_int (u := .bool (decide ((wrap64 (a1 - (a0_0.size : Int))) < 0))) ?_
 refine RA.nil nofun ?_
 by_cases hc1 : (wrap64 (a1 - (a0_0.size : Int))) < 0
 ·rw [if_pos hc1] at H
  refine AG.yes rfl (decide_eq_true hc1) ?_
  refine AG.seq ?_
  refine AG.region HM ?_
  refine a_move (v := vI _) ?_
  refine RA.nil nofun ?_
  refine AG.ret ?_
  obtain rfl := Option.some.inj H
  exact RetP.mk id ⟨rfl, trivial⟩ trivial rfl
 ·rw [if_neg hc1] at H
  refine AG.no rfl (decide_eq_false hc1) ?_
  refine AG.skip ?_
  refine AG.seq ?_
  refine AG.region HM ?_
  refine a_move (v := vI _) ?_
  refine a_faB (q := 1) ?_ D85_1
  refine a_ldB (v := vS _) ?_ T9
  refine a_lenS ?_ Tryz.underlying9
  refine a_int (u := .int .i64 (wrap64 ((wrap64 (a1 - (a0_0.size : Int))) - (a0_1.size : Int)))) ?_
  refine a_move (v := vI _) ?_
  refine RA.nil nofun ?_
  refine AG.seq ?_
  refine AG.seq ?_
  refine AG.region HM ?_
  refine a_move (v := vI _) ?_
  refine a_int (u := .bool (decide ((wrap64 ((wrap64 (a1 - (a0_0.size : Int))) - (a0_1.size : Int))) < 0))) ?_
  refine RA.nil nofun ?_
  by_cases hc2 : (wrap64 ((wrap64 (a1 - (a0_0.size : Int))) - (a0_1.size : Int))) < 0
  ·rw [if_pos hc2] at H
   refine AG.yes rfl (decide_eq_true hc2) ?_
   refine AG.seq ?_
   refine AG.region HM ?_
   refine a_move (v := vI _) ?_
   refine RA.nil nofun ?_
   refine AG.ret ?_
   obtain rfl := Option.some.inj H
   exact RetP.mk id ⟨rfl, trivial⟩ trivial rfl
  ·rw [if_neg hc2] at H
   refine AG.no rfl (decide_eq_false hc2) ?_
   refine AG.skip ?_
   refine AG.seq ?_
   refine AG.region HM ?_
   refine a_faB (q := 3) ?_ D85_3
   refine a_ldB (v := .agg [_, _, _]) ?_ T82
   refine a_move (v := vI _) ?_
   obtain ⟨t3, e4, H⟩ := bindO H
   refine a_call (v := vI t3) (nk := []) (L := []) ?_ rfl (laws_szVeneer.ok e4) id (qg (qd qn)) trivial trivial trivial rfl
   refine a_move (v := vI _) ?_
   refine RA.nil nofun ?_
   refine AG.seq ?_
   refine AG.seq ?_
   refine AG.region HM ?_
   refine a_move (v := vI _) ?_
   refine a_int (u := .bool (decide (t3 < 0))) ?_
   refine RA.nil nofun ?_
   by_cases hc5 : t3 < 0
   ·rw [if_pos hc5] at H
    refine AG.yes rfl (decide_eq_true hc5) ?_
    refine AG.seq ?_
    refine AG.region HM ?_
    refine a_move (v := vI _) ?_
    refine RA.nil nofun ?_
    refine AG.ret ?_
    obtain rfl := Option.some.inj H
    exact RetP.mk id ⟨rfl, trivial⟩ trivial rfl
   ·rw [if_neg hc5] at H
    refine AG.no rfl (decide_eq_false hc5) ?_
    refine AG.skip ?_
    refine AG.seq ?_
    refine AG.region HM ?_
    refine a_faB (q := 8) ?_ D85_6
    refine a_ldB (v := vR _ _) ?_ T83
    refine a_move (v := vI _) ?_
    obtain ⟨t6, e7, H⟩ := bindO H
    refine a_call (v := vI t6) (nk := []) (L := []) ?_ rfl (laws_szBoxS.ok e7) id (qd (qd qn)) trivial trivial trivial rfl
    refine a_move (v := vI _) ?_
    refine RA.nil nofun ?_
    refine AG.seq ?_
    refine AG.seq ?_
    refine AG.region HM ?_
    refine a_move (v := vI _) ?_
    refine a_int (u := .bool (decide (t6 < 0))) ?_
    refine RA.nil nofun ?_
    by_cases hc8 : t6 < 0
    ·rw [if_pos hc8] at H
     refine AG.yes rfl (decide_eq_true hc8) ?_
     refine AG.seq ?_
     refine AG.region HM ?_
     refine a_move (v := vI _) ?_
     refine RA.nil nofun ?_
     refine AG.ret ?_
     obtain rfl := Option.some.inj H
     exact RetP.mk id ⟨rfl, trivial⟩ trivial rfl
    ·rw [if_neg hc8] at H
     refine AG.no rfl (decide_eq_false hc8) ?_
     refine AG.skip ?_
     refine AG.seq ?_
     refine AG.region HM ?_
     refine a_move (v := vI _) ?_
     refine a_move (v := vI _) ?_
     refine RA.nil nofun ?_
     refine AG.ret ?_
     obtain rfl := Option.some.inj H
     exact RetP.mk id ⟨rfl, trivial⟩ trivial rfl
def laws_szLeafS.l0 : Nat → List S84 → Int → Int → Option (Int)
 | 0, _, _, _ => none
 | k + 1, x0, x1, x5 => if x5 < (x0.length : Int) then (if 0 ≤ x5 then ((laws_szLeaf.f ((rd84 x0 x5).f0) ((rd84 x0 x5).f1) ((rd84 x0 x5).f2) ((rd84 x0 x5).f3.f0) ((rd84 x0 x5).f3.f1) ((rd84 x0 x5).f3.f2) ((rd84 x0 x5).f4) ((rd84 x0 x5).f5) ((rd84 x0 x5).f6) x1).bind fun t4 => (if t4 < 0 then (some (-1)) else (laws_szLeafS.l0 k x0 t4 (wrap64 (x5 + 1))))) else (none)) else (some x1)
def laws_szLeafS.f (k : Nat) (l0 : List S84) (a1 : Int) : Option (Int) := if (wrap64 (a1 - (l0.length : Int))) < 0 then (some (-1)) else (laws_szLeafS.l0 k l0 (wrap64 (a1 - (l0.length : Int))) 0)
set_option maxRecDepth 100000 in
theorem laws_szLeafS.ok {k : Nat} {l0 : List S84} {a1 : Int} {r : Int} (H : laws_szLeafS.f k l0 a1 = some r) : OkF Tryz.prog 10 [vR 85 (l0.map c84), vI a1] [] (.c (.d (.v (.int .i64 r)))) [] := by
 unfold laws_szLeafS.f at H
 refine OkF.of (N := 27) (rs := [4]) (avs := [.c (.d (.v (.int .i64 r)))]) Tryz.func10 rfl rfl (fun _ _ => results_tmp rfl _ _ _) (by decide) rfl rfl rfl rfl (fun w0 S => ?_)
 refine AG.seq ?_
 refine AG.region HM ?_
 refine a_move (v := vI _) ?_
 refine RA.nil nofun ?_
 refine AG.seq ?_
 refine AG.region HM ?_
 refine a_move (v := vI _) ?_
 refine a_move (v := vR _ _) ?_
 refine a_lenR ?_ Tryz.underlying26
 refine a_int (u := .int .i64 (wrap64 (a1 - (l0.length : Int)))) ?_
 refine a_move (v := vI _) ?_
 refine RA.nil nofun ?_
 refine AG.seq ?_
 refine AG.seq ?_
 refine AG.region HM ?_
 refine a_move (v := vI _) ?_
 refine a_int (u := .bool (decide ((wrap64 (a1 - (l0.length : Int))) < 0))) ?_
 refine RA.nil nofun ?_
 by_cases hc1 : (wrap64 (a1 - (l0.length : Int))) < 0
 ·rw [if_pos hc1] at H
  refine AG.yes rfl (decide_eq_true hc1) ?_
  refine AG.seq ?_
  refine AG.region HM ?_
  refine a_move (v := vI _) ?_
  refine RA.nil nofun ?_
  refine AG.ret ?_
  obtain rfl := Option.some.inj H
  exact RetP.mk id ⟨rfl, trivial⟩ trivial rfl
 ·rw [if_neg hc1] at H
  refine AG.no rfl (decide_eq_false hc1) ?_
  refine AG.skip ?_
  refine AG.seq ?_
  refine AG.seq ?_
  refine AG.region HM ?_
  refine a_move (v := vI _) ?_
  refine RA.nil nofun ?_
  refine AG.block ?_
  refine AG.loop ?_
  obtain ⟨K0, hK0, gK0⟩ : ∃ K, k ≤ K ∧ K ≤ k := ⟨k, Nat.le_refl k, Nat.le_refl k⟩
  refine AGr.canon id (AGr.loopI (n := k) (fun k s => k ≤ K0 ∧ ∃ (x0 : List S84) (x1 : Int) (x5 : Int), laws_szLeafS.l0 k x0 x1 x5 = some r ∧ s = St.of [(0, vR 85 (x0.map c84)), (1, vI x1), (5, vI x5)] []) ⟨hK0, _, _, _, H, rfl⟩ ?_ ?_) ⟨rfl, rfl, rfl, trivial⟩ trivial rfl
  ·rintro _ ⟨_, _, _, _, H, _⟩
   cases H
  ·clear H hK0
   rintro k ih0 _ ⟨hK0, x0, x1, x5, H, rfl⟩
   unfold laws_szLeafS.l0 at H
   refine AG.seq ?_
   refine AG.seq ?_
   refine AG.region HM ?_
   refine a_move (v := vI _) ?_
   refine a_move (v := vR _ _) ?_
   refine a_lenR ?_ Tryz.underlying26
   refine a_int (u := .bool (decide (x5 < (x0.length : Int)))) ?_
   refine RA.nil nofun ?_
   by_cases hc2 : x5 < (x0.length : Int)
   ·rw [if_pos hc2] at H
    refine AG.yes rfl (decide_eq_true hc2) ?_
    refine AG.skip ?_
    refine AG.seq ?_
    refine AG.block ?_
    refine AG.seq ?_
    refine AG.region HM ?_
    refine a_move (v := vR _ _) ?_
    refine a_move (v := vI _) ?_
    by_cases hc3 : 0 ≤ x5
    ·rw [if_pos hc3] at H
     refine a_ixR (el := c84 (rd84 x0 x5)) ?_ ⟨hc3, hc2⟩ T85 Tryz.underlying26 (hel := R84 hc3 hc2)
     refine a_ldR (v := .agg [_, _, _, _, _, _, _, _, _]) ?_ T85
     refine a_move (v := vI _) ?_
     obtain ⟨t4, e5, H⟩ := bindO H
     refine a_call (v := vI t4) (nk := []) (L := []) ?_ rfl (laws_szLeaf.ok e5) id (qg (qd qn)) trivial trivial trivial rfl
     refine a_move (v := vI _) ?_
     refine RA.nil nofun ?_
     refine AG.seq ?_
     refine AG.region HM ?_
     refine a_move (v := vI _) ?_
     refine a_int (u := .bool (decide (t4 < 0))) ?_
     refine RA.nil nofun ?_
     by_cases hc6 : t4 < 0
     ·rw [if_pos hc6] at H
      refine AG.yes rfl (decide_eq_true hc6) ?_
      refine AG.seq ?_
      refine AG.region HM ?_
      refine a_move (v := vI _) ?_
      refine RA.nil nofun ?_
      refine AG.ret ?_
      obtain rfl := Option.some.inj H
      exact RetP.mk id ⟨rfl, trivial⟩ trivial rfl
     ·rw [if_neg hc6] at H
      refine AG.no rfl (decide_eq_false hc6) ?_
      refine AG.skip ?_
      refine AG.region HM ?_
      refine a_move (v := vI _) ?_
      refine a_int (u := .int .i64 (wrap64 (x5 + 1))) ?_
      refine a_move (v := vI _) ?_
      refine RA.nil nofun ?_
      exact AGr.canon id (ih0 _ (by omega) _ ⟨by omega, _, _, _, H, rfl⟩) ⟨rfl, rfl, rfl, trivial⟩ trivial rfl
    ·rw [if_neg hc3] at H
     cases H
   ·rw [if_neg hc2] at H
    refine AG.no rfl (decide_eq_false hc2) ?_
    refine AG.exit ?_
    refine AG.seq ?_
    refine AG.region HM ?_
    refine a_move (v := vI _) ?_
    refine a_move (v := vI _) ?_
    refine RA.nil nofun ?_
    refine AG.ret ?_
    obtain rfl := Option.some.inj H
    exact RetP.mk id ⟨rfl, trivial⟩ trivial rfl
def laws_toPoint.f (a0_0 : Int) (a0_1 : Int) : Option (Int × Int) := some (a0_0, a0_1)
set_option maxRecDepth 100000 in
theorem laws_toPoint.ok {a0_0 : Int} {a0_1 : Int} {r0 : Int} {r1 : Int} (H : laws_toPoint.f a0_0 a0_1 = some (r0, r1)) : OkF Tryz.prog 106 [.agg [.d (.v (.int .i64 a0_0)), .d (.v (.int .i64 a0_1))]] [] (.agg [.d (.v (.int .i64 r0)), .d (.v (.int .i64 r1))]) [] := by
 unfold laws_toPoint.f at H
 refine OkF.ofB (N := 11) (t := 2) (ty := 160) (av := .agg [.d (.v (.int .i64 r0)), .d (.v (.int .i64 r1))]) Tryz.func106 rfl rfl rfl rfl (by decide) rfl rfl (fun w0 S => ?_)
 refine AG.seq ?_
 refine AG.region HM ?_
 refine a_box 200 ?_
 refine a_alloc (cs := [_, _]) 201 ?_ T160
 refine RA.nil nofun ?_
 refine AG.seq ?_
 refine AG.region HM ?_
 refine a_alloc (cs := [_, _]) 202 ?_ T160
 refine RA.nil nofun ?_
 refine AG.seq ?_
 refine AG.region HM ?_
 refine a_faB (q := 0) ?_ D162_0
 refine a_ldB (v := vI _) ?_ T2
 refine a_faB (q := 0) ?_ D160_0
 refine a_stB (cs' := [_, _]) ?_ T2
 refine RA.nil nofun ?_
 refine AG.seq ?_
 refine AG.region HM ?_
 refine a_faB (q := 1) ?_ D162_1
 refine a_ldB (v := vI _) ?_ T2
 refine a_faB (q := 1) ?_ D160_1
 refine a_stB (cs' := [_, _]) ?_ T2
 refine RA.nil nofun ?_
 refine AG.seq ?_
 refine AG.region HM ?_
 refine a_ldB (v := .agg [_, _]) ?_ T160
 refine a_stB (cs' := [_, _]) ?_ T160
 refine RA.nil nofun ?_
 refine AG.ret ?_
 simp only [Option.some.injEq, Prod.mk.injEq] at H
 obtain ⟨rfl, rfl⟩ := H
 exact RetB.mk T160 rfl rfl rfl (RetP.mk id ⟨rfl, trivial⟩ trivial rfl)
def laws_toPointS.l0 : Nat → List S159 → List S159 → Int → Option ((List S159))
 | 0, _, _, _ => none
 | k + 1, x0, x3, x4 => if x4 < (x0.length : Int) then (if 0 ≤ x4 then ((laws_toPoint.f ((rd159 x0 x4).f0) ((rd159 x0 x4).f1)).bind fun bt6 => (if x4 < (x3.length : Int) then (laws_toPointS.l0 k x0 (x3.set (x4 : Int).toNat (⟨bt6.1, bt6.2⟩ : S159)) (wrap64 (x4 + 1))) else (none))) else (none)) else (some x3)
def laws_toPointS.f (k : Nat) (l0 : List S159) : Option ((List S159)) := if 0 ≤ (l0.length : Int) then (if ((l0.length : Int) : Int).toNat ≤ 17592186044416 then (laws_toPointS.l0 k l0 (List.replicate (((l0.length : Int) : Int).toNat) z159) 0) else (none)) else (none)
set_option maxRecDepth 100000 in
theorem laws_toPointS.ok {k : Nat} {l0 : List S159} {r : List S159} (H : laws_toPointS.f k l0 = some r) : OkF Tryz.prog 50 [vR 162 (l0.map c159)] [] (.c (.own 100 r.length)) [(100, .row 160 (r.map c159))] := by
 unfold laws_toPointS.f at H
 refine OkF.of (N := 23) (rs := [2]) (avs := [.c (.own 100 r.length)]) Tryz.func50 rfl rfl (fun _ _ => results_tmp rfl _ _ _) (by decide) rfl rfl rfl rfl (fun w0 S => ?_)
 refine AG.seq ?_
 refine AG.region HM ?_
 refine a_nilO (e := 160) 200 ?_ T160
 refine RA.nil nofun ?_
 refine AG.seq ?_
 refine AG.region HM ?_
 refine a_move (v := vR _ _) ?_
 refine a_lenR ?_ Tryz.underlying22
 by_cases hc1 : 0 ≤ (l0.length : Int)
 ·rw [if_pos hc1] at H
  by_cases hc2 : ((l0.length : Int) : Int).toNat ≤ 17592186044416
  ·rw [if_pos hc2] at H
   refine a_make (n := (l0.length : Int)) (css := (List.replicate (((l0.length : Int) : Int).toNat) z159).map c159) 201 ?_ N32 T160 (zV (zV zN)) hc1 (by omega) (by omega) (hcss := by exact rep_map rfl)
   refine a_move (v := .c (.own _ _)) ?_
   refine RA.nil nofun ?_
   refine AG.seq ?_
   refine AG.seq ?_
   refine AG.region HM ?_
   refine a_move (v := vI _) ?_
   refine RA.nil nofun ?_
   refine AG.block ?_
   refine AG.loop ?_
   obtain ⟨K0, hK0, gK0⟩ : ∃ K, k ≤ K ∧ K ≤ k := ⟨k, Nat.le_refl k, Nat.le_refl k⟩
   refine AGr.canon (fun κ => cond (Nat.beq κ 202) 201 (κ)) (AGr.loopI (n := k) (fun k s => k ≤ K0 ∧ ∃ (x0 : List S159) (x3 : List S159) (x4 : Int), laws_toPointS.l0 k x0 x3 x4 = some r ∧ s = St.of [(0, vR 162 (x0.map c159)), (3, .c (.own 202 x3.length)), (4, vI x4)] [(202, .row 160 (x3.map c159))]) ⟨hK0, _, _, _, H, rfl⟩ ?_ ?_) ⟨rfl, (ownE rfl (by simp)), rfl, trivial⟩ ⟨rfl, trivial⟩ rfl
   ·rintro _ ⟨_, _, _, _, H, _⟩
    cases H
   ·clear H hK0
    rintro k ih0 _ ⟨hK0, x0, x3, x4, H, rfl⟩
    unfold laws_toPointS.l0 at H
    refine AG.seq ?_
    refine AG.seq ?_
    refine AG.region HM ?_
    refine a_move (v := vI _) ?_
    refine a_move (v := vR _ _) ?_
    refine a_lenR ?_ Tryz.underlying22
    refine a_int (u := .bool (decide (x4 < (x0.length : Int)))) ?_
    refine RA.nil nofun ?_
    by_cases hc4 : x4 < (x0.length : Int)
    ·rw [if_pos hc4] at H
     refine AG.yes rfl (decide_eq_true hc4) ?_
     refine AG.skip ?_
     refine AG.seq ?_
     refine AG.block ?_
     refine AG.region HM ?_
     refine a_move (v := .c (.own _ _)) ?_
     refine a_move (v := vI _) ?_
     refine a_move (v := vR _ _) ?_
     refine a_move (v := vI _) ?_
     by_cases hc5 : 0 ≤ x4
     ·rw [if_pos hc5] at H
      refine a_ixR (el := c159 (rd159 x0 x4)) ?_ ⟨hc5, hc4⟩ T162 Tryz.underlying22 (hel := R159 hc5 hc4)
      refine a_ldR (v := .agg [_, _]) ?_ T162
      obtain ⟨⟨t6, t7⟩, e8, H⟩ := bindO H
      refine a_call (v := .agg [.d (.v (.int .i64 t6)), .d (.v (.int .i64 t7))]) (nk := []) (L := []) ?_ rfl (laws_toPoint.ok e8) id (qg qn) trivial trivial trivial rfl
      by_cases hc9 : x4 < (x3.length : Int)
      ·rw [if_pos hc9] at H
       refine a_ixO ?_ ⟨hc5, hc9⟩ T160 Tryz.underlying32
       refine a_stF (css' := (x3.set (x4 : Int).toNat (⟨t6, t7⟩ : S159)).map c159) ?_ (flat_map (fun _ => rfl)) (G159 hc5 hc9) T160 (hcss := by exact set_map rfl)
       refine RA.nil nofun ?_
       refine AG.region HM ?_
       refine a_move (v := vI _) ?_
       refine a_int (u := .int .i64 (wrap64 (x4 + 1))) ?_
       refine a_move (v := vI _) ?_
       refine RA.nil nofun ?_
       exact AGr.canon id (ih0 _ (by omega) _ ⟨by omega, _, _, _, H, rfl⟩) ⟨rfl, (ownE rfl (by simp)), rfl, trivial⟩ ⟨rfl, trivial⟩ rfl
      ·rw [if_neg hc9] at H
       cases H
     ·rw [if_neg hc5] at H
      cases H
    ·rw [if_neg hc4] at H
     refine AG.no rfl (decide_eq_false hc4) ?_
     refine AG.exit ?_
     refine AG.seq ?_
     refine AG.region HM ?_
     refine a_move (v := .c (.own _ _)) ?_
     refine a_move (v := .c (.own _ _)) ?_
     refine RA.nil nofun ?_
     refine AG.ret ?_
     obtain rfl := Option.some.inj H
     exact RetP.mk (fun κ => cond (Nat.beq κ 100) 202 (κ)) ⟨rfl, trivial⟩ ⟨rfl, trivial⟩ rfl
  ·rw [if_neg hc2] at H
   cases H
 ·rw [if_neg hc1] at H
  cases H
def laws_toInt64S.l0 : Nat → List Int → List Int → Int → Option ((List Int))
 | 0, _, _, _ => none
 | k + 1, x0, x3, x4 => if x4 < (x0.length : Int) then (if 0 ≤ x4 then (if x4 < (x3.length : Int) then (laws_toInt64S.l0 k x0 (x3.set (x4 : Int).toNat (rd2 x0 x4)) (wrap64 (x4 + 1))) else (none)) else (none)) else (some x3)
def laws_toInt64S.f (k : Nat) (l0 : List Int) : Option ((List Int)) := if 0 ≤ (l0.length : Int) then (if ((l0.length : Int) : Int).toNat ≤ 35184372088832 then (laws_toInt64S.l0 k l0 (List.replicate (((l0.length : Int) : Int).toNat) 0) 0) else (none)) else (none)
set_option maxRecDepth 100000 in
theorem laws_toInt64S.ok {k : Nat} {l0 : List Int} {r : List Int} (H : laws_toInt64S.f k l0 = some r) : OkF Tryz.prog 159 [vR 2 (l0.map c2)] [] (.c (.own 100 r.length)) [(100, .row 2 (r.map c2))] := by
 unfold laws_toInt64S.f at H
 refine OkF.of (N := 22) (rs := [2]) (avs := [.c (.own 100 r.length)]) Tryz.func159 rfl rfl (fun _ _ => results_tmp rfl _ _ _) (by decide) rfl rfl rfl rfl (fun w0 S => ?_)
 refine AG.seq ?_
 refine AG.region HM ?_
 refine a_nilO (e := 2) 200 ?_ T2
 refine RA.nil nofun ?_
 refine AG.seq ?_
 refine AG.region HM ?_
 refine a_move (v := vR _ _) ?_
 refine a_lenR ?_ Tryz.underlying29
 by_cases hc1 : 0 ≤ (l0.length : Int)
 ·rw [if_pos hc1] at H
  by_cases hc2 : ((l0.length : Int) : Int).toNat ≤ 35184372088832
  ·rw [if_pos hc2] at H
   refine a_make (n := (l0.length : Int)) (css := (List.replicate (((l0.length : Int) : Int).toNat) 0).map c2) 201 ?_ N29 T2 (zV zN) hc1 (by omega) (by omega) (hcss := by exact rep_map rfl)
   refine a_move (v := .c (.own _ _)) ?_
   refine RA.nil nofun ?_
   refine AG.seq ?_
   refine AG.seq ?_
   refine AG.region HM ?_
   refine a_move (v := vI _) ?_
   refine RA.nil nofun ?_
   refine AG.block ?_
   refine AG.loop ?_
   obtain ⟨K0, hK0, gK0⟩ : ∃ K, k ≤ K ∧ K ≤ k := ⟨k, Nat.le_refl k, Nat.le_refl k⟩
   refine AGr.canon (fun κ => cond (Nat.beq κ 202) 201 (κ)) (AGr.loopI (n := k) (fun k s => k ≤ K0 ∧ ∃ (x0 : List Int) (x3 : List Int) (x4 : Int), laws_toInt64S.l0 k x0 x3 x4 = some r ∧ s = St.of [(0, vR 2 (x0.map c2)), (3, .c (.own 202 x3.length)), (4, vI x4)] [(202, .row 2 (x3.map c2))]) ⟨hK0, _, _, _, H, rfl⟩ ?_ ?_) ⟨rfl, (ownE rfl (by simp)), rfl, trivial⟩ ⟨rfl, trivial⟩ rfl
   ·rintro _ ⟨_, _, _, _, H, _⟩
    cases H
   ·clear H hK0
    rintro k ih0 _ ⟨hK0, x0, x3, x4, H, rfl⟩
    unfold laws_toInt64S.l0 at H
    refine AG.seq ?_
    refine AG.seq ?_
    refine AG.region HM ?_
    refine a_move (v := vI _) ?_
    refine a_move (v := vR _ _) ?_
    refine a_lenR ?_ Tryz.underlying29
    refine a_int (u := .bool (decide (x4 < (x0.length : Int)))) ?_
    refine RA.nil nofun ?_
    by_cases hc4 : x4 < (x0.length : Int)
    ·rw [if_pos hc4] at H
     refine AG.yes rfl (decide_eq_true hc4) ?_
     refine AG.skip ?_
     refine AG.seq ?_
     refine AG.block ?_
     refine AG.region HM ?_
     refine a_move (v := .c (.own _ _)) ?_
     refine a_move (v := vI _) ?_
     refine a_move (v := vR _ _) ?_
     refine a_move (v := vI _) ?_
     by_cases hc5 : 0 ≤ x4
     ·rw [if_pos hc5] at H
      refine a_ixR (el := c2 (rd2 x0 x4)) ?_ ⟨hc5, hc4⟩ T2 Tryz.underlying29 (hel := R2 hc5 hc4)
      refine a_ldR (v := vI _) ?_ T2
      by_cases hc6 : x4 < (x3.length : Int)
      ·rw [if_pos hc6] at H
       refine a_ixO ?_ ⟨hc5, hc6⟩ T2 Tryz.underlying29
       refine a_stF (css' := (x3.set (x4 : Int).toNat (rd2 x0 x4)).map c2) ?_ (flat_map (fun _ => rfl)) (G2 hc5 hc6) T2 (hcss := by exact set_map rfl)
       refine RA.nil nofun ?_
       refine AG.region HM ?_
       refine a_move (v := vI _) ?_
       refine a_int (u := .int .i64 (wrap64 (x4 + 1))) ?_
       refine a_move (v := vI _) ?_
       refine RA.nil nofun ?_
       exact AGr.canon id (ih0 _ (by omega) _ ⟨by omega, _, _, _, H, rfl⟩) ⟨rfl, (ownE rfl (by simp)), rfl, trivial⟩ ⟨rfl, trivial⟩ rfl
      ·rw [if_neg hc6] at H
       cases H
     ·rw [if_neg hc5] at H
      cases H
    ·rw [if_neg hc4] at H
     refine AG.no rfl (decide_eq_false hc4) ?_
     refine AG.exit ?_
     refine AG.seq ?_
     refine AG.region HM ?_
     refine a_move (v := .c (.own _ _)) ?_
     refine a_move (v := .c (.own _ _)) ?_
     refine RA.nil nofun ?_
     refine AG.ret ?_
     obtain rfl := Option.some.inj H
     exact RetP.mk (fun κ => cond (Nat.beq κ 100) 202 (κ)) ⟨rfl, trivial⟩ ⟨rfl, trivial⟩ rfl
  ·rw [if_neg hc2] at H
   cases H
 ·rw [if_neg hc1] at H
  cases H
def laws_toFace.f (k : Nat) (a0_0 : ByteArray) (l0_1 : List Int) : Option (ByteArray × (List Int)) := (laws_toInt64S.f k l0_1).bind fun t1 => (some (a0_0, t1))
set_option maxRecDepth 100000 in
theorem laws_toFace.ok {k : Nat} {a0_0 : ByteArray} {l0_1 : List Int} {r0 : ByteArray} {r1 : List Int} (H : laws_toFace.f k a0_0 l0_1 = some (r0, r1)) : OkF Tryz.prog 107 [.agg [.d (.v (.string a0_0)), .d (.row 2 (l0_1.map c2))]] [] (.agg [.d (.v (.string r0)), .own 100 r1.length]) [(100, .row 2 (r1.map c2))] := by
 unfold laws_toFace.f at H
 refine OkF.ofB (N := 12) (t := 2) (ty := 152) (av := .agg [.d (.v (.string r0)), .own 100 r1.length]) Tryz.func107 rfl rfl rfl rfl (by decide) rfl rfl (fun w0 S => ?_)
 refine AG.seq ?_
 refine AG.region HM ?_
 refine a_box 200 ?_
 refine a_alloc (cs := [_, _]) 201 ?_ T152
 refine RA.nil nofun ?_
 refine AG.seq ?_
 refine AG.region HM ?_
 refine a_alloc (cs := [_, _]) 202 ?_ T152
 refine RA.nil nofun ?_
 refine AG.seq ?_
 refine AG.region HM ?_
 refine a_faB (q := 0) ?_ D147_0
 refine a_ldB (v := vS _) ?_ T9
 refine a_faB (q := 0) ?_ D152_0
 refine a_stB (cs' := [_, _]) ?_ T9
 refine RA.nil nofun ?_
 refine AG.seq ?_
 refine AG.region HM ?_
 refine a_faB (q := 1) ?_ D147_1
 refine a_ldB (v := vR _ _) ?_ T29
 obtain ⟨t1, e2, H⟩ := bindO H
 refine a_call (v := .c (.own 203 t1.length)) (nk := [(203, .row 2 (t1.map c2))]) (L := []) ?_ rfl (laws_toInt64S.ok e2) (fun κ => cond (Nat.beq κ 203) 100 (κ)) (qd qn) trivial ⟨rfl, trivial⟩ ⟨rfl, trivial⟩ rfl
 refine a_faB (q := 1) ?_ D152_1
 refine a_stB (cs' := [_, _]) ?_ T29
 refine RA.nil nofun ?_
 refine AG.seq ?_
 refine AG.region HM ?_
 refine a_ldB (v := .agg [_, _]) ?_ T152
 refine a_stB (cs' := [_, _]) ?_ T152
 refine RA.nil nofun ?_
 refine AG.ret ?_
 simp only [Option.some.injEq, Prod.mk.injEq] at H
 obtain ⟨rfl, rfl⟩ := H
 exact RetB.mk T152 rfl rfl rfl (RetP.mk (fun κ => cond (Nat.beq κ 100) 203 (κ)) ⟨rfl, trivial⟩ ⟨rfl, trivial⟩ rfl)
def laws_toFaceS.l0 : Nat → List S146 → List S146 → Int → Option ((List S146))
 | 0, _, _, _ => none
 | k + 1, x0, x3, x4 => if x4 < (x0.length : Int) then (if 0 ≤ x4 then ((laws_toFace.f k ((rd146 x0 x4).f0) ((rd146 x0 x4).f1)).bind fun bt6 => (if x4 < (x3.length : Int) then (laws_toFaceS.l0 k x0 (x3.set (x4 : Int).toNat (⟨bt6.1, bt6.2⟩ : S146)) (wrap64 (x4 + 1))) else (none))) else (none)) else (some x3)
def laws_toFaceS.f (k : Nat) (l0 : List S146) : Option ((List S146)) := if 0 ≤ (l0.length : Int) then (if ((l0.length : Int) : Int).toNat ≤ 7036874417766 then (laws_toFaceS.l0 k l0 (List.replicate (((l0.length : Int) : Int).toNat) z146) 0) else (none)) else (none)
set_option maxRecDepth 100000 in
theorem laws_toFaceS.ok {k : Nat} {l0 : List S146} {r : List S146} (H : laws_toFaceS.f k l0 = some r) : OkF Tryz.prog 51 [vR 147 (l0.map c146)] [] (.c (.own 100 r.length)) [(100, .row 152 (r.map c146))] := by
 unfold laws_toFaceS.f at H
 refine OkF.of (N := 23) (rs := [2]) (avs := [.c (.own 100 r.length)]) Tryz.func51 rfl rfl (fun _ _ => results_tmp rfl _ _ _) (by decide) rfl rfl rfl rfl (fun w0 S => ?_)
 refine AG.seq ?_
 refine AG.region HM ?_
 refine a_nilO (e := 152) 200 ?_ T152
 refine RA.nil nofun ?_
 refine AG.seq ?_
 refine AG.region HM ?_
 refine a_move (v := vR _ _) ?_
 refine a_lenR ?_ Tryz.underlying23
 by_cases hc1 : 0 ≤ (l0.length : Int)
 ·rw [if_pos hc1] at H
  by_cases hc2 : ((l0.length : Int) : Int).toNat ≤ 7036874417766
  ·rw [if_pos hc2] at H
   refine a_make (n := (l0.length : Int)) (css := (List.replicate (((l0.length : Int) : Int).toNat) z146).map c146) 201 ?_ N33 T152 (zV (zR T2 zN)) hc1 (by omega) (by omega) (hcss := by exact rep_map rfl)
   refine a_move (v := .c (.own _ _)) ?_
   refine RA.nil nofun ?_
   refine AG.seq ?_
   refine AG.seq ?_
   refine AG.region HM ?_
   refine a_move (v := vI _) ?_
   refine RA.nil nofun ?_
   refine AG.block ?_
   refine AG.loop ?_
   obtain ⟨K0, hK0, gK0⟩ : ∃ K, k ≤ K ∧ K ≤ k := ⟨k, Nat.le_refl k, Nat.le_refl k⟩
   refine AGr.canon (fun κ => cond (Nat.beq κ 202) 201 (κ)) (AGr.loopI (n := k) (fun k s => k ≤ K0 ∧ ∃ (x0 : List S146) (x3 : List S146) (x4 : Int), laws_toFaceS.l0 k x0 x3 x4 = some r ∧ s = St.of [(0, vR 147 (x0.map c146)), (3, .c (.own 202 x3.length)), (4, vI x4)] [(202, .row 152 (x3.map c146))]) ⟨hK0, _, _, _, H, rfl⟩ ?_ ?_) ⟨rfl, (ownE rfl (by simp)), rfl, trivial⟩ ⟨rfl, trivial⟩ rfl
   ·rintro _ ⟨_, _, _, _, H, _⟩
    cases H
   ·clear H hK0
    rintro k ih0 _ ⟨hK0, x0, x3, x4, H, rfl⟩
    unfold laws_toFaceS.l0 at H
    refine AG.seq ?_
    refine AG.seq ?_
    refine AG.region HM ?_
    refine a_move (v := vI _) ?_
    refine a_move (v := vR _ _) ?_
    refine a_lenR ?_ Tryz.underlying23
    refine a_int (u := .bool (decide (x4 < (x0.length : Int)))) ?_
    refine RA.nil nofun ?_
    by_cases hc4 : x4 < (x0.length : Int)
    ·rw [if_pos hc4] at H
     refine AG.yes rfl (decide_eq_true hc4) ?_
     refine AG.skip ?_
     refine AG.seq ?_
     refine AG.block ?_
     refine AG.region HM ?_
     refine a_move (v := .c (.own _ _)) ?_
     refine a_move (v := vI _) ?_
     refine a_move (v := vR _ _) ?_
     refine a_move (v := vI _) ?_
     by_cases hc5 : 0 ≤ x4
     ·rw [if_pos hc5] at H
      refine a_ixR (el := c146 (rd146 x0 x4)) ?_ ⟨hc5, hc4⟩ T147 Tryz.underlying23 (hel := R146 hc5 hc4)
      refine a_ldR (v := .agg [_, _]) ?_ T147
      obtain ⟨⟨t6, t7⟩, e8, H⟩ := bindO H
      refine a_call (v := .agg [.d (.v (.string t6)), .own 203 t7.length]) (nk := [(203, .row 2 (t7.map c2))]) (L := []) ?_ rfl (laws_toFace.ok e8) (fun κ => cond (Nat.beq κ 203) 100 (κ)) (qg qn) trivial ⟨rfl, trivial⟩ ⟨rfl, trivial⟩ rfl
      by_cases hc9 : x4 < (x3.length : Int)
      ·rw [if_pos hc9] at H
       refine a_ixO ?_ ⟨hc5, hc9⟩ T152 Tryz.underlying33
       refine a_stE (D := [203]) (css' := (x3.set (x4 : Int).toNat (⟨t6, t7⟩ : S146)).map c146) ?_ (G146 hc5 hc9) T152 (hcss := by exact set_map rfl)
       refine RA.nil nofun ?_
       refine AG.region HM ?_
       refine a_move (v := vI _) ?_
       refine a_int (u := .int .i64 (wrap64 (x4 + 1))) ?_
       refine a_move (v := vI _) ?_
       refine RA.nil nofun ?_
       exact AGr.canon id (ih0 _ (by omega) _ ⟨by omega, _, _, _, H, rfl⟩) ⟨rfl, (ownE rfl (by simp)), rfl, trivial⟩ ⟨rfl, trivial⟩ rfl
      ·rw [if_neg hc9] at H
       cases H
     ·rw [if_neg hc5] at H
      cases H
    ·rw [if_neg hc4] at H
     refine AG.no rfl (decide_eq_false hc4) ?_
     refine AG.exit ?_
     refine AG.seq ?_
     refine AG.region HM ?_
     refine a_move (v := .c (.own _ _)) ?_
     refine a_move (v := .c (.own _ _)) ?_
     refine RA.nil nofun ?_
     refine AG.ret ?_
     obtain rfl := Option.some.inj H
     exact RetP.mk (fun κ => cond (Nat.beq κ 100) 202 (κ)) ⟨rfl, trivial⟩ ⟨rfl, trivial⟩ rfl
  ·rw [if_neg hc2] at H
   cases H
 ·rw [if_neg hc1] at H
  cases H
def laws_toDrawing.f (k : Nat) (a0_0 : Int) (a0_1 : Int) (l0_2 : List S159) (l0_3 : List S146) : Option (Int × Int × (List S159) × (List S146)) := (laws_toPointS.f k l0_2).bind fun t1 => ((laws_toFaceS.f k l0_3).bind fun t3 => (some (a0_0, a0_1, t1, t3)))
set_option maxRecDepth 100000 in
theorem laws_toDrawing.ok {k : Nat} {a0_0 : Int} {a0_1 : Int} {l0_2 : List S159} {l0_3 : List S146} {r0 : Int} {r1 : Int} {r2 : List S159} {r3 : List S146} (H : laws_toDrawing.f k a0_0 a0_1 l0_2 l0_3 = some (r0, r1, r2, r3)) : OkF Tryz.prog 12 [.agg [.d (.v (.int .i64 a0_0)), .d (.v (.int .i64 a0_1)), .d (.row 162 (l0_2.map c159)), .d (.row 147 (l0_3.map c146))]] [] (.agg [.d (.v (.int .i64 r0)), .d (.v (.int .i64 r1)), .own 100 r2.length, .own 101 r3.length]) [(100, .row 160 (r2.map c159)), (101, .row 152 (r3.map c146))] := by
 unfold laws_toDrawing.f at H
 refine OkF.ofB (N := 19) (t := 2) (ty := 35) (av := .agg [.d (.v (.int .i64 r0)), .d (.v (.int .i64 r1)), .own 100 r2.length, .own 101 r3.length]) Tryz.func12 rfl rfl rfl rfl (by decide) rfl rfl (fun w0 S => ?_)
 refine AG.seq ?_
 refine AG.region HM ?_
 refine a_box 200 ?_
 refine a_alloc (cs := [_, _, _, _]) 201 ?_ T35
 refine RA.nil nofun ?_
 refine AG.seq ?_
 refine AG.region HM ?_
 refine a_alloc (cs := [_, _, _, _]) 202 ?_ T35
 refine RA.nil nofun ?_
 refine AG.seq ?_
 refine AG.region HM ?_
 refine a_faB (q := 0) ?_ D25_0
 refine a_ldB (v := vI _) ?_ T2
 refine a_faB (q := 0) ?_ D35_0
 refine a_stB (cs' := [_, _, _, _]) ?_ T2
 refine RA.nil nofun ?_
 refine AG.seq ?_
 refine AG.region HM ?_
 refine a_faB (q := 1) ?_ D25_1
 refine a_ldB (v := vI _) ?_ T2
 refine a_faB (q := 1) ?_ D35_1
 refine a_stB (cs' := [_, _, _, _]) ?_ T2
 refine RA.nil nofun ?_
 refine AG.seq ?_
 refine AG.region HM ?_
 refine a_faB (q := 2) ?_ D25_2
 refine a_ldB (v := vR _ _) ?_ T22
 obtain ⟨t1, e2, H⟩ := bindO H
 refine a_call (v := .c (.own 203 t1.length)) (nk := [(203, .row 160 (t1.map c159))]) (L := []) ?_ rfl (laws_toPointS.ok e2) (fun κ => cond (Nat.beq κ 203) 100 (κ)) (qd qn) trivial ⟨rfl, trivial⟩ ⟨rfl, trivial⟩ rfl
 refine a_faB (q := 2) ?_ D35_2
 refine a_stB (cs' := [_, _, _, _]) ?_ T32
 refine RA.nil nofun ?_
 refine AG.seq ?_
 refine AG.region HM ?_
 refine a_faB (q := 3) ?_ D25_3
 refine a_ldB (v := vR _ _) ?_ T23
 obtain ⟨t3, e4, H⟩ := bindO H
 refine a_call (v := .c (.own 204 t3.length)) (nk := [(204, .row 152 (t3.map c146))]) (L := []) ?_ rfl (laws_toFaceS.ok e4) (fun κ => cond (Nat.beq κ 204) 100 (κ)) (qd qn) trivial ⟨rfl, trivial⟩ ⟨rfl, trivial⟩ rfl
 refine a_faB (q := 3) ?_ D35_3
 refine a_stB (cs' := [_, _, _, _]) ?_ T33
 refine RA.nil nofun ?_
 refine AG.seq ?_
 refine AG.region HM ?_
 refine a_ldB (v := .agg [_, _, _, _]) ?_ T35
 refine a_stB (cs' := [_, _, _, _]) ?_ T35
 refine RA.nil nofun ?_
 refine AG.ret ?_
 simp only [Option.some.injEq, Prod.mk.injEq] at H
 obtain ⟨rfl, rfl, rfl, rfl⟩ := H
 exact RetB.mk T35 rfl rfl rfl (RetP.mk (fun κ => cond (Nat.beq κ 100) 203 (cond (Nat.beq κ 101) 204 (κ))) ⟨rfl, trivial⟩ ⟨rfl, rfl, trivial⟩ rfl)
def laws_toVeneer.f (a0_0 : ByteArray) (a0_1 : Int) (a0_2 : Int) : Option (ByteArray × Int × Int) := some (a0_0, a0_1, a0_2)
set_option maxRecDepth 100000 in
theorem laws_toVeneer.ok {a0_0 : ByteArray} {a0_1 : Int} {a0_2 : Int} {r0 : ByteArray} {r1 : Int} {r2 : Int} (H : laws_toVeneer.f a0_0 a0_1 a0_2 = some (r0, r1, r2)) : OkF Tryz.prog 108 [.agg [.d (.v (.string a0_0)), .d (.v (.int .i64 a0_1)), .d (.v (.int .i64 a0_2))]] [] (.agg [.d (.v (.string r0)), .d (.v (.int .i64 r1)), .d (.v (.int .i64 r2))]) [] := by
 unfold laws_toVeneer.f at H
 refine OkF.ofB (N := 14) (t := 2) (ty := 92) (av := .agg [.d (.v (.string r0)), .d (.v (.int .i64 r1)), .d (.v (.int .i64 r2))]) Tryz.func108 rfl rfl rfl rfl (by decide) rfl rfl (fun w0 S => ?_)
 refine AG.seq ?_
 refine AG.region HM ?_
 refine a_box 200 ?_
 refine a_alloc (cs := [_, _, _]) 201 ?_ T92
 refine RA.nil nofun ?_
 refine AG.seq ?_
 refine AG.region HM ?_
 refine a_alloc (cs := [_, _, _]) 202 ?_ T92
 refine RA.nil nofun ?_
 refine AG.seq ?_
 refine AG.region HM ?_
 refine a_faB (q := 0) ?_ D82_0
 refine a_ldB (v := vS _) ?_ T9
 refine a_faB (q := 0) ?_ D92_0
 refine a_stB (cs' := [_, _, _]) ?_ T9
 refine RA.nil nofun ?_
 refine AG.seq ?_
 refine AG.region HM ?_
 refine a_faB (q := 1) ?_ D82_1
 refine a_ldB (v := vI _) ?_ T2
 refine a_faB (q := 1) ?_ D92_1
 refine a_stB (cs' := [_, _, _]) ?_ T2
 refine RA.nil nofun ?_
 refine AG.seq ?_
 refine AG.region HM ?_
 refine a_faB (q := 2) ?_ D82_2
 refine a_ldB (v := vI _) ?_ T2
 refine a_faB (q := 2) ?_ D92_2
 refine a_stB (cs' := [_, _, _]) ?_ T2
 refine RA.nil nofun ?_
 refine AG.seq ?_
 refine AG.region HM ?_
 refine a_ldB (v := .agg [_, _, _]) ?_ T92
 refine a_stB (cs' := [_, _, _]) ?_ T92
 refine RA.nil nofun ?_
 refine AG.ret ?_
 simp only [Option.some.injEq, Prod.mk.injEq] at H
 obtain ⟨rfl, rfl, rfl⟩ := H
 exact RetB.mk T92 rfl rfl rfl (RetP.mk id ⟨rfl, trivial⟩ trivial rfl)
def laws_toBox.f (a0_0 : Int) (a0_1 : Int) (a0_2 : Int) (a0_3 : Int) : Option (Int × Int × Int × Int) := some (a0_0, a0_1, a0_2, a0_3)
set_option maxRecDepth 100000 in
theorem laws_toBox.ok {a0_0 : Int} {a0_1 : Int} {a0_2 : Int} {a0_3 : Int} {r0 : Int} {r1 : Int} {r2 : Int} {r3 : Int} (H : laws_toBox.f a0_0 a0_1 a0_2 a0_3 = some (r0, r1, r2, r3)) : OkF Tryz.prog 160 [.agg [.d (.v (.int .i64 a0_0)), .d (.v (.int .i64 a0_1)), .d (.v (.int .i64 a0_2)), .d (.v (.int .i64 a0_3))]] [] (.agg [.d (.v (.int .i64 r0)), .d (.v (.int .i64 r1)), .d (.v (.int .i64 r2)), .d (.v (.int .i64 r3))]) [] := by
 unfold laws_toBox.f at H
 refine OkF.ofB (N := 17) (t := 2) (ty := 177) (av := .agg [.d (.v (.int .i64 r0)), .d (.v (.int .i64 r1)), .d (.v (.int .i64 r2)), .d (.v (.int .i64 r3))]) Tryz.func160 rfl rfl rfl rfl (by decide) rfl rfl (fun w0 S => ?_)
 refine AG.seq ?_
 refine AG.region HM ?_
 refine a_box 200 ?_
 refine a_alloc (cs := [_, _, _, _]) 201 ?_ T177
 refine RA.nil nofun ?_
 refine AG.seq ?_
 refine AG.region HM ?_
 refine a_alloc (cs := [_, _, _, _]) 202 ?_ T177
 refine RA.nil nofun ?_
 refine AG.seq ?_
 refine AG.region HM ?_
 refine a_faB (q := 0) ?_ D210_0
 refine a_ldB (v := vI _) ?_ T2
 refine a_faB (q := 0) ?_ D177_0
 refine a_stB (cs' := [_, _, _, _]) ?_ T2
 refine RA.nil nofun ?_
 refine AG.seq ?_
 refine AG.region HM ?_
 refine a_faB (q := 1) ?_ D210_1
 refine a_ldB (v := vI _) ?_ T2
 refine a_faB (q := 1) ?_ D177_1
 refine a_stB (cs' := [_, _, _, _]) ?_ T2
 refine RA.nil nofun ?_
 refine AG.seq ?_
 refine AG.region HM ?_
 refine a_faB (q := 2) ?_ D210_2
 refine a_ldB (v := vI _) ?_ T2
 refine a_faB (q := 2) ?_ D177_2
 refine a_stB (cs' := [_, _, _, _]) ?_ T2
 refine RA.nil nofun ?_
 refine AG.seq ?_
 refine AG.region HM ?_
 refine a_faB (q := 3) ?_ D210_3
 refine a_ldB (v := vI _) ?_ T2
 refine a_faB (q := 3) ?_ D177_3
 refine a_stB (cs' := [_, _, _, _]) ?_ T2
 refine RA.nil nofun ?_
 refine AG.seq ?_
 refine AG.region HM ?_
 refine a_ldB (v := .agg [_, _, _, _]) ?_ T177
 refine a_stB (cs' := [_, _, _, _]) ?_ T177
 refine RA.nil nofun ?_
 refine AG.ret ?_
 simp only [Option.some.injEq, Prod.mk.injEq] at H
 obtain ⟨rfl, rfl, rfl, rfl⟩ := H
 exact RetB.mk T177 rfl rfl rfl (RetP.mk id ⟨rfl, trivial⟩ trivial rfl)
def laws_toBoxS.l0 : Nat → List S176 → List S176 → Int → Option ((List S176))
 | 0, _, _, _ => none
 | k + 1, x0, x3, x4 => if x4 < (x0.length : Int) then (if 0 ≤ x4 then ((laws_toBox.f ((rd176 x0 x4).f0) ((rd176 x0 x4).f1) ((rd176 x0 x4).f2) ((rd176 x0 x4).f3)).bind fun bt6 => (if x4 < (x3.length : Int) then (laws_toBoxS.l0 k x0 (x3.set (x4 : Int).toNat (⟨bt6.1, bt6.2.1, bt6.2.2.1, bt6.2.2.2⟩ : S176)) (wrap64 (x4 + 1))) else (none))) else (none)) else (some x3)
def laws_toBoxS.f (k : Nat) (l0 : List S176) : Option ((List S176)) := if 0 ≤ (l0.length : Int) then (if ((l0.length : Int) : Int).toNat ≤ 8796093022208 then (laws_toBoxS.l0 k l0 (List.replicate (((l0.length : Int) : Int).toNat) z176) 0) else (none)) else (none)
set_option maxRecDepth 100000 in
theorem laws_toBoxS.ok {k : Nat} {l0 : List S176} {r : List S176} (H : laws_toBoxS.f k l0 = some r) : OkF Tryz.prog 109 [vR 210 (l0.map c176)] [] (.c (.own 100 r.length)) [(100, .row 177 (r.map c176))] := by
 unfold laws_toBoxS.f at H
 refine OkF.of (N := 23) (rs := [2]) (avs := [.c (.own 100 r.length)]) Tryz.func109 rfl rfl (fun _ _ => results_tmp rfl _ _ _) (by decide) rfl rfl rfl rfl (fun w0 S => ?_)
 refine AG.seq ?_
 refine AG.region HM ?_
 refine a_nilO (e := 177) 200 ?_ T177
 refine RA.nil nofun ?_
 refine AG.seq ?_
 refine AG.region HM ?_
 refine a_move (v := vR _ _) ?_
 refine a_lenR ?_ Tryz.underlying83
 by_cases hc1 : 0 ≤ (l0.length : Int)
 ·rw [if_pos hc1] at H
  by_cases hc2 : ((l0.length : Int) : Int).toNat ≤ 8796093022208
  ·rw [if_pos hc2] at H
   refine a_make (n := (l0.length : Int)) (css := (List.replicate (((l0.length : Int) : Int).toNat) z176).map c176) 201 ?_ N93 T177 (zV (zV (zV (zV zN)))) hc1 (by omega) (by omega) (hcss := by exact rep_map rfl)
   refine a_move (v := .c (.own _ _)) ?_
   refine RA.nil nofun ?_
   refine AG.seq ?_
   refine AG.seq ?_
   refine AG.region HM ?_
   refine a_move (v := vI _) ?_
   refine RA.nil nofun ?_
   refine AG.block ?_
   refine AG.loop ?_
   obtain ⟨K0, hK0, gK0⟩ : ∃ K, k ≤ K ∧ K ≤ k := ⟨k, Nat.le_refl k, Nat.le_refl k⟩
   refine AGr.canon (fun κ => cond (Nat.beq κ 202) 201 (κ)) (AGr.loopI (n := k) (fun k s => k ≤ K0 ∧ ∃ (x0 : List S176) (x3 : List S176) (x4 : Int), laws_toBoxS.l0 k x0 x3 x4 = some r ∧ s = St.of [(0, vR 210 (x0.map c176)), (3, .c (.own 202 x3.length)), (4, vI x4)] [(202, .row 177 (x3.map c176))]) ⟨hK0, _, _, _, H, rfl⟩ ?_ ?_) ⟨rfl, (ownE rfl (by simp)), rfl, trivial⟩ ⟨rfl, trivial⟩ rfl
   ·rintro _ ⟨_, _, _, _, H, _⟩
    cases H
   ·clear H hK0
    rintro k ih0 _ ⟨hK0, x0, x3, x4, H, rfl⟩
    unfold laws_toBoxS.l0 at H
    refine AG.seq ?_
    refine AG.seq ?_
    refine AG.region HM ?_
    refine a_move (v := vI _) ?_
    refine a_move (v := vR _ _) ?_
    refine a_lenR ?_ Tryz.underlying83
    refine a_int (u := .bool (decide (x4 < (x0.length : Int)))) ?_
    refine RA.nil nofun ?_
    by_cases hc4 : x4 < (x0.length : Int)
    ·rw [if_pos hc4] at H
     refine AG.yes rfl (decide_eq_true hc4) ?_
     refine AG.skip ?_
     refine AG.seq ?_
     refine AG.block ?_
     refine AG.region HM ?_
     refine a_move (v := .c (.own _ _)) ?_
     refine a_move (v := vI _) ?_
     refine a_move (v := vR _ _) ?_
     refine a_move (v := vI _) ?_
     by_cases hc5 : 0 ≤ x4
     ·rw [if_pos hc5] at H
      refine a_ixR (el := c176 (rd176 x0 x4)) ?_ ⟨hc5, hc4⟩ T210 Tryz.underlying83 (hel := R176 hc5 hc4)
      refine a_ldR (v := .agg [_, _, _, _]) ?_ T210
      obtain ⟨⟨t6, t7, t8, t9⟩, e10, H⟩ := bindO H
      refine a_call (v := .agg [.d (.v (.int .i64 t6)), .d (.v (.int .i64 t7)), .d (.v (.int .i64 t8)), .d (.v (.int .i64 t9))]) (nk := []) (L := []) ?_ rfl (laws_toBox.ok e10) id (qg qn) trivial trivial trivial rfl
      by_cases hc11 : x4 < (x3.length : Int)
      ·rw [if_pos hc11] at H
       refine a_ixO ?_ ⟨hc5, hc11⟩ T177 Tryz.underlying93
       refine a_stF (css' := (x3.set (x4 : Int).toNat (⟨t6, t7, t8, t9⟩ : S176)).map c176) ?_ (flat_map (fun _ => rfl)) (G176 hc5 hc11) T177 (hcss := by exact set_map rfl)
       refine RA.nil nofun ?_
       refine AG.region HM ?_
       refine a_move (v := vI _) ?_
       refine a_int (u := .int .i64 (wrap64 (x4 + 1))) ?_
       refine a_move (v := vI _) ?_
       refine RA.nil nofun ?_
       exact AGr.canon id (ih0 _ (by omega) _ ⟨by omega, _, _, _, H, rfl⟩) ⟨rfl, (ownE rfl (by simp)), rfl, trivial⟩ ⟨rfl, trivial⟩ rfl
      ·rw [if_neg hc11] at H
       cases H
     ·rw [if_neg hc5] at H
      cases H
    ·rw [if_neg hc4] at H
     refine AG.no rfl (decide_eq_false hc4) ?_
     refine AG.exit ?_
     refine AG.seq ?_
     refine AG.region HM ?_
     refine a_move (v := .c (.own _ _)) ?_
     refine a_move (v := .c (.own _ _)) ?_
     refine RA.nil nofun ?_
     refine AG.ret ?_
     obtain rfl := Option.some.inj H
     exact RetP.mk (fun κ => cond (Nat.beq κ 100) 202 (κ)) ⟨rfl, trivial⟩ ⟨rfl, trivial⟩ rfl
  ·rw [if_neg hc2] at H
   cases H
 ·rw [if_neg hc1] at H
  cases H
def laws_toLeaf.f (k : Nat) (a0_0 : ByteArray) (a0_1 : ByteArray) (a0_2 : Int) (a0_3 : ByteArray) (a0_4 : Int) (a0_5 : Int) (a0_6 : Int) (a0_7 : Int) (l0_8 : List S176) : Option (ByteArray × ByteArray × Int × ByteArray × Int × Int × Int × Int × (List S176)) := (laws_toVeneer.f a0_3 a0_4 a0_5).bind fun bt1 => ((laws_toBoxS.f k l0_8).bind fun t5 => (some (a0_0, a0_1, a0_2, bt1.1, bt1.2.1, bt1.2.2, a0_6, a0_7, t5)))
set_option maxRecDepth 100000 in
theorem laws_toLeaf.ok {k : Nat} {a0_0 : ByteArray} {a0_1 : ByteArray} {a0_2 : Int} {a0_3 : ByteArray} {a0_4 : Int} {a0_5 : Int} {a0_6 : Int} {a0_7 : Int} {l0_8 : List S176} {r0 : ByteArray} {r1 : ByteArray} {r2 : Int} {r3 : ByteArray} {r4 : Int} {r5 : Int} {r6 : Int} {r7 : Int} {r8 : List S176} (H : laws_toLeaf.f k a0_0 a0_1 a0_2 a0_3 a0_4 a0_5 a0_6 a0_7 l0_8 = some (r0, r1, r2, r3, r4, r5, r6, r7, r8)) : OkF Tryz.prog 52 [.agg [.d (.v (.string a0_0)), .d (.v (.string a0_1)), .d (.v (.int .i64 a0_2)), .d (.v (.string a0_3)), .d (.v (.int .i64 a0_4)), .d (.v (.int .i64 a0_5)), .d (.v (.int .i64 a0_6)), .d (.v (.int .i64 a0_7)), .d (.row 210 (l0_8.map c176))]] [] (.agg [.d (.v (.string r0)), .d (.v (.string r1)), .d (.v (.int .i64 r2)), .d (.v (.string r3)), .d (.v (.int .i64 r4)), .d (.v (.int .i64 r5)), .d (.v (.int .i64 r6)), .d (.v (.int .i64 r7)), .own 100 r8.length]) [(100, .row 177 (r8.map c176))] := by
 unfold laws_toLeaf.f at H
 refine OkF.ofB (N := 28) (t := 2) (ty := 95) (av := .agg [.d (.v (.string r0)), .d (.v (.string r1)), .d (.v (.int .i64 r2)), .d (.v (.string r3)), .d (.v (.int .i64 r4)), .d (.v (.int .i64 r5)), .d (.v (.int .i64 r6)), .d (.v (.int .i64 r7)), .own 100 r8.length]) Tryz.func52 rfl rfl rfl rfl (by decide) rfl rfl (fun w0 S => ?_)
 refine AG.seq ?_
 refine AG.region HM ?_
 refine a_box 200 ?_
 refine a_alloc (cs := [_, _, _, _, _, _, _, _, _]) 201 ?_ T95
 refine RA.nil nofun ?_
 refine AG.seq ?_
 refine AG.region HM ?_
 refine a_alloc (cs := [_, _, _, _, _, _, _, _, _]) 202 ?_ T95
 refine RA.nil nofun ?_
 refine AG.seq ?_
 refine AG.region HM ?_
 refine a_faB (q := 0) ?_ D85_0
 refine a_ldB (v := vS _) ?_ T9
 refine a_faB (q := 0) ?_ D95_0
 refine a_stB (cs' := [_, _, _, _, _, _, _, _, _]) ?_ T9
 refine RA.nil nofun ?_
 refine AG.seq ?_
 refine AG.region HM ?_
 refine a_faB (q := 1) ?_ D85_1
 refine a_ldB (v := vS _) ?_ T9
 refine a_faB (q := 1) ?_ D95_1
 refine a_stB (cs' := [_, _, _, _, _, _, _, _, _]) ?_ T9
 refine RA.nil nofun ?_
 refine AG.seq ?_
 refine AG.region HM ?_
 refine a_faB (q := 2) ?_ D85_2
 refine a_ldB (v := vI _) ?_ T2
 refine a_faB (q := 2) ?_ D95_2
 refine a_stB (cs' := [_, _, _, _, _, _, _, _, _]) ?_ T2
 refine RA.nil nofun ?_
 refine AG.seq ?_
 refine AG.region HM ?_
 refine a_faB (q := 3) ?_ D85_3
 refine a_ldB (v := .agg [_, _, _]) ?_ T82
 obtain ⟨⟨t1, t2, t3⟩, e4, H⟩ := bindO H
 refine a_call (v := .agg [.d (.v (.string t1)), .d (.v (.int .i64 t2)), .d (.v (.int .i64 t3))]) (nk := []) (L := []) ?_ rfl (laws_toVeneer.ok e4) id (qg qn) trivial trivial trivial rfl
 refine a_faB (q := 3) ?_ D95_3
 refine a_stB (cs' := [_, _, _, _, _, _, _, _, _]) ?_ T92
 refine RA.nil nofun ?_
 refine AG.seq ?_
 refine AG.region HM ?_
 refine a_faB (q := 6) ?_ D85_4
 refine a_ldB (v := vI _) ?_ T2
 refine a_faB (q := 6) ?_ D95_4
 refine a_stB (cs' := [_, _, _, _, _, _, _, _, _]) ?_ T2
 refine RA.nil nofun ?_
 refine AG.seq ?_
 refine AG.region HM ?_
 refine a_faB (q := 7) ?_ D85_5
 refine a_ldB (v := vI _) ?_ T2
 refine a_faB (q := 7) ?_ D95_5
 refine a_stB (cs' := [_, _, _, _, _, _, _, _, _]) ?_ T2
 refine RA.nil nofun ?_
 refine AG.seq ?_
 refine AG.region HM ?_
 refine a_faB (q := 8) ?_ D85_6
 refine a_ldB (v := vR _ _) ?_ T83
 obtain ⟨t5, e6, H⟩ := bindO H
 refine a_call (v := .c (.own 204 t5.length)) (nk := [(204, .row 177 (t5.map c176))]) (L := []) ?_ rfl (laws_toBoxS.ok e6) (fun κ => cond (Nat.beq κ 204) 100 (κ)) (qd qn) trivial ⟨rfl, trivial⟩ ⟨rfl, trivial⟩ rfl
 refine a_faB (q := 8) ?_ D95_6
 refine a_stB (cs' := [_, _, _, _, _, _, _, _, _]) ?_ T93
 refine RA.nil nofun ?_
 refine AG.seq ?_
 refine AG.region HM ?_
 refine a_ldB (v := .agg [_, _, _, _, _, _, _, _, _]) ?_ T95
 refine a_stB (cs' := [_, _, _, _, _, _, _, _, _]) ?_ T95
 refine RA.nil nofun ?_
 refine AG.ret ?_
 simp only [Option.some.injEq, Prod.mk.injEq] at H
 obtain ⟨rfl, rfl, rfl, rfl, rfl, rfl, rfl, rfl, rfl⟩ := H
 exact RetB.mk T95 rfl rfl rfl (RetP.mk (fun κ => cond (Nat.beq κ 100) 204 (κ)) ⟨rfl, trivial⟩ ⟨rfl, trivial⟩ rfl)
def laws_toLeafS.l0 : Nat → List S84 → List S94 → Int → Option ((List S94))
 | 0, _, _, _ => none
 | k + 1, x0, x3, x4 => if x4 < (x0.length : Int) then (if 0 ≤ x4 then ((laws_toLeaf.f k ((rd84 x0 x4).f0) ((rd84 x0 x4).f1) ((rd84 x0 x4).f2) ((rd84 x0 x4).f3.f0) ((rd84 x0 x4).f3.f1) ((rd84 x0 x4).f3.f2) ((rd84 x0 x4).f4) ((rd84 x0 x4).f5) ((rd84 x0 x4).f6)).bind fun bt6 => (if x4 < (x3.length : Int) then (laws_toLeafS.l0 k x0 (x3.set (x4 : Int).toNat (⟨bt6.1, bt6.2.1, bt6.2.2.1, (⟨bt6.2.2.2.1, bt6.2.2.2.2.1, bt6.2.2.2.2.2.1⟩ : S81), bt6.2.2.2.2.2.2.1, bt6.2.2.2.2.2.2.2.1, bt6.2.2.2.2.2.2.2.2⟩ : S94)) (wrap64 (x4 + 1))) else (none))) else (none)) else (some x3)
def laws_toLeafS.f (k : Nat) (l0 : List S84) : Option ((List S94)) := if 0 ≤ (l0.length : Int) then (if ((l0.length : Int) : Int).toNat ≤ 2513169434916 then (laws_toLeafS.l0 k l0 (List.replicate (((l0.length : Int) : Int).toNat) z94) 0) else (none)) else (none)
set_option maxRecDepth 100000 in
theorem laws_toLeafS.ok {k : Nat} {l0 : List S84} {r : List S94} (H : laws_toLeafS.f k l0 = some r) : OkF Tryz.prog 13 [vR 85 (l0.map c84)] [] (.c (.own 100 r.length)) [(100, .row 95 (r.map c94))] := by
 unfold laws_toLeafS.f at H
 refine OkF.of (N := 23) (rs := [2]) (avs := [.c (.own 100 r.length)]) Tryz.func13 rfl rfl (fun _ _ => results_tmp rfl _ _ _) (by decide) rfl rfl rfl rfl (fun w0 S => ?_)
 refine AG.seq ?_
 refine AG.region HM ?_
 refine a_nilO (e := 95) 200 ?_ T95
 refine RA.nil nofun ?_
 refine AG.seq ?_
 refine AG.region HM ?_
 refine a_move (v := vR _ _) ?_
 refine a_lenR ?_ Tryz.underlying26
 by_cases hc1 : 0 ≤ (l0.length : Int)
 ·rw [if_pos hc1] at H
  by_cases hc2 : ((l0.length : Int) : Int).toNat ≤ 2513169434916
  ·rw [if_pos hc2] at H
   refine a_make (n := (l0.length : Int)) (css := (List.replicate (((l0.length : Int) : Int).toNat) z94).map c94) 201 ?_ N37 T95 (zV (zV (zV (zV (zV (zV (zV (zV (zR T177 zN))))))))) hc1 (by omega) (by omega) (hcss := by exact rep_map rfl)
   refine a_move (v := .c (.own _ _)) ?_
   refine RA.nil nofun ?_
   refine AG.seq ?_
   refine AG.seq ?_
   refine AG.region HM ?_
   refine a_move (v := vI _) ?_
   refine RA.nil nofun ?_
   refine AG.block ?_
   refine AG.loop ?_
   obtain ⟨K0, hK0, gK0⟩ : ∃ K, k ≤ K ∧ K ≤ k := ⟨k, Nat.le_refl k, Nat.le_refl k⟩
   refine AGr.canon (fun κ => cond (Nat.beq κ 202) 201 (κ)) (AGr.loopI (n := k) (fun k s => k ≤ K0 ∧ ∃ (x0 : List S84) (x3 : List S94) (x4 : Int), laws_toLeafS.l0 k x0 x3 x4 = some r ∧ s = St.of [(0, vR 85 (x0.map c84)), (3, .c (.own 202 x3.length)), (4, vI x4)] [(202, .row 95 (x3.map c94))]) ⟨hK0, _, _, _, H, rfl⟩ ?_ ?_) ⟨rfl, (ownE rfl (by simp)), rfl, trivial⟩ ⟨rfl, trivial⟩ rfl
   ·rintro _ ⟨_, _, _, _, H, _⟩
    cases H
   ·clear H hK0
    rintro k ih0 _ ⟨hK0, x0, x3, x4, H, rfl⟩
    unfold laws_toLeafS.l0 at H
    refine AG.seq ?_
    refine AG.seq ?_
    refine AG.region HM ?_
    refine a_move (v := vI _) ?_
    refine a_move (v := vR _ _) ?_
    refine a_lenR ?_ Tryz.underlying26
    refine a_int (u := .bool (decide (x4 < (x0.length : Int)))) ?_
    refine RA.nil nofun ?_
    by_cases hc4 : x4 < (x0.length : Int)
    ·rw [if_pos hc4] at H
     refine AG.yes rfl (decide_eq_true hc4) ?_
     refine AG.skip ?_
     refine AG.seq ?_
     refine AG.block ?_
     refine AG.region HM ?_
     refine a_move (v := .c (.own _ _)) ?_
     refine a_move (v := vI _) ?_
     refine a_move (v := vR _ _) ?_
     refine a_move (v := vI _) ?_
     by_cases hc5 : 0 ≤ x4
     ·rw [if_pos hc5] at H
      refine a_ixR (el := c84 (rd84 x0 x4)) ?_ ⟨hc5, hc4⟩ T85 Tryz.underlying26 (hel := R84 hc5 hc4)
      refine a_ldR (v := .agg [_, _, _, _, _, _, _, _, _]) ?_ T85
      obtain ⟨⟨t6, t7, t8, t9, t10, t11, t12, t13, t14⟩, e15, H⟩ := bindO H
      refine a_call (v := .agg [.d (.v (.string t6)), .d (.v (.string t7)), .d (.v (.int .i64 t8)), .d (.v (.string t9)), .d (.v (.int .i64 t10)), .d (.v (.int .i64 t11)), .d (.v (.int .i64 t12)), .d (.v (.int .i64 t13)), .own 203 t14.length]) (nk := [(203, .row 177 (t14.map c176))]) (L := []) ?_ rfl (laws_toLeaf.ok e15) (fun κ => cond (Nat.beq κ 203) 100 (κ)) (qg qn) trivial ⟨rfl, trivial⟩ ⟨rfl, trivial⟩ rfl
      by_cases hc16 : x4 < (x3.length : Int)
      ·rw [if_pos hc16] at H
       refine a_ixO ?_ ⟨hc5, hc16⟩ T95 Tryz.underlying37
       refine a_stE (D := [203]) (css' := (x3.set (x4 : Int).toNat (⟨t6, t7, t8, (⟨t9, t10, t11⟩ : S81), t12, t13, t14⟩ : S94)).map c94) ?_ (G94 hc5 hc16) T95 (hcss := by exact set_map rfl)
       refine RA.nil nofun ?_
       refine AG.region HM ?_
       refine a_move (v := vI _) ?_
       refine a_int (u := .int .i64 (wrap64 (x4 + 1))) ?_
       refine a_move (v := vI _) ?_
       refine RA.nil nofun ?_
       exact AGr.canon id (ih0 _ (by omega) _ ⟨by omega, _, _, _, H, rfl⟩) ⟨rfl, (ownE rfl (by simp)), rfl, trivial⟩ ⟨rfl, trivial⟩ rfl
      ·rw [if_neg hc16] at H
       cases H
     ·rw [if_neg hc5] at H
      cases H
    ·rw [if_neg hc4] at H
     refine AG.no rfl (decide_eq_false hc4) ?_
     refine AG.exit ?_
     refine AG.seq ?_
     refine AG.region HM ?_
     refine a_move (v := .c (.own _ _)) ?_
     refine a_move (v := .c (.own _ _)) ?_
     refine RA.nil nofun ?_
     refine AG.ret ?_
     obtain rfl := Option.some.inj H
     exact RetP.mk (fun κ => cond (Nat.beq κ 100) 202 (κ)) ⟨rfl, trivial⟩ ⟨rfl, trivial⟩ rfl
  ·rw [if_neg hc2] at H
   cases H
 ·rw [if_neg hc1] at H
  cases H
def laws_eqPoint.f (a0_0 : Int) (a0_1 : Int) (a1_0 : Int) (a1_1 : Int) : Option (Bool) := if a0_0 = a1_0 then (if a0_1 = a1_1 then (some true) else (some false)) else (some false)
set_option maxRecDepth 100000 in
theorem laws_eqPoint.ok {a0_0 : Int} {a0_1 : Int} {a1_0 : Int} {a1_1 : Int} {r : Bool} (H : laws_eqPoint.f a0_0 a0_1 a1_0 a1_1 = some r) : OkF Tryz.prog 119 [.agg [.d (.v (.int .i64 a0_0)), .d (.v (.int .i64 a0_1))], .agg [.d (.v (.int .i64 a1_0)), .d (.v (.int .i64 a1_1))]] [] (.c (.d (.v (.bool r)))) [] := by
 unfold laws_eqPoint.f at H
 refine OkF.of (N := 15) (rs := [4]) (avs := [.c (.d (.v (.bool r)))]) Tryz.func119 rfl rfl (fun _ _ => results_tmp rfl _ _ _) (by decide) rfl rfl rfl rfl (fun w0 S => ?_)
 refine AG.seq ?_
 refine AG.region HM ?_
 refine a_box 200 ?_
 refine a_box 201 ?_
 refine a_move (v := vB _) ?_
 refine RA.nil nofun ?_
 refine AG.seq ?_
 refine AG.seq ?_
 refine AG.region HM ?_
 refine a_faB (q := 0) ?_ D160_0
 refine a_ldB (v := vI _) ?_ T2
 refine a_faB (q := 0) ?_ D160_0
 refine a_ldB (v := vI _) ?_ T2
 refine a_int (u := .bool ((a0_0 != a1_0))) ?_
 refine RA.nil nofun ?_
 by_cases hc1 : a0_0 = a1_0
 ·rw [if_pos hc1] at H
  refine AG.no rfl (bne_eq_false_iff_eq.2 hc1) ?_
  refine AG.skip ?_
  refine AG.seq ?_
  refine AG.seq ?_
  refine AG.region HM ?_
  refine a_faB (q := 1) ?_ D160_1
  refine a_ldB (v := vI _) ?_ T2
  refine a_faB (q := 1) ?_ D160_1
  refine a_ldB (v := vI _) ?_ T2
  refine a_int (u := .bool ((a0_1 != a1_1))) ?_
  refine RA.nil nofun ?_
  by_cases hc2 : a0_1 = a1_1
  ·rw [if_pos hc2] at H
   refine AG.no rfl (bne_eq_false_iff_eq.2 hc2) ?_
   refine AG.skip ?_
   refine AG.seq ?_
   refine AG.region HM ?_
   refine a_move (v := vB _) ?_
   refine RA.nil nofun ?_
   refine AG.ret ?_
   obtain rfl := Option.some.inj H
   exact RetP.mk id ⟨rfl, trivial⟩ trivial rfl
  ·rw [if_neg hc2] at H
   refine AG.yes rfl (bne_iff_ne.2 hc2) ?_
   refine AG.seq ?_
   refine AG.region HM ?_
   refine a_move (v := vB _) ?_
   refine RA.nil nofun ?_
   refine AG.ret ?_
   obtain rfl := Option.some.inj H
   exact RetP.mk id ⟨rfl, trivial⟩ trivial rfl
 ·rw [if_neg hc1] at H
  refine AG.yes rfl (bne_iff_ne.2 hc1) ?_
  refine AG.seq ?_
  refine AG.region HM ?_
  refine a_move (v := vB _) ?_
  refine RA.nil nofun ?_
  refine AG.ret ?_
  obtain rfl := Option.some.inj H
  exact RetP.mk id ⟨rfl, trivial⟩ trivial rfl
def laws_eqPointS.l0 : Nat → List S159 → List S159 → Int → Option (Bool)
 | 0, _, _, _ => none
 | k + 1, x0, x1, x5 => if x5 < (x0.length : Int) then (if 0 ≤ x5 then (if x5 < (x1.length : Int) then ((laws_eqPoint.f ((rd159 x0 x5).f0) ((rd159 x0 x5).f1) ((rd159 x1 x5).f0) ((rd159 x1 x5).f1)).bind fun t5 => (if t5 = true then (laws_eqPointS.l0 k x0 x1 (wrap64 (x5 + 1))) else (some false))) else (none)) else (none)) else (some true)
def laws_eqPointS.f (k : Nat) (l0 : List S159) (l1 : List S159) : Option (Bool) := if (l0.length : Int) = (l1.length : Int) then (laws_eqPointS.l0 k l0 l1 0) else (some false)
set_option maxRecDepth 100000 in
theorem laws_eqPointS.ok {k : Nat} {l0 : List S159} {l1 : List S159} {r : Bool} (H : laws_eqPointS.f k l0 l1 = some r) : OkF Tryz.prog 56 [vR 160 (l0.map c159), vR 160 (l1.map c159)] [] (.c (.d (.v (.bool r)))) [] := by
 unfold laws_eqPointS.f at H
 refine OkF.of (N := 27) (rs := [4]) (avs := [.c (.d (.v (.bool r)))]) Tryz.func56 rfl rfl (fun _ _ => results_tmp rfl _ _ _) (by decide) rfl rfl rfl rfl (fun w0 S => ?_)
 refine AG.seq ?_
 refine AG.region HM ?_
 refine a_move (v := vB _) ?_
 refine RA.nil nofun ?_
 refine AG.seq ?_
 refine AG.seq ?_
 refine AG.region HM ?_
 refine a_move (v := vR _ _) ?_
 refine a_lenR ?_ Tryz.underlying32
 refine a_move (v := vR _ _) ?_
 refine a_lenR ?_ Tryz.underlying32
 refine a_int (u := .bool (((l0.length : Int) != (l1.length : Int)))) ?_
 refine RA.nil nofun ?_
 by_cases hc1 : (l0.length : Int) = (l1.length : Int)
 ·rw [if_pos hc1] at H
  refine AG.no rfl (bne_eq_false_iff_eq.2 hc1) ?_
  refine AG.skip ?_
  refine AG.seq ?_
  refine AG.seq ?_
  refine AG.region HM ?_
  refine a_move (v := vI _) ?_
  refine RA.nil nofun ?_
  refine AG.block ?_
  refine AG.loop ?_
  obtain ⟨K0, hK0, gK0⟩ : ∃ K, k ≤ K ∧ K ≤ k := ⟨k, Nat.le_refl k, Nat.le_refl k⟩
  refine AGr.canon id (AGr.loopI (n := k) (fun k s => k ≤ K0 ∧ ∃ (x0 : List S159) (x1 : List S159) (x5 : Int), laws_eqPointS.l0 k x0 x1 x5 = some r ∧ s = St.of [(0, vR 160 (x0.map c159)), (1, vR 160 (x1.map c159)), (5, vI x5)] []) ⟨hK0, _, _, _, H, rfl⟩ ?_ ?_) ⟨rfl, rfl, rfl, trivial⟩ trivial rfl
  ·rintro _ ⟨_, _, _, _, H, _⟩
   cases H
  ·clear H hK0
   rintro k ih0 _ ⟨hK0, x0, x1, x5, H, rfl⟩
   unfold laws_eqPointS.l0 at H
   refine AG.seq ?_
   refine AG.seq ?_
   refine AG.region HM ?_
   refine a_move (v := vI _) ?_
   refine a_move (v := vR _ _) ?_
   refine a_lenR ?_ Tryz.underlying32
   refine a_int (u := .bool (decide (x5 < (x0.length : Int)))) ?_
   refine RA.nil nofun ?_
   by_cases hc2 : x5 < (x0.length : Int)
   ·rw [if_pos hc2] at H
    refine AG.yes rfl (decide_eq_true hc2) ?_
    refine AG.skip ?_
    refine AG.seq ?_
    refine AG.block ?_
    refine AG.seq ?_
    refine AG.region HM ?_
    refine a_move (v := vR _ _) ?_
    refine a_move (v := vI _) ?_
    by_cases hc3 : 0 ≤ x5
    ·rw [if_pos hc3] at H
     refine a_ixR (el := c159 (rd159 x0 x5)) ?_ ⟨hc3, hc2⟩ T160 Tryz.underlying32 (hel := R159 hc3 hc2)
     refine a_ldR (v := .agg [_, _]) ?_ T160
     refine a_move (v := vR _ _) ?_
     refine a_move (v := vI _) ?_
     by_cases hc4 : x5 < (x1.length : Int)
     ·rw [if_pos hc4] at H
      refine a_ixR (el := c159 (rd159 x1 x5)) ?_ ⟨hc3, hc4⟩ T160 Tryz.underlying32 (hel := R159 hc3 hc4)
      refine a_ldR (v := .agg [_, _]) ?_ T160
      obtain ⟨t5, e6, H⟩ := bindO H
      refine a_call (v := vB t5) (nk := []) (L := []) ?_ rfl (laws_eqPoint.ok e6) id (qg (qg qn)) trivial trivial trivial rfl
      refine a_un (u := .bool (!t5)) ?_
      refine RA.nil (fun _ => by kernel_rfl) ?_
      by_cases hc7 : t5 = true
      ·rw [if_pos hc7] at H
       refine AG.no rfl (congrArg Bool.not hc7) ?_
       refine AG.skip ?_
       refine AG.region HM ?_
       refine a_move (v := vI _) ?_
       refine a_int (u := .int .i64 (wrap64 (x5 + 1))) ?_
       refine a_move (v := vI _) ?_
       refine RA.nil nofun ?_
       exact AGr.canon id (ih0 _ (by omega) _ ⟨by omega, _, _, _, H, rfl⟩) ⟨rfl, rfl, rfl, trivial⟩ trivial rfl
      ·rw [if_neg hc7] at H
       refine AG.yes rfl (congrArg Bool.not (Bool.eq_false_iff.2 hc7)) ?_
       refine AG.seq ?_
       refine AG.region HM ?_
       refine a_move (v := vB _) ?_
       refine RA.nil nofun ?_
       refine AG.ret ?_
       obtain rfl := Option.some.inj H
       exact RetP.mk id ⟨rfl, trivial⟩ trivial rfl
     ·rw [if_neg hc4] at H
      cases H
    ·rw [if_neg hc3] at H
     cases H
   ·rw [if_neg hc2] at H
    refine AG.no rfl (decide_eq_false hc2) ?_
    refine AG.exit ?_
    refine AG.seq ?_
    refine AG.region HM ?_
    refine a_move (v := vB _) ?_
    refine RA.nil nofun ?_
    refine AG.ret ?_
    obtain rfl := Option.some.inj H
    exact RetP.mk id ⟨rfl, trivial⟩ trivial rfl
 ·rw [if_neg hc1] at H
  refine AG.yes rfl (bne_iff_ne.2 hc1) ?_
  refine AG.seq ?_
  refine AG.region HM ?_
  refine a_move (v := vB _) ?_
  refine RA.nil nofun ?_
  refine AG.ret ?_
  obtain rfl := Option.some.inj H
  exact RetP.mk id ⟨rfl, trivial⟩ trivial rfl
def laws_eqInt64S.l0 : Nat → List Int → List Int → Int → Option (Bool)
 | 0, _, _, _ => none
 | k + 1, x0, x1, x5 => if x5 < (x0.length : Int) then (if 0 ≤ x5 then (if x5 < (x1.length : Int) then (if (rd2 x0 x5) = (rd2 x1 x5) then (laws_eqInt64S.l0 k x0 x1 (wrap64 (x5 + 1))) else (some false)) else (none)) else (none)) else (some true)
def laws_eqInt64S.f (k : Nat) (l0 : List Int) (l1 : List Int) : Option (Bool) := if (l0.length : Int) = (l1.length : Int) then (laws_eqInt64S.l0 k l0 l1 0) else (some false)
set_option maxRecDepth 100000 in
theorem laws_eqInt64S.ok {k : Nat} {l0 : List Int} {l1 : List Int} {r : Bool} (H : laws_eqInt64S.f k l0 l1 = some r) : OkF Tryz.prog 15 [vR 2 (l0.map c2), vR 2 (l1.map c2)] [] (.c (.d (.v (.bool r)))) [] := by
 unfold laws_eqInt64S.f at H
 refine OkF.of (N := 26) (rs := [4]) (avs := [.c (.d (.v (.bool r)))]) Tryz.func15 rfl rfl (fun _ _ => results_tmp rfl _ _ _) (by decide) rfl rfl rfl rfl (fun w0 S => ?_)
 refine AG.seq ?_
 refine AG.region HM ?_
 refine a_move (v := vB _) ?_
 refine RA.nil nofun ?_
 refine AG.seq ?_
 refine AG.seq ?_
 refine AG.region HM ?_
 refine a_move (v := vR _ _) ?_
 refine a_lenR ?_ Tryz.underlying29
 refine a_move (v := vR _ _) ?_
 refine a_lenR ?_ Tryz.underlying29
 refine a_int (u := .bool (((l0.length : Int) != (l1.length : Int)))) ?_
 refine RA.nil nofun ?_
 by_cases hc1 : (l0.length : Int) = (l1.length : Int)
 ·rw [if_pos hc1] at H
  refine AG.no rfl (bne_eq_false_iff_eq.2 hc1) ?_
  refine AG.skip ?_
  refine AG.seq ?_
  refine AG.seq ?_
  refine AG.region HM ?_
  refine a_move (v := vI _) ?_
  refine RA.nil nofun ?_
  refine AG.block ?_
  refine AG.loop ?_
  obtain ⟨K0, hK0, gK0⟩ : ∃ K, k ≤ K ∧ K ≤ k := ⟨k, Nat.le_refl k, Nat.le_refl k⟩
  refine AGr.canon id (AGr.loopI (n := k) (fun k s => k ≤ K0 ∧ ∃ (x0 : List Int) (x1 : List Int) (x5 : Int), laws_eqInt64S.l0 k x0 x1 x5 = some r ∧ s = St.of [(0, vR 2 (x0.map c2)), (1, vR 2 (x1.map c2)), (5, vI x5)] []) ⟨hK0, _, _, _, H, rfl⟩ ?_ ?_) ⟨rfl, rfl, rfl, trivial⟩ trivial rfl
  ·rintro _ ⟨_, _, _, _, H, _⟩
   cases H
  ·clear H hK0
   rintro k ih0 _ ⟨hK0, x0, x1, x5, H, rfl⟩
   unfold laws_eqInt64S.l0 at H
   refine AG.seq ?_
   refine AG.seq ?_
   refine AG.region HM ?_
   refine a_move (v := vI _) ?_
   refine a_move (v := vR _ _) ?_
   refine a_lenR ?_ Tryz.underlying29
   refine a_int (u := .bool (decide (x5 < (x0.length : Int)))) ?_
   refine RA.nil nofun ?_
   by_cases hc2 : x5 < (x0.length : Int)
   ·rw [if_pos hc2] at H
    refine AG.yes rfl (decide_eq_true hc2) ?_
    refine AG.skip ?_
    refine AG.seq ?_
    refine AG.block ?_
    refine AG.seq ?_
    refine AG.region HM ?_
    refine a_move (v := vR _ _) ?_
    refine a_move (v := vI _) ?_
    by_cases hc3 : 0 ≤ x5
    ·rw [if_pos hc3] at H
     refine a_ixR (el := c2 (rd2 x0 x5)) ?_ ⟨hc3, hc2⟩ T2 Tryz.underlying29 (hel := R2 hc3 hc2)
     refine a_ldR (v := vI _) ?_ T2
     refine a_move (v := vR _ _) ?_
     refine a_move (v := vI _) ?_
     by_cases hc4 : x5 < (x1.length : Int)
     ·rw [if_pos hc4] at H
      refine a_ixR (el := c2 (rd2 x1 x5)) ?_ ⟨hc3, hc4⟩ T2 Tryz.underlying29 (hel := R2 hc3 hc4)
      refine a_ldR (v := vI _) ?_ T2
      refine a_int (u := .bool (((rd2 x0 x5) != (rd2 x1 x5)))) ?_
      refine RA.nil (fun _ => by kernel_rfl) ?_
      by_cases hc5 : (rd2 x0 x5) = (rd2 x1 x5)
      ·rw [if_pos hc5] at H
       refine AG.no rfl (bne_eq_false_iff_eq.2 hc5) ?_
       refine AG.skip ?_
       refine AG.region HM ?_
       refine a_move (v := vI _) ?_
       refine a_int (u := .int .i64 (wrap64 (x5 + 1))) ?_
       refine a_move (v := vI _) ?_
       refine RA.nil nofun ?_
       exact AGr.canon id (ih0 _ (by omega) _ ⟨by omega, _, _, _, H, rfl⟩) ⟨rfl, rfl, rfl, trivial⟩ trivial rfl
      ·rw [if_neg hc5] at H
       refine AG.yes rfl (bne_iff_ne.2 hc5) ?_
       refine AG.seq ?_
       refine AG.region HM ?_
       refine a_move (v := vB _) ?_
       refine RA.nil nofun ?_
       refine AG.ret ?_
       obtain rfl := Option.some.inj H
       exact RetP.mk id ⟨rfl, trivial⟩ trivial rfl
     ·rw [if_neg hc4] at H
      cases H
    ·rw [if_neg hc3] at H
     cases H
   ·rw [if_neg hc2] at H
    refine AG.no rfl (decide_eq_false hc2) ?_
    refine AG.exit ?_
    refine AG.seq ?_
    refine AG.region HM ?_
    refine a_move (v := vB _) ?_
    refine RA.nil nofun ?_
    refine AG.ret ?_
    obtain rfl := Option.some.inj H
    exact RetP.mk id ⟨rfl, trivial⟩ trivial rfl
 ·rw [if_neg hc1] at H
  refine AG.yes rfl (bne_iff_ne.2 hc1) ?_
  refine AG.seq ?_
  refine AG.region HM ?_
  refine a_move (v := vB _) ?_
  refine RA.nil nofun ?_
  refine AG.ret ?_
  obtain rfl := Option.some.inj H
  exact RetP.mk id ⟨rfl, trivial⟩ trivial rfl
def laws_eqFace.f (k : Nat) (a0_0 : ByteArray) (l0_1 : List Int) (a1_0 : ByteArray) (l1_1 : List Int) : Option (Bool) := if a0_0.toList = a1_0.toList then ((laws_eqInt64S.f k l0_1 l1_1).bind fun t2 => (if t2 = true then (some true) else (some false))) else (some false)
set_option maxRecDepth 100000 in
theorem laws_eqFace.ok {k : Nat} {a0_0 : ByteArray} {l0_1 : List Int} {a1_0 : ByteArray} {l1_1 : List Int} {r : Bool} (H : laws_eqFace.f k a0_0 l0_1 a1_0 l1_1 = some r) : OkF Tryz.prog 120 [.agg [.d (.v (.string a0_0)), .d (.row 2 (l0_1.map c2))], .agg [.d (.v (.string a1_0)), .d (.row 2 (l1_1.map c2))]] [] (.c (.d (.v (.bool r)))) [] := by
 unfold laws_eqFace.f at H
 refine OkF.of (N := 16) (rs := [4]) (avs := [.c (.d (.v (.bool r)))]) Tryz.func120 rfl rfl (fun _ _ => results_tmp rfl _ _ _) (by decide) rfl rfl rfl rfl (fun w0 S => ?_)
 refine AG.seq ?_
 refine AG.region HM ?_
 refine a_box 200 ?_
 refine a_box 201 ?_
 refine a_move (v := vB _) ?_
 refine RA.nil nofun ?_
 refine AG.seq ?_
 refine AG.seq ?_
 refine AG.region HM ?_
 refine a_faB (q := 0) ?_ D152_0
 refine a_ldB (v := vS _) ?_ T9
 refine a_faB (q := 0) ?_ D152_0
 refine a_ldB (v := vS _) ?_ T9
 refine a_bin (u := .bool (!(a0_0.toList == a1_0.toList))) ?_
 refine RA.nil nofun ?_
 by_cases hc1 : a0_0.toList = a1_0.toList
 ·rw [if_pos hc1] at H
  refine AG.no rfl (by rw [beq_iff_eq.2 hc1]; rfl) ?_
  refine AG.skip ?_
  refine AG.seq ?_
  refine AG.seq ?_
  refine AG.region HM ?_
  refine a_faB (q := 1) ?_ D152_1
  refine a_ldB (v := vR _ _) ?_ T29
  refine a_faB (q := 1) ?_ D152_1
  refine a_ldB (v := vR _ _) ?_ T29
  obtain ⟨t2, e3, H⟩ := bindO H
  refine a_call (v := vB t2) (nk := []) (L := []) ?_ rfl (laws_eqInt64S.ok e3) id (qd (qd qn)) trivial trivial trivial rfl
  refine a_un (u := .bool (!t2)) ?_
  refine RA.nil nofun ?_
  by_cases hc4 : t2 = true
  ·rw [if_pos hc4] at H
   refine AG.no rfl (congrArg Bool.not hc4) ?_
   refine AG.skip ?_
   refine AG.seq ?_
   refine AG.region HM ?_
   refine a_move (v := vB _) ?_
   refine RA.nil nofun ?_
   refine AG.ret ?_
   obtain rfl := Option.some.inj H
   exact RetP.mk id ⟨rfl, trivial⟩ trivial rfl
  ·rw [if_neg hc4] at H
   refine AG.yes rfl (congrArg Bool.not (Bool.eq_false_iff.2 hc4)) ?_
   refine AG.seq ?_
   refine AG.region HM ?_
   refine a_move (v := vB _) ?_
   refine RA.nil nofun ?_
   refine AG.ret ?_
   obtain rfl := Option.some.inj H
   exact RetP.mk id ⟨rfl, trivial⟩ trivial rfl
 ·rw [if_neg hc1] at H
  refine AG.yes rfl (by rw [beq_eq_false_iff_ne.2 hc1]; rfl) ?_
  refine AG.seq ?_
  refine AG.region HM ?_
  refine a_move (v := vB _) ?_
  refine RA.nil nofun ?_
  refine AG.ret ?_
  obtain rfl := Option.some.inj H
  exact RetP.mk id ⟨rfl, trivial⟩ trivial rfl
def laws_eqFaceS.l0 : Nat → List S146 → List S146 → Int → Option (Bool)
 | 0, _, _, _ => none
 | k + 1, x0, x1, x5 => if x5 < (x0.length : Int) then (if 0 ≤ x5 then (if x5 < (x1.length : Int) then ((laws_eqFace.f k ((rd146 x0 x5).f0) ((rd146 x0 x5).f1) ((rd146 x1 x5).f0) ((rd146 x1 x5).f1)).bind fun t5 => (if t5 = true then (laws_eqFaceS.l0 k x0 x1 (wrap64 (x5 + 1))) else (some false))) else (none)) else (none)) else (some true)
def laws_eqFaceS.f (k : Nat) (l0 : List S146) (l1 : List S146) : Option (Bool) := if (l0.length : Int) = (l1.length : Int) then (laws_eqFaceS.l0 k l0 l1 0) else (some false)
set_option maxRecDepth 100000 in
theorem laws_eqFaceS.ok {k : Nat} {l0 : List S146} {l1 : List S146} {r : Bool} (H : laws_eqFaceS.f k l0 l1 = some r) : OkF Tryz.prog 57 [vR 152 (l0.map c146), vR 152 (l1.map c146)] [] (.c (.d (.v (.bool r)))) [] := by
 unfold laws_eqFaceS.f at H
 refine OkF.of (N := 27) (rs := [4]) (avs := [.c (.d (.v (.bool r)))]) Tryz.func57 rfl rfl (fun _ _ => results_tmp rfl _ _ _) (by decide) rfl rfl rfl rfl (fun w0 S => ?_)
 refine AG.seq ?_
 refine AG.region HM ?_
 refine a_move (v := vB _) ?_
 refine RA.nil nofun ?_
 refine AG.seq ?_
 refine AG.seq ?_
 refine AG.region HM ?_
 refine a_move (v := vR _ _) ?_
 refine a_lenR ?_ Tryz.underlying33
 refine a_move (v := vR _ _) ?_
 refine a_lenR ?_ Tryz.underlying33
 refine a_int (u := .bool (((l0.length : Int) != (l1.length : Int)))) ?_
 refine RA.nil nofun ?_
 by_cases hc1 : (l0.length : Int) = (l1.length : Int)
 ·rw [if_pos hc1] at H
  refine AG.no rfl (bne_eq_false_iff_eq.2 hc1) ?_
  refine AG.skip ?_
  refine AG.seq ?_
  refine AG.seq ?_
  refine AG.region HM ?_
  refine a_move (v := vI _) ?_
  refine RA.nil nofun ?_
  refine AG.block ?_
  refine AG.loop ?_
  obtain ⟨K0, hK0, gK0⟩ : ∃ K, k ≤ K ∧ K ≤ k := ⟨k, Nat.le_refl k, Nat.le_refl k⟩
  refine AGr.canon id (AGr.loopI (n := k) (fun k s => k ≤ K0 ∧ ∃ (x0 : List S146) (x1 : List S146) (x5 : Int), laws_eqFaceS.l0 k x0 x1 x5 = some r ∧ s = St.of [(0, vR 152 (x0.map c146)), (1, vR 152 (x1.map c146)), (5, vI x5)] []) ⟨hK0, _, _, _, H, rfl⟩ ?_ ?_) ⟨rfl, rfl, rfl, trivial⟩ trivial rfl
  ·rintro _ ⟨_, _, _, _, H, _⟩
   cases H
  ·clear H hK0
   rintro k ih0 _ ⟨hK0, x0, x1, x5, H, rfl⟩
   unfold laws_eqFaceS.l0 at H
   refine AG.seq ?_
   refine AG.seq ?_
   refine AG.region HM ?_
   refine a_move (v := vI _) ?_
   refine a_move (v := vR _ _) ?_
   refine a_lenR ?_ Tryz.underlying33
   refine a_int (u := .bool (decide (x5 < (x0.length : Int)))) ?_
   refine RA.nil nofun ?_
   by_cases hc2 : x5 < (x0.length : Int)
   ·rw [if_pos hc2] at H
    refine AG.yes rfl (decide_eq_true hc2) ?_
    refine AG.skip ?_
    refine AG.seq ?_
    refine AG.block ?_
    refine AG.seq ?_
    refine AG.region HM ?_
    refine a_move (v := vR _ _) ?_
    refine a_move (v := vI _) ?_
    by_cases hc3 : 0 ≤ x5
    ·rw [if_pos hc3] at H
     refine a_ixR (el := c146 (rd146 x0 x5)) ?_ ⟨hc3, hc2⟩ T152 Tryz.underlying33 (hel := R146 hc3 hc2)
     refine a_ldR (v := .agg [_, _]) ?_ T152
     refine a_move (v := vR _ _) ?_
     refine a_move (v := vI _) ?_
     by_cases hc4 : x5 < (x1.length : Int)
     ·rw [if_pos hc4] at H
      refine a_ixR (el := c146 (rd146 x1 x5)) ?_ ⟨hc3, hc4⟩ T152 Tryz.underlying33 (hel := R146 hc3 hc4)
      refine a_ldR (v := .agg [_, _]) ?_ T152
      obtain ⟨t5, e6, H⟩ := bindO H
      refine a_call (v := vB t5) (nk := []) (L := []) ?_ rfl (laws_eqFace.ok e6) id (qg (qg qn)) trivial trivial trivial rfl
      refine a_un (u := .bool (!t5)) ?_
      refine RA.nil (fun _ => by kernel_rfl) ?_
      by_cases hc7 : t5 = true
      ·rw [if_pos hc7] at H
       refine AG.no rfl (congrArg Bool.not hc7) ?_
       refine AG.skip ?_
       refine AG.region HM ?_
       refine a_move (v := vI _) ?_
       refine a_int (u := .int .i64 (wrap64 (x5 + 1))) ?_
       refine a_move (v := vI _) ?_
       refine RA.nil nofun ?_
       exact AGr.canon id (ih0 _ (by omega) _ ⟨by omega, _, _, _, H, rfl⟩) ⟨rfl, rfl, rfl, trivial⟩ trivial rfl
      ·rw [if_neg hc7] at H
       refine AG.yes rfl (congrArg Bool.not (Bool.eq_false_iff.2 hc7)) ?_
       refine AG.seq ?_
       refine AG.region HM ?_
       refine a_move (v := vB _) ?_
       refine RA.nil nofun ?_
       refine AG.ret ?_
       obtain rfl := Option.some.inj H
       exact RetP.mk id ⟨rfl, trivial⟩ trivial rfl
     ·rw [if_neg hc4] at H
      cases H
    ·rw [if_neg hc3] at H
     cases H
   ·rw [if_neg hc2] at H
    refine AG.no rfl (decide_eq_false hc2) ?_
    refine AG.exit ?_
    refine AG.seq ?_
    refine AG.region HM ?_
    refine a_move (v := vB _) ?_
    refine RA.nil nofun ?_
    refine AG.ret ?_
    obtain rfl := Option.some.inj H
    exact RetP.mk id ⟨rfl, trivial⟩ trivial rfl
 ·rw [if_neg hc1] at H
  refine AG.yes rfl (bne_iff_ne.2 hc1) ?_
  refine AG.seq ?_
  refine AG.region HM ?_
  refine a_move (v := vB _) ?_
  refine RA.nil nofun ?_
  refine AG.ret ?_
  obtain rfl := Option.some.inj H
  exact RetP.mk id ⟨rfl, trivial⟩ trivial rfl
def laws_eqDrawing.f (k : Nat) (a0_0 : Int) (a0_1 : Int) (l0_2 : List S159) (l0_3 : List S146) (a1_0 : Int) (a1_1 : Int) (l1_2 : List S159) (l1_3 : List S146) : Option (Bool) := if a0_0 = a1_0 then (if a0_1 = a1_1 then ((laws_eqPointS.f k l0_2 l1_2).bind fun t3 => (if t3 = true then ((laws_eqFaceS.f k l0_3 l1_3).bind fun t6 => (if t6 = true then (some true) else (some false))) else (some false))) else (some false)) else (some false)
set_option maxRecDepth 100000 in
theorem laws_eqDrawing.ok {k : Nat} {a0_0 : Int} {a0_1 : Int} {l0_2 : List S159} {l0_3 : List S146} {a1_0 : Int} {a1_1 : Int} {l1_2 : List S159} {l1_3 : List S146} {r : Bool} (H : laws_eqDrawing.f k a0_0 a0_1 l0_2 l0_3 a1_0 a1_1 l1_2 l1_3 = some r) : OkF Tryz.prog 16 [.agg [.d (.v (.int .i64 a0_0)), .d (.v (.int .i64 a0_1)), .d (.row 160 (l0_2.map c159)), .d (.row 152 (l0_3.map c146))], .agg [.d (.v (.int .i64 a1_0)), .d (.v (.int .i64 a1_1)), .d (.row 160 (l1_2.map c159)), .d (.row 152 (l1_3.map c146))]] [] (.c (.d (.v (.bool r)))) [] := by
 unfold laws_eqDrawing.f at H
 refine OkF.of (N := 27) (rs := [4]) (avs := [.c (.d (.v (.bool r)))]) Tryz.func16 rfl rfl (fun _ _ => results_tmp rfl _ _ _) (by decide) rfl rfl rfl rfl (fun w0 S => ?_)
 refine AG.seq ?_
 refine AG.region HM ?_
 refine a_box 200 ?_
 refine a_box 201 ?_
 refine a_move (v := vB _) ?_
 refine RA.nil nofun ?_
 refine AG.seq ?_
 refine AG.seq ?_
 refine AG.region HM ?_
 refine a_faB (q := 0) ?_ D35_0
 refine a_ldB (v := vI _) ?_ T2
 refine a_faB (q := 0) ?_ D35_0
 refine a_ldB (v := vI _) ?_ T2
 refine a_int (u := .bool ((a0_0 != a1_0))) ?_
 refine RA.nil nofun ?_
 by_cases hc1 : a0_0 = a1_0
 ·rw [if_pos hc1] at H
  refine AG.no rfl (bne_eq_false_iff_eq.2 hc1) ?_
  refine AG.skip ?_
  refine AG.seq ?_
  refine AG.seq ?_
  refine AG.region HM ?_
  refine a_faB (q := 1) ?_ D35_1
  refine a_ldB (v := vI _) ?_ T2
  refine a_faB (q := 1) ?_ D35_1
  refine a_ldB (v := vI _) ?_ T2
  refine a_int (u := .bool ((a0_1 != a1_1))) ?_
  refine RA.nil nofun ?_
  by_cases hc2 : a0_1 = a1_1
  ·rw [if_pos hc2] at H
   refine AG.no rfl (bne_eq_false_iff_eq.2 hc2) ?_
   refine AG.skip ?_
   refine AG.seq ?_
   refine AG.seq ?_
   refine AG.region HM ?_
   refine a_faB (q := 2) ?_ D35_2
   refine a_ldB (v := vR _ _) ?_ T32
   refine a_faB (q := 2) ?_ D35_2
   refine a_ldB (v := vR _ _) ?_ T32
   obtain ⟨t3, e4, H⟩ := bindO H
   refine a_call (v := vB t3) (nk := []) (L := []) ?_ rfl (laws_eqPointS.ok e4) id (qd (qd qn)) trivial trivial trivial rfl
   refine a_un (u := .bool (!t3)) ?_
   refine RA.nil nofun ?_
   by_cases hc5 : t3 = true
   ·rw [if_pos hc5] at H
    refine AG.no rfl (congrArg Bool.not hc5) ?_
    refine AG.skip ?_
    refine AG.seq ?_
    refine AG.seq ?_
    refine AG.region HM ?_
    refine a_faB (q := 3) ?_ D35_3
    refine a_ldB (v := vR _ _) ?_ T33
    refine a_faB (q := 3) ?_ D35_3
    refine a_ldB (v := vR _ _) ?_ T33
    obtain ⟨t6, e7, H⟩ := bindO H
    refine a_call (v := vB t6) (nk := []) (L := []) ?_ rfl (laws_eqFaceS.ok e7) id (qd (qd qn)) trivial trivial trivial rfl
    refine a_un (u := .bool (!t6)) ?_
    refine RA.nil nofun ?_
    by_cases hc8 : t6 = true
    ·rw [if_pos hc8] at H
     refine AG.no rfl (congrArg Bool.not hc8) ?_
     refine AG.skip ?_
     refine AG.seq ?_
     refine AG.region HM ?_
     refine a_move (v := vB _) ?_
     refine RA.nil nofun ?_
     refine AG.ret ?_
     obtain rfl := Option.some.inj H
     exact RetP.mk id ⟨rfl, trivial⟩ trivial rfl
    ·rw [if_neg hc8] at H
     refine AG.yes rfl (congrArg Bool.not (Bool.eq_false_iff.2 hc8)) ?_
     refine AG.seq ?_
     refine AG.region HM ?_
     refine a_move (v := vB _) ?_
     refine RA.nil nofun ?_
     refine AG.ret ?_
     obtain rfl := Option.some.inj H
     exact RetP.mk id ⟨rfl, trivial⟩ trivial rfl
   ·rw [if_neg hc5] at H
    refine AG.yes rfl (congrArg Bool.not (Bool.eq_false_iff.2 hc5)) ?_
    refine AG.seq ?_
    refine AG.region HM ?_
    refine a_move (v := vB _) ?_
    refine RA.nil nofun ?_
    refine AG.ret ?_
    obtain rfl := Option.some.inj H
    exact RetP.mk id ⟨rfl, trivial⟩ trivial rfl
  ·rw [if_neg hc2] at H
   refine AG.yes rfl (bne_iff_ne.2 hc2) ?_
   refine AG.seq ?_
   refine AG.region HM ?_
   refine a_move (v := vB _) ?_
   refine RA.nil nofun ?_
   refine AG.ret ?_
   obtain rfl := Option.some.inj H
   exact RetP.mk id ⟨rfl, trivial⟩ trivial rfl
 ·rw [if_neg hc1] at H
  refine AG.yes rfl (bne_iff_ne.2 hc1) ?_
  refine AG.seq ?_
  refine AG.region HM ?_
  refine a_move (v := vB _) ?_
  refine RA.nil nofun ?_
  refine AG.ret ?_
  obtain rfl := Option.some.inj H
  exact RetP.mk id ⟨rfl, trivial⟩ trivial rfl
def laws_eqVeneer.f (a0_0 : ByteArray) (a0_1 : Int) (a0_2 : Int) (a1_0 : ByteArray) (a1_1 : Int) (a1_2 : Int) : Option (Bool) := if a0_0.toList = a1_0.toList then (if a0_1 = a1_1 then (if a0_2 = a1_2 then (some true) else (some false)) else (some false)) else (some false)
set_option maxRecDepth 100000 in
theorem laws_eqVeneer.ok {a0_0 : ByteArray} {a0_1 : Int} {a0_2 : Int} {a1_0 : ByteArray} {a1_1 : Int} {a1_2 : Int} {r : Bool} (H : laws_eqVeneer.f a0_0 a0_1 a0_2 a1_0 a1_1 a1_2 = some r) : OkF Tryz.prog 121 [.agg [.d (.v (.string a0_0)), .d (.v (.int .i64 a0_1)), .d (.v (.int .i64 a0_2))], .agg [.d (.v (.string a1_0)), .d (.v (.int .i64 a1_1)), .d (.v (.int .i64 a1_2))]] [] (.c (.d (.v (.bool r)))) [] := by
 unfold laws_eqVeneer.f at H
 refine OkF.of (N := 20) (rs := [4]) (avs := [.c (.d (.v (.bool r)))]) Tryz.func121 rfl rfl (fun _ _ => results_tmp rfl _ _ _) (by decide) rfl rfl rfl rfl (fun w0 S => ?_)
 refine AG.seq ?_
 refine AG.region HM ?_
 refine a_box 200 ?_
 refine a_box 201 ?_
 refine a_move (v := vB _) ?_
 refine RA.nil nofun ?_
 refine AG.seq ?_
 refine AG.seq ?_
 refine AG.region HM ?_
 refine a_faB (q := 0) ?_ D92_0
 refine a_ldB (v := vS _) ?_ T9
 refine a_faB (q := 0) ?_ D92_0
 refine a_ldB (v := vS _) ?_ T9
 refine a_bin (u := .bool (!(a0_0.toList == a1_0.toList))) ?_
 refine RA.nil nofun ?_
 by_cases hc1 : a0_0.toList = a1_0.toList
 ·rw [if_pos hc1] at H
  refine AG.no rfl (by rw [beq_iff_eq.2 hc1]; rfl) ?_
  refine AG.skip ?_
  refine AG.seq ?_
  refine AG.seq ?_
  refine AG.region HM ?_
  refine a_faB (q := 1) ?_ D92_1
  refine a_ldB (v := vI _) ?_ T2
  refine a_faB (q := 1) ?_ D92_1
  refine a_ldB (v := vI _) ?_ T2
  refine a_int (u := .bool ((a0_1 != a1_1))) ?_
  refine RA.nil nofun ?_
  by_cases hc2 : a0_1 = a1_1
  ·rw [if_pos hc2] at H
   refine AG.no rfl (bne_eq_false_iff_eq.2 hc2) ?_
   refine AG.skip ?_
   refine AG.seq ?_
   refine AG.seq ?_
   refine AG.region HM ?_
   refine a_faB (q := 2) ?_ D92_2
   refine a_ldB (v := vI _) ?_ T2
   refine a_faB (q := 2) ?_ D92_2
   refine a_ldB (v := vI _) ?_ T2
   refine a_int (u := .bool ((a0_2 != a1_2))) ?_
   refine RA.nil nofun ?_
   by_cases hc3 : a0_2 = a1_2
   ·rw [if_pos hc3] at H
    refine AG.no rfl (bne_eq_false_iff_eq.2 hc3) ?_
    refine AG.skip ?_
    refine AG.seq ?_
    refine AG.region HM ?_
    refine a_move (v := vB _) ?_
    refine RA.nil nofun ?_
    refine AG.ret ?_
    obtain rfl := Option.some.inj H
    exact RetP.mk id ⟨rfl, trivial⟩ trivial rfl
   ·rw [if_neg hc3] at H
    refine AG.yes rfl (bne_iff_ne.2 hc3) ?_
    refine AG.seq ?_
    refine AG.region HM ?_
    refine a_move (v := vB _) ?_
    refine RA.nil nofun ?_
    refine AG.ret ?_
    obtain rfl := Option.some.inj H
    exact RetP.mk id ⟨rfl, trivial⟩ trivial rfl
  ·rw [if_neg hc2] at H
   refine AG.yes rfl (bne_iff_ne.2 hc2) ?_
   refine AG.seq ?_
   refine AG.region HM ?_
   refine a_move (v := vB _) ?_
   refine RA.nil nofun ?_
   refine AG.ret ?_
   obtain rfl := Option.some.inj H
   exact RetP.mk id ⟨rfl, trivial⟩ trivial rfl
 ·rw [if_neg hc1] at H
  refine AG.yes rfl (by rw [beq_eq_false_iff_ne.2 hc1]; rfl) ?_
  refine AG.seq ?_
  refine AG.region HM ?_
  refine a_move (v := vB _) ?_
  refine RA.nil nofun ?_
  refine AG.ret ?_
  obtain rfl := Option.some.inj H
  exact RetP.mk id ⟨rfl, trivial⟩ trivial rfl
def laws_eqBox.f (a0_0 : Int) (a0_1 : Int) (a0_2 : Int) (a0_3 : Int) (a1_0 : Int) (a1_1 : Int) (a1_2 : Int) (a1_3 : Int) : Option (Bool) := if a0_0 = a1_0 then (if a0_1 = a1_1 then (if a0_2 = a1_2 then (if a0_3 = a1_3 then (some true) else (some false)) else (some false)) else (some false)) else (some false)
set_option maxRecDepth 100000 in
theorem laws_eqBox.ok {a0_0 : Int} {a0_1 : Int} {a0_2 : Int} {a0_3 : Int} {a1_0 : Int} {a1_1 : Int} {a1_2 : Int} {a1_3 : Int} {r : Bool} (H : laws_eqBox.f a0_0 a0_1 a0_2 a0_3 a1_0 a1_1 a1_2 a1_3 = some r) : OkF Tryz.prog 169 [.agg [.d (.v (.int .i64 a0_0)), .d (.v (.int .i64 a0_1)), .d (.v (.int .i64 a0_2)), .d (.v (.int .i64 a0_3))], .agg [.d (.v (.int .i64 a1_0)), .d (.v (.int .i64 a1_1)), .d (.v (.int .i64 a1_2)), .d (.v (.int .i64 a1_3))]] [] (.c (.d (.v (.bool r)))) [] := by
 unfold laws_eqBox.f at H
 refine OkF.of (N := 25) (rs := [4]) (avs := [.c (.d (.v (.bool r)))]) Tryz.func169 rfl rfl (fun _ _ => results_tmp rfl _ _ _) (by decide) rfl rfl rfl rfl (fun w0 S => ?_)
 refine AG.seq ?_
 refine AG.region HM ?_
 refine a_box 200 ?_
 refine a_box 201 ?_
 refine a_move (v := vB _) ?_
 refine RA.nil nofun ?_
 refine AG.seq ?_
 refine AG.seq ?_
 refine AG.region HM ?_
 refine a_faB (q := 0) ?_ D177_0
 refine a_ldB (v := vI _) ?_ T2
 refine a_faB (q := 0) ?_ D177_0
 refine a_ldB (v := vI _) ?_ T2
 refine a_int (u := .bool ((a0_0 != a1_0))) ?_
 refine RA.nil nofun ?_
 by_cases hc1 : a0_0 = a1_0
 ·rw [if_pos hc1] at H
  refine AG.no rfl (bne_eq_false_iff_eq.2 hc1) ?_
  refine AG.skip ?_
  refine AG.seq ?_
  refine AG.seq ?_
  refine AG.region HM ?_
  refine a_faB (q := 1) ?_ D177_1
  refine a_ldB (v := vI _) ?_ T2
  refine a_faB (q := 1) ?_ D177_1
  refine a_ldB (v := vI _) ?_ T2
  refine a_int (u := .bool ((a0_1 != a1_1))) ?_
  refine RA.nil nofun ?_
  by_cases hc2 : a0_1 = a1_1
  ·rw [if_pos hc2] at H
   refine AG.no rfl (bne_eq_false_iff_eq.2 hc2) ?_
   refine AG.skip ?_
   refine AG.seq ?_
   refine AG.seq ?_
   refine AG.region HM ?_
   refine a_faB (q := 2) ?_ D177_2
   refine a_ldB (v := vI _) ?_ T2
   refine a_faB (q := 2) ?_ D177_2
   refine a_ldB (v := vI _) ?_ T2
   refine a_int (u := .bool ((a0_2 != a1_2))) ?_
   refine RA.nil nofun ?_
   by_cases hc3 : a0_2 = a1_2
   ·rw [if_pos hc3] at H
    refine AG.no rfl (bne_eq_false_iff_eq.2 hc3) ?_
    refine AG.skip ?_
    refine AG.seq ?_
    refine AG.seq ?_
    refine AG.region HM ?_
    refine a_faB (q := 3) ?_ D177_3
    refine a_ldB (v := vI _) ?_ T2
    refine a_faB (q := 3) ?_ D177_3
    refine a_ldB (v := vI _) ?_ T2
    refine a_int (u := .bool ((a0_3 != a1_3))) ?_
    refine RA.nil nofun ?_
    by_cases hc4 : a0_3 = a1_3
    ·rw [if_pos hc4] at H
     refine AG.no rfl (bne_eq_false_iff_eq.2 hc4) ?_
     refine AG.skip ?_
     refine AG.seq ?_
     refine AG.region HM ?_
     refine a_move (v := vB _) ?_
     refine RA.nil nofun ?_
     refine AG.ret ?_
     obtain rfl := Option.some.inj H
     exact RetP.mk id ⟨rfl, trivial⟩ trivial rfl
    ·rw [if_neg hc4] at H
     refine AG.yes rfl (bne_iff_ne.2 hc4) ?_
     refine AG.seq ?_
     refine AG.region HM ?_
     refine a_move (v := vB _) ?_
     refine RA.nil nofun ?_
     refine AG.ret ?_
     obtain rfl := Option.some.inj H
     exact RetP.mk id ⟨rfl, trivial⟩ trivial rfl
   ·rw [if_neg hc3] at H
    refine AG.yes rfl (bne_iff_ne.2 hc3) ?_
    refine AG.seq ?_
    refine AG.region HM ?_
    refine a_move (v := vB _) ?_
    refine RA.nil nofun ?_
    refine AG.ret ?_
    obtain rfl := Option.some.inj H
    exact RetP.mk id ⟨rfl, trivial⟩ trivial rfl
  ·rw [if_neg hc2] at H
   refine AG.yes rfl (bne_iff_ne.2 hc2) ?_
   refine AG.seq ?_
   refine AG.region HM ?_
   refine a_move (v := vB _) ?_
   refine RA.nil nofun ?_
   refine AG.ret ?_
   obtain rfl := Option.some.inj H
   exact RetP.mk id ⟨rfl, trivial⟩ trivial rfl
 ·rw [if_neg hc1] at H
  refine AG.yes rfl (bne_iff_ne.2 hc1) ?_
  refine AG.seq ?_
  refine AG.region HM ?_
  refine a_move (v := vB _) ?_
  refine RA.nil nofun ?_
  refine AG.ret ?_
  obtain rfl := Option.some.inj H
  exact RetP.mk id ⟨rfl, trivial⟩ trivial rfl
def laws_eqBoxS.l0 : Nat → List S176 → List S176 → Int → Option (Bool)
 | 0, _, _, _ => none
 | k + 1, x0, x1, x5 => if x5 < (x0.length : Int) then (if 0 ≤ x5 then (if x5 < (x1.length : Int) then ((laws_eqBox.f ((rd176 x0 x5).f0) ((rd176 x0 x5).f1) ((rd176 x0 x5).f2) ((rd176 x0 x5).f3) ((rd176 x1 x5).f0) ((rd176 x1 x5).f1) ((rd176 x1 x5).f2) ((rd176 x1 x5).f3)).bind fun t5 => (if t5 = true then (laws_eqBoxS.l0 k x0 x1 (wrap64 (x5 + 1))) else (some false))) else (none)) else (none)) else (some true)
def laws_eqBoxS.f (k : Nat) (l0 : List S176) (l1 : List S176) : Option (Bool) := if (l0.length : Int) = (l1.length : Int) then (laws_eqBoxS.l0 k l0 l1 0) else (some false)
set_option maxRecDepth 100000 in
theorem laws_eqBoxS.ok {k : Nat} {l0 : List S176} {l1 : List S176} {r : Bool} (H : laws_eqBoxS.f k l0 l1 = some r) : OkF Tryz.prog 122 [vR 177 (l0.map c176), vR 177 (l1.map c176)] [] (.c (.d (.v (.bool r)))) [] := by
 unfold laws_eqBoxS.f at H
 refine OkF.of (N := 27) (rs := [4]) (avs := [.c (.d (.v (.bool r)))]) Tryz.func122 rfl rfl (fun _ _ => results_tmp rfl _ _ _) (by decide) rfl rfl rfl rfl (fun w0 S => ?_)
 refine AG.seq ?_
 refine AG.region HM ?_
 refine a_move (v := vB _) ?_
 refine RA.nil nofun ?_
 refine AG.seq ?_
 refine AG.seq ?_
 refine AG.region HM ?_
 refine a_move (v := vR _ _) ?_
 refine a_lenR ?_ Tryz.underlying93
 refine a_move (v := vR _ _) ?_
 refine a_lenR ?_ Tryz.underlying93
 refine a_int (u := .bool (((l0.length : Int) != (l1.length : Int)))) ?_
 refine RA.nil nofun ?_
 by_cases hc1 : (l0.length : Int) = (l1.length : Int)
 ·rw [if_pos hc1] at H
  refine AG.no rfl (bne_eq_false_iff_eq.2 hc1) ?_
  refine AG.skip ?_
  refine AG.seq ?_
  refine AG.seq ?_
  refine AG.region HM ?_
  refine a_move (v := vI _) ?_
  refine RA.nil nofun ?_
  refine AG.block ?_
  refine AG.loop ?_
  obtain ⟨K0, hK0, gK0⟩ : ∃ K, k ≤ K ∧ K ≤ k := ⟨k, Nat.le_refl k, Nat.le_refl k⟩
  refine AGr.canon id (AGr.loopI (n := k) (fun k s => k ≤ K0 ∧ ∃ (x0 : List S176) (x1 : List S176) (x5 : Int), laws_eqBoxS.l0 k x0 x1 x5 = some r ∧ s = St.of [(0, vR 177 (x0.map c176)), (1, vR 177 (x1.map c176)), (5, vI x5)] []) ⟨hK0, _, _, _, H, rfl⟩ ?_ ?_) ⟨rfl, rfl, rfl, trivial⟩ trivial rfl
  ·rintro _ ⟨_, _, _, _, H, _⟩
   cases H
  ·clear H hK0
   rintro k ih0 _ ⟨hK0, x0, x1, x5, H, rfl⟩
   unfold laws_eqBoxS.l0 at H
   refine AG.seq ?_
   refine AG.seq ?_
   refine AG.region HM ?_
   refine a_move (v := vI _) ?_
   refine a_move (v := vR _ _) ?_
   refine a_lenR ?_ Tryz.underlying93
   refine a_int (u := .bool (decide (x5 < (x0.length : Int)))) ?_
   refine RA.nil nofun ?_
   by_cases hc2 : x5 < (x0.length : Int)
   ·rw [if_pos hc2] at H
    refine AG.yes rfl (decide_eq_true hc2) ?_
    refine AG.skip ?_
    refine AG.seq ?_
    refine AG.block ?_
    refine AG.seq ?_
    refine AG.region HM ?_
    refine a_move (v := vR _ _) ?_
    refine a_move (v := vI _) ?_
    by_cases hc3 : 0 ≤ x5
    ·rw [if_pos hc3] at H
     refine a_ixR (el := c176 (rd176 x0 x5)) ?_ ⟨hc3, hc2⟩ T177 Tryz.underlying93 (hel := R176 hc3 hc2)
     refine a_ldR (v := .agg [_, _, _, _]) ?_ T177
     refine a_move (v := vR _ _) ?_
     refine a_move (v := vI _) ?_
     by_cases hc4 : x5 < (x1.length : Int)
     ·rw [if_pos hc4] at H
      refine a_ixR (el := c176 (rd176 x1 x5)) ?_ ⟨hc3, hc4⟩ T177 Tryz.underlying93 (hel := R176 hc3 hc4)
      refine a_ldR (v := .agg [_, _, _, _]) ?_ T177
      obtain ⟨t5, e6, H⟩ := bindO H
      refine a_call (v := vB t5) (nk := []) (L := []) ?_ rfl (laws_eqBox.ok e6) id (qg (qg qn)) trivial trivial trivial rfl
      refine a_un (u := .bool (!t5)) ?_
      refine RA.nil (fun _ => by kernel_rfl) ?_
      by_cases hc7 : t5 = true
      ·rw [if_pos hc7] at H
       refine AG.no rfl (congrArg Bool.not hc7) ?_
       refine AG.skip ?_
       refine AG.region HM ?_
       refine a_move (v := vI _) ?_
       refine a_int (u := .int .i64 (wrap64 (x5 + 1))) ?_
       refine a_move (v := vI _) ?_
       refine RA.nil nofun ?_
       exact AGr.canon id (ih0 _ (by omega) _ ⟨by omega, _, _, _, H, rfl⟩) ⟨rfl, rfl, rfl, trivial⟩ trivial rfl
      ·rw [if_neg hc7] at H
       refine AG.yes rfl (congrArg Bool.not (Bool.eq_false_iff.2 hc7)) ?_
       refine AG.seq ?_
       refine AG.region HM ?_
       refine a_move (v := vB _) ?_
       refine RA.nil nofun ?_
       refine AG.ret ?_
       obtain rfl := Option.some.inj H
       exact RetP.mk id ⟨rfl, trivial⟩ trivial rfl
     ·rw [if_neg hc4] at H
      cases H
    ·rw [if_neg hc3] at H
     cases H
   ·rw [if_neg hc2] at H
    refine AG.no rfl (decide_eq_false hc2) ?_
    refine AG.exit ?_
    refine AG.seq ?_
    refine AG.region HM ?_
    refine a_move (v := vB _) ?_
    refine RA.nil nofun ?_
    refine AG.ret ?_
    obtain rfl := Option.some.inj H
    exact RetP.mk id ⟨rfl, trivial⟩ trivial rfl
 ·rw [if_neg hc1] at H
  refine AG.yes rfl (bne_iff_ne.2 hc1) ?_
  refine AG.seq ?_
  refine AG.region HM ?_
  refine a_move (v := vB _) ?_
  refine RA.nil nofun ?_
  refine AG.ret ?_
  obtain rfl := Option.some.inj H
  exact RetP.mk id ⟨rfl, trivial⟩ trivial rfl
def laws_eqLeaf.f (k : Nat) (a0_0 : ByteArray) (a0_1 : ByteArray) (a0_2 : Int) (a0_3 : ByteArray) (a0_4 : Int) (a0_5 : Int) (a0_6 : Int) (a0_7 : Int) (l0_8 : List S176) (a1_0 : ByteArray) (a1_1 : ByteArray) (a1_2 : Int) (a1_3 : ByteArray) (a1_4 : Int) (a1_5 : Int) (a1_6 : Int) (a1_7 : Int) (l1_8 : List S176) : Option (Bool) := if a0_0.toList = a1_0.toList then (if a0_1.toList = a1_1.toList then (if a0_2 = a1_2 then ((laws_eqVeneer.f a0_3 a0_4 a0_5 a1_3 a1_4 a1_5).bind fun t4 => (if t4 = true then (if a0_6 = a1_6 then (if a0_7 = a1_7 then ((laws_eqBoxS.f k l0_8 l1_8).bind fun t9 => (if t9 = true then (some true) else (some false))) else (some false)) else (some false)) else (some false))) else (some false)) else (some false)) else (some false)
set_option maxRecDepth 100000 in
theorem laws_eqLeaf.ok {k : Nat} {a0_0 : ByteArray} {a0_1 : ByteArray} {a0_2 : Int} {a0_3 : ByteArray} {a0_4 : Int} {a0_5 : Int} {a0_6 : Int} {a0_7 : Int} {l0_8 : List S176} {a1_0 : ByteArray} {a1_1 : ByteArray} {a1_2 : Int} {a1_3 : ByteArray} {a1_4 : Int} {a1_5 : Int} {a1_6 : Int} {a1_7 : Int} {l1_8 : List S176} {r : Bool} (H : laws_eqLeaf.f k a0_0 a0_1 a0_2 a0_3 a0_4 a0_5 a0_6 a0_7 l0_8 a1_0 a1_1 a1_2 a1_3 a1_4 a1_5 a1_6 a1_7 l1_8 = some r) : OkF Tryz.prog 58 [.agg [.d (.v (.string a0_0)), .d (.v (.string a0_1)), .d (.v (.int .i64 a0_2)), .d (.v (.string a0_3)), .d (.v (.int .i64 a0_4)), .d (.v (.int .i64 a0_5)), .d (.v (.int .i64 a0_6)), .d (.v (.int .i64 a0_7)), .d (.row 177 (l0_8.map c176))], .agg [.d (.v (.string a1_0)), .d (.v (.string a1_1)), .d (.v (.int .i64 a1_2)), .d (.v (.string a1_3)), .d (.v (.int .i64 a1_4)), .d (.v (.int .i64 a1_5)), .d (.v (.int .i64 a1_6)), .d (.v (.int .i64 a1_7)), .d (.row 177 (l1_8.map c176))]] [] (.c (.d (.v (.bool r)))) [] := by
 unfold laws_eqLeaf.f at H
 refine OkF.of (N := 42) (rs := [4]) (avs := [.c (.d (.v (.bool r)))]) Tryz.func58 rfl rfl (fun _ _ => results_tmp rfl _ _ _) (by decide) rfl rfl rfl rfl (fun w0 S => ?_)
 refine AG.seq ?_
 refine AG.region HM ?_
 refine a_box 200 ?_
 refine a_box 201 ?_
 refine a_move (v := vB _) ?_
 refine RA.nil nofun ?_
 refine AG.seq ?_
 refine AG.seq ?_
 refine AG.region HM ?_
 refine a_faB (q := 0) ?_ D95_0
 refine a_ldB (v := vS _) ?_ T9
 refine a_faB (q := 0) ?_ D95_0
 refine a_ldB (v := vS _) ?_ T9
 refine a_bin (u := .bool (!(a0_0.toList == a1_0.toList))) ?_
 refine RA.nil nofun ?_
 by_cases hc1 : a0_0.toList = a1_0.toList
 ·rw [if_pos hc1] at H
  refine AG.no rfl (by rw [beq_iff_eq.2 hc1]; rfl) ?_
  refine AG.skip ?_
  refine AG.seq ?_
  refine AG.seq ?_
  refine AG.region HM ?_
  refine a_faB (q := 1) ?_ D95_1
  refine a_ldB (v := vS _) ?_ T9
  refine a_faB (q := 1) ?_ D95_1
  refine a_ldB (v := vS _) ?_ T9
  refine a_bin (u := .bool (!(a0_1.toList == a1_1.toList))) ?_
  refine RA.nil nofun ?_
  by_cases hc2 : a0_1.toList = a1_1.toList
  ·rw [if_pos hc2] at H
   refine AG.no rfl (by rw [beq_iff_eq.2 hc2]; rfl) ?_
   refine AG.skip ?_
   refine AG.seq ?_
   refine AG.seq ?_
   refine AG.region HM ?_
   refine a_faB (q := 2) ?_ D95_2
   refine a_ldB (v := vI _) ?_ T2
   refine a_faB (q := 2) ?_ D95_2
   refine a_ldB (v := vI _) ?_ T2
   refine a_int (u := .bool ((a0_2 != a1_2))) ?_
   refine RA.nil nofun ?_
   by_cases hc3 : a0_2 = a1_2
   ·rw [if_pos hc3] at H
    refine AG.no rfl (bne_eq_false_iff_eq.2 hc3) ?_
    refine AG.skip ?_
    refine AG.seq ?_
    refine AG.seq ?_
    refine AG.region HM ?_
    refine a_faB (q := 3) ?_ D95_3
    refine a_ldB (v := .agg [_, _, _]) ?_ T92
    refine a_faB (q := 3) ?_ D95_3
    refine a_ldB (v := .agg [_, _, _]) ?_ T92
    obtain ⟨t4, e5, H⟩ := bindO H
    refine a_call (v := vB t4) (nk := []) (L := []) ?_ rfl (laws_eqVeneer.ok e5) id (qg (qg qn)) trivial trivial trivial rfl
    refine a_un (u := .bool (!t4)) ?_
    refine RA.nil nofun ?_
    by_cases hc6 : t4 = true
    ·rw [if_pos hc6] at H
     refine AG.no rfl (congrArg Bool.not hc6) ?_
     refine AG.skip ?_
     refine AG.seq ?_
     refine AG.seq ?_
     refine AG.region HM ?_
     refine a_faB (q := 6) ?_ D95_4
     refine a_ldB (v := vI _) ?_ T2
     refine a_faB (q := 6) ?_ D95_4
     refine a_ldB (v := vI _) ?_ T2
     refine a_int (u := .bool ((a0_6 != a1_6))) ?_
     refine RA.nil nofun ?_
     by_cases hc7 : a0_6 = a1_6
     ·rw [if_pos hc7] at H
      refine AG.no rfl (bne_eq_false_iff_eq.2 hc7) ?_
      refine AG.skip ?_
      refine AG.seq ?_
      refine AG.seq ?_
      refine AG.region HM ?_
      refine a_faB (q := 7) ?_ D95_5
      refine a_ldB (v := vI _) ?_ T2
      refine a_faB (q := 7) ?_ D95_5
      refine a_ldB (v := vI _) ?_ T2
      refine a_int (u := .bool ((a0_7 != a1_7))) ?_
      refine RA.nil nofun ?_
      by_cases hc8 : a0_7 = a1_7
      ·rw [if_pos hc8] at H
       refine AG.no rfl (bne_eq_false_iff_eq.2 hc8) ?_
       refine AG.skip ?_
       refine AG.seq ?_
       refine AG.seq ?_
       refine AG.region HM ?_
       refine a_faB (q := 8) ?_ D95_6
       refine a_ldB (v := vR _ _) ?_ T93
       refine a_faB (q := 8) ?_ D95_6
       refine a_ldB (v := vR _ _) ?_ T93
       obtain ⟨t9, e10, H⟩ := bindO H
       refine a_call (v := vB t9) (nk := []) (L := []) ?_ rfl (laws_eqBoxS.ok e10) id (qd (qd qn)) trivial trivial trivial rfl
       refine a_un (u := .bool (!t9)) ?_
       refine RA.nil nofun ?_
       by_cases hc11 : t9 = true
       ·rw [if_pos hc11] at H
        refine AG.no rfl (congrArg Bool.not hc11) ?_
        refine AG.skip ?_
        refine AG.seq ?_
        refine AG.region HM ?_
        refine a_move (v := vB _) ?_
        refine RA.nil nofun ?_
        refine AG.ret ?_
        obtain rfl := Option.some.inj H
        exact RetP.mk id ⟨rfl, trivial⟩ trivial rfl
       ·rw [if_neg hc11] at H
        refine AG.yes rfl (congrArg Bool.not (Bool.eq_false_iff.2 hc11)) ?_
        refine AG.seq ?_
        refine AG.region HM ?_
        refine a_move (v := vB _) ?_
        refine RA.nil nofun ?_
        refine AG.ret ?_
        obtain rfl := Option.some.inj H
        exact RetP.mk id ⟨rfl, trivial⟩ trivial rfl
      ·rw [if_neg hc8] at H
       refine AG.yes rfl (bne_iff_ne.2 hc8) ?_
       refine AG.seq ?_
       refine AG.region HM ?_
       refine a_move (v := vB _) ?_
       refine RA.nil nofun ?_
       refine AG.ret ?_
       obtain rfl := Option.some.inj H
       exact RetP.mk id ⟨rfl, trivial⟩ trivial rfl
     ·rw [if_neg hc7] at H
      refine AG.yes rfl (bne_iff_ne.2 hc7) ?_
      refine AG.seq ?_
      refine AG.region HM ?_
      refine a_move (v := vB _) ?_
      refine RA.nil nofun ?_
      refine AG.ret ?_
      obtain rfl := Option.some.inj H
      exact RetP.mk id ⟨rfl, trivial⟩ trivial rfl
    ·rw [if_neg hc6] at H
     refine AG.yes rfl (congrArg Bool.not (Bool.eq_false_iff.2 hc6)) ?_
     refine AG.seq ?_
     refine AG.region HM ?_
     refine a_move (v := vB _) ?_
     refine RA.nil nofun ?_
     refine AG.ret ?_
     obtain rfl := Option.some.inj H
     exact RetP.mk id ⟨rfl, trivial⟩ trivial rfl
   ·rw [if_neg hc3] at H
    refine AG.yes rfl (bne_iff_ne.2 hc3) ?_
    refine AG.seq ?_
    refine AG.region HM ?_
    refine a_move (v := vB _) ?_
    refine RA.nil nofun ?_
    refine AG.ret ?_
    obtain rfl := Option.some.inj H
    exact RetP.mk id ⟨rfl, trivial⟩ trivial rfl
  ·rw [if_neg hc2] at H
   refine AG.yes rfl (by rw [beq_eq_false_iff_ne.2 hc2]; rfl) ?_
   refine AG.seq ?_
   refine AG.region HM ?_
   refine a_move (v := vB _) ?_
   refine RA.nil nofun ?_
   refine AG.ret ?_
   obtain rfl := Option.some.inj H
   exact RetP.mk id ⟨rfl, trivial⟩ trivial rfl
 ·rw [if_neg hc1] at H
  refine AG.yes rfl (by rw [beq_eq_false_iff_ne.2 hc1]; rfl) ?_
  refine AG.seq ?_
  refine AG.region HM ?_
  refine a_move (v := vB _) ?_
  refine RA.nil nofun ?_
  refine AG.ret ?_
  obtain rfl := Option.some.inj H
  exact RetP.mk id ⟨rfl, trivial⟩ trivial rfl
def laws_eqLeafS.l0 : Nat → List S94 → List S94 → Int → Option (Bool)
 | 0, _, _, _ => none
 | k + 1, x0, x1, x5 => if x5 < (x0.length : Int) then (if 0 ≤ x5 then (if x5 < (x1.length : Int) then ((laws_eqLeaf.f k ((rd94 x0 x5).f0) ((rd94 x0 x5).f1) ((rd94 x0 x5).f2) ((rd94 x0 x5).f3.f0) ((rd94 x0 x5).f3.f1) ((rd94 x0 x5).f3.f2) ((rd94 x0 x5).f4) ((rd94 x0 x5).f5) ((rd94 x0 x5).f6) ((rd94 x1 x5).f0) ((rd94 x1 x5).f1) ((rd94 x1 x5).f2) ((rd94 x1 x5).f3.f0) ((rd94 x1 x5).f3.f1) ((rd94 x1 x5).f3.f2) ((rd94 x1 x5).f4) ((rd94 x1 x5).f5) ((rd94 x1 x5).f6)).bind fun t5 => (if t5 = true then (laws_eqLeafS.l0 k x0 x1 (wrap64 (x5 + 1))) else (some false))) else (none)) else (none)) else (some true)
def laws_eqLeafS.f (k : Nat) (l0 : List S94) (l1 : List S94) : Option (Bool) := if (l0.length : Int) = (l1.length : Int) then (laws_eqLeafS.l0 k l0 l1 0) else (some false)
set_option maxRecDepth 100000 in
theorem laws_eqLeafS.ok {k : Nat} {l0 : List S94} {l1 : List S94} {r : Bool} (H : laws_eqLeafS.f k l0 l1 = some r) : OkF Tryz.prog 17 [vR 95 (l0.map c94), vR 95 (l1.map c94)] [] (.c (.d (.v (.bool r)))) [] := by
 unfold laws_eqLeafS.f at H
 refine OkF.of (N := 27) (rs := [4]) (avs := [.c (.d (.v (.bool r)))]) Tryz.func17 rfl rfl (fun _ _ => results_tmp rfl _ _ _) (by decide) rfl rfl rfl rfl (fun w0 S => ?_)
 refine AG.seq ?_
 refine AG.region HM ?_
 refine a_move (v := vB _) ?_
 refine RA.nil nofun ?_
 refine AG.seq ?_
 refine AG.seq ?_
 refine AG.region HM ?_
 refine a_move (v := vR _ _) ?_
 refine a_lenR ?_ Tryz.underlying37
 refine a_move (v := vR _ _) ?_
 refine a_lenR ?_ Tryz.underlying37
 refine a_int (u := .bool (((l0.length : Int) != (l1.length : Int)))) ?_
 refine RA.nil nofun ?_
 by_cases hc1 : (l0.length : Int) = (l1.length : Int)
 ·rw [if_pos hc1] at H
  refine AG.no rfl (bne_eq_false_iff_eq.2 hc1) ?_
  refine AG.skip ?_
  refine AG.seq ?_
  refine AG.seq ?_
  refine AG.region HM ?_
  refine a_move (v := vI _) ?_
  refine RA.nil nofun ?_
  refine AG.block ?_
  refine AG.loop ?_
  obtain ⟨K0, hK0, gK0⟩ : ∃ K, k ≤ K ∧ K ≤ k := ⟨k, Nat.le_refl k, Nat.le_refl k⟩
  refine AGr.canon id (AGr.loopI (n := k) (fun k s => k ≤ K0 ∧ ∃ (x0 : List S94) (x1 : List S94) (x5 : Int), laws_eqLeafS.l0 k x0 x1 x5 = some r ∧ s = St.of [(0, vR 95 (x0.map c94)), (1, vR 95 (x1.map c94)), (5, vI x5)] []) ⟨hK0, _, _, _, H, rfl⟩ ?_ ?_) ⟨rfl, rfl, rfl, trivial⟩ trivial rfl
  ·rintro _ ⟨_, _, _, _, H, _⟩
   cases H
  ·clear H hK0
   rintro k ih0 _ ⟨hK0, x0, x1, x5, H, rfl⟩
   unfold laws_eqLeafS.l0 at H
   refine AG.seq ?_
   refine AG.seq ?_
   refine AG.region HM ?_
   refine a_move (v := vI _) ?_
   refine a_move (v := vR _ _) ?_
   refine a_lenR ?_ Tryz.underlying37
   refine a_int (u := .bool (decide (x5 < (x0.length : Int)))) ?_
   refine RA.nil nofun ?_
   by_cases hc2 : x5 < (x0.length : Int)
   ·rw [if_pos hc2] at H
    refine AG.yes rfl (decide_eq_true hc2) ?_
    refine AG.skip ?_
    refine AG.seq ?_
    refine AG.block ?_
    refine AG.seq ?_
    refine AG.region HM ?_
    refine a_move (v := vR _ _) ?_
    refine a_move (v := vI _) ?_
    by_cases hc3 : 0 ≤ x5
    ·rw [if_pos hc3] at H
     refine a_ixR (el := c94 (rd94 x0 x5)) ?_ ⟨hc3, hc2⟩ T95 Tryz.underlying37 (hel := R94 hc3 hc2)
     refine a_ldR (v := .agg [_, _, _, _, _, _, _, _, _]) ?_ T95
     refine a_move (v := vR _ _) ?_
     refine a_move (v := vI _) ?_
     by_cases hc4 : x5 < (x1.length : Int)
     ·rw [if_pos hc4] at H
      refine a_ixR (el := c94 (rd94 x1 x5)) ?_ ⟨hc3, hc4⟩ T95 Tryz.underlying37 (hel := R94 hc3 hc4)
      refine a_ldR (v := .agg [_, _, _, _, _, _, _, _, _]) ?_ T95
      obtain ⟨t5, e6, H⟩ := bindO H
      refine a_call (v := vB t5) (nk := []) (L := []) ?_ rfl (laws_eqLeaf.ok e6) id (qg (qg qn)) trivial trivial trivial rfl
      refine a_un (u := .bool (!t5)) ?_
      refine RA.nil (fun _ => by kernel_rfl) ?_
      by_cases hc7 : t5 = true
      ·rw [if_pos hc7] at H
       refine AG.no rfl (congrArg Bool.not hc7) ?_
       refine AG.skip ?_
       refine AG.region HM ?_
       refine a_move (v := vI _) ?_
       refine a_int (u := .int .i64 (wrap64 (x5 + 1))) ?_
       refine a_move (v := vI _) ?_
       refine RA.nil nofun ?_
       exact AGr.canon id (ih0 _ (by omega) _ ⟨by omega, _, _, _, H, rfl⟩) ⟨rfl, rfl, rfl, trivial⟩ trivial rfl
      ·rw [if_neg hc7] at H
       refine AG.yes rfl (congrArg Bool.not (Bool.eq_false_iff.2 hc7)) ?_
       refine AG.seq ?_
       refine AG.region HM ?_
       refine a_move (v := vB _) ?_
       refine RA.nil nofun ?_
       refine AG.ret ?_
       obtain rfl := Option.some.inj H
       exact RetP.mk id ⟨rfl, trivial⟩ trivial rfl
     ·rw [if_neg hc4] at H
      cases H
    ·rw [if_neg hc3] at H
     cases H
   ·rw [if_neg hc2] at H
    refine AG.no rfl (decide_eq_false hc2) ?_
    refine AG.exit ?_
    refine AG.seq ?_
    refine AG.region HM ?_
    refine a_move (v := vB _) ?_
    refine RA.nil nofun ?_
    refine AG.ret ?_
    obtain rfl := Option.some.inj H
    exact RetP.mk id ⟨rfl, trivial⟩ trivial rfl
 ·rw [if_neg hc1] at H
  refine AG.yes rfl (bne_iff_ne.2 hc1) ?_
  refine AG.seq ?_
  refine AG.region HM ?_
  refine a_move (v := vB _) ?_
  refine RA.nil nofun ?_
  refine AG.ret ?_
  obtain rfl := Option.some.inj H
  exact RetP.mk id ⟨rfl, trivial⟩ trivial rfl
def spec_l00In.f (a0 : Int) (a1 : Int) (a2 : Int) : Option (Bool) := if a0 ≥ a1 then (some (decide (a0 ≤ a2))) else (some false)
set_option maxRecDepth 100000 in
theorem spec_l00In.ok {a0 : Int} {a1 : Int} {a2 : Int} {r : Bool} (H : spec_l00In.f a0 a1 a2 = some r) : OkF Tryz.prog 99 [vI a0, vI a1, vI a2] [] (.c (.d (.v (.bool r)))) [] := by
 unfold spec_l00In.f at H
 refine OkF.of (N := 15) (rs := [6]) (avs := [.c (.d (.v (.bool r)))]) Tryz.func99 rfl rfl (fun _ _ => results_tmp rfl _ _ _) (by decide) rfl rfl rfl rfl (fun w0 S => ?_)
 refine AG.seq ?_
 refine AG.region HM ?_
 refine a_move (v := vB _) ?_
 refine RA.nil nofun ?_
 refine AG.seq ?_
 refine AG.region HM ?_
 refine a_move (v := vI _) ?_
 refine a_move (v := vI _) ?_
 refine a_int (u := .bool (decide (a0 ≥ a1))) ?_
 refine a_move (v := vB _) ?_
 by_cases hc1 : a0 ≥ a1
 ·rw [if_pos hc1] at H
  refine a_move (v := vI _) ?_ (hg := Gs.yes rfl rfl rfl (decide_eq_true hc1))
  refine a_move (v := vI _) ?_ (hg := Gs.yes rfl rfl rfl (decide_eq_true hc1))
  refine a_int (u := .bool (decide (a0 ≤ a2))) ?_ (hg := Gs.yes rfl rfl rfl (decide_eq_true hc1))
  refine a_pick (b := true) (v := vB _) ?_ (decide_eq_true hc1)
  refine a_move (v := vB _) ?_
  refine RA.nil nofun ?_
  refine AG.ret ?_
  obtain rfl := Option.some.inj H
  exact RetP.mk id ⟨rfl, trivial⟩ trivial rfl
 ·rw [if_neg hc1] at H
  refine RA.skip rfl rfl rfl rfl rfl (decide_eq_false hc1) (by decide) ?_
  refine RA.skip rfl rfl rfl rfl rfl (decide_eq_false hc1) (by decide) ?_
  refine RA.skip rfl rfl rfl rfl rfl (decide_eq_false hc1) (by decide) ?_
  refine a_pick (b := false) (v := vB _) ?_ (decide_eq_false hc1)
  refine a_move (v := vB _) ?_
  refine RA.nil nofun ?_
  refine AG.ret ?_
  obtain rfl := Option.some.inj H
  exact RetP.mk id ⟨rfl, trivial⟩ trivial rfl
mutual
def spec_l05Points.l0 : Nat → Int → Int → List S159 → Int → Option (Bool)
 | 0, _, _, _, _ => none
 | k + 1, x0_0, x0_1, x0_2, x3 => if x3 < (x0_2.length : Int) then (if 0 ≤ x3 then ((spec_l00In.f ((rd159 x0_2 x3).f0) 0 x0_0).bind fun t4 => (if t4 = true then ((spec_l00In.f ((rd159 x0_2 x3).f1) 0 x0_1).bind fun t7 => (spec_l05Points.j0 k x0_0 x0_1 x0_2 x3 (!t7))) else (spec_l05Points.j0 k x0_0 x0_1 x0_2 x3 true))) else (none)) else (some true)
def spec_l05Points.j0 : Nat → Int → Int → List S159 → Int → Bool → Option (Bool)
 | 0, _, _, _, _, _ => none
 | k + 1, x0_0, x0_1, x0_2, x3, x49 => if x49 = true then (some false) else (spec_l05Points.l1 k x0_0 x0_1 x0_2 x3 0)
def spec_l05Points.l1 : Nat → Int → Int → List S159 → Int → Int → Option (Bool)
 | 0, _, _, _, _, _ => none
 | k + 1, x0_0, x0_1, x0_2, x3, x4 => if x4 < x3 then (if 0 ≤ x3 then (if x3 < (x0_2.length : Int) then (if 0 ≤ x4 then (if x4 < (x0_2.length : Int) then (if (((rd159 x0_2 x3).f0) == ((rd159 x0_2 x4).f0) && (((rd159 x0_2 x3).f1) == ((rd159 x0_2 x4).f1))) = true then (some false) else (spec_l05Points.l1 k x0_0 x0_1 x0_2 x3 (wrap64 (x4 + 1)))) else (none)) else (none)) else (none)) else (none)) else (spec_l05Points.l0 k x0_0 x0_1 x0_2 (wrap64 (x3 + 1)))
end
def spec_l05Points.f (k : Nat) (a0_0 : Int) (a0_1 : Int) (l0_2 : List S159) (l0_3 : List S146) : Option (Bool) := if (l0_2.length : Int) > 48 then (some false) else (spec_l05Points.l0 k a0_0 a0_1 l0_2 0)
set_option maxRecDepth 100000 in
theorem spec_l05Points.ok {k : Nat} {a0_0 : Int} {a0_1 : Int} {l0_2 : List S159} {l0_3 : List S146} {r : Bool} (H : spec_l05Points.f k a0_0 a0_1 l0_2 l0_3 = some r) : OkF Tryz.prog 100 [.c (.d (.ro [.v (.int .i64 a0_0), .v (.int .i64 a0_1), .row 160 (l0_2.map c159), .row 152 (l0_3.map c146)]))] [] (.c (.d (.v (.bool r)))) [] := by
 unfold spec_l05Points.f at H
 refine OkF.of (N := 70) (rs := [2]) (avs := [.c (.d (.v (.bool r)))]) Tryz.func100 rfl rfl (fun _ _ => results_tmp rfl _ _ _) (by decide) rfl rfl rfl rfl (fun w0 S => ?_)
 refine AG.seq ?_
 refine AG.region HM ?_
 refine a_move (v := vB _) ?_
 refine RA.nil nofun ?_
 refine AG.seq ?_
 refine AG.seq ?_
 refine AG.region HM ?_
 refine a_move (v := vO [_, _, _, _]) ?_
 refine a_nil (v := vO [_, _, _, _]) ?_
 refine a_faR (cells' := [_, _]) ?_ D35_2
 refine a_ldR (v := vR _ _) ?_ T32
 refine a_lenR ?_ Tryz.underlying32
 refine a_int (u := .bool (decide ((l0_2.length : Int) > 48))) ?_
 refine RA.nil nofun ?_
 by_cases hc1 : (l0_2.length : Int) > 48
 ·rw [if_pos hc1] at H
  refine AG.yes rfl (decide_eq_true hc1) ?_
  refine AG.seq ?_
  refine AG.region HM ?_
  refine a_move (v := vB _) ?_
  refine RA.nil nofun ?_
  refine AG.ret ?_
  obtain rfl := Option.some.inj H
  exact RetP.mk id ⟨rfl, trivial⟩ trivial rfl
 ·rw [if_neg hc1] at H
  refine AG.no rfl (decide_eq_false hc1) ?_
  refine AG.skip ?_
  refine AG.seq ?_
  refine AG.seq ?_
  refine AG.region HM ?_
  refine a_move (v := vI _) ?_
  refine RA.nil nofun ?_
  refine AG.block ?_
  refine AG.loop ?_
  obtain ⟨K0, hK0, gK0⟩ : ∃ K, k ≤ K ∧ K ≤ k := ⟨k, Nat.le_refl k, Nat.le_refl k⟩
  refine AGr.canon id (AGr.loopI (n := k) (fun k s => k ≤ K0 ∧ ∃ (x0_0 : Int) (x0_1 : Int) (x0_2 : List S159) (x0_3 : List S146) (x3 : Int), spec_l05Points.l0 k x0_0 x0_1 x0_2 x3 = some r ∧ s = St.of [(0, .c (.d (.ro [.v (.int .i64 x0_0), .v (.int .i64 x0_1), .row 160 (x0_2.map c159), .row 152 (x0_3.map c146)]))), (3, vI x3)] []) ⟨hK0, _, _, _, _, _, H, rfl⟩ ?_ ?_) ⟨rfl, rfl, trivial⟩ trivial rfl
  ·rintro _ ⟨_, _, _, _, _, _, H, _⟩
   cases H
  ·clear H hK0
   rintro k ih0 _ ⟨hK0, x0_0, x0_1, x0_2, x0_3, x3, H, rfl⟩
   unfold spec_l05Points.l0 at H
   refine AG.seq ?_
   refine AG.seq ?_
   refine AG.region HM ?_
   refine a_move (v := vI _) ?_
   refine a_move (v := vO [_, _, _, _]) ?_
   refine a_nil (v := vO [_, _, _, _]) ?_
   refine a_faR (cells' := [_, _]) ?_ D35_2
   refine a_ldR (v := vR _ _) ?_ T32
   refine a_lenR ?_ Tryz.underlying32
   refine a_int (u := .bool (decide (x3 < (x0_2.length : Int)))) ?_
   refine RA.nil nofun ?_
   by_cases hc2 : x3 < (x0_2.length : Int)
   ·rw [if_pos hc2] at H
    refine AG.yes rfl (decide_eq_true hc2) ?_
    refine AG.skip ?_
    refine AG.seq ?_
    refine AG.block ?_
    refine AG.seq ?_
    refine AG.seq ?_
    refine AG.joinR (fun s => ∃ q, q ≤ k ∧ ∃ (x0_0 : Int) (x0_1 : Int) (x0_2 : List S159) (x0_3 : List S146) (x3 : Int) (x49 : Bool), spec_l05Points.j0 q x0_0 x0_1 x0_2 x3 x49 = some r ∧ s = St.of [(0, .c (.d (.ro [.v (.int .i64 x0_0), .v (.int .i64 x0_1), .row 160 (x0_2.map c159), .row 152 (x0_3.map c146)]))), (3, vI x3), (49, vB x49)] []) ?_ ?_
    ·skip
     refine AG.region HM ?_
     refine a_move (v := vO [_, _, _, _]) ?_
     refine a_nil (v := vO [_, _, _, _]) ?_
     refine a_faR (cells' := [_, _]) ?_ D35_2
     refine a_ldR (v := vR _ _) ?_ T32
     refine a_move (v := vI _) ?_
     by_cases hc3 : 0 ≤ x3
     ·rw [if_pos hc3] at H
      refine a_ixR (el := c159 (rd159 x0_2 x3)) ?_ ⟨hc3, hc2⟩ T160 Tryz.underlying32 (hel := R159 hc3 hc2)
      refine a_faR (cells' := [_, _]) ?_ D160_0
      refine a_ldR (v := vI _) ?_ T2
      refine a_move (v := vO [_, _, _, _]) ?_
      refine a_nil (v := vO [_, _, _, _]) ?_
      refine a_faR (cells' := [_, _, _, _]) ?_ D35_0
      refine a_ldR (v := vI _) ?_ T2
      obtain ⟨t4, e5, H⟩ := bindO H
      refine a_call (v := vB t4) (nk := []) (L := []) ?_ rfl (spec_l00In.ok e5) id (qd (qd (qd qn))) trivial trivial trivial rfl
      refine a_un (u := .bool (!t4)) ?_
      refine a_move (v := vB _) ?_
      by_cases hc6 : t4 = true
      ·rw [if_pos hc6] at H
       refine a_move (v := vO [_, _, _, _]) ?_ (hg := Gs.yes rfl rfl rfl (congrArg Bool.not hc6))
       refine a_nil (v := vO [_, _, _, _]) ?_ (hg := Gs.yes rfl rfl rfl (congrArg Bool.not hc6))
       refine a_faR (cells' := [_, _]) ?_ D35_2 (hg := Gs.yes rfl rfl rfl (congrArg Bool.not hc6))
       refine a_ldR (v := vR _ _) ?_ T32 (hg := Gs.yes rfl rfl rfl (congrArg Bool.not hc6))
       refine a_move (v := vI _) ?_ (hg := Gs.yes rfl rfl rfl (congrArg Bool.not hc6))
       refine a_ixR (el := c159 (rd159 x0_2 x3)) ?_ ⟨hc3, hc2⟩ T160 Tryz.underlying32 (hel := R159 hc3 hc2) (hg := Gs.yes rfl rfl rfl (congrArg Bool.not hc6))
       refine a_faR (cells' := [_]) ?_ D160_1 (hg := Gs.yes rfl rfl rfl (congrArg Bool.not hc6))
       refine a_ldR (v := vI _) ?_ T2 (hg := Gs.yes rfl rfl rfl (congrArg Bool.not hc6))
       refine a_move (v := vO [_, _, _, _]) ?_ (hg := Gs.yes rfl rfl rfl (congrArg Bool.not hc6))
       refine a_nil (v := vO [_, _, _, _]) ?_ (hg := Gs.yes rfl rfl rfl (congrArg Bool.not hc6))
       refine a_faR (cells' := [_, _, _]) ?_ D35_1 (hg := Gs.yes rfl rfl rfl (congrArg Bool.not hc6))
       refine a_ldR (v := vI _) ?_ T2 (hg := Gs.yes rfl rfl rfl (congrArg Bool.not hc6))
       obtain ⟨t7, e8, H⟩ := bindO H
       refine a_call (v := vB t7) (nk := []) (L := []) ?_ rfl (spec_l00In.ok e8) id (qd (qd (qd qn))) trivial trivial trivial rfl (hg := Gs.yes rfl rfl rfl (congrArg Bool.not hc6))
       refine a_un (u := .bool (!t7)) ?_ (hg := Gs.yes rfl rfl rfl (congrArg Bool.not hc6))
       refine a_pick (b := false) (v := vB _) ?_ (congrArg Bool.not hc6)
       refine RA.nil (fun _ => by kernel_rfl) ?_
       exact CanR.mk id ⟨_, (by omega), _, _, _, _, _, _, H, rfl⟩ ⟨rfl, rfl, rfl, trivial⟩ trivial rfl
      ·rw [if_neg hc6] at H
       refine RA.skip rfl rfl rfl rfl rfl (congrArg Bool.not (Bool.eq_false_iff.2 hc6)) (by decide) ?_
       refine RA.skip rfl rfl rfl rfl rfl (congrArg Bool.not (Bool.eq_false_iff.2 hc6)) (by decide) ?_
       refine RA.skip rfl rfl rfl rfl rfl (congrArg Bool.not (Bool.eq_false_iff.2 hc6)) (by decide) ?_
       refine RA.skip rfl rfl rfl rfl rfl (congrArg Bool.not (Bool.eq_false_iff.2 hc6)) (by decide) ?_
       refine RA.skip rfl rfl rfl rfl rfl (congrArg Bool.not (Bool.eq_false_iff.2 hc6)) (by decide) ?_
       refine RA.skip rfl rfl rfl rfl rfl (congrArg Bool.not (Bool.eq_false_iff.2 hc6)) (by decide) ?_
       refine RA.skip rfl rfl rfl rfl rfl (congrArg Bool.not (Bool.eq_false_iff.2 hc6)) (by decide) ?_
       refine RA.skip rfl rfl rfl rfl rfl (congrArg Bool.not (Bool.eq_false_iff.2 hc6)) (by decide) ?_
       refine RA.skip rfl rfl rfl rfl rfl (congrArg Bool.not (Bool.eq_false_iff.2 hc6)) (by decide) ?_
       refine RA.skip rfl rfl rfl rfl rfl (congrArg Bool.not (Bool.eq_false_iff.2 hc6)) (by decide) ?_
       refine RA.skip rfl rfl rfl rfl rfl (congrArg Bool.not (Bool.eq_false_iff.2 hc6)) (by decide) ?_
       refine RA.skip rfl rfl rfl rfl rfl (congrArg Bool.not (Bool.eq_false_iff.2 hc6)) (by decide) ?_
       refine RA.skip rfl rfl rfl rfl rfl (congrArg Bool.not (Bool.eq_false_iff.2 hc6)) (by decide) ?_
       refine RA.skip rfl rfl rfl rfl rfl (congrArg Bool.not (Bool.eq_false_iff.2 hc6)) (by decide) ?_
       refine a_pick (b := true) (v := vB _) ?_ (congrArg Bool.not (Bool.eq_false_iff.2 hc6))
       refine RA.nil (fun _ => by kernel_rfl) ?_
       exact CanR.mk id ⟨_, (by omega), _, _, _, _, _, _, H, rfl⟩ ⟨rfl, rfl, rfl, trivial⟩ trivial rfl
     ·rw [if_neg hc3] at H
      cases H
    ·clear H
     rintro _ ⟨k, hj0, x0_0, x0_1, x0_2, x0_3, x3, x49, H, rfl⟩
     cases k with
     | zero => cases H
     | succ k =>
      rw [spec_l05Points.j0] at H
      by_cases hc9 : x49 = true
      ·rw [if_pos hc9] at H
       refine AG.yes rfl hc9 ?_
       refine AG.seq ?_
       refine AG.region HM ?_
       refine a_move (v := vB _) ?_
       refine RA.nil nofun ?_
       refine AG.ret ?_
       obtain rfl := Option.some.inj H
       exact RetP.mk id ⟨rfl, trivial⟩ trivial rfl
      ·rw [if_neg hc9] at H
       refine AG.no rfl (Bool.eq_false_iff.2 hc9) ?_
       refine AG.skip ?_
       refine AG.seq ?_
       refine AG.region HM ?_
       refine a_move (v := vI _) ?_
       refine RA.nil nofun ?_
       refine AG.block ?_
       refine AG.loop ?_
       obtain ⟨K1, hK1, gK1⟩ : ∃ K, k ≤ K ∧ K ≤ k := ⟨k, Nat.le_refl k, Nat.le_refl k⟩
       refine AGr.canon id (AGr.loopI (n := k) (fun k s => k ≤ K1 ∧ ∃ (x0_0 : Int) (x0_1 : Int) (x0_2 : List S159) (x0_3 : List S146) (x3 : Int) (x4 : Int), spec_l05Points.l1 k x0_0 x0_1 x0_2 x3 x4 = some r ∧ s = St.of [(0, .c (.d (.ro [.v (.int .i64 x0_0), .v (.int .i64 x0_1), .row 160 (x0_2.map c159), .row 152 (x0_3.map c146)]))), (3, vI x3), (4, vI x4)] []) ⟨hK1, _, _, _, _, _, _, H, rfl⟩ ?_ ?_) ⟨rfl, rfl, rfl, trivial⟩ trivial rfl
       ·rintro _ ⟨_, _, _, _, _, _, _, H, _⟩
        cases H
       ·clear H hK1
        rintro k ih1 _ ⟨hK1, x0_0, x0_1, x0_2, x0_3, x3, x4, H, rfl⟩
        unfold spec_l05Points.l1 at H
        refine AG.seq ?_
        refine AG.seq ?_
        refine AG.region HM ?_
        refine a_move (v := vI _) ?_
        refine a_move (v := vI _) ?_
        refine a_int (u := .bool (decide (x4 < x3))) ?_
        refine RA.nil nofun ?_
        by_cases hc10 : x4 < x3
        ·rw [if_pos hc10] at H
         refine AG.yes rfl (decide_eq_true hc10) ?_
         refine AG.skip ?_
         refine AG.seq ?_
         refine AG.block ?_
         refine AG.seq ?_
         refine AG.region HM ?_
         refine a_move (v := vO [_, _, _, _]) ?_
         refine a_nil (v := vO [_, _, _, _]) ?_
         refine a_faR (cells' := [_, _]) ?_ D35_2
         refine a_ldR (v := vR _ _) ?_ T32
         refine a_move (v := vI _) ?_
         by_cases hc11 : 0 ≤ x3
         ·rw [if_pos hc11] at H
          by_cases hc12 : x3 < (x0_2.length : Int)
          ·rw [if_pos hc12] at H
           refine a_ixR (el := c159 (rd159 x0_2 x3)) ?_ ⟨hc11, hc12⟩ T160 Tryz.underlying32 (hel := R159 hc11 hc12)
           refine a_ldR (v := .agg [_, _]) ?_ T160
           refine a_move (v := vO [_, _, _, _]) ?_
           refine a_nil (v := vO [_, _, _, _]) ?_
           refine a_faR (cells' := [_, _]) ?_ D35_2
           refine a_ldR (v := vR _ _) ?_ T32
           refine a_move (v := vI _) ?_
           by_cases hc13 : 0 ≤ x4
           ·rw [if_pos hc13] at H
            by_cases hc14 : x4 < (x0_2.length : Int)
            ·rw [if_pos hc14] at H
             refine a_ixR (el := c159 (rd159 x0_2 x4)) ?_ ⟨hc13, hc14⟩ T160 Tryz.underlying32 (hel := R159 hc13 hc14)
             refine a_ldR (v := .agg [_, _]) ?_ T160
             refine a_eqS (b := (((rd159 x0_2 x3).f0) == ((rd159 x0_2 x4).f0) && (((rd159 x0_2 x3).f1) == ((rd159 x0_2 x4).f1)))) ?_ (.inl ⟨rfl, rfl⟩) (Q160 ((rd159 x0_2 x3).f0) ((rd159 x0_2 x4).f0) ((rd159 x0_2 x3).f1) ((rd159 x0_2 x4).f1)).1
             refine RA.nil (fun _ => by kernel_rfl) ?_
             by_cases hc15 : (((rd159 x0_2 x3).f0) == ((rd159 x0_2 x4).f0) && (((rd159 x0_2 x3).f1) == ((rd159 x0_2 x4).f1))) = true
             ·rw [if_pos hc15] at H
              refine AG.yes rfl hc15 ?_
              refine AG.seq ?_
              refine AG.region HM ?_
              refine a_move (v := vB _) ?_
              refine RA.nil nofun ?_
              refine AG.ret ?_
              obtain rfl := Option.some.inj H
              exact RetP.mk id ⟨rfl, trivial⟩ trivial rfl
             ·rw [if_neg hc15] at H
              refine AG.no rfl (Bool.eq_false_iff.2 hc15) ?_
              refine AG.skip ?_
              refine AG.region HM ?_
              refine a_move (v := vI _) ?_
              refine a_int (u := .int .i64 (wrap64 (x4 + 1))) ?_
              refine a_move (v := vI _) ?_
              refine RA.nil nofun ?_
              exact AGr.canon id (ih1 _ (by omega) _ ⟨by omega, _, _, _, _, _, _, H, rfl⟩) ⟨rfl, rfl, rfl, trivial⟩ trivial rfl
            ·rw [if_neg hc14] at H
             cases H
           ·rw [if_neg hc13] at H
            cases H
          ·rw [if_neg hc12] at H
           cases H
         ·rw [if_neg hc11] at H
          cases H
        ·rw [if_neg hc10] at H
         refine AG.no rfl (decide_eq_false hc10) ?_
         refine AG.exit ?_
         refine AG.region HM ?_
         refine a_move (v := vI _) ?_
         refine a_int (u := .int .i64 (wrap64 (x3 + 1))) ?_
         refine a_move (v := vI _) ?_
         refine RA.nil nofun ?_
         exact AGr.canon id (ih0 _ (by omega) _ ⟨by omega, _, _, _, _, _, H, rfl⟩) ⟨rfl, rfl, trivial⟩ trivial rfl
   ·rw [if_neg hc2] at H
    refine AG.no rfl (decide_eq_false hc2) ?_
    refine AG.exit ?_
    refine AG.seq ?_
    refine AG.region HM ?_
    refine a_move (v := vB _) ?_
    refine RA.nil nofun ?_
    refine AG.ret ?_
    obtain rfl := Option.some.inj H
    exact RetP.mk id ⟨rfl, trivial⟩ trivial rfl
def spec_l01Small.f (a0 : Int) : Option (Bool) := if a0 ≥ 97 then (some (decide (a0 ≤ 122))) else (some false)
set_option maxRecDepth 100000 in
theorem spec_l01Small.ok {a0 : Int} {r : Bool} (H : spec_l01Small.f a0 = some r) : OkF Tryz.prog 151 [.c (.d (.v (.int .u8 a0)))] [] (.c (.d (.v (.bool r)))) [] := by
 unfold spec_l01Small.f at H
 refine OkF.of (N := 9) (rs := [2]) (avs := [.c (.d (.v (.bool r)))]) Tryz.func151 rfl rfl (fun _ _ => results_tmp rfl _ _ _) (by decide) rfl rfl rfl rfl (fun w0 S => ?_)
 refine AG.seq ?_
 refine AG.region HM ?_
 refine a_move (v := vB _) ?_
 refine RA.nil nofun ?_
 refine AG.seq ?_
 refine AG.region HM ?_
 refine a_move (v := gV (.int .u8 _)) ?_
 refine a_int (u := .bool (decide (a0 ≥ 97))) ?_
 refine a_move (v := vB _) ?_
 by_cases hc1 : a0 ≥ 97
 ·rw [if_pos hc1] at H
  refine a_move (v := gV (.int .u8 _)) ?_ (hg := Gs.yes rfl rfl rfl (decide_eq_true hc1))
  refine a_int (u := .bool (decide (a0 ≤ 122))) ?_ (hg := Gs.yes rfl rfl rfl (decide_eq_true hc1))
  refine a_pick (b := true) (v := vB _) ?_ (decide_eq_true hc1)
  refine a_move (v := vB _) ?_
  refine RA.nil nofun ?_
  refine AG.ret ?_
  obtain rfl := Option.some.inj H
  exact RetP.mk id ⟨rfl, trivial⟩ trivial rfl
 ·rw [if_neg hc1] at H
  refine RA.skip rfl rfl rfl rfl rfl (decide_eq_false hc1) (by decide) ?_
  refine RA.skip rfl rfl rfl rfl rfl (decide_eq_false hc1) (by decide) ?_
  refine a_pick (b := false) (v := vB _) ?_ (decide_eq_false hc1)
  refine a_move (v := vB _) ?_
  refine RA.nil nofun ?_
  refine AG.ret ?_
  obtain rfl := Option.some.inj H
  exact RetP.mk id ⟨rfl, trivial⟩ trivial rfl
def spec_l01Digit.f (a0 : Int) : Option (Bool) := if a0 ≥ 48 then (some (decide (a0 ≤ 57))) else (some false)
set_option maxRecDepth 100000 in
theorem spec_l01Digit.ok {a0 : Int} {r : Bool} (H : spec_l01Digit.f a0 = some r) : OkF Tryz.prog 152 [.c (.d (.v (.int .u8 a0)))] [] (.c (.d (.v (.bool r)))) [] := by
 unfold spec_l01Digit.f at H
 refine OkF.of (N := 9) (rs := [2]) (avs := [.c (.d (.v (.bool r)))]) Tryz.func152 rfl rfl (fun _ _ => results_tmp rfl _ _ _) (by decide) rfl rfl rfl rfl (fun w0 S => ?_)
 refine AG.seq ?_
 refine AG.region HM ?_
 refine a_move (v := vB _) ?_
 refine RA.nil nofun ?_
 refine AG.seq ?_
 refine AG.region HM ?_
 refine a_move (v := gV (.int .u8 _)) ?_
 refine a_int (u := .bool (decide (a0 ≥ 48))) ?_
 refine a_move (v := vB _) ?_
 by_cases hc1 : a0 ≥ 48
 ·rw [if_pos hc1] at H
  refine a_move (v := gV (.int .u8 _)) ?_ (hg := Gs.yes rfl rfl rfl (decide_eq_true hc1))
  refine a_int (u := .bool (decide (a0 ≤ 57))) ?_ (hg := Gs.yes rfl rfl rfl (decide_eq_true hc1))
  refine a_pick (b := true) (v := vB _) ?_ (decide_eq_true hc1)
  refine a_move (v := vB _) ?_
  refine RA.nil nofun ?_
  refine AG.ret ?_
  obtain rfl := Option.some.inj H
  exact RetP.mk id ⟨rfl, trivial⟩ trivial rfl
 ·rw [if_neg hc1] at H
  refine RA.skip rfl rfl rfl rfl rfl (decide_eq_false hc1) (by decide) ?_
  refine RA.skip rfl rfl rfl rfl rfl (decide_eq_false hc1) (by decide) ?_
  refine a_pick (b := false) (v := vB _) ?_ (decide_eq_false hc1)
  refine a_move (v := vB _) ?_
  refine RA.nil nofun ?_
  refine AG.ret ?_
  obtain rfl := Option.some.inj H
  exact RetP.mk id ⟨rfl, trivial⟩ trivial rfl
mutual
def spec_l01Name.j0 : Nat → ByteArray → Bool → Option (Bool)
 | 0, _, _ => none
 | k + 1, x0, x16 => if x16 = true then (some false) else (spec_l01Name.l0 k x0 0)
def spec_l01Name.l0 : Nat → ByteArray → Int → Option (Bool)
 | 0, _, _ => none
 | k + 1, x0, x3 => if x3 < (x0.size : Int) then (if 0 ≤ x3 then ((spec_l01Small.f (bt x0 x3)).bind fun t9 => (if t9 = true then (spec_l01Name.l0 k x0 (wrap64 (x3 + 1))) else ((spec_l01Digit.f (bt x0 x3)).bind fun t12 => (if t12 = true then (spec_l01Name.l0 k x0 (wrap64 (x3 + 1))) else (some false))))) else (none)) else (some true)
end
def spec_l01Name.f (k : Nat) (a0 : ByteArray) : Option (Bool) := if a0.toList = (⟨#[]⟩ : ByteArray).toList then (spec_l01Name.j0 k a0 true) else (if (a0.size : Int) > 10 then (spec_l01Name.j0 k a0 true) else (if 0 < (a0.size : Int) then ((spec_l01Small.f (bt a0 0)).bind fun t4 => (spec_l01Name.j0 k a0 (!t4))) else (none)))
set_option maxRecDepth 100000 in
theorem spec_l01Name.ok {k : Nat} {a0 : ByteArray} {r : Bool} (H : spec_l01Name.f k a0 = some r) : OkF Tryz.prog 101 [vS a0] [] (.c (.d (.v (.bool r)))) [] := by
 unfold spec_l01Name.f at H
 refine OkF.of (N := 35) (rs := [2]) (avs := [.c (.d (.v (.bool r)))]) Tryz.func101 rfl rfl (fun _ _ => results_tmp rfl _ _ _) (by decide) rfl rfl rfl rfl (fun w0 S => ?_)
 refine AG.seq ?_
 refine AG.region HM ?_
 refine a_move (v := vB _) ?_
 refine RA.nil nofun ?_
 refine AG.seq ?_
 refine AG.seq ?_
 refine AG.joinR (fun s => ∃ q, q ≤ k ∧ ∃ (x0 : ByteArray) (x16 : Bool), spec_l01Name.j0 q x0 x16 = some r ∧ s = St.of [(0, vS x0), (16, vB x16)] []) ?_ ?_
 ·skip
  refine AG.region HM ?_
  refine a_move (v := vS _) ?_
  refine a_bin (u := .bool (a0.toList == (⟨#[]⟩ : ByteArray).toList)) ?_
  refine a_move (v := vB _) ?_
  by_cases hc1 : a0.toList = (⟨#[]⟩ : ByteArray).toList
  ·rw [if_pos hc1] at H
   refine RA.skip rfl rfl rfl rfl rfl (beq_iff_eq.2 hc1) (by decide) ?_
   refine RA.skip rfl rfl rfl rfl rfl (beq_iff_eq.2 hc1) (by decide) ?_
   refine RA.skip rfl rfl rfl rfl rfl (beq_iff_eq.2 hc1) (by decide) ?_
   refine a_pick (b := true) (v := vB _) ?_ (beq_iff_eq.2 hc1)
   refine a_move (v := vB _) ?_
   refine RA.skip rfl rfl rfl rfl rfl rfl (by decide) ?_
   refine RA.skip rfl rfl rfl rfl rfl rfl (by decide) ?_
   refine RA.skip rfl rfl rfl rfl rfl rfl (by decide) ?_
   refine RA.skip rfl rfl rfl rfl rfl rfl (by decide) ?_
   refine a_pick (b := true) (v := vB _) ?_ rfl
   refine RA.nil nofun ?_
   exact CanR.mk id ⟨_, (by omega), _, _, H, rfl⟩ ⟨rfl, rfl, trivial⟩ trivial rfl
  ·rw [if_neg hc1] at H
   refine a_move (v := vS _) ?_ (hg := Gs.yes rfl rfl rfl (beq_eq_false_iff_ne.2 hc1))
   refine a_lenS ?_ Tryz.underlying9 (hg := Gs.yes rfl rfl rfl (beq_eq_false_iff_ne.2 hc1))
   refine a_int (u := .bool (decide ((a0.size : Int) > 10))) ?_ (hg := Gs.yes rfl rfl rfl (beq_eq_false_iff_ne.2 hc1))
   refine a_pick (b := false) (v := vB _) ?_ (beq_eq_false_iff_ne.2 hc1)
   refine a_move (v := vB _) ?_
   by_cases hc2 : (a0.size : Int) > 10
   ·rw [if_pos hc2] at H
    refine RA.skip rfl rfl rfl rfl rfl (decide_eq_true hc2) (by decide) ?_
    refine RA.skip rfl rfl rfl rfl rfl (decide_eq_true hc2) (by decide) ?_
    refine RA.skip rfl rfl rfl rfl rfl (decide_eq_true hc2) (by decide) ?_
    refine RA.skip rfl rfl rfl rfl rfl (decide_eq_true hc2) (by decide) ?_
    refine a_pick (b := true) (v := vB _) ?_ (decide_eq_true hc2)
    refine RA.nil nofun ?_
    exact CanR.mk id ⟨_, (by omega), _, _, H, rfl⟩ ⟨rfl, rfl, trivial⟩ trivial rfl
   ·rw [if_neg hc2] at H
    refine a_move (v := vS _) ?_ (hg := Gs.yes rfl rfl rfl (decide_eq_false hc2))
    by_cases hc3 : 0 < (a0.size : Int)
    ·rw [if_pos hc3] at H
     refine a_str ?_ ⟨(by decide), hc3⟩ Tryz.underlying9 (hg := Gs.yes rfl rfl rfl (decide_eq_false hc2))
     obtain ⟨t4, e5, H⟩ := bindO H
     refine a_call (v := vB t4) (nk := []) (L := []) ?_ rfl (spec_l01Small.ok e5) id (qd qn) trivial trivial trivial rfl (hg := Gs.yes rfl rfl rfl (decide_eq_false hc2))
     refine a_un (u := .bool (!t4)) ?_ (hg := Gs.yes rfl rfl rfl (decide_eq_false hc2))
     refine a_pick (b := false) (v := vB _) ?_ (decide_eq_false hc2)
     refine RA.nil nofun ?_
     exact CanR.mk id ⟨_, (by omega), _, _, H, rfl⟩ ⟨rfl, rfl, trivial⟩ trivial rfl
    ·rw [if_neg hc3] at H
     cases H
 ·clear H
  rintro _ ⟨k, hj0, x0, x16, H, rfl⟩
  cases k with
  | zero => cases H
  | succ k =>
   rw [spec_l01Name.j0] at H
   by_cases hc6 : x16 = true
   ·rw [if_pos hc6] at H
    refine AG.yes rfl hc6 ?_
    refine AG.seq ?_
    refine AG.region HM ?_
    refine a_move (v := vB _) ?_
    refine RA.nil nofun ?_
    refine AG.ret ?_
    obtain rfl := Option.some.inj H
    exact RetP.mk id ⟨rfl, trivial⟩ trivial rfl
   ·rw [if_neg hc6] at H
    refine AG.no rfl (Bool.eq_false_iff.2 hc6) ?_
    refine AG.skip ?_
    refine AG.seq ?_
    refine AG.seq ?_
    refine AG.region HM ?_
    refine a_move (v := vI _) ?_
    refine RA.nil nofun ?_
    refine AG.block ?_
    refine AG.loop ?_
    obtain ⟨K0, hK0, gK0⟩ : ∃ K, k ≤ K ∧ K ≤ k := ⟨k, Nat.le_refl k, Nat.le_refl k⟩
    refine AGr.canon id (AGr.loopI (n := k) (fun k s => k ≤ K0 ∧ ∃ (x0 : ByteArray) (x3 : Int), spec_l01Name.l0 k x0 x3 = some r ∧ s = St.of [(0, vS x0), (3, vI x3)] []) ⟨hK0, _, _, H, rfl⟩ ?_ ?_) ⟨rfl, rfl, trivial⟩ trivial rfl
    ·rintro _ ⟨_, _, _, H, _⟩
     cases H
    ·clear H hK0
     rintro k ih0 _ ⟨hK0, x0, x3, H, rfl⟩
     unfold spec_l01Name.l0 at H
     refine AG.seq ?_
     refine AG.seq ?_
     refine AG.region HM ?_
     refine a_move (v := vI _) ?_
     refine a_move (v := vS _) ?_
     refine a_lenS ?_ Tryz.underlying9
     refine a_int (u := .bool (decide (x3 < (x0.size : Int)))) ?_
     refine RA.nil nofun ?_
     by_cases hc7 : x3 < (x0.size : Int)
     ·rw [if_pos hc7] at H
      refine AG.yes rfl (decide_eq_true hc7) ?_
      refine AG.skip ?_
      refine AG.seq ?_
      refine AG.block ?_
      refine AG.seq ?_
      refine AG.region HM ?_
      refine a_move (v := vS _) ?_
      refine a_move (v := vI _) ?_
      by_cases hc8 : 0 ≤ x3
      ·rw [if_pos hc8] at H
       refine a_str ?_ ⟨hc8, hc7⟩ Tryz.underlying9
       obtain ⟨t9, e10, H⟩ := bindO H
       refine a_call (v := vB t9) (nk := []) (L := []) ?_ rfl (spec_l01Small.ok e10) id (qd qn) trivial trivial trivial rfl
       refine a_un (u := .bool (!t9)) ?_
       refine a_move (v := vB _) ?_
       by_cases hc11 : t9 = true
       ·rw [if_pos hc11] at H
        refine RA.skip rfl rfl rfl rfl rfl (congrArg Bool.not hc11) (by decide) ?_
        refine RA.skip rfl rfl rfl rfl rfl (congrArg Bool.not hc11) (by decide) ?_
        refine RA.skip rfl rfl rfl rfl rfl (congrArg Bool.not hc11) (by decide) ?_
        refine RA.skip rfl rfl rfl rfl rfl (congrArg Bool.not hc11) (by decide) ?_
        refine RA.skip rfl rfl rfl rfl rfl (congrArg Bool.not hc11) (by decide) ?_
        refine a_pick (b := false) (v := vB _) ?_ (congrArg Bool.not hc11)
        refine RA.nil nofun ?_
        refine AG.no rfl rfl ?_
        refine AG.skip ?_
        refine AG.region HM ?_
        refine a_move (v := vI _) ?_
        refine a_int (u := .int .i64 (wrap64 (x3 + 1))) ?_
        refine a_move (v := vI _) ?_
        refine RA.nil nofun ?_
        exact AGr.canon id (ih0 _ (by omega) _ ⟨by omega, _, _, H, rfl⟩) ⟨rfl, rfl, trivial⟩ trivial rfl
       ·rw [if_neg hc11] at H
        refine a_move (v := vS _) ?_ (hg := Gs.yes rfl rfl rfl (congrArg Bool.not (Bool.eq_false_iff.2 hc11)))
        refine a_move (v := vI _) ?_ (hg := Gs.yes rfl rfl rfl (congrArg Bool.not (Bool.eq_false_iff.2 hc11)))
        refine a_str ?_ ⟨hc8, hc7⟩ Tryz.underlying9 (hg := Gs.yes rfl rfl rfl (congrArg Bool.not (Bool.eq_false_iff.2 hc11)))
        obtain ⟨t12, e13, H⟩ := bindO H
        refine a_call (v := vB t12) (nk := []) (L := []) ?_ rfl (spec_l01Digit.ok e13) id (qd qn) trivial trivial trivial rfl (hg := Gs.yes rfl rfl rfl (congrArg Bool.not (Bool.eq_false_iff.2 hc11)))
        refine a_un (u := .bool (!t12)) ?_ (hg := Gs.yes rfl rfl rfl (congrArg Bool.not (Bool.eq_false_iff.2 hc11)))
        refine a_pick (b := true) (v := vB _) ?_ (congrArg Bool.not (Bool.eq_false_iff.2 hc11))
        refine RA.nil nofun ?_
        by_cases hc14 : t12 = true
        ·rw [if_pos hc14] at H
         refine AG.no rfl (congrArg Bool.not hc14) ?_
         refine AG.skip ?_
         refine AG.region HM ?_
         refine a_move (v := vI _) ?_
         refine a_int (u := .int .i64 (wrap64 (x3 + 1))) ?_
         refine a_move (v := vI _) ?_
         refine RA.nil nofun ?_
         exact AGr.canon id (ih0 _ (by omega) _ ⟨by omega, _, _, H, rfl⟩) ⟨rfl, rfl, trivial⟩ trivial rfl
        ·rw [if_neg hc14] at H
         refine AG.yes rfl (congrArg Bool.not (Bool.eq_false_iff.2 hc14)) ?_
         refine AG.seq ?_
         refine AG.region HM ?_
         refine a_move (v := vB _) ?_
         refine RA.nil nofun ?_
         refine AG.ret ?_
         obtain rfl := Option.some.inj H
         exact RetP.mk id ⟨rfl, trivial⟩ trivial rfl
      ·rw [if_neg hc8] at H
       cases H
     ·rw [if_neg hc7] at H
      refine AG.no rfl (decide_eq_false hc7) ?_
      refine AG.exit ?_
      refine AG.seq ?_
      refine AG.region HM ?_
      refine a_move (v := vB _) ?_
      refine RA.nil nofun ?_
      refine AG.ret ?_
      obtain rfl := Option.some.inj H
      exact RetP.mk id ⟨rfl, trivial⟩ trivial rfl
def spec_l05Ring.l0 : Nat → List S159 → List Int → List S159 → Int → Option ((List S159) × Bool)
 | 0, _, _, _, _ => none
 | k + 1, x0_2, x1, x6, x7 => if x7 < (x1.length : Int) then (if 0 ≤ x7 then ((spec_l00In.f (rd2 x1 x7) 0 (wrap64 ((x0_2.length : Int) - 1))).bind fun t4 => (if t4 = true then (if 0 ≤ (rd2 x1 x7) then (if (rd2 x1 x7) < (x0_2.length : Int) then (if x6.length < 8796093022208 then (spec_l05Ring.l0 k x0_2 x1 (x6 ++ [(⟨(rd159 x0_2 (rd2 x1 x7)).f0, (rd159 x0_2 (rd2 x1 x7)).f1⟩ : S159)]) (wrap64 (x7 + 1))) else (none)) else (none)) else (none)) else (some (([] : List S159), false)))) else (none)) else (some (x6, true))
def spec_l05Ring.f (k : Nat) (a0_0 : Int) (a0_1 : Int) (l0_2 : List S159) (l0_3 : List S146) (l1 : List Int) : Option ((List S159) × Bool) := spec_l05Ring.l0 k l0_2 l1 (([] : List S159) : List S159) 0
set_option maxRecDepth 100000 in
theorem spec_l05Ring.ok {k : Nat} {a0_0 : Int} {a0_1 : Int} {l0_2 : List S159} {l0_3 : List S146} {l1 : List Int} {r0 : List S159} {r1 : Bool} (H : spec_l05Ring.f k a0_0 a0_1 l0_2 l0_3 l1 = some (r0, r1)) : OkF Tryz.prog 102 [.c (.d (.ro [.v (.int .i64 a0_0), .v (.int .i64 a0_1), .row 160 (l0_2.map c159), .row 152 (l0_3.map c146)])), vR 2 (l1.map c2)] [] (.tup [.c (.own 100 r0.length), .c (.d (.v (.bool r1)))]) [(100, .row 160 (r0.map c159))] := by
 unfold spec_l05Ring.f at H
 refine OkF.of (N := 41) (rs := [4, 5]) (avs := [.c (.own 100 r0.length), .c (.d (.v (.bool r1)))]) Tryz.func102 rfl rfl (fun _ _ => results_tmp2 rfl _ _ _) (by decide) rfl rfl rfl rfl (fun w0 S => ?_)
 refine AG.seq ?_
 refine AG.region HM ?_
 refine a_nilO (e := 160) 200 ?_ T160
 refine a_move (v := vB _) ?_
 refine RA.nil nofun ?_
 refine AG.seq ?_
 refine AG.region HM ?_
 refine a_lit (cs := []) (D := []) (css := (([] : List S159) : List S159).map c159) 201 ?_ N32 T160 (hcss := by rfl)
 refine a_move (v := .c (.own _ _)) ?_
 refine RA.nil nofun ?_
 refine AG.seq ?_
 refine AG.seq ?_
 refine AG.region HM ?_
 refine a_move (v := vI _) ?_
 refine RA.nil nofun ?_
 refine AG.block ?_
 refine AG.loop ?_
 obtain ⟨K0, hK0, gK0⟩ : ∃ K, k ≤ K ∧ K ≤ k := ⟨k, Nat.le_refl k, Nat.le_refl k⟩
 refine AGr.canon (fun κ => cond (Nat.beq κ 202) 201 (κ)) (AGr.loopI (n := k) (fun k s => k ≤ K0 ∧ ∃ (x0_0 : Int) (x0_1 : Int) (x0_2 : List S159) (x0_3 : List S146) (x1 : List Int) (x6 : List S159) (x7 : Int), spec_l05Ring.l0 k x0_2 x1 x6 x7 = some (r0, r1) ∧ s = St.of [(0, .c (.d (.ro [.v (.int .i64 x0_0), .v (.int .i64 x0_1), .row 160 (x0_2.map c159), .row 152 (x0_3.map c146)]))), (1, vR 2 (x1.map c2)), (6, .c (.own 202 x6.length)), (7, vI x7)] [(202, .row 160 (x6.map c159))]) ⟨hK0, _, _, _, _, _, _, _, H, rfl⟩ ?_ ?_) ⟨rfl, rfl, (ownE rfl (by simp)), rfl, trivial⟩ ⟨rfl, trivial⟩ rfl
 ·rintro _ ⟨_, _, _, _, _, _, _, _, H, _⟩
  cases H
 ·clear H hK0
  rintro k ih0 _ ⟨hK0, x0_0, x0_1, x0_2, x0_3, x1, x6, x7, H, rfl⟩
  unfold spec_l05Ring.l0 at H
  refine AG.seq ?_
  refine AG.seq ?_
  refine AG.region HM ?_
  refine a_move (v := vI _) ?_
  refine a_move (v := vR _ _) ?_
  refine a_lenR ?_ Tryz.underlying29
  refine a_int (u := .bool (decide (x7 < (x1.length : Int)))) ?_
  refine RA.nil nofun ?_
  by_cases hc2 : x7 < (x1.length : Int)
  ·rw [if_pos hc2] at H
   refine AG.yes rfl (decide_eq_true hc2) ?_
   refine AG.skip ?_
   refine AG.seq ?_
   refine AG.block ?_
   refine AG.seq ?_
   refine AG.seq ?_
   refine AG.region HM ?_
   refine a_move (v := vR _ _) ?_
   refine a_move (v := vI _) ?_
   by_cases hc3 : 0 ≤ x7
   ·rw [if_pos hc3] at H
    refine a_ixR (el := c2 (rd2 x1 x7)) ?_ ⟨hc3, hc2⟩ T2 Tryz.underlying29 (hel := R2 hc3 hc2)
    refine a_ldR (v := vI _) ?_ T2
    refine a_move (v := vO [_, _, _, _]) ?_
    refine a_nil (v := vO [_, _, _, _]) ?_
    refine a_faR (cells' := [_, _]) ?_ D35_2
    refine a_ldR (v := vR _ _) ?_ T32
    refine a_lenR ?_ Tryz.underlying32
    refine a_int (u := .int .i64 (wrap64 ((x0_2.length : Int) - 1))) ?_
    obtain ⟨t4, e5, H⟩ := bindO H
    refine a_call (v := vB t4) (nk := []) (L := []) ?_ rfl (spec_l00In.ok e5) id (qd (qd (qd qn))) trivial trivial trivial rfl
    refine a_un (u := .bool (!t4)) ?_
    refine RA.nil (fun _ => by kernel_rfl) ?_
    by_cases hc6 : t4 = true
    ·rw [if_pos hc6] at H
     refine AG.no rfl (congrArg Bool.not hc6) ?_
     refine AG.skip ?_
     refine AG.region HM ?_
     refine a_move (v := .c (.own _ _)) ?_
     refine a_move (v := vO [_, _, _, _]) ?_
     refine a_nil (v := vO [_, _, _, _]) ?_
     refine a_faR (cells' := [_, _]) ?_ D35_2
     refine a_ldR (v := vR _ _) ?_ T32
     refine a_move (v := vR _ _) ?_
     refine a_move (v := vI _) ?_
     refine a_ixR (el := c2 (rd2 x1 x7)) ?_ ⟨hc3, hc2⟩ T2 Tryz.underlying29 (hel := R2 hc3 hc2)
     refine a_ldR (v := vI _) ?_ T2
     by_cases hc7 : 0 ≤ (rd2 x1 x7)
     ·rw [if_pos hc7] at H
      by_cases hc8 : (rd2 x1 x7) < (x0_2.length : Int)
      ·rw [if_pos hc8] at H
       refine a_ixR (el := c159 (rd159 x0_2 (rd2 x1 x7))) ?_ ⟨hc7, hc8⟩ T160 Tryz.underlying32 (hel := R159 hc7 hc8)
       refine a_ldR (v := .agg [_, _]) ?_ T160
       refine a_lit (cs := [_, _]) (D := []) (css := ([(⟨(rd159 x0_2 (rd2 x1 x7)).f0, (rd159 x0_2 (rd2 x1 x7)).f1⟩ : S159)]).map c159) 204 ?_ N32 T160
       by_cases hc9 : x6.length < 8796093022208
       ·rw [if_pos hc9] at H
        refine a_appO (css' := (x6 ++ [(⟨(rd159 x0_2 (rd2 x1 x7)).f0, (rd159 x0_2 (rd2 x1 x7)).f1⟩ : S159)]).map c159) (n' := (x6 ++ [(⟨(rd159 x0_2 (rd2 x1 x7)).f0, (rd159 x0_2 (rd2 x1 x7)).f1⟩ : S159)]).length) ?_ T160 (by simp [maxLen]; omega) (by simp; omega) Tryz.underlying32 (hc := by exact List.map_append.symm) (hn := by exact List.length_map _)
        refine a_move (v := .c (.own _ _)) ?_
        refine RA.nil (fun _ => by kernel_rfl) ?_
        refine AG.region HM ?_
        refine a_move (v := vI _) ?_
        refine a_int (u := .int .i64 (wrap64 (x7 + 1))) ?_
        refine a_move (v := vI _) ?_
        refine RA.nil nofun ?_
        exact AGr.canon id (ih0 _ (by omega) _ ⟨by omega, _, _, _, _, _, _, _, H, rfl⟩) ⟨rfl, rfl, rfl, rfl, trivial⟩ ⟨rfl, trivial⟩ rfl
       ·rw [if_neg hc9] at H
        cases H
      ·rw [if_neg hc8] at H
       cases H
     ·rw [if_neg hc7] at H
      cases H
    ·rw [if_neg hc6] at H
     refine AG.yes rfl (congrArg Bool.not (Bool.eq_false_iff.2 hc6)) ?_
     refine AG.seq ?_
     refine AG.region HM ?_
     refine a_nilO (e := 160) 205 ?_ T160
     refine a_move (v := vB _) ?_
     refine RA.nil nofun ?_
     refine AG.ret ?_
     simp only [Option.some.injEq, Prod.mk.injEq] at H
     obtain ⟨rfl, rfl⟩ := H
     exact RetP.mk (fun κ => cond (Nat.beq κ 100) 205 (κ)) ⟨(ownE rfl (by simp)), rfl, trivial⟩ ⟨rfl, trivial⟩ rfl
   ·rw [if_neg hc3] at H
    cases H
  ·rw [if_neg hc2] at H
   refine AG.no rfl (decide_eq_false hc2) ?_
   refine AG.exit ?_
   refine AG.seq ?_
   refine AG.region HM ?_
   refine a_move (v := .c (.own _ _)) ?_
   refine a_move (v := .c (.own _ _)) ?_
   refine a_move (v := vB _) ?_
   refine RA.nil nofun ?_
   refine AG.ret ?_
   simp only [Option.some.injEq, Prod.mk.injEq] at H
   obtain ⟨rfl, rfl⟩ := H
   exact RetP.mk (fun κ => cond (Nat.beq κ 100) 202 (κ)) ⟨rfl, rfl, trivial⟩ ⟨rfl, trivial⟩ rfl
def spec_l03Area.l0 : Nat → List S159 → Int → Int → Option (Int)
 | 0, _, _, _ => none
 | k + 1, x0, x3, x4 => if x4 < (x0.length : Int) then (if (x0.length : Int) = 0 then (none) else (if 0 ≤ (Int.tmod (wrap64 (x4 + 1)) (x0.length : Int)) then (if (Int.tmod (wrap64 (x4 + 1)) (x0.length : Int)) < (x0.length : Int) then (if 0 ≤ x4 then (spec_l03Area.l0 k x0 (wrap64 (x3 + (wrap64 ((wrap64 (((rd159 x0 x4).f0) * ((rd159 x0 (Int.tmod (wrap64 (x4 + 1)) (x0.length : Int))).f1))) - (wrap64 (((rd159 x0 x4).f1) * ((rd159 x0 (Int.tmod (wrap64 (x4 + 1)) (x0.length : Int))).f0))))))) (wrap64 (x4 + 1))) else (none)) else (none)) else (none))) else (some x3)
def spec_l03Area.f (k : Nat) (l0 : List S159) : Option (Int) := spec_l03Area.l0 k l0 0 0
set_option maxRecDepth 100000 in
theorem spec_l03Area.ok {k : Nat} {l0 : List S159} {r : Int} (H : spec_l03Area.f k l0 = some r) : OkF Tryz.prog 72 [vR 160 (l0.map c159)] [] (.c (.d (.v (.int .i64 r)))) [] := by
 unfold spec_l03Area.f at H
 refine OkF.of (N := 40) (rs := [2]) (avs := [.c (.d (.v (.int .i64 r)))]) Tryz.func72 rfl rfl (fun _ _ => results_tmp rfl _ _ _) (by decide) rfl rfl rfl rfl (fun w0 S => ?_)
 refine AG.seq ?_
 refine AG.region HM ?_
 refine a_move (v := vI _) ?_
 refine RA.nil nofun ?_
 refine AG.seq ?_
 refine AG.region HM ?_
 refine a_move (v := vI _) ?_
 refine RA.nil nofun ?_
 refine AG.seq ?_
 refine AG.seq ?_
 refine AG.region HM ?_
 refine a_move (v := vI _) ?_
 refine RA.nil nofun ?_
 refine AG.block ?_
 refine AG.loop ?_
 obtain ⟨K0, hK0, gK0⟩ : ∃ K, k ≤ K ∧ K ≤ k := ⟨k, Nat.le_refl k, Nat.le_refl k⟩
 refine AGr.canon id (AGr.loopI (n := k) (fun k s => k ≤ K0 ∧ ∃ (x0 : List S159) (x3 : Int) (x4 : Int), spec_l03Area.l0 k x0 x3 x4 = some r ∧ s = St.of [(0, vR 160 (x0.map c159)), (3, vI x3), (4, vI x4)] []) ⟨hK0, _, _, _, H, rfl⟩ ?_ ?_) ⟨rfl, rfl, rfl, trivial⟩ trivial rfl
 ·rintro _ ⟨_, _, _, _, H, _⟩
  cases H
 ·clear H hK0
  rintro k ih0 _ ⟨hK0, x0, x3, x4, H, rfl⟩
  unfold spec_l03Area.l0 at H
  refine AG.seq ?_
  refine AG.seq ?_
  refine AG.region HM ?_
  refine a_move (v := vI _) ?_
  refine a_move (v := vR _ _) ?_
  refine a_lenR ?_ Tryz.underlying32
  refine a_int (u := .bool (decide (x4 < (x0.length : Int)))) ?_
  refine RA.nil nofun ?_
  by_cases hc1 : x4 < (x0.length : Int)
  ·rw [if_pos hc1] at H
   refine AG.yes rfl (decide_eq_true hc1) ?_
   refine AG.skip ?_
   refine AG.seq ?_
   refine AG.block ?_
   refine AG.seq ?_
   refine AG.region HM ?_
   refine a_move (v := vR _ _) ?_
   refine a_move (v := vI _) ?_
   refine a_int (u := .int .i64 (wrap64 (x4 + 1))) ?_
   refine a_move (v := vR _ _) ?_
   refine a_lenR ?_ Tryz.underlying32
   by_cases hc2 : (x0.length : Int) = 0
   ·rw [if_pos hc2] at H
    cases H
   ·rw [if_neg hc2] at H
    refine a_rem (r := Int.tmod (wrap64 (x4 + 1)) (x0.length : Int)) ?_ hc2
    by_cases hc3 : 0 ≤ (Int.tmod (wrap64 (x4 + 1)) (x0.length : Int))
    ·rw [if_pos hc3] at H
     by_cases hc4 : (Int.tmod (wrap64 (x4 + 1)) (x0.length : Int)) < (x0.length : Int)
     ·rw [if_pos hc4] at H
      refine a_ixR (el := c159 (rd159 x0 (Int.tmod (wrap64 (x4 + 1)) (x0.length : Int)))) ?_ ⟨hc3, hc4⟩ T160 Tryz.underlying32 (hel := R159 hc3 hc4)
      refine a_ldR (v := .agg [_, _]) ?_ T160
      refine a_alloc (cs := [_, _]) 200 ?_ T160
      refine a_stB (cs' := [_, _]) ?_ T160
      refine RA.nil nofun ?_
      refine AG.region HM ?_
      refine a_move (v := vI _) ?_
      refine a_move (v := vR _ _) ?_
      refine a_move (v := vI _) ?_
      by_cases hc5 : 0 ≤ x4
      ·rw [if_pos hc5] at H
       refine a_ixR (el := c159 (rd159 x0 x4)) ?_ ⟨hc5, hc1⟩ T160 Tryz.underlying32 (hel := R159 hc5 hc1)
       refine a_faR (cells' := [_, _]) ?_ D160_0
       refine a_ldR (v := vI _) ?_ T2
       refine a_faB (q := 1) ?_ D160_1
       refine a_ldB (v := vI _) ?_ T2
       refine a_int (u := .int .i64 (wrap64 (((rd159 x0 x4).f0) * ((rd159 x0 (Int.tmod (wrap64 (x4 + 1)) (x0.length : Int))).f1)))) ?_
       refine a_move (v := vR _ _) ?_
       refine a_move (v := vI _) ?_
       refine a_ixR (el := c159 (rd159 x0 x4)) ?_ ⟨hc5, hc1⟩ T160 Tryz.underlying32 (hel := R159 hc5 hc1)
       refine a_faR (cells' := [_]) ?_ D160_1
       refine a_ldR (v := vI _) ?_ T2
       refine a_faB (q := 0) ?_ D160_0
       refine a_ldB (v := vI _) ?_ T2
       refine a_int (u := .int .i64 (wrap64 (((rd159 x0 x4).f1) * ((rd159 x0 (Int.tmod (wrap64 (x4 + 1)) (x0.length : Int))).f0)))) ?_
       refine a_int (u := .int .i64 (wrap64 ((wrap64 (((rd159 x0 x4).f0) * ((rd159 x0 (Int.tmod (wrap64 (x4 + 1)) (x0.length : Int))).f1))) - (wrap64 (((rd159 x0 x4).f1) * ((rd159 x0 (Int.tmod (wrap64 (x4 + 1)) (x0.length : Int))).f0)))))) ?_
       refine a_int (u := .int .i64 (wrap64 (x3 + (wrap64 ((wrap64 (((rd159 x0 x4).f0) * ((rd159 x0 (Int.tmod (wrap64 (x4 + 1)) (x0.length : Int))).f1))) - (wrap64 (((rd159 x0 x4).f1) * ((rd159 x0 (Int.tmod (wrap64 (x4 + 1)) (x0.length : Int))).f0)))))))) ?_
       refine a_move (v := vI _) ?_
       refine RA.nil (fun _ => by kernel_rfl) ?_
       refine AG.region HM ?_
       refine a_move (v := vI _) ?_
       refine a_int (u := .int .i64 (wrap64 (x4 + 1))) ?_
       refine a_move (v := vI _) ?_
       refine RA.nil nofun ?_
       exact AGr.canon id (ih0 _ (by omega) _ ⟨by omega, _, _, _, H, rfl⟩) ⟨rfl, rfl, rfl, trivial⟩ trivial rfl
      ·rw [if_neg hc5] at H
       cases H
     ·rw [if_neg hc4] at H
      cases H
    ·rw [if_neg hc3] at H
     cases H
  ·rw [if_neg hc1] at H
   refine AG.no rfl (decide_eq_false hc1) ?_
   refine AG.exit ?_
   refine AG.seq ?_
   refine AG.region HM ?_
   refine a_move (v := vI _) ?_
   refine a_move (v := vI _) ?_
   refine RA.nil nofun ?_
   refine AG.ret ?_
   obtain rfl := Option.some.inj H
   exact RetP.mk id ⟨rfl, trivial⟩ trivial rfl
def spec_l02Ok.f (a0_0 : Int) (a0_1 : Int) : Option (Bool) := (spec_l00In.f a0_0 0 20000).bind fun t1 => (if t1 = true then ((spec_l00In.f a0_1 0 20000).bind fun t4 => (some t4)) else (some false))
set_option maxRecDepth 100000 in
theorem spec_l02Ok.ok {a0_0 : Int} {a0_1 : Int} {r : Bool} (H : spec_l02Ok.f a0_0 a0_1 = some r) : OkF Tryz.prog 153 [.agg [.d (.v (.int .i64 a0_0)), .d (.v (.int .i64 a0_1))]] [] (.c (.d (.v (.bool r)))) [] := by
 unfold spec_l02Ok.f at H
 refine OkF.of (N := 11) (rs := [2]) (avs := [.c (.d (.v (.bool r)))]) Tryz.func153 rfl rfl (fun _ _ => results_tmp rfl _ _ _) (by decide) rfl rfl rfl rfl (fun w0 S => ?_)
 refine AG.seq ?_
 refine AG.region HM ?_
 refine a_box 200 ?_
 refine a_move (v := vB _) ?_
 refine RA.nil nofun ?_
 refine AG.seq ?_
 refine AG.region HM ?_
 refine a_faB (q := 0) ?_ D160_0
 refine a_ldB (v := vI _) ?_ T2
 obtain ⟨t1, e2, H⟩ := bindO H
 refine a_call (v := vB t1) (nk := []) (L := []) ?_ rfl (spec_l00In.ok e2) id (qd (qd (qd qn))) trivial trivial trivial rfl
 refine a_move (v := vB _) ?_
 by_cases hc3 : t1 = true
 ·rw [if_pos hc3] at H
  refine a_faB (q := 1) ?_ D160_1 (hg := Gs.yes rfl rfl rfl hc3)
  refine a_ldB (v := vI _) ?_ T2 (hg := Gs.yes rfl rfl rfl hc3)
  obtain ⟨t4, e5, H⟩ := bindO H
  refine a_call (v := vB t4) (nk := []) (L := []) ?_ rfl (spec_l00In.ok e5) id (qd (qd (qd qn))) trivial trivial trivial rfl (hg := Gs.yes rfl rfl rfl hc3)
  refine a_pick (b := true) (v := vB _) ?_ hc3
  refine a_move (v := vB _) ?_
  refine RA.nil nofun ?_
  refine AG.ret ?_
  obtain rfl := Option.some.inj H
  exact RetP.mk id ⟨rfl, trivial⟩ trivial rfl
 ·rw [if_neg hc3] at H
  refine RA.skip rfl rfl rfl rfl rfl (Bool.eq_false_iff.2 hc3) (by decide) ?_
  refine RA.skip rfl rfl rfl rfl rfl (Bool.eq_false_iff.2 hc3) (by decide) ?_
  refine RA.skip rfl rfl rfl rfl rfl (Bool.eq_false_iff.2 hc3) (by decide) ?_
  refine a_pick (b := false) (v := vB _) ?_ (Bool.eq_false_iff.2 hc3)
  refine a_move (v := vB _) ?_
  refine RA.nil nofun ?_
  refine AG.ret ?_
  obtain rfl := Option.some.inj H
  exact RetP.mk id ⟨rfl, trivial⟩ trivial rfl
def spec_l00Max.f (a0 : Int) (a1 : Int) : Option (Int) := if a0 > a1 then (some a0) else (some a1)
set_option maxRecDepth 100000 in
theorem spec_l00Max.ok {a0 : Int} {a1 : Int} {r : Int} (H : spec_l00Max.f a0 a1 = some r) : OkF Tryz.prog 183 [vI a0, vI a1] [] (.c (.d (.v (.int .i64 r)))) [] := by
 unfold spec_l00Max.f at H
 refine OkF.of (N := 10) (rs := [4]) (avs := [.c (.d (.v (.int .i64 r)))]) Tryz.func183 rfl rfl (fun _ _ => results_tmp rfl _ _ _) (by decide) rfl rfl rfl rfl (fun w0 S => ?_)
 refine AG.seq ?_
 refine AG.region HM ?_
 refine a_move (v := vI _) ?_
 refine RA.nil nofun ?_
 refine AG.seq ?_
 refine AG.seq ?_
 refine AG.region HM ?_
 refine a_move (v := vI _) ?_
 refine a_move (v := vI _) ?_
 refine a_int (u := .bool (decide (a0 > a1))) ?_
 refine RA.nil nofun ?_
 by_cases hc1 : a0 > a1
 ·rw [if_pos hc1] at H
  refine AG.yes rfl (decide_eq_true hc1) ?_
  refine AG.seq ?_
  refine AG.region HM ?_
  refine a_move (v := vI _) ?_
  refine a_move (v := vI _) ?_
  refine RA.nil nofun ?_
  refine AG.ret ?_
  obtain rfl := Option.some.inj H
  exact RetP.mk id ⟨rfl, trivial⟩ trivial rfl
 ·rw [if_neg hc1] at H
  refine AG.no rfl (decide_eq_false hc1) ?_
  refine AG.skip ?_
  refine AG.seq ?_
  refine AG.region HM ?_
  refine a_move (v := vI _) ?_
  refine a_move (v := vI _) ?_
  refine RA.nil nofun ?_
  refine AG.ret ?_
  obtain rfl := Option.some.inj H
  exact RetP.mk id ⟨rfl, trivial⟩ trivial rfl
def spec_l02Cross.f (a0_0 : Int) (a0_1 : Int) (a1_0 : Int) (a1_1 : Int) (a2_0 : Int) (a2_1 : Int) : Option (Int) := some (wrap64 ((wrap64 ((wrap64 (a1_0 - a0_0)) * (wrap64 (a2_1 - a0_1)))) - (wrap64 ((wrap64 (a1_1 - a0_1)) * (wrap64 (a2_0 - a0_0))))))
set_option maxRecDepth 100000 in
theorem spec_l02Cross.ok {a0_0 : Int} {a0_1 : Int} {a1_0 : Int} {a1_1 : Int} {a2_0 : Int} {a2_1 : Int} {r : Int} (H : spec_l02Cross.f a0_0 a0_1 a1_0 a1_1 a2_0 a2_1 = some r) : OkF Tryz.prog 229 [.agg [.d (.v (.int .i64 a0_0)), .d (.v (.int .i64 a0_1))], .agg [.d (.v (.int .i64 a1_0)), .d (.v (.int .i64 a1_1))], .agg [.d (.v (.int .i64 a2_0)), .d (.v (.int .i64 a2_1))]] [] (.c (.d (.v (.int .i64 r)))) [] := by
 unfold spec_l02Cross.f at H
 refine OkF.of (N := 30) (rs := [6]) (avs := [.c (.d (.v (.int .i64 r)))]) Tryz.func229 rfl rfl (fun _ _ => results_tmp rfl _ _ _) (by decide) rfl rfl rfl rfl (fun w0 S => ?_)
 refine AG.seq ?_
 refine AG.region HM ?_
 refine a_box 200 ?_
 refine a_box 201 ?_
 refine a_box 202 ?_
 refine a_move (v := vI _) ?_
 refine RA.nil nofun ?_
 refine AG.seq ?_
 refine AG.region HM ?_
 refine a_faB (q := 0) ?_ D160_0
 refine a_ldB (v := vI _) ?_ T2
 refine a_faB (q := 0) ?_ D160_0
 refine a_ldB (v := vI _) ?_ T2
 refine a_int (u := .int .i64 (wrap64 (a1_0 - a0_0))) ?_
 refine a_faB (q := 1) ?_ D160_1
 refine a_ldB (v := vI _) ?_ T2
 refine a_faB (q := 1) ?_ D160_1
 refine a_ldB (v := vI _) ?_ T2
 refine a_int (u := .int .i64 (wrap64 (a2_1 - a0_1))) ?_
 refine a_int (u := .int .i64 (wrap64 ((wrap64 (a1_0 - a0_0)) * (wrap64 (a2_1 - a0_1))))) ?_
 refine a_faB (q := 1) ?_ D160_1
 refine a_ldB (v := vI _) ?_ T2
 refine a_faB (q := 1) ?_ D160_1
 refine a_ldB (v := vI _) ?_ T2
 refine a_int (u := .int .i64 (wrap64 (a1_1 - a0_1))) ?_
 refine a_faB (q := 0) ?_ D160_0
 refine a_ldB (v := vI _) ?_ T2
 refine a_faB (q := 0) ?_ D160_0
 refine a_ldB (v := vI _) ?_ T2
 refine a_int (u := .int .i64 (wrap64 (a2_0 - a0_0))) ?_
 refine a_int (u := .int .i64 (wrap64 ((wrap64 (a1_1 - a0_1)) * (wrap64 (a2_0 - a0_0))))) ?_
 refine a_int (u := .int .i64 (wrap64 ((wrap64 ((wrap64 (a1_0 - a0_0)) * (wrap64 (a2_1 - a0_1)))) - (wrap64 ((wrap64 (a1_1 - a0_1)) * (wrap64 (a2_0 - a0_0))))))) ?_
 refine a_move (v := vI _) ?_
 refine RA.nil nofun ?_
 refine AG.ret ?_
 obtain rfl := Option.some.inj H
 exact RetP.mk id ⟨rfl, trivial⟩ trivial rfl
def spec_l02Side.f (a0_0 : Int) (a0_1 : Int) (a1_0 : Int) (a1_1 : Int) (a2_0 : Int) (a2_1 : Int) : Option (Int) := (spec_l02Cross.f a0_0 a0_1 a1_0 a1_1 a2_0 a2_1).bind fun t1 => (if t1 > 0 then (some 1) else (if t1 < 0 then (some (-1)) else (some 0)))
set_option maxRecDepth 100000 in
theorem spec_l02Side.ok {a0_0 : Int} {a0_1 : Int} {a1_0 : Int} {a1_1 : Int} {a2_0 : Int} {a2_1 : Int} {r : Int} (H : spec_l02Side.f a0_0 a0_1 a1_0 a1_1 a2_0 a2_1 = some r) : OkF Tryz.prog 194 [.agg [.d (.v (.int .i64 a0_0)), .d (.v (.int .i64 a0_1))], .agg [.d (.v (.int .i64 a1_0)), .d (.v (.int .i64 a1_1))], .agg [.d (.v (.int .i64 a2_0)), .d (.v (.int .i64 a2_1))]] [] (.c (.d (.v (.int .i64 r)))) [] := by
 unfold spec_l02Side.f at H
 refine OkF.of (N := 16) (rs := [6]) (avs := [.c (.d (.v (.int .i64 r)))]) Tryz.func194 rfl rfl (fun _ _ => results_tmp rfl _ _ _) (by decide) rfl rfl rfl rfl (fun w0 S => ?_)
 refine AG.seq ?_
 refine AG.region HM ?_
 refine a_box 200 ?_
 refine a_box 201 ?_
 refine a_box 202 ?_
 refine a_move (v := vI _) ?_
 refine RA.nil nofun ?_
 refine AG.seq ?_
 refine AG.region HM ?_
 refine a_ldB (v := .agg [_, _]) ?_ T160
 refine a_ldB (v := .agg [_, _]) ?_ T160
 refine a_ldB (v := .agg [_, _]) ?_ T160
 obtain ⟨t1, e2, H⟩ := bindO H
 refine a_call (v := vI t1) (nk := []) (L := []) ?_ rfl (spec_l02Cross.ok e2) id (qg (qg (qg qn))) trivial trivial trivial rfl
 refine a_move (v := vI _) ?_
 refine RA.nil nofun ?_
 refine AG.seq ?_
 refine AG.seq ?_
 refine AG.region HM ?_
 refine a_move (v := vI _) ?_
 refine a_int (u := .bool (decide (t1 > 0))) ?_
 refine RA.nil nofun ?_
 by_cases hc3 : t1 > 0
 ·rw [if_pos hc3] at H
  refine AG.yes rfl (decide_eq_true hc3) ?_
  refine AG.seq ?_
  refine AG.region HM ?_
  refine a_move (v := vI _) ?_
  refine RA.nil nofun ?_
  refine AG.ret ?_
  obtain rfl := Option.some.inj H
  exact RetP.mk id ⟨rfl, trivial⟩ trivial rfl
 ·rw [if_neg hc3] at H
  refine AG.no rfl (decide_eq_false hc3) ?_
  refine AG.skip ?_
  refine AG.seq ?_
  refine AG.seq ?_
  refine AG.region HM ?_
  refine a_move (v := vI _) ?_
  refine a_int (u := .bool (decide (t1 < 0))) ?_
  refine RA.nil nofun ?_
  by_cases hc4 : t1 < 0
  ·rw [if_pos hc4] at H
   refine AG.yes rfl (decide_eq_true hc4) ?_
   refine AG.seq ?_
   refine AG.region HM ?_
   refine a_move (v := vI _) ?_
   refine RA.nil nofun ?_
   refine AG.ret ?_
   obtain rfl := Option.some.inj H
   exact RetP.mk id ⟨rfl, trivial⟩ trivial rfl
  ·rw [if_neg hc4] at H
   refine AG.no rfl (decide_eq_false hc4) ?_
   refine AG.skip ?_
   refine AG.seq ?_
   refine AG.region HM ?_
   refine a_move (v := vI _) ?_
   refine RA.nil nofun ?_
   refine AG.ret ?_
   obtain rfl := Option.some.inj H
   exact RetP.mk id ⟨rfl, trivial⟩ trivial rfl
def spec_l00Min.f (a0 : Int) (a1 : Int) : Option (Int) := if a0 < a1 then (some a0) else (some a1)
set_option maxRecDepth 100000 in
theorem spec_l00Min.ok {a0 : Int} {a1 : Int} {r : Int} (H : spec_l00Min.f a0 a1 = some r) : OkF Tryz.prog 195 [vI a0, vI a1] [] (.c (.d (.v (.int .i64 r)))) [] := by
 unfold spec_l00Min.f at H
 refine OkF.of (N := 10) (rs := [4]) (avs := [.c (.d (.v (.int .i64 r)))]) Tryz.func195 rfl rfl (fun _ _ => results_tmp rfl _ _ _) (by decide) rfl rfl rfl rfl (fun w0 S => ?_)
 refine AG.seq ?_
 refine AG.region HM ?_
 refine a_move (v := vI _) ?_
 refine RA.nil nofun ?_
 refine AG.seq ?_
 refine AG.seq ?_
 refine AG.region HM ?_
 refine a_move (v := vI _) ?_
 refine a_move (v := vI _) ?_
 refine a_int (u := .bool (decide (a0 < a1))) ?_
 refine RA.nil nofun ?_
 by_cases hc1 : a0 < a1
 ·rw [if_pos hc1] at H
  refine AG.yes rfl (decide_eq_true hc1) ?_
  refine AG.seq ?_
  refine AG.region HM ?_
  refine a_move (v := vI _) ?_
  refine a_move (v := vI _) ?_
  refine RA.nil nofun ?_
  refine AG.ret ?_
  obtain rfl := Option.some.inj H
  exact RetP.mk id ⟨rfl, trivial⟩ trivial rfl
 ·rw [if_neg hc1] at H
  refine AG.no rfl (decide_eq_false hc1) ?_
  refine AG.skip ?_
  refine AG.seq ?_
  refine AG.region HM ?_
  refine a_move (v := vI _) ?_
  refine a_move (v := vI _) ?_
  refine RA.nil nofun ?_
  refine AG.ret ?_
  obtain rfl := Option.some.inj H
  exact RetP.mk id ⟨rfl, trivial⟩ trivial rfl
def spec_l02On.f (a0_0 : Int) (a0_1 : Int) (a1_0 : Int) (a1_1 : Int) (a2_0 : Int) (a2_1 : Int) : Option (Bool) := (spec_l02Side.f a0_0 a0_1 a1_0 a1_1 a2_0 a2_1).bind fun t1 => (if t1 = 0 then ((spec_l00Min.f a0_0 a1_0).bind fun t4 => ((spec_l00Max.f a0_0 a1_0).bind fun t6 => ((spec_l00In.f a2_0 t4 t6).bind fun t8 => (if t8 = true then ((spec_l00Min.f a0_1 a1_1).bind fun t11 => ((spec_l00Max.f a0_1 a1_1).bind fun t13 => ((spec_l00In.f a2_1 t11 t13).bind fun t15 => (some t15)))) else (some false))))) else (some false))
set_option maxRecDepth 100000 in
theorem spec_l02On.ok {a0_0 : Int} {a0_1 : Int} {a1_0 : Int} {a1_1 : Int} {a2_0 : Int} {a2_1 : Int} {r : Bool} (H : spec_l02On.f a0_0 a0_1 a1_0 a1_1 a2_0 a2_1 = some r) : OkF Tryz.prog 154 [.agg [.d (.v (.int .i64 a0_0)), .d (.v (.int .i64 a0_1))], .agg [.d (.v (.int .i64 a1_0)), .d (.v (.int .i64 a1_1))], .agg [.d (.v (.int .i64 a2_0)), .d (.v (.int .i64 a2_1))]] [] (.c (.d (.v (.bool r)))) [] := by
 unfold spec_l02On.f at H
 refine OkF.of (N := 42) (rs := [6]) (avs := [.c (.d (.v (.bool r)))]) Tryz.func154 rfl rfl (fun _ _ => results_tmp rfl _ _ _) (by decide) rfl rfl rfl rfl (fun w0 S => ?_)
 refine AG.seq ?_
 refine AG.region HM ?_
 refine a_box 200 ?_
 refine a_box 201 ?_
 refine a_box 202 ?_
 refine a_move (v := vB _) ?_
 refine RA.nil nofun ?_
 refine AG.seq ?_
 refine AG.region HM ?_
 refine a_ldB (v := .agg [_, _]) ?_ T160
 refine a_ldB (v := .agg [_, _]) ?_ T160
 refine a_ldB (v := .agg [_, _]) ?_ T160
 obtain ⟨t1, e2, H⟩ := bindO H
 refine a_call (v := vI t1) (nk := []) (L := []) ?_ rfl (spec_l02Side.ok e2) id (qg (qg (qg qn))) trivial trivial trivial rfl
 refine a_int (u := .bool ((t1 == 0))) ?_
 refine a_move (v := vB _) ?_
 by_cases hc3 : t1 = 0
 ·rw [if_pos hc3] at H
  refine a_faB (q := 0) ?_ D160_0 (hg := Gs.yes rfl rfl rfl (beq_iff_eq.2 hc3))
  refine a_ldB (v := vI _) ?_ T2 (hg := Gs.yes rfl rfl rfl (beq_iff_eq.2 hc3))
  refine a_faB (q := 0) ?_ D160_0 (hg := Gs.yes rfl rfl rfl (beq_iff_eq.2 hc3))
  refine a_ldB (v := vI _) ?_ T2 (hg := Gs.yes rfl rfl rfl (beq_iff_eq.2 hc3))
  refine a_faB (q := 0) ?_ D160_0 (hg := Gs.yes rfl rfl rfl (beq_iff_eq.2 hc3))
  refine a_ldB (v := vI _) ?_ T2 (hg := Gs.yes rfl rfl rfl (beq_iff_eq.2 hc3))
  obtain ⟨t4, e5, H⟩ := bindO H
  refine a_call (v := vI t4) (nk := []) (L := []) ?_ rfl (spec_l00Min.ok e5) id (qd (qd qn)) trivial trivial trivial rfl (hg := Gs.yes rfl rfl rfl (beq_iff_eq.2 hc3))
  refine a_faB (q := 0) ?_ D160_0 (hg := Gs.yes rfl rfl rfl (beq_iff_eq.2 hc3))
  refine a_ldB (v := vI _) ?_ T2 (hg := Gs.yes rfl rfl rfl (beq_iff_eq.2 hc3))
  refine a_faB (q := 0) ?_ D160_0 (hg := Gs.yes rfl rfl rfl (beq_iff_eq.2 hc3))
  refine a_ldB (v := vI _) ?_ T2 (hg := Gs.yes rfl rfl rfl (beq_iff_eq.2 hc3))
  obtain ⟨t6, e7, H⟩ := bindO H
  refine a_call (v := vI t6) (nk := []) (L := []) ?_ rfl (spec_l00Max.ok e7) id (qd (qd qn)) trivial trivial trivial rfl (hg := Gs.yes rfl rfl rfl (beq_iff_eq.2 hc3))
  obtain ⟨t8, e9, H⟩ := bindO H
  refine a_call (v := vB t8) (nk := []) (L := []) ?_ rfl (spec_l00In.ok e9) id (qd (qd (qd qn))) trivial trivial trivial rfl (hg := Gs.yes rfl rfl rfl (beq_iff_eq.2 hc3))
  refine a_pick (b := true) (v := vB _) ?_ (beq_iff_eq.2 hc3)
  refine a_move (v := vB _) ?_
  by_cases hc10 : t8 = true
  ·rw [if_pos hc10] at H
   refine a_faB (q := 1) ?_ D160_1 (hg := Gs.yes rfl rfl rfl hc10)
   refine a_ldB (v := vI _) ?_ T2 (hg := Gs.yes rfl rfl rfl hc10)
   refine a_faB (q := 1) ?_ D160_1 (hg := Gs.yes rfl rfl rfl hc10)
   refine a_ldB (v := vI _) ?_ T2 (hg := Gs.yes rfl rfl rfl hc10)
   refine a_faB (q := 1) ?_ D160_1 (hg := Gs.yes rfl rfl rfl hc10)
   refine a_ldB (v := vI _) ?_ T2 (hg := Gs.yes rfl rfl rfl hc10)
   obtain ⟨t11, e12, H⟩ := bindO H
   refine a_call (v := vI t11) (nk := []) (L := []) ?_ rfl (spec_l00Min.ok e12) id (qd (qd qn)) trivial trivial trivial rfl (hg := Gs.yes rfl rfl rfl hc10)
   refine a_faB (q := 1) ?_ D160_1 (hg := Gs.yes rfl rfl rfl hc10)
   refine a_ldB (v := vI _) ?_ T2 (hg := Gs.yes rfl rfl rfl hc10)
   refine a_faB (q := 1) ?_ D160_1 (hg := Gs.yes rfl rfl rfl hc10)
   refine a_ldB (v := vI _) ?_ T2 (hg := Gs.yes rfl rfl rfl hc10)
   obtain ⟨t13, e14, H⟩ := bindO H
   refine a_call (v := vI t13) (nk := []) (L := []) ?_ rfl (spec_l00Max.ok e14) id (qd (qd qn)) trivial trivial trivial rfl (hg := Gs.yes rfl rfl rfl hc10)
   obtain ⟨t15, e16, H⟩ := bindO H
   refine a_call (v := vB t15) (nk := []) (L := []) ?_ rfl (spec_l00In.ok e16) id (qd (qd (qd qn))) trivial trivial trivial rfl (hg := Gs.yes rfl rfl rfl hc10)
   refine a_pick (b := true) (v := vB _) ?_ hc10
   refine a_move (v := vB _) ?_
   refine RA.nil (fun _ => by kernel_rfl) ?_
   refine AG.ret ?_
   obtain rfl := Option.some.inj H
   exact RetP.mk id ⟨rfl, trivial⟩ trivial rfl
  ·rw [if_neg hc10] at H
   refine RA.skip rfl rfl rfl rfl rfl (Bool.eq_false_iff.2 hc10) (by decide) ?_
   refine RA.skip rfl rfl rfl rfl rfl (Bool.eq_false_iff.2 hc10) (by decide) ?_
   refine RA.skip rfl rfl rfl rfl rfl (Bool.eq_false_iff.2 hc10) (by decide) ?_
   refine RA.skip rfl rfl rfl rfl rfl (Bool.eq_false_iff.2 hc10) (by decide) ?_
   refine RA.skip rfl rfl rfl rfl rfl (Bool.eq_false_iff.2 hc10) (by decide) ?_
   refine RA.skip rfl rfl rfl rfl rfl (Bool.eq_false_iff.2 hc10) (by decide) ?_
   refine RA.skip rfl rfl rfl rfl rfl (Bool.eq_false_iff.2 hc10) (by decide) ?_
   refine RA.skip rfl rfl rfl rfl rfl (Bool.eq_false_iff.2 hc10) (by decide) ?_
   refine RA.skip rfl rfl rfl rfl rfl (Bool.eq_false_iff.2 hc10) (by decide) ?_
   refine RA.skip rfl rfl rfl rfl rfl (Bool.eq_false_iff.2 hc10) (by decide) ?_
   refine RA.skip rfl rfl rfl rfl rfl (Bool.eq_false_iff.2 hc10) (by decide) ?_
   refine RA.skip rfl rfl rfl rfl rfl (Bool.eq_false_iff.2 hc10) (by decide) ?_
   refine RA.skip rfl rfl rfl rfl rfl (Bool.eq_false_iff.2 hc10) (by decide) ?_
   refine a_pick (b := false) (v := vB _) ?_ (Bool.eq_false_iff.2 hc10)
   refine a_move (v := vB _) ?_
   refine RA.nil (fun _ => by kernel_rfl) ?_
   refine AG.ret ?_
   obtain rfl := Option.some.inj H
   exact RetP.mk id ⟨rfl, trivial⟩ trivial rfl
 ·rw [if_neg hc3] at H
  refine RA.skip rfl rfl rfl rfl rfl (beq_eq_false_iff_ne.2 hc3) (by decide) ?_
  refine RA.skip rfl rfl rfl rfl rfl (beq_eq_false_iff_ne.2 hc3) (by decide) ?_
  refine RA.skip rfl rfl rfl rfl rfl (beq_eq_false_iff_ne.2 hc3) (by decide) ?_
  refine RA.skip rfl rfl rfl rfl rfl (beq_eq_false_iff_ne.2 hc3) (by decide) ?_
  refine RA.skip rfl rfl rfl rfl rfl (beq_eq_false_iff_ne.2 hc3) (by decide) ?_
  refine RA.skip rfl rfl rfl rfl rfl (beq_eq_false_iff_ne.2 hc3) (by decide) ?_
  refine RA.skip rfl rfl rfl rfl rfl (beq_eq_false_iff_ne.2 hc3) (by decide) ?_
  refine RA.skip rfl rfl rfl rfl rfl (beq_eq_false_iff_ne.2 hc3) (by decide) ?_
  refine RA.skip rfl rfl rfl rfl rfl (beq_eq_false_iff_ne.2 hc3) (by decide) ?_
  refine RA.skip rfl rfl rfl rfl rfl (beq_eq_false_iff_ne.2 hc3) (by decide) ?_
  refine RA.skip rfl rfl rfl rfl rfl (beq_eq_false_iff_ne.2 hc3) (by decide) ?_
  refine RA.skip rfl rfl rfl rfl rfl (beq_eq_false_iff_ne.2 hc3) (by decide) ?_
  refine RA.skip rfl rfl rfl rfl rfl (beq_eq_false_iff_ne.2 hc3) (by decide) ?_
  refine a_pick (b := false) (v := vB _) ?_ (beq_eq_false_iff_ne.2 hc3)
  refine a_move (v := vB _) ?_
  refine RA.skip rfl rfl rfl rfl rfl rfl (by decide) ?_
  refine RA.skip rfl rfl rfl rfl rfl rfl (by decide) ?_
  refine RA.skip rfl rfl rfl rfl rfl rfl (by decide) ?_
  refine RA.skip rfl rfl rfl rfl rfl rfl (by decide) ?_
  refine RA.skip rfl rfl rfl rfl rfl rfl (by decide) ?_
  refine RA.skip rfl rfl rfl rfl rfl rfl (by decide) ?_
  refine RA.skip rfl rfl rfl rfl rfl rfl (by decide) ?_
  refine RA.skip rfl rfl rfl rfl rfl rfl (by decide) ?_
  refine RA.skip rfl rfl rfl rfl rfl rfl (by decide) ?_
  refine RA.skip rfl rfl rfl rfl rfl rfl (by decide) ?_
  refine RA.skip rfl rfl rfl rfl rfl rfl (by decide) ?_
  refine RA.skip rfl rfl rfl rfl rfl rfl (by decide) ?_
  refine RA.skip rfl rfl rfl rfl rfl rfl (by decide) ?_
  refine a_pick (b := false) (v := vB _) ?_ rfl
  refine a_move (v := vB _) ?_
  refine RA.nil (fun _ => by kernel_rfl) ?_
  refine AG.ret ?_
  obtain rfl := Option.some.inj H
  exact RetP.mk id ⟨rfl, trivial⟩ trivial rfl
def spec_l02Crosses.f (a0_0 : Int) (a0_1 : Int) (a1_0 : Int) (a1_1 : Int) (a2_0 : Int) (a2_1 : Int) (a3_0 : Int) (a3_1 : Int) : Option (Bool) := (spec_l02Side.f a0_0 a0_1 a1_0 a1_1 a2_0 a2_1).bind fun t1 => ((spec_l02Side.f a0_0 a0_1 a1_0 a1_1 a3_0 a3_1).bind fun t3 => (if (wrap64 (t1 * t3)) < 0 then ((spec_l02Side.f a2_0 a2_1 a3_0 a3_1 a0_0 a0_1).bind fun t6 => ((spec_l02Side.f a2_0 a2_1 a3_0 a3_1 a1_0 a1_1).bind fun t8 => (some (decide ((wrap64 (t6 * t8)) < 0))))) else (some false)))
set_option maxRecDepth 100000 in
theorem spec_l02Crosses.ok {a0_0 : Int} {a0_1 : Int} {a1_0 : Int} {a1_1 : Int} {a2_0 : Int} {a2_1 : Int} {a3_0 : Int} {a3_1 : Int} {r : Bool} (H : spec_l02Crosses.f a0_0 a0_1 a1_0 a1_1 a2_0 a2_1 a3_0 a3_1 = some r) : OkF Tryz.prog 196 [.agg [.d (.v (.int .i64 a0_0)), .d (.v (.int .i64 a0_1))], .agg [.d (.v (.int .i64 a1_0)), .d (.v (.int .i64 a1_1))], .agg [.d (.v (.int .i64 a2_0)), .d (.v (.int .i64 a2_1))], .agg [.d (.v (.int .i64 a3_0)), .d (.v (.int .i64 a3_1))]] [] (.c (.d (.v (.bool r)))) [] := by
 unfold spec_l02Crosses.f at H
 refine OkF.of (N := 31) (rs := [8]) (avs := [.c (.d (.v (.bool r)))]) Tryz.func196 rfl rfl (fun _ _ => results_tmp rfl _ _ _) (by decide) rfl rfl rfl rfl (fun w0 S => ?_)
 refine AG.seq ?_
 refine AG.region HM ?_
 refine a_box 200 ?_
 refine a_box 201 ?_
 refine a_box 202 ?_
 refine a_box 203 ?_
 refine a_move (v := vB _) ?_
 refine RA.nil nofun ?_
 refine AG.seq ?_
 refine AG.region HM ?_
 refine a_ldB (v := .agg [_, _]) ?_ T160
 refine a_ldB (v := .agg [_, _]) ?_ T160
 refine a_ldB (v := .agg [_, _]) ?_ T160
 obtain ⟨t1, e2, H⟩ := bindO H
 refine a_call (v := vI t1) (nk := []) (L := []) ?_ rfl (spec_l02Side.ok e2) id (qg (qg (qg qn))) trivial trivial trivial rfl
 refine a_ldB (v := .agg [_, _]) ?_ T160
 refine a_ldB (v := .agg [_, _]) ?_ T160
 refine a_ldB (v := .agg [_, _]) ?_ T160
 obtain ⟨t3, e4, H⟩ := bindO H
 refine a_call (v := vI t3) (nk := []) (L := []) ?_ rfl (spec_l02Side.ok e4) id (qg (qg (qg qn))) trivial trivial trivial rfl
 refine a_int (u := .int .i64 (wrap64 (t1 * t3))) ?_
 refine a_int (u := .bool (decide ((wrap64 (t1 * t3)) < 0))) ?_
 refine a_move (v := vB _) ?_
 by_cases hc5 : (wrap64 (t1 * t3)) < 0
 ·rw [if_pos hc5] at H
  refine a_ldB (v := .agg [_, _]) ?_ T160 (hg := Gs.yes rfl rfl rfl (decide_eq_true hc5))
  refine a_ldB (v := .agg [_, _]) ?_ T160 (hg := Gs.yes rfl rfl rfl (decide_eq_true hc5))
  refine a_ldB (v := .agg [_, _]) ?_ T160 (hg := Gs.yes rfl rfl rfl (decide_eq_true hc5))
  obtain ⟨t6, e7, H⟩ := bindO H
  refine a_call (v := vI t6) (nk := []) (L := []) ?_ rfl (spec_l02Side.ok e7) id (qg (qg (qg qn))) trivial trivial trivial rfl (hg := Gs.yes rfl rfl rfl (decide_eq_true hc5))
  refine a_ldB (v := .agg [_, _]) ?_ T160 (hg := Gs.yes rfl rfl rfl (decide_eq_true hc5))
  refine a_ldB (v := .agg [_, _]) ?_ T160 (hg := Gs.yes rfl rfl rfl (decide_eq_true hc5))
  refine a_ldB (v := .agg [_, _]) ?_ T160 (hg := Gs.yes rfl rfl rfl (decide_eq_true hc5))
  obtain ⟨t8, e9, H⟩ := bindO H
  refine a_call (v := vI t8) (nk := []) (L := []) ?_ rfl (spec_l02Side.ok e9) id (qg (qg (qg qn))) trivial trivial trivial rfl (hg := Gs.yes rfl rfl rfl (decide_eq_true hc5))
  refine a_int (u := .int .i64 (wrap64 (t6 * t8))) ?_ (hg := Gs.yes rfl rfl rfl (decide_eq_true hc5))
  refine a_int (u := .bool (decide ((wrap64 (t6 * t8)) < 0))) ?_ (hg := Gs.yes rfl rfl rfl (decide_eq_true hc5))
  refine a_pick (b := true) (v := vB _) ?_ (decide_eq_true hc5)
  refine a_move (v := vB _) ?_
  refine RA.nil (fun _ => by kernel_rfl) ?_
  refine AG.ret ?_
  obtain rfl := Option.some.inj H
  exact RetP.mk id ⟨rfl, trivial⟩ trivial rfl
 ·rw [if_neg hc5] at H
  refine RA.skip rfl rfl rfl rfl rfl (decide_eq_false hc5) (by decide) ?_
  refine RA.skip rfl rfl rfl rfl rfl (decide_eq_false hc5) (by decide) ?_
  refine RA.skip rfl rfl rfl rfl rfl (decide_eq_false hc5) (by decide) ?_
  refine RA.skip rfl rfl rfl rfl rfl (decide_eq_false hc5) (by decide) ?_
  refine RA.skip rfl rfl rfl rfl rfl (decide_eq_false hc5) (by decide) ?_
  refine RA.skip rfl rfl rfl rfl rfl (decide_eq_false hc5) (by decide) ?_
  refine RA.skip rfl rfl rfl rfl rfl (decide_eq_false hc5) (by decide) ?_
  refine RA.skip rfl rfl rfl rfl rfl (decide_eq_false hc5) (by decide) ?_
  refine RA.skip rfl rfl rfl rfl rfl (decide_eq_false hc5) (by decide) ?_
  refine RA.skip rfl rfl rfl rfl rfl (decide_eq_false hc5) (by decide) ?_
  refine a_pick (b := false) (v := vB _) ?_ (decide_eq_false hc5)
  refine a_move (v := vB _) ?_
  refine RA.nil (fun _ => by kernel_rfl) ?_
  refine AG.ret ?_
  obtain rfl := Option.some.inj H
  exact RetP.mk id ⟨rfl, trivial⟩ trivial rfl
def spec_l03Meet.f (a0_0 : Int) (a0_1 : Int) (a1_0 : Int) (a1_1 : Int) (a2_0 : Int) (a2_1 : Int) (a3_0 : Int) (a3_1 : Int) : Option (Bool) := (spec_l02Crosses.f a0_0 a0_1 a1_0 a1_1 a2_0 a2_1 a3_0 a3_1).bind fun t1 => (if t1 = true then (some true) else ((spec_l02On.f a0_0 a0_1 a1_0 a1_1 a2_0 a2_1).bind fun t4 => (if t4 = true then (some true) else ((spec_l02On.f a0_0 a0_1 a1_0 a1_1 a3_0 a3_1).bind fun t7 => (if t7 = true then (some true) else ((spec_l02On.f a2_0 a2_1 a3_0 a3_1 a0_0 a0_1).bind fun t10 => (if t10 = true then (some true) else ((spec_l02On.f a2_0 a2_1 a3_0 a3_1 a1_0 a1_1).bind fun t13 => (some t13)))))))))
set_option maxRecDepth 100000 in
theorem spec_l03Meet.ok {a0_0 : Int} {a0_1 : Int} {a1_0 : Int} {a1_1 : Int} {a2_0 : Int} {a2_1 : Int} {a3_0 : Int} {a3_1 : Int} {r : Bool} (H : spec_l03Meet.f a0_0 a0_1 a1_0 a1_1 a2_0 a2_1 a3_0 a3_1 = some r) : OkF Tryz.prog 155 [.agg [.d (.v (.int .i64 a0_0)), .d (.v (.int .i64 a0_1))], .agg [.d (.v (.int .i64 a1_0)), .d (.v (.int .i64 a1_1))], .agg [.d (.v (.int .i64 a2_0)), .d (.v (.int .i64 a2_1))], .agg [.d (.v (.int .i64 a3_0)), .d (.v (.int .i64 a3_1))]] [] (.c (.d (.v (.bool r)))) [] := by
 unfold spec_l03Meet.f at H
 refine OkF.of (N := 38) (rs := [8]) (avs := [.c (.d (.v (.bool r)))]) Tryz.func155 rfl rfl (fun _ _ => results_tmp rfl _ _ _) (by decide) rfl rfl rfl rfl (fun w0 S => ?_)
 refine AG.seq ?_
 refine AG.region HM ?_
 refine a_box 200 ?_
 refine a_box 201 ?_
 refine a_box 202 ?_
 refine a_box 203 ?_
 refine a_move (v := vB _) ?_
 refine RA.nil nofun ?_
 refine AG.seq ?_
 refine AG.region HM ?_
 refine a_ldB (v := .agg [_, _]) ?_ T160
 refine a_ldB (v := .agg [_, _]) ?_ T160
 refine a_ldB (v := .agg [_, _]) ?_ T160
 refine a_ldB (v := .agg [_, _]) ?_ T160
 obtain ⟨t1, e2, H⟩ := bindO H
 refine a_call (v := vB t1) (nk := []) (L := []) ?_ rfl (spec_l02Crosses.ok e2) id (qg (qg (qg (qg qn)))) trivial trivial trivial rfl
 refine a_move (v := vB _) ?_
 by_cases hc3 : t1 = true
 ·rw [if_pos hc3] at H
  refine RA.skip rfl rfl rfl rfl rfl hc3 (by decide) ?_
  refine RA.skip rfl rfl rfl rfl rfl hc3 (by decide) ?_
  refine RA.skip rfl rfl rfl rfl rfl hc3 (by decide) ?_
  refine RA.skip rfl rfl rfl rfl rfl hc3 (by decide) ?_
  refine a_pick (b := true) (v := vB _) ?_ hc3
  refine a_move (v := vB _) ?_
  refine RA.skip rfl rfl rfl rfl rfl rfl (by decide) ?_
  refine RA.skip rfl rfl rfl rfl rfl rfl (by decide) ?_
  refine RA.skip rfl rfl rfl rfl rfl rfl (by decide) ?_
  refine RA.skip rfl rfl rfl rfl rfl rfl (by decide) ?_
  refine a_pick (b := true) (v := vB _) ?_ rfl
  refine a_move (v := vB _) ?_
  refine RA.skip rfl rfl rfl rfl rfl rfl (by decide) ?_
  refine RA.skip rfl rfl rfl rfl rfl rfl (by decide) ?_
  refine RA.skip rfl rfl rfl rfl rfl rfl (by decide) ?_
  refine RA.skip rfl rfl rfl rfl rfl rfl (by decide) ?_
  refine a_pick (b := true) (v := vB _) ?_ rfl
  refine a_move (v := vB _) ?_
  refine RA.skip rfl rfl rfl rfl rfl rfl (by decide) ?_
  refine RA.skip rfl rfl rfl rfl rfl rfl (by decide) ?_
  refine RA.skip rfl rfl rfl rfl rfl rfl (by decide) ?_
  refine RA.skip rfl rfl rfl rfl rfl rfl (by decide) ?_
  refine a_pick (b := true) (v := vB _) ?_ rfl
  refine a_move (v := vB _) ?_
  refine RA.nil nofun ?_
  refine AG.ret ?_
  obtain rfl := Option.some.inj H
  exact RetP.mk id ⟨rfl, trivial⟩ trivial rfl
 ·rw [if_neg hc3] at H
  refine a_ldB (v := .agg [_, _]) ?_ T160 (hg := Gs.yes rfl rfl rfl (Bool.eq_false_iff.2 hc3))
  refine a_ldB (v := .agg [_, _]) ?_ T160 (hg := Gs.yes rfl rfl rfl (Bool.eq_false_iff.2 hc3))
  refine a_ldB (v := .agg [_, _]) ?_ T160 (hg := Gs.yes rfl rfl rfl (Bool.eq_false_iff.2 hc3))
  obtain ⟨t4, e5, H⟩ := bindO H
  refine a_call (v := vB t4) (nk := []) (L := []) ?_ rfl (spec_l02On.ok e5) id (qg (qg (qg qn))) trivial trivial trivial rfl (hg := Gs.yes rfl rfl rfl (Bool.eq_false_iff.2 hc3))
  refine a_pick (b := false) (v := vB _) ?_ (Bool.eq_false_iff.2 hc3)
  refine a_move (v := vB _) ?_
  by_cases hc6 : t4 = true
  ·rw [if_pos hc6] at H
   refine RA.skip rfl rfl rfl rfl rfl hc6 (by decide) ?_
   refine RA.skip rfl rfl rfl rfl rfl hc6 (by decide) ?_
   refine RA.skip rfl rfl rfl rfl rfl hc6 (by decide) ?_
   refine RA.skip rfl rfl rfl rfl rfl hc6 (by decide) ?_
   refine a_pick (b := true) (v := vB _) ?_ hc6
   refine a_move (v := vB _) ?_
   refine RA.skip rfl rfl rfl rfl rfl rfl (by decide) ?_
   refine RA.skip rfl rfl rfl rfl rfl rfl (by decide) ?_
   refine RA.skip rfl rfl rfl rfl rfl rfl (by decide) ?_
   refine RA.skip rfl rfl rfl rfl rfl rfl (by decide) ?_
   refine a_pick (b := true) (v := vB _) ?_ rfl
   refine a_move (v := vB _) ?_
   refine RA.skip rfl rfl rfl rfl rfl rfl (by decide) ?_
   refine RA.skip rfl rfl rfl rfl rfl rfl (by decide) ?_
   refine RA.skip rfl rfl rfl rfl rfl rfl (by decide) ?_
   refine RA.skip rfl rfl rfl rfl rfl rfl (by decide) ?_
   refine a_pick (b := true) (v := vB _) ?_ rfl
   refine a_move (v := vB _) ?_
   refine RA.nil nofun ?_
   refine AG.ret ?_
   obtain rfl := Option.some.inj H
   exact RetP.mk id ⟨rfl, trivial⟩ trivial rfl
  ·rw [if_neg hc6] at H
   refine a_ldB (v := .agg [_, _]) ?_ T160 (hg := Gs.yes rfl rfl rfl (Bool.eq_false_iff.2 hc6))
   refine a_ldB (v := .agg [_, _]) ?_ T160 (hg := Gs.yes rfl rfl rfl (Bool.eq_false_iff.2 hc6))
   refine a_ldB (v := .agg [_, _]) ?_ T160 (hg := Gs.yes rfl rfl rfl (Bool.eq_false_iff.2 hc6))
   obtain ⟨t7, e8, H⟩ := bindO H
   refine a_call (v := vB t7) (nk := []) (L := []) ?_ rfl (spec_l02On.ok e8) id (qg (qg (qg qn))) trivial trivial trivial rfl (hg := Gs.yes rfl rfl rfl (Bool.eq_false_iff.2 hc6))
   refine a_pick (b := false) (v := vB _) ?_ (Bool.eq_false_iff.2 hc6)
   refine a_move (v := vB _) ?_
   by_cases hc9 : t7 = true
   ·rw [if_pos hc9] at H
    refine RA.skip rfl rfl rfl rfl rfl hc9 (by decide) ?_
    refine RA.skip rfl rfl rfl rfl rfl hc9 (by decide) ?_
    refine RA.skip rfl rfl rfl rfl rfl hc9 (by decide) ?_
    refine RA.skip rfl rfl rfl rfl rfl hc9 (by decide) ?_
    refine a_pick (b := true) (v := vB _) ?_ hc9
    refine a_move (v := vB _) ?_
    refine RA.skip rfl rfl rfl rfl rfl rfl (by decide) ?_
    refine RA.skip rfl rfl rfl rfl rfl rfl (by decide) ?_
    refine RA.skip rfl rfl rfl rfl rfl rfl (by decide) ?_
    refine RA.skip rfl rfl rfl rfl rfl rfl (by decide) ?_
    refine a_pick (b := true) (v := vB _) ?_ rfl
    refine a_move (v := vB _) ?_
    refine RA.nil nofun ?_
    refine AG.ret ?_
    obtain rfl := Option.some.inj H
    exact RetP.mk id ⟨rfl, trivial⟩ trivial rfl
   ·rw [if_neg hc9] at H
    refine a_ldB (v := .agg [_, _]) ?_ T160 (hg := Gs.yes rfl rfl rfl (Bool.eq_false_iff.2 hc9))
    refine a_ldB (v := .agg [_, _]) ?_ T160 (hg := Gs.yes rfl rfl rfl (Bool.eq_false_iff.2 hc9))
    refine a_ldB (v := .agg [_, _]) ?_ T160 (hg := Gs.yes rfl rfl rfl (Bool.eq_false_iff.2 hc9))
    obtain ⟨t10, e11, H⟩ := bindO H
    refine a_call (v := vB t10) (nk := []) (L := []) ?_ rfl (spec_l02On.ok e11) id (qg (qg (qg qn))) trivial trivial trivial rfl (hg := Gs.yes rfl rfl rfl (Bool.eq_false_iff.2 hc9))
    refine a_pick (b := false) (v := vB _) ?_ (Bool.eq_false_iff.2 hc9)
    refine a_move (v := vB _) ?_
    by_cases hc12 : t10 = true
    ·rw [if_pos hc12] at H
     refine RA.skip rfl rfl rfl rfl rfl hc12 (by decide) ?_
     refine RA.skip rfl rfl rfl rfl rfl hc12 (by decide) ?_
     refine RA.skip rfl rfl rfl rfl rfl hc12 (by decide) ?_
     refine RA.skip rfl rfl rfl rfl rfl hc12 (by decide) ?_
     refine a_pick (b := true) (v := vB _) ?_ hc12
     refine a_move (v := vB _) ?_
     refine RA.nil nofun ?_
     refine AG.ret ?_
     obtain rfl := Option.some.inj H
     exact RetP.mk id ⟨rfl, trivial⟩ trivial rfl
    ·rw [if_neg hc12] at H
     refine a_ldB (v := .agg [_, _]) ?_ T160 (hg := Gs.yes rfl rfl rfl (Bool.eq_false_iff.2 hc12))
     refine a_ldB (v := .agg [_, _]) ?_ T160 (hg := Gs.yes rfl rfl rfl (Bool.eq_false_iff.2 hc12))
     refine a_ldB (v := .agg [_, _]) ?_ T160 (hg := Gs.yes rfl rfl rfl (Bool.eq_false_iff.2 hc12))
     obtain ⟨t13, e14, H⟩ := bindO H
     refine a_call (v := vB t13) (nk := []) (L := []) ?_ rfl (spec_l02On.ok e14) id (qg (qg (qg qn))) trivial trivial trivial rfl (hg := Gs.yes rfl rfl rfl (Bool.eq_false_iff.2 hc12))
     refine a_pick (b := false) (v := vB _) ?_ (Bool.eq_false_iff.2 hc12)
     refine a_move (v := vB _) ?_
     refine RA.nil nofun ?_
     refine AG.ret ?_
     obtain rfl := Option.some.inj H
     exact RetP.mk id ⟨rfl, trivial⟩ trivial rfl
mutual
def spec_l03Ok.j0 : Nat → List S159 → Int → Bool → Option (Bool)
 | 0, _, _, _ => none
 | k + 1, x0, x3, x17 => if x17 = true then (some false) else (spec_l03Ok.l0 k x0 x3 0)
def spec_l03Ok.l0 : Nat → List S159 → Int → Int → Option (Bool)
 | 0, _, _, _ => none
 | k + 1, x0, x3, x4 => if x4 < x3 then (if 0 ≤ x4 then (if x4 < (x0.length : Int) then ((spec_l02Ok.f ((rd159 x0 x4).f0) ((rd159 x0 x4).f1)).bind fun t6 => (if t6 = true then (spec_l03Ok.l0 k x0 x3 (wrap64 (x4 + 1))) else (some false))) else (none)) else (none)) else (spec_l03Ok.l1 k x0 x3 0)
def spec_l03Ok.l1 : Nat → List S159 → Int → Int → Option (Bool)
 | 0, _, _, _ => none
 | k + 1, x0, x3, x5 => if x5 < x3 then (if 0 ≤ x5 then (if x5 < (x0.length : Int) then (if x3 = 0 then (none) else (if 0 ≤ (Int.tmod (wrap64 (x5 + 1)) x3) then (if (Int.tmod (wrap64 (x5 + 1)) x3) < (x0.length : Int) then (if 0 ≤ (Int.tmod (wrap64 (x5 + 2)) x3) then (if (Int.tmod (wrap64 (x5 + 2)) x3) < (x0.length : Int) then (if (((rd159 x0 x5).f0) == ((rd159 x0 (Int.tmod (wrap64 (x5 + 1)) x3)).f0) && (((rd159 x0 x5).f1) == ((rd159 x0 (Int.tmod (wrap64 (x5 + 1)) x3)).f1))) = true then (spec_l03Ok.j1 k x0 x3 x5 ((rd159 x0 x5).f0) ((rd159 x0 x5).f1) ((rd159 x0 (Int.tmod (wrap64 (x5 + 1)) x3)).f0) ((rd159 x0 (Int.tmod (wrap64 (x5 + 1)) x3)).f1) true) else ((spec_l02On.f ((rd159 x0 x5).f0) ((rd159 x0 x5).f1) ((rd159 x0 (Int.tmod (wrap64 (x5 + 1)) x3)).f0) ((rd159 x0 (Int.tmod (wrap64 (x5 + 1)) x3)).f1) ((rd159 x0 (Int.tmod (wrap64 (x5 + 2)) x3)).f0) ((rd159 x0 (Int.tmod (wrap64 (x5 + 2)) x3)).f1)).bind fun t18 => (if t18 = true then (spec_l03Ok.j1 k x0 x3 x5 ((rd159 x0 x5).f0) ((rd159 x0 x5).f1) ((rd159 x0 (Int.tmod (wrap64 (x5 + 1)) x3)).f0) ((rd159 x0 (Int.tmod (wrap64 (x5 + 1)) x3)).f1) true) else ((spec_l02On.f ((rd159 x0 (Int.tmod (wrap64 (x5 + 1)) x3)).f0) ((rd159 x0 (Int.tmod (wrap64 (x5 + 1)) x3)).f1) ((rd159 x0 (Int.tmod (wrap64 (x5 + 2)) x3)).f0) ((rd159 x0 (Int.tmod (wrap64 (x5 + 2)) x3)).f1) ((rd159 x0 x5).f0) ((rd159 x0 x5).f1)).bind fun t21 => (spec_l03Ok.j1 k x0 x3 x5 ((rd159 x0 x5).f0) ((rd159 x0 x5).f1) ((rd159 x0 (Int.tmod (wrap64 (x5 + 1)) x3)).f0) ((rd159 x0 (Int.tmod (wrap64 (x5 + 1)) x3)).f1) t21))))) else (none)) else (none)) else (none)) else (none))) else (none)) else (none)) else ((spec_l03Area.f k x0).bind fun t34 => (some (decide (t34 > 0))))
def spec_l03Ok.j1 : Nat → List S159 → Int → Int → Int → Int → Int → Int → Bool → Option (Bool)
 | 0, _, _, _, _, _, _, _, _ => none
 | k + 1, x0, x3, x5, y207_0, y207_1, y208_0, y208_1, x66 => if x66 = true then (some false) else (spec_l03Ok.l2 k x0 x3 x5 y207_0 y207_1 y208_0 y208_1 (wrap64 (x5 + 2)))
def spec_l03Ok.l2 : Nat → List S159 → Int → Int → Int → Int → Int → Int → Int → Option (Bool)
 | 0, _, _, _, _, _, _, _, _ => none
 | k + 1, x0, x3, x5, y209_0, y209_1, y210_0, y210_1, x9 => if x9 < x3 then (if x3 = 0 then (none) else (if (Int.tmod (wrap64 (x9 + 1)) x3) = x5 then (spec_l03Ok.l2 k x0 x3 x5 y209_0 y209_1 y210_0 y210_1 (wrap64 (x9 + 1))) else (if 0 ≤ x9 then (if x9 < (x0.length : Int) then (if 0 ≤ (Int.tmod (wrap64 (x9 + 1)) x3) then (if (Int.tmod (wrap64 (x9 + 1)) x3) < (x0.length : Int) then ((spec_l03Meet.f y209_0 y209_1 y210_0 y210_1 ((rd159 x0 x9).f0) ((rd159 x0 x9).f1) ((rd159 x0 (Int.tmod (wrap64 (x9 + 1)) x3)).f0) ((rd159 x0 (Int.tmod (wrap64 (x9 + 1)) x3)).f1)).bind fun t31 => (if t31 = true then (some false) else (spec_l03Ok.l2 k x0 x3 x5 y209_0 y209_1 y210_0 y210_1 (wrap64 (x9 + 1))))) else (none)) else (none)) else (none)) else (none)))) else (spec_l03Ok.l1 k x0 x3 (wrap64 (x5 + 1)))
end
def spec_l03Ok.f (k : Nat) (l0 : List S159) : Option (Bool) := if (l0.length : Int) < 3 then (spec_l03Ok.j0 k l0 (l0.length : Int) true) else (spec_l03Ok.j0 k l0 (l0.length : Int) (decide ((l0.length : Int) > 24)))
set_option maxRecDepth 100000 in
theorem spec_l03Ok.ok {k : Nat} {l0 : List S159} {r : Bool} (H : spec_l03Ok.f k l0 = some r) : OkF Tryz.prog 103 [vR 160 (l0.map c159)] [] (.c (.d (.v (.bool r)))) [] := by
 unfold spec_l03Ok.f at H
 refine OkF.of (N := 99) (rs := [2]) (avs := [.c (.d (.v (.bool r)))]) Tryz.func103 rfl rfl (fun _ _ => results_tmp rfl _ _ _) (by decide) rfl rfl rfl rfl (fun w0 S => ?_)
 refine AG.seq ?_
 refine AG.region HM ?_
 refine a_move (v := vB _) ?_
 refine RA.nil nofun ?_
 refine AG.seq ?_
 refine AG.region HM ?_
 refine a_move (v := vR _ _) ?_
 refine a_lenR ?_ Tryz.underlying32
 refine a_move (v := vI _) ?_
 refine RA.nil nofun ?_
 refine AG.seq ?_
 refine AG.seq ?_
 refine AG.joinR (fun s => ∃ q, q ≤ k ∧ ∃ (x0 : List S159) (x3 : Int) (x17 : Bool), spec_l03Ok.j0 q x0 x3 x17 = some r ∧ s = St.of [(0, vR 160 (x0.map c159)), (3, vI x3), (17, vB x17)] []) ?_ ?_
 ·skip
  refine AG.region HM ?_
  refine a_move (v := vI _) ?_
  refine a_int (u := .bool (decide ((l0.length : Int) < 3))) ?_
  refine a_move (v := vB _) ?_
  by_cases hc1 : (l0.length : Int) < 3
  ·rw [if_pos hc1] at H
   refine RA.skip rfl rfl rfl rfl rfl (decide_eq_true hc1) (by decide) ?_
   refine RA.skip rfl rfl rfl rfl rfl (decide_eq_true hc1) (by decide) ?_
   refine a_pick (b := true) (v := vB _) ?_ (decide_eq_true hc1)
   refine RA.nil nofun ?_
   exact CanR.mk id ⟨_, (by omega), _, _, _, H, rfl⟩ ⟨rfl, rfl, rfl, trivial⟩ trivial rfl
  ·rw [if_neg hc1] at H
   refine a_move (v := vI _) ?_ (hg := Gs.yes rfl rfl rfl (decide_eq_false hc1))
   refine a_int (u := .bool (decide ((l0.length : Int) > 24))) ?_ (hg := Gs.yes rfl rfl rfl (decide_eq_false hc1))
   refine a_pick (b := false) (v := vB _) ?_ (decide_eq_false hc1)
   refine RA.nil nofun ?_
   exact CanR.mk id ⟨_, (by omega), _, _, _, H, rfl⟩ ⟨rfl, rfl, rfl, trivial⟩ trivial rfl
 ·clear H
  rintro _ ⟨k, hj0, x0, x3, x17, H, rfl⟩
  cases k with
  | zero => cases H
  | succ k =>
   rw [spec_l03Ok.j0] at H
   by_cases hc2 : x17 = true
   ·rw [if_pos hc2] at H
    refine AG.yes rfl hc2 ?_
    refine AG.seq ?_
    refine AG.region HM ?_
    refine a_move (v := vB _) ?_
    refine RA.nil nofun ?_
    refine AG.ret ?_
    obtain rfl := Option.some.inj H
    exact RetP.mk id ⟨rfl, trivial⟩ trivial rfl
   ·rw [if_neg hc2] at H
    refine AG.no rfl (Bool.eq_false_iff.2 hc2) ?_
    refine AG.skip ?_
    refine AG.seq ?_
    refine AG.seq ?_
    refine AG.region HM ?_
    refine a_move (v := vI _) ?_
    refine RA.nil nofun ?_
    refine AG.block ?_
    refine AG.loop ?_
    obtain ⟨K0, hK0, gK0⟩ : ∃ K, k ≤ K ∧ K ≤ k := ⟨k, Nat.le_refl k, Nat.le_refl k⟩
    refine AGr.canon id (AGr.loopI (n := k) (fun k s => k ≤ K0 ∧ ∃ (x0 : List S159) (x3 : Int) (x4 : Int), spec_l03Ok.l0 k x0 x3 x4 = some r ∧ s = St.of [(0, vR 160 (x0.map c159)), (3, vI x3), (4, vI x4)] []) ⟨hK0, _, _, _, H, rfl⟩ ?_ ?_) ⟨rfl, rfl, rfl, trivial⟩ trivial rfl
    ·rintro _ ⟨_, _, _, _, H, _⟩
     cases H
    ·clear H hK0
     rintro k ih0 _ ⟨hK0, x0, x3, x4, H, rfl⟩
     unfold spec_l03Ok.l0 at H
     refine AG.seq ?_
     refine AG.seq ?_
     refine AG.region HM ?_
     refine a_move (v := vI _) ?_
     refine a_move (v := vI _) ?_
     refine a_int (u := .bool (decide (x4 < x3))) ?_
     refine RA.nil nofun ?_
     by_cases hc3 : x4 < x3
     ·rw [if_pos hc3] at H
      refine AG.yes rfl (decide_eq_true hc3) ?_
      refine AG.skip ?_
      refine AG.seq ?_
      refine AG.block ?_
      refine AG.seq ?_
      refine AG.region HM ?_
      refine a_move (v := vR _ _) ?_
      refine a_move (v := vI _) ?_
      by_cases hc4 : 0 ≤ x4
      ·rw [if_pos hc4] at H
       by_cases hc5 : x4 < (x0.length : Int)
       ·rw [if_pos hc5] at H
        refine a_ixR (el := c159 (rd159 x0 x4)) ?_ ⟨hc4, hc5⟩ T160 Tryz.underlying32 (hel := R159 hc4 hc5)
        refine a_ldR (v := .agg [_, _]) ?_ T160
        obtain ⟨t6, e7, H⟩ := bindO H
        refine a_call (v := vB t6) (nk := []) (L := []) ?_ rfl (spec_l02Ok.ok e7) id (qg qn) trivial trivial trivial rfl
        refine a_un (u := .bool (!t6)) ?_
        refine RA.nil nofun ?_
        by_cases hc8 : t6 = true
        ·rw [if_pos hc8] at H
         refine AG.no rfl (congrArg Bool.not hc8) ?_
         refine AG.skip ?_
         refine AG.region HM ?_
         refine a_move (v := vI _) ?_
         refine a_int (u := .int .i64 (wrap64 (x4 + 1))) ?_
         refine a_move (v := vI _) ?_
         refine RA.nil nofun ?_
         exact AGr.canon id (ih0 _ (by omega) _ ⟨by omega, _, _, _, H, rfl⟩) ⟨rfl, rfl, rfl, trivial⟩ trivial rfl
        ·rw [if_neg hc8] at H
         refine AG.yes rfl (congrArg Bool.not (Bool.eq_false_iff.2 hc8)) ?_
         refine AG.seq ?_
         refine AG.region HM ?_
         refine a_move (v := vB _) ?_
         refine RA.nil nofun ?_
         refine AG.ret ?_
         obtain rfl := Option.some.inj H
         exact RetP.mk id ⟨rfl, trivial⟩ trivial rfl
       ·rw [if_neg hc5] at H
        cases H
      ·rw [if_neg hc4] at H
       cases H
     ·rw [if_neg hc3] at H
      refine AG.no rfl (decide_eq_false hc3) ?_
      refine AG.exit ?_
      refine AG.seq ?_
      refine AG.seq ?_
      refine AG.region HM ?_
      refine a_move (v := vI _) ?_
      refine RA.nil nofun ?_
      refine AG.block ?_
      refine AG.loop ?_
      obtain ⟨K1, hK1, gK1⟩ : ∃ K, k ≤ K ∧ K ≤ k := ⟨k, Nat.le_refl k, Nat.le_refl k⟩
      refine AGr.canon id (AGr.loopI (n := k) (fun k s => k ≤ K1 ∧ ∃ (x0 : List S159) (x3 : Int) (x5 : Int), spec_l03Ok.l1 k x0 x3 x5 = some r ∧ s = St.of [(0, vR 160 (x0.map c159)), (3, vI x3), (5, vI x5)] []) ⟨hK1, _, _, _, H, rfl⟩ ?_ ?_) ⟨rfl, rfl, rfl, trivial⟩ trivial rfl
      ·rintro _ ⟨_, _, _, _, H, _⟩
       cases H
      ·clear H hK1
       rintro k ih1 _ ⟨hK1, x0, x3, x5, H, rfl⟩
       unfold spec_l03Ok.l1 at H
       refine AG.seq ?_
       refine AG.seq ?_
       refine AG.region HM ?_
       refine a_move (v := vI _) ?_
       refine a_move (v := vI _) ?_
       refine a_int (u := .bool (decide (x5 < x3))) ?_
       refine RA.nil nofun ?_
       by_cases hc9 : x5 < x3
       ·rw [if_pos hc9] at H
        refine AG.yes rfl (decide_eq_true hc9) ?_
        refine AG.skip ?_
        refine AG.seq ?_
        refine AG.block ?_
        refine AG.seq ?_
        refine AG.region HM ?_
        refine a_move (v := vR _ _) ?_
        refine a_move (v := vI _) ?_
        by_cases hc10 : 0 ≤ x5
        ·rw [if_pos hc10] at H
         by_cases hc11 : x5 < (x0.length : Int)
         ·rw [if_pos hc11] at H
          refine a_ixR (el := c159 (rd159 x0 x5)) ?_ ⟨hc10, hc11⟩ T160 Tryz.underlying32 (hel := R159 hc10 hc11)
          refine a_ldR (v := .agg [_, _]) ?_ T160
          refine a_alloc (cs := [_, _]) 202 ?_ T160
          refine a_stB (cs' := [_, _]) ?_ T160
          refine RA.nil nofun ?_
          refine AG.seq ?_
          refine AG.region HM ?_
          refine a_move (v := vR _ _) ?_
          refine a_move (v := vI _) ?_
          refine a_int (u := .int .i64 (wrap64 (x5 + 1))) ?_
          refine a_move (v := vI _) ?_
          by_cases hc12 : x3 = 0
          ·rw [if_pos hc12] at H
           cases H
          ·rw [if_neg hc12] at H
           refine a_rem (r := Int.tmod (wrap64 (x5 + 1)) x3) ?_ hc12
           by_cases hc13 : 0 ≤ (Int.tmod (wrap64 (x5 + 1)) x3)
           ·rw [if_pos hc13] at H
            by_cases hc14 : (Int.tmod (wrap64 (x5 + 1)) x3) < (x0.length : Int)
            ·rw [if_pos hc14] at H
             refine a_ixR (el := c159 (rd159 x0 (Int.tmod (wrap64 (x5 + 1)) x3))) ?_ ⟨hc13, hc14⟩ T160 Tryz.underlying32 (hel := R159 hc13 hc14)
             refine a_ldR (v := .agg [_, _]) ?_ T160
             refine a_alloc (cs := [_, _]) 203 ?_ T160
             refine a_stB (cs' := [_, _]) ?_ T160
             refine RA.nil nofun ?_
             refine AG.seq ?_
             refine AG.region HM ?_
             refine a_move (v := vR _ _) ?_
             refine a_move (v := vI _) ?_
             refine a_int (u := .int .i64 (wrap64 (x5 + 2))) ?_
             refine a_move (v := vI _) ?_
             refine a_rem (r := Int.tmod (wrap64 (x5 + 2)) x3) ?_ hc12
             by_cases hc15 : 0 ≤ (Int.tmod (wrap64 (x5 + 2)) x3)
             ·rw [if_pos hc15] at H
              by_cases hc16 : (Int.tmod (wrap64 (x5 + 2)) x3) < (x0.length : Int)
              ·rw [if_pos hc16] at H
               refine a_ixR (el := c159 (rd159 x0 (Int.tmod (wrap64 (x5 + 2)) x3))) ?_ ⟨hc15, hc16⟩ T160 Tryz.underlying32 (hel := R159 hc15 hc16)
               refine a_ldR (v := .agg [_, _]) ?_ T160
               refine a_alloc (cs := [_, _]) 204 ?_ T160
               refine a_stB (cs' := [_, _]) ?_ T160
               refine RA.nil nofun ?_
               refine AG.seq ?_
               refine AG.seq ?_
               refine AG.joinR (fun s => ∃ q, q ≤ k ∧ ∃ (x0 : List S159) (x3 : Int) (x5 : Int) (y207_0 : Int) (y207_1 : Int) (y208_0 : Int) (y208_1 : Int) (x66 : Bool), spec_l03Ok.j1 q x0 x3 x5 y207_0 y207_1 y208_0 y208_1 x66 = some r ∧ s = St.of [(0, vR 160 (x0.map c159)), (3, vI x3), (5, vI x5), (6, .c (.ptr 207 0)), (7, .c (.ptr 208 0)), (66, vB x66)] [(207, .box 160 [.d (.v (.int .i64 y207_0)), .d (.v (.int .i64 y207_1))]), (208, .box 160 [.d (.v (.int .i64 y208_0)), .d (.v (.int .i64 y208_1))])]) ?_ ?_
               ·skip
                refine AG.region HM ?_
                refine a_ldB (v := .agg [_, _]) ?_ T160
                refine a_ldB (v := .agg [_, _]) ?_ T160
                refine a_eqS (b := (((rd159 x0 x5).f0) == ((rd159 x0 (Int.tmod (wrap64 (x5 + 1)) x3)).f0) && (((rd159 x0 x5).f1) == ((rd159 x0 (Int.tmod (wrap64 (x5 + 1)) x3)).f1)))) ?_ (.inl ⟨rfl, rfl⟩) (Q160 ((rd159 x0 x5).f0) ((rd159 x0 (Int.tmod (wrap64 (x5 + 1)) x3)).f0) ((rd159 x0 x5).f1) ((rd159 x0 (Int.tmod (wrap64 (x5 + 1)) x3)).f1)).1
                refine a_move (v := vB _) ?_
                by_cases hc17 : (((rd159 x0 x5).f0) == ((rd159 x0 (Int.tmod (wrap64 (x5 + 1)) x3)).f0) && (((rd159 x0 x5).f1) == ((rd159 x0 (Int.tmod (wrap64 (x5 + 1)) x3)).f1))) = true
                ·rw [if_pos hc17] at H
                 refine RA.skip rfl rfl rfl rfl rfl hc17 (by decide) ?_
                 refine RA.skip rfl rfl rfl rfl rfl hc17 (by decide) ?_
                 refine RA.skip rfl rfl rfl rfl rfl hc17 (by decide) ?_
                 refine RA.skip rfl rfl rfl rfl rfl hc17 (by decide) ?_
                 refine a_pick (b := true) (v := vB _) ?_ hc17
                 refine a_move (v := vB _) ?_
                 refine RA.skip rfl rfl rfl rfl rfl rfl (by decide) ?_
                 refine RA.skip rfl rfl rfl rfl rfl rfl (by decide) ?_
                 refine RA.skip rfl rfl rfl rfl rfl rfl (by decide) ?_
                 refine RA.skip rfl rfl rfl rfl rfl rfl (by decide) ?_
                 refine a_pick (b := true) (v := vB _) ?_ rfl
                 refine RA.nil nofun ?_
                 exact CanR.mk (fun κ => cond (Nat.beq κ 207) 202 (cond (Nat.beq κ 208) 203 (κ))) ⟨_, (by omega), _, _, _, _, _, _, _, _, H, rfl⟩ ⟨rfl, rfl, rfl, rfl, rfl, rfl, trivial⟩ ⟨rfl, rfl, trivial⟩ rfl
                ·rw [if_neg hc17] at H
                 refine a_ldB (v := .agg [_, _]) ?_ T160 (hg := Gs.yes rfl rfl rfl (Bool.eq_false_iff.2 hc17))
                 refine a_ldB (v := .agg [_, _]) ?_ T160 (hg := Gs.yes rfl rfl rfl (Bool.eq_false_iff.2 hc17))
                 refine a_ldB (v := .agg [_, _]) ?_ T160 (hg := Gs.yes rfl rfl rfl (Bool.eq_false_iff.2 hc17))
                 obtain ⟨t18, e19, H⟩ := bindO H
                 refine a_call (v := vB t18) (nk := []) (L := []) ?_ rfl (spec_l02On.ok e19) id (qg (qg (qg qn))) trivial trivial trivial rfl (hg := Gs.yes rfl rfl rfl (Bool.eq_false_iff.2 hc17))
                 refine a_pick (b := false) (v := vB _) ?_ (Bool.eq_false_iff.2 hc17)
                 refine a_move (v := vB _) ?_
                 by_cases hc20 : t18 = true
                 ·rw [if_pos hc20] at H
                  refine RA.skip rfl rfl rfl rfl rfl hc20 (by decide) ?_
                  refine RA.skip rfl rfl rfl rfl rfl hc20 (by decide) ?_
                  refine RA.skip rfl rfl rfl rfl rfl hc20 (by decide) ?_
                  refine RA.skip rfl rfl rfl rfl rfl hc20 (by decide) ?_
                  refine a_pick (b := true) (v := vB _) ?_ hc20
                  refine RA.nil nofun ?_
                  exact CanR.mk (fun κ => cond (Nat.beq κ 207) 202 (cond (Nat.beq κ 208) 203 (κ))) ⟨_, (by omega), _, _, _, _, _, _, _, _, H, rfl⟩ ⟨rfl, rfl, rfl, rfl, rfl, rfl, trivial⟩ ⟨rfl, rfl, trivial⟩ rfl
                 ·rw [if_neg hc20] at H
                  refine a_ldB (v := .agg [_, _]) ?_ T160 (hg := Gs.yes rfl rfl rfl (Bool.eq_false_iff.2 hc20))
                  refine a_ldB (v := .agg [_, _]) ?_ T160 (hg := Gs.yes rfl rfl rfl (Bool.eq_false_iff.2 hc20))
                  refine a_ldB (v := .agg [_, _]) ?_ T160 (hg := Gs.yes rfl rfl rfl (Bool.eq_false_iff.2 hc20))
                  obtain ⟨t21, e22, H⟩ := bindO H
                  refine a_call (v := vB t21) (nk := []) (L := []) ?_ rfl (spec_l02On.ok e22) id (qg (qg (qg qn))) trivial trivial trivial rfl (hg := Gs.yes rfl rfl rfl (Bool.eq_false_iff.2 hc20))
                  refine a_pick (b := false) (v := vB _) ?_ (Bool.eq_false_iff.2 hc20)
                  refine RA.nil nofun ?_
                  exact CanR.mk (fun κ => cond (Nat.beq κ 207) 202 (cond (Nat.beq κ 208) 203 (κ))) ⟨_, (by omega), _, _, _, _, _, _, _, _, H, rfl⟩ ⟨rfl, rfl, rfl, rfl, rfl, rfl, trivial⟩ ⟨rfl, rfl, trivial⟩ rfl
               ·clear H
                rintro _ ⟨k, hj1, x0, x3, x5, y207_0, y207_1, y208_0, y208_1, x66, H, rfl⟩
                cases k with
                | zero => cases H
                | succ k =>
                 rw [spec_l03Ok.j1] at H
                 by_cases hc23 : x66 = true
                 ·rw [if_pos hc23] at H
                  refine AG.yes rfl hc23 ?_
                  refine AG.seq ?_
                  refine AG.region HM ?_
                  refine a_move (v := vB _) ?_
                  refine RA.nil nofun ?_
                  refine AG.ret ?_
                  obtain rfl := Option.some.inj H
                  exact RetP.mk id ⟨rfl, trivial⟩ trivial rfl
                 ·rw [if_neg hc23] at H
                  refine AG.no rfl (Bool.eq_false_iff.2 hc23) ?_
                  refine AG.skip ?_
                  refine AG.seq ?_
                  refine AG.region HM ?_
                  refine a_move (v := vI _) ?_
                  refine a_int (u := .int .i64 (wrap64 (x5 + 2))) ?_
                  refine a_move (v := vI _) ?_
                  refine RA.nil nofun ?_
                  refine AG.block ?_
                  refine AG.loop ?_
                  obtain ⟨K2, hK2, gK2⟩ : ∃ K, k ≤ K ∧ K ≤ k := ⟨k, Nat.le_refl k, Nat.le_refl k⟩
                  refine AGr.canon (fun κ => cond (Nat.beq κ 209) 207 (cond (Nat.beq κ 210) 208 (κ))) (AGr.loopI (n := k) (fun k s => k ≤ K2 ∧ ∃ (x0 : List S159) (x3 : Int) (x5 : Int) (y209_0 : Int) (y209_1 : Int) (y210_0 : Int) (y210_1 : Int) (x9 : Int), spec_l03Ok.l2 k x0 x3 x5 y209_0 y209_1 y210_0 y210_1 x9 = some r ∧ s = St.of [(0, vR 160 (x0.map c159)), (3, vI x3), (5, vI x5), (6, .c (.ptr 209 0)), (7, .c (.ptr 210 0)), (9, vI x9)] [(209, .box 160 [.d (.v (.int .i64 y209_0)), .d (.v (.int .i64 y209_1))]), (210, .box 160 [.d (.v (.int .i64 y210_0)), .d (.v (.int .i64 y210_1))])]) ⟨hK2, _, _, _, _, _, _, _, _, H, rfl⟩ ?_ ?_) ⟨rfl, rfl, rfl, rfl, rfl, rfl, trivial⟩ ⟨rfl, rfl, trivial⟩ rfl
                  ·rintro _ ⟨_, _, _, _, _, _, _, _, _, H, _⟩
                   cases H
                  ·clear H hK2
                   rintro k ih2 _ ⟨hK2, x0, x3, x5, y209_0, y209_1, y210_0, y210_1, x9, H, rfl⟩
                   unfold spec_l03Ok.l2 at H
                   refine AG.seq ?_
                   refine AG.seq ?_
                   refine AG.region HM ?_
                   refine a_move (v := vI _) ?_
                   refine a_move (v := vI _) ?_
                   refine a_int (u := .bool (decide (x9 < x3))) ?_
                   refine RA.nil nofun ?_
                   by_cases hc24 : x9 < x3
                   ·rw [if_pos hc24] at H
                    refine AG.yes rfl (decide_eq_true hc24) ?_
                    refine AG.skip ?_
                    refine AG.seq ?_
                    refine AG.block ?_
                    refine AG.seq ?_
                    refine AG.region HM ?_
                    refine a_move (v := vI _) ?_
                    refine a_int (u := .int .i64 (wrap64 (x9 + 1))) ?_
                    refine a_move (v := vI _) ?_
                    by_cases hc25 : x3 = 0
                    ·rw [if_pos hc25] at H
                     cases H
                    ·rw [if_neg hc25] at H
                     refine a_rem (r := Int.tmod (wrap64 (x9 + 1)) x3) ?_ hc25
                     refine a_move (v := vI _) ?_
                     refine a_int (u := .bool (((Int.tmod (wrap64 (x9 + 1)) x3) != x5))) ?_
                     refine a_move (v := vB _) ?_
                     by_cases hc26 : (Int.tmod (wrap64 (x9 + 1)) x3) = x5
                     ·rw [if_pos hc26] at H
                      refine RA.skip rfl rfl rfl rfl rfl (bne_eq_false_iff_eq.2 hc26) (by decide) ?_
                      refine RA.skip rfl rfl rfl rfl rfl (bne_eq_false_iff_eq.2 hc26) (by decide) ?_
                      refine RA.skip rfl rfl rfl rfl rfl (bne_eq_false_iff_eq.2 hc26) (by decide) ?_
                      refine RA.skip rfl rfl rfl rfl rfl (bne_eq_false_iff_eq.2 hc26) (by decide) ?_
                      refine RA.skip rfl rfl rfl rfl rfl (bne_eq_false_iff_eq.2 hc26) (by decide) ?_
                      refine RA.skip rfl rfl rfl rfl rfl (bne_eq_false_iff_eq.2 hc26) (by decide) ?_
                      refine RA.skip rfl rfl rfl rfl rfl (bne_eq_false_iff_eq.2 hc26) (by decide) ?_
                      refine RA.skip rfl rfl rfl rfl rfl (bne_eq_false_iff_eq.2 hc26) (by decide) ?_
                      refine RA.skip rfl rfl rfl rfl rfl (bne_eq_false_iff_eq.2 hc26) (by decide) ?_
                      refine RA.skip rfl rfl rfl rfl rfl (bne_eq_false_iff_eq.2 hc26) (by decide) ?_
                      refine RA.skip rfl rfl rfl rfl rfl (bne_eq_false_iff_eq.2 hc26) (by decide) ?_
                      refine RA.skip rfl rfl rfl rfl rfl (bne_eq_false_iff_eq.2 hc26) (by decide) ?_
                      refine RA.skip rfl rfl rfl rfl rfl (bne_eq_false_iff_eq.2 hc26) (by decide) ?_
                      refine RA.skip rfl rfl rfl rfl rfl (bne_eq_false_iff_eq.2 hc26) (by decide) ?_
                      refine a_pick (b := false) (v := vB _) ?_ (bne_eq_false_iff_eq.2 hc26)
                      refine RA.nil (fun _ => by kernel_rfl) ?_
                      refine AG.no rfl rfl ?_
                      refine AG.skip ?_
                      refine AG.region HM ?_
                      refine a_move (v := vI _) ?_
                      refine a_int (u := .int .i64 (wrap64 (x9 + 1))) ?_
                      refine a_move (v := vI _) ?_
                      refine RA.nil nofun ?_
                      exact AGr.canon id (ih2 _ (by omega) _ ⟨by omega, _, _, _, _, _, _, _, _, H, rfl⟩) ⟨rfl, rfl, rfl, rfl, rfl, rfl, trivial⟩ ⟨rfl, rfl, trivial⟩ rfl
                     ·rw [if_neg hc26] at H
                      refine a_ldB (v := .agg [_, _]) ?_ T160 (hg := Gs.yes rfl rfl rfl (bne_iff_ne.2 hc26))
                      refine a_ldB (v := .agg [_, _]) ?_ T160 (hg := Gs.yes rfl rfl rfl (bne_iff_ne.2 hc26))
                      refine a_move (v := vR _ _) ?_ (hg := Gs.yes rfl rfl rfl (bne_iff_ne.2 hc26))
                      refine a_move (v := vI _) ?_ (hg := Gs.yes rfl rfl rfl (bne_iff_ne.2 hc26))
                      by_cases hc27 : 0 ≤ x9
                      ·rw [if_pos hc27] at H
                       by_cases hc28 : x9 < (x0.length : Int)
                       ·rw [if_pos hc28] at H
                        refine a_ixR (el := c159 (rd159 x0 x9)) ?_ ⟨hc27, hc28⟩ T160 Tryz.underlying32 (hel := R159 hc27 hc28) (hg := Gs.yes rfl rfl rfl (bne_iff_ne.2 hc26))
                        refine a_ldR (v := .agg [_, _]) ?_ T160 (hg := Gs.yes rfl rfl rfl (bne_iff_ne.2 hc26))
                        refine a_move (v := vR _ _) ?_ (hg := Gs.yes rfl rfl rfl (bne_iff_ne.2 hc26))
                        refine a_move (v := vI _) ?_ (hg := Gs.yes rfl rfl rfl (bne_iff_ne.2 hc26))
                        refine a_int (u := .int .i64 (wrap64 (x9 + 1))) ?_ (hg := Gs.yes rfl rfl rfl (bne_iff_ne.2 hc26))
                        refine a_move (v := vI _) ?_ (hg := Gs.yes rfl rfl rfl (bne_iff_ne.2 hc26))
                        refine a_rem (r := Int.tmod (wrap64 (x9 + 1)) x3) ?_ hc25 (hg := Gs.yes rfl rfl rfl (bne_iff_ne.2 hc26))
                        by_cases hc29 : 0 ≤ (Int.tmod (wrap64 (x9 + 1)) x3)
                        ·rw [if_pos hc29] at H
                         by_cases hc30 : (Int.tmod (wrap64 (x9 + 1)) x3) < (x0.length : Int)
                         ·rw [if_pos hc30] at H
                          refine a_ixR (el := c159 (rd159 x0 (Int.tmod (wrap64 (x9 + 1)) x3))) ?_ ⟨hc29, hc30⟩ T160 Tryz.underlying32 (hel := R159 hc29 hc30) (hg := Gs.yes rfl rfl rfl (bne_iff_ne.2 hc26))
                          refine a_ldR (v := .agg [_, _]) ?_ T160 (hg := Gs.yes rfl rfl rfl (bne_iff_ne.2 hc26))
                          obtain ⟨t31, e32, H⟩ := bindO H
                          refine a_call (v := vB t31) (nk := []) (L := []) ?_ rfl (spec_l03Meet.ok e32) id (qg (qg (qg (qg qn)))) trivial trivial trivial rfl (hg := Gs.yes rfl rfl rfl (bne_iff_ne.2 hc26))
                          refine a_pick (b := true) (v := vB _) ?_ (bne_iff_ne.2 hc26)
                          refine RA.nil (fun _ => by kernel_rfl) ?_
                          by_cases hc33 : t31 = true
                          ·rw [if_pos hc33] at H
                           refine AG.yes rfl hc33 ?_
                           refine AG.seq ?_
                           refine AG.region HM ?_
                           refine a_move (v := vB _) ?_
                           refine RA.nil nofun ?_
                           refine AG.ret ?_
                           obtain rfl := Option.some.inj H
                           exact RetP.mk id ⟨rfl, trivial⟩ trivial rfl
                          ·rw [if_neg hc33] at H
                           refine AG.no rfl (Bool.eq_false_iff.2 hc33) ?_
                           refine AG.skip ?_
                           refine AG.region HM ?_
                           refine a_move (v := vI _) ?_
                           refine a_int (u := .int .i64 (wrap64 (x9 + 1))) ?_
                           refine a_move (v := vI _) ?_
                           refine RA.nil nofun ?_
                           exact AGr.canon id (ih2 _ (by omega) _ ⟨by omega, _, _, _, _, _, _, _, _, H, rfl⟩) ⟨rfl, rfl, rfl, rfl, rfl, rfl, trivial⟩ ⟨rfl, rfl, trivial⟩ rfl
                         ·rw [if_neg hc30] at H
                          cases H
                        ·rw [if_neg hc29] at H
                         cases H
                       ·rw [if_neg hc28] at H
                        cases H
                      ·rw [if_neg hc27] at H
                       cases H
                   ·rw [if_neg hc24] at H
                    refine AG.no rfl (decide_eq_false hc24) ?_
                    refine AG.exit ?_
                    refine AG.region HM ?_
                    refine a_move (v := vI _) ?_
                    refine a_int (u := .int .i64 (wrap64 (x5 + 1))) ?_
                    refine a_move (v := vI _) ?_
                    refine RA.nil nofun ?_
                    exact AGr.canon id (ih1 _ (by omega) _ ⟨by omega, _, _, _, H, rfl⟩) ⟨rfl, rfl, rfl, trivial⟩ trivial rfl
              ·rw [if_neg hc16] at H
               cases H
             ·rw [if_neg hc15] at H
              cases H
            ·rw [if_neg hc14] at H
             cases H
           ·rw [if_neg hc13] at H
            cases H
         ·rw [if_neg hc11] at H
          cases H
        ·rw [if_neg hc10] at H
         cases H
       ·rw [if_neg hc9] at H
        refine AG.no rfl (decide_eq_false hc9) ?_
        refine AG.exit ?_
        refine AG.seq ?_
        refine AG.region HM ?_
        refine a_move (v := vR _ _) ?_
        obtain ⟨t34, e35, H⟩ := bindO H
        refine a_call (v := vI t34) (nk := []) (L := []) ?_ rfl (spec_l03Area.ok e35) id (qd qn) trivial trivial trivial rfl
        refine a_int (u := .bool (decide (t34 > 0))) ?_
        refine a_move (v := vB _) ?_
        refine RA.nil nofun ?_
        refine AG.ret ?_
        obtain rfl := Option.some.inj H
        exact RetP.mk id ⟨rfl, trivial⟩ trivial rfl
end Go.Proofs.YtadjbffiomkljaaGreat.PFnExactEnoughStock

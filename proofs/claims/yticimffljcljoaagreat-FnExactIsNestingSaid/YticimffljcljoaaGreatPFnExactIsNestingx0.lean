/- What each function that the law FnExactIsNesting reaches comes to, and the proof that its walk comes to it; laid by a program of this session. No condition. -/
import Derived.Test.YticimffljcljoaaGreatAnR
import Derived.Test.YticimffljcljoaaGreatAnE
import Derived.KernelRfl
import Derived.OwnWalk
import Derived.Test.YticimffljcljoaaGreatProg
import Derived.Test.YticimffljcljoaaGreatAnL
import Derived.Test.YticimffljcljoaaGreatAnN
import Derived.Test.YticimffljcljoaaGreatAnP
import Derived.Test.YticimffljcljoaaGreatCloneP
import Derived.Test.YticimffljcljoaaGreatDeleteP
import Derived.Test.YticimffljcljoaaGreatMul64
set_option maxRecDepth 100000
set_option maxHeartbeats 4000000
set_option linter.unusedVariables false
set_option linter.unusedSimpArgs false
namespace Go.Proofs.YticimffljcljoaaGreat.PFnExactIsNesting
open Go Go.RowKit Go.Proofs.YticimffljcljoaaGreatM Go.Proofs Go.Proofs.YticimffljcljoaaGreat.CloneP Go.Proofs.YticimffljcljoaaGreat.DeleteP Go.Proofs.YticimffljcljoaaGreat.Mul64
theorem HM:Tryz.prog.follows .mixedOrders=true:=by kernel_rfl
theorem rg {N:Nat} {w0:World} {S:Fx} {s:St} {id:Nat} {l:List Oper} {draw:Bool} {Q:Exit→St→Prop} (h:RA Tryz.prog N w0 S draw l.toArray [] l s (Q .normal)):AG Tryz.prog N w0 S (.region id l.toArray draw) Q s:=AG.region HM h
theorem s2 {N:Nat} {w0:World} {S:Fx} {s:St} {id:Nat} {l:List Oper} {draw:Bool} {y:Code} {Q:Exit→St→Prop} (h:RA Tryz.prog N w0 S draw l.toArray [] l s (AG Tryz.prog N w0 S y Q)):AG Tryz.prog N w0 S (.seq (.region id l.toArray draw) y) Q s:=AG.seq (AG.region HM h)
structure S142 where
 f0:Int
 f1:Int
def z142:S142:=⟨0,0⟩
structure S154 where
 f0:ByteArray
 f1:List Int
def z154:S154:=⟨(⟨#[]⟩:ByteArray),[]⟩
structure S24 where
 f0:Int
 f1:Int
 f2:List S142
 f3:List S154
def z24:S24:=⟨0,0,[],[]⟩
structure S66 where
 f0:ByteArray
 f1:Int
 f2:Int
def z66:S66:=⟨(⟨#[]⟩:ByteArray),0,0⟩
structure S27 where
 f0:S24
 f1:List S66
def z27:S27:=⟨z24,[]⟩
structure S146 where
 f0:Int
 f1:Int
 f2:Int
 f3:Int
def z146:S146:=⟨0,0,0,0⟩
structure S69 where
 f0:ByteArray
 f1:ByteArray
 f2:Int
 f3:S66
 f4:Int
 f5:Int
 f6:List S146
def z69:S69:=⟨(⟨#[]⟩:ByteArray),(⟨#[]⟩:ByteArray),0,z66,0,0,[]⟩
structure S81 where
 f0:Int
 f1:Int
 f2:Int
 f3:Int
 f4:Int
def z81:S81:=⟨0,0,0,0,0⟩
structure S39 where
 f0:Int
 f1:Int
 f2:List S142
 f3:List S154
def z39:S39:=⟨0,0,[],[]⟩
structure S42 where
 f0:S39
 f1:List S66
def z42:S42:=⟨z39,[]⟩
structure S78 where
 f0:ByteArray
 f1:ByteArray
 f2:Int
 f3:S66
 f4:Int
 f5:Int
 f6:List S146
def z78:S78:=⟨(⟨#[]⟩:ByteArray),(⟨#[]⟩:ByteArray),0,z66,0,0,[]⟩
structure S31 where
 f0:Int
 f1:Int
 f2:Int
 f3:Int
def z31:S31:=⟨0,0,0,0⟩
structure S100 where
 f0:Int
 f1:Int
 f2:Int
def z100:S100:=⟨0,0,0⟩
def c142 (x:S142):List DV:=[.v (.int .i64 x.f0),.v (.int .i64 x.f1)]
def rd142 (l:List S142) (i:Int):S142:=l.getD i.toNat z142
theorem R142 {l:List S142} {i:Int} {z:List DV} (h0:0≤i) (h1:i < (l.length:Int)):(l.map c142).getD i.toNat z=c142 (rd142 l i):=by
 have:i.toNat < l.length:=by omega
 simp [rd142,List.getD_eq_getElem?_getD,this]
theorem G142 {l:List S142} {i:Int} (h0:0≤i) (h1:i < (l.length:Int)):(l.map c142)[i.toNat]?=some (c142 (rd142 l i)):=by
 have:i.toNat < l.length:=by omega
 simp [rd142,List.getD_eq_getElem?_getD,this]
def c2 (x:Int):List DV:=[.v (.int .i64 x)]
def rd2 (l:List Int) (i:Int):Int:=l.getD i.toNat 0
theorem R2 {l:List Int} {i:Int} {z:List DV} (h0:0≤i) (h1:i < (l.length:Int)):(l.map c2).getD i.toNat z=c2 (rd2 l i):=by
 have:i.toNat < l.length:=by omega
 simp [rd2,List.getD_eq_getElem?_getD,this]
theorem G2 {l:List Int} {i:Int} (h0:0≤i) (h1:i < (l.length:Int)):(l.map c2)[i.toNat]?=some (c2 (rd2 l i)):=by
 have:i.toNat < l.length:=by omega
 simp [rd2,List.getD_eq_getElem?_getD,this]
def c154 (x:S154):List DV:=[.v (.string x.f0),.row 2 (x.f1.map c2)]
def rd154 (l:List S154) (i:Int):S154:=l.getD i.toNat z154
theorem R154 {l:List S154} {i:Int} {z:List DV} (h0:0≤i) (h1:i < (l.length:Int)):(l.map c154).getD i.toNat z=c154 (rd154 l i):=by
 have:i.toNat < l.length:=by omega
 simp [rd154,List.getD_eq_getElem?_getD,this]
theorem G154 {l:List S154} {i:Int} (h0:0≤i) (h1:i < (l.length:Int)):(l.map c154)[i.toNat]?=some (c154 (rd154 l i)):=by
 have:i.toNat < l.length:=by omega
 simp [rd154,List.getD_eq_getElem?_getD,this]
def c66 (x:S66):List DV:=[.v (.string x.f0),.v (.int .i64 x.f1),.v (.int .i64 x.f2)]
def rd66 (l:List S66) (i:Int):S66:=l.getD i.toNat z66
theorem R66 {l:List S66} {i:Int} {z:List DV} (h0:0≤i) (h1:i < (l.length:Int)):(l.map c66).getD i.toNat z=c66 (rd66 l i):=by
 have:i.toNat < l.length:=by omega
 simp [rd66,List.getD_eq_getElem?_getD,this]
theorem G66 {l:List S66} {i:Int} (h0:0≤i) (h1:i < (l.length:Int)):(l.map c66)[i.toNat]?=some (c66 (rd66 l i)):=by
 have:i.toNat < l.length:=by omega
 simp [rd66,List.getD_eq_getElem?_getD,this]
def c146 (x:S146):List DV:=[.v (.int .i64 x.f0),.v (.int .i64 x.f1),.v (.int .i64 x.f2),.v (.int .i64 x.f3)]
def rd146 (l:List S146) (i:Int):S146:=l.getD i.toNat z146
theorem R146 {l:List S146} {i:Int} {z:List DV} (h0:0≤i) (h1:i < (l.length:Int)):(l.map c146).getD i.toNat z=c146 (rd146 l i):=by
 have:i.toNat < l.length:=by omega
 simp [rd146,List.getD_eq_getElem?_getD,this]
theorem G146 {l:List S146} {i:Int} (h0:0≤i) (h1:i < (l.length:Int)):(l.map c146)[i.toNat]?=some (c146 (rd146 l i)):=by
 have:i.toNat < l.length:=by omega
 simp [rd146,List.getD_eq_getElem?_getD,this]
def c69 (x:S69):List DV:=[.v (.string x.f0),.v (.string x.f1),.v (.int .i64 x.f2),.v (.string x.f3.f0),.v (.int .i64 x.f3.f1),.v (.int .i64 x.f3.f2),.v (.int .i64 x.f4),.v (.int .i64 x.f5),.row 161 (x.f6.map c146)]
def rd69 (l:List S69) (i:Int):S69:=l.getD i.toNat z69
theorem R69 {l:List S69} {i:Int} {z:List DV} (h0:0≤i) (h1:i < (l.length:Int)):(l.map c69).getD i.toNat z=c69 (rd69 l i):=by
 have:i.toNat < l.length:=by omega
 simp [rd69,List.getD_eq_getElem?_getD,this]
theorem G69 {l:List S69} {i:Int} (h0:0≤i) (h1:i < (l.length:Int)):(l.map c69)[i.toNat]?=some (c69 (rd69 l i)):=by
 have:i.toNat < l.length:=by omega
 simp [rd69,List.getD_eq_getElem?_getD,this]
def c81 (x:S81):List DV:=[.v (.int .i64 x.f0),.v (.int .i64 x.f1),.v (.int .i64 x.f2),.v (.int .i64 x.f3),.v (.int .i64 x.f4)]
def rd81 (l:List S81) (i:Int):S81:=l.getD i.toNat z81
theorem R81 {l:List S81} {i:Int} {z:List DV} (h0:0≤i) (h1:i < (l.length:Int)):(l.map c81).getD i.toNat z=c81 (rd81 l i):=by
 have:i.toNat < l.length:=by omega
 simp [rd81,List.getD_eq_getElem?_getD,this]
theorem G81 {l:List S81} {i:Int} (h0:0≤i) (h1:i < (l.length:Int)):(l.map c81)[i.toNat]?=some (c81 (rd81 l i)):=by
 have:i.toNat < l.length:=by omega
 simp [rd81,List.getD_eq_getElem?_getD,this]
def c9 (x:ByteArray):List DV:=[.v (.string x)]
def rd9 (l:List ByteArray) (i:Int):ByteArray:=l.getD i.toNat (⟨#[]⟩:ByteArray)
theorem R9 {l:List ByteArray} {i:Int} {z:List DV} (h0:0≤i) (h1:i < (l.length:Int)):(l.map c9).getD i.toNat z=c9 (rd9 l i):=by
 have:i.toNat < l.length:=by omega
 simp [rd9,List.getD_eq_getElem?_getD,this]
theorem G9 {l:List ByteArray} {i:Int} (h0:0≤i) (h1:i < (l.length:Int)):(l.map c9)[i.toNat]?=some (c9 (rd9 l i)):=by
 have:i.toNat < l.length:=by omega
 simp [rd9,List.getD_eq_getElem?_getD,this]
def c104 (x:List Int):List DV:=[.row 2 (x.map c2)]
def rd104 (l:List (List Int)) (i:Int):List Int:=l.getD i.toNat []
theorem R104 {l:List (List Int)} {i:Int} {z:List DV} (h0:0≤i) (h1:i < (l.length:Int)):(l.map c104).getD i.toNat z=c104 (rd104 l i):=by
 have:i.toNat < l.length:=by omega
 simp [rd104,List.getD_eq_getElem?_getD,this]
theorem G104 {l:List (List Int)} {i:Int} (h0:0≤i) (h1:i < (l.length:Int)):(l.map c104)[i.toNat]?=some (c104 (rd104 l i)):=by
 have:i.toNat < l.length:=by omega
 simp [rd104,List.getD_eq_getElem?_getD,this]
def c78 (x:S78):List DV:=[.v (.string x.f0),.v (.string x.f1),.v (.int .i64 x.f2),.v (.string x.f3.f0),.v (.int .i64 x.f3.f1),.v (.int .i64 x.f3.f2),.v (.int .i64 x.f4),.v (.int .i64 x.f5),.row 147 (x.f6.map c146)]
def rd78 (l:List S78) (i:Int):S78:=l.getD i.toNat z78
theorem R78 {l:List S78} {i:Int} {z:List DV} (h0:0≤i) (h1:i < (l.length:Int)):(l.map c78).getD i.toNat z=c78 (rd78 l i):=by
 have:i.toNat < l.length:=by omega
 simp [rd78,List.getD_eq_getElem?_getD,this]
theorem G78 {l:List S78} {i:Int} (h0:0≤i) (h1:i < (l.length:Int)):(l.map c78)[i.toNat]?=some (c78 (rd78 l i)):=by
 have:i.toNat < l.length:=by omega
 simp [rd78,List.getD_eq_getElem?_getD,this]
def c37 (x:List S142):List DV:=[.row 143 (x.map c142)]
def rd37 (l:List (List S142)) (i:Int):List S142:=l.getD i.toNat []
theorem R37 {l:List (List S142)} {i:Int} {z:List DV} (h0:0≤i) (h1:i < (l.length:Int)):(l.map c37).getD i.toNat z=c37 (rd37 l i):=by
 have:i.toNat < l.length:=by omega
 simp [rd37,List.getD_eq_getElem?_getD,this]
theorem G37 {l:List (List S142)} {i:Int} (h0:0≤i) (h1:i < (l.length:Int)):(l.map c37)[i.toNat]?=some (c37 (rd37 l i)):=by
 have:i.toNat < l.length:=by omega
 simp [rd37,List.getD_eq_getElem?_getD,this]
def c100 (x:S100):List DV:=[.v (.int .i64 x.f0),.v (.int .i64 x.f1),.v (.int .i64 x.f2)]
def rd100 (l:List S100) (i:Int):S100:=l.getD i.toNat z100
theorem R100 {l:List S100} {i:Int} {z:List DV} (h0:0≤i) (h1:i < (l.length:Int)):(l.map c100).getD i.toNat z=c100 (rd100 l i):=by
 have:i.toNat < l.length:=by omega
 simp [rd100,List.getD_eq_getElem?_getD,this]
theorem G100 {l:List S100} {i:Int} (h0:0≤i) (h1:i < (l.length:Int)):(l.map c100)[i.toNat]?=some (c100 (rd100 l i)):=by
 have:i.toNat < l.length:=by omega
 simp [rd100,List.getD_eq_getElem?_getD,this]
def c219 (x:Int):List DV:=[.v (.int .u64 x)]
def rd219 (l:List Int) (i:Int):Int:=l.getD i.toNat 0
theorem R219 {l:List Int} {i:Int} {z:List DV} (h0:0≤i) (h1:i < (l.length:Int)):(l.map c219).getD i.toNat z=c219 (rd219 l i):=by
 have:i.toNat < l.length:=by omega
 simp [rd219,List.getD_eq_getElem?_getD,this]
theorem G219 {l:List Int} {i:Int} (h0:0≤i) (h1:i < (l.length:Int)):(l.map c219)[i.toNat]?=some (c219 (rd219 l i)):=by
 have:i.toNat < l.length:=by omega
 simp [rd219,List.getD_eq_getElem?_getD,this]
def c27 (x:S27):List DV:=[.v (.int .i64 x.f0.f0),.v (.int .i64 x.f0.f1),.row 157 (x.f0.f2.map c142),.row 155 (x.f0.f3.map c154),.row 67 (x.f1.map c66)]
def rd27 (l:List S27) (i:Int):S27:=l.getD i.toNat z27
theorem R27 {l:List S27} {i:Int} {z:List DV} (h0:0≤i) (h1:i < (l.length:Int)):(l.map c27).getD i.toNat z=c27 (rd27 l i):=by
 have:i.toNat < l.length:=by omega
 simp [rd27,List.getD_eq_getElem?_getD,this]
theorem G27 {l:List S27} {i:Int} (h0:0≤i) (h1:i < (l.length:Int)):(l.map c27)[i.toNat]?=some (c27 (rd27 l i)):=by
 have:i.toNat < l.length:=by omega
 simp [rd27,List.getD_eq_getElem?_getD,this]
def c29 (x:List S69):List DV:=[.row 70 (x.map c69)]
def rd29 (l:List (List S69)) (i:Int):List S69:=l.getD i.toNat []
theorem R29 {l:List (List S69)} {i:Int} {z:List DV} (h0:0≤i) (h1:i < (l.length:Int)):(l.map c29).getD i.toNat z=c29 (rd29 l i):=by
 have:i.toNat < l.length:=by omega
 simp [rd29,List.getD_eq_getElem?_getD,this]
theorem G29 {l:List (List S69)} {i:Int} (h0:0≤i) (h1:i < (l.length:Int)):(l.map c29)[i.toNat]?=some (c29 (rd29 l i)):=by
 have:i.toNat < l.length:=by omega
 simp [rd29,List.getD_eq_getElem?_getD,this]
def c30 (x:List S81):List DV:=[.row 84 (x.map c81)]
def rd30 (l:List (List S81)) (i:Int):List S81:=l.getD i.toNat []
theorem R30 {l:List (List S81)} {i:Int} {z:List DV} (h0:0≤i) (h1:i < (l.length:Int)):(l.map c30).getD i.toNat z=c30 (rd30 l i):=by
 have:i.toNat < l.length:=by omega
 simp [rd30,List.getD_eq_getElem?_getD,this]
theorem G30 {l:List (List S81)} {i:Int} (h0:0≤i) (h1:i < (l.length:Int)):(l.map c30)[i.toNat]?=some (c30 (rd30 l i)):=by
 have:i.toNat < l.length:=by omega
 simp [rd30,List.getD_eq_getElem?_getD,this]
def c31 (x:S31):List DV:=[.v (.int .i64 x.f0),.v (.int .i64 x.f1),.v (.int .i64 x.f2),.v (.int .i64 x.f3)]
def rd31 (l:List S31) (i:Int):S31:=l.getD i.toNat z31
theorem R31 {l:List S31} {i:Int} {z:List DV} (h0:0≤i) (h1:i < (l.length:Int)):(l.map c31).getD i.toNat z=c31 (rd31 l i):=by
 have:i.toNat < l.length:=by omega
 simp [rd31,List.getD_eq_getElem?_getD,this]
theorem G31 {l:List S31} {i:Int} (h0:0≤i) (h1:i < (l.length:Int)):(l.map c31)[i.toNat]?=some (c31 (rd31 l i)):=by
 have:i.toNat < l.length:=by omega
 simp [rd31,List.getD_eq_getElem?_getD,this]
def c24 (x:S24):List DV:=[.v (.int .i64 x.f0),.v (.int .i64 x.f1),.row 157 (x.f2.map c142),.row 155 (x.f3.map c154)]
def rd24 (l:List S24) (i:Int):S24:=l.getD i.toNat z24
theorem R24 {l:List S24} {i:Int} {z:List DV} (h0:0≤i) (h1:i < (l.length:Int)):(l.map c24).getD i.toNat z=c24 (rd24 l i):=by
 have:i.toNat < l.length:=by omega
 simp [rd24,List.getD_eq_getElem?_getD,this]
theorem G24 {l:List S24} {i:Int} (h0:0≤i) (h1:i < (l.length:Int)):(l.map c24)[i.toNat]?=some (c24 (rd24 l i)):=by
 have:i.toNat < l.length:=by omega
 simp [rd24,List.getD_eq_getElem?_getD,this]
theorem T9:tyi Tryz.prog 9=some (1,16,[.string ⟨#[]⟩],false):=by kernel_rfl
theorem T104:tyi Tryz.prog 104=some (1,24,[.slice none 0 0],false):=by kernel_rfl
theorem T155:tyi Tryz.prog 155=some (2,40,[.string ⟨#[]⟩,.slice none 0 0],true):=by kernel_rfl
theorem T22:tyi Tryz.prog 22=some (1,24,[.slice none 0 0],false):=by kernel_rfl
theorem T23:tyi Tryz.prog 23=some (1,24,[.slice none 0 0],false):=by kernel_rfl
theorem T67:tyi Tryz.prog 67=some (3,32,[.string ⟨#[]⟩,.int .i64 0,.int .i64 0],true):=by kernel_rfl
theorem T25:tyi Tryz.prog 25=some (4,64,[.int .i64 0,.int .i64 0,.slice none 0 0,.slice none 0 0],true):=by kernel_rfl
theorem T26:tyi Tryz.prog 26=some (1,24,[.slice none 0 0],false):=by kernel_rfl
theorem T68:tyi Tryz.prog 68=some (1,24,[.slice none 0 0],false):=by kernel_rfl
theorem T70:tyi Tryz.prog 70=some (9,112,[.string ⟨#[]⟩,.string ⟨#[]⟩,.int .i64 0,.string ⟨#[]⟩,.int .i64 0,.int .i64 0,.int .i64 0,.int .i64 0,.slice none 0 0],true):=by kernel_rfl
theorem T37:tyi Tryz.prog 37=some (1,24,[.slice none 0 0],false):=by kernel_rfl
theorem T143:tyi Tryz.prog 143=some (2,16,[.int .i64 0,.int .i64 0],true):=by kernel_rfl
theorem T2:tyi Tryz.prog 2=some (1,8,[.int .i64 0],false):=by kernel_rfl
theorem T38:tyi Tryz.prog 38=some (1,24,[.slice none 0 0],false):=by kernel_rfl
theorem T158:tyi Tryz.prog 158=some (2,40,[.string ⟨#[]⟩,.slice none 0 0],true):=by kernel_rfl
theorem T76:tyi Tryz.prog 76=some (3,32,[.string ⟨#[]⟩,.int .i64 0,.int .i64 0],true):=by kernel_rfl
theorem T41:tyi Tryz.prog 41=some (1,24,[.slice none 0 0],false):=by kernel_rfl
theorem T77:tyi Tryz.prog 77=some (1,24,[.slice none 0 0],false):=by kernel_rfl
theorem T147:tyi Tryz.prog 147=some (4,32,[.int .i64 0,.int .i64 0,.int .i64 0,.int .i64 0],true):=by kernel_rfl
theorem T79:tyi Tryz.prog 79=some (9,112,[.string ⟨#[]⟩,.string ⟨#[]⟩,.int .i64 0,.string ⟨#[]⟩,.int .i64 0,.int .i64 0,.int .i64 0,.int .i64 0,.slice none 0 0],true):=by kernel_rfl
theorem T82:tyi Tryz.prog 82=some (5,40,[.int .i64 0,.int .i64 0,.int .i64 0,.int .i64 0,.int .i64 0],true):=by kernel_rfl
theorem T101:tyi Tryz.prog 101=some (3,24,[.int .i64 0,.int .i64 0,.int .i64 0],true):=by kernel_rfl
theorem T157:tyi Tryz.prog 157=some (2,16,[.int .i64 0,.int .i64 0],true):=by kernel_rfl
theorem T40:tyi Tryz.prog 40=some (4,64,[.int .i64 0,.int .i64 0,.slice none 0 0,.slice none 0 0],true):=by kernel_rfl
theorem T43:tyi Tryz.prog 43=some (5,88,[.int .i64 0,.int .i64 0,.slice none 0 0,.slice none 0 0,.slice none 0 0],true):=by kernel_rfl
theorem T161:tyi Tryz.prog 161=some (4,32,[.int .i64 0,.int .i64 0,.int .i64 0,.int .i64 0],true):=by kernel_rfl
theorem T84:tyi Tryz.prog 84=some (5,40,[.int .i64 0,.int .i64 0,.int .i64 0,.int .i64 0,.int .i64 0],true):=by kernel_rfl
theorem T49:tyi Tryz.prog 49=some (4,32,[.int .i64 0,.int .i64 0,.int .i64 0,.int .i64 0],true):=by kernel_rfl
theorem T28:tyi Tryz.prog 28=some (5,88,[.int .i64 0,.int .i64 0,.slice none 0 0,.slice none 0 0,.slice none 0 0],true):=by kernel_rfl
theorem T32:tyi Tryz.prog 32=some (4,32,[.int .i64 0,.int .i64 0,.int .i64 0,.int .i64 0],true):=by kernel_rfl
theorem I143:infosOk Tryz.prog 143=true:=by kernel_rfl
theorem I101:infosOk Tryz.prog 101=true:=by kernel_rfl
theorem N37:eln Tryz.prog 37=some 143:=by kernel_rfl
theorem N223:eln Tryz.prog 223=some 9:=by kernel_rfl
theorem N104:eln Tryz.prog 104=some 2:=by kernel_rfl
theorem N213:eln Tryz.prog 213=some 104:=by kernel_rfl
theorem N96:eln Tryz.prog 96=some 37:=by kernel_rfl
theorem N55:eln Tryz.prog 55=some 101:=by kernel_rfl
theorem N38:eln Tryz.prog 38=some 158:=by kernel_rfl
theorem N41:eln Tryz.prog 41=some 76:=by kernel_rfl
theorem N77:eln Tryz.prog 77=some 147:=by kernel_rfl
theorem N45:eln Tryz.prog 45=some 79:=by kernel_rfl
theorem N47:eln Tryz.prog 47=some 82:=by kernel_rfl
theorem Q143 (x0 y0 x1 y1:Int):EqRun Tryz.prog .eql 143 [.int .i64 x0,.int .i64 x1] [.int .i64 y0,.int .i64 y1] (eqC [.int .i64 x0,.int .i64 x1] [.int .i64 y0,.int .i64 y1])∧EqRun Tryz.prog .neq 143 [.int .i64 x0,.int .i64 x1] [.int .i64 y0,.int .i64 y1] (!(eqC [.int .i64 x0,.int .i64 x1] [.int .i64 y0,.int .i64 y1])):=by
 refine eqRun_of (by kernel_rfl) (fun w=>?_)
 show _=Result.ok (x0 == y0 && (x1 == y1)) w
 go_simp
 (repeat' split) <;> simp_all
theorem D155_0:fld Tryz.prog 155 0=some (0,1,false):=by kernel_rfl
theorem D155_1:fld Tryz.prog 155 1=some (1,1,false):=by kernel_rfl
theorem D25_2:fld Tryz.prog 25 2=some (2,1,false):=by kernel_rfl
theorem D25_3:fld Tryz.prog 25 3=some (3,1,false):=by kernel_rfl
theorem D67_0:fld Tryz.prog 67 0=some (0,1,false):=by kernel_rfl
theorem D28_0:fld Tryz.prog 28 0=some (0,4,true):=by kernel_rfl
theorem D28_1:fld Tryz.prog 28 1=some (4,1,false):=by kernel_rfl
theorem D70_0:fld Tryz.prog 70 0=some (0,1,false):=by kernel_rfl
theorem D70_1:fld Tryz.prog 70 1=some (1,1,false):=by kernel_rfl
theorem D70_3:fld Tryz.prog 70 3=some (3,3,true):=by kernel_rfl
theorem D70_6:fld Tryz.prog 70 6=some (8,1,false):=by kernel_rfl
theorem D40_2:fld Tryz.prog 40 2=some (2,1,false):=by kernel_rfl
theorem D143_0:fld Tryz.prog 143 0=some (0,1,false):=by kernel_rfl
theorem D40_0:fld Tryz.prog 40 0=some (0,1,false):=by kernel_rfl
theorem D143_1:fld Tryz.prog 143 1=some (1,1,false):=by kernel_rfl
theorem D40_1:fld Tryz.prog 40 1=some (1,1,false):=by kernel_rfl
theorem D40_3:fld Tryz.prog 40 3=some (3,1,false):=by kernel_rfl
theorem D158_0:fld Tryz.prog 158 0=some (0,1,false):=by kernel_rfl
theorem D158_1:fld Tryz.prog 158 1=some (1,1,false):=by kernel_rfl
theorem D76_0:fld Tryz.prog 76 0=some (0,1,false):=by kernel_rfl
theorem D76_1:fld Tryz.prog 76 1=some (1,1,false):=by kernel_rfl
theorem D76_2:fld Tryz.prog 76 2=some (2,1,false):=by kernel_rfl
theorem D43_0:fld Tryz.prog 43 0=some (0,4,true):=by kernel_rfl
theorem D43_1:fld Tryz.prog 43 1=some (4,1,false):=by kernel_rfl
theorem D147_0:fld Tryz.prog 147 0=some (0,1,false):=by kernel_rfl
theorem D147_1:fld Tryz.prog 147 1=some (1,1,false):=by kernel_rfl
theorem D147_2:fld Tryz.prog 147 2=some (2,1,false):=by kernel_rfl
theorem D147_3:fld Tryz.prog 147 3=some (3,1,false):=by kernel_rfl
theorem D79_0:fld Tryz.prog 79 0=some (0,1,false):=by kernel_rfl
theorem D79_1:fld Tryz.prog 79 1=some (1,1,false):=by kernel_rfl
theorem D79_2:fld Tryz.prog 79 2=some (2,1,false):=by kernel_rfl
theorem D79_3:fld Tryz.prog 79 3=some (3,3,true):=by kernel_rfl
theorem D79_4:fld Tryz.prog 79 4=some (6,1,false):=by kernel_rfl
theorem D79_5:fld Tryz.prog 79 5=some (7,1,false):=by kernel_rfl
theorem D79_6:fld Tryz.prog 79 6=some (8,1,false):=by kernel_rfl
theorem D49_0:fld Tryz.prog 49 0=some (0,1,false):=by kernel_rfl
theorem D49_1:fld Tryz.prog 49 1=some (1,1,false):=by kernel_rfl
theorem D49_2:fld Tryz.prog 49 2=some (2,1,false):=by kernel_rfl
theorem D49_3:fld Tryz.prog 49 3=some (3,1,false):=by kernel_rfl
theorem D82_0:fld Tryz.prog 82 0=some (0,1,false):=by kernel_rfl
theorem D82_1:fld Tryz.prog 82 1=some (1,1,false):=by kernel_rfl
theorem D82_2:fld Tryz.prog 82 2=some (2,1,false):=by kernel_rfl
theorem D82_3:fld Tryz.prog 82 3=some (3,1,false):=by kernel_rfl
theorem D82_4:fld Tryz.prog 82 4=some (4,1,false):=by kernel_rfl
theorem D101_0:fld Tryz.prog 101 0=some (0,1,false):=by kernel_rfl
theorem D101_1:fld Tryz.prog 101 1=some (1,1,false):=by kernel_rfl
theorem D101_2:fld Tryz.prog 101 2=some (2,1,false):=by kernel_rfl
theorem D157_0:fld Tryz.prog 157 0=some (0,1,false):=by kernel_rfl
theorem D157_1:fld Tryz.prog 157 1=some (1,1,false):=by kernel_rfl
theorem D25_0:fld Tryz.prog 25 0=some (0,1,false):=by kernel_rfl
theorem D25_1:fld Tryz.prog 25 1=some (1,1,false):=by kernel_rfl
theorem D67_1:fld Tryz.prog 67 1=some (1,1,false):=by kernel_rfl
theorem D67_2:fld Tryz.prog 67 2=some (2,1,false):=by kernel_rfl
theorem D161_0:fld Tryz.prog 161 0=some (0,1,false):=by kernel_rfl
theorem D161_1:fld Tryz.prog 161 1=some (1,1,false):=by kernel_rfl
theorem D161_2:fld Tryz.prog 161 2=some (2,1,false):=by kernel_rfl
theorem D161_3:fld Tryz.prog 161 3=some (3,1,false):=by kernel_rfl
theorem D70_2:fld Tryz.prog 70 2=some (2,1,false):=by kernel_rfl
theorem D70_4:fld Tryz.prog 70 4=some (6,1,false):=by kernel_rfl
theorem D70_5:fld Tryz.prog 70 5=some (7,1,false):=by kernel_rfl
theorem D84_0:fld Tryz.prog 84 0=some (0,1,false):=by kernel_rfl
theorem D84_1:fld Tryz.prog 84 1=some (1,1,false):=by kernel_rfl
theorem D84_2:fld Tryz.prog 84 2=some (2,1,false):=by kernel_rfl
theorem D84_3:fld Tryz.prog 84 3=some (3,1,false):=by kernel_rfl
theorem D84_4:fld Tryz.prog 84 4=some (4,1,false):=by kernel_rfl
theorem D32_0:fld Tryz.prog 32 0=some (0,1,false):=by kernel_rfl
theorem D32_1:fld Tryz.prog 32 1=some (1,1,false):=by kernel_rfl
theorem D32_2:fld Tryz.prog 32 2=some (2,1,false):=by kernel_rfl
theorem D32_3:fld Tryz.prog 32 3=some (3,1,false):=by kernel_rfl
def laws_szPointS.f (l0:List S142) (a1:Int):Option (Int):=if (wrap64 (a1 - (l0.length:Int))) < 0 then (some (-1)) else (some (wrap64 (a1 - (l0.length:Int))))
theorem laws_szPointS.ok {l0:List S142} {a1 r:Int} (H:laws_szPointS.f l0 a1=some r):OkF Tryz.prog 56 [vR 157 (l0.map c142),vI a1] [] (vI r) []:=by
 unfold laws_szPointS.f at H
 refine o1 12 4 Tryz.func56 fun w0 S=>?_
 refine s2 (mI (k:=nl (s2 (mI (k:=mR (k:=jl Tryz.underlying22 (k:=iS (k:=mI (k:=nl (sq (s2 (mI (k:=iL (k:=nl ?_))))))))))))))
 rcases ie H with ⟨h1,H⟩|⟨h1,H⟩
 ·refine ay (dt h1) ?_
  cases H
  exact s2 (mI (k:=nl (rt r1)))
 refine an (df h1) ?_
 cases H
 exact sp (s2 (mI (k:=mI (k:=nl (rt r1)))))
def laws_szInt64S.f (l0:List Int) (a1:Int):Option (Int):=if (wrap64 (a1 - (l0.length:Int))) < 0 then (some (-1)) else (some (wrap64 (a1 - (l0.length:Int))))
theorem laws_szInt64S.ok {l0:List Int} {a1 r:Int} (H:laws_szInt64S.f l0 a1=some r):OkF Tryz.prog 131 [vR 2 (l0.map c2),vI a1] [] (vI r) []:=by
 unfold laws_szInt64S.f at H
 refine o1 12 4 Tryz.func131 fun w0 S=>?_
 refine s2 (mI (k:=nl (s2 (mI (k:=mR (k:=jl Tryz.underlying104 (k:=iS (k:=mI (k:=nl (sq (s2 (mI (k:=iL (k:=nl ?_))))))))))))))
 rcases ie H with ⟨h1,H⟩|⟨h1,H⟩
 ·refine ay (dt h1) ?_
  cases H
  exact s2 (mI (k:=nl (rt r1)))
 refine an (df h1) ?_
 cases H
 exact sp (s2 (mI (k:=mI (k:=nl (rt r1)))))
def laws_szFace.f (a0_0:ByteArray) (l0_1:List Int) (a1:Int):Option (Int):=if (wrap64 (a1 - (a0_0.size:Int))) < 0 then (some (-1)) else ((laws_szInt64S.f l0_1 (wrap64 (a1 - (a0_0.size:Int)))).bind fun t2=>(if t2 < 0 then (some (-1)) else (some t2)))
theorem laws_szFace.ok {a0_0:ByteArray} {l0_1:List Int} {a1 r:Int} (H:laws_szFace.f a0_0 l0_1 a1=some r):OkF Tryz.prog 93 [.agg [cS a0_0,.d (.row 2 (l0_1.map c2))],vI a1] [] (vI r) []:=by
 unfold laws_szFace.f at H
 refine o1 19 4 Tryz.func93 fun w0 S=>?_
 refine s2 (jb 200 (k:=mI (k:=nl (s2 (mI (k:=fB 0 D155_0 (k:=lv (vS _) T9 (k:=?_))))))))
 refine a_lenS ?_ Tryz.underlying9
 refine iS (k:=mI (k:=nl (sq (s2 (mI (k:=iL (k:=nl ?_)))))))
 rcases ie H with ⟨h1,H⟩|⟨h1,H⟩
 ·refine ay (dt h1) ?_
  cases H
  exact s2 (mI (k:=nl (rt r1)))
 refine an (df h1) ?_
 refine sp (s2 (fB 1 D155_1 (k:=lR T104 (k:=mI (k:=?_)))))
 obtain ⟨t2,e3,H⟩:=bo H
 refine cr rfl (laws_szInt64S.ok e3) (qd (qd qn)) (k:=mI (k:=nl (sq (s2 (mI (k:=iL (k:=nl ?_)))))))
 rcases ie H with ⟨h4,H⟩|⟨h4,H⟩
 ·refine ay (dt h4) ?_
  cases H
  exact s2 (mI (k:=nl (rt r1)))
 refine an (df h4) ?_
 cases H
 exact sp (s2 (mI (k:=mI (k:=nl (rt r1)))))
def laws_szFaceS.l0:Nat→List S154→Int→Int→Option (Int)
 | 0,_,_,_=>none
 | k+1,x0,x1,x5=>if x5 < (x0.length:Int) then (if 0≤x5 then ((laws_szFace.f ((rd154 x0 x5).f0) ((rd154 x0 x5).f1) x1).bind fun t4=>(if t4 < 0 then (some (-1)) else (laws_szFaceS.l0 k x0 t4 (wrap64 (x5+1))))) else (none)) else (some x1)
def laws_szFaceS.f (k:Nat) (l0:List S154) (a1:Int):Option (Int):=if (wrap64 (a1 - (l0.length:Int))) < 0 then (some (-1)) else (laws_szFaceS.l0 k l0 (wrap64 (a1 - (l0.length:Int))) 0)
theorem laws_szFaceS.ok {k:Nat} {l0:List S154} {a1 r:Int} (H:laws_szFaceS.f k l0 a1=some r):OkF Tryz.prog 57 [vR 155 (l0.map c154),vI a1] [] (vI r) []:=by
 unfold laws_szFaceS.f at H
 refine o1 27 4 Tryz.func57 fun w0 S=>?_
 refine s2 (mI (k:=nl (s2 (mI (k:=mR (k:=jl Tryz.underlying23 (k:=iS (k:=mI (k:=nl (sq (s2 (mI (k:=iL (k:=nl ?_))))))))))))))
 rcases ie H with ⟨h1,H⟩|⟨h1,H⟩
 ·refine ay (dt h1) ?_
  cases H
  exact s2 (mI (k:=nl (rt r1)))
 refine an (df h1) ?_
 refine sp (sq (s2 (mI (k:=nl (bk (lp ?_))))))
 obtain ⟨K0,hK0,gK0⟩:=kk k
 refine AGr.canon id (AGr.loopI (n:=k) (fun k s=>k≤K0∧∃ x0 x1 x5,laws_szFaceS.l0 k x0 x1 x5=some r∧s=St.of [(0,vR 155 (x0.map c154)),(1,vI x1),(5,vI x5)] []) ⟨hK0,_,_,_,H,rfl⟩ ?_ ?_) ⟨rfl,rfl,rfl,trivial⟩ trivial rfl
 ·rintro _ ⟨_,_,_,_,H,_⟩
  cases H
 clear H hK0
 rintro k ih0 _ ⟨hK0,x0,x1,x5,H,rfl⟩
 unfold laws_szFaceS.l0 at H
 refine sq (s2 (mI (k:=mR (k:=jl Tryz.underlying23 (k:=iL (k:=nl ?_))))))
 rcases ei H with ⟨h2,H⟩|⟨h2,H⟩
 ·refine an (df h2) ?_
  cases H
  exact ex (s2 (mI (k:=mI (k:=nl (rt r1)))))
 refine ay (dt h2) ?_
 refine sp (sq (bk (s2 (mR (k:=mI (k:=?_))))))
 obtain ⟨h3,H⟩:=io H
 refine ixx ⟨h3,h2⟩ T155 Tryz.underlying23 (R154 h3 h2) (k:=oP T155 (k:=mI (k:=?_)))
 obtain ⟨t4,e5,H⟩:=bo H
 refine cr rfl (laws_szFace.ok e5) (qg (qd qn)) (k:=mI (k:=nl (s2 (mI (k:=iL (k:=nl ?_))))))
 rcases ie H with ⟨h6,H⟩|⟨h6,H⟩
 ·refine ay (dt h6) ?_
  cases H
  exact s2 (mI (k:=nl (rt r1)))
 refine an (df h6) ?_
 refine sp (rg (mI (k:=iA (k:=mI (k:=nl ?_)))))
 exact AGr.canon id (ih0 _ (by omega) _ ⟨by omega,_,_,_,H,rfl⟩) ⟨rfl,rfl,rfl,trivial⟩ trivial rfl
def laws_szDrawing.f (k:Nat) (a0_0 a0_1:Int) (l0_2:List S142) (l0_3:List S154) (a1:Int):Option (Int):=(laws_szPointS.f l0_2 a1).bind fun t1=>(if t1 < 0 then (some (-1)) else ((laws_szFaceS.f k l0_3 t1).bind fun t4=>(if t4 < 0 then (some (-1)) else (some t4))))
theorem laws_szDrawing.ok {k:Nat} {a0_0 a0_1:Int} {l0_2:List S142} {l0_3:List S154} {a1 r:Int} (H:laws_szDrawing.f k a0_0 a0_1 l0_2 l0_3 a1=some r):OkF Tryz.prog 25 [.agg [cI a0_0,cI a0_1,.d (.row 157 (l0_2.map c142)),.d (.row 155 (l0_3.map c154))],vI a1] [] (vI r) []:=by
 unfold laws_szDrawing.f at H
 refine o1 18 4 Tryz.func25 fun w0 S=>?_
 refine s2 (jb 200 (k:=mI (k:=nl (s2 (fB 2 D25_2 (k:=lR T22 (k:=mI (k:=?_))))))))
 obtain ⟨t1,e2,H⟩:=bo H
 refine cr rfl (laws_szPointS.ok e2) (qd (qd qn)) (k:=mI (k:=nl (sq (s2 (mI (k:=iL (k:=nl ?_)))))))
 rcases ie H with ⟨h3,H⟩|⟨h3,H⟩
 ·refine ay (dt h3) ?_
  cases H
  exact s2 (mI (k:=nl (rt r1)))
 refine an (df h3) ?_
 refine sp (s2 (fB 3 D25_3 (k:=lR T23 (k:=mI (k:=?_)))))
 obtain ⟨t4,e5,H⟩:=bo H
 refine cr rfl (laws_szFaceS.ok e5) (qd (qd qn)) (k:=mI (k:=nl (sq (s2 (mI (k:=iL (k:=nl ?_)))))))
 rcases ie H with ⟨h6,H⟩|⟨h6,H⟩
 ·refine ay (dt h6) ?_
  cases H
  exact s2 (mI (k:=nl (rt r1)))
 refine an (df h6) ?_
 cases H
 exact sp (s2 (mI (k:=mI (k:=nl (rt r1)))))
def laws_szVeneer.f (a0_0:ByteArray) (a0_1 a0_2 a1:Int):Option (Int):=if (wrap64 (a1 - (a0_0.size:Int))) < 0 then (some (-1)) else (some (wrap64 (a1 - (a0_0.size:Int))))
theorem laws_szVeneer.ok {a0_0:ByteArray} {a0_1 a0_2 a1 r:Int} (H:laws_szVeneer.f a0_0 a0_1 a0_2 a1=some r):OkF Tryz.prog 58 [.agg [cS a0_0,cI a0_1,cI a0_2],vI a1] [] (vI r) []:=by
 unfold laws_szVeneer.f at H
 refine o1 13 4 Tryz.func58 fun w0 S=>?_
 refine s2 (jb 200 (k:=mI (k:=nl (s2 (mI (k:=fB 0 D67_0 (k:=lv (vS _) T9 (k:=?_))))))))
 refine a_lenS ?_ Tryz.underlying9
 refine iS (k:=mI (k:=nl (sq (s2 (mI (k:=iL (k:=nl ?_)))))))
 rcases ie H with ⟨h1,H⟩|⟨h1,H⟩
 ·refine ay (dt h1) ?_
  cases H
  exact s2 (mI (k:=nl (rt r1)))
 refine an (df h1) ?_
 cases H
 exact sp (s2 (mI (k:=mI (k:=nl (rt r1)))))
def laws_szVeneerS.l0:Nat→List S66→Int→Int→Option (Int)
 | 0,_,_,_=>none
 | k+1,x0,x1,x5=>if x5 < (x0.length:Int) then (if 0≤x5 then ((laws_szVeneer.f ((rd66 x0 x5).f0) ((rd66 x0 x5).f1) ((rd66 x0 x5).f2) x1).bind fun t4=>(if t4 < 0 then (some (-1)) else (laws_szVeneerS.l0 k x0 t4 (wrap64 (x5+1))))) else (none)) else (some x1)
def laws_szVeneerS.f (k:Nat) (l0:List S66) (a1:Int):Option (Int):=if (wrap64 (a1 - (l0.length:Int))) < 0 then (some (-1)) else (laws_szVeneerS.l0 k l0 (wrap64 (a1 - (l0.length:Int))) 0)
theorem laws_szVeneerS.ok {k:Nat} {l0:List S66} {a1 r:Int} (H:laws_szVeneerS.f k l0 a1=some r):OkF Tryz.prog 26 [vR 67 (l0.map c66),vI a1] [] (vI r) []:=by
 unfold laws_szVeneerS.f at H
 refine o1 27 4 Tryz.func26 fun w0 S=>?_
 refine s2 (mI (k:=nl (s2 (mI (k:=mR (k:=jl Tryz.underlying26 (k:=iS (k:=mI (k:=nl (sq (s2 (mI (k:=iL (k:=nl ?_))))))))))))))
 rcases ie H with ⟨h1,H⟩|⟨h1,H⟩
 ·refine ay (dt h1) ?_
  cases H
  exact s2 (mI (k:=nl (rt r1)))
 refine an (df h1) ?_
 refine sp (sq (s2 (mI (k:=nl (bk (lp ?_))))))
 obtain ⟨K0,hK0,gK0⟩:=kk k
 refine AGr.canon id (AGr.loopI (n:=k) (fun k s=>k≤K0∧∃ x0 x1 x5,laws_szVeneerS.l0 k x0 x1 x5=some r∧s=St.of [(0,vR 67 (x0.map c66)),(1,vI x1),(5,vI x5)] []) ⟨hK0,_,_,_,H,rfl⟩ ?_ ?_) ⟨rfl,rfl,rfl,trivial⟩ trivial rfl
 ·rintro _ ⟨_,_,_,_,H,_⟩
  cases H
 clear H hK0
 rintro k ih0 _ ⟨hK0,x0,x1,x5,H,rfl⟩
 unfold laws_szVeneerS.l0 at H
 refine sq (s2 (mI (k:=mR (k:=jl Tryz.underlying26 (k:=iL (k:=nl ?_))))))
 rcases ei H with ⟨h2,H⟩|⟨h2,H⟩
 ·refine an (df h2) ?_
  cases H
  exact ex (s2 (mI (k:=mI (k:=nl (rt r1)))))
 refine ay (dt h2) ?_
 refine sp (sq (bk (s2 (mR (k:=mI (k:=?_))))))
 obtain ⟨h3,H⟩:=io H
 refine ixx ⟨h3,h2⟩ T67 Tryz.underlying26 (R66 h3 h2) (k:=ov (.agg [_,_,_]) T67 (k:=mI (k:=?_)))
 obtain ⟨t4,e5,H⟩:=bo H
 refine cr rfl (laws_szVeneer.ok e5) (qg (qd qn)) (k:=mI (k:=nl (s2 (mI (k:=iL (k:=nl ?_))))))
 rcases ie H with ⟨h6,H⟩|⟨h6,H⟩
 ·refine ay (dt h6) ?_
  cases H
  exact s2 (mI (k:=nl (rt r1)))
 refine an (df h6) ?_
 refine sp (rg (mI (k:=iA (k:=mI (k:=nl ?_)))))
 exact AGr.canon id (ih0 _ (by omega) _ ⟨by omega,_,_,_,H,rfl⟩) ⟨rfl,rfl,rfl,trivial⟩ trivial rfl
def laws_szPicture.f (k:Nat) (a0_0 a0_1:Int) (l0_2:List S142) (l0_3:List S154) (l0_4:List S66) (a1:Int):Option (Int):=(laws_szDrawing.f k a0_0 a0_1 l0_2 l0_3 a1).bind fun t1=>(if t1 < 0 then (some (-1)) else ((laws_szVeneerS.f k l0_4 t1).bind fun t4=>(if t4 < 0 then (some (-1)) else (some t4))))
theorem laws_szPicture.ok {k:Nat} {a0_0 a0_1:Int} {l0_2:List S142} {l0_3:List S154} {l0_4:List S66} {a1 r:Int} (H:laws_szPicture.f k a0_0 a0_1 l0_2 l0_3 l0_4 a1=some r):OkF Tryz.prog 5 [.agg [cI a0_0,cI a0_1,.d (.row 157 (l0_2.map c142)),.d (.row 155 (l0_3.map c154)),.d (.row 67 (l0_4.map c66))],vI a1] [] (vI r) []:=by
 unfold laws_szPicture.f at H
 refine o1 18 4 Tryz.func5 fun w0 S=>?_
 refine s2 (jb 200 (k:=mI (k:=nl (s2 (fB 0 D28_0 (k:=lv (.agg [_,_,_,_]) T25 (k:=mI (k:=?_))))))))
 obtain ⟨t1,e2,H⟩:=bo H
 refine cr rfl (laws_szDrawing.ok e2) (qg (qd qn)) (k:=mI (k:=nl (sq (s2 (mI (k:=iL (k:=nl ?_)))))))
 rcases ie H with ⟨h3,H⟩|⟨h3,H⟩
 ·refine ay (dt h3) ?_
  cases H
  exact s2 (mI (k:=nl (rt r1)))
 refine an (df h3) ?_
 refine sp (s2 (fB 4 D28_1 (k:=lR T26 (k:=mI (k:=?_)))))
 obtain ⟨t4,e5,H⟩:=bo H
 refine cr rfl (laws_szVeneerS.ok e5) (qd (qd qn)) (k:=mI (k:=nl (sq (s2 (mI (k:=iL (k:=nl ?_)))))))
 rcases ie H with ⟨h6,H⟩|⟨h6,H⟩
 ·refine ay (dt h6) ?_
  cases H
  exact s2 (mI (k:=nl (rt r1)))
 refine an (df h6) ?_
 cases H
 exact sp (s2 (mI (k:=mI (k:=nl (rt r1)))))
def laws_szBoxS.f (l0:List S146) (a1:Int):Option (Int):=if (wrap64 (a1 - (l0.length:Int))) < 0 then (some (-1)) else (some (wrap64 (a1 - (l0.length:Int))))
theorem laws_szBoxS.ok {l0:List S146} {a1 r:Int} (H:laws_szBoxS.f l0 a1=some r):OkF Tryz.prog 59 [vR 161 (l0.map c146),vI a1] [] (vI r) []:=by
 unfold laws_szBoxS.f at H
 refine o1 12 4 Tryz.func59 fun w0 S=>?_
 refine s2 (mI (k:=nl (s2 (mI (k:=mR (k:=jl Tryz.underlying68 (k:=iS (k:=mI (k:=nl (sq (s2 (mI (k:=iL (k:=nl ?_))))))))))))))
 rcases ie H with ⟨h1,H⟩|⟨h1,H⟩
 ·refine ay (dt h1) ?_
  cases H
  exact s2 (mI (k:=nl (rt r1)))
 refine an (df h1) ?_
 cases H
 exact sp (s2 (mI (k:=mI (k:=nl (rt r1)))))
def laws_szLeaf.f (a0_0 a0_1:ByteArray) (a0_2:Int) (a0_3:ByteArray) (a0_4 a0_5 a0_6 a0_7:Int) (l0_8:List S146) (a1:Int):Option (Int):=if (wrap64 (a1 - (a0_0.size:Int))) < 0 then (some (-1)) else (if (wrap64 ((wrap64 (a1 - (a0_0.size:Int))) - (a0_1.size:Int))) < 0 then (some (-1)) else ((laws_szVeneer.f a0_3 a0_4 a0_5 (wrap64 ((wrap64 (a1 - (a0_0.size:Int))) - (a0_1.size:Int)))).bind fun t3=>(if t3 < 0 then (some (-1)) else ((laws_szBoxS.f l0_8 t3).bind fun t6=>(if t6 < 0 then (some (-1)) else (some t6))))))
theorem laws_szLeaf.ok {a0_0 a0_1:ByteArray} {a0_2:Int} {a0_3:ByteArray} {a0_4 a0_5 a0_6 a0_7:Int} {l0_8:List S146} {a1 r:Int} (H:laws_szLeaf.f a0_0 a0_1 a0_2 a0_3 a0_4 a0_5 a0_6 a0_7 l0_8 a1=some r):OkF Tryz.prog 27 [.agg [cS a0_0,cS a0_1,cI a0_2,cS a0_3,cI a0_4,cI a0_5,cI a0_6,cI a0_7,.d (.row 161 (l0_8.map c146))],vI a1] [] (vI r) []:=by
 unfold laws_szLeaf.f at H
 refine o1 32 4 Tryz.func27 fun w0 S=>?_
 refine s2 (jb 200 (k:=mI (k:=nl (s2 (mI (k:=fB 0 D70_0 (k:=lv (vS _) T9 (k:=?_))))))))
 refine a_lenS ?_ Tryz.underlying9
 refine iS (k:=mI (k:=nl (sq (s2 (mI (k:=iL (k:=nl ?_)))))))
 rcases ie H with ⟨h1,H⟩|⟨h1,H⟩
 ·refine ay (dt h1) ?_
  cases H
  exact s2 (mI (k:=nl (rt r1)))
 refine an (df h1) ?_
 refine sp (s2 (mI (k:=fB 1 D70_1 (k:=lv (vS _) T9 (k:=?_)))))
 refine a_lenS ?_ Tryz.underlying9
 refine iS (k:=mI (k:=nl (sq (s2 (mI (k:=iL (k:=nl ?_)))))))
 rcases ie H with ⟨h2,H⟩|⟨h2,H⟩
 ·refine ay (dt h2) ?_
  cases H
  exact s2 (mI (k:=nl (rt r1)))
 refine an (df h2) ?_
 refine sp (s2 (fB 3 D70_3 (k:=lv (.agg [_,_,_]) T67 (k:=mI (k:=?_)))))
 obtain ⟨t3,e4,H⟩:=bo H
 refine cr rfl (laws_szVeneer.ok e4) (qg (qd qn)) (k:=mI (k:=nl (sq (s2 (mI (k:=iL (k:=nl ?_)))))))
 rcases ie H with ⟨h5,H⟩|⟨h5,H⟩
 ·refine ay (dt h5) ?_
  cases H
  exact s2 (mI (k:=nl (rt r1)))
 refine an (df h5) ?_
 refine sp (s2 (fB 8 D70_6 (k:=lR T68 (k:=mI (k:=?_)))))
 obtain ⟨t6,e7,H⟩:=bo H
 refine cr rfl (laws_szBoxS.ok e7) (qd (qd qn)) (k:=mI (k:=nl (sq (s2 (mI (k:=iL (k:=nl ?_)))))))
 rcases ie H with ⟨h8,H⟩|⟨h8,H⟩
 ·refine ay (dt h8) ?_
  cases H
  exact s2 (mI (k:=nl (rt r1)))
 refine an (df h8) ?_
 cases H
 exact sp (s2 (mI (k:=mI (k:=nl (rt r1)))))
def laws_szLeafS.l0:Nat→List S69→Int→Int→Option (Int)
 | 0,_,_,_=>none
 | k+1,x0,x1,x5=>if x5 < (x0.length:Int) then (if 0≤x5 then ((laws_szLeaf.f ((rd69 x0 x5).f0) ((rd69 x0 x5).f1) ((rd69 x0 x5).f2) ((rd69 x0 x5).f3.f0) ((rd69 x0 x5).f3.f1) ((rd69 x0 x5).f3.f2) ((rd69 x0 x5).f4) ((rd69 x0 x5).f5) ((rd69 x0 x5).f6) x1).bind fun t4=>(if t4 < 0 then (some (-1)) else (laws_szLeafS.l0 k x0 t4 (wrap64 (x5+1))))) else (none)) else (some x1)
def laws_szLeafS.f (k:Nat) (l0:List S69) (a1:Int):Option (Int):=if (wrap64 (a1 - (l0.length:Int))) < 0 then (some (-1)) else (laws_szLeafS.l0 k l0 (wrap64 (a1 - (l0.length:Int))) 0)
theorem laws_szLeafS.ok {k:Nat} {l0:List S69} {a1 r:Int} (H:laws_szLeafS.f k l0 a1=some r):OkF Tryz.prog 6 [vR 70 (l0.map c69),vI a1] [] (vI r) []:=by
 unfold laws_szLeafS.f at H
 refine o1 27 4 Tryz.func6 fun w0 S=>?_
 refine s2 (mI (k:=nl (s2 (mI (k:=mR (k:=jl Tryz.underlying29 (k:=iS (k:=mI (k:=nl (sq (s2 (mI (k:=iL (k:=nl ?_))))))))))))))
 rcases ie H with ⟨h1,H⟩|⟨h1,H⟩
 ·refine ay (dt h1) ?_
  cases H
  exact s2 (mI (k:=nl (rt r1)))
 refine an (df h1) ?_
 refine sp (sq (s2 (mI (k:=nl (bk (lp ?_))))))
 obtain ⟨K0,hK0,gK0⟩:=kk k
 refine AGr.canon id (AGr.loopI (n:=k) (fun k s=>k≤K0∧∃ x0 x1 x5,laws_szLeafS.l0 k x0 x1 x5=some r∧s=St.of [(0,vR 70 (x0.map c69)),(1,vI x1),(5,vI x5)] []) ⟨hK0,_,_,_,H,rfl⟩ ?_ ?_) ⟨rfl,rfl,rfl,trivial⟩ trivial rfl
 ·rintro _ ⟨_,_,_,_,H,_⟩
  cases H
 clear H hK0
 rintro k ih0 _ ⟨hK0,x0,x1,x5,H,rfl⟩
 unfold laws_szLeafS.l0 at H
 refine sq (s2 (mI (k:=mR (k:=jl Tryz.underlying29 (k:=iL (k:=nl ?_))))))
 rcases ei H with ⟨h2,H⟩|⟨h2,H⟩
 ·refine an (df h2) ?_
  cases H
  exact ex (s2 (mI (k:=mI (k:=nl (rt r1)))))
 refine ay (dt h2) ?_
 refine sp (sq (bk (s2 (mR (k:=mI (k:=?_))))))
 obtain ⟨h3,H⟩:=io H
 refine ixx ⟨h3,h2⟩ T70 Tryz.underlying29 (R69 h3 h2) (k:=ov (.agg [_,_,_,_,_,_,_,_,_]) T70 (k:=mI (k:=?_)))
 obtain ⟨t4,e5,H⟩:=bo H
 refine cr rfl (laws_szLeaf.ok e5) (qg (qd qn)) (k:=mI (k:=nl (s2 (mI (k:=iL (k:=nl ?_))))))
 rcases ie H with ⟨h6,H⟩|⟨h6,H⟩
 ·refine ay (dt h6) ?_
  cases H
  exact s2 (mI (k:=nl (rt r1)))
 refine an (df h6) ?_
 refine sp (rg (mI (k:=iA (k:=mI (k:=nl ?_)))))
 exact AGr.canon id (ih0 _ (by omega) _ ⟨by omega,_,_,_,H,rfl⟩) ⟨rfl,rfl,rfl,trivial⟩ trivial rfl
def laws_szPlacementS.f (l0:List S81) (a1:Int):Option (Int):=if (wrap64 (a1 - (l0.length:Int))) < 0 then (some (-1)) else (some (wrap64 (a1 - (l0.length:Int))))
theorem laws_szPlacementS.ok {l0:List S81} {a1 r:Int} (H:laws_szPlacementS.f l0 a1=some r):OkF Tryz.prog 7 [vR 84 (l0.map c81),vI a1] [] (vI r) []:=by
 unfold laws_szPlacementS.f at H
 refine o1 12 4 Tryz.func7 fun w0 S=>?_
 refine s2 (mI (k:=nl (s2 (mI (k:=mR (k:=jl Tryz.underlying30 (k:=iS (k:=mI (k:=nl (sq (s2 (mI (k:=iL (k:=nl ?_))))))))))))))
 rcases ie H with ⟨h1,H⟩|⟨h1,H⟩
 ·refine ay (dt h1) ?_
  cases H
  exact s2 (mI (k:=nl (rt r1)))
 refine an (df h1) ?_
 cases H
 exact sp (s2 (mI (k:=mI (k:=nl (rt r1)))))
def spec_l00In.f (a0 a1 a2:Int):Option (Bool):=if a0≥a1 then (some (decide (a0≤a2))) else (some false)
theorem spec_l00In.ok {a0 a1 a2:Int} {r:Bool} (H:spec_l00In.f a0 a1 a2=some r):OkF Tryz.prog 103 [vI a0,vI a1,vI a2] [] (vB r) []:=by
 unfold spec_l00In.f at H
 refine o1 15 6 Tryz.func103 fun w0 S=>?_
 refine s2 (mB (k:=nl (s2 (mI (k:=mI (k:=iE (k:=mB (k:=?_))))))))
 rcases ei H with ⟨h1,H⟩|⟨h1,H⟩
 ·iterate 3 refine sk (df h1) (k:=?_)
  cases H
  exact qB (df h1) (k:=mB (k:=nl (rt r1)))
 cases H
 exact mI (hg:=gy (dt h1)) (k:=mI (hg:=gy (dt h1)) (k:=iQ (hg:=gy (dt h1)) (k:=pB (dt h1) (k:=mB (k:=nl (rt r1))))))
mutual
def spec_l05Points.l0:Nat→Int→Int→List S142→Int→Option (Bool)
 | 0,_,_,_,_=>none
 | k+1,x0_0,x0_1,x0_2,x3=>if x3 < (x0_2.length:Int) then (if 0≤x3 then ((spec_l00In.f ((rd142 x0_2 x3).f0) 0 x0_0).bind fun t4=>(if t4=true then ((spec_l00In.f ((rd142 x0_2 x3).f1) 0 x0_1).bind fun t7=>(spec_l05Points.j0 k x0_0 x0_1 x0_2 x3 (!t7))) else (spec_l05Points.j0 k x0_0 x0_1 x0_2 x3 true))) else (none)) else (some true)
def spec_l05Points.j0:Nat→Int→Int→List S142→Int→Bool→Option (Bool)
 | 0,_,_,_,_,_=>none
 | k+1,x0_0,x0_1,x0_2,x3,x49=>if x49=true then (some false) else (spec_l05Points.l1 k x0_0 x0_1 x0_2 x3 0)
def spec_l05Points.l1:Nat→Int→Int→List S142→Int→Int→Option (Bool)
 | 0,_,_,_,_,_=>none
 | k+1,x0_0,x0_1,x0_2,x3,x4=>if x4 < x3 then (if 0≤x3 then (if x3 < (x0_2.length:Int) then (if 0≤x4 then (if x4 < (x0_2.length:Int) then (if (((rd142 x0_2 x3).f0) == ((rd142 x0_2 x4).f0) && (((rd142 x0_2 x3).f1) == ((rd142 x0_2 x4).f1)))=true then (some false) else (spec_l05Points.l1 k x0_0 x0_1 x0_2 x3 (wrap64 (x4+1)))) else (none)) else (none)) else (none)) else (none)) else (spec_l05Points.l0 k x0_0 x0_1 x0_2 (wrap64 (x3+1)))
end
def spec_l05Points.f (k:Nat) (a0_0 a0_1:Int) (l0_2:List S142) (l0_3:List S154):Option (Bool):=if (l0_2.length:Int) > 48 then (some false) else (spec_l05Points.l0 k a0_0 a0_1 l0_2 0)
theorem spec_l05Points.ok {k:Nat} {a0_0 a0_1:Int} {l0_2:List S142} {l0_3:List S154} {r:Bool} (H:spec_l05Points.f k a0_0 a0_1 l0_2 l0_3=some r):OkF Tryz.prog 134 [.c (.d (.ro [.v (.int .i64 a0_0),.v (.int .i64 a0_1),.row 143 (l0_2.map c142),.row 158 (l0_3.map c154)]))] [] (vB r) []:=by
 unfold spec_l05Points.f at H
 refine o1 70 2 Tryz.func134 fun w0 S=>?_
 refine s2 (mB (k:=nl (sq (s2 (mv (vO [_,_,_,_]) (k:=nv (vO [_,_,_,_]) (k:=jf (cells':=[_,_]) D40_2 (k:=oR T37 (k:=jl Tryz.underlying37 (k:=iG (k:=nl ?_)))))))))))
 rcases ie H with ⟨h1,H⟩|⟨h1,H⟩
 ·refine ay (dt h1) ?_
  cases H
  exact s2 (mB (k:=nl (rt r1)))
 refine an (df h1) ?_
 refine sp (sq (s2 (mI (k:=nl (bk (lp ?_))))))
 obtain ⟨K0,hK0,gK0⟩:=kk k
 refine AGr.canon id (AGr.loopI (n:=k) (fun k s=>k≤K0∧∃ x0_0 x0_1 x0_2,∃ (x0_3:List S154),∃ x3,spec_l05Points.l0 k x0_0 x0_1 x0_2 x3=some r∧s=St.of [(0,.c (.d (.ro [.v (.int .i64 x0_0),.v (.int .i64 x0_1),.row 143 (x0_2.map c142),.row 158 (x0_3.map c154)]))),(3,vI x3)] []) ⟨hK0,_,_,_,_,_,H,rfl⟩ ?_ ?_) ⟨rfl,rfl,trivial⟩ trivial rfl
 ·rintro _ ⟨_,_,_,_,_,_,H,_⟩
  cases H
 clear H hK0
 rintro k ih0 _ ⟨hK0,x0_0,x0_1,x0_2,x0_3,x3,H,rfl⟩
 unfold spec_l05Points.l0 at H
 refine sq (s2 (mI (k:=mv (vO [_,_,_,_]) (k:=nv (vO [_,_,_,_]) (k:=jf (cells':=[_,_]) D40_2 (k:=oR T37 (k:=jl Tryz.underlying37 (k:=iL (k:=nl ?_)))))))))
 rcases ei H with ⟨h2,H⟩|⟨h2,H⟩
 ·refine an (df h2) ?_
  cases H
  exact ex (s2 (mB (k:=nl (rt r1))))
 refine ay (dt h2) ?_
 refine sp (sq (bk (sq (sq ?_))))
 refine AG.joinR (fun s=>∃ q,q≤k∧∃ x0_0 x0_1 x0_2,∃ (x0_3:List S154),∃ x3 x49,spec_l05Points.j0 q x0_0 x0_1 x0_2 x3 x49=some r∧s=St.of [(0,.c (.d (.ro [.v (.int .i64 x0_0),.v (.int .i64 x0_1),.row 143 (x0_2.map c142),.row 158 (x0_3.map c154)]))),(3,vI x3),(49,vB x49)] []) ?_ ?_
 ·skip
  refine rg (mv (vO [_,_,_,_]) (k:=nv (vO [_,_,_,_]) (k:=jf (cells':=[_,_]) D40_2 (k:=oR T37 (k:=mI (k:=?_))))))
  obtain ⟨h3,H⟩:=io H
  refine ixx ⟨h3,h2⟩ T143 Tryz.underlying37 (R142 h3 h2) (k:=jf (cells':=[_,_]) D143_0 (k:=oI T2 (k:=mv (vO [_,_,_,_]) (k:=nv (vO [_,_,_,_]) (k:=jf (cells':=[_,_,_,_]) D40_0 (k:=oI T2 (k:=?_)))))))
  obtain ⟨t4,e5,H⟩:=bo H
  refine cr rfl (spec_l00In.ok e5) (qd (qd (qd qn))) (k:=uN (k:=mB (k:=?_)))
  rcases ei H with ⟨h6,H⟩|⟨h6,H⟩
  ·iterate 14 refine sk (cn (bf h6)) (k:=?_)
   refine pB (cn (bf h6)) (k:=?_)
   refine RA.nil (fun _=>by kernel_rfl) ?_
   exact CanR.mk id ⟨_,(by omega),_,_,_,_,_,_,H,rfl⟩ ⟨rfl,rfl,rfl,trivial⟩ trivial rfl
  refine mv (vO [_,_,_,_]) (hg:=gy (cn h6)) (k:=nv (vO [_,_,_,_]) (hg:=gy (cn h6)) (k:=jf (cells':=[_,_]) D40_2 (hg:=gy (cn h6)) (k:=oR T37 (hg:=gy (cn h6)) (k:=mI (hg:=gy (cn h6)) (k:=ixx ⟨h3,h2⟩ T143 Tryz.underlying37 (R142 h3 h2) (hg:=gy (cn h6)) (k:=jf (cells':=[_]) D143_1 (hg:=gy (cn h6)) (k:=oI T2 (hg:=gy (cn h6)) (k:=mv (vO [_,_,_,_]) (hg:=gy (cn h6)) (k:=nv (vO [_,_,_,_]) (hg:=gy (cn h6)) (k:=jf (cells':=[_,_,_]) D40_1 (hg:=gy (cn h6)) (k:=oI T2 (hg:=gy (cn h6)) (k:=?_))))))))))))
  obtain ⟨t7,e8,H⟩:=bo H
  refine cr rfl (spec_l00In.ok e8) (qd (qd (qd qn))) (hg:=gy (cn h6)) (k:=uN (hg:=gy (cn h6)) (k:=qB (cn h6) (k:=?_)))
  refine RA.nil (fun _=>by kernel_rfl) ?_
  exact CanR.mk id ⟨_,(by omega),_,_,_,_,_,_,H,rfl⟩ ⟨rfl,rfl,rfl,trivial⟩ trivial rfl
 clear H
 rintro _ ⟨k,hj0,x0_0,x0_1,x0_2,x0_3,x3,x49,H,rfl⟩
 rcases k with _|k
 cases H
 rw [spec_l05Points.j0] at H
 rcases ie H with ⟨h9,H⟩|⟨h9,H⟩
 ·refine ay h9 ?_
  cases H
  exact s2 (mB (k:=nl (rt r1)))
 refine an (bf h9) ?_
 refine sp (s2 (mI (k:=nl (bk (lp ?_)))))
 obtain ⟨K1,hK1,gK1⟩:=kk k
 refine AGr.canon id (AGr.loopI (n:=k) (fun k s=>k≤K1∧∃ x0_0 x0_1 x0_2,∃ (x0_3:List S154),∃ x3 x4,spec_l05Points.l1 k x0_0 x0_1 x0_2 x3 x4=some r∧s=St.of [(0,.c (.d (.ro [.v (.int .i64 x0_0),.v (.int .i64 x0_1),.row 143 (x0_2.map c142),.row 158 (x0_3.map c154)]))),(3,vI x3),(4,vI x4)] []) ⟨hK1,_,_,_,_,_,_,H,rfl⟩ ?_ ?_) ⟨rfl,rfl,rfl,trivial⟩ trivial rfl
 ·rintro _ ⟨_,_,_,_,_,_,_,H,_⟩
  cases H
 clear H hK1
 rintro k ih1 _ ⟨hK1,x0_0,x0_1,x0_2,x0_3,x3,x4,H,rfl⟩
 unfold spec_l05Points.l1 at H
 refine sq (s2 (mI (k:=mI (k:=iL (k:=nl ?_)))))
 rcases ei H with ⟨h10,H⟩|⟨h10,H⟩
 ·refine an (df h10) ?_
  refine ex (rg (mI (k:=iA (k:=mI (k:=nl ?_)))))
  exact AGr.canon id (ih0 _ (by omega) _ ⟨by omega,_,_,_,_,_,H,rfl⟩) ⟨rfl,rfl,trivial⟩ trivial rfl
 refine ay (dt h10) ?_
 refine sp (sq (bk (s2 (mv (vO [_,_,_,_]) (k:=nv (vO [_,_,_,_]) (k:=jf (cells':=[_,_]) D40_2 (k:=oR T37 (k:=mI (k:=?_)))))))))
 obtain ⟨h11,H⟩:=io H
 obtain ⟨h12,H⟩:=io H
 refine ixx ⟨h11,h12⟩ T143 Tryz.underlying37 (R142 h11 h12) (k:=oP T143 (k:=mv (vO [_,_,_,_]) (k:=nv (vO [_,_,_,_]) (k:=jf (cells':=[_,_]) D40_2 (k:=oR T37 (k:=mI (k:=?_)))))))
 obtain ⟨h13,H⟩:=io H
 obtain ⟨h14,H⟩:=io H
 refine ixx ⟨h13,h14⟩ T143 Tryz.underlying37 (R142 h13 h14) (k:=oP T143 (k:=?_))
 refine a_eqS (b:=(((rd142 x0_2 x3).f0) == ((rd142 x0_2 x4).f0) && (((rd142 x0_2 x3).f1) == ((rd142 x0_2 x4).f1)))) ?_ (.inl ⟨rfl,rfl⟩) (Q143 ((rd142 x0_2 x3).f0) ((rd142 x0_2 x4).f0) ((rd142 x0_2 x3).f1) ((rd142 x0_2 x4).f1)).1
 refine RA.nil (fun _=>by kernel_rfl) ?_
 rcases ie H with ⟨h15,H⟩|⟨h15,H⟩
 ·refine ay h15 ?_
  cases H
  exact s2 (mB (k:=nl (rt r1)))
 refine an (bf h15) ?_
 refine sp (rg (mI (k:=iA (k:=mI (k:=nl ?_)))))
 exact AGr.canon id (ih1 _ (by omega) _ ⟨by omega,_,_,_,_,_,_,H,rfl⟩) ⟨rfl,rfl,rfl,trivial⟩ trivial rfl
def spec_l01Small.f (a0:Int):Option (Bool):=if a0≥97 then (some (decide (a0≤122))) else (some false)
theorem spec_l01Small.ok {a0:Int} {r:Bool} (H:spec_l01Small.f a0=some r):OkF Tryz.prog 162 [.c (.d (.v (.int .u8 a0)))] [] (vB r) []:=by
 unfold spec_l01Small.f at H
 refine o1 9 2 Tryz.func162 fun w0 S=>?_
 refine s2 (mB (k:=nl (s2 (mv (gV (.int .u8 _)) (k:=iE (k:=mB (k:=?_)))))))
 rcases ei H with ⟨h1,H⟩|⟨h1,H⟩
 ·iterate 2 refine sk (df h1) (k:=?_)
  cases H
  exact qB (df h1) (k:=mB (k:=nl (rt r1)))
 cases H
 exact mv (gV (.int .u8 _)) (hg:=gy (dt h1)) (k:=iQ (hg:=gy (dt h1)) (k:=pB (dt h1) (k:=mB (k:=nl (rt r1)))))
def spec_l01Digit.f (a0:Int):Option (Bool):=if a0≥48 then (some (decide (a0≤57))) else (some false)
theorem spec_l01Digit.ok {a0:Int} {r:Bool} (H:spec_l01Digit.f a0=some r):OkF Tryz.prog 163 [.c (.d (.v (.int .u8 a0)))] [] (vB r) []:=by
 unfold spec_l01Digit.f at H
 refine o1 9 2 Tryz.func163 fun w0 S=>?_
 refine s2 (mB (k:=nl (s2 (mv (gV (.int .u8 _)) (k:=iE (k:=mB (k:=?_)))))))
 rcases ei H with ⟨h1,H⟩|⟨h1,H⟩
 ·iterate 2 refine sk (df h1) (k:=?_)
  cases H
  exact qB (df h1) (k:=mB (k:=nl (rt r1)))
 cases H
 exact mv (gV (.int .u8 _)) (hg:=gy (dt h1)) (k:=iQ (hg:=gy (dt h1)) (k:=pB (dt h1) (k:=mB (k:=nl (rt r1)))))
mutual
def spec_l01Name.j0:Nat→ByteArray→Bool→Option (Bool)
 | 0,_,_=>none
 | k+1,x0,x16=>if x16=true then (some false) else (spec_l01Name.l0 k x0 0)
def spec_l01Name.l0:Nat→ByteArray→Int→Option (Bool)
 | 0,_,_=>none
 | k+1,x0,x3=>if x3 < (x0.size:Int) then (if 0≤x3 then ((spec_l01Small.f (bt x0 x3)).bind fun t9=>(if t9=true then (spec_l01Name.l0 k x0 (wrap64 (x3+1))) else ((spec_l01Digit.f (bt x0 x3)).bind fun t12=>(if t12=true then (spec_l01Name.l0 k x0 (wrap64 (x3+1))) else (some false))))) else (none)) else (some true)
end
def spec_l01Name.f (k:Nat) (a0:ByteArray):Option (Bool):=if a0.toList=(⟨#[]⟩:ByteArray).toList then (spec_l01Name.j0 k a0 true) else (if (a0.size:Int) > 10 then (spec_l01Name.j0 k a0 true) else (if 0 < (a0.size:Int) then ((spec_l01Small.f (bt a0 0)).bind fun t4=>(spec_l01Name.j0 k a0 (!t4))) else (none)))
theorem spec_l01Name.ok {k:Nat} {a0:ByteArray} {r:Bool} (H:spec_l01Name.f k a0=some r):OkF Tryz.prog 135 [vS a0] [] (vB r) []:=by
 unfold spec_l01Name.f at H
 refine o1 35 2 Tryz.func135 fun w0 S=>?_
 refine s2 (mB (k:=nl (sq (sq ?_))))
 refine AG.joinR (fun s=>∃ q,q≤k∧∃ x0 x16,spec_l01Name.j0 q x0 x16=some r∧s=St.of [(0,vS x0),(16,vB x16)] []) ?_ ?_
 ·skip
  refine rg (mv (vS _) (k:=bB (a0.toList == (⟨#[]⟩:ByteArray).toList) (k:=mB (k:=?_))))
  rcases ie H with ⟨h1,H⟩|⟨h1,H⟩
  ·iterate 3 refine sk (bq h1) (k:=?_)
   refine pB (bq h1) (k:=mB (k:=?_))
   iterate 4 refine sk rfl (k:=?_)
   refine pB rfl (k:=nl ?_)
   exact CanR.mk id ⟨_,(by omega),_,_,H,rfl⟩ ⟨rfl,rfl,trivial⟩ trivial rfl
  refine mv (vS _) (hg:=gy (bn h1)) (k:=?_)
  refine a_lenS ?_ Tryz.underlying9 (hg:=gy (bn h1))
  refine iG (hg:=gy (bn h1)) (k:=qB (bn h1) (k:=mB (k:=?_)))
  rcases ie H with ⟨h2,H⟩|⟨h2,H⟩
  ·iterate 4 refine sk (dt h2) (k:=?_)
   refine pB (dt h2) (k:=nl ?_)
   exact CanR.mk id ⟨_,(by omega),_,_,H,rfl⟩ ⟨rfl,rfl,trivial⟩ trivial rfl
  refine mv (vS _) (hg:=gy (df h2)) (k:=?_)
  obtain ⟨h3,H⟩:=io H
  refine jt ⟨(by decide),h3⟩ Tryz.underlying9 (hg:=gy (df h2)) (k:=?_)
  obtain ⟨t4,e5,H⟩:=bo H
  refine cr rfl (spec_l01Small.ok e5) (qd qn) (hg:=gy (df h2)) (k:=uN (hg:=gy (df h2)) (k:=qB (df h2) (k:=nl ?_)))
  exact CanR.mk id ⟨_,(by omega),_,_,H,rfl⟩ ⟨rfl,rfl,trivial⟩ trivial rfl
 clear H
 rintro _ ⟨k,hj0,x0,x16,H,rfl⟩
 rcases k with _|k
 cases H
 rw [spec_l01Name.j0] at H
 rcases ie H with ⟨h6,H⟩|⟨h6,H⟩
 ·refine ay h6 ?_
  cases H
  exact s2 (mB (k:=nl (rt r1)))
 refine an (bf h6) ?_
 refine sp (sq (s2 (mI (k:=nl (bk (lp ?_))))))
 obtain ⟨K0,hK0,gK0⟩:=kk k
 refine AGr.canon id (AGr.loopI (n:=k) (fun k s=>k≤K0∧∃ x0 x3,spec_l01Name.l0 k x0 x3=some r∧s=St.of [(0,vS x0),(3,vI x3)] []) ⟨hK0,_,_,H,rfl⟩ ?_ ?_) ⟨rfl,rfl,trivial⟩ trivial rfl
 ·rintro _ ⟨_,_,_,H,_⟩
  cases H
 clear H hK0
 rintro k ih0 _ ⟨hK0,x0,x3,H,rfl⟩
 unfold spec_l01Name.l0 at H
 refine sq (s2 (mI (k:=mv (vS _) (k:=?_))))
 refine a_lenS ?_ Tryz.underlying9
 refine iL (k:=nl ?_)
 rcases ei H with ⟨h7,H⟩|⟨h7,H⟩
 ·refine an (df h7) ?_
  cases H
  exact ex (s2 (mB (k:=nl (rt r1))))
 refine ay (dt h7) ?_
 refine sp (sq (bk (s2 (mv (vS _) (k:=mI (k:=?_))))))
 obtain ⟨h8,H⟩:=io H
 refine jt ⟨h8,h7⟩ Tryz.underlying9 (k:=?_)
 obtain ⟨t9,e10,H⟩:=bo H
 refine cr rfl (spec_l01Small.ok e10) (qd qn) (k:=uN (k:=mB (k:=?_)))
 rcases ie H with ⟨h11,H⟩|⟨h11,H⟩
 ·iterate 5 refine sk (cn h11) (k:=?_)
  refine qB (cn h11) (k:=nl ?_)
  refine an rfl ?_
  refine sp (rg (mI (k:=iA (k:=mI (k:=nl ?_)))))
  exact AGr.canon id (ih0 _ (by omega) _ ⟨by omega,_,_,H,rfl⟩) ⟨rfl,rfl,trivial⟩ trivial rfl
 refine mv (vS _) (hg:=gy (cn (bf h11))) (k:=mI (hg:=gy (cn (bf h11))) (k:=jt ⟨h8,h7⟩ Tryz.underlying9 (hg:=gy (cn (bf h11))) (k:=?_)))
 obtain ⟨t12,e13,H⟩:=bo H
 refine cr rfl (spec_l01Digit.ok e13) (qd qn) (hg:=gy (cn (bf h11))) (k:=uN (hg:=gy (cn (bf h11))) (k:=pB (cn (bf h11)) (k:=nl ?_)))
 rcases ei H with ⟨h14,H⟩|⟨h14,H⟩
 ·refine ay (cn (bf h14)) ?_
  cases H
  exact s2 (mB (k:=nl (rt r1)))
 refine an (cn h14) ?_
 refine sp (rg (mI (k:=iA (k:=mI (k:=nl ?_)))))
 exact AGr.canon id (ih0 _ (by omega) _ ⟨by omega,_,_,H,rfl⟩) ⟨rfl,rfl,trivial⟩ trivial rfl
def spec_l05Ring.l0:Nat→List S142→List Int→List S142→Int→Option ((List S142)×Bool)
 | 0,_,_,_,_=>none
 | k+1,x0_2,x1,x6,x7=>if x7 < (x1.length:Int) then (if 0≤x7 then ((spec_l00In.f (rd2 x1 x7) 0 (wrap64 ((x0_2.length:Int) - 1))).bind fun t4=>(if t4=true then (if 0≤(rd2 x1 x7) then (if (rd2 x1 x7) < (x0_2.length:Int) then (if x6.length < 8796093022208 then (spec_l05Ring.l0 k x0_2 x1 (x6++[(⟨(rd142 x0_2 (rd2 x1 x7)).f0,(rd142 x0_2 (rd2 x1 x7)).f1⟩:S142)]) (wrap64 (x7+1))) else (none)) else (none)) else (none)) else (some (([]:List S142),false)))) else (none)) else (some (x6,true))
def spec_l05Ring.f (k:Nat) (a0_0 a0_1:Int) (l0_2:List S142) (l0_3:List S154) (l1:List Int):Option ((List S142)×Bool):=spec_l05Ring.l0 k l0_2 l1 (([]:List S142)) 0
theorem spec_l05Ring.ok {k:Nat} {a0_0 a0_1:Int} {l0_2:List S142} {l0_3:List S154} {l1:List Int} {r0:List S142} {r1:Bool} (H:spec_l05Ring.f k a0_0 a0_1 l0_2 l0_3 l1=some (r0,r1)):OkF Tryz.prog 136 [.c (.d (.ro [.v (.int .i64 a0_0),.v (.int .i64 a0_1),.row 143 (l0_2.map c142),.row 158 (l0_3.map c154)])),vR 2 (l1.map c2)] [] (.tup [.c (.own 100 r0.length),.c (.d (.v (.bool r1)))]) [(100,.row 143 (r0.map c142))]:=by
 unfold spec_l05Ring.f at H
 refine OkF.of (N:=41) (rs:=[4,5]) (avs:=[.c (.own 100 r0.length),.c (.d (.v (.bool r1)))]) Tryz.func136 rfl rfl (fun _ _=>results_tmp2 rfl _ _ _) (by decide) rfl rfl rfl rfl (fun w0 S=>?_)
 refine s2 (jn (e:=143) 200 T143 (k:=mB (k:=nl (s2 ?_))))
 refine a_lit (cs:=[]) (D:=[]) (css:=(([]:List S142)).map c142) 201 ?_ N37 T143 (hcss:=by rfl)
 refine mW (k:=nl (sq (s2 (mI (k:=nl (bk (lp ?_)))))))
 obtain ⟨K0,hK0,gK0⟩:=kk k
 refine AGr.canon (fun κ=>cond (Nat.beq κ 202) 201 (κ)) (AGr.loopI (n:=k) (fun k s=>k≤K0∧∃ (x0_0:Int),∃ (x0_1:Int),∃ x0_2,∃ (x0_3:List S154),∃ x1 x6 x7,spec_l05Ring.l0 k x0_2 x1 x6 x7=some (r0,r1)∧s=St.of [(0,.c (.d (.ro [.v (.int .i64 x0_0),.v (.int .i64 x0_1),.row 143 (x0_2.map c142),.row 158 (x0_3.map c154)]))),(1,vR 2 (x1.map c2)),(6,.c (.own 202 x6.length)),(7,vI x7)] [(202,.row 143 (x6.map c142))]) ⟨hK0,_,_,_,_,_,_,_,H,rfl⟩ ?_ ?_) ⟨rfl,rfl,(ownE rfl (by simp)),rfl,trivial⟩ ⟨rfl,trivial⟩ rfl
 ·rintro _ ⟨_,_,_,_,_,_,_,_,H,_⟩
  cases H
 clear H hK0
 rintro k ih0 _ ⟨hK0,x0_0,x0_1,x0_2,x0_3,x1,x6,x7,H,rfl⟩
 unfold spec_l05Ring.l0 at H
 refine sq (s2 (mI (k:=mR (k:=jl Tryz.underlying104 (k:=iL (k:=nl ?_))))))
 rcases ei H with ⟨h2,H⟩|⟨h2,H⟩
 ·refine an (df h2) ?_
  refine ex (s2 (mW (k:=mW (k:=mB (k:=nl (rt ?_))))))
  simp only [Option.some.injEq,Prod.mk.injEq] at H
  obtain ⟨rfl,rfl⟩:=H
  exact RetP.mk (fun κ=>cond (Nat.beq κ 100) 202 (κ)) ⟨rfl,rfl,trivial⟩ ⟨rfl,trivial⟩ rfl
 refine ay (dt h2) ?_
 refine sp (sq (bk (sq (s2 (mR (k:=mI (k:=?_)))))))
 obtain ⟨h3,H⟩:=io H
 refine ixx ⟨h3,h2⟩ T2 Tryz.underlying104 (R2 h3 h2) (k:=oI T2 (k:=mv (vO [_,_,_,_]) (k:=nv (vO [_,_,_,_]) (k:=jf (cells':=[_,_]) D40_2 (k:=oR T37 (k:=jl Tryz.underlying37 (k:=iS (k:=?_))))))))
 obtain ⟨t4,e5,H⟩:=bo H
 refine cr rfl (spec_l00In.ok e5) (qd (qd (qd qn))) (k:=uN (k:=?_))
 refine RA.nil (fun _=>by kernel_rfl) ?_
 rcases ei H with ⟨h6,H⟩|⟨h6,H⟩
 ·refine ay (cn (bf h6)) ?_
  refine s2 (jn (e:=143) 205 T143 (k:=mB (k:=nl (rt ?_))))
  simp only [Option.some.injEq,Prod.mk.injEq] at H
  obtain ⟨rfl,rfl⟩:=H
  exact RetP.mk (fun κ=>cond (Nat.beq κ 100) 205 (κ)) ⟨(ownE rfl (by simp)),rfl,trivial⟩ ⟨rfl,trivial⟩ rfl
 refine an (cn h6) ?_
 refine sp (rg (mW (k:=mv (vO [_,_,_,_]) (k:=nv (vO [_,_,_,_]) (k:=jf (cells':=[_,_]) D40_2 (k:=oR T37 (k:=mR (k:=mI (k:=ixx ⟨h3,h2⟩ T2 Tryz.underlying104 (R2 h3 h2) (k:=oI T2 (k:=?_)))))))))))
 obtain ⟨h7,H⟩:=io H
 obtain ⟨h8,H⟩:=io H
 refine ixx ⟨h7,h8⟩ T143 Tryz.underlying37 (R142 h7 h8) (k:=oP T143 (k:=?_))
 refine a_lit (cs:=[_,_]) (D:=[]) (css:=([(⟨(rd142 x0_2 (rd2 x1 x7)).f0,(rd142 x0_2 (rd2 x1 x7)).f1⟩:S142)]).map c142) 204 ?_ N37 T143
 obtain ⟨h9,H⟩:=io H
 refine a_appO (css':=(x6++[(⟨(rd142 x0_2 (rd2 x1 x7)).f0,(rd142 x0_2 (rd2 x1 x7)).f1⟩:S142)]).map c142) (n':=(x6++[(⟨(rd142 x0_2 (rd2 x1 x7)).f0,(rd142 x0_2 (rd2 x1 x7)).f1⟩:S142)]).length) ?_ T143 (by simp [maxLen]; omega) (by simp; omega) Tryz.underlying37 (hc:=by exact List.map_append.symm) (hn:=by exact List.length_map _)
 refine mW (k:=?_)
 refine RA.nil (fun _=>by kernel_rfl) ?_
 refine rg (mI (k:=iA (k:=mI (k:=nl ?_))))
 exact AGr.canon id (ih0 _ (by omega) _ ⟨by omega,_,_,_,_,_,_,_,H,rfl⟩) ⟨rfl,rfl,rfl,rfl,trivial⟩ ⟨rfl,trivial⟩ rfl
def spec_l02Ok.f (a0_0 a0_1:Int):Option (Bool):=(spec_l00In.f a0_0 0 20000).bind fun t1=>(if t1=true then ((spec_l00In.f a0_1 0 20000).bind fun t4=>(some t4)) else (some false))
theorem spec_l02Ok.ok {a0_0 a0_1:Int} {r:Bool} (H:spec_l02Ok.f a0_0 a0_1=some r):OkF Tryz.prog 164 [.agg [cI a0_0,cI a0_1]] [] (vB r) []:=by
 unfold spec_l02Ok.f at H
 refine o1 11 2 Tryz.func164 fun w0 S=>?_
 refine s2 (jb 200 (k:=mB (k:=nl (s2 (fB 0 D143_0 (k:=lI T2 (k:=?_)))))))
 obtain ⟨t1,e2,H⟩:=bo H
 refine cr rfl (spec_l00In.ok e2) (qd (qd (qd qn))) (k:=mB (k:=?_))
 rcases ei H with ⟨h3,H⟩|⟨h3,H⟩
 ·iterate 3 refine sk (bf h3) (k:=?_)
  cases H
  exact qB (bf h3) (k:=mB (k:=nl (rt r1)))
 refine fB 1 D143_1 (hg:=gy h3) (k:=lI T2 (hg:=gy h3) (k:=?_))
 obtain ⟨t4,e5,H⟩:=bo H
 cases H
 exact cr rfl (spec_l00In.ok e5) (qd (qd (qd qn))) (hg:=gy h3) (k:=pB h3 (k:=mB (k:=nl (rt r1))))
def spec_l00Max.f (a0 a1:Int):Option (Int):=if a0 > a1 then (some a0) else (some a1)
theorem spec_l00Max.ok {a0 a1 r:Int} (H:spec_l00Max.f a0 a1=some r):OkF Tryz.prog 108 [vI a0,vI a1] [] (vI r) []:=by
 unfold spec_l00Max.f at H
 refine o1 10 4 Tryz.func108 fun w0 S=>?_
 refine s2 (mI (k:=nl (sq (s2 (mI (k:=mI (k:=iG (k:=nl ?_))))))))
 rcases ie H with ⟨h1,H⟩|⟨h1,H⟩
 ·refine ay (dt h1) ?_
  cases H
  exact s2 (mI (k:=mI (k:=nl (rt r1))))
 refine an (df h1) ?_
 cases H
 exact sp (s2 (mI (k:=mI (k:=nl (rt r1)))))
def spec_l00Min.f (a0 a1:Int):Option (Int):=if a0 < a1 then (some a0) else (some a1)
theorem spec_l00Min.ok {a0 a1 r:Int} (H:spec_l00Min.f a0 a1=some r):OkF Tryz.prog 143 [vI a0,vI a1] [] (vI r) []:=by
 unfold spec_l00Min.f at H
 refine o1 10 4 Tryz.func143 fun w0 S=>?_
 refine s2 (mI (k:=nl (sq (s2 (mI (k:=mI (k:=iL (k:=nl ?_))))))))
 rcases ie H with ⟨h1,H⟩|⟨h1,H⟩
 ·refine ay (dt h1) ?_
  cases H
  exact s2 (mI (k:=mI (k:=nl (rt r1))))
 refine an (df h1) ?_
 cases H
 exact sp (s2 (mI (k:=mI (k:=nl (rt r1)))))
def spec_l02Cross.f (a0_0 a0_1 a1_0 a1_1 a2_0 a2_1:Int):Option (Int):=some (wrap64 ((wrap64 ((wrap64 (a1_0 - a0_0))*(wrap64 (a2_1 - a0_1)))) - (wrap64 ((wrap64 (a1_1 - a0_1))*(wrap64 (a2_0 - a0_0))))))
theorem spec_l02Cross.ok {a0_0 a0_1 a1_0 a1_1 a2_0 a2_1 r:Int} (H:spec_l02Cross.f a0_0 a0_1 a1_0 a1_1 a2_0 a2_1=some r):OkF Tryz.prog 186 [.agg [cI a0_0,cI a0_1],.agg [cI a1_0,cI a1_1],.agg [cI a2_0,cI a2_1]] [] (vI r) []:=by
 unfold spec_l02Cross.f at H
 refine o1 30 6 Tryz.func186 fun w0 S=>?_
 cases H
 exact s2 (jb 200 (k:=jb 201 (k:=jb 202 (k:=mI (k:=nl (s2 (fB 0 D143_0 (k:=lI T2 (k:=fB 0 D143_0 (k:=lI T2 (k:=iS (k:=fB 1 D143_1 (k:=lI T2 (k:=fB 1 D143_1 (k:=lI T2 (k:=iS (k:=iM (k:=fB 1 D143_1 (k:=lI T2 (k:=fB 1 D143_1 (k:=lI T2 (k:=iS (k:=fB 0 D143_0 (k:=lI T2 (k:=fB 0 D143_0 (k:=lI T2 (k:=iS (k:=iM (k:=iS (k:=mI (k:=nl (rt r1))))))))))))))))))))))))))))))))
def spec_l02Side.f (a0_0 a0_1 a1_0 a1_1 a2_0 a2_1:Int):Option (Int):=(spec_l02Cross.f a0_0 a0_1 a1_0 a1_1 a2_0 a2_1).bind fun t1=>(if t1 > 0 then (some 1) else (if t1 < 0 then (some (-1)) else (some 0)))
theorem spec_l02Side.ok {a0_0 a0_1 a1_0 a1_1 a2_0 a2_1 r:Int} (H:spec_l02Side.f a0_0 a0_1 a1_0 a1_1 a2_0 a2_1=some r):OkF Tryz.prog 172 [.agg [cI a0_0,cI a0_1],.agg [cI a1_0,cI a1_1],.agg [cI a2_0,cI a2_1]] [] (vI r) []:=by
 unfold spec_l02Side.f at H
 refine o1 16 6 Tryz.func172 fun w0 S=>?_
 refine s2 (jb 200 (k:=jb 201 (k:=jb 202 (k:=mI (k:=nl (s2 (lP T143 (k:=lP T143 (k:=lP T143 (k:=?_))))))))))
 obtain ⟨t1,e2,H⟩:=bo H
 refine cr rfl (spec_l02Cross.ok e2) (qg (qg (qg qn))) (k:=mI (k:=nl (sq (s2 (mI (k:=iG (k:=nl ?_)))))))
 rcases ie H with ⟨h3,H⟩|⟨h3,H⟩
 ·refine ay (dt h3) ?_
  cases H
  exact s2 (mI (k:=nl (rt r1)))
 refine an (df h3) ?_
 refine sp (sq (s2 (mI (k:=iL (k:=nl ?_)))))
 rcases ie H with ⟨h4,H⟩|⟨h4,H⟩
 ·refine ay (dt h4) ?_
  cases H
  exact s2 (mI (k:=nl (rt r1)))
 refine an (df h4) ?_
 cases H
 exact sp (s2 (mI (k:=nl (rt r1))))
def spec_l02On.f (a0_0 a0_1 a1_0 a1_1 a2_0 a2_1:Int):Option (Bool):=(spec_l02Side.f a0_0 a0_1 a1_0 a1_1 a2_0 a2_1).bind fun t1=>(if t1=0 then ((spec_l00Min.f a0_0 a1_0).bind fun t4=>((spec_l00Max.f a0_0 a1_0).bind fun t6=>((spec_l00In.f a2_0 t4 t6).bind fun t8=>(if t8=true then ((spec_l00Min.f a0_1 a1_1).bind fun t11=>((spec_l00Max.f a0_1 a1_1).bind fun t13=>((spec_l00In.f a2_1 t11 t13).bind fun t15=>(some t15)))) else (some false))))) else (some false))
theorem spec_l02On.ok {a0_0 a0_1 a1_0 a1_1 a2_0 a2_1:Int} {r:Bool} (H:spec_l02On.f a0_0 a0_1 a1_0 a1_1 a2_0 a2_1=some r):OkF Tryz.prog 165 [.agg [cI a0_0,cI a0_1],.agg [cI a1_0,cI a1_1],.agg [cI a2_0,cI a2_1]] [] (vB r) []:=by
 unfold spec_l02On.f at H
 refine o1 42 6 Tryz.func165 fun w0 S=>?_
 refine s2 (jb 200 (k:=jb 201 (k:=jb 202 (k:=mB (k:=nl (s2 (lP T143 (k:=lP T143 (k:=lP T143 (k:=?_))))))))))
 obtain ⟨t1,e2,H⟩:=bo H
 refine cr rfl (spec_l02Side.ok e2) (qg (qg (qg qn))) (k:=iEq (k:=mB (k:=?_)))
 rcases ei H with ⟨h3,H⟩|⟨h3,H⟩
 ·iterate 13 refine sk (bn h3) (k:=?_)
  refine qB (bn h3) (k:=mB (k:=?_))
  iterate 13 refine sk rfl (k:=?_)
  refine qB rfl (k:=mB (k:=?_))
  refine RA.nil (fun _=>by kernel_rfl) ?_
  cases H
  exact rt r1
 refine fB 0 D143_0 (hg:=gy (bq h3)) (k:=lI T2 (hg:=gy (bq h3)) (k:=fB 0 D143_0 (hg:=gy (bq h3)) (k:=lI T2 (hg:=gy (bq h3)) (k:=fB 0 D143_0 (hg:=gy (bq h3)) (k:=lI T2 (hg:=gy (bq h3)) (k:=?_))))))
 obtain ⟨t4,e5,H⟩:=bo H
 refine cr rfl (spec_l00Min.ok e5) (qd (qd qn)) (hg:=gy (bq h3)) (k:=fB 0 D143_0 (hg:=gy (bq h3)) (k:=lI T2 (hg:=gy (bq h3)) (k:=fB 0 D143_0 (hg:=gy (bq h3)) (k:=lI T2 (hg:=gy (bq h3)) (k:=?_)))))
 obtain ⟨t6,e7,H⟩:=bo H
 refine cr rfl (spec_l00Max.ok e7) (qd (qd qn)) (hg:=gy (bq h3)) (k:=?_)
 obtain ⟨t8,e9,H⟩:=bo H
 refine cr rfl (spec_l00In.ok e9) (qd (qd (qd qn))) (hg:=gy (bq h3)) (k:=pB (bq h3) (k:=mB (k:=?_)))
 rcases ei H with ⟨h10,H⟩|⟨h10,H⟩
 ·iterate 13 refine sk (bf h10) (k:=?_)
  refine qB (bf h10) (k:=mB (k:=?_))
  refine RA.nil (fun _=>by kernel_rfl) ?_
  cases H
  exact rt r1
 refine fB 1 D143_1 (hg:=gy h10) (k:=lI T2 (hg:=gy h10) (k:=fB 1 D143_1 (hg:=gy h10) (k:=lI T2 (hg:=gy h10) (k:=fB 1 D143_1 (hg:=gy h10) (k:=lI T2 (hg:=gy h10) (k:=?_))))))
 obtain ⟨t11,e12,H⟩:=bo H
 refine cr rfl (spec_l00Min.ok e12) (qd (qd qn)) (hg:=gy h10) (k:=fB 1 D143_1 (hg:=gy h10) (k:=lI T2 (hg:=gy h10) (k:=fB 1 D143_1 (hg:=gy h10) (k:=lI T2 (hg:=gy h10) (k:=?_)))))
 obtain ⟨t13,e14,H⟩:=bo H
 refine cr rfl (spec_l00Max.ok e14) (qd (qd qn)) (hg:=gy h10) (k:=?_)
 obtain ⟨t15,e16,H⟩:=bo H
 refine cr rfl (spec_l00In.ok e16) (qd (qd (qd qn))) (hg:=gy h10) (k:=pB h10 (k:=mB (k:=?_)))
 refine RA.nil (fun _=>by kernel_rfl) ?_
 cases H
 exact rt r1
def spec_l02Crosses.f (a0_0 a0_1 a1_0 a1_1 a2_0 a2_1 a3_0 a3_1:Int):Option (Bool):=(spec_l02Side.f a0_0 a0_1 a1_0 a1_1 a2_0 a2_1).bind fun t1=>((spec_l02Side.f a0_0 a0_1 a1_0 a1_1 a3_0 a3_1).bind fun t3=>(if (wrap64 (t1*t3)) < 0 then ((spec_l02Side.f a2_0 a2_1 a3_0 a3_1 a0_0 a0_1).bind fun t6=>((spec_l02Side.f a2_0 a2_1 a3_0 a3_1 a1_0 a1_1).bind fun t8=>(some (decide ((wrap64 (t6*t8)) < 0))))) else (some false)))
theorem spec_l02Crosses.ok {a0_0 a0_1 a1_0 a1_1 a2_0 a2_1 a3_0 a3_1:Int} {r:Bool} (H:spec_l02Crosses.f a0_0 a0_1 a1_0 a1_1 a2_0 a2_1 a3_0 a3_1=some r):OkF Tryz.prog 183 [.agg [cI a0_0,cI a0_1],.agg [cI a1_0,cI a1_1],.agg [cI a2_0,cI a2_1],.agg [cI a3_0,cI a3_1]] [] (vB r) []:=by
 unfold spec_l02Crosses.f at H
 refine o1 31 8 Tryz.func183 fun w0 S=>?_
 refine s2 (jb 200 (k:=jb 201 (k:=jb 202 (k:=jb 203 (k:=mB (k:=nl (s2 (lP T143 (k:=lP T143 (k:=lP T143 (k:=?_)))))))))))
 obtain ⟨t1,e2,H⟩:=bo H
 refine cr rfl (spec_l02Side.ok e2) (qg (qg (qg qn))) (k:=lP T143 (k:=lP T143 (k:=lP T143 (k:=?_))))
 obtain ⟨t3,e4,H⟩:=bo H
 refine cr rfl (spec_l02Side.ok e4) (qg (qg (qg qn))) (k:=iM (k:=iL (k:=mB (k:=?_))))
 rcases ei H with ⟨h5,H⟩|⟨h5,H⟩
 ·iterate 10 refine sk (df h5) (k:=?_)
  refine qB (df h5) (k:=mB (k:=?_))
  refine RA.nil (fun _=>by kernel_rfl) ?_
  cases H
  exact rt r1
 refine lP T143 (hg:=gy (dt h5)) (k:=lP T143 (hg:=gy (dt h5)) (k:=lP T143 (hg:=gy (dt h5)) (k:=?_)))
 obtain ⟨t6,e7,H⟩:=bo H
 refine cr rfl (spec_l02Side.ok e7) (qg (qg (qg qn))) (hg:=gy (dt h5)) (k:=lP T143 (hg:=gy (dt h5)) (k:=lP T143 (hg:=gy (dt h5)) (k:=lP T143 (hg:=gy (dt h5)) (k:=?_))))
 obtain ⟨t8,e9,H⟩:=bo H
 refine cr rfl (spec_l02Side.ok e9) (qg (qg (qg qn))) (hg:=gy (dt h5)) (k:=iM (hg:=gy (dt h5)) (k:=iL (hg:=gy (dt h5)) (k:=pB (dt h5) (k:=mB (k:=?_)))))
 refine RA.nil (fun _=>by kernel_rfl) ?_
 cases H
 exact rt r1
def spec_l03Meet.f (a0_0 a0_1 a1_0 a1_1 a2_0 a2_1 a3_0 a3_1:Int):Option (Bool):=(spec_l02Crosses.f a0_0 a0_1 a1_0 a1_1 a2_0 a2_1 a3_0 a3_1).bind fun t1=>(if t1=true then (some true) else ((spec_l02On.f a0_0 a0_1 a1_0 a1_1 a2_0 a2_1).bind fun t4=>(if t4=true then (some true) else ((spec_l02On.f a0_0 a0_1 a1_0 a1_1 a3_0 a3_1).bind fun t7=>(if t7=true then (some true) else ((spec_l02On.f a2_0 a2_1 a3_0 a3_1 a0_0 a0_1).bind fun t10=>(if t10=true then (some true) else ((spec_l02On.f a2_0 a2_1 a3_0 a3_1 a1_0 a1_1).bind fun t13=>(some t13)))))))))
theorem spec_l03Meet.ok {a0_0 a0_1 a1_0 a1_1 a2_0 a2_1 a3_0 a3_1:Int} {r:Bool} (H:spec_l03Meet.f a0_0 a0_1 a1_0 a1_1 a2_0 a2_1 a3_0 a3_1=some r):OkF Tryz.prog 166 [.agg [cI a0_0,cI a0_1],.agg [cI a1_0,cI a1_1],.agg [cI a2_0,cI a2_1],.agg [cI a3_0,cI a3_1]] [] (vB r) []:=by
 unfold spec_l03Meet.f at H
 refine o1 38 8 Tryz.func166 fun w0 S=>?_
 refine s2 (jb 200 (k:=jb 201 (k:=jb 202 (k:=jb 203 (k:=mB (k:=nl (s2 (lP T143 (k:=lP T143 (k:=lP T143 (k:=lP T143 (k:=?_))))))))))))
 obtain ⟨t1,e2,H⟩:=bo H
 refine cr rfl (spec_l02Crosses.ok e2) (qg (qg (qg (qg qn)))) (k:=mB (k:=?_))
 rcases ie H with ⟨h3,H⟩|⟨h3,H⟩
 ·iterate 4 refine sk h3 (k:=?_)
  refine pB h3 (k:=mB (k:=?_))
  iterate 4 refine sk rfl (k:=?_)
  refine pB rfl (k:=mB (k:=?_))
  iterate 4 refine sk rfl (k:=?_)
  refine pB rfl (k:=mB (k:=?_))
  iterate 4 refine sk rfl (k:=?_)
  cases H
  exact pB rfl (k:=mB (k:=nl (rt r1)))
 refine lP T143 (hg:=gy (bf h3)) (k:=lP T143 (hg:=gy (bf h3)) (k:=lP T143 (hg:=gy (bf h3)) (k:=?_)))
 obtain ⟨t4,e5,H⟩:=bo H
 refine cr rfl (spec_l02On.ok e5) (qg (qg (qg qn))) (hg:=gy (bf h3)) (k:=qB (bf h3) (k:=mB (k:=?_)))
 rcases ie H with ⟨h6,H⟩|⟨h6,H⟩
 ·iterate 4 refine sk h6 (k:=?_)
  refine pB h6 (k:=mB (k:=?_))
  iterate 4 refine sk rfl (k:=?_)
  refine pB rfl (k:=mB (k:=?_))
  iterate 4 refine sk rfl (k:=?_)
  cases H
  exact pB rfl (k:=mB (k:=nl (rt r1)))
 refine lP T143 (hg:=gy (bf h6)) (k:=lP T143 (hg:=gy (bf h6)) (k:=lP T143 (hg:=gy (bf h6)) (k:=?_)))
 obtain ⟨t7,e8,H⟩:=bo H
 refine cr rfl (spec_l02On.ok e8) (qg (qg (qg qn))) (hg:=gy (bf h6)) (k:=qB (bf h6) (k:=mB (k:=?_)))
 rcases ie H with ⟨h9,H⟩|⟨h9,H⟩
 ·iterate 4 refine sk h9 (k:=?_)
  refine pB h9 (k:=mB (k:=?_))
  iterate 4 refine sk rfl (k:=?_)
  cases H
  exact pB rfl (k:=mB (k:=nl (rt r1)))
 refine lP T143 (hg:=gy (bf h9)) (k:=lP T143 (hg:=gy (bf h9)) (k:=lP T143 (hg:=gy (bf h9)) (k:=?_)))
 obtain ⟨t10,e11,H⟩:=bo H
 refine cr rfl (spec_l02On.ok e11) (qg (qg (qg qn))) (hg:=gy (bf h9)) (k:=qB (bf h9) (k:=mB (k:=?_)))
 rcases ie H with ⟨h12,H⟩|⟨h12,H⟩
 ·iterate 4 refine sk h12 (k:=?_)
  cases H
  exact pB h12 (k:=mB (k:=nl (rt r1)))
 refine lP T143 (hg:=gy (bf h12)) (k:=lP T143 (hg:=gy (bf h12)) (k:=lP T143 (hg:=gy (bf h12)) (k:=?_)))
 obtain ⟨t13,e14,H⟩:=bo H
 cases H
 exact cr rfl (spec_l02On.ok e14) (qg (qg (qg qn))) (hg:=gy (bf h12)) (k:=qB (bf h12) (k:=mB (k:=nl (rt r1))))
def spec_l03Area.l0:Nat→List S142→Int→Int→Option (Int)
 | 0,_,_,_=>none
 | k+1,x0,x3,x4=>if x4 < (x0.length:Int) then (if (x0.length:Int)=0 then (none) else (if 0≤(Int.tmod (wrap64 (x4+1)) (x0.length:Int)) then (if (Int.tmod (wrap64 (x4+1)) (x0.length:Int)) < (x0.length:Int) then (if 0≤x4 then (spec_l03Area.l0 k x0 (wrap64 (x3+(wrap64 ((wrap64 (((rd142 x0 x4).f0)*((rd142 x0 (Int.tmod (wrap64 (x4+1)) (x0.length:Int))).f1))) - (wrap64 (((rd142 x0 x4).f1)*((rd142 x0 (Int.tmod (wrap64 (x4+1)) (x0.length:Int))).f0))))))) (wrap64 (x4+1))) else (none)) else (none)) else (none))) else (some x3)
def spec_l03Area.f (k:Nat) (l0:List S142):Option (Int):=spec_l03Area.l0 k l0 0 0
theorem spec_l03Area.ok {k:Nat} {l0:List S142} {r:Int} (H:spec_l03Area.f k l0=some r):OkF Tryz.prog 167 [vR 143 (l0.map c142)] [] (vI r) []:=by
 unfold spec_l03Area.f at H
 refine o1 40 2 Tryz.func167 fun w0 S=>?_
 refine s2 (mI (k:=nl (s2 (mI (k:=nl (sq (s2 (mI (k:=nl (bk (lp ?_)))))))))))
 obtain ⟨K0,hK0,gK0⟩:=kk k
 refine AGr.canon id (AGr.loopI (n:=k) (fun k s=>k≤K0∧∃ x0 x3 x4,spec_l03Area.l0 k x0 x3 x4=some r∧s=St.of [(0,vR 143 (x0.map c142)),(3,vI x3),(4,vI x4)] []) ⟨hK0,_,_,_,H,rfl⟩ ?_ ?_) ⟨rfl,rfl,rfl,trivial⟩ trivial rfl
 ·rintro _ ⟨_,_,_,_,H,_⟩
  cases H
 clear H hK0
 rintro k ih0 _ ⟨hK0,x0,x3,x4,H,rfl⟩
 unfold spec_l03Area.l0 at H
 refine sq (s2 (mI (k:=mR (k:=jl Tryz.underlying37 (k:=iL (k:=nl ?_))))))
 rcases ei H with ⟨h1,H⟩|⟨h1,H⟩
 ·refine an (df h1) ?_
  cases H
  exact ex (s2 (mI (k:=mI (k:=nl (rt r1)))))
 refine ay (dt h1) ?_
 refine sp (sq (bk (s2 (mR (k:=mI (k:=iA (k:=mR (k:=jl Tryz.underlying37 (k:=?_)))))))))
 obtain ⟨h2,H⟩:=oi H
 refine jr (r:=Int.tmod (wrap64 (x4+1)) (x0.length:Int)) h2 (k:=?_)
 obtain ⟨h3,H⟩:=io H
 obtain ⟨h4,H⟩:=io H
 refine ixx ⟨h3,h4⟩ T143 Tryz.underlying37 (R142 h3 h4) (k:=oP T143 (k:=aP 200 T143 (k:=sP T143 (k:=nl (rg (mI (k:=mR (k:=mI (k:=?_)))))))))
 obtain ⟨h5,H⟩:=io H
 refine ixx ⟨h5,h1⟩ T143 Tryz.underlying37 (R142 h5 h1) (k:=jf (cells':=[_,_]) D143_0 (k:=oI T2 (k:=fB 1 D143_1 (k:=lI T2 (k:=iM (k:=mR (k:=mI (k:=ixx ⟨h5,h1⟩ T143 Tryz.underlying37 (R142 h5 h1) (k:=jf (cells':=[_]) D143_1 (k:=oI T2 (k:=fB 0 D143_0 (k:=lI T2 (k:=iM (k:=iS (k:=iA (k:=mI (k:=?_)))))))))))))))))
 refine RA.nil (fun _=>by kernel_rfl) ?_
 refine rg (mI (k:=iA (k:=mI (k:=nl ?_))))
 exact AGr.canon id (ih0 _ (by omega) _ ⟨by omega,_,_,_,H,rfl⟩) ⟨rfl,rfl,rfl,trivial⟩ trivial rfl
mutual
def spec_l03Ok.j0:Nat→List S142→Int→Bool→Option (Bool)
 | 0,_,_,_=>none
 | k+1,x0,x3,x17=>if x17=true then (some false) else (spec_l03Ok.l0 k x0 x3 0)
def spec_l03Ok.l0:Nat→List S142→Int→Int→Option (Bool)
 | 0,_,_,_=>none
 | k+1,x0,x3,x4=>if x4 < x3 then (if 0≤x4 then (if x4 < (x0.length:Int) then ((spec_l02Ok.f ((rd142 x0 x4).f0) ((rd142 x0 x4).f1)).bind fun t6=>(if t6=true then (spec_l03Ok.l0 k x0 x3 (wrap64 (x4+1))) else (some false))) else (none)) else (none)) else (spec_l03Ok.l1 k x0 x3 0)
def spec_l03Ok.l1:Nat→List S142→Int→Int→Option (Bool)
 | 0,_,_,_=>none
 | k+1,x0,x3,x5=>if x5 < x3 then (if 0≤x5 then (if x5 < (x0.length:Int) then (if x3=0 then (none) else (if 0≤(Int.tmod (wrap64 (x5+1)) x3) then (if (Int.tmod (wrap64 (x5+1)) x3) < (x0.length:Int) then (if 0≤(Int.tmod (wrap64 (x5+2)) x3) then (if (Int.tmod (wrap64 (x5+2)) x3) < (x0.length:Int) then (if (((rd142 x0 x5).f0) == ((rd142 x0 (Int.tmod (wrap64 (x5+1)) x3)).f0) && (((rd142 x0 x5).f1) == ((rd142 x0 (Int.tmod (wrap64 (x5+1)) x3)).f1)))=true then (spec_l03Ok.j1 k x0 x3 x5 ((rd142 x0 x5).f0) ((rd142 x0 x5).f1) ((rd142 x0 (Int.tmod (wrap64 (x5+1)) x3)).f0) ((rd142 x0 (Int.tmod (wrap64 (x5+1)) x3)).f1) true) else ((spec_l02On.f ((rd142 x0 x5).f0) ((rd142 x0 x5).f1) ((rd142 x0 (Int.tmod (wrap64 (x5+1)) x3)).f0) ((rd142 x0 (Int.tmod (wrap64 (x5+1)) x3)).f1) ((rd142 x0 (Int.tmod (wrap64 (x5+2)) x3)).f0) ((rd142 x0 (Int.tmod (wrap64 (x5+2)) x3)).f1)).bind fun t18=>(if t18=true then (spec_l03Ok.j1 k x0 x3 x5 ((rd142 x0 x5).f0) ((rd142 x0 x5).f1) ((rd142 x0 (Int.tmod (wrap64 (x5+1)) x3)).f0) ((rd142 x0 (Int.tmod (wrap64 (x5+1)) x3)).f1) true) else ((spec_l02On.f ((rd142 x0 (Int.tmod (wrap64 (x5+1)) x3)).f0) ((rd142 x0 (Int.tmod (wrap64 (x5+1)) x3)).f1) ((rd142 x0 (Int.tmod (wrap64 (x5+2)) x3)).f0) ((rd142 x0 (Int.tmod (wrap64 (x5+2)) x3)).f1) ((rd142 x0 x5).f0) ((rd142 x0 x5).f1)).bind fun t21=>(spec_l03Ok.j1 k x0 x3 x5 ((rd142 x0 x5).f0) ((rd142 x0 x5).f1) ((rd142 x0 (Int.tmod (wrap64 (x5+1)) x3)).f0) ((rd142 x0 (Int.tmod (wrap64 (x5+1)) x3)).f1) t21))))) else (none)) else (none)) else (none)) else (none))) else (none)) else (none)) else ((spec_l03Area.f k x0).bind fun t34=>(some (decide (t34 > 0))))
def spec_l03Ok.j1:Nat→List S142→Int→Int→Int→Int→Int→Int→Bool→Option (Bool)
 | 0,_,_,_,_,_,_,_,_=>none
 | k+1,x0,x3,x5,y207_0,y207_1,y208_0,y208_1,x66=>if x66=true then (some false) else (spec_l03Ok.l2 k x0 x3 x5 y207_0 y207_1 y208_0 y208_1 (wrap64 (x5+2)))
def spec_l03Ok.l2:Nat→List S142→Int→Int→Int→Int→Int→Int→Int→Option (Bool)
 | 0,_,_,_,_,_,_,_,_=>none
 | k+1,x0,x3,x5,y209_0,y209_1,y210_0,y210_1,x9=>if x9 < x3 then (if x3=0 then (none) else (if (Int.tmod (wrap64 (x9+1)) x3)=x5 then (spec_l03Ok.l2 k x0 x3 x5 y209_0 y209_1 y210_0 y210_1 (wrap64 (x9+1))) else (if 0≤x9 then (if x9 < (x0.length:Int) then (if 0≤(Int.tmod (wrap64 (x9+1)) x3) then (if (Int.tmod (wrap64 (x9+1)) x3) < (x0.length:Int) then ((spec_l03Meet.f y209_0 y209_1 y210_0 y210_1 ((rd142 x0 x9).f0) ((rd142 x0 x9).f1) ((rd142 x0 (Int.tmod (wrap64 (x9+1)) x3)).f0) ((rd142 x0 (Int.tmod (wrap64 (x9+1)) x3)).f1)).bind fun t31=>(if t31=true then (some false) else (spec_l03Ok.l2 k x0 x3 x5 y209_0 y209_1 y210_0 y210_1 (wrap64 (x9+1))))) else (none)) else (none)) else (none)) else (none)))) else (spec_l03Ok.l1 k x0 x3 (wrap64 (x5+1)))
end
def spec_l03Ok.f (k:Nat) (l0:List S142):Option (Bool):=if (l0.length:Int) < 3 then (spec_l03Ok.j0 k l0 (l0.length:Int) true) else (spec_l03Ok.j0 k l0 (l0.length:Int) (decide ((l0.length:Int) > 24)))
theorem spec_l03Ok.ok {k:Nat} {l0:List S142} {r:Bool} (H:spec_l03Ok.f k l0=some r):OkF Tryz.prog 137 [vR 143 (l0.map c142)] [] (vB r) []:=by
 unfold spec_l03Ok.f at H
 refine o1 99 2 Tryz.func137 fun w0 S=>?_
 refine s2 (mB (k:=nl (s2 (mR (k:=jl Tryz.underlying37 (k:=mI (k:=nl (sq (sq ?_)))))))))
 refine AG.joinR (fun s=>∃ q,q≤k∧∃ x0 x3 x17,spec_l03Ok.j0 q x0 x3 x17=some r∧s=St.of [(0,vR 143 (x0.map c142)),(3,vI x3),(17,vB x17)] []) ?_ ?_
 ·skip
  refine rg (mI (k:=iL (k:=mB (k:=?_))))
  rcases ie H with ⟨h1,H⟩|⟨h1,H⟩
  ·iterate 2 refine sk (dt h1) (k:=?_)
   refine pB (dt h1) (k:=nl ?_)
   exact CanR.mk id ⟨_,(by omega),_,_,_,H,rfl⟩ ⟨rfl,rfl,rfl,trivial⟩ trivial rfl
  refine mI (hg:=gy (df h1)) (k:=iG (hg:=gy (df h1)) (k:=qB (df h1) (k:=nl ?_)))
  exact CanR.mk id ⟨_,(by omega),_,_,_,H,rfl⟩ ⟨rfl,rfl,rfl,trivial⟩ trivial rfl
 clear H
 rintro _ ⟨k,hj0,x0,x3,x17,H,rfl⟩
 rcases k with _|k
 cases H
 rw [spec_l03Ok.j0] at H
 rcases ie H with ⟨h2,H⟩|⟨h2,H⟩
 ·refine ay h2 ?_
  cases H
  exact s2 (mB (k:=nl (rt r1)))
 refine an (bf h2) ?_
 refine sp (sq (s2 (mI (k:=nl (bk (lp ?_))))))
 obtain ⟨K0,hK0,gK0⟩:=kk k
 refine AGr.canon id (AGr.loopI (n:=k) (fun k s=>k≤K0∧∃ x0 x3 x4,spec_l03Ok.l0 k x0 x3 x4=some r∧s=St.of [(0,vR 143 (x0.map c142)),(3,vI x3),(4,vI x4)] []) ⟨hK0,_,_,_,H,rfl⟩ ?_ ?_) ⟨rfl,rfl,rfl,trivial⟩ trivial rfl
 ·rintro _ ⟨_,_,_,_,H,_⟩
  cases H
 clear H hK0
 rintro k ih0 _ ⟨hK0,x0,x3,x4,H,rfl⟩
 unfold spec_l03Ok.l0 at H
 refine sq (s2 (mI (k:=mI (k:=iL (k:=nl ?_)))))
 rcases ie H with ⟨h3,H⟩|⟨h3,H⟩
 ·refine ay (dt h3) ?_
  refine sp (sq (bk (s2 (mR (k:=mI (k:=?_))))))
  obtain ⟨h4,H⟩:=io H
  obtain ⟨h5,H⟩:=io H
  refine ixx ⟨h4,h5⟩ T143 Tryz.underlying37 (R142 h4 h5) (k:=oP T143 (k:=?_))
  obtain ⟨t6,e7,H⟩:=bo H
  refine cr rfl (spec_l02Ok.ok e7) (qg qn) (k:=uN (k:=nl ?_))
  rcases ei H with ⟨h8,H⟩|⟨h8,H⟩
  ·refine ay (cn (bf h8)) ?_
   cases H
   exact s2 (mB (k:=nl (rt r1)))
  refine an (cn h8) ?_
  refine sp (rg (mI (k:=iA (k:=mI (k:=nl ?_)))))
  exact AGr.canon id (ih0 _ (by omega) _ ⟨by omega,_,_,_,H,rfl⟩) ⟨rfl,rfl,rfl,trivial⟩ trivial rfl
 refine an (df h3) ?_
 refine ex (sq (s2 (mI (k:=nl (bk (lp ?_))))))
 obtain ⟨K1,hK1,gK1⟩:=kk k
 refine AGr.canon id (AGr.loopI (n:=k) (fun k s=>k≤K1∧∃ x0 x3 x5,spec_l03Ok.l1 k x0 x3 x5=some r∧s=St.of [(0,vR 143 (x0.map c142)),(3,vI x3),(5,vI x5)] []) ⟨hK1,_,_,_,H,rfl⟩ ?_ ?_) ⟨rfl,rfl,rfl,trivial⟩ trivial rfl
 ·rintro _ ⟨_,_,_,_,H,_⟩
  cases H
 clear H hK1
 rintro k ih1 _ ⟨hK1,x0,x3,x5,H,rfl⟩
 unfold spec_l03Ok.l1 at H
 refine sq (s2 (mI (k:=mI (k:=iL (k:=nl ?_)))))
 rcases ei H with ⟨h9,H⟩|⟨h9,H⟩
 ·refine an (df h9) ?_
  refine ex (s2 (mR (k:=?_)))
  obtain ⟨t34,e35,H⟩:=bo H
  cases H
  exact cr rfl (spec_l03Area.ok e35) (qd qn) (k:=iG (k:=mB (k:=nl (rt r1))))
 refine ay (dt h9) ?_
 refine sp (sq (bk (s2 (mR (k:=mI (k:=?_))))))
 obtain ⟨h10,H⟩:=io H
 obtain ⟨h11,H⟩:=io H
 refine ixx ⟨h10,h11⟩ T143 Tryz.underlying37 (R142 h10 h11) (k:=oP T143 (k:=aP 202 T143 (k:=sP T143 (k:=nl (s2 (mR (k:=mI (k:=iA (k:=mI (k:=?_))))))))))
 obtain ⟨h12,H⟩:=oi H
 refine jr (r:=Int.tmod (wrap64 (x5+1)) x3) h12 (k:=?_)
 obtain ⟨h13,H⟩:=io H
 obtain ⟨h14,H⟩:=io H
 refine ixx ⟨h13,h14⟩ T143 Tryz.underlying37 (R142 h13 h14) (k:=oP T143 (k:=aP 203 T143 (k:=sP T143 (k:=nl (s2 (mR (k:=mI (k:=iA (k:=mI (k:=jr (r:=Int.tmod (wrap64 (x5+2)) x3) h12 (k:=?_)))))))))))
 obtain ⟨h15,H⟩:=io H
 obtain ⟨h16,H⟩:=io H
 refine ixx ⟨h15,h16⟩ T143 Tryz.underlying37 (R142 h15 h16) (k:=oP T143 (k:=aP 204 T143 (k:=sP T143 (k:=nl (sq (sq ?_))))))
 refine AG.joinR (fun s=>∃ q,q≤k∧∃ x0 x3 x5 y207_0 y207_1 y208_0 y208_1 x66,spec_l03Ok.j1 q x0 x3 x5 y207_0 y207_1 y208_0 y208_1 x66=some r∧s=St.of [(0,vR 143 (x0.map c142)),(3,vI x3),(5,vI x5),(6,.c (.ptr 207 0)),(7,.c (.ptr 208 0)),(66,vB x66)] [(207,.box 143 [.d (.v (.int .i64 y207_0)),.d (.v (.int .i64 y207_1))]),(208,.box 143 [.d (.v (.int .i64 y208_0)),.d (.v (.int .i64 y208_1))])]) ?_ ?_
 ·skip
  refine rg (lP T143 (k:=lP T143 (k:=?_)))
  refine a_eqS (b:=(((rd142 x0 x5).f0) == ((rd142 x0 (Int.tmod (wrap64 (x5+1)) x3)).f0) && (((rd142 x0 x5).f1) == ((rd142 x0 (Int.tmod (wrap64 (x5+1)) x3)).f1)))) ?_ (.inl ⟨rfl,rfl⟩) (Q143 ((rd142 x0 x5).f0) ((rd142 x0 (Int.tmod (wrap64 (x5+1)) x3)).f0) ((rd142 x0 x5).f1) ((rd142 x0 (Int.tmod (wrap64 (x5+1)) x3)).f1)).1
  refine mB (k:=?_)
  rcases ie H with ⟨h17,H⟩|⟨h17,H⟩
  ·iterate 4 refine sk h17 (k:=?_)
   refine pB h17 (k:=mB (k:=?_))
   iterate 4 refine sk rfl (k:=?_)
   refine pB rfl (k:=nl ?_)
   exact CanR.mk (fun κ=>cond (Nat.beq κ 207) 202 (cond (Nat.beq κ 208) 203 (κ))) ⟨_,(by omega),_,_,_,_,_,_,_,_,H,rfl⟩ ⟨rfl,rfl,rfl,rfl,rfl,rfl,trivial⟩ ⟨rfl,rfl,trivial⟩ rfl
  refine lP T143 (hg:=gy (bf h17)) (k:=lP T143 (hg:=gy (bf h17)) (k:=lP T143 (hg:=gy (bf h17)) (k:=?_)))
  obtain ⟨t18,e19,H⟩:=bo H
  refine cr rfl (spec_l02On.ok e19) (qg (qg (qg qn))) (hg:=gy (bf h17)) (k:=qB (bf h17) (k:=mB (k:=?_)))
  rcases ie H with ⟨h20,H⟩|⟨h20,H⟩
  ·iterate 4 refine sk h20 (k:=?_)
   refine pB h20 (k:=nl ?_)
   exact CanR.mk (fun κ=>cond (Nat.beq κ 207) 202 (cond (Nat.beq κ 208) 203 (κ))) ⟨_,(by omega),_,_,_,_,_,_,_,_,H,rfl⟩ ⟨rfl,rfl,rfl,rfl,rfl,rfl,trivial⟩ ⟨rfl,rfl,trivial⟩ rfl
  refine lP T143 (hg:=gy (bf h20)) (k:=lP T143 (hg:=gy (bf h20)) (k:=lP T143 (hg:=gy (bf h20)) (k:=?_)))
  obtain ⟨t21,e22,H⟩:=bo H
  refine cr rfl (spec_l02On.ok e22) (qg (qg (qg qn))) (hg:=gy (bf h20)) (k:=qB (bf h20) (k:=nl ?_))
  exact CanR.mk (fun κ=>cond (Nat.beq κ 207) 202 (cond (Nat.beq κ 208) 203 (κ))) ⟨_,(by omega),_,_,_,_,_,_,_,_,H,rfl⟩ ⟨rfl,rfl,rfl,rfl,rfl,rfl,trivial⟩ ⟨rfl,rfl,trivial⟩ rfl
 clear H
 rintro _ ⟨k,hj1,x0,x3,x5,y207_0,y207_1,y208_0,y208_1,x66,H,rfl⟩
 rcases k with _|k
 cases H
 rw [spec_l03Ok.j1] at H
 rcases ie H with ⟨h23,H⟩|⟨h23,H⟩
 ·refine ay h23 ?_
  cases H
  exact s2 (mB (k:=nl (rt r1)))
 refine an (bf h23) ?_
 refine sp (s2 (mI (k:=iA (k:=mI (k:=nl (bk (lp ?_)))))))
 obtain ⟨K2,hK2,gK2⟩:=kk k
 refine AGr.canon (fun κ=>cond (Nat.beq κ 209) 207 (cond (Nat.beq κ 210) 208 (κ))) (AGr.loopI (n:=k) (fun k s=>k≤K2∧∃ x0 x3 x5 y209_0 y209_1 y210_0 y210_1 x9,spec_l03Ok.l2 k x0 x3 x5 y209_0 y209_1 y210_0 y210_1 x9=some r∧s=St.of [(0,vR 143 (x0.map c142)),(3,vI x3),(5,vI x5),(6,.c (.ptr 209 0)),(7,.c (.ptr 210 0)),(9,vI x9)] [(209,.box 143 [.d (.v (.int .i64 y209_0)),.d (.v (.int .i64 y209_1))]),(210,.box 143 [.d (.v (.int .i64 y210_0)),.d (.v (.int .i64 y210_1))])]) ⟨hK2,_,_,_,_,_,_,_,_,H,rfl⟩ ?_ ?_) ⟨rfl,rfl,rfl,rfl,rfl,rfl,trivial⟩ ⟨rfl,rfl,trivial⟩ rfl
 ·rintro _ ⟨_,_,_,_,_,_,_,_,_,H,_⟩
  cases H
 clear H hK2
 rintro k ih2 _ ⟨hK2,x0,x3,x5,y209_0,y209_1,y210_0,y210_1,x9,H,rfl⟩
 unfold spec_l03Ok.l2 at H
 refine sq (s2 (mI (k:=mI (k:=iL (k:=nl ?_)))))
 rcases ei H with ⟨h24,H⟩|⟨h24,H⟩
 ·refine an (df h24) ?_
  refine ex (rg (mI (k:=iA (k:=mI (k:=nl ?_)))))
  exact AGr.canon id (ih1 _ (by omega) _ ⟨by omega,_,_,_,H,rfl⟩) ⟨rfl,rfl,rfl,trivial⟩ trivial rfl
 refine ay (dt h24) ?_
 refine sp (sq (bk (s2 (mI (k:=iA (k:=mI (k:=?_)))))))
 obtain ⟨h25,H⟩:=oi H
 refine jr (r:=Int.tmod (wrap64 (x9+1)) x3) h25 (k:=mI (k:=iNe (k:=mB (k:=?_))))
 rcases ie H with ⟨h26,H⟩|⟨h26,H⟩
 ·iterate 14 refine sk (nq h26) (k:=?_)
  refine qB (nq h26) (k:=?_)
  refine RA.nil (fun _=>by kernel_rfl) ?_
  refine an rfl ?_
  refine sp (rg (mI (k:=iA (k:=mI (k:=nl ?_)))))
  exact AGr.canon id (ih2 _ (by omega) _ ⟨by omega,_,_,_,_,_,_,_,_,H,rfl⟩) ⟨rfl,rfl,rfl,rfl,rfl,rfl,trivial⟩ ⟨rfl,rfl,trivial⟩ rfl
 refine lP T143 (hg:=gy (nn h26)) (k:=lP T143 (hg:=gy (nn h26)) (k:=mR (hg:=gy (nn h26)) (k:=mI (hg:=gy (nn h26)) (k:=?_))))
 obtain ⟨h27,H⟩:=io H
 obtain ⟨h28,H⟩:=io H
 refine ixx ⟨h27,h28⟩ T143 Tryz.underlying37 (R142 h27 h28) (hg:=gy (nn h26)) (k:=oP T143 (hg:=gy (nn h26)) (k:=mR (hg:=gy (nn h26)) (k:=mI (hg:=gy (nn h26)) (k:=iA (hg:=gy (nn h26)) (k:=mI (hg:=gy (nn h26)) (k:=jr (r:=Int.tmod (wrap64 (x9+1)) x3) h25 (hg:=gy (nn h26)) (k:=?_)))))))
 obtain ⟨h29,H⟩:=io H
 obtain ⟨h30,H⟩:=io H
 refine ixx ⟨h29,h30⟩ T143 Tryz.underlying37 (R142 h29 h30) (hg:=gy (nn h26)) (k:=oP T143 (hg:=gy (nn h26)) (k:=?_))
 obtain ⟨t31,e32,H⟩:=bo H
 refine cr rfl (spec_l03Meet.ok e32) (qg (qg (qg (qg qn)))) (hg:=gy (nn h26)) (k:=pB (nn h26) (k:=?_))
 refine RA.nil (fun _=>by kernel_rfl) ?_
 rcases ie H with ⟨h33,H⟩|⟨h33,H⟩
 ·refine ay h33 ?_
  cases H
  exact s2 (mB (k:=nl (rt r1)))
 refine an (bf h33) ?_
 refine sp (rg (mI (k:=iA (k:=mI (k:=nl ?_)))))
 exact AGr.canon id (ih2 _ (by omega) _ ⟨by omega,_,_,_,_,_,_,_,_,H,rfl⟩) ⟨rfl,rfl,rfl,rfl,rfl,rfl,trivial⟩ ⟨rfl,rfl,trivial⟩ rfl
mutual
def spec_l05Ok.j0:Nat→Int→Int→List S142→List S154→Bool→Option (Bool)
 | 0,_,_,_,_,_=>none
 | k+1,x0_0,x0_1,x0_2,x0_3,x32=>if x32=true then (some false) else (spec_l05Ok.l0 k x0_0 x0_1 x0_2 x0_3 0)
def spec_l05Ok.l0:Nat→Int→Int→List S142→List S154→Int→Option (Bool)
 | 0,_,_,_,_,_=>none
 | k+1,x0_0,x0_1,x0_2,x0_3,x3=>if x3 < (x0_3.length:Int) then (if 0≤x3 then ((spec_l01Name.f k ((rd154 x0_3 x3).f0)).bind fun t13=>(if t13=true then (if x3 > 0 then (if 0≤(wrap64 (x3 - 1)) then (if (wrap64 (x3 - 1)) < (x0_3.length:Int) then (spec_l05Ok.j1 k x0_0 x0_1 x0_2 x0_3 x3 (!(Op.bytesLess (((rd154 x0_3 (wrap64 (x3 - 1))).f0).toList) (((rd154 x0_3 x3).f0).toList)))) else (none)) else (none)) else (spec_l05Ok.j1 k x0_0 x0_1 x0_2 x0_3 x3 false)) else (spec_l05Ok.j1 k x0_0 x0_1 x0_2 x0_3 x3 true))) else (none)) else (some true)
def spec_l05Ok.j1:Nat→Int→Int→List S142→List S154→Int→Bool→Option (Bool)
 | 0,_,_,_,_,_,_=>none
 | k+1,x0_0,x0_1,x0_2,x0_3,x3,x75=>if x75=true then (some false) else (if 0≤x3 then (if x3 < (x0_3.length:Int) then ((spec_l05Ring.f k x0_0 x0_1 x0_2 x0_3 ((rd154 x0_3 x3).f1)).bind fun bt22=>(if bt22.2=true then ((spec_l03Ok.f k bt22.1).bind fun t26=>(if t26=true then (spec_l05Ok.l0 k x0_0 x0_1 x0_2 x0_3 (wrap64 (x3+1))) else (some false))) else (some false))) else (none)) else (none))
end
def spec_l05Ok.f (k:Nat) (a0_0 a0_1:Int) (l0_2:List S142) (l0_3:List S154):Option (Bool):=(spec_l00In.f a0_0 10 20000).bind fun t1=>(if t1=true then ((spec_l00In.f a0_1 10 20000).bind fun t4=>(if t4=true then ((spec_l05Points.f k a0_0 a0_1 l0_2 l0_3).bind fun t7=>(if t7=true then (spec_l05Ok.j0 k a0_0 a0_1 l0_2 l0_3 (decide ((l0_3.length:Int) > 24))) else (spec_l05Ok.j0 k a0_0 a0_1 l0_2 l0_3 true))) else (spec_l05Ok.j0 k a0_0 a0_1 l0_2 l0_3 true))) else (spec_l05Ok.j0 k a0_0 a0_1 l0_2 l0_3 true))
theorem spec_l05Ok.ok {k:Nat} {a0_0 a0_1:Int} {l0_2:List S142} {l0_3:List S154} {r:Bool} (H:spec_l05Ok.f k a0_0 a0_1 l0_2 l0_3=some r):OkF Tryz.prog 100 [.c (.d (.ro [.v (.int .i64 a0_0),.v (.int .i64 a0_1),.row 143 (l0_2.map c142),.row 158 (l0_3.map c154)]))] [] (vB r) []:=by
 unfold spec_l05Ok.f at H
 refine o1 96 2 Tryz.func100 fun w0 S=>?_
 refine s2 (mB (k:=nl (sq (sq ?_))))
 refine AG.joinR (fun s=>∃ q,q≤k∧∃ x0_0 x0_1 x0_2 x0_3 x32,spec_l05Ok.j0 q x0_0 x0_1 x0_2 x0_3 x32=some r∧s=St.of [(0,.c (.d (.ro [.v (.int .i64 x0_0),.v (.int .i64 x0_1),.row 143 (x0_2.map c142),.row 158 (x0_3.map c154)]))),(32,vB x32)] []) ?_ ?_
 ·skip
  refine rg (mv (vO [_,_,_,_]) (k:=nv (vO [_,_,_,_]) (k:=jf (cells':=[_,_,_,_]) D40_0 (k:=oI T2 (k:=?_)))))
  obtain ⟨t1,e2,H⟩:=bo H
  refine cr rfl (spec_l00In.ok e2) (qd (qd (qd qn))) (k:=uN (k:=mB (k:=?_)))
  rcases ei H with ⟨h3,H⟩|⟨h3,H⟩
  ·iterate 6 refine sk (cn (bf h3)) (k:=?_)
   refine pB (cn (bf h3)) (k:=mB (k:=?_))
   iterate 3 refine sk rfl (k:=?_)
   refine pB rfl (k:=mB (k:=?_))
   iterate 6 refine sk rfl (k:=?_)
   refine pB rfl (k:=nl ?_)
   exact CanR.mk id ⟨_,(by omega),_,_,_,_,_,H,rfl⟩ ⟨rfl,rfl,trivial⟩ trivial rfl
  refine mv (vO [_,_,_,_]) (hg:=gy (cn h3)) (k:=nv (vO [_,_,_,_]) (hg:=gy (cn h3)) (k:=jf (cells':=[_,_,_]) D40_1 (hg:=gy (cn h3)) (k:=oI T2 (hg:=gy (cn h3)) (k:=?_))))
  obtain ⟨t4,e5,H⟩:=bo H
  refine cr rfl (spec_l00In.ok e5) (qd (qd (qd qn))) (hg:=gy (cn h3)) (k:=uN (hg:=gy (cn h3)) (k:=qB (cn h3) (k:=mB (k:=?_))))
  rcases ei H with ⟨h6,H⟩|⟨h6,H⟩
  ·iterate 3 refine sk (cn (bf h6)) (k:=?_)
   refine pB (cn (bf h6)) (k:=mB (k:=?_))
   iterate 6 refine sk rfl (k:=?_)
   refine pB rfl (k:=nl ?_)
   exact CanR.mk id ⟨_,(by omega),_,_,_,_,_,H,rfl⟩ ⟨rfl,rfl,trivial⟩ trivial rfl
  refine mv (vO [_,_,_,_]) (hg:=gy (cn h6)) (k:=?_)
  obtain ⟨t7,e8,H⟩:=bo H
  refine cr rfl (spec_l05Points.ok e8) (qd qn) (hg:=gy (cn h6)) (k:=uN (hg:=gy (cn h6)) (k:=qB (cn h6) (k:=mB (k:=?_))))
  rcases ie H with ⟨h9,H⟩|⟨h9,H⟩
  ·refine mv (vO [_,_,_,_]) (hg:=gy (cn h9)) (k:=nv (vO [_,_,_,_]) (hg:=gy (cn h9)) (k:=jf (cells':=[_]) D40_3 (hg:=gy (cn h9)) (k:=oR T38 (hg:=gy (cn h9)) (k:=jl Tryz.underlying38 (hg:=gy (cn h9)) (k:=iG (hg:=gy (cn h9)) (k:=qB (cn h9) (k:=nl ?_)))))))
   exact CanR.mk id ⟨_,(by omega),_,_,_,_,_,H,rfl⟩ ⟨rfl,rfl,trivial⟩ trivial rfl
  iterate 6 refine sk (cn (bf h9)) (k:=?_)
  refine pB (cn (bf h9)) (k:=nl ?_)
  exact CanR.mk id ⟨_,(by omega),_,_,_,_,_,H,rfl⟩ ⟨rfl,rfl,trivial⟩ trivial rfl
 clear H
 rintro _ ⟨k,hj0,x0_0,x0_1,x0_2,x0_3,x32,H,rfl⟩
 rcases k with _|k
 cases H
 rw [spec_l05Ok.j0] at H
 rcases ie H with ⟨h10,H⟩|⟨h10,H⟩
 ·refine ay h10 ?_
  cases H
  exact s2 (mB (k:=nl (rt r1)))
 refine an (bf h10) ?_
 refine sp (sq (s2 (mI (k:=nl (bk (lp ?_))))))
 obtain ⟨K0,hK0,gK0⟩:=kk k
 refine AGr.canon id (AGr.loopI (n:=k) (fun k s=>k≤K0∧∃ x0_0 x0_1 x0_2 x0_3 x3,spec_l05Ok.l0 k x0_0 x0_1 x0_2 x0_3 x3=some r∧s=St.of [(0,.c (.d (.ro [.v (.int .i64 x0_0),.v (.int .i64 x0_1),.row 143 (x0_2.map c142),.row 158 (x0_3.map c154)]))),(3,vI x3)] []) ⟨hK0,_,_,_,_,_,H,rfl⟩ ?_ ?_) ⟨rfl,rfl,trivial⟩ trivial rfl
 ·rintro _ ⟨_,_,_,_,_,_,H,_⟩
  cases H
 clear H hK0
 rintro k ih0 _ ⟨hK0,x0_0,x0_1,x0_2,x0_3,x3,H,rfl⟩
 unfold spec_l05Ok.l0 at H
 refine sq (s2 (mI (k:=mv (vO [_,_,_,_]) (k:=nv (vO [_,_,_,_]) (k:=jf (cells':=[_]) D40_3 (k:=oR T38 (k:=jl Tryz.underlying38 (k:=iL (k:=nl ?_)))))))))
 rcases ei H with ⟨h11,H⟩|⟨h11,H⟩
 ·refine an (df h11) ?_
  cases H
  exact ex (s2 (mB (k:=nl (rt r1))))
 refine ay (dt h11) ?_
 refine sp (sq (bk (sq (sq ?_))))
 refine AG.joinR (fun s=>∃ q,q≤k∧∃ x0_0 x0_1 x0_2 x0_3 x3 x75,spec_l05Ok.j1 q x0_0 x0_1 x0_2 x0_3 x3 x75=some r∧s=St.of [(0,.c (.d (.ro [.v (.int .i64 x0_0),.v (.int .i64 x0_1),.row 143 (x0_2.map c142),.row 158 (x0_3.map c154)]))),(3,vI x3),(75,vB x75)] []) ?_ ?_
 ·skip
  refine rg (mv (vO [_,_,_,_]) (k:=nv (vO [_,_,_,_]) (k:=jf (cells':=[_]) D40_3 (k:=oR T38 (k:=mI (k:=?_))))))
  obtain ⟨h12,H⟩:=io H
  refine ixx ⟨h12,h11⟩ T158 Tryz.underlying38 (R154 h12 h11) (k:=jf (cells':=[_,_]) D158_0 (k:=ov (vS _) T9 (k:=?_)))
  obtain ⟨t13,e14,H⟩:=bo H
  refine cr rfl (spec_l01Name.ok e14) (qd qn) (k:=uN (k:=mB (k:=?_)))
  rcases ei H with ⟨h15,H⟩|⟨h15,H⟩
  ·iterate 3 refine sk (cn (bf h15)) (k:=?_)
   iterate 18 refine RA.skip0 rfl rfl rfl rfl rfl ?_
   refine sk (cn (bf h15)) (k:=pB (cn (bf h15)) (k:=?_))
   refine RA.nil (fun _=>by kernel_rfl) ?_
   exact CanR.mk id ⟨_,(by omega),_,_,_,_,_,_,H,rfl⟩ ⟨rfl,rfl,rfl,trivial⟩ trivial rfl
  refine mI (hg:=gy (cn h15)) (k:=iG (hg:=gy (cn h15)) (k:=mB (hg:=gy (cn h15)) (k:=?_)))
  rcases ei H with ⟨h16,H⟩|⟨h16,H⟩
  ·iterate 18 refine sk (df h16) (k:=?_)
   refine qB (df h16) (hg:=gy (cn h15)) (k:=qB (cn h15) (k:=?_))
   refine RA.nil (fun _=>by kernel_rfl) ?_
   exact CanR.mk id ⟨_,(by omega),_,_,_,_,_,_,H,rfl⟩ ⟨rfl,rfl,rfl,trivial⟩ trivial rfl
  refine mv (vO [_,_,_,_]) (hg:=gy (dt h16)) (k:=nv (vO [_,_,_,_]) (hg:=gy (dt h16)) (k:=jf (cells':=[_]) D40_3 (hg:=gy (dt h16)) (k:=oR T38 (hg:=gy (dt h16)) (k:=mI (hg:=gy (dt h16)) (k:=iS (hg:=gy (dt h16)) (k:=?_))))))
  obtain ⟨h17,H⟩:=io H
  obtain ⟨h18,H⟩:=io H
  refine ixx ⟨h17,h18⟩ T158 Tryz.underlying38 (R154 h17 h18) (hg:=gy (dt h16)) (k:=jf (cells':=[_,_]) D158_0 (hg:=gy (dt h16)) (k:=ov (vS _) T9 (hg:=gy (dt h16)) (k:=mv (vO [_,_,_,_]) (hg:=gy (dt h16)) (k:=nv (vO [_,_,_,_]) (hg:=gy (dt h16)) (k:=jf (cells':=[_]) D40_3 (hg:=gy (dt h16)) (k:=oR T38 (hg:=gy (dt h16)) (k:=mI (hg:=gy (dt h16)) (k:=ixx ⟨h12,h11⟩ T158 Tryz.underlying38 (R154 h12 h11) (hg:=gy (dt h16)) (k:=jf (cells':=[_,_]) D158_0 (hg:=gy (dt h16)) (k:=ov (vS _) T9 (hg:=gy (dt h16)) (k:=bB (!(Op.bytesLess (((rd154 x0_3 (wrap64 (x3 - 1))).f0).toList) (((rd154 x0_3 x3).f0).toList))) (hg:=gy (dt h16)) (k:=pB (dt h16) (hg:=gy (cn h15)) (k:=qB (cn h15) (k:=?_))))))))))))))
  refine RA.nil (fun _=>by kernel_rfl) ?_
  exact CanR.mk id ⟨_,(by omega),_,_,_,_,_,_,H,rfl⟩ ⟨rfl,rfl,rfl,trivial⟩ trivial rfl
 clear H
 rintro _ ⟨k,hj1,x0_0,x0_1,x0_2,x0_3,x3,x75,H,rfl⟩
 rcases k with _|k
 cases H
 rw [spec_l05Ok.j1] at H
 rcases ie H with ⟨h19,H⟩|⟨h19,H⟩
 ·refine ay h19 ?_
  cases H
  exact s2 (mB (k:=nl (rt r1)))
 refine an (bf h19) ?_
 refine sp (s2 (mv (vO [_,_,_,_]) (k:=mv (vO [_,_,_,_]) (k:=nv (vO [_,_,_,_]) (k:=jf (cells':=[_]) D40_3 (k:=oR T38 (k:=mI (k:=?_))))))))
 obtain ⟨h20,H⟩:=io H
 obtain ⟨h21,H⟩:=io H
 refine ixx ⟨h20,h21⟩ T158 Tryz.underlying38 (R154 h20 h21) (k:=jf (cells':=[_]) D158_1 (k:=oR T104 (k:=?_)))
 obtain ⟨⟨t22,t23⟩,e24,H⟩:=bo H
 refine a_call (v := .tup [.c (.own 204 t22.length),.c (.d (.v (.bool t23)))]) (nk:=[(204,.row 143 (t22.map c142))]) (L:=[]) ?_ rfl (spec_l05Ring.ok e24) (fun κ=>cond (Nat.beq κ 204) 100 (κ)) (qd (qd qn)) trivial ⟨rfl,trivial⟩ ⟨rfl,trivial⟩ rfl
 refine mv (.tup [_,_]) (k:=ev (.c (.own _ _)) (k:=xB (k:=mW (k:=mB (k:=nl (s2 (mB (k:=uN (k:=mB (k:=?_))))))))))
 rcases ei H with ⟨h25,H⟩|⟨h25,H⟩
 ·iterate 3 refine sk (cn (bf h25)) (k:=?_)
  refine pB (cn (bf h25)) (k:=nl ?_)
  refine ay rfl ?_
  cases H
  exact s2 (mB (k:=nl (rt r1)))
 refine mW (hg:=gy (cn h25)) (k:=?_)
 obtain ⟨t26,e27,H⟩:=bo H
 refine a_call (v:=vB t26) (nk:=[]) (L:=[(204,_)]) ?_ rfl (spec_l03Ok.ok e27) id (qc rO qn) ⟨rfl,trivial⟩ trivial trivial rfl (hg:=gy (cn h25))
 refine uN (hg:=gy (cn h25)) (k:=qB (cn h25) (k:=nl ?_))
 rcases ei H with ⟨h28,H⟩|⟨h28,H⟩
 ·refine ay (cn (bf h28)) ?_
  cases H
  exact s2 (mB (k:=nl (rt r1)))
 refine an (cn h28) ?_
 refine sp (rg (mI (k:=iA (k:=mI (k:=nl ?_)))))
 exact AGr.canon id (ih0 _ (by omega) _ ⟨by omega,_,_,_,_,_,H,rfl⟩) ⟨rfl,rfl,trivial⟩ trivial rfl
def spec_l07Names.f :Option ((List ByteArray)):=some ([(⟨#[97,115,104]⟩:ByteArray),(⟨#[98,101,101,99,104]⟩:ByteArray),(⟨#[98,105,114,99,104]⟩:ByteArray),(⟨#[99,104,101,114,114,121]⟩:ByteArray),(⟨#[101,98,111,110,121]⟩:ByteArray),(⟨#[104,111,108,108,121]⟩:ByteArray),(⟨#[109,97,112,108,101]⟩:ByteArray),(⟨#[111,97,107]⟩:ByteArray),(⟨#[114,111,115,101,119,111,111,100]⟩:ByteArray),(⟨#[119,97,108,110,117,116]⟩:ByteArray)])
theorem spec_l07Names.ok {r:List ByteArray} (H:spec_l07Names.f =some r):OkF Tryz.prog 184 [] [] (.c (.own 100 r.length)) [(100,.row 9 (r.map c9))]:=by
 unfold spec_l07Names.f at H
 refine o1 2 0 Tryz.func184 fun w0 S=>?_
 refine s2 (jn (e:=9) 200 T9 (k:=nl (s2 ?_)))
 refine a_lit (cs:=[_,_,_,_,_,_,_,_,_,_]) (D:=[]) (css:=([(⟨#[97,115,104]⟩:ByteArray),(⟨#[98,101,101,99,104]⟩:ByteArray),(⟨#[98,105,114,99,104]⟩:ByteArray),(⟨#[99,104,101,114,114,121]⟩:ByteArray),(⟨#[101,98,111,110,121]⟩:ByteArray),(⟨#[104,111,108,108,121]⟩:ByteArray),(⟨#[109,97,112,108,101]⟩:ByteArray),(⟨#[111,97,107]⟩:ByteArray),(⟨#[114,111,115,101,119,111,111,100]⟩:ByteArray),(⟨#[119,97,108,110,117,116]⟩:ByteArray)]).map c9) 201 ?_ N223 T9 (hcss:=by rfl)
 refine mW (k:=nl (rt ?_))
 cases H
 exact RetP.mk (fun κ=>cond (Nat.beq κ 100) 201 (κ)) ⟨(ownE rfl (by simp)),trivial⟩ ⟨rfl,trivial⟩ rfl
def spec_l07Find.l0:Nat→ByteArray→List ByteArray→Int→Option (Int)
 | 0,_,_,_=>none
 | k+1,x0,x3,x4=>if x4 < (x3.length:Int) then (if 0≤x4 then (if (rd9 x3 x4).toList=x0.toList then (some x4) else (spec_l07Find.l0 k x0 x3 (wrap64 (x4+1)))) else (none)) else (some (-1))
def spec_l07Find.f (k:Nat) (a0:ByteArray):Option (Int):=(spec_l07Names.f).bind fun t1=>(spec_l07Find.l0 k a0 t1 0)
theorem spec_l07Find.ok {k:Nat} {a0:ByteArray} {r:Int} (H:spec_l07Find.f k a0=some r):OkF Tryz.prog 168 [vS a0] [] (vI r) []:=by
 unfold spec_l07Find.f at H
 refine o1 19 2 Tryz.func168 fun w0 S=>?_
 refine s2 (mI (k:=nl (s2 ?_)))
 obtain ⟨t1,e2,H⟩:=bo H
 refine a_call (v := .c (.own 200 t1.length)) (nk:=[(200,.row 9 (t1.map c9))]) (L:=[]) ?_ rfl (spec_l07Names.ok e2) (fun κ=>cond (Nat.beq κ 200) 100 (κ)) qn trivial ⟨rfl,trivial⟩ ⟨rfl,trivial⟩ rfl
 refine mW (k:=nl (sq (s2 (mI (k:=nl (bk (lp ?_)))))))
 obtain ⟨K0,hK0,gK0⟩:=kk k
 refine AGr.canon (fun κ=>cond (Nat.beq κ 201) 200 (κ)) (AGr.loopI (n:=k) (fun k s=>k≤K0∧∃ x0 x3 x4,spec_l07Find.l0 k x0 x3 x4=some r∧s=St.of [(0,vS x0),(3,.c (.own 201 x3.length)),(4,vI x4)] [(201,.row 9 (x3.map c9))]) ⟨hK0,_,_,_,H,rfl⟩ ?_ ?_) ⟨rfl,rfl,rfl,trivial⟩ ⟨rfl,trivial⟩ rfl
 ·rintro _ ⟨_,_,_,_,H,_⟩
  cases H
 clear H hK0
 rintro k ih0 _ ⟨hK0,x0,x3,x4,H,rfl⟩
 unfold spec_l07Find.l0 at H
 refine sq (s2 (mI (k:=mW (k:=jo Tryz.underlying223 (k:=iL (k:=nl ?_))))))
 rcases ei H with ⟨h3,H⟩|⟨h3,H⟩
 ·refine an (df h3) ?_
  cases H
  exact ex (s2 (mI (k:=nl (rt r1))))
 refine ay (dt h3) ?_
 refine sp (sq (bk (s2 (mW (k:=mI (k:=?_))))))
 obtain ⟨h4,H⟩:=io H
 refine ji ⟨h4,h3⟩ T9 Tryz.underlying223 (k:=je (v:=vS _) (G9 h4 h3) T9 (k:=mv (vS _) (k:=bB ((rd9 x3 x4).toList == x0.toList) (k:=nl ?_))))
 rcases ie H with ⟨h5,H⟩|⟨h5,H⟩
 ·refine ay (bq h5) ?_
  cases H
  exact s2 (mI (k:=mI (k:=nl (rt r1))))
 refine an (bn h5) ?_
 refine sp (rg (mI (k:=iA (k:=mI (k:=nl ?_)))))
 exact AGr.canon id (ih0 _ (by omega) _ ⟨by omega,_,_,_,H,rfl⟩) ⟨rfl,rfl,rfl,trivial⟩ ⟨rfl,trivial⟩ rfl
def spec_l07Table.f :Option ((List (List Int))):=some ([([20,40,310]),([35,45,410]),([15,33,280]),([50,36,240]),([95,85,270]),([5,35,370]),([10,42,290]),([40,40,330]),([80,60,220]),([70,38,260])])
theorem spec_l07Table.ok {r:List (List Int)} (H:spec_l07Table.f =some r):OkF Tryz.prog 169 [] [] (.c (.own 100 r.length)) [(100,.row 104 (r.map c104))]:=by
 unfold spec_l07Table.f at H
 refine o1 12 0 Tryz.func169 fun w0 S=>?_
 refine s2 (jn (e:=104) 200 T104 (k:=nl (s2 ?_)))
 refine a_lit (cs:=[_,_,_]) (D:=[]) (css:=([20,40,310]).map c2) 201 ?_ N104 T2 (hcss:=by rfl)
 refine a_lit (cs:=[_,_,_]) (D:=[]) (css:=([35,45,410]).map c2) 202 ?_ N104 T2 (hcss:=by rfl)
 refine a_lit (cs:=[_,_,_]) (D:=[]) (css:=([15,33,280]).map c2) 203 ?_ N104 T2 (hcss:=by rfl)
 refine a_lit (cs:=[_,_,_]) (D:=[]) (css:=([50,36,240]).map c2) 204 ?_ N104 T2 (hcss:=by rfl)
 refine a_lit (cs:=[_,_,_]) (D:=[]) (css:=([95,85,270]).map c2) 205 ?_ N104 T2 (hcss:=by rfl)
 refine a_lit (cs:=[_,_,_]) (D:=[]) (css:=([5,35,370]).map c2) 206 ?_ N104 T2 (hcss:=by rfl)
 refine a_lit (cs:=[_,_,_]) (D:=[]) (css:=([10,42,290]).map c2) 207 ?_ N104 T2 (hcss:=by rfl)
 refine a_lit (cs:=[_,_,_]) (D:=[]) (css:=([40,40,330]).map c2) 208 ?_ N104 T2 (hcss:=by rfl)
 refine a_lit (cs:=[_,_,_]) (D:=[]) (css:=([80,60,220]).map c2) 209 ?_ N104 T2 (hcss:=by rfl)
 refine a_lit (cs:=[_,_,_]) (D:=[]) (css:=([70,38,260]).map c2) 210 ?_ N104 T2 (hcss:=by rfl)
 refine a_lit (cs:=[_,_,_,_,_,_,_,_,_,_]) (D:=[201,202,203,204,205,206,207,208,209,210]) (css:=([([20,40,310]),([35,45,410]),([15,33,280]),([50,36,240]),([95,85,270]),([5,35,370]),([10,42,290]),([40,40,330]),([80,60,220]),([70,38,260])]).map c104) 211 ?_ N213 T104 (hcss:=by rfl)
 refine mW (k:=nl (rt ?_))
 cases H
 exact RetP.mk (fun κ=>cond (Nat.beq κ 100) 211 (κ)) ⟨(ownE rfl (by simp)),trivial⟩ ⟨rfl,trivial⟩ rfl
def spec_l07Grain.f (a0:Int):Option (Bool):=(spec_l00In.f a0 0 179).bind fun t1=>(some t1)
theorem spec_l07Grain.ok {a0:Int} {r:Bool} (H:spec_l07Grain.f a0=some r):OkF Tryz.prog 170 [vI a0] [] (vB r) []:=by
 unfold spec_l07Grain.f at H
 refine o1 5 2 Tryz.func170 fun w0 S=>?_
 refine s2 (mB (k:=nl (s2 (mI (k:=?_)))))
 obtain ⟨t1,e2,H⟩:=bo H
 cases H
 exact cr rfl (spec_l00In.ok e2) (qd (qd (qd qn))) (k:=mB (k:=nl (rt r1)))
def spec_l07Ok.j0:Nat→Int→Int→Int→Bool→Option (Bool)
 | 0,_,_,_,_=>none
 | k+1,x0_1,x0_2,x3,x19=>if x19=true then (some false) else ((spec_l07Table.f).bind fun t7=>(if 0≤x3 then (if x3 < (t7.length:Int) then (if 0 < ((rd104 t7 x3).length:Int) then ((spec_l00In.f x0_1 (wrap64 ((rd2 (rd104 t7 x3) 0) - 15)) (wrap64 ((rd2 (rd104 t7 x3) 0)+15))).bind fun t11=>(if t11=true then ((spec_l07Grain.f x0_2).bind fun t14=>(some t14)) else (some false))) else (none)) else (none)) else (none)))
def spec_l07Ok.f (k:Nat) (a0_0:ByteArray) (a0_1 a0_2:Int):Option (Bool):=(spec_l07Find.f k a0_0).bind fun t1=>(if t1 < 0 then (spec_l07Ok.j0 k a0_1 a0_2 t1 true) else ((spec_l00In.f a0_1 0 100).bind fun t4=>(spec_l07Ok.j0 k a0_1 a0_2 t1 (!t4))))
theorem spec_l07Ok.ok {k:Nat} {a0_0:ByteArray} {a0_1 a0_2:Int} {r:Bool} (H:spec_l07Ok.f k a0_0 a0_1 a0_2=some r):OkF Tryz.prog 138 [.c (.d (.ro [.v (.string a0_0),.v (.int .i64 a0_1),.v (.int .i64 a0_2)]))] [] (vB r) []:=by
 unfold spec_l07Ok.f at H
 refine o1 42 2 Tryz.func138 fun w0 S=>?_
 refine s2 (mB (k:=nl (s2 (mv (vO [_,_,_]) (k:=nv (vO [_,_,_]) (k:=jf (cells':=[_,_,_]) D76_0 (k:=ov (vS _) T9 (k:=?_))))))))
 obtain ⟨t1,e2,H⟩:=bo H
 refine cr rfl (spec_l07Find.ok e2) (qd qn) (k:=mI (k:=nl (sq (sq ?_))))
 refine AG.joinR (fun s=>∃ q,q≤k∧∃ (x0_0:ByteArray),∃ x0_1 x0_2 x3 x19,spec_l07Ok.j0 q x0_1 x0_2 x3 x19=some r∧s=St.of [(0,.c (.d (.ro [.v (.string x0_0),.v (.int .i64 x0_1),.v (.int .i64 x0_2)]))),(3,vI x3),(19,vB x19)] []) ?_ ?_
 ·skip
  refine rg (mI (k:=iL (k:=mB (k:=?_))))
  rcases ie H with ⟨h3,H⟩|⟨h3,H⟩
  ·iterate 6 refine sk (dt h3) (k:=?_)
   refine pB (dt h3) (k:=nl ?_)
   exact CanR.mk id ⟨_,(by omega),_,_,_,_,_,H,rfl⟩ ⟨rfl,rfl,rfl,trivial⟩ trivial rfl
  refine mv (vO [_,_,_]) (hg:=gy (df h3)) (k:=nv (vO [_,_,_]) (hg:=gy (df h3)) (k:=jf (cells':=[_,_]) D76_1 (hg:=gy (df h3)) (k:=oI T2 (hg:=gy (df h3)) (k:=?_))))
  obtain ⟨t4,e5,H⟩:=bo H
  refine cr rfl (spec_l00In.ok e5) (qd (qd (qd qn))) (hg:=gy (df h3)) (k:=uN (hg:=gy (df h3)) (k:=qB (df h3) (k:=nl ?_)))
  exact CanR.mk id ⟨_,(by omega),_,_,_,_,_,H,rfl⟩ ⟨rfl,rfl,rfl,trivial⟩ trivial rfl
 clear H
 rintro _ ⟨k,hj0,x0_0,x0_1,x0_2,x3,x19,H,rfl⟩
 rcases k with _|k
 cases H
 rw [spec_l07Ok.j0] at H
 rcases ie H with ⟨h6,H⟩|⟨h6,H⟩
 ·refine ay h6 ?_
  cases H
  exact s2 (mB (k:=nl (rt r1)))
 refine an (bf h6) ?_
 refine sp (s2 ?_)
 obtain ⟨t7,et7,H⟩:=bo H
 refine a_callF (L:=[]) ?_ rfl (spec_l07Table.ok et7) qn trivial
 refine mI (k:=?_)
 obtain ⟨h8,H⟩:=io H
 obtain ⟨h9,H⟩:=io H
 refine ixx ⟨h8,h9⟩ T104 Tryz.underlying213 (R104 h8 h9) (k:=oR T104 (k:=?_))
 obtain ⟨h10,H⟩:=io H
 refine a_ixR (el:=c2 (rd2 (rd104 t7 x3) 0)) ?_ ⟨(by decide),h10⟩ T2 Tryz.underlying104 (hel:=R2 (by decide) h10)
 refine oI T2 (k:=mI (k:=nl (s2 (mv (vO [_,_,_]) (k:=nv (vO [_,_,_]) (k:=jf (cells':=[_,_]) D76_1 (k:=oI T2 (k:=mI (k:=iS (k:=mI (k:=iA (k:=?_))))))))))))
 obtain ⟨t11,e12,H⟩:=bo H
 refine cr rfl (spec_l00In.ok e12) (qd (qd (qd qn))) (k:=mB (k:=?_))
 rcases ei H with ⟨h13,H⟩|⟨h13,H⟩
 ·iterate 5 refine sk (bf h13) (k:=?_)
  cases H
  exact qB (bf h13) (k:=mB (k:=nl (rt r1)))
 refine mv (vO [_,_,_]) (hg:=gy h13) (k:=nv (vO [_,_,_]) (hg:=gy h13) (k:=jf (cells':=[_]) D76_2 (hg:=gy h13) (k:=oI T2 (hg:=gy h13) (k:=?_))))
 obtain ⟨t14,e15,H⟩:=bo H
 cases H
 exact cr rfl (spec_l07Grain.ok e15) (qd qn) (hg:=gy h13) (k:=pB h13 (k:=mB (k:=nl (rt r1))))
def spec_l08Veneers.l0:Nat→List S66→Int→Option (Bool)
 | 0,_,_=>none
 | k+1,x0,x3=>if x3 < (x0.length:Int) then (if 0≤x3 then ((spec_l07Ok.f k ((rd66 x0 x3).f0) ((rd66 x0 x3).f1) ((rd66 x0 x3).f2)).bind fun t3=>(if t3=true then (spec_l08Veneers.l0 k x0 (wrap64 (x3+1))) else (some false))) else (none)) else (some true)
def spec_l08Veneers.f (k:Nat) (l0:List S66):Option (Bool):=spec_l08Veneers.l0 k l0 0
theorem spec_l08Veneers.ok {k:Nat} {l0:List S66} {r:Bool} (H:spec_l08Veneers.f k l0=some r):OkF Tryz.prog 101 [vR 76 (l0.map c66)] [] (vB r) []:=by
 unfold spec_l08Veneers.f at H
 refine o1 15 2 Tryz.func101 fun w0 S=>?_
 refine s2 (mB (k:=nl (sq (s2 (mI (k:=nl (bk (lp ?_))))))))
 obtain ⟨K0,hK0,gK0⟩:=kk k
 refine AGr.canon id (AGr.loopI (n:=k) (fun k s=>k≤K0∧∃ x0 x3,spec_l08Veneers.l0 k x0 x3=some r∧s=St.of [(0,vR 76 (x0.map c66)),(3,vI x3)] []) ⟨hK0,_,_,H,rfl⟩ ?_ ?_) ⟨rfl,rfl,trivial⟩ trivial rfl
 ·rintro _ ⟨_,_,_,H,_⟩
  cases H
 clear H hK0
 rintro k ih0 _ ⟨hK0,x0,x3,H,rfl⟩
 unfold spec_l08Veneers.l0 at H
 refine sq (s2 (mI (k:=mR (k:=jl Tryz.underlying41 (k:=iL (k:=nl ?_))))))
 rcases ei H with ⟨h1,H⟩|⟨h1,H⟩
 ·refine an (df h1) ?_
  cases H
  exact ex (s2 (mB (k:=nl (rt r1))))
 refine ay (dt h1) ?_
 refine sp (sq (bk (s2 (mR (k:=mI (k:=?_))))))
 obtain ⟨h2,H⟩:=io H
 refine ixx ⟨h2,h1⟩ T76 Tryz.underlying41 (R66 h2 h1) (k:=?_)
 obtain ⟨t3,e4,H⟩:=bo H
 refine cr rfl (spec_l07Ok.ok e4) (qd qn) (k:=uN (k:=nl ?_))
 rcases ei H with ⟨h5,H⟩|⟨h5,H⟩
 ·refine ay (cn (bf h5)) ?_
  cases H
  exact s2 (mB (k:=nl (rt r1)))
 refine an (cn h5) ?_
 refine sp (rg (mI (k:=iA (k:=mI (k:=nl ?_)))))
 exact AGr.canon id (ih0 _ (by omega) _ ⟨by omega,_,_,H,rfl⟩) ⟨rfl,rfl,trivial⟩ trivial rfl
def spec_l08Ok.f (k:Nat) (a0_0 a0_1:Int) (l0_2:List S142) (l0_3:List S154) (l0_4:List S66):Option (Bool):=(spec_l05Ok.f k a0_0 a0_1 l0_2 l0_3).bind fun t1=>(if t1=true then ((spec_l08Veneers.f k l0_4).bind fun t4=>(if t4=true then (some ((l0_4.length:Int) == (l0_3.length:Int))) else (some false))) else (some false))
theorem spec_l08Ok.ok {k:Nat} {a0_0 a0_1:Int} {l0_2:List S142} {l0_3:List S154} {l0_4:List S66} {r:Bool} (H:spec_l08Ok.f k a0_0 a0_1 l0_2 l0_3 l0_4=some r):OkF Tryz.prog 68 [.c (.d (.ro [.v (.int .i64 a0_0),.v (.int .i64 a0_1),.row 143 (l0_2.map c142),.row 158 (l0_3.map c154),.row 76 (l0_4.map c66)]))] [] (vB r) []:=by
 unfold spec_l08Ok.f at H
 refine o1 28 2 Tryz.func68 fun w0 S=>?_
 refine s2 (mB (k:=nl (s2 (mv (vO [_,_,_,_,_]) (k:=nv (vO [_,_,_,_,_]) (k:=jf (cells':=[_,_,_,_,_]) D43_0 (k:=?_)))))))
 obtain ⟨t1,e2,H⟩:=bo H
 refine cr rfl (spec_l05Ok.ok e2) (qc (rT [.v (.int .i64 a0_0),.v (.int .i64 a0_1),.row 143 (l0_2.map c142),.row 158 (l0_3.map c154)] [.row 76 (l0_4.map c66)] rQ) qn) (k:=mB (k:=?_))
 rcases ei H with ⟨h3,H⟩|⟨h3,H⟩
 ·iterate 5 refine sk (bf h3) (k:=?_)
  refine qB (bf h3) (k:=mB (k:=?_))
  iterate 12 refine sk rfl (k:=?_)
  refine qB rfl (k:=mB (k:=?_))
  refine RA.nil (fun _=>by kernel_rfl) ?_
  cases H
  exact rt r1
 refine mv (vO [_,_,_,_,_]) (hg:=gy h3) (k:=nv (vO [_,_,_,_,_]) (hg:=gy h3) (k:=jf (cells':=[_]) D43_1 (hg:=gy h3) (k:=oR T41 (hg:=gy h3) (k:=?_))))
 obtain ⟨t4,e5,H⟩:=bo H
 refine cr rfl (spec_l08Veneers.ok e5) (qd qn) (hg:=gy h3) (k:=pB h3 (k:=mB (k:=?_)))
 rcases ie H with ⟨h6,H⟩|⟨h6,H⟩
 ·refine mv (vO [_,_,_,_,_]) (hg:=gy h6) (k:=nv (vO [_,_,_,_,_]) (hg:=gy h6) (k:=jf (cells':=[_]) D43_1 (hg:=gy h6) (k:=oR T41 (hg:=gy h6) (k:=jl Tryz.underlying41 (hg:=gy h6) (k:=mv (vO [_,_,_,_,_]) (hg:=gy h6) (k:=nv (vO [_,_,_,_,_]) (hg:=gy h6) (k:=jf (cells':=[_,_,_,_,_]) D43_0 (hg:=gy h6) (k:=jf (cells':=[_,_]) D40_3 (hg:=gy h6) (k:=oR T38 (hg:=gy h6) (k:=jl Tryz.underlying38 (hg:=gy h6) (k:=iEq (hg:=gy h6) (k:=pB h6 (k:=mB (k:=?_))))))))))))))
  refine RA.nil (fun _=>by kernel_rfl) ?_
  cases H
  exact rt r1
 iterate 12 refine sk (bf h6) (k:=?_)
 refine qB (bf h6) (k:=mB (k:=?_))
 refine RA.nil (fun _=>by kernel_rfl) ?_
 cases H
 exact rt r1
def spec_l09Box.f (a0_0 a0_1 a0_2 a0_3 a1 a2:Int):Option (Bool):=(spec_l00In.f a0_0 0 a1).bind fun t1=>(if t1=true then ((spec_l00In.f a0_1 0 a2).bind fun t4=>(if t4=true then ((spec_l00In.f a0_2 1 (wrap64 (a1 - a0_0))).bind fun t7=>(if t7=true then ((spec_l00In.f a0_3 1 (wrap64 (a2 - a0_1))).bind fun t10=>(some t10)) else (some false))) else (some false))) else (some false))
theorem spec_l09Box.ok {a0_0 a0_1 a0_2 a0_3 a1 a2:Int} {r:Bool} (H:spec_l09Box.f a0_0 a0_1 a0_2 a0_3 a1 a2=some r):OkF Tryz.prog 139 [.c (.d (.ro [.v (.int .i64 a0_0),.v (.int .i64 a0_1),.v (.int .i64 a0_2),.v (.int .i64 a0_3)])),vI a1,vI a2] [] (vB r) []:=by
 unfold spec_l09Box.f at H
 refine o1 47 6 Tryz.func139 fun w0 S=>?_
 refine s2 (mB (k:=nl (s2 (mv (vO [_,_,_,_]) (k:=nv (vO [_,_,_,_]) (k:=jf (cells':=[_,_,_,_]) D147_0 (k:=oI T2 (k:=mI (k:=?_)))))))))
 obtain ⟨t1,e2,H⟩:=bo H
 refine cr rfl (spec_l00In.ok e2) (qd (qd (qd qn))) (k:=mB (k:=?_))
 rcases ei H with ⟨h3,H⟩|⟨h3,H⟩
 ·iterate 6 refine sk (bf h3) (k:=?_)
  refine qB (bf h3) (k:=mB (k:=?_))
  iterate 11 refine sk rfl (k:=?_)
  refine qB rfl (k:=mB (k:=?_))
  iterate 11 refine sk rfl (k:=?_)
  refine qB rfl (k:=mB (k:=?_))
  refine RA.nil (fun _=>by kernel_rfl) ?_
  cases H
  exact rt r1
 refine mv (vO [_,_,_,_]) (hg:=gy h3) (k:=nv (vO [_,_,_,_]) (hg:=gy h3) (k:=jf (cells':=[_,_,_]) D147_1 (hg:=gy h3) (k:=oI T2 (hg:=gy h3) (k:=mI (hg:=gy h3) (k:=?_)))))
 obtain ⟨t4,e5,H⟩:=bo H
 refine cr rfl (spec_l00In.ok e5) (qd (qd (qd qn))) (hg:=gy h3) (k:=pB h3 (k:=mB (k:=?_)))
 rcases ei H with ⟨h6,H⟩|⟨h6,H⟩
 ·iterate 11 refine sk (bf h6) (k:=?_)
  refine qB (bf h6) (k:=mB (k:=?_))
  iterate 11 refine sk rfl (k:=?_)
  refine qB rfl (k:=mB (k:=?_))
  refine RA.nil (fun _=>by kernel_rfl) ?_
  cases H
  exact rt r1
 refine mv (vO [_,_,_,_]) (hg:=gy h6) (k:=nv (vO [_,_,_,_]) (hg:=gy h6) (k:=jf (cells':=[_,_]) D147_2 (hg:=gy h6) (k:=oI T2 (hg:=gy h6) (k:=mI (hg:=gy h6) (k:=mv (vO [_,_,_,_]) (hg:=gy h6) (k:=nv (vO [_,_,_,_]) (hg:=gy h6) (k:=jf (cells':=[_,_,_,_]) D147_0 (hg:=gy h6) (k:=oI T2 (hg:=gy h6) (k:=iS (hg:=gy h6) (k:=?_))))))))))
 obtain ⟨t7,e8,H⟩:=bo H
 refine cr rfl (spec_l00In.ok e8) (qd (qd (qd qn))) (hg:=gy h6) (k:=pB h6 (k:=mB (k:=?_)))
 rcases ei H with ⟨h9,H⟩|⟨h9,H⟩
 ·iterate 11 refine sk (bf h9) (k:=?_)
  refine qB (bf h9) (k:=mB (k:=?_))
  refine RA.nil (fun _=>by kernel_rfl) ?_
  cases H
  exact rt r1
 refine mv (vO [_,_,_,_]) (hg:=gy h9) (k:=nv (vO [_,_,_,_]) (hg:=gy h9) (k:=jf (cells':=[_]) D147_3 (hg:=gy h9) (k:=oI T2 (hg:=gy h9) (k:=mI (hg:=gy h9) (k:=mv (vO [_,_,_,_]) (hg:=gy h9) (k:=nv (vO [_,_,_,_]) (hg:=gy h9) (k:=jf (cells':=[_,_,_]) D147_1 (hg:=gy h9) (k:=oI T2 (hg:=gy h9) (k:=iS (hg:=gy h9) (k:=?_))))))))))
 obtain ⟨t10,e11,H⟩:=bo H
 refine cr rfl (spec_l00In.ok e11) (qd (qd (qd qn))) (hg:=gy h9) (k:=pB h9 (k:=mB (k:=?_)))
 refine RA.nil (fun _=>by kernel_rfl) ?_
 cases H
 exact rt r1
mutual
def spec_l09One.j0:Nat→Int→Int→List S146→Bool→Option (Bool)
 | 0,_,_,_,_=>none
 | k+1,x0_6,x0_7,x0_8,x32=>if x32=true then (some false) else ((spec_l00In.f x0_6 10 20000).bind fun t13=>(if t13=true then ((spec_l00In.f x0_7 10 20000).bind fun t16=>(if t16=true then (spec_l09One.j1 k x0_6 x0_7 x0_8 (decide ((x0_8.length:Int) > 6))) else (spec_l09One.j1 k x0_6 x0_7 x0_8 true))) else (spec_l09One.j1 k x0_6 x0_7 x0_8 true)))
def spec_l09One.j1:Nat→Int→Int→List S146→Bool→Option (Bool)
 | 0,_,_,_,_=>none
 | k+1,x0_6,x0_7,x0_8,x54=>if x54=true then (some false) else (spec_l09One.l0 k x0_6 x0_7 x0_8 0)
def spec_l09One.l0:Nat→Int→Int→List S146→Int→Option (Bool)
 | 0,_,_,_,_=>none
 | k+1,x0_6,x0_7,x0_8,x3=>if x3 < (x0_8.length:Int) then (if 0≤x3 then ((spec_l09Box.f ((rd146 x0_8 x3).f0) ((rd146 x0_8 x3).f1) ((rd146 x0_8 x3).f2) ((rd146 x0_8 x3).f3) x0_6 x0_7).bind fun t22=>(if t22=true then (spec_l09One.l0 k x0_6 x0_7 x0_8 (wrap64 (x3+1))) else (some false))) else (none)) else (some true)
end
def spec_l09One.f (k:Nat) (a0_0 a0_1:ByteArray) (a0_2:Int) (a0_3:ByteArray) (a0_4 a0_5 a0_6 a0_7:Int) (l0_8:List S146):Option (Bool):=(spec_l01Name.f k a0_0).bind fun t1=>(if t1=true then ((spec_l01Name.f k a0_1).bind fun t4=>(if t4=true then ((spec_l00In.f a0_2 0 999).bind fun t7=>(if t7=true then ((spec_l07Ok.f k a0_3 a0_4 a0_5).bind fun t10=>(spec_l09One.j0 k a0_6 a0_7 l0_8 (!t10))) else (spec_l09One.j0 k a0_6 a0_7 l0_8 true))) else (spec_l09One.j0 k a0_6 a0_7 l0_8 true))) else (spec_l09One.j0 k a0_6 a0_7 l0_8 true))
theorem spec_l09One.ok {k:Nat} {a0_0 a0_1:ByteArray} {a0_2:Int} {a0_3:ByteArray} {a0_4 a0_5 a0_6 a0_7:Int} {l0_8:List S146} {r:Bool} (H:spec_l09One.f k a0_0 a0_1 a0_2 a0_3 a0_4 a0_5 a0_6 a0_7 l0_8=some r):OkF Tryz.prog 102 [.c (.d (.ro [.v (.string a0_0),.v (.string a0_1),.v (.int .i64 a0_2),.v (.string a0_3),.v (.int .i64 a0_4),.v (.int .i64 a0_5),.v (.int .i64 a0_6),.v (.int .i64 a0_7),.row 147 (l0_8.map c146)]))] [] (vB r) []:=by
 unfold spec_l09One.f at H
 refine o1 80 2 Tryz.func102 fun w0 S=>?_
 refine s2 (mB (k:=nl (sq (sq ?_))))
 refine AG.joinR (fun s=>∃ q,q≤k∧∃ (x0_0:ByteArray),∃ (x0_1:ByteArray),∃ (x0_2:Int),∃ (x0_3:ByteArray),∃ (x0_4:Int),∃ (x0_5:Int),∃ x0_6 x0_7 x0_8 x32,spec_l09One.j0 q x0_6 x0_7 x0_8 x32=some r∧s=St.of [(0,.c (.d (.ro [.v (.string x0_0),.v (.string x0_1),.v (.int .i64 x0_2),.v (.string x0_3),.v (.int .i64 x0_4),.v (.int .i64 x0_5),.v (.int .i64 x0_6),.v (.int .i64 x0_7),.row 147 (x0_8.map c146)]))),(32,vB x32)] []) ?_ ?_
 ·skip
  refine rg (mv (vO [_,_,_,_,_,_,_,_,_]) (k:=nv (vO [_,_,_,_,_,_,_,_,_]) (k:=jf (cells':=[_,_,_,_,_,_,_,_,_]) D79_0 (k:=ov (vS _) T9 (k:=?_)))))
  obtain ⟨t1,e2,H⟩:=bo H
  refine cr rfl (spec_l01Name.ok e2) (qd qn) (k:=uN (k:=mB (k:=?_)))
  rcases ei H with ⟨h3,H⟩|⟨h3,H⟩
  ·iterate 6 refine sk (cn (bf h3)) (k:=?_)
   refine pB (cn (bf h3)) (k:=mB (k:=?_))
   iterate 6 refine sk rfl (k:=?_)
   refine pB rfl (k:=mB (k:=?_))
   iterate 5 refine sk rfl (k:=?_)
   refine pB rfl (k:=nl ?_)
   exact CanR.mk id ⟨_,(by omega),_,_,_,_,_,_,_,_,_,_,H,rfl⟩ ⟨rfl,rfl,trivial⟩ trivial rfl
  refine mv (vO [_,_,_,_,_,_,_,_,_]) (hg:=gy (cn h3)) (k:=nv (vO [_,_,_,_,_,_,_,_,_]) (hg:=gy (cn h3)) (k:=jf (cells':=[_,_,_,_,_,_,_,_]) D79_1 (hg:=gy (cn h3)) (k:=ov (vS _) T9 (hg:=gy (cn h3)) (k:=?_))))
  obtain ⟨t4,e5,H⟩:=bo H
  refine cr rfl (spec_l01Name.ok e5) (qd qn) (hg:=gy (cn h3)) (k:=uN (hg:=gy (cn h3)) (k:=qB (cn h3) (k:=mB (k:=?_))))
  rcases ei H with ⟨h6,H⟩|⟨h6,H⟩
  ·iterate 6 refine sk (cn (bf h6)) (k:=?_)
   refine pB (cn (bf h6)) (k:=mB (k:=?_))
   iterate 5 refine sk rfl (k:=?_)
   refine pB rfl (k:=nl ?_)
   exact CanR.mk id ⟨_,(by omega),_,_,_,_,_,_,_,_,_,_,H,rfl⟩ ⟨rfl,rfl,trivial⟩ trivial rfl
  refine mv (vO [_,_,_,_,_,_,_,_,_]) (hg:=gy (cn h6)) (k:=nv (vO [_,_,_,_,_,_,_,_,_]) (hg:=gy (cn h6)) (k:=jf (cells':=[_,_,_,_,_,_,_]) D79_2 (hg:=gy (cn h6)) (k:=oI T2 (hg:=gy (cn h6)) (k:=?_))))
  obtain ⟨t7,e8,H⟩:=bo H
  refine cr rfl (spec_l00In.ok e8) (qd (qd (qd qn))) (hg:=gy (cn h6)) (k:=uN (hg:=gy (cn h6)) (k:=qB (cn h6) (k:=mB (k:=?_))))
  rcases ei H with ⟨h9,H⟩|⟨h9,H⟩
  ·iterate 5 refine sk (cn (bf h9)) (k:=?_)
   refine pB (cn (bf h9)) (k:=nl ?_)
   exact CanR.mk id ⟨_,(by omega),_,_,_,_,_,_,_,_,_,_,H,rfl⟩ ⟨rfl,rfl,trivial⟩ trivial rfl
  refine mv (vO [_,_,_,_,_,_,_,_,_]) (hg:=gy (cn h9)) (k:=nv (vO [_,_,_,_,_,_,_,_,_]) (hg:=gy (cn h9)) (k:=jf (cells':=[_,_,_,_,_,_]) D79_3 (hg:=gy (cn h9)) (k:=?_)))
  obtain ⟨t10,e11,H⟩:=bo H
  refine cr rfl (spec_l07Ok.ok e11) (qc (rT [.v (.string a0_3),.v (.int .i64 a0_4),.v (.int .i64 a0_5)] [.v (.int .i64 a0_6),.v (.int .i64 a0_7),.row 147 (l0_8.map c146)] rQ) qn) (hg:=gy (cn h9)) (k:=uN (hg:=gy (cn h9)) (k:=qB (cn h9) (k:=nl ?_)))
  exact CanR.mk id ⟨_,(by omega),_,_,_,_,_,_,_,_,_,_,H,rfl⟩ ⟨rfl,rfl,trivial⟩ trivial rfl
 clear H
 rintro _ ⟨k,hj0,x0_0,x0_1,x0_2,x0_3,x0_4,x0_5,x0_6,x0_7,x0_8,x32,H,rfl⟩
 rcases k with _|k
 cases H
 rw [spec_l09One.j0] at H
 rcases ie H with ⟨h12,H⟩|⟨h12,H⟩
 ·refine ay h12 ?_
  cases H
  exact s2 (mB (k:=nl (rt r1)))
 refine an (bf h12) ?_
 refine sp (sq (sq ?_))
 refine AG.joinR (fun s=>∃ q,q≤k∧∃ (x0_0:ByteArray),∃ (x0_1:ByteArray),∃ (x0_2:Int),∃ (x0_3:ByteArray),∃ (x0_4:Int),∃ (x0_5:Int),∃ x0_6 x0_7 x0_8 x54,spec_l09One.j1 q x0_6 x0_7 x0_8 x54=some r∧s=St.of [(0,.c (.d (.ro [.v (.string x0_0),.v (.string x0_1),.v (.int .i64 x0_2),.v (.string x0_3),.v (.int .i64 x0_4),.v (.int .i64 x0_5),.v (.int .i64 x0_6),.v (.int .i64 x0_7),.row 147 (x0_8.map c146)]))),(54,vB x54)] []) ?_ ?_
 ·skip
  refine rg (mv (vO [_,_,_,_,_,_,_,_,_]) (k:=nv (vO [_,_,_,_,_,_,_,_,_]) (k:=jf (cells':=[_,_,_]) D79_4 (k:=oI T2 (k:=?_)))))
  obtain ⟨t13,e14,H⟩:=bo H
  refine cr rfl (spec_l00In.ok e14) (qd (qd (qd qn))) (k:=uN (k:=mB (k:=?_)))
  rcases ei H with ⟨h15,H⟩|⟨h15,H⟩
  ·iterate 6 refine sk (cn (bf h15)) (k:=?_)
   refine pB (cn (bf h15)) (k:=mB (k:=?_))
   iterate 6 refine sk rfl (k:=?_)
   refine pB rfl (k:=nl ?_)
   exact CanR.mk id ⟨_,(by omega),_,_,_,_,_,_,_,_,_,_,H,rfl⟩ ⟨rfl,rfl,trivial⟩ trivial rfl
  refine mv (vO [_,_,_,_,_,_,_,_,_]) (hg:=gy (cn h15)) (k:=nv (vO [_,_,_,_,_,_,_,_,_]) (hg:=gy (cn h15)) (k:=jf (cells':=[_,_]) D79_5 (hg:=gy (cn h15)) (k:=oI T2 (hg:=gy (cn h15)) (k:=?_))))
  obtain ⟨t16,e17,H⟩:=bo H
  refine cr rfl (spec_l00In.ok e17) (qd (qd (qd qn))) (hg:=gy (cn h15)) (k:=uN (hg:=gy (cn h15)) (k:=qB (cn h15) (k:=mB (k:=?_))))
  rcases ie H with ⟨h18,H⟩|⟨h18,H⟩
  ·refine mv (vO [_,_,_,_,_,_,_,_,_]) (hg:=gy (cn h18)) (k:=nv (vO [_,_,_,_,_,_,_,_,_]) (hg:=gy (cn h18)) (k:=jf (cells':=[_]) D79_6 (hg:=gy (cn h18)) (k:=oR T77 (hg:=gy (cn h18)) (k:=jl Tryz.underlying77 (hg:=gy (cn h18)) (k:=iG (hg:=gy (cn h18)) (k:=qB (cn h18) (k:=nl ?_)))))))
   exact CanR.mk id ⟨_,(by omega),_,_,_,_,_,_,_,_,_,_,H,rfl⟩ ⟨rfl,rfl,trivial⟩ trivial rfl
  iterate 6 refine sk (cn (bf h18)) (k:=?_)
  refine pB (cn (bf h18)) (k:=nl ?_)
  exact CanR.mk id ⟨_,(by omega),_,_,_,_,_,_,_,_,_,_,H,rfl⟩ ⟨rfl,rfl,trivial⟩ trivial rfl
 clear H
 rintro _ ⟨k,hj1,x0_0,x0_1,x0_2,x0_3,x0_4,x0_5,x0_6,x0_7,x0_8,x54,H,rfl⟩
 rcases k with _|k
 cases H
 rw [spec_l09One.j1] at H
 rcases ie H with ⟨h19,H⟩|⟨h19,H⟩
 ·refine ay h19 ?_
  cases H
  exact s2 (mB (k:=nl (rt r1)))
 refine an (bf h19) ?_
 refine sp (sq (s2 (mI (k:=nl (bk (lp ?_))))))
 obtain ⟨K0,hK0,gK0⟩:=kk k
 refine AGr.canon id (AGr.loopI (n:=k) (fun k s=>k≤K0∧∃ (x0_0:ByteArray),∃ (x0_1:ByteArray),∃ (x0_2:Int),∃ (x0_3:ByteArray),∃ (x0_4:Int),∃ (x0_5:Int),∃ x0_6 x0_7 x0_8 x3,spec_l09One.l0 k x0_6 x0_7 x0_8 x3=some r∧s=St.of [(0,.c (.d (.ro [.v (.string x0_0),.v (.string x0_1),.v (.int .i64 x0_2),.v (.string x0_3),.v (.int .i64 x0_4),.v (.int .i64 x0_5),.v (.int .i64 x0_6),.v (.int .i64 x0_7),.row 147 (x0_8.map c146)]))),(3,vI x3)] []) ⟨hK0,_,_,_,_,_,_,_,_,_,_,H,rfl⟩ ?_ ?_) ⟨rfl,rfl,trivial⟩ trivial rfl
 ·rintro _ ⟨_,_,_,_,_,_,_,_,_,_,_,H,_⟩
  cases H
 clear H hK0
 rintro k ih0 _ ⟨hK0,x0_0,x0_1,x0_2,x0_3,x0_4,x0_5,x0_6,x0_7,x0_8,x3,H,rfl⟩
 unfold spec_l09One.l0 at H
 refine sq (s2 (mI (k:=mv (vO [_,_,_,_,_,_,_,_,_]) (k:=nv (vO [_,_,_,_,_,_,_,_,_]) (k:=jf (cells':=[_]) D79_6 (k:=oR T77 (k:=jl Tryz.underlying77 (k:=iL (k:=nl ?_)))))))))
 rcases ei H with ⟨h20,H⟩|⟨h20,H⟩
 ·refine an (df h20) ?_
  cases H
  exact ex (s2 (mB (k:=nl (rt r1))))
 refine ay (dt h20) ?_
 refine sp (sq (bk (s2 (mv (vO [_,_,_,_,_,_,_,_,_]) (k:=nv (vO [_,_,_,_,_,_,_,_,_]) (k:=jf (cells':=[_]) D79_6 (k:=oR T77 (k:=mI (k:=?_)))))))))
 obtain ⟨h21,H⟩:=io H
 refine ixx ⟨h21,h20⟩ T147 Tryz.underlying77 (R146 h21 h20) (k:=mv (vO [_,_,_,_,_,_,_,_,_]) (k:=nv (vO [_,_,_,_,_,_,_,_,_]) (k:=jf (cells':=[_,_,_]) D79_4 (k:=oI T2 (k:=mv (vO [_,_,_,_,_,_,_,_,_]) (k:=nv (vO [_,_,_,_,_,_,_,_,_]) (k:=jf (cells':=[_,_]) D79_5 (k:=oI T2 (k:=?_)))))))))
 obtain ⟨t22,e23,H⟩:=bo H
 refine cr rfl (spec_l09Box.ok e23) (qd (qd (qd qn))) (k:=uN (k:=?_))
 refine RA.nil (fun _=>by kernel_rfl) ?_
 rcases ei H with ⟨h24,H⟩|⟨h24,H⟩
 ·refine ay (cn (bf h24)) ?_
  cases H
  exact s2 (mB (k:=nl (rt r1)))
 refine an (cn h24) ?_
 refine sp (rg (mI (k:=iA (k:=mI (k:=nl ?_)))))
 exact AGr.canon id (ih0 _ (by omega) _ ⟨by omega,_,_,_,_,_,_,_,_,_,_,H,rfl⟩) ⟨rfl,rfl,trivial⟩ trivial rfl
def spec_l09Ok.l0:Nat→List S78→Int→Option (Bool)
 | 0,_,_=>none
 | k+1,x0,x3=>if x3 < (x0.length:Int) then (if 0≤x3 then ((spec_l09One.f k ((rd78 x0 x3).f0) ((rd78 x0 x3).f1) ((rd78 x0 x3).f2) ((rd78 x0 x3).f3.f0) ((rd78 x0 x3).f3.f1) ((rd78 x0 x3).f3.f2) ((rd78 x0 x3).f4) ((rd78 x0 x3).f5) ((rd78 x0 x3).f6)).bind fun t3=>(if t3=true then (if x3 > 0 then (if 0≤(wrap64 (x3 - 1)) then (if (wrap64 (x3 - 1)) < (x0.length:Int) then (if (Op.bytesLess (((rd78 x0 (wrap64 (x3 - 1))).f0).toList) (((rd78 x0 x3).f0).toList))=true then (spec_l09Ok.l0 k x0 (wrap64 (x3+1))) else (some false)) else (none)) else (none)) else (spec_l09Ok.l0 k x0 (wrap64 (x3+1)))) else (some false))) else (none)) else (some (decide ((x0.length:Int)≤16)))
def spec_l09Ok.f (k:Nat) (l0:List S78):Option (Bool):=spec_l09Ok.l0 k l0 0
theorem spec_l09Ok.ok {k:Nat} {l0:List S78} {r:Bool} (H:spec_l09Ok.f k l0=some r):OkF Tryz.prog 69 [vR 79 (l0.map c78)] [] (vB r) []:=by
 unfold spec_l09Ok.f at H
 refine o1 36 2 Tryz.func69 fun w0 S=>?_
 refine s2 (mB (k:=nl (sq (s2 (mI (k:=nl (bk (lp ?_))))))))
 obtain ⟨K0,hK0,gK0⟩:=kk k
 refine AGr.canon id (AGr.loopI (n:=k) (fun k s=>k≤K0∧∃ x0 x3,spec_l09Ok.l0 k x0 x3=some r∧s=St.of [(0,vR 79 (x0.map c78)),(3,vI x3)] []) ⟨hK0,_,_,H,rfl⟩ ?_ ?_) ⟨rfl,rfl,trivial⟩ trivial rfl
 ·rintro _ ⟨_,_,_,H,_⟩
  cases H
 clear H hK0
 rintro k ih0 _ ⟨hK0,x0,x3,H,rfl⟩
 unfold spec_l09Ok.l0 at H
 refine sq (s2 (mI (k:=mR (k:=jl Tryz.underlying45 (k:=iL (k:=nl ?_))))))
 rcases ei H with ⟨h1,H⟩|⟨h1,H⟩
 ·refine an (df h1) ?_
  cases H
  exact ex (s2 (mR (k:=jl Tryz.underlying45 (k:=iQ (k:=mB (k:=nl (rt r1)))))))
 refine ay (dt h1) ?_
 refine sp (sq (bk (s2 (mR (k:=mI (k:=?_))))))
 obtain ⟨h2,H⟩:=io H
 refine ixx ⟨h2,h1⟩ T79 Tryz.underlying45 (R78 h2 h1) (k:=?_)
 obtain ⟨t3,e4,H⟩:=bo H
 refine cr rfl (spec_l09One.ok e4) (qd qn) (k:=uN (k:=mB (k:=?_)))
 rcases ei H with ⟨h5,H⟩|⟨h5,H⟩
 ·iterate 3 refine sk (cn (bf h5)) (k:=?_)
  iterate 12 refine RA.skip0 rfl rfl rfl rfl rfl ?_
  refine sk (cn (bf h5)) (k:=pB (cn (bf h5)) (k:=?_))
  refine RA.nil (fun _=>by kernel_rfl) ?_
  refine ay rfl ?_
  cases H
  exact s2 (mB (k:=nl (rt r1)))
 refine mI (hg:=gy (cn h5)) (k:=iG (hg:=gy (cn h5)) (k:=mB (hg:=gy (cn h5)) (k:=?_)))
 rcases ei H with ⟨h6,H⟩|⟨h6,H⟩
 ·iterate 12 refine sk (df h6) (k:=?_)
  refine qB (df h6) (hg:=gy (cn h5)) (k:=qB (cn h5) (k:=?_))
  refine RA.nil (fun _=>by kernel_rfl) ?_
  refine an rfl ?_
  refine sp (rg (mI (k:=iA (k:=mI (k:=nl ?_)))))
  exact AGr.canon id (ih0 _ (by omega) _ ⟨by omega,_,_,H,rfl⟩) ⟨rfl,rfl,trivial⟩ trivial rfl
 refine mR (hg:=gy (dt h6)) (k:=mI (hg:=gy (dt h6)) (k:=iS (hg:=gy (dt h6)) (k:=?_)))
 obtain ⟨h7,H⟩:=io H
 obtain ⟨h8,H⟩:=io H
 refine ixx ⟨h7,h8⟩ T79 Tryz.underlying45 (R78 h7 h8) (hg:=gy (dt h6)) (k:=jf (cells':=[_,_,_,_,_,_,_,_,_]) D79_0 (hg:=gy (dt h6)) (k:=ov (vS _) T9 (hg:=gy (dt h6)) (k:=mR (hg:=gy (dt h6)) (k:=mI (hg:=gy (dt h6)) (k:=ixx ⟨h2,h1⟩ T79 Tryz.underlying45 (R78 h2 h1) (hg:=gy (dt h6)) (k:=jf (cells':=[_,_,_,_,_,_,_,_,_]) D79_0 (hg:=gy (dt h6)) (k:=ov (vS _) T9 (hg:=gy (dt h6)) (k:=bB (!(Op.bytesLess (((rd78 x0 (wrap64 (x3 - 1))).f0).toList) (((rd78 x0 x3).f0).toList))) (hg:=gy (dt h6)) (k:=pB (dt h6) (hg:=gy (cn h5)) (k:=qB (cn h5) (k:=?_)))))))))))
 refine RA.nil (fun _=>by kernel_rfl) ?_
 rcases ei H with ⟨h9,H⟩|⟨h9,H⟩
 ·refine AG.yes rfl (by rw [bf h9]; rfl) ?_
  cases H
  exact s2 (mB (k:=nl (rt r1)))
 refine AG.no rfl (by rw [show (Op.bytesLess (((rd78 x0 (wrap64 (x3 - 1))).f0).toList) (((rd78 x0 x3).f0).toList))=true from h9]; rfl) ?_
 refine sp (rg (mI (k:=iA (k:=mI (k:=nl ?_)))))
 exact AGr.canon id (ih0 _ (by omega) _ ⟨by omega,_,_,H,rfl⟩) ⟨rfl,rfl,trivial⟩ trivial rfl
def spec_l11Rules.f (a0_0 a0_1 a0_2 a0_3:Int):Option (Bool):=(spec_l00In.f a0_0 0 500).bind fun t1=>(if t1=true then ((spec_l00In.f a0_1 0 500).bind fun t4=>(if t4=true then ((spec_l00In.f a0_2 0 90).bind fun t7=>(if t7=true then ((spec_l00In.f a0_3 0 100).bind fun t10=>(some t10)) else (some false))) else (some false))) else (some false))
theorem spec_l11Rules.ok {a0_0 a0_1 a0_2 a0_3:Int} {r:Bool} (H:spec_l11Rules.f a0_0 a0_1 a0_2 a0_3=some r):OkF Tryz.prog 70 [.c (.d (.ro [.v (.int .i64 a0_0),.v (.int .i64 a0_1),.v (.int .i64 a0_2),.v (.int .i64 a0_3)]))] [] (vB r) []:=by
 unfold spec_l11Rules.f at H
 refine o1 29 2 Tryz.func70 fun w0 S=>?_
 refine s2 (mB (k:=nl (s2 (mv (vO [_,_,_,_]) (k:=nv (vO [_,_,_,_]) (k:=jf (cells':=[_,_,_,_]) D49_0 (k:=oI T2 (k:=?_))))))))
 obtain ⟨t1,e2,H⟩:=bo H
 refine cr rfl (spec_l00In.ok e2) (qd (qd (qd qn))) (k:=mB (k:=?_))
 rcases ei H with ⟨h3,H⟩|⟨h3,H⟩
 ·iterate 5 refine sk (bf h3) (k:=?_)
  refine qB (bf h3) (k:=mB (k:=?_))
  iterate 5 refine sk rfl (k:=?_)
  refine qB rfl (k:=mB (k:=?_))
  iterate 5 refine sk rfl (k:=?_)
  cases H
  exact qB rfl (k:=mB (k:=nl (rt r1)))
 refine mv (vO [_,_,_,_]) (hg:=gy h3) (k:=nv (vO [_,_,_,_]) (hg:=gy h3) (k:=jf (cells':=[_,_,_]) D49_1 (hg:=gy h3) (k:=oI T2 (hg:=gy h3) (k:=?_))))
 obtain ⟨t4,e5,H⟩:=bo H
 refine cr rfl (spec_l00In.ok e5) (qd (qd (qd qn))) (hg:=gy h3) (k:=pB h3 (k:=mB (k:=?_)))
 rcases ei H with ⟨h6,H⟩|⟨h6,H⟩
 ·iterate 5 refine sk (bf h6) (k:=?_)
  refine qB (bf h6) (k:=mB (k:=?_))
  iterate 5 refine sk rfl (k:=?_)
  cases H
  exact qB rfl (k:=mB (k:=nl (rt r1)))
 refine mv (vO [_,_,_,_]) (hg:=gy h6) (k:=nv (vO [_,_,_,_]) (hg:=gy h6) (k:=jf (cells':=[_,_]) D49_2 (hg:=gy h6) (k:=oI T2 (hg:=gy h6) (k:=?_))))
 obtain ⟨t7,e8,H⟩:=bo H
 refine cr rfl (spec_l00In.ok e8) (qd (qd (qd qn))) (hg:=gy h6) (k:=pB h6 (k:=mB (k:=?_)))
 rcases ei H with ⟨h9,H⟩|⟨h9,H⟩
 ·iterate 5 refine sk (bf h9) (k:=?_)
  cases H
  exact qB (bf h9) (k:=mB (k:=nl (rt r1)))
 refine mv (vO [_,_,_,_]) (hg:=gy h9) (k:=nv (vO [_,_,_,_]) (hg:=gy h9) (k:=jf (cells':=[_]) D49_3 (hg:=gy h9) (k:=oI T2 (hg:=gy h9) (k:=?_))))
 obtain ⟨t10,e11,H⟩:=bo H
 cases H
 exact cr rfl (spec_l00In.ok e11) (qd (qd (qd qn))) (hg:=gy h9) (k:=pB h9 (k:=mB (k:=nl (rt r1))))
def spec_l11Ask.f (k:Nat) (a0_0 a0_1:Int) (l0_2:List S142) (l0_3:List S154) (l0_4:List S66) (l1:List S78) (a2_0 a2_1 a2_2 a2_3:Int):Option (Int):=(spec_l08Ok.f k a0_0 a0_1 l0_2 l0_3 l0_4).bind fun t1=>(if t1=true then ((spec_l09Ok.f k l1).bind fun t4=>(if t4=true then ((spec_l11Rules.f a2_0 a2_1 a2_2 a2_3).bind fun t7=>(if t7=true then (some 0) else (some 1))) else (some 1))) else (some 1))
theorem spec_l11Ask.ok {k:Nat} {a0_0 a0_1:Int} {l0_2:List S142} {l0_3:List S154} {l0_4:List S66} {l1:List S78} {a2_0 a2_1 a2_2 a2_3 r:Int} (H:spec_l11Ask.f k a0_0 a0_1 l0_2 l0_3 l0_4 l1 a2_0 a2_1 a2_2 a2_3=some r):OkF Tryz.prog 37 [.c (.d (.ro [.v (.int .i64 a0_0),.v (.int .i64 a0_1),.row 143 (l0_2.map c142),.row 158 (l0_3.map c154),.row 76 (l0_4.map c66)])),vR 79 (l1.map c78),.c (.d (.ro [.v (.int .i64 a2_0),.v (.int .i64 a2_1),.v (.int .i64 a2_2),.v (.int .i64 a2_3)]))] [] (vI r) []:=by
 unfold spec_l11Ask.f at H
 refine o1 20 6 Tryz.func37 fun w0 S=>?_
 refine s2 (mI (k:=nl (sq (s2 (mv (vO [_,_,_,_,_]) (k:=?_))))))
 obtain ⟨t1,e2,H⟩:=bo H
 refine cr rfl (spec_l08Ok.ok e2) (qd qn) (k:=uN (k:=mB (k:=?_)))
 rcases ei H with ⟨h3,H⟩|⟨h3,H⟩
 ·iterate 3 refine sk (cn (bf h3)) (k:=?_)
  refine pB (cn (bf h3)) (k:=mB (k:=?_))
  iterate 3 refine sk rfl (k:=?_)
  refine pB rfl (k:=nl ?_)
  refine ay rfl ?_
  cases H
  exact s2 (mI (k:=nl (rt r1)))
 refine mR (hg:=gy (cn h3)) (k:=?_)
 obtain ⟨t4,e5,H⟩:=bo H
 refine cr rfl (spec_l09Ok.ok e5) (qd qn) (hg:=gy (cn h3)) (k:=uN (hg:=gy (cn h3)) (k:=qB (cn h3) (k:=mB (k:=?_))))
 rcases ei H with ⟨h6,H⟩|⟨h6,H⟩
 ·iterate 3 refine sk (cn (bf h6)) (k:=?_)
  refine pB (cn (bf h6)) (k:=nl ?_)
  refine ay rfl ?_
  cases H
  exact s2 (mI (k:=nl (rt r1)))
 refine mv (vO [_,_,_,_]) (hg:=gy (cn h6)) (k:=?_)
 obtain ⟨t7,e8,H⟩:=bo H
 refine cr rfl (spec_l11Rules.ok e8) (qd qn) (hg:=gy (cn h6)) (k:=uN (hg:=gy (cn h6)) (k:=qB (cn h6) (k:=nl ?_)))
 rcases ie H with ⟨h9,H⟩|⟨h9,H⟩
 ·refine an (cn h9) ?_
  cases H
  exact sp (s2 (mI (k:=nl (rt r1))))
 refine ay (cn (bf h9)) ?_
 cases H
 exact s2 (mI (k:=nl (rt r1)))
def spec_l03Turn.f (a0:Int):Option (Bool):=(spec_l00In.f a0 0 7).bind fun t1=>(some t1)
theorem spec_l03Turn.ok {a0:Int} {r:Bool} (H:spec_l03Turn.f a0=some r):OkF Tryz.prog 104 [vI a0] [] (vB r) []:=by
 unfold spec_l03Turn.f at H
 refine o1 5 2 Tryz.func104 fun w0 S=>?_
 refine s2 (mB (k:=nl (s2 (mI (k:=?_)))))
 obtain ⟨t1,e2,H⟩:=bo H
 cases H
 exact cr rfl (spec_l00In.ok e2) (qd (qd (qd qn))) (k:=mB (k:=nl (rt r1)))
def spec_l11One.f (a0_0 a0_1 a0_2 a0_3 a0_4:Int):Option (Bool):=(spec_l00In.f a0_0 0 23).bind fun t1=>(if t1=true then ((spec_l00In.f a0_1 0 15).bind fun t4=>(if t4=true then ((spec_l00In.f a0_2 0 20000).bind fun t7=>(if t7=true then ((spec_l00In.f a0_3 0 20000).bind fun t10=>(if t10=true then ((spec_l03Turn.f a0_4).bind fun t13=>(some t13)) else (some false))) else (some false))) else (some false))) else (some false))
theorem spec_l11One.ok {a0_0 a0_1 a0_2 a0_3 a0_4:Int} {r:Bool} (H:spec_l11One.f a0_0 a0_1 a0_2 a0_3 a0_4=some r):OkF Tryz.prog 71 [.c (.d (.ro [.v (.int .i64 a0_0),.v (.int .i64 a0_1),.v (.int .i64 a0_2),.v (.int .i64 a0_3),.v (.int .i64 a0_4)]))] [] (vB r) []:=by
 unfold spec_l11One.f at H
 refine o1 36 2 Tryz.func71 fun w0 S=>?_
 refine s2 (mB (k:=nl (s2 (mv (vO [_,_,_,_,_]) (k:=nv (vO [_,_,_,_,_]) (k:=jf (cells':=[_,_,_,_,_]) D82_0 (k:=oI T2 (k:=?_))))))))
 obtain ⟨t1,e2,H⟩:=bo H
 refine cr rfl (spec_l00In.ok e2) (qd (qd (qd qn))) (k:=mB (k:=?_))
 rcases ei H with ⟨h3,H⟩|⟨h3,H⟩
 ·iterate 5 refine sk (bf h3) (k:=?_)
  refine qB (bf h3) (k:=mB (k:=?_))
  iterate 5 refine sk rfl (k:=?_)
  refine qB rfl (k:=mB (k:=?_))
  iterate 5 refine sk rfl (k:=?_)
  refine qB rfl (k:=mB (k:=?_))
  iterate 5 refine sk rfl (k:=?_)
  cases H
  exact qB rfl (k:=mB (k:=nl (rt r1)))
 refine mv (vO [_,_,_,_,_]) (hg:=gy h3) (k:=nv (vO [_,_,_,_,_]) (hg:=gy h3) (k:=jf (cells':=[_,_,_,_]) D82_1 (hg:=gy h3) (k:=oI T2 (hg:=gy h3) (k:=?_))))
 obtain ⟨t4,e5,H⟩:=bo H
 refine cr rfl (spec_l00In.ok e5) (qd (qd (qd qn))) (hg:=gy h3) (k:=pB h3 (k:=mB (k:=?_)))
 rcases ei H with ⟨h6,H⟩|⟨h6,H⟩
 ·iterate 5 refine sk (bf h6) (k:=?_)
  refine qB (bf h6) (k:=mB (k:=?_))
  iterate 5 refine sk rfl (k:=?_)
  refine qB rfl (k:=mB (k:=?_))
  iterate 5 refine sk rfl (k:=?_)
  cases H
  exact qB rfl (k:=mB (k:=nl (rt r1)))
 refine mv (vO [_,_,_,_,_]) (hg:=gy h6) (k:=nv (vO [_,_,_,_,_]) (hg:=gy h6) (k:=jf (cells':=[_,_,_]) D82_2 (hg:=gy h6) (k:=oI T2 (hg:=gy h6) (k:=?_))))
 obtain ⟨t7,e8,H⟩:=bo H
 refine cr rfl (spec_l00In.ok e8) (qd (qd (qd qn))) (hg:=gy h6) (k:=pB h6 (k:=mB (k:=?_)))
 rcases ei H with ⟨h9,H⟩|⟨h9,H⟩
 ·iterate 5 refine sk (bf h9) (k:=?_)
  refine qB (bf h9) (k:=mB (k:=?_))
  iterate 5 refine sk rfl (k:=?_)
  cases H
  exact qB rfl (k:=mB (k:=nl (rt r1)))
 refine mv (vO [_,_,_,_,_]) (hg:=gy h9) (k:=nv (vO [_,_,_,_,_]) (hg:=gy h9) (k:=jf (cells':=[_,_]) D82_3 (hg:=gy h9) (k:=oI T2 (hg:=gy h9) (k:=?_))))
 obtain ⟨t10,e11,H⟩:=bo H
 refine cr rfl (spec_l00In.ok e11) (qd (qd (qd qn))) (hg:=gy h9) (k:=pB h9 (k:=mB (k:=?_)))
 rcases ei H with ⟨h12,H⟩|⟨h12,H⟩
 ·iterate 5 refine sk (bf h12) (k:=?_)
  cases H
  exact qB (bf h12) (k:=mB (k:=nl (rt r1)))
 refine mv (vO [_,_,_,_,_]) (hg:=gy h12) (k:=nv (vO [_,_,_,_,_]) (hg:=gy h12) (k:=jf (cells':=[_]) D82_4 (hg:=gy h12) (k:=oI T2 (hg:=gy h12) (k:=?_))))
 obtain ⟨t13,e14,H⟩:=bo H
 cases H
 exact cr rfl (spec_l03Turn.ok e14) (qd qn) (hg:=gy h12) (k:=pB h12 (k:=mB (k:=nl (rt r1))))
def spec_l11Ok.l0:Nat→List S81→Int→Option (Bool)
 | 0,_,_=>none
 | k+1,x0,x3=>if x3 < (x0.length:Int) then (if 0≤x3 then ((spec_l11One.f ((rd81 x0 x3).f0) ((rd81 x0 x3).f1) ((rd81 x0 x3).f2) ((rd81 x0 x3).f3) ((rd81 x0 x3).f4)).bind fun t3=>(if t3=true then (if x3 > 0 then (if 0≤(wrap64 (x3 - 1)) then (if (wrap64 (x3 - 1)) < (x0.length:Int) then (if ((rd81 x0 (wrap64 (x3 - 1))).f0)≥((rd81 x0 x3).f0) then (some false) else (spec_l11Ok.l0 k x0 (wrap64 (x3+1)))) else (none)) else (none)) else (spec_l11Ok.l0 k x0 (wrap64 (x3+1)))) else (some false))) else (none)) else (some (decide ((x0.length:Int)≤24)))
def spec_l11Ok.f (k:Nat) (l0:List S81):Option (Bool):=spec_l11Ok.l0 k l0 0
theorem spec_l11Ok.ok {k:Nat} {l0:List S81} {r:Bool} (H:spec_l11Ok.f k l0=some r):OkF Tryz.prog 38 [vR 82 (l0.map c81)] [] (vB r) []:=by
 unfold spec_l11Ok.f at H
 refine o1 36 2 Tryz.func38 fun w0 S=>?_
 refine s2 (mB (k:=nl (sq (s2 (mI (k:=nl (bk (lp ?_))))))))
 obtain ⟨K0,hK0,gK0⟩:=kk k
 refine AGr.canon id (AGr.loopI (n:=k) (fun k s=>k≤K0∧∃ x0 x3,spec_l11Ok.l0 k x0 x3=some r∧s=St.of [(0,vR 82 (x0.map c81)),(3,vI x3)] []) ⟨hK0,_,_,H,rfl⟩ ?_ ?_) ⟨rfl,rfl,trivial⟩ trivial rfl
 ·rintro _ ⟨_,_,_,H,_⟩
  cases H
 clear H hK0
 rintro k ih0 _ ⟨hK0,x0,x3,H,rfl⟩
 unfold spec_l11Ok.l0 at H
 refine sq (s2 (mI (k:=mR (k:=jl Tryz.underlying47 (k:=iL (k:=nl ?_))))))
 rcases ei H with ⟨h1,H⟩|⟨h1,H⟩
 ·refine an (df h1) ?_
  cases H
  exact ex (s2 (mR (k:=jl Tryz.underlying47 (k:=iQ (k:=mB (k:=nl (rt r1)))))))
 refine ay (dt h1) ?_
 refine sp (sq (bk (s2 (mR (k:=mI (k:=?_))))))
 obtain ⟨h2,H⟩:=io H
 refine ixx ⟨h2,h1⟩ T82 Tryz.underlying47 (R81 h2 h1) (k:=?_)
 obtain ⟨t3,e4,H⟩:=bo H
 refine cr rfl (spec_l11One.ok e4) (qd qn) (k:=uN (k:=mB (k:=?_)))
 rcases ei H with ⟨h5,H⟩|⟨h5,H⟩
 ·iterate 3 refine sk (cn (bf h5)) (k:=?_)
  iterate 12 refine RA.skip0 rfl rfl rfl rfl rfl ?_
  refine sk (cn (bf h5)) (k:=pB (cn (bf h5)) (k:=?_))
  refine RA.nil (fun _=>by kernel_rfl) ?_
  refine ay rfl ?_
  cases H
  exact s2 (mB (k:=nl (rt r1)))
 refine mI (hg:=gy (cn h5)) (k:=iG (hg:=gy (cn h5)) (k:=mB (hg:=gy (cn h5)) (k:=?_)))
 rcases ei H with ⟨h6,H⟩|⟨h6,H⟩
 ·iterate 12 refine sk (df h6) (k:=?_)
  refine qB (df h6) (hg:=gy (cn h5)) (k:=qB (cn h5) (k:=?_))
  refine RA.nil (fun _=>by kernel_rfl) ?_
  refine an rfl ?_
  refine sp (rg (mI (k:=iA (k:=mI (k:=nl ?_)))))
  exact AGr.canon id (ih0 _ (by omega) _ ⟨by omega,_,_,H,rfl⟩) ⟨rfl,rfl,trivial⟩ trivial rfl
 refine mR (hg:=gy (dt h6)) (k:=mI (hg:=gy (dt h6)) (k:=iS (hg:=gy (dt h6)) (k:=?_)))
 obtain ⟨h7,H⟩:=io H
 obtain ⟨h8,H⟩:=io H
 refine ixx ⟨h7,h8⟩ T82 Tryz.underlying47 (R81 h7 h8) (hg:=gy (dt h6)) (k:=jf (cells':=[_,_,_,_,_]) D82_0 (hg:=gy (dt h6)) (k:=oI T2 (hg:=gy (dt h6)) (k:=mR (hg:=gy (dt h6)) (k:=mI (hg:=gy (dt h6)) (k:=ixx ⟨h2,h1⟩ T82 Tryz.underlying47 (R81 h2 h1) (hg:=gy (dt h6)) (k:=jf (cells':=[_,_,_,_,_]) D82_0 (hg:=gy (dt h6)) (k:=oI T2 (hg:=gy (dt h6)) (k:=iE (hg:=gy (dt h6)) (k:=pB (dt h6) (hg:=gy (cn h5)) (k:=qB (cn h5) (k:=?_)))))))))))
 refine RA.nil (fun _=>by kernel_rfl) ?_
 rcases ie H with ⟨h9,H⟩|⟨h9,H⟩
 ·refine ay (dt h9) ?_
  cases H
  exact s2 (mB (k:=nl (rt r1)))
 refine an (df h9) ?_
 refine sp (rg (mI (k:=iA (k:=mI (k:=nl ?_)))))
 exact AGr.canon id (ih0 _ (by omega) _ ⟨by omega,_,_,H,rfl⟩) ⟨rfl,rfl,trivial⟩ trivial rfl
def spec_l05Face.f (a0_0 a0_1:Int) (l0_2:List S142) (l0_3:List S154) (a1:Int):Option (Bool):=(spec_l00In.f a1 0 (wrap64 ((l0_3.length:Int) - 1))).bind fun t1=>(some t1)
theorem spec_l05Face.ok {a0_0 a0_1:Int} {l0_2:List S142} {l0_3:List S154} {a1:Int} {r:Bool} (H:spec_l05Face.f a0_0 a0_1 l0_2 l0_3 a1=some r):OkF Tryz.prog 72 [.c (.d (.ro [.v (.int .i64 a0_0),.v (.int .i64 a0_1),.row 143 (l0_2.map c142),.row 158 (l0_3.map c154)])),vI a1] [] (vB r) []:=by
 unfold spec_l05Face.f at H
 refine o1 13 4 Tryz.func72 fun w0 S=>?_
 refine s2 (mB (k:=nl (s2 (mI (k:=mv (vO [_,_,_,_]) (k:=nv (vO [_,_,_,_]) (k:=jf (cells':=[_]) D40_3 (k:=oR T38 (k:=jl Tryz.underlying38 (k:=iS (k:=?_)))))))))))
 obtain ⟨t1,e2,H⟩:=bo H
 cases H
 exact cr rfl (spec_l00In.ok e2) (qd (qd (qd qn))) (k:=mB (k:=nl (rt r1)))
def spec_l11Fits.l0:Nat→Int→Int→List S142→List S154→List S81→Int→Option (Bool)
 | 0,_,_,_,_,_,_=>none
 | k+1,x0_0,x0_1,x0_2,x0_3,x1,x5=>if x5 < (x1.length:Int) then (if 0≤x5 then ((spec_l05Face.f x0_0 x0_1 x0_2 x0_3 ((rd81 x1 x5).f0)).bind fun t3=>(if t3=true then (spec_l11Fits.l0 k x0_0 x0_1 x0_2 x0_3 x1 (wrap64 (x5+1))) else (some false))) else (none)) else (some true)
def spec_l11Fits.f (k:Nat) (a0_0 a0_1:Int) (l0_2:List S142) (l0_3:List S154) (l0_4:List S66) (l1:List S81):Option (Bool):=spec_l11Fits.l0 k a0_0 a0_1 l0_2 l0_3 l1 0
theorem spec_l11Fits.ok {k:Nat} {a0_0 a0_1:Int} {l0_2:List S142} {l0_3:List S154} {l0_4:List S66} {l1:List S81} {r:Bool} (H:spec_l11Fits.f k a0_0 a0_1 l0_2 l0_3 l0_4 l1=some r):OkF Tryz.prog 39 [.c (.d (.ro [.v (.int .i64 a0_0),.v (.int .i64 a0_1),.row 143 (l0_2.map c142),.row 158 (l0_3.map c154),.row 76 (l0_4.map c66)])),vR 82 (l1.map c81)] [] (vB r) []:=by
 unfold spec_l11Fits.f at H
 refine o1 22 4 Tryz.func39 fun w0 S=>?_
 refine s2 (mB (k:=nl (sq (s2 (mI (k:=nl (bk (lp ?_))))))))
 obtain ⟨K0,hK0,gK0⟩:=kk k
 refine AGr.canon id (AGr.loopI (n:=k) (fun k s=>k≤K0∧∃ x0_0 x0_1 x0_2 x0_3,∃ (x0_4:List S66),∃ x1 x5,spec_l11Fits.l0 k x0_0 x0_1 x0_2 x0_3 x1 x5=some r∧s=St.of [(0,.c (.d (.ro [.v (.int .i64 x0_0),.v (.int .i64 x0_1),.row 143 (x0_2.map c142),.row 158 (x0_3.map c154),.row 76 (x0_4.map c66)]))),(1,vR 82 (x1.map c81)),(5,vI x5)] []) ⟨hK0,_,_,_,_,_,_,_,H,rfl⟩ ?_ ?_) ⟨rfl,rfl,rfl,trivial⟩ trivial rfl
 ·rintro _ ⟨_,_,_,_,_,_,_,_,H,_⟩
  cases H
 clear H hK0
 rintro k ih0 _ ⟨hK0,x0_0,x0_1,x0_2,x0_3,x0_4,x1,x5,H,rfl⟩
 unfold spec_l11Fits.l0 at H
 refine sq (s2 (mI (k:=mR (k:=jl Tryz.underlying47 (k:=iL (k:=nl ?_))))))
 rcases ei H with ⟨h1,H⟩|⟨h1,H⟩
 ·refine an (df h1) ?_
  cases H
  exact ex (s2 (mB (k:=nl (rt r1))))
 refine ay (dt h1) ?_
 refine sp (sq (bk (s2 (mv (vO [_,_,_,_,_]) (k:=nv (vO [_,_,_,_,_]) (k:=jf (cells':=[_,_,_,_,_]) D43_0 (k:=mR (k:=mI (k:=?_)))))))))
 obtain ⟨h2,H⟩:=io H
 refine ixx ⟨h2,h1⟩ T82 Tryz.underlying47 (R81 h2 h1) (k:=jf (cells':=[_,_,_,_,_]) D82_0 (k:=oI T2 (k:=?_)))
 obtain ⟨t3,e4,H⟩:=bo H
 refine cr rfl (spec_l05Face.ok e4) (qc (rT [.v (.int .i64 x0_0),.v (.int .i64 x0_1),.row 143 (x0_2.map c142),.row 158 (x0_3.map c154)] [.row 76 (x0_4.map c66)] rQ) (qd qn)) (k:=uN (k:=?_))
 refine RA.nil (fun _=>by kernel_rfl) ?_
 rcases ei H with ⟨h5,H⟩|⟨h5,H⟩
 ·refine ay (cn (bf h5)) ?_
  cases H
  exact s2 (mB (k:=nl (rt r1)))
 refine an (cn h5) ?_
 refine sp (rg (mI (k:=iA (k:=mI (k:=nl ?_)))))
 exact AGr.canon id (ih0 _ (by omega) _ ⟨by omega,_,_,_,_,_,_,_,H,rfl⟩) ⟨rfl,rfl,rfl,trivial⟩ trivial rfl
def spec_l11Placed.l0:Nat→List S81→Int→Int→Option (Int)
 | 0,_,_,_=>none
 | k+1,x0,x1,x5=>if x5 < (x0.length:Int) then (if 0≤x5 then (if ((rd81 x0 x5).f0)=x1 then (some x5) else (spec_l11Placed.l0 k x0 x1 (wrap64 (x5+1)))) else (none)) else (some (-1))
def spec_l11Placed.f (k:Nat) (l0:List S81) (a1:Int):Option (Int):=spec_l11Placed.l0 k l0 a1 0
theorem spec_l11Placed.ok {k:Nat} {l0:List S81} {a1 r:Int} (H:spec_l11Placed.f k l0 a1=some r):OkF Tryz.prog 73 [vR 82 (l0.map c81),vI a1] [] (vI r) []:=by
 unfold spec_l11Placed.f at H
 refine o1 20 4 Tryz.func73 fun w0 S=>?_
 refine s2 (mI (k:=nl (sq (s2 (mI (k:=nl (bk (lp ?_))))))))
 obtain ⟨K0,hK0,gK0⟩:=kk k
 refine AGr.canon id (AGr.loopI (n:=k) (fun k s=>k≤K0∧∃ x0 x1 x5,spec_l11Placed.l0 k x0 x1 x5=some r∧s=St.of [(0,vR 82 (x0.map c81)),(1,vI x1),(5,vI x5)] []) ⟨hK0,_,_,_,H,rfl⟩ ?_ ?_) ⟨rfl,rfl,rfl,trivial⟩ trivial rfl
 ·rintro _ ⟨_,_,_,_,H,_⟩
  cases H
 clear H hK0
 rintro k ih0 _ ⟨hK0,x0,x1,x5,H,rfl⟩
 unfold spec_l11Placed.l0 at H
 refine sq (s2 (mI (k:=mR (k:=jl Tryz.underlying47 (k:=iL (k:=nl ?_))))))
 rcases ei H with ⟨h1,H⟩|⟨h1,H⟩
 ·refine an (df h1) ?_
  cases H
  exact ex (s2 (mI (k:=nl (rt r1))))
 refine ay (dt h1) ?_
 refine sp (sq (bk (s2 (mR (k:=mI (k:=?_))))))
 obtain ⟨h2,H⟩:=io H
 refine ixx ⟨h2,h1⟩ T82 Tryz.underlying47 (R81 h2 h1) (k:=jf (cells':=[_,_,_,_,_]) D82_0 (k:=oI T2 (k:=mI (k:=iEq (k:=nl ?_)))))
 rcases ie H with ⟨h3,H⟩|⟨h3,H⟩
 ·refine ay (bq h3) ?_
  cases H
  exact s2 (mI (k:=mI (k:=nl (rt r1))))
 refine an (bn h3) ?_
 refine sp (rg (mI (k:=iA (k:=mI (k:=nl ?_)))))
 exact AGr.canon id (ih0 _ (by omega) _ ⟨by omega,_,_,_,H,rfl⟩) ⟨rfl,rfl,rfl,trivial⟩ trivial rfl
def spec_l03Shifted.l0:Nat→List S142→Int→Int→List S142→Int→Option ((List S142))
 | 0,_,_,_,_,_=>none
 | k+1,x0,x1,x2,x7,x8=>if x8 < (x0.length:Int) then (if 0≤x8 then (if x7.length < 8796093022208 then (spec_l03Shifted.l0 k x0 x1 x2 (x7++[(⟨wrap64 (((rd142 x0 x8).f0)+x1),wrap64 (((rd142 x0 x8).f1)+x2)⟩:S142)]) (wrap64 (x8+1))) else (none)) else (none)) else (some x7)
def spec_l03Shifted.f (k:Nat) (l0:List S142) (a1 a2:Int):Option ((List S142)):=spec_l03Shifted.l0 k l0 a1 a2 (([]:List S142)) 0
theorem spec_l03Shifted.ok {k:Nat} {l0:List S142} {a1 a2:Int} {r:List S142} (H:spec_l03Shifted.f k l0 a1 a2=some r):OkF Tryz.prog 111 [vR 143 (l0.map c142),vI a1,vI a2] [] (.c (.own 100 r.length)) [(100,.row 143 (r.map c142))]:=by
 unfold spec_l03Shifted.f at H
 refine o1 35 6 Tryz.func111 fun w0 S=>?_
 refine s2 (jn (e:=143) 200 T143 (k:=nl (s2 ?_)))
 refine a_lit (cs:=[]) (D:=[]) (css:=(([]:List S142)).map c142) 201 ?_ N37 T143 (hcss:=by rfl)
 refine mW (k:=nl (sq (s2 (mI (k:=nl (bk (lp ?_)))))))
 obtain ⟨K0,hK0,gK0⟩:=kk k
 refine AGr.canon (fun κ=>cond (Nat.beq κ 202) 201 (κ)) (AGr.loopI (n:=k) (fun k s=>k≤K0∧∃ x0 x1 x2 x7 x8,spec_l03Shifted.l0 k x0 x1 x2 x7 x8=some r∧s=St.of [(0,vR 143 (x0.map c142)),(1,vI x1),(2,vI x2),(7,.c (.own 202 x7.length)),(8,vI x8)] [(202,.row 143 (x7.map c142))]) ⟨hK0,_,_,_,_,_,H,rfl⟩ ?_ ?_) ⟨rfl,rfl,rfl,(ownE rfl (by simp)),rfl,trivial⟩ ⟨rfl,trivial⟩ rfl
 ·rintro _ ⟨_,_,_,_,_,_,H,_⟩
  cases H
 clear H hK0
 rintro k ih0 _ ⟨hK0,x0,x1,x2,x7,x8,H,rfl⟩
 unfold spec_l03Shifted.l0 at H
 refine sq (s2 (mI (k:=mR (k:=jl Tryz.underlying37 (k:=iL (k:=nl ?_))))))
 rcases ei H with ⟨h2,H⟩|⟨h2,H⟩
 ·refine an (df h2) ?_
  refine ex (s2 (mW (k:=mW (k:=nl (rt ?_)))))
  cases H
  exact RetP.mk (fun κ=>cond (Nat.beq κ 100) 202 (κ)) ⟨rfl,trivial⟩ ⟨rfl,trivial⟩ rfl
 refine ay (dt h2) ?_
 refine sp (sq (bk (rg (mW (k:=mR (k:=mI (k:=?_)))))))
 obtain ⟨h3,H⟩:=io H
 refine ixx ⟨h3,h2⟩ T143 Tryz.underlying37 (R142 h3 h2) (k:=jf (cells':=[_,_]) D143_0 (k:=oI T2 (k:=mI (k:=iA (k:=mR (k:=mI (k:=ixx ⟨h3,h2⟩ T143 Tryz.underlying37 (R142 h3 h2) (k:=jf (cells':=[_]) D143_1 (k:=oI T2 (k:=mI (k:=iA (k:=?_))))))))))))
 refine a_build (cs:=[_,_]) ?_ T143 rfl (hin:=I143)
 refine a_lit (cs:=[_,_]) (D:=[]) (css:=([(⟨wrap64 (((rd142 x0 x8).f0)+x1),wrap64 (((rd142 x0 x8).f1)+x2)⟩:S142)]).map c142) 203 ?_ N37 T143
 obtain ⟨h4,H⟩:=io H
 refine a_appO (css':=(x7++[(⟨wrap64 (((rd142 x0 x8).f0)+x1),wrap64 (((rd142 x0 x8).f1)+x2)⟩:S142)]).map c142) (n':=(x7++[(⟨wrap64 (((rd142 x0 x8).f0)+x1),wrap64 (((rd142 x0 x8).f1)+x2)⟩:S142)]).length) ?_ T143 (by simp [maxLen]; omega) (by simp; omega) Tryz.underlying37 (hc:=by exact List.map_append.symm) (hn:=by exact List.length_map _)
 refine mW (k:=?_)
 refine RA.nil (fun _=>by kernel_rfl) ?_
 refine rg (mI (k:=iA (k:=mI (k:=nl ?_))))
 exact AGr.canon id (ih0 _ (by omega) _ ⟨by omega,_,_,_,_,_,H,rfl⟩) ⟨rfl,rfl,rfl,rfl,rfl,trivial⟩ ⟨rfl,trivial⟩ rfl
def spec_l03Bounds.l0:Nat→List S142→Int→Int→Int→Int→Int→Option (Int×Int×Int×Int)
 | 0,_,_,_,_,_,_=>none
 | k+1,x0,y206_0,y206_1,y207_0,y207_1,x6=>if x6 < (x0.length:Int) then (if 0≤x6 then ((spec_l00Min.f y206_0 ((rd142 x0 x6).f0)).bind fun t4=>((spec_l00Min.f y206_1 ((rd142 x0 x6).f1)).bind fun t6=>((spec_l00Max.f y207_0 ((rd142 x0 x6).f0)).bind fun t8=>((spec_l00Max.f y207_1 ((rd142 x0 x6).f1)).bind fun t10=>(spec_l03Bounds.l0 k x0 t4 t6 t8 t10 (wrap64 (x6+1))))))) else (none)) else (some (y206_0,y206_1,y207_0,y207_1))
def spec_l03Bounds.f (k:Nat) (l0:List S142):Option (Int×Int×Int×Int):=if 0 < (l0.length:Int) then (spec_l03Bounds.l0 k l0 ((rd142 l0 0).f0) ((rd142 l0 0).f1) ((rd142 l0 0).f0) ((rd142 l0 0).f1) 1) else (none)
theorem spec_l03Bounds.ok {k:Nat} {l0:List S142} {r0 r1 r2 r3:Int} (H:spec_l03Bounds.f k l0=some (r0,r1,r2,r3)):OkF Tryz.prog 107 [vR 143 (l0.map c142)] [] (.tup [.agg [.d (.v (.int .i64 r0)),.d (.v (.int .i64 r1))],.agg [.d (.v (.int .i64 r2)),.d (.v (.int .i64 r3))]]) []:=by
 unfold spec_l03Bounds.f at H
 refine OkF.ofC (N:=57) (rs:=[2,3]) (avs:=[.agg [.d (.v (.int .i64 r0)),.d (.v (.int .i64 r1))],.agg [.d (.v (.int .i64 r2)),.d (.v (.int .i64 r3))]]) [(2,143),(3,143)] Tryz.func107 rfl rfl (rc_cc rfl) (by decide) rfl (by decide) rfl rfl rfl rfl (fun w0 S=>?_)
 refine s2 (aP 200 T143 (k:=aP 201 T143 (k:=nl (s2 (mR (k:=?_))))))
 obtain ⟨h1,H⟩:=io H
 refine a_ixR (el:=c142 (rd142 l0 0)) ?_ ⟨(by decide),h1⟩ T143 Tryz.underlying37 (hel:=R142 (by decide) h1)
 refine oP T143 (k:=aP 202 T143 (k:=sP T143 (k:=nl (s2 (mR (k:=?_))))))
 refine a_ixR (el:=c142 (rd142 l0 0)) ?_ ⟨(by decide),h1⟩ T143 Tryz.underlying37 (hel:=R142 (by decide) h1)
 refine oP T143 (k:=aP 203 T143 (k:=sP T143 (k:=nl (sq (s2 (mI (k:=nl (bk (lp ?_)))))))))
 obtain ⟨K0,hK0,gK0⟩:=kk k
 refine AGr.canon (fun κ=>cond (Nat.beq κ 204) 200 (cond (Nat.beq κ 205) 201 (cond (Nat.beq κ 206) 202 (cond (Nat.beq κ 207) 203 (κ))))) (AGr.loopI (n:=k) (fun k s=>k≤K0∧∃ x0,∃ (y204_0:Int),∃ (y204_1:Int),∃ (y205_0:Int),∃ (y205_1:Int),∃ y206_0 y206_1 y207_0 y207_1 x6,spec_l03Bounds.l0 k x0 y206_0 y206_1 y207_0 y207_1 x6=some (r0,r1,r2,r3)∧s=St.of [(0,vR 143 (x0.map c142)),(2,.c (.ptr 204 0)),(3,.c (.ptr 205 0)),(4,.c (.ptr 206 0)),(5,.c (.ptr 207 0)),(6,vI x6)] [(204,.box 143 [.d (.v (.int .i64 y204_0)),.d (.v (.int .i64 y204_1))]),(205,.box 143 [.d (.v (.int .i64 y205_0)),.d (.v (.int .i64 y205_1))]),(206,.box 143 [.d (.v (.int .i64 y206_0)),.d (.v (.int .i64 y206_1))]),(207,.box 143 [.d (.v (.int .i64 y207_0)),.d (.v (.int .i64 y207_1))])]) ⟨hK0,_,_,_,_,_,_,_,_,_,_,H,rfl⟩ ?_ ?_) ⟨rfl,rfl,rfl,rfl,rfl,rfl,trivial⟩ ⟨rfl,rfl,rfl,rfl,trivial⟩ rfl
 ·rintro _ ⟨_,_,_,_,_,_,_,_,_,_,_,H,_⟩
  cases H
 clear H hK0
 rintro k ih0 _ ⟨hK0,x0,y204_0,y204_1,y205_0,y205_1,y206_0,y206_1,y207_0,y207_1,x6,H,rfl⟩
 unfold spec_l03Bounds.l0 at H
 refine sq (s2 (mI (k:=mR (k:=jl Tryz.underlying37 (k:=iL (k:=nl ?_))))))
 rcases ei H with ⟨h2,H⟩|⟨h2,H⟩
 ·refine an (df h2) ?_
  refine ex (s2 (lP T143 (k:=lP T143 (k:=sP T143 (k:=sP T143 (k:=?_))))))
  refine RA.nil (fun _=>by kernel_rfl) ?_
  refine rt ?_
  simp only [Option.some.injEq,Prod.mk.injEq] at H
  obtain ⟨rfl,rfl,rfl,rfl⟩:=H
  exact RetL.cell T143 rfl rfl rfl (RetL.cell T143 rfl rfl rfl (RetL.nil (RetP.mk id ⟨rfl,rfl,trivial⟩ trivial rfl)))
 refine ay (dt h2) ?_
 refine sp (sq (bk (s2 (fB 0 D143_0 (k:=lI T2 (k:=mR (k:=mI (k:=?_))))))))
 obtain ⟨h3,H⟩:=io H
 refine ixx ⟨h3,h2⟩ T143 Tryz.underlying37 (R142 h3 h2) (k:=jf (cells':=[_,_]) D143_0 (k:=oI T2 (k:=?_)))
 obtain ⟨t4,e5,H⟩:=bo H
 refine cr rfl (spec_l00Min.ok e5) (qd (qd qn)) (k:=fB 0 D143_0 (k:=sP T2 (k:=?_)))
 refine RA.nil (fun _=>by kernel_rfl) ?_
 refine s2 (fB 1 D143_1 (k:=lI T2 (k:=mR (k:=mI (k:=ixx ⟨h3,h2⟩ T143 Tryz.underlying37 (R142 h3 h2) (k:=jf (cells':=[_]) D143_1 (k:=oI T2 (k:=?_))))))))
 obtain ⟨t6,e7,H⟩:=bo H
 refine cr rfl (spec_l00Min.ok e7) (qd (qd qn)) (k:=fB 1 D143_1 (k:=sP T2 (k:=?_)))
 refine RA.nil (fun _=>by kernel_rfl) ?_
 refine s2 (fB 0 D143_0 (k:=lI T2 (k:=mR (k:=mI (k:=ixx ⟨h3,h2⟩ T143 Tryz.underlying37 (R142 h3 h2) (k:=jf (cells':=[_,_]) D143_0 (k:=oI T2 (k:=?_))))))))
 obtain ⟨t8,e9,H⟩:=bo H
 refine cr rfl (spec_l00Max.ok e9) (qd (qd qn)) (k:=fB 0 D143_0 (k:=sP T2 (k:=?_)))
 refine RA.nil (fun _=>by kernel_rfl) ?_
 refine rg (fB 1 D143_1 (k:=lI T2 (k:=mR (k:=mI (k:=ixx ⟨h3,h2⟩ T143 Tryz.underlying37 (R142 h3 h2) (k:=jf (cells':=[_]) D143_1 (k:=oI T2 (k:=?_))))))))
 obtain ⟨t10,e11,H⟩:=bo H
 refine cr rfl (spec_l00Max.ok e11) (qd (qd qn)) (k:=fB 1 D143_1 (k:=sP T2 (k:=?_)))
 refine RA.nil (fun _=>by kernel_rfl) ?_
 refine rg (mI (k:=iA (k:=mI (k:=nl ?_))))
 exact AGr.canon id (ih0 _ (by omega) _ ⟨by omega,_,_,_,_,_,_,_,_,_,_,H,rfl⟩) ⟨rfl,rfl,rfl,rfl,rfl,rfl,trivial⟩ ⟨rfl,rfl,rfl,rfl,trivial⟩ rfl
mutual
def spec_l02Turned.j0:Nat→Int→Int→Int→Option (Int×Int)
 | 0,_,_,_=>none
 | k+1,x1,y202_0,y202_1=>spec_l02Turned.l0 k y202_0 y202_1 (Int.tmod x1 4)
def spec_l02Turned.l0:Nat→Int→Int→Int→Option (Int×Int)
 | 0,_,_,_=>none
 | k+1,y204_0,y204_1,x5=>if x5 > 0 then (spec_l02Turned.l0 k (wrap64 (0 - y204_1)) y204_0 (wrap64 (x5 - 1))) else (some (y204_0,y204_1))
end
def spec_l02Turned.f (k:Nat) (a0_0 a0_1 a1:Int):Option (Int×Int):=if a1≥4 then (spec_l02Turned.j0 k a1 (wrap64 (0 - a0_0)) a0_1) else (spec_l02Turned.j0 k a1 a0_0 a0_1)
theorem spec_l02Turned.ok {k:Nat} {a0_0 a0_1 a1 r0 r1:Int} (H:spec_l02Turned.f k a0_0 a0_1 a1=some (r0,r1)):OkF Tryz.prog 148 [.agg [cI a0_0,cI a0_1],vI a1] [] (.agg [cI r0,cI r1]) []:=by
 unfold spec_l02Turned.f at H
 refine OkF.ofB (N:=27) (t:=4) (ty:=143) (av := .agg [.d (.v (.int .i64 r0)),.d (.v (.int .i64 r1))]) Tryz.func148 rfl rfl rfl rfl (by decide) rfl rfl (fun w0 S=>?_)
 refine s2 (jb 200 (k:=aP 201 T143 (k:=nl (sq (s2 (mI (k:=iE (k:=nl ?_))))))))
 refine AG.joinR (fun s=>∃ q,q≤k∧∃ x1 y202_0 y202_1,∃ (y203_0:Int),∃ (y203_1:Int),spec_l02Turned.j0 q x1 y202_0 y202_1=some (r0,r1)∧s=St.of [(1,vI x1),(2,.c (.ptr 202 0)),(4,.c (.ptr 203 0))] [(202,.box 143 [.d (.v (.int .i64 y202_0)),.d (.v (.int .i64 y202_1))]),(203,.box 143 [.d (.v (.int .i64 y203_0)),.d (.v (.int .i64 y203_1))])]) ?_ ?_
 ·skip
  rcases ei H with ⟨h1,H⟩|⟨h1,H⟩
  ·refine an (df h1) ?_
   refine sp ?_
   exact CanR.mk (fun κ=>cond (Nat.beq κ 202) 200 (cond (Nat.beq κ 203) 201 (κ))) ⟨_,(by omega),_,_,_,_,_,H,rfl⟩ ⟨rfl,rfl,rfl,trivial⟩ ⟨rfl,rfl,trivial⟩ rfl
  refine ay (dt h1) ?_
  refine rg (fB 0 D143_0 (k:=lI T2 (k:=uI (wrap64 (0 - a0_0)) (k:=fB 1 D143_1 (k:=lI T2 (k:=?_))))))
  refine a_build (cs:=[_,_]) ?_ T143 rfl (hin:=I143)
  refine sP T143 (k:=nl ?_)
  exact CanR.mk (fun κ=>cond (Nat.beq κ 202) 200 (cond (Nat.beq κ 203) 201 (κ))) ⟨_,(by omega),_,_,_,_,_,H,rfl⟩ ⟨rfl,rfl,rfl,trivial⟩ ⟨rfl,rfl,trivial⟩ rfl
 clear H
 rintro _ ⟨k,hj0,x1,y202_0,y202_1,y203_0,y203_1,H,rfl⟩
 rcases k with _|k
 cases H
 rw [spec_l02Turned.j0] at H
 refine sq (s2 (mI (k:=jr (r:=Int.tmod x1 4) (show ¬ (4:Int)=0 from by decide) (k:=mI (k:=nl (bk (lp ?_)))))))
 obtain ⟨K0,hK0,gK0⟩:=kk k
 refine AGr.canon (fun κ=>cond (Nat.beq κ 204) 202 (cond (Nat.beq κ 205) 203 (κ))) (AGr.loopI (n:=k) (fun k s=>k≤K0∧∃ y204_0 y204_1,∃ (y205_0:Int),∃ (y205_1:Int),∃ x5,spec_l02Turned.l0 k y204_0 y204_1 x5=some (r0,r1)∧s=St.of [(2,.c (.ptr 204 0)),(4,.c (.ptr 205 0)),(5,vI x5)] [(204,.box 143 [.d (.v (.int .i64 y204_0)),.d (.v (.int .i64 y204_1))]),(205,.box 143 [.d (.v (.int .i64 y205_0)),.d (.v (.int .i64 y205_1))])]) ⟨hK0,_,_,_,_,_,H,rfl⟩ ?_ ?_) ⟨rfl,rfl,rfl,trivial⟩ ⟨rfl,rfl,trivial⟩ rfl
 ·rintro _ ⟨_,_,_,_,_,_,H,_⟩
  cases H
 clear H hK0
 rintro k ih0 _ ⟨hK0,y204_0,y204_1,y205_0,y205_1,x5,H,rfl⟩
 unfold spec_l02Turned.l0 at H
 refine sq (s2 (mI (k:=iG (k:=nl ?_))))
 rcases ei H with ⟨h2,H⟩|⟨h2,H⟩
 ·refine an (df h2) ?_
  refine ex (s2 (lP T143 (k:=sP T143 (k:=nl (rt ?_)))))
  simp only [Option.some.injEq,Prod.mk.injEq] at H
  obtain ⟨rfl,rfl⟩:=H
  exact RetB.mk T143 rfl rfl rfl (RetP.mk id ⟨rfl,trivial⟩ trivial rfl)
 refine ay (dt h2) ?_
 refine sp (sq (bk (rg (fB 1 D143_1 (k:=lI T2 (k:=uI (wrap64 (0 - y204_1)) (k:=fB 0 D143_0 (k:=lI T2 (k:=?_)))))))))
 refine a_build (cs:=[_,_]) ?_ T143 rfl (hin:=I143)
 refine sP T143 (k:=nl (rg (mI (k:=iS (k:=mI (k:=nl ?_))))))
 exact AGr.canon id (ih0 _ (by omega) _ ⟨by omega,_,_,_,_,_,H,rfl⟩) ⟨rfl,rfl,rfl,trivial⟩ ⟨rfl,rfl,trivial⟩ rfl
def spec_l03Turned.l0:Nat→List S142→Int→List S142→Int→Option ((List S142))
 | 0,_,_,_,_=>none
 | k+1,x0,x1,x5,x6=>if x6 < (x0.length:Int) then (if x1≥4 then (if (x0.length:Int)=0 then (none) else (if 0≤(Int.tmod (wrap64 ((x0.length:Int) - x6)) (x0.length:Int)) then (if (Int.tmod (wrap64 ((x0.length:Int) - x6)) (x0.length:Int)) < (x0.length:Int) then ((spec_l02Turned.f k ((rd142 x0 (Int.tmod (wrap64 ((x0.length:Int) - x6)) (x0.length:Int))).f0) ((rd142 x0 (Int.tmod (wrap64 ((x0.length:Int) - x6)) (x0.length:Int))).f1) x1).bind fun bt7=>(if x5.length < 8796093022208 then (spec_l03Turned.l0 k x0 x1 (x5++[(⟨bt7.1,bt7.2⟩:S142)]) (wrap64 (x6+1))) else (none))) else (none)) else (none))) else (if 0≤x6 then ((spec_l02Turned.f k ((rd142 x0 x6).f0) ((rd142 x0 x6).f1) x1).bind fun bt13=>(if x5.length < 8796093022208 then (spec_l03Turned.l0 k x0 x1 (x5++[(⟨bt13.1,bt13.2⟩:S142)]) (wrap64 (x6+1))) else (none))) else (none))) else ((spec_l03Bounds.f k x5).bind fun bt18=>((spec_l03Shifted.f k x5 (wrap64 (0 - bt18.1)) (wrap64 (0 - bt18.2.1))).bind fun t23=>(some t23)))
def spec_l03Turned.f (k:Nat) (l0:List S142) (a1:Int):Option ((List S142)):=spec_l03Turned.l0 k l0 a1 (([]:List S142)) 0
theorem spec_l03Turned.ok {k:Nat} {l0:List S142} {a1:Int} {r:List S142} (H:spec_l03Turned.f k l0 a1=some r):OkF Tryz.prog 112 [vR 143 (l0.map c142),vI a1] [] (.c (.own 100 r.length)) [(100,.row 143 (r.map c142))]:=by
 unfold spec_l03Turned.f at H
 refine o1 49 4 Tryz.func112 fun w0 S=>?_
 refine s2 (jn (e:=143) 200 T143 (k:=nl (s2 ?_)))
 refine a_lit (cs:=[]) (D:=[]) (css:=(([]:List S142)).map c142) 201 ?_ N37 T143 (hcss:=by rfl)
 refine mW (k:=nl (sq (s2 (mI (k:=nl (bk (lp ?_)))))))
 obtain ⟨K0,hK0,gK0⟩:=kk k
 refine AGr.canon (fun κ=>cond (Nat.beq κ 202) 201 (κ)) (AGr.loopI (n:=k) (fun k s=>k≤K0∧∃ x0 x1 x5 x6,spec_l03Turned.l0 k x0 x1 x5 x6=some r∧s=St.of [(0,vR 143 (x0.map c142)),(1,vI x1),(5,.c (.own 202 x5.length)),(6,vI x6)] [(202,.row 143 (x5.map c142))]) ⟨hK0,_,_,_,_,H,rfl⟩ ?_ ?_) ⟨rfl,rfl,(ownE rfl (by simp)),rfl,trivial⟩ ⟨rfl,trivial⟩ rfl
 ·rintro _ ⟨_,_,_,_,_,H,_⟩
  cases H
 clear H hK0
 rintro k ih0 _ ⟨hK0,x0,x1,x5,x6,H,rfl⟩
 unfold spec_l03Turned.l0 at H
 refine sq (s2 (mI (k:=mR (k:=jl Tryz.underlying37 (k:=iL (k:=nl ?_))))))
 rcases ei H with ⟨h2,H⟩|⟨h2,H⟩
 ·refine an (df h2) ?_
  refine ex (s2 (mW (k:=?_)))
  obtain ⟨⟨t18,t19,t20,t21⟩,e22,H⟩:=bo H
  refine a_call (v := .tup [.agg [.d (.v (.int .i64 t18)),.d (.v (.int .i64 t19))],.agg [.d (.v (.int .i64 t20)),.d (.v (.int .i64 t21))]]) (nk:=[]) (L:=[(202,_)]) ?_ rfl (spec_l03Bounds.ok e22) id (qc rO qn) ⟨rfl,trivial⟩ trivial trivial rfl
  refine mv (.tup [_,_]) (k:=xP (k:=xP (k:=aP 206 T143 (k:=aP 207 T143 (k:=sP T143 (k:=sP T143 (k:=nl (s2 (mW (k:=fB 0 D143_0 (k:=lI T2 (k:=uI (wrap64 (0 - t18)) (k:=fB 1 D143_1 (k:=lI T2 (k:=uI (wrap64 (0 - t19)) (k:=?_))))))))))))))))
  obtain ⟨t23,e24,H⟩:=bo H
  refine a_call (v := .c (.own 208 t23.length)) (nk:=[(208,.row 143 (t23.map c142))]) (L:=[(202,_)]) ?_ rfl (spec_l03Shifted.ok e24) (fun κ=>cond (Nat.beq κ 208) 100 (κ)) (qc rO (qd (qd qn))) ⟨rfl,trivial⟩ ⟨rfl,trivial⟩ ⟨rfl,trivial⟩ rfl
  refine mW (k:=nl (rt ?_))
  cases H
  exact RetP.mk (fun κ=>cond (Nat.beq κ 100) 208 (κ)) ⟨rfl,trivial⟩ ⟨rfl,trivial⟩ rfl
 refine ay (dt h2) ?_
 refine sp (sq (bk (s2 (mI (k:=mI (k:=nl (sq (s2 (mI (k:=iE (k:=nl ?_)))))))))))
 rcases ei H with ⟨h3,H⟩|⟨h3,H⟩
 ·refine an (df h3) ?_
  refine sp (rg (mW (k:=mR (k:=mI (k:=?_)))))
  obtain ⟨h12,H⟩:=io H
  refine ixx ⟨h12,h2⟩ T143 Tryz.underlying37 (R142 h12 h2) (k:=oP T143 (k:=mI (k:=?_)))
  obtain ⟨⟨t13,t14⟩,e15,H⟩:=bo H
  refine cl (.agg [.d (.v (.int .i64 t13)),.d (.v (.int .i64 t14))]) rfl (spec_l02Turned.ok e15) (qg (qd qn)) (k:=?_)
  refine a_lit (cs:=[_,_]) (D:=[]) (css:=([(⟨t13,t14⟩:S142)]).map c142) 204 ?_ N37 T143
  obtain ⟨h16,H⟩:=io H
  refine a_appO (css':=(x5++[(⟨t13,t14⟩:S142)]).map c142) (n':=(x5++[(⟨t13,t14⟩:S142)]).length) ?_ T143 (by simp [maxLen]; omega) (by simp; omega) Tryz.underlying37 (hc:=by exact List.map_append.symm) (hn:=by exact List.length_map _)
  refine mW (k:=nl (rg (mI (k:=iA (k:=mI (k:=nl ?_))))))
  exact AGr.canon id (ih0 _ (by omega) _ ⟨by omega,_,_,_,_,H,rfl⟩) ⟨rfl,rfl,rfl,rfl,trivial⟩ ⟨rfl,trivial⟩ rfl
 refine ay (dt h3) ?_
 refine rg (mR (k:=jl Tryz.underlying37 (k:=mI (k:=iS (k:=mR (k:=jl Tryz.underlying37 (k:=?_)))))))
 obtain ⟨h4,H⟩:=oi H
 refine jr (r:=Int.tmod (wrap64 ((x0.length:Int) - x6)) (x0.length:Int)) h4 (k:=mI (k:=nl (rg (mW (k:=mR (k:=mI (k:=?_)))))))
 obtain ⟨h5,H⟩:=io H
 obtain ⟨h6,H⟩:=io H
 refine ixx ⟨h5,h6⟩ T143 Tryz.underlying37 (R142 h5 h6) (k:=oP T143 (k:=mI (k:=?_)))
 obtain ⟨⟨t7,t8⟩,e9,H⟩:=bo H
 refine cl (.agg [.d (.v (.int .i64 t7)),.d (.v (.int .i64 t8))]) rfl (spec_l02Turned.ok e9) (qg (qd qn)) (k:=?_)
 refine a_lit (cs:=[_,_]) (D:=[]) (css:=([(⟨t7,t8⟩:S142)]).map c142) 204 ?_ N37 T143
 obtain ⟨h10,H⟩:=io H
 refine a_appO (css':=(x5++[(⟨t7,t8⟩:S142)]).map c142) (n':=(x5++[(⟨t7,t8⟩:S142)]).length) ?_ T143 (by simp [maxLen]; omega) (by simp; omega) Tryz.underlying37 (hc:=by exact List.map_append.symm) (hn:=by exact List.length_map _)
 refine mW (k:=nl (rg (mI (k:=iA (k:=mI (k:=nl ?_))))))
 exact AGr.canon id (ih0 _ (by omega) _ ⟨by omega,_,_,_,_,H,rfl⟩) ⟨rfl,rfl,rfl,rfl,trivial⟩ ⟨rfl,trivial⟩ rfl
def spec_l05Polygon.f (k:Nat) (a0_0 a0_1:Int) (l0_2:List S142) (l0_3:List S154) (a1:Int):Option ((List S142)):=if 0≤a1 then (if a1 < (l0_3.length:Int) then ((spec_l05Ring.f k a0_0 a0_1 l0_2 l0_3 ((rd154 l0_3 a1).f1)).bind fun bt3=>(some bt3.1)) else (none)) else (none)
theorem spec_l05Polygon.ok {k:Nat} {a0_0 a0_1:Int} {l0_2:List S142} {l0_3:List S154} {a1:Int} {r:List S142} (H:spec_l05Polygon.f k a0_0 a0_1 l0_2 l0_3 a1=some r):OkF Tryz.prog 113 [.c (.d (.ro [.v (.int .i64 a0_0),.v (.int .i64 a0_1),.row 143 (l0_2.map c142),.row 158 (l0_3.map c154)])),vI a1] [] (.c (.own 100 r.length)) [(100,.row 143 (r.map c142))]:=by
 unfold spec_l05Polygon.f at H
 refine o1 21 4 Tryz.func113 fun w0 S=>?_
 refine s2 (jn (e:=143) 200 T143 (k:=nl (s2 (mv (vO [_,_,_,_]) (k:=mv (vO [_,_,_,_]) (k:=nv (vO [_,_,_,_]) (k:=jf (cells':=[_]) D40_3 (k:=oR T38 (k:=mI (k:=?_))))))))))
 obtain ⟨h1,H⟩:=io H
 obtain ⟨h2,H⟩:=io H
 refine ixx ⟨h1,h2⟩ T158 Tryz.underlying38 (R154 h1 h2) (k:=jf (cells':=[_]) D158_1 (k:=oR T104 (k:=?_)))
 obtain ⟨⟨t3,t4⟩,e5,H⟩:=bo H
 refine a_call (v := .tup [.c (.own 201 t3.length),.c (.d (.v (.bool t4)))]) (nk:=[(201,.row 143 (t3.map c142))]) (L:=[]) ?_ rfl (spec_l05Ring.ok e5) (fun κ=>cond (Nat.beq κ 201) 100 (κ)) (qd (qd qn)) trivial ⟨rfl,trivial⟩ ⟨rfl,trivial⟩ rfl
 refine mv (.tup [_,_]) (k:=ev (.c (.own _ _)) (k:=xB (k:=mW (k:=mB (k:=nl (s2 (mW (k:=mW (k:=nl (rt ?_))))))))))
 cases H
 exact RetP.mk (fun κ=>cond (Nat.beq κ 100) 201 (κ)) ⟨rfl,trivial⟩ ⟨rfl,trivial⟩ rfl
def spec_l11Polygon.f (k:Nat) (a0_0 a0_1:Int) (l0_2:List S142) (l0_3:List S154) (l0_4:List S66) (a1_0 a1_1 a1_2 a1_3 a1_4:Int):Option ((List S142)):=(spec_l05Polygon.f k a0_0 a0_1 l0_2 l0_3 a1_0).bind fun t1=>((spec_l03Turned.f k t1 a1_4).bind fun t3=>((spec_l03Shifted.f k t3 a1_2 a1_3).bind fun t5=>(some t5)))
theorem spec_l11Polygon.ok {k:Nat} {a0_0 a0_1:Int} {l0_2:List S142} {l0_3:List S154} {l0_4:List S66} {a1_0 a1_1 a1_2 a1_3 a1_4:Int} {r:List S142} (H:spec_l11Polygon.f k a0_0 a0_1 l0_2 l0_3 l0_4 a1_0 a1_1 a1_2 a1_3 a1_4=some r):OkF Tryz.prog 76 [.c (.d (.ro [.v (.int .i64 a0_0),.v (.int .i64 a0_1),.row 143 (l0_2.map c142),.row 158 (l0_3.map c154),.row 76 (l0_4.map c66)])),.c (.d (.ro [.v (.int .i64 a1_0),.v (.int .i64 a1_1),.v (.int .i64 a1_2),.v (.int .i64 a1_3),.v (.int .i64 a1_4)]))] [] (.c (.own 100 r.length)) [(100,.row 143 (r.map c142))]:=by
 unfold spec_l11Polygon.f at H
 refine o1 27 4 Tryz.func76 fun w0 S=>?_
 refine s2 (jn (e:=143) 200 T143 (k:=nl (s2 (mv (vO [_,_,_,_,_]) (k:=nv (vO [_,_,_,_,_]) (k:=jf (cells':=[_,_,_,_,_]) D43_0 (k:=mv (vO [_,_,_,_,_]) (k:=nv (vO [_,_,_,_,_]) (k:=jf (cells':=[_,_,_,_,_]) D82_0 (k:=oI T2 (k:=?_)))))))))))
 obtain ⟨t1,e2,H⟩:=bo H
 refine a_call (v := .c (.own 201 t1.length)) (nk:=[(201,.row 143 (t1.map c142))]) (L:=[]) ?_ rfl (spec_l05Polygon.ok e2) (fun κ=>cond (Nat.beq κ 201) 100 (κ)) (qc (rT [.v (.int .i64 a0_0),.v (.int .i64 a0_1),.row 143 (l0_2.map c142),.row 158 (l0_3.map c154)] [.row 76 (l0_4.map c66)] rQ) (qd qn)) trivial ⟨rfl,trivial⟩ ⟨rfl,trivial⟩ rfl
 refine mv (vO [_,_,_,_,_]) (k:=nv (vO [_,_,_,_,_]) (k:=jf (cells':=[_]) D82_4 (k:=oI T2 (k:=?_))))
 obtain ⟨t3,e4,H⟩:=bo H
 refine a_call (v := .c (.own 202 t3.length)) (nk:=[(202,.row 143 (t3.map c142))]) (L:=[(201,_)]) ?_ rfl (spec_l03Turned.ok e4) (fun κ=>cond (Nat.beq κ 202) 100 (κ)) (qc rO (qd qn)) ⟨rfl,trivial⟩ ⟨rfl,trivial⟩ ⟨rfl,trivial⟩ rfl
 refine mv (vO [_,_,_,_,_]) (k:=nv (vO [_,_,_,_,_]) (k:=jf (cells':=[_,_,_]) D82_2 (k:=oI T2 (k:=mv (vO [_,_,_,_,_]) (k:=nv (vO [_,_,_,_,_]) (k:=jf (cells':=[_,_]) D82_3 (k:=oI T2 (k:=?_))))))))
 obtain ⟨t5,e6,H⟩:=bo H
 refine a_call (v := .c (.own 203 t5.length)) (nk:=[(203,.row 143 (t5.map c142))]) (L:=[(202,_)]) ?_ rfl (spec_l03Shifted.ok e6) (fun κ=>cond (Nat.beq κ 203) 100 (κ)) (qc rO (qd (qd qn))) ⟨rfl,trivial⟩ ⟨rfl,trivial⟩ ⟨rfl,trivial⟩ rfl
 refine mW (k:=?_)
 refine RA.nil (fun _=>by kernel_rfl) ?_
 refine rt ?_
 cases H
 exact RetP.mk (fun κ=>cond (Nat.beq κ 100) 203 (κ)) ⟨rfl,trivial⟩ ⟨rfl,trivial⟩ rfl
def spec_l07Angle.f (a0 a1:Int):Option (Int):=(spec_l00Max.f (wrap64 (a0 - a1)) (wrap64 (a1 - a0))).bind fun t1=>((spec_l00Min.f t1 (wrap64 (180 - t1))).bind fun t3=>(some t3))
theorem spec_l07Angle.ok {a0 a1 r:Int} (H:spec_l07Angle.f a0 a1=some r):OkF Tryz.prog 140 [vI a0,vI a1] [] (vI r) []:=by
 unfold spec_l07Angle.f at H
 refine o1 17 4 Tryz.func140 fun w0 S=>?_
 refine s2 (mI (k:=nl (s2 (mI (k:=mI (k:=iS (k:=mI (k:=mI (k:=iS (k:=?_))))))))))
 obtain ⟨t1,e2,H⟩:=bo H
 refine cr rfl (spec_l00Max.ok e2) (qd (qd qn)) (k:=mI (k:=nl (s2 (mI (k:=mI (k:=iS (k:=?_)))))))
 obtain ⟨t3,e4,H⟩:=bo H
 cases H
 exact cr rfl (spec_l00Min.ok e4) (qd (qd qn)) (k:=mI (k:=nl (rt r1)))
def spec_l07Turned.f (a0 a1:Int):Option (Int):=if a1≥4 then (some (Int.tmod (wrap64 ((wrap64 (180 - a0))+(wrap64 (90*a1)))) 180)) else (some (Int.tmod (wrap64 (a0+(wrap64 (90*a1)))) 180))
theorem spec_l07Turned.ok {a0 a1 r:Int} (H:spec_l07Turned.f a0 a1=some r):OkF Tryz.prog 141 [vI a0,vI a1] [] (vI r) []:=by
 unfold spec_l07Turned.f at H
 refine o1 14 4 Tryz.func141 fun w0 S=>?_
 refine s2 (mI (k:=nl (sq (s2 (mI (k:=iE (k:=nl ?_)))))))
 rcases ei H with ⟨h1,H⟩|⟨h1,H⟩
 ·refine an (df h1) ?_
  cases H
  exact sp (s2 (mI (k:=mI (k:=iM (k:=iA (k:=jr (r:=Int.tmod (wrap64 (a0+(wrap64 (90*a1)))) 180) (show ¬ (180:Int)=0 from by decide) (k:=mI (k:=nl (rt r1)))))))))
 refine ay (dt h1) ?_
 cases H
 exact rg (mI (k:=iS (k:=mI (k:=nl (s2 (mI (k:=mI (k:=iM (k:=iA (k:=jr (r:=Int.tmod (wrap64 ((wrap64 (180 - a0))+(wrap64 (90*a1)))) 180) (show ¬ (180:Int)=0 from by decide) (k:=mI (k:=nl (rt r1)))))))))))))
def spec_l11Veneer.f (a0_0:ByteArray) (a0_1 a0_2:Int) (a1_0 a1_1:ByteArray) (a1_2:Int) (a1_3:ByteArray) (a1_4 a1_5 a1_6 a1_7:Int) (l1_8:List S146) (a2 a3_0 a3_1 a3_2 a3_3:Int):Option (Int):=if a0_0.toList=a1_3.toList then ((spec_l00Max.f (wrap64 (a0_1 - a1_4)) (wrap64 (a1_4 - a0_1))).bind fun t2=>(if t2 > a3_3 then (some 3) else ((spec_l07Turned.f a1_5 a2).bind fun t5=>((spec_l07Angle.f t5 a0_2).bind fun t7=>(if t7 > a3_2 then (some 4) else (some 0)))))) else (some 2)
theorem spec_l11Veneer.ok {a0_0:ByteArray} {a0_1 a0_2:Int} {a1_0 a1_1:ByteArray} {a1_2:Int} {a1_3:ByteArray} {a1_4 a1_5 a1_6 a1_7:Int} {l1_8:List S146} {a2 a3_0 a3_1 a3_2 a3_3 r:Int} (H:spec_l11Veneer.f a0_0 a0_1 a0_2 a1_0 a1_1 a1_2 a1_3 a1_4 a1_5 a1_6 a1_7 l1_8 a2 a3_0 a3_1 a3_2 a3_3=some r):OkF Tryz.prog 105 [.c (.d (.ro [.v (.string a0_0),.v (.int .i64 a0_1),.v (.int .i64 a0_2)])),.c (.d (.ro [.v (.string a1_0),.v (.string a1_1),.v (.int .i64 a1_2),.v (.string a1_3),.v (.int .i64 a1_4),.v (.int .i64 a1_5),.v (.int .i64 a1_6),.v (.int .i64 a1_7),.row 147 (l1_8.map c146)])),vI a2,.c (.d (.ro [.v (.int .i64 a3_0),.v (.int .i64 a3_1),.v (.int .i64 a3_2),.v (.int .i64 a3_3)]))] [] (vI r) []:=by
 unfold spec_l11Veneer.f at H
 refine o1 62 8 Tryz.func105 fun w0 S=>?_
 refine s2 (mI (k:=nl (sq (s2 (mv (vO [_,_,_]) (k:=nv (vO [_,_,_]) (k:=jf (cells':=[_,_,_]) D76_0 (k:=ov (vS _) T9 (k:=mv (vO [_,_,_,_,_,_,_,_,_]) (k:=nv (vO [_,_,_,_,_,_,_,_,_]) (k:=jf (cells':=[_,_,_,_,_,_]) D79_3 (k:=jf (cells':=[_,_,_,_,_,_]) D76_0 (k:=ov (vS _) T9 (k:=bB (!(a0_0.toList == a1_3.toList)) (k:=?_)))))))))))))))
 refine RA.nil (fun _=>by kernel_rfl) ?_
 rcases ei H with ⟨h1,H⟩|⟨h1,H⟩
 ·refine AG.yes rfl (by rw [bn h1]; rfl) ?_
  cases H
  exact s2 (mI (k:=nl (rt r1)))
 refine AG.no rfl (by rw [bq h1]; rfl) ?_
 refine sp (sq (s2 (mv (vO [_,_,_]) (k:=nv (vO [_,_,_]) (k:=jf (cells':=[_,_]) D76_1 (k:=oI T2 (k:=mv (vO [_,_,_,_,_,_,_,_,_]) (k:=nv (vO [_,_,_,_,_,_,_,_,_]) (k:=jf (cells':=[_,_,_,_,_,_]) D79_3 (k:=jf (cells':=[_,_,_,_,_]) D76_1 (k:=oI T2 (k:=iS (k:=mv (vO [_,_,_,_,_,_,_,_,_]) (k:=nv (vO [_,_,_,_,_,_,_,_,_]) (k:=jf (cells':=[_,_,_,_,_,_]) D79_3 (k:=jf (cells':=[_,_,_,_,_]) D76_1 (k:=oI T2 (k:=mv (vO [_,_,_]) (k:=nv (vO [_,_,_]) (k:=jf (cells':=[_,_]) D76_1 (k:=oI T2 (k:=iS (k:=?_)))))))))))))))))))))))
 obtain ⟨t2,e3,H⟩:=bo H
 refine cr rfl (spec_l00Max.ok e3) (qd (qd qn)) (k:=mv (vO [_,_,_,_]) (k:=nv (vO [_,_,_,_]) (k:=jf (cells':=[_]) D49_3 (k:=oI T2 (k:=iG (k:=?_))))))
 refine RA.nil (fun _=>by kernel_rfl) ?_
 rcases ie H with ⟨h4,H⟩|⟨h4,H⟩
 ·refine ay (dt h4) ?_
  cases H
  exact s2 (mI (k:=nl (rt r1)))
 refine an (df h4) ?_
 refine sp (sq (s2 (mv (vO [_,_,_,_,_,_,_,_,_]) (k:=nv (vO [_,_,_,_,_,_,_,_,_]) (k:=jf (cells':=[_,_,_,_,_,_]) D79_3 (k:=jf (cells':=[_,_,_,_]) D76_2 (k:=oI T2 (k:=mI (k:=?_)))))))))
 obtain ⟨t5,e6,H⟩:=bo H
 refine cr rfl (spec_l07Turned.ok e6) (qd (qd qn)) (k:=mv (vO [_,_,_]) (k:=nv (vO [_,_,_]) (k:=jf (cells':=[_]) D76_2 (k:=oI T2 (k:=?_)))))
 obtain ⟨t7,e8,H⟩:=bo H
 refine cr rfl (spec_l07Angle.ok e8) (qd (qd qn)) (k:=mv (vO [_,_,_,_]) (k:=nv (vO [_,_,_,_]) (k:=jf (cells':=[_,_]) D49_2 (k:=oI T2 (k:=iG (k:=?_))))))
 refine RA.nil (fun _=>by kernel_rfl) ?_
 rcases ie H with ⟨h9,H⟩|⟨h9,H⟩
 ·refine ay (dt h9) ?_
  cases H
  exact s2 (mI (k:=nl (rt r1)))
 refine an (df h9) ?_
 cases H
 exact sp (s2 (mI (k:=nl (rt r1))))
def spec_l04In.f (a0_0 a0_1 a1_0 a1_1 a2_0 a2_1 a3_0 a3_1:Int):Option (Bool):=(spec_l02Side.f a0_0 a0_1 a1_0 a1_1 a3_0 a3_1).bind fun t1=>(if t1≥0 then ((spec_l02Side.f a1_0 a1_1 a2_0 a2_1 a3_0 a3_1).bind fun t4=>(if t4≥0 then ((spec_l02Side.f a2_0 a2_1 a0_0 a0_1 a3_0 a3_1).bind fun t7=>(some (decide (t7≥0)))) else (some false))) else (some false))
theorem spec_l04In.ok {a0_0 a0_1 a1_0 a1_1 a2_0 a2_1 a3_0 a3_1:Int} {r:Bool} (H:spec_l04In.f a0_0 a0_1 a1_0 a1_1 a2_0 a2_1 a3_0 a3_1=some r):OkF Tryz.prog 185 [.agg [cI a0_0,cI a0_1],.agg [cI a1_0,cI a1_1],.agg [cI a2_0,cI a2_1],.agg [cI a3_0,cI a3_1]] [] (vB r) []:=by
 unfold spec_l04In.f at H
 refine o1 28 8 Tryz.func185 fun w0 S=>?_
 refine s2 (jb 200 (k:=jb 201 (k:=jb 202 (k:=jb 203 (k:=mB (k:=nl (s2 (lP T143 (k:=lP T143 (k:=lP T143 (k:=?_)))))))))))
 obtain ⟨t1,e2,H⟩:=bo H
 refine cr rfl (spec_l02Side.ok e2) (qg (qg (qg qn))) (k:=iE (k:=mB (k:=?_)))
 rcases ei H with ⟨h3,H⟩|⟨h3,H⟩
 ·iterate 5 refine sk (df h3) (k:=?_)
  refine qB (df h3) (k:=mB (k:=?_))
  iterate 5 refine sk rfl (k:=?_)
  cases H
  exact qB rfl (k:=mB (k:=nl (rt r1)))
 refine lP T143 (hg:=gy (dt h3)) (k:=lP T143 (hg:=gy (dt h3)) (k:=lP T143 (hg:=gy (dt h3)) (k:=?_)))
 obtain ⟨t4,e5,H⟩:=bo H
 refine cr rfl (spec_l02Side.ok e5) (qg (qg (qg qn))) (hg:=gy (dt h3)) (k:=iE (hg:=gy (dt h3)) (k:=pB (dt h3) (k:=mB (k:=?_))))
 rcases ei H with ⟨h6,H⟩|⟨h6,H⟩
 ·iterate 5 refine sk (df h6) (k:=?_)
  cases H
  exact qB (df h6) (k:=mB (k:=nl (rt r1)))
 refine lP T143 (hg:=gy (dt h6)) (k:=lP T143 (hg:=gy (dt h6)) (k:=lP T143 (hg:=gy (dt h6)) (k:=?_)))
 obtain ⟨t7,e8,H⟩:=bo H
 cases H
 exact cr rfl (spec_l02Side.ok e8) (qg (qg (qg qn))) (hg:=gy (dt h6)) (k:=iE (hg:=gy (dt h6)) (k:=pB (dt h6) (k:=mB (k:=nl (rt r1)))))
def spec_l04Ear.l0:Nat→List S142→Int→Int→Int→Int→Int→Int→Int→Int→Int→Option (Bool)
 | 0,_,_,_,_,_,_,_,_,_,_=>none
 | k+1,x0,x1,x5,y204_0,y204_1,y205_0,y205_1,y206_0,y206_1,x9=>if x9 < x5 then (if x9=x1 then (spec_l04Ear.l0 k x0 x1 x5 y204_0 y204_1 y205_0 y205_1 y206_0 y206_1 (wrap64 (x9+1))) else (if x5=0 then (none) else (if x9=(Int.tmod (wrap64 ((wrap64 (x1+x5)) - 1)) x5) then (spec_l04Ear.l0 k x0 x1 x5 y204_0 y204_1 y205_0 y205_1 y206_0 y206_1 (wrap64 (x9+1))) else (if x9=(Int.tmod (wrap64 (x1+1)) x5) then (spec_l04Ear.l0 k x0 x1 x5 y204_0 y204_1 y205_0 y205_1 y206_0 y206_1 (wrap64 (x9+1))) else (if 0≤x9 then (if x9 < (x0.length:Int) then ((spec_l04In.f y204_0 y204_1 y205_0 y205_1 y206_0 y206_1 ((rd142 x0 x9).f0) ((rd142 x0 x9).f1)).bind fun t18=>(if t18=true then (some false) else (spec_l04Ear.l0 k x0 x1 x5 y204_0 y204_1 y205_0 y205_1 y206_0 y206_1 (wrap64 (x9+1))))) else (none)) else (none)))))) else (some true)
def spec_l04Ear.f (k:Nat) (l0:List S142) (a1:Int):Option (Bool):=if (l0.length:Int)=0 then (none) else (if 0≤(Int.tmod (wrap64 ((wrap64 (a1+(l0.length:Int))) - 1)) (l0.length:Int)) then (if (Int.tmod (wrap64 ((wrap64 (a1+(l0.length:Int))) - 1)) (l0.length:Int)) < (l0.length:Int) then (if 0≤a1 then (if a1 < (l0.length:Int) then (if 0≤(Int.tmod (wrap64 (a1+1)) (l0.length:Int)) then (if (Int.tmod (wrap64 (a1+1)) (l0.length:Int)) < (l0.length:Int) then ((spec_l02Side.f ((rd142 l0 (Int.tmod (wrap64 ((wrap64 (a1+(l0.length:Int))) - 1)) (l0.length:Int))).f0) ((rd142 l0 (Int.tmod (wrap64 ((wrap64 (a1+(l0.length:Int))) - 1)) (l0.length:Int))).f1) ((rd142 l0 a1).f0) ((rd142 l0 a1).f1) ((rd142 l0 (Int.tmod (wrap64 (a1+1)) (l0.length:Int))).f0) ((rd142 l0 (Int.tmod (wrap64 (a1+1)) (l0.length:Int))).f1)).bind fun t8=>(if t8=1 then (spec_l04Ear.l0 k l0 a1 (l0.length:Int) ((rd142 l0 (Int.tmod (wrap64 ((wrap64 (a1+(l0.length:Int))) - 1)) (l0.length:Int))).f0) ((rd142 l0 (Int.tmod (wrap64 ((wrap64 (a1+(l0.length:Int))) - 1)) (l0.length:Int))).f1) ((rd142 l0 a1).f0) ((rd142 l0 a1).f1) ((rd142 l0 (Int.tmod (wrap64 (a1+1)) (l0.length:Int))).f0) ((rd142 l0 (Int.tmod (wrap64 (a1+1)) (l0.length:Int))).f1) 0) else (some false))) else (none)) else (none)) else (none)) else (none)) else (none)) else (none))
theorem spec_l04Ear.ok {k:Nat} {l0:List S142} {a1:Int} {r:Bool} (H:spec_l04Ear.f k l0 a1=some r):OkF Tryz.prog 171 [vR 143 (l0.map c142),vI a1] [] (vB r) []:=by
 unfold spec_l04Ear.f at H
 refine o1 73 4 Tryz.func171 fun w0 S=>?_
 refine s2 (mB (k:=nl (s2 (mR (k:=jl Tryz.underlying37 (k:=mI (k:=nl (s2 (mR (k:=mI (k:=mI (k:=iA (k:=iS (k:=mI (k:=?_)))))))))))))))
 obtain ⟨h1,H⟩:=oi H
 refine jr (r:=Int.tmod (wrap64 ((wrap64 (a1+(l0.length:Int))) - 1)) (l0.length:Int)) h1 (k:=?_)
 obtain ⟨h2,H⟩:=io H
 obtain ⟨h3,H⟩:=io H
 refine ixx ⟨h2,h3⟩ T143 Tryz.underlying37 (R142 h2 h3) (k:=oP T143 (k:=aP 200 T143 (k:=sP T143 (k:=nl (s2 (mR (k:=mI (k:=?_))))))))
 obtain ⟨h4,H⟩:=io H
 obtain ⟨h5,H⟩:=io H
 refine ixx ⟨h4,h5⟩ T143 Tryz.underlying37 (R142 h4 h5) (k:=oP T143 (k:=aP 201 T143 (k:=sP T143 (k:=nl (s2 (mR (k:=mI (k:=iA (k:=mI (k:=jr (r:=Int.tmod (wrap64 (a1+1)) (l0.length:Int)) h1 (k:=?_)))))))))))
 obtain ⟨h6,H⟩:=io H
 obtain ⟨h7,H⟩:=io H
 refine ixx ⟨h6,h7⟩ T143 Tryz.underlying37 (R142 h6 h7) (k:=oP T143 (k:=aP 202 T143 (k:=sP T143 (k:=nl (sq (s2 (lP T143 (k:=lP T143 (k:=lP T143 (k:=?_))))))))))
 obtain ⟨t8,e9,H⟩:=bo H
 refine cr rfl (spec_l02Side.ok e9) (qg (qg (qg qn))) (k:=iNe (k:=nl ?_))
 rcases ei H with ⟨h10,H⟩|⟨h10,H⟩
 ·refine ay (nn h10) ?_
  cases H
  exact s2 (mB (k:=nl (rt r1)))
 refine an (nq h10) ?_
 refine sp (sq (s2 (mI (k:=nl (bk (lp ?_))))))
 obtain ⟨K0,hK0,gK0⟩:=kk k
 refine AGr.canon (fun κ=>cond (Nat.beq κ 204) 200 (cond (Nat.beq κ 205) 201 (cond (Nat.beq κ 206) 202 (κ)))) (AGr.loopI (n:=k) (fun k s=>k≤K0∧∃ x0 x1 x5 y204_0 y204_1 y205_0 y205_1 y206_0 y206_1 x9,spec_l04Ear.l0 k x0 x1 x5 y204_0 y204_1 y205_0 y205_1 y206_0 y206_1 x9=some r∧s=St.of [(0,vR 143 (x0.map c142)),(1,vI x1),(5,vI x5),(6,.c (.ptr 204 0)),(7,.c (.ptr 205 0)),(8,.c (.ptr 206 0)),(9,vI x9)] [(204,.box 143 [.d (.v (.int .i64 y204_0)),.d (.v (.int .i64 y204_1))]),(205,.box 143 [.d (.v (.int .i64 y205_0)),.d (.v (.int .i64 y205_1))]),(206,.box 143 [.d (.v (.int .i64 y206_0)),.d (.v (.int .i64 y206_1))])]) ⟨hK0,_,_,_,_,_,_,_,_,_,_,H,rfl⟩ ?_ ?_) ⟨rfl,rfl,rfl,rfl,rfl,rfl,rfl,trivial⟩ ⟨rfl,rfl,rfl,trivial⟩ rfl
 ·rintro _ ⟨_,_,_,_,_,_,_,_,_,_,_,H,_⟩
  cases H
 clear H hK0
 rintro k ih0 _ ⟨hK0,x0,x1,x5,y204_0,y204_1,y205_0,y205_1,y206_0,y206_1,x9,H,rfl⟩
 unfold spec_l04Ear.l0 at H
 refine sq (s2 (mI (k:=mI (k:=iL (k:=nl ?_)))))
 rcases ei H with ⟨h11,H⟩|⟨h11,H⟩
 ·refine an (df h11) ?_
  cases H
  exact ex (s2 (mB (k:=nl (rt r1))))
 refine ay (dt h11) ?_
 refine sp (sq (bk (s2 (mI (k:=mI (k:=iNe (k:=mB (k:=?_))))))))
 rcases ie H with ⟨h12,H⟩|⟨h12,H⟩
 ·iterate 8 refine sk (nq h12) (k:=?_)
  refine qB (nq h12) (k:=mB (k:=?_))
  iterate 6 refine sk rfl (k:=?_)
  refine qB rfl (k:=mB (k:=?_))
  iterate 8 refine sk rfl (k:=?_)
  refine qB rfl (k:=?_)
  refine RA.nil (fun _=>by kernel_rfl) ?_
  refine an rfl ?_
  refine sp (rg (mI (k:=iA (k:=mI (k:=nl ?_)))))
  exact AGr.canon id (ih0 _ (by omega) _ ⟨by omega,_,_,_,_,_,_,_,_,_,_,H,rfl⟩) ⟨rfl,rfl,rfl,rfl,rfl,rfl,rfl,trivial⟩ ⟨rfl,rfl,rfl,trivial⟩ rfl
 refine mI (hg:=gy (nn h12)) (k:=mI (hg:=gy (nn h12)) (k:=mI (hg:=gy (nn h12)) (k:=iA (hg:=gy (nn h12)) (k:=iS (hg:=gy (nn h12)) (k:=mI (hg:=gy (nn h12)) (k:=?_))))))
 obtain ⟨h13,H⟩:=oi H
 refine jr (r:=Int.tmod (wrap64 ((wrap64 (x1+x5)) - 1)) x5) h13 (hg:=gy (nn h12)) (k:=iNe (hg:=gy (nn h12)) (k:=pB (nn h12) (k:=mB (k:=?_))))
 rcases ie H with ⟨h14,H⟩|⟨h14,H⟩
 ·iterate 6 refine sk (nq h14) (k:=?_)
  refine qB (nq h14) (k:=mB (k:=?_))
  iterate 8 refine sk rfl (k:=?_)
  refine qB rfl (k:=?_)
  refine RA.nil (fun _=>by kernel_rfl) ?_
  refine an rfl ?_
  refine sp (rg (mI (k:=iA (k:=mI (k:=nl ?_)))))
  exact AGr.canon id (ih0 _ (by omega) _ ⟨by omega,_,_,_,_,_,_,_,_,_,_,H,rfl⟩) ⟨rfl,rfl,rfl,rfl,rfl,rfl,rfl,trivial⟩ ⟨rfl,rfl,rfl,trivial⟩ rfl
 refine mI (hg:=gy (nn h14)) (k:=mI (hg:=gy (nn h14)) (k:=iA (hg:=gy (nn h14)) (k:=mI (hg:=gy (nn h14)) (k:=jr (r:=Int.tmod (wrap64 (x1+1)) x5) h13 (hg:=gy (nn h14)) (k:=iNe (hg:=gy (nn h14)) (k:=pB (nn h14) (k:=mB (k:=?_))))))))
 rcases ie H with ⟨h15,H⟩|⟨h15,H⟩
 ·iterate 8 refine sk (nq h15) (k:=?_)
  refine qB (nq h15) (k:=?_)
  refine RA.nil (fun _=>by kernel_rfl) ?_
  refine an rfl ?_
  refine sp (rg (mI (k:=iA (k:=mI (k:=nl ?_)))))
  exact AGr.canon id (ih0 _ (by omega) _ ⟨by omega,_,_,_,_,_,_,_,_,_,_,H,rfl⟩) ⟨rfl,rfl,rfl,rfl,rfl,rfl,rfl,trivial⟩ ⟨rfl,rfl,rfl,trivial⟩ rfl
 refine lP T143 (hg:=gy (nn h15)) (k:=lP T143 (hg:=gy (nn h15)) (k:=lP T143 (hg:=gy (nn h15)) (k:=mR (hg:=gy (nn h15)) (k:=mI (hg:=gy (nn h15)) (k:=?_)))))
 obtain ⟨h16,H⟩:=io H
 obtain ⟨h17,H⟩:=io H
 refine ixx ⟨h16,h17⟩ T143 Tryz.underlying37 (R142 h16 h17) (hg:=gy (nn h15)) (k:=oP T143 (hg:=gy (nn h15)) (k:=?_))
 obtain ⟨t18,e19,H⟩:=bo H
 refine cr rfl (spec_l04In.ok e19) (qg (qg (qg (qg qn)))) (hg:=gy (nn h15)) (k:=pB (nn h15) (k:=?_))
 refine RA.nil (fun _=>by kernel_rfl) ?_
 rcases ie H with ⟨h20,H⟩|⟨h20,H⟩
 ·refine ay h20 ?_
  cases H
  exact s2 (mB (k:=nl (rt r1)))
 refine an (bf h20) ?_
 refine sp (rg (mI (k:=iA (k:=mI (k:=nl ?_)))))
 exact AGr.canon id (ih0 _ (by omega) _ ⟨by omega,_,_,_,_,_,_,_,_,_,_,H,rfl⟩) ⟨rfl,rfl,rfl,rfl,rfl,rfl,rfl,trivial⟩ ⟨rfl,rfl,rfl,trivial⟩ rfl
mutual
def spec_l04Triangles.l0:Nat→List S142→List (List S142)→Option ((List (List S142)))
 | 0,_,_=>none
 | k+1,x3,x4=>if (x3.length:Int) > 3 then (spec_l04Triangles.l1 k x3 x4 (x3.length:Int) 0) else (if ([]:List S142).length+x3.length < 8796093022208 then (if x4.length < 5864062014805 then (some (x4++[(([]:List S142)++x3)])) else (none)) else (none))
def spec_l04Triangles.l1:Nat→List S142→List (List S142)→Int→Int→Option ((List (List S142)))
 | 0,_,_,_,_=>none
 | k+1,x3,x4,x5,x6=>if x6 < (wrap64 (x5 - 1)) then ((spec_l04Ear.f k x3 x6).bind fun t6=>(if t6=true then (if x5=0 then (none) else (if 0≤(Int.tmod (wrap64 ((wrap64 (x6+x5)) - 1)) x5) then (if (Int.tmod (wrap64 ((wrap64 (x6+x5)) - 1)) x5) < (x3.length:Int) then (if 0≤x6 then (if x6 < (x3.length:Int) then (if 0≤(Int.tmod (wrap64 (x6+1)) x5) then (if (Int.tmod (wrap64 (x6+1)) x5) < (x3.length:Int) then (if x4.length < 5864062014805 then (if x6≤(x3.length:Int) then (if ([]:List S142).length+((x6:Int).toNat) < 8796093022208 then ((some (([]:List S142)++(x3.drop 0).take ((x6:Int).toNat):List S142)).bind fun y20=>(if 0≤(wrap64 (x6+1)) then (if wrap64 (x6+1)≤(x3.length:Int) then (if y20.length+(x3.length - (wrap64 (x6+1):Int).toNat) < 8796093022208 then (spec_l04Triangles.l0 k (y20++(x3.drop ((wrap64 (x6+1):Int).toNat)).take (x3.length - (wrap64 (x6+1):Int).toNat)) (x4++[[(⟨(rd142 x3 (Int.tmod (wrap64 ((wrap64 (x6+x5)) - 1)) x5)).f0,(rd142 x3 (Int.tmod (wrap64 ((wrap64 (x6+x5)) - 1)) x5)).f1⟩:S142),(⟨(rd142 x3 x6).f0,(rd142 x3 x6).f1⟩:S142),(⟨(rd142 x3 (Int.tmod (wrap64 (x6+1)) x5)).f0,(rd142 x3 (Int.tmod (wrap64 (x6+1)) x5)).f1⟩:S142)]])) else (none)) else (none)) else (none))) else (none)) else (none)) else (none)) else (none)) else (none)) else (none)) else (none)) else (none)) else (none))) else (spec_l04Triangles.l1 k x3 x4 x5 (wrap64 (x6+1))))) else (if x5=0 then (none) else (if 0≤(Int.tmod (wrap64 ((wrap64 (x6+x5)) - 1)) x5) then (if (Int.tmod (wrap64 ((wrap64 (x6+x5)) - 1)) x5) < (x3.length:Int) then (if 0≤x6 then (if x6 < (x3.length:Int) then (if 0≤(Int.tmod (wrap64 (x6+1)) x5) then (if (Int.tmod (wrap64 (x6+1)) x5) < (x3.length:Int) then (if x4.length < 5864062014805 then (if x6≤(x3.length:Int) then (if ([]:List S142).length+((x6:Int).toNat) < 8796093022208 then ((some (([]:List S142)++(x3.drop 0).take ((x6:Int).toNat):List S142)).bind fun y36=>(if 0≤(wrap64 (x6+1)) then (if wrap64 (x6+1)≤(x3.length:Int) then (if y36.length+(x3.length - (wrap64 (x6+1):Int).toNat) < 8796093022208 then (spec_l04Triangles.l0 k (y36++(x3.drop ((wrap64 (x6+1):Int).toNat)).take (x3.length - (wrap64 (x6+1):Int).toNat)) (x4++[[(⟨(rd142 x3 (Int.tmod (wrap64 ((wrap64 (x6+x5)) - 1)) x5)).f0,(rd142 x3 (Int.tmod (wrap64 ((wrap64 (x6+x5)) - 1)) x5)).f1⟩:S142),(⟨(rd142 x3 x6).f0,(rd142 x3 x6).f1⟩:S142),(⟨(rd142 x3 (Int.tmod (wrap64 (x6+1)) x5)).f0,(rd142 x3 (Int.tmod (wrap64 (x6+1)) x5)).f1⟩:S142)]])) else (none)) else (none)) else (none))) else (none)) else (none)) else (none)) else (none)) else (none)) else (none)) else (none)) else (none)) else (none)))
end
def spec_l04Triangles.f (k:Nat) (l0:List S142):Option ((List (List S142))):=if ([]:List S142).length+l0.length < 8796093022208 then (spec_l04Triangles.l0 k (([]:List S142)++l0) (([]:List (List S142)))) else (none)
theorem spec_l04Triangles.ok {k:Nat} {l0:List S142} {r:List (List S142)} (H:spec_l04Triangles.f k l0=some r):OkF Tryz.prog 144 [vR 143 (l0.map c142)] [] (.c (.own 100 r.length)) [(100,.row 37 (r.map c37))]:=by
 unfold spec_l04Triangles.f at H
 refine o1 70 2 Tryz.func144 fun w0 S=>?_
 refine s2 (jn (e:=37) 200 T37 (k:=nl (s2 ?_)))
 refine a_lit (cs:=[]) (D:=[]) (css:=(([]:List S142)).map c142) 201 ?_ N37 T143
 refine mR (k:=?_)
 obtain ⟨h1,H⟩:=io H
 refine a_appR (css2:=l0.map c142) (css':=(([]:List S142)++l0).map c142) (n':=(([]:List S142)++l0).length) ?_ (by simp [c142,isV,Value.oneCell']) T143 (by simp [maxLen]; omega) (by simp; omega) Tryz.underlying37 (hc:=by exact List.map_append.symm) (hn:=by exact List.length_map _)
 refine mW (k:=nl (s2 ?_))
 refine a_lit (cs:=[]) (D:=[]) (css:=(([]:List (List S142))).map c37) 202 ?_ N96 T37 (hcss:=by rfl)
 refine mW (k:=nl (sq (bk (lp ?_))))
 obtain ⟨K0,hK0,gK0⟩:=kk k
 refine AGr.canon (fun κ=>cond (Nat.beq κ 203) 201 (cond (Nat.beq κ 204) 202 (κ))) (AGr.loopI (n:=k) (fun k s=>k≤K0∧∃ x3 x4,spec_l04Triangles.l0 k x3 x4=some r∧s=St.of [(3,.c (.own 203 x3.length)),(4,.c (.own 204 x4.length))] [(203,.row 143 (x3.map c142)),(204,.row 37 (x4.map c37))]) ⟨hK0,_,_,H,rfl⟩ ?_ ?_) ⟨rfl,(ownE rfl (by simp)),trivial⟩ ⟨rfl,rfl,trivial⟩ rfl
 ·rintro _ ⟨_,_,_,H,_⟩
  cases H
 clear H hK0
 rintro k ih0 _ ⟨hK0,x3,x4,H,rfl⟩
 unfold spec_l04Triangles.l0 at H
 refine sq (s2 (mW (k:=jo Tryz.underlying37 (k:=iG (k:=nl ?_)))))
 rcases ei H with ⟨h4,H⟩|⟨h4,H⟩
 ·refine an (df h4) ?_
  refine ex (s2 (mW (k:=?_)))
  refine a_lit (cs:=[]) (D:=[]) (css:=(([]:List S142)).map c142) 205 ?_ N37 T143
  refine mW (k:=?_)
  obtain ⟨h41,H⟩:=io H
  refine a_appO (css':=(([]:List S142)++x3).map c142) (n':=(([]:List S142)++x3).length) ?_ T143 (by simp [maxLen]; omega) (by simp; omega) Tryz.underlying37 (hc:=by exact List.map_append.symm) (hn:=by exact List.length_map _)
  refine a_lit (cs:=[_]) (D:=[205]) (css:=([(([]:List S142)++x3)]).map c37) 206 ?_ N96 T37
  obtain ⟨h43,H⟩:=io H
  refine a_appO (css':=(x4++[(([]:List S142)++x3)]).map c37) (n':=(x4++[(([]:List S142)++x3)]).length) ?_ T37 (by simp [maxLen]; omega) (by simp; omega) Tryz.underlying96 (hc:=by exact List.map_append.symm) (hn:=by exact List.length_map _)
  refine mW (k:=nl (rt ?_))
  cases H
  exact RetP.mk (fun κ=>cond (Nat.beq κ 100) 204 (κ)) ⟨rfl,trivial⟩ ⟨rfl,trivial⟩ rfl
 refine ay (dt h4) ?_
 refine sp (bk (s2 (mW (k:=jo Tryz.underlying37 (k:=mI (k:=nl (s2 (mI (k:=nl (sq (bk (lp ?_))))))))))))
 obtain ⟨K1,hK1,gK1⟩:=kk k
 refine AGr.canon (fun κ=>cond (Nat.beq κ 207) 203 (cond (Nat.beq κ 208) 204 (κ))) (AGr.loopI (n:=k) (fun k s=>k≤K1∧∃ x3 x4 x5 x6,spec_l04Triangles.l1 k x3 x4 x5 x6=some r∧s=St.of [(3,.c (.own 207 x3.length)),(4,.c (.own 208 x4.length)),(5,vI x5),(6,vI x6)] [(207,.row 143 (x3.map c142)),(208,.row 37 (x4.map c37))]) ⟨hK1,_,_,_,_,H,rfl⟩ ?_ ?_) ⟨rfl,rfl,rfl,rfl,trivial⟩ ⟨rfl,rfl,trivial⟩ rfl
 ·rintro _ ⟨_,_,_,_,_,H,_⟩
  cases H
 clear H hK1
 rintro k ih1 _ ⟨hK1,x3,x4,x5,x6,H,rfl⟩
 unfold spec_l04Triangles.l1 at H
 refine sq (s2 (mI (k:=mI (k:=iS (k:=iL (k:=mB (k:=?_)))))))
 rcases ei H with ⟨h5,H⟩|⟨h5,H⟩
 ·iterate 4 refine sk (df h5) (k:=?_)
  refine qB (df h5) (k:=nl ?_)
  refine an rfl ?_
  refine ex (s2 (mW (k:=mW (k:=mI (k:=mI (k:=iA (k:=iS (k:=mI (k:=?_)))))))))
  obtain ⟨h25,H⟩:=oi H
  refine jr (r:=Int.tmod (wrap64 ((wrap64 (x6+x5)) - 1)) x5) h25 (k:=?_)
  obtain ⟨h26,H⟩:=io H
  obtain ⟨h27,H⟩:=io H
  refine ji ⟨h26,h27⟩ T143 Tryz.underlying37 (k:=eP (G142 h26 h27) T143 (k:=mW (k:=mI (k:=?_))))
  obtain ⟨h28,H⟩:=io H
  obtain ⟨h29,H⟩:=io H
  refine ji ⟨h28,h29⟩ T143 Tryz.underlying37 (k:=eP (G142 h28 h29) T143 (k:=mW (k:=mI (k:=iA (k:=mI (k:=jr (r:=Int.tmod (wrap64 (x6+1)) x5) h25 (k:=?_)))))))
  obtain ⟨h30,H⟩:=io H
  obtain ⟨h31,H⟩:=io H
  refine ji ⟨h30,h31⟩ T143 Tryz.underlying37 (k:=eP (G142 h30 h31) T143 (k:=?_))
  refine a_lit (cs:=[_,_,_,_,_,_]) (D:=[]) (css:=([(⟨(rd142 x3 (Int.tmod (wrap64 ((wrap64 (x6+x5)) - 1)) x5)).f0,(rd142 x3 (Int.tmod (wrap64 ((wrap64 (x6+x5)) - 1)) x5)).f1⟩:S142),(⟨(rd142 x3 x6).f0,(rd142 x3 x6).f1⟩:S142),(⟨(rd142 x3 (Int.tmod (wrap64 (x6+1)) x5)).f0,(rd142 x3 (Int.tmod (wrap64 (x6+1)) x5)).f1⟩:S142)]).map c142) 210 ?_ N37 T143
  refine a_lit (cs:=[_]) (D:=[210]) (css:=([[(⟨(rd142 x3 (Int.tmod (wrap64 ((wrap64 (x6+x5)) - 1)) x5)).f0,(rd142 x3 (Int.tmod (wrap64 ((wrap64 (x6+x5)) - 1)) x5)).f1⟩:S142),(⟨(rd142 x3 x6).f0,(rd142 x3 x6).f1⟩:S142),(⟨(rd142 x3 (Int.tmod (wrap64 (x6+1)) x5)).f0,(rd142 x3 (Int.tmod (wrap64 (x6+1)) x5)).f1⟩:S142)]]).map c37) 211 ?_ N96 T37
  obtain ⟨h32,H⟩:=io H
  refine a_appO (css':=(x4++[[(⟨(rd142 x3 (Int.tmod (wrap64 ((wrap64 (x6+x5)) - 1)) x5)).f0,(rd142 x3 (Int.tmod (wrap64 ((wrap64 (x6+x5)) - 1)) x5)).f1⟩:S142),(⟨(rd142 x3 x6).f0,(rd142 x3 x6).f1⟩:S142),(⟨(rd142 x3 (Int.tmod (wrap64 (x6+1)) x5)).f0,(rd142 x3 (Int.tmod (wrap64 (x6+1)) x5)).f1⟩:S142)]]).map c37) (n':=(x4++[[(⟨(rd142 x3 (Int.tmod (wrap64 ((wrap64 (x6+x5)) - 1)) x5)).f0,(rd142 x3 (Int.tmod (wrap64 ((wrap64 (x6+x5)) - 1)) x5)).f1⟩:S142),(⟨(rd142 x3 x6).f0,(rd142 x3 x6).f1⟩:S142),(⟨(rd142 x3 (Int.tmod (wrap64 (x6+1)) x5)).f0,(rd142 x3 (Int.tmod (wrap64 (x6+1)) x5)).f1⟩:S142)]]).length) ?_ T37 (by simp [maxLen]; omega) (by simp; omega) Tryz.underlying96 (hc:=by exact List.map_append.symm) (hn:=by exact List.length_map _)
  refine mW (k:=?_)
  refine RA.nil (fun _=>by kernel_rfl) ?_
  refine s2 ?_
  refine a_lit (cs:=[]) (D:=[]) (css:=(([]:List S142)).map c142) 212 ?_ N37 T143
  refine mW (k:=mI (k:=?_))
  obtain ⟨h34,H⟩:=io H
  refine a_slO (l:=none) (h:=some x6) ?_ Tryz.underlying37 T143 ⟨(Int.le_refl 0),h28,h34⟩
  obtain ⟨h35,H⟩:=io H
  obtain ⟨y36,ey36,H⟩:=bo H
  have ey36:=Option.some.inj ey36
  refine a_appC (css2:=x3.map c142) (css':=y36.map c142) (n':=y36.length) ?_ (by simp [c142,isV,Value.oneCell']) T143 (by rw [← ey36]; simp [maxLen]; omega) (by rw [← ey36]; simp; omega) (by rw [← ey36]; rw [List.map_append,List.map_take,List.map_drop]) (by exact List.length_map _) Tryz.underlying37
  refine mW (k:=nl (rg (mW (k:=mW (k:=mI (k:=iA (k:=?_)))))))
  obtain ⟨h37,H⟩:=io H
  obtain ⟨h38,H⟩:=io H
  refine a_slO (l:=some (wrap64 (x6+1))) (h:=none) ?_ Tryz.underlying37 T143 ⟨h37,h38,(Int.le_refl _)⟩
  obtain ⟨h39,H⟩:=io H
  refine a_appC (css2:=x3.map c142) (css':=(y36++(x3.drop ((wrap64 (x6+1):Int).toNat)).take (x3.length - (wrap64 (x6+1):Int).toNat)).map c142) (n':=(y36++(x3.drop ((wrap64 (x6+1):Int).toNat)).take (x3.length - (wrap64 (x6+1):Int).toNat)).length) ?_ (by simp [c142,isV,Value.oneCell']) T143 (by simp [maxLen]; omega) (by simp; omega) (by rw [List.map_append,List.map_take,List.map_drop]) (by exact List.length_map _) Tryz.underlying37
  refine mW (k:=nl ?_)
  exact AGr.canon (fun κ=>cond (Nat.beq κ 203) 212 (cond (Nat.beq κ 204) 208 (κ))) (ih0 _ (by omega) _ ⟨by omega,_,_,H,rfl⟩) ⟨rfl,rfl,trivial⟩ ⟨rfl,rfl,trivial⟩ rfl
 refine mW (hg:=gy (dt h5)) (k:=mI (hg:=gy (dt h5)) (k:=?_))
 obtain ⟨t6,e7,H⟩:=bo H
 refine a_call (v:=vB t6) (nk:=[]) (L:=[(207,_)]) ?_ rfl (spec_l04Ear.ok e7) id (qc rO (qd qn)) ⟨rfl,trivial⟩ trivial trivial rfl (hg:=gy (dt h5))
 refine uN (hg:=gy (dt h5)) (k:=pB (dt h5) (k:=nl ?_))
 rcases ei H with ⟨h8,H⟩|⟨h8,H⟩
 ·refine ay (cn (bf h8)) ?_
  refine sp (bk (rg (mI (k:=iA (k:=mI (k:=nl ?_))))))
  exact AGr.canon id (ih1 _ (by omega) _ ⟨by omega,_,_,_,_,H,rfl⟩) ⟨rfl,rfl,rfl,rfl,trivial⟩ ⟨rfl,rfl,trivial⟩ rfl
 refine an (cn h8) ?_
 refine ex (s2 (mW (k:=mW (k:=mI (k:=mI (k:=iA (k:=iS (k:=mI (k:=?_)))))))))
 obtain ⟨h9,H⟩:=oi H
 refine jr (r:=Int.tmod (wrap64 ((wrap64 (x6+x5)) - 1)) x5) h9 (k:=?_)
 obtain ⟨h10,H⟩:=io H
 obtain ⟨h11,H⟩:=io H
 refine ji ⟨h10,h11⟩ T143 Tryz.underlying37 (k:=eP (G142 h10 h11) T143 (k:=mW (k:=mI (k:=?_))))
 obtain ⟨h12,H⟩:=io H
 obtain ⟨h13,H⟩:=io H
 refine ji ⟨h12,h13⟩ T143 Tryz.underlying37 (k:=eP (G142 h12 h13) T143 (k:=mW (k:=mI (k:=iA (k:=mI (k:=jr (r:=Int.tmod (wrap64 (x6+1)) x5) h9 (k:=?_)))))))
 obtain ⟨h14,H⟩:=io H
 obtain ⟨h15,H⟩:=io H
 refine ji ⟨h14,h15⟩ T143 Tryz.underlying37 (k:=eP (G142 h14 h15) T143 (k:=?_))
 refine a_lit (cs:=[_,_,_,_,_,_]) (D:=[]) (css:=([(⟨(rd142 x3 (Int.tmod (wrap64 ((wrap64 (x6+x5)) - 1)) x5)).f0,(rd142 x3 (Int.tmod (wrap64 ((wrap64 (x6+x5)) - 1)) x5)).f1⟩:S142),(⟨(rd142 x3 x6).f0,(rd142 x3 x6).f1⟩:S142),(⟨(rd142 x3 (Int.tmod (wrap64 (x6+1)) x5)).f0,(rd142 x3 (Int.tmod (wrap64 (x6+1)) x5)).f1⟩:S142)]).map c142) 210 ?_ N37 T143
 refine a_lit (cs:=[_]) (D:=[210]) (css:=([[(⟨(rd142 x3 (Int.tmod (wrap64 ((wrap64 (x6+x5)) - 1)) x5)).f0,(rd142 x3 (Int.tmod (wrap64 ((wrap64 (x6+x5)) - 1)) x5)).f1⟩:S142),(⟨(rd142 x3 x6).f0,(rd142 x3 x6).f1⟩:S142),(⟨(rd142 x3 (Int.tmod (wrap64 (x6+1)) x5)).f0,(rd142 x3 (Int.tmod (wrap64 (x6+1)) x5)).f1⟩:S142)]]).map c37) 211 ?_ N96 T37
 obtain ⟨h16,H⟩:=io H
 refine a_appO (css':=(x4++[[(⟨(rd142 x3 (Int.tmod (wrap64 ((wrap64 (x6+x5)) - 1)) x5)).f0,(rd142 x3 (Int.tmod (wrap64 ((wrap64 (x6+x5)) - 1)) x5)).f1⟩:S142),(⟨(rd142 x3 x6).f0,(rd142 x3 x6).f1⟩:S142),(⟨(rd142 x3 (Int.tmod (wrap64 (x6+1)) x5)).f0,(rd142 x3 (Int.tmod (wrap64 (x6+1)) x5)).f1⟩:S142)]]).map c37) (n':=(x4++[[(⟨(rd142 x3 (Int.tmod (wrap64 ((wrap64 (x6+x5)) - 1)) x5)).f0,(rd142 x3 (Int.tmod (wrap64 ((wrap64 (x6+x5)) - 1)) x5)).f1⟩:S142),(⟨(rd142 x3 x6).f0,(rd142 x3 x6).f1⟩:S142),(⟨(rd142 x3 (Int.tmod (wrap64 (x6+1)) x5)).f0,(rd142 x3 (Int.tmod (wrap64 (x6+1)) x5)).f1⟩:S142)]]).length) ?_ T37 (by simp [maxLen]; omega) (by simp; omega) Tryz.underlying96 (hc:=by exact List.map_append.symm) (hn:=by exact List.length_map _)
 refine mW (k:=?_)
 refine RA.nil (fun _=>by kernel_rfl) ?_
 refine s2 ?_
 refine a_lit (cs:=[]) (D:=[]) (css:=(([]:List S142)).map c142) 212 ?_ N37 T143
 refine mW (k:=mI (k:=?_))
 obtain ⟨h18,H⟩:=io H
 refine a_slO (l:=none) (h:=some x6) ?_ Tryz.underlying37 T143 ⟨(Int.le_refl 0),h12,h18⟩
 obtain ⟨h19,H⟩:=io H
 obtain ⟨y20,ey20,H⟩:=bo H
 have ey20:=Option.some.inj ey20
 refine a_appC (css2:=x3.map c142) (css':=y20.map c142) (n':=y20.length) ?_ (by simp [c142,isV,Value.oneCell']) T143 (by rw [← ey20]; simp [maxLen]; omega) (by rw [← ey20]; simp; omega) (by rw [← ey20]; rw [List.map_append,List.map_take,List.map_drop]) (by exact List.length_map _) Tryz.underlying37
 refine mW (k:=nl (rg (mW (k:=mW (k:=mI (k:=iA (k:=?_)))))))
 obtain ⟨h21,H⟩:=io H
 obtain ⟨h22,H⟩:=io H
 refine a_slO (l:=some (wrap64 (x6+1))) (h:=none) ?_ Tryz.underlying37 T143 ⟨h21,h22,(Int.le_refl _)⟩
 obtain ⟨h23,H⟩:=io H
 refine a_appC (css2:=x3.map c142) (css':=(y20++(x3.drop ((wrap64 (x6+1):Int).toNat)).take (x3.length - (wrap64 (x6+1):Int).toNat)).map c142) (n':=(y20++(x3.drop ((wrap64 (x6+1):Int).toNat)).take (x3.length - (wrap64 (x6+1):Int).toNat)).length) ?_ (by simp [c142,isV,Value.oneCell']) T143 (by simp [maxLen]; omega) (by simp; omega) (by rw [List.map_append,List.map_take,List.map_drop]) (by exact List.length_map _) Tryz.underlying37
 refine mW (k:=nl ?_)
 exact AGr.canon (fun κ=>cond (Nat.beq κ 203) 212 (cond (Nat.beq κ 204) 208 (κ))) (ih0 _ (by omega) _ ⟨by omega,_,_,H,rfl⟩) ⟨rfl,rfl,trivial⟩ ⟨rfl,rfl,trivial⟩ rfl
mutual
def spec_l04Parted.l0:Nat→List S142→List S142→Int→Option (Bool)
 | 0,_,_,_=>none
 | k+1,x0,x1,x5=>if x5 < 3 then (spec_l04Parted.l1 k x0 x1 x5 true 0) else (some false)
def spec_l04Parted.l1:Nat→List S142→List S142→Int→Bool→Int→Option (Bool)
 | 0,_,_,_,_,_=>none
 | k+1,x0,x1,x5,x6,x7=>if x7 < 3 then (if x6=true then (if 0≤x5 then (if x5 < (x0.length:Int) then (if 0≤(Int.tmod (wrap64 (x5+1)) 3) then (if (Int.tmod (wrap64 (x5+1)) 3) < (x0.length:Int) then (if 0≤x7 then (if x7 < (x1.length:Int) then ((spec_l02Side.f ((rd142 x0 x5).f0) ((rd142 x0 x5).f1) ((rd142 x0 (Int.tmod (wrap64 (x5+1)) 3)).f0) ((rd142 x0 (Int.tmod (wrap64 (x5+1)) 3)).f1) ((rd142 x1 x7).f0) ((rd142 x1 x7).f1)).bind fun t10=>(spec_l04Parted.l1 k x0 x1 x5 (decide (t10≤0)) (wrap64 (x7+1)))) else (none)) else (none)) else (none)) else (none)) else (none)) else (none)) else (spec_l04Parted.l1 k x0 x1 x5 false (wrap64 (x7+1)))) else (if x6=true then (some true) else (spec_l04Parted.l0 k x0 x1 (wrap64 (x5+1))))
end
def spec_l04Parted.f (k:Nat) (l0 l1:List S142):Option (Bool):=spec_l04Parted.l0 k l0 l1 0
theorem spec_l04Parted.ok {k:Nat} {l0 l1:List S142} {r:Bool} (H:spec_l04Parted.f k l0 l1=some r):OkF Tryz.prog 145 [vR 143 (l0.map c142),vR 143 (l1.map c142)] [] (vB r) []:=by
 unfold spec_l04Parted.f at H
 refine o1 36 4 Tryz.func145 fun w0 S=>?_
 refine s2 (mB (k:=nl (sq (s2 (mI (k:=nl (bk (lp ?_))))))))
 obtain ⟨K0,hK0,gK0⟩:=kk k
 refine AGr.canon id (AGr.loopI (n:=k) (fun k s=>k≤K0∧∃ x0 x1 x5,spec_l04Parted.l0 k x0 x1 x5=some r∧s=St.of [(0,vR 143 (x0.map c142)),(1,vR 143 (x1.map c142)),(5,vI x5)] []) ⟨hK0,_,_,_,H,rfl⟩ ?_ ?_) ⟨rfl,rfl,rfl,trivial⟩ trivial rfl
 ·rintro _ ⟨_,_,_,_,H,_⟩
  cases H
 clear H hK0
 rintro k ih0 _ ⟨hK0,x0,x1,x5,H,rfl⟩
 unfold spec_l04Parted.l0 at H
 refine sq (s2 (mI (k:=iL (k:=nl ?_))))
 rcases ei H with ⟨h1,H⟩|⟨h1,H⟩
 ·refine an (df h1) ?_
  cases H
  exact ex (s2 (mB (k:=nl (rt r1))))
 refine ay (dt h1) ?_
 refine sp (sq (bk (s2 (mB (k:=nl (sq (s2 (mI (k:=nl (bk (lp ?_)))))))))))
 obtain ⟨K1,hK1,gK1⟩:=kk k
 refine AGr.canon id (AGr.loopI (n:=k) (fun k s=>k≤K1∧∃ x0 x1 x5 x6 x7,spec_l04Parted.l1 k x0 x1 x5 x6 x7=some r∧s=St.of [(0,vR 143 (x0.map c142)),(1,vR 143 (x1.map c142)),(5,vI x5),(6,vB x6),(7,vI x7)] []) ⟨hK1,_,_,_,_,_,H,rfl⟩ ?_ ?_) ⟨rfl,rfl,rfl,rfl,rfl,trivial⟩ trivial rfl
 ·rintro _ ⟨_,_,_,_,_,_,H,_⟩
  cases H
 clear H hK1
 rintro k ih1 _ ⟨hK1,x0,x1,x5,x6,x7,H,rfl⟩
 unfold spec_l04Parted.l1 at H
 refine sq (s2 (mI (k:=iL (k:=nl ?_))))
 rcases ei H with ⟨h2,H⟩|⟨h2,H⟩
 ·refine an (df h2) ?_
  refine ex (s2 (mB (k:=nl ?_)))
  rcases ie H with ⟨h12,H⟩|⟨h12,H⟩
  ·refine ay h12 ?_
   cases H
   exact s2 (mB (k:=nl (rt r1)))
  refine an (bf h12) ?_
  refine sp (rg (mI (k:=iA (k:=mI (k:=nl ?_)))))
  exact AGr.canon id (ih0 _ (by omega) _ ⟨by omega,_,_,_,H,rfl⟩) ⟨rfl,rfl,rfl,trivial⟩ trivial rfl
 refine ay (dt h2) ?_
 refine sp (sq (bk (rg (mB (k:=mB (k:=?_))))))
 rcases ei H with ⟨h3,H⟩|⟨h3,H⟩
 ·iterate 16 refine sk (bf h3) (k:=?_)
  refine qB (bf h3) (k:=mB (k:=?_))
  refine RA.nil (fun _=>by kernel_rfl) ?_
  refine rg (mI (k:=iA (k:=mI (k:=nl ?_))))
  exact AGr.canon id (ih1 _ (by omega) _ ⟨by omega,_,_,_,_,_,H,rfl⟩) ⟨rfl,rfl,rfl,rfl,rfl,trivial⟩ trivial rfl
 refine mR (hg:=gy h3) (k:=mI (hg:=gy h3) (k:=?_))
 obtain ⟨h4,H⟩:=io H
 obtain ⟨h5,H⟩:=io H
 refine ixx ⟨h4,h5⟩ T143 Tryz.underlying37 (R142 h4 h5) (hg:=gy h3) (k:=oP T143 (hg:=gy h3) (k:=mR (hg:=gy h3) (k:=mI (hg:=gy h3) (k:=iA (hg:=gy h3) (k:=jr (r:=Int.tmod (wrap64 (x5+1)) 3) (show ¬ (3:Int)=0 from by decide) (hg:=gy h3) (k:=?_))))))
 obtain ⟨h6,H⟩:=io H
 obtain ⟨h7,H⟩:=io H
 refine ixx ⟨h6,h7⟩ T143 Tryz.underlying37 (R142 h6 h7) (hg:=gy h3) (k:=oP T143 (hg:=gy h3) (k:=mR (hg:=gy h3) (k:=mI (hg:=gy h3) (k:=?_))))
 obtain ⟨h8,H⟩:=io H
 obtain ⟨h9,H⟩:=io H
 refine ixx ⟨h8,h9⟩ T143 Tryz.underlying37 (R142 h8 h9) (hg:=gy h3) (k:=oP T143 (hg:=gy h3) (k:=?_))
 obtain ⟨t10,e11,H⟩:=bo H
 refine cr rfl (spec_l02Side.ok e11) (qg (qg (qg qn))) (hg:=gy h3) (k:=iQ (hg:=gy h3) (k:=pB h3 (k:=mB (k:=?_))))
 refine RA.nil (fun _=>by kernel_rfl) ?_
 refine rg (mI (k:=iA (k:=mI (k:=nl ?_))))
 exact AGr.canon id (ih1 _ (by omega) _ ⟨by omega,_,_,_,_,_,H,rfl⟩) ⟨rfl,rfl,rfl,rfl,rfl,trivial⟩ trivial rfl
mutual
def spec_l04Disjoint.l0:Nat→List (List S142)→List (List S142)→Int→Option (Bool)
 | 0,_,_,_=>none
 | k+1,x5,x6,x7=>if x7 < (x5.length:Int) then (spec_l04Disjoint.l1 k x5 x6 x7 0) else (some true)
def spec_l04Disjoint.l1:Nat→List (List S142)→List (List S142)→Int→Int→Option (Bool)
 | 0,_,_,_,_=>none
 | k+1,x5,x6,x7,x8=>if x8 < (x6.length:Int) then (if 0≤x7 then (if x7 < (x5.length:Int) then (if 0≤x8 then ((spec_l04Parted.f k (rd37 x5 x7) (rd37 x6 x8)).bind fun t8=>(if t8=true then (spec_l04Disjoint.l1 k x5 x6 x7 (wrap64 (x8+1))) else ((spec_l04Parted.f k (rd37 x6 x8) (rd37 x5 x7)).bind fun t11=>(if t11=true then (spec_l04Disjoint.l1 k x5 x6 x7 (wrap64 (x8+1))) else (some false))))) else (none)) else (none)) else (none)) else (spec_l04Disjoint.l0 k x5 x6 (wrap64 (x7+1)))
end
def spec_l04Disjoint.f (k:Nat) (l0 l1:List S142):Option (Bool):=(spec_l04Triangles.f k l0).bind fun t1=>((spec_l04Triangles.f k l1).bind fun t2=>(spec_l04Disjoint.l0 k t1 t2 0))
theorem spec_l04Disjoint.ok {k:Nat} {l0 l1:List S142} {r:Bool} (H:spec_l04Disjoint.f k l0 l1=some r):OkF Tryz.prog 109 [vR 143 (l0.map c142),vR 143 (l1.map c142)] [] (vB r) []:=by
 unfold spec_l04Disjoint.f at H
 refine o1 47 4 Tryz.func109 fun w0 S=>?_
 refine s2 (mB (k:=nl (s2 (mR (k:=?_)))))
 obtain ⟨t1,et1,H⟩:=bo H
 refine a_callF (L:=[]) ?_ rfl (spec_l04Triangles.ok et1) (qd qn) trivial
 refine mR (k:=nl (s2 (mR (k:=?_))))
 obtain ⟨t2,et2,H⟩:=bo H
 refine a_callF (L:=[]) ?_ rfl (spec_l04Triangles.ok et2) (qd qn) trivial
 refine mR (k:=nl (sq (s2 (mI (k:=nl (bk (lp ?_)))))))
 obtain ⟨K0,hK0,gK0⟩:=kk k
 refine AGr.canon id (AGr.loopI (n:=k) (fun k s=>k≤K0∧∃ x5 x6 x7,spec_l04Disjoint.l0 k x5 x6 x7=some r∧s=St.of [(5,vR 37 (x5.map c37)),(6,vR 37 (x6.map c37)),(7,vI x7)] []) ⟨hK0,_,_,_,H,rfl⟩ ?_ ?_) ⟨rfl,rfl,rfl,trivial⟩ trivial rfl
 ·rintro _ ⟨_,_,_,_,H,_⟩
  cases H
 clear H hK0
 rintro k ih0 _ ⟨hK0,x5,x6,x7,H,rfl⟩
 unfold spec_l04Disjoint.l0 at H
 refine sq (s2 (mI (k:=mR (k:=jl Tryz.underlying96 (k:=iL (k:=nl ?_))))))
 rcases ei H with ⟨h3,H⟩|⟨h3,H⟩
 ·refine an (df h3) ?_
  cases H
  exact ex (s2 (mB (k:=nl (rt r1))))
 refine ay (dt h3) ?_
 refine sp (sq (bk (s2 (mI (k:=nl (bk (lp ?_)))))))
 obtain ⟨K1,hK1,gK1⟩:=kk k
 refine AGr.canon id (AGr.loopI (n:=k) (fun k s=>k≤K1∧∃ x5 x6 x7 x8,spec_l04Disjoint.l1 k x5 x6 x7 x8=some r∧s=St.of [(5,vR 37 (x5.map c37)),(6,vR 37 (x6.map c37)),(7,vI x7),(8,vI x8)] []) ⟨hK1,_,_,_,_,H,rfl⟩ ?_ ?_) ⟨rfl,rfl,rfl,rfl,trivial⟩ trivial rfl
 ·rintro _ ⟨_,_,_,_,_,H,_⟩
  cases H
 clear H hK1
 rintro k ih1 _ ⟨hK1,x5,x6,x7,x8,H,rfl⟩
 unfold spec_l04Disjoint.l1 at H
 refine sq (s2 (mI (k:=mR (k:=jl Tryz.underlying96 (k:=iL (k:=nl ?_))))))
 rcases ei H with ⟨h4,H⟩|⟨h4,H⟩
 ·refine an (df h4) ?_
  refine ex (rg (mI (k:=iA (k:=mI (k:=nl ?_)))))
  exact AGr.canon id (ih0 _ (by omega) _ ⟨by omega,_,_,_,H,rfl⟩) ⟨rfl,rfl,rfl,trivial⟩ trivial rfl
 refine ay (dt h4) ?_
 refine sp (sq (bk (s2 (mR (k:=mI (k:=?_))))))
 obtain ⟨h5,H⟩:=io H
 obtain ⟨h6,H⟩:=io H
 refine ixx ⟨h5,h6⟩ T37 Tryz.underlying96 (R37 h5 h6) (k:=oR T37 (k:=mR (k:=mI (k:=?_))))
 obtain ⟨h7,H⟩:=io H
 refine ixx ⟨h7,h4⟩ T37 Tryz.underlying96 (R37 h7 h4) (k:=oR T37 (k:=?_))
 obtain ⟨t8,e9,H⟩:=bo H
 refine cr rfl (spec_l04Parted.ok e9) (qd (qd qn)) (k:=uN (k:=mB (k:=?_)))
 rcases ie H with ⟨h10,H⟩|⟨h10,H⟩
 ·iterate 10 refine sk (cn h10) (k:=?_)
  refine qB (cn h10) (k:=?_)
  refine RA.nil (fun _=>by kernel_rfl) ?_
  refine an rfl ?_
  refine sp (rg (mI (k:=iA (k:=mI (k:=nl ?_)))))
  exact AGr.canon id (ih1 _ (by omega) _ ⟨by omega,_,_,_,_,H,rfl⟩) ⟨rfl,rfl,rfl,rfl,trivial⟩ trivial rfl
 refine mR (hg:=gy (cn (bf h10))) (k:=mI (hg:=gy (cn (bf h10))) (k:=ixx ⟨h7,h4⟩ T37 Tryz.underlying96 (R37 h7 h4) (hg:=gy (cn (bf h10))) (k:=oR T37 (hg:=gy (cn (bf h10))) (k:=mR (hg:=gy (cn (bf h10))) (k:=mI (hg:=gy (cn (bf h10))) (k:=ixx ⟨h5,h6⟩ T37 Tryz.underlying96 (R37 h5 h6) (hg:=gy (cn (bf h10))) (k:=oR T37 (hg:=gy (cn (bf h10))) (k:=?_))))))))
 obtain ⟨t11,e12,H⟩:=bo H
 refine cr rfl (spec_l04Parted.ok e12) (qd (qd qn)) (hg:=gy (cn (bf h10))) (k:=uN (hg:=gy (cn (bf h10))) (k:=pB (cn (bf h10)) (k:=?_)))
 refine RA.nil (fun _=>by kernel_rfl) ?_
 rcases ei H with ⟨h13,H⟩|⟨h13,H⟩
 ·refine ay (cn (bf h13)) ?_
  cases H
  exact s2 (mB (k:=nl (rt r1)))
 refine an (cn h13) ?_
 refine sp (rg (mI (k:=iA (k:=mI (k:=nl ?_)))))
 exact AGr.canon id (ih1 _ (by omega) _ ⟨by omega,_,_,_,_,H,rfl⟩) ⟨rfl,rfl,rfl,rfl,trivial⟩ trivial rfl
def spec_l11Box.f (a0_0 a0_1 a0_2 a0_3:Int):Option ((List S142)):=some ([(⟨a0_0,a0_1⟩:S142),(⟨wrap64 (a0_0+a0_2),a0_1⟩:S142),(⟨wrap64 (a0_0+a0_2),wrap64 (a0_1+a0_3)⟩:S142),(⟨a0_0,wrap64 (a0_1+a0_3)⟩:S142)])
theorem spec_l11Box.ok {a0_0 a0_1 a0_2 a0_3:Int} {r:List S142} (H:spec_l11Box.f a0_0 a0_1 a0_2 a0_3=some r):OkF Tryz.prog 142 [.c (.d (.ro [.v (.int .i64 a0_0),.v (.int .i64 a0_1),.v (.int .i64 a0_2),.v (.int .i64 a0_3)]))] [] (.c (.own 100 r.length)) [(100,.row 143 (r.map c142))]:=by
 unfold spec_l11Box.f at H
 refine o1 60 2 Tryz.func142 fun w0 S=>?_
 refine s2 (jn (e:=143) 200 T143 (k:=nl (s2 (mv (vO [_,_,_,_]) (k:=nv (vO [_,_,_,_]) (k:=jf (cells':=[_,_,_,_]) D147_0 (k:=oI T2 (k:=mv (vO [_,_,_,_]) (k:=nv (vO [_,_,_,_]) (k:=jf (cells':=[_,_,_]) D147_1 (k:=oI T2 (k:=?_))))))))))))
 refine a_build (cs:=[_,_]) ?_ T143 rfl (hin:=I143)
 refine mv (vO [_,_,_,_]) (k:=nv (vO [_,_,_,_]) (k:=jf (cells':=[_,_,_,_]) D147_0 (k:=oI T2 (k:=mv (vO [_,_,_,_]) (k:=nv (vO [_,_,_,_]) (k:=jf (cells':=[_,_]) D147_2 (k:=oI T2 (k:=iA (k:=mv (vO [_,_,_,_]) (k:=nv (vO [_,_,_,_]) (k:=jf (cells':=[_,_,_]) D147_1 (k:=oI T2 (k:=?_)))))))))))))
 refine a_build (cs:=[_,_]) ?_ T143 rfl (hin:=I143)
 refine mv (vO [_,_,_,_]) (k:=nv (vO [_,_,_,_]) (k:=jf (cells':=[_,_,_,_]) D147_0 (k:=oI T2 (k:=mv (vO [_,_,_,_]) (k:=nv (vO [_,_,_,_]) (k:=jf (cells':=[_,_]) D147_2 (k:=oI T2 (k:=iA (k:=mv (vO [_,_,_,_]) (k:=nv (vO [_,_,_,_]) (k:=jf (cells':=[_,_,_]) D147_1 (k:=oI T2 (k:=mv (vO [_,_,_,_]) (k:=nv (vO [_,_,_,_]) (k:=jf (cells':=[_]) D147_3 (k:=oI T2 (k:=iA (k:=?_))))))))))))))))))
 refine a_build (cs:=[_,_]) ?_ T143 rfl (hin:=I143)
 refine mv (vO [_,_,_,_]) (k:=nv (vO [_,_,_,_]) (k:=jf (cells':=[_,_,_,_]) D147_0 (k:=oI T2 (k:=mv (vO [_,_,_,_]) (k:=nv (vO [_,_,_,_]) (k:=jf (cells':=[_,_,_]) D147_1 (k:=oI T2 (k:=mv (vO [_,_,_,_]) (k:=nv (vO [_,_,_,_]) (k:=jf (cells':=[_]) D147_3 (k:=oI T2 (k:=iA (k:=?_)))))))))))))
 refine a_build (cs:=[_,_]) ?_ T143 rfl (hin:=I143)
 refine a_lit (cs:=[_,_,_,_,_,_,_,_]) (D:=[]) (css:=([(⟨a0_0,a0_1⟩:S142),(⟨wrap64 (a0_0+a0_2),a0_1⟩:S142),(⟨wrap64 (a0_0+a0_2),wrap64 (a0_1+a0_3)⟩:S142),(⟨a0_0,wrap64 (a0_1+a0_3)⟩:S142)]).map c142) 201 ?_ N37 T143 (hcss:=by rfl)
 refine mW (k:=?_)
 refine RA.nil (fun _=>by kernel_rfl) ?_
 refine rt ?_
 cases H
 exact RetP.mk (fun κ=>cond (Nat.beq κ 100) 201 (κ)) ⟨(ownE rfl (by simp)),trivial⟩ ⟨rfl,trivial⟩ rfl
mutual
def spec_l11Leaf.j0:Nat→List S142→List S146→Int→Int→Int→Int→Bool→Option (Int)
 | 0,_,_,_,_,_,_,_=>none
 | k+1,x0,x1_8,y203_0,y203_1,y204_0,y204_1,x59=>if x59=true then (some 5) else (spec_l11Leaf.l0 k x0 x1_8 y203_0 y203_1 y204_0 y204_1 0)
def spec_l11Leaf.l0:Nat→List S142→List S146→Int→Int→Int→Int→Int→Option (Int)
 | 0,_,_,_,_,_,_,_=>none
 | k+1,x0,x1_8,y205_0,y205_1,y206_0,y206_1,x9=>if x9 < (x1_8.length:Int) then (if 0≤x9 then (if ((rd146 x1_8 x9).f0) < y206_0 then (if y205_0 < (wrap64 (((rd146 x1_8 x9).f0)+((rd146 x1_8 x9).f2))) then (if ((rd146 x1_8 x9).f1) < y206_1 then (if y205_1 < (wrap64 (((rd146 x1_8 x9).f1)+((rd146 x1_8 x9).f3))) then ((spec_l11Box.f ((rd146 x1_8 x9).f0) ((rd146 x1_8 x9).f1) ((rd146 x1_8 x9).f2) ((rd146 x1_8 x9).f3)).bind fun t16=>((spec_l04Disjoint.f k x0 t16).bind fun t18=>(if t18=true then (spec_l11Leaf.l0 k x0 x1_8 y205_0 y205_1 y206_0 y206_1 (wrap64 (x9+1))) else (some 6)))) else (spec_l11Leaf.l0 k x0 x1_8 y205_0 y205_1 y206_0 y206_1 (wrap64 (x9+1)))) else (spec_l11Leaf.l0 k x0 x1_8 y205_0 y205_1 y206_0 y206_1 (wrap64 (x9+1)))) else (spec_l11Leaf.l0 k x0 x1_8 y205_0 y205_1 y206_0 y206_1 (wrap64 (x9+1)))) else (spec_l11Leaf.l0 k x0 x1_8 y205_0 y205_1 y206_0 y206_1 (wrap64 (x9+1)))) else (none)) else (some 0)
end
def spec_l11Leaf.f (k:Nat) (l0:List S142) (a1_0 a1_1:ByteArray) (a1_2:Int) (a1_3:ByteArray) (a1_4 a1_5 a1_6 a1_7:Int) (l1_8:List S146) (a2_0 a2_1 a2_2 a2_3:Int):Option (Int):=(spec_l03Bounds.f k l0).bind fun bt1=>(if bt1.1 < a2_1 then (spec_l11Leaf.j0 k l0 l1_8 bt1.1 bt1.2.1 bt1.2.2.1 bt1.2.2.2 true) else (if bt1.2.1 < a2_1 then (spec_l11Leaf.j0 k l0 l1_8 bt1.1 bt1.2.1 bt1.2.2.1 bt1.2.2.2 true) else (if bt1.2.2.1 > (wrap64 (a1_6 - a2_1)) then (spec_l11Leaf.j0 k l0 l1_8 bt1.1 bt1.2.1 bt1.2.2.1 bt1.2.2.2 true) else (spec_l11Leaf.j0 k l0 l1_8 bt1.1 bt1.2.1 bt1.2.2.1 bt1.2.2.2 (decide (bt1.2.2.2 > (wrap64 (a1_7 - a2_1))))))))
theorem spec_l11Leaf.ok {k:Nat} {l0:List S142} {a1_0 a1_1:ByteArray} {a1_2:Int} {a1_3:ByteArray} {a1_4 a1_5 a1_6 a1_7:Int} {l1_8:List S146} {a2_0 a2_1 a2_2 a2_3 r:Int} (H:spec_l11Leaf.f k l0 a1_0 a1_1 a1_2 a1_3 a1_4 a1_5 a1_6 a1_7 l1_8 a2_0 a2_1 a2_2 a2_3=some r):OkF Tryz.prog 106 [vR 143 (l0.map c142),.c (.d (.ro [.v (.string a1_0),.v (.string a1_1),.v (.int .i64 a1_2),.v (.string a1_3),.v (.int .i64 a1_4),.v (.int .i64 a1_5),.v (.int .i64 a1_6),.v (.int .i64 a1_7),.row 147 (l1_8.map c146)])),.c (.d (.ro [.v (.int .i64 a2_0),.v (.int .i64 a2_1),.v (.int .i64 a2_2),.v (.int .i64 a2_3)]))] [] (vI r) []:=by
 unfold spec_l11Leaf.f at H
 refine o1 114 6 Tryz.func106 fun w0 S=>?_
 refine s2 (mI (k:=nl (s2 (mR (k:=?_)))))
 obtain ⟨⟨t1,t2,t3,t4⟩,e5,H⟩:=bo H
 refine cl (.tup [.agg [.d (.v (.int .i64 t1)),.d (.v (.int .i64 t2))],.agg [.d (.v (.int .i64 t3)),.d (.v (.int .i64 t4))]]) rfl (spec_l03Bounds.ok e5) (qd qn) (k:=mv (.tup [_,_]) (k:=xP (k:=xP (k:=aP 201 T143 (k:=aP 202 T143 (k:=sP T143 (k:=sP T143 (k:=nl (sq (sq ?_))))))))))
 refine AG.joinR (fun s=>∃ q,q≤k∧∃ x0,∃ (x1_0:ByteArray),∃ (x1_1:ByteArray),∃ (x1_2:Int),∃ (x1_3:ByteArray),∃ (x1_4:Int),∃ (x1_5:Int),∃ (x1_6:Int),∃ (x1_7:Int),∃ x1_8 y203_0 y203_1 y204_0 y204_1 x59,spec_l11Leaf.j0 q x0 x1_8 y203_0 y203_1 y204_0 y204_1 x59=some r∧s=St.of [(0,vR 143 (x0.map c142)),(1,.c (.d (.ro [.v (.string x1_0),.v (.string x1_1),.v (.int .i64 x1_2),.v (.string x1_3),.v (.int .i64 x1_4),.v (.int .i64 x1_5),.v (.int .i64 x1_6),.v (.int .i64 x1_7),.row 147 (x1_8.map c146)]))),(7,.c (.ptr 203 0)),(8,.c (.ptr 204 0)),(59,vB x59)] [(203,.box 143 [.d (.v (.int .i64 y203_0)),.d (.v (.int .i64 y203_1))]),(204,.box 143 [.d (.v (.int .i64 y204_0)),.d (.v (.int .i64 y204_1))])]) ?_ ?_
 ·skip
  refine rg (fB 0 D143_0 (k:=lI T2 (k:=mv (vO [_,_,_,_]) (k:=nv (vO [_,_,_,_]) (k:=jf (cells':=[_,_,_]) D49_1 (k:=oI T2 (k:=iL (k:=mB (k:=?_)))))))))
  rcases ie H with ⟨h6,H⟩|⟨h6,H⟩
  ·iterate 7 refine sk (dt h6) (k:=?_)
   refine pB (dt h6) (k:=mB (k:=?_))
   iterate 12 refine sk rfl (k:=?_)
   refine pB rfl (k:=mB (k:=?_))
   iterate 12 refine sk rfl (k:=?_)
   refine pB rfl (k:=?_)
   refine RA.nil (fun _=>by kernel_rfl) ?_
   exact CanR.mk (fun κ=>cond (Nat.beq κ 203) 201 (cond (Nat.beq κ 204) 202 (κ))) ⟨_,(by omega),_,_,_,_,_,_,_,_,_,_,_,_,_,_,_,H,rfl⟩ ⟨rfl,rfl,rfl,rfl,rfl,trivial⟩ ⟨rfl,rfl,trivial⟩ rfl
  refine fB 1 D143_1 (hg:=gy (df h6)) (k:=lI T2 (hg:=gy (df h6)) (k:=mv (vO [_,_,_,_]) (hg:=gy (df h6)) (k:=nv (vO [_,_,_,_]) (hg:=gy (df h6)) (k:=jf (cells':=[_,_,_]) D49_1 (hg:=gy (df h6)) (k:=oI T2 (hg:=gy (df h6)) (k:=iL (hg:=gy (df h6)) (k:=qB (df h6) (k:=mB (k:=?_)))))))))
  rcases ie H with ⟨h7,H⟩|⟨h7,H⟩
  ·iterate 12 refine sk (dt h7) (k:=?_)
   refine pB (dt h7) (k:=mB (k:=?_))
   iterate 12 refine sk rfl (k:=?_)
   refine pB rfl (k:=?_)
   refine RA.nil (fun _=>by kernel_rfl) ?_
   exact CanR.mk (fun κ=>cond (Nat.beq κ 203) 201 (cond (Nat.beq κ 204) 202 (κ))) ⟨_,(by omega),_,_,_,_,_,_,_,_,_,_,_,_,_,_,_,H,rfl⟩ ⟨rfl,rfl,rfl,rfl,rfl,trivial⟩ ⟨rfl,rfl,trivial⟩ rfl
  refine fB 0 D143_0 (hg:=gy (df h7)) (k:=lI T2 (hg:=gy (df h7)) (k:=mv (vO [_,_,_,_,_,_,_,_,_]) (hg:=gy (df h7)) (k:=nv (vO [_,_,_,_,_,_,_,_,_]) (hg:=gy (df h7)) (k:=jf (cells':=[_,_,_]) D79_4 (hg:=gy (df h7)) (k:=oI T2 (hg:=gy (df h7)) (k:=mv (vO [_,_,_,_]) (hg:=gy (df h7)) (k:=nv (vO [_,_,_,_]) (hg:=gy (df h7)) (k:=jf (cells':=[_,_,_]) D49_1 (hg:=gy (df h7)) (k:=oI T2 (hg:=gy (df h7)) (k:=iS (hg:=gy (df h7)) (k:=iG (hg:=gy (df h7)) (k:=qB (df h7) (k:=mB (k:=?_))))))))))))))
  rcases ie H with ⟨h8,H⟩|⟨h8,H⟩
  ·iterate 12 refine sk (dt h8) (k:=?_)
   refine pB (dt h8) (k:=?_)
   refine RA.nil (fun _=>by kernel_rfl) ?_
   exact CanR.mk (fun κ=>cond (Nat.beq κ 203) 201 (cond (Nat.beq κ 204) 202 (κ))) ⟨_,(by omega),_,_,_,_,_,_,_,_,_,_,_,_,_,_,_,H,rfl⟩ ⟨rfl,rfl,rfl,rfl,rfl,trivial⟩ ⟨rfl,rfl,trivial⟩ rfl
  refine fB 1 D143_1 (hg:=gy (df h8)) (k:=lI T2 (hg:=gy (df h8)) (k:=mv (vO [_,_,_,_,_,_,_,_,_]) (hg:=gy (df h8)) (k:=nv (vO [_,_,_,_,_,_,_,_,_]) (hg:=gy (df h8)) (k:=jf (cells':=[_,_]) D79_5 (hg:=gy (df h8)) (k:=oI T2 (hg:=gy (df h8)) (k:=mv (vO [_,_,_,_]) (hg:=gy (df h8)) (k:=nv (vO [_,_,_,_]) (hg:=gy (df h8)) (k:=jf (cells':=[_,_,_]) D49_1 (hg:=gy (df h8)) (k:=oI T2 (hg:=gy (df h8)) (k:=iS (hg:=gy (df h8)) (k:=iG (hg:=gy (df h8)) (k:=qB (df h8) (k:=?_)))))))))))))
  refine RA.nil (fun _=>by kernel_rfl) ?_
  exact CanR.mk (fun κ=>cond (Nat.beq κ 203) 201 (cond (Nat.beq κ 204) 202 (κ))) ⟨_,(by omega),_,_,_,_,_,_,_,_,_,_,_,_,_,_,_,H,rfl⟩ ⟨rfl,rfl,rfl,rfl,rfl,trivial⟩ ⟨rfl,rfl,trivial⟩ rfl
 clear H
 rintro _ ⟨k,hj0,x0,x1_0,x1_1,x1_2,x1_3,x1_4,x1_5,x1_6,x1_7,x1_8,y203_0,y203_1,y204_0,y204_1,x59,H,rfl⟩
 rcases k with _|k
 cases H
 rw [spec_l11Leaf.j0] at H
 rcases ie H with ⟨h9,H⟩|⟨h9,H⟩
 ·refine ay h9 ?_
  cases H
  exact s2 (mI (k:=nl (rt r1)))
 refine an (bf h9) ?_
 refine sp (sq (s2 (mI (k:=nl (bk (lp ?_))))))
 obtain ⟨K0,hK0,gK0⟩:=kk k
 refine AGr.canon (fun κ=>cond (Nat.beq κ 205) 203 (cond (Nat.beq κ 206) 204 (κ))) (AGr.loopI (n:=k) (fun k s=>k≤K0∧∃ x0,∃ (x1_0:ByteArray),∃ (x1_1:ByteArray),∃ (x1_2:Int),∃ (x1_3:ByteArray),∃ (x1_4:Int),∃ (x1_5:Int),∃ (x1_6:Int),∃ (x1_7:Int),∃ x1_8 y205_0 y205_1 y206_0 y206_1 x9,spec_l11Leaf.l0 k x0 x1_8 y205_0 y205_1 y206_0 y206_1 x9=some r∧s=St.of [(0,vR 143 (x0.map c142)),(1,.c (.d (.ro [.v (.string x1_0),.v (.string x1_1),.v (.int .i64 x1_2),.v (.string x1_3),.v (.int .i64 x1_4),.v (.int .i64 x1_5),.v (.int .i64 x1_6),.v (.int .i64 x1_7),.row 147 (x1_8.map c146)]))),(7,.c (.ptr 205 0)),(8,.c (.ptr 206 0)),(9,vI x9)] [(205,.box 143 [.d (.v (.int .i64 y205_0)),.d (.v (.int .i64 y205_1))]),(206,.box 143 [.d (.v (.int .i64 y206_0)),.d (.v (.int .i64 y206_1))])]) ⟨hK0,_,_,_,_,_,_,_,_,_,_,_,_,_,_,_,H,rfl⟩ ?_ ?_) ⟨rfl,rfl,rfl,rfl,rfl,trivial⟩ ⟨rfl,rfl,trivial⟩ rfl
 ·rintro _ ⟨_,_,_,_,_,_,_,_,_,_,_,_,_,_,_,_,H,_⟩
  cases H
 clear H hK0
 rintro k ih0 _ ⟨hK0,x0,x1_0,x1_1,x1_2,x1_3,x1_4,x1_5,x1_6,x1_7,x1_8,y205_0,y205_1,y206_0,y206_1,x9,H,rfl⟩
 unfold spec_l11Leaf.l0 at H
 refine sq (s2 (mI (k:=mv (vO [_,_,_,_,_,_,_,_,_]) (k:=nv (vO [_,_,_,_,_,_,_,_,_]) (k:=jf (cells':=[_]) D79_6 (k:=oR T77 (k:=jl Tryz.underlying77 (k:=iL (k:=nl ?_)))))))))
 rcases ei H with ⟨h10,H⟩|⟨h10,H⟩
 ·refine an (df h10) ?_
  cases H
  exact ex (s2 (mI (k:=nl (rt r1))))
 refine ay (dt h10) ?_
 refine sp (sq (bk (s2 (mv (vO [_,_,_,_,_,_,_,_,_]) (k:=nv (vO [_,_,_,_,_,_,_,_,_]) (k:=jf (cells':=[_]) D79_6 (k:=oR T77 (k:=mI (k:=?_)))))))))
 obtain ⟨h11,H⟩:=io H
 refine ixx ⟨h11,h10⟩ T147 Tryz.underlying77 (R146 h11 h10) (k:=ov (.agg [_,_,_,_]) T147 (k:=ja (cs:=[_,_,_,_]) 207 T147 (k:=js (cs':=[_,_,_,_]) T147 (k:=nl (s2 (fB 0 D147_0 (k:=lI T2 (k:=fB 0 D143_0 (k:=lI T2 (k:=iL (k:=mB (k:=?_))))))))))))
 rcases ei H with ⟨h12,H⟩|⟨h12,H⟩
 ·iterate 8 refine sk (df h12) (k:=?_)
  refine qB (df h12) (k:=mB (k:=?_))
  iterate 5 refine sk rfl (k:=?_)
  refine qB rfl (k:=mB (k:=?_))
  iterate 8 refine sk rfl (k:=?_)
  refine qB rfl (k:=mB (k:=?_))
  iterate 4 refine sk rfl (k:=?_)
  refine qB rfl (k:=nl ?_)
  refine an rfl ?_
  refine sp (rg (mI (k:=iA (k:=mI (k:=nl ?_)))))
  exact AGr.canon id (ih0 _ (by omega) _ ⟨by omega,_,_,_,_,_,_,_,_,_,_,_,_,_,_,_,H,rfl⟩) ⟨rfl,rfl,rfl,rfl,rfl,trivial⟩ ⟨rfl,rfl,trivial⟩ rfl
 refine fB 0 D143_0 (hg:=gy (dt h12)) (k:=lI T2 (hg:=gy (dt h12)) (k:=fB 0 D147_0 (hg:=gy (dt h12)) (k:=lI T2 (hg:=gy (dt h12)) (k:=fB 2 D147_2 (hg:=gy (dt h12)) (k:=lI T2 (hg:=gy (dt h12)) (k:=iA (hg:=gy (dt h12)) (k:=iL (hg:=gy (dt h12)) (k:=pB (dt h12) (k:=mB (k:=?_))))))))))
 rcases ei H with ⟨h13,H⟩|⟨h13,H⟩
 ·iterate 5 refine sk (df h13) (k:=?_)
  refine qB (df h13) (k:=mB (k:=?_))
  iterate 8 refine sk rfl (k:=?_)
  refine qB rfl (k:=mB (k:=?_))
  iterate 4 refine sk rfl (k:=?_)
  refine qB rfl (k:=nl ?_)
  refine an rfl ?_
  refine sp (rg (mI (k:=iA (k:=mI (k:=nl ?_)))))
  exact AGr.canon id (ih0 _ (by omega) _ ⟨by omega,_,_,_,_,_,_,_,_,_,_,_,_,_,_,_,H,rfl⟩) ⟨rfl,rfl,rfl,rfl,rfl,trivial⟩ ⟨rfl,rfl,trivial⟩ rfl
 refine fB 1 D147_1 (hg:=gy (dt h13)) (k:=lI T2 (hg:=gy (dt h13)) (k:=fB 1 D143_1 (hg:=gy (dt h13)) (k:=lI T2 (hg:=gy (dt h13)) (k:=iL (hg:=gy (dt h13)) (k:=pB (dt h13) (k:=mB (k:=?_)))))))
 rcases ei H with ⟨h14,H⟩|⟨h14,H⟩
 ·iterate 8 refine sk (df h14) (k:=?_)
  refine qB (df h14) (k:=mB (k:=?_))
  iterate 4 refine sk rfl (k:=?_)
  refine qB rfl (k:=nl ?_)
  refine an rfl ?_
  refine sp (rg (mI (k:=iA (k:=mI (k:=nl ?_)))))
  exact AGr.canon id (ih0 _ (by omega) _ ⟨by omega,_,_,_,_,_,_,_,_,_,_,_,_,_,_,_,H,rfl⟩) ⟨rfl,rfl,rfl,rfl,rfl,trivial⟩ ⟨rfl,rfl,trivial⟩ rfl
 refine fB 1 D143_1 (hg:=gy (dt h14)) (k:=lI T2 (hg:=gy (dt h14)) (k:=fB 1 D147_1 (hg:=gy (dt h14)) (k:=lI T2 (hg:=gy (dt h14)) (k:=fB 3 D147_3 (hg:=gy (dt h14)) (k:=lI T2 (hg:=gy (dt h14)) (k:=iA (hg:=gy (dt h14)) (k:=iL (hg:=gy (dt h14)) (k:=pB (dt h14) (k:=mB (k:=?_))))))))))
 rcases ei H with ⟨h15,H⟩|⟨h15,H⟩
 ·iterate 4 refine sk (df h15) (k:=?_)
  refine qB (df h15) (k:=nl ?_)
  refine an rfl ?_
  refine sp (rg (mI (k:=iA (k:=mI (k:=nl ?_)))))
  exact AGr.canon id (ih0 _ (by omega) _ ⟨by omega,_,_,_,_,_,_,_,_,_,_,_,_,_,_,_,H,rfl⟩) ⟨rfl,rfl,rfl,rfl,rfl,trivial⟩ ⟨rfl,rfl,trivial⟩ rfl
 refine mR (hg:=gy (dt h15)) (k:=?_)
 obtain ⟨t16,e17,H⟩:=bo H
 refine a_call (v := .c (.own 208 t16.length)) (nk:=[(208,.row 143 (t16.map c142))]) (L:=[(207,_)]) ?_ rfl (spec_l11Box.ok e17) (fun κ=>cond (Nat.beq κ 208) 100 (κ)) (qc (rP (pD (pD (pD (pD p0))))) qn) ⟨rfl,trivial⟩ ⟨rfl,trivial⟩ ⟨rfl,trivial⟩ rfl (hg:=gy (dt h15))
 obtain ⟨t18,e19,H⟩:=bo H
 refine a_call (v:=vB t18) (nk:=[]) (L:=[(208,_)]) ?_ rfl (spec_l04Disjoint.ok e19) id (qd (qc rO qn)) ⟨rfl,trivial⟩ trivial trivial rfl (hg:=gy (dt h15))
 refine uN (hg:=gy (dt h15)) (k:=pB (dt h15) (k:=nl ?_))
 rcases ei H with ⟨h20,H⟩|⟨h20,H⟩
 ·refine ay (cn (bf h20)) ?_
  cases H
  exact s2 (mI (k:=nl (rt r1)))
 refine an (cn h20) ?_
 refine sp (rg (mI (k:=iA (k:=mI (k:=nl ?_)))))
 exact AGr.canon id (ih0 _ (by omega) _ ⟨by omega,_,_,_,_,_,_,_,_,_,_,_,_,_,_,_,H,rfl⟩) ⟨rfl,rfl,rfl,rfl,rfl,trivial⟩ ⟨rfl,rfl,trivial⟩ rfl
def spec_l11Single.j0:Nat→Int→Int→List S142→List S154→List S66→List S78→Int→Int→Int→Int→Int→Int→Int→Int→Int→List S100→Option ((List S100))
 | 0,_,_,_,_,_,_,_,_,_,_,_,_,_,_,_,_=>none
 | k+1,x0_0,x0_1,x0_2,x0_3,x0_4,x1,x2_0,x2_1,x2_2,x2_3,x2_4,x3_0,x3_1,x3_2,x3_3,x9=>(spec_l11Polygon.f k x0_0 x0_1 x0_2 x0_3 x0_4 x2_0 x2_1 x2_2 x2_3 x2_4).bind fun t13=>(if 0≤x2_1 then (if x2_1 < (x1.length:Int) then ((spec_l11Leaf.f k t13 ((rd78 x1 x2_1).f0) ((rd78 x1 x2_1).f1) ((rd78 x1 x2_1).f2) ((rd78 x1 x2_1).f3.f0) ((rd78 x1 x2_1).f3.f1) ((rd78 x1 x2_1).f3.f2) ((rd78 x1 x2_1).f4) ((rd78 x1 x2_1).f5) ((rd78 x1 x2_1).f6) x3_0 x3_1 x3_2 x3_3).bind fun t17=>(if t17=0 then (some x9) else (if x9.length < 5864062014805 then (some (x9++[(⟨t17,x2_0,x2_1⟩:S100)])) else (none)))) else (none)) else (none))
def spec_l11Single.f (k:Nat) (a0_0 a0_1:Int) (l0_2:List S142) (l0_3:List S154) (l0_4:List S66) (l1:List S78) (a2_0 a2_1 a2_2 a2_3 a2_4 a3_0 a3_1 a3_2 a3_3:Int):Option ((List S100)):=if a2_1≥(l1.length:Int) then (some ([(⟨1,a2_0,a2_1⟩:S100)])) else ((some (([]:List S100):List S100)).bind fun y3=>(if 0≤a2_0 then (if a2_0 < (l0_4.length:Int) then (if 0≤a2_1 then (if a2_1 < (l1.length:Int) then ((spec_l11Veneer.f ((rd66 l0_4 a2_0).f0) ((rd66 l0_4 a2_0).f1) ((rd66 l0_4 a2_0).f2) ((rd78 l1 a2_1).f0) ((rd78 l1 a2_1).f1) ((rd78 l1 a2_1).f2) ((rd78 l1 a2_1).f3.f0) ((rd78 l1 a2_1).f3.f1) ((rd78 l1 a2_1).f3.f2) ((rd78 l1 a2_1).f4) ((rd78 l1 a2_1).f5) ((rd78 l1 a2_1).f6) a2_4 a3_0 a3_1 a3_2 a3_3).bind fun t8=>(if t8=0 then (spec_l11Single.j0 k a0_0 a0_1 l0_2 l0_3 l0_4 l1 a2_0 a2_1 a2_2 a2_3 a2_4 a3_0 a3_1 a3_2 a3_3 y3) else (if y3.length < 5864062014805 then (spec_l11Single.j0 k a0_0 a0_1 l0_2 l0_3 l0_4 l1 a2_0 a2_1 a2_2 a2_3 a2_4 a3_0 a3_1 a3_2 a3_3 (y3++[(⟨t8,a2_0,a2_1⟩:S100)])) else (none)))) else (none)) else (none)) else (none)) else (none)))
theorem spec_l11Single.ok {k:Nat} {a0_0 a0_1:Int} {l0_2:List S142} {l0_3:List S154} {l0_4:List S66} {l1:List S78} {a2_0 a2_1 a2_2 a2_3 a2_4 a3_0 a3_1 a3_2 a3_3:Int} {r:List S100} (H:spec_l11Single.f k a0_0 a0_1 l0_2 l0_3 l0_4 l1 a2_0 a2_1 a2_2 a2_3 a2_4 a3_0 a3_1 a3_2 a3_3=some r):OkF Tryz.prog 74 [.c (.d (.ro [.v (.int .i64 a0_0),.v (.int .i64 a0_1),.row 143 (l0_2.map c142),.row 158 (l0_3.map c154),.row 76 (l0_4.map c66)])),vR 79 (l1.map c78),.c (.d (.ro [.v (.int .i64 a2_0),.v (.int .i64 a2_1),.v (.int .i64 a2_2),.v (.int .i64 a2_3),.v (.int .i64 a2_4)])),.c (.d (.ro [.v (.int .i64 a3_0),.v (.int .i64 a3_1),.v (.int .i64 a3_2),.v (.int .i64 a3_3)]))] [] (.c (.own 100 r.length)) [(100,.row 101 (r.map c100))]:=by
 unfold spec_l11Single.f at H
 refine o1 92 8 Tryz.func74 fun w0 S=>?_
 refine s2 (jn (e:=101) 200 T101 (k:=nl (sq (s2 (mv (vO [_,_,_,_,_]) (k:=nv (vO [_,_,_,_,_]) (k:=jf (cells':=[_,_,_,_]) D82_1 (k:=oI T2 (k:=mR (k:=jl Tryz.underlying45 (k:=iE (k:=nl ?_))))))))))))
 rcases ie H with ⟨h1,H⟩|⟨h1,H⟩
 ·refine ay (dt h1) ?_
  refine s2 (mv (vO [_,_,_,_,_]) (k:=nv (vO [_,_,_,_,_]) (k:=jf (cells':=[_,_,_,_,_]) D82_0 (k:=oI T2 (k:=mv (vO [_,_,_,_,_]) (k:=nv (vO [_,_,_,_,_]) (k:=jf (cells':=[_,_,_,_]) D82_1 (k:=oI T2 (k:=?_)))))))))
  refine a_build (cs:=[_,_,_]) ?_ T101 rfl (hin:=I101)
  refine a_lit (cs:=[_,_,_]) (D:=[]) (css:=([(⟨1,a2_0,a2_1⟩:S100)]).map c100) 201 ?_ N55 T101 (hcss:=by rfl)
  refine mW (k:=?_)
  refine RA.nil (fun _=>by kernel_rfl) ?_
  refine rt ?_
  cases H
  exact RetP.mk (fun κ=>cond (Nat.beq κ 100) 201 (κ)) ⟨(ownE rfl (by simp)),trivial⟩ ⟨rfl,trivial⟩ rfl
 refine an (df h1) ?_
 refine sp (s2 ?_)
 obtain ⟨y3,ey3,H⟩:=bo H
 have ey3:=Option.some.inj ey3
 refine a_lit (cs:=[]) (D:=[]) (css:=y3.map c100) 202 ?_ N55 T101 (hcss:=by rw [← ey3]; rfl)
 refine mW (k:=nl (s2 (mv (vO [_,_,_,_,_]) (k:=nv (vO [_,_,_,_,_]) (k:=jf (cells':=[_]) D43_1 (k:=oR T41 (k:=mv (vO [_,_,_,_,_]) (k:=nv (vO [_,_,_,_,_]) (k:=jf (cells':=[_,_,_,_,_]) D82_0 (k:=oI T2 (k:=?_)))))))))))
 obtain ⟨h4,H⟩:=io H
 obtain ⟨h5,H⟩:=io H
 refine ixx ⟨h4,h5⟩ T76 Tryz.underlying41 (R66 h4 h5) (k:=mR (k:=mv (vO [_,_,_,_,_]) (k:=nv (vO [_,_,_,_,_]) (k:=jf (cells':=[_,_,_,_]) D82_1 (k:=oI T2 (k:=?_))))))
 obtain ⟨h6,H⟩:=io H
 obtain ⟨h7,H⟩:=io H
 refine ixx ⟨h6,h7⟩ T79 Tryz.underlying45 (R78 h6 h7) (k:=mv (vO [_,_,_,_,_]) (k:=nv (vO [_,_,_,_,_]) (k:=jf (cells':=[_]) D82_4 (k:=oI T2 (k:=mv (vO [_,_,_,_]) (k:=?_))))))
 obtain ⟨t8,e9,H⟩:=bo H
 refine cr rfl (spec_l11Veneer.ok e9) (qd (qd (qd (qd qn)))) (k:=mI (k:=?_))
 refine RA.nil (fun _=>by kernel_rfl) ?_
 refine sq (s2 (mI (k:=iNe (k:=nl ?_))))
 refine AG.joinR (fun s=>∃ q,q≤k∧∃ x0_0 x0_1 x0_2 x0_3 x0_4 x1 x2_0 x2_1 x2_2 x2_3 x2_4 x3_0 x3_1 x3_2 x3_3 x9,spec_l11Single.j0 q x0_0 x0_1 x0_2 x0_3 x0_4 x1 x2_0 x2_1 x2_2 x2_3 x2_4 x3_0 x3_1 x3_2 x3_3 x9=some r∧s=St.of [(0,.c (.d (.ro [.v (.int .i64 x0_0),.v (.int .i64 x0_1),.row 143 (x0_2.map c142),.row 158 (x0_3.map c154),.row 76 (x0_4.map c66)]))),(1,vR 79 (x1.map c78)),(2,.c (.d (.ro [.v (.int .i64 x2_0),.v (.int .i64 x2_1),.v (.int .i64 x2_2),.v (.int .i64 x2_3),.v (.int .i64 x2_4)]))),(3,.c (.d (.ro [.v (.int .i64 x3_0),.v (.int .i64 x3_1),.v (.int .i64 x3_2),.v (.int .i64 x3_3)]))),(9,.c (.own 205 x9.length))] [(205,.row 101 (x9.map c100))]) ?_ ?_
 ·skip
  rcases ie H with ⟨h10,H⟩|⟨h10,H⟩
  ·refine an (nq h10) ?_
   refine sp ?_
   exact CanR.mk (fun κ=>cond (Nat.beq κ 205) 202 (κ)) ⟨_,(by omega),_,_,_,_,_,_,_,_,_,_,_,_,_,_,_,_,H,rfl⟩ ⟨rfl,rfl,rfl,rfl,(ownE rfl (by rw [← ey3]; simp)),trivial⟩ ⟨rfl,trivial⟩ rfl
  refine ay (nn h10) ?_
  refine rg (mW (k:=mI (k:=mv (vO [_,_,_,_,_]) (k:=nv (vO [_,_,_,_,_]) (k:=jf (cells':=[_,_,_,_,_]) D82_0 (k:=oI T2 (k:=mv (vO [_,_,_,_,_]) (k:=nv (vO [_,_,_,_,_]) (k:=jf (cells':=[_,_,_,_]) D82_1 (k:=oI T2 (k:=?_)))))))))))
  refine a_build (cs:=[_,_,_]) ?_ T101 rfl (hin:=I101)
  refine a_lit (cs:=[_,_,_]) (D:=[]) (css:=([(⟨t8,a2_0,a2_1⟩:S100)]).map c100) 204 ?_ N55 T101
  obtain ⟨h11,H⟩:=io H
  refine a_appO (css':=(y3++[(⟨t8,a2_0,a2_1⟩:S100)]).map c100) (n':=(y3++[(⟨t8,a2_0,a2_1⟩:S100)]).length) ?_ T101 (by simp [maxLen]; omega) (by simp; omega) Tryz.underlying55 (hc:=by exact List.map_append.symm) (hn:=by exact List.length_map _)
  refine mW (k:=?_)
  refine RA.nil (fun _=>by kernel_rfl) ?_
  exact CanR.mk (fun κ=>cond (Nat.beq κ 205) 202 (κ)) ⟨_,(by omega),_,_,_,_,_,_,_,_,_,_,_,_,_,_,_,_,H,rfl⟩ ⟨rfl,rfl,rfl,rfl,rfl,trivial⟩ ⟨rfl,trivial⟩ rfl
 clear H
 rintro _ ⟨k,hj0,x0_0,x0_1,x0_2,x0_3,x0_4,x1,x2_0,x2_1,x2_2,x2_3,x2_4,x3_0,x3_1,x3_2,x3_3,x9,H,rfl⟩
 rcases k with _|k
 cases H
 rw [spec_l11Single.j0] at H
 refine s2 (mv (vO [_,_,_,_,_]) (k:=mv (vO [_,_,_,_,_]) (k:=?_)))
 obtain ⟨t13,e14,H⟩:=bo H
 refine a_call (v := .c (.own 206 t13.length)) (nk:=[(206,.row 143 (t13.map c142))]) (L:=[]) ?_ rfl (spec_l11Polygon.ok e14) (fun κ=>cond (Nat.beq κ 206) 100 (κ)) (qd (qd qn)) trivial ⟨rfl,trivial⟩ ⟨rfl,trivial⟩ rfl
 refine mR (k:=mv (vO [_,_,_,_,_]) (k:=nv (vO [_,_,_,_,_]) (k:=jf (cells':=[_,_,_,_]) D82_1 (k:=oI T2 (k:=?_)))))
 obtain ⟨h15,H⟩:=io H
 obtain ⟨h16,H⟩:=io H
 refine ixx ⟨h15,h16⟩ T79 Tryz.underlying45 (R78 h15 h16) (k:=mv (vO [_,_,_,_]) (k:=?_))
 obtain ⟨t17,e18,H⟩:=bo H
 refine a_call (v:=vI t17) (nk:=[]) (L:=[(206,_)]) ?_ rfl (spec_l11Leaf.ok e18) id (qc rO (qd (qd qn))) ⟨rfl,trivial⟩ trivial trivial rfl
 refine mI (k:=?_)
 refine RA.nil (fun _=>by kernel_rfl) ?_
 refine sq (s2 (mI (k:=iNe (k:=nl ?_))))
 rcases ie H with ⟨h19,H⟩|⟨h19,H⟩
 ·refine an (nq h19) ?_
  refine sp (s2 (mW (k:=mW (k:=nl (rt ?_)))))
  cases H
  exact RetP.mk (fun κ=>cond (Nat.beq κ 100) 205 (κ)) ⟨rfl,trivial⟩ ⟨rfl,trivial⟩ rfl
 refine ay (nn h19) ?_
 refine rg (mW (k:=mI (k:=mv (vO [_,_,_,_,_]) (k:=nv (vO [_,_,_,_,_]) (k:=jf (cells':=[_,_,_,_,_]) D82_0 (k:=oI T2 (k:=mv (vO [_,_,_,_,_]) (k:=nv (vO [_,_,_,_,_]) (k:=jf (cells':=[_,_,_,_]) D82_1 (k:=oI T2 (k:=?_)))))))))))
 refine a_build (cs:=[_,_,_]) ?_ T101 rfl (hin:=I101)
 refine a_lit (cs:=[_,_,_]) (D:=[]) (css:=([(⟨t17,x2_0,x2_1⟩:S100)]).map c100) 208 ?_ N55 T101
 obtain ⟨h20,H⟩:=io H
 refine a_appO (css':=(x9++[(⟨t17,x2_0,x2_1⟩:S100)]).map c100) (n':=(x9++[(⟨t17,x2_0,x2_1⟩:S100)]).length) ?_ T101 (by simp [maxLen]; omega) (by simp; omega) Tryz.underlying55 (hc:=by exact List.map_append.symm) (hn:=by exact List.length_map _)
 refine mW (k:=?_)
 refine RA.nil (fun _=>by kernel_rfl) ?_
 refine s2 (mW (k:=mW (k:=nl (rt ?_))))
 cases H
 exact RetP.mk (fun κ=>cond (Nat.beq κ 100) 205 (κ)) ⟨rfl,trivial⟩ ⟨rfl,trivial⟩ rfl
def spec_l03Inside.l0:Nat→List S142→Int→Int→Int→Int→Option (Int)
 | 0,_,_,_,_,_=>none
 | k+1,x0,y201_0,y201_1,x5,x6=>if x6 < (x0.length:Int) then (if 0≤x6 then (if (x0.length:Int)=0 then (none) else (if 0≤(Int.tmod (wrap64 (x6+1)) (x0.length:Int)) then (if (Int.tmod (wrap64 (x6+1)) (x0.length:Int)) < (x0.length:Int) then ((spec_l02On.f ((rd142 x0 x6).f0) ((rd142 x0 x6).f1) ((rd142 x0 (Int.tmod (wrap64 (x6+1)) (x0.length:Int))).f0) ((rd142 x0 (Int.tmod (wrap64 (x6+1)) (x0.length:Int))).f1) y201_0 y201_1).bind fun t6=>(if t6=true then (some 0) else (if ((rd142 x0 x6).f1)≤y201_1 then (if ((rd142 x0 (Int.tmod (wrap64 (x6+1)) (x0.length:Int))).f1) > y201_1 then ((spec_l02Side.f ((rd142 x0 x6).f0) ((rd142 x0 x6).f1) ((rd142 x0 (Int.tmod (wrap64 (x6+1)) (x0.length:Int))).f0) ((rd142 x0 (Int.tmod (wrap64 (x6+1)) (x0.length:Int))).f1) y201_0 y201_1).bind fun t11=>(if t11 > 0 then (spec_l03Inside.l0 k x0 y201_0 y201_1 (wrap64 (0 - x5)) (wrap64 (x6+1))) else (if ((rd142 x0 (Int.tmod (wrap64 (x6+1)) (x0.length:Int))).f1)≤y201_1 then (if ((rd142 x0 x6).f1) > y201_1 then ((spec_l02Side.f ((rd142 x0 x6).f0) ((rd142 x0 x6).f1) ((rd142 x0 (Int.tmod (wrap64 (x6+1)) (x0.length:Int))).f0) ((rd142 x0 (Int.tmod (wrap64 (x6+1)) (x0.length:Int))).f1) y201_0 y201_1).bind fun t16=>(if t16 < 0 then (spec_l03Inside.l0 k x0 y201_0 y201_1 (wrap64 (0 - x5)) (wrap64 (x6+1))) else (spec_l03Inside.l0 k x0 y201_0 y201_1 x5 (wrap64 (x6+1))))) else (spec_l03Inside.l0 k x0 y201_0 y201_1 x5 (wrap64 (x6+1)))) else (spec_l03Inside.l0 k x0 y201_0 y201_1 x5 (wrap64 (x6+1)))))) else (if ((rd142 x0 (Int.tmod (wrap64 (x6+1)) (x0.length:Int))).f1)≤y201_1 then (if ((rd142 x0 x6).f1) > y201_1 then ((spec_l02Side.f ((rd142 x0 x6).f0) ((rd142 x0 x6).f1) ((rd142 x0 (Int.tmod (wrap64 (x6+1)) (x0.length:Int))).f0) ((rd142 x0 (Int.tmod (wrap64 (x6+1)) (x0.length:Int))).f1) y201_0 y201_1).bind fun t21=>(if t21 < 0 then (spec_l03Inside.l0 k x0 y201_0 y201_1 (wrap64 (0 - x5)) (wrap64 (x6+1))) else (spec_l03Inside.l0 k x0 y201_0 y201_1 x5 (wrap64 (x6+1))))) else (spec_l03Inside.l0 k x0 y201_0 y201_1 x5 (wrap64 (x6+1)))) else (spec_l03Inside.l0 k x0 y201_0 y201_1 x5 (wrap64 (x6+1))))) else (if ((rd142 x0 (Int.tmod (wrap64 (x6+1)) (x0.length:Int))).f1)≤y201_1 then (if ((rd142 x0 x6).f1) > y201_1 then ((spec_l02Side.f ((rd142 x0 x6).f0) ((rd142 x0 x6).f1) ((rd142 x0 (Int.tmod (wrap64 (x6+1)) (x0.length:Int))).f0) ((rd142 x0 (Int.tmod (wrap64 (x6+1)) (x0.length:Int))).f1) y201_0 y201_1).bind fun t26=>(if t26 < 0 then (spec_l03Inside.l0 k x0 y201_0 y201_1 (wrap64 (0 - x5)) (wrap64 (x6+1))) else (spec_l03Inside.l0 k x0 y201_0 y201_1 x5 (wrap64 (x6+1))))) else (spec_l03Inside.l0 k x0 y201_0 y201_1 x5 (wrap64 (x6+1)))) else (spec_l03Inside.l0 k x0 y201_0 y201_1 x5 (wrap64 (x6+1))))))) else (none)) else (none))) else (none)) else (some x5)
def spec_l03Inside.f (k:Nat) (l0:List S142) (a1_0 a1_1:Int):Option (Int):=spec_l03Inside.l0 k l0 a1_0 a1_1 (-1) 0
theorem spec_l03Inside.ok {k:Nat} {l0:List S142} {a1_0 a1_1 r:Int} (H:spec_l03Inside.f k l0 a1_0 a1_1=some r):OkF Tryz.prog 146 [vR 143 (l0.map c142),.agg [cI a1_0,cI a1_1]] [] (vI r) []:=by
 unfold spec_l03Inside.f at H
 refine o1 74 4 Tryz.func146 fun w0 S=>?_
 refine s2 (jb 200 (k:=mI (k:=nl (s2 (mI (k:=nl (sq (s2 (mI (k:=nl (bk (lp ?_))))))))))))
 obtain ⟨K0,hK0,gK0⟩:=kk k
 refine AGr.canon (fun κ=>cond (Nat.beq κ 201) 200 (κ)) (AGr.loopI (n:=k) (fun k s=>k≤K0∧∃ x0 y201_0 y201_1 x5 x6,spec_l03Inside.l0 k x0 y201_0 y201_1 x5 x6=some r∧s=St.of [(0,vR 143 (x0.map c142)),(3,.c (.ptr 201 0)),(5,vI x5),(6,vI x6)] [(201,.box 143 [.d (.v (.int .i64 y201_0)),.d (.v (.int .i64 y201_1))])]) ⟨hK0,_,_,_,_,_,H,rfl⟩ ?_ ?_) ⟨rfl,rfl,rfl,rfl,trivial⟩ ⟨rfl,trivial⟩ rfl
 ·rintro _ ⟨_,_,_,_,_,_,H,_⟩
  cases H
 clear H hK0
 rintro k ih0 _ ⟨hK0,x0,y201_0,y201_1,x5,x6,H,rfl⟩
 unfold spec_l03Inside.l0 at H
 refine sq (s2 (mI (k:=mR (k:=jl Tryz.underlying37 (k:=iL (k:=nl ?_))))))
 rcases ei H with ⟨h1,H⟩|⟨h1,H⟩
 ·refine an (df h1) ?_
  cases H
  exact ex (s2 (mI (k:=mI (k:=nl (rt r1)))))
 refine ay (dt h1) ?_
 refine sp (sq (bk (s2 (mR (k:=mI (k:=?_))))))
 obtain ⟨h2,H⟩:=io H
 refine ixx ⟨h2,h1⟩ T143 Tryz.underlying37 (R142 h2 h1) (k:=oP T143 (k:=aP 202 T143 (k:=sP T143 (k:=nl (s2 (mR (k:=mI (k:=iA (k:=mR (k:=jl Tryz.underlying37 (k:=?_)))))))))))
 obtain ⟨h3,H⟩:=oi H
 refine jr (r:=Int.tmod (wrap64 (x6+1)) (x0.length:Int)) h3 (k:=?_)
 obtain ⟨h4,H⟩:=io H
 obtain ⟨h5,H⟩:=io H
 refine ixx ⟨h4,h5⟩ T143 Tryz.underlying37 (R142 h4 h5) (k:=oP T143 (k:=aP 203 T143 (k:=sP T143 (k:=nl (sq (s2 (lP T143 (k:=lP T143 (k:=lP T143 (k:=?_))))))))))
 obtain ⟨t6,e7,H⟩:=bo H
 refine cr rfl (spec_l02On.ok e7) (qg (qg (qg qn))) (k:=nl ?_)
 rcases ie H with ⟨h8,H⟩|⟨h8,H⟩
 ·refine ay h8 ?_
  cases H
  exact s2 (mI (k:=nl (rt r1)))
 refine an (bf h8) ?_
 refine sp (s2 (fB 1 D143_1 (k:=lI T2 (k:=fB 1 D143_1 (k:=lI T2 (k:=iQ (k:=mB (k:=?_))))))))
 rcases ei H with ⟨h9,H⟩|⟨h9,H⟩
 ·iterate 5 refine sk (df h9) (k:=?_)
  refine qB (df h9) (k:=mB (k:=?_))
  iterate 5 refine sk rfl (k:=?_)
  refine qB rfl (k:=mB (k:=fB 1 D143_1 (hg:=gy rfl) (k:=lI T2 (hg:=gy rfl) (k:=fB 1 D143_1 (hg:=gy rfl) (k:=lI T2 (hg:=gy rfl) (k:=iQ (hg:=gy rfl) (k:=mB (hg:=gy rfl) (k:=?_))))))))
  rcases ei H with ⟨h24,H⟩|⟨h24,H⟩
  ·iterate 5 refine sk (df h24) (k:=?_)
   refine qB (df h24) (hg:=gy rfl) (k:=mB (hg:=gy rfl) (k:=?_))
   iterate 5 refine sk rfl (k:=?_)
   refine qB rfl (hg:=gy rfl) (k:=qB rfl (k:=nl ?_))
   refine an rfl ?_
   refine sp (rg (mI (k:=iA (k:=mI (k:=nl ?_)))))
   exact AGr.canon id (ih0 _ (by omega) _ ⟨by omega,_,_,_,_,_,H,rfl⟩) ⟨rfl,rfl,rfl,rfl,trivial⟩ ⟨rfl,trivial⟩ rfl
  refine fB 1 D143_1 (hg:=gy (dt h24)) (k:=lI T2 (hg:=gy (dt h24)) (k:=fB 1 D143_1 (hg:=gy (dt h24)) (k:=lI T2 (hg:=gy (dt h24)) (k:=iG (hg:=gy (dt h24)) (k:=pB (dt h24) (hg:=gy rfl) (k:=mB (hg:=gy rfl) (k:=?_)))))))
  rcases ei H with ⟨h25,H⟩|⟨h25,H⟩
  ·iterate 5 refine sk (df h25) (k:=?_)
   refine qB (df h25) (hg:=gy rfl) (k:=qB rfl (k:=nl ?_))
   refine an rfl ?_
   refine sp (rg (mI (k:=iA (k:=mI (k:=nl ?_)))))
   exact AGr.canon id (ih0 _ (by omega) _ ⟨by omega,_,_,_,_,_,H,rfl⟩) ⟨rfl,rfl,rfl,rfl,trivial⟩ ⟨rfl,trivial⟩ rfl
  refine lP T143 (hg:=gy (dt h25)) (k:=lP T143 (hg:=gy (dt h25)) (k:=lP T143 (hg:=gy (dt h25)) (k:=?_)))
  obtain ⟨t26,e27,H⟩:=bo H
  refine cr rfl (spec_l02Side.ok e27) (qg (qg (qg qn))) (hg:=gy (dt h25)) (k:=iL (hg:=gy (dt h25)) (k:=pB (dt h25) (hg:=gy rfl) (k:=qB rfl (k:=nl ?_))))
  rcases ei H with ⟨h28,H⟩|⟨h28,H⟩
  ·refine an (df h28) ?_
   refine sp (rg (mI (k:=iA (k:=mI (k:=nl ?_)))))
   exact AGr.canon id (ih0 _ (by omega) _ ⟨by omega,_,_,_,_,_,H,rfl⟩) ⟨rfl,rfl,rfl,rfl,trivial⟩ ⟨rfl,trivial⟩ rfl
  refine ay (dt h28) ?_
  refine rg (mI (k:=uI (wrap64 (0 - x5)) (k:=mI (k:=nl (rg (mI (k:=iA (k:=mI (k:=nl ?_)))))))))
  exact AGr.canon id (ih0 _ (by omega) _ ⟨by omega,_,_,_,_,_,H,rfl⟩) ⟨rfl,rfl,rfl,rfl,trivial⟩ ⟨rfl,trivial⟩ rfl
 refine fB 1 D143_1 (hg:=gy (dt h9)) (k:=lI T2 (hg:=gy (dt h9)) (k:=fB 1 D143_1 (hg:=gy (dt h9)) (k:=lI T2 (hg:=gy (dt h9)) (k:=iG (hg:=gy (dt h9)) (k:=pB (dt h9) (k:=mB (k:=?_)))))))
 rcases ei H with ⟨h10,H⟩|⟨h10,H⟩
 ·iterate 5 refine sk (df h10) (k:=?_)
  refine qB (df h10) (k:=mB (k:=fB 1 D143_1 (hg:=gy rfl) (k:=lI T2 (hg:=gy rfl) (k:=fB 1 D143_1 (hg:=gy rfl) (k:=lI T2 (hg:=gy rfl) (k:=iQ (hg:=gy rfl) (k:=mB (hg:=gy rfl) (k:=?_))))))))
  rcases ei H with ⟨h19,H⟩|⟨h19,H⟩
  ·iterate 5 refine sk (df h19) (k:=?_)
   refine qB (df h19) (hg:=gy rfl) (k:=mB (hg:=gy rfl) (k:=?_))
   iterate 5 refine sk rfl (k:=?_)
   refine qB rfl (hg:=gy rfl) (k:=qB rfl (k:=nl ?_))
   refine an rfl ?_
   refine sp (rg (mI (k:=iA (k:=mI (k:=nl ?_)))))
   exact AGr.canon id (ih0 _ (by omega) _ ⟨by omega,_,_,_,_,_,H,rfl⟩) ⟨rfl,rfl,rfl,rfl,trivial⟩ ⟨rfl,trivial⟩ rfl
  refine fB 1 D143_1 (hg:=gy (dt h19)) (k:=lI T2 (hg:=gy (dt h19)) (k:=fB 1 D143_1 (hg:=gy (dt h19)) (k:=lI T2 (hg:=gy (dt h19)) (k:=iG (hg:=gy (dt h19)) (k:=pB (dt h19) (hg:=gy rfl) (k:=mB (hg:=gy rfl) (k:=?_)))))))
  rcases ei H with ⟨h20,H⟩|⟨h20,H⟩
  ·iterate 5 refine sk (df h20) (k:=?_)
   refine qB (df h20) (hg:=gy rfl) (k:=qB rfl (k:=nl ?_))
   refine an rfl ?_
   refine sp (rg (mI (k:=iA (k:=mI (k:=nl ?_)))))
   exact AGr.canon id (ih0 _ (by omega) _ ⟨by omega,_,_,_,_,_,H,rfl⟩) ⟨rfl,rfl,rfl,rfl,trivial⟩ ⟨rfl,trivial⟩ rfl
  refine lP T143 (hg:=gy (dt h20)) (k:=lP T143 (hg:=gy (dt h20)) (k:=lP T143 (hg:=gy (dt h20)) (k:=?_)))
  obtain ⟨t21,e22,H⟩:=bo H
  refine cr rfl (spec_l02Side.ok e22) (qg (qg (qg qn))) (hg:=gy (dt h20)) (k:=iL (hg:=gy (dt h20)) (k:=pB (dt h20) (hg:=gy rfl) (k:=qB rfl (k:=nl ?_))))
  rcases ei H with ⟨h23,H⟩|⟨h23,H⟩
  ·refine an (df h23) ?_
   refine sp (rg (mI (k:=iA (k:=mI (k:=nl ?_)))))
   exact AGr.canon id (ih0 _ (by omega) _ ⟨by omega,_,_,_,_,_,H,rfl⟩) ⟨rfl,rfl,rfl,rfl,trivial⟩ ⟨rfl,trivial⟩ rfl
  refine ay (dt h23) ?_
  refine rg (mI (k:=uI (wrap64 (0 - x5)) (k:=mI (k:=nl (rg (mI (k:=iA (k:=mI (k:=nl ?_)))))))))
  exact AGr.canon id (ih0 _ (by omega) _ ⟨by omega,_,_,_,_,_,H,rfl⟩) ⟨rfl,rfl,rfl,rfl,trivial⟩ ⟨rfl,trivial⟩ rfl
 refine lP T143 (hg:=gy (dt h10)) (k:=lP T143 (hg:=gy (dt h10)) (k:=lP T143 (hg:=gy (dt h10)) (k:=?_)))
 obtain ⟨t11,e12,H⟩:=bo H
 refine cr rfl (spec_l02Side.ok e12) (qg (qg (qg qn))) (hg:=gy (dt h10)) (k:=iG (hg:=gy (dt h10)) (k:=pB (dt h10) (k:=mB (k:=?_))))
 rcases ie H with ⟨h13,H⟩|⟨h13,H⟩
 ·iterate 6 refine sk (dt h13) (k:=?_)
  iterate 5 refine RA.skip0 rfl rfl rfl rfl rfl ?_
  iterate 2 refine sk (dt h13) (k:=?_)
  iterate 5 refine RA.skip0 rfl rfl rfl rfl rfl ?_
  refine sk (dt h13) (k:=pB (dt h13) (k:=nl ?_))
  refine ay rfl ?_
  refine rg (mI (k:=uI (wrap64 (0 - x5)) (k:=mI (k:=nl (rg (mI (k:=iA (k:=mI (k:=nl ?_)))))))))
  exact AGr.canon id (ih0 _ (by omega) _ ⟨by omega,_,_,_,_,_,H,rfl⟩) ⟨rfl,rfl,rfl,rfl,trivial⟩ ⟨rfl,trivial⟩ rfl
 refine fB 1 D143_1 (hg:=gy (df h13)) (k:=lI T2 (hg:=gy (df h13)) (k:=fB 1 D143_1 (hg:=gy (df h13)) (k:=lI T2 (hg:=gy (df h13)) (k:=iQ (hg:=gy (df h13)) (k:=mB (hg:=gy (df h13)) (k:=?_))))))
 rcases ei H with ⟨h14,H⟩|⟨h14,H⟩
 ·iterate 5 refine sk (df h14) (k:=?_)
  refine qB (df h14) (hg:=gy (df h13)) (k:=mB (hg:=gy (df h13)) (k:=?_))
  iterate 5 refine sk rfl (k:=?_)
  refine qB rfl (hg:=gy (df h13)) (k:=qB (df h13) (k:=nl ?_))
  refine an rfl ?_
  refine sp (rg (mI (k:=iA (k:=mI (k:=nl ?_)))))
  exact AGr.canon id (ih0 _ (by omega) _ ⟨by omega,_,_,_,_,_,H,rfl⟩) ⟨rfl,rfl,rfl,rfl,trivial⟩ ⟨rfl,trivial⟩ rfl
 refine fB 1 D143_1 (hg:=gy (dt h14)) (k:=lI T2 (hg:=gy (dt h14)) (k:=fB 1 D143_1 (hg:=gy (dt h14)) (k:=lI T2 (hg:=gy (dt h14)) (k:=iG (hg:=gy (dt h14)) (k:=pB (dt h14) (hg:=gy (df h13)) (k:=mB (hg:=gy (df h13)) (k:=?_)))))))
 rcases ei H with ⟨h15,H⟩|⟨h15,H⟩
 ·iterate 5 refine sk (df h15) (k:=?_)
  refine qB (df h15) (hg:=gy (df h13)) (k:=qB (df h13) (k:=nl ?_))
  refine an rfl ?_
  refine sp (rg (mI (k:=iA (k:=mI (k:=nl ?_)))))
  exact AGr.canon id (ih0 _ (by omega) _ ⟨by omega,_,_,_,_,_,H,rfl⟩) ⟨rfl,rfl,rfl,rfl,trivial⟩ ⟨rfl,trivial⟩ rfl
 refine lP T143 (hg:=gy (dt h15)) (k:=lP T143 (hg:=gy (dt h15)) (k:=lP T143 (hg:=gy (dt h15)) (k:=?_)))
 obtain ⟨t16,e17,H⟩:=bo H
 refine cr rfl (spec_l02Side.ok e17) (qg (qg (qg qn))) (hg:=gy (dt h15)) (k:=iL (hg:=gy (dt h15)) (k:=pB (dt h15) (hg:=gy (df h13)) (k:=qB (df h13) (k:=nl ?_))))
 rcases ei H with ⟨h18,H⟩|⟨h18,H⟩
 ·refine an (df h18) ?_
  refine sp (rg (mI (k:=iA (k:=mI (k:=nl ?_)))))
  exact AGr.canon id (ih0 _ (by omega) _ ⟨by omega,_,_,_,_,_,H,rfl⟩) ⟨rfl,rfl,rfl,rfl,trivial⟩ ⟨rfl,trivial⟩ rfl
 refine ay (dt h18) ?_
 refine rg (mI (k:=uI (wrap64 (0 - x5)) (k:=mI (k:=nl (rg (mI (k:=iA (k:=mI (k:=nl ?_)))))))))
 exact AGr.canon id (ih0 _ (by omega) _ ⟨by omega,_,_,_,_,_,H,rfl⟩) ⟨rfl,rfl,rfl,rfl,trivial⟩ ⟨rfl,trivial⟩ rfl
def spec_l02Touches.f (a0_0 a0_1 a1_0 a1_1 a2_0 a2_1 a3_0 a3_1:Int):Option (Bool):=(spec_l02Crosses.f a0_0 a0_1 a1_0 a1_1 a2_0 a2_1 a3_0 a3_1).bind fun t1=>(if t1=true then (some true) else ((spec_l02On.f a0_0 a0_1 a1_0 a1_1 a2_0 a2_1).bind fun t4=>(if t4=true then (some true) else ((spec_l02On.f a0_0 a0_1 a1_0 a1_1 a3_0 a3_1).bind fun t7=>(if t7=true then (some true) else ((spec_l02On.f a2_0 a2_1 a3_0 a3_1 a0_0 a0_1).bind fun t10=>(if t10=true then (some true) else ((spec_l02On.f a2_0 a2_1 a3_0 a3_1 a1_0 a1_1).bind fun t13=>(some t13)))))))))
theorem spec_l02Touches.ok {a0_0 a0_1 a1_0 a1_1 a2_0 a2_1 a3_0 a3_1:Int} {r:Bool} (H:spec_l02Touches.f a0_0 a0_1 a1_0 a1_1 a2_0 a2_1 a3_0 a3_1=some r):OkF Tryz.prog 173 [.agg [cI a0_0,cI a0_1],.agg [cI a1_0,cI a1_1],.agg [cI a2_0,cI a2_1],.agg [cI a3_0,cI a3_1]] [] (vB r) []:=by
 unfold spec_l02Touches.f at H
 refine o1 38 8 Tryz.func173 fun w0 S=>?_
 refine s2 (jb 200 (k:=jb 201 (k:=jb 202 (k:=jb 203 (k:=mB (k:=nl (s2 (lP T143 (k:=lP T143 (k:=lP T143 (k:=lP T143 (k:=?_))))))))))))
 obtain ⟨t1,e2,H⟩:=bo H
 refine cr rfl (spec_l02Crosses.ok e2) (qg (qg (qg (qg qn)))) (k:=mB (k:=?_))
 rcases ie H with ⟨h3,H⟩|⟨h3,H⟩
 ·iterate 4 refine sk h3 (k:=?_)
  refine pB h3 (k:=mB (k:=?_))
  iterate 4 refine sk rfl (k:=?_)
  refine pB rfl (k:=mB (k:=?_))
  iterate 4 refine sk rfl (k:=?_)
  refine pB rfl (k:=mB (k:=?_))
  iterate 4 refine sk rfl (k:=?_)
  cases H
  exact pB rfl (k:=mB (k:=nl (rt r1)))
 refine lP T143 (hg:=gy (bf h3)) (k:=lP T143 (hg:=gy (bf h3)) (k:=lP T143 (hg:=gy (bf h3)) (k:=?_)))
 obtain ⟨t4,e5,H⟩:=bo H
 refine cr rfl (spec_l02On.ok e5) (qg (qg (qg qn))) (hg:=gy (bf h3)) (k:=qB (bf h3) (k:=mB (k:=?_)))
 rcases ie H with ⟨h6,H⟩|⟨h6,H⟩
 ·iterate 4 refine sk h6 (k:=?_)
  refine pB h6 (k:=mB (k:=?_))
  iterate 4 refine sk rfl (k:=?_)
  refine pB rfl (k:=mB (k:=?_))
  iterate 4 refine sk rfl (k:=?_)
  cases H
  exact pB rfl (k:=mB (k:=nl (rt r1)))
 refine lP T143 (hg:=gy (bf h6)) (k:=lP T143 (hg:=gy (bf h6)) (k:=lP T143 (hg:=gy (bf h6)) (k:=?_)))
 obtain ⟨t7,e8,H⟩:=bo H
 refine cr rfl (spec_l02On.ok e8) (qg (qg (qg qn))) (hg:=gy (bf h6)) (k:=qB (bf h6) (k:=mB (k:=?_)))
 rcases ie H with ⟨h9,H⟩|⟨h9,H⟩
 ·iterate 4 refine sk h9 (k:=?_)
  refine pB h9 (k:=mB (k:=?_))
  iterate 4 refine sk rfl (k:=?_)
  cases H
  exact pB rfl (k:=mB (k:=nl (rt r1)))
 refine lP T143 (hg:=gy (bf h9)) (k:=lP T143 (hg:=gy (bf h9)) (k:=lP T143 (hg:=gy (bf h9)) (k:=?_)))
 obtain ⟨t10,e11,H⟩:=bo H
 refine cr rfl (spec_l02On.ok e11) (qg (qg (qg qn))) (hg:=gy (bf h9)) (k:=qB (bf h9) (k:=mB (k:=?_)))
 rcases ie H with ⟨h12,H⟩|⟨h12,H⟩
 ·iterate 4 refine sk h12 (k:=?_)
  cases H
  exact pB h12 (k:=mB (k:=nl (rt r1)))
 refine lP T143 (hg:=gy (bf h12)) (k:=lP T143 (hg:=gy (bf h12)) (k:=lP T143 (hg:=gy (bf h12)) (k:=?_)))
 obtain ⟨t13,e14,H⟩:=bo H
 cases H
 exact cr rfl (spec_l02On.ok e14) (qg (qg (qg qn))) (hg:=gy (bf h12)) (k:=qB (bf h12) (k:=mB (k:=nl (rt r1))))
def spec_l02Square.f (a0_0 a0_1 a1_0 a1_1:Int):Option (Int):=some (wrap64 ((wrap64 ((wrap64 (a0_0 - a1_0))*(wrap64 (a0_0 - a1_0))))+(wrap64 ((wrap64 (a0_1 - a1_1))*(wrap64 (a0_1 - a1_1))))))
theorem spec_l02Square.ok {a0_0 a0_1 a1_0 a1_1 r:Int} (H:spec_l02Square.f a0_0 a0_1 a1_0 a1_1=some r):OkF Tryz.prog 187 [.agg [cI a0_0,cI a0_1],.agg [cI a1_0,cI a1_1]] [] (vI r) []:=by
 unfold spec_l02Square.f at H
 refine o1 28 4 Tryz.func187 fun w0 S=>?_
 cases H
 exact s2 (jb 200 (k:=jb 201 (k:=mI (k:=nl (s2 (fB 0 D143_0 (k:=lI T2 (k:=fB 0 D143_0 (k:=lI T2 (k:=iS (k:=fB 0 D143_0 (k:=lI T2 (k:=fB 0 D143_0 (k:=lI T2 (k:=iS (k:=iM (k:=fB 1 D143_1 (k:=lI T2 (k:=fB 1 D143_1 (k:=lI T2 (k:=iS (k:=fB 1 D143_1 (k:=lI T2 (k:=fB 1 D143_1 (k:=lI T2 (k:=iS (k:=iM (k:=iA (k:=mI (k:=nl (rt r1)))))))))))))))))))))))))))))))
def spec_l01Root.l0:Nat→Int→Int→Int→Option (Int)
 | 0,_,_,_=>none
 | k+1,x0,x3,x4=>if x3 < x4 then (if (wrap64 ((wrap64 (Int.tdiv (wrap64 ((wrap64 (x3+x4))+1)) 2))*(wrap64 (Int.tdiv (wrap64 ((wrap64 (x3+x4))+1)) 2))))≤x0 then (spec_l01Root.l0 k x0 (wrap64 (Int.tdiv (wrap64 ((wrap64 (x3+x4))+1)) 2)) x4) else (spec_l01Root.l0 k x0 x3 (wrap64 ((wrap64 (Int.tdiv (wrap64 ((wrap64 (x3+x4))+1)) 2)) - 1)))) else (some x3)
def spec_l01Root.f (k:Nat) (a0:Int):Option (Int):=spec_l01Root.l0 k a0 0 3037000499
theorem spec_l01Root.ok {k:Nat} {a0 r:Int} (H:spec_l01Root.f k a0=some r):OkF Tryz.prog 189 [vI a0] [] (vI r) []:=by
 unfold spec_l01Root.f at H
 refine o1 23 2 Tryz.func189 fun w0 S=>?_
 refine s2 (mI (k:=nl (s2 (mI (k:=nl (s2 (mI (k:=nl (sq (bk (lp ?_)))))))))))
 obtain ⟨K0,hK0,gK0⟩:=kk k
 refine AGr.canon id (AGr.loopI (n:=k) (fun k s=>k≤K0∧∃ x0 x3 x4,spec_l01Root.l0 k x0 x3 x4=some r∧s=St.of [(0,vI x0),(3,vI x3),(4,vI x4)] []) ⟨hK0,_,_,_,H,rfl⟩ ?_ ?_) ⟨rfl,rfl,rfl,trivial⟩ trivial rfl
 ·rintro _ ⟨_,_,_,_,H,_⟩
  cases H
 clear H hK0
 rintro k ih0 _ ⟨hK0,x0,x3,x4,H,rfl⟩
 unfold spec_l01Root.l0 at H
 refine sq (s2 (mI (k:=mI (k:=iL (k:=nl ?_)))))
 rcases ei H with ⟨h1,H⟩|⟨h1,H⟩
 ·refine an (df h1) ?_
  cases H
  exact ex (s2 (mI (k:=mI (k:=nl (rt r1)))))
 refine ay (dt h1) ?_
 refine sp (bk (s2 (mI (k:=mI (k:=iA (k:=iA (k:=jq (r:=wrap64 (Int.tdiv (wrap64 ((wrap64 (x3+x4))+1)) 2)) (show ¬ (2:Int)=0 from by decide) (k:=mI (k:=nl (s2 (mI (k:=mI (k:=iM (k:=mI (k:=iQ (k:=nl ?_))))))))))))))))
 rcases ie H with ⟨h2,H⟩|⟨h2,H⟩
 ·refine ay (dt h2) ?_
  refine rg (mI (k:=mI (k:=nl ?_)))
  exact AGr.canon id (ih0 _ (by omega) _ ⟨by omega,_,_,_,H,rfl⟩) ⟨rfl,rfl,rfl,trivial⟩ trivial rfl
 refine an (df h2) ?_
 refine rg (mI (k:=iS (k:=mI (k:=nl ?_))))
 exact AGr.canon id (ih0 _ (by omega) _ ⟨by omega,_,_,_,H,rfl⟩) ⟨rfl,rfl,rfl,trivial⟩ trivial rfl
def spec_l02Apart.f (k:Nat) (a0_0 a0_1 a1_0 a1_1:Int):Option (Int):=(spec_l02Square.f a0_0 a0_1 a1_0 a1_1).bind fun t1=>((spec_l01Root.f k t1).bind fun t3=>(some t3))
theorem spec_l02Apart.ok {k:Nat} {a0_0 a0_1 a1_0 a1_1 r:Int} (H:spec_l02Apart.f k a0_0 a0_1 a1_0 a1_1=some r):OkF Tryz.prog 188 [.agg [cI a0_0,cI a0_1],.agg [cI a1_0,cI a1_1]] [] (vI r) []:=by
 unfold spec_l02Apart.f at H
 refine o1 9 4 Tryz.func188 fun w0 S=>?_
 refine s2 (jb 200 (k:=jb 201 (k:=mI (k:=nl (s2 (lP T143 (k:=lP T143 (k:=?_))))))))
 obtain ⟨t1,e2,H⟩:=bo H
 refine cr rfl (spec_l02Square.ok e2) (qg (qg qn)) (k:=?_)
 obtain ⟨t3,e4,H⟩:=bo H
 cases H
 exact cr rfl (spec_l01Root.ok e4) (qd qn) (k:=mI (k:=nl (rt r1)))
def spec_l02Far.f (k:Nat) (a0_0 a0_1 a1_0 a1_1 a2_0 a2_1:Int):Option (Int):=(spec_l02Square.f a0_0 a0_1 a1_0 a1_1).bind fun t1=>(if (wrap64 ((wrap64 ((wrap64 (a1_0 - a0_0))*(wrap64 (a2_0 - a0_0))))+(wrap64 ((wrap64 (a1_1 - a0_1))*(wrap64 (a2_1 - a0_1))))))≤0 then ((spec_l02Apart.f k a0_0 a0_1 a2_0 a2_1).bind fun t4=>(some t4)) else (if (wrap64 ((wrap64 ((wrap64 (a1_0 - a0_0))*(wrap64 (a2_0 - a0_0))))+(wrap64 ((wrap64 (a1_1 - a0_1))*(wrap64 (a2_1 - a0_1))))))≥t1 then ((spec_l02Apart.f k a1_0 a1_1 a2_0 a2_1).bind fun t7=>(some t7)) else ((spec_l02Cross.f a0_0 a0_1 a1_0 a1_1 a2_0 a2_1).bind fun t9=>(if t1=0 then (none) else ((spec_l01Root.f k (wrap64 (Int.tdiv (wrap64 (t9*t9)) t1))).bind fun t12=>(some t12))))))
theorem spec_l02Far.ok {k:Nat} {a0_0 a0_1 a1_0 a1_1 a2_0 a2_1 r:Int} (H:spec_l02Far.f k a0_0 a0_1 a1_0 a1_1 a2_0 a2_1=some r):OkF Tryz.prog 174 [.agg [cI a0_0,cI a0_1],.agg [cI a1_0,cI a1_1],.agg [cI a2_0,cI a2_1]] [] (vI r) []:=by
 unfold spec_l02Far.f at H
 refine o1 57 6 Tryz.func174 fun w0 S=>?_
 refine s2 (jb 200 (k:=jb 201 (k:=jb 202 (k:=mI (k:=nl (s2 (fB 0 D143_0 (k:=lI T2 (k:=fB 0 D143_0 (k:=lI T2 (k:=iS (k:=fB 0 D143_0 (k:=lI T2 (k:=fB 0 D143_0 (k:=lI T2 (k:=iS (k:=iM (k:=fB 1 D143_1 (k:=lI T2 (k:=fB 1 D143_1 (k:=lI T2 (k:=iS (k:=fB 1 D143_1 (k:=lI T2 (k:=fB 1 D143_1 (k:=lI T2 (k:=iS (k:=iM (k:=iA (k:=mI (k:=nl (s2 (lP T143 (k:=lP T143 (k:=?_)))))))))))))))))))))))))))))))))))
 obtain ⟨t1,e2,H⟩:=bo H
 refine cr rfl (spec_l02Square.ok e2) (qg (qg qn)) (k:=mI (k:=nl (sq (s2 (mI (k:=iQ (k:=nl ?_)))))))
 rcases ie H with ⟨h3,H⟩|⟨h3,H⟩
 ·refine ay (dt h3) ?_
  refine s2 (lP T143 (k:=lP T143 (k:=?_)))
  obtain ⟨t4,e5,H⟩:=bo H
  cases H
  exact cr rfl (spec_l02Apart.ok e5) (qg (qg qn)) (k:=mI (k:=nl (rt r1)))
 refine an (df h3) ?_
 refine sp (sq (s2 (mI (k:=mI (k:=iE (k:=nl ?_))))))
 rcases ie H with ⟨h6,H⟩|⟨h6,H⟩
 ·refine ay (dt h6) ?_
  refine s2 (lP T143 (k:=lP T143 (k:=?_)))
  obtain ⟨t7,e8,H⟩:=bo H
  cases H
  exact cr rfl (spec_l02Apart.ok e8) (qg (qg qn)) (k:=mI (k:=nl (rt r1)))
 refine an (df h6) ?_
 refine sp (s2 (lP T143 (k:=lP T143 (k:=lP T143 (k:=?_)))))
 obtain ⟨t9,e10,H⟩:=bo H
 refine cr rfl (spec_l02Cross.ok e10) (qg (qg (qg qn))) (k:=mI (k:=nl (s2 (mI (k:=mI (k:=iM (k:=mI (k:=?_))))))))
 obtain ⟨h11,H⟩:=oi H
 refine jq (r:=wrap64 (Int.tdiv (wrap64 (t9*t9)) t1)) h11 (k:=?_)
 obtain ⟨t12,e13,H⟩:=bo H
 cases H
 exact cr rfl (spec_l01Root.ok e13) (qd qn) (k:=mI (k:=nl (rt r1)))
def spec_l02Gap.f (k:Nat) (a0_0 a0_1 a1_0 a1_1 a2_0 a2_1 a3_0 a3_1:Int):Option (Int):=(spec_l02Touches.f a0_0 a0_1 a1_0 a1_1 a2_0 a2_1 a3_0 a3_1).bind fun t1=>(if t1=true then (some 0) else ((spec_l02Far.f k a0_0 a0_1 a1_0 a1_1 a2_0 a2_1).bind fun t4=>((spec_l02Far.f k a0_0 a0_1 a1_0 a1_1 a3_0 a3_1).bind fun t6=>((spec_l00Min.f t4 t6).bind fun t8=>((spec_l02Far.f k a2_0 a2_1 a3_0 a3_1 a0_0 a0_1).bind fun t10=>((spec_l02Far.f k a2_0 a2_1 a3_0 a3_1 a1_0 a1_1).bind fun t12=>((spec_l00Min.f t10 t12).bind fun t14=>((spec_l00Min.f t8 t14).bind fun t16=>(some t16)))))))))
theorem spec_l02Gap.ok {k:Nat} {a0_0 a0_1 a1_0 a1_1 a2_0 a2_1 a3_0 a3_1 r:Int} (H:spec_l02Gap.f k a0_0 a0_1 a1_0 a1_1 a2_0 a2_1 a3_0 a3_1=some r):OkF Tryz.prog 147 [.agg [cI a0_0,cI a0_1],.agg [cI a1_0,cI a1_1],.agg [cI a2_0,cI a2_1],.agg [cI a3_0,cI a3_1]] [] (vI r) []:=by
 unfold spec_l02Gap.f at H
 refine o1 33 8 Tryz.func147 fun w0 S=>?_
 refine s2 (jb 200 (k:=jb 201 (k:=jb 202 (k:=jb 203 (k:=mI (k:=nl (sq (s2 (lP T143 (k:=lP T143 (k:=lP T143 (k:=lP T143 (k:=?_)))))))))))))
 obtain ⟨t1,e2,H⟩:=bo H
 refine cr rfl (spec_l02Touches.ok e2) (qg (qg (qg (qg qn)))) (k:=nl ?_)
 rcases ie H with ⟨h3,H⟩|⟨h3,H⟩
 ·refine ay h3 ?_
  cases H
  exact s2 (mI (k:=nl (rt r1)))
 refine an (bf h3) ?_
 refine sp (s2 (lP T143 (k:=lP T143 (k:=lP T143 (k:=?_)))))
 obtain ⟨t4,e5,H⟩:=bo H
 refine cr rfl (spec_l02Far.ok e5) (qg (qg (qg qn))) (k:=lP T143 (k:=lP T143 (k:=lP T143 (k:=?_))))
 obtain ⟨t6,e7,H⟩:=bo H
 refine cr rfl (spec_l02Far.ok e7) (qg (qg (qg qn))) (k:=?_)
 obtain ⟨t8,e9,H⟩:=bo H
 refine cr rfl (spec_l00Min.ok e9) (qd (qd qn)) (k:=lP T143 (k:=lP T143 (k:=lP T143 (k:=?_))))
 obtain ⟨t10,e11,H⟩:=bo H
 refine cr rfl (spec_l02Far.ok e11) (qg (qg (qg qn))) (k:=lP T143 (k:=lP T143 (k:=lP T143 (k:=?_))))
 obtain ⟨t12,e13,H⟩:=bo H
 refine cr rfl (spec_l02Far.ok e13) (qg (qg (qg qn))) (k:=?_)
 obtain ⟨t14,e15,H⟩:=bo H
 refine cr rfl (spec_l00Min.ok e15) (qd (qd qn)) (k:=?_)
 obtain ⟨t16,e17,H⟩:=bo H
 refine cr rfl (spec_l00Min.ok e17) (qd (qd qn)) (k:=mI (k:=?_))
 refine RA.nil (fun _=>by kernel_rfl) ?_
 cases H
 exact rt r1
mutual
def spec_l04Distance.j0:Nat→List S142→List S142→Bool→Option (Int)
 | 0,_,_,_=>none
 | k+1,x0,x1,x22=>if x22=true then (some 0) else (spec_l04Distance.l0 k x0 x1 (-1) 0)
def spec_l04Distance.l0:Nat→List S142→List S142→Int→Int→Option (Int)
 | 0,_,_,_,_=>none
 | k+1,x0,x1,x5,x6=>if x6 < (x0.length:Int) then (spec_l04Distance.l1 k x0 x1 x5 x6 0) else (some x5)
def spec_l04Distance.l1:Nat→List S142→List S142→Int→Int→Int→Option (Int)
 | 0,_,_,_,_,_=>none
 | k+1,x0,x1,x5,x6,x7=>if x7 < (x1.length:Int) then (if 0≤x6 then (if x6 < (x0.length:Int) then (if (x0.length:Int)=0 then (none) else (if 0≤(Int.tmod (wrap64 (x6+1)) (x0.length:Int)) then (if (Int.tmod (wrap64 (x6+1)) (x0.length:Int)) < (x0.length:Int) then (if 0≤x7 then (if (x1.length:Int)=0 then (none) else (if 0≤(Int.tmod (wrap64 (x7+1)) (x1.length:Int)) then (if (Int.tmod (wrap64 (x7+1)) (x1.length:Int)) < (x1.length:Int) then ((spec_l02Gap.f k ((rd142 x0 x6).f0) ((rd142 x0 x6).f1) ((rd142 x0 (Int.tmod (wrap64 (x6+1)) (x0.length:Int))).f0) ((rd142 x0 (Int.tmod (wrap64 (x6+1)) (x0.length:Int))).f1) ((rd142 x1 x7).f0) ((rd142 x1 x7).f1) ((rd142 x1 (Int.tmod (wrap64 (x7+1)) (x1.length:Int))).f0) ((rd142 x1 (Int.tmod (wrap64 (x7+1)) (x1.length:Int))).f1)).bind fun t20=>(if x5 < 0 then (spec_l04Distance.l1 k x0 x1 t20 x6 (wrap64 (x7+1))) else (if t20 < x5 then (spec_l04Distance.l1 k x0 x1 t20 x6 (wrap64 (x7+1))) else (spec_l04Distance.l1 k x0 x1 x5 x6 (wrap64 (x7+1)))))) else (none)) else (none))) else (none)) else (none)) else (none))) else (none)) else (none)) else (spec_l04Distance.l0 k x0 x1 x5 (wrap64 (x6+1)))
end
def spec_l04Distance.f (k:Nat) (l0 l1:List S142):Option (Int):=if 0 < (l1.length:Int) then ((spec_l03Inside.f k l0 ((rd142 l1 0).f0) ((rd142 l1 0).f1)).bind fun t2=>(if t2≥0 then (spec_l04Distance.j0 k l0 l1 true) else (if 0 < (l0.length:Int) then ((spec_l03Inside.f k l1 ((rd142 l0 0).f0) ((rd142 l0 0).f1)).bind fun t6=>(spec_l04Distance.j0 k l0 l1 (decide (t6≥0)))) else (none)))) else (none)
theorem spec_l04Distance.ok {k:Nat} {l0 l1:List S142} {r:Int} (H:spec_l04Distance.f k l0 l1=some r):OkF Tryz.prog 110 [vR 143 (l0.map c142),vR 143 (l1.map c142)] [] (vI r) []:=by
 unfold spec_l04Distance.f at H
 refine o1 69 4 Tryz.func110 fun w0 S=>?_
 refine s2 (mI (k:=nl (sq (sq ?_))))
 refine AG.joinR (fun s=>∃ q,q≤k∧∃ x0 x1 x22,spec_l04Distance.j0 q x0 x1 x22=some r∧s=St.of [(0,vR 143 (x0.map c142)),(1,vR 143 (x1.map c142)),(22,vB x22)] []) ?_ ?_
 ·skip
  refine rg (mR (k:=mR (k:=?_)))
  obtain ⟨h1,H⟩:=io H
  refine a_ixR (el:=c142 (rd142 l1 0)) ?_ ⟨(by decide),h1⟩ T143 Tryz.underlying37 (hel:=R142 (by decide) h1)
  refine oP T143 (k:=?_)
  obtain ⟨t2,e3,H⟩:=bo H
  refine cr rfl (spec_l03Inside.ok e3) (qd (qg qn)) (k:=iE (k:=mB (k:=?_)))
  rcases ie H with ⟨h4,H⟩|⟨h4,H⟩
  ·iterate 6 refine sk (dt h4) (k:=?_)
   refine pB (dt h4) (k:=nl ?_)
   exact CanR.mk id ⟨_,(by omega),_,_,_,H,rfl⟩ ⟨rfl,rfl,rfl,trivial⟩ trivial rfl
  refine mR (hg:=gy (df h4)) (k:=mR (hg:=gy (df h4)) (k:=?_))
  obtain ⟨h5,H⟩:=io H
  refine a_ixR (el:=c142 (rd142 l0 0)) ?_ ⟨(by decide),h5⟩ T143 Tryz.underlying37 (hel:=R142 (by decide) h5) (hg:=gy (df h4))
  refine oP T143 (hg:=gy (df h4)) (k:=?_)
  obtain ⟨t6,e7,H⟩:=bo H
  refine cr rfl (spec_l03Inside.ok e7) (qd (qg qn)) (hg:=gy (df h4)) (k:=iE (hg:=gy (df h4)) (k:=qB (df h4) (k:=nl ?_)))
  exact CanR.mk id ⟨_,(by omega),_,_,_,H,rfl⟩ ⟨rfl,rfl,rfl,trivial⟩ trivial rfl
 clear H
 rintro _ ⟨k,hj0,x0,x1,x22,H,rfl⟩
 rcases k with _|k
 cases H
 rw [spec_l04Distance.j0] at H
 rcases ie H with ⟨h8,H⟩|⟨h8,H⟩
 ·refine ay h8 ?_
  cases H
  exact s2 (mI (k:=nl (rt r1)))
 refine an (bf h8) ?_
 refine sp (s2 (mI (k:=nl (sq (s2 (mI (k:=nl (bk (lp ?_)))))))))
 obtain ⟨K0,hK0,gK0⟩:=kk k
 refine AGr.canon id (AGr.loopI (n:=k) (fun k s=>k≤K0∧∃ x0 x1 x5 x6,spec_l04Distance.l0 k x0 x1 x5 x6=some r∧s=St.of [(0,vR 143 (x0.map c142)),(1,vR 143 (x1.map c142)),(5,vI x5),(6,vI x6)] []) ⟨hK0,_,_,_,_,H,rfl⟩ ?_ ?_) ⟨rfl,rfl,rfl,rfl,trivial⟩ trivial rfl
 ·rintro _ ⟨_,_,_,_,_,H,_⟩
  cases H
 clear H hK0
 rintro k ih0 _ ⟨hK0,x0,x1,x5,x6,H,rfl⟩
 unfold spec_l04Distance.l0 at H
 refine sq (s2 (mI (k:=mR (k:=jl Tryz.underlying37 (k:=iL (k:=nl ?_))))))
 rcases ei H with ⟨h9,H⟩|⟨h9,H⟩
 ·refine an (df h9) ?_
  cases H
  exact ex (s2 (mI (k:=mI (k:=nl (rt r1)))))
 refine ay (dt h9) ?_
 refine sp (sq (bk (s2 (mI (k:=nl (bk (lp ?_)))))))
 obtain ⟨K1,hK1,gK1⟩:=kk k
 refine AGr.canon id (AGr.loopI (n:=k) (fun k s=>k≤K1∧∃ x0 x1 x5 x6 x7,spec_l04Distance.l1 k x0 x1 x5 x6 x7=some r∧s=St.of [(0,vR 143 (x0.map c142)),(1,vR 143 (x1.map c142)),(5,vI x5),(6,vI x6),(7,vI x7)] []) ⟨hK1,_,_,_,_,_,H,rfl⟩ ?_ ?_) ⟨rfl,rfl,rfl,rfl,rfl,trivial⟩ trivial rfl
 ·rintro _ ⟨_,_,_,_,_,_,H,_⟩
  cases H
 clear H hK1
 rintro k ih1 _ ⟨hK1,x0,x1,x5,x6,x7,H,rfl⟩
 unfold spec_l04Distance.l1 at H
 refine sq (s2 (mI (k:=mR (k:=jl Tryz.underlying37 (k:=iL (k:=nl ?_))))))
 rcases ei H with ⟨h10,H⟩|⟨h10,H⟩
 ·refine an (df h10) ?_
  refine ex (rg (mI (k:=iA (k:=mI (k:=nl ?_)))))
  exact AGr.canon id (ih0 _ (by omega) _ ⟨by omega,_,_,_,_,H,rfl⟩) ⟨rfl,rfl,rfl,rfl,trivial⟩ trivial rfl
 refine ay (dt h10) ?_
 refine sp (sq (bk (s2 (mR (k:=mI (k:=?_))))))
 obtain ⟨h11,H⟩:=io H
 obtain ⟨h12,H⟩:=io H
 refine ixx ⟨h11,h12⟩ T143 Tryz.underlying37 (R142 h11 h12) (k:=oP T143 (k:=mR (k:=mI (k:=iA (k:=mR (k:=jl Tryz.underlying37 (k:=?_)))))))
 obtain ⟨h13,H⟩:=oi H
 refine jr (r:=Int.tmod (wrap64 (x6+1)) (x0.length:Int)) h13 (k:=?_)
 obtain ⟨h14,H⟩:=io H
 obtain ⟨h15,H⟩:=io H
 refine ixx ⟨h14,h15⟩ T143 Tryz.underlying37 (R142 h14 h15) (k:=oP T143 (k:=mR (k:=mI (k:=?_))))
 obtain ⟨h16,H⟩:=io H
 refine ixx ⟨h16,h10⟩ T143 Tryz.underlying37 (R142 h16 h10) (k:=oP T143 (k:=mR (k:=mI (k:=iA (k:=mR (k:=jl Tryz.underlying37 (k:=?_)))))))
 obtain ⟨h17,H⟩:=oi H
 refine jr (r:=Int.tmod (wrap64 (x7+1)) (x1.length:Int)) h17 (k:=?_)
 obtain ⟨h18,H⟩:=io H
 obtain ⟨h19,H⟩:=io H
 refine ixx ⟨h18,h19⟩ T143 Tryz.underlying37 (R142 h18 h19) (k:=oP T143 (k:=?_))
 obtain ⟨t20,e21,H⟩:=bo H
 refine cr rfl (spec_l02Gap.ok e21) (qg (qg (qg (qg qn)))) (k:=mI (k:=?_))
 refine RA.nil (fun _=>by kernel_rfl) ?_
 refine s2 (mI (k:=iL (k:=mB (k:=?_))))
 rcases ie H with ⟨h22,H⟩|⟨h22,H⟩
 ·iterate 3 refine sk (dt h22) (k:=?_)
  refine pB (dt h22) (k:=nl ?_)
  refine ay rfl ?_
  refine rg (mI (k:=mI (k:=nl (rg (mI (k:=iA (k:=mI (k:=nl ?_))))))))
  exact AGr.canon id (ih1 _ (by omega) _ ⟨by omega,_,_,_,_,_,H,rfl⟩) ⟨rfl,rfl,rfl,rfl,rfl,trivial⟩ trivial rfl
 refine mI (hg:=gy (df h22)) (k:=mI (hg:=gy (df h22)) (k:=iL (hg:=gy (df h22)) (k:=qB (df h22) (k:=nl ?_))))
 rcases ei H with ⟨h23,H⟩|⟨h23,H⟩
 ·refine an (df h23) ?_
  refine sp (rg (mI (k:=iA (k:=mI (k:=nl ?_)))))
  exact AGr.canon id (ih1 _ (by omega) _ ⟨by omega,_,_,_,_,_,H,rfl⟩) ⟨rfl,rfl,rfl,rfl,rfl,trivial⟩ trivial rfl
 refine ay (dt h23) ?_
 refine rg (mI (k:=mI (k:=nl (rg (mI (k:=iA (k:=mI (k:=nl ?_))))))))
 exact AGr.canon id (ih1 _ (by omega) _ ⟨by omega,_,_,_,_,_,H,rfl⟩) ⟨rfl,rfl,rfl,rfl,rfl,trivial⟩ trivial rfl
def spec_l11Near.j0:Nat→List S142→List S142→Int→Bool→Option (Bool)
 | 0,_,_,_,_=>none
 | k+1,x0,x1,x2,x58=>if x58=true then (some false) else ((spec_l04Disjoint.f k x0 x1).bind fun t23=>(if t23=true then ((spec_l04Distance.f k x0 x1).bind fun t26=>(some (decide (t26 < x2)))) else (some true)))
def spec_l11Near.f (k:Nat) (l0 l1:List S142) (a2:Int):Option (Bool):=(spec_l03Bounds.f k l0).bind fun bt1=>((spec_l03Bounds.f k l1).bind fun bt6=>((spec_l00Max.f 1 a2).bind fun t11=>(if (wrap64 (bt6.1 - bt1.2.2.1))≥t11 then (spec_l11Near.j0 k l0 l1 a2 true) else ((spec_l00Max.f 1 a2).bind fun t14=>(if (wrap64 (bt1.1 - bt6.2.2.1))≥t14 then (spec_l11Near.j0 k l0 l1 a2 true) else ((spec_l00Max.f 1 a2).bind fun t17=>(if (wrap64 (bt6.2.1 - bt1.2.2.2))≥t17 then (spec_l11Near.j0 k l0 l1 a2 true) else ((spec_l00Max.f 1 a2).bind fun t20=>(spec_l11Near.j0 k l0 l1 a2 (decide ((wrap64 (bt1.2.1 - bt6.2.2.2))≥t20)))))))))))
theorem spec_l11Near.ok {k:Nat} {l0 l1:List S142} {a2:Int} {r:Bool} (H:spec_l11Near.f k l0 l1 a2=some r):OkF Tryz.prog 75 [vR 143 (l0.map c142),vR 143 (l1.map c142),vI a2] [] (vB r) []:=by
 unfold spec_l11Near.f at H
 refine o1 70 6 Tryz.func75 fun w0 S=>?_
 refine s2 (mB (k:=nl (s2 (mR (k:=?_)))))
 obtain ⟨⟨t1,t2,t3,t4⟩,e5,H⟩:=bo H
 refine cl (.tup [.agg [.d (.v (.int .i64 t1)),.d (.v (.int .i64 t2))],.agg [.d (.v (.int .i64 t3)),.d (.v (.int .i64 t4))]]) rfl (spec_l03Bounds.ok e5) (qd qn) (k:=mv (.tup [_,_]) (k:=xP (k:=xP (k:=aP 201 T143 (k:=aP 202 T143 (k:=sP T143 (k:=sP T143 (k:=nl (s2 (mR (k:=?_)))))))))))
 obtain ⟨⟨t6,t7,t8,t9⟩,e10,H⟩:=bo H
 refine cl (.tup [.agg [.d (.v (.int .i64 t6)),.d (.v (.int .i64 t7))],.agg [.d (.v (.int .i64 t8)),.d (.v (.int .i64 t9))]]) rfl (spec_l03Bounds.ok e10) (qd qn) (k:=mv (.tup [_,_]) (k:=xP (k:=xP (k:=aP 204 T143 (k:=aP 205 T143 (k:=sP T143 (k:=sP T143 (k:=nl (sq (sq ?_))))))))))
 refine AG.joinR (fun s=>∃ q,q≤k∧∃ x0 x1 x2 x58,spec_l11Near.j0 q x0 x1 x2 x58=some r∧s=St.of [(0,vR 143 (x0.map c142)),(1,vR 143 (x1.map c142)),(2,vI x2),(58,vB x58)] []) ?_ ?_
 ·skip
  refine rg (fB 0 D143_0 (k:=lI T2 (k:=fB 0 D143_0 (k:=lI T2 (k:=iS (k:=mI (k:=?_)))))))
  obtain ⟨t11,e12,H⟩:=bo H
  refine cr rfl (spec_l00Max.ok e12) (qd (qd qn)) (k:=iE (k:=mB (k:=?_)))
  rcases ie H with ⟨h13,H⟩|⟨h13,H⟩
  ·iterate 8 refine sk (dt h13) (k:=?_)
   refine pB (dt h13) (k:=mB (k:=?_))
   iterate 8 refine sk rfl (k:=?_)
   refine pB rfl (k:=mB (k:=?_))
   iterate 8 refine sk rfl (k:=?_)
   refine pB rfl (k:=?_)
   refine RA.nil (fun _=>by kernel_rfl) ?_
   exact CanR.mk id ⟨_,(by omega),_,_,_,_,H,rfl⟩ ⟨rfl,rfl,rfl,rfl,trivial⟩ trivial rfl
  refine fB 0 D143_0 (hg:=gy (df h13)) (k:=lI T2 (hg:=gy (df h13)) (k:=fB 0 D143_0 (hg:=gy (df h13)) (k:=lI T2 (hg:=gy (df h13)) (k:=iS (hg:=gy (df h13)) (k:=mI (hg:=gy (df h13)) (k:=?_))))))
  obtain ⟨t14,e15,H⟩:=bo H
  refine cr rfl (spec_l00Max.ok e15) (qd (qd qn)) (hg:=gy (df h13)) (k:=iE (hg:=gy (df h13)) (k:=qB (df h13) (k:=mB (k:=?_))))
  rcases ie H with ⟨h16,H⟩|⟨h16,H⟩
  ·iterate 8 refine sk (dt h16) (k:=?_)
   refine pB (dt h16) (k:=mB (k:=?_))
   iterate 8 refine sk rfl (k:=?_)
   refine pB rfl (k:=?_)
   refine RA.nil (fun _=>by kernel_rfl) ?_
   exact CanR.mk id ⟨_,(by omega),_,_,_,_,H,rfl⟩ ⟨rfl,rfl,rfl,rfl,trivial⟩ trivial rfl
  refine fB 1 D143_1 (hg:=gy (df h16)) (k:=lI T2 (hg:=gy (df h16)) (k:=fB 1 D143_1 (hg:=gy (df h16)) (k:=lI T2 (hg:=gy (df h16)) (k:=iS (hg:=gy (df h16)) (k:=mI (hg:=gy (df h16)) (k:=?_))))))
  obtain ⟨t17,e18,H⟩:=bo H
  refine cr rfl (spec_l00Max.ok e18) (qd (qd qn)) (hg:=gy (df h16)) (k:=iE (hg:=gy (df h16)) (k:=qB (df h16) (k:=mB (k:=?_))))
  rcases ie H with ⟨h19,H⟩|⟨h19,H⟩
  ·iterate 8 refine sk (dt h19) (k:=?_)
   refine pB (dt h19) (k:=?_)
   refine RA.nil (fun _=>by kernel_rfl) ?_
   exact CanR.mk id ⟨_,(by omega),_,_,_,_,H,rfl⟩ ⟨rfl,rfl,rfl,rfl,trivial⟩ trivial rfl
  refine fB 1 D143_1 (hg:=gy (df h19)) (k:=lI T2 (hg:=gy (df h19)) (k:=fB 1 D143_1 (hg:=gy (df h19)) (k:=lI T2 (hg:=gy (df h19)) (k:=iS (hg:=gy (df h19)) (k:=mI (hg:=gy (df h19)) (k:=?_))))))
  obtain ⟨t20,e21,H⟩:=bo H
  refine cr rfl (spec_l00Max.ok e21) (qd (qd qn)) (hg:=gy (df h19)) (k:=iE (hg:=gy (df h19)) (k:=qB (df h19) (k:=?_)))
  refine RA.nil (fun _=>by kernel_rfl) ?_
  exact CanR.mk id ⟨_,(by omega),_,_,_,_,H,rfl⟩ ⟨rfl,rfl,rfl,rfl,trivial⟩ trivial rfl
 clear H
 rintro _ ⟨k,hj0,x0,x1,x2,x58,H,rfl⟩
 rcases k with _|k
 cases H
 rw [spec_l11Near.j0] at H
 rcases ie H with ⟨h22,H⟩|⟨h22,H⟩
 ·refine ay h22 ?_
  cases H
  exact s2 (mB (k:=nl (rt r1)))
 refine an (bf h22) ?_
 refine sp (s2 (mR (k:=mR (k:=?_))))
 obtain ⟨t23,e24,H⟩:=bo H
 refine cr rfl (spec_l04Disjoint.ok e24) (qd (qd qn)) (k:=uN (k:=mB (k:=?_)))
 rcases ei H with ⟨h25,H⟩|⟨h25,H⟩
 ·iterate 5 refine sk (cn (bf h25)) (k:=?_)
  cases H
  exact pB (cn (bf h25)) (k:=mB (k:=nl (rt r1)))
 refine mR (hg:=gy (cn h25)) (k:=mR (hg:=gy (cn h25)) (k:=?_))
 obtain ⟨t26,e27,H⟩:=bo H
 cases H
 exact cr rfl (spec_l04Distance.ok e27) (qd (qd qn)) (hg:=gy (cn h25)) (k:=mI (hg:=gy (cn h25)) (k:=iL (hg:=gy (cn h25)) (k:=qB (cn h25) (k:=mB (k:=nl (rt r1))))))
end Go.Proofs.YticimffljcljoaaGreat.PFnExactIsNesting

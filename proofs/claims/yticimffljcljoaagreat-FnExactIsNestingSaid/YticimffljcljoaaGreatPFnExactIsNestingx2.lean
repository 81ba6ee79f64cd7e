/- What each function that the law FnExactIsNesting reaches comes to, and the proof that its walk comes to it; laid by a program of this session. No condition. -/
import Derived.Test.YticimffljcljoaaGreatPFnExactIsNestingx1
import Derived.KernelRfl
import Derived.OwnWalk
import Derived.Test.YticimffljcljoaaGreatProg
set_option maxRecDepth 100000
set_option maxHeartbeats 4000000
set_option linter.unusedVariables false
set_option linter.unusedSimpArgs false
namespace Go.Proofs.YticimffljcljoaaGreat.PFnExactIsNesting
open Go Go.RowKit Go.Proofs.YticimffljcljoaaGreatM Go.Proofs Go.Proofs.YticimffljcljoaaGreat.CloneP Go.Proofs.YticimffljcljoaaGreat.DeleteP Go.Proofs.YticimffljcljoaaGreat.Mul64
mutual
def impl_NestFaults.j0:Nat→List S78→List S81→Int→Int→List S142→List S154→List S66→Int→Int→Int→Int→Bool→Option ((List S100)×Int)
 | 0,_,_,_,_,_,_,_,_,_,_,_,_=>none
 | k+1,x1,x2,y207_0,y207_1,y207_2,y207_3,y207_4,y208_0,y208_1,y208_2,y208_3,x38=>if x38=true then (some (([]:List S100),1)) else (impl_NestFaults.l0 k x1 x2 y207_0 y207_1 y207_2 y207_3 y207_4 y208_0 y208_1 y208_2 y208_3 (([]:List (List S142))) x2 (x2.length:Int) 0)
def impl_NestFaults.l0:Nat→List S78→List S81→Int→Int→List S142→List S154→List S66→Int→Int→Int→Int→List (List S142)→List S81→Int→Int→Option ((List S100)×Int)
 | 0,_,_,_,_,_,_,_,_,_,_,_,_,_,_,_=>none
 | k+1,x1,x2,y211_0,y211_1,y211_2,y211_3,y211_4,y212_0,y212_1,y212_2,y212_3,x10,x40,x41,x42=>if x42 < x41 then (if 0≤x42 then (if x42 < (x40.length:Int) then (if ((rd81 x40 x42).f0)≥(y211_4.length:Int) then (some (([]:List S100),2)) else ((impl_placed.f k y211_0 y211_1 y211_2 y211_3 y211_4 ((rd81 x40 x42).f0) ((rd81 x40 x42).f1) ((rd81 x40 x42).f2) ((rd81 x40 x42).f3) ((rd81 x40 x42).f4)).bind fun t18=>(if x10.length < 5864062014805 then (impl_NestFaults.l0 k x1 x2 y211_0 y211_1 y211_2 y211_3 y211_4 y212_0 y212_1 y212_2 y212_3 (x10++[t18]) x40 x41 (wrap64 (x42+1))) else (none)))) else (none)) else (none)) else (impl_NestFaults.l1 k x1 x2 y211_4 y212_0 y212_1 y212_2 y212_3 x10 (([]:List S100)) (y211_4.length:Int) 0)
def impl_NestFaults.l1:Nat→List S78→List S81→List S66→Int→Int→Int→Int→List (List S142)→List S100→Int→Int→Option ((List S100)×Int)
 | 0,_,_,_,_,_,_,_,_,_,_,_=>none
 | k+1,x1,x2,y219_4,y220_0,y220_1,y220_2,y220_3,x10,x13,x62,x63=>if x63 < x62 then ((slices_IndexFunc_impl_Placement__impl_NestFaults_1.f k x2 x63).bind fun t24=>(if t24 < 0 then (if x13.length < 5864062014805 then (impl_NestFaults.l1 k x1 x2 y219_4 y220_0 y220_1 y220_2 y220_3 x10 (x13++[(⟨8,x63,0⟩:S100)]) x62 (wrap64 (x63+1))) else (none)) else (if 0≤t24 then (if t24 < (x2.length:Int) then (if ((rd81 x2 t24).f1)≥(x1.length:Int) then (if x13.length < 5864062014805 then (impl_NestFaults.j1 k x1 x2 y219_4 y220_0 y220_1 y220_2 y220_3 x10 (x13++[(⟨1,x63,(rd81 x2 t24).f1⟩:S100)]) x63 t24 ((rd81 x2 t24).f1) x62 x63) else (none)) else (if 0≤x63 then (if x63 < (y219_4.length:Int) then (if 0≤((rd81 x2 t24).f1) then (if ((rd81 x2 t24).f1) < (x1.length:Int) then ((impl_veneerFault.f k ((rd66 y219_4 x63).f0) ((rd66 y219_4 x63).f1) ((rd66 y219_4 x63).f2) ((rd78 x1 ((rd81 x2 t24).f1)).f0) ((rd78 x1 ((rd81 x2 t24).f1)).f1) ((rd78 x1 ((rd81 x2 t24).f1)).f2) ((rd78 x1 ((rd81 x2 t24).f1)).f3.f0) ((rd78 x1 ((rd81 x2 t24).f1)).f3.f1) ((rd78 x1 ((rd81 x2 t24).f1)).f3.f2) ((rd78 x1 ((rd81 x2 t24).f1)).f4) ((rd78 x1 ((rd81 x2 t24).f1)).f5) ((rd78 x1 ((rd81 x2 t24).f1)).f6) ((rd81 x2 t24).f4) y220_0 y220_1 y220_2 y220_3).bind fun t38=>(if t24 < (x10.length:Int) then ((impl_leafFault.f k (rd37 x10 t24) ((rd78 x1 ((rd81 x2 t24).f1)).f0) ((rd78 x1 ((rd81 x2 t24).f1)).f1) ((rd78 x1 ((rd81 x2 t24).f1)).f2) ((rd78 x1 ((rd81 x2 t24).f1)).f3.f0) ((rd78 x1 ((rd81 x2 t24).f1)).f3.f1) ((rd78 x1 ((rd81 x2 t24).f1)).f3.f2) ((rd78 x1 ((rd81 x2 t24).f1)).f4) ((rd78 x1 ((rd81 x2 t24).f1)).f5) ((rd78 x1 ((rd81 x2 t24).f1)).f6) y220_0 y220_1 y220_2 y220_3).bind fun t41=>(impl_NestFaults.l2 k x1 x2 y219_4 y220_0 y220_1 y220_2 y220_3 x10 x13 x63 t24 ((rd81 x2 t24).f1) x62 x63 ([t38,t41]) (2:Int) 0)) else (none))) else (none)) else (none)) else (none)) else (none))) else (none)) else (none)))) else (some (x13,0))
def impl_NestFaults.j1:Nat→List S78→List S81→List S66→Int→Int→Int→Int→List (List S142)→List S100→Int→Int→Int→Int→Int→Option ((List S100)×Int)
 | 0,_,_,_,_,_,_,_,_,_,_,_,_,_,_=>none
 | k+1,x1,x2,y239_4,y240_0,y240_1,y240_2,y240_3,x10,x13,y243_0,x15,y244_1,x62,x63=>if 0≤x15 then (if x15≤(x2.length:Int) then (impl_NestFaults.l3 k x1 x2 y239_4 y240_0 y240_1 y240_2 y240_3 x10 x13 y243_0 x15 y244_1 x62 x63 (x2.take ((x15:Int).toNat)) ((x2.take ((x15:Int).toNat)).length:Int) 0) else (none)) else (none)
def impl_NestFaults.l2:Nat→List S78→List S81→List S66→Int→Int→Int→Int→List (List S142)→List S100→Int→Int→Int→Int→Int→List Int→Int→Int→Option ((List S100)×Int)
 | 0,_,_,_,_,_,_,_,_,_,_,_,_,_,_,_,_,_=>none
 | k+1,x1,x2,y231_4,y232_0,y232_1,y232_2,y232_3,x10,x13,y235_0,x15,y236_1,x62,x63,x117,x118,x119=>if x119 < x118 then (if 0≤x119 then (if x119 < (x117.length:Int) then (if (rd2 x117 x119)=0 then (impl_NestFaults.l2 k x1 x2 y231_4 y232_0 y232_1 y232_2 y232_3 x10 x13 y235_0 x15 y236_1 x62 x63 x117 x118 (wrap64 (x119+1))) else (if x13.length < 5864062014805 then (impl_NestFaults.l2 k x1 x2 y231_4 y232_0 y232_1 y232_2 y232_3 x10 (x13++[(⟨(rd2 x117 x119),y235_0,y236_1⟩:S100)]) y235_0 x15 y236_1 x62 x63 x117 x118 (wrap64 (x119+1))) else (none))) else (none)) else (none)) else (impl_NestFaults.j1 k x1 x2 y231_4 y232_0 y232_1 y232_2 y232_3 x10 x13 y235_0 x15 y236_1 x62 x63)
def impl_NestFaults.l3:Nat→List S78→List S81→List S66→Int→Int→Int→Int→List (List S142)→List S100→Int→Int→Int→Int→Int→List S81→Int→Int→Option ((List S100)×Int)
 | 0,_,_,_,_,_,_,_,_,_,_,_,_,_,_,_,_,_=>none
 | k+1,x1,x2,y245_4,y246_0,y246_1,y246_2,y246_3,x10,x13,y249_0,x15,y250_1,x62,x63,x136,x137,x138=>if x138 < x137 then (if 0≤x138 then (if x138 < (x136.length:Int) then (if ((rd81 x136 x138).f1)=y250_1 then (if x138 < (x10.length:Int) then (if 0≤x15 then (if x15 < (x10.length:Int) then ((impl_tooNear.f k (rd37 x10 x138) (rd37 x10 x15) y246_0 y246_1 y246_2 y246_3).bind fun t59=>(if t59=true then (if x13.length < 5864062014805 then (impl_NestFaults.l3 k x1 x2 y245_4 y246_0 y246_1 y246_2 y246_3 x10 (x13++[(⟨7,y249_0,(rd81 x136 x138).f0⟩:S100)]) y249_0 x15 y250_1 x62 x63 x136 x137 (wrap64 (x138+1))) else (none)) else (impl_NestFaults.l3 k x1 x2 y245_4 y246_0 y246_1 y246_2 y246_3 x10 x13 y249_0 x15 y250_1 x62 x63 x136 x137 (wrap64 (x138+1))))) else (none)) else (none)) else (none)) else (impl_NestFaults.l3 k x1 x2 y245_4 y246_0 y246_1 y246_2 y246_3 x10 x13 y249_0 x15 y250_1 x62 x63 x136 x137 (wrap64 (x138+1)))) else (none)) else (none)) else (impl_NestFaults.l1 k x1 x2 y245_4 y246_0 y246_1 y246_2 y246_3 x10 x13 x62 (wrap64 (x63+1)))
end
def impl_NestFaults.f (k:Nat) (a0_0 a0_1:Int) (l0_2:List S142) (l0_3:List S154) (l0_4:List S66) (l1:List S78) (l2:List S81) (a3_0 a3_1 a3_2 a3_3:Int):Option ((List S100)×Int):=(impl_ValidPicture.f k a0_0 a0_1 l0_2 l0_3 l0_4).bind fun t1=>(if t1=true then ((impl_ValidLeaves.f k l1).bind fun t4=>(if t4=true then ((impl_ValidPlacements.f k l2).bind fun t7=>(if t7=true then ((impl_ValidRules.f a3_0 a3_1 a3_2 a3_3).bind fun t10=>(impl_NestFaults.j0 k l1 l2 a0_0 a0_1 l0_2 l0_3 l0_4 a3_0 a3_1 a3_2 a3_3 (!t10))) else (impl_NestFaults.j0 k l1 l2 a0_0 a0_1 l0_2 l0_3 l0_4 a3_0 a3_1 a3_2 a3_3 true))) else (impl_NestFaults.j0 k l1 l2 a0_0 a0_1 l0_2 l0_3 l0_4 a3_0 a3_1 a3_2 a3_3 true))) else (impl_NestFaults.j0 k l1 l2 a0_0 a0_1 l0_2 l0_3 l0_4 a3_0 a3_1 a3_2 a3_3 true))
theorem impl_NestFaults.ok {k:Nat} {a0_0 a0_1:Int} {l0_2:List S142} {l0_3:List S154} {l0_4:List S66} {l1:List S78} {l2:List S81} {a3_0 a3_1 a3_2 a3_3:Int} {r0:List S100} {r1:Int} (H:impl_NestFaults.f k a0_0 a0_1 l0_2 l0_3 l0_4 l1 l2 a3_0 a3_1 a3_2 a3_3=some (r0,r1)):OkF Tryz.prog 18 [.agg [cI a0_0,cI a0_1,.d (.row 143 (l0_2.map c142)),.d (.row 158 (l0_3.map c154)),.d (.row 76 (l0_4.map c66))],vR 79 (l1.map c78),vR 82 (l2.map c81),.agg [cI a3_0,cI a3_1,cI a3_2,cI a3_3]] [] (.tup [.c (.own 100 r0.length),.c (.d (.v (.int .i64 r1)))]) [(100,.row 101 (r0.map c100))]:=by
 unfold impl_NestFaults.f at H
 refine OkF.of (N:=170) (rs:=[8,9]) (avs:=[.c (.own 100 r0.length),.c (.d (.v (.int .i64 r1)))]) Tryz.func18 rfl rfl (fun _ _=>results_tmp2 rfl _ _ _) (by decide) rfl rfl rfl rfl (fun w0 S=>?_)
 refine s2 (jb 200 (k:=jb 201 (k:=jn (e:=101) 202 T101 (k:=mI (k:=nl (sq (sq ?_)))))))
 refine AG.joinR (fun s=>∃ q,q≤k∧∃ x1 x2 y207_0 y207_1 y207_2 y207_3 y207_4 y208_0 y208_1 y208_2 y208_3 x38,impl_NestFaults.j0 q x1 x2 y207_0 y207_1 y207_2 y207_3 y207_4 y208_0 y208_1 y208_2 y208_3 x38=some (r0,r1)∧s=St.of [(1,vR 79 (x1.map c78)),(2,vR 82 (x2.map c81)),(4,.c (.ptr 207 0)),(7,.c (.ptr 208 0)),(38,vB x38)] [(207,.box 43 [.d (.v (.int .i64 y207_0)),.d (.v (.int .i64 y207_1)),.d (.row 143 (y207_2.map c142)),.d (.row 158 (y207_3.map c154)),.d (.row 76 (y207_4.map c66))]),(208,.box 49 [.d (.v (.int .i64 y208_0)),.d (.v (.int .i64 y208_1)),.d (.v (.int .i64 y208_2)),.d (.v (.int .i64 y208_3))])]) ?_ ?_
 ·skip
  refine rg (lv (.agg [_,_,_,_,_]) T43 (k:=?_))
  obtain ⟨t1,e2,H⟩:=bo H
  refine cr rfl (impl_ValidPicture.ok e2) (qg qn) (k:=uN (k:=mB (k:=?_)))
  rcases ei H with ⟨h3,H⟩|⟨h3,H⟩
  ·iterate 3 refine sk (cn (bf h3)) (k:=?_)
   refine pB (cn (bf h3)) (k:=mB (k:=?_))
   iterate 3 refine sk rfl (k:=?_)
   refine pB rfl (k:=mB (k:=?_))
   iterate 3 refine sk rfl (k:=?_)
   refine pB rfl (k:=nl ?_)
   exact CanR.mk (fun κ=>cond (Nat.beq κ 207) 200 (cond (Nat.beq κ 208) 201 (κ))) ⟨_,(by omega),_,_,_,_,_,_,_,_,_,_,_,_,H,rfl⟩ ⟨rfl,rfl,rfl,rfl,rfl,trivial⟩ ⟨rfl,rfl,trivial⟩ rfl
  refine mR (hg:=gy (cn h3)) (k:=?_)
  obtain ⟨t4,e5,H⟩:=bo H
  refine cr rfl (impl_ValidLeaves.ok e5) (qd qn) (hg:=gy (cn h3)) (k:=uN (hg:=gy (cn h3)) (k:=qB (cn h3) (k:=mB (k:=?_))))
  rcases ei H with ⟨h6,H⟩|⟨h6,H⟩
  ·iterate 3 refine sk (cn (bf h6)) (k:=?_)
   refine pB (cn (bf h6)) (k:=mB (k:=?_))
   iterate 3 refine sk rfl (k:=?_)
   refine pB rfl (k:=nl ?_)
   exact CanR.mk (fun κ=>cond (Nat.beq κ 207) 200 (cond (Nat.beq κ 208) 201 (κ))) ⟨_,(by omega),_,_,_,_,_,_,_,_,_,_,_,_,H,rfl⟩ ⟨rfl,rfl,rfl,rfl,rfl,trivial⟩ ⟨rfl,rfl,trivial⟩ rfl
  refine mR (hg:=gy (cn h6)) (k:=?_)
  obtain ⟨t7,e8,H⟩:=bo H
  refine cr rfl (impl_ValidPlacements.ok e8) (qd qn) (hg:=gy (cn h6)) (k:=uN (hg:=gy (cn h6)) (k:=qB (cn h6) (k:=mB (k:=?_))))
  rcases ei H with ⟨h9,H⟩|⟨h9,H⟩
  ·iterate 3 refine sk (cn (bf h9)) (k:=?_)
   refine pB (cn (bf h9)) (k:=nl ?_)
   exact CanR.mk (fun κ=>cond (Nat.beq κ 207) 200 (cond (Nat.beq κ 208) 201 (κ))) ⟨_,(by omega),_,_,_,_,_,_,_,_,_,_,_,_,H,rfl⟩ ⟨rfl,rfl,rfl,rfl,rfl,trivial⟩ ⟨rfl,rfl,trivial⟩ rfl
  refine lv (.agg [_,_,_,_]) T49 (hg:=gy (cn h9)) (k:=?_)
  obtain ⟨t10,e11,H⟩:=bo H
  refine cr rfl (impl_ValidRules.ok e11) (qg qn) (hg:=gy (cn h9)) (k:=uN (hg:=gy (cn h9)) (k:=qB (cn h9) (k:=nl ?_)))
  exact CanR.mk (fun κ=>cond (Nat.beq κ 207) 200 (cond (Nat.beq κ 208) 201 (κ))) ⟨_,(by omega),_,_,_,_,_,_,_,_,_,_,_,_,H,rfl⟩ ⟨rfl,rfl,rfl,rfl,rfl,trivial⟩ ⟨rfl,rfl,trivial⟩ rfl
 clear H
 rintro _ ⟨k,hj0,x1,x2,y207_0,y207_1,y207_2,y207_3,y207_4,y208_0,y208_1,y208_2,y208_3,x38,H,rfl⟩
 rcases k with _|k
 cases H
 rw [impl_NestFaults.j0] at H
 rcases ie H with ⟨h12,H⟩|⟨h12,H⟩
 ·refine ay h12 ?_
  refine s2 (jn (e:=101) 209 T101 (k:=mI (k:=nl (rt ?_))))
  simp only [Option.some.injEq,Prod.mk.injEq] at H
  obtain ⟨rfl,rfl⟩:=H
  exact RetP.mk (fun κ=>cond (Nat.beq κ 100) 209 (κ)) ⟨(ownE rfl (by simp)),rfl,trivial⟩ ⟨rfl,trivial⟩ rfl
 refine an (bf h12) ?_
 refine sp (s2 ?_)
 refine a_lit (cs:=[]) (D:=[]) (css:=(([]:List (List S142))).map c37) 210 ?_ N96 T37 (hcss:=by rfl)
 refine mW (k:=nl (sq (s2 (mR (k:=jl Tryz.underlying47 (k:=mI (k:=nl (bk (lp ?_)))))))))
 obtain ⟨K0,hK0,gK0⟩:=kk k
 refine AGr.canon (fun κ=>cond (Nat.beq κ 211) 207 (cond (Nat.beq κ 212) 208 (cond (Nat.beq κ 213) 210 (κ)))) (AGr.loopI (n:=k) (fun k s=>k≤K0∧∃ x1 x2 y211_0 y211_1 y211_2 y211_3 y211_4 y212_0 y212_1 y212_2 y212_3 x10 x40 x41 x42,impl_NestFaults.l0 k x1 x2 y211_0 y211_1 y211_2 y211_3 y211_4 y212_0 y212_1 y212_2 y212_3 x10 x40 x41 x42=some (r0,r1)∧s=St.of [(1,vR 79 (x1.map c78)),(2,vR 82 (x2.map c81)),(4,.c (.ptr 211 0)),(7,.c (.ptr 212 0)),(10,.c (.own 213 x10.length)),(40,vR 82 (x40.map c81)),(41,vI x41),(42,vI x42)] [(211,.box 43 [.d (.v (.int .i64 y211_0)),.d (.v (.int .i64 y211_1)),.d (.row 143 (y211_2.map c142)),.d (.row 158 (y211_3.map c154)),.d (.row 76 (y211_4.map c66))]),(212,.box 49 [.d (.v (.int .i64 y212_0)),.d (.v (.int .i64 y212_1)),.d (.v (.int .i64 y212_2)),.d (.v (.int .i64 y212_3))]),(213,.row 37 (x10.map c37))]) ⟨hK0,_,_,_,_,_,_,_,_,_,_,_,_,_,_,_,H,rfl⟩ ?_ ?_) ⟨rfl,rfl,rfl,rfl,(ownE rfl (by simp)),rfl,rfl,rfl,trivial⟩ ⟨rfl,rfl,rfl,trivial⟩ rfl
 ·rintro _ ⟨_,_,_,_,_,_,_,_,_,_,_,_,_,_,_,_,H,_⟩
  cases H
 clear H hK0
 rintro k ih0 _ ⟨hK0,x1,x2,y211_0,y211_1,y211_2,y211_3,y211_4,y212_0,y212_1,y212_2,y212_3,x10,x40,x41,x42,H,rfl⟩
 unfold impl_NestFaults.l0 at H
 refine s2 (iL (k:=nl (sq ?_)))
 rcases ie H with ⟨h14,H⟩|⟨h14,H⟩
 ·refine ay (dt h14) ?_
  refine sp (sq (bk (s2 ?_)))
  obtain ⟨h15,H⟩:=io H
  obtain ⟨h16,H⟩:=io H
  refine ixx ⟨h15,h16⟩ T82 Tryz.underlying47 (R81 h15 h16) (k:=ov (.agg [_,_,_,_,_]) T82 (k:=ja (cs:=[_,_,_,_,_]) 214 T82 (k:=js (cs':=[_,_,_,_,_]) T82 (k:=nl (sq (s2 (fB 0 D82_0 (k:=lI T2 (k:=fB 4 D43_1 (k:=lR T41 (k:=jl Tryz.underlying41 (k:=iE (k:=nl ?_)))))))))))))
  rcases ie H with ⟨h17,H⟩|⟨h17,H⟩
  ·refine ay (dt h17) ?_
   refine s2 (jn (e:=101) 215 T101 (k:=mI (k:=nl (rt ?_))))
   simp only [Option.some.injEq,Prod.mk.injEq] at H
   obtain ⟨rfl,rfl⟩:=H
   exact RetP.mk (fun κ=>cond (Nat.beq κ 100) 215 (κ)) ⟨(ownE rfl (by simp)),rfl,trivial⟩ ⟨rfl,trivial⟩ rfl
  refine an (df h17) ?_
  refine sp (rg (mW (k:=lv (.agg [_,_,_,_,_]) T43 (k:=lv (.agg [_,_,_,_,_]) T82 (k:=?_)))))
  obtain ⟨t18,e19,H⟩:=bo H
  refine a_call (v := .c (.own 216 t18.length)) (nk:=[(216,.row 143 (t18.map c142))]) (L:=[]) ?_ rfl (impl_placed.ok e19) (fun κ=>cond (Nat.beq κ 216) 100 (κ)) (qg (qg qn)) trivial ⟨rfl,trivial⟩ ⟨rfl,trivial⟩ rfl
  refine a_lit (cs:=[_]) (D:=[216]) (css:=([t18]).map c37) 217 ?_ N96 T37
  obtain ⟨h20,H⟩:=io H
  refine a_appO (css':=(x10++[t18]).map c37) (n':=(x10++[t18]).length) ?_ T37 (by simp [maxLen]; omega) (by simp; omega) Tryz.underlying96 (hc:=by exact List.map_append.symm) (hn:=by exact List.length_map _)
  refine mW (k:=nl (rg (iA (k:=mI (k:=nl ?_)))))
  exact AGr.canon id (ih0 _ (by omega) _ ⟨by omega,_,_,_,_,_,_,_,_,_,_,_,_,_,_,_,H,rfl⟩) ⟨rfl,rfl,rfl,rfl,rfl,rfl,rfl,rfl,trivial⟩ ⟨rfl,rfl,rfl,trivial⟩ rfl
 refine an (df h14) ?_
 refine ex (s2 ?_)
 refine a_lit (cs:=[]) (D:=[]) (css:=(([]:List S100)).map c100) 218 ?_ N55 T101 (hcss:=by rfl)
 refine mW (k:=nl (sq (s2 (fB 4 D43_1 (k:=lR T41 (k:=jl Tryz.underlying41 (k:=mI (k:=nl (bk (lp ?_))))))))))
 obtain ⟨K1,hK1,gK1⟩:=kk k
 refine AGr.canon (fun κ=>cond (Nat.beq κ 219) 211 (cond (Nat.beq κ 220) 212 (cond (Nat.beq κ 221) 213 (cond (Nat.beq κ 222) 218 (κ))))) (AGr.loopI (n:=k) (fun k s=>k≤K1∧∃ x1 x2,∃ (y219_0:Int),∃ (y219_1:Int),∃ (y219_2:List S142),∃ (y219_3:List S154),∃ y219_4 y220_0 y220_1 y220_2 y220_3 x10 x13 x62 x63,impl_NestFaults.l1 k x1 x2 y219_4 y220_0 y220_1 y220_2 y220_3 x10 x13 x62 x63=some (r0,r1)∧s=St.of [(1,vR 79 (x1.map c78)),(2,vR 82 (x2.map c81)),(4,.c (.ptr 219 0)),(7,.c (.ptr 220 0)),(10,.c (.own 221 x10.length)),(13,.c (.own 222 x13.length)),(62,vI x62),(63,vI x63)] [(219,.box 43 [.d (.v (.int .i64 y219_0)),.d (.v (.int .i64 y219_1)),.d (.row 143 (y219_2.map c142)),.d (.row 158 (y219_3.map c154)),.d (.row 76 (y219_4.map c66))]),(220,.box 49 [.d (.v (.int .i64 y220_0)),.d (.v (.int .i64 y220_1)),.d (.v (.int .i64 y220_2)),.d (.v (.int .i64 y220_3))]),(221,.row 37 (x10.map c37)),(222,.row 101 (x13.map c100))]) ⟨hK1,_,_,_,_,_,_,_,_,_,_,_,_,_,_,_,H,rfl⟩ ?_ ?_) ⟨rfl,rfl,rfl,rfl,rfl,(ownE rfl (by simp)),rfl,rfl,trivial⟩ ⟨rfl,rfl,rfl,rfl,trivial⟩ rfl
 ·rintro _ ⟨_,_,_,_,_,_,_,_,_,_,_,_,_,_,_,_,H,_⟩
  cases H
 clear H hK1
 rintro k ih1 _ ⟨hK1,x1,x2,y219_0,y219_1,y219_2,y219_3,y219_4,y220_0,y220_1,y220_2,y220_3,x10,x13,x62,x63,H,rfl⟩
 unfold impl_NestFaults.l1 at H
 refine s2 (iL (k:=nl (sq ?_)))
 rcases ei H with ⟨h23,H⟩|⟨h23,H⟩
 ·refine an (df h23) ?_
  refine ex (s2 (mW (k:=mW (k:=mI (k:=nl (rt ?_))))))
  simp only [Option.some.injEq,Prod.mk.injEq] at H
  obtain ⟨rfl,rfl⟩:=H
  exact RetP.mk (fun κ=>cond (Nat.beq κ 100) 222 (κ)) ⟨rfl,rfl,trivial⟩ ⟨rfl,trivial⟩ rfl
 refine ay (dt h23) ?_
 refine sp (sq (bk (s2 (mI (k:=ja (cs:=[_]) 223 T2 (k:=js (cs':=[_]) T2 (k:=nl (s2 (mR (k:=?_))))))))))
 refine a_fnc (ks:=[223]) ?_
 obtain ⟨t24,e25,H⟩:=bo H
 refine a_call (v:=vI t24) (nk:=[]) (L:=[(223,_)]) ?_ rfl (slices_IndexFunc_impl_Placement__impl_NestFaults_1.ok e25) id (qd (qc (rF1 (rP (pD p0))) qn)) ⟨rfl,trivial⟩ trivial trivial rfl
 refine mI (k:=nl (sq (s2 (mI (k:=iL (k:=nl ?_))))))
 rcases ie H with ⟨h26,H⟩|⟨h26,H⟩
 ·refine ay (dt h26) ?_
  refine s2 (mW (k:=lI T2 (k:=?_)))
  refine a_build (cs:=[_,_,_]) ?_ T101 rfl (hin:=I101)
  refine a_lit (cs:=[_,_,_]) (D:=[]) (css:=([(⟨8,x63,0⟩:S100)]).map c100) 225 ?_ N55 T101
  obtain ⟨h27,H⟩:=io H
  refine a_appO (css':=(x13++[(⟨8,x63,0⟩:S100)]).map c100) (n':=(x13++[(⟨8,x63,0⟩:S100)]).length) ?_ T101 (by simp [maxLen]; omega) (by simp; omega) Tryz.underlying55 (hc:=by exact List.map_append.symm) (hn:=by exact List.length_map _)
  refine mW (k:=nl (ex (rg (iA (k:=mI (k:=nl ?_))))))
  exact AGr.canon id (ih1 _ (by omega) _ ⟨by omega,_,_,_,_,_,_,_,_,_,_,_,_,_,_,_,H,rfl⟩) ⟨rfl,rfl,rfl,rfl,rfl,rfl,rfl,rfl,trivial⟩ ⟨rfl,rfl,rfl,rfl,trivial⟩ rfl
 refine an (df h26) ?_
 refine sp (s2 (mR (k:=mI (k:=?_))))
 obtain ⟨h29,H⟩:=io H
 obtain ⟨h30,H⟩:=io H
 refine ixx ⟨h29,h30⟩ T82 Tryz.underlying47 (R81 h29 h30) (k:=ov (.agg [_,_,_,_,_]) T82 (k:=ja (cs:=[_,_,_,_,_]) 226 T82 (k:=js (cs':=[_,_,_,_,_]) T82 (k:=nl (sq (s2 (fB 1 D82_1 (k:=lI T2 (k:=mR (k:=jl Tryz.underlying45 (k:=iE (k:=nl ?_))))))))))))
 refine AG.joinR (fun s=>∃ q,q≤k∧∃ x1 x2,∃ (y239_0:Int),∃ (y239_1:Int),∃ (y239_2:List S142),∃ (y239_3:List S154),∃ y239_4 y240_0 y240_1 y240_2 y240_3 x10 x13 y243_0 x15,∃ (y244_0:Int),∃ y244_1,∃ (y244_2:Int),∃ (y244_3:Int),∃ (y244_4:Int),∃ x62 x63,impl_NestFaults.j1 q x1 x2 y239_4 y240_0 y240_1 y240_2 y240_3 x10 x13 y243_0 x15 y244_1 x62 x63=some (r0,r1)∧s=St.of [(1,vR 79 (x1.map c78)),(2,vR 82 (x2.map c81)),(4,.c (.ptr 239 0)),(7,.c (.ptr 240 0)),(10,.c (.own 241 x10.length)),(13,.c (.own 242 x13.length)),(14,.c (.ptr 243 0)),(15,vI x15),(16,.c (.ptr 244 0)),(62,vI x62),(63,vI x63)] [(239,.box 43 [.d (.v (.int .i64 y239_0)),.d (.v (.int .i64 y239_1)),.d (.row 143 (y239_2.map c142)),.d (.row 158 (y239_3.map c154)),.d (.row 76 (y239_4.map c66))]),(240,.box 49 [.d (.v (.int .i64 y240_0)),.d (.v (.int .i64 y240_1)),.d (.v (.int .i64 y240_2)),.d (.v (.int .i64 y240_3))]),(241,.row 37 (x10.map c37)),(242,.row 101 (x13.map c100)),(243,.box 2 [.d (.v (.int .i64 y243_0))]),(244,.box 82 [.d (.v (.int .i64 y244_0)),.d (.v (.int .i64 y244_1)),.d (.v (.int .i64 y244_2)),.d (.v (.int .i64 y244_3)),.d (.v (.int .i64 y244_4))])]) ?_ ?_
 ·skip
  rcases ie H with ⟨h31,H⟩|⟨h31,H⟩
  ·refine ay (dt h31) ?_
   refine rg (mW (k:=lI T2 (k:=fB 1 D82_1 (k:=lI T2 (k:=?_)))))
   refine a_build (cs:=[_,_,_]) ?_ T101 rfl (hin:=I101)
   refine a_lit (cs:=[_,_,_]) (D:=[]) (css:=([(⟨1,x63,(rd81 x2 t24).f1⟩:S100)]).map c100) 227 ?_ N55 T101
   obtain ⟨h32,H⟩:=io H
   refine a_appO (css':=(x13++[(⟨1,x63,(rd81 x2 t24).f1⟩:S100)]).map c100) (n':=(x13++[(⟨1,x63,(rd81 x2 t24).f1⟩:S100)]).length) ?_ T101 (by simp [maxLen]; omega) (by simp; omega) Tryz.underlying55 (hc:=by exact List.map_append.symm) (hn:=by exact List.length_map _)
   refine mW (k:=nl ?_)
   exact CanR.mk (fun κ=>cond (Nat.beq κ 239) 219 (cond (Nat.beq κ 240) 220 (cond (Nat.beq κ 241) 221 (cond (Nat.beq κ 242) 222 (cond (Nat.beq κ 243) 223 (cond (Nat.beq κ 244) 226 (κ))))))) ⟨_,(by omega),_,_,_,_,_,_,_,_,_,_,_,_,_,_,_,_,_,_,_,_,_,_,H,rfl⟩ ⟨rfl,rfl,rfl,rfl,rfl,rfl,rfl,rfl,rfl,rfl,rfl,trivial⟩ ⟨rfl,rfl,rfl,rfl,rfl,rfl,trivial⟩ rfl
  refine an (df h31) ?_
  refine s2 (fB 4 D43_1 (k:=lR T41 (k:=lI T2 (k:=?_))))
  obtain ⟨h34,H⟩:=io H
  obtain ⟨h35,H⟩:=io H
  refine ixx ⟨h34,h35⟩ T76 Tryz.underlying41 (R66 h34 h35) (k:=ov (.agg [_,_,_]) T76 (k:=mR (k:=fB 1 D82_1 (k:=lI T2 (k:=?_)))))
  obtain ⟨h36,H⟩:=io H
  obtain ⟨h37,H⟩:=io H
  refine ixx ⟨h36,h37⟩ T79 Tryz.underlying45 (R78 h36 h37) (k:=ov (.agg [_,_,_,_,_,_,_,_,_]) T79 (k:=fB 4 D82_4 (k:=lI T2 (k:=lv (.agg [_,_,_,_]) T49 (k:=?_)))))
  obtain ⟨t38,e39,H⟩:=bo H
  refine cr rfl (impl_veneerFault.ok e39) (qg (qg (qd (qg qn)))) (k:=mW (k:=mI (k:=?_)))
  obtain ⟨h40,H⟩:=io H
  refine ji ⟨h29,h40⟩ T37 Tryz.underlying96 (k:=je (v := .c (.sub _ _ _ _)) (G37 h29 h40) T37 (k:=mR (k:=fB 1 D82_1 (k:=lI T2 (k:=ixx ⟨h36,h37⟩ T79 Tryz.underlying45 (R78 h36 h37) (k:=ov (.agg [_,_,_,_,_,_,_,_,_]) T79 (k:=lv (.agg [_,_,_,_]) T49 (k:=?_))))))))
  obtain ⟨t41,e42,H⟩:=bo H
  refine a_call (v:=vI t41) (nk:=[]) (L:=[(221,_)]) ?_ rfl (impl_leafFault.ok e42) id (qc (rU (G37 h29 h40)) (qg (qg qn))) ⟨rfl,trivial⟩ trivial trivial rfl
  refine a_lit (cs:=[_,_]) (D:=[]) (css:=([t38,t41]).map c2) 230 ?_ N104 T2 (hcss:=by rfl)
  refine jo Tryz.underlying104 (k:=mI (k:=?_))
  refine RA.nil (fun _=>by kernel_rfl) ?_
  refine bk (lp ?_)
  obtain ⟨K2,hK2,gK2⟩:=kk k
  refine AGr.canon (fun κ=>cond (Nat.beq κ 231) 219 (cond (Nat.beq κ 232) 220 (cond (Nat.beq κ 233) 221 (cond (Nat.beq κ 234) 222 (cond (Nat.beq κ 235) 223 (cond (Nat.beq κ 236) 226 (cond (Nat.beq κ 237) 230 (κ)))))))) (AGr.loopI (n:=k) (fun k s=>k≤K2∧∃ x1 x2,∃ (y231_0:Int),∃ (y231_1:Int),∃ (y231_2:List S142),∃ (y231_3:List S154),∃ y231_4 y232_0 y232_1 y232_2 y232_3 x10 x13 y235_0 x15,∃ (y236_0:Int),∃ y236_1,∃ (y236_2:Int),∃ (y236_3:Int),∃ (y236_4:Int),∃ x62 x63 x117 x118 x119,impl_NestFaults.l2 k x1 x2 y231_4 y232_0 y232_1 y232_2 y232_3 x10 x13 y235_0 x15 y236_1 x62 x63 x117 x118 x119=some (r0,r1)∧s=St.of [(1,vR 79 (x1.map c78)),(2,vR 82 (x2.map c81)),(4,.c (.ptr 231 0)),(7,.c (.ptr 232 0)),(10,.c (.own 233 x10.length)),(13,.c (.own 234 x13.length)),(14,.c (.ptr 235 0)),(15,vI x15),(16,.c (.ptr 236 0)),(62,vI x62),(63,vI x63),(117,.c (.own 237 x117.length)),(118,vI x118),(119,vI x119)] [(231,.box 43 [.d (.v (.int .i64 y231_0)),.d (.v (.int .i64 y231_1)),.d (.row 143 (y231_2.map c142)),.d (.row 158 (y231_3.map c154)),.d (.row 76 (y231_4.map c66))]),(232,.box 49 [.d (.v (.int .i64 y232_0)),.d (.v (.int .i64 y232_1)),.d (.v (.int .i64 y232_2)),.d (.v (.int .i64 y232_3))]),(233,.row 37 (x10.map c37)),(234,.row 101 (x13.map c100)),(235,.box 2 [.d (.v (.int .i64 y235_0))]),(236,.box 82 [.d (.v (.int .i64 y236_0)),.d (.v (.int .i64 y236_1)),.d (.v (.int .i64 y236_2)),.d (.v (.int .i64 y236_3)),.d (.v (.int .i64 y236_4))]),(237,.row 2 (x117.map c2))]) ⟨hK2,_,_,_,_,_,_,_,_,_,_,_,_,_,_,_,_,_,_,_,_,_,_,_,_,_,H,rfl⟩ ?_ ?_) ⟨rfl,rfl,rfl,rfl,rfl,rfl,rfl,rfl,rfl,rfl,rfl,(ownE rfl (by simp)),rfl,rfl,trivial⟩ ⟨rfl,rfl,rfl,rfl,rfl,rfl,rfl,trivial⟩ rfl
  ·rintro _ ⟨_,_,_,_,_,_,_,_,_,_,_,_,_,_,_,_,_,_,_,_,_,_,_,_,_,_,H,_⟩
   cases H
  clear H hK2
  rintro k ih2 _ ⟨hK2,x1,x2,y231_0,y231_1,y231_2,y231_3,y231_4,y232_0,y232_1,y232_2,y232_3,x10,x13,y235_0,x15,y236_0,y236_1,y236_2,y236_3,y236_4,x62,x63,x117,x118,x119,H,rfl⟩
  unfold impl_NestFaults.l2 at H
  refine s2 (iL (k:=nl (sq ?_)))
  rcases ei H with ⟨h44,H⟩|⟨h44,H⟩
  ·refine an (df h44) ?_
   refine ex ?_
   exact CanR.mk (fun κ=>cond (Nat.beq κ 239) 231 (cond (Nat.beq κ 240) 232 (cond (Nat.beq κ 241) 233 (cond (Nat.beq κ 242) 234 (cond (Nat.beq κ 243) 235 (cond (Nat.beq κ 244) 236 (κ))))))) ⟨_,(by omega),_,_,_,_,_,_,_,_,_,_,_,_,_,_,_,_,_,_,_,_,_,_,H,rfl⟩ ⟨rfl,rfl,rfl,rfl,rfl,rfl,rfl,rfl,rfl,rfl,rfl,trivial⟩ ⟨rfl,rfl,rfl,rfl,rfl,rfl,trivial⟩ rfl
  refine ay (dt h44) ?_
  refine sp (sq (bk (s2 ?_)))
  obtain ⟨h45,H⟩:=io H
  obtain ⟨h46,H⟩:=io H
  refine ji ⟨h45,h46⟩ T2 Tryz.underlying104 (k:=eI (G2 h45 h46) T2 (k:=mI (k:=nl (s2 (mI (k:=iNe (k:=nl ?_)))))))
  rcases ie H with ⟨h47,H⟩|⟨h47,H⟩
  ·refine an (nq h47) ?_
   refine sp (rg (iA (k:=mI (k:=nl ?_))))
   exact AGr.canon id (ih2 _ (by omega) _ ⟨by omega,_,_,_,_,_,_,_,_,_,_,_,_,_,_,_,_,_,_,_,_,_,_,_,_,_,H,rfl⟩) ⟨rfl,rfl,rfl,rfl,rfl,rfl,rfl,rfl,rfl,rfl,rfl,rfl,rfl,rfl,trivial⟩ ⟨rfl,rfl,rfl,rfl,rfl,rfl,rfl,trivial⟩ rfl
  refine ay (nn h47) ?_
  refine rg (mW (k:=mI (k:=lI T2 (k:=fB 1 D82_1 (k:=lI T2 (k:=?_))))))
  refine a_build (cs:=[_,_,_]) ?_ T101 rfl (hin:=I101)
  refine a_lit (cs:=[_,_,_]) (D:=[]) (css:=([(⟨(rd2 x117 x119),y235_0,y236_1⟩:S100)]).map c100) 238 ?_ N55 T101
  obtain ⟨h48,H⟩:=io H
  refine a_appO (css':=(x13++[(⟨(rd2 x117 x119),y235_0,y236_1⟩:S100)]).map c100) (n':=(x13++[(⟨(rd2 x117 x119),y235_0,y236_1⟩:S100)]).length) ?_ T101 (by simp [maxLen]; omega) (by simp; omega) Tryz.underlying55 (hc:=by exact List.map_append.symm) (hn:=by exact List.length_map _)
  refine mW (k:=nl (rg (iA (k:=mI (k:=nl ?_)))))
  exact AGr.canon id (ih2 _ (by omega) _ ⟨by omega,_,_,_,_,_,_,_,_,_,_,_,_,_,_,_,_,_,_,_,_,_,_,_,_,_,H,rfl⟩) ⟨rfl,rfl,rfl,rfl,rfl,rfl,rfl,rfl,rfl,rfl,rfl,rfl,rfl,rfl,trivial⟩ ⟨rfl,rfl,rfl,rfl,rfl,rfl,rfl,trivial⟩ rfl
 clear H
 rintro _ ⟨k,hj1,x1,x2,y239_0,y239_1,y239_2,y239_3,y239_4,y240_0,y240_1,y240_2,y240_3,x10,x13,y243_0,x15,y244_0,y244_1,y244_2,y244_3,y244_4,x62,x63,H,rfl⟩
 rcases k with _|k
 cases H
 rw [impl_NestFaults.j1] at H
 refine s2 (mR (k:=mI (k:=?_)))
 obtain ⟨h50,H⟩:=io H
 obtain ⟨h51,H⟩:=io H
 refine a_slR (l:=none) (h:=some x15) (css':=(x2.take ((x15:Int).toNat)).map c81) ?_ Tryz.underlying47 T82 ⟨(Int.le_refl 0),h50,(lenM (p:=fun n=>x15≤n) h51)⟩ (map_take_drop _ _ _ _)
 refine jl Tryz.underlying47 (k:=mI (k:=nl (bk (lp ?_))))
 obtain ⟨K3,hK3,gK3⟩:=kk k
 refine AGr.canon (fun κ=>cond (Nat.beq κ 245) 239 (cond (Nat.beq κ 246) 240 (cond (Nat.beq κ 247) 241 (cond (Nat.beq κ 248) 242 (cond (Nat.beq κ 249) 243 (cond (Nat.beq κ 250) 244 (κ))))))) (AGr.loopI (n:=k) (fun k s=>k≤K3∧∃ x1 x2,∃ (y245_0:Int),∃ (y245_1:Int),∃ (y245_2:List S142),∃ (y245_3:List S154),∃ y245_4 y246_0 y246_1 y246_2 y246_3 x10 x13 y249_0 x15,∃ (y250_0:Int),∃ y250_1,∃ (y250_2:Int),∃ (y250_3:Int),∃ (y250_4:Int),∃ x62 x63 x136 x137 x138,impl_NestFaults.l3 k x1 x2 y245_4 y246_0 y246_1 y246_2 y246_3 x10 x13 y249_0 x15 y250_1 x62 x63 x136 x137 x138=some (r0,r1)∧s=St.of [(1,vR 79 (x1.map c78)),(2,vR 82 (x2.map c81)),(4,.c (.ptr 245 0)),(7,.c (.ptr 246 0)),(10,.c (.own 247 x10.length)),(13,.c (.own 248 x13.length)),(14,.c (.ptr 249 0)),(15,vI x15),(16,.c (.ptr 250 0)),(62,vI x62),(63,vI x63),(136,vR 82 (x136.map c81)),(137,vI x137),(138,vI x138)] [(245,.box 43 [.d (.v (.int .i64 y245_0)),.d (.v (.int .i64 y245_1)),.d (.row 143 (y245_2.map c142)),.d (.row 158 (y245_3.map c154)),.d (.row 76 (y245_4.map c66))]),(246,.box 49 [.d (.v (.int .i64 y246_0)),.d (.v (.int .i64 y246_1)),.d (.v (.int .i64 y246_2)),.d (.v (.int .i64 y246_3))]),(247,.row 37 (x10.map c37)),(248,.row 101 (x13.map c100)),(249,.box 2 [.d (.v (.int .i64 y249_0))]),(250,.box 82 [.d (.v (.int .i64 y250_0)),.d (.v (.int .i64 y250_1)),.d (.v (.int .i64 y250_2)),.d (.v (.int .i64 y250_3)),.d (.v (.int .i64 y250_4))])]) ⟨hK3,_,_,_,_,_,_,_,_,_,_,_,_,_,_,_,_,_,_,_,_,_,_,_,_,_,H,rfl⟩ ?_ ?_) ⟨rfl,rfl,rfl,rfl,rfl,rfl,rfl,rfl,rfl,rfl,rfl,rfl,rfl,rfl,trivial⟩ ⟨rfl,rfl,rfl,rfl,rfl,rfl,trivial⟩ rfl
 ·rintro _ ⟨_,_,_,_,_,_,_,_,_,_,_,_,_,_,_,_,_,_,_,_,_,_,_,_,_,_,H,_⟩
  cases H
 clear H hK3
 rintro k ih3 _ ⟨hK3,x1,x2,y245_0,y245_1,y245_2,y245_3,y245_4,y246_0,y246_1,y246_2,y246_3,x10,x13,y249_0,x15,y250_0,y250_1,y250_2,y250_3,y250_4,x62,x63,x136,x137,x138,H,rfl⟩
 unfold impl_NestFaults.l3 at H
 refine s2 (iL (k:=nl (sq ?_)))
 rcases ei H with ⟨h52,H⟩|⟨h52,H⟩
 ·refine an (df h52) ?_
  refine ex (rg (iA (k:=mI (k:=nl ?_))))
  exact AGr.canon (fun κ=>cond (Nat.beq κ 219) 245 (cond (Nat.beq κ 220) 246 (cond (Nat.beq κ 221) 247 (cond (Nat.beq κ 222) 248 (κ))))) (ih1 _ (by omega) _ ⟨by omega,_,_,_,_,_,_,_,_,_,_,_,_,_,_,_,H,rfl⟩) ⟨rfl,rfl,rfl,rfl,rfl,rfl,rfl,rfl,trivial⟩ ⟨rfl,rfl,rfl,rfl,trivial⟩ rfl
 refine ay (dt h52) ?_
 refine sp (sq (bk (s2 (mI (k:=?_)))))
 obtain ⟨h53,H⟩:=io H
 obtain ⟨h54,H⟩:=io H
 refine ixx ⟨h53,h54⟩ T82 Tryz.underlying47 (R81 h53 h54) (k:=ov (.agg [_,_,_,_,_]) T82 (k:=ja (cs:=[_,_,_,_,_]) 251 T82 (k:=mI (k:=js (cs':=[_,_,_,_,_]) T82 (k:=nl (s2 (fB 1 D82_1 (k:=lI T2 (k:=fB 1 D82_1 (k:=lI T2 (k:=iEq (k:=mB (k:=?_)))))))))))))
 rcases ei H with ⟨h55,H⟩|⟨h55,H⟩
 ·iterate 10 refine sk (bn h55) (k:=?_)
  refine qB (bn h55) (k:=?_)
  refine RA.nil (fun _=>by kernel_rfl) ?_
  refine an rfl ?_
  refine sp (rg (iA (k:=mI (k:=nl ?_))))
  exact AGr.canon id (ih3 _ (by omega) _ ⟨by omega,_,_,_,_,_,_,_,_,_,_,_,_,_,_,_,_,_,_,_,_,_,_,_,_,_,H,rfl⟩) ⟨rfl,rfl,rfl,rfl,rfl,rfl,rfl,rfl,rfl,rfl,rfl,rfl,rfl,rfl,trivial⟩ ⟨rfl,rfl,rfl,rfl,rfl,rfl,trivial⟩ rfl
 refine mW (hg:=gy (bq h55)) (k:=mI (hg:=gy (bq h55)) (k:=?_))
 obtain ⟨h56,H⟩:=io H
 refine ji ⟨h53,h56⟩ T37 Tryz.underlying96 (hg:=gy (bq h55)) (k:=je (v := .c (.sub _ _ _ _)) (G37 h53 h56) T37 (hg:=gy (bq h55)) (k:=mW (hg:=gy (bq h55)) (k:=mI (hg:=gy (bq h55)) (k:=?_))))
 obtain ⟨h57,H⟩:=io H
 obtain ⟨h58,H⟩:=io H
 refine ji ⟨h57,h58⟩ T37 Tryz.underlying96 (hg:=gy (bq h55)) (k:=je (v := .c (.sub _ _ _ _)) (G37 h57 h58) T37 (hg:=gy (bq h55)) (k:=lv (.agg [_,_,_,_]) T49 (hg:=gy (bq h55)) (k:=?_)))
 obtain ⟨t59,e60,H⟩:=bo H
 refine a_call (v:=vB t59) (nk:=[]) (L:=[(247,_)]) ?_ rfl (impl_tooNear.ok e60) id (qc (rU (G37 h53 h56)) (qc (rU (G37 h57 h58)) (qg qn))) ⟨rfl,trivial⟩ trivial trivial rfl (hg:=gy (bq h55))
 refine pB (bq h55) (k:=?_)
 refine RA.nil (fun _=>by kernel_rfl) ?_
 rcases ei H with ⟨h61,H⟩|⟨h61,H⟩
 ·refine an (bf h61) ?_
  refine sp (rg (iA (k:=mI (k:=nl ?_))))
  exact AGr.canon id (ih3 _ (by omega) _ ⟨by omega,_,_,_,_,_,_,_,_,_,_,_,_,_,_,_,_,_,_,_,_,_,_,_,_,_,H,rfl⟩) ⟨rfl,rfl,rfl,rfl,rfl,rfl,rfl,rfl,rfl,rfl,rfl,rfl,rfl,rfl,trivial⟩ ⟨rfl,rfl,rfl,rfl,rfl,rfl,trivial⟩ rfl
 refine ay h61 ?_
 refine rg (mW (k:=lI T2 (k:=fB 0 D82_0 (k:=lI T2 (k:=?_)))))
 refine a_build (cs:=[_,_,_]) ?_ T101 rfl (hin:=I101)
 refine a_lit (cs:=[_,_,_]) (D:=[]) (css:=([(⟨7,y249_0,(rd81 x136 x138).f0⟩:S100)]).map c100) 253 ?_ N55 T101
 obtain ⟨h62,H⟩:=io H
 refine a_appO (css':=(x13++[(⟨7,y249_0,(rd81 x136 x138).f0⟩:S100)]).map c100) (n':=(x13++[(⟨7,y249_0,(rd81 x136 x138).f0⟩:S100)]).length) ?_ T101 (by simp [maxLen]; omega) (by simp; omega) Tryz.underlying55 (hc:=by exact List.map_append.symm) (hn:=by exact List.length_map _)
 refine mW (k:=nl (rg (iA (k:=mI (k:=nl ?_)))))
 exact AGr.canon id (ih3 _ (by omega) _ ⟨by omega,_,_,_,_,_,_,_,_,_,_,_,_,_,_,_,_,_,_,_,_,_,_,_,_,_,H,rfl⟩) ⟨rfl,rfl,rfl,rfl,rfl,rfl,rfl,rfl,rfl,rfl,rfl,rfl,rfl,rfl,trivial⟩ ⟨rfl,rfl,rfl,rfl,rfl,rfl,trivial⟩ rfl
def impl_IsNesting.f (k:Nat) (a0_0 a0_1:Int) (l0_2:List S142) (l0_3:List S154) (l0_4:List S66) (l1:List S78) (l2:List S81) (a3_0 a3_1 a3_2 a3_3:Int):Option (Bool):=(impl_NestFaults.f k a0_0 a0_1 l0_2 l0_3 l0_4 l1 l2 a3_0 a3_1 a3_2 a3_3).bind fun bt1=>(if bt1.2=0 then (some ((bt1.1.length:Int) == 0)) else (some false))
theorem impl_IsNesting.ok {k:Nat} {a0_0 a0_1:Int} {l0_2:List S142} {l0_3:List S154} {l0_4:List S66} {l1:List S78} {l2:List S81} {a3_0 a3_1 a3_2 a3_3:Int} {r:Bool} (H:impl_IsNesting.f k a0_0 a0_1 l0_2 l0_3 l0_4 l1 l2 a3_0 a3_1 a3_2 a3_3=some r):OkF Tryz.prog 13 [.agg [cI a0_0,cI a0_1,.d (.row 143 (l0_2.map c142)),.d (.row 158 (l0_3.map c154)),.d (.row 76 (l0_4.map c66))],vR 79 (l1.map c78),vR 82 (l2.map c81),.agg [cI a3_0,cI a3_1,cI a3_2,cI a3_3]] [] (vB r) []:=by
 unfold impl_IsNesting.f at H
 refine o1 26 8 Tryz.func13 fun w0 S=>?_
 refine s2 (jb 200 (k:=jb 201 (k:=mB (k:=nl (s2 (lv (.agg [_,_,_,_,_]) T43 (k:=mR (k:=mR (k:=lv (.agg [_,_,_,_]) T49 (k:=?_))))))))))
 obtain ⟨⟨t1,t2⟩,e3,H⟩:=bo H
 refine a_call (v := .tup [.c (.own 202 t1.length),.c (.d (.v (.int .i64 t2)))]) (nk:=[(202,.row 101 (t1.map c100))]) (L:=[]) ?_ rfl (impl_NestFaults.ok e3) (fun κ=>cond (Nat.beq κ 202) 100 (κ)) (qg (qd (qd (qg qn)))) trivial ⟨rfl,trivial⟩ ⟨rfl,trivial⟩ rfl
 refine mv (.tup [_,_]) (k:=ev (.c (.own _ _)) (k:=xI (k:=mW (k:=mI (k:=nl (s2 (mI (k:=iEq (k:=mB (k:=?_))))))))))
 rcases ei H with ⟨h4,H⟩|⟨h4,H⟩
 ·iterate 3 refine sk (bn h4) (k:=?_)
  cases H
  exact qB (bn h4) (k:=mB (k:=nl (rt r1)))
 cases H
 exact mW (hg:=gy (bq h4)) (k:=jo Tryz.underlying55 (hg:=gy (bq h4)) (k:=iEq (hg:=gy (bq h4)) (k:=pB (bq h4) (k:=mB (k:=nl (rt r1))))))
def laws_eqPoint.f (a0_0 a0_1 a1_0 a1_1:Int):Option (Bool):=if a0_0=a1_0 then (if a0_1=a1_1 then (some true) else (some false)) else (some false)
theorem laws_eqPoint.ok {a0_0 a0_1 a1_0 a1_1:Int} {r:Bool} (H:laws_eqPoint.f a0_0 a0_1 a1_0 a1_1=some r):OkF Tryz.prog 97 [.agg [cI a0_0,cI a0_1],.agg [cI a1_0,cI a1_1]] [] (vB r) []:=by
 unfold laws_eqPoint.f at H
 refine o1 15 4 Tryz.func97 fun w0 S=>?_
 refine s2 (jb 200 (k:=jb 201 (k:=mB (k:=nl (sq (s2 (fB 0 D143_0 (k:=lI T2 (k:=fB 0 D143_0 (k:=lI T2 (k:=iNe (k:=nl ?_))))))))))))
 rcases ei H with ⟨h1,H⟩|⟨h1,H⟩
 ·refine ay (nn h1) ?_
  cases H
  exact s2 (mB (k:=nl (rt r1)))
 refine an (nq h1) ?_
 refine sp (sq (s2 (fB 1 D143_1 (k:=lI T2 (k:=fB 1 D143_1 (k:=lI T2 (k:=iNe (k:=nl ?_))))))))
 rcases ei H with ⟨h2,H⟩|⟨h2,H⟩
 ·refine ay (nn h2) ?_
  cases H
  exact s2 (mB (k:=nl (rt r1)))
 refine an (nq h2) ?_
 cases H
 exact sp (s2 (mB (k:=nl (rt r1))))
def laws_eqPointS.l0:Nat→List S142→List S142→Int→Option (Bool)
 | 0,_,_,_=>none
 | k+1,x0,x1,x5=>if x5 < (x0.length:Int) then (if 0≤x5 then (if x5 < (x1.length:Int) then ((laws_eqPoint.f ((rd142 x0 x5).f0) ((rd142 x0 x5).f1) ((rd142 x1 x5).f0) ((rd142 x1 x5).f1)).bind fun t5=>(if t5=true then (laws_eqPointS.l0 k x0 x1 (wrap64 (x5+1))) else (some false))) else (none)) else (none)) else (some true)
def laws_eqPointS.f (k:Nat) (l0 l1:List S142):Option (Bool):=if (l0.length:Int)=(l1.length:Int) then (laws_eqPointS.l0 k l0 l1 0) else (some false)
theorem laws_eqPointS.ok {k:Nat} {l0 l1:List S142} {r:Bool} (H:laws_eqPointS.f k l0 l1=some r):OkF Tryz.prog 64 [vR 143 (l0.map c142),vR 143 (l1.map c142)] [] (vB r) []:=by
 unfold laws_eqPointS.f at H
 refine o1 27 4 Tryz.func64 fun w0 S=>?_
 refine s2 (mB (k:=nl (sq (s2 (mR (k:=jl Tryz.underlying37 (k:=mR (k:=jl Tryz.underlying37 (k:=iNe (k:=nl ?_))))))))))
 rcases ei H with ⟨h1,H⟩|⟨h1,H⟩
 ·refine ay (nn h1) ?_
  cases H
  exact s2 (mB (k:=nl (rt r1)))
 refine an (nq h1) ?_
 refine sp (sq (s2 (mI (k:=nl (bk (lp ?_))))))
 obtain ⟨K0,hK0,gK0⟩:=kk k
 refine AGr.canon id (AGr.loopI (n:=k) (fun k s=>k≤K0∧∃ x0 x1 x5,laws_eqPointS.l0 k x0 x1 x5=some r∧s=St.of [(0,vR 143 (x0.map c142)),(1,vR 143 (x1.map c142)),(5,vI x5)] []) ⟨hK0,_,_,_,H,rfl⟩ ?_ ?_) ⟨rfl,rfl,rfl,trivial⟩ trivial rfl
 ·rintro _ ⟨_,_,_,_,H,_⟩
  cases H
 clear H hK0
 rintro k ih0 _ ⟨hK0,x0,x1,x5,H,rfl⟩
 unfold laws_eqPointS.l0 at H
 refine sq (s2 (mI (k:=mR (k:=jl Tryz.underlying37 (k:=iL (k:=nl ?_))))))
 rcases ei H with ⟨h2,H⟩|⟨h2,H⟩
 ·refine an (df h2) ?_
  cases H
  exact ex (s2 (mB (k:=nl (rt r1))))
 refine ay (dt h2) ?_
 refine sp (sq (bk (s2 (mR (k:=mI (k:=?_))))))
 obtain ⟨h3,H⟩:=io H
 refine ixx ⟨h3,h2⟩ T143 Tryz.underlying37 (R142 h3 h2) (k:=oP T143 (k:=mR (k:=mI (k:=?_))))
 obtain ⟨h4,H⟩:=io H
 refine ixx ⟨h3,h4⟩ T143 Tryz.underlying37 (R142 h3 h4) (k:=oP T143 (k:=?_))
 obtain ⟨t5,e6,H⟩:=bo H
 refine cr rfl (laws_eqPoint.ok e6) (qg (qg qn)) (k:=uN (k:=?_))
 refine RA.nil (fun _=>by kernel_rfl) ?_
 rcases ei H with ⟨h7,H⟩|⟨h7,H⟩
 ·refine ay (cn (bf h7)) ?_
  cases H
  exact s2 (mB (k:=nl (rt r1)))
 refine an (cn h7) ?_
 refine sp (rg (mI (k:=iA (k:=mI (k:=nl ?_)))))
 exact AGr.canon id (ih0 _ (by omega) _ ⟨by omega,_,_,_,H,rfl⟩) ⟨rfl,rfl,rfl,trivial⟩ trivial rfl
def laws_eqInt64S.l0:Nat→List Int→List Int→Int→Option (Bool)
 | 0,_,_,_=>none
 | k+1,x0,x1,x5=>if x5 < (x0.length:Int) then (if 0≤x5 then (if x5 < (x1.length:Int) then (if (rd2 x0 x5)=(rd2 x1 x5) then (laws_eqInt64S.l0 k x0 x1 (wrap64 (x5+1))) else (some false)) else (none)) else (none)) else (some true)
def laws_eqInt64S.f (k:Nat) (l0 l1:List Int):Option (Bool):=if (l0.length:Int)=(l1.length:Int) then (laws_eqInt64S.l0 k l0 l1 0) else (some false)
theorem laws_eqInt64S.ok {k:Nat} {l0 l1:List Int} {r:Bool} (H:laws_eqInt64S.f k l0 l1=some r):OkF Tryz.prog 133 [vR 2 (l0.map c2),vR 2 (l1.map c2)] [] (vB r) []:=by
 unfold laws_eqInt64S.f at H
 refine o1 26 4 Tryz.func133 fun w0 S=>?_
 refine s2 (mB (k:=nl (sq (s2 (mR (k:=jl Tryz.underlying104 (k:=mR (k:=jl Tryz.underlying104 (k:=iNe (k:=nl ?_))))))))))
 rcases ei H with ⟨h1,H⟩|⟨h1,H⟩
 ·refine ay (nn h1) ?_
  cases H
  exact s2 (mB (k:=nl (rt r1)))
 refine an (nq h1) ?_
 refine sp (sq (s2 (mI (k:=nl (bk (lp ?_))))))
 obtain ⟨K0,hK0,gK0⟩:=kk k
 refine AGr.canon id (AGr.loopI (n:=k) (fun k s=>k≤K0∧∃ x0 x1 x5,laws_eqInt64S.l0 k x0 x1 x5=some r∧s=St.of [(0,vR 2 (x0.map c2)),(1,vR 2 (x1.map c2)),(5,vI x5)] []) ⟨hK0,_,_,_,H,rfl⟩ ?_ ?_) ⟨rfl,rfl,rfl,trivial⟩ trivial rfl
 ·rintro _ ⟨_,_,_,_,H,_⟩
  cases H
 clear H hK0
 rintro k ih0 _ ⟨hK0,x0,x1,x5,H,rfl⟩
 unfold laws_eqInt64S.l0 at H
 refine sq (s2 (mI (k:=mR (k:=jl Tryz.underlying104 (k:=iL (k:=nl ?_))))))
 rcases ei H with ⟨h2,H⟩|⟨h2,H⟩
 ·refine an (df h2) ?_
  cases H
  exact ex (s2 (mB (k:=nl (rt r1))))
 refine ay (dt h2) ?_
 refine sp (sq (bk (s2 (mR (k:=mI (k:=?_))))))
 obtain ⟨h3,H⟩:=io H
 refine ixx ⟨h3,h2⟩ T2 Tryz.underlying104 (R2 h3 h2) (k:=oI T2 (k:=mR (k:=mI (k:=?_))))
 obtain ⟨h4,H⟩:=io H
 refine ixx ⟨h3,h4⟩ T2 Tryz.underlying104 (R2 h3 h4) (k:=oI T2 (k:=iNe (k:=?_)))
 refine RA.nil (fun _=>by kernel_rfl) ?_
 rcases ei H with ⟨h5,H⟩|⟨h5,H⟩
 ·refine ay (nn h5) ?_
  cases H
  exact s2 (mB (k:=nl (rt r1)))
 refine an (nq h5) ?_
 refine sp (rg (mI (k:=iA (k:=mI (k:=nl ?_)))))
 exact AGr.canon id (ih0 _ (by omega) _ ⟨by omega,_,_,_,H,rfl⟩) ⟨rfl,rfl,rfl,trivial⟩ trivial rfl
def laws_eqFace.f (k:Nat) (a0_0:ByteArray) (l0_1:List Int) (a1_0:ByteArray) (l1_1:List Int):Option (Bool):=if a0_0.toList=a1_0.toList then ((laws_eqInt64S.f k l0_1 l1_1).bind fun t2=>(if t2=true then (some true) else (some false))) else (some false)
theorem laws_eqFace.ok {k:Nat} {a0_0:ByteArray} {l0_1:List Int} {a1_0:ByteArray} {l1_1:List Int} {r:Bool} (H:laws_eqFace.f k a0_0 l0_1 a1_0 l1_1=some r):OkF Tryz.prog 98 [.agg [cS a0_0,.d (.row 2 (l0_1.map c2))],.agg [cS a1_0,.d (.row 2 (l1_1.map c2))]] [] (vB r) []:=by
 unfold laws_eqFace.f at H
 refine o1 16 4 Tryz.func98 fun w0 S=>?_
 refine s2 (jb 200 (k:=jb 201 (k:=mB (k:=nl (sq (s2 (fB 0 D158_0 (k:=lv (vS _) T9 (k:=fB 0 D158_0 (k:=lv (vS _) T9 (k:=bB (!(a0_0.toList == a1_0.toList)) (k:=nl ?_))))))))))))
 rcases ei H with ⟨h1,H⟩|⟨h1,H⟩
 ·refine AG.yes rfl (by rw [bn h1]; rfl) ?_
  cases H
  exact s2 (mB (k:=nl (rt r1)))
 refine AG.no rfl (by rw [bq h1]; rfl) ?_
 refine sp (sq (s2 (fB 1 D158_1 (k:=lR T104 (k:=fB 1 D158_1 (k:=lR T104 (k:=?_)))))))
 obtain ⟨t2,e3,H⟩:=bo H
 refine cr rfl (laws_eqInt64S.ok e3) (qd (qd qn)) (k:=uN (k:=nl ?_))
 rcases ie H with ⟨h4,H⟩|⟨h4,H⟩
 ·refine an (cn h4) ?_
  cases H
  exact sp (s2 (mB (k:=nl (rt r1))))
 refine ay (cn (bf h4)) ?_
 cases H
 exact s2 (mB (k:=nl (rt r1)))
def laws_eqFaceS.l0:Nat→List S154→List S154→Int→Option (Bool)
 | 0,_,_,_=>none
 | k+1,x0,x1,x5=>if x5 < (x0.length:Int) then (if 0≤x5 then (if x5 < (x1.length:Int) then ((laws_eqFace.f k ((rd154 x0 x5).f0) ((rd154 x0 x5).f1) ((rd154 x1 x5).f0) ((rd154 x1 x5).f1)).bind fun t5=>(if t5=true then (laws_eqFaceS.l0 k x0 x1 (wrap64 (x5+1))) else (some false))) else (none)) else (none)) else (some true)
def laws_eqFaceS.f (k:Nat) (l0 l1:List S154):Option (Bool):=if (l0.length:Int)=(l1.length:Int) then (laws_eqFaceS.l0 k l0 l1 0) else (some false)
theorem laws_eqFaceS.ok {k:Nat} {l0 l1:List S154} {r:Bool} (H:laws_eqFaceS.f k l0 l1=some r):OkF Tryz.prog 65 [vR 158 (l0.map c154),vR 158 (l1.map c154)] [] (vB r) []:=by
 unfold laws_eqFaceS.f at H
 refine o1 27 4 Tryz.func65 fun w0 S=>?_
 refine s2 (mB (k:=nl (sq (s2 (mR (k:=jl Tryz.underlying38 (k:=mR (k:=jl Tryz.underlying38 (k:=iNe (k:=nl ?_))))))))))
 rcases ei H with ⟨h1,H⟩|⟨h1,H⟩
 ·refine ay (nn h1) ?_
  cases H
  exact s2 (mB (k:=nl (rt r1)))
 refine an (nq h1) ?_
 refine sp (sq (s2 (mI (k:=nl (bk (lp ?_))))))
 obtain ⟨K0,hK0,gK0⟩:=kk k
 refine AGr.canon id (AGr.loopI (n:=k) (fun k s=>k≤K0∧∃ x0 x1 x5,laws_eqFaceS.l0 k x0 x1 x5=some r∧s=St.of [(0,vR 158 (x0.map c154)),(1,vR 158 (x1.map c154)),(5,vI x5)] []) ⟨hK0,_,_,_,H,rfl⟩ ?_ ?_) ⟨rfl,rfl,rfl,trivial⟩ trivial rfl
 ·rintro _ ⟨_,_,_,_,H,_⟩
  cases H
 clear H hK0
 rintro k ih0 _ ⟨hK0,x0,x1,x5,H,rfl⟩
 unfold laws_eqFaceS.l0 at H
 refine sq (s2 (mI (k:=mR (k:=jl Tryz.underlying38 (k:=iL (k:=nl ?_))))))
 rcases ei H with ⟨h2,H⟩|⟨h2,H⟩
 ·refine an (df h2) ?_
  cases H
  exact ex (s2 (mB (k:=nl (rt r1))))
 refine ay (dt h2) ?_
 refine sp (sq (bk (s2 (mR (k:=mI (k:=?_))))))
 obtain ⟨h3,H⟩:=io H
 refine ixx ⟨h3,h2⟩ T158 Tryz.underlying38 (R154 h3 h2) (k:=oP T158 (k:=mR (k:=mI (k:=?_))))
 obtain ⟨h4,H⟩:=io H
 refine ixx ⟨h3,h4⟩ T158 Tryz.underlying38 (R154 h3 h4) (k:=oP T158 (k:=?_))
 obtain ⟨t5,e6,H⟩:=bo H
 refine cr rfl (laws_eqFace.ok e6) (qg (qg qn)) (k:=uN (k:=?_))
 refine RA.nil (fun _=>by kernel_rfl) ?_
 rcases ei H with ⟨h7,H⟩|⟨h7,H⟩
 ·refine ay (cn (bf h7)) ?_
  cases H
  exact s2 (mB (k:=nl (rt r1)))
 refine an (cn h7) ?_
 refine sp (rg (mI (k:=iA (k:=mI (k:=nl ?_)))))
 exact AGr.canon id (ih0 _ (by omega) _ ⟨by omega,_,_,_,H,rfl⟩) ⟨rfl,rfl,rfl,trivial⟩ trivial rfl
def laws_eqDrawing.f (k:Nat) (a0_0 a0_1:Int) (l0_2:List S142) (l0_3:List S154) (a1_0 a1_1:Int) (l1_2:List S142) (l1_3:List S154):Option (Bool):=if a0_0=a1_0 then (if a0_1=a1_1 then ((laws_eqPointS.f k l0_2 l1_2).bind fun t3=>(if t3=true then ((laws_eqFaceS.f k l0_3 l1_3).bind fun t6=>(if t6=true then (some true) else (some false))) else (some false))) else (some false)) else (some false)
theorem laws_eqDrawing.ok {k:Nat} {a0_0 a0_1:Int} {l0_2:List S142} {l0_3:List S154} {a1_0 a1_1:Int} {l1_2:List S142} {l1_3:List S154} {r:Bool} (H:laws_eqDrawing.f k a0_0 a0_1 l0_2 l0_3 a1_0 a1_1 l1_2 l1_3=some r):OkF Tryz.prog 33 [.agg [cI a0_0,cI a0_1,.d (.row 143 (l0_2.map c142)),.d (.row 158 (l0_3.map c154))],.agg [cI a1_0,cI a1_1,.d (.row 143 (l1_2.map c142)),.d (.row 158 (l1_3.map c154))]] [] (vB r) []:=by
 unfold laws_eqDrawing.f at H
 refine o1 27 4 Tryz.func33 fun w0 S=>?_
 refine s2 (jb 200 (k:=jb 201 (k:=mB (k:=nl (sq (s2 (fB 0 D40_0 (k:=lI T2 (k:=fB 0 D40_0 (k:=lI T2 (k:=iNe (k:=nl ?_))))))))))))
 rcases ei H with ⟨h1,H⟩|⟨h1,H⟩
 ·refine ay (nn h1) ?_
  cases H
  exact s2 (mB (k:=nl (rt r1)))
 refine an (nq h1) ?_
 refine sp (sq (s2 (fB 1 D40_1 (k:=lI T2 (k:=fB 1 D40_1 (k:=lI T2 (k:=iNe (k:=nl ?_))))))))
 rcases ei H with ⟨h2,H⟩|⟨h2,H⟩
 ·refine ay (nn h2) ?_
  cases H
  exact s2 (mB (k:=nl (rt r1)))
 refine an (nq h2) ?_
 refine sp (sq (s2 (fB 2 D40_2 (k:=lR T37 (k:=fB 2 D40_2 (k:=lR T37 (k:=?_)))))))
 obtain ⟨t3,e4,H⟩:=bo H
 refine cr rfl (laws_eqPointS.ok e4) (qd (qd qn)) (k:=uN (k:=nl ?_))
 rcases ei H with ⟨h5,H⟩|⟨h5,H⟩
 ·refine ay (cn (bf h5)) ?_
  cases H
  exact s2 (mB (k:=nl (rt r1)))
 refine an (cn h5) ?_
 refine sp (sq (s2 (fB 3 D40_3 (k:=lR T38 (k:=fB 3 D40_3 (k:=lR T38 (k:=?_)))))))
 obtain ⟨t6,e7,H⟩:=bo H
 refine cr rfl (laws_eqFaceS.ok e7) (qd (qd qn)) (k:=uN (k:=nl ?_))
 rcases ie H with ⟨h8,H⟩|⟨h8,H⟩
 ·refine an (cn h8) ?_
  cases H
  exact sp (s2 (mB (k:=nl (rt r1))))
 refine ay (cn (bf h8)) ?_
 cases H
 exact s2 (mB (k:=nl (rt r1)))
def laws_eqVeneer.f (a0_0:ByteArray) (a0_1 a0_2:Int) (a1_0:ByteArray) (a1_1 a1_2:Int):Option (Bool):=if a0_0.toList=a1_0.toList then (if a0_1=a1_1 then (if a0_2=a1_2 then (some true) else (some false)) else (some false)) else (some false)
theorem laws_eqVeneer.ok {a0_0:ByteArray} {a0_1 a0_2:Int} {a1_0:ByteArray} {a1_1 a1_2:Int} {r:Bool} (H:laws_eqVeneer.f a0_0 a0_1 a0_2 a1_0 a1_1 a1_2=some r):OkF Tryz.prog 66 [.agg [cS a0_0,cI a0_1,cI a0_2],.agg [cS a1_0,cI a1_1,cI a1_2]] [] (vB r) []:=by
 unfold laws_eqVeneer.f at H
 refine o1 20 4 Tryz.func66 fun w0 S=>?_
 refine s2 (jb 200 (k:=jb 201 (k:=mB (k:=nl (sq (s2 (fB 0 D76_0 (k:=lv (vS _) T9 (k:=fB 0 D76_0 (k:=lv (vS _) T9 (k:=bB (!(a0_0.toList == a1_0.toList)) (k:=nl ?_))))))))))))
 rcases ei H with ⟨h1,H⟩|⟨h1,H⟩
 ·refine AG.yes rfl (by rw [bn h1]; rfl) ?_
  cases H
  exact s2 (mB (k:=nl (rt r1)))
 refine AG.no rfl (by rw [bq h1]; rfl) ?_
 refine sp (sq (s2 (fB 1 D76_1 (k:=lI T2 (k:=fB 1 D76_1 (k:=lI T2 (k:=iNe (k:=nl ?_))))))))
 rcases ei H with ⟨h2,H⟩|⟨h2,H⟩
 ·refine ay (nn h2) ?_
  cases H
  exact s2 (mB (k:=nl (rt r1)))
 refine an (nq h2) ?_
 refine sp (sq (s2 (fB 2 D76_2 (k:=lI T2 (k:=fB 2 D76_2 (k:=lI T2 (k:=iNe (k:=nl ?_))))))))
 rcases ei H with ⟨h3,H⟩|⟨h3,H⟩
 ·refine ay (nn h3) ?_
  cases H
  exact s2 (mB (k:=nl (rt r1)))
 refine an (nq h3) ?_
 cases H
 exact sp (s2 (mB (k:=nl (rt r1))))
def laws_eqVeneerS.l0:Nat→List S66→List S66→Int→Option (Bool)
 | 0,_,_,_=>none
 | k+1,x0,x1,x5=>if x5 < (x0.length:Int) then (if 0≤x5 then (if x5 < (x1.length:Int) then ((laws_eqVeneer.f ((rd66 x0 x5).f0) ((rd66 x0 x5).f1) ((rd66 x0 x5).f2) ((rd66 x1 x5).f0) ((rd66 x1 x5).f1) ((rd66 x1 x5).f2)).bind fun t5=>(if t5=true then (laws_eqVeneerS.l0 k x0 x1 (wrap64 (x5+1))) else (some false))) else (none)) else (none)) else (some true)
def laws_eqVeneerS.f (k:Nat) (l0 l1:List S66):Option (Bool):=if (l0.length:Int)=(l1.length:Int) then (laws_eqVeneerS.l0 k l0 l1 0) else (some false)
theorem laws_eqVeneerS.ok {k:Nat} {l0 l1:List S66} {r:Bool} (H:laws_eqVeneerS.f k l0 l1=some r):OkF Tryz.prog 34 [vR 76 (l0.map c66),vR 76 (l1.map c66)] [] (vB r) []:=by
 unfold laws_eqVeneerS.f at H
 refine o1 27 4 Tryz.func34 fun w0 S=>?_
 refine s2 (mB (k:=nl (sq (s2 (mR (k:=jl Tryz.underlying41 (k:=mR (k:=jl Tryz.underlying41 (k:=iNe (k:=nl ?_))))))))))
 rcases ei H with ⟨h1,H⟩|⟨h1,H⟩
 ·refine ay (nn h1) ?_
  cases H
  exact s2 (mB (k:=nl (rt r1)))
 refine an (nq h1) ?_
 refine sp (sq (s2 (mI (k:=nl (bk (lp ?_))))))
 obtain ⟨K0,hK0,gK0⟩:=kk k
 refine AGr.canon id (AGr.loopI (n:=k) (fun k s=>k≤K0∧∃ x0 x1 x5,laws_eqVeneerS.l0 k x0 x1 x5=some r∧s=St.of [(0,vR 76 (x0.map c66)),(1,vR 76 (x1.map c66)),(5,vI x5)] []) ⟨hK0,_,_,_,H,rfl⟩ ?_ ?_) ⟨rfl,rfl,rfl,trivial⟩ trivial rfl
 ·rintro _ ⟨_,_,_,_,H,_⟩
  cases H
 clear H hK0
 rintro k ih0 _ ⟨hK0,x0,x1,x5,H,rfl⟩
 unfold laws_eqVeneerS.l0 at H
 refine sq (s2 (mI (k:=mR (k:=jl Tryz.underlying41 (k:=iL (k:=nl ?_))))))
 rcases ei H with ⟨h2,H⟩|⟨h2,H⟩
 ·refine an (df h2) ?_
  cases H
  exact ex (s2 (mB (k:=nl (rt r1))))
 refine ay (dt h2) ?_
 refine sp (sq (bk (s2 (mR (k:=mI (k:=?_))))))
 obtain ⟨h3,H⟩:=io H
 refine ixx ⟨h3,h2⟩ T76 Tryz.underlying41 (R66 h3 h2) (k:=ov (.agg [_,_,_]) T76 (k:=mR (k:=mI (k:=?_))))
 obtain ⟨h4,H⟩:=io H
 refine ixx ⟨h3,h4⟩ T76 Tryz.underlying41 (R66 h3 h4) (k:=ov (.agg [_,_,_]) T76 (k:=?_))
 obtain ⟨t5,e6,H⟩:=bo H
 refine cr rfl (laws_eqVeneer.ok e6) (qg (qg qn)) (k:=uN (k:=?_))
 refine RA.nil (fun _=>by kernel_rfl) ?_
 rcases ei H with ⟨h7,H⟩|⟨h7,H⟩
 ·refine ay (cn (bf h7)) ?_
  cases H
  exact s2 (mB (k:=nl (rt r1)))
 refine an (cn h7) ?_
 refine sp (rg (mI (k:=iA (k:=mI (k:=nl ?_)))))
 exact AGr.canon id (ih0 _ (by omega) _ ⟨by omega,_,_,_,H,rfl⟩) ⟨rfl,rfl,rfl,trivial⟩ trivial rfl
def laws_eqPicture.f (k:Nat) (a0_0 a0_1:Int) (l0_2:List S142) (l0_3:List S154) (l0_4:List S66) (a1_0 a1_1:Int) (l1_2:List S142) (l1_3:List S154) (l1_4:List S66):Option (Bool):=(laws_eqDrawing.f k a0_0 a0_1 l0_2 l0_3 a1_0 a1_1 l1_2 l1_3).bind fun t1=>(if t1=true then ((laws_eqVeneerS.f k l0_4 l1_4).bind fun t4=>(if t4=true then (some true) else (some false))) else (some false))
theorem laws_eqPicture.ok {k:Nat} {a0_0 a0_1:Int} {l0_2:List S142} {l0_3:List S154} {l0_4:List S66} {a1_0 a1_1:Int} {l1_2:List S142} {l1_3:List S154} {l1_4:List S66} {r:Bool} (H:laws_eqPicture.f k a0_0 a0_1 l0_2 l0_3 l0_4 a1_0 a1_1 l1_2 l1_3 l1_4=some r):OkF Tryz.prog 14 [.agg [cI a0_0,cI a0_1,.d (.row 143 (l0_2.map c142)),.d (.row 158 (l0_3.map c154)),.d (.row 76 (l0_4.map c66))],.agg [cI a1_0,cI a1_1,.d (.row 143 (l1_2.map c142)),.d (.row 158 (l1_3.map c154)),.d (.row 76 (l1_4.map c66))]] [] (vB r) []:=by
 unfold laws_eqPicture.f at H
 refine o1 17 4 Tryz.func14 fun w0 S=>?_
 refine s2 (jb 200 (k:=jb 201 (k:=mB (k:=nl (sq (s2 (fB 0 D43_0 (k:=lv (.agg [_,_,_,_]) T40 (k:=fB 0 D43_0 (k:=lv (.agg [_,_,_,_]) T40 (k:=?_)))))))))))
 obtain ⟨t1,e2,H⟩:=bo H
 refine cr rfl (laws_eqDrawing.ok e2) (qg (qg qn)) (k:=uN (k:=nl ?_))
 rcases ei H with ⟨h3,H⟩|⟨h3,H⟩
 ·refine ay (cn (bf h3)) ?_
  cases H
  exact s2 (mB (k:=nl (rt r1)))
 refine an (cn h3) ?_
 refine sp (sq (s2 (fB 4 D43_1 (k:=lR T41 (k:=fB 4 D43_1 (k:=lR T41 (k:=?_)))))))
 obtain ⟨t4,e5,H⟩:=bo H
 refine cr rfl (laws_eqVeneerS.ok e5) (qd (qd qn)) (k:=uN (k:=nl ?_))
 rcases ie H with ⟨h6,H⟩|⟨h6,H⟩
 ·refine an (cn h6) ?_
  cases H
  exact sp (s2 (mB (k:=nl (rt r1))))
 refine ay (cn (bf h6)) ?_
 cases H
 exact s2 (mB (k:=nl (rt r1)))
def laws_eqBox.f (a0_0 a0_1 a0_2 a0_3 a1_0 a1_1 a1_2 a1_3:Int):Option (Bool):=if a0_0=a1_0 then (if a0_1=a1_1 then (if a0_2=a1_2 then (if a0_3=a1_3 then (some true) else (some false)) else (some false)) else (some false)) else (some false)
theorem laws_eqBox.ok {a0_0 a0_1 a0_2 a0_3 a1_0 a1_1 a1_2 a1_3:Int} {r:Bool} (H:laws_eqBox.f a0_0 a0_1 a0_2 a0_3 a1_0 a1_1 a1_2 a1_3=some r):OkF Tryz.prog 99 [.agg [cI a0_0,cI a0_1,cI a0_2,cI a0_3],.agg [cI a1_0,cI a1_1,cI a1_2,cI a1_3]] [] (vB r) []:=by
 unfold laws_eqBox.f at H
 refine o1 25 4 Tryz.func99 fun w0 S=>?_
 refine s2 (jb 200 (k:=jb 201 (k:=mB (k:=nl (sq (s2 (fB 0 D147_0 (k:=lI T2 (k:=fB 0 D147_0 (k:=lI T2 (k:=iNe (k:=nl ?_))))))))))))
 rcases ei H with ⟨h1,H⟩|⟨h1,H⟩
 ·refine ay (nn h1) ?_
  cases H
  exact s2 (mB (k:=nl (rt r1)))
 refine an (nq h1) ?_
 refine sp (sq (s2 (fB 1 D147_1 (k:=lI T2 (k:=fB 1 D147_1 (k:=lI T2 (k:=iNe (k:=nl ?_))))))))
 rcases ei H with ⟨h2,H⟩|⟨h2,H⟩
 ·refine ay (nn h2) ?_
  cases H
  exact s2 (mB (k:=nl (rt r1)))
 refine an (nq h2) ?_
 refine sp (sq (s2 (fB 2 D147_2 (k:=lI T2 (k:=fB 2 D147_2 (k:=lI T2 (k:=iNe (k:=nl ?_))))))))
 rcases ei H with ⟨h3,H⟩|⟨h3,H⟩
 ·refine ay (nn h3) ?_
  cases H
  exact s2 (mB (k:=nl (rt r1)))
 refine an (nq h3) ?_
 refine sp (sq (s2 (fB 3 D147_3 (k:=lI T2 (k:=fB 3 D147_3 (k:=lI T2 (k:=iNe (k:=nl ?_))))))))
 rcases ei H with ⟨h4,H⟩|⟨h4,H⟩
 ·refine ay (nn h4) ?_
  cases H
  exact s2 (mB (k:=nl (rt r1)))
 refine an (nq h4) ?_
 cases H
 exact sp (s2 (mB (k:=nl (rt r1))))
def laws_eqBoxS.l0:Nat→List S146→List S146→Int→Option (Bool)
 | 0,_,_,_=>none
 | k+1,x0,x1,x5=>if x5 < (x0.length:Int) then (if 0≤x5 then (if x5 < (x1.length:Int) then ((laws_eqBox.f ((rd146 x0 x5).f0) ((rd146 x0 x5).f1) ((rd146 x0 x5).f2) ((rd146 x0 x5).f3) ((rd146 x1 x5).f0) ((rd146 x1 x5).f1) ((rd146 x1 x5).f2) ((rd146 x1 x5).f3)).bind fun t5=>(if t5=true then (laws_eqBoxS.l0 k x0 x1 (wrap64 (x5+1))) else (some false))) else (none)) else (none)) else (some true)
def laws_eqBoxS.f (k:Nat) (l0 l1:List S146):Option (Bool):=if (l0.length:Int)=(l1.length:Int) then (laws_eqBoxS.l0 k l0 l1 0) else (some false)
theorem laws_eqBoxS.ok {k:Nat} {l0 l1:List S146} {r:Bool} (H:laws_eqBoxS.f k l0 l1=some r):OkF Tryz.prog 67 [vR 147 (l0.map c146),vR 147 (l1.map c146)] [] (vB r) []:=by
 unfold laws_eqBoxS.f at H
 refine o1 27 4 Tryz.func67 fun w0 S=>?_
 refine s2 (mB (k:=nl (sq (s2 (mR (k:=jl Tryz.underlying77 (k:=mR (k:=jl Tryz.underlying77 (k:=iNe (k:=nl ?_))))))))))
 rcases ei H with ⟨h1,H⟩|⟨h1,H⟩
 ·refine ay (nn h1) ?_
  cases H
  exact s2 (mB (k:=nl (rt r1)))
 refine an (nq h1) ?_
 refine sp (sq (s2 (mI (k:=nl (bk (lp ?_))))))
 obtain ⟨K0,hK0,gK0⟩:=kk k
 refine AGr.canon id (AGr.loopI (n:=k) (fun k s=>k≤K0∧∃ x0 x1 x5,laws_eqBoxS.l0 k x0 x1 x5=some r∧s=St.of [(0,vR 147 (x0.map c146)),(1,vR 147 (x1.map c146)),(5,vI x5)] []) ⟨hK0,_,_,_,H,rfl⟩ ?_ ?_) ⟨rfl,rfl,rfl,trivial⟩ trivial rfl
 ·rintro _ ⟨_,_,_,_,H,_⟩
  cases H
 clear H hK0
 rintro k ih0 _ ⟨hK0,x0,x1,x5,H,rfl⟩
 unfold laws_eqBoxS.l0 at H
 refine sq (s2 (mI (k:=mR (k:=jl Tryz.underlying77 (k:=iL (k:=nl ?_))))))
 rcases ei H with ⟨h2,H⟩|⟨h2,H⟩
 ·refine an (df h2) ?_
  cases H
  exact ex (s2 (mB (k:=nl (rt r1))))
 refine ay (dt h2) ?_
 refine sp (sq (bk (s2 (mR (k:=mI (k:=?_))))))
 obtain ⟨h3,H⟩:=io H
 refine ixx ⟨h3,h2⟩ T147 Tryz.underlying77 (R146 h3 h2) (k:=ov (.agg [_,_,_,_]) T147 (k:=mR (k:=mI (k:=?_))))
 obtain ⟨h4,H⟩:=io H
 refine ixx ⟨h3,h4⟩ T147 Tryz.underlying77 (R146 h3 h4) (k:=ov (.agg [_,_,_,_]) T147 (k:=?_))
 obtain ⟨t5,e6,H⟩:=bo H
 refine cr rfl (laws_eqBox.ok e6) (qg (qg qn)) (k:=uN (k:=?_))
 refine RA.nil (fun _=>by kernel_rfl) ?_
 rcases ei H with ⟨h7,H⟩|⟨h7,H⟩
 ·refine ay (cn (bf h7)) ?_
  cases H
  exact s2 (mB (k:=nl (rt r1)))
 refine an (cn h7) ?_
 refine sp (rg (mI (k:=iA (k:=mI (k:=nl ?_)))))
 exact AGr.canon id (ih0 _ (by omega) _ ⟨by omega,_,_,_,H,rfl⟩) ⟨rfl,rfl,rfl,trivial⟩ trivial rfl
def laws_eqLeaf.f (k:Nat) (a0_0 a0_1:ByteArray) (a0_2:Int) (a0_3:ByteArray) (a0_4 a0_5 a0_6 a0_7:Int) (l0_8:List S146) (a1_0 a1_1:ByteArray) (a1_2:Int) (a1_3:ByteArray) (a1_4 a1_5 a1_6 a1_7:Int) (l1_8:List S146):Option (Bool):=if a0_0.toList=a1_0.toList then (if a0_1.toList=a1_1.toList then (if a0_2=a1_2 then ((laws_eqVeneer.f a0_3 a0_4 a0_5 a1_3 a1_4 a1_5).bind fun t4=>(if t4=true then (if a0_6=a1_6 then (if a0_7=a1_7 then ((laws_eqBoxS.f k l0_8 l1_8).bind fun t9=>(if t9=true then (some true) else (some false))) else (some false)) else (some false)) else (some false))) else (some false)) else (some false)) else (some false)
theorem laws_eqLeaf.ok {k:Nat} {a0_0 a0_1:ByteArray} {a0_2:Int} {a0_3:ByteArray} {a0_4 a0_5 a0_6 a0_7:Int} {l0_8:List S146} {a1_0 a1_1:ByteArray} {a1_2:Int} {a1_3:ByteArray} {a1_4 a1_5 a1_6 a1_7:Int} {l1_8:List S146} {r:Bool} (H:laws_eqLeaf.f k a0_0 a0_1 a0_2 a0_3 a0_4 a0_5 a0_6 a0_7 l0_8 a1_0 a1_1 a1_2 a1_3 a1_4 a1_5 a1_6 a1_7 l1_8=some r):OkF Tryz.prog 35 [.agg [cS a0_0,cS a0_1,cI a0_2,cS a0_3,cI a0_4,cI a0_5,cI a0_6,cI a0_7,.d (.row 147 (l0_8.map c146))],.agg [cS a1_0,cS a1_1,cI a1_2,cS a1_3,cI a1_4,cI a1_5,cI a1_6,cI a1_7,.d (.row 147 (l1_8.map c146))]] [] (vB r) []:=by
 unfold laws_eqLeaf.f at H
 refine o1 42 4 Tryz.func35 fun w0 S=>?_
 refine s2 (jb 200 (k:=jb 201 (k:=mB (k:=nl (sq (s2 (fB 0 D79_0 (k:=lv (vS _) T9 (k:=fB 0 D79_0 (k:=lv (vS _) T9 (k:=bB (!(a0_0.toList == a1_0.toList)) (k:=nl ?_))))))))))))
 rcases ei H with ⟨h1,H⟩|⟨h1,H⟩
 ·refine AG.yes rfl (by rw [bn h1]; rfl) ?_
  cases H
  exact s2 (mB (k:=nl (rt r1)))
 refine AG.no rfl (by rw [bq h1]; rfl) ?_
 refine sp (sq (s2 (fB 1 D79_1 (k:=lv (vS _) T9 (k:=fB 1 D79_1 (k:=lv (vS _) T9 (k:=bB (!(a0_1.toList == a1_1.toList)) (k:=nl ?_))))))))
 rcases ei H with ⟨h2,H⟩|⟨h2,H⟩
 ·refine AG.yes rfl (by rw [bn h2]; rfl) ?_
  cases H
  exact s2 (mB (k:=nl (rt r1)))
 refine AG.no rfl (by rw [bq h2]; rfl) ?_
 refine sp (sq (s2 (fB 2 D79_2 (k:=lI T2 (k:=fB 2 D79_2 (k:=lI T2 (k:=iNe (k:=nl ?_))))))))
 rcases ei H with ⟨h3,H⟩|⟨h3,H⟩
 ·refine ay (nn h3) ?_
  cases H
  exact s2 (mB (k:=nl (rt r1)))
 refine an (nq h3) ?_
 refine sp (sq (s2 (fB 3 D79_3 (k:=lv (.agg [_,_,_]) T76 (k:=fB 3 D79_3 (k:=lv (.agg [_,_,_]) T76 (k:=?_)))))))
 obtain ⟨t4,e5,H⟩:=bo H
 refine cr rfl (laws_eqVeneer.ok e5) (qg (qg qn)) (k:=uN (k:=nl ?_))
 rcases ei H with ⟨h6,H⟩|⟨h6,H⟩
 ·refine ay (cn (bf h6)) ?_
  cases H
  exact s2 (mB (k:=nl (rt r1)))
 refine an (cn h6) ?_
 refine sp (sq (s2 (fB 6 D79_4 (k:=lI T2 (k:=fB 6 D79_4 (k:=lI T2 (k:=iNe (k:=nl ?_))))))))
 rcases ei H with ⟨h7,H⟩|⟨h7,H⟩
 ·refine ay (nn h7) ?_
  cases H
  exact s2 (mB (k:=nl (rt r1)))
 refine an (nq h7) ?_
 refine sp (sq (s2 (fB 7 D79_5 (k:=lI T2 (k:=fB 7 D79_5 (k:=lI T2 (k:=iNe (k:=nl ?_))))))))
 rcases ei H with ⟨h8,H⟩|⟨h8,H⟩
 ·refine ay (nn h8) ?_
  cases H
  exact s2 (mB (k:=nl (rt r1)))
 refine an (nq h8) ?_
 refine sp (sq (s2 (fB 8 D79_6 (k:=lR T77 (k:=fB 8 D79_6 (k:=lR T77 (k:=?_)))))))
 obtain ⟨t9,e10,H⟩:=bo H
 refine cr rfl (laws_eqBoxS.ok e10) (qd (qd qn)) (k:=uN (k:=nl ?_))
 rcases ie H with ⟨h11,H⟩|⟨h11,H⟩
 ·refine an (cn h11) ?_
  cases H
  exact sp (s2 (mB (k:=nl (rt r1))))
 refine ay (cn (bf h11)) ?_
 cases H
 exact s2 (mB (k:=nl (rt r1)))
def laws_eqLeafS.l0:Nat→List S78→List S78→Int→Option (Bool)
 | 0,_,_,_=>none
 | k+1,x0,x1,x5=>if x5 < (x0.length:Int) then (if 0≤x5 then (if x5 < (x1.length:Int) then ((laws_eqLeaf.f k ((rd78 x0 x5).f0) ((rd78 x0 x5).f1) ((rd78 x0 x5).f2) ((rd78 x0 x5).f3.f0) ((rd78 x0 x5).f3.f1) ((rd78 x0 x5).f3.f2) ((rd78 x0 x5).f4) ((rd78 x0 x5).f5) ((rd78 x0 x5).f6) ((rd78 x1 x5).f0) ((rd78 x1 x5).f1) ((rd78 x1 x5).f2) ((rd78 x1 x5).f3.f0) ((rd78 x1 x5).f3.f1) ((rd78 x1 x5).f3.f2) ((rd78 x1 x5).f4) ((rd78 x1 x5).f5) ((rd78 x1 x5).f6)).bind fun t5=>(if t5=true then (laws_eqLeafS.l0 k x0 x1 (wrap64 (x5+1))) else (some false))) else (none)) else (none)) else (some true)
def laws_eqLeafS.f (k:Nat) (l0 l1:List S78):Option (Bool):=if (l0.length:Int)=(l1.length:Int) then (laws_eqLeafS.l0 k l0 l1 0) else (some false)
theorem laws_eqLeafS.ok {k:Nat} {l0 l1:List S78} {r:Bool} (H:laws_eqLeafS.f k l0 l1=some r):OkF Tryz.prog 15 [vR 79 (l0.map c78),vR 79 (l1.map c78)] [] (vB r) []:=by
 unfold laws_eqLeafS.f at H
 refine o1 27 4 Tryz.func15 fun w0 S=>?_
 refine s2 (mB (k:=nl (sq (s2 (mR (k:=jl Tryz.underlying45 (k:=mR (k:=jl Tryz.underlying45 (k:=iNe (k:=nl ?_))))))))))
 rcases ei H with ⟨h1,H⟩|⟨h1,H⟩
 ·refine ay (nn h1) ?_
  cases H
  exact s2 (mB (k:=nl (rt r1)))
 refine an (nq h1) ?_
 refine sp (sq (s2 (mI (k:=nl (bk (lp ?_))))))
 obtain ⟨K0,hK0,gK0⟩:=kk k
 refine AGr.canon id (AGr.loopI (n:=k) (fun k s=>k≤K0∧∃ x0 x1 x5,laws_eqLeafS.l0 k x0 x1 x5=some r∧s=St.of [(0,vR 79 (x0.map c78)),(1,vR 79 (x1.map c78)),(5,vI x5)] []) ⟨hK0,_,_,_,H,rfl⟩ ?_ ?_) ⟨rfl,rfl,rfl,trivial⟩ trivial rfl
 ·rintro _ ⟨_,_,_,_,H,_⟩
  cases H
 clear H hK0
 rintro k ih0 _ ⟨hK0,x0,x1,x5,H,rfl⟩
 unfold laws_eqLeafS.l0 at H
 refine sq (s2 (mI (k:=mR (k:=jl Tryz.underlying45 (k:=iL (k:=nl ?_))))))
 rcases ei H with ⟨h2,H⟩|⟨h2,H⟩
 ·refine an (df h2) ?_
  cases H
  exact ex (s2 (mB (k:=nl (rt r1))))
 refine ay (dt h2) ?_
 refine sp (sq (bk (s2 (mR (k:=mI (k:=?_))))))
 obtain ⟨h3,H⟩:=io H
 refine ixx ⟨h3,h2⟩ T79 Tryz.underlying45 (R78 h3 h2) (k:=ov (.agg [_,_,_,_,_,_,_,_,_]) T79 (k:=mR (k:=mI (k:=?_))))
 obtain ⟨h4,H⟩:=io H
 refine ixx ⟨h3,h4⟩ T79 Tryz.underlying45 (R78 h3 h4) (k:=ov (.agg [_,_,_,_,_,_,_,_,_]) T79 (k:=?_))
 obtain ⟨t5,e6,H⟩:=bo H
 refine cr rfl (laws_eqLeaf.ok e6) (qg (qg qn)) (k:=uN (k:=?_))
 refine RA.nil (fun _=>by kernel_rfl) ?_
 rcases ei H with ⟨h7,H⟩|⟨h7,H⟩
 ·refine ay (cn (bf h7)) ?_
  cases H
  exact s2 (mB (k:=nl (rt r1)))
 refine an (cn h7) ?_
 refine sp (rg (mI (k:=iA (k:=mI (k:=nl ?_)))))
 exact AGr.canon id (ih0 _ (by omega) _ ⟨by omega,_,_,_,H,rfl⟩) ⟨rfl,rfl,rfl,trivial⟩ trivial rfl
def laws_eqPlacement.f (a0_0 a0_1 a0_2 a0_3 a0_4 a1_0 a1_1 a1_2 a1_3 a1_4:Int):Option (Bool):=if a0_0=a1_0 then (if a0_1=a1_1 then (if a0_2=a1_2 then (if a0_3=a1_3 then (if a0_4=a1_4 then (some true) else (some false)) else (some false)) else (some false)) else (some false)) else (some false)
theorem laws_eqPlacement.ok {a0_0 a0_1 a0_2 a0_3 a0_4 a1_0 a1_1 a1_2 a1_3 a1_4:Int} {r:Bool} (H:laws_eqPlacement.f a0_0 a0_1 a0_2 a0_3 a0_4 a1_0 a1_1 a1_2 a1_3 a1_4=some r):OkF Tryz.prog 36 [.agg [cI a0_0,cI a0_1,cI a0_2,cI a0_3,cI a0_4],.agg [cI a1_0,cI a1_1,cI a1_2,cI a1_3,cI a1_4]] [] (vB r) []:=by
 unfold laws_eqPlacement.f at H
 refine o1 30 4 Tryz.func36 fun w0 S=>?_
 refine s2 (jb 200 (k:=jb 201 (k:=mB (k:=nl (sq (s2 (fB 0 D82_0 (k:=lI T2 (k:=fB 0 D82_0 (k:=lI T2 (k:=iNe (k:=nl ?_))))))))))))
 rcases ei H with ⟨h1,H⟩|⟨h1,H⟩
 ·refine ay (nn h1) ?_
  cases H
  exact s2 (mB (k:=nl (rt r1)))
 refine an (nq h1) ?_
 refine sp (sq (s2 (fB 1 D82_1 (k:=lI T2 (k:=fB 1 D82_1 (k:=lI T2 (k:=iNe (k:=nl ?_))))))))
 rcases ei H with ⟨h2,H⟩|⟨h2,H⟩
 ·refine ay (nn h2) ?_
  cases H
  exact s2 (mB (k:=nl (rt r1)))
 refine an (nq h2) ?_
 refine sp (sq (s2 (fB 2 D82_2 (k:=lI T2 (k:=fB 2 D82_2 (k:=lI T2 (k:=iNe (k:=nl ?_))))))))
 rcases ei H with ⟨h3,H⟩|⟨h3,H⟩
 ·refine ay (nn h3) ?_
  cases H
  exact s2 (mB (k:=nl (rt r1)))
 refine an (nq h3) ?_
 refine sp (sq (s2 (fB 3 D82_3 (k:=lI T2 (k:=fB 3 D82_3 (k:=lI T2 (k:=iNe (k:=nl ?_))))))))
 rcases ei H with ⟨h4,H⟩|⟨h4,H⟩
 ·refine ay (nn h4) ?_
  cases H
  exact s2 (mB (k:=nl (rt r1)))
 refine an (nq h4) ?_
 refine sp (sq (s2 (fB 4 D82_4 (k:=lI T2 (k:=fB 4 D82_4 (k:=lI T2 (k:=iNe (k:=nl ?_))))))))
 rcases ei H with ⟨h5,H⟩|⟨h5,H⟩
 ·refine ay (nn h5) ?_
  cases H
  exact s2 (mB (k:=nl (rt r1)))
 refine an (nq h5) ?_
 cases H
 exact sp (s2 (mB (k:=nl (rt r1))))
def laws_eqPlacementS.l0:Nat→List S81→List S81→Int→Option (Bool)
 | 0,_,_,_=>none
 | k+1,x0,x1,x5=>if x5 < (x0.length:Int) then (if 0≤x5 then (if x5 < (x1.length:Int) then ((laws_eqPlacement.f ((rd81 x0 x5).f0) ((rd81 x0 x5).f1) ((rd81 x0 x5).f2) ((rd81 x0 x5).f3) ((rd81 x0 x5).f4) ((rd81 x1 x5).f0) ((rd81 x1 x5).f1) ((rd81 x1 x5).f2) ((rd81 x1 x5).f3) ((rd81 x1 x5).f4)).bind fun t5=>(if t5=true then (laws_eqPlacementS.l0 k x0 x1 (wrap64 (x5+1))) else (some false))) else (none)) else (none)) else (some true)
def laws_eqPlacementS.f (k:Nat) (l0 l1:List S81):Option (Bool):=if (l0.length:Int)=(l1.length:Int) then (laws_eqPlacementS.l0 k l0 l1 0) else (some false)
theorem laws_eqPlacementS.ok {k:Nat} {l0 l1:List S81} {r:Bool} (H:laws_eqPlacementS.f k l0 l1=some r):OkF Tryz.prog 16 [vR 82 (l0.map c81),vR 82 (l1.map c81)] [] (vB r) []:=by
 unfold laws_eqPlacementS.f at H
 refine o1 27 4 Tryz.func16 fun w0 S=>?_
 refine s2 (mB (k:=nl (sq (s2 (mR (k:=jl Tryz.underlying47 (k:=mR (k:=jl Tryz.underlying47 (k:=iNe (k:=nl ?_))))))))))
 rcases ei H with ⟨h1,H⟩|⟨h1,H⟩
 ·refine ay (nn h1) ?_
  cases H
  exact s2 (mB (k:=nl (rt r1)))
 refine an (nq h1) ?_
 refine sp (sq (s2 (mI (k:=nl (bk (lp ?_))))))
 obtain ⟨K0,hK0,gK0⟩:=kk k
 refine AGr.canon id (AGr.loopI (n:=k) (fun k s=>k≤K0∧∃ x0 x1 x5,laws_eqPlacementS.l0 k x0 x1 x5=some r∧s=St.of [(0,vR 82 (x0.map c81)),(1,vR 82 (x1.map c81)),(5,vI x5)] []) ⟨hK0,_,_,_,H,rfl⟩ ?_ ?_) ⟨rfl,rfl,rfl,trivial⟩ trivial rfl
 ·rintro _ ⟨_,_,_,_,H,_⟩
  cases H
 clear H hK0
 rintro k ih0 _ ⟨hK0,x0,x1,x5,H,rfl⟩
 unfold laws_eqPlacementS.l0 at H
 refine sq (s2 (mI (k:=mR (k:=jl Tryz.underlying47 (k:=iL (k:=nl ?_))))))
 rcases ei H with ⟨h2,H⟩|⟨h2,H⟩
 ·refine an (df h2) ?_
  cases H
  exact ex (s2 (mB (k:=nl (rt r1))))
 refine ay (dt h2) ?_
 refine sp (sq (bk (s2 (mR (k:=mI (k:=?_))))))
 obtain ⟨h3,H⟩:=io H
 refine ixx ⟨h3,h2⟩ T82 Tryz.underlying47 (R81 h3 h2) (k:=ov (.agg [_,_,_,_,_]) T82 (k:=mR (k:=mI (k:=?_))))
 obtain ⟨h4,H⟩:=io H
 refine ixx ⟨h3,h4⟩ T82 Tryz.underlying47 (R81 h3 h4) (k:=ov (.agg [_,_,_,_,_]) T82 (k:=?_))
 obtain ⟨t5,e6,H⟩:=bo H
 refine cr rfl (laws_eqPlacement.ok e6) (qg (qg qn)) (k:=uN (k:=?_))
 refine RA.nil (fun _=>by kernel_rfl) ?_
 rcases ei H with ⟨h7,H⟩|⟨h7,H⟩
 ·refine ay (cn (bf h7)) ?_
  cases H
  exact s2 (mB (k:=nl (rt r1)))
 refine an (cn h7) ?_
 refine sp (rg (mI (k:=iA (k:=mI (k:=nl ?_)))))
 exact AGr.canon id (ih0 _ (by omega) _ ⟨by omega,_,_,_,H,rfl⟩) ⟨rfl,rfl,rfl,trivial⟩ trivial rfl
def laws_FnExactIsNesting.f (k:Nat) (a0_0 a0_1:Int) (l0_2:List S142) (l0_3:List S154) (l0_4:List S66) (l1:List S69) (l2:List S81) (a3_0 a3_1 a3_2 a3_3:Int):Option (Bool):=(laws_szPicture.f k a0_0 a0_1 l0_2 l0_3 l0_4 1048576).bind fun t1=>(if t1 < 0 then (some true) else ((laws_szLeafS.f k l1 t1).bind fun t4=>(if t4 < 0 then (some true) else ((laws_szPlacementS.f l2 t4).bind fun t7=>(if t7 < 0 then (some true) else ((laws_toPicture.f k a0_0 a0_1 l0_2 l0_3 l0_4).bind fun bt10=>((laws_toLeafS.f k l1).bind fun t16=>((laws_toPlacementS.f k l2).bind fun t17=>((laws_toRules.f a3_0 a3_1 a3_2 a3_3).bind fun bt19=>((spec_IsNesting.f k bt10.1 bt10.2.1 bt10.2.2.1 bt10.2.2.2.1 bt10.2.2.2.2 t16 t17 bt19.1 bt19.2.1 bt19.2.2.1 bt19.2.2.2).bind fun t24=>((laws_toPicture.f k a0_0 a0_1 l0_2 l0_3 l0_4).bind fun bt26=>((laws_toLeafS.f k l1).bind fun t32=>((laws_toPlacementS.f k l2).bind fun t33=>((laws_toRules.f a3_0 a3_1 a3_2 a3_3).bind fun bt35=>((impl_IsNesting.f k bt26.1 bt26.2.1 bt26.2.2.1 bt26.2.2.2.1 bt26.2.2.2.2 t32 t33 bt35.1 bt35.2.1 bt35.2.2.1 bt35.2.2.2).bind fun t40=>(if (t40 == t24)=true then ((laws_toPicture.f k a0_0 a0_1 l0_2 l0_3 l0_4).bind fun bt43=>((laws_eqPicture.f k bt26.1 bt26.2.1 bt26.2.2.1 bt26.2.2.2.1 bt26.2.2.2.2 bt43.1 bt43.2.1 bt43.2.2.1 bt43.2.2.2.1 bt43.2.2.2.2).bind fun t49=>(if t49=true then ((laws_toLeafS.f k l1).bind fun t52=>((laws_eqLeafS.f k t32 t52).bind fun t53=>(if t53=true then ((laws_toPlacementS.f k l2).bind fun t56=>((laws_eqPlacementS.f k t33 t56).bind fun t58=>(if t58=true then (some true) else (some false)))) else (some false)))) else (some false)))) else (some false)))))))))))))))))
theorem laws_FnExactIsNesting.ok {k:Nat} {a0_0 a0_1:Int} {l0_2:List S142} {l0_3:List S154} {l0_4:List S66} {l1:List S69} {l2:List S81} {a3_0 a3_1 a3_2 a3_3:Int} {r:Bool} (H:laws_FnExactIsNesting.f k a0_0 a0_1 l0_2 l0_3 l0_4 l1 l2 a3_0 a3_1 a3_2 a3_3=some r):OkF Tryz.prog 3 [.agg [cI a0_0,cI a0_1,.d (.row 157 (l0_2.map c142)),.d (.row 155 (l0_3.map c154)),.d (.row 67 (l0_4.map c66))],vR 70 (l1.map c69),vR 84 (l2.map c81),.agg [cI a3_0,cI a3_1,cI a3_2,cI a3_3]] [] (vB r) []:=by
 unfold laws_FnExactIsNesting.f at H
 refine o1 69 8 Tryz.func3 fun w0 S=>?_
 refine s2 (jb 200 (k:=jb 201 (k:=mB (k:=nl (s2 (mI (k:=nl (s2 (lv (.agg [_,_,_,_,_]) T28 (k:=mI (k:=?_)))))))))))
 obtain ⟨t1,e2,H⟩:=bo H
 refine cr rfl (laws_szPicture.ok e2) (qg (qd qn)) (k:=mI (k:=nl (sq (s2 (mI (k:=iL (k:=nl ?_)))))))
 rcases ie H with ⟨h3,H⟩|⟨h3,H⟩
 ·refine ay (dt h3) ?_
  cases H
  exact s2 (mB (k:=nl (rt r1)))
 refine an (df h3) ?_
 refine sp (s2 (mR (k:=mI (k:=?_))))
 obtain ⟨t4,e5,H⟩:=bo H
 refine cr rfl (laws_szLeafS.ok e5) (qd (qd qn)) (k:=mI (k:=nl (sq (s2 (mI (k:=iL (k:=nl ?_)))))))
 rcases ie H with ⟨h6,H⟩|⟨h6,H⟩
 ·refine ay (dt h6) ?_
  cases H
  exact s2 (mB (k:=nl (rt r1)))
 refine an (df h6) ?_
 refine sp (s2 (mR (k:=mI (k:=?_))))
 obtain ⟨t7,e8,H⟩:=bo H
 refine cr rfl (laws_szPlacementS.ok e8) (qd (qd qn)) (k:=mI (k:=nl (sq (s2 (mI (k:=iL (k:=nl ?_)))))))
 rcases ie H with ⟨h9,H⟩|⟨h9,H⟩
 ·refine ay (dt h9) ?_
  cases H
  exact s2 (mB (k:=nl (rt r1)))
 refine an (df h9) ?_
 refine sp (s2 (lv (.agg [_,_,_,_,_]) T28 (k:=?_)))
 obtain ⟨⟨t10,t11,t12,t13,t14⟩,e15,H⟩:=bo H
 refine a_call (v := .agg [.d (.v (.int .i64 t10)),.d (.v (.int .i64 t11)),.own 205 t12.length,.own 206 t13.length,.own 207 t14.length]) (nk:=[(205,.row 143 (t12.map c142)),(206,.row 158 (t13.map c154)),(207,.row 76 (t14.map c66))]) (L:=[]) ?_ rfl (laws_toPicture.ok e15) (fun κ=>cond (Nat.beq κ 205) 100 (cond (Nat.beq κ 206) 101 (cond (Nat.beq κ 207) 102 (κ)))) (qg qn) trivial ⟨rfl,rfl,rfl,trivial⟩ ⟨rfl,rfl,rfl,trivial⟩ rfl
 refine mR (k:=?_)
 obtain ⟨t16,et16,H⟩:=bo H
 refine a_callF (L:=[]) ?_ rfl (laws_toLeafS.ok et16) (qd qn) trivial
 refine mR (k:=?_)
 obtain ⟨t17,e18,H⟩:=bo H
 refine a_call (v := .c (.own 208 t17.length)) (nk:=[(208,.row 82 (t17.map c81))]) (L:=[]) ?_ rfl (laws_toPlacementS.ok e18) (fun κ=>cond (Nat.beq κ 208) 100 (κ)) (qd qn) trivial ⟨rfl,trivial⟩ ⟨rfl,trivial⟩ rfl
 refine lv (.agg [_,_,_,_]) T32 (k:=?_)
 obtain ⟨⟨t19,t20,t21,t22⟩,e23,H⟩:=bo H
 refine cl (.agg [.d (.v (.int .i64 t19)),.d (.v (.int .i64 t20)),.d (.v (.int .i64 t21)),.d (.v (.int .i64 t22))]) rfl (laws_toRules.ok e23) (qg qn) (k:=?_)
 obtain ⟨t24,e25,H⟩:=bo H
 refine a_call (v:=vB t24) (nk:=[]) (L:=[(205,_),(206,_),(207,_),(208,_)]) ?_ rfl (spec_IsNesting.ok e25) id (qm (eD (eD (eC rO (eC rO (eC rO eN))))) (qd (qc rO (qg qn)))) ⟨rfl,rfl,rfl,rfl,trivial⟩ trivial trivial rfl
 refine mB (k:=?_)
 refine RA.nil (fun _=>by kernel_rfl) ?_
 refine sq ?_
 refine AG.freeze 206 ?_
 refine rg (lv (.agg [_,_,_,_,_]) T28 (k:=?_))
 obtain ⟨⟨t26,t27,t28,t29,t30⟩,e31,H⟩:=bo H
 refine a_call (v := .agg [.d (.v (.int .i64 t26)),.d (.v (.int .i64 t27)),.own 211 t28.length,.own 212 t29.length,.own 213 t30.length]) (nk:=[(211,.row 143 (t28.map c142)),(212,.row 158 (t29.map c154)),(213,.row 76 (t30.map c66))]) (L:=[]) ?_ rfl (laws_toPicture.ok e31) (fun κ=>cond (Nat.beq κ 211) 100 (cond (Nat.beq κ 212) 101 (cond (Nat.beq κ 213) 102 (κ)))) (qg qn) trivial ⟨rfl,rfl,rfl,trivial⟩ ⟨rfl,rfl,rfl,trivial⟩ rfl
 refine ja (cs:=[_,_,_,_,_]) 214 T43 (k:=js (cs':=[_,_,_,_,_]) T43 (k:=nl (sq ?_)))
 refine AG.freeze 212 ?_
 refine rg (mR (k:=?_))
 obtain ⟨t32,et32,H⟩:=bo H
 refine a_callF (L:=[]) ?_ rfl (laws_toLeafS.ok et32) (qd qn) trivial
 refine mR (k:=nl (s2 (mR (k:=?_))))
 obtain ⟨t33,e34,H⟩:=bo H
 refine a_call (v := .c (.own 215 t33.length)) (nk:=[(215,.row 82 (t33.map c81))]) (L:=[]) ?_ rfl (laws_toPlacementS.ok e34) (fun κ=>cond (Nat.beq κ 215) 100 (κ)) (qd qn) trivial ⟨rfl,trivial⟩ ⟨rfl,trivial⟩ rfl
 refine mW (k:=nl (s2 (lv (.agg [_,_,_,_,_]) T43 (k:=mR (k:=mW (k:=lv (.agg [_,_,_,_]) T32 (k:=?_)))))))
 obtain ⟨⟨t35,t36,t37,t38⟩,e39,H⟩:=bo H
 refine cl (.agg [.d (.v (.int .i64 t35)),.d (.v (.int .i64 t36)),.d (.v (.int .i64 t37)),.d (.v (.int .i64 t38))]) rfl (laws_toRules.ok e39) (qg qn) (k:=?_)
 obtain ⟨t40,e41,H⟩:=bo H
 refine a_call (v:=vB t40) (nk:=[]) (L:=[(211,_),(213,_),(215,_)]) ?_ rfl (impl_IsNesting.ok e41) id (qm (eD (eD (eC rO (eD (eC rO eN))))) (qd (qc rO (qg qn)))) ⟨rfl,rfl,rfl,trivial⟩ trivial trivial rfl
 refine mB (k:=?_)
 refine RA.nil (fun _=>by kernel_rfl) ?_
 refine sq (s2 (mB (k:=mB (k:=?_))))
 refine a_binB (p:=t40) (q:=t24) (b:=(!(t40 == t24))) ?_ Tryz.underlying4 (.inr ⟨rfl,rfl⟩)
 refine nl ?_
 rcases ei H with ⟨h42,H⟩|⟨h42,H⟩
 ·refine AG.yes rfl (by rw [bf h42]; rfl) ?_
  cases H
  exact s2 (mB (k:=nl (rt r1)))
 refine AG.no rfl (by rw [show (t40 == t24)=true from h42]; rfl) ?_
 refine sp (sq (s2 (lv (.agg [_,_,_,_,_]) T43 (k:=lv (.agg [_,_,_,_,_]) T28 (k:=?_)))))
 obtain ⟨⟨t43,t44,t45,t46,t47⟩,e48,H⟩:=bo H
 refine a_call (v := .agg [.d (.v (.int .i64 t43)),.d (.v (.int .i64 t44)),.own 218 t45.length,.own 219 t46.length,.own 220 t47.length]) (nk:=[(218,.row 143 (t45.map c142)),(219,.row 158 (t46.map c154)),(220,.row 76 (t47.map c66))]) (L:=[]) ?_ rfl (laws_toPicture.ok e48) (fun κ=>cond (Nat.beq κ 218) 100 (cond (Nat.beq κ 219) 101 (cond (Nat.beq κ 220) 102 (κ)))) (qg qn) trivial ⟨rfl,rfl,rfl,trivial⟩ ⟨rfl,rfl,rfl,trivial⟩ rfl
 obtain ⟨t49,e50,H⟩:=bo H
 refine a_call (v:=vB t49) (nk:=[]) (L:=[(211,_),(213,_),(218,_),(219,_),(220,_)]) ?_ rfl (laws_eqPicture.ok e50) id (qm (eD (eD (eC rO (eD (eC rO eN))))) (qm (eD (eD (eC rO (eC rO (eC rO eN))))) qn)) ⟨rfl,rfl,rfl,rfl,rfl,trivial⟩ trivial trivial rfl
 refine uN (k:=?_)
 refine RA.nil (fun _=>by kernel_rfl) ?_
 rcases ei H with ⟨h51,H⟩|⟨h51,H⟩
 ·refine ay (cn (bf h51)) ?_
  refine sq ?_
  refine AG.freeze 219 ?_
  cases H
  exact rg (mB (k:=nl (rt r1)))
 refine an (cn h51) ?_
 refine sp (sq (sq ?_))
 refine AG.freeze 219 ?_
 refine rg (mR (k:=mR (k:=?_)))
 obtain ⟨t52,et52,H⟩:=bo H
 refine a_callF (L:=[]) ?_ rfl (laws_toLeafS.ok et52) (qd qn) trivial
 obtain ⟨t53,e54,H⟩:=bo H
 refine cr rfl (laws_eqLeafS.ok e54) (qd (qd qn)) (k:=uN (k:=nl ?_))
 rcases ei H with ⟨h55,H⟩|⟨h55,H⟩
 ·refine ay (cn (bf h55)) ?_
  cases H
  exact s2 (mB (k:=nl (rt r1)))
 refine an (cn h55) ?_
 refine sp (sq (s2 (mW (k:=mR (k:=?_)))))
 obtain ⟨t56,e57,H⟩:=bo H
 refine a_call (v := .c (.own 223 t56.length)) (nk:=[(223,.row 82 (t56.map c81))]) (L:=[]) ?_ rfl (laws_toPlacementS.ok e57) (fun κ=>cond (Nat.beq κ 223) 100 (κ)) (qd qn) trivial ⟨rfl,trivial⟩ ⟨rfl,trivial⟩ rfl
 obtain ⟨t58,e59,H⟩:=bo H
 refine a_call (v:=vB t58) (nk:=[]) (L:=[(215,_),(223,_)]) ?_ rfl (laws_eqPlacementS.ok e59) id (qc rO (qc rO qn)) ⟨rfl,rfl,trivial⟩ trivial trivial rfl
 refine uN (k:=nl ?_)
 rcases ie H with ⟨h60,H⟩|⟨h60,H⟩
 ·refine an (cn h60) ?_
  cases H
  exact sp (s2 (mB (k:=nl (rt r1))))
 refine ay (cn (bf h60)) ?_
 cases H
 exact s2 (mB (k:=nl (rt r1)))
def B142 (x:S142):Prop:=(Lit.int .i64 x.f0).wf=true∧(Lit.int .i64 x.f1).wf=true
def B154 (x:S154):Prop:=x.f0.size≤maxLen∧(x.f1.length≤maxLen∧∀ x_∈x.f1,(Lit.int .i64 x_).wf=true)
def B24 (x:S24):Prop:=(Lit.int .i64 x.f0).wf=true∧(Lit.int .i64 x.f1).wf=true∧(x.f2.length≤maxLen∧∀ x_∈x.f2,B142 x_)∧(x.f3.length≤maxLen∧∀ x_∈x.f3,B154 x_)
def B66 (x:S66):Prop:=x.f0.size≤maxLen∧(Lit.int .i64 x.f1).wf=true∧(Lit.int .i64 x.f2).wf=true
def B27 (x:S27):Prop:=B24 x.f0∧(x.f1.length≤maxLen∧∀ x_∈x.f1,B66 x_)
def B146 (x:S146):Prop:=(Lit.int .i64 x.f0).wf=true∧(Lit.int .i64 x.f1).wf=true∧(Lit.int .i64 x.f2).wf=true∧(Lit.int .i64 x.f3).wf=true
def B69 (x:S69):Prop:=x.f0.size≤maxLen∧x.f1.size≤maxLen∧(Lit.int .i64 x.f2).wf=true∧B66 x.f3∧(Lit.int .i64 x.f4).wf=true∧(Lit.int .i64 x.f5).wf=true∧(x.f6.length≤maxLen∧∀ x_∈x.f6,B146 x_)
def B81 (x:S81):Prop:=(Lit.int .i64 x.f0).wf=true∧(Lit.int .i64 x.f1).wf=true∧(Lit.int .i64 x.f2).wf=true∧(Lit.int .i64 x.f3).wf=true∧(Lit.int .i64 x.f4).wf=true
def B31 (x:S31):Prop:=(Lit.int .i64 x.f0).wf=true∧(Lit.int .i64 x.f1).wf=true∧(Lit.int .i64 x.f2).wf=true∧(Lit.int .i64 x.f3).wf=true
def laws_FnExactIsNesting.Pure:Prop:=∀ (a0_0:Int) (a0_1:Int) (l0_2:List S142) (l0_3:List S154) (l0_4:List S66) (l1:List S69) (l2:List S81) (a3_0:Int) (a3_1:Int) (a3_2:Int) (a3_3:Int),B27 (⟨(⟨a0_0,a0_1,l0_2,l0_3⟩:S24),l0_4⟩:S27)→(l1.length≤maxLen∧∀ x_∈l1,B69 x_)→(l2.length≤maxLen∧∀ x_∈l2,B81 x_)→B31 (⟨a3_0,a3_1,a3_2,a3_3⟩:S31)→∃ k,laws_FnExactIsNesting.f k a0_0 a0_1 l0_2 l0_3 l0_4 l1 l2 a3_0 a3_1 a3_2 a3_3=some true
end Go.Proofs.YticimffljcljoaaGreat.PFnExactIsNesting

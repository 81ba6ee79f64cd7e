/- What each function that the law FnExactIsNesting reaches comes to, and the proof that its walk comes to it; laid by a program of this session. No condition. -/
import Derived.Test.YticimffljcljoaaGreatPFnExactIsNestingx0
import Derived.KernelRfl
import Derived.OwnWalk
import Derived.Test.YticimffljcljoaaGreatProg
set_option maxRecDepth 100000
set_option maxHeartbeats 4000000
set_option linter.unusedVariables false
set_option linter.unusedSimpArgs false
namespace Go.Proofs.YticimffljcljoaaGreat.PFnExactIsNesting
open Go Go.RowKit Go.Proofs.YticimffljcljoaaGreatM Go.Proofs Go.Proofs.YticimffljcljoaaGreat.CloneP Go.Proofs.YticimffljcljoaaGreat.DeleteP Go.Proofs.YticimffljcljoaaGreat.Mul64
mutual
def spec_l11Faults.l0:Nat→Int→Int→List S142→List S154→List S66→List S78→List S81→Int→Int→Int→Int→List S100→Int→Option ((List S100))
 | 0,_,_,_,_,_,_,_,_,_,_,_,_,_=>none
 | k+1,x0_0,x0_1,x0_2,x0_3,x0_4,x1,x2,x3_0,x3_1,x3_2,x3_3,x9,x10=>if x10 < (x0_3.length:Int) then ((spec_l11Placed.f k x2 x10).bind fun t3=>(if t3 < 0 then (if x9.length < 5864062014805 then (spec_l11Faults.l0 k x0_0 x0_1 x0_2 x0_3 x0_4 x1 x2 x3_0 x3_1 x3_2 x3_3 (x9++[(⟨8,x10,0⟩:S100)]) (wrap64 (x10+1))) else (none)) else (if 0≤t3 then (if t3 < (x2.length:Int) then ((spec_l11Single.f k x0_0 x0_1 x0_2 x0_3 x0_4 x1 ((rd81 x2 t3).f0) ((rd81 x2 t3).f1) ((rd81 x2 t3).f2) ((rd81 x2 t3).f3) ((rd81 x2 t3).f4) x3_0 x3_1 x3_2 x3_3).bind fun t10=>(if x9.length+t10.length < 5864062014805 then (spec_l11Faults.l1 k x0_0 x0_1 x0_2 x0_3 x0_4 x1 x2 x3_0 x3_1 x3_2 x3_3 (x9++t10) x10 t3 0) else (none))) else (none)) else (none)))) else (some x9)
def spec_l11Faults.l1:Nat→Int→Int→List S142→List S154→List S66→List S78→List S81→Int→Int→Int→Int→List S100→Int→Int→Int→Option ((List S100))
 | 0,_,_,_,_,_,_,_,_,_,_,_,_,_,_,_=>none
 | k+1,x0_0,x0_1,x0_2,x0_3,x0_4,x1,x2,x3_0,x3_1,x3_2,x3_3,x9,x10,x11,x12=>if x12 < x11 then (if 0≤x12 then (if x12 < (x2.length:Int) then (if 0≤x11 then (if x11 < (x2.length:Int) then (if ((rd81 x2 x12).f1)=((rd81 x2 x11).f1) then ((spec_l11Polygon.f k x0_0 x0_1 x0_2 x0_3 x0_4 ((rd81 x2 x12).f0) ((rd81 x2 x12).f1) ((rd81 x2 x12).f2) ((rd81 x2 x12).f3) ((rd81 x2 x12).f4)).bind fun t20=>((spec_l11Polygon.f k x0_0 x0_1 x0_2 x0_3 x0_4 ((rd81 x2 x11).f0) ((rd81 x2 x11).f1) ((rd81 x2 x11).f2) ((rd81 x2 x11).f3) ((rd81 x2 x11).f4)).bind fun t22=>((spec_l11Near.f k t20 t22 x3_0).bind fun t24=>(if t24=true then (if x9.length < 5864062014805 then (spec_l11Faults.l1 k x0_0 x0_1 x0_2 x0_3 x0_4 x1 x2 x3_0 x3_1 x3_2 x3_3 (x9++[(⟨7,x10,(rd81 x2 x12).f0⟩:S100)]) x10 x11 (wrap64 (x12+1))) else (none)) else (spec_l11Faults.l1 k x0_0 x0_1 x0_2 x0_3 x0_4 x1 x2 x3_0 x3_1 x3_2 x3_3 x9 x10 x11 (wrap64 (x12+1))))))) else (spec_l11Faults.l1 k x0_0 x0_1 x0_2 x0_3 x0_4 x1 x2 x3_0 x3_1 x3_2 x3_3 x9 x10 x11 (wrap64 (x12+1)))) else (none)) else (none)) else (none)) else (none)) else (spec_l11Faults.l0 k x0_0 x0_1 x0_2 x0_3 x0_4 x1 x2 x3_0 x3_1 x3_2 x3_3 x9 (wrap64 (x10+1)))
end
def spec_l11Faults.f (k:Nat) (a0_0 a0_1:Int) (l0_2:List S142) (l0_3:List S154) (l0_4:List S66) (l1:List S78) (l2:List S81) (a3_0 a3_1 a3_2 a3_3:Int):Option ((List S100)):=spec_l11Faults.l0 k a0_0 a0_1 l0_2 l0_3 l0_4 l1 l2 a3_0 a3_1 a3_2 a3_3 (([]:List S100)) 0
theorem spec_l11Faults.ok {k:Nat} {a0_0 a0_1:Int} {l0_2:List S142} {l0_3:List S154} {l0_4:List S66} {l1:List S78} {l2:List S81} {a3_0 a3_1 a3_2 a3_3:Int} {r:List S100} (H:spec_l11Faults.f k a0_0 a0_1 l0_2 l0_3 l0_4 l1 l2 a3_0 a3_1 a3_2 a3_3=some r):OkF Tryz.prog 40 [.c (.d (.ro [.v (.int .i64 a0_0),.v (.int .i64 a0_1),.row 143 (l0_2.map c142),.row 158 (l0_3.map c154),.row 76 (l0_4.map c66)])),vR 79 (l1.map c78),vR 82 (l2.map c81),.c (.d (.ro [.v (.int .i64 a3_0),.v (.int .i64 a3_1),.v (.int .i64 a3_2),.v (.int .i64 a3_3)]))] [] (.c (.own 100 r.length)) [(100,.row 101 (r.map c100))]:=by
 unfold spec_l11Faults.f at H
 refine o1 87 8 Tryz.func40 fun w0 S=>?_
 refine s2 (jn (e:=101) 200 T101 (k:=nl (s2 ?_)))
 refine a_lit (cs:=[]) (D:=[]) (css:=(([]:List S100)).map c100) 201 ?_ N55 T101 (hcss:=by rfl)
 refine mW (k:=nl (sq (s2 (mI (k:=nl (bk (lp ?_)))))))
 obtain ⟨K0,hK0,gK0⟩:=kk k
 refine AGr.canon (fun κ=>cond (Nat.beq κ 202) 201 (κ)) (AGr.loopI (n:=k) (fun k s=>k≤K0∧∃ x0_0 x0_1 x0_2 x0_3 x0_4 x1 x2 x3_0 x3_1 x3_2 x3_3 x9 x10,spec_l11Faults.l0 k x0_0 x0_1 x0_2 x0_3 x0_4 x1 x2 x3_0 x3_1 x3_2 x3_3 x9 x10=some r∧s=St.of [(0,.c (.d (.ro [.v (.int .i64 x0_0),.v (.int .i64 x0_1),.row 143 (x0_2.map c142),.row 158 (x0_3.map c154),.row 76 (x0_4.map c66)]))),(1,vR 79 (x1.map c78)),(2,vR 82 (x2.map c81)),(3,.c (.d (.ro [.v (.int .i64 x3_0),.v (.int .i64 x3_1),.v (.int .i64 x3_2),.v (.int .i64 x3_3)]))),(9,.c (.own 202 x9.length)),(10,vI x10)] [(202,.row 101 (x9.map c100))]) ⟨hK0,_,_,_,_,_,_,_,_,_,_,_,_,_,H,rfl⟩ ?_ ?_) ⟨rfl,rfl,rfl,rfl,(ownE rfl (by simp)),rfl,trivial⟩ ⟨rfl,trivial⟩ rfl
 ·rintro _ ⟨_,_,_,_,_,_,_,_,_,_,_,_,_,_,H,_⟩
  cases H
 clear H hK0
 rintro k ih0 _ ⟨hK0,x0_0,x0_1,x0_2,x0_3,x0_4,x1,x2,x3_0,x3_1,x3_2,x3_3,x9,x10,H,rfl⟩
 unfold spec_l11Faults.l0 at H
 refine sq (s2 (mI (k:=mv (vO [_,_,_,_,_]) (k:=nv (vO [_,_,_,_,_]) (k:=jf (cells':=[_,_,_,_,_]) D43_0 (k:=jf (cells':=[_,_]) D40_3 (k:=oR T38 (k:=jl Tryz.underlying38 (k:=iL (k:=nl ?_))))))))))
 rcases ei H with ⟨h2,H⟩|⟨h2,H⟩
 ·refine an (df h2) ?_
  refine ex (s2 (mW (k:=mW (k:=nl (rt ?_)))))
  cases H
  exact RetP.mk (fun κ=>cond (Nat.beq κ 100) 202 (κ)) ⟨rfl,trivial⟩ ⟨rfl,trivial⟩ rfl
 refine ay (dt h2) ?_
 refine sp (sq (bk (s2 (mR (k:=mI (k:=?_))))))
 obtain ⟨t3,e4,H⟩:=bo H
 refine cr rfl (spec_l11Placed.ok e4) (qd (qd qn)) (k:=mI (k:=nl (sq (s2 (mI (k:=iL (k:=nl ?_)))))))
 rcases ie H with ⟨h5,H⟩|⟨h5,H⟩
 ·refine ay (dt h5) ?_
  refine s2 (mW (k:=mI (k:=?_)))
  refine a_build (cs:=[_,_,_]) ?_ T101 rfl (hin:=I101)
  refine a_lit (cs:=[_,_,_]) (D:=[]) (css:=([(⟨8,x10,0⟩:S100)]).map c100) 204 ?_ N55 T101
  obtain ⟨h6,H⟩:=io H
  refine a_appO (css':=(x9++[(⟨8,x10,0⟩:S100)]).map c100) (n':=(x9++[(⟨8,x10,0⟩:S100)]).length) ?_ T101 (by simp [maxLen]; omega) (by simp; omega) Tryz.underlying55 (hc:=by exact List.map_append.symm) (hn:=by exact List.length_map _)
  refine mW (k:=nl (ex (rg (mI (k:=iA (k:=mI (k:=nl ?_)))))))
  exact AGr.canon id (ih0 _ (by omega) _ ⟨by omega,_,_,_,_,_,_,_,_,_,_,_,_,_,H,rfl⟩) ⟨rfl,rfl,rfl,rfl,rfl,rfl,trivial⟩ ⟨rfl,trivial⟩ rfl
 refine an (df h5) ?_
 refine sp (s2 (mW (k:=mv (vO [_,_,_,_,_]) (k:=mR (k:=mR (k:=mI (k:=?_)))))))
 obtain ⟨h8,H⟩:=io H
 obtain ⟨h9,H⟩:=io H
 refine ixx ⟨h8,h9⟩ T82 Tryz.underlying47 (R81 h8 h9) (k:=mv (vO [_,_,_,_]) (k:=?_))
 obtain ⟨t10,e11,H⟩:=bo H
 refine a_call (v := .c (.own 205 t10.length)) (nk:=[(205,.row 101 (t10.map c100))]) (L:=[]) ?_ rfl (spec_l11Single.ok e11) (fun κ=>cond (Nat.beq κ 205) 100 (κ)) (qd (qd (qd (qd qn)))) trivial ⟨rfl,trivial⟩ ⟨rfl,trivial⟩ rfl
 obtain ⟨h12,H⟩:=io H
 refine a_appO (css':=(x9++t10).map c100) (n':=(x9++t10).length) ?_ T101 (by simp [maxLen]; omega) (by simp; omega) Tryz.underlying55 (hc:=by exact List.map_append.symm) (hn:=by exact List.length_map _)
 refine mW (k:=nl (s2 (mI (k:=nl (bk (lp ?_))))))
 obtain ⟨K1,hK1,gK1⟩:=kk k
 refine AGr.canon (fun κ=>cond (Nat.beq κ 206) 202 (κ)) (AGr.loopI (n:=k) (fun k s=>k≤K1∧∃ x0_0 x0_1 x0_2 x0_3 x0_4 x1 x2 x3_0 x3_1 x3_2 x3_3 x9 x10 x11 x12,spec_l11Faults.l1 k x0_0 x0_1 x0_2 x0_3 x0_4 x1 x2 x3_0 x3_1 x3_2 x3_3 x9 x10 x11 x12=some r∧s=St.of [(0,.c (.d (.ro [.v (.int .i64 x0_0),.v (.int .i64 x0_1),.row 143 (x0_2.map c142),.row 158 (x0_3.map c154),.row 76 (x0_4.map c66)]))),(1,vR 79 (x1.map c78)),(2,vR 82 (x2.map c81)),(3,.c (.d (.ro [.v (.int .i64 x3_0),.v (.int .i64 x3_1),.v (.int .i64 x3_2),.v (.int .i64 x3_3)]))),(9,.c (.own 206 x9.length)),(10,vI x10),(11,vI x11),(12,vI x12)] [(206,.row 101 (x9.map c100))]) ⟨hK1,_,_,_,_,_,_,_,_,_,_,_,_,_,_,_,H,rfl⟩ ?_ ?_) ⟨rfl,rfl,rfl,rfl,rfl,rfl,rfl,rfl,trivial⟩ ⟨rfl,trivial⟩ rfl
 ·rintro _ ⟨_,_,_,_,_,_,_,_,_,_,_,_,_,_,_,_,H,_⟩
  cases H
 clear H hK1
 rintro k ih1 _ ⟨hK1,x0_0,x0_1,x0_2,x0_3,x0_4,x1,x2,x3_0,x3_1,x3_2,x3_3,x9,x10,x11,x12,H,rfl⟩
 unfold spec_l11Faults.l1 at H
 refine sq (s2 (mI (k:=mI (k:=iL (k:=nl ?_)))))
 rcases ei H with ⟨h14,H⟩|⟨h14,H⟩
 ·refine an (df h14) ?_
  refine ex (rg (mI (k:=iA (k:=mI (k:=nl ?_)))))
  exact AGr.canon (fun κ=>cond (Nat.beq κ 202) 206 (κ)) (ih0 _ (by omega) _ ⟨by omega,_,_,_,_,_,_,_,_,_,_,_,_,_,H,rfl⟩) ⟨rfl,rfl,rfl,rfl,rfl,rfl,trivial⟩ ⟨rfl,trivial⟩ rfl
 refine ay (dt h14) ?_
 refine sp (sq (bk (s2 (mR (k:=mI (k:=?_))))))
 obtain ⟨h15,H⟩:=io H
 obtain ⟨h16,H⟩:=io H
 refine ixx ⟨h15,h16⟩ T82 Tryz.underlying47 (R81 h15 h16) (k:=jf (cells':=[_,_,_,_]) D82_1 (k:=oI T2 (k:=mR (k:=mI (k:=?_)))))
 obtain ⟨h17,H⟩:=io H
 obtain ⟨h18,H⟩:=io H
 refine ixx ⟨h17,h18⟩ T82 Tryz.underlying47 (R81 h17 h18) (k:=jf (cells':=[_,_,_,_]) D82_1 (k:=oI T2 (k:=iEq (k:=mB (k:=?_)))))
 rcases ei H with ⟨h19,H⟩|⟨h19,H⟩
 ·iterate 15 refine sk (bn h19) (k:=?_)
  refine qB (bn h19) (k:=?_)
  refine RA.nil (fun _=>by kernel_rfl) ?_
  refine an rfl ?_
  refine sp (rg (mI (k:=iA (k:=mI (k:=nl ?_)))))
  exact AGr.canon id (ih1 _ (by omega) _ ⟨by omega,_,_,_,_,_,_,_,_,_,_,_,_,_,_,_,H,rfl⟩) ⟨rfl,rfl,rfl,rfl,rfl,rfl,rfl,rfl,trivial⟩ ⟨rfl,trivial⟩ rfl
 refine mv (vO [_,_,_,_,_]) (hg:=gy (bq h19)) (k:=mR (hg:=gy (bq h19)) (k:=mI (hg:=gy (bq h19)) (k:=ixx ⟨h15,h16⟩ T82 Tryz.underlying47 (R81 h15 h16) (hg:=gy (bq h19)) (k:=?_))))
 obtain ⟨t20,e21,H⟩:=bo H
 refine a_call (v := .c (.own 207 t20.length)) (nk:=[(207,.row 143 (t20.map c142))]) (L:=[]) ?_ rfl (spec_l11Polygon.ok e21) (fun κ=>cond (Nat.beq κ 207) 100 (κ)) (qd (qd qn)) trivial ⟨rfl,trivial⟩ ⟨rfl,trivial⟩ rfl (hg:=gy (bq h19))
 refine mv (vO [_,_,_,_,_]) (hg:=gy (bq h19)) (k:=mR (hg:=gy (bq h19)) (k:=mI (hg:=gy (bq h19)) (k:=ixx ⟨h17,h18⟩ T82 Tryz.underlying47 (R81 h17 h18) (hg:=gy (bq h19)) (k:=?_))))
 obtain ⟨t22,e23,H⟩:=bo H
 refine a_call (v := .c (.own 208 t22.length)) (nk:=[(208,.row 143 (t22.map c142))]) (L:=[]) ?_ rfl (spec_l11Polygon.ok e23) (fun κ=>cond (Nat.beq κ 208) 100 (κ)) (qd (qd qn)) trivial ⟨rfl,trivial⟩ ⟨rfl,trivial⟩ rfl (hg:=gy (bq h19))
 refine mv (vO [_,_,_,_]) (hg:=gy (bq h19)) (k:=nv (vO [_,_,_,_]) (hg:=gy (bq h19)) (k:=jf (cells':=[_,_,_,_]) D49_0 (hg:=gy (bq h19)) (k:=oI T2 (hg:=gy (bq h19)) (k:=?_))))
 obtain ⟨t24,e25,H⟩:=bo H
 refine a_call (v:=vB t24) (nk:=[]) (L:=[(207,_),(208,_)]) ?_ rfl (spec_l11Near.ok e25) id (qc rO (qc rO (qd qn))) ⟨rfl,rfl,trivial⟩ trivial trivial rfl (hg:=gy (bq h19))
 refine pB (bq h19) (k:=?_)
 refine RA.nil (fun _=>by kernel_rfl) ?_
 rcases ei H with ⟨h26,H⟩|⟨h26,H⟩
 ·refine an (bf h26) ?_
  refine sp (rg (mI (k:=iA (k:=mI (k:=nl ?_)))))
  exact AGr.canon id (ih1 _ (by omega) _ ⟨by omega,_,_,_,_,_,_,_,_,_,_,_,_,_,_,_,H,rfl⟩) ⟨rfl,rfl,rfl,rfl,rfl,rfl,rfl,rfl,trivial⟩ ⟨rfl,trivial⟩ rfl
 refine ay h26 ?_
 refine rg (mW (k:=mI (k:=mR (k:=mI (k:=ixx ⟨h15,h16⟩ T82 Tryz.underlying47 (R81 h15 h16) (k:=jf (cells':=[_,_,_,_,_]) D82_0 (k:=oI T2 (k:=?_))))))))
 refine a_build (cs:=[_,_,_]) ?_ T101 rfl (hin:=I101)
 refine a_lit (cs:=[_,_,_]) (D:=[]) (css:=([(⟨7,x10,(rd81 x2 x12).f0⟩:S100)]).map c100) 210 ?_ N55 T101
 obtain ⟨h27,H⟩:=io H
 refine a_appO (css':=(x9++[(⟨7,x10,(rd81 x2 x12).f0⟩:S100)]).map c100) (n':=(x9++[(⟨7,x10,(rd81 x2 x12).f0⟩:S100)]).length) ?_ T101 (by simp [maxLen]; omega) (by simp; omega) Tryz.underlying55 (hc:=by exact List.map_append.symm) (hn:=by exact List.length_map _)
 refine mW (k:=nl (rg (mI (k:=iA (k:=mI (k:=nl ?_))))))
 exact AGr.canon id (ih1 _ (by omega) _ ⟨by omega,_,_,_,_,_,_,_,_,_,_,_,_,_,_,_,H,rfl⟩) ⟨rfl,rfl,rfl,rfl,rfl,rfl,rfl,rfl,trivial⟩ ⟨rfl,trivial⟩ rfl
def spec_l11Is.f (k:Nat) (a0_0 a0_1:Int) (l0_2:List S142) (l0_3:List S154) (l0_4:List S66) (l1:List S78) (l2:List S81) (a3_0 a3_1 a3_2 a3_3:Int):Option (Bool):=(spec_l11Ask.f k a0_0 a0_1 l0_2 l0_3 l0_4 l1 a3_0 a3_1 a3_2 a3_3).bind fun t1=>(if t1=0 then ((spec_l11Ok.f k l2).bind fun t4=>(if t4=true then ((spec_l11Fits.f k a0_0 a0_1 l0_2 l0_3 l0_4 l2).bind fun t7=>(if t7=true then ((spec_l11Faults.f k a0_0 a0_1 l0_2 l0_3 l0_4 l1 l2 a3_0 a3_1 a3_2 a3_3).bind fun t10=>(some ((t10.length:Int) == 0))) else (some false))) else (some false))) else (some false))
theorem spec_l11Is.ok {k:Nat} {a0_0 a0_1:Int} {l0_2:List S142} {l0_3:List S154} {l0_4:List S66} {l1:List S78} {l2:List S81} {a3_0 a3_1 a3_2 a3_3:Int} {r:Bool} (H:spec_l11Is.f k a0_0 a0_1 l0_2 l0_3 l0_4 l1 l2 a3_0 a3_1 a3_2 a3_3=some r):OkF Tryz.prog 28 [.c (.d (.ro [.v (.int .i64 a0_0),.v (.int .i64 a0_1),.row 143 (l0_2.map c142),.row 158 (l0_3.map c154),.row 76 (l0_4.map c66)])),vR 79 (l1.map c78),vR 82 (l2.map c81),.c (.d (.ro [.v (.int .i64 a3_0),.v (.int .i64 a3_1),.v (.int .i64 a3_2),.v (.int .i64 a3_3)]))] [] (vB r) []:=by
 unfold spec_l11Is.f at H
 refine o1 32 8 Tryz.func28 fun w0 S=>?_
 refine s2 (mB (k:=nl (s2 (mv (vO [_,_,_,_,_]) (k:=mR (k:=mv (vO [_,_,_,_]) (k:=?_)))))))
 obtain ⟨t1,e2,H⟩:=bo H
 refine cr rfl (spec_l11Ask.ok e2) (qd (qd (qd qn))) (k:=iEq (k:=mB (k:=?_)))
 rcases ei H with ⟨h3,H⟩|⟨h3,H⟩
 ·iterate 2 refine sk (bn h3) (k:=?_)
  refine qB (bn h3) (k:=mB (k:=?_))
  iterate 3 refine sk rfl (k:=?_)
  refine qB rfl (k:=mB (k:=?_))
  iterate 7 refine sk rfl (k:=?_)
  cases H
  exact qB rfl (k:=mB (k:=nl (rt r1)))
 refine mR (hg:=gy (bq h3)) (k:=?_)
 obtain ⟨t4,e5,H⟩:=bo H
 refine cr rfl (spec_l11Ok.ok e5) (qd qn) (hg:=gy (bq h3)) (k:=pB (bq h3) (k:=mB (k:=?_)))
 rcases ei H with ⟨h6,H⟩|⟨h6,H⟩
 ·iterate 3 refine sk (bf h6) (k:=?_)
  refine qB (bf h6) (k:=mB (k:=?_))
  iterate 7 refine sk rfl (k:=?_)
  cases H
  exact qB rfl (k:=mB (k:=nl (rt r1)))
 refine mv (vO [_,_,_,_,_]) (hg:=gy h6) (k:=mR (hg:=gy h6) (k:=?_))
 obtain ⟨t7,e8,H⟩:=bo H
 refine cr rfl (spec_l11Fits.ok e8) (qd (qd qn)) (hg:=gy h6) (k:=pB h6 (k:=mB (k:=?_)))
 rcases ei H with ⟨h9,H⟩|⟨h9,H⟩
 ·iterate 7 refine sk (bf h9) (k:=?_)
  cases H
  exact qB (bf h9) (k:=mB (k:=nl (rt r1)))
 refine mv (vO [_,_,_,_,_]) (hg:=gy h9) (k:=mR (hg:=gy h9) (k:=mR (hg:=gy h9) (k:=mv (vO [_,_,_,_]) (hg:=gy h9) (k:=?_))))
 obtain ⟨t10,e11,H⟩:=bo H
 refine a_call (v := .c (.own 203 t10.length)) (nk:=[(203,.row 101 (t10.map c100))]) (L:=[]) ?_ rfl (spec_l11Faults.ok e11) (fun κ=>cond (Nat.beq κ 203) 100 (κ)) (qd (qd (qd (qd qn)))) trivial ⟨rfl,trivial⟩ ⟨rfl,trivial⟩ rfl (hg:=gy h9)
 cases H
 exact jo Tryz.underlying55 (hg:=gy h9) (k:=iEq (hg:=gy h9) (k:=pB h9 (k:=mB (k:=nl (rt r1)))))
def spec_IsNesting.f (k:Nat) (a0_0 a0_1:Int) (l0_2:List S142) (l0_3:List S154) (l0_4:List S66) (l1:List S78) (l2:List S81) (a3_0 a3_1 a3_2 a3_3:Int):Option (Bool):=(spec_l11Is.f k a0_0 a0_1 l0_2 l0_3 l0_4 l1 l2 a3_0 a3_1 a3_2 a3_3).bind fun t1=>(some t1)
theorem spec_IsNesting.ok {k:Nat} {a0_0 a0_1:Int} {l0_2:List S142} {l0_3:List S154} {l0_4:List S66} {l1:List S78} {l2:List S81} {a3_0 a3_1 a3_2 a3_3:Int} {r:Bool} (H:spec_IsNesting.f k a0_0 a0_1 l0_2 l0_3 l0_4 l1 l2 a3_0 a3_1 a3_2 a3_3=some r):OkF Tryz.prog 8 [.agg [cI a0_0,cI a0_1,.d (.row 143 (l0_2.map c142)),.d (.row 158 (l0_3.map c154)),.d (.row 76 (l0_4.map c66))],vR 79 (l1.map c78),vR 82 (l2.map c81),.agg [cI a3_0,cI a3_1,cI a3_2,cI a3_3]] [] (vB r) []:=by
 unfold spec_IsNesting.f at H
 refine o1 12 8 Tryz.func8 fun w0 S=>?_
 refine s2 (jb 200 (k:=jb 201 (k:=mB (k:=nl (s2 (mR (k:=mR (k:=?_))))))))
 obtain ⟨t1,e2,H⟩:=bo H
 refine a_call (v:=vB t1) (nk:=[]) (L:=[(200,_),(201,_)]) ?_ rfl (spec_l11Is.ok e2) id (qc (rP (pD (pD (pD (pD (pD p0)))))) (qd (qd (qc (rP (pD (pD (pD (pD p0))))) qn)))) ⟨rfl,rfl,trivial⟩ trivial trivial rfl
 cases H
 exact mB (k:=nl (rt r1))
def laws_toPoint.f (a0_0 a0_1:Int):Option (Int×Int):=some (a0_0,a0_1)
theorem laws_toPoint.ok {a0_0 a0_1 r0 r1:Int} (H:laws_toPoint.f a0_0 a0_1=some (r0,r1)):OkF Tryz.prog 94 [.agg [cI a0_0,cI a0_1]] [] (.agg [cI r0,cI r1]) []:=by
 unfold laws_toPoint.f at H
 refine OkF.ofB (N:=11) (t:=2) (ty:=143) (av := .agg [.d (.v (.int .i64 r0)),.d (.v (.int .i64 r1))]) Tryz.func94 rfl rfl rfl rfl (by decide) rfl rfl (fun w0 S=>?_)
 refine s2 (jb 200 (k:=aP 201 T143 (k:=nl (s2 (aP 202 T143 (k:=nl (s2 (fB 0 D157_0 (k:=lI T2 (k:=fB 0 D143_0 (k:=sP T2 (k:=nl (s2 (fB 1 D157_1 (k:=lI T2 (k:=fB 1 D143_1 (k:=sP T2 (k:=nl (s2 (lP T143 (k:=sP T143 (k:=nl (rt ?_)))))))))))))))))))))))
 simp only [Option.some.injEq,Prod.mk.injEq] at H
 obtain ⟨rfl,rfl⟩:=H
 exact RetB.mk T143 rfl rfl rfl (RetP.mk id ⟨rfl,trivial⟩ trivial rfl)
def laws_toPointS.l0:Nat→List S142→List S142→Int→Option ((List S142))
 | 0,_,_,_=>none
 | k+1,x0,x3,x4=>if x4 < (x0.length:Int) then (if 0≤x4 then ((laws_toPoint.f ((rd142 x0 x4).f0) ((rd142 x0 x4).f1)).bind fun bt6=>(if x4 < (x3.length:Int) then (laws_toPointS.l0 k x0 (x3.set (x4:Int).toNat (⟨bt6.1,bt6.2⟩:S142)) (wrap64 (x4+1))) else (none))) else (none)) else (some x3)
def laws_toPointS.f (k:Nat) (l0:List S142):Option ((List S142)):=if 0≤(l0.length:Int) then (if ((l0.length:Int):Int).toNat≤17592186044416 then (laws_toPointS.l0 k l0 (List.replicate (((l0.length:Int):Int).toNat) z142) 0) else (none)) else (none)
theorem laws_toPointS.ok {k:Nat} {l0 r:List S142} (H:laws_toPointS.f k l0=some r):OkF Tryz.prog 60 [vR 157 (l0.map c142)] [] (.c (.own 100 r.length)) [(100,.row 143 (r.map c142))]:=by
 unfold laws_toPointS.f at H
 refine o1 23 2 Tryz.func60 fun w0 S=>?_
 refine s2 (jn (e:=143) 200 T143 (k:=nl (s2 (mR (k:=jl Tryz.underlying22 (k:=?_))))))
 obtain ⟨h1,H⟩:=io H
 obtain ⟨h2,H⟩:=io H
 refine a_make (n:=(l0.length:Int)) (css:=(List.replicate (((l0.length:Int):Int).toNat) z142).map c142) 201 ?_ N37 T143 (zV (zV zN)) h1 (by omega) (by omega) (hcss:=by exact rep_map rfl)
 refine mW (k:=nl (sq (s2 (mI (k:=nl (bk (lp ?_)))))))
 obtain ⟨K0,hK0,gK0⟩:=kk k
 refine AGr.canon (fun κ=>cond (Nat.beq κ 202) 201 (κ)) (AGr.loopI (n:=k) (fun k s=>k≤K0∧∃ x0 x3 x4,laws_toPointS.l0 k x0 x3 x4=some r∧s=St.of [(0,vR 157 (x0.map c142)),(3,.c (.own 202 x3.length)),(4,vI x4)] [(202,.row 143 (x3.map c142))]) ⟨hK0,_,_,_,H,rfl⟩ ?_ ?_) ⟨rfl,(ownE rfl (by simp)),rfl,trivial⟩ ⟨rfl,trivial⟩ rfl
 ·rintro _ ⟨_,_,_,_,H,_⟩
  cases H
 clear H hK0
 rintro k ih0 _ ⟨hK0,x0,x3,x4,H,rfl⟩
 unfold laws_toPointS.l0 at H
 refine sq (s2 (mI (k:=mR (k:=jl Tryz.underlying22 (k:=iL (k:=nl ?_))))))
 rcases ei H with ⟨h4,H⟩|⟨h4,H⟩
 ·refine an (df h4) ?_
  refine ex (s2 (mW (k:=mW (k:=nl (rt ?_)))))
  cases H
  exact RetP.mk (fun κ=>cond (Nat.beq κ 100) 202 (κ)) ⟨rfl,trivial⟩ ⟨rfl,trivial⟩ rfl
 refine ay (dt h4) ?_
 refine sp (sq (bk (rg (mW (k:=mI (k:=mR (k:=mI (k:=?_))))))))
 obtain ⟨h5,H⟩:=io H
 refine ixx ⟨h5,h4⟩ T157 Tryz.underlying22 (R142 h5 h4) (k:=oP T157 (k:=?_))
 obtain ⟨⟨t6,t7⟩,e8,H⟩:=bo H
 refine cl (.agg [.d (.v (.int .i64 t6)),.d (.v (.int .i64 t7))]) rfl (laws_toPoint.ok e8) (qg qn) (k:=?_)
 obtain ⟨h9,H⟩:=io H
 refine ji ⟨h5,h9⟩ T143 Tryz.underlying37 (k:=?_)
 refine a_stF (css':=(x3.set (x4:Int).toNat (⟨t6,t7⟩:S142)).map c142) ?_ (flat_map (fun _=>rfl)) (G142 h5 h9) T143 (hcss:=by exact set_map rfl)
 refine nl (rg (mI (k:=iA (k:=mI (k:=nl ?_)))))
 exact AGr.canon id (ih0 _ (by omega) _ ⟨by omega,_,_,_,H,rfl⟩) ⟨rfl,(ownE rfl (by simp)),rfl,trivial⟩ ⟨rfl,trivial⟩ rfl
def laws_toInt64S.l0:Nat→List Int→List Int→Int→Option ((List Int))
 | 0,_,_,_=>none
 | k+1,x0,x3,x4=>if x4 < (x0.length:Int) then (if 0≤x4 then (if x4 < (x3.length:Int) then (laws_toInt64S.l0 k x0 (x3.set (x4:Int).toNat (rd2 x0 x4)) (wrap64 (x4+1))) else (none)) else (none)) else (some x3)
def laws_toInt64S.f (k:Nat) (l0:List Int):Option ((List Int)):=if 0≤(l0.length:Int) then (if ((l0.length:Int):Int).toNat≤35184372088832 then (laws_toInt64S.l0 k l0 (List.replicate (((l0.length:Int):Int).toNat) 0) 0) else (none)) else (none)
theorem laws_toInt64S.ok {k:Nat} {l0 r:List Int} (H:laws_toInt64S.f k l0=some r):OkF Tryz.prog 132 [vR 2 (l0.map c2)] [] (.c (.own 100 r.length)) [(100,.row 2 (r.map c2))]:=by
 unfold laws_toInt64S.f at H
 refine o1 22 2 Tryz.func132 fun w0 S=>?_
 refine s2 (jn (e:=2) 200 T2 (k:=nl (s2 (mR (k:=jl Tryz.underlying104 (k:=?_))))))
 obtain ⟨h1,H⟩:=io H
 obtain ⟨h2,H⟩:=io H
 refine a_make (n:=(l0.length:Int)) (css:=(List.replicate (((l0.length:Int):Int).toNat) 0).map c2) 201 ?_ N104 T2 (zV zN) h1 (by omega) (by omega) (hcss:=by exact rep_map rfl)
 refine mW (k:=nl (sq (s2 (mI (k:=nl (bk (lp ?_)))))))
 obtain ⟨K0,hK0,gK0⟩:=kk k
 refine AGr.canon (fun κ=>cond (Nat.beq κ 202) 201 (κ)) (AGr.loopI (n:=k) (fun k s=>k≤K0∧∃ x0 x3 x4,laws_toInt64S.l0 k x0 x3 x4=some r∧s=St.of [(0,vR 2 (x0.map c2)),(3,.c (.own 202 x3.length)),(4,vI x4)] [(202,.row 2 (x3.map c2))]) ⟨hK0,_,_,_,H,rfl⟩ ?_ ?_) ⟨rfl,(ownE rfl (by simp)),rfl,trivial⟩ ⟨rfl,trivial⟩ rfl
 ·rintro _ ⟨_,_,_,_,H,_⟩
  cases H
 clear H hK0
 rintro k ih0 _ ⟨hK0,x0,x3,x4,H,rfl⟩
 unfold laws_toInt64S.l0 at H
 refine sq (s2 (mI (k:=mR (k:=jl Tryz.underlying104 (k:=iL (k:=nl ?_))))))
 rcases ei H with ⟨h4,H⟩|⟨h4,H⟩
 ·refine an (df h4) ?_
  refine ex (s2 (mW (k:=mW (k:=nl (rt ?_)))))
  cases H
  exact RetP.mk (fun κ=>cond (Nat.beq κ 100) 202 (κ)) ⟨rfl,trivial⟩ ⟨rfl,trivial⟩ rfl
 refine ay (dt h4) ?_
 refine sp (sq (bk (rg (mW (k:=mI (k:=mR (k:=mI (k:=?_))))))))
 obtain ⟨h5,H⟩:=io H
 refine ixx ⟨h5,h4⟩ T2 Tryz.underlying104 (R2 h5 h4) (k:=oI T2 (k:=?_))
 obtain ⟨h6,H⟩:=io H
 refine ji ⟨h5,h6⟩ T2 Tryz.underlying104 (k:=?_)
 refine a_stF (css':=(x3.set (x4:Int).toNat (rd2 x0 x4)).map c2) ?_ (flat_map (fun _=>rfl)) (G2 h5 h6) T2 (hcss:=by exact set_map rfl)
 refine nl (rg (mI (k:=iA (k:=mI (k:=nl ?_)))))
 exact AGr.canon id (ih0 _ (by omega) _ ⟨by omega,_,_,_,H,rfl⟩) ⟨rfl,(ownE rfl (by simp)),rfl,trivial⟩ ⟨rfl,trivial⟩ rfl
def laws_toFace.f (k:Nat) (a0_0:ByteArray) (l0_1:List Int):Option (ByteArray×(List Int)):=(laws_toInt64S.f k l0_1).bind fun t1=>(some (a0_0,t1))
theorem laws_toFace.ok {k:Nat} {a0_0:ByteArray} {l0_1:List Int} {r0:ByteArray} {r1:List Int} (H:laws_toFace.f k a0_0 l0_1=some (r0,r1)):OkF Tryz.prog 95 [.agg [cS a0_0,.d (.row 2 (l0_1.map c2))]] [] (.agg [cS r0,.own 100 r1.length]) [(100,.row 2 (r1.map c2))]:=by
 unfold laws_toFace.f at H
 refine OkF.ofB (N:=12) (t:=2) (ty:=158) (av := .agg [.d (.v (.string r0)),.own 100 r1.length]) Tryz.func95 rfl rfl rfl rfl (by decide) rfl rfl (fun w0 S=>?_)
 refine s2 (jb 200 (k:=aP 201 T158 (k:=nl (s2 (aP 202 T158 (k:=nl (s2 (fB 0 D155_0 (k:=lv (vS _) T9 (k:=fB 0 D158_0 (k:=sP T9 (k:=nl (s2 (fB 1 D155_1 (k:=lR T104 (k:=?_))))))))))))))))
 obtain ⟨t1,e2,H⟩:=bo H
 refine a_call (v := .c (.own 203 t1.length)) (nk:=[(203,.row 2 (t1.map c2))]) (L:=[]) ?_ rfl (laws_toInt64S.ok e2) (fun κ=>cond (Nat.beq κ 203) 100 (κ)) (qd qn) trivial ⟨rfl,trivial⟩ ⟨rfl,trivial⟩ rfl
 refine fB 1 D158_1 (k:=sP T104 (k:=nl (s2 (lP T158 (k:=sP T158 (k:=nl (rt ?_)))))))
 simp only [Option.some.injEq,Prod.mk.injEq] at H
 obtain ⟨rfl,rfl⟩:=H
 exact RetB.mk T158 rfl rfl rfl (RetP.mk (fun κ=>cond (Nat.beq κ 100) 203 (κ)) ⟨rfl,trivial⟩ ⟨rfl,trivial⟩ rfl)
def laws_toFaceS.l0:Nat→List S154→List S154→Int→Option ((List S154))
 | 0,_,_,_=>none
 | k+1,x0,x3,x4=>if x4 < (x0.length:Int) then (if 0≤x4 then ((laws_toFace.f k ((rd154 x0 x4).f0) ((rd154 x0 x4).f1)).bind fun bt6=>(if x4 < (x3.length:Int) then (laws_toFaceS.l0 k x0 (x3.set (x4:Int).toNat (⟨bt6.1,bt6.2⟩:S154)) (wrap64 (x4+1))) else (none))) else (none)) else (some x3)
def laws_toFaceS.f (k:Nat) (l0:List S154):Option ((List S154)):=if 0≤(l0.length:Int) then (if ((l0.length:Int):Int).toNat≤7036874417766 then (laws_toFaceS.l0 k l0 (List.replicate (((l0.length:Int):Int).toNat) z154) 0) else (none)) else (none)
theorem laws_toFaceS.ok {k:Nat} {l0 r:List S154} (H:laws_toFaceS.f k l0=some r):OkF Tryz.prog 61 [vR 155 (l0.map c154)] [] (.c (.own 100 r.length)) [(100,.row 158 (r.map c154))]:=by
 unfold laws_toFaceS.f at H
 refine o1 23 2 Tryz.func61 fun w0 S=>?_
 refine s2 (jn (e:=158) 200 T158 (k:=nl (s2 (mR (k:=jl Tryz.underlying23 (k:=?_))))))
 obtain ⟨h1,H⟩:=io H
 obtain ⟨h2,H⟩:=io H
 refine a_make (n:=(l0.length:Int)) (css:=(List.replicate (((l0.length:Int):Int).toNat) z154).map c154) 201 ?_ N38 T158 (zV (zR T2 zN)) h1 (by omega) (by omega) (hcss:=by exact rep_map rfl)
 refine mW (k:=nl (sq (s2 (mI (k:=nl (bk (lp ?_)))))))
 obtain ⟨K0,hK0,gK0⟩:=kk k
 refine AGr.canon (fun κ=>cond (Nat.beq κ 202) 201 (κ)) (AGr.loopI (n:=k) (fun k s=>k≤K0∧∃ x0 x3 x4,laws_toFaceS.l0 k x0 x3 x4=some r∧s=St.of [(0,vR 155 (x0.map c154)),(3,.c (.own 202 x3.length)),(4,vI x4)] [(202,.row 158 (x3.map c154))]) ⟨hK0,_,_,_,H,rfl⟩ ?_ ?_) ⟨rfl,(ownE rfl (by simp)),rfl,trivial⟩ ⟨rfl,trivial⟩ rfl
 ·rintro _ ⟨_,_,_,_,H,_⟩
  cases H
 clear H hK0
 rintro k ih0 _ ⟨hK0,x0,x3,x4,H,rfl⟩
 unfold laws_toFaceS.l0 at H
 refine sq (s2 (mI (k:=mR (k:=jl Tryz.underlying23 (k:=iL (k:=nl ?_))))))
 rcases ei H with ⟨h4,H⟩|⟨h4,H⟩
 ·refine an (df h4) ?_
  refine ex (s2 (mW (k:=mW (k:=nl (rt ?_)))))
  cases H
  exact RetP.mk (fun κ=>cond (Nat.beq κ 100) 202 (κ)) ⟨rfl,trivial⟩ ⟨rfl,trivial⟩ rfl
 refine ay (dt h4) ?_
 refine sp (sq (bk (rg (mW (k:=mI (k:=mR (k:=mI (k:=?_))))))))
 obtain ⟨h5,H⟩:=io H
 refine ixx ⟨h5,h4⟩ T155 Tryz.underlying23 (R154 h5 h4) (k:=oP T155 (k:=?_))
 obtain ⟨⟨t6,t7⟩,e8,H⟩:=bo H
 refine a_call (v := .agg [.d (.v (.string t6)),.own 203 t7.length]) (nk:=[(203,.row 2 (t7.map c2))]) (L:=[]) ?_ rfl (laws_toFace.ok e8) (fun κ=>cond (Nat.beq κ 203) 100 (κ)) (qg qn) trivial ⟨rfl,trivial⟩ ⟨rfl,trivial⟩ rfl
 obtain ⟨h9,H⟩:=io H
 refine ji ⟨h5,h9⟩ T158 Tryz.underlying38 (k:=?_)
 refine a_stE (D:=[203]) (css':=(x3.set (x4:Int).toNat (⟨t6,t7⟩:S154)).map c154) ?_ (G154 h5 h9) T158 (hcss:=by exact set_map rfl)
 refine nl (rg (mI (k:=iA (k:=mI (k:=nl ?_)))))
 exact AGr.canon id (ih0 _ (by omega) _ ⟨by omega,_,_,_,H,rfl⟩) ⟨rfl,(ownE rfl (by simp)),rfl,trivial⟩ ⟨rfl,trivial⟩ rfl
def laws_toDrawing.f (k:Nat) (a0_0 a0_1:Int) (l0_2:List S142) (l0_3:List S154):Option (Int×Int×(List S142)×(List S154)):=(laws_toPointS.f k l0_2).bind fun t1=>((laws_toFaceS.f k l0_3).bind fun t3=>(some (a0_0,a0_1,t1,t3)))
theorem laws_toDrawing.ok {k:Nat} {a0_0 a0_1:Int} {l0_2:List S142} {l0_3:List S154} {r0 r1:Int} {r2:List S142} {r3:List S154} (H:laws_toDrawing.f k a0_0 a0_1 l0_2 l0_3=some (r0,r1,r2,r3)):OkF Tryz.prog 29 [.agg [cI a0_0,cI a0_1,.d (.row 157 (l0_2.map c142)),.d (.row 155 (l0_3.map c154))]] [] (.agg [cI r0,cI r1,.own 100 r2.length,.own 101 r3.length]) [(100,.row 143 (r2.map c142)),(101,.row 158 (r3.map c154))]:=by
 unfold laws_toDrawing.f at H
 refine OkF.ofB (N:=19) (t:=2) (ty:=40) (av := .agg [.d (.v (.int .i64 r0)),.d (.v (.int .i64 r1)),.own 100 r2.length,.own 101 r3.length]) Tryz.func29 rfl rfl rfl rfl (by decide) rfl rfl (fun w0 S=>?_)
 refine s2 (jb 200 (k:=ja (cs:=[_,_,_,_]) 201 T40 (k:=nl (s2 (ja (cs:=[_,_,_,_]) 202 T40 (k:=nl (s2 (fB 0 D25_0 (k:=lI T2 (k:=fB 0 D40_0 (k:=js (cs':=[_,_,_,_]) T2 (k:=nl (s2 (fB 1 D25_1 (k:=lI T2 (k:=fB 1 D40_1 (k:=js (cs':=[_,_,_,_]) T2 (k:=nl (s2 (fB 2 D25_2 (k:=lR T22 (k:=?_))))))))))))))))))))))
 obtain ⟨t1,e2,H⟩:=bo H
 refine a_call (v := .c (.own 203 t1.length)) (nk:=[(203,.row 143 (t1.map c142))]) (L:=[]) ?_ rfl (laws_toPointS.ok e2) (fun κ=>cond (Nat.beq κ 203) 100 (κ)) (qd qn) trivial ⟨rfl,trivial⟩ ⟨rfl,trivial⟩ rfl
 refine fB 2 D40_2 (k:=js (cs':=[_,_,_,_]) T37 (k:=nl (s2 (fB 3 D25_3 (k:=lR T23 (k:=?_))))))
 obtain ⟨t3,e4,H⟩:=bo H
 refine a_call (v := .c (.own 204 t3.length)) (nk:=[(204,.row 158 (t3.map c154))]) (L:=[]) ?_ rfl (laws_toFaceS.ok e4) (fun κ=>cond (Nat.beq κ 204) 100 (κ)) (qd qn) trivial ⟨rfl,trivial⟩ ⟨rfl,trivial⟩ rfl
 refine fB 3 D40_3 (k:=js (cs':=[_,_,_,_]) T38 (k:=nl (s2 (lv (.agg [_,_,_,_]) T40 (k:=js (cs':=[_,_,_,_]) T40 (k:=nl (rt ?_)))))))
 simp only [Option.some.injEq,Prod.mk.injEq] at H
 obtain ⟨rfl,rfl,rfl,rfl⟩:=H
 exact RetB.mk T40 rfl rfl rfl (RetP.mk (fun κ=>cond (Nat.beq κ 100) 203 (cond (Nat.beq κ 101) 204 (κ))) ⟨rfl,trivial⟩ ⟨rfl,rfl,trivial⟩ rfl)
def laws_toVeneer.f (a0_0:ByteArray) (a0_1 a0_2:Int):Option (ByteArray×Int×Int):=some (a0_0,a0_1,a0_2)
theorem laws_toVeneer.ok {a0_0:ByteArray} {a0_1 a0_2:Int} {r0:ByteArray} {r1 r2:Int} (H:laws_toVeneer.f a0_0 a0_1 a0_2=some (r0,r1,r2)):OkF Tryz.prog 62 [.agg [cS a0_0,cI a0_1,cI a0_2]] [] (.agg [cS r0,cI r1,cI r2]) []:=by
 unfold laws_toVeneer.f at H
 refine OkF.ofB (N:=14) (t:=2) (ty:=76) (av := .agg [.d (.v (.string r0)),.d (.v (.int .i64 r1)),.d (.v (.int .i64 r2))]) Tryz.func62 rfl rfl rfl rfl (by decide) rfl rfl (fun w0 S=>?_)
 refine s2 (jb 200 (k:=ja (cs:=[_,_,_]) 201 T76 (k:=nl (s2 (ja (cs:=[_,_,_]) 202 T76 (k:=nl (s2 (fB 0 D67_0 (k:=lv (vS _) T9 (k:=fB 0 D76_0 (k:=js (cs':=[_,_,_]) T9 (k:=nl (s2 (fB 1 D67_1 (k:=lI T2 (k:=fB 1 D76_1 (k:=js (cs':=[_,_,_]) T2 (k:=nl (s2 (fB 2 D67_2 (k:=lI T2 (k:=fB 2 D76_2 (k:=js (cs':=[_,_,_]) T2 (k:=nl (s2 (lv (.agg [_,_,_]) T76 (k:=js (cs':=[_,_,_]) T76 (k:=nl (rt ?_)))))))))))))))))))))))))))))
 simp only [Option.some.injEq,Prod.mk.injEq] at H
 obtain ⟨rfl,rfl,rfl⟩:=H
 exact RetB.mk T76 rfl rfl rfl (RetP.mk id ⟨rfl,trivial⟩ trivial rfl)
def laws_toVeneerS.l0:Nat→List S66→List S66→Int→Option ((List S66))
 | 0,_,_,_=>none
 | k+1,x0,x3,x4=>if x4 < (x0.length:Int) then (if 0≤x4 then ((laws_toVeneer.f ((rd66 x0 x4).f0) ((rd66 x0 x4).f1) ((rd66 x0 x4).f2)).bind fun bt6=>(if x4 < (x3.length:Int) then (laws_toVeneerS.l0 k x0 (x3.set (x4:Int).toNat (⟨bt6.1,bt6.2.1,bt6.2.2⟩:S66)) (wrap64 (x4+1))) else (none))) else (none)) else (some x3)
def laws_toVeneerS.f (k:Nat) (l0:List S66):Option ((List S66)):=if 0≤(l0.length:Int) then (if ((l0.length:Int):Int).toNat≤8796093022208 then (laws_toVeneerS.l0 k l0 (List.replicate (((l0.length:Int):Int).toNat) z66) 0) else (none)) else (none)
theorem laws_toVeneerS.ok {k:Nat} {l0 r:List S66} (H:laws_toVeneerS.f k l0=some r):OkF Tryz.prog 30 [vR 67 (l0.map c66)] [] (.c (.own 100 r.length)) [(100,.row 76 (r.map c66))]:=by
 unfold laws_toVeneerS.f at H
 refine o1 23 2 Tryz.func30 fun w0 S=>?_
 refine s2 (jn (e:=76) 200 T76 (k:=nl (s2 (mR (k:=jl Tryz.underlying26 (k:=?_))))))
 obtain ⟨h1,H⟩:=io H
 obtain ⟨h2,H⟩:=io H
 refine a_make (n:=(l0.length:Int)) (css:=(List.replicate (((l0.length:Int):Int).toNat) z66).map c66) 201 ?_ N41 T76 (zV (zV (zV zN))) h1 (by omega) (by omega) (hcss:=by exact rep_map rfl)
 refine mW (k:=nl (sq (s2 (mI (k:=nl (bk (lp ?_)))))))
 obtain ⟨K0,hK0,gK0⟩:=kk k
 refine AGr.canon (fun κ=>cond (Nat.beq κ 202) 201 (κ)) (AGr.loopI (n:=k) (fun k s=>k≤K0∧∃ x0 x3 x4,laws_toVeneerS.l0 k x0 x3 x4=some r∧s=St.of [(0,vR 67 (x0.map c66)),(3,.c (.own 202 x3.length)),(4,vI x4)] [(202,.row 76 (x3.map c66))]) ⟨hK0,_,_,_,H,rfl⟩ ?_ ?_) ⟨rfl,(ownE rfl (by simp)),rfl,trivial⟩ ⟨rfl,trivial⟩ rfl
 ·rintro _ ⟨_,_,_,_,H,_⟩
  cases H
 clear H hK0
 rintro k ih0 _ ⟨hK0,x0,x3,x4,H,rfl⟩
 unfold laws_toVeneerS.l0 at H
 refine sq (s2 (mI (k:=mR (k:=jl Tryz.underlying26 (k:=iL (k:=nl ?_))))))
 rcases ei H with ⟨h4,H⟩|⟨h4,H⟩
 ·refine an (df h4) ?_
  refine ex (s2 (mW (k:=mW (k:=nl (rt ?_)))))
  cases H
  exact RetP.mk (fun κ=>cond (Nat.beq κ 100) 202 (κ)) ⟨rfl,trivial⟩ ⟨rfl,trivial⟩ rfl
 refine ay (dt h4) ?_
 refine sp (sq (bk (rg (mW (k:=mI (k:=mR (k:=mI (k:=?_))))))))
 obtain ⟨h5,H⟩:=io H
 refine ixx ⟨h5,h4⟩ T67 Tryz.underlying26 (R66 h5 h4) (k:=ov (.agg [_,_,_]) T67 (k:=?_))
 obtain ⟨⟨t6,t7,t8⟩,e9,H⟩:=bo H
 refine cl (.agg [.d (.v (.string t6)),.d (.v (.int .i64 t7)),.d (.v (.int .i64 t8))]) rfl (laws_toVeneer.ok e9) (qg qn) (k:=?_)
 obtain ⟨h10,H⟩:=io H
 refine ji ⟨h5,h10⟩ T76 Tryz.underlying41 (k:=?_)
 refine a_stF (css':=(x3.set (x4:Int).toNat (⟨t6,t7,t8⟩:S66)).map c66) ?_ (flat_map (fun _=>rfl)) (G66 h5 h10) T76 (hcss:=by exact set_map rfl)
 refine nl (rg (mI (k:=iA (k:=mI (k:=nl ?_)))))
 exact AGr.canon id (ih0 _ (by omega) _ ⟨by omega,_,_,_,H,rfl⟩) ⟨rfl,(ownE rfl (by simp)),rfl,trivial⟩ ⟨rfl,trivial⟩ rfl
def laws_toPicture.f (k:Nat) (a0_0 a0_1:Int) (l0_2:List S142) (l0_3:List S154) (l0_4:List S66):Option (Int×Int×(List S142)×(List S154)×(List S66)):=(laws_toDrawing.f k a0_0 a0_1 l0_2 l0_3).bind fun bt1=>((laws_toVeneerS.f k l0_4).bind fun t6=>(some (bt1.1,bt1.2.1,bt1.2.2.1,bt1.2.2.2,t6)))
theorem laws_toPicture.ok {k:Nat} {a0_0 a0_1:Int} {l0_2:List S142} {l0_3:List S154} {l0_4:List S66} {r0 r1:Int} {r2:List S142} {r3:List S154} {r4:List S66} (H:laws_toPicture.f k a0_0 a0_1 l0_2 l0_3 l0_4=some (r0,r1,r2,r3,r4)):OkF Tryz.prog 9 [.agg [cI a0_0,cI a0_1,.d (.row 157 (l0_2.map c142)),.d (.row 155 (l0_3.map c154)),.d (.row 67 (l0_4.map c66))]] [] (.agg [cI r0,cI r1,.own 100 r2.length,.own 101 r3.length,.own 102 r4.length]) [(100,.row 143 (r2.map c142)),(101,.row 158 (r3.map c154)),(102,.row 76 (r4.map c66))]:=by
 unfold laws_toPicture.f at H
 refine OkF.ofB (N:=13) (t:=2) (ty:=43) (av := .agg [.d (.v (.int .i64 r0)),.d (.v (.int .i64 r1)),.own 100 r2.length,.own 101 r3.length,.own 102 r4.length]) Tryz.func9 rfl rfl rfl rfl (by decide) rfl rfl (fun w0 S=>?_)
 refine s2 (jb 200 (k:=ja (cs:=[_,_,_,_,_]) 201 T43 (k:=nl (s2 (ja (cs:=[_,_,_,_,_]) 202 T43 (k:=nl (s2 (fB 0 D28_0 (k:=lv (.agg [_,_,_,_]) T25 (k:=?_))))))))))
 obtain ⟨⟨t1,t2,t3,t4⟩,e5,H⟩:=bo H
 refine a_call (v := .agg [.d (.v (.int .i64 t1)),.d (.v (.int .i64 t2)),.own 203 t3.length,.own 204 t4.length]) (nk:=[(203,.row 143 (t3.map c142)),(204,.row 158 (t4.map c154))]) (L:=[]) ?_ rfl (laws_toDrawing.ok e5) (fun κ=>cond (Nat.beq κ 203) 100 (cond (Nat.beq κ 204) 101 (κ))) (qg qn) trivial ⟨rfl,rfl,trivial⟩ ⟨rfl,rfl,trivial⟩ rfl
 refine fB 0 D43_0 (k:=js (cs':=[_,_,_,_,_]) T40 (k:=nl (s2 (fB 4 D28_1 (k:=lR T26 (k:=?_))))))
 obtain ⟨t6,e7,H⟩:=bo H
 refine a_call (v := .c (.own 205 t6.length)) (nk:=[(205,.row 76 (t6.map c66))]) (L:=[]) ?_ rfl (laws_toVeneerS.ok e7) (fun κ=>cond (Nat.beq κ 205) 100 (κ)) (qd qn) trivial ⟨rfl,trivial⟩ ⟨rfl,trivial⟩ rfl
 refine fB 4 D43_1 (k:=js (cs':=[_,_,_,_,_]) T41 (k:=nl (s2 (lv (.agg [_,_,_,_,_]) T43 (k:=js (cs':=[_,_,_,_,_]) T43 (k:=nl (rt ?_)))))))
 simp only [Option.some.injEq,Prod.mk.injEq] at H
 obtain ⟨rfl,rfl,rfl,rfl,rfl⟩:=H
 exact RetB.mk T43 rfl rfl rfl (RetP.mk (fun κ=>cond (Nat.beq κ 100) 203 (cond (Nat.beq κ 101) 204 (cond (Nat.beq κ 102) 205 (κ)))) ⟨rfl,trivial⟩ ⟨rfl,rfl,rfl,trivial⟩ rfl)
def laws_toBox.f (a0_0 a0_1 a0_2 a0_3:Int):Option (Int×Int×Int×Int):=some (a0_0,a0_1,a0_2,a0_3)
theorem laws_toBox.ok {a0_0 a0_1 a0_2 a0_3 r0 r1 r2 r3:Int} (H:laws_toBox.f a0_0 a0_1 a0_2 a0_3=some (r0,r1,r2,r3)):OkF Tryz.prog 96 [.agg [cI a0_0,cI a0_1,cI a0_2,cI a0_3]] [] (.agg [cI r0,cI r1,cI r2,cI r3]) []:=by
 unfold laws_toBox.f at H
 refine OkF.ofB (N:=17) (t:=2) (ty:=147) (av := .agg [.d (.v (.int .i64 r0)),.d (.v (.int .i64 r1)),.d (.v (.int .i64 r2)),.d (.v (.int .i64 r3))]) Tryz.func96 rfl rfl rfl rfl (by decide) rfl rfl (fun w0 S=>?_)
 refine s2 (jb 200 (k:=ja (cs:=[_,_,_,_]) 201 T147 (k:=nl (s2 (ja (cs:=[_,_,_,_]) 202 T147 (k:=nl (s2 (fB 0 D161_0 (k:=lI T2 (k:=fB 0 D147_0 (k:=js (cs':=[_,_,_,_]) T2 (k:=nl (s2 (fB 1 D161_1 (k:=lI T2 (k:=fB 1 D147_1 (k:=js (cs':=[_,_,_,_]) T2 (k:=nl (s2 (fB 2 D161_2 (k:=lI T2 (k:=fB 2 D147_2 (k:=js (cs':=[_,_,_,_]) T2 (k:=nl (s2 (fB 3 D161_3 (k:=lI T2 (k:=fB 3 D147_3 (k:=js (cs':=[_,_,_,_]) T2 (k:=nl (s2 (lv (.agg [_,_,_,_]) T147 (k:=?_)))))))))))))))))))))))))))))))))
 refine js (cs':=[_,_,_,_]) T147 (k:=nl (rt ?_))
 simp only [Option.some.injEq,Prod.mk.injEq] at H
 obtain ⟨rfl,rfl,rfl,rfl⟩:=H
 exact RetB.mk T147 rfl rfl rfl (RetP.mk id ⟨rfl,trivial⟩ trivial rfl)
def laws_toBoxS.l0:Nat→List S146→List S146→Int→Option ((List S146))
 | 0,_,_,_=>none
 | k+1,x0,x3,x4=>if x4 < (x0.length:Int) then (if 0≤x4 then ((laws_toBox.f ((rd146 x0 x4).f0) ((rd146 x0 x4).f1) ((rd146 x0 x4).f2) ((rd146 x0 x4).f3)).bind fun bt6=>(if x4 < (x3.length:Int) then (laws_toBoxS.l0 k x0 (x3.set (x4:Int).toNat (⟨bt6.1,bt6.2.1,bt6.2.2.1,bt6.2.2.2⟩:S146)) (wrap64 (x4+1))) else (none))) else (none)) else (some x3)
def laws_toBoxS.f (k:Nat) (l0:List S146):Option ((List S146)):=if 0≤(l0.length:Int) then (if ((l0.length:Int):Int).toNat≤8796093022208 then (laws_toBoxS.l0 k l0 (List.replicate (((l0.length:Int):Int).toNat) z146) 0) else (none)) else (none)
theorem laws_toBoxS.ok {k:Nat} {l0 r:List S146} (H:laws_toBoxS.f k l0=some r):OkF Tryz.prog 63 [vR 161 (l0.map c146)] [] (.c (.own 100 r.length)) [(100,.row 147 (r.map c146))]:=by
 unfold laws_toBoxS.f at H
 refine o1 23 2 Tryz.func63 fun w0 S=>?_
 refine s2 (jn (e:=147) 200 T147 (k:=nl (s2 (mR (k:=jl Tryz.underlying68 (k:=?_))))))
 obtain ⟨h1,H⟩:=io H
 obtain ⟨h2,H⟩:=io H
 refine a_make (n:=(l0.length:Int)) (css:=(List.replicate (((l0.length:Int):Int).toNat) z146).map c146) 201 ?_ N77 T147 (zV (zV (zV (zV zN)))) h1 (by omega) (by omega) (hcss:=by exact rep_map rfl)
 refine mW (k:=nl (sq (s2 (mI (k:=nl (bk (lp ?_)))))))
 obtain ⟨K0,hK0,gK0⟩:=kk k
 refine AGr.canon (fun κ=>cond (Nat.beq κ 202) 201 (κ)) (AGr.loopI (n:=k) (fun k s=>k≤K0∧∃ x0 x3 x4,laws_toBoxS.l0 k x0 x3 x4=some r∧s=St.of [(0,vR 161 (x0.map c146)),(3,.c (.own 202 x3.length)),(4,vI x4)] [(202,.row 147 (x3.map c146))]) ⟨hK0,_,_,_,H,rfl⟩ ?_ ?_) ⟨rfl,(ownE rfl (by simp)),rfl,trivial⟩ ⟨rfl,trivial⟩ rfl
 ·rintro _ ⟨_,_,_,_,H,_⟩
  cases H
 clear H hK0
 rintro k ih0 _ ⟨hK0,x0,x3,x4,H,rfl⟩
 unfold laws_toBoxS.l0 at H
 refine sq (s2 (mI (k:=mR (k:=jl Tryz.underlying68 (k:=iL (k:=nl ?_))))))
 rcases ei H with ⟨h4,H⟩|⟨h4,H⟩
 ·refine an (df h4) ?_
  refine ex (s2 (mW (k:=mW (k:=nl (rt ?_)))))
  cases H
  exact RetP.mk (fun κ=>cond (Nat.beq κ 100) 202 (κ)) ⟨rfl,trivial⟩ ⟨rfl,trivial⟩ rfl
 refine ay (dt h4) ?_
 refine sp (sq (bk (rg (mW (k:=mI (k:=mR (k:=mI (k:=?_))))))))
 obtain ⟨h5,H⟩:=io H
 refine ixx ⟨h5,h4⟩ T161 Tryz.underlying68 (R146 h5 h4) (k:=ov (.agg [_,_,_,_]) T161 (k:=?_))
 obtain ⟨⟨t6,t7,t8,t9⟩,e10,H⟩:=bo H
 refine cl (.agg [.d (.v (.int .i64 t6)),.d (.v (.int .i64 t7)),.d (.v (.int .i64 t8)),.d (.v (.int .i64 t9))]) rfl (laws_toBox.ok e10) (qg qn) (k:=?_)
 obtain ⟨h11,H⟩:=io H
 refine ji ⟨h5,h11⟩ T147 Tryz.underlying77 (k:=?_)
 refine a_stF (css':=(x3.set (x4:Int).toNat (⟨t6,t7,t8,t9⟩:S146)).map c146) ?_ (flat_map (fun _=>rfl)) (G146 h5 h11) T147 (hcss:=by exact set_map rfl)
 refine nl (rg (mI (k:=iA (k:=mI (k:=nl ?_)))))
 exact AGr.canon id (ih0 _ (by omega) _ ⟨by omega,_,_,_,H,rfl⟩) ⟨rfl,(ownE rfl (by simp)),rfl,trivial⟩ ⟨rfl,trivial⟩ rfl
def laws_toLeaf.f (k:Nat) (a0_0 a0_1:ByteArray) (a0_2:Int) (a0_3:ByteArray) (a0_4 a0_5 a0_6 a0_7:Int) (l0_8:List S146):Option (ByteArray×ByteArray×Int×ByteArray×Int×Int×Int×Int×(List S146)):=(laws_toVeneer.f a0_3 a0_4 a0_5).bind fun bt1=>((laws_toBoxS.f k l0_8).bind fun t5=>(some (a0_0,a0_1,a0_2,bt1.1,bt1.2.1,bt1.2.2,a0_6,a0_7,t5)))
theorem laws_toLeaf.ok {k:Nat} {a0_0 a0_1:ByteArray} {a0_2:Int} {a0_3:ByteArray} {a0_4 a0_5 a0_6 a0_7:Int} {l0_8:List S146} {r0 r1:ByteArray} {r2:Int} {r3:ByteArray} {r4 r5 r6 r7:Int} {r8:List S146} (H:laws_toLeaf.f k a0_0 a0_1 a0_2 a0_3 a0_4 a0_5 a0_6 a0_7 l0_8=some (r0,r1,r2,r3,r4,r5,r6,r7,r8)):OkF Tryz.prog 31 [.agg [cS a0_0,cS a0_1,cI a0_2,cS a0_3,cI a0_4,cI a0_5,cI a0_6,cI a0_7,.d (.row 161 (l0_8.map c146))]] [] (.agg [cS r0,cS r1,cI r2,cS r3,cI r4,cI r5,cI r6,cI r7,.own 100 r8.length]) [(100,.row 147 (r8.map c146))]:=by
 unfold laws_toLeaf.f at H
 refine OkF.ofB (N:=28) (t:=2) (ty:=79) (av := .agg [.d (.v (.string r0)),.d (.v (.string r1)),.d (.v (.int .i64 r2)),.d (.v (.string r3)),.d (.v (.int .i64 r4)),.d (.v (.int .i64 r5)),.d (.v (.int .i64 r6)),.d (.v (.int .i64 r7)),.own 100 r8.length]) Tryz.func31 rfl rfl rfl rfl (by decide) rfl rfl (fun w0 S=>?_)
 refine s2 (jb 200 (k:=ja (cs:=[_,_,_,_,_,_,_,_,_]) 201 T79 (k:=nl (s2 (ja (cs:=[_,_,_,_,_,_,_,_,_]) 202 T79 (k:=nl (s2 (fB 0 D70_0 (k:=lv (vS _) T9 (k:=fB 0 D79_0 (k:=js (cs':=[_,_,_,_,_,_,_,_,_]) T9 (k:=nl (s2 (fB 1 D70_1 (k:=lv (vS _) T9 (k:=fB 1 D79_1 (k:=js (cs':=[_,_,_,_,_,_,_,_,_]) T9 (k:=nl (s2 (fB 2 D70_2 (k:=lI T2 (k:=fB 2 D79_2 (k:=js (cs':=[_,_,_,_,_,_,_,_,_]) T2 (k:=nl (s2 (fB 3 D70_3 (k:=lv (.agg [_,_,_]) T67 (k:=?_))))))))))))))))))))))))))))
 obtain ⟨⟨t1,t2,t3⟩,e4,H⟩:=bo H
 refine cl (.agg [.d (.v (.string t1)),.d (.v (.int .i64 t2)),.d (.v (.int .i64 t3))]) rfl (laws_toVeneer.ok e4) (qg qn) (k:=fB 3 D79_3 (k:=js (cs':=[_,_,_,_,_,_,_,_,_]) T76 (k:=nl (s2 (fB 6 D70_4 (k:=lI T2 (k:=fB 6 D79_4 (k:=js (cs':=[_,_,_,_,_,_,_,_,_]) T2 (k:=nl (s2 (fB 7 D70_5 (k:=lI T2 (k:=fB 7 D79_5 (k:=js (cs':=[_,_,_,_,_,_,_,_,_]) T2 (k:=nl (s2 (fB 8 D70_6 (k:=lR T68 (k:=?_)))))))))))))))))))
 obtain ⟨t5,e6,H⟩:=bo H
 refine a_call (v := .c (.own 204 t5.length)) (nk:=[(204,.row 147 (t5.map c146))]) (L:=[]) ?_ rfl (laws_toBoxS.ok e6) (fun κ=>cond (Nat.beq κ 204) 100 (κ)) (qd qn) trivial ⟨rfl,trivial⟩ ⟨rfl,trivial⟩ rfl
 refine fB 8 D79_6 (k:=js (cs':=[_,_,_,_,_,_,_,_,_]) T77 (k:=nl (s2 (lv (.agg [_,_,_,_,_,_,_,_,_]) T79 (k:=js (cs':=[_,_,_,_,_,_,_,_,_]) T79 (k:=nl (rt ?_)))))))
 simp only [Option.some.injEq,Prod.mk.injEq] at H
 obtain ⟨rfl,rfl,rfl,rfl,rfl,rfl,rfl,rfl,rfl⟩:=H
 exact RetB.mk T79 rfl rfl rfl (RetP.mk (fun κ=>cond (Nat.beq κ 100) 204 (κ)) ⟨rfl,trivial⟩ ⟨rfl,trivial⟩ rfl)
def laws_toLeafS.l0:Nat→List S69→List S78→Int→Option ((List S78))
 | 0,_,_,_=>none
 | k+1,x0,x3,x4=>if x4 < (x0.length:Int) then (if 0≤x4 then ((laws_toLeaf.f k ((rd69 x0 x4).f0) ((rd69 x0 x4).f1) ((rd69 x0 x4).f2) ((rd69 x0 x4).f3.f0) ((rd69 x0 x4).f3.f1) ((rd69 x0 x4).f3.f2) ((rd69 x0 x4).f4) ((rd69 x0 x4).f5) ((rd69 x0 x4).f6)).bind fun bt6=>(if x4 < (x3.length:Int) then (laws_toLeafS.l0 k x0 (x3.set (x4:Int).toNat (⟨bt6.1,bt6.2.1,bt6.2.2.1,(⟨bt6.2.2.2.1,bt6.2.2.2.2.1,bt6.2.2.2.2.2.1⟩:S66),bt6.2.2.2.2.2.2.1,bt6.2.2.2.2.2.2.2.1,bt6.2.2.2.2.2.2.2.2⟩:S78)) (wrap64 (x4+1))) else (none))) else (none)) else (some x3)
def laws_toLeafS.f (k:Nat) (l0:List S69):Option ((List S78)):=if 0≤(l0.length:Int) then (if ((l0.length:Int):Int).toNat≤2513169434916 then (laws_toLeafS.l0 k l0 (List.replicate (((l0.length:Int):Int).toNat) z78) 0) else (none)) else (none)
theorem laws_toLeafS.ok {k:Nat} {l0:List S69} {r:List S78} (H:laws_toLeafS.f k l0=some r):OkF Tryz.prog 10 [vR 70 (l0.map c69)] [] (.c (.own 100 r.length)) [(100,.row 79 (r.map c78))]:=by
 unfold laws_toLeafS.f at H
 refine o1 23 2 Tryz.func10 fun w0 S=>?_
 refine s2 (jn (e:=79) 200 T79 (k:=nl (s2 (mR (k:=jl Tryz.underlying29 (k:=?_))))))
 obtain ⟨h1,H⟩:=io H
 obtain ⟨h2,H⟩:=io H
 refine a_make (n:=(l0.length:Int)) (css:=(List.replicate (((l0.length:Int):Int).toNat) z78).map c78) 201 ?_ N45 T79 (zV (zV (zV (zV (zV (zV (zV (zV (zR T147 zN))))))))) h1 (by omega) (by omega) (hcss:=by exact rep_map rfl)
 refine mW (k:=nl (sq (s2 (mI (k:=nl (bk (lp ?_)))))))
 obtain ⟨K0,hK0,gK0⟩:=kk k
 refine AGr.canon (fun κ=>cond (Nat.beq κ 202) 201 (κ)) (AGr.loopI (n:=k) (fun k s=>k≤K0∧∃ x0 x3 x4,laws_toLeafS.l0 k x0 x3 x4=some r∧s=St.of [(0,vR 70 (x0.map c69)),(3,.c (.own 202 x3.length)),(4,vI x4)] [(202,.row 79 (x3.map c78))]) ⟨hK0,_,_,_,H,rfl⟩ ?_ ?_) ⟨rfl,(ownE rfl (by simp)),rfl,trivial⟩ ⟨rfl,trivial⟩ rfl
 ·rintro _ ⟨_,_,_,_,H,_⟩
  cases H
 clear H hK0
 rintro k ih0 _ ⟨hK0,x0,x3,x4,H,rfl⟩
 unfold laws_toLeafS.l0 at H
 refine sq (s2 (mI (k:=mR (k:=jl Tryz.underlying29 (k:=iL (k:=nl ?_))))))
 rcases ei H with ⟨h4,H⟩|⟨h4,H⟩
 ·refine an (df h4) ?_
  refine ex (s2 (mW (k:=mW (k:=nl (rt ?_)))))
  cases H
  exact RetP.mk (fun κ=>cond (Nat.beq κ 100) 202 (κ)) ⟨rfl,trivial⟩ ⟨rfl,trivial⟩ rfl
 refine ay (dt h4) ?_
 refine sp (sq (bk (rg (mW (k:=mI (k:=mR (k:=mI (k:=?_))))))))
 obtain ⟨h5,H⟩:=io H
 refine ixx ⟨h5,h4⟩ T70 Tryz.underlying29 (R69 h5 h4) (k:=ov (.agg [_,_,_,_,_,_,_,_,_]) T70 (k:=?_))
 obtain ⟨⟨t6,t7,t8,t9,t10,t11,t12,t13,t14⟩,e15,H⟩:=bo H
 refine a_call (v := .agg [.d (.v (.string t6)),.d (.v (.string t7)),.d (.v (.int .i64 t8)),.d (.v (.string t9)),.d (.v (.int .i64 t10)),.d (.v (.int .i64 t11)),.d (.v (.int .i64 t12)),.d (.v (.int .i64 t13)),.own 203 t14.length]) (nk:=[(203,.row 147 (t14.map c146))]) (L:=[]) ?_ rfl (laws_toLeaf.ok e15) (fun κ=>cond (Nat.beq κ 203) 100 (κ)) (qg qn) trivial ⟨rfl,trivial⟩ ⟨rfl,trivial⟩ rfl
 obtain ⟨h16,H⟩:=io H
 refine ji ⟨h5,h16⟩ T79 Tryz.underlying45 (k:=?_)
 refine a_stE (D:=[203]) (css':=(x3.set (x4:Int).toNat (⟨t6,t7,t8,(⟨t9,t10,t11⟩:S66),t12,t13,t14⟩:S78)).map c78) ?_ (G78 h5 h16) T79 (hcss:=by exact set_map rfl)
 refine nl (rg (mI (k:=iA (k:=mI (k:=nl ?_)))))
 exact AGr.canon id (ih0 _ (by omega) _ ⟨by omega,_,_,_,H,rfl⟩) ⟨rfl,(ownE rfl (by simp)),rfl,trivial⟩ ⟨rfl,trivial⟩ rfl
def laws_toPlacement.f (a0_0 a0_1 a0_2 a0_3 a0_4:Int):Option (Int×Int×Int×Int×Int):=some (a0_0,a0_1,a0_2,a0_3,a0_4)
theorem laws_toPlacement.ok {a0_0 a0_1 a0_2 a0_3 a0_4 r0 r1 r2 r3 r4:Int} (H:laws_toPlacement.f a0_0 a0_1 a0_2 a0_3 a0_4=some (r0,r1,r2,r3,r4)):OkF Tryz.prog 32 [.agg [cI a0_0,cI a0_1,cI a0_2,cI a0_3,cI a0_4]] [] (.agg [cI r0,cI r1,cI r2,cI r3,cI r4]) []:=by
 unfold laws_toPlacement.f at H
 refine OkF.ofB (N:=20) (t:=2) (ty:=82) (av := .agg [.d (.v (.int .i64 r0)),.d (.v (.int .i64 r1)),.d (.v (.int .i64 r2)),.d (.v (.int .i64 r3)),.d (.v (.int .i64 r4))]) Tryz.func32 rfl rfl rfl rfl (by decide) rfl rfl (fun w0 S=>?_)
 refine s2 (jb 200 (k:=ja (cs:=[_,_,_,_,_]) 201 T82 (k:=nl (s2 (ja (cs:=[_,_,_,_,_]) 202 T82 (k:=nl (s2 (fB 0 D84_0 (k:=lI T2 (k:=fB 0 D82_0 (k:=js (cs':=[_,_,_,_,_]) T2 (k:=nl (s2 (fB 1 D84_1 (k:=lI T2 (k:=fB 1 D82_1 (k:=js (cs':=[_,_,_,_,_]) T2 (k:=nl (s2 (fB 2 D84_2 (k:=lI T2 (k:=fB 2 D82_2 (k:=js (cs':=[_,_,_,_,_]) T2 (k:=nl (s2 (fB 3 D84_3 (k:=lI T2 (k:=fB 3 D82_3 (k:=js (cs':=[_,_,_,_,_]) T2 (k:=nl (s2 (fB 4 D84_4 (k:=?_)))))))))))))))))))))))))))))))))
 refine lI T2 (k:=fB 4 D82_4 (k:=js (cs':=[_,_,_,_,_]) T2 (k:=nl (s2 (lv (.agg [_,_,_,_,_]) T82 (k:=js (cs':=[_,_,_,_,_]) T82 (k:=nl (rt ?_))))))))
 simp only [Option.some.injEq,Prod.mk.injEq] at H
 obtain ⟨rfl,rfl,rfl,rfl,rfl⟩:=H
 exact RetB.mk T82 rfl rfl rfl (RetP.mk id ⟨rfl,trivial⟩ trivial rfl)
def laws_toPlacementS.l0:Nat→List S81→List S81→Int→Option ((List S81))
 | 0,_,_,_=>none
 | k+1,x0,x3,x4=>if x4 < (x0.length:Int) then (if 0≤x4 then ((laws_toPlacement.f ((rd81 x0 x4).f0) ((rd81 x0 x4).f1) ((rd81 x0 x4).f2) ((rd81 x0 x4).f3) ((rd81 x0 x4).f4)).bind fun bt6=>(if x4 < (x3.length:Int) then (laws_toPlacementS.l0 k x0 (x3.set (x4:Int).toNat (⟨bt6.1,bt6.2.1,bt6.2.2.1,bt6.2.2.2.1,bt6.2.2.2.2⟩:S81)) (wrap64 (x4+1))) else (none))) else (none)) else (some x3)
def laws_toPlacementS.f (k:Nat) (l0:List S81):Option ((List S81)):=if 0≤(l0.length:Int) then (if ((l0.length:Int):Int).toNat≤7036874417766 then (laws_toPlacementS.l0 k l0 (List.replicate (((l0.length:Int):Int).toNat) z81) 0) else (none)) else (none)
theorem laws_toPlacementS.ok {k:Nat} {l0 r:List S81} (H:laws_toPlacementS.f k l0=some r):OkF Tryz.prog 11 [vR 84 (l0.map c81)] [] (.c (.own 100 r.length)) [(100,.row 82 (r.map c81))]:=by
 unfold laws_toPlacementS.f at H
 refine o1 23 2 Tryz.func11 fun w0 S=>?_
 refine s2 (jn (e:=82) 200 T82 (k:=nl (s2 (mR (k:=jl Tryz.underlying30 (k:=?_))))))
 obtain ⟨h1,H⟩:=io H
 obtain ⟨h2,H⟩:=io H
 refine a_make (n:=(l0.length:Int)) (css:=(List.replicate (((l0.length:Int):Int).toNat) z81).map c81) 201 ?_ N47 T82 (zV (zV (zV (zV (zV zN))))) h1 (by omega) (by omega) (hcss:=by exact rep_map rfl)
 refine mW (k:=nl (sq (s2 (mI (k:=nl (bk (lp ?_)))))))
 obtain ⟨K0,hK0,gK0⟩:=kk k
 refine AGr.canon (fun κ=>cond (Nat.beq κ 202) 201 (κ)) (AGr.loopI (n:=k) (fun k s=>k≤K0∧∃ x0 x3 x4,laws_toPlacementS.l0 k x0 x3 x4=some r∧s=St.of [(0,vR 84 (x0.map c81)),(3,.c (.own 202 x3.length)),(4,vI x4)] [(202,.row 82 (x3.map c81))]) ⟨hK0,_,_,_,H,rfl⟩ ?_ ?_) ⟨rfl,(ownE rfl (by simp)),rfl,trivial⟩ ⟨rfl,trivial⟩ rfl
 ·rintro _ ⟨_,_,_,_,H,_⟩
  cases H
 clear H hK0
 rintro k ih0 _ ⟨hK0,x0,x3,x4,H,rfl⟩
 unfold laws_toPlacementS.l0 at H
 refine sq (s2 (mI (k:=mR (k:=jl Tryz.underlying30 (k:=iL (k:=nl ?_))))))
 rcases ei H with ⟨h4,H⟩|⟨h4,H⟩
 ·refine an (df h4) ?_
  refine ex (s2 (mW (k:=mW (k:=nl (rt ?_)))))
  cases H
  exact RetP.mk (fun κ=>cond (Nat.beq κ 100) 202 (κ)) ⟨rfl,trivial⟩ ⟨rfl,trivial⟩ rfl
 refine ay (dt h4) ?_
 refine sp (sq (bk (rg (mW (k:=mI (k:=mR (k:=mI (k:=?_))))))))
 obtain ⟨h5,H⟩:=io H
 refine ixx ⟨h5,h4⟩ T84 Tryz.underlying30 (R81 h5 h4) (k:=ov (.agg [_,_,_,_,_]) T84 (k:=?_))
 obtain ⟨⟨t6,t7,t8,t9,t10⟩,e11,H⟩:=bo H
 refine cl (.agg [.d (.v (.int .i64 t6)),.d (.v (.int .i64 t7)),.d (.v (.int .i64 t8)),.d (.v (.int .i64 t9)),.d (.v (.int .i64 t10))]) rfl (laws_toPlacement.ok e11) (qg qn) (k:=?_)
 obtain ⟨h12,H⟩:=io H
 refine ji ⟨h5,h12⟩ T82 Tryz.underlying47 (k:=?_)
 refine a_stF (css':=(x3.set (x4:Int).toNat (⟨t6,t7,t8,t9,t10⟩:S81)).map c81) ?_ (flat_map (fun _=>rfl)) (G81 h5 h12) T82 (hcss:=by exact set_map rfl)
 refine nl (rg (mI (k:=iA (k:=mI (k:=nl ?_)))))
 exact AGr.canon id (ih0 _ (by omega) _ ⟨by omega,_,_,_,H,rfl⟩) ⟨rfl,(ownE rfl (by simp)),rfl,trivial⟩ ⟨rfl,trivial⟩ rfl
def laws_toRules.f (a0_0 a0_1 a0_2 a0_3:Int):Option (Int×Int×Int×Int):=some (a0_0,a0_1,a0_2,a0_3)
theorem laws_toRules.ok {a0_0 a0_1 a0_2 a0_3 r0 r1 r2 r3:Int} (H:laws_toRules.f a0_0 a0_1 a0_2 a0_3=some (r0,r1,r2,r3)):OkF Tryz.prog 12 [.agg [cI a0_0,cI a0_1,cI a0_2,cI a0_3]] [] (.agg [cI r0,cI r1,cI r2,cI r3]) []:=by
 unfold laws_toRules.f at H
 refine OkF.ofB (N:=17) (t:=2) (ty:=49) (av := .agg [.d (.v (.int .i64 r0)),.d (.v (.int .i64 r1)),.d (.v (.int .i64 r2)),.d (.v (.int .i64 r3))]) Tryz.func12 rfl rfl rfl rfl (by decide) rfl rfl (fun w0 S=>?_)
 refine s2 (jb 200 (k:=ja (cs:=[_,_,_,_]) 201 T49 (k:=nl (s2 (ja (cs:=[_,_,_,_]) 202 T49 (k:=nl (s2 (fB 0 D32_0 (k:=lI T2 (k:=fB 0 D49_0 (k:=js (cs':=[_,_,_,_]) T2 (k:=nl (s2 (fB 1 D32_1 (k:=lI T2 (k:=fB 1 D49_1 (k:=js (cs':=[_,_,_,_]) T2 (k:=nl (s2 (fB 2 D32_2 (k:=lI T2 (k:=fB 2 D49_2 (k:=js (cs':=[_,_,_,_]) T2 (k:=nl (s2 (fB 3 D32_3 (k:=lI T2 (k:=fB 3 D49_3 (k:=js (cs':=[_,_,_,_]) T2 (k:=nl (s2 (lv (.agg [_,_,_,_]) T49 (k:=?_)))))))))))))))))))))))))))))))))
 refine js (cs':=[_,_,_,_]) T49 (k:=nl (rt ?_))
 simp only [Option.some.injEq,Prod.mk.injEq] at H
 obtain ⟨rfl,rfl,rfl,rfl⟩:=H
 exact RetB.mk T49 rfl rfl rfl (RetP.mk id ⟨rfl,trivial⟩ trivial rfl)
def impl_within.f (a0 a1 a2:Int):Option (Bool):=if a0≥a1 then (some (decide (a0≤a2))) else (some false)
theorem impl_within.ok {a0 a1 a2:Int} {r:Bool} (H:impl_within.f a0 a1 a2=some r):OkF Tryz.prog 81 [vI a0,vI a1,vI a2] [] (vB r) []:=by
 unfold impl_within.f at H
 refine o1 15 6 Tryz.func81 fun w0 S=>?_
 refine s2 (mB (k:=nl (s2 (mI (k:=mI (k:=iE (k:=mB (k:=?_))))))))
 rcases ei H with ⟨h1,H⟩|⟨h1,H⟩
 ·iterate 3 refine sk (df h1) (k:=?_)
  cases H
  exact qB (df h1) (k:=mB (k:=nl (rt r1)))
 cases H
 exact mI (hg:=gy (dt h1)) (k:=mI (hg:=gy (dt h1)) (k:=iQ (hg:=gy (dt h1)) (k:=pB (dt h1) (k:=mB (k:=nl (rt r1))))))
def slices_Index_impl_Point.l0:Nat→List S142→Int→Int→Int→Int→Option (Int)
 | 0,_,_,_,_,_=>none
 | k+1,x0,y201_0,y201_1,x7,x8=>if x8 < x7 then (if 0≤x8 then (if x8 < (x0.length:Int) then (if (y201_0 == ((rd142 x0 x8).f0) && (y201_1 == ((rd142 x0 x8).f1)))=true then (some x8) else (slices_Index_impl_Point.l0 k x0 y201_0 y201_1 x7 (wrap64 (x8+1)))) else (none)) else (none)) else (some (-1))
def slices_Index_impl_Point.f (k:Nat) (l0:List S142) (a1_0 a1_1:Int):Option (Int):=slices_Index_impl_Point.l0 k l0 a1_0 a1_1 (l0.length:Int) 0
theorem slices_Index_impl_Point.ok {k:Nat} {l0:List S142} {a1_0 a1_1 r:Int} (H:slices_Index_impl_Point.f k l0 a1_0 a1_1=some r):OkF Tryz.prog 149 [vR 143 (l0.map c142),.agg [cI a1_0,cI a1_1]] [] (vI r) []:=by
 unfold slices_Index_impl_Point.f at H
 refine o1 19 4 Tryz.func149 fun w0 S=>?_
 refine s2 (jb 200 (k:=mI (k:=nl (sq (s2 (mR (k:=jl Tryz.underlying37 (k:=mI (k:=nl (bk (lp ?_)))))))))))
 obtain ⟨K0,hK0,gK0⟩:=kk k
 refine AGr.canon (fun κ=>cond (Nat.beq κ 201) 200 (κ)) (AGr.loopI (n:=k) (fun k s=>k≤K0∧∃ x0 y201_0 y201_1 x7 x8,slices_Index_impl_Point.l0 k x0 y201_0 y201_1 x7 x8=some r∧s=St.of [(0,vR 143 (x0.map c142)),(3,.c (.ptr 201 0)),(7,vI x7),(8,vI x8)] [(201,.box 143 [.d (.v (.int .i64 y201_0)),.d (.v (.int .i64 y201_1))])]) ⟨hK0,_,_,_,_,_,H,rfl⟩ ?_ ?_) ⟨rfl,rfl,rfl,rfl,trivial⟩ ⟨rfl,trivial⟩ rfl
 ·rintro _ ⟨_,_,_,_,_,_,H,_⟩
  cases H
 clear H hK0
 rintro k ih0 _ ⟨hK0,x0,y201_0,y201_1,x7,x8,H,rfl⟩
 unfold slices_Index_impl_Point.l0 at H
 refine s2 (iL (k:=nl (sq ?_)))
 rcases ei H with ⟨h1,H⟩|⟨h1,H⟩
 ·refine an (df h1) ?_
  cases H
  exact ex (s2 (mI (k:=nl (rt r1))))
 refine ay (dt h1) ?_
 refine sp (sq (bk (s2 (mI (k:=mI (k:=nl (s2 (lP T143 (k:=mR (k:=mI (k:=?_)))))))))))
 obtain ⟨h2,H⟩:=io H
 obtain ⟨h3,H⟩:=io H
 refine ixx ⟨h2,h3⟩ T143 Tryz.underlying37 (R142 h2 h3) (k:=oP T143 (k:=?_))
 refine a_eqS (b:=(y201_0 == ((rd142 x0 x8).f0) && (y201_1 == ((rd142 x0 x8).f1)))) ?_ (.inl ⟨rfl,rfl⟩) (Q143 y201_0 ((rd142 x0 x8).f0) y201_1 ((rd142 x0 x8).f1)).1
 refine RA.nil (fun _=>by kernel_rfl) ?_
 rcases ie H with ⟨h4,H⟩|⟨h4,H⟩
 ·refine ay h4 ?_
  cases H
  exact s2 (mI (k:=mI (k:=nl (rt r1))))
 refine an (bf h4) ?_
 refine sp (rg (iA (k:=mI (k:=nl ?_))))
 exact AGr.canon id (ih0 _ (by omega) _ ⟨by omega,_,_,_,_,_,H,rfl⟩) ⟨rfl,rfl,rfl,rfl,trivial⟩ ⟨rfl,trivial⟩ rfl
def slices_Contains_impl_Point.f (k:Nat) (l0:List S142) (a1_0 a1_1:Int):Option (Bool):=(slices_Index_impl_Point.f k l0 a1_0 a1_1).bind fun t1=>(some (decide (t1≥0)))
theorem slices_Contains_impl_Point.ok {k:Nat} {l0:List S142} {a1_0 a1_1:Int} {r:Bool} (H:slices_Contains_impl_Point.f k l0 a1_0 a1_1=some r):OkF Tryz.prog 114 [vR 143 (l0.map c142),.agg [cI a1_0,cI a1_1]] [] (vB r) []:=by
 unfold slices_Contains_impl_Point.f at H
 refine o1 9 4 Tryz.func114 fun w0 S=>?_
 refine s2 (jb 200 (k:=mB (k:=nl (s2 (mR (k:=lP T143 (k:=?_)))))))
 obtain ⟨t1,e2,H⟩:=bo H
 cases H
 exact cr rfl (slices_Index_impl_Point.ok e2) (qd (qg qn)) (k:=iE (k:=mB (k:=nl (rt r1))))
mutual
def impl_IsName.j0:Nat→ByteArray→Bool→Option (Bool)
 | 0,_,_=>none
 | k+1,x0,x21=>if x21=true then (some false) else (impl_IsName.l0 k x0 0)
def impl_IsName.l0:Nat→ByteArray→Int→Option (Bool)
 | 0,_,_=>none
 | k+1,x0,x3=>if x3 < (x0.size:Int) then (if 0≤x3 then (if (bt x0 x3) < 97 then (if (bt x0 x3) < 48 then (some false) else (if (bt x0 x3) > 57 then (some false) else (impl_IsName.l0 k x0 (wrap64 (x3+1))))) else (if (bt x0 x3) > 122 then (if (bt x0 x3) < 48 then (some false) else (if (bt x0 x3) > 57 then (some false) else (impl_IsName.l0 k x0 (wrap64 (x3+1))))) else (impl_IsName.l0 k x0 (wrap64 (x3+1))))) else (none)) else (some true)
end
def impl_IsName.f (k:Nat) (a0:ByteArray):Option (Bool):=if (a0.size:Int) < 1 then (impl_IsName.j0 k a0 true) else (if (a0.size:Int) > 10 then (impl_IsName.j0 k a0 true) else (if 0 < (a0.size:Int) then (if (bt a0 0) < 97 then (impl_IsName.j0 k a0 true) else (impl_IsName.j0 k a0 (decide ((bt a0 0) > 122)))) else (none)))
theorem impl_IsName.ok {k:Nat} {a0:ByteArray} {r:Bool} (H:impl_IsName.f k a0=some r):OkF Tryz.prog 115 [vS a0] [] (vB r) []:=by
 unfold impl_IsName.f at H
 refine o1 50 2 Tryz.func115 fun w0 S=>?_
 refine s2 (mB (k:=nl (sq (sq ?_))))
 refine AG.joinR (fun s=>∃ q,q≤k∧∃ x0 x21,impl_IsName.j0 q x0 x21=some r∧s=St.of [(0,vS x0),(21,vB x21)] []) ?_ ?_
 ·skip
  refine rg (mv (vS _) (k:=?_))
  refine a_lenS ?_ Tryz.underlying9
  refine iL (k:=mB (k:=?_))
  rcases ie H with ⟨h1,H⟩|⟨h1,H⟩
  ·iterate 3 refine sk (dt h1) (k:=?_)
   refine pB (dt h1) (k:=mB (k:=?_))
   iterate 3 refine sk rfl (k:=?_)
   refine pB rfl (k:=mB (k:=?_))
   iterate 3 refine sk rfl (k:=?_)
   refine pB rfl (k:=nl ?_)
   exact CanR.mk id ⟨_,(by omega),_,_,H,rfl⟩ ⟨rfl,rfl,trivial⟩ trivial rfl
  refine mv (vS _) (hg:=gy (df h1)) (k:=?_)
  refine a_lenS ?_ Tryz.underlying9 (hg:=gy (df h1))
  refine iG (hg:=gy (df h1)) (k:=qB (df h1) (k:=mB (k:=?_)))
  rcases ie H with ⟨h2,H⟩|⟨h2,H⟩
  ·iterate 3 refine sk (dt h2) (k:=?_)
   refine pB (dt h2) (k:=mB (k:=?_))
   iterate 3 refine sk rfl (k:=?_)
   refine pB rfl (k:=nl ?_)
   exact CanR.mk id ⟨_,(by omega),_,_,H,rfl⟩ ⟨rfl,rfl,trivial⟩ trivial rfl
  refine mv (vS _) (hg:=gy (df h2)) (k:=?_)
  obtain ⟨h3,H⟩:=io H
  refine jt ⟨(by decide),h3⟩ Tryz.underlying9 (hg:=gy (df h2)) (k:=iL (hg:=gy (df h2)) (k:=qB (df h2) (k:=mB (k:=?_))))
  rcases ie H with ⟨h4,H⟩|⟨h4,H⟩
  ·iterate 3 refine sk (dt h4) (k:=?_)
   refine pB (dt h4) (k:=nl ?_)
   exact CanR.mk id ⟨_,(by omega),_,_,H,rfl⟩ ⟨rfl,rfl,trivial⟩ trivial rfl
  refine mv (vS _) (hg:=gy (df h4)) (k:=jt ⟨(by decide),h3⟩ Tryz.underlying9 (hg:=gy (df h4)) (k:=iG (hg:=gy (df h4)) (k:=qB (df h4) (k:=nl ?_))))
  exact CanR.mk id ⟨_,(by omega),_,_,H,rfl⟩ ⟨rfl,rfl,trivial⟩ trivial rfl
 clear H
 rintro _ ⟨k,hj0,x0,x21,H,rfl⟩
 rcases k with _|k
 cases H
 rw [impl_IsName.j0] at H
 rcases ie H with ⟨h5,H⟩|⟨h5,H⟩
 ·refine ay h5 ?_
  cases H
  exact s2 (mB (k:=nl (rt r1)))
 refine an (bf h5) ?_
 refine sp (sq (s2 (mI (k:=nl (bk (lp ?_))))))
 obtain ⟨K0,hK0,gK0⟩:=kk k
 refine AGr.canon id (AGr.loopI (n:=k) (fun k s=>k≤K0∧∃ x0 x3,impl_IsName.l0 k x0 x3=some r∧s=St.of [(0,vS x0),(3,vI x3)] []) ⟨hK0,_,_,H,rfl⟩ ?_ ?_) ⟨rfl,rfl,trivial⟩ trivial rfl
 ·rintro _ ⟨_,_,_,H,_⟩
  cases H
 clear H hK0
 rintro k ih0 _ ⟨hK0,x0,x3,H,rfl⟩
 unfold impl_IsName.l0 at H
 refine sq (s2 (mI (k:=mv (vS _) (k:=?_))))
 refine a_lenS ?_ Tryz.underlying9
 refine iL (k:=nl ?_)
 rcases ei H with ⟨h6,H⟩|⟨h6,H⟩
 ·refine an (df h6) ?_
  cases H
  exact ex (s2 (mB (k:=nl (rt r1))))
 refine ay (dt h6) ?_
 refine sp (sq (bk (s2 (mv (vS _) (k:=mI (k:=?_))))))
 obtain ⟨h7,H⟩:=io H
 refine jt ⟨h7,h6⟩ Tryz.underlying9 (k:=iL (k:=mB (k:=?_)))
 rcases ie H with ⟨h8,H⟩|⟨h8,H⟩
 ·iterate 4 refine sk (dt h8) (k:=?_)
  refine pB (dt h8) (k:=mB (k:=mv (vS _) (hg:=gy rfl) (k:=mI (hg:=gy rfl) (k:=jt ⟨h7,h6⟩ Tryz.underlying9 (hg:=gy rfl) (k:=iL (hg:=gy rfl) (k:=mB (hg:=gy rfl) (k:=?_)))))))
  rcases ie H with ⟨h9,H⟩|⟨h9,H⟩
  ·iterate 4 refine sk (dt h9) (k:=?_)
   refine pB (dt h9) (hg:=gy rfl) (k:=pB rfl (k:=nl ?_))
   refine ay rfl ?_
   cases H
   exact s2 (mB (k:=nl (rt r1)))
  refine mv (vS _) (hg:=gy (df h9)) (k:=mI (hg:=gy (df h9)) (k:=jt ⟨h7,h6⟩ Tryz.underlying9 (hg:=gy (df h9)) (k:=iG (hg:=gy (df h9)) (k:=qB (df h9) (hg:=gy rfl) (k:=pB rfl (k:=nl ?_))))))
  rcases ie H with ⟨h10,H⟩|⟨h10,H⟩
  ·refine ay (dt h10) ?_
   cases H
   exact s2 (mB (k:=nl (rt r1)))
  refine an (df h10) ?_
  refine sp (rg (mI (k:=iA (k:=mI (k:=nl ?_)))))
  exact AGr.canon id (ih0 _ (by omega) _ ⟨by omega,_,_,H,rfl⟩) ⟨rfl,rfl,trivial⟩ trivial rfl
 refine mv (vS _) (hg:=gy (df h8)) (k:=mI (hg:=gy (df h8)) (k:=jt ⟨h7,h6⟩ Tryz.underlying9 (hg:=gy (df h8)) (k:=iG (hg:=gy (df h8)) (k:=qB (df h8) (k:=mB (k:=?_))))))
 rcases ei H with ⟨h11,H⟩|⟨h11,H⟩
 ·iterate 5 refine sk (df h11) (k:=?_)
  iterate 4 refine RA.skip0 rfl rfl rfl rfl rfl ?_
  refine sk (df h11) (k:=qB (df h11) (k:=nl ?_))
  refine an rfl ?_
  refine sp (rg (mI (k:=iA (k:=mI (k:=nl ?_)))))
  exact AGr.canon id (ih0 _ (by omega) _ ⟨by omega,_,_,H,rfl⟩) ⟨rfl,rfl,trivial⟩ trivial rfl
 refine mv (vS _) (hg:=gy (dt h11)) (k:=mI (hg:=gy (dt h11)) (k:=jt ⟨h7,h6⟩ Tryz.underlying9 (hg:=gy (dt h11)) (k:=iL (hg:=gy (dt h11)) (k:=mB (hg:=gy (dt h11)) (k:=?_)))))
 rcases ie H with ⟨h12,H⟩|⟨h12,H⟩
 ·iterate 4 refine sk (dt h12) (k:=?_)
  refine pB (dt h12) (hg:=gy (dt h11)) (k:=pB (dt h11) (k:=nl ?_))
  refine ay rfl ?_
  cases H
  exact s2 (mB (k:=nl (rt r1)))
 refine mv (vS _) (hg:=gy (df h12)) (k:=mI (hg:=gy (df h12)) (k:=jt ⟨h7,h6⟩ Tryz.underlying9 (hg:=gy (df h12)) (k:=iG (hg:=gy (df h12)) (k:=qB (df h12) (hg:=gy (dt h11)) (k:=pB (dt h11) (k:=nl ?_))))))
 rcases ie H with ⟨h13,H⟩|⟨h13,H⟩
 ·refine ay (dt h13) ?_
  cases H
  exact s2 (mB (k:=nl (rt r1)))
 refine an (df h13) ?_
 refine sp (rg (mI (k:=iA (k:=mI (k:=nl ?_)))))
 exact AGr.canon id (ih0 _ (by omega) _ ⟨by omega,_,_,H,rfl⟩) ⟨rfl,rfl,trivial⟩ trivial rfl
def impl_ringPolygon.l0:Nat→List S142→List S142→List Int→Int→Int→Option ((List S142)×Bool)
 | 0,_,_,_,_,_=>none
 | k+1,x0,x6,x10,x11,x12=>if x12 < x11 then (if 0≤x12 then (if x12 < (x10.length:Int) then ((impl_within.f (rd2 x10 x12) 0 (wrap64 ((x0.length:Int) - 1))).bind fun t5=>(if t5=true then (if 0≤(rd2 x10 x12) then (if (rd2 x10 x12) < (x0.length:Int) then (if x6.length < 8796093022208 then (impl_ringPolygon.l0 k x0 (x6++[(⟨(rd142 x0 (rd2 x10 x12)).f0,(rd142 x0 (rd2 x10 x12)).f1⟩:S142)]) x10 x11 (wrap64 (x12+1))) else (none)) else (none)) else (none)) else (some (([]:List S142),false)))) else (none)) else (none)) else (some (x6,true))
def impl_ringPolygon.f (k:Nat) (l0:List S142) (l1:List Int):Option ((List S142)×Bool):=impl_ringPolygon.l0 k l0 (([]:List S142)) l1 (l1.length:Int) 0
theorem impl_ringPolygon.ok {k:Nat} {l0:List S142} {l1:List Int} {r0:List S142} {r1:Bool} (H:impl_ringPolygon.f k l0 l1=some (r0,r1)):OkF Tryz.prog 116 [vR 143 (l0.map c142),vR 2 (l1.map c2)] [] (.tup [.c (.own 100 r0.length),.c (.d (.v (.bool r1)))]) [(100,.row 143 (r0.map c142))]:=by
 unfold impl_ringPolygon.f at H
 refine OkF.of (N:=31) (rs:=[4,5]) (avs:=[.c (.own 100 r0.length),.c (.d (.v (.bool r1)))]) Tryz.func116 rfl rfl (fun _ _=>results_tmp2 rfl _ _ _) (by decide) rfl rfl rfl rfl (fun w0 S=>?_)
 refine s2 (jn (e:=143) 200 T143 (k:=mB (k:=nl (s2 ?_))))
 refine a_lit (cs:=[]) (D:=[]) (css:=(([]:List S142)).map c142) 201 ?_ N37 T143 (hcss:=by rfl)
 refine mW (k:=nl (sq (s2 (mR (k:=jl Tryz.underlying104 (k:=mI (k:=nl (bk (lp ?_)))))))))
 obtain ⟨K0,hK0,gK0⟩:=kk k
 refine AGr.canon (fun κ=>cond (Nat.beq κ 202) 201 (κ)) (AGr.loopI (n:=k) (fun k s=>k≤K0∧∃ x0 x6 x10 x11 x12,impl_ringPolygon.l0 k x0 x6 x10 x11 x12=some (r0,r1)∧s=St.of [(0,vR 143 (x0.map c142)),(6,.c (.own 202 x6.length)),(10,vR 2 (x10.map c2)),(11,vI x11),(12,vI x12)] [(202,.row 143 (x6.map c142))]) ⟨hK0,_,_,_,_,_,H,rfl⟩ ?_ ?_) ⟨rfl,(ownE rfl (by simp)),rfl,rfl,rfl,trivial⟩ ⟨rfl,trivial⟩ rfl
 ·rintro _ ⟨_,_,_,_,_,_,H,_⟩
  cases H
 clear H hK0
 rintro k ih0 _ ⟨hK0,x0,x6,x10,x11,x12,H,rfl⟩
 unfold impl_ringPolygon.l0 at H
 refine s2 (iL (k:=nl (sq ?_)))
 rcases ei H with ⟨h2,H⟩|⟨h2,H⟩
 ·refine an (df h2) ?_
  refine ex (s2 (mW (k:=mW (k:=mB (k:=nl (rt ?_))))))
  simp only [Option.some.injEq,Prod.mk.injEq] at H
  obtain ⟨rfl,rfl⟩:=H
  exact RetP.mk (fun κ=>cond (Nat.beq κ 100) 202 (κ)) ⟨rfl,rfl,trivial⟩ ⟨rfl,trivial⟩ rfl
 refine ay (dt h2) ?_
 refine sp (sq (bk (s2 ?_)))
 obtain ⟨h3,H⟩:=io H
 obtain ⟨h4,H⟩:=io H
 refine ixx ⟨h3,h4⟩ T2 Tryz.underlying104 (R2 h3 h4) (k:=oI T2 (k:=mI (k:=nl (sq (s2 (mI (k:=mR (k:=jl Tryz.underlying37 (k:=iS (k:=?_))))))))))
 obtain ⟨t5,e6,H⟩:=bo H
 refine cr rfl (impl_within.ok e6) (qd (qd (qd qn))) (k:=uN (k:=nl ?_))
 rcases ei H with ⟨h7,H⟩|⟨h7,H⟩
 ·refine ay (cn (bf h7)) ?_
  refine s2 (jn (e:=143) 205 T143 (k:=mB (k:=nl (rt ?_))))
  simp only [Option.some.injEq,Prod.mk.injEq] at H
  obtain ⟨rfl,rfl⟩:=H
  exact RetP.mk (fun κ=>cond (Nat.beq κ 100) 205 (κ)) ⟨(ownE rfl (by simp)),rfl,trivial⟩ ⟨rfl,trivial⟩ rfl
 refine an (cn h7) ?_
 refine sp (rg (mW (k:=mR (k:=mI (k:=?_)))))
 obtain ⟨h8,H⟩:=io H
 obtain ⟨h9,H⟩:=io H
 refine ixx ⟨h8,h9⟩ T143 Tryz.underlying37 (R142 h8 h9) (k:=oP T143 (k:=?_))
 refine a_lit (cs:=[_,_]) (D:=[]) (css:=([(⟨(rd142 x0 (rd2 x10 x12)).f0,(rd142 x0 (rd2 x10 x12)).f1⟩:S142)]).map c142) 204 ?_ N37 T143
 obtain ⟨h10,H⟩:=io H
 refine a_appO (css':=(x6++[(⟨(rd142 x0 (rd2 x10 x12)).f0,(rd142 x0 (rd2 x10 x12)).f1⟩:S142)]).map c142) (n':=(x6++[(⟨(rd142 x0 (rd2 x10 x12)).f0,(rd142 x0 (rd2 x10 x12)).f1⟩:S142)]).length) ?_ T143 (by simp [maxLen]; omega) (by simp; omega) Tryz.underlying37 (hc:=by exact List.map_append.symm) (hn:=by exact List.length_map _)
 refine mW (k:=nl (rg (iA (k:=mI (k:=nl ?_)))))
 exact AGr.canon id (ih0 _ (by omega) _ ⟨by omega,_,_,_,_,_,H,rfl⟩) ⟨rfl,rfl,rfl,rfl,rfl,trivial⟩ ⟨rfl,trivial⟩ rfl
def impl_ValidPoint.f (a0_0 a0_1:Int):Option (Bool):=(impl_within.f a0_0 0 20000).bind fun t1=>(if t1=true then ((impl_within.f a0_1 0 20000).bind fun t4=>(some t4)) else (some false))
theorem impl_ValidPoint.ok {a0_0 a0_1:Int} {r:Bool} (H:impl_ValidPoint.f a0_0 a0_1=some r):OkF Tryz.prog 175 [.agg [cI a0_0,cI a0_1]] [] (vB r) []:=by
 unfold impl_ValidPoint.f at H
 refine o1 11 2 Tryz.func175 fun w0 S=>?_
 refine s2 (jb 200 (k:=mB (k:=nl (s2 (fB 0 D143_0 (k:=lI T2 (k:=?_)))))))
 obtain ⟨t1,e2,H⟩:=bo H
 refine cr rfl (impl_within.ok e2) (qd (qd (qd qn))) (k:=mB (k:=?_))
 rcases ei H with ⟨h3,H⟩|⟨h3,H⟩
 ·iterate 3 refine sk (bf h3) (k:=?_)
  cases H
  exact qB (bf h3) (k:=mB (k:=nl (rt r1)))
 refine fB 1 D143_1 (hg:=gy h3) (k:=lI T2 (hg:=gy h3) (k:=?_))
 obtain ⟨t4,e5,H⟩:=bo H
 cases H
 exact cr rfl (impl_within.ok e5) (qd (qd (qd qn))) (hg:=gy h3) (k:=pB h3 (k:=mB (k:=nl (rt r1))))
def impl_validPoints.l0:Nat→List S142→Int→Int→Option (Bool)
 | 0,_,_,_=>none
 | k+1,x5,x6,x7=>if x7 < x6 then (if 0≤x7 then (if x7 < (x5.length:Int) then ((impl_ValidPoint.f ((rd142 x5 x7).f0) ((rd142 x5 x7).f1)).bind fun t4=>(if t4=true then (impl_validPoints.l0 k x5 x6 (wrap64 (x7+1))) else (some false))) else (none)) else (none)) else (some true)
def impl_validPoints.f (k:Nat) (l0:List S142):Option (Bool):=impl_validPoints.l0 k l0 (l0.length:Int) 0
theorem impl_validPoints.ok {k:Nat} {l0:List S142} {r:Bool} (H:impl_validPoints.f k l0=some r):OkF Tryz.prog 150 [vR 143 (l0.map c142)] [] (vB r) []:=by
 unfold impl_validPoints.f at H
 refine o1 15 2 Tryz.func150 fun w0 S=>?_
 refine s2 (mB (k:=nl (sq (s2 (mR (k:=jl Tryz.underlying37 (k:=mI (k:=nl (bk (lp ?_))))))))))
 obtain ⟨K0,hK0,gK0⟩:=kk k
 refine AGr.canon id (AGr.loopI (n:=k) (fun k s=>k≤K0∧∃ x5 x6 x7,impl_validPoints.l0 k x5 x6 x7=some r∧s=St.of [(5,vR 143 (x5.map c142)),(6,vI x6),(7,vI x7)] []) ⟨hK0,_,_,_,H,rfl⟩ ?_ ?_) ⟨rfl,rfl,rfl,trivial⟩ trivial rfl
 ·rintro _ ⟨_,_,_,_,H,_⟩
  cases H
 clear H hK0
 rintro k ih0 _ ⟨hK0,x5,x6,x7,H,rfl⟩
 unfold impl_validPoints.l0 at H
 refine s2 (iL (k:=nl (sq ?_)))
 rcases ei H with ⟨h1,H⟩|⟨h1,H⟩
 ·refine an (df h1) ?_
  cases H
  exact ex (s2 (mB (k:=nl (rt r1))))
 refine ay (dt h1) ?_
 refine sp (sq (bk (s2 ?_)))
 obtain ⟨h2,H⟩:=io H
 obtain ⟨h3,H⟩:=io H
 refine ixx ⟨h2,h3⟩ T143 Tryz.underlying37 (R142 h2 h3) (k:=oP T143 (k:=aP 200 T143 (k:=sP T143 (k:=nl (s2 (lP T143 (k:=?_)))))))
 obtain ⟨t4,e5,H⟩:=bo H
 refine cr rfl (impl_ValidPoint.ok e5) (qg qn) (k:=uN (k:=nl ?_))
 rcases ei H with ⟨h6,H⟩|⟨h6,H⟩
 ·refine ay (cn (bf h6)) ?_
  cases H
  exact s2 (mB (k:=nl (rt r1)))
 refine an (cn h6) ?_
 refine sp (rg (iA (k:=mI (k:=nl ?_))))
 exact AGr.canon id (ih0 _ (by omega) _ ⟨by omega,_,_,_,H,rfl⟩) ⟨rfl,rfl,rfl,trivial⟩ trivial rfl
def impl_side.f (a0_0 a0_1 a1_0 a1_1 a2_0 a2_1:Int):Option (Int):=if (wrap64 ((wrap64 ((wrap64 (a1_0 - a0_0))*(wrap64 (a2_1 - a0_1)))) - (wrap64 ((wrap64 (a1_1 - a0_1))*(wrap64 (a2_0 - a0_0)))))) > 0 then (some 1) else (if (wrap64 ((wrap64 ((wrap64 (a1_0 - a0_0))*(wrap64 (a2_1 - a0_1)))) - (wrap64 ((wrap64 (a1_1 - a0_1))*(wrap64 (a2_0 - a0_0)))))) < 0 then (some (-1)) else (some 0))
theorem impl_side.ok {a0_0 a0_1 a1_0 a1_1 a2_0 a2_1 r:Int} (H:impl_side.f a0_0 a0_1 a1_0 a1_1 a2_0 a2_1=some r):OkF Tryz.prog 160 [.agg [cI a0_0,cI a0_1],.agg [cI a1_0,cI a1_1],.agg [cI a2_0,cI a2_1]] [] (vI r) []:=by
 unfold impl_side.f at H
 refine o1 37 6 Tryz.func160 fun w0 S=>?_
 refine s2 (jb 200 (k:=jb 201 (k:=jb 202 (k:=mI (k:=nl (s2 (fB 0 D143_0 (k:=lI T2 (k:=fB 0 D143_0 (k:=lI T2 (k:=iS (k:=fB 1 D143_1 (k:=lI T2 (k:=fB 1 D143_1 (k:=lI T2 (k:=iS (k:=iM (k:=fB 1 D143_1 (k:=lI T2 (k:=fB 1 D143_1 (k:=lI T2 (k:=iS (k:=fB 0 D143_0 (k:=lI T2 (k:=fB 0 D143_0 (k:=lI T2 (k:=iS (k:=iM (k:=iS (k:=mI (k:=nl (sq (bk (s2 (mI (k:=iG (k:=?_)))))))))))))))))))))))))))))))))))))
 refine mB (k:=nl ?_)
 rcases ie H with ⟨h1,H⟩|⟨h1,H⟩
 ·refine ay (dt h1) ?_
  cases H
  exact s2 (mI (k:=nl (rt r1)))
 refine an (df h1) ?_
 refine s2 (mI (k:=iL (k:=mB (k:=nl ?_))))
 rcases ie H with ⟨h2,H⟩|⟨h2,H⟩
 ·refine ay (dt h2) ?_
  cases H
  exact s2 (mI (k:=nl (rt r1)))
 refine an (df h2) ?_
 cases H
 exact sp (s2 (mI (k:=nl (rt r1))))
def impl_on.f (a0_0 a0_1 a1_0 a1_1 a2_0 a2_1:Int):Option (Bool):=(impl_side.f a0_0 a0_1 a1_0 a1_1 a2_0 a2_1).bind fun t1=>(if t1=0 then ((impl_within.f a2_0 (mn a0_0 a1_0) (mx a0_0 a1_0)).bind fun t4=>(if t4=true then ((impl_within.f a2_1 (mn a0_1 a1_1) (mx a0_1 a1_1)).bind fun t7=>(some t7)) else (some false))) else (some false))
theorem impl_on.ok {a0_0 a0_1 a1_0 a1_1 a2_0 a2_1:Int} {r:Bool} (H:impl_on.f a0_0 a0_1 a1_0 a1_1 a2_0 a2_1=some r):OkF Tryz.prog 151 [.agg [cI a0_0,cI a0_1],.agg [cI a1_0,cI a1_1],.agg [cI a2_0,cI a2_1]] [] (vB r) []:=by
 unfold impl_on.f at H
 refine o1 42 6 Tryz.func151 fun w0 S=>?_
 refine s2 (jb 200 (k:=jb 201 (k:=jb 202 (k:=mB (k:=nl (s2 (lP T143 (k:=lP T143 (k:=lP T143 (k:=?_))))))))))
 obtain ⟨t1,e2,H⟩:=bo H
 refine cr rfl (impl_side.ok e2) (qg (qg (qg qn))) (k:=iEq (k:=mB (k:=?_)))
 rcases ei H with ⟨h3,H⟩|⟨h3,H⟩
 ·iterate 13 refine sk (bn h3) (k:=?_)
  refine qB (bn h3) (k:=mB (k:=?_))
  iterate 13 refine sk rfl (k:=?_)
  cases H
  exact qB rfl (k:=mB (k:=nl (rt r1)))
 refine fB 0 D143_0 (hg:=gy (bq h3)) (k:=lI T2 (hg:=gy (bq h3)) (k:=fB 0 D143_0 (hg:=gy (bq h3)) (k:=lI T2 (hg:=gy (bq h3)) (k:=fB 0 D143_0 (hg:=gy (bq h3)) (k:=lI T2 (hg:=gy (bq h3)) (k:=jm (mx:=false) (r:=mn a0_0 a1_0) (hg:=gy (bq h3)) (k:=fB 0 D143_0 (hg:=gy (bq h3)) (k:=lI T2 (hg:=gy (bq h3)) (k:=fB 0 D143_0 (hg:=gy (bq h3)) (k:=lI T2 (hg:=gy (bq h3)) (k:=jm (mx:=true) (r:=mx a0_0 a1_0) (hg:=gy (bq h3)) (k:=?_))))))))))))
 obtain ⟨t4,e5,H⟩:=bo H
 refine cr rfl (impl_within.ok e5) (qd (qd (qd qn))) (hg:=gy (bq h3)) (k:=pB (bq h3) (k:=mB (k:=?_)))
 rcases ie H with ⟨h6,H⟩|⟨h6,H⟩
 ·refine fB 1 D143_1 (hg:=gy h6) (k:=lI T2 (hg:=gy h6) (k:=fB 1 D143_1 (hg:=gy h6) (k:=lI T2 (hg:=gy h6) (k:=fB 1 D143_1 (hg:=gy h6) (k:=lI T2 (hg:=gy h6) (k:=jm (mx:=false) (r:=mn a0_1 a1_1) (hg:=gy h6) (k:=fB 1 D143_1 (hg:=gy h6) (k:=lI T2 (hg:=gy h6) (k:=fB 1 D143_1 (hg:=gy h6) (k:=lI T2 (hg:=gy h6) (k:=jm (mx:=true) (r:=mx a0_1 a1_1) (hg:=gy h6) (k:=?_))))))))))))
  obtain ⟨t7,e8,H⟩:=bo H
  cases H
  exact cr rfl (impl_within.ok e8) (qd (qd (qd qn))) (hg:=gy h6) (k:=pB h6 (k:=mB (k:=nl (rt r1))))
 iterate 13 refine sk (bf h6) (k:=?_)
 cases H
 exact qB (bf h6) (k:=mB (k:=nl (rt r1)))
def impl_crossing.f (a0_0 a0_1 a1_0 a1_1 a2_0 a2_1 a3_0 a3_1:Int):Option (Bool):=(impl_side.f a0_0 a0_1 a1_0 a1_1 a2_0 a2_1).bind fun t1=>((impl_side.f a0_0 a0_1 a1_0 a1_1 a3_0 a3_1).bind fun t3=>(if (wrap64 (t1*t3)) < 0 then ((impl_side.f a2_0 a2_1 a3_0 a3_1 a0_0 a0_1).bind fun t6=>((impl_side.f a2_0 a2_1 a3_0 a3_1 a1_0 a1_1).bind fun t8=>(some (decide ((wrap64 (t6*t8)) < 0))))) else (some false)))
theorem impl_crossing.ok {a0_0 a0_1 a1_0 a1_1 a2_0 a2_1 a3_0 a3_1:Int} {r:Bool} (H:impl_crossing.f a0_0 a0_1 a1_0 a1_1 a2_0 a2_1 a3_0 a3_1=some r):OkF Tryz.prog 176 [.agg [cI a0_0,cI a0_1],.agg [cI a1_0,cI a1_1],.agg [cI a2_0,cI a2_1],.agg [cI a3_0,cI a3_1]] [] (vB r) []:=by
 unfold impl_crossing.f at H
 refine o1 31 8 Tryz.func176 fun w0 S=>?_
 refine s2 (jb 200 (k:=jb 201 (k:=jb 202 (k:=jb 203 (k:=mB (k:=nl (s2 (lP T143 (k:=lP T143 (k:=lP T143 (k:=?_)))))))))))
 obtain ⟨t1,e2,H⟩:=bo H
 refine cr rfl (impl_side.ok e2) (qg (qg (qg qn))) (k:=lP T143 (k:=lP T143 (k:=lP T143 (k:=?_))))
 obtain ⟨t3,e4,H⟩:=bo H
 refine cr rfl (impl_side.ok e4) (qg (qg (qg qn))) (k:=iM (k:=iL (k:=mB (k:=?_))))
 rcases ei H with ⟨h5,H⟩|⟨h5,H⟩
 ·iterate 10 refine sk (df h5) (k:=?_)
  refine qB (df h5) (k:=mB (k:=?_))
  refine RA.nil (fun _=>by kernel_rfl) ?_
  cases H
  exact rt r1
 refine lP T143 (hg:=gy (dt h5)) (k:=lP T143 (hg:=gy (dt h5)) (k:=lP T143 (hg:=gy (dt h5)) (k:=?_)))
 obtain ⟨t6,e7,H⟩:=bo H
 refine cr rfl (impl_side.ok e7) (qg (qg (qg qn))) (hg:=gy (dt h5)) (k:=lP T143 (hg:=gy (dt h5)) (k:=lP T143 (hg:=gy (dt h5)) (k:=lP T143 (hg:=gy (dt h5)) (k:=?_))))
 obtain ⟨t8,e9,H⟩:=bo H
 refine cr rfl (impl_side.ok e9) (qg (qg (qg qn))) (hg:=gy (dt h5)) (k:=iM (hg:=gy (dt h5)) (k:=iL (hg:=gy (dt h5)) (k:=pB (dt h5) (k:=mB (k:=?_)))))
 refine RA.nil (fun _=>by kernel_rfl) ?_
 cases H
 exact rt r1
def impl_touching.f (a0_0 a0_1 a1_0 a1_1 a2_0 a2_1 a3_0 a3_1:Int):Option (Bool):=(impl_crossing.f a0_0 a0_1 a1_0 a1_1 a2_0 a2_1 a3_0 a3_1).bind fun t1=>(if t1=true then (some true) else ((impl_on.f a0_0 a0_1 a1_0 a1_1 a2_0 a2_1).bind fun t4=>(if t4=true then (some true) else ((impl_on.f a0_0 a0_1 a1_0 a1_1 a3_0 a3_1).bind fun t7=>(if t7=true then (some true) else ((impl_on.f a2_0 a2_1 a3_0 a3_1 a0_0 a0_1).bind fun t10=>(if t10=true then (some true) else ((impl_on.f a2_0 a2_1 a3_0 a3_1 a1_0 a1_1).bind fun t13=>(some t13)))))))))
theorem impl_touching.ok {a0_0 a0_1 a1_0 a1_1 a2_0 a2_1 a3_0 a3_1:Int} {r:Bool} (H:impl_touching.f a0_0 a0_1 a1_0 a1_1 a2_0 a2_1 a3_0 a3_1=some r):OkF Tryz.prog 152 [.agg [cI a0_0,cI a0_1],.agg [cI a1_0,cI a1_1],.agg [cI a2_0,cI a2_1],.agg [cI a3_0,cI a3_1]] [] (vB r) []:=by
 unfold impl_touching.f at H
 refine o1 38 8 Tryz.func152 fun w0 S=>?_
 refine s2 (jb 200 (k:=jb 201 (k:=jb 202 (k:=jb 203 (k:=mB (k:=nl (s2 (lP T143 (k:=lP T143 (k:=lP T143 (k:=lP T143 (k:=?_))))))))))))
 obtain ⟨t1,e2,H⟩:=bo H
 refine cr rfl (impl_crossing.ok e2) (qg (qg (qg (qg qn)))) (k:=mB (k:=?_))
 rcases ie H with ⟨h3,H⟩|⟨h3,H⟩
 ·iterate 4 refine sk h3 (k:=?_)
  refine pB h3 (k:=mB (k:=?_))
  iterate 4 refine sk rfl (k:=?_)
  refine pB rfl (k:=mB (k:=?_))
  iterate 4 refine sk rfl (k:=?_)
  refine pB rfl (k:=mB (k:=?_))
  iterate 4 refine sk rfl (k:=?_)
  cases H
  exact pB rfl (k:=mB (k:=nl (rt r1)))
 refine lP T143 (hg:=gy (bf h3)) (k:=lP T143 (hg:=gy (bf h3)) (k:=lP T143 (hg:=gy (bf h3)) (k:=?_)))
 obtain ⟨t4,e5,H⟩:=bo H
 refine cr rfl (impl_on.ok e5) (qg (qg (qg qn))) (hg:=gy (bf h3)) (k:=qB (bf h3) (k:=mB (k:=?_)))
 rcases ie H with ⟨h6,H⟩|⟨h6,H⟩
 ·iterate 4 refine sk h6 (k:=?_)
  refine pB h6 (k:=mB (k:=?_))
  iterate 4 refine sk rfl (k:=?_)
  refine pB rfl (k:=mB (k:=?_))
  iterate 4 refine sk rfl (k:=?_)
  cases H
  exact pB rfl (k:=mB (k:=nl (rt r1)))
 refine lP T143 (hg:=gy (bf h6)) (k:=lP T143 (hg:=gy (bf h6)) (k:=lP T143 (hg:=gy (bf h6)) (k:=?_)))
 obtain ⟨t7,e8,H⟩:=bo H
 refine cr rfl (impl_on.ok e8) (qg (qg (qg qn))) (hg:=gy (bf h6)) (k:=qB (bf h6) (k:=mB (k:=?_)))
 rcases ie H with ⟨h9,H⟩|⟨h9,H⟩
 ·iterate 4 refine sk h9 (k:=?_)
  refine pB h9 (k:=mB (k:=?_))
  iterate 4 refine sk rfl (k:=?_)
  cases H
  exact pB rfl (k:=mB (k:=nl (rt r1)))
 refine lP T143 (hg:=gy (bf h9)) (k:=lP T143 (hg:=gy (bf h9)) (k:=lP T143 (hg:=gy (bf h9)) (k:=?_)))
 obtain ⟨t10,e11,H⟩:=bo H
 refine cr rfl (impl_on.ok e11) (qg (qg (qg qn))) (hg:=gy (bf h9)) (k:=qB (bf h9) (k:=mB (k:=?_)))
 rcases ie H with ⟨h12,H⟩|⟨h12,H⟩
 ·iterate 4 refine sk h12 (k:=?_)
  cases H
  exact pB h12 (k:=mB (k:=nl (rt r1)))
 refine lP T143 (hg:=gy (bf h12)) (k:=lP T143 (hg:=gy (bf h12)) (k:=lP T143 (hg:=gy (bf h12)) (k:=?_)))
 obtain ⟨t13,e14,H⟩:=bo H
 cases H
 exact cr rfl (impl_on.ok e14) (qg (qg (qg qn))) (hg:=gy (bf h12)) (k:=qB (bf h12) (k:=mB (k:=nl (rt r1))))
def impl_doubled.l0:Nat→List S142→Int→List S142→Int→Int→Option (Int)
 | 0,_,_,_,_,_=>none
 | k+1,x0,x3,x7,x8,x9=>if x9 < x8 then (if 0≤x9 then (if x9 < (x7.length:Int) then (if (x0.length:Int)=0 then (none) else (if 0≤(Int.tmod (wrap64 (x9+1)) (x0.length:Int)) then (if (Int.tmod (wrap64 (x9+1)) (x0.length:Int)) < (x0.length:Int) then (impl_doubled.l0 k x0 (wrap64 (x3+(wrap64 ((wrap64 (((rd142 x7 x9).f0)*((rd142 x0 (Int.tmod (wrap64 (x9+1)) (x0.length:Int))).f1))) - (wrap64 (((rd142 x7 x9).f1)*((rd142 x0 (Int.tmod (wrap64 (x9+1)) (x0.length:Int))).f0))))))) x7 x8 (wrap64 (x9+1))) else (none)) else (none))) else (none)) else (none)) else (some x3)
def impl_doubled.f (k:Nat) (l0:List S142):Option (Int):=impl_doubled.l0 k l0 0 l0 (l0.length:Int) 0
theorem impl_doubled.ok {k:Nat} {l0:List S142} {r:Int} (H:impl_doubled.f k l0=some r):OkF Tryz.prog 153 [vR 143 (l0.map c142)] [] (vI r) []:=by
 unfold impl_doubled.f at H
 refine o1 37 2 Tryz.func153 fun w0 S=>?_
 refine s2 (mI (k:=nl (s2 (mI (k:=nl (sq (s2 (mR (k:=jl Tryz.underlying37 (k:=mI (k:=nl (bk (lp ?_)))))))))))))
 obtain ⟨K0,hK0,gK0⟩:=kk k
 refine AGr.canon id (AGr.loopI (n:=k) (fun k s=>k≤K0∧∃ x0 x3 x7 x8 x9,impl_doubled.l0 k x0 x3 x7 x8 x9=some r∧s=St.of [(0,vR 143 (x0.map c142)),(3,vI x3),(7,vR 143 (x7.map c142)),(8,vI x8),(9,vI x9)] []) ⟨hK0,_,_,_,_,_,H,rfl⟩ ?_ ?_) ⟨rfl,rfl,rfl,rfl,rfl,trivial⟩ trivial rfl
 ·rintro _ ⟨_,_,_,_,_,_,H,_⟩
  cases H
 clear H hK0
 rintro k ih0 _ ⟨hK0,x0,x3,x7,x8,x9,H,rfl⟩
 unfold impl_doubled.l0 at H
 refine s2 (iL (k:=nl (sq ?_)))
 rcases ei H with ⟨h1,H⟩|⟨h1,H⟩
 ·refine an (df h1) ?_
  cases H
  exact ex (s2 (mI (k:=mI (k:=nl (rt r1)))))
 refine ay (dt h1) ?_
 refine sp (sq (bk (s2 (mI (k:=?_)))))
 obtain ⟨h2,H⟩:=io H
 obtain ⟨h3,H⟩:=io H
 refine ixx ⟨h2,h3⟩ T143 Tryz.underlying37 (R142 h2 h3) (k:=oP T143 (k:=aP 200 T143 (k:=mI (k:=sP T143 (k:=nl (s2 (mR (k:=mI (k:=iA (k:=mR (k:=jl Tryz.underlying37 (k:=?_))))))))))))
 obtain ⟨h4,H⟩:=oi H
 refine jr (r:=Int.tmod (wrap64 (x9+1)) (x0.length:Int)) h4 (k:=?_)
 obtain ⟨h5,H⟩:=io H
 obtain ⟨h6,H⟩:=io H
 refine ixx ⟨h5,h6⟩ T143 Tryz.underlying37 (R142 h5 h6) (k:=oP T143 (k:=aP 201 T143 (k:=sP T143 (k:=nl (rg (mI (k:=fB 0 D143_0 (k:=lI T2 (k:=fB 1 D143_1 (k:=lI T2 (k:=iM (k:=fB 1 D143_1 (k:=lI T2 (k:=fB 0 D143_0 (k:=lI T2 (k:=iM (k:=iS (k:=iA (k:=mI (k:=nl (rg (iA (k:=mI (k:=nl ?_))))))))))))))))))))))))
 exact AGr.canon id (ih0 _ (by omega) _ ⟨by omega,_,_,_,_,_,H,rfl⟩) ⟨rfl,rfl,rfl,rfl,rfl,trivial⟩ trivial rfl
mutual
def impl_ValidPolygon.j0:Nat→List S142→Int→Bool→Option (Bool)
 | 0,_,_,_=>none
 | k+1,x0,x3,x21=>if x21=true then (some false) else (impl_ValidPolygon.l0 k x0 x3 (x0.length:Int) 0)
def impl_ValidPolygon.l0:Nat→List S142→Int→Int→Int→Option (Bool)
 | 0,_,_,_,_=>none
 | k+1,x0,x3,x23,x24=>if x24 < x23 then (if 0≤x24 then (if x24 < (x0.length:Int) then (if x3=0 then (none) else (if 0≤(Int.tmod (wrap64 (x24+1)) x3) then (if (Int.tmod (wrap64 (x24+1)) x3) < (x0.length:Int) then (if 0≤(Int.tmod (wrap64 (x24+2)) x3) then (if (Int.tmod (wrap64 (x24+2)) x3) < (x0.length:Int) then (if (((rd142 x0 x24).f0) == ((rd142 x0 (Int.tmod (wrap64 (x24+1)) x3)).f0) && (((rd142 x0 x24).f1) == ((rd142 x0 (Int.tmod (wrap64 (x24+1)) x3)).f1)))=true then (impl_ValidPolygon.j1 k x0 x3 x24 ((rd142 x0 x24).f0) ((rd142 x0 x24).f1) ((rd142 x0 (Int.tmod (wrap64 (x24+1)) x3)).f0) ((rd142 x0 (Int.tmod (wrap64 (x24+1)) x3)).f1) x23 x24 true) else ((impl_on.f ((rd142 x0 x24).f0) ((rd142 x0 x24).f1) ((rd142 x0 (Int.tmod (wrap64 (x24+1)) x3)).f0) ((rd142 x0 (Int.tmod (wrap64 (x24+1)) x3)).f1) ((rd142 x0 (Int.tmod (wrap64 (x24+2)) x3)).f0) ((rd142 x0 (Int.tmod (wrap64 (x24+2)) x3)).f1)).bind fun t15=>(if t15=true then (impl_ValidPolygon.j1 k x0 x3 x24 ((rd142 x0 x24).f0) ((rd142 x0 x24).f1) ((rd142 x0 (Int.tmod (wrap64 (x24+1)) x3)).f0) ((rd142 x0 (Int.tmod (wrap64 (x24+1)) x3)).f1) x23 x24 true) else ((impl_on.f ((rd142 x0 (Int.tmod (wrap64 (x24+1)) x3)).f0) ((rd142 x0 (Int.tmod (wrap64 (x24+1)) x3)).f1) ((rd142 x0 (Int.tmod (wrap64 (x24+2)) x3)).f0) ((rd142 x0 (Int.tmod (wrap64 (x24+2)) x3)).f1) ((rd142 x0 x24).f0) ((rd142 x0 x24).f1)).bind fun t18=>(impl_ValidPolygon.j1 k x0 x3 x24 ((rd142 x0 x24).f0) ((rd142 x0 x24).f1) ((rd142 x0 (Int.tmod (wrap64 (x24+1)) x3)).f0) ((rd142 x0 (Int.tmod (wrap64 (x24+1)) x3)).f1) x23 x24 t18))))) else (none)) else (none)) else (none)) else (none))) else (none)) else (none)) else ((impl_doubled.f k x0).bind fun t31=>(some (decide (t31 > 0))))
def impl_ValidPolygon.j1:Nat→List S142→Int→Int→Int→Int→Int→Int→Int→Int→Bool→Option (Bool)
 | 0,_,_,_,_,_,_,_,_,_,_=>none
 | k+1,x0,x3,x4,y207_0,y207_1,y208_0,y208_1,x23,x24,x59=>if x59=true then (some false) else (impl_ValidPolygon.l1 k x0 x3 x4 y207_0 y207_1 y208_0 y208_1 (wrap64 (x4+2)) x23 x24)
def impl_ValidPolygon.l1:Nat→List S142→Int→Int→Int→Int→Int→Int→Int→Int→Int→Option (Bool)
 | 0,_,_,_,_,_,_,_,_,_,_=>none
 | k+1,x0,x3,x4,y209_0,y209_1,y210_0,y210_1,x8,x23,x24=>if x8 < x3 then (if x3=0 then (none) else (if (Int.tmod (wrap64 (x8+1)) x3)=x4 then (impl_ValidPolygon.l1 k x0 x3 x4 y209_0 y209_1 y210_0 y210_1 (wrap64 (x8+1)) x23 x24) else (if 0≤x8 then (if x8 < (x0.length:Int) then (if 0≤(Int.tmod (wrap64 (x8+1)) x3) then (if (Int.tmod (wrap64 (x8+1)) x3) < (x0.length:Int) then ((impl_touching.f y209_0 y209_1 y210_0 y210_1 ((rd142 x0 x8).f0) ((rd142 x0 x8).f1) ((rd142 x0 (Int.tmod (wrap64 (x8+1)) x3)).f0) ((rd142 x0 (Int.tmod (wrap64 (x8+1)) x3)).f1)).bind fun t28=>(if t28=true then (some false) else (impl_ValidPolygon.l1 k x0 x3 x4 y209_0 y209_1 y210_0 y210_1 (wrap64 (x8+1)) x23 x24))) else (none)) else (none)) else (none)) else (none)))) else (impl_ValidPolygon.l0 k x0 x3 x23 (wrap64 (x24+1)))
end
def impl_ValidPolygon.f (k:Nat) (l0:List S142):Option (Bool):=if (l0.length:Int) < 3 then (impl_ValidPolygon.j0 k l0 (l0.length:Int) true) else (if (l0.length:Int) > 24 then (impl_ValidPolygon.j0 k l0 (l0.length:Int) true) else ((impl_validPoints.f k l0).bind fun t3=>(impl_ValidPolygon.j0 k l0 (l0.length:Int) (!t3))))
theorem impl_ValidPolygon.ok {k:Nat} {l0:List S142} {r:Bool} (H:impl_ValidPolygon.f k l0=some r):OkF Tryz.prog 117 [vR 143 (l0.map c142)] [] (vB r) []:=by
 unfold impl_ValidPolygon.f at H
 refine o1 93 2 Tryz.func117 fun w0 S=>?_
 refine s2 (mB (k:=nl (s2 (mR (k:=jl Tryz.underlying37 (k:=mI (k:=nl (sq (sq ?_)))))))))
 refine AG.joinR (fun s=>∃ q,q≤k∧∃ x0 x3 x21,impl_ValidPolygon.j0 q x0 x3 x21=some r∧s=St.of [(0,vR 143 (x0.map c142)),(3,vI x3),(21,vB x21)] []) ?_ ?_
 ·skip
  refine rg (mI (k:=iL (k:=mB (k:=?_))))
  rcases ie H with ⟨h1,H⟩|⟨h1,H⟩
  ·iterate 2 refine sk (dt h1) (k:=?_)
   refine pB (dt h1) (k:=mB (k:=?_))
   iterate 3 refine sk rfl (k:=?_)
   refine pB rfl (k:=nl ?_)
   exact CanR.mk id ⟨_,(by omega),_,_,_,H,rfl⟩ ⟨rfl,rfl,rfl,trivial⟩ trivial rfl
  refine mI (hg:=gy (df h1)) (k:=iG (hg:=gy (df h1)) (k:=qB (df h1) (k:=mB (k:=?_))))
  rcases ie H with ⟨h2,H⟩|⟨h2,H⟩
  ·iterate 3 refine sk (dt h2) (k:=?_)
   refine pB (dt h2) (k:=nl ?_)
   exact CanR.mk id ⟨_,(by omega),_,_,_,H,rfl⟩ ⟨rfl,rfl,rfl,trivial⟩ trivial rfl
  refine mR (hg:=gy (df h2)) (k:=?_)
  obtain ⟨t3,e4,H⟩:=bo H
  refine cr rfl (impl_validPoints.ok e4) (qd qn) (hg:=gy (df h2)) (k:=uN (hg:=gy (df h2)) (k:=qB (df h2) (k:=nl ?_)))
  exact CanR.mk id ⟨_,(by omega),_,_,_,H,rfl⟩ ⟨rfl,rfl,rfl,trivial⟩ trivial rfl
 clear H
 rintro _ ⟨k,hj0,x0,x3,x21,H,rfl⟩
 rcases k with _|k
 cases H
 rw [impl_ValidPolygon.j0] at H
 rcases ie H with ⟨h5,H⟩|⟨h5,H⟩
 ·refine ay h5 ?_
  cases H
  exact s2 (mB (k:=nl (rt r1)))
 refine an (bf h5) ?_
 refine sp (sq (s2 (mR (k:=jl Tryz.underlying37 (k:=mI (k:=nl (bk (lp ?_))))))))
 obtain ⟨K0,hK0,gK0⟩:=kk k
 refine AGr.canon id (AGr.loopI (n:=k) (fun k s=>k≤K0∧∃ x0 x3 x23 x24,impl_ValidPolygon.l0 k x0 x3 x23 x24=some r∧s=St.of [(0,vR 143 (x0.map c142)),(3,vI x3),(23,vI x23),(24,vI x24)] []) ⟨hK0,_,_,_,_,H,rfl⟩ ?_ ?_) ⟨rfl,rfl,rfl,rfl,trivial⟩ trivial rfl
 ·rintro _ ⟨_,_,_,_,_,H,_⟩
  cases H
 clear H hK0
 rintro k ih0 _ ⟨hK0,x0,x3,x23,x24,H,rfl⟩
 unfold impl_ValidPolygon.l0 at H
 refine s2 (iL (k:=nl (sq ?_)))
 rcases ei H with ⟨h6,H⟩|⟨h6,H⟩
 ·refine an (df h6) ?_
  refine ex (s2 (mR (k:=?_)))
  obtain ⟨t31,e32,H⟩:=bo H
  cases H
  exact cr rfl (impl_doubled.ok e32) (qd qn) (k:=iG (k:=mB (k:=nl (rt r1))))
 refine ay (dt h6) ?_
 refine sp (sq (bk (s2 (mI (k:=mI (k:=nl (s2 (mR (k:=mI (k:=?_))))))))))
 obtain ⟨h7,H⟩:=io H
 obtain ⟨h8,H⟩:=io H
 refine ixx ⟨h7,h8⟩ T143 Tryz.underlying37 (R142 h7 h8) (k:=oP T143 (k:=mR (k:=mI (k:=iA (k:=mI (k:=?_))))))
 obtain ⟨h9,H⟩:=oi H
 refine jr (r:=Int.tmod (wrap64 (x24+1)) x3) h9 (k:=?_)
 obtain ⟨h10,H⟩:=io H
 obtain ⟨h11,H⟩:=io H
 refine ixx ⟨h10,h11⟩ T143 Tryz.underlying37 (R142 h10 h11) (k:=oP T143 (k:=mR (k:=mI (k:=iA (k:=mI (k:=jr (r:=Int.tmod (wrap64 (x24+2)) x3) h9 (k:=?_)))))))
 obtain ⟨h12,H⟩:=io H
 obtain ⟨h13,H⟩:=io H
 refine ixx ⟨h12,h13⟩ T143 Tryz.underlying37 (R142 h12 h13) (k:=oP T143 (k:=aP 202 T143 (k:=aP 203 T143 (k:=aP 204 T143 (k:=sP T143 (k:=sP T143 (k:=sP T143 (k:=?_))))))))
 refine RA.nil (fun _=>by kernel_rfl) ?_
 refine sq (sq ?_)
 refine AG.joinR (fun s=>∃ q,q≤k∧∃ x0 x3 x4 y207_0 y207_1 y208_0 y208_1 x23 x24 x59,impl_ValidPolygon.j1 q x0 x3 x4 y207_0 y207_1 y208_0 y208_1 x23 x24 x59=some r∧s=St.of [(0,vR 143 (x0.map c142)),(3,vI x3),(4,vI x4),(5,.c (.ptr 207 0)),(6,.c (.ptr 208 0)),(23,vI x23),(24,vI x24),(59,vB x59)] [(207,.box 143 [.d (.v (.int .i64 y207_0)),.d (.v (.int .i64 y207_1))]),(208,.box 143 [.d (.v (.int .i64 y208_0)),.d (.v (.int .i64 y208_1))])]) ?_ ?_
 ·skip
  refine rg (lP T143 (k:=lP T143 (k:=?_)))
  refine a_eqS (b:=(((rd142 x0 x24).f0) == ((rd142 x0 (Int.tmod (wrap64 (x24+1)) x3)).f0) && (((rd142 x0 x24).f1) == ((rd142 x0 (Int.tmod (wrap64 (x24+1)) x3)).f1)))) ?_ (.inl ⟨rfl,rfl⟩) (Q143 ((rd142 x0 x24).f0) ((rd142 x0 (Int.tmod (wrap64 (x24+1)) x3)).f0) ((rd142 x0 x24).f1) ((rd142 x0 (Int.tmod (wrap64 (x24+1)) x3)).f1)).1
  refine mB (k:=?_)
  rcases ie H with ⟨h14,H⟩|⟨h14,H⟩
  ·iterate 4 refine sk h14 (k:=?_)
   refine pB h14 (k:=mB (k:=?_))
   iterate 4 refine sk rfl (k:=?_)
   refine pB rfl (k:=nl ?_)
   exact CanR.mk (fun κ=>cond (Nat.beq κ 207) 202 (cond (Nat.beq κ 208) 203 (κ))) ⟨_,(by omega),_,_,_,_,_,_,_,_,_,_,H,rfl⟩ ⟨rfl,rfl,rfl,rfl,rfl,rfl,rfl,rfl,trivial⟩ ⟨rfl,rfl,trivial⟩ rfl
  refine lP T143 (hg:=gy (bf h14)) (k:=lP T143 (hg:=gy (bf h14)) (k:=lP T143 (hg:=gy (bf h14)) (k:=?_)))
  obtain ⟨t15,e16,H⟩:=bo H
  refine cr rfl (impl_on.ok e16) (qg (qg (qg qn))) (hg:=gy (bf h14)) (k:=qB (bf h14) (k:=mB (k:=?_)))
  rcases ie H with ⟨h17,H⟩|⟨h17,H⟩
  ·iterate 4 refine sk h17 (k:=?_)
   refine pB h17 (k:=nl ?_)
   exact CanR.mk (fun κ=>cond (Nat.beq κ 207) 202 (cond (Nat.beq κ 208) 203 (κ))) ⟨_,(by omega),_,_,_,_,_,_,_,_,_,_,H,rfl⟩ ⟨rfl,rfl,rfl,rfl,rfl,rfl,rfl,rfl,trivial⟩ ⟨rfl,rfl,trivial⟩ rfl
  refine lP T143 (hg:=gy (bf h17)) (k:=lP T143 (hg:=gy (bf h17)) (k:=lP T143 (hg:=gy (bf h17)) (k:=?_)))
  obtain ⟨t18,e19,H⟩:=bo H
  refine cr rfl (impl_on.ok e19) (qg (qg (qg qn))) (hg:=gy (bf h17)) (k:=qB (bf h17) (k:=nl ?_))
  exact CanR.mk (fun κ=>cond (Nat.beq κ 207) 202 (cond (Nat.beq κ 208) 203 (κ))) ⟨_,(by omega),_,_,_,_,_,_,_,_,_,_,H,rfl⟩ ⟨rfl,rfl,rfl,rfl,rfl,rfl,rfl,rfl,trivial⟩ ⟨rfl,rfl,trivial⟩ rfl
 clear H
 rintro _ ⟨k,hj1,x0,x3,x4,y207_0,y207_1,y208_0,y208_1,x23,x24,x59,H,rfl⟩
 rcases k with _|k
 cases H
 rw [impl_ValidPolygon.j1] at H
 rcases ie H with ⟨h20,H⟩|⟨h20,H⟩
 ·refine ay h20 ?_
  cases H
  exact s2 (mB (k:=nl (rt r1)))
 refine an (bf h20) ?_
 refine sp (s2 (mI (k:=iA (k:=mI (k:=nl (bk (lp ?_)))))))
 obtain ⟨K1,hK1,gK1⟩:=kk k
 refine AGr.canon (fun κ=>cond (Nat.beq κ 209) 207 (cond (Nat.beq κ 210) 208 (κ))) (AGr.loopI (n:=k) (fun k s=>k≤K1∧∃ x0 x3 x4 y209_0 y209_1 y210_0 y210_1 x8 x23 x24,impl_ValidPolygon.l1 k x0 x3 x4 y209_0 y209_1 y210_0 y210_1 x8 x23 x24=some r∧s=St.of [(0,vR 143 (x0.map c142)),(3,vI x3),(4,vI x4),(5,.c (.ptr 209 0)),(6,.c (.ptr 210 0)),(8,vI x8),(23,vI x23),(24,vI x24)] [(209,.box 143 [.d (.v (.int .i64 y209_0)),.d (.v (.int .i64 y209_1))]),(210,.box 143 [.d (.v (.int .i64 y210_0)),.d (.v (.int .i64 y210_1))])]) ⟨hK1,_,_,_,_,_,_,_,_,_,_,H,rfl⟩ ?_ ?_) ⟨rfl,rfl,rfl,rfl,rfl,rfl,rfl,rfl,trivial⟩ ⟨rfl,rfl,trivial⟩ rfl
 ·rintro _ ⟨_,_,_,_,_,_,_,_,_,_,_,H,_⟩
  cases H
 clear H hK1
 rintro k ih1 _ ⟨hK1,x0,x3,x4,y209_0,y209_1,y210_0,y210_1,x8,x23,x24,H,rfl⟩
 unfold impl_ValidPolygon.l1 at H
 refine sq (s2 (mI (k:=mI (k:=iL (k:=nl ?_)))))
 rcases ei H with ⟨h21,H⟩|⟨h21,H⟩
 ·refine an (df h21) ?_
  refine ex (rg (iA (k:=mI (k:=nl ?_))))
  exact AGr.canon id (ih0 _ (by omega) _ ⟨by omega,_,_,_,_,H,rfl⟩) ⟨rfl,rfl,rfl,rfl,trivial⟩ trivial rfl
 refine ay (dt h21) ?_
 refine sp (sq (bk (s2 (mI (k:=iA (k:=mI (k:=?_)))))))
 obtain ⟨h22,H⟩:=oi H
 refine jr (r:=Int.tmod (wrap64 (x8+1)) x3) h22 (k:=mI (k:=iNe (k:=mB (k:=?_))))
 rcases ie H with ⟨h23,H⟩|⟨h23,H⟩
 ·iterate 14 refine sk (nq h23) (k:=?_)
  refine qB (nq h23) (k:=?_)
  refine RA.nil (fun _=>by kernel_rfl) ?_
  refine an rfl ?_
  refine sp (rg (mI (k:=iA (k:=mI (k:=nl ?_)))))
  exact AGr.canon id (ih1 _ (by omega) _ ⟨by omega,_,_,_,_,_,_,_,_,_,_,H,rfl⟩) ⟨rfl,rfl,rfl,rfl,rfl,rfl,rfl,rfl,trivial⟩ ⟨rfl,rfl,trivial⟩ rfl
 refine lP T143 (hg:=gy (nn h23)) (k:=lP T143 (hg:=gy (nn h23)) (k:=mR (hg:=gy (nn h23)) (k:=mI (hg:=gy (nn h23)) (k:=?_))))
 obtain ⟨h24,H⟩:=io H
 obtain ⟨h25,H⟩:=io H
 refine ixx ⟨h24,h25⟩ T143 Tryz.underlying37 (R142 h24 h25) (hg:=gy (nn h23)) (k:=oP T143 (hg:=gy (nn h23)) (k:=mR (hg:=gy (nn h23)) (k:=mI (hg:=gy (nn h23)) (k:=iA (hg:=gy (nn h23)) (k:=mI (hg:=gy (nn h23)) (k:=jr (r:=Int.tmod (wrap64 (x8+1)) x3) h22 (hg:=gy (nn h23)) (k:=?_)))))))
 obtain ⟨h26,H⟩:=io H
 obtain ⟨h27,H⟩:=io H
 refine ixx ⟨h26,h27⟩ T143 Tryz.underlying37 (R142 h26 h27) (hg:=gy (nn h23)) (k:=oP T143 (hg:=gy (nn h23)) (k:=?_))
 obtain ⟨t28,e29,H⟩:=bo H
 refine cr rfl (impl_touching.ok e29) (qg (qg (qg (qg qn)))) (hg:=gy (nn h23)) (k:=pB (nn h23) (k:=?_))
 refine RA.nil (fun _=>by kernel_rfl) ?_
 rcases ie H with ⟨h30,H⟩|⟨h30,H⟩
 ·refine ay h30 ?_
  cases H
  exact s2 (mB (k:=nl (rt r1)))
 refine an (bf h30) ?_
 refine sp (rg (mI (k:=iA (k:=mI (k:=nl ?_)))))
 exact AGr.canon id (ih1 _ (by omega) _ ⟨by omega,_,_,_,_,_,_,_,_,_,_,H,rfl⟩) ⟨rfl,rfl,rfl,rfl,rfl,rfl,rfl,rfl,trivial⟩ ⟨rfl,rfl,trivial⟩ rfl
mutual
def impl_ValidDrawing.j0:Nat→Int→Int→List S142→List S154→Bool→Option (Bool)
 | 0,_,_,_,_,_=>none
 | k+1,y203_0,y203_1,y203_2,y203_3,x30=>if x30=true then (some false) else (impl_ValidDrawing.l0 k y203_0 y203_1 y203_2 y203_3 y203_2 (y203_2.length:Int) 0)
def impl_ValidDrawing.j1:Nat→List S142→List S154→Option (Bool)
 | 0,_,_=>none
 | k+1,y209_2,y209_3=>impl_ValidDrawing.l1 k y209_2 y209_3 y209_3 (y209_3.length:Int) 0
def impl_ValidDrawing.l0:Nat→Int→Int→List S142→List S154→List S142→Int→Int→Option (Bool)
 | 0,_,_,_,_,_,_,_=>none
 | k+1,y204_0,y204_1,y204_2,y204_3,x32,x33,x34=>if x34 < x33 then (if 0≤x34 then (if x34 < (x32.length:Int) then ((impl_within.f ((rd142 x32 x34).f0) 0 y204_0).bind fun t12=>(if t12=true then ((impl_within.f ((rd142 x32 x34).f1) 0 y204_1).bind fun t15=>(if t15=true then (if x34≤(y204_2.length:Int) then ((slices_Contains_impl_Point.f k (y204_2.take ((x34:Int).toNat)) ((rd142 x32 x34).f0) ((rd142 x32 x34).f1)).bind fun t19=>(if t19=true then (some false) else (impl_ValidDrawing.l0 k y204_0 y204_1 y204_2 y204_3 x32 x33 (wrap64 (x34+1))))) else (none)) else (some false))) else (some false))) else (none)) else (none)) else (impl_ValidDrawing.j1 k y204_2 y204_3)
def impl_ValidDrawing.l1:Nat→List S142→List S154→List S154→Int→Int→Option (Bool)
 | 0,_,_,_,_,_=>none
 | k+1,y210_2,y210_3,x63,x64,x65=>if x65 < x64 then (if 0≤x65 then (if x65 < (x63.length:Int) then ((impl_IsName.f k ((rd154 x63 x65).f0)).bind fun t25=>(if t25=true then (if x65 > 0 then (if 0≤(wrap64 (x65 - 1)) then (if (wrap64 (x65 - 1)) < (y210_3.length:Int) then (impl_ValidDrawing.j2 k y210_2 y210_3 ((rd154 x63 x65).f1) x63 x64 x65 (!(Op.bytesLess (((rd154 y210_3 (wrap64 (x65 - 1))).f0).toList) (((rd154 x63 x65).f0).toList)))) else (none)) else (none)) else (impl_ValidDrawing.j2 k y210_2 y210_3 ((rd154 x63 x65).f1) x63 x64 x65 false)) else (impl_ValidDrawing.j2 k y210_2 y210_3 ((rd154 x63 x65).f1) x63 x64 x65 true))) else (none)) else (none)) else (some true)
def impl_ValidDrawing.j2:Nat→List S142→List S154→List Int→List S154→Int→Int→Bool→Option (Bool)
 | 0,_,_,_,_,_,_,_=>none
 | k+1,y213_2,y213_3,y214_1,x63,x64,x65,x89=>if x89=true then (some false) else ((impl_ringPolygon.f k y213_2 y214_1).bind fun bt32=>(if bt32.2=true then ((impl_ValidPolygon.f k bt32.1).bind fun t36=>(if t36=true then (impl_ValidDrawing.l1 k y213_2 y213_3 x63 x64 (wrap64 (x65+1))) else (some false))) else (some false)))
end
def impl_ValidDrawing.f (k:Nat) (a0_0 a0_1:Int) (l0_2:List S142) (l0_3:List S154):Option (Bool):=(impl_within.f a0_0 10 20000).bind fun t1=>(if t1=true then ((impl_within.f a0_1 10 20000).bind fun t4=>(if t4=true then (if (l0_2.length:Int) > 48 then (impl_ValidDrawing.j0 k a0_0 a0_1 l0_2 l0_3 true) else (impl_ValidDrawing.j0 k a0_0 a0_1 l0_2 l0_3 (decide ((l0_3.length:Int) > 24)))) else (impl_ValidDrawing.j0 k a0_0 a0_1 l0_2 l0_3 true))) else (impl_ValidDrawing.j0 k a0_0 a0_1 l0_2 l0_3 true))
theorem impl_ValidDrawing.ok {k:Nat} {a0_0 a0_1:Int} {l0_2:List S142} {l0_3:List S154} {r:Bool} (H:impl_ValidDrawing.f k a0_0 a0_1 l0_2 l0_3=some r):OkF Tryz.prog 77 [.agg [cI a0_0,cI a0_1,.d (.row 143 (l0_2.map c142)),.d (.row 158 (l0_3.map c154))]] [] (vB r) []:=by
 unfold impl_ValidDrawing.f at H
 refine o1 106 2 Tryz.func77 fun w0 S=>?_
 refine s2 (jb 200 (k:=mB (k:=nl (sq (sq ?_)))))
 refine AG.joinR (fun s=>∃ q,q≤k∧∃ y203_0 y203_1 y203_2 y203_3 x30,impl_ValidDrawing.j0 q y203_0 y203_1 y203_2 y203_3 x30=some r∧s=St.of [(1,.c (.ptr 203 0)),(30,vB x30)] [(203,.box 40 [.d (.v (.int .i64 y203_0)),.d (.v (.int .i64 y203_1)),.d (.row 143 (y203_2.map c142)),.d (.row 158 (y203_3.map c154))])]) ?_ ?_
 ·skip
  refine rg (fB 0 D40_0 (k:=lI T2 (k:=?_)))
  obtain ⟨t1,e2,H⟩:=bo H
  refine cr rfl (impl_within.ok e2) (qd (qd (qd qn))) (k:=uN (k:=mB (k:=?_)))
  rcases ei H with ⟨h3,H⟩|⟨h3,H⟩
  ·iterate 4 refine sk (cn (bf h3)) (k:=?_)
   refine pB (cn (bf h3)) (k:=mB (k:=?_))
   iterate 4 refine sk rfl (k:=?_)
   refine pB rfl (k:=mB (k:=?_))
   iterate 4 refine sk rfl (k:=?_)
   refine pB rfl (k:=nl ?_)
   exact CanR.mk (fun κ=>cond (Nat.beq κ 203) 200 (κ)) ⟨_,(by omega),_,_,_,_,_,H,rfl⟩ ⟨rfl,rfl,trivial⟩ ⟨rfl,trivial⟩ rfl
  refine fB 1 D40_1 (hg:=gy (cn h3)) (k:=lI T2 (hg:=gy (cn h3)) (k:=?_))
  obtain ⟨t4,e5,H⟩:=bo H
  refine cr rfl (impl_within.ok e5) (qd (qd (qd qn))) (hg:=gy (cn h3)) (k:=uN (hg:=gy (cn h3)) (k:=qB (cn h3) (k:=mB (k:=?_))))
  rcases ei H with ⟨h6,H⟩|⟨h6,H⟩
  ·iterate 4 refine sk (cn (bf h6)) (k:=?_)
   refine pB (cn (bf h6)) (k:=mB (k:=?_))
   iterate 4 refine sk rfl (k:=?_)
   refine pB rfl (k:=nl ?_)
   exact CanR.mk (fun κ=>cond (Nat.beq κ 203) 200 (κ)) ⟨_,(by omega),_,_,_,_,_,H,rfl⟩ ⟨rfl,rfl,trivial⟩ ⟨rfl,trivial⟩ rfl
  refine fB 2 D40_2 (hg:=gy (cn h6)) (k:=lR T37 (hg:=gy (cn h6)) (k:=jl Tryz.underlying37 (hg:=gy (cn h6)) (k:=iG (hg:=gy (cn h6)) (k:=qB (cn h6) (k:=mB (k:=?_))))))
  rcases ie H with ⟨h7,H⟩|⟨h7,H⟩
  ·iterate 4 refine sk (dt h7) (k:=?_)
   refine pB (dt h7) (k:=nl ?_)
   exact CanR.mk (fun κ=>cond (Nat.beq κ 203) 200 (κ)) ⟨_,(by omega),_,_,_,_,_,H,rfl⟩ ⟨rfl,rfl,trivial⟩ ⟨rfl,trivial⟩ rfl
  refine fB 3 D40_3 (hg:=gy (df h7)) (k:=lR T38 (hg:=gy (df h7)) (k:=jl Tryz.underlying38 (hg:=gy (df h7)) (k:=iG (hg:=gy (df h7)) (k:=qB (df h7) (k:=nl ?_)))))
  exact CanR.mk (fun κ=>cond (Nat.beq κ 203) 200 (κ)) ⟨_,(by omega),_,_,_,_,_,H,rfl⟩ ⟨rfl,rfl,trivial⟩ ⟨rfl,trivial⟩ rfl
 clear H
 rintro _ ⟨k,hj0,y203_0,y203_1,y203_2,y203_3,x30,H,rfl⟩
 rcases k with _|k
 cases H
 rw [impl_ValidDrawing.j0] at H
 rcases ie H with ⟨h8,H⟩|⟨h8,H⟩
 ·refine ay h8 ?_
  cases H
  exact s2 (mB (k:=nl (rt r1)))
 refine an (bf h8) ?_
 refine sp (sq (s2 (fB 2 D40_2 (k:=lR T37 (k:=jl Tryz.underlying37 (k:=mI (k:=nl ?_)))))))
 refine AG.joinR (fun s=>∃ q,q≤k∧∃ (y209_0:Int),∃ (y209_1:Int),∃ y209_2 y209_3,impl_ValidDrawing.j1 q y209_2 y209_3=some r∧s=St.of [(1,.c (.ptr 209 0))] [(209,.box 40 [.d (.v (.int .i64 y209_0)),.d (.v (.int .i64 y209_1)),.d (.row 143 (y209_2.map c142)),.d (.row 158 (y209_3.map c154))])]) ?_ ?_
 ·skip
  refine bk (lp ?_)
  obtain ⟨K0,hK0,gK0⟩:=kk k
  refine AGr.canon (fun κ=>cond (Nat.beq κ 204) 203 (κ)) (AGr.loopI (n:=k) (fun k s=>k≤K0∧∃ y204_0 y204_1 y204_2 y204_3 x32 x33 x34,impl_ValidDrawing.l0 k y204_0 y204_1 y204_2 y204_3 x32 x33 x34=some r∧s=St.of [(1,.c (.ptr 204 0)),(32,vR 143 (x32.map c142)),(33,vI x33),(34,vI x34)] [(204,.box 40 [.d (.v (.int .i64 y204_0)),.d (.v (.int .i64 y204_1)),.d (.row 143 (y204_2.map c142)),.d (.row 158 (y204_3.map c154))])]) ⟨hK0,_,_,_,_,_,_,_,H,rfl⟩ ?_ ?_) ⟨rfl,rfl,rfl,rfl,trivial⟩ ⟨rfl,trivial⟩ rfl
  ·rintro _ ⟨_,_,_,_,_,_,_,_,H,_⟩
   cases H
  clear H hK0
  rintro k ih0 _ ⟨hK0,y204_0,y204_1,y204_2,y204_3,x32,x33,x34,H,rfl⟩
  unfold impl_ValidDrawing.l0 at H
  refine s2 (iL (k:=nl (sq ?_)))
  rcases ei H with ⟨h9,H⟩|⟨h9,H⟩
  ·refine an (df h9) ?_
   refine ex ?_
   exact CanR.mk (fun κ=>cond (Nat.beq κ 209) 204 (κ)) ⟨_,(by omega),_,_,_,_,H,rfl⟩ ⟨rfl,trivial⟩ ⟨rfl,trivial⟩ rfl
  refine ay (dt h9) ?_
  refine sp (sq (bk (s2 (mI (k:=?_)))))
  obtain ⟨h10,H⟩:=io H
  obtain ⟨h11,H⟩:=io H
  refine ixx ⟨h10,h11⟩ T143 Tryz.underlying37 (R142 h10 h11) (k:=oP T143 (k:=aP 205 T143 (k:=mI (k:=sP T143 (k:=nl (s2 (fB 0 D143_0 (k:=lI T2 (k:=fB 0 D40_0 (k:=lI T2 (k:=?_)))))))))))
  obtain ⟨t12,e13,H⟩:=bo H
  refine cr rfl (impl_within.ok e13) (qd (qd (qd qn))) (k:=uN (k:=mB (k:=?_)))
  rcases ei H with ⟨h14,H⟩|⟨h14,H⟩
  ·iterate 6 refine sk (cn (bf h14)) (k:=?_)
   refine pB (cn (bf h14)) (k:=mB (k:=?_))
   iterate 6 refine sk rfl (k:=?_)
   refine pB rfl (k:=?_)
   refine RA.nil (fun _=>by kernel_rfl) ?_
   refine ay rfl ?_
   cases H
   exact s2 (mB (k:=nl (rt r1)))
  refine fB 1 D143_1 (hg:=gy (cn h14)) (k:=lI T2 (hg:=gy (cn h14)) (k:=fB 1 D40_1 (hg:=gy (cn h14)) (k:=lI T2 (hg:=gy (cn h14)) (k:=?_))))
  obtain ⟨t15,e16,H⟩:=bo H
  refine cr rfl (impl_within.ok e16) (qd (qd (qd qn))) (hg:=gy (cn h14)) (k:=uN (hg:=gy (cn h14)) (k:=qB (cn h14) (k:=mB (k:=?_))))
  rcases ei H with ⟨h17,H⟩|⟨h17,H⟩
  ·iterate 6 refine sk (cn (bf h17)) (k:=?_)
   refine pB (cn (bf h17)) (k:=?_)
   refine RA.nil (fun _=>by kernel_rfl) ?_
   refine ay rfl ?_
   cases H
   exact s2 (mB (k:=nl (rt r1)))
  refine fB 2 D40_2 (hg:=gy (cn h17)) (k:=lR T37 (hg:=gy (cn h17)) (k:=mI (hg:=gy (cn h17)) (k:=?_)))
  obtain ⟨h18,H⟩:=io H
  refine a_slR (l:=none) (h:=some x34) (css':=(y204_2.take ((x34:Int).toNat)).map c142) ?_ Tryz.underlying37 T143 ⟨(Int.le_refl 0),h10,(lenM (p:=fun n=>x34≤n) h18)⟩ (map_take_drop _ _ _ _) (hg:=gy (cn h17))
  refine lP T143 (hg:=gy (cn h17)) (k:=?_)
  obtain ⟨t19,e20,H⟩:=bo H
  refine cr rfl (slices_Contains_impl_Point.ok e20) (qd (qg qn)) (hg:=gy (cn h17)) (k:=qB (cn h17) (k:=?_))
  refine RA.nil (fun _=>by kernel_rfl) ?_
  rcases ie H with ⟨h21,H⟩|⟨h21,H⟩
  ·refine ay h21 ?_
   cases H
   exact s2 (mB (k:=nl (rt r1)))
  refine an (bf h21) ?_
  refine sp (rg (iA (k:=mI (k:=nl ?_))))
  exact AGr.canon id (ih0 _ (by omega) _ ⟨by omega,_,_,_,_,_,_,_,H,rfl⟩) ⟨rfl,rfl,rfl,rfl,trivial⟩ ⟨rfl,trivial⟩ rfl
 clear H
 rintro _ ⟨k,hj1,y209_0,y209_1,y209_2,y209_3,H,rfl⟩
 rcases k with _|k
 cases H
 rw [impl_ValidDrawing.j1] at H
 refine sq (s2 (fB 3 D40_3 (k:=lR T38 (k:=jl Tryz.underlying38 (k:=mI (k:=nl (bk (lp ?_))))))))
 obtain ⟨K1,hK1,gK1⟩:=kk k
 refine AGr.canon (fun κ=>cond (Nat.beq κ 210) 209 (κ)) (AGr.loopI (n:=k) (fun k s=>k≤K1∧∃ (y210_0:Int),∃ (y210_1:Int),∃ y210_2 y210_3 x63 x64 x65,impl_ValidDrawing.l1 k y210_2 y210_3 x63 x64 x65=some r∧s=St.of [(1,.c (.ptr 210 0)),(63,vR 158 (x63.map c154)),(64,vI x64),(65,vI x65)] [(210,.box 40 [.d (.v (.int .i64 y210_0)),.d (.v (.int .i64 y210_1)),.d (.row 143 (y210_2.map c142)),.d (.row 158 (y210_3.map c154))])]) ⟨hK1,_,_,_,_,_,_,_,H,rfl⟩ ?_ ?_) ⟨rfl,rfl,rfl,rfl,trivial⟩ ⟨rfl,trivial⟩ rfl
 ·rintro _ ⟨_,_,_,_,_,_,_,_,H,_⟩
  cases H
 clear H hK1
 rintro k ih1 _ ⟨hK1,y210_0,y210_1,y210_2,y210_3,x63,x64,x65,H,rfl⟩
 unfold impl_ValidDrawing.l1 at H
 refine s2 (iL (k:=nl (sq ?_)))
 rcases ei H with ⟨h22,H⟩|⟨h22,H⟩
 ·refine an (df h22) ?_
  cases H
  exact ex (s2 (mB (k:=nl (rt r1))))
 refine ay (dt h22) ?_
 refine sp (sq (bk (s2 (mI (k:=?_)))))
 obtain ⟨h23,H⟩:=io H
 obtain ⟨h24,H⟩:=io H
 refine ixx ⟨h23,h24⟩ T158 Tryz.underlying38 (R154 h23 h24) (k:=oP T158 (k:=aP 211 T158 (k:=mI (k:=sP T158 (k:=nl (sq (sq ?_)))))))
 refine AG.joinR (fun s=>∃ q,q≤k∧∃ (y213_0:Int),∃ (y213_1:Int),∃ y213_2 y213_3,∃ (y214_0:ByteArray),∃ y214_1 x63 x64 x65 x89,impl_ValidDrawing.j2 q y213_2 y213_3 y214_1 x63 x64 x65 x89=some r∧s=St.of [(1,.c (.ptr 213 0)),(6,.c (.ptr 214 0)),(63,vR 158 (x63.map c154)),(64,vI x64),(65,vI x65),(89,vB x89)] [(213,.box 40 [.d (.v (.int .i64 y213_0)),.d (.v (.int .i64 y213_1)),.d (.row 143 (y213_2.map c142)),.d (.row 158 (y213_3.map c154))]),(214,.box 158 [.d (.v (.string y214_0)),.d (.row 2 (y214_1.map c2))])]) ?_ ?_
 ·skip
  refine rg (fB 0 D158_0 (k:=lv (vS _) T9 (k:=?_)))
  obtain ⟨t25,e26,H⟩:=bo H
  refine cr rfl (impl_IsName.ok e26) (qd qn) (k:=uN (k:=mB (k:=?_)))
  rcases ei H with ⟨h27,H⟩|⟨h27,H⟩
  ·iterate 3 refine sk (cn (bf h27)) (k:=?_)
   iterate 10 refine RA.skip0 rfl rfl rfl rfl rfl ?_
   refine sk (cn (bf h27)) (k:=pB (cn (bf h27)) (k:=?_))
   refine RA.nil (fun _=>by kernel_rfl) ?_
   exact CanR.mk (fun κ=>cond (Nat.beq κ 213) 210 (cond (Nat.beq κ 214) 211 (κ))) ⟨_,(by omega),_,_,_,_,_,_,_,_,_,_,H,rfl⟩ ⟨rfl,rfl,rfl,rfl,rfl,rfl,trivial⟩ ⟨rfl,rfl,trivial⟩ rfl
  refine mI (hg:=gy (cn h27)) (k:=iG (hg:=gy (cn h27)) (k:=mB (hg:=gy (cn h27)) (k:=?_)))
  rcases ei H with ⟨h28,H⟩|⟨h28,H⟩
  ·iterate 10 refine sk (df h28) (k:=?_)
   refine qB (df h28) (hg:=gy (cn h27)) (k:=qB (cn h27) (k:=?_))
   refine RA.nil (fun _=>by kernel_rfl) ?_
   exact CanR.mk (fun κ=>cond (Nat.beq κ 213) 210 (cond (Nat.beq κ 214) 211 (κ))) ⟨_,(by omega),_,_,_,_,_,_,_,_,_,_,H,rfl⟩ ⟨rfl,rfl,rfl,rfl,rfl,rfl,trivial⟩ ⟨rfl,rfl,trivial⟩ rfl
  refine fB 3 D40_3 (hg:=gy (dt h28)) (k:=lR T38 (hg:=gy (dt h28)) (k:=mI (hg:=gy (dt h28)) (k:=iS (hg:=gy (dt h28)) (k:=?_))))
  obtain ⟨h29,H⟩:=io H
  obtain ⟨h30,H⟩:=io H
  refine ixx ⟨h29,h30⟩ T158 Tryz.underlying38 (R154 h29 h30) (hg:=gy (dt h28)) (k:=jf (cells':=[_,_]) D158_0 (hg:=gy (dt h28)) (k:=ov (vS _) T9 (hg:=gy (dt h28)) (k:=fB 0 D158_0 (hg:=gy (dt h28)) (k:=lv (vS _) T9 (hg:=gy (dt h28)) (k:=bB (!(Op.bytesLess (((rd154 y210_3 (wrap64 (x65 - 1))).f0).toList) (((rd154 x63 x65).f0).toList))) (hg:=gy (dt h28)) (k:=pB (dt h28) (hg:=gy (cn h27)) (k:=qB (cn h27) (k:=?_))))))))
  refine RA.nil (fun _=>by kernel_rfl) ?_
  exact CanR.mk (fun κ=>cond (Nat.beq κ 213) 210 (cond (Nat.beq κ 214) 211 (κ))) ⟨_,(by omega),_,_,_,_,_,_,_,_,_,_,H,rfl⟩ ⟨rfl,rfl,rfl,rfl,rfl,rfl,trivial⟩ ⟨rfl,rfl,trivial⟩ rfl
 clear H
 rintro _ ⟨k,hj2,y213_0,y213_1,y213_2,y213_3,y214_0,y214_1,x63,x64,x65,x89,H,rfl⟩
 rcases k with _|k
 cases H
 rw [impl_ValidDrawing.j2] at H
 rcases ie H with ⟨h31,H⟩|⟨h31,H⟩
 ·refine ay h31 ?_
  cases H
  exact s2 (mB (k:=nl (rt r1)))
 refine an (bf h31) ?_
 refine sp (s2 (fB 2 D40_2 (k:=lR T37 (k:=fB 1 D158_1 (k:=lR T104 (k:=?_))))))
 obtain ⟨⟨t32,t33⟩,e34,H⟩:=bo H
 refine a_call (v := .tup [.c (.own 215 t32.length),.c (.d (.v (.bool t33)))]) (nk:=[(215,.row 143 (t32.map c142))]) (L:=[]) ?_ rfl (impl_ringPolygon.ok e34) (fun κ=>cond (Nat.beq κ 215) 100 (κ)) (qd (qd qn)) trivial ⟨rfl,trivial⟩ ⟨rfl,trivial⟩ rfl
 refine mv (.tup [_,_]) (k:=ev (.c (.own _ _)) (k:=xB (k:=mW (k:=mB (k:=nl (s2 (mB (k:=uN (k:=mB (k:=?_))))))))))
 rcases ei H with ⟨h35,H⟩|⟨h35,H⟩
 ·iterate 3 refine sk (cn (bf h35)) (k:=?_)
  refine pB (cn (bf h35)) (k:=nl ?_)
  refine ay rfl ?_
  cases H
  exact s2 (mB (k:=nl (rt r1)))
 refine mW (hg:=gy (cn h35)) (k:=?_)
 obtain ⟨t36,e37,H⟩:=bo H
 refine a_call (v:=vB t36) (nk:=[]) (L:=[(215,_)]) ?_ rfl (impl_ValidPolygon.ok e37) id (qc rO qn) ⟨rfl,trivial⟩ trivial trivial rfl (hg:=gy (cn h35))
 refine uN (hg:=gy (cn h35)) (k:=qB (cn h35) (k:=nl ?_))
 rcases ei H with ⟨h38,H⟩|⟨h38,H⟩
 ·refine ay (cn (bf h38)) ?_
  cases H
  exact s2 (mB (k:=nl (rt r1)))
 refine an (cn h38) ?_
 refine sp (rg (iA (k:=mI (k:=nl ?_))))
 exact AGr.canon (fun κ=>cond (Nat.beq κ 210) 213 (κ)) (ih1 _ (by omega) _ ⟨by omega,_,_,_,_,_,_,_,H,rfl⟩) ⟨rfl,rfl,rfl,rfl,trivial⟩ ⟨rfl,trivial⟩ rfl
def impl_SpeciesData.f (a0:ByteArray):Option (Int×Int×Int×Int):=if a0.toList=(⟨#[97,115,104]⟩:ByteArray).toList then (some (20,40,310,0)) else (if a0.toList=(⟨#[98,101,101,99,104]⟩:ByteArray).toList then (some (35,45,410,0)) else (if a0.toList=(⟨#[98,105,114,99,104]⟩:ByteArray).toList then (some (15,33,280,0)) else (if a0.toList=(⟨#[99,104,101,114,114,121]⟩:ByteArray).toList then (some (50,36,240,0)) else (if a0.toList=(⟨#[101,98,111,110,121]⟩:ByteArray).toList then (some (95,85,270,0)) else (if a0.toList=(⟨#[104,111,108,108,121]⟩:ByteArray).toList then (some (5,35,370,0)) else (if a0.toList=(⟨#[109,97,112,108,101]⟩:ByteArray).toList then (some (10,42,290,0)) else (if a0.toList=(⟨#[111,97,107]⟩:ByteArray).toList then (some (40,40,330,0)) else (if a0.toList=(⟨#[114,111,115,101,119,111,111,100]⟩:ByteArray).toList then (some (80,60,220,0)) else (if a0.toList=(⟨#[119,97,108,110,117,116]⟩:ByteArray).toList then (some (70,38,260,0)) else (some (0,0,0,3)))))))))))
theorem impl_SpeciesData.ok {a0:ByteArray} {r0 r1 r2 r3:Int} (H:impl_SpeciesData.f a0=some (r0,r1,r2,r3)):OkF Tryz.prog 177 [vS a0] [] (.tup [.c (.d (.v (.int .i64 r0))),.c (.d (.v (.int .i64 r1))),.c (.d (.v (.int .i64 r2))),.c (.d (.v (.int .i64 r3)))]) []:=by
 unfold impl_SpeciesData.f at H
 refine OkF.of (N:=27) (rs:=[2,3,4,5]) (avs:=[.c (.d (.v (.int .i64 r0))),.c (.d (.v (.int .i64 r1))),.c (.d (.v (.int .i64 r2))),.c (.d (.v (.int .i64 r3)))]) Tryz.func177 rfl rfl (fun _ _=>results_tmp4 rfl _ _ _) (by decide) rfl rfl rfl rfl (fun w0 S=>?_)
 refine s2 (mI (k:=mI (k:=mI (k:=mI (k:=nl (sq (s2 (mv (vS _) (k:=nl (bk (s2 (bB (a0.toList == (⟨#[97,115,104]⟩:ByteArray).toList) (k:=mB (k:=nl ?_))))))))))))))
 rcases ie H with ⟨h1,H⟩|⟨h1,H⟩
 ·refine ay (bq h1) ?_
  refine s2 (mI (k:=mI (k:=mI (k:=mI (k:=nl (rt ?_))))))
  simp only [Option.some.injEq,Prod.mk.injEq] at H
  obtain ⟨rfl,rfl,rfl,rfl⟩:=H
  exact RetP.mk id ⟨rfl,rfl,rfl,rfl,trivial⟩ trivial rfl
 refine an (bn h1) ?_
 refine s2 (bB (a0.toList == (⟨#[98,101,101,99,104]⟩:ByteArray).toList) (k:=mB (k:=nl ?_)))
 rcases ie H with ⟨h2,H⟩|⟨h2,H⟩
 ·refine ay (bq h2) ?_
  refine s2 (mI (k:=mI (k:=mI (k:=mI (k:=nl (rt ?_))))))
  simp only [Option.some.injEq,Prod.mk.injEq] at H
  obtain ⟨rfl,rfl,rfl,rfl⟩:=H
  exact RetP.mk id ⟨rfl,rfl,rfl,rfl,trivial⟩ trivial rfl
 refine an (bn h2) ?_
 refine s2 (bB (a0.toList == (⟨#[98,105,114,99,104]⟩:ByteArray).toList) (k:=mB (k:=nl ?_)))
 rcases ie H with ⟨h3,H⟩|⟨h3,H⟩
 ·refine ay (bq h3) ?_
  refine s2 (mI (k:=mI (k:=mI (k:=mI (k:=nl (rt ?_))))))
  simp only [Option.some.injEq,Prod.mk.injEq] at H
  obtain ⟨rfl,rfl,rfl,rfl⟩:=H
  exact RetP.mk id ⟨rfl,rfl,rfl,rfl,trivial⟩ trivial rfl
 refine an (bn h3) ?_
 refine s2 (bB (a0.toList == (⟨#[99,104,101,114,114,121]⟩:ByteArray).toList) (k:=mB (k:=nl ?_)))
 rcases ie H with ⟨h4,H⟩|⟨h4,H⟩
 ·refine ay (bq h4) ?_
  refine s2 (mI (k:=mI (k:=mI (k:=mI (k:=nl (rt ?_))))))
  simp only [Option.some.injEq,Prod.mk.injEq] at H
  obtain ⟨rfl,rfl,rfl,rfl⟩:=H
  exact RetP.mk id ⟨rfl,rfl,rfl,rfl,trivial⟩ trivial rfl
 refine an (bn h4) ?_
 refine s2 (bB (a0.toList == (⟨#[101,98,111,110,121]⟩:ByteArray).toList) (k:=mB (k:=nl ?_)))
 rcases ie H with ⟨h5,H⟩|⟨h5,H⟩
 ·refine ay (bq h5) ?_
  refine s2 (mI (k:=mI (k:=mI (k:=mI (k:=nl (rt ?_))))))
  simp only [Option.some.injEq,Prod.mk.injEq] at H
  obtain ⟨rfl,rfl,rfl,rfl⟩:=H
  exact RetP.mk id ⟨rfl,rfl,rfl,rfl,trivial⟩ trivial rfl
 refine an (bn h5) ?_
 refine s2 (bB (a0.toList == (⟨#[104,111,108,108,121]⟩:ByteArray).toList) (k:=mB (k:=nl ?_)))
 rcases ie H with ⟨h6,H⟩|⟨h6,H⟩
 ·refine ay (bq h6) ?_
  refine s2 (mI (k:=mI (k:=mI (k:=mI (k:=nl (rt ?_))))))
  simp only [Option.some.injEq,Prod.mk.injEq] at H
  obtain ⟨rfl,rfl,rfl,rfl⟩:=H
  exact RetP.mk id ⟨rfl,rfl,rfl,rfl,trivial⟩ trivial rfl
 refine an (bn h6) ?_
 refine s2 (bB (a0.toList == (⟨#[109,97,112,108,101]⟩:ByteArray).toList) (k:=mB (k:=nl ?_)))
 rcases ie H with ⟨h7,H⟩|⟨h7,H⟩
 ·refine ay (bq h7) ?_
  refine s2 (mI (k:=mI (k:=mI (k:=mI (k:=nl (rt ?_))))))
  simp only [Option.some.injEq,Prod.mk.injEq] at H
  obtain ⟨rfl,rfl,rfl,rfl⟩:=H
  exact RetP.mk id ⟨rfl,rfl,rfl,rfl,trivial⟩ trivial rfl
 refine an (bn h7) ?_
 refine s2 (bB (a0.toList == (⟨#[111,97,107]⟩:ByteArray).toList) (k:=mB (k:=nl ?_)))
 rcases ie H with ⟨h8,H⟩|⟨h8,H⟩
 ·refine ay (bq h8) ?_
  refine s2 (mI (k:=mI (k:=mI (k:=mI (k:=nl (rt ?_))))))
  simp only [Option.some.injEq,Prod.mk.injEq] at H
  obtain ⟨rfl,rfl,rfl,rfl⟩:=H
  exact RetP.mk id ⟨rfl,rfl,rfl,rfl,trivial⟩ trivial rfl
 refine an (bn h8) ?_
 refine s2 (bB (a0.toList == (⟨#[114,111,115,101,119,111,111,100]⟩:ByteArray).toList) (k:=mB (k:=nl ?_)))
 rcases ie H with ⟨h9,H⟩|⟨h9,H⟩
 ·refine ay (bq h9) ?_
  refine s2 (mI (k:=mI (k:=mI (k:=mI (k:=nl (rt ?_))))))
  simp only [Option.some.injEq,Prod.mk.injEq] at H
  obtain ⟨rfl,rfl,rfl,rfl⟩:=H
  exact RetP.mk id ⟨rfl,rfl,rfl,rfl,trivial⟩ trivial rfl
 refine an (bn h9) ?_
 refine s2 (bB (a0.toList == (⟨#[119,97,108,110,117,116]⟩:ByteArray).toList) (k:=mB (k:=nl ?_)))
 rcases ie H with ⟨h10,H⟩|⟨h10,H⟩
 ·refine ay (bq h10) ?_
  refine s2 (mI (k:=mI (k:=mI (k:=mI (k:=nl (rt ?_))))))
  simp only [Option.some.injEq,Prod.mk.injEq] at H
  obtain ⟨rfl,rfl,rfl,rfl⟩:=H
  exact RetP.mk id ⟨rfl,rfl,rfl,rfl,trivial⟩ trivial rfl
 refine an (bn h10) ?_
 refine sp (s2 (mI (k:=mI (k:=mI (k:=mI (k:=nl (rt ?_)))))))
 simp only [Option.some.injEq,Prod.mk.injEq] at H
 obtain ⟨rfl,rfl,rfl,rfl⟩:=H
 exact RetP.mk id ⟨rfl,rfl,rfl,rfl,trivial⟩ trivial rfl
def impl_speciesShade.f (a0:ByteArray):Option (Int×Bool):=(impl_SpeciesData.f a0).bind fun bt1=>(some (bt1.1,(bt1.2.2.2 == 0)))
theorem impl_speciesShade.ok {a0:ByteArray} {r0:Int} {r1:Bool} (H:impl_speciesShade.f a0=some (r0,r1)):OkF Tryz.prog 155 [vS a0] [] (.tup [.c (.d (.v (.int .i64 r0))),.c (.d (.v (.bool r1)))]) []:=by
 unfold impl_speciesShade.f at H
 refine OkF.of (N:=18) (rs:=[2,3]) (avs:=[.c (.d (.v (.int .i64 r0))),.c (.d (.v (.bool r1)))]) Tryz.func155 rfl rfl (fun _ _=>results_tmp2 rfl _ _ _) (by decide) rfl rfl rfl rfl (fun w0 S=>?_)
 refine s2 (mI (k:=mB (k:=nl (s2 (mv (vS _) (k:=?_))))))
 obtain ⟨⟨t1,t2,t3,t4⟩,e5,H⟩:=bo H
 refine cl (.tup [.c (.d (.v (.int .i64 t1))),.c (.d (.v (.int .i64 t2))),.c (.d (.v (.int .i64 t3))),.c (.d (.v (.int .i64 t4)))]) rfl (impl_SpeciesData.ok e5) (qd qn) (k:=mv (.tup [_,_,_,_]) (k:=xI (k:=xI (k:=xI (k:=xI (k:=mI (k:=mI (k:=mI (k:=mI (k:=nl (s2 (mI (k:=mI (k:=iEq (k:=mI (k:=mB (k:=nl (rt ?_))))))))))))))))))
 simp only [Option.some.injEq,Prod.mk.injEq] at H
 obtain ⟨rfl,rfl⟩:=H
 exact RetP.mk id ⟨rfl,rfl,trivial⟩ trivial rfl
def impl_ValidVeneer.f (a0_0:ByteArray) (a0_1 a0_2:Int):Option (Bool):=(impl_speciesShade.f a0_0).bind fun bt1=>(if bt1.2=true then ((impl_within.f a0_1 0 100).bind fun t5=>(if t5=true then ((impl_within.f (wrap64 (a0_1 - bt1.1)) (-15) 15).bind fun t8=>(if t8=true then ((impl_within.f a0_2 0 179).bind fun t11=>(some t11)) else (some false))) else (some false))) else (some false))
theorem impl_ValidVeneer.ok {a0_0:ByteArray} {a0_1 a0_2:Int} {r:Bool} (H:impl_ValidVeneer.f a0_0 a0_1 a0_2=some r):OkF Tryz.prog 120 [.agg [cS a0_0,cI a0_1,cI a0_2]] [] (vB r) []:=by
 unfold impl_ValidVeneer.f at H
 refine o1 29 2 Tryz.func120 fun w0 S=>?_
 refine s2 (jb 200 (k:=mB (k:=nl (s2 (fB 0 D76_0 (k:=lv (vS _) T9 (k:=?_)))))))
 obtain ⟨⟨t1,t2⟩,e3,H⟩:=bo H
 refine cl (.tup [.c (.d (.v (.int .i64 t1))),.c (.d (.v (.bool t2)))]) rfl (impl_speciesShade.ok e3) (qd qn) (k:=mv (.tup [_,_]) (k:=xI (k:=xB (k:=mI (k:=mB (k:=nl (s2 (mB (k:=mB (k:=?_))))))))))
 rcases ei H with ⟨h4,H⟩|⟨h4,H⟩
 ·iterate 3 refine sk (bf h4) (k:=?_)
  refine qB (bf h4) (k:=mB (k:=?_))
  iterate 5 refine sk rfl (k:=?_)
  refine qB rfl (k:=mB (k:=?_))
  iterate 3 refine sk rfl (k:=?_)
  cases H
  exact qB rfl (k:=mB (k:=nl (rt r1)))
 refine fB 1 D76_1 (hg:=gy h4) (k:=lI T2 (hg:=gy h4) (k:=?_))
 obtain ⟨t5,e6,H⟩:=bo H
 refine cr rfl (impl_within.ok e6) (qd (qd (qd qn))) (hg:=gy h4) (k:=pB h4 (k:=mB (k:=?_)))
 rcases ei H with ⟨h7,H⟩|⟨h7,H⟩
 ·iterate 5 refine sk (bf h7) (k:=?_)
  refine qB (bf h7) (k:=mB (k:=?_))
  iterate 3 refine sk rfl (k:=?_)
  cases H
  exact qB rfl (k:=mB (k:=nl (rt r1)))
 refine fB 1 D76_1 (hg:=gy h7) (k:=lI T2 (hg:=gy h7) (k:=mI (hg:=gy h7) (k:=iS (hg:=gy h7) (k:=?_))))
 obtain ⟨t8,e9,H⟩:=bo H
 refine cr rfl (impl_within.ok e9) (qd (qd (qd qn))) (hg:=gy h7) (k:=pB h7 (k:=mB (k:=?_)))
 rcases ei H with ⟨h10,H⟩|⟨h10,H⟩
 ·iterate 3 refine sk (bf h10) (k:=?_)
  cases H
  exact qB (bf h10) (k:=mB (k:=nl (rt r1)))
 refine fB 2 D76_2 (hg:=gy h10) (k:=lI T2 (hg:=gy h10) (k:=?_))
 obtain ⟨t11,e12,H⟩:=bo H
 cases H
 exact cr rfl (impl_within.ok e12) (qd (qd (qd qn))) (hg:=gy h10) (k:=pB h10 (k:=mB (k:=nl (rt r1))))
def impl_validVeneers_1.f (a0_0:ByteArray) (a0_1 a0_2:Int):Option (Bool):=(impl_ValidVeneer.f a0_0 a0_1 a0_2).bind fun t1=>(some (!t1))
theorem impl_validVeneers_1.ok {a0_0:ByteArray} {a0_1 a0_2:Int} {r:Bool} (H:impl_validVeneers_1.f a0_0 a0_1 a0_2=some r):OkF Tryz.prog 119 [.agg [cS a0_0,cI a0_1,cI a0_2]] [] (vB r) []:=by
 unfold impl_validVeneers_1.f at H
 refine o1 6 2 Tryz.func119 fun w0 S=>?_
 refine s2 (jb 200 (k:=mB (k:=nl (s2 (lv (.agg [_,_,_]) T76 (k:=?_))))))
 obtain ⟨t1,e2,H⟩:=bo H
 cases H
 exact cr rfl (impl_ValidVeneer.ok e2) (qg qn) (k:=uN (k:=mB (k:=nl (rt r1))))
def slices_IndexFunc_impl_Veneer__impl_validVeneers_1.l0:Nat→List S66→Int→Int→Option (Int)
 | 0,_,_,_=>none
 | k+1,x0,x7,x8=>if x8 < x7 then (if 0≤x8 then (if x8 < (x0.length:Int) then ((impl_validVeneers_1.f ((rd66 x0 x8).f0) ((rd66 x0 x8).f1) ((rd66 x0 x8).f2)).bind fun t4=>(if t4=true then (some x8) else (slices_IndexFunc_impl_Veneer__impl_validVeneers_1.l0 k x0 x7 (wrap64 (x8+1))))) else (none)) else (none)) else (some (-1))
def slices_IndexFunc_impl_Veneer__impl_validVeneers_1.f (k:Nat) (l0:List S66):Option (Int):=slices_IndexFunc_impl_Veneer__impl_validVeneers_1.l0 k l0 (l0.length:Int) 0
theorem slices_IndexFunc_impl_Veneer__impl_validVeneers_1.ok {k:Nat} {l0:List S66} {r:Int} (H:slices_IndexFunc_impl_Veneer__impl_validVeneers_1.f k l0=some r):OkF Tryz.prog 154 [vR 76 (l0.map c66),.c (.d (.fn 119 []))] [] (vI r) []:=by
 unfold slices_IndexFunc_impl_Veneer__impl_validVeneers_1.f at H
 refine o1 19 4 Tryz.func154 fun w0 S=>?_
 refine s2 (mI (k:=nl (sq (s2 (mR (k:=jl Tryz.underlying41 (k:=mI (k:=nl (bk (lp ?_))))))))))
 obtain ⟨K0,hK0,gK0⟩:=kk k
 refine AGr.canon id (AGr.loopI (n:=k) (fun k s=>k≤K0∧∃ x0 x7 x8,slices_IndexFunc_impl_Veneer__impl_validVeneers_1.l0 k x0 x7 x8=some r∧s=St.of [(0,vR 76 (x0.map c66)),(1,.c (.d (.fn 119 []))),(7,vI x7),(8,vI x8)] []) ⟨hK0,_,_,_,H,rfl⟩ ?_ ?_) ⟨rfl,rfl,rfl,rfl,trivial⟩ trivial rfl
 ·rintro _ ⟨_,_,_,_,H,_⟩
  cases H
 clear H hK0
 rintro k ih0 _ ⟨hK0,x0,x7,x8,H,rfl⟩
 unfold slices_IndexFunc_impl_Veneer__impl_validVeneers_1.l0 at H
 refine s2 (iL (k:=nl (sq ?_)))
 rcases ei H with ⟨h1,H⟩|⟨h1,H⟩
 ·refine an (df h1) ?_
  cases H
  exact ex (s2 (mI (k:=nl (rt r1))))
 refine ay (dt h1) ?_
 refine sp (sq (bk (s2 (mI (k:=mI (k:=nl (s2 (mv (.c (.d (.fn _ _))) (k:=mR (k:=mI (k:=?_)))))))))))
 obtain ⟨h2,H⟩:=io H
 obtain ⟨h3,H⟩:=io H
 refine ixx ⟨h2,h3⟩ T76 Tryz.underlying41 (R66 h2 h3) (k:=ov (.agg [_,_,_]) T76 (k:=?_))
 obtain ⟨t4,e5,H⟩:=bo H
 refine a_callV (v:=vB t4) (nk:=[]) (L:=[]) ?_ rfl (impl_validVeneers_1.ok e5) id (qg qn) trivial trivial trivial rfl
 refine nl ?_
 rcases ie H with ⟨h6,H⟩|⟨h6,H⟩
 ·refine ay h6 ?_
  cases H
  exact s2 (mI (k:=mI (k:=nl (rt r1))))
 refine an (bf h6) ?_
 refine sp (rg (iA (k:=mI (k:=nl ?_))))
 exact AGr.canon id (ih0 _ (by omega) _ ⟨by omega,_,_,_,H,rfl⟩) ⟨rfl,rfl,rfl,rfl,trivial⟩ trivial rfl
def slices_ContainsFunc_impl_Veneer__impl_validVeneers_1.f (k:Nat) (l0:List S66):Option (Bool):=(slices_IndexFunc_impl_Veneer__impl_validVeneers_1.f k l0).bind fun t1=>(some (decide (t1≥0)))
theorem slices_ContainsFunc_impl_Veneer__impl_validVeneers_1.ok {k:Nat} {l0:List S66} {r:Bool} (H:slices_ContainsFunc_impl_Veneer__impl_validVeneers_1.f k l0=some r):OkF Tryz.prog 118 [vR 76 (l0.map c66),.c (.d (.fn 119 []))] [] (vB r) []:=by
 unfold slices_ContainsFunc_impl_Veneer__impl_validVeneers_1.f at H
 refine o1 9 4 Tryz.func118 fun w0 S=>?_
 refine s2 (mB (k:=nl (s2 (mR (k:=mv (.c (.d (.fn _ _))) (k:=?_))))))
 obtain ⟨t1,e2,H⟩:=bo H
 cases H
 exact cr rfl (slices_IndexFunc_impl_Veneer__impl_validVeneers_1.ok e2) (qd (qd qn)) (k:=iE (k:=mB (k:=nl (rt r1))))
def impl_validVeneers.f (k:Nat) (l0:List S66):Option (Bool):=(slices_ContainsFunc_impl_Veneer__impl_validVeneers_1.f k l0).bind fun t1=>(some (!t1))
theorem impl_validVeneers.ok {k:Nat} {l0:List S66} {r:Bool} (H:impl_validVeneers.f k l0=some r):OkF Tryz.prog 78 [vR 76 (l0.map c66)] [] (vB r) []:=by
 unfold impl_validVeneers.f at H
 refine o1 6 2 Tryz.func78 fun w0 S=>?_
 refine s2 (mB (k:=nl (s2 (mR (k:=?_)))))
 obtain ⟨t1,e2,H⟩:=bo H
 cases H
 exact cr rfl (slices_ContainsFunc_impl_Veneer__impl_validVeneers_1.ok e2) (qd (qd qn)) (k:=uN (k:=mB (k:=nl (rt r1))))
def impl_ValidPicture.f (k:Nat) (a0_0 a0_1:Int) (l0_2:List S142) (l0_3:List S154) (l0_4:List S66):Option (Bool):=(impl_ValidDrawing.f k a0_0 a0_1 l0_2 l0_3).bind fun t1=>(if t1=true then (if (l0_4.length:Int)=(l0_3.length:Int) then ((impl_validVeneers.f k l0_4).bind fun t5=>(some t5)) else (some false)) else (some false))
theorem impl_ValidPicture.ok {k:Nat} {a0_0 a0_1:Int} {l0_2:List S142} {l0_3:List S154} {l0_4:List S66} {r:Bool} (H:impl_ValidPicture.f k a0_0 a0_1 l0_2 l0_3 l0_4=some r):OkF Tryz.prog 41 [.agg [cI a0_0,cI a0_1,.d (.row 143 (l0_2.map c142)),.d (.row 158 (l0_3.map c154)),.d (.row 76 (l0_4.map c66))]] [] (vB r) []:=by
 unfold impl_ValidPicture.f at H
 refine o1 21 2 Tryz.func41 fun w0 S=>?_
 refine s2 (jb 200 (k:=mB (k:=nl (s2 (fB 0 D43_0 (k:=lv (.agg [_,_,_,_]) T40 (k:=?_)))))))
 obtain ⟨t1,e2,H⟩:=bo H
 refine cr rfl (impl_ValidDrawing.ok e2) (qg qn) (k:=mB (k:=?_))
 rcases ei H with ⟨h3,H⟩|⟨h3,H⟩
 ·iterate 8 refine sk (bf h3) (k:=?_)
  refine qB (bf h3) (k:=mB (k:=?_))
  iterate 3 refine sk rfl (k:=?_)
  cases H
  exact qB rfl (k:=mB (k:=nl (rt r1)))
 refine fB 4 D43_1 (hg:=gy h3) (k:=lR T41 (hg:=gy h3) (k:=jl Tryz.underlying41 (hg:=gy h3) (k:=fB 0 D43_0 (hg:=gy h3) (k:=fB 3 D40_3 (hg:=gy h3) (k:=lR T38 (hg:=gy h3) (k:=jl Tryz.underlying38 (hg:=gy h3) (k:=iEq (hg:=gy h3) (k:=pB h3 (k:=mB (k:=?_))))))))))
 rcases ei H with ⟨h4,H⟩|⟨h4,H⟩
 ·iterate 3 refine sk (bn h4) (k:=?_)
  cases H
  exact qB (bn h4) (k:=mB (k:=nl (rt r1)))
 refine fB 4 D43_1 (hg:=gy (bq h4)) (k:=lR T41 (hg:=gy (bq h4)) (k:=?_))
 obtain ⟨t5,e6,H⟩:=bo H
 cases H
 exact cr rfl (impl_validVeneers.ok e6) (qd qn) (hg:=gy (bq h4)) (k:=pB (bq h4) (k:=mB (k:=nl (rt r1))))
def impl_boxWithin.f (a0_0 a0_1 a0_2 a0_3 a1 a2:Int):Option (Bool):=(impl_within.f a0_0 0 a1).bind fun t1=>(if t1=true then ((impl_within.f a0_1 0 a2).bind fun t4=>(if t4=true then ((impl_within.f a0_2 1 (wrap64 (a1 - a0_0))).bind fun t7=>(if t7=true then ((impl_within.f a0_3 1 (wrap64 (a2 - a0_1))).bind fun t10=>(some t10)) else (some false))) else (some false))) else (some false))
theorem impl_boxWithin.ok {a0_0 a0_1 a0_2 a0_3 a1 a2:Int} {r:Bool} (H:impl_boxWithin.f a0_0 a0_1 a0_2 a0_3 a1 a2=some r):OkF Tryz.prog 123 [.agg [cI a0_0,cI a0_1,cI a0_2,cI a0_3],vI a1,vI a2] [] (vB r) []:=by
 unfold impl_boxWithin.f at H
 refine o1 35 6 Tryz.func123 fun w0 S=>?_
 refine s2 (jb 200 (k:=mB (k:=nl (s2 (fB 0 D147_0 (k:=lI T2 (k:=mI (k:=?_))))))))
 obtain ⟨t1,e2,H⟩:=bo H
 refine cr rfl (impl_within.ok e2) (qd (qd (qd qn))) (k:=mB (k:=?_))
 rcases ei H with ⟨h3,H⟩|⟨h3,H⟩
 ·iterate 4 refine sk (bf h3) (k:=?_)
  refine qB (bf h3) (k:=mB (k:=?_))
  iterate 7 refine sk rfl (k:=?_)
  refine qB rfl (k:=mB (k:=?_))
  iterate 7 refine sk rfl (k:=?_)
  cases H
  exact qB rfl (k:=mB (k:=nl (rt r1)))
 refine fB 1 D147_1 (hg:=gy h3) (k:=lI T2 (hg:=gy h3) (k:=mI (hg:=gy h3) (k:=?_)))
 obtain ⟨t4,e5,H⟩:=bo H
 refine cr rfl (impl_within.ok e5) (qd (qd (qd qn))) (hg:=gy h3) (k:=pB h3 (k:=mB (k:=?_)))
 rcases ei H with ⟨h6,H⟩|⟨h6,H⟩
 ·iterate 7 refine sk (bf h6) (k:=?_)
  refine qB (bf h6) (k:=mB (k:=?_))
  iterate 7 refine sk rfl (k:=?_)
  cases H
  exact qB rfl (k:=mB (k:=nl (rt r1)))
 refine fB 2 D147_2 (hg:=gy h6) (k:=lI T2 (hg:=gy h6) (k:=mI (hg:=gy h6) (k:=fB 0 D147_0 (hg:=gy h6) (k:=lI T2 (hg:=gy h6) (k:=iS (hg:=gy h6) (k:=?_))))))
 obtain ⟨t7,e8,H⟩:=bo H
 refine cr rfl (impl_within.ok e8) (qd (qd (qd qn))) (hg:=gy h6) (k:=pB h6 (k:=mB (k:=?_)))
 rcases ei H with ⟨h9,H⟩|⟨h9,H⟩
 ·iterate 7 refine sk (bf h9) (k:=?_)
  cases H
  exact qB (bf h9) (k:=mB (k:=nl (rt r1)))
 refine fB 3 D147_3 (hg:=gy h9) (k:=lI T2 (hg:=gy h9) (k:=mI (hg:=gy h9) (k:=fB 1 D147_1 (hg:=gy h9) (k:=lI T2 (hg:=gy h9) (k:=iS (hg:=gy h9) (k:=?_))))))
 obtain ⟨t10,e11,H⟩:=bo H
 cases H
 exact cr rfl (impl_within.ok e11) (qd (qd (qd qn))) (hg:=gy h9) (k:=pB h9 (k:=mB (k:=nl (rt r1))))
def impl_ValidLeaf_1.f (a0_0 a0_1 a0_2 a0_3:Int) (v_0_0 v_0_1:ByteArray) (v_0_2:Int) (v_0_3:ByteArray) (v_0_4 v_0_5 v_0_6 v_0_7:Int) (v_0_8:List S146):Option (Bool):=(impl_boxWithin.f a0_0 a0_1 a0_2 a0_3 v_0_6 v_0_7).bind fun t1=>(some (!t1))
theorem impl_ValidLeaf_1.ok {a0_0 a0_1 a0_2 a0_3:Int} {v_0_0 v_0_1:ByteArray} {v_0_2:Int} {v_0_3:ByteArray} {v_0_4 v_0_5 v_0_6 v_0_7:Int} {v_0_8:List S146} {r:Bool} (H:impl_ValidLeaf_1.f a0_0 a0_1 a0_2 a0_3 v_0_0 v_0_1 v_0_2 v_0_3 v_0_4 v_0_5 v_0_6 v_0_7 v_0_8=some r):OkF Tryz.prog 122 [.agg [cI a0_0,cI a0_1,cI a0_2,cI a0_3],.c (.d (.ro [.v (.string v_0_0),.v (.string v_0_1),.v (.int .i64 v_0_2),.v (.string v_0_3),.v (.int .i64 v_0_4),.v (.int .i64 v_0_5),.v (.int .i64 v_0_6),.v (.int .i64 v_0_7),.row 147 (v_0_8.map c146)]))] [] (vB r) []:=by
 unfold impl_ValidLeaf_1.f at H
 refine o1 11 3 Tryz.func122 fun w0 S=>?_
 refine s2 (jb 200 (k:=mB (k:=nl (s2 (lv (.agg [_,_,_,_]) T147 (k:=jf (cells':=[_,_,_]) D79_4 (k:=oI T2 (k:=jf (cells':=[_,_]) D79_5 (k:=oI T2 (k:=?_))))))))))
 obtain ⟨t1,e2,H⟩:=bo H
 cases H
 exact cr rfl (impl_boxWithin.ok e2) (qg (qd (qd qn))) (k:=uN (k:=mB (k:=nl (rt r1))))
def slices_IndexFunc_impl_Box__impl_ValidLeaf_1.l0:Nat→List S146→ByteArray→ByteArray→Int→ByteArray→Int→Int→Int→Int→List S146→Int→Int→Option (Int)
 | 0,_,_,_,_,_,_,_,_,_,_,_,_=>none
 | k+1,x0,x1_0_0,x1_0_1,x1_0_2,x1_0_3,x1_0_4,x1_0_5,x1_0_6,x1_0_7,x1_0_8,x7,x8=>if x8 < x7 then (if 0≤x8 then (if x8 < (x0.length:Int) then ((impl_ValidLeaf_1.f ((rd146 x0 x8).f0) ((rd146 x0 x8).f1) ((rd146 x0 x8).f2) ((rd146 x0 x8).f3) x1_0_0 x1_0_1 x1_0_2 x1_0_3 x1_0_4 x1_0_5 x1_0_6 x1_0_7 x1_0_8).bind fun t4=>(if t4=true then (some x8) else (slices_IndexFunc_impl_Box__impl_ValidLeaf_1.l0 k x0 x1_0_0 x1_0_1 x1_0_2 x1_0_3 x1_0_4 x1_0_5 x1_0_6 x1_0_7 x1_0_8 x7 (wrap64 (x8+1))))) else (none)) else (none)) else (some (-1))
def slices_IndexFunc_impl_Box__impl_ValidLeaf_1.f (k:Nat) (l0:List S146) (v1_0_0 v1_0_1:ByteArray) (v1_0_2:Int) (v1_0_3:ByteArray) (v1_0_4 v1_0_5 v1_0_6 v1_0_7:Int) (v1_0_8:List S146):Option (Int):=slices_IndexFunc_impl_Box__impl_ValidLeaf_1.l0 k l0 v1_0_0 v1_0_1 v1_0_2 v1_0_3 v1_0_4 v1_0_5 v1_0_6 v1_0_7 v1_0_8 (l0.length:Int) 0
theorem slices_IndexFunc_impl_Box__impl_ValidLeaf_1.ok {k:Nat} {l0:List S146} {v1_0_0 v1_0_1:ByteArray} {v1_0_2:Int} {v1_0_3:ByteArray} {v1_0_4 v1_0_5 v1_0_6 v1_0_7:Int} {v1_0_8:List S146} {r:Int} (H:slices_IndexFunc_impl_Box__impl_ValidLeaf_1.f k l0 v1_0_0 v1_0_1 v1_0_2 v1_0_3 v1_0_4 v1_0_5 v1_0_6 v1_0_7 v1_0_8=some r):OkF Tryz.prog 156 [vR 147 (l0.map c146),.c (.d (.fn 122 [.ro [.v (.string v1_0_0),.v (.string v1_0_1),.v (.int .i64 v1_0_2),.v (.string v1_0_3),.v (.int .i64 v1_0_4),.v (.int .i64 v1_0_5),.v (.int .i64 v1_0_6),.v (.int .i64 v1_0_7),.row 147 (v1_0_8.map c146)]]))] [] (vI r) []:=by
 unfold slices_IndexFunc_impl_Box__impl_ValidLeaf_1.f at H
 refine o1 19 4 Tryz.func156 fun w0 S=>?_
 refine s2 (mI (k:=nl (sq (s2 (mR (k:=jl Tryz.underlying77 (k:=mI (k:=nl (bk (lp ?_))))))))))
 obtain ⟨K0,hK0,gK0⟩:=kk k
 refine AGr.canon id (AGr.loopI (n:=k) (fun k s=>k≤K0∧∃ x0 x1_0_0 x1_0_1 x1_0_2 x1_0_3 x1_0_4 x1_0_5 x1_0_6 x1_0_7 x1_0_8 x7 x8,slices_IndexFunc_impl_Box__impl_ValidLeaf_1.l0 k x0 x1_0_0 x1_0_1 x1_0_2 x1_0_3 x1_0_4 x1_0_5 x1_0_6 x1_0_7 x1_0_8 x7 x8=some r∧s=St.of [(0,vR 147 (x0.map c146)),(1,.c (.d (.fn 122 [.ro [.v (.string x1_0_0),.v (.string x1_0_1),.v (.int .i64 x1_0_2),.v (.string x1_0_3),.v (.int .i64 x1_0_4),.v (.int .i64 x1_0_5),.v (.int .i64 x1_0_6),.v (.int .i64 x1_0_7),.row 147 (x1_0_8.map c146)]]))),(7,vI x7),(8,vI x8)] []) ⟨hK0,_,_,_,_,_,_,_,_,_,_,_,_,H,rfl⟩ ?_ ?_) ⟨rfl,rfl,rfl,rfl,trivial⟩ trivial rfl
 ·rintro _ ⟨_,_,_,_,_,_,_,_,_,_,_,_,_,H,_⟩
  cases H
 clear H hK0
 rintro k ih0 _ ⟨hK0,x0,x1_0_0,x1_0_1,x1_0_2,x1_0_3,x1_0_4,x1_0_5,x1_0_6,x1_0_7,x1_0_8,x7,x8,H,rfl⟩
 unfold slices_IndexFunc_impl_Box__impl_ValidLeaf_1.l0 at H
 refine s2 (iL (k:=nl (sq ?_)))
 rcases ei H with ⟨h1,H⟩|⟨h1,H⟩
 ·refine an (df h1) ?_
  cases H
  exact ex (s2 (mI (k:=nl (rt r1))))
 refine ay (dt h1) ?_
 refine sp (sq (bk (s2 (mI (k:=mI (k:=nl (s2 (mv (.c (.d (.fn _ _))) (k:=mR (k:=mI (k:=?_)))))))))))
 obtain ⟨h2,H⟩:=io H
 obtain ⟨h3,H⟩:=io H
 refine ixx ⟨h2,h3⟩ T147 Tryz.underlying77 (R146 h2 h3) (k:=ov (.agg [_,_,_,_]) T147 (k:=?_))
 obtain ⟨t4,e5,H⟩:=bo H
 refine a_callW (v:=vB t4) (nk:=[]) (L:=[]) ?_ rfl rfl (impl_ValidLeaf_1.ok e5) id (qg qn) rfl trivial trivial trivial rfl
 refine nl ?_
 rcases ie H with ⟨h6,H⟩|⟨h6,H⟩
 ·refine ay h6 ?_
  cases H
  exact s2 (mI (k:=mI (k:=nl (rt r1))))
 refine an (bf h6) ?_
 refine sp (rg (iA (k:=mI (k:=nl ?_))))
 exact AGr.canon id (ih0 _ (by omega) _ ⟨by omega,_,_,_,_,_,_,_,_,_,_,_,_,H,rfl⟩) ⟨rfl,rfl,rfl,rfl,trivial⟩ trivial rfl
def slices_ContainsFunc_impl_Box__impl_ValidLeaf_1.f (k:Nat) (l0:List S146) (v1_0_0 v1_0_1:ByteArray) (v1_0_2:Int) (v1_0_3:ByteArray) (v1_0_4 v1_0_5 v1_0_6 v1_0_7:Int) (v1_0_8:List S146):Option (Bool):=(slices_IndexFunc_impl_Box__impl_ValidLeaf_1.f k l0 v1_0_0 v1_0_1 v1_0_2 v1_0_3 v1_0_4 v1_0_5 v1_0_6 v1_0_7 v1_0_8).bind fun t1=>(some (decide (t1≥0)))
theorem slices_ContainsFunc_impl_Box__impl_ValidLeaf_1.ok {k:Nat} {l0:List S146} {v1_0_0 v1_0_1:ByteArray} {v1_0_2:Int} {v1_0_3:ByteArray} {v1_0_4 v1_0_5 v1_0_6 v1_0_7:Int} {v1_0_8:List S146} {r:Bool} (H:slices_ContainsFunc_impl_Box__impl_ValidLeaf_1.f k l0 v1_0_0 v1_0_1 v1_0_2 v1_0_3 v1_0_4 v1_0_5 v1_0_6 v1_0_7 v1_0_8=some r):OkF Tryz.prog 121 [vR 147 (l0.map c146),.c (.d (.fn 122 [.ro [.v (.string v1_0_0),.v (.string v1_0_1),.v (.int .i64 v1_0_2),.v (.string v1_0_3),.v (.int .i64 v1_0_4),.v (.int .i64 v1_0_5),.v (.int .i64 v1_0_6),.v (.int .i64 v1_0_7),.row 147 (v1_0_8.map c146)]]))] [] (vB r) []:=by
 unfold slices_ContainsFunc_impl_Box__impl_ValidLeaf_1.f at H
 refine o1 9 4 Tryz.func121 fun w0 S=>?_
 refine s2 (mB (k:=nl (s2 (mR (k:=mv (.c (.d (.fn _ _))) (k:=?_))))))
 obtain ⟨t1,e2,H⟩:=bo H
 cases H
 exact cr rfl (slices_IndexFunc_impl_Box__impl_ValidLeaf_1.ok e2) (qd (qd qn)) (k:=iE (k:=mB (k:=nl (rt r1))))
def impl_ValidLeaf.j0:Nat→ByteArray→ByteArray→Int→ByteArray→Int→Int→Int→Int→List S146→Bool→Option (Bool)
 | 0,_,_,_,_,_,_,_,_,_,_=>none
 | k+1,y205_0,y205_1,y205_2,y205_3,y205_4,y205_5,y205_6,y205_7,y205_8,x24=>if x24=true then (some false) else ((impl_within.f y205_6 10 20000).bind fun t13=>(if t13=true then ((impl_within.f y205_7 10 20000).bind fun t16=>(if t16=true then (if (y205_8.length:Int) > 6 then (some false) else ((slices_ContainsFunc_impl_Box__impl_ValidLeaf_1.f k y205_8 y205_0 y205_1 y205_2 y205_3 y205_4 y205_5 y205_6 y205_7 y205_8).bind fun t20=>(some (!t20)))) else (some false))) else (some false)))
def impl_ValidLeaf.f (k:Nat) (a0_0 a0_1:ByteArray) (a0_2:Int) (a0_3:ByteArray) (a0_4 a0_5 a0_6 a0_7:Int) (l0_8:List S146):Option (Bool):=(impl_IsName.f k a0_0).bind fun t1=>(if t1=true then ((impl_IsName.f k a0_1).bind fun t4=>(if t4=true then ((impl_within.f a0_2 0 999).bind fun t7=>(if t7=true then ((impl_ValidVeneer.f a0_3 a0_4 a0_5).bind fun t10=>(impl_ValidLeaf.j0 k a0_0 a0_1 a0_2 a0_3 a0_4 a0_5 a0_6 a0_7 l0_8 (!t10))) else (impl_ValidLeaf.j0 k a0_0 a0_1 a0_2 a0_3 a0_4 a0_5 a0_6 a0_7 l0_8 true))) else (impl_ValidLeaf.j0 k a0_0 a0_1 a0_2 a0_3 a0_4 a0_5 a0_6 a0_7 l0_8 true))) else (impl_ValidLeaf.j0 k a0_0 a0_1 a0_2 a0_3 a0_4 a0_5 a0_6 a0_7 l0_8 true))
theorem impl_ValidLeaf.ok {k:Nat} {a0_0 a0_1:ByteArray} {a0_2:Int} {a0_3:ByteArray} {a0_4 a0_5 a0_6 a0_7:Int} {l0_8:List S146} {r:Bool} (H:impl_ValidLeaf.f k a0_0 a0_1 a0_2 a0_3 a0_4 a0_5 a0_6 a0_7 l0_8=some r):OkF Tryz.prog 79 [.agg [cS a0_0,cS a0_1,cI a0_2,cS a0_3,cI a0_4,cI a0_5,cI a0_6,cI a0_7,.d (.row 147 (l0_8.map c146))]] [] (vB r) []:=by
 unfold impl_ValidLeaf.f at H
 refine o1 46 2 Tryz.func79 fun w0 S=>?_
 refine s2 (jb 200 (k:=mB (k:=nl (sq (sq ?_)))))
 refine AG.joinR (fun s=>∃ q,q≤k∧∃ y205_0 y205_1 y205_2 y205_3 y205_4 y205_5 y205_6 y205_7 y205_8 x24,impl_ValidLeaf.j0 q y205_0 y205_1 y205_2 y205_3 y205_4 y205_5 y205_6 y205_7 y205_8 x24=some r∧s=St.of [(1,.c (.ptr 205 0)),(24,vB x24)] [(205,.box 79 [.d (.v (.string y205_0)),.d (.v (.string y205_1)),.d (.v (.int .i64 y205_2)),.d (.v (.string y205_3)),.d (.v (.int .i64 y205_4)),.d (.v (.int .i64 y205_5)),.d (.v (.int .i64 y205_6)),.d (.v (.int .i64 y205_7)),.d (.row 147 (y205_8.map c146))])]) ?_ ?_
 ·skip
  refine rg (fB 0 D79_0 (k:=lv (vS _) T9 (k:=?_)))
  obtain ⟨t1,e2,H⟩:=bo H
  refine cr rfl (impl_IsName.ok e2) (qd qn) (k:=uN (k:=mB (k:=?_)))
  rcases ei H with ⟨h3,H⟩|⟨h3,H⟩
  ·iterate 4 refine sk (cn (bf h3)) (k:=?_)
   refine pB (cn (bf h3)) (k:=mB (k:=?_))
   iterate 4 refine sk rfl (k:=?_)
   refine pB rfl (k:=mB (k:=?_))
   iterate 4 refine sk rfl (k:=?_)
   refine pB rfl (k:=nl ?_)
   exact CanR.mk (fun κ=>cond (Nat.beq κ 205) 200 (κ)) ⟨_,(by omega),_,_,_,_,_,_,_,_,_,_,H,rfl⟩ ⟨rfl,rfl,trivial⟩ ⟨rfl,trivial⟩ rfl
  refine fB 1 D79_1 (hg:=gy (cn h3)) (k:=lv (vS _) T9 (hg:=gy (cn h3)) (k:=?_))
  obtain ⟨t4,e5,H⟩:=bo H
  refine cr rfl (impl_IsName.ok e5) (qd qn) (hg:=gy (cn h3)) (k:=uN (hg:=gy (cn h3)) (k:=qB (cn h3) (k:=mB (k:=?_))))
  rcases ei H with ⟨h6,H⟩|⟨h6,H⟩
  ·iterate 4 refine sk (cn (bf h6)) (k:=?_)
   refine pB (cn (bf h6)) (k:=mB (k:=?_))
   iterate 4 refine sk rfl (k:=?_)
   refine pB rfl (k:=nl ?_)
   exact CanR.mk (fun κ=>cond (Nat.beq κ 205) 200 (κ)) ⟨_,(by omega),_,_,_,_,_,_,_,_,_,_,H,rfl⟩ ⟨rfl,rfl,trivial⟩ ⟨rfl,trivial⟩ rfl
  refine fB 2 D79_2 (hg:=gy (cn h6)) (k:=lI T2 (hg:=gy (cn h6)) (k:=?_))
  obtain ⟨t7,e8,H⟩:=bo H
  refine cr rfl (impl_within.ok e8) (qd (qd (qd qn))) (hg:=gy (cn h6)) (k:=uN (hg:=gy (cn h6)) (k:=qB (cn h6) (k:=mB (k:=?_))))
  rcases ei H with ⟨h9,H⟩|⟨h9,H⟩
  ·iterate 4 refine sk (cn (bf h9)) (k:=?_)
   refine pB (cn (bf h9)) (k:=nl ?_)
   exact CanR.mk (fun κ=>cond (Nat.beq κ 205) 200 (κ)) ⟨_,(by omega),_,_,_,_,_,_,_,_,_,_,H,rfl⟩ ⟨rfl,rfl,trivial⟩ ⟨rfl,trivial⟩ rfl
  refine fB 3 D79_3 (hg:=gy (cn h9)) (k:=lv (.agg [_,_,_]) T76 (hg:=gy (cn h9)) (k:=?_))
  obtain ⟨t10,e11,H⟩:=bo H
  refine cr rfl (impl_ValidVeneer.ok e11) (qg qn) (hg:=gy (cn h9)) (k:=uN (hg:=gy (cn h9)) (k:=qB (cn h9) (k:=nl ?_)))
  exact CanR.mk (fun κ=>cond (Nat.beq κ 205) 200 (κ)) ⟨_,(by omega),_,_,_,_,_,_,_,_,_,_,H,rfl⟩ ⟨rfl,rfl,trivial⟩ ⟨rfl,trivial⟩ rfl
 clear H
 rintro _ ⟨k,hj0,y205_0,y205_1,y205_2,y205_3,y205_4,y205_5,y205_6,y205_7,y205_8,x24,H,rfl⟩
 rcases k with _|k
 cases H
 rw [impl_ValidLeaf.j0] at H
 rcases ie H with ⟨h12,H⟩|⟨h12,H⟩
 ·refine ay h12 ?_
  cases H
  exact s2 (mB (k:=nl (rt r1)))
 refine an (bf h12) ?_
 refine sp (sq (s2 (fB 6 D79_4 (k:=lI T2 (k:=?_)))))
 obtain ⟨t13,e14,H⟩:=bo H
 refine cr rfl (impl_within.ok e14) (qd (qd (qd qn))) (k:=uN (k:=mB (k:=?_)))
 rcases ei H with ⟨h15,H⟩|⟨h15,H⟩
 ·iterate 4 refine sk (cn (bf h15)) (k:=?_)
  refine pB (cn (bf h15)) (k:=mB (k:=?_))
  iterate 4 refine sk rfl (k:=?_)
  refine pB rfl (k:=nl ?_)
  refine ay rfl ?_
  cases H
  exact s2 (mB (k:=nl (rt r1)))
 refine fB 7 D79_5 (hg:=gy (cn h15)) (k:=lI T2 (hg:=gy (cn h15)) (k:=?_))
 obtain ⟨t16,e17,H⟩:=bo H
 refine cr rfl (impl_within.ok e17) (qd (qd (qd qn))) (hg:=gy (cn h15)) (k:=uN (hg:=gy (cn h15)) (k:=qB (cn h15) (k:=mB (k:=?_))))
 rcases ei H with ⟨h18,H⟩|⟨h18,H⟩
 ·iterate 4 refine sk (cn (bf h18)) (k:=?_)
  refine pB (cn (bf h18)) (k:=nl ?_)
  refine ay rfl ?_
  cases H
  exact s2 (mB (k:=nl (rt r1)))
 refine fB 8 D79_6 (hg:=gy (cn h18)) (k:=lR T77 (hg:=gy (cn h18)) (k:=jl Tryz.underlying77 (hg:=gy (cn h18)) (k:=iG (hg:=gy (cn h18)) (k:=qB (cn h18) (k:=nl ?_)))))
 rcases ie H with ⟨h19,H⟩|⟨h19,H⟩
 ·refine ay (dt h19) ?_
  cases H
  exact s2 (mB (k:=nl (rt r1)))
 refine an (df h19) ?_
 refine sp (s2 (fB 8 D79_6 (k:=lR T77 (k:=?_))))
 refine a_fnc (ks:=[205]) ?_
 obtain ⟨t20,e21,H⟩:=bo H
 refine a_call (v:=vB t20) (nk:=[]) (L:=[(205,_)]) ?_ rfl (slices_ContainsFunc_impl_Box__impl_ValidLeaf_1.ok e21) id (qd (qc (rF1 (rP (pD (pD (pD (pD (pD (pD (pD (pD (pD p0))))))))))) qn)) ⟨rfl,trivial⟩ trivial trivial rfl
 cases H
 exact uN (k:=mB (k:=nl (rt r1)))
def impl_ValidLeaves.l0:Nat→List S78→List S78→Int→Int→Option (Bool)
 | 0,_,_,_,_=>none
 | k+1,x0,x5,x6,x7=>if x7 < x6 then (if 0≤x7 then (if x7 < (x5.length:Int) then ((impl_ValidLeaf.f k ((rd78 x5 x7).f0) ((rd78 x5 x7).f1) ((rd78 x5 x7).f2) ((rd78 x5 x7).f3.f0) ((rd78 x5 x7).f3.f1) ((rd78 x5 x7).f3.f2) ((rd78 x5 x7).f4) ((rd78 x5 x7).f5) ((rd78 x5 x7).f6)).bind fun t4=>(if t4=true then (if x7 > 0 then (if 0≤(wrap64 (x7 - 1)) then (if (wrap64 (x7 - 1)) < (x0.length:Int) then (if (Op.bytesLess (((rd78 x0 (wrap64 (x7 - 1))).f0).toList) (((rd78 x5 x7).f0).toList))=true then (impl_ValidLeaves.l0 k x0 x5 x6 (wrap64 (x7+1))) else (some false)) else (none)) else (none)) else (impl_ValidLeaves.l0 k x0 x5 x6 (wrap64 (x7+1)))) else (some false))) else (none)) else (none)) else (some (decide ((x0.length:Int)≤16)))
def impl_ValidLeaves.f (k:Nat) (l0:List S78):Option (Bool):=impl_ValidLeaves.l0 k l0 l0 (l0.length:Int) 0
theorem impl_ValidLeaves.ok {k:Nat} {l0:List S78} {r:Bool} (H:impl_ValidLeaves.f k l0=some r):OkF Tryz.prog 42 [vR 79 (l0.map c78)] [] (vB r) []:=by
 unfold impl_ValidLeaves.f at H
 refine o1 34 2 Tryz.func42 fun w0 S=>?_
 refine s2 (mB (k:=nl (sq (s2 (mR (k:=jl Tryz.underlying45 (k:=mI (k:=nl (bk (lp ?_))))))))))
 obtain ⟨K0,hK0,gK0⟩:=kk k
 refine AGr.canon id (AGr.loopI (n:=k) (fun k s=>k≤K0∧∃ x0 x5 x6 x7,impl_ValidLeaves.l0 k x0 x5 x6 x7=some r∧s=St.of [(0,vR 79 (x0.map c78)),(5,vR 79 (x5.map c78)),(6,vI x6),(7,vI x7)] []) ⟨hK0,_,_,_,_,H,rfl⟩ ?_ ?_) ⟨rfl,rfl,rfl,rfl,trivial⟩ trivial rfl
 ·rintro _ ⟨_,_,_,_,_,H,_⟩
  cases H
 clear H hK0
 rintro k ih0 _ ⟨hK0,x0,x5,x6,x7,H,rfl⟩
 unfold impl_ValidLeaves.l0 at H
 refine s2 (iL (k:=nl (sq ?_)))
 rcases ei H with ⟨h1,H⟩|⟨h1,H⟩
 ·refine an (df h1) ?_
  cases H
  exact ex (s2 (mR (k:=jl Tryz.underlying45 (k:=iQ (k:=mB (k:=nl (rt r1)))))))
 refine ay (dt h1) ?_
 refine sp (sq (bk (s2 (mI (k:=?_)))))
 obtain ⟨h2,H⟩:=io H
 obtain ⟨h3,H⟩:=io H
 refine ixx ⟨h2,h3⟩ T79 Tryz.underlying45 (R78 h2 h3) (k:=ov (.agg [_,_,_,_,_,_,_,_,_]) T79 (k:=ja (cs:=[_,_,_,_,_,_,_,_,_]) 200 T79 (k:=mI (k:=js (cs':=[_,_,_,_,_,_,_,_,_]) T79 (k:=nl (s2 (lv (.agg [_,_,_,_,_,_,_,_,_]) T79 (k:=?_))))))))
 obtain ⟨t4,e5,H⟩:=bo H
 refine cr rfl (impl_ValidLeaf.ok e5) (qg qn) (k:=uN (k:=mB (k:=?_)))
 rcases ei H with ⟨h6,H⟩|⟨h6,H⟩
 ·iterate 3 refine sk (cn (bf h6)) (k:=?_)
  iterate 9 refine RA.skip0 rfl rfl rfl rfl rfl ?_
  refine sk (cn (bf h6)) (k:=pB (cn (bf h6)) (k:=?_))
  refine RA.nil (fun _=>by kernel_rfl) ?_
  refine ay rfl ?_
  cases H
  exact s2 (mB (k:=nl (rt r1)))
 refine mI (hg:=gy (cn h6)) (k:=iG (hg:=gy (cn h6)) (k:=mB (hg:=gy (cn h6)) (k:=?_)))
 rcases ei H with ⟨h7,H⟩|⟨h7,H⟩
 ·iterate 9 refine sk (df h7) (k:=?_)
  refine qB (df h7) (hg:=gy (cn h6)) (k:=qB (cn h6) (k:=?_))
  refine RA.nil (fun _=>by kernel_rfl) ?_
  refine an rfl ?_
  refine sp (rg (iA (k:=mI (k:=nl ?_))))
  exact AGr.canon id (ih0 _ (by omega) _ ⟨by omega,_,_,_,_,H,rfl⟩) ⟨rfl,rfl,rfl,rfl,trivial⟩ trivial rfl
 refine mR (hg:=gy (dt h7)) (k:=mI (hg:=gy (dt h7)) (k:=iS (hg:=gy (dt h7)) (k:=?_)))
 obtain ⟨h8,H⟩:=io H
 obtain ⟨h9,H⟩:=io H
 refine ixx ⟨h8,h9⟩ T79 Tryz.underlying45 (R78 h8 h9) (hg:=gy (dt h7)) (k:=jf (cells':=[_,_,_,_,_,_,_,_,_]) D79_0 (hg:=gy (dt h7)) (k:=ov (vS _) T9 (hg:=gy (dt h7)) (k:=fB 0 D79_0 (hg:=gy (dt h7)) (k:=lv (vS _) T9 (hg:=gy (dt h7)) (k:=bB (!(Op.bytesLess (((rd78 x0 (wrap64 (x7 - 1))).f0).toList) (((rd78 x5 x7).f0).toList))) (hg:=gy (dt h7)) (k:=pB (dt h7) (hg:=gy (cn h6)) (k:=qB (cn h6) (k:=?_))))))))
 refine RA.nil (fun _=>by kernel_rfl) ?_
 rcases ei H with ⟨h10,H⟩|⟨h10,H⟩
 ·refine AG.yes rfl (by rw [bf h10]; rfl) ?_
  cases H
  exact s2 (mB (k:=nl (rt r1)))
 refine AG.no rfl (by rw [show (Op.bytesLess (((rd78 x0 (wrap64 (x7 - 1))).f0).toList) (((rd78 x5 x7).f0).toList))=true from h10]; rfl) ?_
 refine sp (rg (iA (k:=mI (k:=nl ?_))))
 exact AGr.canon id (ih0 _ (by omega) _ ⟨by omega,_,_,_,_,H,rfl⟩) ⟨rfl,rfl,rfl,rfl,trivial⟩ trivial rfl
def impl_validPlacement.f (a0_0 a0_1 a0_2 a0_3 a0_4:Int):Option (Bool):=(impl_within.f a0_0 0 23).bind fun t1=>(if t1=true then ((impl_within.f a0_1 0 15).bind fun t4=>(if t4=true then ((impl_within.f a0_2 0 20000).bind fun t7=>(if t7=true then ((impl_within.f a0_3 0 20000).bind fun t10=>(if t10=true then ((impl_within.f a0_4 0 7).bind fun t13=>(some t13)) else (some false))) else (some false))) else (some false))) else (some false))
theorem impl_validPlacement.ok {a0_0 a0_1 a0_2 a0_3 a0_4:Int} {r:Bool} (H:impl_validPlacement.f a0_0 a0_1 a0_2 a0_3 a0_4=some r):OkF Tryz.prog 80 [.agg [cI a0_0,cI a0_1,cI a0_2,cI a0_3,cI a0_4]] [] (vB r) []:=by
 unfold impl_validPlacement.f at H
 refine o1 26 2 Tryz.func80 fun w0 S=>?_
 refine s2 (jb 200 (k:=mB (k:=nl (s2 (fB 0 D82_0 (k:=lI T2 (k:=?_)))))))
 obtain ⟨t1,e2,H⟩:=bo H
 refine cr rfl (impl_within.ok e2) (qd (qd (qd qn))) (k:=mB (k:=?_))
 rcases ei H with ⟨h3,H⟩|⟨h3,H⟩
 ·iterate 3 refine sk (bf h3) (k:=?_)
  refine qB (bf h3) (k:=mB (k:=?_))
  iterate 3 refine sk rfl (k:=?_)
  refine qB rfl (k:=mB (k:=?_))
  iterate 3 refine sk rfl (k:=?_)
  refine qB rfl (k:=mB (k:=?_))
  iterate 3 refine sk rfl (k:=?_)
  cases H
  exact qB rfl (k:=mB (k:=nl (rt r1)))
 refine fB 1 D82_1 (hg:=gy h3) (k:=lI T2 (hg:=gy h3) (k:=?_))
 obtain ⟨t4,e5,H⟩:=bo H
 refine cr rfl (impl_within.ok e5) (qd (qd (qd qn))) (hg:=gy h3) (k:=pB h3 (k:=mB (k:=?_)))
 rcases ei H with ⟨h6,H⟩|⟨h6,H⟩
 ·iterate 3 refine sk (bf h6) (k:=?_)
  refine qB (bf h6) (k:=mB (k:=?_))
  iterate 3 refine sk rfl (k:=?_)
  refine qB rfl (k:=mB (k:=?_))
  iterate 3 refine sk rfl (k:=?_)
  cases H
  exact qB rfl (k:=mB (k:=nl (rt r1)))
 refine fB 2 D82_2 (hg:=gy h6) (k:=lI T2 (hg:=gy h6) (k:=?_))
 obtain ⟨t7,e8,H⟩:=bo H
 refine cr rfl (impl_within.ok e8) (qd (qd (qd qn))) (hg:=gy h6) (k:=pB h6 (k:=mB (k:=?_)))
 rcases ei H with ⟨h9,H⟩|⟨h9,H⟩
 ·iterate 3 refine sk (bf h9) (k:=?_)
  refine qB (bf h9) (k:=mB (k:=?_))
  iterate 3 refine sk rfl (k:=?_)
  cases H
  exact qB rfl (k:=mB (k:=nl (rt r1)))
 refine fB 3 D82_3 (hg:=gy h9) (k:=lI T2 (hg:=gy h9) (k:=?_))
 obtain ⟨t10,e11,H⟩:=bo H
 refine cr rfl (impl_within.ok e11) (qd (qd (qd qn))) (hg:=gy h9) (k:=pB h9 (k:=mB (k:=?_)))
 rcases ei H with ⟨h12,H⟩|⟨h12,H⟩
 ·iterate 3 refine sk (bf h12) (k:=?_)
  cases H
  exact qB (bf h12) (k:=mB (k:=nl (rt r1)))
 refine fB 4 D82_4 (hg:=gy h12) (k:=lI T2 (hg:=gy h12) (k:=?_))
 obtain ⟨t13,e14,H⟩:=bo H
 cases H
 exact cr rfl (impl_within.ok e14) (qd (qd (qd qn))) (hg:=gy h12) (k:=pB h12 (k:=mB (k:=nl (rt r1))))
def impl_ValidPlacements.l0:Nat→List S81→List S81→Int→Int→Option (Bool)
 | 0,_,_,_,_=>none
 | k+1,x0,x5,x6,x7=>if x7 < x6 then (if 0≤x7 then (if x7 < (x5.length:Int) then ((impl_validPlacement.f ((rd81 x5 x7).f0) ((rd81 x5 x7).f1) ((rd81 x5 x7).f2) ((rd81 x5 x7).f3) ((rd81 x5 x7).f4)).bind fun t4=>(if t4=true then (if x7 > 0 then (if 0≤(wrap64 (x7 - 1)) then (if (wrap64 (x7 - 1)) < (x0.length:Int) then (if ((rd81 x0 (wrap64 (x7 - 1))).f0)≥((rd81 x5 x7).f0) then (some false) else (impl_ValidPlacements.l0 k x0 x5 x6 (wrap64 (x7+1)))) else (none)) else (none)) else (impl_ValidPlacements.l0 k x0 x5 x6 (wrap64 (x7+1)))) else (some false))) else (none)) else (none)) else (some (decide ((x0.length:Int)≤24)))
def impl_ValidPlacements.f (k:Nat) (l0:List S81):Option (Bool):=impl_ValidPlacements.l0 k l0 l0 (l0.length:Int) 0
theorem impl_ValidPlacements.ok {k:Nat} {l0:List S81} {r:Bool} (H:impl_ValidPlacements.f k l0=some r):OkF Tryz.prog 43 [vR 82 (l0.map c81)] [] (vB r) []:=by
 unfold impl_ValidPlacements.f at H
 refine o1 34 2 Tryz.func43 fun w0 S=>?_
 refine s2 (mB (k:=nl (sq (s2 (mR (k:=jl Tryz.underlying47 (k:=mI (k:=nl (bk (lp ?_))))))))))
 obtain ⟨K0,hK0,gK0⟩:=kk k
 refine AGr.canon id (AGr.loopI (n:=k) (fun k s=>k≤K0∧∃ x0 x5 x6 x7,impl_ValidPlacements.l0 k x0 x5 x6 x7=some r∧s=St.of [(0,vR 82 (x0.map c81)),(5,vR 82 (x5.map c81)),(6,vI x6),(7,vI x7)] []) ⟨hK0,_,_,_,_,H,rfl⟩ ?_ ?_) ⟨rfl,rfl,rfl,rfl,trivial⟩ trivial rfl
 ·rintro _ ⟨_,_,_,_,_,H,_⟩
  cases H
 clear H hK0
 rintro k ih0 _ ⟨hK0,x0,x5,x6,x7,H,rfl⟩
 unfold impl_ValidPlacements.l0 at H
 refine s2 (iL (k:=nl (sq ?_)))
 rcases ei H with ⟨h1,H⟩|⟨h1,H⟩
 ·refine an (df h1) ?_
  cases H
  exact ex (s2 (mR (k:=jl Tryz.underlying47 (k:=iQ (k:=mB (k:=nl (rt r1)))))))
 refine ay (dt h1) ?_
 refine sp (sq (bk (s2 (mI (k:=?_)))))
 obtain ⟨h2,H⟩:=io H
 obtain ⟨h3,H⟩:=io H
 refine ixx ⟨h2,h3⟩ T82 Tryz.underlying47 (R81 h2 h3) (k:=ov (.agg [_,_,_,_,_]) T82 (k:=ja (cs:=[_,_,_,_,_]) 200 T82 (k:=mI (k:=js (cs':=[_,_,_,_,_]) T82 (k:=nl (s2 (lv (.agg [_,_,_,_,_]) T82 (k:=?_))))))))
 obtain ⟨t4,e5,H⟩:=bo H
 refine cr rfl (impl_validPlacement.ok e5) (qg qn) (k:=uN (k:=mB (k:=?_)))
 rcases ei H with ⟨h6,H⟩|⟨h6,H⟩
 ·iterate 3 refine sk (cn (bf h6)) (k:=?_)
  iterate 9 refine RA.skip0 rfl rfl rfl rfl rfl ?_
  refine sk (cn (bf h6)) (k:=pB (cn (bf h6)) (k:=?_))
  refine RA.nil (fun _=>by kernel_rfl) ?_
  refine ay rfl ?_
  cases H
  exact s2 (mB (k:=nl (rt r1)))
 refine mI (hg:=gy (cn h6)) (k:=iG (hg:=gy (cn h6)) (k:=mB (hg:=gy (cn h6)) (k:=?_)))
 rcases ei H with ⟨h7,H⟩|⟨h7,H⟩
 ·iterate 9 refine sk (df h7) (k:=?_)
  refine qB (df h7) (hg:=gy (cn h6)) (k:=qB (cn h6) (k:=?_))
  refine RA.nil (fun _=>by kernel_rfl) ?_
  refine an rfl ?_
  refine sp (rg (iA (k:=mI (k:=nl ?_))))
  exact AGr.canon id (ih0 _ (by omega) _ ⟨by omega,_,_,_,_,H,rfl⟩) ⟨rfl,rfl,rfl,rfl,trivial⟩ trivial rfl
 refine mR (hg:=gy (dt h7)) (k:=mI (hg:=gy (dt h7)) (k:=iS (hg:=gy (dt h7)) (k:=?_)))
 obtain ⟨h8,H⟩:=io H
 obtain ⟨h9,H⟩:=io H
 refine ixx ⟨h8,h9⟩ T82 Tryz.underlying47 (R81 h8 h9) (hg:=gy (dt h7)) (k:=jf (cells':=[_,_,_,_,_]) D82_0 (hg:=gy (dt h7)) (k:=oI T2 (hg:=gy (dt h7)) (k:=fB 0 D82_0 (hg:=gy (dt h7)) (k:=lI T2 (hg:=gy (dt h7)) (k:=iE (hg:=gy (dt h7)) (k:=pB (dt h7) (hg:=gy (cn h6)) (k:=qB (cn h6) (k:=?_))))))))
 refine RA.nil (fun _=>by kernel_rfl) ?_
 rcases ie H with ⟨h10,H⟩|⟨h10,H⟩
 ·refine ay (dt h10) ?_
  cases H
  exact s2 (mB (k:=nl (rt r1)))
 refine an (df h10) ?_
 refine sp (rg (iA (k:=mI (k:=nl ?_))))
 exact AGr.canon id (ih0 _ (by omega) _ ⟨by omega,_,_,_,_,H,rfl⟩) ⟨rfl,rfl,rfl,rfl,trivial⟩ trivial rfl
def impl_ValidRules.f (a0_0 a0_1 a0_2 a0_3:Int):Option (Bool):=(impl_within.f a0_0 0 500).bind fun t1=>(if t1=true then ((impl_within.f a0_1 0 500).bind fun t4=>(if t4=true then ((impl_within.f a0_2 0 90).bind fun t7=>(if t7=true then ((impl_within.f a0_3 0 100).bind fun t10=>(some t10)) else (some false))) else (some false))) else (some false))
theorem impl_ValidRules.ok {a0_0 a0_1 a0_2 a0_3:Int} {r:Bool} (H:impl_ValidRules.f a0_0 a0_1 a0_2 a0_3=some r):OkF Tryz.prog 44 [.agg [cI a0_0,cI a0_1,cI a0_2,cI a0_3]] [] (vB r) []:=by
 unfold impl_ValidRules.f at H
 refine o1 21 2 Tryz.func44 fun w0 S=>?_
 refine s2 (jb 200 (k:=mB (k:=nl (s2 (fB 0 D49_0 (k:=lI T2 (k:=?_)))))))
 obtain ⟨t1,e2,H⟩:=bo H
 refine cr rfl (impl_within.ok e2) (qd (qd (qd qn))) (k:=mB (k:=?_))
 rcases ei H with ⟨h3,H⟩|⟨h3,H⟩
 ·iterate 3 refine sk (bf h3) (k:=?_)
  refine qB (bf h3) (k:=mB (k:=?_))
  iterate 3 refine sk rfl (k:=?_)
  refine qB rfl (k:=mB (k:=?_))
  iterate 3 refine sk rfl (k:=?_)
  cases H
  exact qB rfl (k:=mB (k:=nl (rt r1)))
 refine fB 1 D49_1 (hg:=gy h3) (k:=lI T2 (hg:=gy h3) (k:=?_))
 obtain ⟨t4,e5,H⟩:=bo H
 refine cr rfl (impl_within.ok e5) (qd (qd (qd qn))) (hg:=gy h3) (k:=pB h3 (k:=mB (k:=?_)))
 rcases ei H with ⟨h6,H⟩|⟨h6,H⟩
 ·iterate 3 refine sk (bf h6) (k:=?_)
  refine qB (bf h6) (k:=mB (k:=?_))
  iterate 3 refine sk rfl (k:=?_)
  cases H
  exact qB rfl (k:=mB (k:=nl (rt r1)))
 refine fB 2 D49_2 (hg:=gy h6) (k:=lI T2 (hg:=gy h6) (k:=?_))
 obtain ⟨t7,e8,H⟩:=bo H
 refine cr rfl (impl_within.ok e8) (qd (qd (qd qn))) (hg:=gy h6) (k:=pB h6 (k:=mB (k:=?_)))
 rcases ei H with ⟨h9,H⟩|⟨h9,H⟩
 ·iterate 3 refine sk (bf h9) (k:=?_)
  cases H
  exact qB (bf h9) (k:=mB (k:=nl (rt r1)))
 refine fB 3 D49_3 (hg:=gy h9) (k:=lI T2 (hg:=gy h9) (k:=?_))
 obtain ⟨t10,e11,H⟩:=bo H
 cases H
 exact cr rfl (impl_within.ok e11) (qd (qd (qd qn))) (hg:=gy h9) (k:=pB h9 (k:=mB (k:=nl (rt r1))))
def impl_shifted.l0:Nat→Int→Int→List S142→List S142→Int→Int→Option ((List S142))
 | 0,_,_,_,_,_,_=>none
 | k+1,x1,x2,x7,x11,x12,x13=>if x13 < x12 then (if 0≤x13 then (if x13 < (x11.length:Int) then (if x7.length < 8796093022208 then (impl_shifted.l0 k x1 x2 (x7++[(⟨wrap64 (((rd142 x11 x13).f0)+x1),wrap64 (((rd142 x11 x13).f1)+x2)⟩:S142)]) x11 x12 (wrap64 (x13+1))) else (none)) else (none)) else (none)) else (some x7)
def impl_shifted.f (k:Nat) (l0:List S142) (a1 a2:Int):Option ((List S142)):=impl_shifted.l0 k a1 a2 (([]:List S142)) l0 (l0.length:Int) 0
theorem impl_shifted.ok {k:Nat} {l0:List S142} {a1 a2:Int} {r:List S142} (H:impl_shifted.f k l0 a1 a2=some r):OkF Tryz.prog 82 [vR 143 (l0.map c142),vI a1,vI a2] [] (.c (.own 100 r.length)) [(100,.row 143 (r.map c142))]:=by
 unfold impl_shifted.f at H
 refine o1 31 6 Tryz.func82 fun w0 S=>?_
 refine s2 (jn (e:=143) 200 T143 (k:=nl (s2 ?_)))
 refine a_lit (cs:=[]) (D:=[]) (css:=(([]:List S142)).map c142) 201 ?_ N37 T143 (hcss:=by rfl)
 refine mW (k:=nl (sq (s2 (mR (k:=jl Tryz.underlying37 (k:=mI (k:=nl (bk (lp ?_)))))))))
 obtain ⟨K0,hK0,gK0⟩:=kk k
 refine AGr.canon (fun κ=>cond (Nat.beq κ 202) 201 (κ)) (AGr.loopI (n:=k) (fun k s=>k≤K0∧∃ x1 x2 x7 x11 x12 x13,impl_shifted.l0 k x1 x2 x7 x11 x12 x13=some r∧s=St.of [(1,vI x1),(2,vI x2),(7,.c (.own 202 x7.length)),(11,vR 143 (x11.map c142)),(12,vI x12),(13,vI x13)] [(202,.row 143 (x7.map c142))]) ⟨hK0,_,_,_,_,_,_,H,rfl⟩ ?_ ?_) ⟨rfl,rfl,(ownE rfl (by simp)),rfl,rfl,rfl,trivial⟩ ⟨rfl,trivial⟩ rfl
 ·rintro _ ⟨_,_,_,_,_,_,_,H,_⟩
  cases H
 clear H hK0
 rintro k ih0 _ ⟨hK0,x1,x2,x7,x11,x12,x13,H,rfl⟩
 unfold impl_shifted.l0 at H
 refine s2 (iL (k:=nl (sq ?_)))
 rcases ei H with ⟨h2,H⟩|⟨h2,H⟩
 ·refine an (df h2) ?_
  refine ex (s2 (mW (k:=mW (k:=nl (rt ?_)))))
  cases H
  exact RetP.mk (fun κ=>cond (Nat.beq κ 100) 202 (κ)) ⟨rfl,trivial⟩ ⟨rfl,trivial⟩ rfl
 refine ay (dt h2) ?_
 refine sp (sq (bk (s2 ?_)))
 obtain ⟨h3,H⟩:=io H
 obtain ⟨h4,H⟩:=io H
 refine ixx ⟨h3,h4⟩ T143 Tryz.underlying37 (R142 h3 h4) (k:=oP T143 (k:=aP 203 T143 (k:=sP T143 (k:=nl (rg (mW (k:=fB 0 D143_0 (k:=lI T2 (k:=mI (k:=iA (k:=fB 1 D143_1 (k:=lI T2 (k:=mI (k:=iA (k:=?_)))))))))))))))
 refine a_build (cs:=[_,_]) ?_ T143 rfl (hin:=I143)
 refine a_lit (cs:=[_,_]) (D:=[]) (css:=([(⟨wrap64 (((rd142 x11 x13).f0)+x1),wrap64 (((rd142 x11 x13).f1)+x2)⟩:S142)]).map c142) 204 ?_ N37 T143
 obtain ⟨h5,H⟩:=io H
 refine a_appO (css':=(x7++[(⟨wrap64 (((rd142 x11 x13).f0)+x1),wrap64 (((rd142 x11 x13).f1)+x2)⟩:S142)]).map c142) (n':=(x7++[(⟨wrap64 (((rd142 x11 x13).f0)+x1),wrap64 (((rd142 x11 x13).f1)+x2)⟩:S142)]).length) ?_ T143 (by simp [maxLen]; omega) (by simp; omega) Tryz.underlying37 (hc:=by exact List.map_append.symm) (hn:=by exact List.length_map _)
 refine mW (k:=nl (rg (iA (k:=mI (k:=nl ?_)))))
 exact AGr.canon id (ih0 _ (by omega) _ ⟨by omega,_,_,_,_,_,_,H,rfl⟩) ⟨rfl,rfl,rfl,rfl,rfl,rfl,trivial⟩ ⟨rfl,trivial⟩ rfl
def impl_bounds.l0:Nat→Int→Int→Int→Int→List S142→Int→Int→Option (Int×Int×Int×Int)
 | 0,_,_,_,_,_,_,_=>none
 | k+1,y206_0,y206_1,y207_0,y207_1,x14,x15,x16=>if x16 < x15 then (if 0≤x16 then (if x16 < (x14.length:Int) then (impl_bounds.l0 k (mn y206_0 ((rd142 x14 x16).f0)) (mn y206_1 ((rd142 x14 x16).f1)) (mx y207_0 ((rd142 x14 x16).f0)) (mx y207_1 ((rd142 x14 x16).f1)) x14 x15 (wrap64 (x16+1))) else (none)) else (none)) else (some (y206_0,y206_1,y207_0,y207_1))
def impl_bounds.f (k:Nat) (l0:List S142):Option (Int×Int×Int×Int):=if 0 < (l0.length:Int) then (impl_bounds.l0 k ((rd142 l0 0).f0) ((rd142 l0 0).f1) ((rd142 l0 0).f0) ((rd142 l0 0).f1) l0 (l0.length:Int) 0) else (none)
theorem impl_bounds.ok {k:Nat} {l0:List S142} {r0 r1 r2 r3:Int} (H:impl_bounds.f k l0=some (r0,r1,r2,r3)):OkF Tryz.prog 87 [vR 143 (l0.map c142)] [] (.tup [.agg [.d (.v (.int .i64 r0)),.d (.v (.int .i64 r1))],.agg [.d (.v (.int .i64 r2)),.d (.v (.int .i64 r3))]]) []:=by
 unfold impl_bounds.f at H
 refine OkF.ofC (N:=45) (rs:=[2,3]) (avs:=[.agg [.d (.v (.int .i64 r0)),.d (.v (.int .i64 r1))],.agg [.d (.v (.int .i64 r2)),.d (.v (.int .i64 r3))]]) [(2,143),(3,143)] Tryz.func87 rfl rfl (rc_cc rfl) (by decide) rfl (by decide) rfl rfl rfl rfl (fun w0 S=>?_)
 refine s2 (aP 200 T143 (k:=aP 201 T143 (k:=nl (s2 (mR (k:=?_))))))
 obtain ⟨h1,H⟩:=io H
 refine a_ixR (el:=c142 (rd142 l0 0)) ?_ ⟨(by decide),h1⟩ T143 Tryz.underlying37 (hel:=R142 (by decide) h1)
 refine oP T143 (k:=mR (k:=?_))
 refine a_ixR (el:=c142 (rd142 l0 0)) ?_ ⟨(by decide),h1⟩ T143 Tryz.underlying37 (hel:=R142 (by decide) h1)
 refine oP T143 (k:=aP 202 T143 (k:=aP 203 T143 (k:=sP T143 (k:=sP T143 (k:=?_)))))
 refine RA.nil (fun _=>by kernel_rfl) ?_
 refine sq (s2 (mR (k:=jl Tryz.underlying37 (k:=mI (k:=nl (bk (lp ?_)))))))
 obtain ⟨K0,hK0,gK0⟩:=kk k
 refine AGr.canon (fun κ=>cond (Nat.beq κ 204) 200 (cond (Nat.beq κ 205) 201 (cond (Nat.beq κ 206) 202 (cond (Nat.beq κ 207) 203 (κ))))) (AGr.loopI (n:=k) (fun k s=>k≤K0∧∃ (y204_0:Int),∃ (y204_1:Int),∃ (y205_0:Int),∃ (y205_1:Int),∃ y206_0 y206_1 y207_0 y207_1 x14 x15 x16,impl_bounds.l0 k y206_0 y206_1 y207_0 y207_1 x14 x15 x16=some (r0,r1,r2,r3)∧s=St.of [(2,.c (.ptr 204 0)),(3,.c (.ptr 205 0)),(4,.c (.ptr 206 0)),(5,.c (.ptr 207 0)),(14,vR 143 (x14.map c142)),(15,vI x15),(16,vI x16)] [(204,.box 143 [.d (.v (.int .i64 y204_0)),.d (.v (.int .i64 y204_1))]),(205,.box 143 [.d (.v (.int .i64 y205_0)),.d (.v (.int .i64 y205_1))]),(206,.box 143 [.d (.v (.int .i64 y206_0)),.d (.v (.int .i64 y206_1))]),(207,.box 143 [.d (.v (.int .i64 y207_0)),.d (.v (.int .i64 y207_1))])]) ⟨hK0,_,_,_,_,_,_,_,_,_,_,_,H,rfl⟩ ?_ ?_) ⟨rfl,rfl,rfl,rfl,rfl,rfl,rfl,trivial⟩ ⟨rfl,rfl,rfl,rfl,trivial⟩ rfl
 ·rintro _ ⟨_,_,_,_,_,_,_,_,_,_,_,_,H,_⟩
  cases H
 clear H hK0
 rintro k ih0 _ ⟨hK0,y204_0,y204_1,y205_0,y205_1,y206_0,y206_1,y207_0,y207_1,x14,x15,x16,H,rfl⟩
 unfold impl_bounds.l0 at H
 refine s2 (iL (k:=nl (sq ?_)))
 rcases ei H with ⟨h2,H⟩|⟨h2,H⟩
 ·refine an (df h2) ?_
  refine ex (s2 (lP T143 (k:=lP T143 (k:=sP T143 (k:=sP T143 (k:=?_))))))
  refine RA.nil (fun _=>by kernel_rfl) ?_
  refine rt ?_
  simp only [Option.some.injEq,Prod.mk.injEq] at H
  obtain ⟨rfl,rfl,rfl,rfl⟩:=H
  exact RetL.cell T143 rfl rfl rfl (RetL.cell T143 rfl rfl rfl (RetL.nil (RetP.mk id ⟨rfl,rfl,trivial⟩ trivial rfl)))
 refine ay (dt h2) ?_
 refine sp (sq (bk (s2 ?_)))
 obtain ⟨h3,H⟩:=io H
 obtain ⟨h4,H⟩:=io H
 refine ixx ⟨h3,h4⟩ T143 Tryz.underlying37 (R142 h3 h4) (k:=oP T143 (k:=aP 208 T143 (k:=sP T143 (k:=nl (s2 (fB 0 D143_0 (k:=lI T2 (k:=fB 0 D143_0 (k:=lI T2 (k:=jm (mx:=false) (r:=mn y206_0 ((rd142 x14 x16).f0)) (k:=fB 1 D143_1 (k:=lI T2 (k:=fB 1 D143_1 (k:=lI T2 (k:=jm (mx:=false) (r:=mn y206_1 ((rd142 x14 x16).f1)) (k:=?_))))))))))))))))
 refine a_build (cs:=[_,_]) ?_ T143 rfl (hin:=I143)
 refine sP T143 (k:=nl (rg (fB 0 D143_0 (k:=lI T2 (k:=fB 0 D143_0 (k:=lI T2 (k:=jm (mx:=true) (r:=mx y207_0 ((rd142 x14 x16).f0)) (k:=fB 1 D143_1 (k:=lI T2 (k:=fB 1 D143_1 (k:=lI T2 (k:=jm (mx:=true) (r:=mx y207_1 ((rd142 x14 x16).f1)) (k:=?_)))))))))))))
 refine a_build (cs:=[_,_]) ?_ T143 rfl (hin:=I143)
 refine sP T143 (k:=nl (rg (iA (k:=mI (k:=nl ?_)))))
 exact AGr.canon id (ih0 _ (by omega) _ ⟨by omega,_,_,_,_,_,_,_,_,_,_,_,H,rfl⟩) ⟨rfl,rfl,rfl,rfl,rfl,rfl,rfl,trivial⟩ ⟨rfl,rfl,rfl,rfl,trivial⟩ rfl
mutual
def impl_Turned.j0:Nat→Int→Int→Int→Bool→Option (Int×Int)
 | 0,_,_,_,_=>none
 | k+1,x1,y205_0,y205_1,x20=>if x20=true then (some (0,0)) else (if x1 > 3 then (impl_Turned.j1 k x1 (wrap64 (0 - y205_0)) y205_1) else (impl_Turned.j1 k x1 y205_0 y205_1))
def impl_Turned.j1:Nat→Int→Int→Int→Option (Int×Int)
 | 0,_,_,_=>none
 | k+1,x1,y207_0,y207_1=>impl_Turned.l0 k y207_0 y207_1 (Int.tmod x1 4)
def impl_Turned.l0:Nat→Int→Int→Int→Option (Int×Int)
 | 0,_,_,_=>none
 | k+1,y209_0,y209_1,x5=>if x5 > 0 then (impl_Turned.l0 k (wrap64 (0 - y209_1)) y209_0 (wrap64 (x5 - 1))) else (some (y209_0,y209_1))
end
def impl_Turned.f (k:Nat) (a0_0 a0_1 a1:Int):Option (Int×Int):=(impl_within.f a1 0 7).bind fun t1=>(if t1=true then ((impl_within.f a0_0 (-20000) 20000).bind fun t4=>(if t4=true then ((impl_within.f a0_1 (-20000) 20000).bind fun t7=>(impl_Turned.j0 k a1 a0_0 a0_1 (!t7))) else (impl_Turned.j0 k a1 a0_0 a0_1 true))) else (impl_Turned.j0 k a1 a0_0 a0_1 true))
theorem impl_Turned.ok {k:Nat} {a0_0 a0_1 a1 r0 r1:Int} (H:impl_Turned.f k a0_0 a0_1 a1=some (r0,r1)):OkF Tryz.prog 124 [.agg [cI a0_0,cI a0_1],vI a1] [] (.agg [cI r0,cI r1]) []:=by
 unfold impl_Turned.f at H
 refine OkF.ofB (N:=41) (t:=4) (ty:=143) (av := .agg [.d (.v (.int .i64 r0)),.d (.v (.int .i64 r1))]) Tryz.func124 rfl rfl rfl rfl (by decide) rfl rfl (fun w0 S=>?_)
 refine s2 (jb 200 (k:=aP 201 T143 (k:=nl (sq (sq ?_)))))
 refine AG.joinR (fun s=>∃ q,q≤k∧∃ x1 y205_0 y205_1,∃ (y206_0:Int),∃ (y206_1:Int),∃ x20,impl_Turned.j0 q x1 y205_0 y205_1 x20=some (r0,r1)∧s=St.of [(1,vI x1),(2,.c (.ptr 205 0)),(4,.c (.ptr 206 0)),(20,vB x20)] [(205,.box 143 [.d (.v (.int .i64 y205_0)),.d (.v (.int .i64 y205_1))]),(206,.box 143 [.d (.v (.int .i64 y206_0)),.d (.v (.int .i64 y206_1))])]) ?_ ?_
 ·skip
  refine rg (mI (k:=?_))
  obtain ⟨t1,e2,H⟩:=bo H
  refine cr rfl (impl_within.ok e2) (qd (qd (qd qn))) (k:=uN (k:=mB (k:=?_)))
  rcases ei H with ⟨h3,H⟩|⟨h3,H⟩
  ·iterate 4 refine sk (cn (bf h3)) (k:=?_)
   refine pB (cn (bf h3)) (k:=mB (k:=?_))
   iterate 4 refine sk rfl (k:=?_)
   refine pB rfl (k:=nl ?_)
   exact CanR.mk (fun κ=>cond (Nat.beq κ 205) 200 (cond (Nat.beq κ 206) 201 (κ))) ⟨_,(by omega),_,_,_,_,_,_,H,rfl⟩ ⟨rfl,rfl,rfl,rfl,trivial⟩ ⟨rfl,rfl,trivial⟩ rfl
  refine fB 0 D143_0 (hg:=gy (cn h3)) (k:=lI T2 (hg:=gy (cn h3)) (k:=?_))
  obtain ⟨t4,e5,H⟩:=bo H
  refine cr rfl (impl_within.ok e5) (qd (qd (qd qn))) (hg:=gy (cn h3)) (k:=uN (hg:=gy (cn h3)) (k:=qB (cn h3) (k:=mB (k:=?_))))
  rcases ei H with ⟨h6,H⟩|⟨h6,H⟩
  ·iterate 4 refine sk (cn (bf h6)) (k:=?_)
   refine pB (cn (bf h6)) (k:=nl ?_)
   exact CanR.mk (fun κ=>cond (Nat.beq κ 205) 200 (cond (Nat.beq κ 206) 201 (κ))) ⟨_,(by omega),_,_,_,_,_,_,H,rfl⟩ ⟨rfl,rfl,rfl,rfl,trivial⟩ ⟨rfl,rfl,trivial⟩ rfl
  refine fB 1 D143_1 (hg:=gy (cn h6)) (k:=lI T2 (hg:=gy (cn h6)) (k:=?_))
  obtain ⟨t7,e8,H⟩:=bo H
  refine cr rfl (impl_within.ok e8) (qd (qd (qd qn))) (hg:=gy (cn h6)) (k:=uN (hg:=gy (cn h6)) (k:=qB (cn h6) (k:=nl ?_)))
  exact CanR.mk (fun κ=>cond (Nat.beq κ 205) 200 (cond (Nat.beq κ 206) 201 (κ))) ⟨_,(by omega),_,_,_,_,_,_,H,rfl⟩ ⟨rfl,rfl,rfl,rfl,trivial⟩ ⟨rfl,rfl,trivial⟩ rfl
 clear H
 rintro _ ⟨k,hj0,x1,y205_0,y205_1,y206_0,y206_1,x20,H,rfl⟩
 rcases k with _|k
 cases H
 rw [impl_Turned.j0] at H
 rcases ie H with ⟨h9,H⟩|⟨h9,H⟩
 ·refine ay h9 ?_
  refine s2 ?_
  refine a_build (cs:=[_,_]) ?_ T143 rfl (hin:=I143)
  refine sP T143 (k:=nl (rt ?_))
  simp only [Option.some.injEq,Prod.mk.injEq] at H
  obtain ⟨rfl,rfl⟩:=H
  exact RetB.mk T143 rfl rfl rfl (RetP.mk id ⟨rfl,trivial⟩ trivial rfl)
 refine an (bf h9) ?_
 refine sp (sq (s2 (mI (k:=iG (k:=nl ?_)))))
 refine AG.joinR (fun s=>∃ q,q≤k∧∃ x1 y207_0 y207_1,∃ (y208_0:Int),∃ (y208_1:Int),impl_Turned.j1 q x1 y207_0 y207_1=some (r0,r1)∧s=St.of [(1,vI x1),(2,.c (.ptr 207 0)),(4,.c (.ptr 208 0))] [(207,.box 143 [.d (.v (.int .i64 y207_0)),.d (.v (.int .i64 y207_1))]),(208,.box 143 [.d (.v (.int .i64 y208_0)),.d (.v (.int .i64 y208_1))])]) ?_ ?_
 ·skip
  rcases ei H with ⟨h10,H⟩|⟨h10,H⟩
  ·refine an (df h10) ?_
   refine sp ?_
   exact CanR.mk (fun κ=>cond (Nat.beq κ 207) 205 (cond (Nat.beq κ 208) 206 (κ))) ⟨_,(by omega),_,_,_,_,_,H,rfl⟩ ⟨rfl,rfl,rfl,trivial⟩ ⟨rfl,rfl,trivial⟩ rfl
  refine ay (dt h10) ?_
  refine rg (fB 0 D143_0 (k:=lI T2 (k:=uI (wrap64 (0 - y205_0)) (k:=fB 0 D143_0 (k:=sP T2 (k:=nl ?_))))))
  exact CanR.mk (fun κ=>cond (Nat.beq κ 207) 205 (cond (Nat.beq κ 208) 206 (κ))) ⟨_,(by omega),_,_,_,_,_,H,rfl⟩ ⟨rfl,rfl,rfl,trivial⟩ ⟨rfl,rfl,trivial⟩ rfl
 clear H
 rintro _ ⟨k,hj1,x1,y207_0,y207_1,y208_0,y208_1,H,rfl⟩
 rcases k with _|k
 cases H
 rw [impl_Turned.j1] at H
 refine sq (s2 (mI (k:=jr (r:=Int.tmod x1 4) (show ¬ (4:Int)=0 from by decide) (k:=mI (k:=nl (bk (lp ?_)))))))
 obtain ⟨K0,hK0,gK0⟩:=kk k
 refine AGr.canon (fun κ=>cond (Nat.beq κ 209) 207 (cond (Nat.beq κ 210) 208 (κ))) (AGr.loopI (n:=k) (fun k s=>k≤K0∧∃ y209_0 y209_1,∃ (y210_0:Int),∃ (y210_1:Int),∃ x5,impl_Turned.l0 k y209_0 y209_1 x5=some (r0,r1)∧s=St.of [(2,.c (.ptr 209 0)),(4,.c (.ptr 210 0)),(5,vI x5)] [(209,.box 143 [.d (.v (.int .i64 y209_0)),.d (.v (.int .i64 y209_1))]),(210,.box 143 [.d (.v (.int .i64 y210_0)),.d (.v (.int .i64 y210_1))])]) ⟨hK0,_,_,_,_,_,H,rfl⟩ ?_ ?_) ⟨rfl,rfl,rfl,trivial⟩ ⟨rfl,rfl,trivial⟩ rfl
 ·rintro _ ⟨_,_,_,_,_,_,H,_⟩
  cases H
 clear H hK0
 rintro k ih0 _ ⟨hK0,y209_0,y209_1,y210_0,y210_1,x5,H,rfl⟩
 unfold impl_Turned.l0 at H
 refine sq (s2 (mI (k:=iG (k:=nl ?_))))
 rcases ei H with ⟨h11,H⟩|⟨h11,H⟩
 ·refine an (df h11) ?_
  refine ex (s2 (lP T143 (k:=sP T143 (k:=nl (rt ?_)))))
  simp only [Option.some.injEq,Prod.mk.injEq] at H
  obtain ⟨rfl,rfl⟩:=H
  exact RetB.mk T143 rfl rfl rfl (RetP.mk id ⟨rfl,trivial⟩ trivial rfl)
 refine ay (dt h11) ?_
 refine sp (sq (bk (rg (fB 1 D143_1 (k:=lI T2 (k:=uI (wrap64 (0 - y209_1)) (k:=fB 0 D143_0 (k:=lI T2 (k:=?_)))))))))
 refine a_build (cs:=[_,_]) ?_ T143 rfl (hin:=I143)
 refine sP T143 (k:=nl (rg (mI (k:=iS (k:=mI (k:=nl ?_))))))
 exact AGr.canon id (ih0 _ (by omega) _ ⟨by omega,_,_,_,_,_,H,rfl⟩) ⟨rfl,rfl,rfl,trivial⟩ ⟨rfl,rfl,trivial⟩ rfl
def slices_Reverse_impl_Point.l0:Nat→List S142→Int→Int→Option ((List S142))
 | 0,_,_,_=>none
 | k+1,x0,x2,x3=>if x2 < x3 then (if 0≤x3 then (if x3 < (x0.length:Int) then (if 0≤x2 then (if x2 < (x0.length:Int) then (slices_Reverse_impl_Point.l0 k ((x0.set (x2:Int).toNat (⟨(rd142 x0 x3).f0,(rd142 x0 x3).f1⟩:S142)).set (x3:Int).toNat (⟨(rd142 x0 x2).f0,(rd142 x0 x2).f1⟩:S142)) (wrap64 (x2+1)) (wrap64 (x3 - 1))) else (none)) else (none)) else (none)) else (none)) else (some x0)
def slices_Reverse_impl_Point.f (k:Nat) (l0:List S142):Option ((List S142)):=slices_Reverse_impl_Point.l0 k l0 0 (wrap64 ((l0.length:Int) - 1))
theorem slices_Reverse_impl_Point.ok {k:Nat} {l0 r:List S142} (H:slices_Reverse_impl_Point.f k l0=some r):OkF Tryz.prog 125 [.c (.own 0 l0.length)] [(0,.row 143 (l0.map c142))] (.tup []) [(0,.row 143 (r.map c142))]:=by
 unfold slices_Reverse_impl_Point.f at H
 refine OkF.of (N:=28) (rs:=[]) (avs:=[]) Tryz.func125 rfl rfl (fun _ _=>results_none rfl _ _ _) (by decide) rfl rfl rfl rfl (fun w0 S=>?_)
 refine s2 (mW (k:=jo Tryz.underlying37 (k:=iS (k:=mI (k:=mI (k:=nl (bk (lp ?_))))))))
 obtain ⟨K0,hK0,gK0⟩:=kk k
 refine AGr.canon id (AGr.loopI (n:=k) (fun k s=>k≤K0∧∃ x0 x2 x3,slices_Reverse_impl_Point.l0 k x0 x2 x3=some r∧s=St.of [(0,.c (.own 0 x0.length)),(2,vI x2),(3,vI x3)] [(0,.row 143 (x0.map c142))]) ⟨hK0,_,_,_,H,rfl⟩ ?_ ?_) ⟨rfl,rfl,rfl,trivial⟩ ⟨rfl,trivial⟩ rfl
 ·rintro _ ⟨_,_,_,_,H,_⟩
  cases H
 clear H hK0
 rintro k ih0 _ ⟨hK0,x0,x2,x3,H,rfl⟩
 unfold slices_Reverse_impl_Point.l0 at H
 refine sq (s2 (mI (k:=mI (k:=iL (k:=nl ?_)))))
 rcases ei H with ⟨h1,H⟩|⟨h1,H⟩
 ·refine an (df h1) ?_
  refine ex ?_
  cases H
  exact RetP.mk (fun κ=>cond (Nat.beq κ 0) 0 (κ)) trivial ⟨rfl,trivial⟩ rfl
 refine ay (dt h1) ?_
 refine sp (sq (bk (rg (mW (k:=mI (k:=mW (k:=mI (k:=mW (k:=mI (k:=?_))))))))))
 obtain ⟨h2,H⟩:=io H
 obtain ⟨h3,H⟩:=io H
 refine ji ⟨h2,h3⟩ T143 Tryz.underlying37 (k:=eP (G142 h2 h3) T143 (k:=mW (k:=mI (k:=?_))))
 obtain ⟨h4,H⟩:=io H
 obtain ⟨h5,H⟩:=io H
 refine ji ⟨h4,h5⟩ T143 Tryz.underlying37 (k:=eP (G142 h4 h5) T143 (k:=ji ⟨h4,h5⟩ T143 Tryz.underlying37 (k:=?_)))
 refine a_stF (css':=(x0.set (x2:Int).toNat (⟨(rd142 x0 x3).f0,(rd142 x0 x3).f1⟩:S142)).map c142) ?_ (flat_map (fun _=>rfl)) (G142 h4 h5) T143 (hcss:=by exact set_map rfl)
 refine ji ⟨h2,h3⟩ T143 Tryz.underlying37 (k:=?_)
 refine a_stF (css':=((x0.set (x2:Int).toNat (⟨(rd142 x0 x3).f0,(rd142 x0 x3).f1⟩:S142)).set (x3:Int).toNat (⟨(rd142 x0 x2).f0,(rd142 x0 x2).f1⟩:S142)).map c142) ?_ (flat_map (fun _=>rfl)) (G142 (l:=(x0.set (x2:Int).toNat (⟨(rd142 x0 x3).f0,(rd142 x0 x3).f1⟩:S142))) (i:=x3) h2 (by simpa using h3)) T143 (hcss:=by exact set_map rfl)
 refine RA.nil (fun _=>by kernel_rfl) ?_
 refine rg (mI (k:=iA (k:=mI (k:=iS (k:=mI (k:=mI (k:=nl ?_)))))))
 exact AGr.canon id (ih0 _ (by omega) _ ⟨by omega,_,_,_,H,rfl⟩) ⟨(ownE rfl (by simp)),rfl,rfl,trivial⟩ ⟨rfl,trivial⟩ rfl
def slices_Reverse_impl_Point__cut.l0:Nat→List S142→Nat→Nat→Int→Int→Option ((List S142))
 | 0,_,_,_,_,_=>none
 | k+1,x0,x0_lo,x0_n,x2,x3=>if x2 < x3 then (if x0_lo+x0_n≤x0.length then (if 0≤x3 then (if x3 < (x0_n:Int) then (if 0≤x2 then (if x2 < (x0_n:Int) then (slices_Reverse_impl_Point__cut.l0 k ((x0.set (((x0_lo:Int)+x2):Int).toNat (⟨(rd142 x0 ((x0_lo:Int)+x3)).f0,(rd142 x0 ((x0_lo:Int)+x3)).f1⟩:S142)).set (((x0_lo:Int)+x3):Int).toNat (⟨(rd142 x0 ((x0_lo:Int)+x2)).f0,(rd142 x0 ((x0_lo:Int)+x2)).f1⟩:S142)) x0_lo x0_n (wrap64 (x2+1)) (wrap64 (x3 - 1))) else (none)) else (none)) else (none)) else (none)) else (none)) else (some x0)
def slices_Reverse_impl_Point__cut.f (k:Nat) (l0:List S142) (lo0 n0:Nat):Option ((List S142)):=slices_Reverse_impl_Point__cut.l0 k l0 lo0 n0 0 (wrap64 ((n0:Int) - 1))
theorem slices_Reverse_impl_Point__cut.ok {k:Nat} {l0:List S142} {lo0 n0:Nat} {r:List S142} (H:slices_Reverse_impl_Point__cut.f k l0 lo0 n0=some r):OkF Tryz.prog 125 [.c (.cut 0 lo0 n0)] [(0,.row 143 (l0.map c142))] (.tup []) [(0,.row 143 (r.map c142))]:=by
 unfold slices_Reverse_impl_Point__cut.f at H
 refine OkF.of (N:=28) (rs:=[]) (avs:=[]) Tryz.func125 rfl rfl (fun _ _=>results_none rfl _ _ _) (by decide) rfl rfl rfl rfl (fun w0 S=>?_)
 refine s2 (mv (.c (.cut _ _ _)) (k:=jc Tryz.underlying37 (k:=iS (k:=mI (k:=mI (k:=nl (bk (lp ?_))))))))
 obtain ⟨K0,hK0,gK0⟩:=kk k
 refine AGr.canon id (AGr.loopI (n:=k) (fun k s=>k≤K0∧∃ x0 x0_lo x0_n x2 x3,slices_Reverse_impl_Point__cut.l0 k x0 x0_lo x0_n x2 x3=some r∧s=St.of [(0,.c (.cut 0 x0_lo x0_n)),(2,vI x2),(3,vI x3)] [(0,.row 143 (x0.map c142))]) ⟨hK0,_,_,_,_,_,H,rfl⟩ ?_ ?_) ⟨rfl,rfl,rfl,trivial⟩ ⟨rfl,trivial⟩ rfl
 ·rintro _ ⟨_,_,_,_,_,_,H,_⟩
  cases H
 clear H hK0
 rintro k ih0 _ ⟨hK0,x0,x0_lo,x0_n,x2,x3,H,rfl⟩
 unfold slices_Reverse_impl_Point__cut.l0 at H
 refine sq (s2 (mI (k:=mI (k:=iL (k:=nl ?_)))))
 rcases ei H with ⟨h1,H⟩|⟨h1,H⟩
 ·refine an (df h1) ?_
  refine ex ?_
  cases H
  exact RetP.mk (fun κ=>cond (Nat.beq κ 0) 0 (κ)) trivial ⟨rfl,trivial⟩ rfl
 refine ay (dt h1) ?_
 refine sp (sq (bk (rg (mv (.c (.cut _ _ _)) (k:=mI (k:=mv (.c (.cut _ _ _)) (k:=mI (k:=mv (.c (.cut _ _ _)) (k:=mI (k:=?_))))))))))
 obtain ⟨h2,H⟩:=io H
 obtain ⟨h3,H⟩:=io H
 obtain ⟨h4,H⟩:=io H
 refine a_ixC ?_ ⟨h3,h4⟩ T143 Tryz.underlying37
 refine eP (G142 (l:=x0) (i:=((x0_lo:Int)+x3)) (by omega) (by omega)) T143 (k:=mv (.c (.cut _ _ _)) (k:=mI (k:=?_)))
 obtain ⟨h5,H⟩:=io H
 obtain ⟨h6,H⟩:=io H
 refine a_ixC ?_ ⟨h5,h6⟩ T143 Tryz.underlying37
 refine eP (G142 (l:=x0) (i:=((x0_lo:Int)+x2)) (by omega) (by omega)) T143 (k:=?_)
 refine a_ixC ?_ ⟨h5,h6⟩ T143 Tryz.underlying37
 refine a_stF (css':=(x0.set (((x0_lo:Int)+x2):Int).toNat (⟨(rd142 x0 ((x0_lo:Int)+x3)).f0,(rd142 x0 ((x0_lo:Int)+x3)).f1⟩:S142)).map c142) ?_ (flat_map (fun _=>rfl)) (G142 (l:=x0) (i:=((x0_lo:Int)+x2)) (by omega) (by omega)) T143 (hcss:=by exact set_map rfl)
 refine a_ixC ?_ ⟨h3,h4⟩ T143 Tryz.underlying37
 refine a_stF (css':=((x0.set (((x0_lo:Int)+x2):Int).toNat (⟨(rd142 x0 ((x0_lo:Int)+x3)).f0,(rd142 x0 ((x0_lo:Int)+x3)).f1⟩:S142)).set (((x0_lo:Int)+x3):Int).toNat (⟨(rd142 x0 ((x0_lo:Int)+x2)).f0,(rd142 x0 ((x0_lo:Int)+x2)).f1⟩:S142)).map c142) ?_ (flat_map (fun _=>rfl)) (G142 (l:=(x0.set (((x0_lo:Int)+x2):Int).toNat (⟨(rd142 x0 ((x0_lo:Int)+x3)).f0,(rd142 x0 ((x0_lo:Int)+x3)).f1⟩:S142))) (i:=((x0_lo:Int)+x3)) (by omega) (by simp only [List.length_set]; omega)) T143 (hcss:=by exact set_map rfl)
 refine RA.nil (fun _=>by kernel_rfl) ?_
 refine rg (mI (k:=iA (k:=mI (k:=iS (k:=mI (k:=mI (k:=nl ?_)))))))
 exact AGr.canon id (ih0 _ (by omega) _ ⟨by omega,_,_,_,_,_,H,rfl⟩) ⟨rfl,rfl,rfl,trivial⟩ ⟨rfl,trivial⟩ rfl
def impl_turnPoints.l0:Nat→Int→List S142→List S142→Int→Int→Option ((List S142))
 | 0,_,_,_,_,_=>none
 | k+1,x1,x5,x11,x12,x13=>if x13 < x12 then (if 0≤x13 then (if x13 < (x11.length:Int) then ((impl_Turned.f k ((rd142 x11 x13).f0) ((rd142 x11 x13).f1) x1).bind fun bt5=>(if x5.length < 8796093022208 then (impl_turnPoints.l0 k x1 (x5++[(⟨bt5.1,bt5.2⟩:S142)]) x11 x12 (wrap64 (x13+1))) else (none))) else (none)) else (none)) else (if x1 > 3 then (if 1≤(x5.length:Int) then ((slices_Reverse_impl_Point__cut.f k x5 1 (x5.length - 1)).bind fun t12=>((impl_bounds.f k t12).bind fun bt14=>((impl_shifted.f k t12 (wrap64 (0 - bt14.1)) (wrap64 (0 - bt14.2.1))).bind fun t19=>(some t19)))) else (none)) else ((impl_bounds.f k x5).bind fun bt21=>((impl_shifted.f k x5 (wrap64 (0 - bt21.1)) (wrap64 (0 - bt21.2.1))).bind fun t26=>(some t26))))
def impl_turnPoints.f (k:Nat) (l0:List S142) (a1:Int):Option ((List S142)):=impl_turnPoints.l0 k a1 (([]:List S142)) l0 (l0.length:Int) 0
theorem impl_turnPoints.ok {k:Nat} {l0:List S142} {a1:Int} {r:List S142} (H:impl_turnPoints.f k l0 a1=some r):OkF Tryz.prog 83 [vR 143 (l0.map c142),vI a1] [] (.c (.own 100 r.length)) [(100,.row 143 (r.map c142))]:=by
 unfold impl_turnPoints.f at H
 refine o1 42 4 Tryz.func83 fun w0 S=>?_
 refine s2 (jn (e:=143) 200 T143 (k:=nl (s2 ?_)))
 refine a_lit (cs:=[]) (D:=[]) (css:=(([]:List S142)).map c142) 201 ?_ N37 T143 (hcss:=by rfl)
 refine mW (k:=nl (sq (s2 (mR (k:=jl Tryz.underlying37 (k:=mI (k:=nl (bk (lp ?_)))))))))
 obtain ⟨K0,hK0,gK0⟩:=kk k
 refine AGr.canon (fun κ=>cond (Nat.beq κ 202) 201 (κ)) (AGr.loopI (n:=k) (fun k s=>k≤K0∧∃ x1 x5 x11 x12 x13,impl_turnPoints.l0 k x1 x5 x11 x12 x13=some r∧s=St.of [(1,vI x1),(5,.c (.own 202 x5.length)),(11,vR 143 (x11.map c142)),(12,vI x12),(13,vI x13)] [(202,.row 143 (x5.map c142))]) ⟨hK0,_,_,_,_,_,H,rfl⟩ ?_ ?_) ⟨rfl,(ownE rfl (by simp)),rfl,rfl,rfl,trivial⟩ ⟨rfl,trivial⟩ rfl
 ·rintro _ ⟨_,_,_,_,_,_,H,_⟩
  cases H
 clear H hK0
 rintro k ih0 _ ⟨hK0,x1,x5,x11,x12,x13,H,rfl⟩
 unfold impl_turnPoints.l0 at H
 refine s2 (iL (k:=nl (sq ?_)))
 rcases ie H with ⟨h2,H⟩|⟨h2,H⟩
 ·refine ay (dt h2) ?_
  refine sp (sq (bk (s2 ?_)))
  obtain ⟨h3,H⟩:=io H
  obtain ⟨h4,H⟩:=io H
  refine ixx ⟨h3,h4⟩ T143 Tryz.underlying37 (R142 h3 h4) (k:=oP T143 (k:=aP 203 T143 (k:=sP T143 (k:=nl (rg (mW (k:=lP T143 (k:=mI (k:=?_)))))))))
  obtain ⟨⟨t5,t6⟩,e7,H⟩:=bo H
  refine cl (.agg [.d (.v (.int .i64 t5)),.d (.v (.int .i64 t6))]) rfl (impl_Turned.ok e7) (qg (qd qn)) (k:=?_)
  refine a_lit (cs:=[_,_]) (D:=[]) (css:=([(⟨t5,t6⟩:S142)]).map c142) 205 ?_ N37 T143
  obtain ⟨h8,H⟩:=io H
  refine a_appO (css':=(x5++[(⟨t5,t6⟩:S142)]).map c142) (n':=(x5++[(⟨t5,t6⟩:S142)]).length) ?_ T143 (by simp [maxLen]; omega) (by simp; omega) Tryz.underlying37 (hc:=by exact List.map_append.symm) (hn:=by exact List.length_map _)
  refine mW (k:=nl (rg (iA (k:=mI (k:=nl ?_)))))
  exact AGr.canon id (ih0 _ (by omega) _ ⟨by omega,_,_,_,_,_,H,rfl⟩) ⟨rfl,rfl,rfl,rfl,rfl,trivial⟩ ⟨rfl,trivial⟩ rfl
 refine an (df h2) ?_
 refine ex (sq (s2 (mI (k:=iG (k:=nl ?_)))))
 rcases ei H with ⟨h10,H⟩|⟨h10,H⟩
 ·refine an (df h10) ?_
  refine sp (s2 (mW (k:=?_)))
  obtain ⟨⟨t21,t22,t23,t24⟩,e25,H⟩:=bo H
  refine a_call (v := .tup [.agg [.d (.v (.int .i64 t21)),.d (.v (.int .i64 t22))],.agg [.d (.v (.int .i64 t23)),.d (.v (.int .i64 t24))]]) (nk:=[]) (L:=[(202,_)]) ?_ rfl (impl_bounds.ok e25) id (qc rO qn) ⟨rfl,trivial⟩ trivial trivial rfl
  refine mv (.tup [_,_]) (k:=xP (k:=xP (k:=aP 208 T143 (k:=aP 209 T143 (k:=sP T143 (k:=sP T143 (k:=nl (s2 (mW (k:=fB 0 D143_0 (k:=lI T2 (k:=uI (wrap64 (0 - t21)) (k:=fB 1 D143_1 (k:=lI T2 (k:=uI (wrap64 (0 - t22)) (k:=?_))))))))))))))))
  obtain ⟨t26,e27,H⟩:=bo H
  refine a_call (v := .c (.own 210 t26.length)) (nk:=[(210,.row 143 (t26.map c142))]) (L:=[(202,_)]) ?_ rfl (impl_shifted.ok e27) (fun κ=>cond (Nat.beq κ 210) 100 (κ)) (qc rO (qd (qd qn))) ⟨rfl,trivial⟩ ⟨rfl,trivial⟩ ⟨rfl,trivial⟩ rfl
  refine mW (k:=nl (rt ?_))
  cases H
  exact RetP.mk (fun κ=>cond (Nat.beq κ 100) 210 (κ)) ⟨rfl,trivial⟩ ⟨rfl,trivial⟩ rfl
 refine ay (dt h10) ?_
 refine rg (mW (k:=?_))
 obtain ⟨h11,H⟩:=io H
 refine a_slO (l:=some 1) (h:=none) ?_ Tryz.underlying37 T143 ⟨(by decide),h11,(Int.le_refl _)⟩
 obtain ⟨t12,e13,H⟩:=bo H
 refine a_callM (v := .tup []) (nk:=[]) (L:=[]) (Mk:=[(202,_)]) (ck:=[(202,.row 143 (t12.map c142))]) ?_ rfl (slices_Reverse_impl_Point__cut.ok e13) (fun κ=>cond (Nat.beq κ 0) 202 (κ)) (fun κ=>cond (Nat.beq κ 202) 0 (κ)) (mcU m0) trivial ⟨rfl,trivial⟩ trivial ⟨rfl,trivial⟩ trivial ⟨rfl,trivial⟩ rfl rfl rfl
 refine nl ?_
 refine AG.relen 202 t12.length ?_
 refine s2 (mW (k:=?_))
 obtain ⟨⟨t14,t15,t16,t17⟩,e18,H⟩:=bo H
 refine a_call (v := .tup [.agg [.d (.v (.int .i64 t14)),.d (.v (.int .i64 t15))],.agg [.d (.v (.int .i64 t16)),.d (.v (.int .i64 t17))]]) (nk:=[]) (L:=[(202,_)]) ?_ rfl (impl_bounds.ok e18) id (qc rO qn) ⟨rfl,trivial⟩ trivial trivial rfl
 refine mv (.tup [_,_]) (k:=xP (k:=xP (k:=aP 208 T143 (k:=aP 209 T143 (k:=sP T143 (k:=sP T143 (k:=nl (s2 (mW (k:=fB 0 D143_0 (k:=lI T2 (k:=uI (wrap64 (0 - t14)) (k:=fB 1 D143_1 (k:=lI T2 (k:=uI (wrap64 (0 - t15)) (k:=?_))))))))))))))))
 obtain ⟨t19,e20,H⟩:=bo H
 refine a_call (v := .c (.own 210 t19.length)) (nk:=[(210,.row 143 (t19.map c142))]) (L:=[(202,_)]) ?_ rfl (impl_shifted.ok e20) (fun κ=>cond (Nat.beq κ 210) 100 (κ)) (qc rO (qd (qd qn))) ⟨rfl,trivial⟩ ⟨rfl,trivial⟩ ⟨rfl,trivial⟩ rfl
 refine mW (k:=nl (rt ?_))
 cases H
 exact RetP.mk (fun κ=>cond (Nat.beq κ 100) 210 (κ)) ⟨rfl,trivial⟩ ⟨rfl,trivial⟩ rfl
def impl_facePolygon.f (k:Nat) (a0_0 a0_1:Int) (l0_2:List S142) (l0_3:List S154) (a1:Int):Option ((List S142)):=if 0≤a1 then (if a1 < (l0_3.length:Int) then ((impl_ringPolygon.f k l0_2 ((rd154 l0_3 a1).f1)).bind fun bt3=>(some bt3.1)) else (none)) else (none)
theorem impl_facePolygon.ok {k:Nat} {a0_0 a0_1:Int} {l0_2:List S142} {l0_3:List S154} {a1:Int} {r:List S142} (H:impl_facePolygon.f k a0_0 a0_1 l0_2 l0_3 a1=some r):OkF Tryz.prog 84 [.agg [cI a0_0,cI a0_1,.d (.row 143 (l0_2.map c142)),.d (.row 158 (l0_3.map c154))],vI a1] [] (.c (.own 100 r.length)) [(100,.row 143 (r.map c142))]:=by
 unfold impl_facePolygon.f at H
 refine o1 20 4 Tryz.func84 fun w0 S=>?_
 refine s2 (jb 200 (k:=jn (e:=143) 201 T143 (k:=nl (s2 (fB 2 D40_2 (k:=lR T37 (k:=fB 3 D40_3 (k:=lR T38 (k:=mI (k:=?_))))))))))
 obtain ⟨h1,H⟩:=io H
 obtain ⟨h2,H⟩:=io H
 refine ixx ⟨h1,h2⟩ T158 Tryz.underlying38 (R154 h1 h2) (k:=jf (cells':=[_]) D158_1 (k:=oR T104 (k:=?_)))
 obtain ⟨⟨t3,t4⟩,e5,H⟩:=bo H
 refine a_call (v := .tup [.c (.own 202 t3.length),.c (.d (.v (.bool t4)))]) (nk:=[(202,.row 143 (t3.map c142))]) (L:=[]) ?_ rfl (impl_ringPolygon.ok e5) (fun κ=>cond (Nat.beq κ 202) 100 (κ)) (qd (qd qn)) trivial ⟨rfl,trivial⟩ ⟨rfl,trivial⟩ rfl
 refine mv (.tup [_,_]) (k:=ev (.c (.own _ _)) (k:=xB (k:=mW (k:=mB (k:=?_)))))
 refine RA.nil (fun _=>by kernel_rfl) ?_
 refine s2 (mW (k:=mW (k:=nl (rt ?_))))
 cases H
 exact RetP.mk (fun κ=>cond (Nat.beq κ 100) 202 (κ)) ⟨rfl,trivial⟩ ⟨rfl,trivial⟩ rfl
def impl_placed.f (k:Nat) (a0_0 a0_1:Int) (l0_2:List S142) (l0_3:List S154) (l0_4:List S66) (a1_0 a1_1 a1_2 a1_3 a1_4:Int):Option ((List S142)):=(impl_facePolygon.f k a0_0 a0_1 l0_2 l0_3 a1_0).bind fun t1=>((impl_turnPoints.f k t1 a1_4).bind fun t3=>((impl_shifted.f k t3 a1_2 a1_3).bind fun t5=>(some t5)))
theorem impl_placed.ok {k:Nat} {a0_0 a0_1:Int} {l0_2:List S142} {l0_3:List S154} {l0_4:List S66} {a1_0 a1_1 a1_2 a1_3 a1_4:Int} {r:List S142} (H:impl_placed.f k a0_0 a0_1 l0_2 l0_3 l0_4 a1_0 a1_1 a1_2 a1_3 a1_4=some r):OkF Tryz.prog 45 [.agg [cI a0_0,cI a0_1,.d (.row 143 (l0_2.map c142)),.d (.row 158 (l0_3.map c154)),.d (.row 76 (l0_4.map c66))],.agg [cI a1_0,cI a1_1,cI a1_2,cI a1_3,cI a1_4]] [] (.c (.own 100 r.length)) [(100,.row 143 (r.map c142))]:=by
 unfold impl_placed.f at H
 refine o1 18 4 Tryz.func45 fun w0 S=>?_
 refine s2 (jb 200 (k:=jb 201 (k:=jn (e:=143) 202 T143 (k:=nl (s2 (fB 0 D43_0 (k:=lv (.agg [_,_,_,_]) T40 (k:=fB 0 D82_0 (k:=lI T2 (k:=?_))))))))))
 obtain ⟨t1,e2,H⟩:=bo H
 refine a_call (v := .c (.own 203 t1.length)) (nk:=[(203,.row 143 (t1.map c142))]) (L:=[]) ?_ rfl (impl_facePolygon.ok e2) (fun κ=>cond (Nat.beq κ 203) 100 (κ)) (qg (qd qn)) trivial ⟨rfl,trivial⟩ ⟨rfl,trivial⟩ rfl
 refine fB 4 D82_4 (k:=lI T2 (k:=?_))
 obtain ⟨t3,e4,H⟩:=bo H
 refine a_call (v := .c (.own 204 t3.length)) (nk:=[(204,.row 143 (t3.map c142))]) (L:=[(203,_)]) ?_ rfl (impl_turnPoints.ok e4) (fun κ=>cond (Nat.beq κ 204) 100 (κ)) (qc rO (qd qn)) ⟨rfl,trivial⟩ ⟨rfl,trivial⟩ ⟨rfl,trivial⟩ rfl
 refine fB 2 D82_2 (k:=lI T2 (k:=fB 3 D82_3 (k:=lI T2 (k:=?_))))
 obtain ⟨t5,e6,H⟩:=bo H
 refine a_call (v := .c (.own 205 t5.length)) (nk:=[(205,.row 143 (t5.map c142))]) (L:=[(204,_)]) ?_ rfl (impl_shifted.ok e6) (fun κ=>cond (Nat.beq κ 205) 100 (κ)) (qc rO (qd (qd qn))) ⟨rfl,trivial⟩ ⟨rfl,trivial⟩ ⟨rfl,trivial⟩ rfl
 refine mW (k:=?_)
 refine RA.nil (fun _=>by kernel_rfl) ?_
 refine rt ?_
 cases H
 exact RetP.mk (fun κ=>cond (Nat.beq κ 100) 205 (κ)) ⟨rfl,trivial⟩ ⟨rfl,trivial⟩ rfl
def impl_TurnGrain.j0:Nat→Int→Int→Bool→Option (Int×Int)
 | 0,_,_,_=>none
 | k+1,x0,x1,x13=>if x13=true then (some (0,2)) else (if x1 > 3 then (some (Int.tmod (wrap64 ((wrap64 (180 - x0))+(wrap64 (90*x1)))) 180,0)) else (some (Int.tmod (wrap64 (x0+(wrap64 (90*x1)))) 180,0)))
def impl_TurnGrain.f (k:Nat) (a0 a1:Int):Option (Int×Int):=(impl_within.f a0 0 179).bind fun t1=>(if t1=true then ((impl_within.f a1 0 7).bind fun t4=>(impl_TurnGrain.j0 k a0 a1 (!t4))) else (impl_TurnGrain.j0 k a0 a1 true))
theorem impl_TurnGrain.ok {k:Nat} {a0 a1 r0 r1:Int} (H:impl_TurnGrain.f k a0 a1=some (r0,r1)):OkF Tryz.prog 85 [vI a0,vI a1] [] (.tup [.c (.d (.v (.int .i64 r0))),.c (.d (.v (.int .i64 r1)))]) []:=by
 unfold impl_TurnGrain.f at H
 refine OkF.of (N:=23) (rs:=[4,5]) (avs:=[.c (.d (.v (.int .i64 r0))),.c (.d (.v (.int .i64 r1)))]) Tryz.func85 rfl rfl (fun _ _=>results_tmp2 rfl _ _ _) (by decide) rfl rfl rfl rfl (fun w0 S=>?_)
 refine s2 (mI (k:=mI (k:=nl (sq (sq ?_)))))
 refine AG.joinR (fun s=>∃ q,q≤k∧∃ x0 x1 x13,impl_TurnGrain.j0 q x0 x1 x13=some (r0,r1)∧s=St.of [(0,vI x0),(1,vI x1),(13,vB x13)] []) ?_ ?_
 ·skip
  refine rg (mI (k:=?_))
  obtain ⟨t1,e2,H⟩:=bo H
  refine cr rfl (impl_within.ok e2) (qd (qd (qd qn))) (k:=uN (k:=mB (k:=?_)))
  rcases ei H with ⟨h3,H⟩|⟨h3,H⟩
  ·iterate 3 refine sk (cn (bf h3)) (k:=?_)
   refine pB (cn (bf h3)) (k:=nl ?_)
   exact CanR.mk id ⟨_,(by omega),_,_,_,H,rfl⟩ ⟨rfl,rfl,rfl,trivial⟩ trivial rfl
  refine mI (hg:=gy (cn h3)) (k:=?_)
  obtain ⟨t4,e5,H⟩:=bo H
  refine cr rfl (impl_within.ok e5) (qd (qd (qd qn))) (hg:=gy (cn h3)) (k:=uN (hg:=gy (cn h3)) (k:=qB (cn h3) (k:=nl ?_)))
  exact CanR.mk id ⟨_,(by omega),_,_,_,H,rfl⟩ ⟨rfl,rfl,rfl,trivial⟩ trivial rfl
 clear H
 rintro _ ⟨k,hj0,x0,x1,x13,H,rfl⟩
 rcases k with _|k
 cases H
 rw [impl_TurnGrain.j0] at H
 rcases ie H with ⟨h6,H⟩|⟨h6,H⟩
 ·refine ay h6 ?_
  refine s2 (mI (k:=mI (k:=nl (rt ?_))))
  simp only [Option.some.injEq,Prod.mk.injEq] at H
  obtain ⟨rfl,rfl⟩:=H
  exact RetP.mk id ⟨rfl,rfl,trivial⟩ trivial rfl
 refine an (bf h6) ?_
 refine sp (sq (s2 (mI (k:=iG (k:=nl ?_)))))
 rcases ei H with ⟨h7,H⟩|⟨h7,H⟩
 ·refine an (df h7) ?_
  refine sp (s2 (mI (k:=mI (k:=iM (k:=iA (k:=jr (r:=Int.tmod (wrap64 (x0+(wrap64 (90*x1)))) 180) (show ¬ (180:Int)=0 from by decide) (k:=mI (k:=mI (k:=nl (rt ?_))))))))))
  simp only [Option.some.injEq,Prod.mk.injEq] at H
  obtain ⟨rfl,rfl⟩:=H
  exact RetP.mk id ⟨rfl,rfl,trivial⟩ trivial rfl
 refine ay (dt h7) ?_
 refine rg (mI (k:=iS (k:=mI (k:=nl (s2 (mI (k:=mI (k:=iM (k:=iA (k:=jr (r:=Int.tmod (wrap64 ((wrap64 (180 - x0))+(wrap64 (90*x1)))) 180) (show ¬ (180:Int)=0 from by decide) (k:=mI (k:=mI (k:=nl (rt ?_))))))))))))))
 simp only [Option.some.injEq,Prod.mk.injEq] at H
 obtain ⟨rfl,rfl⟩:=H
 exact RetP.mk id ⟨rfl,rfl,trivial⟩ trivial rfl
def impl_GrainAngle.f (a0 a1:Int):Option (Int×Int):=(impl_within.f a0 0 179).bind fun t1=>(if t1=true then ((impl_within.f a1 0 179).bind fun t4=>(if t4=true then (some (mn (mx (wrap64 (a0 - a1)) (wrap64 (a1 - a0))) (wrap64 (180 - (mx (wrap64 (a0 - a1)) (wrap64 (a1 - a0))))),0)) else (some (0,2)))) else (some (0,2)))
theorem impl_GrainAngle.ok {a0 a1 r0 r1:Int} (H:impl_GrainAngle.f a0 a1=some (r0,r1)):OkF Tryz.prog 86 [vI a0,vI a1] [] (.tup [.c (.d (.v (.int .i64 r0))),.c (.d (.v (.int .i64 r1)))]) []:=by
 unfold impl_GrainAngle.f at H
 refine OkF.of (N:=26) (rs:=[4,5]) (avs:=[.c (.d (.v (.int .i64 r0))),.c (.d (.v (.int .i64 r1)))]) Tryz.func86 rfl rfl (fun _ _=>results_tmp2 rfl _ _ _) (by decide) rfl rfl rfl rfl (fun w0 S=>?_)
 refine s2 (mI (k:=mI (k:=nl (sq (s2 (mI (k:=?_)))))))
 obtain ⟨t1,e2,H⟩:=bo H
 refine cr rfl (impl_within.ok e2) (qd (qd (qd qn))) (k:=uN (k:=mB (k:=?_)))
 rcases ei H with ⟨h3,H⟩|⟨h3,H⟩
 ·iterate 3 refine sk (cn (bf h3)) (k:=?_)
  refine pB (cn (bf h3)) (k:=nl ?_)
  refine ay rfl ?_
  refine s2 (mI (k:=mI (k:=nl (rt ?_))))
  simp only [Option.some.injEq,Prod.mk.injEq] at H
  obtain ⟨rfl,rfl⟩:=H
  exact RetP.mk id ⟨rfl,rfl,trivial⟩ trivial rfl
 refine mI (hg:=gy (cn h3)) (k:=?_)
 obtain ⟨t4,e5,H⟩:=bo H
 refine cr rfl (impl_within.ok e5) (qd (qd (qd qn))) (hg:=gy (cn h3)) (k:=uN (hg:=gy (cn h3)) (k:=qB (cn h3) (k:=nl ?_)))
 rcases ei H with ⟨h6,H⟩|⟨h6,H⟩
 ·refine ay (cn (bf h6)) ?_
  refine s2 (mI (k:=mI (k:=nl (rt ?_))))
  simp only [Option.some.injEq,Prod.mk.injEq] at H
  obtain ⟨rfl,rfl⟩:=H
  exact RetP.mk id ⟨rfl,rfl,trivial⟩ trivial rfl
 refine an (cn h6) ?_
 refine sp (s2 (mI (k:=mI (k:=iS (k:=mI (k:=mI (k:=iS (k:=jm (mx:=true) (r:=mx (wrap64 (a0 - a1)) (wrap64 (a1 - a0))) (k:=mI (k:=nl (s2 (mI (k:=mI (k:=iS (k:=jm (mx:=false) (r:=mn (mx (wrap64 (a0 - a1)) (wrap64 (a1 - a0))) (wrap64 (180 - (mx (wrap64 (a0 - a1)) (wrap64 (a1 - a0)))))) (k:=mI (k:=mI (k:=nl (rt ?_)))))))))))))))))))
 simp only [Option.some.injEq,Prod.mk.injEq] at H
 obtain ⟨rfl,rfl⟩:=H
 exact RetP.mk id ⟨rfl,rfl,trivial⟩ trivial rfl
def impl_veneerFault.f (k:Nat) (a0_0:ByteArray) (a0_1 a0_2:Int) (a1_0 a1_1:ByteArray) (a1_2:Int) (a1_3:ByteArray) (a1_4 a1_5 a1_6 a1_7:Int) (l1_8:List S146) (a2 a3_0 a3_1 a3_2 a3_3:Int):Option (Int):=(impl_TurnGrain.f k a1_5 a2).bind fun bt1=>((impl_GrainAngle.f bt1.1 a0_2).bind fun bt4=>(if a0_0.toList=a1_3.toList then (if (mx (wrap64 (a0_1 - a1_4)) (wrap64 (a1_4 - a0_1))) > a3_3 then (some 3) else (if bt4.1 > a3_2 then (some 4) else (some 0))) else (some 2)))
theorem impl_veneerFault.ok {k:Nat} {a0_0:ByteArray} {a0_1 a0_2:Int} {a1_0 a1_1:ByteArray} {a1_2:Int} {a1_3:ByteArray} {a1_4 a1_5 a1_6 a1_7:Int} {l1_8:List S146} {a2 a3_0 a3_1 a3_2 a3_3 r:Int} (H:impl_veneerFault.f k a0_0 a0_1 a0_2 a1_0 a1_1 a1_2 a1_3 a1_4 a1_5 a1_6 a1_7 l1_8 a2 a3_0 a3_1 a3_2 a3_3=some r):OkF Tryz.prog 48 [.agg [cS a0_0,cI a0_1,cI a0_2],.agg [cS a1_0,cS a1_1,cI a1_2,cS a1_3,cI a1_4,cI a1_5,cI a1_6,cI a1_7,.d (.row 147 (l1_8.map c146))],vI a2,.agg [cI a3_0,cI a3_1,cI a3_2,cI a3_3]] [] (vI r) []:=by
 unfold impl_veneerFault.f at H
 refine o1 57 8 Tryz.func48 fun w0 S=>?_
 refine s2 (jb 200 (k:=jb 201 (k:=jb 202 (k:=mI (k:=nl (s2 (fB 3 D79_3 (k:=fB 5 D76_2 (k:=lI T2 (k:=mI (k:=?_)))))))))))
 obtain ⟨⟨t1,t2⟩,e3,H⟩:=bo H
 refine cl (.tup [.c (.d (.v (.int .i64 t1))),.c (.d (.v (.int .i64 t2)))]) rfl (impl_TurnGrain.ok e3) (qd (qd qn)) (k:=mv (.tup [_,_]) (k:=xI (k:=xI (k:=mI (k:=mI (k:=nl (s2 (mI (k:=fB 2 D76_2 (k:=lI T2 (k:=?_)))))))))))
 obtain ⟨⟨t4,t5⟩,e6,H⟩:=bo H
 refine cl (.tup [.c (.d (.v (.int .i64 t4))),.c (.d (.v (.int .i64 t5)))]) rfl (impl_GrainAngle.ok e6) (qd (qd qn)) (k:=mv (.tup [_,_]) (k:=xI (k:=xI (k:=mI (k:=mI (k:=nl (sq (bk (s2 (fB 0 D76_0 (k:=lv (vS _) T9 (k:=fB 3 D79_3 (k:=fB 3 D76_0 (k:=lv (vS _) T9 (k:=bB (!(a0_0.toList == a1_3.toList)) (k:=mB (k:=nl ?_)))))))))))))))))
 rcases ei H with ⟨h7,H⟩|⟨h7,H⟩
 ·refine AG.yes rfl (by rw [bn h7]; rfl) ?_
  cases H
  exact s2 (mI (k:=nl (rt r1)))
 refine AG.no rfl (by rw [bq h7]; rfl) ?_
 refine s2 (fB 1 D76_1 (k:=lI T2 (k:=fB 3 D79_3 (k:=fB 4 D76_1 (k:=lI T2 (k:=iS (k:=fB 3 D79_3 (k:=fB 4 D76_1 (k:=lI T2 (k:=fB 1 D76_1 (k:=lI T2 (k:=iS (k:=jm (mx:=true) (r:=mx (wrap64 (a0_1 - a1_4)) (wrap64 (a1_4 - a0_1))) (k:=fB 3 D49_3 (k:=lI T2 (k:=iG (k:=mB (k:=nl ?_))))))))))))))))))
 rcases ie H with ⟨h8,H⟩|⟨h8,H⟩
 ·refine ay (dt h8) ?_
  cases H
  exact s2 (mI (k:=nl (rt r1)))
 refine an (df h8) ?_
 refine s2 (mI (k:=fB 2 D49_2 (k:=lI T2 (k:=iG (k:=mB (k:=nl ?_))))))
 rcases ie H with ⟨h9,H⟩|⟨h9,H⟩
 ·refine ay (dt h9) ?_
  cases H
  exact s2 (mI (k:=nl (rt r1)))
 refine an (df h9) ?_
 cases H
 exact sp (s2 (mI (k:=nl (rt r1))))
def slices_Clone_Point.f (l0:List S142):Option (List S142):=if l0.length*16≤140737488355328 then some l0 else none
theorem slices_Clone_Point.ok {l0 r:List S142} (H:slices_Clone_Point.f l0=some r):OkF Tryz.prog 157 [.c (.d (.row 143 (l0.map c142)))] [] (.c (.own 100 r.length)) [(100,.row 143 (r.map c142))]:=by
 unfold slices_Clone_Point.f at H
 by_cases h:l0.length*16≤140737488355328
 ·rw [if_pos h] at H
  cases H
  have g:=Go.Proofs.YticimffljcljoaaGreat.CloneP.clone_okF (l0.map fun x=>(x.f0,x.f1)) (by rw [List.length_map]; exact h)
  rw [List.length_map,List.map_map] at g
  exact g
 rw [if_neg h] at H
 cases H
def impl_inTriangle.f (a0_0 a0_1 a1_0 a1_1 a2_0 a2_1 a3_0 a3_1:Int):Option (Bool):=(impl_side.f a0_0 a0_1 a1_0 a1_1 a3_0 a3_1).bind fun t1=>(if t1≥0 then ((impl_side.f a1_0 a1_1 a2_0 a2_1 a3_0 a3_1).bind fun t4=>(if t4≥0 then ((impl_side.f a2_0 a2_1 a0_0 a0_1 a3_0 a3_1).bind fun t7=>(some (decide (t7≥0)))) else (some false))) else (some false))
theorem impl_inTriangle.ok {a0_0 a0_1 a1_0 a1_1 a2_0 a2_1 a3_0 a3_1:Int} {r:Bool} (H:impl_inTriangle.f a0_0 a0_1 a1_0 a1_1 a2_0 a2_1 a3_0 a3_1=some r):OkF Tryz.prog 178 [.agg [cI a0_0,cI a0_1],.agg [cI a1_0,cI a1_1],.agg [cI a2_0,cI a2_1],.agg [cI a3_0,cI a3_1]] [] (vB r) []:=by
 unfold impl_inTriangle.f at H
 refine o1 28 8 Tryz.func178 fun w0 S=>?_
 refine s2 (jb 200 (k:=jb 201 (k:=jb 202 (k:=jb 203 (k:=mB (k:=nl (s2 (lP T143 (k:=lP T143 (k:=lP T143 (k:=?_)))))))))))
 obtain ⟨t1,e2,H⟩:=bo H
 refine cr rfl (impl_side.ok e2) (qg (qg (qg qn))) (k:=iE (k:=mB (k:=?_)))
 rcases ei H with ⟨h3,H⟩|⟨h3,H⟩
 ·iterate 5 refine sk (df h3) (k:=?_)
  refine qB (df h3) (k:=mB (k:=?_))
  iterate 5 refine sk rfl (k:=?_)
  cases H
  exact qB rfl (k:=mB (k:=nl (rt r1)))
 refine lP T143 (hg:=gy (dt h3)) (k:=lP T143 (hg:=gy (dt h3)) (k:=lP T143 (hg:=gy (dt h3)) (k:=?_)))
 obtain ⟨t4,e5,H⟩:=bo H
 refine cr rfl (impl_side.ok e5) (qg (qg (qg qn))) (hg:=gy (dt h3)) (k:=iE (hg:=gy (dt h3)) (k:=pB (dt h3) (k:=mB (k:=?_))))
 rcases ei H with ⟨h6,H⟩|⟨h6,H⟩
 ·iterate 5 refine sk (df h6) (k:=?_)
  cases H
  exact qB (df h6) (k:=mB (k:=nl (rt r1)))
 refine lP T143 (hg:=gy (dt h6)) (k:=lP T143 (hg:=gy (dt h6)) (k:=lP T143 (hg:=gy (dt h6)) (k:=?_)))
 obtain ⟨t7,e8,H⟩:=bo H
 cases H
 exact cr rfl (impl_side.ok e8) (qg (qg (qg qn))) (hg:=gy (dt h6)) (k:=iE (hg:=gy (dt h6)) (k:=pB (dt h6) (k:=mB (k:=nl (rt r1)))))
def impl_ear.l0:Nat→Int→Int→Int→Int→Int→Int→Int→Int→List S142→Int→Int→Option (Bool)
 | 0,_,_,_,_,_,_,_,_,_,_,_=>none
 | k+1,x1,x5,y204_0,y204_1,y205_0,y205_1,y206_0,y206_1,x38,x39,x40=>if x40 < x39 then (if 0≤x40 then (if x40 < (x38.length:Int) then (if x40=x1 then (impl_ear.l0 k x1 x5 y204_0 y204_1 y205_0 y205_1 y206_0 y206_1 x38 x39 (wrap64 (x40+1))) else (if x5=0 then (none) else (if x40=(Int.tmod (wrap64 ((wrap64 (x1+x5)) - 1)) x5) then (impl_ear.l0 k x1 x5 y204_0 y204_1 y205_0 y205_1 y206_0 y206_1 x38 x39 (wrap64 (x40+1))) else (if x40=(Int.tmod (wrap64 (x1+1)) x5) then (impl_ear.l0 k x1 x5 y204_0 y204_1 y205_0 y205_1 y206_0 y206_1 x38 x39 (wrap64 (x40+1))) else ((impl_inTriangle.f y204_0 y204_1 y205_0 y205_1 y206_0 y206_1 ((rd142 x38 x40).f0) ((rd142 x38 x40).f1)).bind fun t18=>(if t18=true then (some false) else (impl_ear.l0 k x1 x5 y204_0 y204_1 y205_0 y205_1 y206_0 y206_1 x38 x39 (wrap64 (x40+1))))))))) else (none)) else (none)) else (some true)
def impl_ear.f (k:Nat) (l0:List S142) (a1:Int):Option (Bool):=if (l0.length:Int)=0 then (none) else (if 0≤(Int.tmod (wrap64 ((wrap64 (a1+(l0.length:Int))) - 1)) (l0.length:Int)) then (if (Int.tmod (wrap64 ((wrap64 (a1+(l0.length:Int))) - 1)) (l0.length:Int)) < (l0.length:Int) then (if 0≤a1 then (if a1 < (l0.length:Int) then (if 0≤(Int.tmod (wrap64 (a1+1)) (l0.length:Int)) then (if (Int.tmod (wrap64 (a1+1)) (l0.length:Int)) < (l0.length:Int) then ((impl_side.f ((rd142 l0 (Int.tmod (wrap64 ((wrap64 (a1+(l0.length:Int))) - 1)) (l0.length:Int))).f0) ((rd142 l0 (Int.tmod (wrap64 ((wrap64 (a1+(l0.length:Int))) - 1)) (l0.length:Int))).f1) ((rd142 l0 a1).f0) ((rd142 l0 a1).f1) ((rd142 l0 (Int.tmod (wrap64 (a1+1)) (l0.length:Int))).f0) ((rd142 l0 (Int.tmod (wrap64 (a1+1)) (l0.length:Int))).f1)).bind fun t8=>(if t8=1 then (impl_ear.l0 k a1 (l0.length:Int) ((rd142 l0 (Int.tmod (wrap64 ((wrap64 (a1+(l0.length:Int))) - 1)) (l0.length:Int))).f0) ((rd142 l0 (Int.tmod (wrap64 ((wrap64 (a1+(l0.length:Int))) - 1)) (l0.length:Int))).f1) ((rd142 l0 a1).f0) ((rd142 l0 a1).f1) ((rd142 l0 (Int.tmod (wrap64 (a1+1)) (l0.length:Int))).f0) ((rd142 l0 (Int.tmod (wrap64 (a1+1)) (l0.length:Int))).f1) l0 (l0.length:Int) 0) else (some false))) else (none)) else (none)) else (none)) else (none)) else (none)) else (none))
theorem impl_ear.ok {k:Nat} {l0:List S142} {a1:Int} {r:Bool} (H:impl_ear.f k l0 a1=some r):OkF Tryz.prog 158 [vR 143 (l0.map c142),vI a1] [] (vB r) []:=by
 unfold impl_ear.f at H
 refine o1 74 4 Tryz.func158 fun w0 S=>?_
 refine s2 (mB (k:=nl (s2 (mR (k:=jl Tryz.underlying37 (k:=mI (k:=nl (s2 (mR (k:=mI (k:=mI (k:=iA (k:=iS (k:=mI (k:=?_)))))))))))))))
 obtain ⟨h1,H⟩:=oi H
 refine jr (r:=Int.tmod (wrap64 ((wrap64 (a1+(l0.length:Int))) - 1)) (l0.length:Int)) h1 (k:=?_)
 obtain ⟨h2,H⟩:=io H
 obtain ⟨h3,H⟩:=io H
 refine ixx ⟨h2,h3⟩ T143 Tryz.underlying37 (R142 h2 h3) (k:=oP T143 (k:=mR (k:=mI (k:=?_))))
 obtain ⟨h4,H⟩:=io H
 obtain ⟨h5,H⟩:=io H
 refine ixx ⟨h4,h5⟩ T143 Tryz.underlying37 (R142 h4 h5) (k:=oP T143 (k:=mR (k:=mI (k:=iA (k:=mI (k:=jr (r:=Int.tmod (wrap64 (a1+1)) (l0.length:Int)) h1 (k:=?_)))))))
 obtain ⟨h6,H⟩:=io H
 obtain ⟨h7,H⟩:=io H
 refine ixx ⟨h6,h7⟩ T143 Tryz.underlying37 (R142 h6 h7) (k:=oP T143 (k:=aP 200 T143 (k:=aP 201 T143 (k:=aP 202 T143 (k:=sP T143 (k:=sP T143 (k:=sP T143 (k:=?_))))))))
 refine RA.nil (fun _=>by kernel_rfl) ?_
 refine sq (s2 (lP T143 (k:=lP T143 (k:=lP T143 (k:=?_)))))
 obtain ⟨t8,e9,H⟩:=bo H
 refine cr rfl (impl_side.ok e9) (qg (qg (qg qn))) (k:=iNe (k:=nl ?_))
 rcases ei H with ⟨h10,H⟩|⟨h10,H⟩
 ·refine ay (nn h10) ?_
  cases H
  exact s2 (mB (k:=nl (rt r1)))
 refine an (nq h10) ?_
 refine sp (sq (s2 (mR (k:=jl Tryz.underlying37 (k:=mI (k:=nl (bk (lp ?_))))))))
 obtain ⟨K0,hK0,gK0⟩:=kk k
 refine AGr.canon (fun κ=>cond (Nat.beq κ 204) 200 (cond (Nat.beq κ 205) 201 (cond (Nat.beq κ 206) 202 (κ)))) (AGr.loopI (n:=k) (fun k s=>k≤K0∧∃ x1 x5 y204_0 y204_1 y205_0 y205_1 y206_0 y206_1 x38 x39 x40,impl_ear.l0 k x1 x5 y204_0 y204_1 y205_0 y205_1 y206_0 y206_1 x38 x39 x40=some r∧s=St.of [(1,vI x1),(5,vI x5),(6,.c (.ptr 204 0)),(7,.c (.ptr 205 0)),(8,.c (.ptr 206 0)),(38,vR 143 (x38.map c142)),(39,vI x39),(40,vI x40)] [(204,.box 143 [.d (.v (.int .i64 y204_0)),.d (.v (.int .i64 y204_1))]),(205,.box 143 [.d (.v (.int .i64 y205_0)),.d (.v (.int .i64 y205_1))]),(206,.box 143 [.d (.v (.int .i64 y206_0)),.d (.v (.int .i64 y206_1))])]) ⟨hK0,_,_,_,_,_,_,_,_,_,_,_,H,rfl⟩ ?_ ?_) ⟨rfl,rfl,rfl,rfl,rfl,rfl,rfl,rfl,trivial⟩ ⟨rfl,rfl,rfl,trivial⟩ rfl
 ·rintro _ ⟨_,_,_,_,_,_,_,_,_,_,_,_,H,_⟩
  cases H
 clear H hK0
 rintro k ih0 _ ⟨hK0,x1,x5,y204_0,y204_1,y205_0,y205_1,y206_0,y206_1,x38,x39,x40,H,rfl⟩
 unfold impl_ear.l0 at H
 refine s2 (iL (k:=nl (sq ?_)))
 rcases ei H with ⟨h11,H⟩|⟨h11,H⟩
 ·refine an (df h11) ?_
  cases H
  exact ex (s2 (mB (k:=nl (rt r1))))
 refine ay (dt h11) ?_
 refine sp (sq (bk (s2 (mI (k:=?_)))))
 obtain ⟨h12,H⟩:=io H
 obtain ⟨h13,H⟩:=io H
 refine ixx ⟨h12,h13⟩ T143 Tryz.underlying37 (R142 h12 h13) (k:=oP T143 (k:=aP 207 T143 (k:=mI (k:=sP T143 (k:=nl (s2 (mI (k:=mI (k:=iNe (k:=mB (k:=?_)))))))))))
 rcases ie H with ⟨h14,H⟩|⟨h14,H⟩
 ·iterate 8 refine sk (nq h14) (k:=?_)
  refine qB (nq h14) (k:=mB (k:=?_))
  iterate 6 refine sk rfl (k:=?_)
  refine qB rfl (k:=mB (k:=?_))
  iterate 5 refine sk rfl (k:=?_)
  refine qB rfl (k:=nl ?_)
  refine an rfl ?_
  refine sp (rg (iA (k:=mI (k:=nl ?_))))
  exact AGr.canon id (ih0 _ (by omega) _ ⟨by omega,_,_,_,_,_,_,_,_,_,_,_,H,rfl⟩) ⟨rfl,rfl,rfl,rfl,rfl,rfl,rfl,rfl,trivial⟩ ⟨rfl,rfl,rfl,trivial⟩ rfl
 refine mI (hg:=gy (nn h14)) (k:=mI (hg:=gy (nn h14)) (k:=mI (hg:=gy (nn h14)) (k:=iA (hg:=gy (nn h14)) (k:=iS (hg:=gy (nn h14)) (k:=mI (hg:=gy (nn h14)) (k:=?_))))))
 obtain ⟨h15,H⟩:=oi H
 refine jr (r:=Int.tmod (wrap64 ((wrap64 (x1+x5)) - 1)) x5) h15 (hg:=gy (nn h14)) (k:=iNe (hg:=gy (nn h14)) (k:=pB (nn h14) (k:=mB (k:=?_))))
 rcases ie H with ⟨h16,H⟩|⟨h16,H⟩
 ·iterate 6 refine sk (nq h16) (k:=?_)
  refine qB (nq h16) (k:=mB (k:=?_))
  iterate 5 refine sk rfl (k:=?_)
  refine qB rfl (k:=nl ?_)
  refine an rfl ?_
  refine sp (rg (iA (k:=mI (k:=nl ?_))))
  exact AGr.canon id (ih0 _ (by omega) _ ⟨by omega,_,_,_,_,_,_,_,_,_,_,_,H,rfl⟩) ⟨rfl,rfl,rfl,rfl,rfl,rfl,rfl,rfl,trivial⟩ ⟨rfl,rfl,rfl,trivial⟩ rfl
 refine mI (hg:=gy (nn h16)) (k:=mI (hg:=gy (nn h16)) (k:=iA (hg:=gy (nn h16)) (k:=mI (hg:=gy (nn h16)) (k:=jr (r:=Int.tmod (wrap64 (x1+1)) x5) h15 (hg:=gy (nn h16)) (k:=iNe (hg:=gy (nn h16)) (k:=pB (nn h16) (k:=mB (k:=?_))))))))
 rcases ie H with ⟨h17,H⟩|⟨h17,H⟩
 ·iterate 5 refine sk (nq h17) (k:=?_)
  refine qB (nq h17) (k:=nl ?_)
  refine an rfl ?_
  refine sp (rg (iA (k:=mI (k:=nl ?_))))
  exact AGr.canon id (ih0 _ (by omega) _ ⟨by omega,_,_,_,_,_,_,_,_,_,_,_,H,rfl⟩) ⟨rfl,rfl,rfl,rfl,rfl,rfl,rfl,rfl,trivial⟩ ⟨rfl,rfl,rfl,trivial⟩ rfl
 refine lP T143 (hg:=gy (nn h17)) (k:=lP T143 (hg:=gy (nn h17)) (k:=lP T143 (hg:=gy (nn h17)) (k:=lP T143 (hg:=gy (nn h17)) (k:=?_))))
 obtain ⟨t18,e19,H⟩:=bo H
 refine cr rfl (impl_inTriangle.ok e19) (qg (qg (qg (qg qn)))) (hg:=gy (nn h17)) (k:=pB (nn h17) (k:=nl ?_))
 rcases ie H with ⟨h20,H⟩|⟨h20,H⟩
 ·refine ay h20 ?_
  cases H
  exact s2 (mB (k:=nl (rt r1)))
 refine an (bf h20) ?_
 refine sp (rg (iA (k:=mI (k:=nl ?_))))
 exact AGr.canon id (ih0 _ (by omega) _ ⟨by omega,_,_,_,_,_,_,_,_,_,_,_,H,rfl⟩) ⟨rfl,rfl,rfl,rfl,rfl,rfl,rfl,rfl,trivial⟩ ⟨rfl,rfl,rfl,trivial⟩ rfl
def slices_Delete_Point.f (l0:List S142) (a1 a2:Int):Option (List S142):=if 0≤a1∧a1 < (l0.length:Int)∧a2=a1+1 then some (l0.take a1.toNat++l0.drop (a1.toNat+1)) else none
theorem slices_Delete_Point.ok {l0 r:List S142} {a1 a2:Int} (H:slices_Delete_Point.f l0 a1 a2=some r):OkN Tryz.prog 159 143 a1 a2 (l0.map c142) (r.map c142):=by
 unfold slices_Delete_Point.f at H
 by_cases h:0≤a1∧a1 < (l0.length:Int)∧a2=a1+1
 ·rw [if_pos h] at H
  cases H
  obtain ⟨h0,h1,rfl⟩:=h
  have g:=Go.Proofs.YticimffljcljoaaGreat.DeleteP.del_okN (l0.map fun x=>(x.f0,x.f1)) a1 h0 (by rw [List.length_map]; exact h1)
  rw [← List.map_take,← List.map_drop,← List.map_append,List.map_map,List.map_map] at g
  exact g
 rw [if_neg h] at H
 cases H
mutual
def impl_triangles.l0:Nat→List (List S142)→List S142→Option ((List (List S142)))
 | 0,_,_=>none
 | k+1,x3,x4=>if (x4.length:Int) > 3 then (impl_triangles.l1 k x3 x4 (x4.length:Int) (-1) (x4.length:Int) 0) else (if x3.length < 5864062014805 then (some (x3++[x4])) else (none))
def impl_triangles.l1:Nat→List (List S142)→List S142→Int→Int→Int→Int→Option ((List (List S142)))
 | 0,_,_,_,_,_,_=>none
 | k+1,x3,x4,x5,x6,x17,x18=>if x18 < x17 then ((impl_ear.f k x4 x18).bind fun t6=>(if t6=true then (if x18 < 0 then (some x3) else (if x5=0 then (none) else (if 0≤(Int.tmod (wrap64 ((wrap64 (x18+x5)) - 1)) x5) then (if (Int.tmod (wrap64 ((wrap64 (x18+x5)) - 1)) x5) < (x4.length:Int) then (if 0≤x18 then (if x18 < (x4.length:Int) then (if 0≤(Int.tmod (wrap64 (x18+1)) x5) then (if (Int.tmod (wrap64 (x18+1)) x5) < (x4.length:Int) then (if x3.length < 5864062014805 then ((slices_Delete_Point.f x4 x18 (wrap64 (x18+1))).bind fun t19=>(impl_triangles.l0 k (x3++[[(⟨(rd142 x4 (Int.tmod (wrap64 ((wrap64 (x18+x5)) - 1)) x5)).f0,(rd142 x4 (Int.tmod (wrap64 ((wrap64 (x18+x5)) - 1)) x5)).f1⟩:S142),(⟨(rd142 x4 x18).f0,(rd142 x4 x18).f1⟩:S142),(⟨(rd142 x4 (Int.tmod (wrap64 (x18+1)) x5)).f0,(rd142 x4 (Int.tmod (wrap64 (x18+1)) x5)).f1⟩:S142)]]) t19)) else (none)) else (none)) else (none)) else (none)) else (none)) else (none)) else (none)))) else (impl_triangles.l1 k x3 x4 x5 x6 x17 (wrap64 (x18+1))))) else (if x6 < 0 then (some x3) else (if x5=0 then (none) else (if 0≤(Int.tmod (wrap64 ((wrap64 (x6+x5)) - 1)) x5) then (if (Int.tmod (wrap64 ((wrap64 (x6+x5)) - 1)) x5) < (x4.length:Int) then (if 0≤x6 then (if x6 < (x4.length:Int) then (if 0≤(Int.tmod (wrap64 (x6+1)) x5) then (if (Int.tmod (wrap64 (x6+1)) x5) < (x4.length:Int) then (if x3.length < 5864062014805 then ((slices_Delete_Point.f x4 x6 (wrap64 (x6+1))).bind fun t31=>(impl_triangles.l0 k (x3++[[(⟨(rd142 x4 (Int.tmod (wrap64 ((wrap64 (x6+x5)) - 1)) x5)).f0,(rd142 x4 (Int.tmod (wrap64 ((wrap64 (x6+x5)) - 1)) x5)).f1⟩:S142),(⟨(rd142 x4 x6).f0,(rd142 x4 x6).f1⟩:S142),(⟨(rd142 x4 (Int.tmod (wrap64 (x6+1)) x5)).f0,(rd142 x4 (Int.tmod (wrap64 (x6+1)) x5)).f1⟩:S142)]]) t31)) else (none)) else (none)) else (none)) else (none)) else (none)) else (none)) else (none))))
end
def impl_triangles.f (k:Nat) (l0:List S142):Option ((List (List S142))):=(slices_Clone_Point.f l0).bind fun t2=>(impl_triangles.l0 k (([]:List (List S142))) t2)
theorem impl_triangles.ok {k:Nat} {l0:List S142} {r:List (List S142)} (H:impl_triangles.f k l0=some r):OkF Tryz.prog 126 [vR 143 (l0.map c142)] [] (.c (.own 100 r.length)) [(100,.row 37 (r.map c37))]:=by
 unfold impl_triangles.f at H
 refine o1 62 2 Tryz.func126 fun w0 S=>?_
 refine s2 (jn (e:=37) 200 T37 (k:=nl (s2 ?_)))
 refine a_lit (cs:=[]) (D:=[]) (css:=(([]:List (List S142))).map c37) 201 ?_ N96 T37 (hcss:=by rfl)
 refine mR (k:=?_)
 obtain ⟨t2,e3,H⟩:=bo H
 refine a_call (v := .c (.own 202 t2.length)) (nk:=[(202,.row 143 (t2.map c142))]) (L:=[]) ?_ rfl (slices_Clone_Point.ok e3) (fun κ=>cond (Nat.beq κ 202) 100 (κ)) (qd qn) trivial ⟨rfl,trivial⟩ ⟨rfl,trivial⟩ rfl
 refine mW (k:=mW (k:=nl (sq (bk (lp ?_)))))
 obtain ⟨K0,hK0,gK0⟩:=kk k
 refine AGr.canon (fun κ=>cond (Nat.beq κ 203) 201 (cond (Nat.beq κ 204) 202 (κ))) (AGr.loopI (n:=k) (fun k s=>k≤K0∧∃ x3 x4,impl_triangles.l0 k x3 x4=some r∧s=St.of [(3,.c (.own 203 x3.length)),(4,.c (.own 204 x4.length))] [(203,.row 37 (x3.map c37)),(204,.row 143 (x4.map c142))]) ⟨hK0,_,_,H,rfl⟩ ?_ ?_) ⟨(ownE rfl (by simp)),rfl,trivial⟩ ⟨rfl,rfl,trivial⟩ rfl
 ·rintro _ ⟨_,_,_,H,_⟩
  cases H
 clear H hK0
 rintro k ih0 _ ⟨hK0,x3,x4,H,rfl⟩
 unfold impl_triangles.l0 at H
 refine sq (s2 (mW (k:=jo Tryz.underlying37 (k:=iG (k:=nl ?_)))))
 rcases ei H with ⟨h4,H⟩|⟨h4,H⟩
 ·refine an (df h4) ?_
  refine ex (s2 (mW (k:=mW (k:=?_))))
  refine a_lit (cs:=[_]) (D:=[204]) (css:=([x4]).map c37) 205 ?_ N96 T37
  obtain ⟨h33,H⟩:=io H
  refine a_appO (css':=(x3++[x4]).map c37) (n':=(x3++[x4]).length) ?_ T37 (by simp [maxLen]; omega) (by simp; omega) Tryz.underlying96 (hc:=by exact List.map_append.symm) (hn:=by exact List.length_map _)
  refine mW (k:=nl (rt ?_))
  cases H
  exact RetP.mk (fun κ=>cond (Nat.beq κ 100) 203 (κ)) ⟨rfl,trivial⟩ ⟨rfl,trivial⟩ rfl
 refine ay (dt h4) ?_
 refine sp (bk (s2 (mW (k:=jo Tryz.underlying37 (k:=mI (k:=mI (k:=nl (sq (s2 (mW (k:=jo Tryz.underlying37 (k:=mI (k:=nl (bk (lp ?_)))))))))))))))
 obtain ⟨K1,hK1,gK1⟩:=kk k
 refine AGr.canon (fun κ=>cond (Nat.beq κ 206) 203 (cond (Nat.beq κ 207) 204 (κ))) (AGr.loopI (n:=k) (fun k s=>k≤K1∧∃ x3 x4 x5 x6 x17 x18,impl_triangles.l1 k x3 x4 x5 x6 x17 x18=some r∧s=St.of [(3,.c (.own 206 x3.length)),(4,.c (.own 207 x4.length)),(5,vI x5),(6,vI x6),(17,vI x17),(18,vI x18)] [(206,.row 37 (x3.map c37)),(207,.row 143 (x4.map c142))]) ⟨hK1,_,_,_,_,_,_,H,rfl⟩ ?_ ?_) ⟨rfl,rfl,rfl,rfl,rfl,rfl,trivial⟩ ⟨rfl,rfl,trivial⟩ rfl
 ·rintro _ ⟨_,_,_,_,_,_,_,H,_⟩
  cases H
 clear H hK1
 rintro k ih1 _ ⟨hK1,x3,x4,x5,x6,x17,x18,H,rfl⟩
 unfold impl_triangles.l1 at H
 refine s2 (iL (k:=nl (sq ?_)))
 rcases ei H with ⟨h5,H⟩|⟨h5,H⟩
 ·refine an (df h5) ?_
  refine ex (sq (s2 (mI (k:=iL (k:=nl ?_)))))
  rcases ie H with ⟨h21,H⟩|⟨h21,H⟩
  ·refine ay (dt h21) ?_
   refine s2 (mW (k:=mW (k:=nl (rt ?_))))
   cases H
   exact RetP.mk (fun κ=>cond (Nat.beq κ 100) 206 (κ)) ⟨rfl,trivial⟩ ⟨rfl,trivial⟩ rfl
  refine an (df h21) ?_
  refine sp (s2 (mW (k:=mW (k:=mI (k:=mI (k:=iA (k:=iS (k:=mI (k:=?_)))))))))
  obtain ⟨h22,H⟩:=oi H
  refine jr (r:=Int.tmod (wrap64 ((wrap64 (x6+x5)) - 1)) x5) h22 (k:=?_)
  obtain ⟨h23,H⟩:=io H
  obtain ⟨h24,H⟩:=io H
  refine ji ⟨h23,h24⟩ T143 Tryz.underlying37 (k:=eP (G142 h23 h24) T143 (k:=mW (k:=mI (k:=?_))))
  obtain ⟨h25,H⟩:=io H
  obtain ⟨h26,H⟩:=io H
  refine ji ⟨h25,h26⟩ T143 Tryz.underlying37 (k:=eP (G142 h25 h26) T143 (k:=mW (k:=mI (k:=iA (k:=mI (k:=jr (r:=Int.tmod (wrap64 (x6+1)) x5) h22 (k:=?_)))))))
  obtain ⟨h27,H⟩:=io H
  obtain ⟨h28,H⟩:=io H
  refine ji ⟨h27,h28⟩ T143 Tryz.underlying37 (k:=eP (G142 h27 h28) T143 (k:=?_))
  refine a_lit (cs:=[_,_,_,_,_,_]) (D:=[]) (css:=([(⟨(rd142 x4 (Int.tmod (wrap64 ((wrap64 (x6+x5)) - 1)) x5)).f0,(rd142 x4 (Int.tmod (wrap64 ((wrap64 (x6+x5)) - 1)) x5)).f1⟩:S142),(⟨(rd142 x4 x6).f0,(rd142 x4 x6).f1⟩:S142),(⟨(rd142 x4 (Int.tmod (wrap64 (x6+1)) x5)).f0,(rd142 x4 (Int.tmod (wrap64 (x6+1)) x5)).f1⟩:S142)]).map c142) 209 ?_ N37 T143
  refine a_lit (cs:=[_]) (D:=[209]) (css:=([[(⟨(rd142 x4 (Int.tmod (wrap64 ((wrap64 (x6+x5)) - 1)) x5)).f0,(rd142 x4 (Int.tmod (wrap64 ((wrap64 (x6+x5)) - 1)) x5)).f1⟩:S142),(⟨(rd142 x4 x6).f0,(rd142 x4 x6).f1⟩:S142),(⟨(rd142 x4 (Int.tmod (wrap64 (x6+1)) x5)).f0,(rd142 x4 (Int.tmod (wrap64 (x6+1)) x5)).f1⟩:S142)]]).map c37) 210 ?_ N96 T37
  obtain ⟨h29,H⟩:=io H
  refine a_appO (css':=(x3++[[(⟨(rd142 x4 (Int.tmod (wrap64 ((wrap64 (x6+x5)) - 1)) x5)).f0,(rd142 x4 (Int.tmod (wrap64 ((wrap64 (x6+x5)) - 1)) x5)).f1⟩:S142),(⟨(rd142 x4 x6).f0,(rd142 x4 x6).f1⟩:S142),(⟨(rd142 x4 (Int.tmod (wrap64 (x6+1)) x5)).f0,(rd142 x4 (Int.tmod (wrap64 (x6+1)) x5)).f1⟩:S142)]]).map c37) (n':=(x3++[[(⟨(rd142 x4 (Int.tmod (wrap64 ((wrap64 (x6+x5)) - 1)) x5)).f0,(rd142 x4 (Int.tmod (wrap64 ((wrap64 (x6+x5)) - 1)) x5)).f1⟩:S142),(⟨(rd142 x4 x6).f0,(rd142 x4 x6).f1⟩:S142),(⟨(rd142 x4 (Int.tmod (wrap64 (x6+1)) x5)).f0,(rd142 x4 (Int.tmod (wrap64 (x6+1)) x5)).f1⟩:S142)]]).length) ?_ T37 (by simp [maxLen]; omega) (by simp; omega) Tryz.underlying96 (hc:=by exact List.map_append.symm) (hn:=by exact List.length_map _)
  refine mW (k:=?_)
  refine RA.nil (fun _=>by kernel_rfl) ?_
  refine rg (mW (k:=mI (k:=mI (k:=iA (k:=?_)))))
  obtain ⟨t31,e32,H⟩:=bo H
  refine a_callQ (css':=t31.map c142) (n':=t31.length) ?_ rfl (slices_Delete_Point.ok e32) (hn:=by exact List.length_map _)
  refine mW (k:=nl ?_)
  exact AGr.canon (fun κ=>cond (Nat.beq κ 203) 206 (cond (Nat.beq κ 204) 207 (κ))) (ih0 _ (by omega) _ ⟨by omega,_,_,H,rfl⟩) ⟨rfl,rfl,trivial⟩ ⟨rfl,rfl,trivial⟩ rfl
 refine ay (dt h5) ?_
 refine sp (sq (bk (s2 (mI (k:=mI (k:=nl (s2 (mW (k:=mI (k:=?_))))))))))
 obtain ⟨t6,e7,H⟩:=bo H
 refine a_call (v:=vB t6) (nk:=[]) (L:=[(207,_)]) ?_ rfl (impl_ear.ok e7) id (qc rO (qd qn)) ⟨rfl,trivial⟩ trivial trivial rfl
 refine nl ?_
 rcases ei H with ⟨h8,H⟩|⟨h8,H⟩
 ·refine an (bf h8) ?_
  refine sp (rg (iA (k:=mI (k:=nl ?_))))
  exact AGr.canon id (ih1 _ (by omega) _ ⟨by omega,_,_,_,_,_,_,H,rfl⟩) ⟨rfl,rfl,rfl,rfl,rfl,rfl,trivial⟩ ⟨rfl,rfl,trivial⟩ rfl
 refine ay h8 ?_
 refine s2 (mI (k:=mI (k:=nl (ex (sq (s2 (mI (k:=iL (k:=nl ?_)))))))))
 rcases ie H with ⟨h9,H⟩|⟨h9,H⟩
 ·refine ay (dt h9) ?_
  refine s2 (mW (k:=mW (k:=nl (rt ?_))))
  cases H
  exact RetP.mk (fun κ=>cond (Nat.beq κ 100) 206 (κ)) ⟨rfl,trivial⟩ ⟨rfl,trivial⟩ rfl
 refine an (df h9) ?_
 refine sp (s2 (mW (k:=mW (k:=mI (k:=mI (k:=iA (k:=iS (k:=mI (k:=?_)))))))))
 obtain ⟨h10,H⟩:=oi H
 refine jr (r:=Int.tmod (wrap64 ((wrap64 (x18+x5)) - 1)) x5) h10 (k:=?_)
 obtain ⟨h11,H⟩:=io H
 obtain ⟨h12,H⟩:=io H
 refine ji ⟨h11,h12⟩ T143 Tryz.underlying37 (k:=eP (G142 h11 h12) T143 (k:=mW (k:=mI (k:=?_))))
 obtain ⟨h13,H⟩:=io H
 obtain ⟨h14,H⟩:=io H
 refine ji ⟨h13,h14⟩ T143 Tryz.underlying37 (k:=eP (G142 h13 h14) T143 (k:=mW (k:=mI (k:=iA (k:=mI (k:=jr (r:=Int.tmod (wrap64 (x18+1)) x5) h10 (k:=?_)))))))
 obtain ⟨h15,H⟩:=io H
 obtain ⟨h16,H⟩:=io H
 refine ji ⟨h15,h16⟩ T143 Tryz.underlying37 (k:=eP (G142 h15 h16) T143 (k:=?_))
 refine a_lit (cs:=[_,_,_,_,_,_]) (D:=[]) (css:=([(⟨(rd142 x4 (Int.tmod (wrap64 ((wrap64 (x18+x5)) - 1)) x5)).f0,(rd142 x4 (Int.tmod (wrap64 ((wrap64 (x18+x5)) - 1)) x5)).f1⟩:S142),(⟨(rd142 x4 x18).f0,(rd142 x4 x18).f1⟩:S142),(⟨(rd142 x4 (Int.tmod (wrap64 (x18+1)) x5)).f0,(rd142 x4 (Int.tmod (wrap64 (x18+1)) x5)).f1⟩:S142)]).map c142) 209 ?_ N37 T143
 refine a_lit (cs:=[_]) (D:=[209]) (css:=([[(⟨(rd142 x4 (Int.tmod (wrap64 ((wrap64 (x18+x5)) - 1)) x5)).f0,(rd142 x4 (Int.tmod (wrap64 ((wrap64 (x18+x5)) - 1)) x5)).f1⟩:S142),(⟨(rd142 x4 x18).f0,(rd142 x4 x18).f1⟩:S142),(⟨(rd142 x4 (Int.tmod (wrap64 (x18+1)) x5)).f0,(rd142 x4 (Int.tmod (wrap64 (x18+1)) x5)).f1⟩:S142)]]).map c37) 210 ?_ N96 T37
 obtain ⟨h17,H⟩:=io H
 refine a_appO (css':=(x3++[[(⟨(rd142 x4 (Int.tmod (wrap64 ((wrap64 (x18+x5)) - 1)) x5)).f0,(rd142 x4 (Int.tmod (wrap64 ((wrap64 (x18+x5)) - 1)) x5)).f1⟩:S142),(⟨(rd142 x4 x18).f0,(rd142 x4 x18).f1⟩:S142),(⟨(rd142 x4 (Int.tmod (wrap64 (x18+1)) x5)).f0,(rd142 x4 (Int.tmod (wrap64 (x18+1)) x5)).f1⟩:S142)]]).map c37) (n':=(x3++[[(⟨(rd142 x4 (Int.tmod (wrap64 ((wrap64 (x18+x5)) - 1)) x5)).f0,(rd142 x4 (Int.tmod (wrap64 ((wrap64 (x18+x5)) - 1)) x5)).f1⟩:S142),(⟨(rd142 x4 x18).f0,(rd142 x4 x18).f1⟩:S142),(⟨(rd142 x4 (Int.tmod (wrap64 (x18+1)) x5)).f0,(rd142 x4 (Int.tmod (wrap64 (x18+1)) x5)).f1⟩:S142)]]).length) ?_ T37 (by simp [maxLen]; omega) (by simp; omega) Tryz.underlying96 (hc:=by exact List.map_append.symm) (hn:=by exact List.length_map _)
 refine mW (k:=?_)
 refine RA.nil (fun _=>by kernel_rfl) ?_
 refine rg (mW (k:=mI (k:=mI (k:=iA (k:=?_)))))
 obtain ⟨t19,e20,H⟩:=bo H
 refine a_callQ (css':=t19.map c142) (n':=t19.length) ?_ rfl (slices_Delete_Point.ok e20) (hn:=by exact List.length_map _)
 refine mW (k:=nl ?_)
 exact AGr.canon (fun κ=>cond (Nat.beq κ 203) 206 (cond (Nat.beq κ 204) 207 (κ))) (ih0 _ (by omega) _ ⟨by omega,_,_,H,rfl⟩) ⟨rfl,rfl,trivial⟩ ⟨rfl,rfl,trivial⟩ rfl
mutual
def impl_beside.l0:Nat→List S142→List S142→Int→Int→Option (Bool)
 | 0,_,_,_,_=>none
 | k+1,x0,x1,x10,x11=>if x11 < x10 then (impl_beside.l1 k x0 x1 x11 true x10 x11 x1 (x1.length:Int) 0) else (some false)
def impl_beside.l1:Nat→List S142→List S142→Int→Bool→Int→Int→List S142→Int→Int→Option (Bool)
 | 0,_,_,_,_,_,_,_,_,_=>none
 | k+1,x0,x1,x5,x6,x10,x11,x14,x15,x16=>if x16 < x15 then (if 0≤x16 then (if x16 < (x14.length:Int) then (if x6=true then (if 0≤x5 then (if x5 < (x0.length:Int) then (if 0≤(Int.tmod (wrap64 (x5+1)) 3) then (if (Int.tmod (wrap64 (x5+1)) 3) < (x0.length:Int) then ((impl_side.f ((rd142 x0 x5).f0) ((rd142 x0 x5).f1) ((rd142 x0 (Int.tmod (wrap64 (x5+1)) 3)).f0) ((rd142 x0 (Int.tmod (wrap64 (x5+1)) 3)).f1) ((rd142 x14 x16).f0) ((rd142 x14 x16).f1)).bind fun t10=>(impl_beside.l1 k x0 x1 x5 (decide (t10≤0)) x10 x11 x14 x15 (wrap64 (x16+1)))) else (none)) else (none)) else (none)) else (none)) else (impl_beside.l1 k x0 x1 x5 false x10 x11 x14 x15 (wrap64 (x16+1)))) else (none)) else (none)) else (if x6=true then (some true) else (impl_beside.l0 k x0 x1 x10 (wrap64 (x11+1))))
end
def impl_beside.f (k:Nat) (l0 l1:List S142):Option (Bool):=impl_beside.l0 k l0 l1 (l0.length:Int) 0
theorem impl_beside.ok {k:Nat} {l0 l1:List S142} {r:Bool} (H:impl_beside.f k l0 l1=some r):OkF Tryz.prog 127 [vR 143 (l0.map c142),vR 143 (l1.map c142)] [] (vB r) []:=by
 unfold impl_beside.f at H
 refine o1 39 4 Tryz.func127 fun w0 S=>?_
 refine s2 (mB (k:=nl (sq (s2 (mR (k:=jl Tryz.underlying37 (k:=mI (k:=nl (bk (lp ?_))))))))))
 obtain ⟨K0,hK0,gK0⟩:=kk k
 refine AGr.canon id (AGr.loopI (n:=k) (fun k s=>k≤K0∧∃ x0 x1 x10 x11,impl_beside.l0 k x0 x1 x10 x11=some r∧s=St.of [(0,vR 143 (x0.map c142)),(1,vR 143 (x1.map c142)),(10,vI x10),(11,vI x11)] []) ⟨hK0,_,_,_,_,H,rfl⟩ ?_ ?_) ⟨rfl,rfl,rfl,rfl,trivial⟩ trivial rfl
 ·rintro _ ⟨_,_,_,_,_,H,_⟩
  cases H
 clear H hK0
 rintro k ih0 _ ⟨hK0,x0,x1,x10,x11,H,rfl⟩
 unfold impl_beside.l0 at H
 refine s2 (iL (k:=nl (sq ?_)))
 rcases ei H with ⟨h1,H⟩|⟨h1,H⟩
 ·refine an (df h1) ?_
  cases H
  exact ex (s2 (mB (k:=nl (rt r1))))
 refine ay (dt h1) ?_
 refine sp (sq (bk (s2 (mI (k:=mI (k:=nl (s2 (mB (k:=nl (sq (s2 (mR (k:=jl Tryz.underlying37 (k:=mI (k:=nl (bk (lp ?_)))))))))))))))))
 obtain ⟨K1,hK1,gK1⟩:=kk k
 refine AGr.canon id (AGr.loopI (n:=k) (fun k s=>k≤K1∧∃ x0 x1 x5 x6 x10 x11 x14 x15 x16,impl_beside.l1 k x0 x1 x5 x6 x10 x11 x14 x15 x16=some r∧s=St.of [(0,vR 143 (x0.map c142)),(1,vR 143 (x1.map c142)),(5,vI x5),(6,vB x6),(10,vI x10),(11,vI x11),(14,vR 143 (x14.map c142)),(15,vI x15),(16,vI x16)] []) ⟨hK1,_,_,_,_,_,_,_,_,_,H,rfl⟩ ?_ ?_) ⟨rfl,rfl,rfl,rfl,rfl,rfl,rfl,rfl,rfl,trivial⟩ trivial rfl
 ·rintro _ ⟨_,_,_,_,_,_,_,_,_,_,H,_⟩
  cases H
 clear H hK1
 rintro k ih1 _ ⟨hK1,x0,x1,x5,x6,x10,x11,x14,x15,x16,H,rfl⟩
 unfold impl_beside.l1 at H
 refine s2 (iL (k:=nl (sq ?_)))
 rcases ei H with ⟨h2,H⟩|⟨h2,H⟩
 ·refine an (df h2) ?_
  refine ex (s2 (mB (k:=nl ?_)))
  rcases ie H with ⟨h12,H⟩|⟨h12,H⟩
  ·refine ay h12 ?_
   cases H
   exact s2 (mB (k:=nl (rt r1)))
  refine an (bf h12) ?_
  refine sp (rg (iA (k:=mI (k:=nl ?_))))
  exact AGr.canon id (ih0 _ (by omega) _ ⟨by omega,_,_,_,_,H,rfl⟩) ⟨rfl,rfl,rfl,rfl,trivial⟩ trivial rfl
 refine ay (dt h2) ?_
 refine sp (sq (bk (s2 ?_)))
 obtain ⟨h3,H⟩:=io H
 obtain ⟨h4,H⟩:=io H
 refine ixx ⟨h3,h4⟩ T143 Tryz.underlying37 (R142 h3 h4) (k:=oP T143 (k:=aP 200 T143 (k:=sP T143 (k:=nl (rg (mB (k:=mB (k:=?_))))))))
 rcases ei H with ⟨h5,H⟩|⟨h5,H⟩
 ·iterate 13 refine sk (bf h5) (k:=?_)
  refine qB (bf h5) (k:=mB (k:=?_))
  refine RA.nil (fun _=>by kernel_rfl) ?_
  refine rg (iA (k:=mI (k:=nl ?_)))
  exact AGr.canon id (ih1 _ (by omega) _ ⟨by omega,_,_,_,_,_,_,_,_,_,H,rfl⟩) ⟨rfl,rfl,rfl,rfl,rfl,rfl,rfl,rfl,rfl,trivial⟩ trivial rfl
 refine mR (hg:=gy h5) (k:=mI (hg:=gy h5) (k:=?_))
 obtain ⟨h6,H⟩:=io H
 obtain ⟨h7,H⟩:=io H
 refine ixx ⟨h6,h7⟩ T143 Tryz.underlying37 (R142 h6 h7) (hg:=gy h5) (k:=oP T143 (hg:=gy h5) (k:=mR (hg:=gy h5) (k:=mI (hg:=gy h5) (k:=iA (hg:=gy h5) (k:=jr (r:=Int.tmod (wrap64 (x5+1)) 3) (show ¬ (3:Int)=0 from by decide) (hg:=gy h5) (k:=?_))))))
 obtain ⟨h8,H⟩:=io H
 obtain ⟨h9,H⟩:=io H
 refine ixx ⟨h8,h9⟩ T143 Tryz.underlying37 (R142 h8 h9) (hg:=gy h5) (k:=oP T143 (hg:=gy h5) (k:=lP T143 (hg:=gy h5) (k:=?_)))
 obtain ⟨t10,e11,H⟩:=bo H
 refine cr rfl (impl_side.ok e11) (qg (qg (qg qn))) (hg:=gy h5) (k:=iQ (hg:=gy h5) (k:=pB h5 (k:=mB (k:=?_))))
 refine RA.nil (fun _=>by kernel_rfl) ?_
 refine rg (iA (k:=mI (k:=nl ?_)))
 exact AGr.canon id (ih1 _ (by omega) _ ⟨by omega,_,_,_,_,_,_,_,_,_,H,rfl⟩) ⟨rfl,rfl,rfl,rfl,rfl,rfl,rfl,rfl,rfl,trivial⟩ trivial rfl
mutual
def impl_apart.j0:Nat→List S142→List S142→Bool→Option (Bool)
 | 0,_,_,_=>none
 | k+1,x0,x1,x49=>if x49=true then (some true) else ((impl_triangles.f k x1).bind fun t15=>((impl_triangles.f k x0).bind fun t16=>(impl_apart.l0 k t15 t16 (t16.length:Int) 0)))
def impl_apart.l0:Nat→List (List S142)→List (List S142)→Int→Int→Option (Bool)
 | 0,_,_,_,_=>none
 | k+1,x9,x53,x54,x55=>if x55 < x54 then (if 0≤x55 then (if x55 < (x53.length:Int) then (impl_apart.l1 k x9 (rd37 x53 x55) x53 x54 x55 x9 (x9.length:Int) 0) else (none)) else (none)) else (some true)
def impl_apart.l1:Nat→List (List S142)→List S142→List (List S142)→Int→Int→List (List S142)→Int→Int→Option (Bool)
 | 0,_,_,_,_,_,_,_,_=>none
 | k+1,x9,x11,x53,x54,x55,x59,x60,x61=>if x61 < x60 then (if 0≤x61 then (if x61 < (x59.length:Int) then ((impl_beside.f k x11 (rd37 x59 x61)).bind fun t23=>(if t23=true then (impl_apart.l1 k x9 x11 x53 x54 x55 x59 x60 (wrap64 (x61+1))) else ((impl_beside.f k (rd37 x59 x61) x11).bind fun t26=>(if t26=true then (impl_apart.l1 k x9 x11 x53 x54 x55 x59 x60 (wrap64 (x61+1))) else (some false))))) else (none)) else (none)) else (impl_apart.l0 k x9 x53 x54 (wrap64 (x55+1)))
end
def impl_apart.f (k:Nat) (l0 l1:List S142):Option (Bool):=(impl_bounds.f k l0).bind fun bt1=>((impl_bounds.f k l1).bind fun bt6=>(if bt1.2.2.1≤bt6.1 then (impl_apart.j0 k l0 l1 true) else (if bt6.2.2.1≤bt1.1 then (impl_apart.j0 k l0 l1 true) else (if bt1.2.2.2≤bt6.2.1 then (impl_apart.j0 k l0 l1 true) else (impl_apart.j0 k l0 l1 (decide (bt6.2.2.2≤bt1.2.1)))))))
theorem impl_apart.ok {k:Nat} {l0 l1:List S142} {r:Bool} (H:impl_apart.f k l0 l1=some r):OkF Tryz.prog 88 [vR 143 (l0.map c142),vR 143 (l1.map c142)] [] (vB r) []:=by
 unfold impl_apart.f at H
 refine o1 77 4 Tryz.func88 fun w0 S=>?_
 refine s2 (mB (k:=nl (s2 (mR (k:=?_)))))
 obtain ⟨⟨t1,t2,t3,t4⟩,e5,H⟩:=bo H
 refine cl (.tup [.agg [.d (.v (.int .i64 t1)),.d (.v (.int .i64 t2))],.agg [.d (.v (.int .i64 t3)),.d (.v (.int .i64 t4))]]) rfl (impl_bounds.ok e5) (qd qn) (k:=mv (.tup [_,_]) (k:=xP (k:=xP (k:=aP 201 T143 (k:=aP 202 T143 (k:=sP T143 (k:=sP T143 (k:=nl (s2 (mR (k:=?_)))))))))))
 obtain ⟨⟨t6,t7,t8,t9⟩,e10,H⟩:=bo H
 refine cl (.tup [.agg [.d (.v (.int .i64 t6)),.d (.v (.int .i64 t7))],.agg [.d (.v (.int .i64 t8)),.d (.v (.int .i64 t9))]]) rfl (impl_bounds.ok e10) (qd qn) (k:=mv (.tup [_,_]) (k:=xP (k:=xP (k:=aP 204 T143 (k:=aP 205 T143 (k:=sP T143 (k:=sP T143 (k:=nl (sq (sq ?_))))))))))
 refine AG.joinR (fun s=>∃ q,q≤k∧∃ x0 x1 x49,impl_apart.j0 q x0 x1 x49=some r∧s=St.of [(0,vR 143 (x0.map c142)),(1,vR 143 (x1.map c142)),(49,vB x49)] []) ?_ ?_
 ·skip
  refine rg (fB 0 D143_0 (k:=lI T2 (k:=fB 0 D143_0 (k:=lI T2 (k:=iQ (k:=mB (k:=?_)))))))
  rcases ie H with ⟨h11,H⟩|⟨h11,H⟩
  ·iterate 5 refine sk (dt h11) (k:=?_)
   refine pB (dt h11) (k:=mB (k:=?_))
   iterate 5 refine sk rfl (k:=?_)
   refine pB rfl (k:=mB (k:=?_))
   iterate 5 refine sk rfl (k:=?_)
   refine pB rfl (k:=nl ?_)
   exact CanR.mk id ⟨_,(by omega),_,_,_,H,rfl⟩ ⟨rfl,rfl,rfl,trivial⟩ trivial rfl
  refine fB 0 D143_0 (hg:=gy (df h11)) (k:=lI T2 (hg:=gy (df h11)) (k:=fB 0 D143_0 (hg:=gy (df h11)) (k:=lI T2 (hg:=gy (df h11)) (k:=iQ (hg:=gy (df h11)) (k:=qB (df h11) (k:=mB (k:=?_)))))))
  rcases ie H with ⟨h12,H⟩|⟨h12,H⟩
  ·iterate 5 refine sk (dt h12) (k:=?_)
   refine pB (dt h12) (k:=mB (k:=?_))
   iterate 5 refine sk rfl (k:=?_)
   refine pB rfl (k:=nl ?_)
   exact CanR.mk id ⟨_,(by omega),_,_,_,H,rfl⟩ ⟨rfl,rfl,rfl,trivial⟩ trivial rfl
  refine fB 1 D143_1 (hg:=gy (df h12)) (k:=lI T2 (hg:=gy (df h12)) (k:=fB 1 D143_1 (hg:=gy (df h12)) (k:=lI T2 (hg:=gy (df h12)) (k:=iQ (hg:=gy (df h12)) (k:=qB (df h12) (k:=mB (k:=?_)))))))
  rcases ie H with ⟨h13,H⟩|⟨h13,H⟩
  ·iterate 5 refine sk (dt h13) (k:=?_)
   refine pB (dt h13) (k:=nl ?_)
   exact CanR.mk id ⟨_,(by omega),_,_,_,H,rfl⟩ ⟨rfl,rfl,rfl,trivial⟩ trivial rfl
  refine fB 1 D143_1 (hg:=gy (df h13)) (k:=lI T2 (hg:=gy (df h13)) (k:=fB 1 D143_1 (hg:=gy (df h13)) (k:=lI T2 (hg:=gy (df h13)) (k:=iQ (hg:=gy (df h13)) (k:=qB (df h13) (k:=nl ?_))))))
  exact CanR.mk id ⟨_,(by omega),_,_,_,H,rfl⟩ ⟨rfl,rfl,rfl,trivial⟩ trivial rfl
 clear H
 rintro _ ⟨k,hj0,x0,x1,x49,H,rfl⟩
 rcases k with _|k
 cases H
 rw [impl_apart.j0] at H
 rcases ie H with ⟨h14,H⟩|⟨h14,H⟩
 ·refine ay h14 ?_
  cases H
  exact s2 (mB (k:=nl (rt r1)))
 refine an (bf h14) ?_
 refine sp (s2 (mR (k:=?_)))
 obtain ⟨t15,et15,H⟩:=bo H
 refine a_callF (L:=[]) ?_ rfl (impl_triangles.ok et15) (qd qn) trivial
 refine mR (k:=nl (sq (s2 (mR (k:=?_)))))
 obtain ⟨t16,et16,H⟩:=bo H
 refine a_callF (L:=[]) ?_ rfl (impl_triangles.ok et16) (qd qn) trivial
 refine jl Tryz.underlying96 (k:=mI (k:=nl (bk (lp ?_))))
 obtain ⟨K0,hK0,gK0⟩:=kk k
 refine AGr.canon id (AGr.loopI (n:=k) (fun k s=>k≤K0∧∃ x9 x53 x54 x55,impl_apart.l0 k x9 x53 x54 x55=some r∧s=St.of [(9,vR 37 (x9.map c37)),(53,vR 37 (x53.map c37)),(54,vI x54),(55,vI x55)] []) ⟨hK0,_,_,_,_,H,rfl⟩ ?_ ?_) ⟨rfl,rfl,rfl,rfl,trivial⟩ trivial rfl
 ·rintro _ ⟨_,_,_,_,_,H,_⟩
  cases H
 clear H hK0
 rintro k ih0 _ ⟨hK0,x9,x53,x54,x55,H,rfl⟩
 unfold impl_apart.l0 at H
 refine s2 (iL (k:=nl (sq ?_)))
 rcases ei H with ⟨h17,H⟩|⟨h17,H⟩
 ·refine an (df h17) ?_
  cases H
  exact ex (s2 (mB (k:=nl (rt r1))))
 refine ay (dt h17) ?_
 refine sp (sq (bk (s2 ?_)))
 obtain ⟨h18,H⟩:=io H
 obtain ⟨h19,H⟩:=io H
 refine ixx ⟨h18,h19⟩ T37 Tryz.underlying96 (R37 h18 h19) (k:=oR T37 (k:=mR (k:=nl (s2 (mR (k:=jl Tryz.underlying96 (k:=mI (k:=nl (bk (lp ?_))))))))))
 obtain ⟨K1,hK1,gK1⟩:=kk k
 refine AGr.canon id (AGr.loopI (n:=k) (fun k s=>k≤K1∧∃ x9 x11 x53 x54 x55 x59 x60 x61,impl_apart.l1 k x9 x11 x53 x54 x55 x59 x60 x61=some r∧s=St.of [(9,vR 37 (x9.map c37)),(11,vR 143 (x11.map c142)),(53,vR 37 (x53.map c37)),(54,vI x54),(55,vI x55),(59,vR 37 (x59.map c37)),(60,vI x60),(61,vI x61)] []) ⟨hK1,_,_,_,_,_,_,_,_,H,rfl⟩ ?_ ?_) ⟨rfl,rfl,rfl,rfl,rfl,rfl,rfl,rfl,trivial⟩ trivial rfl
 ·rintro _ ⟨_,_,_,_,_,_,_,_,_,H,_⟩
  cases H
 clear H hK1
 rintro k ih1 _ ⟨hK1,x9,x11,x53,x54,x55,x59,x60,x61,H,rfl⟩
 unfold impl_apart.l1 at H
 refine s2 (iL (k:=nl (sq ?_)))
 rcases ei H with ⟨h20,H⟩|⟨h20,H⟩
 ·refine an (df h20) ?_
  refine ex (rg (iA (k:=mI (k:=nl ?_))))
  exact AGr.canon id (ih0 _ (by omega) _ ⟨by omega,_,_,_,_,H,rfl⟩) ⟨rfl,rfl,rfl,rfl,trivial⟩ trivial rfl
 refine ay (dt h20) ?_
 refine sp (sq (bk (s2 ?_)))
 obtain ⟨h21,H⟩:=io H
 obtain ⟨h22,H⟩:=io H
 refine ixx ⟨h21,h22⟩ T37 Tryz.underlying96 (R37 h21 h22) (k:=oR T37 (k:=mR (k:=nl (s2 (mR (k:=mR (k:=?_)))))))
 obtain ⟨t23,e24,H⟩:=bo H
 refine cr rfl (impl_beside.ok e24) (qd (qd qn)) (k:=uN (k:=mB (k:=?_)))
 rcases ie H with ⟨h25,H⟩|⟨h25,H⟩
 ·iterate 4 refine sk (cn h25) (k:=?_)
  refine qB (cn h25) (k:=nl ?_)
  refine an rfl ?_
  refine sp (rg (iA (k:=mI (k:=nl ?_))))
  exact AGr.canon id (ih1 _ (by omega) _ ⟨by omega,_,_,_,_,_,_,_,_,H,rfl⟩) ⟨rfl,rfl,rfl,rfl,rfl,rfl,rfl,rfl,trivial⟩ trivial rfl
 refine mR (hg:=gy (cn (bf h25))) (k:=mR (hg:=gy (cn (bf h25))) (k:=?_))
 obtain ⟨t26,e27,H⟩:=bo H
 refine cr rfl (impl_beside.ok e27) (qd (qd qn)) (hg:=gy (cn (bf h25))) (k:=uN (hg:=gy (cn (bf h25))) (k:=pB (cn (bf h25)) (k:=nl ?_)))
 rcases ei H with ⟨h28,H⟩|⟨h28,H⟩
 ·refine ay (cn (bf h28)) ?_
  cases H
  exact s2 (mB (k:=nl (rt r1)))
 refine an (cn h28) ?_
 refine sp (rg (iA (k:=mI (k:=nl ?_))))
 exact AGr.canon id (ih1 _ (by omega) _ ⟨by omega,_,_,_,_,_,_,_,_,H,rfl⟩) ⟨rfl,rfl,rfl,rfl,rfl,rfl,rfl,rfl,trivial⟩ trivial rfl
def impl_boxPolygon.f (a0_0 a0_1 a0_2 a0_3:Int):Option ((List S142)):=some ([(⟨a0_0,a0_1⟩:S142),(⟨wrap64 (a0_0+a0_2),a0_1⟩:S142),(⟨wrap64 (a0_0+a0_2),wrap64 (a0_1+a0_3)⟩:S142),(⟨a0_0,wrap64 (a0_1+a0_3)⟩:S142)])
theorem impl_boxPolygon.ok {a0_0 a0_1 a0_2 a0_3:Int} {r:List S142} (H:impl_boxPolygon.f a0_0 a0_1 a0_2 a0_3=some r):OkF Tryz.prog 89 [.agg [cI a0_0,cI a0_1,cI a0_2,cI a0_3]] [] (.c (.own 100 r.length)) [(100,.row 143 (r.map c142))]:=by
 unfold impl_boxPolygon.f at H
 refine o1 32 2 Tryz.func89 fun w0 S=>?_
 refine s2 (jb 200 (k:=jn (e:=143) 201 T143 (k:=nl (s2 (fB 0 D147_0 (k:=lI T2 (k:=fB 2 D147_2 (k:=lI T2 (k:=iA (k:=fB 1 D147_1 (k:=lI T2 (k:=fB 3 D147_3 (k:=lI T2 (k:=iA (k:=mI (k:=mI (k:=?_)))))))))))))))))
 refine RA.nil (fun _=>by kernel_rfl) ?_
 refine s2 (fB 0 D147_0 (k:=lI T2 (k:=fB 1 D147_1 (k:=lI T2 (k:=?_)))))
 refine a_build (cs:=[_,_]) ?_ T143 rfl (hin:=I143)
 refine mI (k:=fB 1 D147_1 (k:=lI T2 (k:=?_)))
 refine a_build (cs:=[_,_]) ?_ T143 rfl (hin:=I143)
 refine mI (k:=mI (k:=?_))
 refine a_build (cs:=[_,_]) ?_ T143 rfl (hin:=I143)
 refine fB 0 D147_0 (k:=lI T2 (k:=mI (k:=?_)))
 refine a_build (cs:=[_,_]) ?_ T143 rfl (hin:=I143)
 refine a_lit (cs:=[_,_,_,_,_,_,_,_]) (D:=[]) (css:=([(⟨a0_0,a0_1⟩:S142),(⟨wrap64 (a0_0+a0_2),a0_1⟩:S142),(⟨wrap64 (a0_0+a0_2),wrap64 (a0_1+a0_3)⟩:S142),(⟨a0_0,wrap64 (a0_1+a0_3)⟩:S142)]).map c142) 202 ?_ N37 T143 (hcss:=by rfl)
 refine mW (k:=nl (rt ?_))
 cases H
 exact RetP.mk (fun κ=>cond (Nat.beq κ 100) 202 (κ)) ⟨(ownE rfl (by simp)),trivial⟩ ⟨rfl,trivial⟩ rfl
mutual
def impl_leafFault.j0:Nat→List S142→List S146→Bool→Option (Int)
 | 0,_,_,_=>none
 | k+1,x0,y205_8,x47=>if x47=true then (some 5) else (impl_leafFault.l0 k x0 y205_8 (y205_8.length:Int) 0)
def impl_leafFault.l0:Nat→List S142→List S146→Int→Int→Option (Int)
 | 0,_,_,_,_=>none
 | k+1,x0,x49,x50,x51=>if x51 < x50 then (if 0≤x51 then (if x51 < (x49.length:Int) then ((impl_boxPolygon.f ((rd146 x49 x51).f0) ((rd146 x49 x51).f1) ((rd146 x49 x51).f2) ((rd146 x49 x51).f3)).bind fun t13=>((impl_apart.f k x0 t13).bind fun t15=>(if t15=true then (impl_leafFault.l0 k x0 x49 x50 (wrap64 (x51+1))) else (some 6)))) else (none)) else (none)) else (some 0)
end
def impl_leafFault.f (k:Nat) (l0:List S142) (a1_0 a1_1:ByteArray) (a1_2:Int) (a1_3:ByteArray) (a1_4 a1_5 a1_6 a1_7:Int) (l1_8:List S146) (a2_0 a2_1 a2_2 a2_3:Int):Option (Int):=(impl_bounds.f k l0).bind fun bt1=>(if bt1.1 < a2_1 then (impl_leafFault.j0 k l0 l1_8 true) else (if bt1.2.1 < a2_1 then (impl_leafFault.j0 k l0 l1_8 true) else (if bt1.2.2.1 > (wrap64 (a1_6 - a2_1)) then (impl_leafFault.j0 k l0 l1_8 true) else (impl_leafFault.j0 k l0 l1_8 (decide (bt1.2.2.2 > (wrap64 (a1_7 - a2_1))))))))
theorem impl_leafFault.ok {k:Nat} {l0:List S142} {a1_0 a1_1:ByteArray} {a1_2:Int} {a1_3:ByteArray} {a1_4 a1_5 a1_6 a1_7:Int} {l1_8:List S146} {a2_0 a2_1 a2_2 a2_3 r:Int} (H:impl_leafFault.f k l0 a1_0 a1_1 a1_2 a1_3 a1_4 a1_5 a1_6 a1_7 l1_8 a2_0 a2_1 a2_2 a2_3=some r):OkF Tryz.prog 49 [vR 143 (l0.map c142),.agg [cS a1_0,cS a1_1,cI a1_2,cS a1_3,cI a1_4,cI a1_5,cI a1_6,cI a1_7,.d (.row 147 (l1_8.map c146))],.agg [cI a2_0,cI a2_1,cI a2_2,cI a2_3]] [] (vI r) []:=by
 unfold impl_leafFault.f at H
 refine o1 61 6 Tryz.func49 fun w0 S=>?_
 refine s2 (jb 200 (k:=jb 201 (k:=mI (k:=nl (s2 (mR (k:=?_)))))))
 obtain ⟨⟨t1,t2,t3,t4⟩,e5,H⟩:=bo H
 refine cl (.tup [.agg [.d (.v (.int .i64 t1)),.d (.v (.int .i64 t2))],.agg [.d (.v (.int .i64 t3)),.d (.v (.int .i64 t4))]]) rfl (impl_bounds.ok e5) (qd qn) (k:=mv (.tup [_,_]) (k:=xP (k:=xP (k:=aP 203 T143 (k:=aP 204 T143 (k:=sP T143 (k:=sP T143 (k:=nl (sq (sq ?_))))))))))
 refine AG.joinR (fun s=>∃ q,q≤k∧∃ x0,∃ (y205_0:ByteArray),∃ (y205_1:ByteArray),∃ (y205_2:Int),∃ (y205_3:ByteArray),∃ (y205_4:Int),∃ (y205_5:Int),∃ (y205_6:Int),∃ (y205_7:Int),∃ y205_8 x47,impl_leafFault.j0 q x0 y205_8 x47=some r∧s=St.of [(0,vR 143 (x0.map c142)),(4,.c (.ptr 205 0)),(47,vB x47)] [(205,.box 79 [.d (.v (.string y205_0)),.d (.v (.string y205_1)),.d (.v (.int .i64 y205_2)),.d (.v (.string y205_3)),.d (.v (.int .i64 y205_4)),.d (.v (.int .i64 y205_5)),.d (.v (.int .i64 y205_6)),.d (.v (.int .i64 y205_7)),.d (.row 147 (y205_8.map c146))])]) ?_ ?_
 ·skip
  refine rg (fB 0 D143_0 (k:=lI T2 (k:=fB 1 D49_1 (k:=lI T2 (k:=iL (k:=mB (k:=?_)))))))
  rcases ie H with ⟨h6,H⟩|⟨h6,H⟩
  ·iterate 5 refine sk (dt h6) (k:=?_)
   refine pB (dt h6) (k:=mB (k:=?_))
   iterate 8 refine sk rfl (k:=?_)
   refine pB rfl (k:=mB (k:=?_))
   iterate 8 refine sk rfl (k:=?_)
   refine pB rfl (k:=nl ?_)
   exact CanR.mk (fun κ=>cond (Nat.beq κ 205) 200 (κ)) ⟨_,(by omega),_,_,_,_,_,_,_,_,_,_,_,H,rfl⟩ ⟨rfl,rfl,rfl,trivial⟩ ⟨rfl,trivial⟩ rfl
  refine fB 1 D143_1 (hg:=gy (df h6)) (k:=lI T2 (hg:=gy (df h6)) (k:=fB 1 D49_1 (hg:=gy (df h6)) (k:=lI T2 (hg:=gy (df h6)) (k:=iL (hg:=gy (df h6)) (k:=qB (df h6) (k:=mB (k:=?_)))))))
  rcases ie H with ⟨h7,H⟩|⟨h7,H⟩
  ·iterate 8 refine sk (dt h7) (k:=?_)
   refine pB (dt h7) (k:=mB (k:=?_))
   iterate 8 refine sk rfl (k:=?_)
   refine pB rfl (k:=nl ?_)
   exact CanR.mk (fun κ=>cond (Nat.beq κ 205) 200 (κ)) ⟨_,(by omega),_,_,_,_,_,_,_,_,_,_,_,H,rfl⟩ ⟨rfl,rfl,rfl,trivial⟩ ⟨rfl,trivial⟩ rfl
  refine fB 0 D143_0 (hg:=gy (df h7)) (k:=lI T2 (hg:=gy (df h7)) (k:=fB 6 D79_4 (hg:=gy (df h7)) (k:=lI T2 (hg:=gy (df h7)) (k:=fB 1 D49_1 (hg:=gy (df h7)) (k:=lI T2 (hg:=gy (df h7)) (k:=iS (hg:=gy (df h7)) (k:=iG (hg:=gy (df h7)) (k:=qB (df h7) (k:=mB (k:=?_))))))))))
  rcases ie H with ⟨h8,H⟩|⟨h8,H⟩
  ·iterate 8 refine sk (dt h8) (k:=?_)
   refine pB (dt h8) (k:=nl ?_)
   exact CanR.mk (fun κ=>cond (Nat.beq κ 205) 200 (κ)) ⟨_,(by omega),_,_,_,_,_,_,_,_,_,_,_,H,rfl⟩ ⟨rfl,rfl,rfl,trivial⟩ ⟨rfl,trivial⟩ rfl
  refine fB 1 D143_1 (hg:=gy (df h8)) (k:=lI T2 (hg:=gy (df h8)) (k:=fB 7 D79_5 (hg:=gy (df h8)) (k:=lI T2 (hg:=gy (df h8)) (k:=fB 1 D49_1 (hg:=gy (df h8)) (k:=lI T2 (hg:=gy (df h8)) (k:=iS (hg:=gy (df h8)) (k:=iG (hg:=gy (df h8)) (k:=qB (df h8) (k:=nl ?_)))))))))
  exact CanR.mk (fun κ=>cond (Nat.beq κ 205) 200 (κ)) ⟨_,(by omega),_,_,_,_,_,_,_,_,_,_,_,H,rfl⟩ ⟨rfl,rfl,rfl,trivial⟩ ⟨rfl,trivial⟩ rfl
 clear H
 rintro _ ⟨k,hj0,x0,y205_0,y205_1,y205_2,y205_3,y205_4,y205_5,y205_6,y205_7,y205_8,x47,H,rfl⟩
 rcases k with _|k
 cases H
 rw [impl_leafFault.j0] at H
 rcases ie H with ⟨h9,H⟩|⟨h9,H⟩
 ·refine ay h9 ?_
  cases H
  exact s2 (mI (k:=nl (rt r1)))
 refine an (bf h9) ?_
 refine sp (sq (s2 (fB 8 D79_6 (k:=lR T77 (k:=jl Tryz.underlying77 (k:=mI (k:=nl (bk (lp ?_)))))))))
 obtain ⟨K0,hK0,gK0⟩:=kk k
 refine AGr.canon id (AGr.loopI (n:=k) (fun k s=>k≤K0∧∃ x0 x49 x50 x51,impl_leafFault.l0 k x0 x49 x50 x51=some r∧s=St.of [(0,vR 143 (x0.map c142)),(49,vR 147 (x49.map c146)),(50,vI x50),(51,vI x51)] []) ⟨hK0,_,_,_,_,H,rfl⟩ ?_ ?_) ⟨rfl,rfl,rfl,rfl,trivial⟩ trivial rfl
 ·rintro _ ⟨_,_,_,_,_,H,_⟩
  cases H
 clear H hK0
 rintro k ih0 _ ⟨hK0,x0,x49,x50,x51,H,rfl⟩
 unfold impl_leafFault.l0 at H
 refine s2 (iL (k:=nl (sq ?_)))
 rcases ei H with ⟨h10,H⟩|⟨h10,H⟩
 ·refine an (df h10) ?_
  cases H
  exact ex (s2 (mI (k:=nl (rt r1))))
 refine ay (dt h10) ?_
 refine sp (sq (bk (s2 ?_)))
 obtain ⟨h11,H⟩:=io H
 obtain ⟨h12,H⟩:=io H
 refine ixx ⟨h11,h12⟩ T147 Tryz.underlying77 (R146 h11 h12) (k:=ov (.agg [_,_,_,_]) T147 (k:=ja (cs:=[_,_,_,_]) 206 T147 (k:=js (cs':=[_,_,_,_]) T147 (k:=nl (s2 (mR (k:=lv (.agg [_,_,_,_]) T147 (k:=?_))))))))
 obtain ⟨t13,e14,H⟩:=bo H
 refine a_call (v := .c (.own 207 t13.length)) (nk:=[(207,.row 143 (t13.map c142))]) (L:=[]) ?_ rfl (impl_boxPolygon.ok e14) (fun κ=>cond (Nat.beq κ 207) 100 (κ)) (qg qn) trivial ⟨rfl,trivial⟩ ⟨rfl,trivial⟩ rfl
 obtain ⟨t15,e16,H⟩:=bo H
 refine a_call (v:=vB t15) (nk:=[]) (L:=[(207,_)]) ?_ rfl (impl_apart.ok e16) id (qd (qc rO qn)) ⟨rfl,trivial⟩ trivial trivial rfl
 refine uN (k:=nl ?_)
 rcases ei H with ⟨h17,H⟩|⟨h17,H⟩
 ·refine ay (cn (bf h17)) ?_
  cases H
  exact s2 (mI (k:=nl (rt r1)))
 refine an (cn h17) ?_
 refine sp (rg (iA (k:=mI (k:=nl ?_))))
 exact AGr.canon id (ih0 _ (by omega) _ ⟨by omega,_,_,_,_,H,rfl⟩) ⟨rfl,rfl,rfl,rfl,trivial⟩ trivial rfl
def impl_inside.l0:Nat→List S142→Int→Int→Int→List S142→Int→Int→Option (Int)
 | 0,_,_,_,_,_,_,_=>none
 | k+1,x0,y201_0,y201_1,x5,x10,x11,x12=>if x12 < x11 then (if 0≤x12 then (if x12 < (x10.length:Int) then (if (x0.length:Int)=0 then (none) else (if 0≤(Int.tmod (wrap64 (x12+1)) (x0.length:Int)) then (if (Int.tmod (wrap64 (x12+1)) (x0.length:Int)) < (x0.length:Int) then ((impl_on.f ((rd142 x10 x12).f0) ((rd142 x10 x12).f1) ((rd142 x0 (Int.tmod (wrap64 (x12+1)) (x0.length:Int))).f0) ((rd142 x0 (Int.tmod (wrap64 (x12+1)) (x0.length:Int))).f1) y201_0 y201_1).bind fun t7=>(if t7=true then (some 0) else (if ((decide (((rd142 x10 x12).f1) > y201_1)) == (decide (((rd142 x0 (Int.tmod (wrap64 (x12+1)) (x0.length:Int))).f1) > y201_1)))=true then (impl_inside.l0 k x0 y201_0 y201_1 x5 x10 x11 (wrap64 (x12+1))) else ((impl_side.f ((rd142 x10 x12).f0) ((rd142 x10 x12).f1) ((rd142 x0 (Int.tmod (wrap64 (x12+1)) (x0.length:Int))).f0) ((rd142 x0 (Int.tmod (wrap64 (x12+1)) (x0.length:Int))).f1) y201_0 y201_1).bind fun t11=>(if ((rd142 x0 (Int.tmod (wrap64 (x12+1)) (x0.length:Int))).f1) < ((rd142 x10 x12).f1) then (if (wrap64 (0 - t11)) > 0 then (impl_inside.l0 k x0 y201_0 y201_1 (wrap64 (0 - x5)) x10 x11 (wrap64 (x12+1))) else (impl_inside.l0 k x0 y201_0 y201_1 x5 x10 x11 (wrap64 (x12+1)))) else (if t11 > 0 then (impl_inside.l0 k x0 y201_0 y201_1 (wrap64 (0 - x5)) x10 x11 (wrap64 (x12+1))) else (impl_inside.l0 k x0 y201_0 y201_1 x5 x10 x11 (wrap64 (x12+1))))))))) else (none)) else (none))) else (none)) else (none)) else (some x5)
def impl_inside.f (k:Nat) (l0:List S142) (a1_0 a1_1:Int):Option (Int):=impl_inside.l0 k l0 a1_0 a1_1 (-1) l0 (l0.length:Int) 0
theorem impl_inside.ok {k:Nat} {l0:List S142} {a1_0 a1_1 r:Int} (H:impl_inside.f k l0 a1_0 a1_1=some r):OkF Tryz.prog 128 [vR 143 (l0.map c142),.agg [cI a1_0,cI a1_1]] [] (vI r) []:=by
 unfold impl_inside.f at H
 refine o1 57 4 Tryz.func128 fun w0 S=>?_
 refine s2 (jb 200 (k:=mI (k:=nl (s2 (mI (k:=nl (sq (s2 (mR (k:=jl Tryz.underlying37 (k:=mI (k:=nl (bk (lp ?_))))))))))))))
 obtain ⟨K0,hK0,gK0⟩:=kk k
 refine AGr.canon (fun κ=>cond (Nat.beq κ 201) 200 (κ)) (AGr.loopI (n:=k) (fun k s=>k≤K0∧∃ x0 y201_0 y201_1 x5 x10 x11 x12,impl_inside.l0 k x0 y201_0 y201_1 x5 x10 x11 x12=some r∧s=St.of [(0,vR 143 (x0.map c142)),(3,.c (.ptr 201 0)),(5,vI x5),(10,vR 143 (x10.map c142)),(11,vI x11),(12,vI x12)] [(201,.box 143 [.d (.v (.int .i64 y201_0)),.d (.v (.int .i64 y201_1))])]) ⟨hK0,_,_,_,_,_,_,_,H,rfl⟩ ?_ ?_) ⟨rfl,rfl,rfl,rfl,rfl,rfl,trivial⟩ ⟨rfl,trivial⟩ rfl
 ·rintro _ ⟨_,_,_,_,_,_,_,_,H,_⟩
  cases H
 clear H hK0
 rintro k ih0 _ ⟨hK0,x0,y201_0,y201_1,x5,x10,x11,x12,H,rfl⟩
 unfold impl_inside.l0 at H
 refine s2 (iL (k:=nl (sq ?_)))
 rcases ei H with ⟨h1,H⟩|⟨h1,H⟩
 ·refine an (df h1) ?_
  cases H
  exact ex (s2 (mI (k:=mI (k:=nl (rt r1)))))
 refine ay (dt h1) ?_
 refine sp (sq (bk (s2 (mI (k:=?_)))))
 obtain ⟨h2,H⟩:=io H
 obtain ⟨h3,H⟩:=io H
 refine ixx ⟨h2,h3⟩ T143 Tryz.underlying37 (R142 h2 h3) (k:=oP T143 (k:=aP 202 T143 (k:=mI (k:=sP T143 (k:=nl (s2 (mR (k:=mI (k:=iA (k:=mR (k:=jl Tryz.underlying37 (k:=?_))))))))))))
 obtain ⟨h4,H⟩:=oi H
 refine jr (r:=Int.tmod (wrap64 (x12+1)) (x0.length:Int)) h4 (k:=?_)
 obtain ⟨h5,H⟩:=io H
 obtain ⟨h6,H⟩:=io H
 refine ixx ⟨h5,h6⟩ T143 Tryz.underlying37 (R142 h5 h6) (k:=oP T143 (k:=aP 203 T143 (k:=sP T143 (k:=nl (sq (s2 (lP T143 (k:=lP T143 (k:=lP T143 (k:=?_))))))))))
 obtain ⟨t7,e8,H⟩:=bo H
 refine cr rfl (impl_on.ok e8) (qg (qg (qg qn))) (k:=nl ?_)
 rcases ie H with ⟨h9,H⟩|⟨h9,H⟩
 ·refine ay h9 ?_
  cases H
  exact s2 (mI (k:=nl (rt r1)))
 refine an (bf h9) ?_
 refine sp (s2 (fB 1 D143_1 (k:=lI T2 (k:=fB 1 D143_1 (k:=lI T2 (k:=iG (k:=fB 1 D143_1 (k:=lI T2 (k:=fB 1 D143_1 (k:=lI T2 (k:=iG (k:=?_))))))))))))
 refine a_binB (p:=(decide (((rd142 x10 x12).f1) > y201_1))) (q:=(decide (((rd142 x0 (Int.tmod (wrap64 (x12+1)) (x0.length:Int))).f1) > y201_1))) (b:=(!((decide (((rd142 x10 x12).f1) > y201_1)) == (decide (((rd142 x0 (Int.tmod (wrap64 (x12+1)) (x0.length:Int))).f1) > y201_1))))) ?_ Tryz.underlying4 (.inr ⟨rfl,rfl⟩)
 refine nl ?_
 rcases ie H with ⟨h10,H⟩|⟨h10,H⟩
 ·refine AG.no rfl (by rw [show ((decide (((rd142 x10 x12).f1) > y201_1)) == (decide (((rd142 x0 (Int.tmod (wrap64 (x12+1)) (x0.length:Int))).f1) > y201_1)))=true from h10]; rfl) ?_
  refine sp (rg (iA (k:=mI (k:=nl ?_))))
  exact AGr.canon id (ih0 _ (by omega) _ ⟨by omega,_,_,_,_,_,_,_,H,rfl⟩) ⟨rfl,rfl,rfl,rfl,rfl,rfl,trivial⟩ ⟨rfl,trivial⟩ rfl
 refine AG.yes rfl (by rw [bf h10]; rfl) ?_
 refine s2 (lP T143 (k:=lP T143 (k:=lP T143 (k:=?_))))
 obtain ⟨t11,e12,H⟩:=bo H
 refine cr rfl (impl_side.ok e12) (qg (qg (qg qn))) (k:=mI (k:=nl (sq (s2 (fB 1 D143_1 (k:=lI T2 (k:=fB 1 D143_1 (k:=lI T2 (k:=iL (k:=nl ?_))))))))))
 rcases ei H with ⟨h13,H⟩|⟨h13,H⟩
 ·refine an (df h13) ?_
  refine sp (s2 (mI (k:=iG (k:=nl ?_))))
  rcases ei H with ⟨h15,H⟩|⟨h15,H⟩
  ·refine an (df h15) ?_
   refine sp (rg (iA (k:=mI (k:=nl ?_))))
   exact AGr.canon id (ih0 _ (by omega) _ ⟨by omega,_,_,_,_,_,_,_,H,rfl⟩) ⟨rfl,rfl,rfl,rfl,rfl,rfl,trivial⟩ ⟨rfl,trivial⟩ rfl
  refine ay (dt h15) ?_
  refine rg (mI (k:=uI (wrap64 (0 - x5)) (k:=mI (k:=nl (rg (iA (k:=mI (k:=nl ?_))))))))
  exact AGr.canon id (ih0 _ (by omega) _ ⟨by omega,_,_,_,_,_,_,_,H,rfl⟩) ⟨rfl,rfl,rfl,rfl,rfl,rfl,trivial⟩ ⟨rfl,trivial⟩ rfl
 refine ay (dt h13) ?_
 refine rg (mI (k:=uI (wrap64 (0 - t11)) (k:=mI (k:=nl (s2 (mI (k:=iG (k:=nl ?_))))))))
 rcases ei H with ⟨h14,H⟩|⟨h14,H⟩
 ·refine an (df h14) ?_
  refine sp (rg (iA (k:=mI (k:=nl ?_))))
  exact AGr.canon id (ih0 _ (by omega) _ ⟨by omega,_,_,_,_,_,_,_,H,rfl⟩) ⟨rfl,rfl,rfl,rfl,rfl,rfl,trivial⟩ ⟨rfl,trivial⟩ rfl
 refine ay (dt h14) ?_
 refine rg (mI (k:=uI (wrap64 (0 - x5)) (k:=mI (k:=nl (rg (iA (k:=mI (k:=nl ?_))))))))
 exact AGr.canon id (ih0 _ (by omega) _ ⟨by omega,_,_,_,_,_,_,_,H,rfl⟩) ⟨rfl,rfl,rfl,rfl,rfl,rfl,trivial⟩ ⟨rfl,trivial⟩ rfl
def impl_squared.f (a0_0 a0_1 a1_0 a1_1:Int):Option (Int):=some (wrap64 ((wrap64 ((wrap64 (a0_0 - a1_0))*(wrap64 (a0_0 - a1_0))))+(wrap64 ((wrap64 (a0_1 - a1_1))*(wrap64 (a0_1 - a1_1))))))
theorem impl_squared.ok {a0_0 a0_1 a1_0 a1_1 r:Int} (H:impl_squared.f a0_0 a0_1 a1_0 a1_1=some r):OkF Tryz.prog 179 [.agg [cI a0_0,cI a0_1],.agg [cI a1_0,cI a1_1]] [] (vI r) []:=by
 unfold impl_squared.f at H
 refine o1 28 4 Tryz.func179 fun w0 S=>?_
 cases H
 exact s2 (jb 200 (k:=jb 201 (k:=mI (k:=nl (s2 (fB 0 D143_0 (k:=lI T2 (k:=fB 0 D143_0 (k:=lI T2 (k:=iS (k:=fB 0 D143_0 (k:=lI T2 (k:=fB 0 D143_0 (k:=lI T2 (k:=iS (k:=iM (k:=fB 1 D143_1 (k:=lI T2 (k:=fB 1 D143_1 (k:=lI T2 (k:=iS (k:=fB 1 D143_1 (k:=lI T2 (k:=fB 1 D143_1 (k:=lI T2 (k:=iS (k:=iM (k:=iA (k:=mI (k:=nl (rt r1)))))))))))))))))))))))))))))))
def impl_RootOf.l0:Nat→Int→Int→Int→Option (Int)
 | 0,_,_,_=>none
 | k+1,x0,x3,x4=>if x3 < x4 then (if (wrap64 (Int.tdiv (wrap64 ((wrap64 (x3+x4))+1)) 2))=0 then (none) else (if (wrap64 (Int.tdiv (wrap64 ((wrap64 (x3+x4))+1)) 2))≤(wrap64 (Int.tdiv x0 (wrap64 (Int.tdiv (wrap64 ((wrap64 (x3+x4))+1)) 2)))) then (impl_RootOf.l0 k x0 (wrap64 (Int.tdiv (wrap64 ((wrap64 (x3+x4))+1)) 2)) x4) else (impl_RootOf.l0 k x0 x3 (wrap64 ((wrap64 (Int.tdiv (wrap64 ((wrap64 (x3+x4))+1)) 2)) - 1))))) else (some x3)
def impl_RootOf.f (k:Nat) (a0:Int):Option (Int):=if a0 < 1 then (some 0) else (impl_RootOf.l0 k a0 1 3037000499)
theorem impl_RootOf.ok {k:Nat} {a0 r:Int} (H:impl_RootOf.f k a0=some r):OkF Tryz.prog 180 [vI a0] [] (vI r) []:=by
 unfold impl_RootOf.f at H
 refine o1 25 2 Tryz.func180 fun w0 S=>?_
 refine s2 (mI (k:=nl (sq (s2 (mI (k:=iL (k:=nl ?_)))))))
 rcases ie H with ⟨h1,H⟩|⟨h1,H⟩
 ·refine ay (dt h1) ?_
  cases H
  exact s2 (mI (k:=nl (rt r1)))
 refine an (df h1) ?_
 refine sp (s2 (mI (k:=mI (k:=nl (sq (bk (lp ?_)))))))
 obtain ⟨K0,hK0,gK0⟩:=kk k
 refine AGr.canon id (AGr.loopI (n:=k) (fun k s=>k≤K0∧∃ x0 x3 x4,impl_RootOf.l0 k x0 x3 x4=some r∧s=St.of [(0,vI x0),(3,vI x3),(4,vI x4)] []) ⟨hK0,_,_,_,H,rfl⟩ ?_ ?_) ⟨rfl,rfl,rfl,trivial⟩ trivial rfl
 ·rintro _ ⟨_,_,_,_,H,_⟩
  cases H
 clear H hK0
 rintro k ih0 _ ⟨hK0,x0,x3,x4,H,rfl⟩
 unfold impl_RootOf.l0 at H
 refine sq (s2 (mI (k:=mI (k:=iL (k:=nl ?_)))))
 rcases ei H with ⟨h2,H⟩|⟨h2,H⟩
 ·refine an (df h2) ?_
  cases H
  exact ex (s2 (mI (k:=mI (k:=nl (rt r1)))))
 refine ay (dt h2) ?_
 refine sp (bk (s2 (mI (k:=mI (k:=iA (k:=iA (k:=jq (r:=wrap64 (Int.tdiv (wrap64 ((wrap64 (x3+x4))+1)) 2)) (show ¬ (2:Int)=0 from by decide) (k:=mI (k:=nl (s2 (mI (k:=mI (k:=mI (k:=?_))))))))))))))
 obtain ⟨h3,H⟩:=oi H
 refine jq (r:=wrap64 (Int.tdiv x0 (wrap64 (Int.tdiv (wrap64 ((wrap64 (x3+x4))+1)) 2)))) h3 (k:=iQ (k:=nl ?_))
 rcases ie H with ⟨h4,H⟩|⟨h4,H⟩
 ·refine ay (dt h4) ?_
  refine rg (mI (k:=mI (k:=nl ?_)))
  exact AGr.canon id (ih0 _ (by omega) _ ⟨by omega,_,_,_,H,rfl⟩) ⟨rfl,rfl,rfl,trivial⟩ trivial rfl
 refine an (df h4) ?_
 refine rg (mI (k:=iS (k:=mI (k:=nl ?_))))
 exact AGr.canon id (ih0 _ (by omega) _ ⟨by omega,_,_,_,H,rfl⟩) ⟨rfl,rfl,rfl,trivial⟩ trivial rfl
def bits_Mul64.f (a0 a1:Int):Option (Int×Int):=if 0≤a0∧a0 < 18446744073709551616∧0≤a1∧a1 < 18446744073709551616 then some (a0*a1 / 18446744073709551616,a0*a1%18446744073709551616) else none
theorem bits_Mul64.ok {a0 a1 r0 r1:Int} (H:bits_Mul64.f a0 a1=some (r0,r1)):OkF Tryz.prog 181 [.c (.d (.v (.int .u64 a0))),.c (.d (.v (.int .u64 a1)))] [] (.tup [.c (.d (.v (.int .u64 r0))),.c (.d (.v (.int .u64 r1)))]) []:=by
 unfold bits_Mul64.f at H
 by_cases h:0≤a0∧a0 < 18446744073709551616∧0≤a1∧a1 < 18446744073709551616
 ·rw [if_pos h] at H
  obtain ⟨rfl,rfl⟩:=Prod.mk.inj (Option.some.inj H)
  exact Go.Proofs.YticimffljcljoaaGreat.Mul64.mulU _ _ h.1 h.2.1 h.2.2.1 h.2.2.2
 rw [if_neg h] at H
 cases H
def bits_Div64.f (a0 a1 a2:Int):Option (Int×Int):=if a2=0 then (none) else (if a2≤a0 then (none) else (if a0=0 then (some (Int.tdiv a1 a2%18446744073709551616,Int.tmod a1 a2)) else (none)))
theorem bits_Div64.ok {a0 a1 a2 r0 r1:Int} (H:bits_Div64.f a0 a1 a2=some (r0,r1)):OkF Tryz.prog 182 [.c (.d (.v (.int .u64 a0))),.c (.d (.v (.int .u64 a1))),.c (.d (.v (.int .u64 a2)))] [] (.tup [.c (.d (.v (.int .u64 r0))),.c (.d (.v (.int .u64 r1)))]) []:=by
 unfold bits_Div64.f at H
 refine OkF.of (N:=135) (rs:=[6,7]) (avs:=[.c (.d (.v (.int .u64 r0))),.c (.d (.v (.int .u64 r1)))]) Tryz.func182 rfl rfl (fun _ _=>results_tmp2 rfl _ _ _) (by decide) rfl rfl rfl rfl (fun w0 S=>?_)
 refine s2 (mv (gV (.int .u64 _)) (k:=mv (gV (.int .u64 _)) (k:=nl (sq (s2 (mv (gV (.int .u64 _)) (k:=iEq (k:=nl ?_))))))))
 obtain ⟨h1,H⟩:=oi H
 refine an (bn h1) ?_
 refine sp (sq (s2 (mv (gV (.int .u64 _)) (k:=mv (gV (.int .u64 _)) (k:=iQ (k:=nl ?_))))))
 obtain ⟨h2,H⟩:=oi H
 refine an (df h2) ?_
 refine sp (sq (s2 (mv (gV (.int .u64 _)) (k:=iEq (k:=nl ?_)))))
 obtain ⟨h3,H⟩:=io H
 refine ay (bq h3) ?_
 refine s2 (mv (gV (.int .u64 _)) (k:=mv (gV (.int .u64 _)) (k:=jq (r:=Int.tdiv a1 a2%18446744073709551616) h1 (k:=mv (gV (.int .u64 _)) (k:=mv (gV (.int .u64 _)) (k:=jr (r:=Int.tmod a1 a2) h1 (k:=mv (gV (.int .u64 _)) (k:=mv (gV (.int .u64 _)) (k:=?_)))))))))
 refine RA.nil (fun _=>by kernel_rfl) ?_
 refine rt ?_
 simp only [Option.some.injEq,Prod.mk.injEq] at H
 obtain ⟨rfl,rfl⟩:=H
 exact RetP.mk id ⟨rfl,rfl,trivial⟩ trivial rfl
def impl_toSegment.f (k:Nat) (a0_0 a0_1 a1_0 a1_1 a2_0 a2_1:Int):Option (Int):=(impl_squared.f a0_0 a0_1 a1_0 a1_1).bind fun t1=>(if (wrap64 ((wrap64 ((wrap64 (a2_0 - a0_0))*(wrap64 (a1_0 - a0_0))))+(wrap64 ((wrap64 (a2_1 - a0_1))*(wrap64 (a1_1 - a0_1))))))≤0 then ((impl_squared.f a0_0 a0_1 a2_0 a2_1).bind fun t4=>((impl_RootOf.f k t4).bind fun t6=>(some t6))) else (if (wrap64 ((wrap64 ((wrap64 (a2_0 - a0_0))*(wrap64 (a1_0 - a0_0))))+(wrap64 ((wrap64 (a2_1 - a0_1))*(wrap64 (a1_1 - a0_1))))))≥t1 then ((impl_squared.f a1_0 a1_1 a2_0 a2_1).bind fun t9=>((impl_RootOf.f k t9).bind fun t11=>(some t11))) else ((bits_Mul64.f ((mx (wrap64 ((wrap64 ((wrap64 (a1_0 - a0_0))*(wrap64 (a2_1 - a0_1)))) - (wrap64 ((wrap64 (a1_1 - a0_1))*(wrap64 (a2_0 - a0_0)))))) (wrap64 (0 - (wrap64 ((wrap64 ((wrap64 (a1_0 - a0_0))*(wrap64 (a2_1 - a0_1)))) - (wrap64 ((wrap64 (a1_1 - a0_1))*(wrap64 (a2_0 - a0_0)))))))))%18446744073709551616) ((mx (wrap64 ((wrap64 ((wrap64 (a1_0 - a0_0))*(wrap64 (a2_1 - a0_1)))) - (wrap64 ((wrap64 (a1_1 - a0_1))*(wrap64 (a2_0 - a0_0)))))) (wrap64 (0 - (wrap64 ((wrap64 ((wrap64 (a1_0 - a0_0))*(wrap64 (a2_1 - a0_1)))) - (wrap64 ((wrap64 (a1_1 - a0_1))*(wrap64 (a2_0 - a0_0)))))))))%18446744073709551616)).bind fun bt13=>((bits_Div64.f bt13.1 bt13.2 (t1%18446744073709551616)).bind fun bt16=>((impl_RootOf.f k (wrap64 bt16.1)).bind fun t19=>(some t19))))))
theorem impl_toSegment.ok {k:Nat} {a0_0 a0_1 a1_0 a1_1 a2_0 a2_1 r:Int} (H:impl_toSegment.f k a0_0 a0_1 a1_0 a1_1 a2_0 a2_1=some r):OkF Tryz.prog 161 [.agg [cI a0_0,cI a0_1],.agg [cI a1_0,cI a1_1],.agg [cI a2_0,cI a2_1]] [] (vI r) []:=by
 unfold impl_toSegment.f at H
 refine o1 103 6 Tryz.func161 fun w0 S=>?_
 refine s2 (jb 200 (k:=jb 201 (k:=jb 202 (k:=mI (k:=nl (s2 (fB 0 D143_0 (k:=lI T2 (k:=fB 0 D143_0 (k:=lI T2 (k:=iS (k:=fB 0 D143_0 (k:=lI T2 (k:=fB 0 D143_0 (k:=lI T2 (k:=iS (k:=iM (k:=fB 1 D143_1 (k:=lI T2 (k:=fB 1 D143_1 (k:=lI T2 (k:=iS (k:=fB 1 D143_1 (k:=lI T2 (k:=fB 1 D143_1 (k:=lI T2 (k:=iS (k:=iM (k:=iA (k:=mI (k:=nl (s2 (lP T143 (k:=lP T143 (k:=?_)))))))))))))))))))))))))))))))))))
 obtain ⟨t1,e2,H⟩:=bo H
 refine cr rfl (impl_squared.ok e2) (qg (qg qn)) (k:=mI (k:=nl (sq (bk (s2 (mI (k:=iQ (k:=mB (k:=nl ?_)))))))))
 rcases ie H with ⟨h3,H⟩|⟨h3,H⟩
 ·refine ay (dt h3) ?_
  refine s2 (lP T143 (k:=lP T143 (k:=?_)))
  obtain ⟨t4,e5,H⟩:=bo H
  refine cr rfl (impl_squared.ok e5) (qg (qg qn)) (k:=?_)
  obtain ⟨t6,e7,H⟩:=bo H
  cases H
  exact cr rfl (impl_RootOf.ok e7) (qd qn) (k:=mI (k:=nl (rt r1)))
 refine an (df h3) ?_
 refine s2 (mI (k:=mI (k:=iE (k:=mB (k:=nl ?_)))))
 rcases ie H with ⟨h8,H⟩|⟨h8,H⟩
 ·refine ay (dt h8) ?_
  refine s2 (lP T143 (k:=lP T143 (k:=?_)))
  obtain ⟨t9,e10,H⟩:=bo H
  refine cr rfl (impl_squared.ok e10) (qg (qg qn)) (k:=?_)
  obtain ⟨t11,e12,H⟩:=bo H
  cases H
  exact cr rfl (impl_RootOf.ok e12) (qd qn) (k:=mI (k:=nl (rt r1)))
 refine an (df h8) ?_
 refine sp (s2 (fB 0 D143_0 (k:=lI T2 (k:=fB 0 D143_0 (k:=lI T2 (k:=iS (k:=fB 1 D143_1 (k:=lI T2 (k:=fB 1 D143_1 (k:=lI T2 (k:=iS (k:=iM (k:=fB 1 D143_1 (k:=lI T2 (k:=fB 1 D143_1 (k:=lI T2 (k:=iS (k:=fB 0 D143_0 (k:=lI T2 (k:=fB 0 D143_0 (k:=lI T2 (k:=iS (k:=iM (k:=iS (k:=mI (k:=nl (s2 (mI (k:=mI (k:=uI (wrap64 (0 - (wrap64 ((wrap64 ((wrap64 (a1_0 - a0_0))*(wrap64 (a2_1 - a0_1)))) - (wrap64 ((wrap64 (a1_1 - a0_1))*(wrap64 (a2_0 - a0_0)))))))) (k:=jm (mx:=true) (r:=mx (wrap64 ((wrap64 ((wrap64 (a1_0 - a0_0))*(wrap64 (a2_1 - a0_1)))) - (wrap64 ((wrap64 (a1_1 - a0_1))*(wrap64 (a2_0 - a0_0)))))) (wrap64 (0 - (wrap64 ((wrap64 ((wrap64 (a1_0 - a0_0))*(wrap64 (a2_1 - a0_1)))) - (wrap64 ((wrap64 (a1_1 - a0_1))*(wrap64 (a2_0 - a0_0))))))))) (k:=jv (j:=(mx (wrap64 ((wrap64 ((wrap64 (a1_0 - a0_0))*(wrap64 (a2_1 - a0_1)))) - (wrap64 ((wrap64 (a1_1 - a0_1))*(wrap64 (a2_0 - a0_0)))))) (wrap64 (0 - (wrap64 ((wrap64 ((wrap64 (a1_0 - a0_0))*(wrap64 (a2_1 - a0_1)))) - (wrap64 ((wrap64 (a1_1 - a0_1))*(wrap64 (a2_0 - a0_0)))))))))%18446744073709551616) Tryz.underlying2 Tryz.underlying219 (k:=mI (k:=mI (k:=uI (wrap64 (0 - (wrap64 ((wrap64 ((wrap64 (a1_0 - a0_0))*(wrap64 (a2_1 - a0_1)))) - (wrap64 ((wrap64 (a1_1 - a0_1))*(wrap64 (a2_0 - a0_0)))))))) (k:=jm (mx:=true) (r:=mx (wrap64 ((wrap64 ((wrap64 (a1_0 - a0_0))*(wrap64 (a2_1 - a0_1)))) - (wrap64 ((wrap64 (a1_1 - a0_1))*(wrap64 (a2_0 - a0_0)))))) (wrap64 (0 - (wrap64 ((wrap64 ((wrap64 (a1_0 - a0_0))*(wrap64 (a2_1 - a0_1)))) - (wrap64 ((wrap64 (a1_1 - a0_1))*(wrap64 (a2_0 - a0_0))))))))) (k:=jv (j:=(mx (wrap64 ((wrap64 ((wrap64 (a1_0 - a0_0))*(wrap64 (a2_1 - a0_1)))) - (wrap64 ((wrap64 (a1_1 - a0_1))*(wrap64 (a2_0 - a0_0)))))) (wrap64 (0 - (wrap64 ((wrap64 ((wrap64 (a1_0 - a0_0))*(wrap64 (a2_1 - a0_1)))) - (wrap64 ((wrap64 (a1_1 - a0_1))*(wrap64 (a2_0 - a0_0)))))))))%18446744073709551616) Tryz.underlying2 Tryz.underlying219 (k:=?_))))))))))))))))))))))))))))))))))))))
 obtain ⟨⟨t13,t14⟩,e15,H⟩:=bo H
 refine cl (.tup [.c (.d (.v (.int .u64 t13))),.c (.d (.v (.int .u64 t14)))]) rfl (bits_Mul64.ok e15) (qd (qd qn)) (k:=mv (.tup [_,_]) (k:=ev (gV (.int .u64 _)) (k:=ev (gV (.int .u64 _)) (k:=mv (gV (.int .u64 _)) (k:=mv (gV (.int .u64 _)) (k:=nl (s2 (mv (gV (.int .u64 _)) (k:=mv (gV (.int .u64 _)) (k:=mI (k:=jv (j:=t1%18446744073709551616) Tryz.underlying2 Tryz.underlying219 (k:=?_))))))))))))
 obtain ⟨⟨t16,t17⟩,e18,H⟩:=bo H
 refine cl (.tup [.c (.d (.v (.int .u64 t16))),.c (.d (.v (.int .u64 t17)))]) rfl (bits_Div64.ok e18) (qd (qd (qd qn))) (k:=mv (.tup [_,_]) (k:=ev (gV (.int .u64 _)) (k:=ev (gV (.int .u64 _)) (k:=mv (gV (.int .u64 _)) (k:=mv (gV (.int .u64 _)) (k:=nl (s2 (mv (gV (.int .u64 _)) (k:=jv (j:=wrap64 t16) Tryz.underlying219 Tryz.underlying2 (k:=?_))))))))))
 obtain ⟨t19,e20,H⟩:=bo H
 cases H
 exact cr rfl (impl_RootOf.ok e20) (qd qn) (k:=mI (k:=nl (rt r1)))
def impl_betweenSegments.f (k:Nat) (a0_0 a0_1 a1_0 a1_1 a2_0 a2_1 a3_0 a3_1:Int):Option (Int):=(impl_touching.f a0_0 a0_1 a1_0 a1_1 a2_0 a2_1 a3_0 a3_1).bind fun t1=>(if t1=true then (some 0) else ((impl_toSegment.f k a0_0 a0_1 a1_0 a1_1 a2_0 a2_1).bind fun t4=>((impl_toSegment.f k a0_0 a0_1 a1_0 a1_1 a3_0 a3_1).bind fun t6=>((impl_toSegment.f k a2_0 a2_1 a3_0 a3_1 a0_0 a0_1).bind fun t8=>((impl_toSegment.f k a2_0 a2_1 a3_0 a3_1 a1_0 a1_1).bind fun t10=>(some (mn (mn (mn t4 t6) t8) t10)))))))
theorem impl_betweenSegments.ok {k:Nat} {a0_0 a0_1 a1_0 a1_1 a2_0 a2_1 a3_0 a3_1 r:Int} (H:impl_betweenSegments.f k a0_0 a0_1 a1_0 a1_1 a2_0 a2_1 a3_0 a3_1=some r):OkF Tryz.prog 129 [.agg [cI a0_0,cI a0_1],.agg [cI a1_0,cI a1_1],.agg [cI a2_0,cI a2_1],.agg [cI a3_0,cI a3_1]] [] (vI r) []:=by
 unfold impl_betweenSegments.f at H
 refine o1 31 8 Tryz.func129 fun w0 S=>?_
 refine s2 (jb 200 (k:=jb 201 (k:=jb 202 (k:=jb 203 (k:=mI (k:=nl (sq (s2 (lP T143 (k:=lP T143 (k:=lP T143 (k:=lP T143 (k:=?_)))))))))))))
 obtain ⟨t1,e2,H⟩:=bo H
 refine cr rfl (impl_touching.ok e2) (qg (qg (qg (qg qn)))) (k:=nl ?_)
 rcases ie H with ⟨h3,H⟩|⟨h3,H⟩
 ·refine ay h3 ?_
  cases H
  exact s2 (mI (k:=nl (rt r1)))
 refine an (bf h3) ?_
 refine sp (s2 (lP T143 (k:=lP T143 (k:=lP T143 (k:=?_)))))
 obtain ⟨t4,e5,H⟩:=bo H
 refine cr rfl (impl_toSegment.ok e5) (qg (qg (qg qn))) (k:=lP T143 (k:=lP T143 (k:=lP T143 (k:=?_))))
 obtain ⟨t6,e7,H⟩:=bo H
 refine cr rfl (impl_toSegment.ok e7) (qg (qg (qg qn))) (k:=lP T143 (k:=lP T143 (k:=lP T143 (k:=?_))))
 obtain ⟨t8,e9,H⟩:=bo H
 refine cr rfl (impl_toSegment.ok e9) (qg (qg (qg qn))) (k:=lP T143 (k:=lP T143 (k:=lP T143 (k:=?_))))
 obtain ⟨t10,e11,H⟩:=bo H
 refine cr rfl (impl_toSegment.ok e11) (qg (qg (qg qn))) (k:=?_)
 refine a_min4 (r:=mn (mn (mn t4 t6) t8) t10) ?_
 refine mI (k:=?_)
 refine RA.nil (fun _=>by kernel_rfl) ?_
 cases H
 exact rt r1
mutual
def impl_gap.j0:Nat→List S142→List S142→Bool→Option (Int)
 | 0,_,_,_=>none
 | k+1,x0,x1,x22=>if x22=true then (some 0) else (impl_gap.l0 k x0 x1 (-1) (x0.length:Int) 0)
def impl_gap.l0:Nat→List S142→List S142→Int→Int→Int→Option (Int)
 | 0,_,_,_,_,_=>none
 | k+1,x0,x1,x5,x24,x25=>if x25 < x24 then (impl_gap.l1 k x0 x1 x5 x25 x24 x25 (x1.length:Int) 0) else (some x5)
def impl_gap.l1:Nat→List S142→List S142→Int→Int→Int→Int→Int→Int→Option (Int)
 | 0,_,_,_,_,_,_,_,_=>none
 | k+1,x0,x1,x5,x6,x24,x25,x29,x30=>if x30 < x29 then (if 0≤x6 then (if x6 < (x0.length:Int) then (if (x0.length:Int)=0 then (none) else (if 0≤(Int.tmod (wrap64 (x6+1)) (x0.length:Int)) then (if (Int.tmod (wrap64 (x6+1)) (x0.length:Int)) < (x0.length:Int) then (if 0≤x30 then (if x30 < (x1.length:Int) then (if (x1.length:Int)=0 then (none) else (if 0≤(Int.tmod (wrap64 (x30+1)) (x1.length:Int)) then (if (Int.tmod (wrap64 (x30+1)) (x1.length:Int)) < (x1.length:Int) then ((impl_betweenSegments.f k ((rd142 x0 x6).f0) ((rd142 x0 x6).f1) ((rd142 x0 (Int.tmod (wrap64 (x6+1)) (x0.length:Int))).f0) ((rd142 x0 (Int.tmod (wrap64 (x6+1)) (x0.length:Int))).f1) ((rd142 x1 x30).f0) ((rd142 x1 x30).f1) ((rd142 x1 (Int.tmod (wrap64 (x30+1)) (x1.length:Int))).f0) ((rd142 x1 (Int.tmod (wrap64 (x30+1)) (x1.length:Int))).f1)).bind fun t21=>(if x5 < 0 then (impl_gap.l1 k x0 x1 t21 x6 x24 x25 x29 (wrap64 (x30+1))) else (if t21 < x5 then (impl_gap.l1 k x0 x1 t21 x6 x24 x25 x29 (wrap64 (x30+1))) else (impl_gap.l1 k x0 x1 x5 x6 x24 x25 x29 (wrap64 (x30+1)))))) else (none)) else (none))) else (none)) else (none)) else (none)) else (none))) else (none)) else (none)) else (impl_gap.l0 k x0 x1 x5 x24 (wrap64 (x25+1)))
end
def impl_gap.f (k:Nat) (l0 l1:List S142):Option (Int):=if 0 < (l1.length:Int) then ((impl_inside.f k l0 ((rd142 l1 0).f0) ((rd142 l1 0).f1)).bind fun t2=>(if t2≥0 then (impl_gap.j0 k l0 l1 true) else (if 0 < (l0.length:Int) then ((impl_inside.f k l1 ((rd142 l0 0).f0) ((rd142 l0 0).f1)).bind fun t6=>(impl_gap.j0 k l0 l1 (decide (t6≥0)))) else (none)))) else (none)
theorem impl_gap.ok {k:Nat} {l0 l1:List S142} {r:Int} (H:impl_gap.f k l0 l1=some r):OkF Tryz.prog 90 [vR 143 (l0.map c142),vR 143 (l1.map c142)] [] (vI r) []:=by
 unfold impl_gap.f at H
 refine o1 69 4 Tryz.func90 fun w0 S=>?_
 refine s2 (mI (k:=nl (sq (sq ?_))))
 refine AG.joinR (fun s=>∃ q,q≤k∧∃ x0 x1 x22,impl_gap.j0 q x0 x1 x22=some r∧s=St.of [(0,vR 143 (x0.map c142)),(1,vR 143 (x1.map c142)),(22,vB x22)] []) ?_ ?_
 ·skip
  refine rg (mR (k:=mR (k:=?_)))
  obtain ⟨h1,H⟩:=io H
  refine a_ixR (el:=c142 (rd142 l1 0)) ?_ ⟨(by decide),h1⟩ T143 Tryz.underlying37 (hel:=R142 (by decide) h1)
  refine oP T143 (k:=?_)
  obtain ⟨t2,e3,H⟩:=bo H
  refine cr rfl (impl_inside.ok e3) (qd (qg qn)) (k:=iE (k:=mB (k:=?_)))
  rcases ie H with ⟨h4,H⟩|⟨h4,H⟩
  ·iterate 6 refine sk (dt h4) (k:=?_)
   refine pB (dt h4) (k:=nl ?_)
   exact CanR.mk id ⟨_,(by omega),_,_,_,H,rfl⟩ ⟨rfl,rfl,rfl,trivial⟩ trivial rfl
  refine mR (hg:=gy (df h4)) (k:=mR (hg:=gy (df h4)) (k:=?_))
  obtain ⟨h5,H⟩:=io H
  refine a_ixR (el:=c142 (rd142 l0 0)) ?_ ⟨(by decide),h5⟩ T143 Tryz.underlying37 (hel:=R142 (by decide) h5) (hg:=gy (df h4))
  refine oP T143 (hg:=gy (df h4)) (k:=?_)
  obtain ⟨t6,e7,H⟩:=bo H
  refine cr rfl (impl_inside.ok e7) (qd (qg qn)) (hg:=gy (df h4)) (k:=iE (hg:=gy (df h4)) (k:=qB (df h4) (k:=nl ?_)))
  exact CanR.mk id ⟨_,(by omega),_,_,_,H,rfl⟩ ⟨rfl,rfl,rfl,trivial⟩ trivial rfl
 clear H
 rintro _ ⟨k,hj0,x0,x1,x22,H,rfl⟩
 rcases k with _|k
 cases H
 rw [impl_gap.j0] at H
 rcases ie H with ⟨h8,H⟩|⟨h8,H⟩
 ·refine ay h8 ?_
  cases H
  exact s2 (mI (k:=nl (rt r1)))
 refine an (bf h8) ?_
 refine sp (s2 (mI (k:=nl (sq (s2 (mR (k:=jl Tryz.underlying37 (k:=mI (k:=nl (bk (lp ?_)))))))))))
 obtain ⟨K0,hK0,gK0⟩:=kk k
 refine AGr.canon id (AGr.loopI (n:=k) (fun k s=>k≤K0∧∃ x0 x1 x5 x24 x25,impl_gap.l0 k x0 x1 x5 x24 x25=some r∧s=St.of [(0,vR 143 (x0.map c142)),(1,vR 143 (x1.map c142)),(5,vI x5),(24,vI x24),(25,vI x25)] []) ⟨hK0,_,_,_,_,_,H,rfl⟩ ?_ ?_) ⟨rfl,rfl,rfl,rfl,rfl,trivial⟩ trivial rfl
 ·rintro _ ⟨_,_,_,_,_,_,H,_⟩
  cases H
 clear H hK0
 rintro k ih0 _ ⟨hK0,x0,x1,x5,x24,x25,H,rfl⟩
 unfold impl_gap.l0 at H
 refine s2 (iL (k:=nl (sq ?_)))
 rcases ei H with ⟨h9,H⟩|⟨h9,H⟩
 ·refine an (df h9) ?_
  cases H
  exact ex (s2 (mI (k:=mI (k:=nl (rt r1)))))
 refine ay (dt h9) ?_
 refine sp (sq (bk (s2 (mI (k:=mI (k:=nl (s2 (mR (k:=jl Tryz.underlying37 (k:=mI (k:=nl (bk (lp ?_)))))))))))))
 obtain ⟨K1,hK1,gK1⟩:=kk k
 refine AGr.canon id (AGr.loopI (n:=k) (fun k s=>k≤K1∧∃ x0 x1 x5 x6 x24 x25 x29 x30,impl_gap.l1 k x0 x1 x5 x6 x24 x25 x29 x30=some r∧s=St.of [(0,vR 143 (x0.map c142)),(1,vR 143 (x1.map c142)),(5,vI x5),(6,vI x6),(24,vI x24),(25,vI x25),(29,vI x29),(30,vI x30)] []) ⟨hK1,_,_,_,_,_,_,_,_,H,rfl⟩ ?_ ?_) ⟨rfl,rfl,rfl,rfl,rfl,rfl,rfl,rfl,trivial⟩ trivial rfl
 ·rintro _ ⟨_,_,_,_,_,_,_,_,_,H,_⟩
  cases H
 clear H hK1
 rintro k ih1 _ ⟨hK1,x0,x1,x5,x6,x24,x25,x29,x30,H,rfl⟩
 unfold impl_gap.l1 at H
 refine s2 (iL (k:=nl (sq ?_)))
 rcases ei H with ⟨h10,H⟩|⟨h10,H⟩
 ·refine an (df h10) ?_
  refine ex (rg (iA (k:=mI (k:=nl ?_))))
  exact AGr.canon id (ih0 _ (by omega) _ ⟨by omega,_,_,_,_,_,H,rfl⟩) ⟨rfl,rfl,rfl,rfl,rfl,trivial⟩ trivial rfl
 refine ay (dt h10) ?_
 refine sp (sq (bk (s2 (mI (k:=mI (k:=nl (s2 (mR (k:=mI (k:=?_))))))))))
 obtain ⟨h11,H⟩:=io H
 obtain ⟨h12,H⟩:=io H
 refine ixx ⟨h11,h12⟩ T143 Tryz.underlying37 (R142 h11 h12) (k:=oP T143 (k:=mR (k:=mI (k:=iA (k:=mR (k:=jl Tryz.underlying37 (k:=?_)))))))
 obtain ⟨h13,H⟩:=oi H
 refine jr (r:=Int.tmod (wrap64 (x6+1)) (x0.length:Int)) h13 (k:=?_)
 obtain ⟨h14,H⟩:=io H
 obtain ⟨h15,H⟩:=io H
 refine ixx ⟨h14,h15⟩ T143 Tryz.underlying37 (R142 h14 h15) (k:=oP T143 (k:=mR (k:=mI (k:=?_))))
 obtain ⟨h16,H⟩:=io H
 obtain ⟨h17,H⟩:=io H
 refine ixx ⟨h16,h17⟩ T143 Tryz.underlying37 (R142 h16 h17) (k:=oP T143 (k:=mR (k:=mI (k:=iA (k:=mR (k:=jl Tryz.underlying37 (k:=?_)))))))
 obtain ⟨h18,H⟩:=oi H
 refine jr (r:=Int.tmod (wrap64 (x30+1)) (x1.length:Int)) h18 (k:=?_)
 obtain ⟨h19,H⟩:=io H
 obtain ⟨h20,H⟩:=io H
 refine ixx ⟨h19,h20⟩ T143 Tryz.underlying37 (R142 h19 h20) (k:=oP T143 (k:=?_))
 obtain ⟨t21,e22,H⟩:=bo H
 refine cr rfl (impl_betweenSegments.ok e22) (qg (qg (qg (qg qn)))) (k:=mI (k:=?_))
 refine RA.nil (fun _=>by kernel_rfl) ?_
 refine s2 (mI (k:=iL (k:=mB (k:=?_))))
 rcases ie H with ⟨h23,H⟩|⟨h23,H⟩
 ·iterate 3 refine sk (dt h23) (k:=?_)
  refine pB (dt h23) (k:=nl ?_)
  refine ay rfl ?_
  refine rg (mI (k:=mI (k:=nl (rg (iA (k:=mI (k:=nl ?_)))))))
  exact AGr.canon id (ih1 _ (by omega) _ ⟨by omega,_,_,_,_,_,_,_,_,H,rfl⟩) ⟨rfl,rfl,rfl,rfl,rfl,rfl,rfl,rfl,trivial⟩ trivial rfl
 refine mI (hg:=gy (df h23)) (k:=mI (hg:=gy (df h23)) (k:=iL (hg:=gy (df h23)) (k:=qB (df h23) (k:=nl ?_))))
 rcases ei H with ⟨h24,H⟩|⟨h24,H⟩
 ·refine an (df h24) ?_
  refine sp (rg (iA (k:=mI (k:=nl ?_))))
  exact AGr.canon id (ih1 _ (by omega) _ ⟨by omega,_,_,_,_,_,_,_,_,H,rfl⟩) ⟨rfl,rfl,rfl,rfl,rfl,rfl,rfl,rfl,trivial⟩ trivial rfl
 refine ay (dt h24) ?_
 refine rg (mI (k:=mI (k:=nl (rg (iA (k:=mI (k:=nl ?_)))))))
 exact AGr.canon id (ih1 _ (by omega) _ ⟨by omega,_,_,_,_,_,_,_,_,H,rfl⟩) ⟨rfl,rfl,rfl,rfl,rfl,rfl,rfl,rfl,trivial⟩ trivial rfl
def impl_tooNear.f (k:Nat) (l0 l1:List S142) (a2_0 a2_1 a2_2 a2_3:Int):Option (Bool):=(impl_apart.f k l0 l1).bind fun t1=>(if t1=true then ((impl_gap.f k l0 l1).bind fun t4=>(some (decide (t4 < a2_0)))) else (some true))
theorem impl_tooNear.ok {k:Nat} {l0 l1:List S142} {a2_0 a2_1 a2_2 a2_3:Int} {r:Bool} (H:impl_tooNear.f k l0 l1 a2_0 a2_1 a2_2 a2_3=some r):OkF Tryz.prog 50 [vR 143 (l0.map c142),vR 143 (l1.map c142),.agg [cI a2_0,cI a2_1,cI a2_2,cI a2_3]] [] (vB r) []:=by
 unfold impl_tooNear.f at H
 refine o1 19 6 Tryz.func50 fun w0 S=>?_
 refine s2 (jb 200 (k:=mB (k:=nl (s2 (mR (k:=mR (k:=?_)))))))
 obtain ⟨t1,e2,H⟩:=bo H
 refine cr rfl (impl_apart.ok e2) (qd (qd qn)) (k:=uN (k:=mB (k:=?_)))
 rcases ei H with ⟨h3,H⟩|⟨h3,H⟩
 ·iterate 6 refine sk (cn (bf h3)) (k:=?_)
  refine pB (cn (bf h3)) (k:=mB (k:=?_))
  refine RA.nil (fun _=>by kernel_rfl) ?_
  cases H
  exact rt r1
 refine mR (hg:=gy (cn h3)) (k:=mR (hg:=gy (cn h3)) (k:=?_))
 obtain ⟨t4,e5,H⟩:=bo H
 refine cr rfl (impl_gap.ok e5) (qd (qd qn)) (hg:=gy (cn h3)) (k:=fB 0 D49_0 (hg:=gy (cn h3)) (k:=lI T2 (hg:=gy (cn h3)) (k:=iL (hg:=gy (cn h3)) (k:=qB (cn h3) (k:=mB (k:=?_))))))
 refine RA.nil (fun _=>by kernel_rfl) ?_
 cases H
 exact rt r1
def impl_NestFaults_1.f (a0_0 a0_1 a0_2 a0_3 a0_4 v_0_0:Int):Option (Bool):=some (a0_0 == v_0_0)
theorem impl_NestFaults_1.ok {a0_0 a0_1 a0_2 a0_3 a0_4 v_0_0:Int} {r:Bool} (H:impl_NestFaults_1.f a0_0 a0_1 a0_2 a0_3 a0_4 v_0_0=some r):OkF Tryz.prog 47 [.agg [cI a0_0,cI a0_1,cI a0_2,cI a0_3,cI a0_4],.c (.d (.ro [.v (.int .i64 v_0_0)]))] [] (vB r) []:=by
 unfold impl_NestFaults_1.f at H
 refine o1 8 3 Tryz.func47 fun w0 S=>?_
 cases H
 exact s2 (jb 200 (k:=mB (k:=nl (s2 (fB 0 D82_0 (k:=lI T2 (k:=oI T2 (k:=iEq (k:=mB (k:=nl (rt r1)))))))))))
def slices_IndexFunc_impl_Placement__impl_NestFaults_1.l0:Nat→List S81→Int→Int→Int→Option (Int)
 | 0,_,_,_,_=>none
 | k+1,x0,x1_0_0,x7,x8=>if x8 < x7 then (if 0≤x8 then (if x8 < (x0.length:Int) then ((impl_NestFaults_1.f ((rd81 x0 x8).f0) ((rd81 x0 x8).f1) ((rd81 x0 x8).f2) ((rd81 x0 x8).f3) ((rd81 x0 x8).f4) x1_0_0).bind fun t4=>(if t4=true then (some x8) else (slices_IndexFunc_impl_Placement__impl_NestFaults_1.l0 k x0 x1_0_0 x7 (wrap64 (x8+1))))) else (none)) else (none)) else (some (-1))
def slices_IndexFunc_impl_Placement__impl_NestFaults_1.f (k:Nat) (l0:List S81) (v1_0_0:Int):Option (Int):=slices_IndexFunc_impl_Placement__impl_NestFaults_1.l0 k l0 v1_0_0 (l0.length:Int) 0
theorem slices_IndexFunc_impl_Placement__impl_NestFaults_1.ok {k:Nat} {l0:List S81} {v1_0_0 r:Int} (H:slices_IndexFunc_impl_Placement__impl_NestFaults_1.f k l0 v1_0_0=some r):OkF Tryz.prog 46 [vR 82 (l0.map c81),.c (.d (.fn 47 [.ro [.v (.int .i64 v1_0_0)]]))] [] (vI r) []:=by
 unfold slices_IndexFunc_impl_Placement__impl_NestFaults_1.f at H
 refine o1 19 4 Tryz.func46 fun w0 S=>?_
 refine s2 (mI (k:=nl (sq (s2 (mR (k:=jl Tryz.underlying47 (k:=mI (k:=nl (bk (lp ?_))))))))))
 obtain ⟨K0,hK0,gK0⟩:=kk k
 refine AGr.canon id (AGr.loopI (n:=k) (fun k s=>k≤K0∧∃ x0 x1_0_0 x7 x8,slices_IndexFunc_impl_Placement__impl_NestFaults_1.l0 k x0 x1_0_0 x7 x8=some r∧s=St.of [(0,vR 82 (x0.map c81)),(1,.c (.d (.fn 47 [.ro [.v (.int .i64 x1_0_0)]]))),(7,vI x7),(8,vI x8)] []) ⟨hK0,_,_,_,_,H,rfl⟩ ?_ ?_) ⟨rfl,rfl,rfl,rfl,trivial⟩ trivial rfl
 ·rintro _ ⟨_,_,_,_,_,H,_⟩
  cases H
 clear H hK0
 rintro k ih0 _ ⟨hK0,x0,x1_0_0,x7,x8,H,rfl⟩
 unfold slices_IndexFunc_impl_Placement__impl_NestFaults_1.l0 at H
 refine s2 (iL (k:=nl (sq ?_)))
 rcases ei H with ⟨h1,H⟩|⟨h1,H⟩
 ·refine an (df h1) ?_
  cases H
  exact ex (s2 (mI (k:=nl (rt r1))))
 refine ay (dt h1) ?_
 refine sp (sq (bk (s2 (mI (k:=mI (k:=nl (s2 (mv (.c (.d (.fn _ _))) (k:=mR (k:=mI (k:=?_)))))))))))
 obtain ⟨h2,H⟩:=io H
 obtain ⟨h3,H⟩:=io H
 refine ixx ⟨h2,h3⟩ T82 Tryz.underlying47 (R81 h2 h3) (k:=ov (.agg [_,_,_,_,_]) T82 (k:=?_))
 obtain ⟨t4,e5,H⟩:=bo H
 refine a_callW (v:=vB t4) (nk:=[]) (L:=[]) ?_ rfl rfl (impl_NestFaults_1.ok e5) id (qg qn) rfl trivial trivial trivial rfl
 refine nl ?_
 rcases ie H with ⟨h6,H⟩|⟨h6,H⟩
 ·refine ay h6 ?_
  cases H
  exact s2 (mI (k:=mI (k:=nl (rt r1))))
 refine an (bf h6) ?_
 refine sp (rg (iA (k:=mI (k:=nl ?_))))
 exact AGr.canon id (ih0 _ (by omega) _ ⟨by omega,_,_,_,_,H,rfl⟩) ⟨rfl,rfl,rfl,rfl,trivial⟩ trivial rfl
end Go.Proofs.YticimffljcljoaaGreat.PFnExactIsNesting

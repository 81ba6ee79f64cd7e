/- The abstract machine: results in variables, cuts read and written. No condition. -/
import Derived.Test.YticimffljcljoaaGreatAnC
set_option linter.unusedVariables false
set_option linter.unusedSimpArgs false
namespace Go.Proofs.YticimffljcljoaaGreatM
open Go Go.RowKit
section
variable {P : Program} {N : Nat} {w0 : World} {S : Fx} {s : St} {w : World} {a : Act} {c : Code}
inductive RetL (P:Program) (rs:List Tmp) (avs:List AV) (m1:List (Nat×Cont)):List (Tmp×TypeId)→St→Prop
 | nil {s:St} (h:RetP rs avs m1 s):RetL P rs avs m1 [] s
 | cell {s:St} {t:Tmp} {ty:TypeId} {rest:List (Tmp×TypeId)} {z b:Nat} {zz:List Value} {g:Bool} {κ:Nat} {bt:TypeId} {cs:List Cell} (hti:tyi P ty=some (z,b,zz,g)) (h1:s.t t = .c (.ptr κ 0)) (h2:s.m κ=some (.box bt cs)) (hq:fitB 0 z cs.length g=true) (h:RetL P rs avs m1 rest ⟨putT s.t (some (t,mkAV g ((cs.drop 0).take z))),s.m⟩):RetL P rs avs m1 ((t,ty)::rest) s
theorem put_get {a:Act} {t:Nat} {u:Value} (ht:t < a.tmps.size):(a.put (some t) u).tmps.getD t undef=u:=by
 simp [Act.put,Array.getElem?_setIfInBounds,ht]
theorem put_ne {a:Act} {t n:Nat} {u:Value} (ht:n≠t):(a.put (some t) u).tmps.getD n undef=a.tmps.getD n undef:=by
 simp [Act.put,Array.getElem?_setIfInBounds,Ne.symm ht]
theorem retL_run {rs:List Tmp} {avs:List AV} {m1:List (Nat×Cont)}:∀ {cells:List (Tmp×TypeId)} {s:St} {a:Act},(cells.map (·.1)).Nodup→(∀ p∈cells,p.1 < N)→Rel P N w0 S s a w→RetL P rs avs m1 cells s→
  ∃ a2 s2,Rel P N w0 S s2 a2 w∧RetP rs avs m1 s2∧(∀ p∈cells,∃ ad,a.tmps.getD p.1 undef = .pointer (some ad)∧(loadVar p.2 ad).run P w = .ok (a2.tmps.getD p.1 undef) w)∧∀ t,t∉cells.map (·.1)→a2.tmps.getD t undef=a.tmps.getD t undef
 | [],s,a,_,_,hr,h=>by
  cases h with
  | nil h=>exact ⟨a,s,hr,h,fun p hp=>(by cases hp),fun t _=>rfl⟩
 | (t,ty)::rest,s,a,hnd,hlt,hr,h=>by
  cases h with
  | cell hti h1 h2 hq h=>
   rename_i z b zz g κ bt cs
   have htN:t < N:=hlt _ List.mem_cons_self
   have hnd':=List.nodup_cons.1 (by simpa using hnd:(t::rest.map (·.1)).Nodup)
   obtain ⟨ρ,F,hr'⟩:=hr
   have hx:=hr'.tmps t
   rw [h1] at hx
   cases hx with
   | c hx=>
    obtain ⟨ty',cs',g',q2,q3,q4⟩:=hx
    obtain ⟨g2,us,q5,q6,q7,q8,q9⟩:=hr'.mem κ _ h2
    rw [q3] at q5
    injection q5 with q5
    injection q5 with q5
    injection q5 with q5
    subst q5
    have hp2:=fitB_spec hq
    have hl:=q7.len
    have hall:=(q7.drop 0).take z
    have hlen:((cs.drop 0).take z).length=z:=by rw [List.length_take,List.length_drop]; omega
    obtain ⟨u,h10,h11,h12⟩:=mkAV_rel (z:=z) hall (g:=g) (fun hg=>by rw [hlen,hp2.2 hg])
    have hload:=run_loadVar (w:=w) (ad:=⟨g',0,none⟩) hti ((us.drop 0).take z) (by rw [← hall.len,hlen]) hp2.2 h11 h12 (fun j y hj=>by
     rw [add_at,box_cell q6]
     rw [List.getElem?_take] at hj
     split at hj
     ·rwa [List.getElem?_drop] at hj
     ·cases hj)
    have hput:=hr'.put (d:=t) htN h10
    have hput':Rel P N w0 S ⟨putT s.t (some (t,mkAV g ((cs.drop 0).take z))),s.m⟩ (a.put (some t) u) w:=⟨ρ,F,by rw [putT_upd]; exact hput⟩
    obtain ⟨a2,s2,r1,r2,r3,r4⟩:=retL_run hnd'.2 (fun p hp=>hlt p (List.mem_cons_of_mem _ hp)) hput' h
    have hsz:t < a.tmps.size:=by rw [hr'.size]; exact htN
    refine ⟨a2,s2,r1,r2,fun p hp=>?_,fun n hn=>?_⟩
    ·rcases List.mem_cons.1 hp with rfl|hp
     ·refine ⟨_,q4,?_⟩
      rw [r4 t hnd'.1,put_get hsz]
      exact hload
     ·obtain ⟨ad,k1,k2⟩:=r3 p hp
      have hne:p.1≠t:=fun he=>hnd'.1 (by rw [← he]; exact List.mem_map.2 ⟨p,hp,rfl⟩)
      exact ⟨ad,(put_ne hne).symm.trans k1,k2⟩
    ·simp only [List.map_cons,List.mem_cons,not_or] at hn
     rw [r4 n hn.2,put_ne hn.1]
theorem OkF.ofC {f:FuncId} {fn:Func} {as:List AV} {m0 m1:List (Nat×Cont)} {avs:List AV} {rs:List Tmp} {res:AV} (cells:List (Tmp×TypeId)) (hf:P.funcs[f]?=some fn) (hb:fn.body=some c) (hN:fn.ntmps=N) (hr:∀ tmps tmps2 w,(∀ p∈cells,∃ ad,tmps.getD p.1 undef = .pointer (some ad)∧(loadVar p.2 ad).run P w = .ok (tmps2.getD p.1 undef) w)→(∀ t,t∉cells.map (·.1)→tmps2.getD t undef=tmps.getD t undef)→(results fn tmps).run P w = .ok (resV rs tmps2) w)
  (hnd:(cells.map (·.1)).Nodup) (hlt:cells.all (fun p=>Nat.blt p.1 N)=true) (hnm:(fn.name == "runtime.NumGoroutine")=false)
  (hle:Nat.ble as.length N=true) (hlen:rs.length=avs.length) (hres:resOf avs=res) (hk:avs.all noTup=true) (h:∀ w0 S,AG P N w0 S c (retQ (RetL P rs avs m1 cells)) (St.of (ix 0 as) m0)):OkF P f as m0 res m1:=
 OkF.ofG hf hb hN (fun w0 S s a w hrel hR=>by
  obtain ⟨a2,s2,r1,r2,r3,r4⟩:=retL_run hnd (fun p hp=>blt (List.all_eq_true.1 hlt p hp)) hrel hR
  exact ⟨a2,s2,r1,r2,hr _ _ _ r3 r4⟩) hnm hle hlen hres hk h
theorem rc_cc {fn:Func} {a b:Tmp} {ta tb:TypeId} (h:fn.results=#[.cell a ta,.cell b tb]) (tmps tmps2:Array Value) (w:World) (h1:∀ p∈[(a,ta),(b,tb)],∃ ad,tmps.getD p.1 undef = .pointer (some ad)∧(loadVar p.2 ad).run P w = .ok (tmps2.getD p.1 undef) w) (h2:∀ t,t∉[(a,ta),(b,tb)].map (·.1)→tmps2.getD t undef=tmps.getD t undef):
  (results fn tmps).run P w = .ok (resV [a,b] tmps2) w:=by
 obtain ⟨x,x1,x2⟩:=h1 (a,ta) (by simp)
 obtain ⟨y,y1,y2⟩:=h1 (b,tb) (by simp)
 rw [Array.getD_eq_getD_getElem?] at x1 y1
 simp [results,h,x1,x2,y1,y2,asAddr,resV]
variable {o : Oper}
theorem rel_cut {ok:Nat→Prop} {m:Nat→Option Cont} {ρ:Nat→Value} {κ lo n:Nat} {u:Value} (h:AVRel P w ok m ρ (.c (.cut κ lo n)) u):CellRel P w ok m ρ (.cut κ lo n) u:=by
 cases h with
 | c h=>exact h
theorem s_ixC {x i:Operand} {ty e e':TypeId} {k:IntKind} {iv:Int} {sz b:Nat} {z:List Value} {g:Bool} {κ lo n:Nat} {css:List (List DV)} (ho:o.op = .indexAddr ty x i) (hty:P.underlying ty=some (.slice e)) (hti:tyi P e=some (sz,b,z,g)) (hi:s.ev i = .c (.d (.v (.int k iv)))) (hx:s.ev x = .c (.cut κ lo n)) (hm:s.m κ=some (.row e' css)) (hse:P.cellsOf e'=sz) (hp:0≤iv∧iv < n) (hd:∀ n,o.dst=some n→n < N):
  SoundOp P N w0 S o s ⟨updO s.t o.dst (.c (.eptr κ ((lo:Int)+iv).toNat 0)),s.m⟩:=by
 refine sound_val hd fun a w ρ F hr=>?_
 have hix:=hr.ev i
 rw [hi] at hix
 have hxv:=hr.ev x
 rw [hx] at hxv
 obtain ⟨e1,css1,A,c,q1,q2,q3,q4,q5,q6⟩:=rel_cut hxv
 rw [hm] at q1
 injection q1 with q1
 injection q1 with q1 q1'
 subst q1 q1'
 obtain ⟨g',n',c',q7,rfl⟩:=q6 (by omega)
 have hidx:((lo:Int)+iv).toNat=lo+iv.toNat:=by omega
 refine ⟨.pointer (some ⟨g',(lo+iv.toNat)*sz,none⟩),?_,.c ?_⟩
 ·unfold execOp
  rw [ho]
  simp only [q3,rel_v hix]
  simp [Instr.indexAt,asIntOf,run_underlying hty,hp.1,hp.2,run_sizeOf_tyi hti,add_at,hse,Nat.add_mul]
 ·rw [hidx]
  exact ⟨e',css,g',n',c',hm,by omega,q7,by rw [hse]; rfl⟩
variable {ops : Array Oper} {draw : Bool} {pre : List (Oper × Eff)} {rest : List Oper} {t : Nat → AV} {m : Nat → Option Cont} {K : St → Prop} {G : List (Operand × AV)} {d : Nat}
theorem a_ixC {x i:Operand} {ty e:TypeId} {k1:IntKind} {iv:Int} {sz b:Nat} {z:List Value} {g:Bool} {κ lo n:Nat} {css:List (List DV)} (k:RV P N w0 S draw ops pre rest t m K o G [(x,.c (.cut κ lo n)),(i,gV (.int k1 iv))] [(κ,.row e css)] d (.c (.eptr κ ((lo:Int)+iv).toNat 0))) (hp:0≤iv∧iv < n) (hti:tyi P e=some (sz,b,z,g)) (hu:P.underlying ty=some (.slice e)) (ho:o.op = .indexAddr ty x i:=by rfl) (hd:o.dst=some d:=by rfl) (hN:Nat.blt d N=true:=by rfl) (h1:St.ev ⟨t,m⟩ x = .c (.cut κ lo n):=by rfl) (h2:St.ev ⟨t,m⟩ i=gV (.int k1 iv):=by rfl) (hm:m κ=some (.row e css):=by rfl) (hg:Gs ops o ⟨t,m⟩ G:=by exact Gs.no rfl):RA P N w0 S draw ops pre (o::rest) ⟨t,m⟩ K:=
 RA.val hd hg k ⟨h1,h2,True.intro⟩ ⟨hm,True.intro⟩ (fun s hs hk=>s_ixC ho hu hti hs.2.1 hs.1 hk.1 (cellsOf_tyi hti) hp (dlt hd hN))
theorem sub_flat {ok:Nat→Prop} {m:Nat→Option Cont} {ρ:Nat→Value} {κ:Nat} {e0:TypeId} {css:List (List DV)} (hm:m κ=some (.row e0 css)) (hv:∀ cs∈css,cs.all isV=true) {c:Cell} {u:Value} (h:CellRel P w ok m ρ c u) (hd:c ≠ .dead):inK [] [κ] c=inK [] [] c:=by
 rw [inK_nil]
 cases c with
 | sub κ' i j n=>
  by_cases hk:κ'=κ
  ·subst hk
   obtain ⟨e,css1,cs,e',css',g,n',c',h1,h2,h3,_⟩:=h
   rw [hm] at h1
   injection h1 with h1
   injection h1 with h1 h1'
   subst h1 h1'
   have:=List.all_eq_true.1 (hv cs (List.mem_of_getElem? h2)) _ (List.mem_of_getElem? h3)
   cases this
  ·unfold inK subIn
   simp [Cell.uses,hk]
 | sptr κ' i j n q=>
  by_cases hk:κ'=κ
  ·subst hk
   obtain ⟨_,_,_,⟨e,css1,cs,e',css',g,n',c',h1,h2,h3,_⟩,_⟩:=h
   rw [hm] at h1
   injection h1 with h1
   injection h1 with h1 h1'
   subst h1 h1'
   have:=List.all_eq_true.1 (hv cs (List.mem_of_getElem? h2)) _ (List.mem_of_getElem? h3)
   cases this
  ·unfold inK subIn
   simp [Cell.uses,hk]
 | dead=>exact absurd rfl hd
 | _=>simp [inK,subIn,Cell.uses]
theorem flat_map {α:Type} {c:α→List DV} {l:List α} (h:∀ x,(c x).all isV=true):∀ cs∈l.map c,cs.all isV=true:=fun cs hcs=>by
 obtain ⟨x,_,rfl⟩:=List.mem_map.1 hcs
 exact h x
theorem a_stF {e e0:TypeId} {p x:Operand} {z b:Nat} {zz:List Value} {g:Bool} {κ i off:Nat} {css css':List (List DV)} {cs ds:List DV} {xs:List Cell} {v:AV} (k:RM P N w0 S draw ops pre rest t m K o G [(p,.c (.eptr κ i off)),(x,v)] [(κ,.row e0 css)] none [] [(κ,some (.row e0 css'))] [] []) (hv:∀ cs∈css,cs.all isV=true) (hi:css[i]?=some cs) (hti:tyi P e=some (z,b,zz,g)) (ho:o.op = .store e p x:=by rfl) (hd:o.dst=none:=by rfl) (hp:St.ev ⟨t,m⟩ p = .c (.eptr κ i off):=by rfl) (hm:m κ=some (.row e0 css):=by rfl) (hx:St.ev ⟨t,m⟩ x=v:=by rfl) (hxs:v.cells=some xs:=by rfl) (hds:cellsDV (fun _=>none) xs=some ds:=by rfl) (hD:ownKeys xs=[]:=by rfl) (hcss:css.set i (putL cs off ds)=css':=by rfl) (hok:xs.all Cell.okc=true:=by rfl) (hl:xs.length=z:=by rfl) (hb:Nat.ble (off+z) cs.length=true:=by rfl) (hg:Gs ops o ⟨t,m⟩ G:=by exact Gs.no rfl):RA P N w0 S draw ops pre (o::rest) ⟨t,m⟩ K:=
 RA.mem hg k ⟨hp,hx,True.intro⟩ ⟨hm,True.intro⟩ True.intro (fun s hs hk _=>by
  have:=s_storeElt (P:=P) (N:=N) (w0:=w0) (S:=S) (s:=s) (xs:=xs) (ds:=ds) ho hti hs.1 hk.1 hi (by rw [hs.2.1]; exact hxs) hok (cellsDV_congr hds (fun κ' hκ'=>by rw [hD] at hκ'; cases hκ')) (by rw [hD]; exact .nil) (by rw [hD]; simp) hl (ble hb) hd
  rw [hcss,hD] at this
  refine this.conv (fun a w ρ F hr=>?_)
  have hsub:∀ c u,CellRel P w (okm s.m F) s.m ρ c u→c ≠ .dead→inK [] [κ] c=inK [] [] c:=fun c u hc hd=>sub_flat hk.1 hv hc hd
  have e1:killT s.t [] [κ]=killT s.t [] []:=by
   rw [← killT_eq hr [] [] hsub]
   rfl
  have e2:killK s.m [] [κ]=killK s.m [] []:=by
   funext κ'
   rw [← killK_eq hr [] [] hsub κ']
   rfl
  rw [e1,e2]
  rfl)
theorem rT {L:List (Nat×Cont)} {c:Cell} {ds':List DV} (ds r:List DV) (h:Rd L c (.ro ds')) (hd:ds'=ds++r:=by rfl) (hne:ds.isEmpty=false:=by rfl):Rd L c (.ro ds):=by
 subst hd
 exact .pre c ds r (by rintro rfl; cases hne) h
theorem rF1 {L:List (Nat×Cont)} {f:FuncId} {κ:Nat} {d:DV} (h:Rd L (.ptr κ 0) d):Rd L (.fnc f [κ]) (.fn f [d]):=rF (fC h f0)
theorem rQ {L:List (Nat×Cont)} {x:DV}:Rd L (.d x) x := .d x
variable {L : List (Nat × Cont)} {τ : Nat → Nat} {as bs : List AV}
theorem mcU {κ μ lo n lo' n':Nat} (r:All2 (MA L τ) as bs) (h:τ μ=κ:=by rfl) (hlo:lo=lo':=by rfl) (hn:n=n':=by rfl):All2 (MA L τ) (.c (.cut κ lo n)::as) (.c (.cut μ lo' n')::bs) := .cons (.c (.cut h hlo hn)) r
end
end Go.Proofs.YticimffljcljoaaGreatM

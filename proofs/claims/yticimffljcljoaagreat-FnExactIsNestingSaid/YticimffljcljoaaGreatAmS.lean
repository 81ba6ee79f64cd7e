/- The abstract machine: a row of the call's own that is only read from now on. No condition. -/
import Derived.Test.YticimffljcljoaaGreatAmR
set_option linter.unusedVariables false
set_option linter.unusedSimpArgs false
namespace Go.Proofs.YticimffljcljoaaGreatM
open Go Go.RowKit
def Cell.fz (κ:Nat) (e:TypeId) (css:List (List DV)):Cell→Cell
 | .own k n=>cond (Nat.beq k κ) (.d (.row e css)) (.own k n)
 | .sub k i j n=>cond (Nat.beq k κ) (match css[i]? with
  | some cs=>match cs[j]? with
   | some (.row e' css') => .d (.row e' css')
   | _ => .dead
  | none => .dead) (.sub k i j n)
 | .sptr k i j n q=>cond (Nat.beq k κ) .dead (.sptr k i j n q)
 | .cut k lo n=>cond (Nat.beq k κ) .dead (.cut k lo n)
 | .eptr k i off=>cond (Nat.beq k κ) .dead (.eptr k i off)
 | c=>c
def El.fz (κ:Nat) (e:TypeId) (css:List (List DV)):El→El
 | .c x => .c (x.fz κ e css)
 | .agg cs => .agg (cs.map (Cell.fz κ e css))
def AV.fz (κ:Nat) (e:TypeId) (css:List (List DV)):AV→AV
 | .c x => .c (x.fz κ e css)
 | .agg cs => .agg (cs.map (Cell.fz κ e css))
 | .tup xs => .tup (xs.map (El.fz κ e css))
def Cont.fz (κ:Nat) (e:TypeId) (css:List (List DV)):Cont→Cont
 | .box ty cs => .box ty (cs.map (Cell.fz κ e css))
 | .row e' css' => .row e' css'
section
variable {P : Program} {N : Nat} {w0 : World} {S : Fx} {s : St} {Q : Exit → St → Prop} {c : Code} {w : World} {a : Act} {ρ : Nat → Value} {F : Nat → Nat → Prop}
def frozen (s:St) (κ:Nat) (e:TypeId) (css:List (List DV)):St:=⟨fun n=>(s.t n).fz κ e css,fun k=>cond (Nat.beq k κ) none ((s.m k).map (Cont.fz κ e css))⟩
theorem Rel.freeze {κ:Nat} {e:TypeId} {css:List (List DV)} (hm:s.m κ=some (.row e css)) (h:Rel P N w0 S s a w):Rel P N w0 S (frozen s κ e css) a w:=by
 obtain ⟨ρ,F,h⟩:=h
 have hn0:s.m κ≠none:=by rw [hm]; simp
 have hlive:∀ k,(frozen s κ e css).m k≠none→k≠κ∧s.m k≠none:=fun k hk=>by
  have hk':cond (Nat.beq k κ) none ((s.m k).map (Cont.fz κ e css))≠none:=hk
  by_cases he:k=κ
  ·subst he
   rw [show Nat.beq k k=true from Nat.beq_refl k] at hk'
   exact absurd rfl hk'
  ·rw [nb_ne he] at hk'
   exact ⟨he,fun h0=>hk' (by rw [h0]; rfl)⟩
 have hmk:∀ k,k≠κ→(frozen s κ e css).m k=(s.m k).map (Cont.fz κ e css):=fun k hk=>by
  show cond (Nat.beq k κ) none ((s.m k).map (Cont.fz κ e css))=_
  rw [nb_ne hk]; rfl
 have hok:∀ k,okm s.m F k→okm (frozen s κ e css).m F k:=fun k hk κ' hn hF=>hk κ' (hlive κ' hn).2 hF
 have hokκ:∀ k,F κ k→okm (frozen s κ e css).m F k:=fun k hk κ' hn hF=>(hlive κ' hn).1 (h.apart κ' κ k (hlive κ' hn).2 hn0 hF hk)
 have hdeep:∀ {d:DV} {u:Value} ,Deep P w (okm s.m F) d u→Deep P w (okm (frozen s κ e css).m F) d u:=fun hd=>hd.mono (fun k hk _=>⟨rfl,hok k hk⟩)
 have hcell:∀ c u,CellRel P w (okm s.m F) s.m ρ c u→CellRel P w (okm (frozen s κ e css).m F) (frozen s κ e css).m ρ (c.fz κ e css) u:=by
  intro c u hc
  cases c with
  | d x=>exact hdeep hc
  | dead=>exact True.intro
  | own k n=>
   show CellRel P w _ _ ρ (cond (Nat.beq k κ) (.d (.row e css)) (.own k n)) u
   obtain ⟨⟨e1,css1,h1,h2⟩,h3,h4⟩:=hc
   by_cases hk:k=κ
   ·subst hk
    rw [show Nat.beq k k=true from Nat.beq_refl k]
    show Deep P w _ (.row e css) u
    rw [h3]
    exact Own.deep (h.mem k _ hm) hokκ
   ·rw [nb_ne hk]
    exact ⟨⟨e1,css1,by rw [hmk k hk,h1]; rfl,h2⟩,h3,h4⟩
  | sub k i j n=>
   show CellRel P w _ _ ρ (cond (Nat.beq k κ) (match css[i]? with
    | some cs=>match cs[j]? with
     | some (.row e' css') => .d (.row e' css')
     | _ => .dead
    | none => .dead) (.sub k i j n)) u
   obtain ⟨e2,css2,cs2,e3,css3,g,n',c',h1,h2,h3,h4,h5,h6,h7⟩:=hc
   by_cases hk:k=κ
   ·subst hk
    rw [show Nat.beq k k=true from Nat.beq_refl k]
    rw [hm] at h1
    injection h1 with h1
    injection h1 with h1 h1'
    subst h1 h1'
    obtain ⟨fl,Fs,how,hlen,hcc,_,_,_,hF,_⟩:=Own.row_inv (h.mem k _ hm)
    obtain ⟨h8,_⟩:=flat_at how.1 hlen h2 h3
    have h9:=hcc i j cs2 _ _ h2 h3 (List.getElem?_eq_getElem h8)
    have h10:w.cell? ⟨g,i*P.cellsOf e+j,none⟩=some fl[i*P.cellsOf e+j]:=by
     have:=how.cells (g:=g) (by rw [h5]; rfl) _ _ (List.getElem?_eq_getElem h8)
     rwa [add_at,Nat.zero_add] at this
    have h11:u=fl[i*P.cellsOf e+j]:=Option.some.inj (h6.symm.trans h10)
    simp only [h2,h3,cond_true]
    rw [h11]
    exact h9.deep (fun k' hk'=>hokκ k' ((hF k').2 (.inr ⟨i,j,hk'⟩)))
   ·rw [nb_ne hk]
    exact ⟨e2,css2,cs2,e3,css3,g,n',c',by rw [hmk k hk,h1]; rfl,h2,h3,h4,h5,h6,h7⟩
  | sptr k i j n q=>
   show CellRel P w _ _ ρ (cond (Nat.beq k κ) .dead (.sptr k i j n q)) u
   by_cases hk:k=κ
   ·subst hk
    rw [show Nat.beq k k=true from Nat.beq_refl k]
    exact True.intro
   ·rw [nb_ne hk]
    obtain ⟨g2,n2,c2,⟨e2,css2,cs2,e3,css3,g,n',c',h1,h2⟩,rfl⟩:=hc
    exact ⟨g2,n2,c2,⟨e2,css2,cs2,e3,css3,g,n',c',by rw [hmk k hk,h1]; rfl,h2⟩,rfl⟩
  | cut k lo n=>
   show CellRel P w _ _ ρ (cond (Nat.beq k κ) .dead (.cut k lo n)) u
   by_cases hk:k=κ
   ·subst hk
    rw [show Nat.beq k k=true from Nat.beq_refl k]
    exact True.intro
   ·rw [nb_ne hk]
    obtain ⟨e1,css1,A,c',h1,h2⟩:=hc
    exact ⟨e1,css1,A,c',by rw [hmk k hk,h1]; rfl,h2⟩
  | eptr k i off=>
   show CellRel P w _ _ ρ (cond (Nat.beq k κ) .dead (.eptr k i off)) u
   by_cases hk:k=κ
   ·subst hk
    rw [show Nat.beq k k=true from Nat.beq_refl k]
    exact True.intro
   ·rw [nb_ne hk]
    obtain ⟨e1,css1,g,n',c',h1,h2⟩:=hc
    exact ⟨e1,css1,g,n',c',by rw [hmk k hk,h1]; rfl,h2⟩
  | ptr k off=>
   obtain ⟨ty,cs,g,h1,h2⟩:=hc
   have hk:k≠κ:=by rintro rfl; rw [hm] at h1; cases h1
   exact ⟨ty,_,g,by rw [hmk k hk,h1]; rfl,h2⟩
  | fnc f κs=>
   obtain ⟨h1,h2⟩:=hc
   refine ⟨fun k hk=>?_,h2⟩
   obtain ⟨ty,cs,h3⟩:=h1 k hk
   have hk':k≠κ:=by rintro rfl; rw [hm] at h3; cases h3
   exact ⟨ty,_,by rw [hmk k hk',h3]; rfl⟩
 refine ⟨ρ,F,h.defers,h.size,fun n=>?_,fun k c hc=>?_,fun k k' x h1 h2 h3 h4=>h.apart k k' x (hlive k h1).2 (hlive k' h2).2 h3 h4,fun k x h1 h2=>h.base k x (hlive k h1).2 h2,h.frame,fun k hlt hn=>h.pin k hlt (hlive k hn).2⟩
 ·show AVRel P w _ _ ρ ((s.t n).fz κ e css) _
  have ht:=h.tmps n
  generalize a.tmps.getD n undef=u at ht ⊢
  generalize s.t n=v at ht ⊢
  cases ht with
  | c hc=>exact .c (hcell _ _ hc)
  | agg hc=>exact .agg (hc.map_left _ hcell)
  | tup hc=>
   refine .tup (hc.map_left _ (fun x u hx=>?_))
   cases hx with
   | c hc=>exact .c (hcell _ _ hc)
   | agg hc=>exact .agg (hc.map_left _ hcell)
 ·obtain ⟨hk,hs⟩:=hlive k (by rw [hc]; simp)
  rw [hmk k hk] at hc
  obtain ⟨c0,h0,rfl⟩:=Option.map_eq_some_iff.1 hc
  have:=h.mem k c0 h0
  cases c0 with
  | box ty cs=>
   obtain ⟨g,us,h1,h2,h3,h4,h5⟩:=this
   exact ⟨g,us,h1,h2,h3.map_left _ hcell,h4,h5⟩
  | row e' css'=>exact this
theorem AG.freeze (κ:Nat) {e:TypeId} {css:List (List DV)} (k:AG P N w0 S c Q (frozen s κ e css)) (hm:s.m κ=some (.row e css):=by rfl):AG P N w0 S c Q s:=
 ⟨fun a w hr=>k.run a w (hr.freeze hm)⟩
theorem uses_no:Cell.uses (fun _=>false)=fun _=>false:=by
 funext c
 cases c <;> simp [Cell.uses]
variable {o : Oper}
theorem s_callF {f:FuncId} {xs:Array Operand} {tys:Array TypeId} {as:List AV} {L:List (Nat×Cont)} {e:TypeId} {css:List (List DV)} {n:Nat} {s0:St} {d:Nat} (ho:o.op = .call { callee := .value (.func f),args:=xs,argTypes:=tys }) (hc:OkF P f as [] (.c (.own 100 n)) [(100,.row e css)]) (he:∀ x∈xs.toList,s.ev x=s0.ev x) (ha:All2 (AVRd L) (xs.toList.map s0.ev) as) (hL:preK s L)
  (hd:o.dst=some d) (hN:d < N):SoundOp P N w0 S o s ⟨putT s.t (some (d,vR e css)),s.m⟩:=by
 rintro a w ⟨ρ,F,hr⟩
 obtain ⟨fn,q1,q2,q3⟩:=hc.fn
 have hargs:=args_rel (F0:=fun _ _=>False) (ρ0:=fun _=>default) hr hL he ha
 have hcall:=hc.run w (xs.toList.map a.eval) (fun _=>default) (fun _ _=>False) hargs ⟨fun κ c hc=>(by cases hc),fun κ κ' k h=>absurd rfl h⟩
 unfold Oper.wp
 rw [run_call ho q1 q2 q3]
 have harr:(xs.toList.map a.eval).toArray=xs.map a.eval:=by
  apply Array.ext'
  simp
 rw [harr] at hcall
 refine Calls.mono hcall (fun e' w' he=>?_)
 obtain ⟨u,ρ',F',rfl,hfr,hu,hrows,_,hnew⟩:=he
 have hno:∀ k,¬ blocks [] (fun _ _=>False) k:=fun k hb=>by obtain ⟨_,h,_⟩:=hb; exact h rfl
 have hfr':Fr (fun _=>False) w w':=hfr.mono (fun k hk _=>(hno k hk).elim)
 have hf:=hr.fresh (m1:=s.m) (ρ1:=ρ) (F1:=F) (fun _=>false) hfr' (fun κ _=>by
  rw [uses_no]
  cases s.m κ with
  | none=>rfl
  | some c=>simp [Cont_kill_no]) (fun _ _=>rfl) (fun _ _=>rfl) (fun κ k h=>(by cases h)) (fun _ κ c h=>(by cases h)) (fun κ κ' k h=>(by cases h)) (fun κ h=>(by cases h))
 have hs:(⟨fun n=>(s.t n).kill (Cell.uses fun _=>false),s.m⟩:St)=s:=by
  have:(fun n=>(s.t n).kill (Cell.uses fun _=>false))=s.t:=by
   funext n
   rw [uses_no]
   exact AV_kill_no _
  rw [this]
 rw [hs] at hf
 obtain ⟨_,hu2,_⟩:=rel_own hu
 have hown:Own P w' (F' 100) (.row e css) (ρ' 100):=hrows.mem 100 _ rfl
 show Rel P N w0 S _ (a.put o.dst u) w'
 rw [hd,putT_upd]
 refine ⟨ρ,F,hf.1.put hN (.c ?_)⟩
 show Deep P w' (okm s.m F) (.row e css) u
 rw [hu2]
 refine hown.deep (fun k hk κ hn hF=>?_)
 have h1:=(hnew 100 k (by simp [lk]) hk).resolve_right (hno k)
 have h2:=hr.lt hn hF
 omega
variable {ops : Array Oper} {draw : Bool} {pre : List (Oper × Eff)} {rest : List Oper} {t : Nat → AV} {m : Nat → Option Cont} {K : St → Prop} {G : List (Operand × AV)} {d : Nat}
theorem a_callF {f:FuncId} {xs:Array Operand} {tys:Array TypeId} {as:List AV} {L:List (Nat×Cont)} {e:TypeId} {css:List (List DV)} {n:Nat} (k:RV P N w0 S draw ops pre rest t m K o G (rdO ⟨t,m⟩ xs.toList) L d (vR e css)) (ho:o.op = .call { callee := .value (.func f),args:=xs,argTypes:=tys }) (hc:OkF P f as [] (.c (.own 100 n)) [(100,.row e css)])
  (ha:All2 (AVRd L) (xs.toList.map (St.ev ⟨t,m⟩)) as) (hL:preK ⟨t,m⟩ L) (hd:o.dst=some d:=by rfl) (hN:Nat.blt d N=true:=by rfl) (hg:Gs ops o ⟨t,m⟩ G:=by exact Gs.no rfl):RA P N w0 S draw ops pre (o::rest) ⟨t,m⟩ K:=
 RA.val hd hg k (preT_rdO _ _) hL (fun s hs hk=>by
  have:=s_callF (P:=P) (N:=N) (w0:=w0) (S:=S) (s:=s) ho hc (rdO_ev hs) ha hk hd (blt hN)
  rw [putT_upd] at this
  rw [hd]
  exact this)
theorem run_callV {f:FuncId} {x:Operand} {xs:Array Operand} {tys:Array TypeId} (ho:o.op = .call { callee := .value x,args:=xs,argTypes:=tys }) (he:a.eval x = .func (.func f) #[] #[]) {fn:Func} (h1:P.funcs[f]?=some fn) (h2:(fn.name == "runtime.NumGoroutine")=false) (h3:fn.body.isNone=false) (w:World):
  (execOp a.eval o).run P w = .ok (.enter f (xs.map a.eval)) w:=by
 unfold execOp
 rw [ho]
 have h2':¬ fn.name = "runtime.NumGoroutine":=by simpa using h2
 have h3':¬ fn.body=none:=fun h=>by rw [h] at h3; cases h3
 simp [resolve,Deferred.ofValue,he,invoke,callFunc,h1,h2',h3']
theorem fn_val {f:FuncId} {v:Value} (h:AVRel P w (okm s.m F) s.m ρ (.c (.d (.fn f []))) v):v = .func (.func f) #[] #[]:=by
 cases h with
 | c h=>
  have h1:Deep P w (okm s.m F) (.fn f []) v:=h
  generalize hd:DV.fn f []=d at h1
  cases h1 with
  | fn f' caps vals hh=>injection hd with h2 h3; subst h2 h3; rfl
  | _=>cases hd
theorem s_callV {f:FuncId} {x:Operand} {xs:Array Operand} {tys:Array TypeId} {as:List AV} {res v:AV} {ms L nk:List (Nat×Cont)} {s0:St} {d:Nat} (ho:o.op = .call { callee := .value x,args:=xs,argTypes:=tys }) (hx:s.ev x = .c (.d (.fn f []))) (hc:OkF P f as [] res ms) (he:∀ x∈xs.toList,s.ev x=s0.ev x) (ha:All2 (AVRd L) (xs.toList.map s0.ev) as) (hL:preK s L) (hn:preN s nk)
  (σ:Nat→Nat) (hnk:nkOk ms σ nk) (hk:okNew σ v nk=true) (hv:v.mapK σ=res) (hd:o.dst=some d) (hN:d < N):SoundOp P N w0 S o s ⟨putT (killT s.t [] []) (some (d,v)),putK (killK s.m [] []) nk []⟩:=by
 rintro a w ⟨ρ,F,hr⟩
 obtain ⟨fn,q1,q2,q3⟩:=hc.fn
 have hargs:=args_rel (F0:=fun _ _=>False) (ρ0:=fun _=>default) hr hL he ha
 have hcall:=hc.run w (xs.toList.map a.eval) (fun _=>default) (fun _ _=>False) hargs ⟨fun κ c hc=>(by cases hc),fun κ κ' k h=>absurd rfl h⟩
 have hxv:=hr.ev x
 rw [hx] at hxv
 unfold Oper.wp
 rw [run_callV ho (fn_val hxv) q1 q2 q3]
 have harr:(xs.toList.map a.eval).toArray=xs.map a.eval:=by
  apply Array.ext'
  simp
 rw [harr] at hcall
 refine Calls.mono hcall (fun e w' he=>?_)
 obtain ⟨u,ρ',F',rfl,hfr,hu,hrows,_,hnew⟩:=he
 have hno:∀ k,¬ blocks [] (fun _ _=>False) k:=fun k hb=>by obtain ⟨_,h,_⟩:=hb; exact h rfl
 subst hv
 obtain ⟨ρ1,F1,h1,h2⟩:=hr.made σ (hfr.mono (fun k hk _=>(hno k hk).elim)) hrows (fun κ k h3 h4=>(hnew κ k h3 h4).resolve_right (hno k)) hn hnk hk hu
 show Rel P N w0 S _ (a.put o.dst u) w'
 rw [hd,putT_upd]
 exact ⟨ρ1,F1,h1.put hN h2⟩
theorem a_callV {f:FuncId} {x:Operand} {xs:Array Operand} {tys:Array TypeId} {as:List AV} {res v:AV} {ms L nk:List (Nat×Cont)} (k:RM P N w0 S draw ops pre rest t m K o G ((x,.c (.d (.fn f [])))::rdO ⟨t,m⟩ xs.toList) L (some (d,v)) nk [] [] []) (ho:o.op = .call { callee := .value x,args:=xs,argTypes:=tys }) (hc:OkF P f as [] res ms) (σ:Nat→Nat) (ha:All2 (AVRd L) (xs.toList.map (St.ev ⟨t,m⟩)) as) (hL:preK ⟨t,m⟩ L) (hn:preN ⟨t,m⟩ nk) (hnk:nkOk ms σ nk) (hk:okNew σ v nk=true)
  (hx:St.ev ⟨t,m⟩ x = .c (.d (.fn f [])):=by rfl) (hv:v.mapK σ=res:=by rfl) (hd:o.dst=some d:=by rfl) (hN:Nat.blt d N=true:=by rfl) (hg:Gs ops o ⟨t,m⟩ G:=by exact Gs.no rfl):RA P N w0 S draw ops pre (o::rest) ⟨t,m⟩ K:=
 RA.mem hg k ⟨hx,preT_rdO _ _⟩ hL hn (fun s hs hk' hn'=>s_callV ho hs.1 hc (rdO_ev hs.2) ha hk' hn' σ hnk hk hv hd (blt hN))
end
end Go.Proofs.YticimffljcljoaaGreatM

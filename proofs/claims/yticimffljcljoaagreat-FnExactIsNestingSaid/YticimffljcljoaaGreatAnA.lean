/- The abstract machine: cuts, function literals with what they hold, texts made of bytes. No condition. -/
import Derived.Test.YticimffljcljoaaGreatAmZ
import Derived.Laws.BytesString
set_option linter.unusedVariables false
set_option linter.unusedSimpArgs false
namespace Go.Proofs.YticimffljcljoaaGreatM
open Go Go.RowKit
def optR (s:St):Option Operand→List (Operand×AV)
 | none=>[]
 | some x=>[(x,s.ev x)]
def bs (l:List Int):ByteArray:=l.foldl (fun r n=>r.push (UInt8.ofNat n.toNat)) ByteArray.empty
section
variable {P : Program} {N : Nat} {w0 : World} {S : Fx} {s s' : St} {w w1 : World} {a : Act} {ok : Nat → Prop} {m : Nat → Option Cont} {ρ : Nat → Value} {F : Nat → Nat → Prop} {o : Oper}
theorem optR_ev {x:Option Operand} (h:preT s' (optR s x)):optI s' x=optI s x:=by
 cases x with
 | none=>rfl
 | some x=>
  have h1:s'.ev x=s.ev x:=h.1
  simp only [optI]
  rw [h1]
theorem optR_pre (s:St) (x:Option Operand):preT s (optR s x):=by
 cases x with
 | none=>exact True.intro
 | some x=>exact ⟨rfl,True.intro⟩
theorem capsA_ev:∀ {xs:List Operand},preT s' (rdO s xs)→capsA s' xs=capsA s xs
 | [],_=>rfl
 | x::r,h=>by
  simp only [capsA]
  rw [h.1,capsA_ev (xs:=r) h.2]
theorem fn_vals {f:FuncId} {caps:List DV} {v:Value} (h:AVRel P w ok m ρ (.c (.d (.fn f caps))) v):∃ us:List Value,v = .func (.func f) #[] us.toArray∧All2 (Deep P w ok) caps us:=by
 cases h with
 | c h=>
  have h1:Deep P w ok (.fn f caps) v:=h
  generalize hd:DV.fn f caps=d at h1
  cases h1 with
  | fn f' caps' vals hh=>
   injection hd with h2 h3
   subst h2 h3
   refine ⟨_,rfl,All2.of_get (by simp) (fun i a b ha hb=>?_)⟩
   have hi:=(List.getElem?_eq_some_iff.1 ha).1
   rw [List.getElem?_map,List.getElem?_range hi] at hb
   injection hb with hb
   rw [← hb]
   exact hh i a ha
  | _=>cases hd
theorem run_callW {f:FuncId} {x:Operand} {xs:Array Operand} {tys:Array TypeId} {us:List Value} (ho:o.op = .call { callee := .value x,args:=xs,argTypes:=tys }) (he:a.eval x = .func (.func f) #[] us.toArray) {fn:Func} (h1:P.funcs[f]?=some fn) (h2:(fn.name == "runtime.NumGoroutine")=false) (h3:fn.body.isNone=false) (w:World):
  (execOp a.eval o).run P w = .ok (.enter f (xs.map a.eval++us.toArray)) w:=by
 unfold execOp
 rw [ho]
 have h2':¬ fn.name = "runtime.NumGoroutine":=by simpa using h2
 have h3':¬ fn.body=none:=fun h=>by rw [h] at h3; cases h3
 simp [resolve,Deferred.ofValue,he,invoke,callFunc,h1,h2',h3']
theorem s_callW {f:FuncId} {caps:List DV} {x:Operand} {xs:Array Operand} {tys:Array TypeId} {as bs:List AV} {res v:AV} {ms L nk:List (Nat×Cont)} {s0:St} {d:Nat} (ho:o.op = .call { callee := .value x,args:=xs,argTypes:=tys }) (hx:s.ev x = .c (.d (.fn f caps))) (hc:OkF P f bs [] res ms) (hbs:bs=as++caps.map fun d=>AV.c (.d d)) (he:∀ x∈xs.toList,s.ev x=s0.ev x) (ha:All2 (AVRd L) (xs.toList.map s0.ev) as) (hL:preK s L) (hn:preN s nk)
  (σ:Nat→Nat) (hnk:nkOk ms σ nk) (hk:okNew σ v nk=true) (hv:v.mapK σ=res) (hd:o.dst=some d) (hN:d < N):SoundOp P N w0 S o s ⟨putT (killT s.t [] []) (some (d,v)),putK (killK s.m [] []) nk []⟩:=by
 rintro a w ⟨ρ,F,hr⟩
 subst hbs
 obtain ⟨fn,q1,q2,q3⟩:=hc.fn
 have hargs:=args_rel (F0:=fun _ _=>False) (ρ0:=fun _=>default) hr hL he ha
 have hxv:=hr.ev x
 rw [hx] at hxv
 obtain ⟨us,hus,hcap⟩:=fn_vals hxv
 have hcap2:All2 (AVRel P w (okm (lk []) fun _ _=>False) (lk []) fun _=>default) (caps.map fun d=>AV.c (.d d)) us:=hcap.map_left _ (fun d u h => .c (Deep.mono h (fun k _ _=>⟨rfl,fun κ hn=>absurd rfl hn⟩)))
 have hcall:=hc.run w (xs.toList.map a.eval++us) (fun _=>default) (fun _ _=>False) (hargs.append hcap2) ⟨fun κ c hc=>(by cases hc),fun κ κ' k h=>absurd rfl h⟩
 unfold Oper.wp
 rw [run_callW ho hus q1 q2 q3]
 have harr:(xs.toList.map a.eval++us).toArray=xs.map a.eval++us.toArray:=by
  apply Array.ext'
  simp
 rw [harr] at hcall
 refine Calls.mono hcall (fun e' w' he=>?_)
 obtain ⟨u,ρ',F',rfl,hfr,hu,hrows,_,hnew⟩:=he
 have hno:∀ k,¬ blocks [] (fun _ _=>False) k:=fun k hb=>by obtain ⟨_,h,_⟩:=hb; exact h rfl
 subst hv
 obtain ⟨ρ1,F1,h1,h2⟩:=hr.made σ (hfr.mono (fun k hk _=>(hno k hk).elim)) hrows (fun κ k h3 h4=>(hnew κ k h3 h4).resolve_right (hno k)) hn hnk hk hu
 show Rel P N w0 S _ (a.put o.dst u) w'
 rw [hd,putT_upd]
 exact ⟨ρ1,F1,h1.put hN h2⟩
variable {ops : Array Oper} {draw : Bool} {pre : List (Oper × Eff)} {rest : List Oper} {t : Nat → AV} {K : St → Prop} {G : List (Operand × AV)} {d : Nat}
theorem a_fnc {f:FuncId} {caps:Array Operand} {ks:List Nat} (k:RV P N w0 S draw ops pre rest t m K o G (rdO ⟨t,m⟩ caps.toList) [] d (.c (.fnc f ks))) (ho:o.op = .makeFunc (.func f) #[] caps:=by rfl) (hd:o.dst=some d:=by rfl) (hN:Nat.blt d N=true:=by rfl) (hc:capsA ⟨t,m⟩ caps.toList=some ks:=by rfl) (hg:Gs ops o ⟨t,m⟩ G:=by exact Gs.no rfl):RA P N w0 S draw ops pre (o::rest) ⟨t,m⟩ K:=
 RA.val hd hg k (preT_rdO _ _) True.intro (fun s hs _=>s_makeFunc ho (by rw [capsA_ev hs]; exact hc) (dlt hd hN))
theorem a_callW {f:FuncId} {caps:List DV} {x:Operand} {xs:Array Operand} {tys:Array TypeId} {as bs:List AV} {res v:AV} {ms L nk:List (Nat×Cont)} (k:RM P N w0 S draw ops pre rest t m K o G ((x,.c (.d (.fn f caps)))::rdO ⟨t,m⟩ xs.toList) L (some (d,v)) nk [] [] []) (ho:o.op = .call { callee := .value x,args:=xs,argTypes:=tys }) (hx:St.ev ⟨t,m⟩ x = .c (.d (.fn f caps))) (hc:OkF P f bs [] res ms) (σ:Nat→Nat) (ha:All2 (AVRd L) (xs.toList.map (St.ev ⟨t,m⟩)) as) (hbs:bs=as++caps.map fun d=>AV.c (.d d)) (hL:preK ⟨t,m⟩ L) (hn:preN ⟨t,m⟩ nk) (hnk:nkOk ms σ nk) (hk:okNew σ v nk=true)
  (hv:v.mapK σ=res:=by rfl) (hd:o.dst=some d:=by rfl) (hN:Nat.blt d N=true:=by rfl) (hg:Gs ops o ⟨t,m⟩ G:=by exact Gs.no rfl):RA P N w0 S draw ops pre (o::rest) ⟨t,m⟩ K:=
 RA.mem hg k ⟨hx,preT_rdO _ _⟩ hL hn (fun s hs hk' hn'=>s_callW ho hs.1 hc hbs (rdO_ev hs.2) ha hk' hn' σ hnk hk hv hd (blt hN))
theorem map_take_drop {α β:Type} (f:α→β) (l:List α) (i j:Nat):((l.map f).take i).drop j=((l.take i).drop j).map f:=by simp [List.map_take,List.map_drop]
theorem a_slR {ty e:TypeId} {x:Operand} {lo hi:Option Operand} {l h:Option Int} {css css':List (List DV)} {sz b:Nat} {zz:List Value} {g:Bool} (k:RV P N w0 S draw ops pre rest t m K o G ((x,vR e css)::(optR ⟨t,m⟩ lo++optR ⟨t,m⟩ hi)) [] d (vR e css')) (hu:P.underlying ty=some (.slice e)) (hti:tyi P e=some (sz,b,zz,g)) (hp:0≤l.getD 0∧l.getD 0≤h.getD css.length∧h.getD css.length≤css.length) (hcss:(css.take (h.getD css.length).toNat).drop (l.getD 0).toNat=css') (ho:o.op = .slice ty x lo hi none:=by rfl) (hd:o.dst=some d:=by rfl) (hN:Nat.blt d N=true:=by rfl)
  (h1:St.ev ⟨t,m⟩ x=vR e css:=by rfl) (hlo:optI ⟨t,m⟩ lo=some l:=by rfl) (hhi:optI ⟨t,m⟩ hi=some h:=by rfl) (hg:Gs ops o ⟨t,m⟩ G:=by exact Gs.no rfl):RA P N w0 S draw ops pre (o::rest) ⟨t,m⟩ K:=
 RA.val hd hg k ⟨h1,preT_append.2 ⟨optR_pre _ _,optR_pre _ _⟩⟩ True.intro (fun s hs _=>by
  obtain ⟨h2,h3⟩:=preT_append.1 hs.2
  have:=s_slice (P:=P) (N:=N) (w0:=w0) (S:=S) (s:=s) ho ((optR_ev h2).trans hlo) ((optR_ev h3).trans hhi) ⟨fun b hb=>(by rw [hs.1] at hb; cases hb),fun _=>⟨e,sz,b,zz,g,hu,hti,fun e' css0 hc=>by
   rw [hs.1] at hc
   injection hc with hc
   injection hc with hc
   injection hc with hc
   rw [← hc]
   exact cellsOf_tyi hti,fun κ n e' css0 hc=>by rw [hs.1] at hc; cases hc⟩⟩ (by rw [hs.1]; exact hp) (dlt hd hN)
  rw [hs.1] at this
  rw [← hcss]
  exact this)
theorem a_slO {ty e:TypeId} {x:Operand} {lo hi:Option Operand} {l h:Option Int} {κ n:Nat} {css:List (List DV)} {sz b:Nat} {zz:List Value} {g:Bool} {i j:Nat} (k:RV P N w0 S draw ops pre rest t m K o G ((x,.c (.own κ n))::(optR ⟨t,m⟩ lo++optR ⟨t,m⟩ hi)) [(κ,.row e css)] d (.c (.cut κ i j))) (hu:P.underlying ty=some (.slice e)) (hti:tyi P e=some (sz,b,zz,g)) (hp:0≤l.getD 0∧l.getD 0≤h.getD n∧h.getD n≤n) (hi0:(l.getD 0).toNat=i:=by rfl) (hj0:(h.getD n).toNat - (l.getD 0).toNat=j:=by rfl) (ho:o.op = .slice ty x lo hi none:=by rfl) (hd:o.dst=some d:=by rfl) (hN:Nat.blt d N=true:=by rfl)
  (h1:St.ev ⟨t,m⟩ x = .c (.own κ n):=by rfl) (hm:m κ=some (.row e css):=by rfl) (hlo:optI ⟨t,m⟩ lo=some l:=by rfl) (hhi:optI ⟨t,m⟩ hi=some h:=by rfl) (hg:Gs ops o ⟨t,m⟩ G:=by exact Gs.no rfl):RA P N w0 S draw ops pre (o::rest) ⟨t,m⟩ K:=
 RA.val hd hg k ⟨h1,preT_append.2 ⟨optR_pre _ _,optR_pre _ _⟩⟩ ⟨hm,True.intro⟩ (fun s hs hk=>by
  obtain ⟨h2,h3⟩:=preT_append.1 hs.2
  have:=s_slice (P:=P) (N:=N) (w0:=w0) (S:=S) (s:=s) ho ((optR_ev h2).trans hlo) ((optR_ev h3).trans hhi) ⟨fun b hb=>(by rw [hs.1] at hb; cases hb),fun _=>⟨e,sz,b,zz,g,hu,hti,fun e' css0 hc=>(by rw [hs.1] at hc; cases hc),fun κ' n' e' css0 hc hm'=>by
   rw [hs.1] at hc
   injection hc with hc
   injection hc with hc hc'
   rw [← hc,hk.1] at hm'
   injection hm' with hm'
   injection hm' with hm'
   rw [← hm']
   exact cellsOf_tyi hti⟩⟩ (by rw [hs.1]; exact hp) (dlt hd hN)
  rw [hs.1] at this
  rw [← hi0,← hj0]
  exact this)
theorem f0 {L:List (Nat×Cont)}:All2 (fun κ d=>Rd L (.ptr κ 0) d) [] [] := .nil
theorem fC {L:List (Nat×Cont)} {κ:Nat} {d:DV} {κs:List Nat} {ds:List DV} (h:Rd L (.ptr κ 0) d) (r:All2 (fun κ d=>Rd L (.ptr κ 0) d) κs ds):All2 (fun κ d=>Rd L (.ptr κ 0) d) (κ::κs) (d::ds) := .cons h r
theorem rF {L:List (Nat×Cont)} {f:FuncId} {κs:List Nat} {ds:List DV} (h:All2 (fun κ d=>Rd L (.ptr κ 0) d) κs ds):Rd L (.fnc f κs) (.fn f ds) := .fnc f κs ds h.len (fun j κ d h1 h2=>h.get h1 h2)
theorem rU {L:List (Nat×Cont)} {κ i j n:Nat} {e e':TypeId} {css css':List (List DV)} {cs:List DV} (hi:css[i]?=some cs) (hj:cs[j]?=some (.row e' css'):=by rfl) (h:lk L κ=some (.row e css):=by rfl):Rd L (.sub κ i j n) (.row e' css') := .sub κ i j n e css cs e' css' h hi hj
end
end Go.Proofs.YticimffljcljoaaGreatM

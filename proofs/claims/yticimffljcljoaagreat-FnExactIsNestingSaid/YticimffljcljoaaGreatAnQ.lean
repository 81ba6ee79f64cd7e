/- The abstract machine: a call that takes a row of the call's own and two numbers and hands the row back, turned and shorter (slices.Delete). No condition. -/
import Derived.Test.YticimffljcljoaaGreatAnM
set_option linter.unusedVariables false
namespace Go.Proofs.YticimffljcljoaaGreatM
open Go Go.RowKit Go.Sort
section
variable {P : Program}
structure OkN (P:Program) (f:FuncId) (e:TypeId) (i j:Int) (css css':List (List DV)):Prop where
 fn:∃ fn:Func,P.funcs[f]?=some fn∧(fn.name == "runtime.NumGoroutine")=false∧fn.body.isNone=false
 run:∀ (w:World) (v:Value) (F:Nat→Prop),Own P w F (.row e css) v→Calls P f #[v,.int .i64 i,.int .i64 j] w (fun e' w'=>∃ v1 F1,e' = .returned v1∧Fr F w w'∧Own P w' F1 (.row e css') v1∧∀ k,F1 k→F k∨w.heap.size≤k)
section
variable {α : Type} [Inhabited α]
theorem cut_okN {f:FuncId} {e:TypeId} {k:Nat} (i0 j0:Int) (enc:α→List Value) (c:α→List DV) (hc:∀ x,c x=(enc x).map DV.v) (hcl:P.cellsOf e=k) (hpos:0 < k) (hk:∀ x,(enc x).length=k) (h1:∀ x,∀ v∈enc x,v.oneCell'=true)
  (hfn:∃ fn:Func,P.funcs[f]?=some fn∧(fn.name == "runtime.NumGoroutine")=false∧fn.body.isNone=false) (l l' l2:List α) (hl':l'.length+l2.length=l.length)
  (hn:l=[]→∀ p cap w,Calls P f #[.slice p 0 cap,.int .i64 i0,.int .i64 j0] w fun e w'=>e = .returned (.slice p 0 cap)∧w'=w)
  (hs:∀ blk cap w,HoldsK enc k w blk 0 l.toArray→blk < w.heap.size→l.length≤cap→cap≤maxLen→Calls P f #[.slice (some ⟨blk,0,none⟩) l.length cap,.int .i64 i0,.int .i64 j0] w fun e w'=>e = .returned (.slice (some ⟨blk,0,none⟩) l'.length cap)∧∃ n os,w'=grow (putRow id (Sort.ahead w n) blk 0 (flatK enc k (l'++l2).toArray)) os):
  OkN P f e i0 j0 (l.map c) (l'.map c):=by
 refine ⟨hfn,fun w v F hown=>?_⟩
 obtain ⟨fl,Fs,ho,hlen,hcs,hd,hb,hr,hF,hp0⟩:=hown.row_inv
 have hlm:(l.map c).length=l.length:=List.length_map _
 rw [hlm,hcl] at ho
 by_cases hne:l=[]
 ·subst hne
  obtain rfl:l'=[]:=List.length_eq_zero_iff.1 (by have h0:([]:List α).length=0:=rfl; omega)
  have hsl:∃ p cap,v = .slice p 0 cap:=by
   rcases ho.2 with ⟨h,_⟩|⟨g,cap,cur,h,_⟩
   ·exact ⟨none,0,h⟩
   ·exact ⟨some ⟨g,0,none⟩,cap,h⟩
  obtain ⟨p,cap,rfl⟩:=hsl
  refine Calls.mono (hn rfl p cap w) (fun e2 w' he=>?_)
  obtain ⟨rfl,rfl⟩:=he
  exact ⟨_,F,rfl,Fr.refl _ _,hown,fun k hk => .inl hk⟩
 ·have hpl:0 < l.length:=by
   cases l with
   | nil=>exact absurd rfl hne
   | cons x l=>exact Nat.succ_pos _
  have ho2:=ho
  rcases ho.2 with ⟨_,h⟩|⟨g,cap,cur,rfl,hg,hh,hnc,hm,hsz,htk⟩
  ·omega
  have hlt:g < w.heap.size:=(Array.getElem?_eq_some_iff.1 hh).1
  have hH:HoldsK enc k w g 0 l.toArray:=by
   intro t ht
   have ht2:t < l.length*k:=by simpa using ht
   have hi:t / k < l.length:=(Nat.div_lt_iff_lt_mul hpos).2 ht2
   have hj:t%k < k:=Nat.mod_lt _ hpos
   have hte:t=t / k*k+t%k:=by rw [Nat.mul_comm]; exact (Nat.div_add_mod t k).symm
   obtain ⟨x,hx⟩:∃ x,l[t / k]?=some x:=⟨_,List.getElem?_eq_getElem hi⟩
   have hfl:fl.length=l.length*k:=ho.1
   obtain ⟨u,hu⟩:∃ u,fl[t / k*k+t%k]?=some u:=⟨_,List.getElem?_eq_getElem (by omega)⟩
   have hcx:(l.map c)[t / k]?=some (c x):=by rw [List.getElem?_map,hx]; rfl
   have hdx:(c x)[t%k]?=some (DV.v ((enc x)[t%k]!)):=by
    rw [hc,List.getElem?_map,List.getElem?_eq_getElem (by rw [hk]; exact hj),getElem!_pos (enc x) (t%k) (by rw [hk]; exact hj)]
    rfl
   have hO:=hcs _ _ _ _ u hcx hdx (by rw [hcl]; exact hu)
   obtain rfl:(enc x)[t%k]! = u:=by
    generalize hq:DV.v ((enc x)[t%k]!)=q at hO
    generalize Fs (t / k) (t%k)=FF at hO
    cases hO with
    | v y _=>injection hq
    | any=>cases hq
    | row=>cases hq
   refine ⟨?_,?_⟩
   ·have h2:=ho.cells (g:=g) rfl (t / k*k+t%k) _ hu
    rw [← hte] at h2
    have h3:=flatK_at enc k hk l hx hj
    rw [← hte] at h3
    rw [h3]
    have ha:(⟨g,0,none⟩:Addr).add t=⟨g,0+t,none⟩:=by
     unfold Addr.add
     by_cases h0:t=0
     ·subst h0; rfl
     ·simp [h0]
    rw [ha] at h2
    simpa using h2
   ·unfold World.frozen?
    simp [hh]
  refine Calls.mono (hs g cap w hH hlt hnc hm) (fun e2 w' he=>?_)
  obtain ⟨rfl,n,os,rfl⟩:=he
  have hsz':(flatK enc k (l'++l2).toArray).size=l.length*k:=by rw [size_flatK]; simp [hl']
  have howc:=owns_cut (owns_sorted (m:=n) (os:=os) ho2 hsz') (show l'.length≤l.length by omega)
  refine ⟨_,fun k=>k=g,rfl,fr_sorted (S:=F) (hown.head rfl),?_,fun k hk => .inl (by subst hk; exact hown.head rfl)⟩
  refine .row _ e (l'.map c) _ ((flatK enc k (l'++l2).toArray).toList.take (l'.length*k)) (fun _ _ _=>False) (by rw [List.length_map,hcl]; exact howc) (fun cs hm=>?_) (fun i j cs d u a1 a2 a3=>?_) (fun _ _ _ _ _ h=>h.elim) (fun _ _ _ h=>h.elim) (fun _ _ _ h=>h.elim) (fun k=>⟨fun h => .inl (by subst h; rfl),fun h=>h.elim (fun h=>by injection h with h; exact h.symm) (fun ⟨_,_,h⟩=>h.elim)⟩) hp0
  ·obtain ⟨x,_,rfl⟩:=List.mem_map.1 hm
   rw [hc,List.length_map,hk,hcl]
  ·rw [List.getElem?_map] at a1
   obtain ⟨x,hx,rfl⟩:=Option.map_eq_some_iff.1 a1
   rw [hc,List.getElem?_map] at a2
   obtain ⟨y,hy,rfl⟩:=Option.map_eq_some_iff.1 a2
   have hj:j < k:=by rw [← hk x]; exact (List.getElem?_eq_some_iff.1 hy).1
   have hi:i < l'.length:=(List.getElem?_eq_some_iff.1 hx).1
   have hx2:(l'++l2)[i]?=some x:=by rw [List.getElem?_append_left hi]; exact hx
   have hb1:i*k+j < l'.length*k:=by
    have:i*k+k≤l'.length*k:=by rw [← Nat.succ_mul]; exact Nat.mul_le_mul_right _ hi
    omega
   have hb2:i*k+j < (flatK enc k (l'++l2).toArray).size:=by
    rw [hsz',← hl']
    have:l'.length*k≤(l'.length+l2.length)*k:=Nat.mul_le_mul_right _ (by omega)
    omega
   rw [hcl,List.getElem?_take_of_lt hb1,Array.getElem?_toList,Array.getElem?_eq_getElem hb2,← getElem!_pos (flatK enc k (l'++l2).toArray) (i*k+j) hb2,flatK_at enc k hk _ hx2 hj] at a3
   have hv3:(enc x)[j]! = y:=by
    rw [getElem!_pos (enc x) j (by rw [hk]; exact hj)]
    exact (List.getElem?_eq_some_iff.1 hy).2
   obtain rfl:y=u:=by rw [← hv3]; simpa using a3
   exact .v _ (h1 x y (List.mem_of_getElem? hy))
end
variable {N : Nat} {w0 : World} {S : Fx} {s : St} {o : Oper} {d : Nat}
theorem s_callQ {f:FuncId} {x y z:Operand} {i0 j0:Int} {tys:Array TypeId} {e:TypeId} {κ n:Nat} {css css':List (List DV)} (ho:o.op = .call { callee := .value (.func f),args:=#[x,y,z],argTypes:=tys }) (hc:OkN P f e i0 j0 css css') (hx:s.ev x = .c (.own κ n)) (hy:s.ev y=gV (.int .i64 i0)) (hz:s.ev z=gV (.int .i64 j0)) (hm:s.m κ=some (.row e css)) (hbig:100≤κ) (hd:o.dst=some d) (hN:d < N):
  SoundOp P N w0 S o s ⟨putT (killT s.t [κ] []) (some (d,.c (.own κ css'.length))),putK (killK s.m [κ] []) [] [(κ,some (.row e css'))]⟩:=by
 rintro a w ⟨ρ,F,hr⟩
 have hx1:=hr.ev x
 rw [hx] at hx1
 obtain ⟨_,hx2,_⟩:=rel_own hx1
 obtain ⟨fn,q1,q2,q3⟩:=hc.fn
 have hcall:=hc.run w (ρ κ) (F κ) (hr.mem κ _ hm)
 unfold Oper.wp
 rw [run_call ho q1 q2 q3]
 have gy:=hr.ev y
 have gz:=hr.ev z
 rw [hy] at gy
 rw [hz] at gz
 have harr:(#[x,y,z].map a.eval)=#[ρ κ,.int .i64 i0,.int .i64 j0]:=by simp [hx2,rel_v gy,rel_v gz]
 rw [harr]
 refine Calls.mono hcall (fun e' w' he=>?_)
 obtain ⟨v1,F1,rfl,h3,h2,h4⟩:=he
 show Rel P N w0 S _ (a.put o.dst _) _
 have hk1:∀ c:Cell,c.uses (fun x=>x == κ)=true→inK [κ] [] c=true:=fun c hc=>by
  have:c.uses (fun k=>[κ].contains k)=c.uses (fun x=>x == κ):=by congr 1; funext k; simp only [List.contains_cons,List.contains_nil,Bool.or_false]
  unfold inK; rw [this,hc]; rfl
 have:=row_write hr hm [] rfl (inK [κ] []) (fun c hc=>by
  have:c.uses (fun x=>([]:List Nat).contains x)=false:=by cases c <;> simp [Cell.uses]
  rw [this] at hc; cases hc) h3 (fun k hk=>(h4 k hk).imp id (fun h => .inr h)) h2 (fun h=>by omega) (.inl ⟨fun n=>hk1 _ (by simp [Cell.uses]),fun lo n=>hk1 _ (by simp [Cell.uses]),fun i off=>hk1 _ (by simp [Cell.uses])⟩) (fun i j n=>hk1 _ (by simp [Cell.uses])) (fun i j n q=>hk1 _ (by simp [Cell.uses]))
 rw [hd]
 have he:(⟨fun n=>(s.t n).kill (inK [κ] []),upd (fun κ'=>if ([]:List Nat).contains κ' then none else (s.m κ').map (Cont.kill (inK [κ] []))) κ (some (.row e css'))⟩:St)=
   ⟨killT s.t [κ] [],putK (killK s.m [κ] []) [] ((κ,some (.row e css'))::noneL [])⟩:=by
  rw [← put_noneL _ (by simp)]
  rfl
 rw [he] at this
 rw [putT_upd]
 exact ⟨_,_,this.put hN (.c ⟨⟨e,_,by
  show putK _ [] ((κ,some (.row e css'))::noneL []) κ=_
  rw [← put_noneL _ (by simp),upd_same],rfl⟩,by rw [upd_same],h2.one⟩)⟩
variable {ops : Array Oper} {draw : Bool} {pre : List (Oper × Eff)} {rest : List Oper} {t : Nat → AV} {m : Nat → Option Cont} {K : St → Prop} {G : List (Operand × AV)}
theorem a_callQ {f:FuncId} {x y z:Operand} {i0 j0:Int} {tys:Array TypeId} {e:TypeId} {κ n n':Nat} {css css':List (List DV)} (k:RM P N w0 S draw ops pre rest t m K o G [(x,.c (.own κ n)),(y,gV (.int .i64 i0)),(z,gV (.int .i64 j0))] [(κ,.row e css)] (some (d,.c (.own κ n'))) [] [(κ,some (.row e css'))] [κ] []) (ho:o.op = .call { callee := .value (.func f),args:=#[x,y,z],argTypes:=tys }) (hc:OkN P f e i0 j0 css css') (hx:St.ev ⟨t,m⟩ x = .c (.own κ n):=by rfl) (hy:St.ev ⟨t,m⟩ y=gV (.int .i64 i0):=by rfl) (hz:St.ev ⟨t,m⟩ z=gV (.int .i64 j0):=by rfl) (hm:m κ=some (.row e css):=by rfl) (hn:css'.length=n':=by rfl) (hd:o.dst=some d:=by rfl) (hN:Nat.blt d N=true:=by rfl) (hbig:Nat.ble 100 κ=true:=by rfl) (hg:Gs ops o ⟨t,m⟩ G:=by exact Gs.no rfl):RA P N w0 S draw ops pre (o::rest) ⟨t,m⟩ K:=
 RA.mem hg k ⟨hx,hy,hz,True.intro⟩ ⟨hm,True.intro⟩ True.intro (fun s hs hk _=>by
  subst hn
  exact s_callQ ho hc hs.1 hs.2.1 hs.2.2.1 hk.1 (ble hbig) hd (blt hN))
end
end Go.Proofs.YticimffljcljoaaGreatM

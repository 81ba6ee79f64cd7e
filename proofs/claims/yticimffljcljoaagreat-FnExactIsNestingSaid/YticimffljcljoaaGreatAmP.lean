/- The abstract machine's contracts, and calls that turn nothing of the caller's. No condition. -/
import Derived.Test.YticimffljcljoaaGreatAmO
set_option linter.unusedVariables false
set_option linter.unusedSimpArgs false
namespace Go.Proofs.YticimffljcljoaaGreatM
open Go Go.RowKit
structure Rows (P:Program) (w:World) (ms:List (Nat×Cont)) (ρ:Nat→Value) (F:Nat→Nat→Prop):Prop where
 mem:∀ κ c,lk ms κ=some c→ContRel P w (okm (lk ms) F) (lk ms) ρ F κ c
 apart:∀ κ κ' k,lk ms κ≠none→lk ms κ'≠none→F κ k→F κ' k→κ=κ'
def blocks (ms:List (Nat×Cont)) (F:Nat→Nat→Prop) (k:Nat):Prop:=∃ κ,lk ms κ≠none∧F κ k
structure OkF (P:Program) (f:FuncId) (as:List AV) (m0:List (Nat×Cont)) (res:AV) (m1:List (Nat×Cont)):Prop where
 fn:∃ fn:Func,P.funcs[f]?=some fn∧(fn.name == "runtime.NumGoroutine")=false∧fn.body.isNone=false
 run:∀ (w:World) (vals:List Value) (ρ:Nat→Value) (F:Nat→Nat→Prop),All2 (AVRel P w (okm (lk m0) F) (lk m0) ρ) as vals→Rows P w m0 ρ F→
  Calls P f vals.toArray w (fun e w'=>∃ u ρ' F',e = .returned u∧Fr (blocks m0 F) w w'∧AVRel P w' (okm (lk m1) F') (lk m1) ρ' res u∧Rows P w' m1 ρ' F'∧
   (∀ κ,κ < 100→lk m1 κ≠none→ρ' κ=ρ κ)∧∀ κ k,lk m1 κ≠none→F' κ k→w.heap.size≤k∨blocks m0 F k)
def AV.el:AV→El
 | .c x => .c x
 | .agg cs => .agg cs
 | .tup _ => .c .dead
def resOf:List AV→AV
 | [v]=>v
 | vs => .tup (vs.map AV.el)
inductive RetP (rs:List Tmp) (avs:List AV) (m1:List (Nat×Cont)) (s:St):Prop
 | mk (σ:Nat→Nat) (ht:canT s σ (rs.zip avs)) (hm:canM s σ m1) (hk:okCan σ (rs.zip avs) m1=true)
def resV (rs:List Tmp) (tmps:Array Value):Value:=
 match rs with
 | [t]=>tmps.getD t undef
 | ts => .tuple (ts.map fun t=>tmps.getD t undef).toArray
section
variable {P : Program} {N : Nat} {w0 : World} {S : Fx} {s : St} {Q : Exit → St → Prop} {x y c : Code} {w : World} {a : Act} {ok ok1 : Nat → Prop} {m m1 : Nat → Option Cont} {ρ : Nat → Value} {F : Nat → Nat → Prop} {σ : Nat → Nat}
theorem All2.getD_rel {α β:Type} {R:α→β→Prop} {as:List α} {bs:List β} (h:All2 R as bs) (i:Nat) (da:α) (db:β) (hd:R da db):R (as[i]?.getD da) (bs[i]?.getD db):=by
 cases ha:as[i]? with
 | none=>
  have:bs[i]?=none:=by rw [List.getElem?_eq_none_iff] at ha ⊢; rw [← h.len]; exact ha
  rw [this]; exact hd
 | some a=>
  obtain ⟨b,hb,hr⟩:=h.getL ha
  rw [hb]; exact hr
theorem lk_ix {α:Type}:∀ (l:List α) (j n:Nat),lk (ix j l) n=if j≤n then l[n - j]? else none
 | [],j,n=>by simp [ix,lk]
 | p::r,j,n=>by
  show cond (Nat.beq j n) (some p) (lk (ix (j+1) r) n)=_
  by_cases h:j=n
  ·subst h
   rw [show Nat.beq j j=true from Nat.beq_refl j]
   simp
  ·rw [nb_ne h,lk_ix r (j+1) n]
   by_cases h2:j≤n
   ·rw [if_pos h2]
    have h3:j+1≤n:=by omega
    rw [show n - j=(n - (j+1))+1 from by omega,List.getElem?_cons_succ]
    simp [h3]
   ·rw [if_neg h2]
    simp [show ¬ (j+1≤n) from by omega]
theorem ret_all {R:AV→Tmp→Prop}:∀ {rs:List Tmp} {avs:List AV},rs.length=avs.length→(∀ p∈rs.zip avs,R p.2 p.1)→All2 R avs rs
 | [],[],_,_ => .nil
 | r::rs,v::avs,hl,h => .cons (h (r,v) List.mem_cons_self) (ret_all (by simpa using hl) (fun p hp=>h p (List.mem_cons_of_mem _ hp)))
 | [],_::_,hl,_=>by simp at hl
 | _::_,[],hl,_=>by simp at hl
def noTup:AV→Bool
 | .tup _=>false
 | _=>true
theorem ret_el {g:Tmp→Value}:∀ {rs:List Tmp} {avs:List AV},avs.all noTup=true→All2 (fun v t=>AVRel P w ok m ρ v (g t)) avs rs→All2 (ElRel P w ok m ρ) (avs.map AV.el) (rs.map g)
 | _,_,_,.nil => .nil
 | _,_,hk,.cons h1 h2=>by
  simp only [List.all_cons,Bool.and_eq_true] at hk
  refine .cons ?_ (ret_el hk.2 h2)
  generalize hu:g _=u at h1
  cases h1 with
  | c h=>exact .c h
  | agg h=>exact .agg h
  | tup h=>cases hk.1
theorem OkF.ofG {f:FuncId} {fn:Func} {as:List AV} {m0 m1:List (Nat×Cont)} {avs:List AV} {rs:List Tmp} {res:AV} (hf:P.funcs[f]?=some fn) (hb:fn.body=some c) (hN:fn.ntmps=N) {R:St→Prop} (hR:∀ w0 S s a w,Rel P N w0 S s a w→R s→∃ a2 s2,Rel P N w0 S s2 a2 w∧RetP rs avs m1 s2∧(results fn a.tmps).run P w = .ok (resV rs a2.tmps) w) (hnm:(fn.name == "runtime.NumGoroutine")=false)
  (hle:Nat.ble as.length N=true) (hlen:rs.length=avs.length) (hres:resOf avs=res) (hk:avs.all noTup=true) (h:∀ w0 S,AG P N w0 S c (retQ R) (St.of (ix 0 as) m0)):OkF P f as m0 res m1:=by
 refine ⟨⟨fn,hf,hnm,by rw [hb]; rfl⟩,fun w vals ρ F hv hrows=>?_⟩
 have hvl:=hv.len
 refine calls_of_wp hf hb ?_
 have hrel:Rel P N w ⟨blocks m0 F,ρ⟩ (St.of (ix 0 as) m0) { tmps:=vals.toArray++Array.replicate (fn.ntmps - vals.toArray.size) undef,defers:=[] } w:=by
  have hle':=ble hle
  refine ⟨ρ,F,rfl,by simp [hN]; omega,fun n=>?_,hrows.mem,hrows.apart,fun κ k h1 h2 => .inr ⟨κ,h1,h2⟩,Fr.refl _ _,fun κ _ _=>rfl⟩
  show AVRel P w _ _ _ ((lk (ix 0 as) n).getD (.c .dead)) _
  rw [lk_ix,if_pos (Nat.zero_le _),Nat.sub_zero]
  have h1:=hv.getD_rel n (.c .dead) undef (.c True.intro)
  have h2:(vals.toArray++Array.replicate (fn.ntmps - vals.toArray.size) undef).getD n undef=vals[n]?.getD undef:=by
   rw [Array.getD_eq_getD_getElem?,Array.getElem?_append]
   split
   ·simp
   ·rename_i hlt
    rw [List.getElem?_eq_none (by simpa using hlt)]
    cases h3:(Array.replicate (fn.ntmps - vals.toArray.size) undef)[n - vals.toArray.size]? with
    | none=>rfl
    | some v=>
     have:=Array.getElem?_eq_some_iff.1 h3
     obtain ⟨h4,h5⟩:=this
     simp at h5
     simp [h5]
  rw [h2]
  exact h1
 refine wp_mono ((h w ⟨blocks m0 F,ρ⟩).run _ _ hrel) (fun e a' w' he=>?_)
 obtain ⟨s',hq,hr'⟩:=he
 have key:R s'→a'.defers=[]∧∃ v,(results fn a'.tmps).run P w' = .ok v w'∧∃ u ρ' F',Ending.returned v = .returned u∧Fr (blocks m0 F) w w'∧AVRel P w' (okm (lk m1) F') (lk m1) ρ' res u∧Rows P w' m1 ρ' F'∧(∀ κ,κ < 100→lk m1 κ≠none→ρ' κ=ρ κ)∧∀ κ k,lk m1 κ≠none→F' κ k→w.heap.size≤k∨blocks m0 F k:=by
  intro hRs
  obtain ⟨a2,s2,hr2,⟨σ,ht,hm,hck⟩,hrun⟩:=hR _ _ _ _ _ hr' hRs
  obtain ⟨ρ',F',hc,hall⟩:=hr2.canonE σ ht hm hck
  have hdf:a'.defers=[]:=by obtain ⟨_,_,h⟩:=hr'; exact h.defers
  refine ⟨hdf,_,hrun,_,ρ',F',rfl,hc.frame,?_,⟨hc.mem,hc.apart⟩,hc.pin,hc.base⟩
  have hA:=ret_all (R:=fun v t=>AVRel P w' (okm (lk m1) F') (lk m1) ρ' v (a2.tmps.getD t undef)) hlen hall
  have htup:=ret_el (g:=fun t=>a2.tmps.getD t undef) hk hA
  subst hres
  cases hA with
  | nil=>exact .tup htup
  | cons h1 h2=>
   cases h2 with
   | nil=>exact h1
   | cons h3 h4=>exact .tup htup
 cases e with
 | normal=>exact key hq
 | ret=>exact key hq
 | _=>exact hq.elim
theorem OkF.of {f:FuncId} {fn:Func} {as:List AV} {m0 m1:List (Nat×Cont)} {avs:List AV} {rs:List Tmp} {res:AV} (hf:P.funcs[f]?=some fn) (hb:fn.body=some c) (hN:fn.ntmps=N) (hr:∀ tmps w,(results fn tmps).run P w = .ok (resV rs tmps) w) (hnm:(fn.name == "runtime.NumGoroutine")=false)
  (hle:Nat.ble as.length N=true) (hlen:rs.length=avs.length) (hres:resOf avs=res) (hk:avs.all noTup=true) (h:∀ w0 S,AG P N w0 S c (retQ (RetP rs avs m1)) (St.of (ix 0 as) m0)):OkF P f as m0 res m1:=
 OkF.ofG hf hb hN (fun w0 S s a w hrel hR=>⟨a,s,hrel,hR,hr _ _⟩) hnm hle hlen hres hk h
inductive RetB (P:Program) (t:Tmp) (ty:TypeId) (av:AV) (m1:List (Nat×Cont)) (s:St):Prop
 | mk {z b:Nat} {zz:List Value} {g:Bool} {κ:Nat} {bt:TypeId} {cs:List Cell} (hti:tyi P ty=some (z,b,zz,g)) (h1:s.t t = .c (.ptr κ 0)) (h2:s.m κ=some (.box bt cs)) (hq:fitB 0 z cs.length g=true) (h:RetP [t] [av] m1 ⟨putT s.t (some (t,mkAV g ((cs.drop 0).take z))),s.m⟩)
theorem OkF.ofB {f:FuncId} {fn:Func} {as:List AV} {m0 m1:List (Nat×Cont)} {av:AV} {t:Tmp} {ty:TypeId} (hf:P.funcs[f]?=some fn) (hb:fn.body=some c) (hN:fn.ntmps=N) (hr:fn.results=#[.cell t ty]) (ht:Nat.blt t N=true) (hnm:(fn.name == "runtime.NumGoroutine")=false)
  (hle:Nat.ble as.length N=true) (hk:noTup av=true) (h:∀ w0 S,AG P N w0 S c (retQ (RetB P t ty av m1)) (St.of (ix 0 as) m0)):OkF P f as m0 av m1:=
 OkF.ofG (rs:=[t]) (avs:=[av]) hf hb hN (fun w0 S s a w hrel hR=>by
  obtain ⟨hti,h1,h2,hq,hp⟩:=hR
  rename_i z b zz g κ bt cs
  obtain ⟨ρ,F,hr'⟩:=hrel
  have hx:=hr'.tmps t
  rw [h1] at hx
  cases hx with
  | c hx=>
   obtain ⟨ty',cs',g',q2,q3,q4⟩:=hx
   obtain ⟨g2,us,q5,q6,q7,q8,q9⟩:=hr'.mem κ _ h2
   rw [q3] at q5
   injection q5 with q5
   injection q5 with q5
   injection q5 with q5
   subst q5
   have hp2:=fitB_spec hq
   have hl:=q7.len
   have hall:=(q7.drop 0).take z
   have hlen:((cs.drop 0).take z).length=z:=by rw [List.length_take,List.length_drop]; omega
   obtain ⟨u,h10,h11,h12⟩:=mkAV_rel (z:=z) hall (g:=g) (fun hg=>by rw [hlen,hp2.2 hg])
   have hload:=run_loadVar (w:=w) (ad:=⟨g',0,none⟩) hti ((us.drop 0).take z) (by rw [← hall.len,hlen]) hp2.2 h11 h12 (fun j y hj=>by
    rw [add_at,box_cell q6]
    rw [List.getElem?_take] at hj
    split at hj
    ·rwa [List.getElem?_drop] at hj
    ·cases hj)
   have hput:=hr'.put (d:=t) (blt ht) h10
   have hres:(results fn a.tmps).run P w = .ok u w:=by
    have q4':=q4
    rw [Array.getD_eq_getD_getElem?] at q4'
    simp [results,hr,q4',hload,asAddr]
   have hu:(a.put (some t) u).tmps.getD t undef=u:=by
    simp [Act.put,Array.getElem?_setIfInBounds,hr'.size,blt ht]
   refine ⟨a.put (some t) u,_,⟨ρ,F,?_⟩,hp,?_⟩
   ·rw [putT_upd]; exact hput
   ·rw [hres]; show _=Result.ok ((a.put (some t) u).tmps.getD t undef) w; rw [hu]) hnm hle rfl rfl (by simpa using hk) h
end
end Go.Proofs.YticimffljcljoaaGreatM

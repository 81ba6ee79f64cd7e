/- The abstract machine's regions, in whatever order they are run. No condition. -/
import Derived.Test.YticimffljcljoaaGreatAmG
set_option linter.unusedVariables false
set_option linter.unusedSimpArgs false
namespace Go.Proofs.YticimffljcljoaaGreatM
open Go Go.RowKit
def predM (ms:List Nat) (o:Oper):Nat:=o.after.toList.foldl (fun acc e=>cond (Region.binds .any e) (acc ||| (1 <<< e.on) ||| ms.getD e.on 0) acc) 0
def masks:List Nat→List Oper→List Nat
 | ms,[]=>ms
 | ms,o::r=>masks (ms++[predM ms o]) r
def okAfter (ms:List Nat) (j:Nat) (p:Oper×Eff):Nat→List (Oper×Eff)→Bool
 | _,[]=>true
 | k,q::r=>((ms.getD k 0).testBit j || p.2.apart q.2) && okAfter ms j p (k+1) r
def okOrdM (ms:List Nat):Nat→List (Oper×Eff)→Bool
 | _,[]=>true
 | j,p::r=>p.1.after.all (fun e=>!Region.binds .any e || Nat.blt e.on j) && okAfter ms j p (j+1) r && okOrdM ms (j+1) r
def okOrd (l:List (Oper×Eff)):Bool:=okOrdM (masks [] (l.map (·.1))) 0 l
def Inv (ms:List Nat) (os:List Oper):Prop:=ms.length=os.length∧∀ (i:Nat) o j,os[i]?=some o→(ms.getD i 0).testBit j=true→∃ e∈o.after.toList,Region.binds .any e=true∧(e.on=j∨(ms.getD e.on 0).testBit j=true)
theorem predM_spec (ms:List Nat) (j:Nat):∀ (l:List Edge) (acc:Nat),(l.foldl (fun acc e=>cond (Region.binds .any e) (acc ||| (1 <<< e.on) ||| ms.getD e.on 0) acc) acc).testBit j=true→acc.testBit j=true∨∃ e∈l,Region.binds .any e=true∧(e.on=j∨(ms.getD e.on 0).testBit j=true)
 | [],acc,h => .inl h
 | e::r,acc,h=>by
  rw [List.foldl_cons] at h
  rcases predM_spec ms j r _ h with h|⟨e',h1,h2⟩
  ·cases hb:Region.binds .any e with
   | false=>rw [hb] at h; exact .inl h
   | true=>
    rw [hb] at h
    have h':(acc ||| (1 <<< e.on) ||| ms.getD e.on 0).testBit j=true:=h
    rw [Nat.testBit_or,Nat.testBit_or,Nat.one_shiftLeft,Nat.testBit_two_pow] at h'
    simp only [Bool.or_eq_true,decide_eq_true_eq] at h'
    rcases h' with (h'|h')|h'
    ·exact .inl h'
    ·exact .inr ⟨e,List.mem_cons_self,hb,.inl h'⟩
    ·exact .inr ⟨e,List.mem_cons_self,hb,.inr h'⟩
  ·exact .inr ⟨e',List.mem_cons_of_mem _ h1,h2⟩
theorem getD_app {ms:List Nat} {x n j:Nat} (h:(ms.getD n 0).testBit j=true):((ms++[x]).getD n 0).testBit j=true:=by
 by_cases hn:n < ms.length
 ·rw [List.getD_eq_getElem?_getD,List.getElem?_append_left hn,← List.getD_eq_getElem?_getD]; exact h
 ·rw [List.getD_eq_getElem?_getD,List.getElem?_eq_none (by omega)] at h
  simp at h
theorem masks_inv:∀ (r:List Oper) (ms:List Nat) (os:List Oper),Inv ms os→Inv (masks ms r) (os++r)
 | [],ms,os,h=>by simpa [masks] using h
 | o::r,ms,os,h=>by
  have h2:Inv (ms++[predM ms o]) (os++[o]):=by
   refine ⟨by simp [h.1],fun i o' j ho hb=>?_⟩
   by_cases hi:i < os.length
   ·rw [List.getElem?_append_left hi] at ho
    rw [List.getD_eq_getElem?_getD,List.getElem?_append_left (by rw [h.1]; exact hi),← List.getD_eq_getElem?_getD] at hb
    obtain ⟨e,h1,h2,h3⟩:=h.2 i o' j ho hb
    exact ⟨e,h1,h2,h3.imp id getD_app⟩
   ·have hi':i=os.length:=by
     have:=(List.getElem?_eq_some_iff.1 ho).1
     simp at this
     omega
    subst hi'
    rw [List.getElem?_concat_length] at ho
    injection ho with ho
    subst ho
    rw [List.getD_eq_getElem?_getD,← h.1,List.getElem?_concat_length] at hb
    rcases predM_spec ms j _ 0 hb with h4|⟨e,h1,h2,h3⟩
    ·simp at h4
    ·exact ⟨e,h1,h2,h3.imp id getD_app⟩
  have:=masks_inv r _ _ h2
  rwa [List.append_assoc] at this
def ix {α:Type}:Nat→List α→List (Nat×α)
 | _,[]=>[]
 | j,p::r=>(j,p)::ix (j+1) r
theorem ix_snd {α:Type}:∀ (l:List α) (j:Nat),(ix j l).map (·.2)=l
 | [],_=>rfl
 | p::r,j=>by simp only [ix,List.map_cons,ix_snd r]
theorem ix_mem {α:Type}:∀ {l:List α} {j:Nat} {p:Nat×α},p∈ix j l→j≤p.1∧l[p.1 - j]?=some p.2
 | [],_,_,h=>by cases h
 | x::r,j,p,h=>by
  rcases List.mem_cons.1 h with rfl|h
  ·exact ⟨Nat.le_refl _,by simp⟩
  ·obtain ⟨h1,h2⟩:=ix_mem h
   refine ⟨by omega,?_⟩
   rw [show p.1 - j=(p.1 - (j+1))+1 from by omega,List.getElem?_cons_succ]
   exact h2
theorem ix_all {α:Type}:∀ {l:List α} {j i:Nat},j≤i→i < j+l.length→i∈(ix j l).map (·.1)
 | [],j,i,h1,h2=>by simp at h2; omega
 | x::r,j,i,h1,h2=>by
  simp only [ix,List.map_cons,List.mem_cons]
  by_cases h:i=j
  ·exact .inl h
  ·exact .inr (ix_all (by omega) (by simp at h2; omega))
theorem ix_len {α:Type}:∀ (l:List α) (j:Nat),(ix j l).length=l.length
 | [],_=>rfl
 | p::r,j=>by simp [ix,ix_len r]
def PR (R:Nat→Nat→Prop) (p q:Nat×(Oper×Eff)):Prop:=p.1 < q.1∧(R p.1 q.1∨p.2.2.apart q.2.2=true)
theorem okAfter_all {ms:List Nat} {j:Nat} {p:Oper×Eff}:∀ {l:List (Oper×Eff)} {k:Nat},okAfter ms j p k l=true→∀ q∈ix k l,(ms.getD q.1 0).testBit j=true∨p.2.apart q.2.2=true
 | [],_,_,_,h=>by cases h
 | x::r,k,h,q,hq=>by
  simp only [okAfter,Bool.and_eq_true,Bool.or_eq_true] at h
  rcases List.mem_cons.1 hq with rfl|hq
  ·exact h.1
  ·exact okAfter_all h.2 q hq
theorem okOrd_pair {ms:List Nat}:∀ {l:List (Oper×Eff)} {j:Nat},okOrdM ms j l=true→(ix j l).Pairwise (PR fun a b=>(ms.getD b 0).testBit a=true)∧∀ p∈ix j l,∀ e∈p.2.1.after,Region.binds .any e=true→e.on < p.1
 | [],_,_=>⟨.nil,fun p hp=>by cases hp⟩
 | x::r,j,h=>by
  simp only [okOrdM,Bool.and_eq_true] at h
  obtain ⟨⟨h1,h2⟩,h3⟩:=h
  obtain ⟨h4,h5⟩:=okOrd_pair h3
  refine ⟨List.pairwise_cons.2 ⟨fun q hq=>?_,h4⟩,fun p hp e he hb=>?_⟩
  ·obtain ⟨h6,h7⟩:=ix_mem hq
   exact ⟨by show j < q.1; omega,okAfter_all h2 q hq⟩
  ·rcases List.mem_cons.1 hp with rfl|hp
   ·have:=Array.all_eq_true'.1 h1 e he
    rw [hb] at this
    simpa [Nat.blt_eq] using this
   ·exact h5 p hp e he hb
section
variable {P : Program} {w w1 : World} {N : Nat} {w0 : World} {S : Fx} {s : St} {a : Act} {o : Oper} {ops : Array Oper}
theorem front:∀ {A:List (Oper×Eff)} {s:St} {p:Oper×Eff} {B:List (Oper×Eff)},preL (A++p::B) s→(∀ q∈A,q.2.apart p.2=true)→
  p.2.pre s∧preL (A++B) (p.2.app s)∧runL (A++B) (p.2.app s)=runL (A++p::B) s
 | [],s,p,B,h,_=>⟨h.1,h.2,rfl⟩
 | x::A,s,p,B,h,hA=>by
  obtain ⟨h1,h2⟩:=h
  obtain ⟨h3,h4,h5⟩:=front (A:=A) h2 (fun q hq=>hA q (List.mem_cons_of_mem _ hq))
  obtain ⟨h6,h7,h8⟩:=swap_two (hA x List.mem_cons_self) h1 h3
  rw [← h8] at h4 h5
  exact ⟨h6,⟨h7,h4⟩,h5⟩
theorem getD_tf {l:Array Bool} {i:Nat} (h:i < l.size):l.getD i true=l.getD i false:=by
 simp [Array.getD,h]
theorem listed_up {listed:Array Bool} {i k:Nat} (h:listed.getD k false=true):(listed.setIfInBounds i true).getD k false=true:=by
 by_cases hk:i=k
 ·subst hk
  have hlt:i < listed.size:=by
   rw [Array.getD_eq_getD_getElem?] at h
   cases h2:listed[i]? with
   | none=>rw [h2] at h; cases h
   | some b=>exact (Array.getElem?_eq_some_iff.1 h2).1
  simp [Array.getD,hlt]
 ·rw [getD_set_ne false hk]; exact h
theorem anc_listed {R:Nat→Nat→Prop} (hR:∀ (i:Nat) o,ops[i]?=some o→∀ j,R j i→∃ e∈o.after,Region.binds .any e=true∧(e.on=j∨R j e.on)) (hed:∀ (i:Nat) o,ops[i]?=some o→∀ e∈o.after,Region.binds .any e=true→e.on < i) {listed:Array Bool} (hsz:listed.size=ops.size)
  (hcl:∀ (i:Nat) o,ops[i]?=some o→listed.getD i false=true→∀ e∈o.after,Region.binds .any e=true→listed.getD e.on false=true):∀ (i:Nat) o,ops[i]?=some o→(∀ e∈o.after,Region.binds .any e=true→listed.getD e.on false=true)→∀ j,R j i→listed.getD j false=true:=by
 intro i
 induction i using Nat.strongRecOn with
 | ind i ih=>
  intro o ho hp j hj
  obtain ⟨e,he,hb,hc⟩:=hR i o ho j hj
  have hl:=hp e he hb
  rcases hc with rfl|hc
  ·exact hl
  ·have hlt:=hed i o ho e he hb
   have hi:=(Array.getElem?_eq_some_iff.1 ho).1
   have he2:ops[e.on]?=some (ops[e.on]'(by omega)):=Array.getElem?_eq_getElem (by omega)
   exact ih e.on hlt _ he2 (hcl e.on _ he2 hl) j hc
theorem any_sound {Q:Exit→Act→World→Prop} {sf:St} {R:Nat→Nat→Prop} (hR:∀ (i:Nat) o,ops[i]?=some o→∀ j,R j i→∃ e∈o.after,Region.binds .any e=true∧(e.on=j∨R j e.on)) (hed0:∀ (i:Nat) o,ops[i]?=some o→∀ e∈o.after,Region.binds .any e=true→e.on < i) (hQ:∀ a w,Rel P N w0 S sf a w→Q .normal a w):
  ∀ (n:Nat) (L:List (Nat×(Oper×Eff))) (listed:Array Bool) (s:St) (a:Act) (w:World),L.length=n→L.Pairwise (PR R)→
   (∀ (i:Nat) o,ops[i]?=some o→listed.getD i false=true→∀ e∈o.after,Region.binds .any e=true→listed.getD e.on false=true)→listed.size=ops.size→(∀ i,i < ops.size→(listed.getD i true=false↔i∈L.map (·.1)))→
   (∀ p∈L,ops[p.1]?=some p.2.1∧GOp P N w0 S ops p.2.1 p.2.2)→preL (L.map (·.2)) s→runL (L.map (·.2)) s=sf→Rel P N w0 S s a w→wpAny P .any ops Q n listed a w:=by
 intro n
 induction n with
 | zero=>
  intro L listed s a w hn hpw hcl hsz hli hop hp hs hr
  obtain rfl:L=[]:=List.length_eq_zero_iff.1 hn
  obtain rfl:s=sf:=hs
  refine ⟨List.eq_nil_iff_forall_not_mem.2 (fun i hi=>?_),hQ a w hr⟩
  obtain ⟨h1,o,h2,h3⟩:=mem_ready.1 hi
  have:=(hli i (Array.getElem?_eq_some_iff.1 h2).1).1 h1
  simp at this
 | succ n ih=>
  intro L listed s a w hn hpw hcl hsz hli hop hp hs hr
  refine ⟨fun h0=>?_,fun i hi=>?_⟩
  ·exfalso
   cases L with
   | nil=>simp at hn
   | cons p r=>
    have h1:=hop p List.mem_cons_self
    have hlt:=(Array.getElem?_eq_some_iff.1 h1.1).1
    have:p.1∈Region.ready .any ops listed:=mem_ready.2 ⟨(hli p.1 hlt).2 (by simp),p.2.1,h1.1,fun e he hb=>by
     have h2:=hed0 p.1 _ h1.1 e he hb
     have h3:e.on < ops.size:=by omega
     rw [← getD_tf (by omega)]
     cases h4:listed.getD e.on true with
     | true=>rfl
     | false=>
      have:=(hli e.on h3).1 h4
      obtain ⟨q,hq,hqe⟩:=List.mem_map.1 this
      rcases List.mem_cons.1 hq with rfl|hq
      ·omega
      ·have:=(List.pairwise_cons.1 hpw).1 q hq
       have:=this.1
       omega⟩
    rw [h0] at this
    cases this
  ·obtain ⟨h1,o,h2,h3⟩:=mem_ready.1 hi
   have hlt:=(Array.getElem?_eq_some_iff.1 h2).1
   obtain ⟨p,hpm,rfl⟩:=List.mem_map.1 ((hli i hlt).1 h1)
   obtain ⟨A,B,rfl⟩:=List.append_of_mem hpm
   obtain ⟨h4,h5⟩:=hop p hpm
   rw [h2] at h4
   injection h4 with h4
   subst h4
   have hpA:=List.pairwise_append.1 hpw
   have hfree:∀ q∈A,q.2.2.apart p.2.2=true:=fun q hq=>by
    have h6:=(hpA.2.2 q hq p List.mem_cons_self)
    rcases h6.2 with h7|h7
    ·exfalso
     have h8:=anc_listed hR hed0 hsz hcl p.1 _ h2 h3 q.1 h7
     have hq':q∈A++p::B:=List.mem_append_left _ hq
     have hlq:=(Array.getElem?_eq_some_iff.1 (hop q hq').1).1
     have h9:=(hli q.1 hlq).2 (List.mem_map.2 ⟨q,hq',rfl⟩)
     rw [← getD_tf (by omega),h9] at h8
     cases h8
    ·exact h7
   rw [List.map_append,List.map_cons] at hp hs
   obtain ⟨h6,h7,h8⟩:=front (A:=A.map (·.2)) (p:=p.2) (B:=B.map (·.2)) hp (fun q hq=>by
    obtain ⟨q',hq',rfl⟩:=List.mem_map.1 hq
    exact hfree q' hq')
   rw [← List.map_append] at h7 h8
   have hsub:∀ q∈A++B,q∈A++p::B:=fun q hq=>by
    rcases List.mem_append.1 hq with h|h
    ·exact List.mem_append_left _ h
    ·exact List.mem_append_right _ (List.mem_cons_of_mem _ h)
   have hpB:=List.pairwise_cons.1 hpA.2.1
   have hpwAB:(A++B).Pairwise (PR R):=List.pairwise_append.2 ⟨hpA.1,hpB.2,fun x hx y hy=>hpA.2.2 x hx y (List.mem_cons_of_mem _ hy)⟩
   have hne:∀ q∈A++B,q.1≠p.1:=fun q hq he=>by
    rcases List.mem_append.1 hq with h|h
    ·have:=(hpA.2.2 q h p List.mem_cons_self).1; omega
    ·have:=(hpB.1 q h).1; omega
   have hgo:=h5 s a w (wpAny P .any ops Q n (listed.setIfInBounds p.1 true)) Q h6 hr (fun a' w' hr'=>by
    refine ih (A++B) _ (p.2.2.app s) a' w' (by simp at hn ⊢; omega) hpwAB (fun i' o' ho' hl' e he hb=>?_) (by simpa using hsz) (fun j hj=>?_) (fun q hq=>hop q (hsub q hq)) h7 (h8.trans hs) hr'
    ·by_cases hip:i'=p.1
     ·subst hip
      rw [h2] at ho'
      injection ho' with ho'
      subst ho'
      exact listed_up (h3 e he hb)
     ·rw [getD_set_ne false (Ne.symm hip)] at hl'
      exact listed_up (hcl i' o' ho' hl' e he hb)
    by_cases hjp:j=p.1
    ·subst hjp
     refine ⟨fun h=>?_,fun h=>?_⟩
     ·have:(listed.setIfInBounds p.1 true).getD p.1 true=true:=by simp [Array.getD]
      rw [this] at h
      cases h
     ·obtain ⟨q,hq,hqe⟩:=List.mem_map.1 h
      exact absurd hqe (hne q hq)
    ·rw [getD_set_ne true (Ne.symm hjp),hli j hj]
     simp only [List.map_append,List.map_cons,List.mem_append,List.mem_cons,hjp,false_or])
   unfold wpOp
   rw [h2]
   simp only
   split
   ·rename_i hw
    rw [if_pos hw] at hgo
    exact .inl hgo
   ·rename_i hw
    rw [if_neg hw] at hgo
    exact hgo
structure AG (P:Program) (N:Nat) (w0:World) (S:Fx) (c:Code) (Q:Exit→St→Prop) (s:St):Prop where
 run:∀ a w,Rel P N w0 S s a w→c.wp P (fun e a' w'=>∃ s',Q e s'∧Rel P N w0 S s' a' w') a w
inductive RA (P:Program) (N:Nat) (w0:World) (S:Fx) (draw:Bool) (ops:Array Oper) (pre:List (Oper×Eff)) (rest:List Oper) (s:St) (K:St→Prop):Prop
 | mk (Ls:List (Oper×Eff)) (h1:Ls.map (·.1)=rest) (h2:∀ p∈Ls,GOp P N w0 S ops p.1 p.2) (h3:preL Ls s) (h4:draw=true→okOrd (pre++Ls)=true) (h5:K (runL Ls s))
theorem RA.nil {draw:Bool} {pre:List (Oper×Eff)} {K:St→Prop} (h:draw=true→okOrd pre=true) (k:K s):RA P N w0 S draw ops pre [] s K:=
 ⟨[],rfl,fun p hp=>(by cases hp),True.intro,by simpa using h,k⟩
theorem RA.op {draw:Bool} {pre:List (Oper×Eff)} {rest:List Oper} {K:St→Prop} {L:Eff} (hL:GOp P N w0 S ops o L) (hp:L.pre s) (k:RA P N w0 S draw ops (pre++[(o,L)]) rest (L.app s) K):RA P N w0 S draw ops pre (o::rest) s K:=by
 obtain ⟨Ls,h1,h2,h3,h4,h5⟩:=k
 refine ⟨(o,L)::Ls,by simp [h1],fun p hp'=>?_,⟨hp,h3⟩,by simpa using h4,h5⟩
 rcases List.mem_cons.1 hp' with rfl|hp'
 ·exact hL
 ·exact h2 p hp'
theorem Rel.drew (h:Rel P N w0 S s a w):Rel P N w0 S s a { w with drawn:=w.drawn+1 }:=by
 obtain ⟨ρ,F,h⟩:=h
 have hk:∀ k:Nat,({ w with drawn:=w.drawn+1 }:World).heap[k]?=w.heap[k]?:=fun _=>rfl
 have:=h.change (m1:=s.m) (ρ1:=ρ) (F1:=F) (fun _=>false) (T:=fun _=>False) (Fr.drew w _) (fun _ hf=>hf.elim) (fun c u _ hc=>by
  have:=cell_other (K:=fun _=>false) (m1:=s.m) (F1:=F) (ρ1:=ρ) h (Fr.drew w (fun _=>False)) (fun _ _ _ _ _ hf=>hf) (fun k hok _=>⟨fun hf=>hf,hok⟩) (fun κ _=>⟨fun _ _ he=>he,fun ty cs he=>⟨cs,he⟩⟩) (fun _ _=>rfl) c u (by cases c <;> simp [Cell.uses]) hc
  exact this) (fun κ c hc=>?_) h.apart h.base h.pin
 ·have hs:(⟨fun n=>(s.t n).kill fun _=>false,s.m⟩:St)=s:=by
   have hkk:∀ v:AV,v.kill (fun _=>false)=v:=fun v=>by
    have hc:∀ c:Cell,c.kill (fun _=>false)=c:=fun c=>rfl
    cases v with
    | c x=>rfl
    | agg cs=>simp only [AV.kill]; congr 1; induction cs with|nil=>rfl|cons x xs ih=>simp only [List.map_cons,ih]; rfl
    | tup xs=>simp only [AV.kill]; congr 1; induction xs with
     | nil=>rfl
     | cons x xs ih=>
      simp only [List.map_cons,ih]
      congr 1
      cases x with
      | c x=>rfl
      | agg cs=>simp only [El.kill]; congr 1; induction cs with|nil=>rfl|cons x xs ih=>simp only [List.map_cons,ih]; rfl
   cases s with
   | mk t m=>simp only [hkk]
  rw [hs] at this
  exact ⟨ρ,F,this⟩
 ·have h1:=h.mem κ c hc
  cases c with
  | box ty cs=>
   obtain ⟨g,us,h2,h3,h4,h5⟩:=h1
   refine ⟨g,us,h2,h3,h4.imp (fun c u hcu=>?_),h5⟩
   exact cell_other (K:=fun _=>false) (m1:=s.m) (F1:=F) (ρ1:=ρ) h (Fr.drew w (fun _=>False)) (fun _ _ _ _ _ hf=>hf) (fun k hok _=>⟨fun hf=>hf,hok⟩) (fun κ _=>⟨fun _ _ he=>he,fun ty cs he=>⟨cs,he⟩⟩) (fun _ _=>rfl) c u (by cases c <;> simp [Cell.uses]) hcu
  | row e css=>exact Own.move h1 (fun k hk=>rfl)
theorem AG.region {id:Nat} {l:List Oper} {draw:Bool} {Q:Exit→St→Prop} (hm:P.follows .mixedOrders=true) (h:RA P N w0 S draw l.toArray [] l s (Q .normal)):AG P N w0 S (.region id l.toArray draw) Q s:=by
 obtain ⟨Ls,h1,h2,h3,h4,h5⟩:=h
 refine ⟨fun a w hr=>?_⟩
 cases draw with
 | false=>
  refine wp_region_lit ?_
  rw [← h1]
  have:=seq_sound (Q:=fun e a' w'=>∃ s',Q e s'∧Rel P N w0 S s' a' w') Ls s h2 h3 rfl (fun a w hr=>⟨_,h5,hr⟩) a w hr
  rw [h1] at this ⊢
  exact this
 | true=>
  refine wp_region_any hm ?_
  have h6:=h4 rfl
  rw [List.nil_append] at h6
  obtain ⟨h7,h8⟩:=okOrd_pair h6
  have hlen:l.length=Ls.length:=by rw [← h1]; simp
  have hinv:Inv (masks [] l) l:=by
   have:=masks_inv l [] [] ⟨rfl,fun i o j h=>by simp at h⟩
   rwa [List.nil_append] at this
  rw [h1] at h7
  refine any_sound (ops:=l.toArray) (sf:=runL Ls s) (R:=fun a b=>((masks [] l).getD b 0).testBit a=true) (fun i o ho j hj=>?_) (fun i o ho e he hb=>?_) (fun a w hr=>⟨_,h5,hr⟩) _ (ix 0 Ls) _ s a _ (by rw [ix_len]; simp [hlen]) h7 (fun i o ho hl=>?_) (by simp) (fun i hi=>?_) (fun p hp=>?_) (by rw [ix_snd]; exact h3) (by rw [ix_snd]) hr.drew
  ·obtain ⟨e,q1,q2⟩:=hinv.2 i o j (by simpa using ho) hj
   exact ⟨e,Array.mem_toList_iff.1 q1,q2⟩
  ·have ho':l[i]?=some o:=by simpa using ho
   rw [← h1,List.getElem?_map] at ho'
   obtain ⟨p,q1,rfl⟩:=Option.map_eq_some_iff.1 ho'
   have hlt:=(List.getElem?_eq_some_iff.1 q1).1
   have hm:(i,p)∈ix 0 Ls:=by
    have:=ix_all (l:=Ls) (j:=0) (i:=i) (Nat.zero_le _) (by omega)
    obtain ⟨q,q2,q3⟩:=List.mem_map.1 this
    obtain ⟨_,q4⟩:=ix_mem q2
    obtain ⟨qi,qp⟩:=q
    subst q3
    simp only [Nat.sub_zero] at q4
    rw [q1] at q4
    injection q4 with q4
    rw [q4]
    exact q2
   exact h8 (i,p) hm e he hb
  ·exfalso
   have hi:=(Array.getElem?_eq_some_iff.1 ho).1
   simp at hi
   simp [Array.getD,hi] at hl
  ·refine ⟨fun _=>ix_all (Nat.zero_le _) (by simp at hi; omega),fun _=>?_⟩
   simp at hi
   simp [Array.getD,hi]
  ·obtain ⟨_,h9⟩:=ix_mem hp
   refine ⟨?_,h2 p.2 (List.mem_of_getElem? h9)⟩
   rw [← h1]
   simp only [Nat.sub_zero] at h9
   simp [h9]
end
end Go.Proofs.YticimffljcljoaaGreatM

/- The abstract machine's operations on rows of the call's own: stores, appends. No condition. -/
import Derived.Test.YticimffljcljoaaGreatAmK
set_option linter.unusedVariables false
set_option linter.unusedSimpArgs false
namespace Go.Proofs.YticimffljcljoaaGreatM
open Go Go.RowKit
section
variable {P : Program} {w w1 : World} {ok ok1 : Nat → Prop} {m m1 : Nat → Option Cont} {ρ ρ1 : Nat → Value} {F F1 : Nat → Nat → Prop} {N : Nat} {w0 : World} {S : Fx} {s : St} {a : Act} {o : Oper}
theorem putL_get {α:Type} (cs:List α) (off:Nat) (xs:List α) (h:off+xs.length≤cs.length) (j:Nat):(putL cs off xs)[j]?=if off≤j∧j < off+xs.length then xs[j - off]? else cs[j]?:=by
 unfold putL
 rw [List.append_assoc]
 by_cases h1:j < off
 ·rw [List.getElem?_append_left (by rw [List.length_take]; omega),List.getElem?_take,if_pos h1,if_neg (by omega)]
 ·rw [List.getElem?_append_right (by rw [List.length_take]; omega),List.length_take,Nat.min_eq_left (by omega)]
  by_cases h2:j < off+xs.length
  ·rw [List.getElem?_append_left (by omega),if_pos ⟨by omega,h2⟩]
  ·rw [List.getElem?_append_right (by omega),List.getElem?_drop,if_neg (by omega)]
   congr 1
   omega
theorem putL_len {α:Type} (cs:List α) (off:Nat) (xs:List α) (h:off+xs.length≤cs.length):(putL cs off xs).length=cs.length:=by
 unfold putL
 simp only [List.length_append,List.length_take,List.length_drop]
 omega
theorem row_write (hr:RelE P N w0 S s a w ρ F) {κ:Nat} {e:TypeId} {css css1:List (List DV)} (hm:s.m κ=some (.row e css)) (D:List Nat) (hD:D.contains κ=false) (p:Cell→Bool) (hpD:∀ c,c.uses (fun x=>D.contains x)=true→p c=true) {v1:Value} {Fκ:Nat→Prop}
  (hfr:Fr (F κ) w w1) (hF1:∀ k,Fκ k→F κ k∨(∃ κ',D.contains κ'=true∧s.m κ'≠none∧F κ' k)∨w.heap.size≤k) (hown:Own P w1 Fκ (.row e css1) v1)
  (hv1:κ < 100→v1=ρ κ) (hcells:(∀ n,p (.own κ n)=true)∧(∀ lo n,p (.cut κ lo n)=true)∧(∀ i off,p (.eptr κ i off)=true)∨css1.length=css.length∧v1=ρ κ) (hsub:∀ i j n,p (.sub κ i j n)=true) (hsptr:∀ i j n q,p (.sptr κ i j n q)=true):
  RelE P N w0 S ⟨fun n=>(s.t n).kill p,upd (fun κ'=>if D.contains κ' then none else (s.m κ').map (Cont.kill p)) κ (some (.row e css1))⟩ a w1 (upd ρ κ v1) (upd F κ Fκ):=by
 refine hr.write κ hm (fun k=>D.contains k) hD p hpD hfr hF1 hv1 (fun κ' hne=>upd_ne _ _ hne) (upd_same _ _ _) (fun c u hp hu hc=>?_) (fun hall=>?_)
 ·have hk:∀ κ',(κ' == κ)=true→κ'=κ:=fun κ' h=>by simpa using h
  cases c with
  | d x=>simp [Cell.uses] at hu
  | dead=>simp [Cell.uses] at hu
  | own κ' n=>
   obtain rfl:=hk κ' hu
   rcases hcells with ⟨h,_⟩|⟨h1,h2⟩
   ·rw [h n] at hp; cases hp
   ·obtain ⟨⟨e',css',q1,q2⟩,q3,q4⟩:=hc
    rw [hm] at q1
    injection q1 with q1
    injection q1 with q1 q1'
    subst q1 q1'
    exact ⟨⟨_,css1,upd_same _ _ _,h1.trans q2⟩,by rw [upd_same,h2]; exact q3,q4⟩
  | sub κ' i j n=>
   obtain rfl:=hk κ' hu
   rw [hsub i j n] at hp; cases hp
  | sptr κ' i j n q=>
   obtain rfl:=hk κ' hu
   rw [hsptr i j n q] at hp; cases hp
  | cut κ' lo n=>
   obtain rfl:=hk κ' hu
   rcases hcells with ⟨_,h,_⟩|⟨h1,h2⟩
   ·rw [h lo n] at hp; cases hp
   ·obtain ⟨e',css',A,c,q1,q2,q3,q4,q5⟩:=hc
    rw [hm] at q1
    injection q1 with q1
    injection q1 with q1 q1'
    subst q1 q1'
    exact ⟨_,css1,A,c,upd_same _ _ _,by omega,q3,q4,q5.1,fun hpos=>by rw [upd_same,h2]; exact q5.2 hpos⟩
  | eptr κ' i off=>
   obtain rfl:=hk κ' hu
   rcases hcells with ⟨_,_,h⟩|⟨h1,h2⟩
   ·rw [h i off] at hp; cases hp
   ·obtain ⟨e',css',g,n',c',q1,q2,q3,q4⟩:=hc
    rw [hm] at q1
    injection q1 with q1
    injection q1 with q1 q1'
    subst q1 q1'
    exact ⟨_,css1,g,n',c',upd_same _ _ _,by omega,by rw [upd_same,h2]; exact q3,q4⟩
  | ptr κ' off=>
   obtain rfl:=hk κ' hu
   obtain ⟨ty,cs,g,q1,_⟩:=hc
   rw [hm] at q1; cases q1
  | fnc f κs=>
   obtain ⟨q1,_⟩:=hc
   obtain ⟨κ',h1,h2⟩:=List.any_eq_true.1 hu
   obtain rfl:=hk κ' h2
   obtain ⟨ty,cs,q3⟩:=q1 _ h1
   rw [hm] at q3; cases q3
 ·show Own P w1 (upd F κ Fκ κ) (.row e css1) (upd ρ κ v1 κ)
  rw [upd_same,upd_same]
  exact hown
theorem own_put (hr:RelE P N w0 S s a w ρ F) {κ:Nat} {e:TypeId} {css:List (List DV)} {i off:Nat} {cs ds:List DV} {xs:List Cell} {us:List Value} (hm:s.m κ=some (.row e css)) (hi:css[i]?=some cs) (hds:cellsDV s.m xs=some ds) (hall:All2 (CellRel P w (okm s.m F) s.m ρ) xs us) (hnd:(ownKeys xs).Nodup) (hκ:κ∉ownKeys xs)
  (hb:off+ds.length≤cs.length) {g n' c':Nat} (hρ:ρ κ = .slice (some ⟨g,0,none⟩) n' c'):
  ∃ (cur:Array Value),w.heap[g]?=some (.cells cur e (0,0))∧i*P.cellsOf e+off+us.length≤cur.size∧
   ∃ Fκ:Nat→Prop,Own P (w.setRow g (putL cur.toList (i*P.cellsOf e+off) us).toArray) Fκ (.row e (css.set i (putL cs off ds))) (ρ κ)∧∀ k,Fκ k→F κ k∨∃ κ',κ'∈ownKeys xs∧s.m κ'≠none∧F κ' k:=by
 have hn0:s.m κ≠none:=by rw [hm]; simp
 have hmem:=hr.mem κ _ hm
 obtain ⟨fl,Fs,how,hlen,hcc,hdj,hbk,hrg,hF,hpos⟩:=Own.row_inv hmem
 have hdl:=cellsDV_len hds
 have hul:=hall.len
 have hsz:=hlen cs (List.mem_of_getElem? hi)
 obtain ⟨hfl,hown⟩:=how
 rw [hρ] at hown
 rcases hown with ⟨h0,_⟩|⟨g2,cap,cur,h0,_,hh,hnc,hmx,hcs,htk⟩
 ·cases h0
 injection h0 with h0 h0' h0''
 injection h0 with h0
 injection h0 with h0
 subst h0 h0' h0''
 have hiz:i*P.cellsOf e+P.cellsOf e≤css.length*P.cellsOf e:=by
  rw [← Nat.succ_mul]; exact Nat.mul_le_mul_right _ (List.getElem?_eq_some_iff.1 hi).1
 have hcap:css.length*P.cellsOf e≤c'*P.cellsOf e:=Nat.mul_le_mul_right _ hnc
 have hfit:i*P.cellsOf e+off+us.length≤cur.size:=by omega
 have hlive:∀ {j κ' n:Nat} {d:DV},xs[j]?=some (.own κ' n)→ds[j]?=some d→s.m κ'≠none:=by
  intro j κ' n d h1 h2
  obtain ⟨c,h3,h4⟩:=cellsDV_get hds h2
  rw [h1] at h3
  injection h3 with h3
  subst h3
  simp only [cellDV] at h4
  split at h4
  ·rename_i e' css' hmm
   rw [hmm]; simp
  ·cases h4
 have hhead:F κ g:=(hF g).2 (.inl (by rw [hρ]; rfl))
 have hfsx:∀ j k,fsOf F xs j k→∃ κ',κ'∈ownKeys xs∧s.m κ'≠none∧F κ' k∧κ'≠κ:=fun j k h=>by
  obtain ⟨κ',n,h1,h2⟩:=h
  have hj:j < ds.length:=by rw [hdl]; exact (List.getElem?_eq_some_iff.1 h1).1
  exact ⟨κ',ownKeys_mem h1,hlive h1 (List.getElem?_eq_getElem hj),h2,fun he=>hκ (he▸ownKeys_mem h1)⟩
 have hset:∀ (i':Nat) cs',(css.set i (putL cs off ds))[i']?=some cs'→(i'=i∧cs'=putL cs off ds)∨(i'≠i∧css[i']?=some cs'):=fun i' cs' h=>by
  rw [List.getElem?_set] at h
  split at h
  ·rename_i he
   split at h
   ·injection h with h
    exact .inl ⟨he.symm,h.symm⟩
   ·cases h
  ·rename_i hne
   exact .inr ⟨fun he=>hne he.symm,h⟩
 refine ⟨cur,hh,hfit,fun k=>(ρ κ).ownBlock=some k∨∃ i' j',(i' < css.length∧j' < P.cellsOf e∧(if i'=i∧off≤j'∧j' < off+ds.length then fsOf F xs (j' - off) k else Fs i' j' k)),?_,fun k hk=>?_⟩
 ·refine .row _ e _ _ (putL fl (i*P.cellsOf e+off) us) (fun i' j' k=>i' < css.length∧j' < P.cellsOf e∧(if i'=i∧off≤j'∧j' < off+ds.length then fsOf F xs (j' - off) k else Fs i' j' k)) ⟨?_,.inr ⟨g,c',(putL cur.toList (i*P.cellsOf e+off) us).toArray,?_,Nat.zero_le _,setRow_heap w g _ _ e (0,0) hh,?_,hmx,?_,?_⟩⟩ (fun cs' hcs'=>?_) (fun i' j' cs' d u h1 h2 h3=>?_) (fun i1 j1 i2 j2 k h1 h2=>?_) (fun i1 j1 k h1=>?_) (fun i1 j1 k h1=>?_) (fun k=>Iff.rfl) hpos
  ·rw [putL_len _ _ _ (by omega),hfl,List.length_set]
  ·rw [hρ,List.length_set]
  ·rw [List.length_set]; exact hnc
  ·rw [List.size_toArray,putL_len _ _ _ (by rw [Array.length_toList]; omega),Array.length_toList,hcs]
  ·rw [List.length_set]
   apply List.ext_getElem?
   intro q
   rw [List.getElem?_take]
   have hq0:∀ q,q < css.length*P.cellsOf e→fl[q]?=cur.toList[q]?:=fun q hq=>by rw [← htk,List.getElem?_take,if_pos hq]
   by_cases hq:q < css.length*P.cellsOf e
   ·rw [if_pos hq,putL_get cur.toList _ _ (by rw [Array.length_toList]; omega),putL_get fl _ _ (by omega)]
    split
    ·rfl
    ·exact (hq0 q hq).symm
   ·rw [if_neg hq,List.getElem?_eq_none (by rw [putL_len _ _ _ (by omega)]; omega)]
  ·rcases List.mem_or_eq_of_mem_set hcs' with h|h
   ·exact hlen cs' h
   ·rw [h,putL_len _ _ _ hb]; exact hsz
  ·have hmv:∀ {G:Nat→Prop} {d:DV} {u:Value},Own P w G d u→(∀ k,G k→k≠g)→Own P (w.setRow g (putL cur.toList (i*P.cellsOf e+off) us).toArray) G d u:=fun ho hg=>ho.move (fun k hk=>setRow_other _ _ _ _ (hg k hk))
   have hFsne:∀ i' j' k,Fs i' j' k→k≠g:=fun i' j' k h he=>hbk i' j' k h (by rw [hρ,he]; rfl)
   rcases hset i' cs' h1 with ⟨rfl,rfl⟩|⟨hne,h4⟩
   ·have hj:j' < P.cellsOf e:=by rw [← hsz,← putL_len cs off ds hb]; exact (List.getElem?_eq_some_iff.1 h2).1
    have hil:i' < css.length:=(List.getElem?_eq_some_iff.1 hi).1
    rw [putL_get _ _ _ hb] at h2
    rw [putL_get _ _ _ (by omega)] at h3
    by_cases hin:off≤j'∧j' < off+ds.length
    ·rw [if_pos hin] at h2
     rw [if_pos (by omega)] at h3
     obtain ⟨c,h5,h6⟩:=cellsDV_get hds h2
     rw [show i'*P.cellsOf e+j' - (i'*P.cellsOf e+off)=j' - off from by omega] at h3
     have h7:=cellDV_own hr h6 (hall.get h5 h3)
     have:(fun k=>∃ κ n,c = .own κ n∧F κ k)=fun k=>i' < css.length∧j' < P.cellsOf e∧(if i'=i'∧off≤j'∧j' < off+ds.length then fsOf F xs (j' - off) k else Fs i' j' k):=by
      funext k
      rw [if_pos ⟨rfl,hin⟩]
      refine propext ⟨?_,?_⟩
      ·rintro ⟨κ',n,rfl,h8⟩
       exact ⟨hil,hj,κ',n,h5,h8⟩
      ·rintro ⟨_,_,κ',n,h8,h9⟩
       rw [h5] at h8
       injection h8 with h8
       exact ⟨κ',n,h8,h9⟩
     rw [← this]
     refine hmv h7 (fun k hk he=>?_)
     obtain ⟨κ',n,rfl,h8⟩:=hk
     obtain ⟨κ2,_,h9,h10,h11⟩:=hfsx (j' - off) k ⟨κ',n,h5,h8⟩
     exact h11 (hr.apart κ2 κ k h9 hn0 h10 (he▸hhead))
    ·rw [if_neg hin] at h2
     rw [if_neg (by omega)] at h3
     have h7:=hcc i' j' cs d u hi h2 h3
     have:Fs i' j'=fun k=>i' < css.length∧j' < P.cellsOf e∧(if i'=i'∧off≤j'∧j' < off+ds.length then fsOf F xs (j' - off) k else Fs i' j' k):=by
      funext k
      rw [if_neg (fun h=>hin h.2)]
      exact propext ⟨fun h=>⟨hil,hj,h⟩,fun h=>h.2.2⟩
     rw [← this]
     exact hmv h7 (hFsne i' j')
   ·have hil:i' < css.length:=(List.getElem?_eq_some_iff.1 h4).1
    have hj:j' < P.cellsOf e:=by rw [← hlen cs' (List.mem_of_getElem? h4)]; exact (List.getElem?_eq_some_iff.1 h2).1
    rw [putL_get _ _ _ (by omega)] at h3
    have hout:¬ (i*P.cellsOf e+off≤i'*P.cellsOf e+j'∧i'*P.cellsOf e+j' < i*P.cellsOf e+off+us.length):=by
     intro hh2
     rcases Nat.lt_or_ge i' i with h5|h5
     ·have:i'*P.cellsOf e+P.cellsOf e≤i*P.cellsOf e:=by rw [← Nat.succ_mul]; exact Nat.mul_le_mul_right _ h5
      omega
     ·have:i*P.cellsOf e+P.cellsOf e≤i'*P.cellsOf e:=by rw [← Nat.succ_mul]; exact Nat.mul_le_mul_right _ (by omega)
      omega
    rw [if_neg hout] at h3
    have h7:=hcc i' j' cs' d u h4 h2 h3
    have:Fs i' j'=fun k=>i' < css.length∧j' < P.cellsOf e∧(if i'=i∧off≤j'∧j' < off+ds.length then fsOf F xs (j' - off) k else Fs i' j' k):=by
     funext k
     rw [if_neg (fun h=>hne h.1)]
     exact propext ⟨fun h=>⟨hil,hj,h⟩,fun h=>h.2.2⟩
    rw [← this]
    exact hmv h7 (hFsne i' j')
  ·obtain ⟨_,_,h1⟩:=h1
   obtain ⟨_,_,h2⟩:=h2
   split at h1 <;> split at h2
   ·rename_i q1 q2
    obtain ⟨κ1,n1,p1,p2⟩:=h1
    obtain ⟨κ2,n2,p3,p4⟩:=h2
    have hj1:j1 - off < ds.length:=by omega
    have hj2:j2 - off < ds.length:=by omega
    have:=hr.apart κ1 κ2 k (hlive p1 (List.getElem?_eq_getElem hj1)) (hlive p3 (List.getElem?_eq_getElem hj2)) p2 p4
    subst this
    have:=ownKeys_inj hnd p1 p3
    exact ⟨q1.1.trans q2.1.symm,by omega⟩
   ·obtain ⟨κ2,_,h9,h10,h11⟩:=hfsx _ k h1
    exact absurd (hr.apart κ2 κ k h9 hn0 h10 ((hF k).2 (.inr ⟨_,_,h2⟩))) h11
   ·obtain ⟨κ2,_,h9,h10,h11⟩:=hfsx _ k h2
    exact absurd (hr.apart κ2 κ k h9 hn0 h10 ((hF k).2 (.inr ⟨_,_,h1⟩))) h11
   ·exact hdj _ _ _ _ k h1 h2
  ·obtain ⟨_,_,h1⟩:=h1
   split at h1
   ·obtain ⟨κ2,_,h9,h10,h11⟩:=hfsx _ k h1
    intro he
    have:k=g:=by rw [hρ] at he; simpa [Value.ownBlock] using he.symm
    exact h11 (hr.apart κ2 κ k h9 hn0 h10 (this▸hhead))
   ·exact hbk _ _ k h1
  ·obtain ⟨h2,h3,_⟩:=h1
   by_cases he:i1=i
   ·subst he
    exact ⟨putL cs off ds,by rw [List.getElem?_set,if_pos rfl,if_pos h2],by rw [putL_len _ _ _ hb,hsz]; exact h3⟩
   ·exact ⟨css[i1],by rw [List.getElem?_set,if_neg (fun h=>he h.symm)]; exact List.getElem?_eq_getElem h2,by rw [hlen _ (List.getElem_mem h2)]; exact h3⟩
 ·rcases hk with hk|⟨i1,j1,_,_,hk⟩
  ·exact .inl ((hF k).2 (.inl hk))
  ·split at hk
   ·obtain ⟨κ2,h8,h9,h10,_⟩:=hfsx _ k hk
    exact .inr ⟨κ2,h8,h9,h10⟩
   ·exact .inl ((hF k).2 (.inr ⟨_,_,hk⟩))
end
end Go.Proofs.YticimffljcljoaaGreatM

/- The abstract machine's stores into elements, and appends. No condition. -/
import Derived.Test.YticimffljcljoaaGreatAmL
import Derived.Maps.AppendAt
set_option linter.unusedVariables false
set_option linter.unusedSimpArgs false
namespace Go.Proofs.YticimffljcljoaaGreatM
open Go Go.RowKit
section
variable {P : Program} {w w1 : World} {ok ok1 : Nat → Prop} {m m1 : Nat → Option Cont} {ρ ρ1 : Nat → Value} {F F1 : Nat → Nat → Prop} {N : Nat} {w0 : World} {S : Fx} {s : St} {a : Act} {o : Oper}
theorem contains_nmem {D:List Nat} {κ:Nat} (h:κ∉D):D.contains κ=false:=by simpa using h
theorem killK_cons (m:Nat→Option Cont) (D:List Nat) (k:Nat) (κ:Nat):killK m D [k] κ=(m κ).map (Cont.kill (inK D [k])):=by
 cases D <;> rfl
theorem killT_cons (t:Nat→AV) (D:List Nat) (k:Nat):killT t D [k]=fun n=>(t n).kill (inK D [k]):=by
 funext n
 cases D <;> rfl
theorem put_noneL (m:Nat→Option Cont) {κ:Nat} {D:List Nat} (hκ:κ∉D) (c:Option Cont):upd (fun κ'=>if D.contains κ' then none else m κ') κ c=putK m [] ((κ,c)::noneL D):=by
 funext κ'
 show (if κ'=κ then c else _)=match cond (Nat.beq κ κ') (some c) (lk (noneL D) κ') with|some c=>c|none=>m κ'
 by_cases h:κ'=κ
 ·subst h
  rw [show Nat.beq κ' κ'=true from Nat.beq_refl κ',if_pos rfl]
  rfl
 ·rw [nb_ne (fun e=>h e.symm),if_neg h,lk_noneL]
  by_cases hc:D.contains κ'=true
  ·simp only [if_pos hc]
   rfl
  ·simp only [if_neg hc]
   rfl
theorem s_storeElt {e e0:TypeId} {p x:Operand} {z b:Nat} {zz:List Value} {g:Bool} {κ i off:Nat} {css:List (List DV)} {cs ds:List DV} {xs:List Cell} (ho:o.op = .store e p x) (hti:tyi P e=some (z,b,zz,g)) (hp:s.ev p = .c (.eptr κ i off)) (hm:s.m κ=some (.row e0 css)) (hi:css[i]?=some cs)
  (hx:(s.ev x).cells=some xs) (hk:xs.all Cell.okc=true) (hds:cellsDV s.m xs=some ds) (hnd:(ownKeys xs).Nodup) (hκ:κ∉ownKeys xs) (hl:xs.length=z) (hb:off+z≤cs.length) (hdst:o.dst=none):
  SoundOp P N w0 S o s ⟨killT s.t (ownKeys xs) [κ],putK (killK s.m (ownKeys xs) [κ]) [] ((κ,some (.row e0 (css.set i (putL cs off ds))))::noneL (ownKeys xs))⟩:=by
 rintro a w ⟨ρ,F,hr⟩
 have h1:=hr.ev p
 rw [hp] at h1
 cases h1 with
 | c h1=>
  obtain ⟨e',css',g0,n',c',h2,h3,h4,h5⟩:=h1
  rw [hm] at h2
  injection h2 with h2
  injection h2 with h2 h2'
  subst h2 h2'
  obtain ⟨h10,h11⟩:=rel_cells hx (hr.ev x) hk
  have hdl:=cellsDV_len hds
  obtain ⟨cur,hh,hfit,Fκ,hown,hF1⟩:=own_put hr (off:=off) hm hi hds h10 hnd hκ (by rw [hdl,hl]; exact hb) h4
  have hlx:=h10.len
  have e1:(a.eval x).cells.toList.length=(a.eval x).cells.size:=Array.length_toList
  have hsz:(a.eval x).cells.size=z:=by omega
  have hst:=run_storeCells_at P g0 (i*P.cellsOf e0+off) e0 (a.eval x).cells.toList 0 cur w hh (by omega) h11
  have hrun:(execOp a.eval o).run P w = .ok .skip (w.setRow g0 (putL cur.toList (i*P.cellsOf e0+off) (a.eval x).cells.toList).toArray):=by
   unfold execOp
   rw [ho]
   simp only [Instr.storeAt,h5,Instr.sureAddr,storeVar,Sem.run_bind,Sem.run_pure,Result.andThen_ok,run_sizeOf_tyi hti,hsz]
   simp only [ne_eq,not_true_eq_false,if_false,hst,Result.andThen_ok]
   rfl
  unfold Oper.wp
  rw [hrun]
  show Rel P N w0 S _ (a.put o.dst undef) _
  rw [hdst]
  show Rel P N w0 S _ a _
  have hhead:F κ g0:=Own.head (hr.mem κ _ hm) (by rw [h4]; rfl)
  have hfr:Fr (F κ) w (w.setRow g0 (putL cur.toList (i*P.cellsOf e0+off) (a.eval x).cells.toList).toArray):=
   ⟨rfl,rfl,rfl,by simp [World.setRow],fun k _ hn=>setRow_other _ _ _ _ (fun he=>hn (by rw [he]; exact hhead))⟩
  have:=row_write hr hm (ownKeys xs) (contains_nmem hκ) (inK (ownKeys xs) [κ]) (fun c hc=>by unfold inK; rw [hc]; rfl) hfr (fun k hk=>(hF1 k hk).imp id (fun ⟨κ',q1,q2,q3⟩ => .inl ⟨κ',by simpa using q1,q2,q3⟩)) hown (fun _=>rfl) (.inr ⟨List.length_set,rfl⟩) (fun i j n=>by unfold inK; simp [subIn]) (fun i j n q=>by unfold inK; simp [subIn])
  have he:(⟨fun n=>(s.t n).kill (inK (ownKeys xs) [κ]),upd (fun κ'=>if (ownKeys xs).contains κ' then none else (s.m κ').map (Cont.kill (inK (ownKeys xs) [κ]))) κ (some (.row e0 (css.set i (putL cs off ds))))⟩:St)=
    ⟨killT s.t (ownKeys xs) [κ],putK (killK s.m (ownKeys xs) [κ]) [] ((κ,some (.row e0 (css.set i (putL cs off ds))))::noneL (ownKeys xs))⟩:=by
   rw [killT_cons,← put_noneL _ hκ]
   simp only [killK_cons]
  rw [he] at this
  exact ⟨_,_,this⟩
def Src (P:Program) (w:World) (s:St) (F:Nat→Nat→Prop) (e:TypeId) (D:List Nat) (css2:List (List DV)) (y:Value):Prop:=
 ∃ (news:List Value) (G:Nat→Nat→Nat→Prop),news.length=css2.length*P.cellsOf e∧(∀ cs∈css2,cs.length=P.cellsOf e)∧(∀ u∈news,u.oneCell'=true)∧
  (∀ i j cs d u,css2[i]?=some cs→cs[j]?=some d→news[i*P.cellsOf e+j]?=some u→Own P w (G i j) d u)∧(∀ i j i' j' k,G i j k→G i' j' k→i=i'∧j=j')∧
  (∀ i j k,G i j k→∃ κ'∈D,s.m κ'≠none∧F κ' k)∧(∀ i j k,G i j k→∃ cs,css2[i]?=some cs∧j < cs.length)∧
  ((y = .slice none 0 0∧css2=[])∨∃ ad c,y = .slice (some ad) css2.length c∧∀ j u,news[j]?=some u→w.cell? (ad.add j)=some u)
theorem src_own (hr:RelE P N w0 S s a w ρ F) {κ2:Nat} {e:TypeId} {css2:List (List DV)} (hm:s.m κ2=some (.row e css2)):Src P w s F e [κ2] css2 (ρ κ2):=by
 have hn:s.m κ2≠none:=by rw [hm]; simp
 obtain ⟨fl,Fs,how,hlen,hcc,hdj,hbk,hrg,hF,hpos⟩:=Own.row_inv (hr.mem κ2 _ hm)
 refine ⟨fl,Fs,how.1,hlen,fun u hu=>?_,hcc,hdj,fun i j k h=>⟨κ2,List.mem_cons_self,hn,(hF k).2 (.inr ⟨i,j,h⟩)⟩,hrg,?_⟩
 ·obtain ⟨q,hq,rfl⟩:=List.mem_iff_getElem.1 hu
  have hq':q < css2.length*P.cellsOf e:=by rw [← how.1]; exact hq
  have hi:q / P.cellsOf e < css2.length:=Nat.div_lt_of_lt_mul (by rw [Nat.mul_comm]; exact hq')
  have hj:q%P.cellsOf e < (css2[q / P.cellsOf e]).length:=by rw [hlen _ (List.getElem_mem hi)]; exact Nat.mod_lt _ hpos
  refine (hcc (q / P.cellsOf e) (q%P.cellsOf e) _ _ fl[q] (List.getElem?_eq_getElem hi) (List.getElem?_eq_getElem hj) ?_).one
  rw [Nat.mul_comm,Nat.div_add_mod]
  exact List.getElem?_eq_getElem hq
 ·rcases how.2 with ⟨h1,h2⟩|⟨g,cap,cur,h1,_⟩
  ·exact .inl ⟨h1,List.length_eq_zero_iff.1 h2⟩
  ·exact .inr ⟨⟨g,0,none⟩,cap,h1,how.cells (by rw [h1]; rfl)⟩
def isV:DV→Bool
 | .v x=>x.oneCell'
 | _=>false
theorem src_flat {e:TypeId} {css2:List (List DV)} {y:Value} (hd:Deep P w ok (.row e css2) y) (hv:∀ cs∈css2,cs.all isV=true):Src P w s F e [] css2 y:=by
 by_cases hne:css2=[]
 ·subst hne
  obtain ⟨A,c,h1,h2,h3⟩:=deep_row hd
  refine ⟨[],fun _ _ _=>False,by simp,fun cs hcs=>(by cases hcs),fun u hu=>(by cases hu),fun i j cs d u hi=>(by simp at hi),fun _ _ _ _ _ h=>h.elim,fun _ _ _ h=>h.elim,fun _ _ _ h=>h.elim,?_⟩
  cases A with
  | none=>
   have:=deep_nilc (by rw [h1] at hd; exact hd) rfl
   subst this
   exact .inl ⟨h1,rfl⟩
  | some ad=>exact .inr ⟨ad,c,h1,fun j u hj=>(by simp at hj)⟩
 obtain ⟨A,c,h1,h2,h3⟩:=deep_row hd
 obtain ⟨ad,rfl,hok,hpos,hlen,vals,hcell,hdd⟩:=h3 hne
 have hget:∀ {q:Nat} {u:Value},((List.range (css2.length*P.cellsOf e)).map fun q=>vals (q / P.cellsOf e) (q%P.cellsOf e))[q]?=some u→∃ i j cs d,css2[i]?=some cs∧cs[j]?=some d∧q=i*P.cellsOf e+j∧u=vals i j:=by
  intro q u hq
  rw [List.getElem?_map] at hq
  obtain ⟨q',hq1,rfl⟩:=Option.map_eq_some_iff.1 hq
  have hlt:q < css2.length*P.cellsOf e:=by simpa using (List.getElem?_eq_some_iff.1 hq1).1
  rw [List.getElem?_range hlt] at hq1
  injection hq1 with hq1
  subst hq1
  have hi:q / P.cellsOf e < css2.length:=Nat.div_lt_of_lt_mul (by rw [Nat.mul_comm]; exact hlt)
  have hj:q%P.cellsOf e < (css2[q / P.cellsOf e]).length:=by rw [hlen _ (List.getElem_mem hi)]; exact Nat.mod_lt _ hpos
  exact ⟨_,_,_,_,List.getElem?_eq_getElem hi,List.getElem?_eq_getElem hj,by rw [Nat.mul_comm,Nat.div_add_mod],rfl⟩
 have hx:∀ {i j:Nat} {cs:List DV} {d:DV},css2[i]?=some cs→cs[j]?=some d→∃ x,d = .v x∧vals i j=x∧x.oneCell'=true:=by
  intro i j cs d hi hj
  have h4:=List.all_eq_true.1 (hv cs (List.mem_of_getElem? hi)) d (List.mem_of_getElem? hj)
  cases d with
  | v x=>exact ⟨x,rfl,deep_v (hdd i cs j _ hi hj),h4⟩
  | _=>cases h4
 refine ⟨(List.range (css2.length*P.cellsOf e)).map fun q=>vals (q / P.cellsOf e) (q%P.cellsOf e),fun _ _ _=>False,by simp,hlen,fun u hu=>?_,fun i j cs d u hi hj hu=>?_,fun _ _ _ _ _ h=>h.elim,fun _ _ _ h=>h.elim,fun _ _ _ h=>h.elim,.inr ⟨ad,c,h1,fun q u hq=>?_⟩⟩
 ·obtain ⟨q,hq⟩:=List.mem_iff_getElem?.1 hu
  obtain ⟨i,j,cs,d,h4,h5,_,rfl⟩:=hget hq
  obtain ⟨x,_,h6,h7⟩:=hx h4 h5
  rw [h6]; exact h7
 ·obtain ⟨x,rfl,h6,h7⟩:=hx hi hj
  have hj':j < P.cellsOf e:=by rw [← hlen cs (List.mem_of_getElem? hi)]; exact (List.getElem?_eq_some_iff.1 hj).1
  obtain ⟨i',j',cs',d',h8,h9,h10,rfl⟩:=hget hu
  have hj2:j' < P.cellsOf e:=by rw [← hlen cs' (List.mem_of_getElem? h8)]; exact (List.getElem?_eq_some_iff.1 h9).1
  have e1:(i*P.cellsOf e+j) / P.cellsOf e=i:=by rw [Nat.mul_comm,Nat.mul_add_div hpos,Nat.div_eq_of_lt hj',Nat.add_zero]
  have e2:(i'*P.cellsOf e+j') / P.cellsOf e=i':=by rw [Nat.mul_comm,Nat.mul_add_div hpos,Nat.div_eq_of_lt hj2,Nat.add_zero]
  have h11:i=i':=by rw [← e1,← e2,h10]
  subst h11
  have h12:j=j':=by omega
  subst h12
  rw [h6]
  exact .v x h7
 ·obtain ⟨i,j,cs,d,h4,h5,rfl,rfl⟩:=hget hq
  exact hcell i cs j d h4 h5
theorem own_app (hr:RelE P N w0 S s a w ρ F) {κ:Nat} {T ty e:TypeId} {z b:Nat} {zz:List Value} {g:Bool} {css css2:List (List DV)} {D:List Nat} {y:Value} (hm:s.m κ=some (.row e css)) (hD:κ∉D) (hs:Src P w s F e D css2 y) (hu:P.underlying T=some (.slice e)) (hti:tyi P e=some (z,b,zz,g)) (hzz:zz.length=z)
  (h63:css.length+css2.length≤maxLen) (hb:(css.length+css2.length)*b≤140737488355328):
  ∃ v' w' Fκ,(Builtin.append_ #[T,T] ty #[ρ κ,y]).run P w = .ok v' w'∧Own P w' Fκ (.row e (css++css2)) v'∧Fr (F κ) w w'∧∀ k,Fκ k→F κ k∨(∃ κ',κ'∈D∧s.m κ'≠none∧F κ' k)∨w.heap.size≤k:=by
 have hn0:s.m κ≠none:=by rw [hm]; simp
 have hmem:=hr.mem κ _ hm
 obtain ⟨fl,Fs,how,hlen,hcc,hdj,hbk,hrg,hF,hpos⟩:=Own.row_inv hmem
 obtain ⟨news,G,g1,g2,g3,g4,g5,g6,g7,g8⟩:=hs
 obtain ⟨i,dd,v0,q1,q2,q3,q4,q5,q6,q7⟩:=tyi_some hti
 have hce:P.cellsOf e=z:=cellsOf_tyi hti
 rcases g8 with ⟨rfl,rfl⟩|⟨ad,c,rfl,g8⟩
 ·have:=run_append_owned_none (P:=P) (w:=w) 0 T ty e i (P.cellsOf e) hu q1 (ρ κ) css.length fl how
  exact ⟨_,_,F κ,this,by rw [List.append_nil]; exact hmem,Fr.refl _ _,fun k hk => .inl hk⟩
 ·obtain ⟨v',w',r1,r2,r3,_,r5⟩:=run_append_own_at (P:=P) w 0 T ty e i v0 (P.cellsOf e) b hu q1 q3 (by rw [q4,hce]) q5 (by rw [← Array.length_toList,q6,hzz,hce]) hpos (ρ κ) css.length fl how ad css2.length c news g1 g8 g3 h63 hb (Nat.zero_le _)
  have hold:∀ k,k < w.heap.size→(ρ κ).ownBlock≠some k→w'.heap[k]?=w.heap[k]?:=fun k hk hne=>(Fr.of_grown r3).block k hk hne
  have hv':∀ k,v'.ownBlock=some k→(ρ κ).ownBlock=some k∨w.heap.size≤k:=fun k hk=>by
   rcases r5 with h|h
   ·exact .inl (h▸hk)
   ·rw [h] at hk; injection hk with hk; exact .inr (by omega)
  have hFs:∀ i j k,Fs i j k→F κ k∧k < w.heap.size∧(ρ κ).ownBlock≠some k:=fun i j k h=>⟨(hF k).2 (.inr ⟨i,j,h⟩),hr.lt hn0 ((hF k).2 (.inr ⟨i,j,h⟩)),hbk i j k h⟩
  have hG:∀ i j k,G i j k→(∃ κ',κ'∈D∧s.m κ'≠none∧F κ' k∧κ'≠κ)∧k < w.heap.size∧(ρ κ).ownBlock≠some k:=fun i j k h=>by
   obtain ⟨κ',h1,h2,h3⟩:=g6 i j k h
   have hne:κ'≠κ:=fun he=>hD (he▸h1)
   exact ⟨⟨κ',h1,h2,h3,hne⟩,hr.lt h2 h3,fun he=>hne (hr.apart κ' κ k h2 hn0 h3 (Own.head hmem he))⟩
  refine ⟨v',w',fun k=>v'.ownBlock=some k∨∃ i j,(if i < css.length then Fs i j k else G (i - css.length) j k),r1,?_,(Fr.of_grown r3).mono (fun x hx _=>Own.head hmem hx),fun k hk=>?_⟩
  ·refine .row _ e _ v' (fl++news) (fun i j k=>if i < css.length then Fs i j k else G (i - css.length) j k) (by rw [List.length_append]; exact r2) (fun cs hcs=>?_) (fun i j cs d u h1 h2 h3=>?_) (fun i1 j1 i2 j2 k h1 h2=>?_) (fun i1 j1 k h1 he=>?_) (fun i1 j1 k h1=>?_) (fun k=>Iff.rfl) hpos
   ·rcases List.mem_append.1 hcs with h|h
    ·exact hlen cs h
    ·exact g2 cs h
   ·have hmv:∀ {G:Nat→Prop} {d:DV} {u:Value},Own P w G d u→(∀ k,G k→k < w.heap.size∧(ρ κ).ownBlock≠some k)→Own P w' G d u:=fun ho hg=>ho.move (fun k hk=>hold k (hg k hk).1 (hg k hk).2)
    by_cases hi:i < css.length
    ·simp only [if_pos hi]
     rw [List.getElem?_append_left hi] at h1
     have hj:j < P.cellsOf e:=by rw [← hlen cs (List.mem_of_getElem? h1)]; exact (List.getElem?_eq_some_iff.1 h2).1
     have:i*P.cellsOf e+P.cellsOf e≤css.length*P.cellsOf e:=by rw [← Nat.succ_mul]; exact Nat.mul_le_mul_right _ hi
     rw [List.getElem?_append_left (by rw [how.1]; omega)] at h3
     exact hmv (hcc i j cs d u h1 h2 h3) (fun k hk=>(hFs i j k hk).2)
    ·simp only [if_neg hi]
     rw [List.getElem?_append_right (by omega)] at h1
     have:i*P.cellsOf e=css.length*P.cellsOf e+(i - css.length)*P.cellsOf e:=by rw [← Nat.add_mul]; congr 1; omega
     rw [List.getElem?_append_right (by rw [how.1]; omega),how.1,show i*P.cellsOf e+j - css.length*P.cellsOf e=(i - css.length)*P.cellsOf e+j from by omega] at h3
     exact hmv (g4 _ j cs d u h1 h2 h3) (fun k hk=>(hG _ j k hk).2)
   ·split at h1 <;> split at h2
    ·exact hdj _ _ _ _ k h1 h2
    ·obtain ⟨⟨κ',_,p2,p3,p4⟩,_⟩:=hG _ _ k h2
     exact absurd (hr.apart κ' κ k p2 hn0 p3 (hFs _ _ k h1).1) p4
    ·obtain ⟨⟨κ',_,p2,p3,p4⟩,_⟩:=hG _ _ k h1
     exact absurd (hr.apart κ' κ k p2 hn0 p3 (hFs _ _ k h2).1) p4
    ·have:=g5 _ _ _ _ k h1 h2
     omega
   ·have hb2:k < w.heap.size∧(ρ κ).ownBlock≠some k:=by
     split at h1
     ·exact (hFs _ _ k h1).2
     ·exact (hG _ _ k h1).2
    rcases hv' k he with h|h
    ·exact hb2.2 h
    ·omega
   ·split at h1
    ·rename_i hi
     obtain ⟨cs,p1,p2⟩:=hrg _ _ k h1
     exact ⟨cs,by rw [List.getElem?_append_left hi]; exact p1,p2⟩
    ·rename_i hi
     obtain ⟨cs,p1,p2⟩:=g7 _ _ k h1
     exact ⟨cs,by rw [List.getElem?_append_right (by omega)]; exact p1,p2⟩
  ·rcases hk with hk|⟨i1,j1,hk⟩
   ·rcases hv' k hk with h|h
    ·exact .inl (Own.head hmem h)
    ·exact .inr (.inr h)
   ·split at hk
    ·exact .inl (hFs _ _ k hk).1
    ·obtain ⟨⟨κ',p1,p2,p3,_⟩,_⟩:=hG _ _ k hk
     exact .inr (.inl ⟨κ',p1,p2,p3⟩)
end
end Go.Proofs.YticimffljcljoaaGreatM

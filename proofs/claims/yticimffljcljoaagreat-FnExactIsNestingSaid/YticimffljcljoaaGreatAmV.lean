/- The abstract machine: arguments of calls that write rows of the caller's. No condition. -/
import Derived.Test.YticimffljcljoaaGreatAmU
set_option linter.unusedVariables false
set_option linter.unusedSimpArgs false
namespace Go.Proofs.YticimffljcljoaaGreatM
open Go Go.RowKit
section
variable {P : Program} {N : Nat} {w0 : World} {S : Fx} {s : St} {w w1 : World} {a : Act} {ρ : Nat → Value} {F : Nat → Nat → Prop} {o : Oper}
theorem Rd.deepG {L:List (Nat×Cont)} {ok:Nat→Prop} (hr:RelE P N w0 S s a w ρ F) (hL:preK s L) (hk1:∀ k,okm s.m F k→ok k) (hk2:∀ κ c,lk L κ=some c→∀ k,F κ k→ok k) {c:Cell} {d:DV} (h:Rd L c d):∀ u,CellRel P w (okm s.m F) s.m ρ c u→Deep P w ok d u:=by
 induction h with
 | d x=>exact fun u hu=>Deep.mono hu (fun k h _=>⟨rfl,hk1 k h⟩)
 | nil e=>
  intro u hu
  rw [deep_v hu]
  exact .row0 e none 0 (fun _=>rfl)
 | own κ n e css h=>
  intro u hu
  obtain ⟨_,h2,_⟩:=hu
  rw [h2]
  exact Own.deep (hr.mem κ _ (preK_spec hL κ _ h)) (fun k hk=>hk2 κ _ h k hk)
 | sub κ i j n e css cs e' css' h hi hj=>
  intro u hu
  obtain ⟨e2,css2,cs2,e3,css3,g,n',c',h1,h2,h3,h4,h5,h6,h7⟩:=hu
  have hm:=preK_spec hL κ _ h
  rw [hm] at h1
  injection h1 with h1
  injection h1 with h1 h1'
  subst h1 h1'
  rw [hi] at h2
  injection h2 with h2
  subst h2
  obtain ⟨fl,Fs,how,hlen,hcc,_,_,_,hF,_⟩:=Own.row_inv (hr.mem κ _ hm)
  obtain ⟨h8,_⟩:=flat_at how.1 hlen hi hj
  have h9:=hcc i j cs _ _ hi hj (List.getElem?_eq_getElem h8)
  have h10:w.cell? ⟨g,i*P.cellsOf e+j,none⟩=some fl[i*P.cellsOf e+j]:=by
   have:=how.cells (g:=g) (by rw [h5]; rfl) _ _ (List.getElem?_eq_getElem h8)
   rwa [add_at,Nat.zero_add] at this
  have h11:u=fl[i*P.cellsOf e+j]:=Option.some.inj (h6.symm.trans h10)
  rw [h11]
  exact h9.deep (fun k hk=>hk2 κ _ h k ((hF k).2 (.inr ⟨i,j,hk⟩)))
 | ptr κ off ty cs ds cf h hne h1 h2 ih=>
  intro u hu
  obtain ⟨ty',cs',g,q1,q2,rfl⟩:=hu
  have hm:=preK_spec hL κ _ h
  obtain ⟨g2,us,q3,q4,q5,q6,q7⟩:=hr.mem κ _ hm
  rw [q2] at q3
  injection q3 with q3
  injection q3 with q3
  injection q3 with q3
  subst q3
  have hget:∀ (j:Nat) d,ds[j]?=some d→∃ y,us[off+j]?=some y∧CellRel P w (okm s.m F) s.m ρ (cf j) y:=fun j d hj=>q5.getL (h1 j d hj)
  refine .ro ds ⟨g,off,none⟩ (fun j=>us.getD (off+j) default) hne (hk2 κ _ h g ((q7 g).2 rfl)) (fun j d hj=>?_) (fun j d hj=>?_)
  ·obtain ⟨y,h3,_⟩:=hget j d hj
   rw [add_at,box_cell q4,h3,List.getD_eq_getElem?_getD,h3]
   rfl
  ·obtain ⟨y,h3,h4⟩:=hget j d hj
   rw [List.getD_eq_getElem?_getD,h3]
   exact ih j d hj y h4
 | eptr κ i off e css cs h hi hlt=>
  intro u hu
  obtain ⟨e',css',g,n',c',q1,q2,q3,rfl⟩:=hu
  have hm:=preK_spec hL κ _ h
  rw [hm] at q1
  injection q1 with q1
  injection q1 with q1 q1'
  subst q1 q1'
  obtain ⟨fl,Fs,how,hlen,hcc,_,_,_,hF,_⟩:=Own.row_inv (hr.mem κ _ hm)
  have hget:∀ (j:Nat) d,(cs.drop off)[j]?=some d→∃ y,fl[i*P.cellsOf e+(off+j)]?=some y∧Deep P w ok d y:=fun j d hj=>by
   rw [List.getElem?_drop] at hj
   obtain ⟨h8,_⟩:=flat_at how.1 hlen hi hj
   exact ⟨_,List.getElem?_eq_getElem h8,(hcc i (off+j) cs d _ hi hj (List.getElem?_eq_getElem h8)).deep (fun k hk=>hk2 κ _ h k ((hF k).2 (.inr ⟨i,off+j,hk⟩)))⟩
  refine .ro _ ⟨g,i*P.cellsOf e+off,none⟩ (fun j=>fl.getD (i*P.cellsOf e+(off+j)) default) (by
   intro h0
   rw [List.drop_eq_nil_iff] at h0
   omega) (hk2 κ _ h g ((hF g).2 (.inl (by rw [q3]; rfl)))) (fun j d hj=>?_) (fun j d hj=>?_)
  ·obtain ⟨y,h3,_⟩:=hget j d hj
   have:=how.cells (g:=g) (by rw [q3]; rfl) _ _ h3
   rw [add_at,Nat.zero_add] at this
   rw [add_at,Nat.add_assoc,this,List.getD_eq_getElem?_getD,h3]
   rfl
  ·obtain ⟨y,h3,h4⟩:=hget j d hj
   rw [List.getD_eq_getElem?_getD,h3]
   exact h4
 | cut κ lo n e css h=>
  intro u hu
  obtain ⟨e',css',A,c,q1,q2,rfl,q3,q4,q5⟩:=hu
  have hm:=preK_spec hL κ _ h
  rw [hm] at q1
  injection q1 with q1
  injection q1 with q1 q1'
  subst q1 q1'
  have hlen0:((css.drop lo).take n).length=n:=by rw [List.length_take,List.length_drop]; omega
  by_cases hn:n=0
  ·subst hn
   rw [List.take_zero]
   exact .row0 _ _ _ q4
  ·obtain ⟨g,n',c',q6,rfl⟩:=q5 (by omega)
   obtain ⟨fl,Fs,how,hlen,hcc,_,_,_,hF,hpos⟩:=Own.row_inv (hr.mem κ _ hm)
   have hsub:∀ i cs,((css.drop lo).take n)[i]?=some cs→css[lo+i]?=some cs:=fun i cs hi=>by
    rw [List.getElem?_take] at hi
    split at hi
    ·rwa [List.getElem?_drop] at hi
    ·cases hi
   refine .row e _ ⟨g,lo*P.cellsOf e,none⟩ n c (P.cellsOf e) (fun i j=>fl.getD ((lo+i)*P.cellsOf e+j) default) hlen0.symm q3 rfl hpos (by intro h0; rw [h0] at hlen0; exact hn hlen0.symm) (hk2 κ _ h g ((hF g).2 (.inl (by rw [q6]; rfl)))) (fun cs hcs=>hlen cs (List.mem_of_mem_drop (List.mem_of_mem_take hcs))) (fun i cs j d hi hj=>?_) (fun i cs j d hi hj=>?_)
   ·obtain ⟨h8,_⟩:=flat_at how.1 hlen (hsub i cs hi) hj
    have:=how.cells (g:=g) (by rw [q6]; rfl) _ _ (List.getElem?_eq_getElem h8)
    rw [add_at,Nat.zero_add] at this
    rw [add_at,← Nat.add_assoc,← Nat.add_mul,this,List.getD_eq_getElem?_getD,List.getElem?_eq_getElem h8]
    rfl
   ·obtain ⟨h8,_⟩:=flat_at how.1 hlen (hsub i cs hi) hj
    rw [List.getD_eq_getElem?_getD,List.getElem?_eq_getElem h8]
    exact (hcc _ j cs d _ (hsub i cs hi) hj (List.getElem?_eq_getElem h8)).deep (fun k hk=>hk2 κ _ h k ((hF k).2 (.inr ⟨_,j,hk⟩)))
 | fnc f κs caps hl h2 ih=>
  intro u hu
  obtain ⟨q1,rfl⟩:=hu
  have hlen:(List.range caps.length).map (fun j=>(κs.map ρ).getD j default)=κs.map ρ:=by
   apply List.ext_getElem?
   intro j
   rw [← hl,List.getElem?_map,List.getElem?_map]
   by_cases hj:j < κs.length
   ·rw [List.getElem?_range hj,List.getElem?_eq_getElem hj]; simp [hj]
   ·rw [List.getElem?_eq_none (by simp; omega),List.getElem?_eq_none (by omega)]; rfl
  rw [← hlen]
  refine .fn f caps _ (fun j d hj=>?_)
  have hjl:j < κs.length:=by rw [hl]; exact (List.getElem?_eq_some_iff.1 hj).1
  have hκ:=List.getElem?_eq_getElem hjl
  obtain ⟨ty,cs,hb⟩:=q1 κs[j] (List.getElem_mem hjl)
  obtain ⟨g,us,q2,_⟩:=hr.mem _ _ hb
  rw [List.getD_eq_getElem?_getD,List.getElem?_map,hκ]
  exact ih j _ d hκ hj _ ⟨ty,cs,g,hb,q2,q2⟩
 | pre c ds r hne h ih=>
  intro u hu
  obtain ⟨ad,vals,rfl,_,q2,q3,q4⟩:=deep_ro (ih u hu)
  refine .ro ds ad vals hne q2 (fun j d hj=>?_) (fun j d hj=>?_)
  ·exact q3 j d (by rw [List.getElem?_append_left (List.getElem?_eq_some_iff.1 hj).1]; exact hj)
  ·exact q4 j d (by rw [List.getElem?_append_left (List.getElem?_eq_some_iff.1 hj).1]; exact hj)
inductive MC (L:List (Nat×Cont)) (τ:Nat→Nat):Cell→Cell→Prop
 | d {c:Cell} {x:DV} (h:Rd L c x):MC L τ c (.d x)
 | own {κ μ n n':Nat} (h:τ μ=κ) (hn:n=n'):MC L τ (.own κ n) (.own μ n')
 | cut {κ μ lo n lo' n':Nat} (h:τ μ=κ) (hlo:lo=lo') (hn:n=n'):MC L τ (.cut κ lo n) (.cut μ lo' n')
inductive MA (L:List (Nat×Cont)) (τ:Nat→Nat):AV→AV→Prop
 | c {c c':Cell} (h:MC L τ c c'):MA L τ (.c c) (.c c')
 | agg {cs cs':List Cell} (h:All2 (MC L τ) cs cs'):MA L τ (.agg cs) (.agg cs')
theorem MC.rel {L m0:List (Nat×Cont)} {τ:Nat→Nat} (hr:RelE P N w0 S s a w ρ F) (hL:preK s L) (hren:∀ μ c,lk m0 μ=some c→rowB c=true∧s.m (τ μ)=some c) (hdis:∀ μ,lk m0 μ≠none→lk L (τ μ)=none) {c c':Cell} (h:MC L τ c c') (hin:c'.inL (m0.map (·.1))=true) {u:Value} (hu:CellRel P w (okm s.m F) s.m ρ c u):
  CellRel P w (okm (lk m0) fun μ=>F (τ μ)) (lk m0) (fun μ=>ρ (τ μ)) c' u:=by
 have hlive:∀ μ,lk m0 μ≠none→s.m (τ μ)≠none:=fun μ hn=>by
  cases hc:lk m0 μ with
  | none=>exact absurd hc hn
  | some c=>rw [(hren μ c hc).2]; simp
 cases h with
 | d h=>
  refine h.deepG hr hL (fun k hk μ hn hF=>hk (τ μ) (hlive μ hn) hF) (fun κ c hc k hk μ hn hF=>?_) u hu
  have:=hr.apart κ (τ μ) k (by rw [preK_spec hL κ c hc]; simp) (hlive μ hn) hk hF
  subst this
  rw [hdis μ hn] at hc
  cases hc
 | own h hn=>
  rename_i κ μ n n'
  subst h
  subst hn
  have hμ:μ∈m0.map (·.1):=by simpa [Cell.inL,Cell.uses] using hin
  obtain ⟨⟨e,css,q1,q2⟩,q3,q4⟩:=hu
  cases hc:lk m0 μ with
  | none=>exact absurd hc (lk_live hμ)
  | some c=>
   have:=(hren μ c hc).2
   rw [q1] at this
   injection this with this
   subst this
   exact ⟨⟨e,css,hc,q2⟩,q3,q4⟩
 | cut h hlo hn=>
  rename_i κ μ lo n lo' n'
  subst h
  subst hlo
  subst hn
  have hμ:μ∈m0.map (·.1):=by simpa [Cell.inL,Cell.uses] using hin
  obtain ⟨e,css,A,c,q1,q2⟩:=hu
  cases hc:lk m0 μ with
  | none=>exact absurd hc (lk_live hμ)
  | some c0=>
   have:=(hren μ c0 hc).2
   rw [q1] at this
   injection this with this
   subst this
   exact ⟨e,css,A,c,hc,q2⟩
end
end Go.Proofs.YticimffljcljoaaGreatM

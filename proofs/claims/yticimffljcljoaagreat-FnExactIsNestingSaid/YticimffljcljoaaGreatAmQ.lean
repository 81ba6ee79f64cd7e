/- The abstract machine's calls that turn nothing of the caller's. No condition. -/
import Derived.Test.YticimffljcljoaaGreatAmP
set_option linter.unusedVariables false
set_option linter.unusedSimpArgs false
namespace Go.Proofs.YticimffljcljoaaGreatM
open Go Go.RowKit
inductive Rd (L:List (Nat×Cont)):Cell→DV→Prop
 | d (x:DV):Rd L (.d x) x
 | nil (e:TypeId):Rd L (.d (.v (.slice none 0 0))) (.row e [])
 | own (κ n:Nat) (e:TypeId) (css:List (List DV)) (h:lk L κ=some (.row e css)):Rd L (.own κ n) (.row e css)
 | sub (κ i j n:Nat) (e:TypeId) (css:List (List DV)) (cs:List DV) (e':TypeId) (css':List (List DV)) (h:lk L κ=some (.row e css)) (hi:css[i]?=some cs) (hj:cs[j]?=some (.row e' css')):Rd L (.sub κ i j n) (.row e' css')
 | ptr (κ off:Nat) (ty:TypeId) (cs:List Cell) (ds:List DV) (cf:Nat→Cell) (h:lk L κ=some (.box ty cs)) (hne:ds≠[]) (h1:∀ (j:Nat) d,ds[j]?=some d→cs[off+j]?=some (cf j)) (h2:∀ (j:Nat) d,ds[j]?=some d→Rd L (cf j) d):Rd L (.ptr κ off) (.ro ds)
 | eptr (κ i off:Nat) (e:TypeId) (css:List (List DV)) (cs:List DV) (h:lk L κ=some (.row e css)) (hi:css[i]?=some cs) (hlt:off < cs.length):Rd L (.eptr κ i off) (.ro (cs.drop off))
 | cut (κ lo n:Nat) (e:TypeId) (css:List (List DV)) (h:lk L κ=some (.row e css)):Rd L (.cut κ lo n) (.row e ((css.drop lo).take n))
 | fnc (f:FuncId) (κs:List Nat) (caps:List DV) (hl:κs.length=caps.length) (h2:∀ (j:Nat) κ d,κs[j]?=some κ→caps[j]?=some d→Rd L (.ptr κ 0) d):Rd L (.fnc f κs) (.fn f caps)
 | pre (c:Cell) (ds r:List DV) (hne:ds≠[]) (h:Rd L c (.ro (ds++r))):Rd L c (.ro ds)
inductive AVRd (L:List (Nat×Cont)):AV→AV→Prop
 | c {c:Cell} {d:DV} (h:Rd L c d):AVRd L (.c c) (.c (.d d))
 | agg {cs cs':List Cell} (h:All2 (fun (c c':Cell)=>∃ d,c'=Cell.d d∧Rd L c d) cs cs'):AVRd L (.agg cs) (.agg cs')
def resC:Cell→Bool
 | .d (.v _)=>true
 | .own _ _=>true
 | _=>false
def resE:El→Bool
 | .c x=>resC x
 | .agg cs=>cs.all resC
def resA:AV→Bool
 | .c x=>resC x
 | .agg cs=>cs.all resC
 | .tup xs=>xs.all resE
def rowB:Cont→Bool
 | .row _ _=>true
 | _=>false
def nkOk (m1:List (Nat×Cont)) (σ:Nat→Nat):List (Nat×Cont)→Prop
 | []=>True
 | p::r=>lk m1 (σ p.1)=some p.2∧nkOk m1 σ r
def okNew (σ:Nat→Nat) (v:AV) (nk:List (Nat×Cont)):Bool:=
 resA v && v.inL (nk.map (·.1)) && (nk.map fun p=>σ p.1).Nodup && nk.all fun p=>rowB p.2 && Nat.ble 100 p.1
def rdO (s:St) (xs:List Operand):List (Operand×AV):=xs.map fun x=>(x,s.ev x)
section
variable {P : Program} {N : Nat} {w0 : World} {S : Fx} {s : St} {w w1 : World} {a : Act} {ok ok1 : Nat → Prop} {m m1 : Nat → Option Cont} {ρ : Nat → Value} {F : Nat → Nat → Prop} {o : Oper}
theorem preK_spec:∀ {L:List (Nat×Cont)},preK s L→∀ κ c,lk L κ=some c→s.m κ=some c
 | [],_,κ,c,h=>by cases h
 | (k,a)::r,hc,κ,c,h=>by
  by_cases hk:k=κ
  ·subst hk
   have h2:cond (Nat.beq k k) (some a) (lk r k)=some c:=h
   rw [show Nat.beq k k=true from Nat.beq_refl k] at h2
   injection h2 with h2
   rw [← h2]; exact hc.1
  ·have h2:cond (Nat.beq k κ) (some a) (lk r κ)=some c:=h
   rw [nb_ne hk] at h2
   exact preK_spec hc.2 κ c h2
theorem Rd.deep {L:List (Nat×Cont)} (hr:RelE P N w0 S s a w ρ F) (hL:preK s L) {c:Cell} {d:DV} (h:Rd L c d):∀ u,CellRel P w (okm s.m F) s.m ρ c u→Deep P w (fun _=>True) d u:=by
 induction h with
 | d x=>exact fun u hu=>Deep.mono hu (fun k _ _=>⟨rfl,True.intro⟩)
 | nil e=>
  intro u hu
  rw [deep_v hu]
  exact .row0 e none 0 (fun _=>rfl)
 | own κ n e css h=>
  intro u hu
  obtain ⟨_,h2,_⟩:=hu
  rw [h2]
  exact Own.deep (hr.mem κ _ (preK_spec hL κ _ h)) (fun _ _=>True.intro)
 | sub κ i j n e css cs e' css' h hi hj=>
  intro u hu
  obtain ⟨e2,css2,cs2,e3,css3,g,n',c',h1,h2,h3,h4,h5,h6,h7⟩:=hu
  have hm:=preK_spec hL κ _ h
  rw [hm] at h1
  injection h1 with h1
  injection h1 with h1 h1'
  subst h1 h1'
  rw [hi] at h2
  injection h2 with h2
  subst h2
  obtain ⟨fl,Fs,how,hlen,hcc,_⟩:=Own.row_inv (hr.mem κ _ hm)
  obtain ⟨h8,_⟩:=flat_at how.1 hlen hi hj
  have h9:=hcc i j cs _ _ hi hj (List.getElem?_eq_getElem h8)
  have h10:w.cell? ⟨g,i*P.cellsOf e+j,none⟩=some fl[i*P.cellsOf e+j]:=by
   have:=how.cells (g:=g) (by rw [h5]; rfl) _ _ (List.getElem?_eq_getElem h8)
   rwa [add_at,Nat.zero_add] at this
  have h11:u=fl[i*P.cellsOf e+j]:=Option.some.inj (h6.symm.trans h10)
  rw [h11]
  exact h9.deep (fun _ _=>True.intro)
 | ptr κ off ty cs ds cf h hne h1 h2 ih=>
  intro u hu
  obtain ⟨ty',cs',g,q1,q2,rfl⟩:=hu
  have hm:=preK_spec hL κ _ h
  obtain ⟨g2,us,q3,q4,q5,q6,q7⟩:=hr.mem κ _ hm
  rw [q2] at q3
  injection q3 with q3
  injection q3 with q3
  injection q3 with q3
  subst q3
  have hget:∀ (j:Nat) d,ds[j]?=some d→∃ y,us[off+j]?=some y∧CellRel P w (okm s.m F) s.m ρ (cf j) y:=fun j d hj=>q5.getL (h1 j d hj)
  refine .ro ds ⟨g,off,none⟩ (fun j=>us.getD (off+j) default) hne True.intro (fun j d hj=>?_) (fun j d hj=>?_)
  ·obtain ⟨y,h3,_⟩:=hget j d hj
   rw [add_at,box_cell q4,h3,List.getD_eq_getElem?_getD,h3]
   rfl
  ·obtain ⟨y,h3,h4⟩:=hget j d hj
   rw [List.getD_eq_getElem?_getD,h3]
   exact ih j d hj y h4
 | eptr κ i off e css cs h hi hlt=>
  intro u hu
  obtain ⟨e',css',g,n',c',q1,q2,q3,rfl⟩:=hu
  have hm:=preK_spec hL κ _ h
  rw [hm] at q1
  injection q1 with q1
  injection q1 with q1 q1'
  subst q1 q1'
  obtain ⟨fl,Fs,how,hlen,hcc,_⟩:=Own.row_inv (hr.mem κ _ hm)
  have hget:∀ (j:Nat) d,(cs.drop off)[j]?=some d→∃ y,fl[i*P.cellsOf e+(off+j)]?=some y∧Deep P w (fun _=>True) d y:=fun j d hj=>by
   rw [List.getElem?_drop] at hj
   obtain ⟨h8,_⟩:=flat_at how.1 hlen hi hj
   exact ⟨_,List.getElem?_eq_getElem h8,(hcc i (off+j) cs d _ hi hj (List.getElem?_eq_getElem h8)).deep (fun _ _=>True.intro)⟩
  refine .ro _ ⟨g,i*P.cellsOf e+off,none⟩ (fun j=>fl.getD (i*P.cellsOf e+(off+j)) default) (by
   intro h0
   rw [List.drop_eq_nil_iff] at h0
   omega) True.intro (fun j d hj=>?_) (fun j d hj=>?_)
  ·obtain ⟨y,h3,_⟩:=hget j d hj
   have:=how.cells (g:=g) (by rw [q3]; rfl) _ _ h3
   rw [add_at,Nat.zero_add] at this
   rw [add_at,Nat.add_assoc,this,List.getD_eq_getElem?_getD,h3]
   rfl
  ·obtain ⟨y,h3,h4⟩:=hget j d hj
   rw [List.getD_eq_getElem?_getD,h3]
   exact h4
 | cut κ lo n e css h=>
  intro u hu
  obtain ⟨e',css',A,c,q1,q2,rfl,q3,q4,q5⟩:=hu
  have hm:=preK_spec hL κ _ h
  rw [hm] at q1
  injection q1 with q1
  injection q1 with q1 q1'
  subst q1 q1'
  have hlen0:((css.drop lo).take n).length=n:=by rw [List.length_take,List.length_drop]; omega
  by_cases hn:n=0
  ·subst hn
   rw [List.take_zero]
   exact .row0 _ _ _ q4
  ·obtain ⟨g,n',c',q6,rfl⟩:=q5 (by omega)
   obtain ⟨fl,Fs,how,hlen,hcc,_,_,_,hF,hpos⟩:=Own.row_inv (hr.mem κ _ hm)
   have hsub:∀ i cs,((css.drop lo).take n)[i]?=some cs→css[lo+i]?=some cs:=fun i cs hi=>by
    rw [List.getElem?_take] at hi
    split at hi
    ·rwa [List.getElem?_drop] at hi
    ·cases hi
   refine .row e _ ⟨g,lo*P.cellsOf e,none⟩ n c (P.cellsOf e) (fun i j=>fl.getD ((lo+i)*P.cellsOf e+j) default) hlen0.symm q3 rfl hpos (by intro h0; rw [h0] at hlen0; exact hn hlen0.symm) (True.intro) (fun cs hcs=>hlen cs (List.mem_of_mem_drop (List.mem_of_mem_take hcs))) (fun i cs j d hi hj=>?_) (fun i cs j d hi hj=>?_)
   ·obtain ⟨h8,_⟩:=flat_at how.1 hlen (hsub i cs hi) hj
    have:=how.cells (g:=g) (by rw [q6]; rfl) _ _ (List.getElem?_eq_getElem h8)
    rw [add_at,Nat.zero_add] at this
    rw [add_at,← Nat.add_assoc,← Nat.add_mul,this,List.getD_eq_getElem?_getD,List.getElem?_eq_getElem h8]
    rfl
   ·obtain ⟨h8,_⟩:=flat_at how.1 hlen (hsub i cs hi) hj
    rw [List.getD_eq_getElem?_getD,List.getElem?_eq_getElem h8]
    exact (hcc _ j cs d _ (hsub i cs hi) hj (List.getElem?_eq_getElem h8)).deep (fun _ _=>True.intro)
 | fnc f κs caps hl h2 ih=>
  intro u hu
  obtain ⟨q1,rfl⟩:=hu
  have hlen:(List.range caps.length).map (fun j=>(κs.map ρ).getD j default)=κs.map ρ:=by
   apply List.ext_getElem?
   intro j
   rw [← hl,List.getElem?_map,List.getElem?_map]
   by_cases hj:j < κs.length
   ·rw [List.getElem?_range hj,List.getElem?_eq_getElem hj]; simp [hj]
   ·rw [List.getElem?_eq_none (by simp; omega),List.getElem?_eq_none (by omega)]; rfl
  rw [← hlen]
  refine .fn f caps _ (fun j d hj=>?_)
  have hjl:j < κs.length:=by rw [hl]; exact (List.getElem?_eq_some_iff.1 hj).1
  have hκ:=List.getElem?_eq_getElem hjl
  obtain ⟨ty,cs,hb⟩:=q1 κs[j] (List.getElem_mem hjl)
  obtain ⟨g,us,q2,_⟩:=hr.mem _ _ hb
  rw [List.getD_eq_getElem?_getD,List.getElem?_map,hκ]
  exact ih j _ d hκ hj _ ⟨ty,cs,g,hb,q2,q2⟩
 | pre c ds r hne h ih=>
  intro u hu
  obtain ⟨ad,vals,rfl,_,q2,q3,q4⟩:=deep_ro (ih u hu)
  refine .ro ds ad vals hne q2 (fun j d hj=>?_) (fun j d hj=>?_)
  ·exact q3 j d (by rw [List.getElem?_append_left (List.getElem?_eq_some_iff.1 hj).1]; exact hj)
  ·exact q4 j d (by rw [List.getElem?_append_left (List.getElem?_eq_some_iff.1 hj).1]; exact hj)
theorem AVRd.rel {L:List (Nat×Cont)} {F0:Nat→Nat→Prop} {ρ0:Nat→Value} (hr:RelE P N w0 S s a w ρ F) (hL:preK s L) {v v':AV} {u:Value} (h:AVRd L v v') (hu:AVRel P w (okm s.m F) s.m ρ v u):AVRel P w (okm (lk []) F0) (lk []) ρ0 v' u:=by
 have hok:∀ {d:DV} {u:Value},Deep P w (fun _=>True) d u→Deep P w (okm (lk []) F0) d u:=fun h=>h.mono (fun k _ _=>⟨rfl,fun κ hn=>absurd rfl hn⟩)
 cases h with
 | c h=>
  cases hu with
  | c hu=>exact .c (hok (h.deep hr hL _ hu))
 | agg h=>
  cases hu with
  | agg hu=>
   refine .agg ?_
   rename_i cs cs' us
   induction h generalizing us with
   | nil=>cases hu; exact .nil
   | cons h1 _ ih=>
    cases hu with
    | cons h2 h3=>
     obtain ⟨d,rfl,h4⟩:=h1
     exact .cons (hok (h4.deep hr hL _ h2)) (ih h3)
theorem rdO_ev {s s':St}:∀ {xs:List Operand},preT s' (rdO s xs)→∀ x∈xs,s'.ev x=s.ev x
 | [],_,p,hp=>by cases hp
 | x::r,h,p,hp=>by
  rcases List.mem_cons.1 hp with rfl|hp
  ·exact h.1
  ·exact rdO_ev (xs:=r) h.2 p hp
theorem preT_rdO (s:St):∀ xs:List Operand,preT s (rdO s xs)
 | []=>True.intro
 | p::r=>⟨rfl,preT_rdO s r⟩
theorem args_rel {L:List (Nat×Cont)} {F0:Nat→Nat→Prop} {ρ0:Nat→Value} {s0:St} (hr:RelE P N w0 S s a w ρ F) (hL:preK s L):∀ {xs:List Operand} {as:List AV},(∀ x∈xs,s.ev x=s0.ev x)→All2 (AVRd L) (xs.map s0.ev) as→All2 (AVRel P w (okm (lk []) F0) (lk []) ρ0) as (xs.map a.eval)
 | [],as,_,h=>by cases h; exact .nil
 | x::r,as,he,h=>by
  cases h with
  | cons h1 h2=>exact .cons (h1.rel hr hL (by rw [← he x List.mem_cons_self]; exact hr.ev x)) (args_rel hr hL (fun y hy=>he y (List.mem_cons_of_mem _ hy)) h2)
theorem nkOk_spec {σ:Nat→Nat} {ms:List (Nat×Cont)}:∀ {nk:List (Nat×Cont)},nkOk ms σ nk→∀ κ c,lk nk κ=some c→lk ms (σ κ)=some c
 | [],_,κ,c,h=>by cases h
 | (k,a)::r,hc,κ,c,h=>by
  by_cases hk:k=κ
  ·subst hk
   have h2:cond (Nat.beq k k) (some a) (lk r k)=some c:=h
   rw [show Nat.beq k k=true from Nat.beq_refl k] at h2
   injection h2 with h2
   rw [← h2]; exact hc.1
  ·have h2:cond (Nat.beq k κ) (some a) (lk r κ)=some c:=h
   rw [nb_ne hk] at h2
   exact nkOk_spec hc.2 κ c h2
theorem preN_spec:∀ {nk:List (Nat×Cont)},preN s nk→∀ κ∈nk.map (·.1),s.m κ=none
 | [],_,κ,hk=>by cases hk
 | p::r,h,κ,hk=>by
  simp only [List.map_cons,List.mem_cons] at hk
  rcases hk with rfl|hk
  ·exact h.1
  ·exact preN_spec h.2 κ hk
theorem uses_fresh (hr:RelE P N w0 S s a w ρ F) {nk:List (Nat×Cont)} (hn:preN s nk):∀ c u,CellRel P w (okm s.m F) s.m ρ c u→c ≠ .dead→Cell.uses (fun κ=>(nk.map (·.1)).contains κ) c=inK [] [] c:=fun c u hc hd=>by
 rw [inK_nil]
 have hno:∀ l:List Nat,(∀ κ∈l,s.m κ=none)→Cell.uses (fun κ=>l.contains κ) c=false:=by
  intro l
  induction l with
  | nil=>intro _; cases c <;> simp [Cell.uses]
  | cons k r ih=>
   intro hl
   have h1:=cell_fresh (hl k List.mem_cons_self) hc hd
   have h2:=ih (fun κ hκ=>hl κ (List.mem_cons_of_mem _ hκ))
   have:Cell.uses (fun κ=>(k::r).contains κ) c=(c.uses (fun x=>x == k) || c.uses fun κ=>r.contains κ):=by
    rw [← usesOr]; congr 1
   rw [this,h1,h2]; rfl
 exact hno _ (preN_spec hn)
theorem RelE.made (hr:RelE P N w0 S s a w ρ F) {ms nk:List (Nat×Cont)} {ρ':Nat→Value} {F':Nat→Nat→Prop} (σ:Nat→Nat) (hfr:Fr (fun _=>False) w w1) (hrows:Rows P w1 ms ρ' F') (hnew:∀ κ k,lk ms κ≠none→F' κ k→w.heap.size≤k) (hn:preN s nk) (hnk:nkOk ms σ nk) {v:AV} (hk:okNew σ v nk=true) {u:Value} (hu:AVRel P w1 (okm (lk ms) F') (lk ms) ρ' (v.mapK σ) u):
  ∃ ρ1 F1,RelE P N w0 S ⟨killT s.t [] [],putK (killK s.m [] []) nk []⟩ a w1 ρ1 F1∧AVRel P w1 (okm (putK (killK s.m [] []) nk []) F1) (putK (killK s.m [] []) nk []) ρ1 v u:=by
 unfold okNew at hk
 simp only [Bool.and_eq_true,decide_eq_true_eq] at hk
 obtain ⟨⟨⟨k1,k2⟩,k3⟩,k4⟩:=hk
 rw [show (nk.map fun p=>σ p.1)=(nk.map (·.1)).map σ from by rw [List.map_map]; rfl] at k3
 have hmem:∀ κ,lk nk κ≠none→κ∈nk.map (·.1):=fun κ hn=>by
  apply Classical.byContradiction
  intro hh
  exact hn (lk_none hh)
 have hK:∀ κ,(nk.map (·.1)).contains κ=true↔lk nk κ≠none:=fun κ=>⟨fun h=>lk_live (by simpa using h),fun h=>by simpa using hmem κ h⟩
 have hKf:∀ κ,(nk.map (·.1)).contains κ=false→lk nk κ=none:=fun κ h=>by
  cases hl:lk nk κ with
  | none=>rfl
  | some c=>rw [(hK κ).2 (by rw [hl]; simp)] at h; cases h
 have hrow:∀ κ c,lk nk κ=some c→rowB c=true∧100≤κ:=fun κ c hc=>by
  have:=List.all_eq_true.1 k4 (κ,c) (lk_memP hc)
  simp only [Bool.and_eq_true,Nat.ble_eq] at this
  exact this
 have hms:∀ κ,lk nk κ≠none→lk ms (σ κ)≠none:=fun κ hn=>by
  cases hc:lk nk κ with
  | none=>exact absurd hc hn
  | some c=>rw [nkOk_spec hnk κ c hc]; simp
 let p:=Cell.uses fun κ=>(nk.map (·.1)).contains κ
 have hput:∀ κ,(nk.map (·.1)).contains κ=false→putK (killK s.m [] []) nk [] κ=(s.m κ).map (Cont.kill p):=fun κ hκ=>by
  rw [killK_eq hr [] [] (uses_fresh hr hn)]
  unfold putK
  rw [hKf κ hκ]
  rfl
 have hputK:∀ κ c,lk nk κ=some c→putK (killK s.m [] []) nk [] κ=some c:=fun κ c hc=>by unfold putK; rw [hc]
 have hlive:∀ κ,(nk.map (·.1)).contains κ=true→putK (killK s.m [] []) nk [] κ≠none→lk nk κ≠none:=fun κ h _=>(hK κ).1 h
 have hfresh:=hr.fresh (m1:=putK (killK s.m [] []) nk []) (ρ1:=fun κ=>if (nk.map (·.1)).contains κ then ρ' (σ κ) else ρ κ) (F1:=fun κ=>if (nk.map (·.1)).contains κ then F' (σ κ) else F κ) (fun κ=>(nk.map (·.1)).contains κ) hfr hput (fun κ hκ=>by simp only [hκ]; rfl) (fun κ hκ=>by simp only [hκ]; rfl)
  (fun κ k hκ _ hF=>by
   simp only [hκ,if_true] at hF
   exact .inl (hnew (σ κ) k (hms κ ((hK κ).1 hκ)) hF))
  (fun _ κ c hκ hc=>by
   cases hl:lk nk κ with
   | none=>exact absurd hl ((hK κ).1 hκ)
   | some c2=>
    rw [hputK κ c2 hl] at hc
    injection hc with hc
    subst hc
    have h1:=hrows.mem (σ κ) c2 (nkOk_spec hnk κ c2 hl)
    cases c2 with
    | box ty cs=>have:=(hrow κ _ hl).1; cases this
    | row e css=>
     show Own P w1 _ _ _
     simp only [hκ,if_true]
     exact h1)
  (fun κ κ' k h1 h2 _ _ h3 h4=>by
   simp only [h1,h2,if_true] at h3 h4
   have:=hrows.apart (σ κ) (σ κ') k (hms κ ((hK κ).1 h1)) (hms κ' ((hK κ').1 h2)) h3 h4
   exact nodup_inj k3 κ (hmem κ ((hK κ).1 h1)) κ' (hmem κ' ((hK κ').1 h2)) this)
  (fun κ h1 _=>by
   cases hl:lk nk κ with
   | none=>exact absurd hl ((hK κ).1 h1)
   | some c2=>exact (hrow κ c2 hl).2)
 have hst:=killT_eq hr [] [] (uses_fresh hr hn)
 rw [hst] at hfresh
 refine ⟨_,_,hfresh.1,?_⟩
 have hcell:∀ c u,resC c=true→c.inL (nk.map (·.1))=true→CellRel P w1 (okm (lk ms) F') (lk ms) ρ' (c.mapK σ) u→CellRel P w1 (okm (putK (killK s.m [] []) nk []) fun κ=>if (nk.map (·.1)).contains κ then F' (σ κ) else F κ) (putK (killK s.m [] []) nk []) (fun κ=>if (nk.map (·.1)).contains κ then ρ' (σ κ) else ρ κ) c u:=by
  intro c u h1 h2 h3
  cases c with
  | d x=>
   cases x with
   | v x=>rw [deep_v h3]; exact Deep.v x
   | _=>cases h1
  | own κ n=>
   have h4:(nk.map (·.1)).contains κ=true:=by simpa [Cell.inL,Cell.uses] using h2
   obtain ⟨⟨e,css,q1,q2⟩,q3,q4⟩:=h3
   cases hl:lk nk κ with
   | none=>exact absurd hl ((hK κ).1 h4)
   | some c2=>
    have:=nkOk_spec hnk κ c2 hl
    rw [q1] at this
    injection this with this
    subst this
    exact ⟨⟨e,css,hputK κ _ hl,q2⟩,by simp only [h4,if_true]; exact q3,q4⟩
  | _=>cases h1
 have hcells:∀ (cs:List Cell) us,cs.all resC=true→cs.all (Cell.inL (nk.map (·.1)))=true→All2 (CellRel P w1 (okm (lk ms) F') (lk ms) ρ') (cs.map (Cell.mapK σ)) us→All2 (CellRel P w1 (okm (putK (killK s.m [] []) nk []) fun κ=>if (nk.map (·.1)).contains κ then F' (σ κ) else F κ) (putK (killK s.m [] []) nk []) (fun κ=>if (nk.map (·.1)).contains κ then ρ' (σ κ) else ρ κ)) cs us:=by
  intro cs
  induction cs with
  | nil=>intro us _ _ h; cases h; exact .nil
  | cons c r ih=>
   intro us h1 h2 h
   simp only [List.all_cons,Bool.and_eq_true] at h1 h2
   cases h with
   | cons h3 h4=>exact .cons (hcell c _ h1.1 h2.1 h3) (ih _ h1.2 h2.2 h4)
 cases v with
 | c x=>cases hu with|c h=>exact .c (hcell x _ k1 k2 h)
 | agg cs=>cases hu with|agg h=>exact .agg (hcells cs _ k1 k2 h)
 | tup xs=>
  cases hu with
  | tup h=>
   refine .tup ?_
   have k1':xs.all resE=true:=k1
   have k2':xs.all (El.inL (nk.map (·.1)))=true:=k2
   clear k1 k2
   rename_i us
   induction xs generalizing us with
   | nil=>cases h; exact .nil
   | cons x r ih=>
    simp only [List.all_cons,Bool.and_eq_true] at k1' k2'
    cases h with
    | cons h3 h4=>
     refine .cons ?_ (ih h4 k1'.2 k2'.2)
     cases x with
     | c y=>cases h3 with|c h5=>exact .c (hcell y _ k1'.1 k2'.1 h5)
     | agg cs=>cases h3 with|agg h5=>exact .agg (hcells cs _ k1'.1 k2'.1 h5)
theorem run_call {f:FuncId} {xs:Array Operand} {tys:Array TypeId} (ho:o.op = .call { callee := .value (.func f),args:=xs,argTypes:=tys }) {fn:Func} (h1:P.funcs[f]?=some fn) (h2:(fn.name == "runtime.NumGoroutine")=false) (h3:fn.body.isNone=false) (w:World):
  (execOp a.eval o).run P w = .ok (.enter f (xs.map a.eval)) w:=by
 unfold execOp
 rw [ho]
 have he:a.eval (.func f) = .func (.func f) #[] #[]:=rfl
 have h2':¬ fn.name = "runtime.NumGoroutine":=by simpa using h2
 have h3':¬ fn.body=none:=fun h=>by rw [h] at h3; cases h3
 simp [resolve,Deferred.ofValue,he,invoke,callFunc,h1,h2',h3']
theorem s_call {f:FuncId} {xs:Array Operand} {tys:Array TypeId} {as:List AV} {res v:AV} {ms L nk:List (Nat×Cont)} {s0:St} {d:Nat} (ho:o.op = .call { callee := .value (.func f),args:=xs,argTypes:=tys }) (hc:OkF P f as [] res ms) (he:∀ x∈xs.toList,s.ev x=s0.ev x) (ha:All2 (AVRd L) (xs.toList.map s0.ev) as) (hL:preK s L) (hn:preN s nk)
  (σ:Nat→Nat) (hnk:nkOk ms σ nk) (hk:okNew σ v nk=true) (hv:v.mapK σ=res) (hd:o.dst=some d) (hN:d < N):SoundOp P N w0 S o s ⟨putT (killT s.t [] []) (some (d,v)),putK (killK s.m [] []) nk []⟩:=by
 rintro a w ⟨ρ,F,hr⟩
 obtain ⟨fn,q1,q2,q3⟩:=hc.fn
 have hargs:=args_rel (F0:=fun _ _=>False) (ρ0:=fun _=>default) hr hL he ha
 have hcall:=hc.run w (xs.toList.map a.eval) (fun _=>default) (fun _ _=>False) hargs ⟨fun κ c hc=>(by cases hc),fun κ κ' k h=>absurd rfl h⟩
 unfold Oper.wp
 rw [run_call ho q1 q2 q3]
 have harr:(xs.toList.map a.eval).toArray=xs.map a.eval:=by
  apply Array.ext'
  simp
 rw [harr] at hcall
 refine Calls.mono hcall (fun e w' he=>?_)
 obtain ⟨u,ρ',F',rfl,hfr,hu,hrows,_,hnew⟩:=he
 have hno:∀ k,¬ blocks [] (fun _ _=>False) k:=fun k hb=>by obtain ⟨_,h,_⟩:=hb; exact h rfl
 subst hv
 obtain ⟨ρ1,F1,h1,h2⟩:=hr.made σ (hfr.mono (fun k hk _=>(hno k hk).elim)) hrows (fun κ k h3 h4=>(hnew κ k h3 h4).resolve_right (hno k)) hn hnk hk hu
 show Rel P N w0 S _ (a.put o.dst u) w'
 rw [hd,putT_upd]
 exact ⟨ρ1,F1,h1.put hN h2⟩
variable {ops : Array Oper} {draw : Bool} {pre : List (Oper × Eff)} {rest : List Oper} {t : Nat → AV} {K : St → Prop} {G : List (Operand × AV)} {d : Nat}
theorem qn {L:List (Nat×Cont)}:All2 (AVRd L) [] [] := .nil
theorem qd {L:List (Nat×Cont)} {x:DV} {as bs:List AV} (r:All2 (AVRd L) as bs):All2 (AVRd L) (.c (.d x)::as) (.c (.d x)::bs) := .cons (.c (.d x)) r
theorem qc {L:List (Nat×Cont)} {c:Cell} {x:DV} {as bs:List AV} (h:Rd L c x) (r:All2 (AVRd L) as bs):All2 (AVRd L) (.c c::as) (.c (.d x)::bs) := .cons (.c h) r
def isD:Cell→Bool
 | .d _=>true
 | _=>false
theorem rdc_all {L:List (Nat×Cont)}:∀ {cs:List Cell},cs.all isD=true→All2 (fun (c c':Cell)=>∃ d,c'=Cell.d d∧Rd L c d) cs cs
 | [],_ => .nil
 | c::r,h=>by
  simp only [List.all_cons,Bool.and_eq_true] at h
  cases c with
  | d x=>exact .cons ⟨x,rfl,.d x⟩ (rdc_all h.2)
  | _=>cases h.1
theorem qg {L:List (Nat×Cont)} {cs:List Cell} {as bs:List AV} (r:All2 (AVRd L) as bs) (h:cs.all isD=true:=by rfl):All2 (AVRd L) (.agg cs::as) (.agg cs::bs) := .cons (.agg (rdc_all h)) r
theorem qm {L:List (Nat×Cont)} {cs cs':List Cell} {as bs:List AV} (h:All2 (fun (c c':Cell)=>∃ d,c'=Cell.d d∧Rd L c d) cs cs') (r:All2 (AVRd L) as bs):All2 (AVRd L) (.agg cs::as) (.agg cs'::bs) := .cons (.agg h) r
theorem eN {L:List (Nat×Cont)}:All2 (fun (c c':Cell)=>∃ d,c'=Cell.d d∧Rd L c d) [] [] := .nil
theorem eD {L:List (Nat×Cont)} {x:DV} {cs cs':List Cell} (r:All2 (fun (c c':Cell)=>∃ d,c'=Cell.d d∧Rd L c d) cs cs'):All2 (fun (c c':Cell)=>∃ d,c'=Cell.d d∧Rd L c d) (.d x::cs) (.d x::cs') := .cons ⟨x,rfl,.d x⟩ r
theorem eC {L:List (Nat×Cont)} {c:Cell} {x:DV} {cs cs':List Cell} (h:Rd L c x) (r:All2 (fun (c c':Cell)=>∃ d,c'=Cell.d d∧Rd L c d) cs cs'):All2 (fun (c c':Cell)=>∃ d,c'=Cell.d d∧Rd L c d) (c::cs) (.d x::cs') := .cons ⟨x,rfl,h⟩ r
theorem rP {L:List (Nat×Cont)} {κ off:Nat} {ty:TypeId} {cs:List Cell} {ds:List DV} (hall:All2 (Rd L) ((cs.drop off).take ds.length) ds) (hne:ds.isEmpty=false:=by rfl) (h:lk L κ=some (.box ty cs):=by rfl):Rd L (.ptr κ off) (.ro ds):=by
 have hget:∀ (j:Nat) d,ds[j]?=some d→∃ c,cs[off+j]?=some c∧Rd L c d:=fun j d hj=>by
  have hlt:=(List.getElem?_eq_some_iff.1 hj).1
  have hl:=hall.len
  have hc:((cs.drop off).take ds.length)[j]?=some (((cs.drop off).take ds.length)[j]'(by omega)):=List.getElem?_eq_getElem (by omega)
  refine ⟨_,?_,hall.get hc hj⟩
  rw [List.getElem?_take,if_pos hlt,List.getElem?_drop] at hc
  exact hc
 refine .ptr κ off ty cs ds (fun j=>(cs[off+j]?).getD .dead) h (by rintro rfl; cases hne) (fun j d hj=>?_) (fun j d hj=>?_)
 ·obtain ⟨c,h1,_⟩:=hget j d hj
  rw [h1]; rfl
 ·obtain ⟨c,h1,h2⟩:=hget j d hj
  rw [h1]; exact h2
theorem p0 {L:List (Nat×Cont)}:All2 (Rd L) [] [] := .nil
theorem pD {L:List (Nat×Cont)} {x:DV} {cs:List Cell} {ds:List DV} (r:All2 (Rd L) cs ds):All2 (Rd L) (.d x::cs) (x::ds) := .cons (.d x) r
theorem rO {L:List (Nat×Cont)} {κ n:Nat} {e:TypeId} {css:List (List DV)} (h:lk L κ=some (.row e css):=by rfl):Rd L (.own κ n) (.row e css) := .own κ n e css h
theorem a_call {f:FuncId} {xs:Array Operand} {tys:Array TypeId} {as:List AV} {res v:AV} {ms L nk:List (Nat×Cont)} (k:RM P N w0 S draw ops pre rest t m K o G (rdO ⟨t,m⟩ xs.toList) L (some (d,v)) nk [] [] []) (ho:o.op = .call { callee := .value (.func f),args:=xs,argTypes:=tys }) (hc:OkF P f as [] res ms) (σ:Nat→Nat) (ha:All2 (AVRd L) (xs.toList.map (St.ev ⟨t,m⟩)) as) (hL:preK ⟨t,m⟩ L) (hn:preN ⟨t,m⟩ nk) (hnk:nkOk ms σ nk) (hk:okNew σ v nk=true) (hd:o.dst=some d:=by rfl) (hN:Nat.blt d N=true:=by rfl) (hv:v.mapK σ=res:=by rfl) (hg:Gs ops o ⟨t,m⟩ G:=by exact Gs.no rfl):RA P N w0 S draw ops pre (o::rest) ⟨t,m⟩ K:=
 RA.mem hg k (preT_rdO _ _) hL hn (fun s hs hk' hn'=>s_call ho hc (rdO_ev hs) ha hk' hn' σ hnk hk hv hd (blt hN))
end
end Go.Proofs.YticimffljcljoaaGreatM

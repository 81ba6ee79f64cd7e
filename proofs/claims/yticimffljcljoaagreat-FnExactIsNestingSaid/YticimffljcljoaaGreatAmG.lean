/- The abstract machine's regions: what an operation reads and writes of a state; operations in the text's order and in any order. No condition. -/
import Derived.Test.YticimffljcljoaaGreatAmF
set_option linter.unusedVariables false
set_option linter.unusedSimpArgs false
namespace Go.Proofs.YticimffljcljoaaGreatM
open Go Go.RowKit
def lk {α:Type}:List (Nat×α)→Nat→Option α
 | [],_=>none
 | (k,a)::r,κ=>cond (Nat.beq k κ) (some a) (lk r κ)
structure Eff where
 rt:List (Operand×AV)
 rk:List (Nat×Cont)
 wt:Option (Nat×AV)
 nk:List (Nat×Cont)
 ck:List (Nat×Option Cont)
 kl:List Nat
 sl:List Nat
def preT (s:St):List (Operand×AV)→Prop
 | []=>True
 | p::r=>s.ev p.1=p.2∧preT s r
def preK (s:St):List (Nat×Cont)→Prop
 | []=>True
 | p::r=>s.m p.1=some p.2∧preK s r
def preN (s:St):List (Nat×Cont)→Prop
 | []=>True
 | p::r=>s.m p.1=none∧preN s r
def Eff.pre (L:Eff) (s:St):Prop:=preT s L.rt∧preK s L.rk∧preN s L.nk
def putT (t:Nat→AV):Option (Nat×AV)→Nat→AV
 | none,n=>t n
 | some (d,v),n=>cond (Nat.beq d n) v (t n)
def putK (m:Nat→Option Cont) (nk:List (Nat×Cont)) (mk:List (Nat×Option Cont)) (κ:Nat):Option Cont:=
 match lk nk κ with
 | some c=>some c
 | none=>match lk mk κ with
  | some c=>c
  | none=>m κ
def subIn (sl:List Nat):Cell→Bool
 | .sub κ _ _ _=>sl.contains κ
 | .sptr κ _ _ _ _=>sl.contains κ
 | _=>false
def inK (kl sl:List Nat) (c:Cell):Bool:=c.uses (fun k=>kl.contains k) || subIn sl c
def killT (t:Nat→AV) (kl sl:List Nat) (n:Nat):AV:=
 match kl,sl with
 | [],[]=>t n
 | k,r=>(t n).kill (inK k r)
def killK (m:Nat→Option Cont) (kl sl:List Nat) (κ:Nat):Option Cont:=
 match kl,sl with
 | [],[]=>m κ
 | k,r=>(m κ).map (Cont.kill (inK k r))
def Eff.app (L:Eff) (s:St):St:=⟨putT (killT s.t L.kl L.sl) L.wt,putK (killK s.m L.kl L.sl) L.nk L.ck⟩
def SoundL (P:Program) (N:Nat) (w0:World) (S:Fx) (o:Oper) (L:Eff):Prop:=∀ s,L.pre s→SoundOp P N w0 S o s (L.app s)
def GOp (P:Program) (N:Nat) (w0:World) (S:Fx) (ops:Array Oper) (o:Oper) (L:Eff):Prop:=
 ∀ s a w (K:Act→World→Prop) (Q:Exit→Act→World→Prop),L.pre s→Rel P N w0 S s a w→(∀ a' w',Rel P N w0 S (L.app s) a' w'→K a' w')→
  if Region.wanted o (yielded ops a.tmps) then o.wp P a w K Q else K (a.put o.dst undef) w
inductive Gd (ops:Array Oper) (o:Oper):List (Operand×AV)→Prop
 | none (h:o.guard=none):Gd ops o []
 | some {j:Nat} {b:Bool} {g:Nat} (h:o.guard=some (j,b)) (hj:(ops[j]?).bind (·.dst)=some g):Gd ops o [(.tmp g,.c (.d (.v (.bool b))))]
theorem nb_ne {a b:Nat} (h:a≠b):Nat.beq a b=false:=by
 cases hb:Nat.beq a b with
 | true=>exact absurd (Nat.eq_of_beq_eq_true hb) h
 | false=>rfl
theorem putT_upd (t:Nat→AV) (d:Nat) (v:AV):putT t (some (d,v))=upd t d v:=by
 funext n
 show cond (Nat.beq d n) v (t n)=if n=d then v else t n
 by_cases hn:n=d
 ·subst hn
  rw [if_pos rfl,show Nat.beq n n=true from Nat.beq_refl n]
  rfl
 ·rw [if_neg hn,nb_ne (fun h=>hn h.symm)]
  rfl
def Eff.gd (L:Eff) (G:List (Operand×AV)):Eff:={ L with rt:=G++L.rt }
section
variable {P : Program} {w w1 : World} {ok ok1 : Nat → Prop} {m m1 : Nat → Option Cont} {ρ ρ1 : Nat → Value} {F F1 : Nat → Nat → Prop} {N : Nat} {w0 : World} {S : Fx} {s : St} {a : Act} {o : Oper} {ops : Array Oper}
theorem wp_anyQ {K:Act→World→Prop} {Q:Exit→Act→World→Prop} (h:o.wp P a w K (fun _ _ _=>False)):o.wp P a w K Q:=by
 unfold Oper.wp at*
 generalize (execOp a.eval o).run P w=r at*
 cases r with
 | ok n w'=>
  cases n <;> simp only [Oper.upon] at h ⊢ <;>
   first
    | exact h
    | exact Calls.mono h (fun e w'' he=>by cases e <;> first|exact he|exact he.elim|(obtain ⟨_,_,he⟩:=he; exact he.elim))
 | halt x w'=>cases x <;> simp only [Oper.upon] at h ⊢ <;> exact h.elim
theorem preT_append {l1 l2:List (Operand×AV)}:preT s (l1++l2)↔preT s l1∧preT s l2:=by
 induction l1 with
 | nil=>simp [preT]
 | cons p r ih=>simp only [List.cons_append,preT,ih,and_assoc]
theorem tmp_bool {g:Nat} {b:Bool} (hr:Rel P N w0 S s a w) (h:s.t g = .c (.d (.v (.bool b)))):a.tmps[g]?=some (.bool b):=by
 obtain ⟨ρ,F,hr⟩:=hr
 have h1:=hr.tmps g
 rw [h] at h1
 have h2:=rel_v h1
 cases h3:a.tmps[g]? with
 | none=>rw [Array.getD_eq_getD_getElem?,h3] at h2; cases h2
 | some v=>rw [Array.getD_eq_getD_getElem?,h3] at h2; simp only [Option.getD_some] at h2; rw [h2]
theorem yielded_tmp {j g:Nat} {b:Bool} (hr:Rel P N w0 S s a w) (hj:(ops[j]?).bind (·.dst)=some g) (h:s.t g = .c (.d (.v (.bool b)))):yielded ops a.tmps j=some b:=by
 unfold yielded
 rw [hj]
 simp [tmp_bool hr h]
theorem GOp.of {L:Eff} {G:List (Operand×AV)} (hG:Gd ops o G) (h:SoundL P N w0 S o L):GOp P N w0 S ops o (L.gd G):=by
 intro s a w K Q hp hr hK
 obtain ⟨h1,h2,h3⟩:=hp
 have h4:preT s (G++L.rt):=h1
 obtain ⟨h4,h5⟩:=preT_append.1 h4
 have happ:(L.gd G).app s=L.app s:=rfl
 rw [happ] at hK
 have hw:Region.wanted o (yielded ops a.tmps)=true:=by
  cases hG with
  | none h=>simp [Region.wanted,h]
  | some h hj=>
   have:=yielded_tmp hr hj h4.1
   simp [Region.wanted,h,this]
 rw [if_pos hw]
 exact Oper.wp_mono hK (wp_anyQ (h s ⟨h5,h2,h3⟩ a w hr))
theorem GOp.skip {j g d:Nat} {b b':Bool} (h:o.guard=some (j,b)) (hj:(ops[j]?).bind (·.dst)=some g) (hb:b'≠b) (hd:o.dst=some d) (hN:d < N):
  GOp P N w0 S ops o ⟨[(.tmp g,.c (.d (.v (.bool b'))))],[],some (d,.tup []),[],[],[],[]⟩:=by
 intro s a w K Q hp hr hK
 have h1:s.t g = .c (.d (.v (.bool b'))):=hp.1.1
 have hw:Region.wanted o (yielded ops a.tmps)=false:=by
  have:=yielded_tmp hr hj h1
  simp [Region.wanted,h,this,hb]
 rw [if_neg (by rw [hw]; simp)]
 refine hK _ _ ?_
 obtain ⟨ρ,F,hr⟩:=hr
 have:=hr.put hN (.tup (.nil:All2 (ElRel P w (okm s.m F) s.m ρ) [] []))
 rw [hd]
 refine ⟨ρ,F,?_⟩
 have he:(⟨upd s.t d (.tup []),s.m⟩:St)=Eff.app ⟨[(.tmp g,.c (.d (.v (.bool b'))))],[],some (d,.tup []),[],[],[],[]⟩ s:=by
  unfold Eff.app
  exact congrArg (fun t=>(⟨t,s.m⟩:St)) (putT_upd s.t d _).symm
 rw [← he]
 exact this
def preL:List (Oper×Eff)→St→Prop
 | [],_=>True
 | p::r,s=>p.2.pre s∧preL r (p.2.app s)
def runL:List (Oper×Eff)→St→St
 | [],s=>s
 | p::r,s=>runL r (p.2.app s)
theorem seq_sound {Q:Exit→Act→World→Prop} {sf:St}:∀ (Ls:List (Oper×Eff)) (s:St),(∀ p∈Ls,GOp P N w0 S ops p.1 p.2)→preL Ls s→runL Ls s=sf→(∀ a w,Rel P N w0 S sf a w→Q .normal a w)→
  ∀ a w,Rel P N w0 S s a w→wpList P ops Q (Ls.map (·.1)) a w
 | [],s,_,_,hs,hQ,a,w,hr=>by
  obtain rfl:s=sf:=hs
  exact hQ a w hr
 | p::r,s,hG,hp,hs,hQ,a,w,hr=>by
  simp only [List.map_cons]
  refine wpList_step (fun K hK=>?_)
  refine hG p List.mem_cons_self s a w K Q hp.1 hr (fun a' w' hr'=>hK _ _ ?_)
  exact seq_sound r _ (fun q hq=>hG q (List.mem_cons_of_mem _ hq)) hp.2 hs hQ a' w' hr'
def opTmp:Operand→Option Nat
 | .tmp n=>some n
 | _=>none
def Eff.tmps (L:Eff):List Nat:=L.rt.filterMap fun p=>opTmp p.1
def Eff.chg (L:Eff):List Nat:=L.nk.map (·.1)++L.ck.map (·.1)
def Eff.keys (L:Eff):List Nat:=L.rk.map (·.1)++L.chg
def Eff.wts (L:Eff):List Nat:=match L.wt with|some (n,_)=>[n]|none=>[]
def disj (x y:List Nat):Bool:=x.all fun n=>!(y.contains n)
def Cell.calm (kl sl:List Nat) (c:Cell):Bool:=!(inK kl sl c) && (match c with | .dead=>false|_=>true)
def El.calm (kl sl:List Nat):El→Bool
 | .c x=>x.calm kl sl
 | .agg cs=>cs.all (Cell.calm kl sl)
def AV.calm (kl sl:List Nat):AV→Bool
 | .c x=>x.calm kl sl
 | .agg cs=>cs.all (Cell.calm kl sl)
 | .tup xs=>xs.all (El.calm kl sl)
def Cont.calm (kl sl:List Nat):Cont→Bool
 | .box _ cs=>cs.all (Cell.calm kl sl)
 | .row _ _=>true
def Eff.calm (K B:Eff):Bool:=
 B.kl.isEmpty && B.sl.isEmpty && B.nk.isEmpty && B.ck.isEmpty && (disj K.chg (B.rk.map (·.1)) && B.rk.all fun p=>p.2.calm K.kl K.sl) && disj K.wts B.tmps && disj K.wts B.wts && disj B.wts K.tmps && B.rt.all (fun p=>p.2.calm K.kl K.sl) && (match B.wt with|none=>true|some (_,v)=>v.calm K.kl K.sl)
def Eff.apart0 (A B:Eff):Bool:=
 A.kl.isEmpty && B.kl.isEmpty && A.sl.isEmpty && B.sl.isEmpty && disj A.wts B.tmps && disj A.wts B.wts && disj B.wts A.tmps && disj A.chg B.keys && disj B.chg A.keys
def Eff.apart (A B:Eff):Bool:=A.apart0 B || (A.calm B || B.calm A)
theorem disj_spec {x y:List Nat} (h:disj x y=true):∀ n∈x,n∉y:=by
 intro n hn hy
 have:=List.all_eq_true.1 h n hn
 simp [hy] at this
theorem putT_ne {t:Nat→AV} {wt:Option (Nat×AV)} {n:Nat} (h:∀ d v,wt=some (d,v)→d≠n):putT t wt n=t n:=by
 cases wt with
 | none=>rfl
 | some p=>
  obtain ⟨d,v⟩:=p
  show cond (Nat.beq d n) v (t n)=t n
  rw [nb_ne (h d v rfl)]
  rfl
theorem lk_none {α:Type} {l:List (Nat×α)} {κ:Nat} (h:κ∉l.map (·.1)):lk l κ=none:=by
 induction l with
 | nil=>rfl
 | cons p r ih=>
  obtain ⟨k,a⟩:=p
  simp only [List.map_cons,List.mem_cons,not_or] at h
  unfold lk
  rw [show Nat.beq k κ=false from nb_ne (fun e=>h.1 e.symm)]
  exact ih h.2
theorem putK_ne {m:Nat→Option Cont} {nk:List (Nat×Cont)} {ck:List (Nat×Option Cont)} {κ:Nat} (h:κ∉nk.map (·.1)++ck.map (·.1)):putK m nk ck κ=m κ:=by
 unfold putK
 rw [lk_none (fun h1=>h (List.mem_append_left _ h1)),lk_none (fun h1=>h (List.mem_append_right _ h1))]
theorem putK_congr {m m':Nat→Option Cont} {nk:List (Nat×Cont)} {ck:List (Nat×Option Cont)} {κ:Nat} (h:m κ=m' κ):putK m nk ck κ=putK m' nk ck κ:=by
 unfold putK
 rw [h]
structure Eff.pure (L:Eff):Prop where
 kl:L.kl=[]
 sl:L.sl=[]
theorem app_pure {L:Eff} (h:L.pure) (s:St):L.app s=⟨putT s.t L.wt,putK s.m L.nk L.ck⟩:=by
 unfold Eff.app
 rw [h.kl,h.sl]
 rfl
theorem wts_spec {L:Eff} {d:Nat} {v:AV} (h:L.wt=some (d,v)):d∈L.wts:=by simp [Eff.wts,h]
theorem ev_app {L:Eff} (h:L.pure) {x:Operand} (hx:∀ n,opTmp x=some n→n∉L.wts):(L.app s).ev x=s.ev x:=by
 rw [app_pure h]
 cases x with
 | tmp n=>exact putT_ne (fun d v hd he=>hx n rfl (he▸wts_spec hd))
 | const v=>rfl
 | func f=>rfl
 | global g=>rfl
theorem preT_app {L:Eff} (h:L.pure) {rt:List (Operand×AV)} (hx:∀ n∈L.wts,n∉rt.filterMap fun p=>opTmp p.1):preT (L.app s) rt↔preT s rt:=by
 induction rt with
 | nil=>exact Iff.rfl
 | cons p r ih=>
  have h1:(L.app s).ev p.1=s.ev p.1:=ev_app h (fun n hn hw=>hx n hw (List.mem_filterMap.2 ⟨p,List.mem_cons_self,hn⟩))
  have h2:=ih (fun n hn hm=>hx n hn (by
   obtain ⟨q,hq,hqn⟩:=List.mem_filterMap.1 hm
   exact List.mem_filterMap.2 ⟨q,List.mem_cons_of_mem _ hq,hqn⟩))
  simp only [preT,h1,h2]
theorem preK_app {L:Eff} (h:L.pure) {rk:List (Nat×Cont)} (hx:∀ n∈L.chg,n∉rk.map (·.1)):preK (L.app s) rk↔preK s rk:=by
 induction rk with
 | nil=>exact Iff.rfl
 | cons p r ih=>
  have h1:(L.app s).m p.1=s.m p.1:=by
   rw [app_pure h]
   exact putK_ne (fun hm=>hx _ hm (by simp))
  have h2:=ih (fun n hn hm=>hx n hn (by simp only [List.map_cons,List.mem_cons]; exact .inr hm))
  simp only [preK,h1,h2]
theorem preN_app {L:Eff} (h:L.pure) {rk:List (Nat×Cont)} (hx:∀ n∈L.chg,n∉rk.map (·.1)):preN (L.app s) rk↔preN s rk:=by
 induction rk with
 | nil=>exact Iff.rfl
 | cons p r ih=>
  have h1:(L.app s).m p.1=s.m p.1:=by
   rw [app_pure h]
   exact putK_ne (fun hm=>hx _ hm (by simp))
  have h2:=ih (fun n hn hm=>hx n hn (by simp only [List.map_cons,List.mem_cons]; exact .inr hm))
  simp only [preN,h1,h2]
theorem pre_app {A B:Eff} (hA:A.pure) (h1:∀ n∈A.wts,n∉B.tmps) (h2:∀ n∈A.chg,n∉B.keys):B.pre (A.app s)↔B.pre s:=by
 unfold Eff.pre
 rw [preT_app hA h1,preK_app hA (fun n hn hm=>h2 n hn (List.mem_append_left _ hm)),preN_app hA (fun n hn hm=>h2 n hn (List.mem_append_right _ (List.mem_append_left _ hm)))]
theorem putT_comm {t:Nat→AV} {x y:Option (Nat×AV)} (h:∀ d v d' v',x=some (d,v)→y=some (d',v')→d≠d'):putT (putT t x) y=putT (putT t y) x:=by
 funext n
 cases x with
 | none=>rfl
 | some p=>
  cases y with
  | none=>rfl
  | some q=>
   obtain ⟨d,v⟩:=p
   obtain ⟨d',v'⟩:=q
   have hne:=h d v d' v' rfl rfl
   show cond (Nat.beq d' n) v' (cond (Nat.beq d n) v (t n))=cond (Nat.beq d n) v (cond (Nat.beq d' n) v' (t n))
   cases h1:Nat.beq d' n with
   | true=>
    cases h2:Nat.beq d n with
    | true=>exact absurd ((Nat.eq_of_beq_eq_true h2).trans (Nat.eq_of_beq_eq_true h1).symm) hne
    | false=>rfl
   | false=>rfl
theorem lk_memk {α:Type} {l:List (Nat×α)} {κ:Nat} (h:κ∈l.map (·.1)):∃ a,lk l κ=some a:=by
 induction l with
 | nil=>cases h
 | cons p r ih=>
  obtain ⟨k,a⟩:=p
  by_cases hk:k=κ
  ·subst hk
   exact ⟨a,by show cond (Nat.beq k k) (some a) (lk r k)=_; rw [Nat.beq_refl]; rfl⟩
  ·have hm:κ∈r.map (·.1):=by
    rcases List.mem_cons.1 h with h|h
    ·exact absurd h.symm hk
    ·exact h
   obtain ⟨b,hb⟩:=ih hm
   exact ⟨b,by show cond (Nat.beq k κ) (some a) (lk r κ)=_; rw [nb_ne hk]; exact hb⟩
theorem putK_in {m m':Nat→Option Cont} {nk:List (Nat×Cont)} {ck:List (Nat×Option Cont)} {κ:Nat} (h:κ∈nk.map (·.1)++ck.map (·.1)):putK m nk ck κ=putK m' nk ck κ:=by
 unfold putK
 cases h1:lk nk κ with
 | some c=>rfl
 | none=>
  rcases List.mem_append.1 h with h|h
  ·obtain ⟨a,ha⟩:=lk_memk h
   rw [h1] at ha
   cases ha
  ·obtain ⟨a,ha⟩:=lk_memk h
   rw [ha]
theorem putK_comm {m:Nat→Option Cont} {x y:List (Nat×Cont)} {cx cy:List (Nat×Option Cont)} (h:∀ n∈x.map (·.1)++cx.map (·.1),n∉y.map (·.1)++cy.map (·.1)):putK (putK m x cx) y cy=putK (putK m y cy) x cx:=by
 funext κ
 by_cases hx:κ∈x.map (·.1)++cx.map (·.1)
 ·rw [putK_ne (h κ hx)]
  exact putK_in hx
 ·rw [putK_ne (nk:=x) hx]
  exact putK_congr (putK_ne hx)
theorem apart_pure {A B:Eff} (h:A.apart0 B=true):A.pure∧B.pure:=by
 unfold Eff.apart0 at h
 simp only [Bool.and_eq_true,List.isEmpty_iff] at h
 obtain ⟨⟨⟨⟨⟨⟨⟨⟨h1,h2⟩,h3⟩,h4⟩,_⟩,_⟩,_⟩,_⟩,_⟩:=h
 exact ⟨⟨h1,h3⟩,⟨h2,h4⟩⟩
theorem swap_pure {A B:Eff} (h:A.apart0 B=true) (hA:A.pre s) (hB:B.pre (A.app s)):B.pre s∧A.pre (B.app s)∧A.app (B.app s)=B.app (A.app s):=by
 obtain ⟨pA,pB⟩:=apart_pure h
 unfold Eff.apart0 at h
 simp only [Bool.and_eq_true] at h
 obtain ⟨⟨⟨⟨⟨_,h5⟩,h6⟩,h7⟩,h8⟩,h9⟩:=h
 have hB':=(pre_app pA (disj_spec h5) (disj_spec h8)).1 hB
 refine ⟨hB',(pre_app pB (disj_spec h7) (disj_spec h9)).2 hA,?_⟩
 rw [app_pure pA,app_pure pB,app_pure pB,app_pure pA]
 congr 1
 ·exact putT_comm (fun d v d' v' h1 h2 he=>disj_spec h6 d' (wts_spec h2) (by rw [← he]; exact wts_spec h1)  ) 
 ·exact putK_comm (fun n hn hm=>disj_spec h9 n hn (List.mem_append_right _ hm))
theorem Cell.calm_kill {kl sl:List Nat} {c:Cell} (h:c.calm kl sl=true):c.kill (inK kl sl)=c:=by
 unfold Cell.calm at h
 rw [Bool.and_eq_true,Bool.not_eq_true'] at h
 unfold Cell.kill
 rw [h.1]; rfl
theorem Cell.calm_back {kl sl:List Nat} {x c:Cell} (h:c.calm kl sl=true) (hx:x.kill (inK kl sl)=c):x=c:=by
 unfold Cell.kill at hx
 by_cases hp:inK kl sl x=true
 ·rw [if_pos hp] at hx
  subst hx
  simp [Cell.calm] at h
 ·rw [if_neg hp] at hx
  exact hx
theorem cells_calm {kl sl:List Nat} {cs:List Cell} (h:cs.all (Cell.calm kl sl)=true):cs.map (Cell.kill (inK kl sl))=cs:=by
 induction cs with
 | nil=>rfl
 | cons c r ih=>
  rw [List.all_cons,Bool.and_eq_true] at h
  rw [List.map_cons,Cell.calm_kill h.1,ih h.2]
theorem cells_back {kl sl:List Nat}:∀ {cs xs:List Cell},cs.all (Cell.calm kl sl)=true→xs.map (Cell.kill (inK kl sl))=cs→xs=cs
 | [],[],_,_=>rfl
 | [],x::xs,_,h=>by cases h
 | c::cs,[],_,h=>by cases h
 | c::cs,x::xs,hc,h=>by
  rw [List.all_cons,Bool.and_eq_true] at hc
  rw [List.map_cons] at h
  injection h with h1 h2
  rw [Cell.calm_back hc.1 h1,cells_back hc.2 h2]
theorem El.calm_kill {kl sl:List Nat} {c:El} (h:c.calm kl sl=true):c.kill (inK kl sl)=c:=by
 cases c with
 | c x=>exact congrArg El.c (Cell.calm_kill h)
 | agg cs=>exact congrArg El.agg (cells_calm h)
theorem El.calm_back {kl sl:List Nat} {x c:El} (h:c.calm kl sl=true) (hx:x.kill (inK kl sl)=c):x=c:=by
 cases c with
 | c y=>
  cases x with
  | c z=>injection hx with hx; exact congrArg El.c (Cell.calm_back h hx)
  | agg zs=>cases hx
 | agg cs=>
  cases x with
  | c z=>cases hx
  | agg zs=>injection hx with hx; exact congrArg El.agg (cells_back h hx)
theorem els_calm {kl sl:List Nat} {cs:List El} (h:cs.all (El.calm kl sl)=true):cs.map (El.kill (inK kl sl))=cs:=by
 induction cs with
 | nil=>rfl
 | cons c r ih=>
  rw [List.all_cons,Bool.and_eq_true] at h
  rw [List.map_cons,El.calm_kill h.1,ih h.2]
theorem els_back {kl sl:List Nat}:∀ {cs xs:List El},cs.all (El.calm kl sl)=true→xs.map (El.kill (inK kl sl))=cs→xs=cs
 | [],[],_,_=>rfl
 | [],x::xs,_,h=>by cases h
 | c::cs,[],_,h=>by cases h
 | c::cs,x::xs,hc,h=>by
  rw [List.all_cons,Bool.and_eq_true] at hc
  rw [List.map_cons] at h
  injection h with h1 h2
  rw [El.calm_back hc.1 h1,els_back hc.2 h2]
theorem AV.calm_kill {kl sl:List Nat} {v:AV} (h:v.calm kl sl=true):v.kill (inK kl sl)=v:=by
 cases v with
 | c x=>exact congrArg AV.c (Cell.calm_kill h)
 | agg cs=>exact congrArg AV.agg (cells_calm h)
 | tup xs=>exact congrArg AV.tup (els_calm h)
theorem AV.calm_back {kl sl:List Nat} {x v:AV} (h:v.calm kl sl=true) (hx:x.kill (inK kl sl)=v):x=v:=by
 cases v with
 | c y=>
  cases x with
  | c z=>injection hx with hx; exact congrArg AV.c (Cell.calm_back h hx)
  | agg zs=>cases hx
  | tup zs=>cases hx
 | agg cs=>
  cases x with
  | c z=>cases hx
  | agg zs=>injection hx with hx; exact congrArg AV.agg (cells_back h hx)
  | tup zs=>cases hx
 | tup cs=>
  cases x with
  | c z=>cases hx
  | agg zs=>cases hx
  | tup zs=>injection hx with hx; exact congrArg AV.tup (els_back h hx)
theorem killT_at (t:Nat→AV) (kl sl:List Nat) (n:Nat):killT t kl sl n=t n∨killT t kl sl n=(t n).kill (inK kl sl):=by
 cases kl with
 | nil=>cases sl with
  | nil=>exact .inl rfl
  | cons _ _=>exact .inr rfl
 | cons _ _=>exact .inr rfl
theorem killT_putT {t:Nat→AV} {wt:Option (Nat×AV)} {kl sl:List Nat} (h:∀ d v,wt=some (d,v)→v.calm kl sl=true):killT (putT t wt) kl sl=putT (killT t kl sl) wt:=by
 cases wt with
 | none=>rfl
 | some p=>
  obtain ⟨d,v⟩:=p
  have hv:=h d v rfl
  funext n
  by_cases hn:d=n
  ·subst hn
   have e1:putT t (some (d,v)) d=v:=by show cond (Nat.beq d d) _ _=_; rw [Nat.beq_refl]; rfl
   have e2:putT (killT t kl sl) (some (d,v)) d=v:=by show cond (Nat.beq d d) _ _=_; rw [Nat.beq_refl]; rfl
   rw [e2]
   rcases killT_at (putT t (some (d,v))) kl sl d with h1|h1
   ·rw [h1,e1]
   ·rw [h1,e1,AV.calm_kill hv]
  ·have hne:∀ d' v',(some (d,v):Option (Nat×AV))=some (d',v')→d'≠n:=fun d' v' he=>by injection he with he; injection he with he _; rw [← he]; exact hn
   rw [putT_ne hne]
   cases kl with
   | nil=>cases sl with
    | nil=>exact putT_ne hne
    | cons a b=>show (putT t _ n).kill _=(t n).kill _; rw [putT_ne hne]
   | cons a b=>show (putT t _ n).kill _=(t n).kill _; rw [putT_ne hne]
structure Eff.Calm (K B:Eff):Prop where
 pure:B.pure
 nk:B.nk=[]
 ck:B.ck=[]
 rk:(∀ n∈K.chg,n∉B.rk.map (·.1))∧∀ p∈B.rk,p.2.calm K.kl K.sl=true
 h1:∀ n∈K.wts,n∉B.tmps
 h2:∀ n∈K.wts,n∉B.wts
 h3:∀ n∈B.wts,n∉K.tmps
 rt:∀ p∈B.rt,p.2.calm K.kl K.sl=true
 wt:∀ d v,B.wt=some (d,v)→v.calm K.kl K.sl=true
theorem calm_spec {K B:Eff} (h:K.calm B=true):K.Calm B:=by
 unfold Eff.calm at h
 simp only [Bool.and_eq_true,List.isEmpty_iff] at h
 obtain ⟨⟨⟨⟨⟨⟨⟨⟨⟨a1,a2⟩,a3⟩,a4⟩,a5⟩,a6⟩,a7⟩,a8⟩,a9⟩,a10⟩:=h
 refine ⟨⟨a1,a2⟩,a3,a4,⟨disj_spec a5.1,fun p hp=>List.all_eq_true.1 a5.2 p hp⟩,disj_spec a6,disj_spec a7,disj_spec a8,fun p hp=>List.all_eq_true.1 a9 p hp,fun d v hw=>?_⟩
 rw [hw] at a10
 exact a10
theorem calm_ev {K B:Eff} (h:K.Calm B) {p:Operand×AV} (hp:p∈B.rt):(K.app s).ev p.1=p.2↔s.ev p.1=p.2:=by
 have hc:=h.rt p hp
 obtain ⟨x,v⟩:=p
 cases x with
 | tmp n=>
  have hn:n∉K.wts:=fun hw=>h.h1 n hw (List.mem_filterMap.2 ⟨_,hp,rfl⟩)
  have e:(K.app s).ev (.tmp n)=killT s.t K.kl K.sl n:=putT_ne (fun d v hd he=>hn (he▸wts_spec hd))
  rw [e]
  show killT s.t K.kl K.sl n=v↔s.t n=v
  rcases killT_at s.t K.kl K.sl n with h1|h1
  ·rw [h1]
  ·rw [h1]
   exact ⟨AV.calm_back hc,fun hv=>by rw [hv]; exact AV.calm_kill hc⟩
 | const c=>exact Iff.rfl
 | func f=>exact Iff.rfl
 | global g=>exact Iff.rfl
theorem calm_preT {K:Eff} {rt:List (Operand×AV)} (h:∀ p∈rt,(K.app s).ev p.1=p.2↔s.ev p.1=p.2):preT (K.app s) rt↔preT s rt:=by
 induction rt with
 | nil=>exact Iff.rfl
 | cons p r ih=>
  have h1:=h p List.mem_cons_self
  have h2:=ih (fun q hq=>h q (List.mem_cons_of_mem _ hq))
  simp only [preT,h1,h2]
theorem Cont.calm_kill {kl sl:List Nat} {c:Cont} (h:c.calm kl sl=true):c.kill (inK kl sl)=c:=by
 cases c with
 | box ty cs=>exact congrArg (Cont.box ty) (cells_calm h)
 | row e css=>rfl
theorem Cont.calm_back {kl sl:List Nat} {x c:Cont} (h:c.calm kl sl=true) (hx:x.kill (inK kl sl)=c):x=c:=by
 cases c with
 | box ty cs=>
  cases x with
  | box ty' cs'=>injection hx with h1 h2; rw [h1,cells_back h h2]
  | row e css=>cases hx
 | row e css=>
  cases x with
  | box ty' cs'=>cases hx
  | row e' css'=>exact hx
theorem killK_at (m:Nat→Option Cont) (kl sl:List Nat) (κ:Nat):killK m kl sl κ=m κ∨killK m kl sl κ=(m κ).map (Cont.kill (inK kl sl)):=by
 cases kl with
 | nil=>cases sl with
  | nil=>exact .inl rfl
  | cons _ _=>exact .inr rfl
 | cons _ _=>exact .inr rfl
theorem calm_m {K B:Eff} (h:K.Calm B) {p:Nat×Cont} (hp:p∈B.rk):(K.app s).m p.1=some p.2↔s.m p.1=some p.2:=by
 have hc:=h.rk.2 p hp
 have hn:p.1∉K.nk.map (·.1)++K.ck.map (·.1):=fun hm=>h.rk.1 _ hm (List.mem_map.2 ⟨p,hp,rfl⟩)
 have e:(K.app s).m p.1=killK s.m K.kl K.sl p.1:=putK_ne hn
 rw [e]
 rcases killK_at s.m K.kl K.sl p.1 with h1|h1
 ·rw [h1]
 ·rw [h1]
  constructor
  ·intro hx
   obtain ⟨x,h2,h3⟩:=Option.map_eq_some_iff.1 hx
   rw [h2,Cont.calm_back hc h3]
  ·intro hx
   rw [hx,Option.map_some,Cont.calm_kill hc]
theorem calm_preK {K:Eff} {rk:List (Nat×Cont)} (h:∀ p∈rk,(K.app s).m p.1=some p.2↔s.m p.1=some p.2):preK (K.app s) rk↔preK s rk:=by
 induction rk with
 | nil=>exact Iff.rfl
 | cons p r ih=>
  have h1:=h p List.mem_cons_self
  have h2:=ih (fun q hq=>h q (List.mem_cons_of_mem _ hq))
  simp only [preK,h1,h2]
theorem calm_pre {K B:Eff} (h:K.Calm B):B.pre (K.app s)↔B.pre s:=by
 unfold Eff.pre
 rw [calm_preT (fun p hp=>calm_ev h hp),calm_preK (fun p hp=>calm_m h hp),h.nk]
 exact Iff.rfl
theorem calm_app {K B:Eff} (h:K.Calm B):K.app (B.app s)=B.app (K.app s):=by
 rw [app_pure h.pure,app_pure h.pure,h.nk,h.ck]
 have hk:∀ m:Nat→Option Cont,putK m [] []=m:=fun m=>rfl
 rw [hk,hk]
 unfold Eff.app
 simp only
 congr 1
 rw [killT_putT h.wt]
 exact putT_comm (fun d v d' v' e1 e2 he=>h.h2 d' (wts_spec e2) (by rw [← he]; exact wts_spec e1))
theorem swap_two {A B:Eff} (h:A.apart B=true) (hA:A.pre s) (hB:B.pre (A.app s)):B.pre s∧A.pre (B.app s)∧A.app (B.app s)=B.app (A.app s):=by
 unfold Eff.apart at h
 rw [Bool.or_eq_true,Bool.or_eq_true] at h
 rcases h with h|h|h
 ·exact swap_pure h hA hB
 ·have hc:=calm_spec h
  refine ⟨(calm_pre hc).1 hB,(pre_app hc.pure hc.h3 (fun n hn=>?_)).2 hA,calm_app hc⟩
  simp [Eff.chg,hc.nk,hc.ck] at hn
 ·have hc:=calm_spec h
  refine ⟨(pre_app hc.pure hc.h3 (fun n hn=>?_)).1 hB,(calm_pre hc).2 hA,(calm_app hc).symm⟩
  simp [Eff.chg,hc.nk,hc.ck] at hn
end
end Go.Proofs.YticimffljcljoaaGreatM

/- An abstract machine over values, rows and variables, for walks of printed functions: its values and what they say of memory. No condition. -/
import Derived.WalkKit
import Derived.Below
import Derived.Laws.OwnMore
import Derived.Laws.MakeOwn
import Derived.Laws.AppendOwn
import Derived.Orders
import Derived.OwnWalk
set_option linter.unusedVariables false
namespace Go.Proofs.YticimffljcljoaaGreatM
open Go Go.RowKit
inductive All2 {α β:Type} (R:α→β→Prop):List α→List β→Prop
 | nil:All2 R [] []
 | cons {a b as bs} (h:R a b) (t:All2 R as bs):All2 R (a::as) (b::bs)
namespace All2
variable {α β : Type} {R S : α → β → Prop} {as : List α} {bs : List β}
theorem len (h:All2 R as bs):as.length=bs.length:=by
 induction h with
 | nil=>rfl
 | cons _ _ ih=>simp [ih]
theorem imp (h:All2 R as bs) (f:∀ a b,R a b→S a b):All2 S as bs:=by
 induction h with
 | nil=>exact .nil
 | cons h _ ih=>exact .cons (f _ _ h) ih
theorem get (h:All2 R as bs):∀ {i:Nat} {a:α} {b:β},as[i]?=some a→bs[i]?=some b→R a b:=by
 induction h with
 | nil=>intro i a b ha; simp at ha
 | cons h _ ih=>
  intro i a b ha hb
  cases i with
  | zero=>simp at ha hb; subst ha; subst hb; exact h
  | succ i=>exact ih (by simpa using ha) (by simpa using hb)
theorem getL (h:All2 R as bs) {i:Nat} {a:α} (ha:as[i]?=some a):∃ b,bs[i]?=some b∧R a b:=by
 have hl:i < bs.length:=by rw [← h.len]; exact (List.getElem?_eq_some_iff.1 ha).1
 exact ⟨bs[i],List.getElem?_eq_getElem hl,h.get ha (List.getElem?_eq_getElem hl)⟩
theorem of_get:∀ {as:List α} {bs:List β},as.length=bs.length→(∀ (i:Nat) a b,as[i]?=some a→bs[i]?=some b→R a b)→All2 R as bs
 | [],[],_,_ => .nil
 | a::as,b::bs,hl,h => .cons (h 0 a b rfl rfl) (of_get (by simpa using hl) (fun i x y hx hy=>h (i+1) x y (by simpa using hx) (by simpa using hy)))
 | [],_::_,hl,_=>by simp at hl
 | _::_,[],hl,_=>by simp at hl
theorem append {as':List α} {bs':List β} (h:All2 R as bs) (h':All2 R as' bs'):All2 R (as++as') (bs++bs'):=by
 induction h with
 | nil=>exact h'
 | cons h _ ih=>exact .cons h ih
theorem take (h:All2 R as bs):∀ n,All2 R (as.take n) (bs.take n):=by
 induction h with
 | nil=>intro n; simp; exact .nil
 | cons h _ ih=>
  intro n
  cases n with
  | zero=>exact .nil
  | succ n=>exact .cons h (ih n)
theorem drop (h:All2 R as bs):∀ n,All2 R (as.drop n) (bs.drop n):=by
 induction h with
 | nil=>intro n; simp; exact .nil
 | cons h t ih=>
  intro n
  cases n with
  | zero=>exact .cons h t
  | succ n=>exact ih n
theorem set (h:All2 R as bs) {a:α} {b:β} (hab:R a b):∀ n,All2 R (as.set n a) (bs.set n b):=by
 induction h with
 | nil=>intro n; exact .nil
 | cons h t ih=>
  intro n
  cases n with
  | zero=>exact .cons hab t
  | succ n=>exact .cons h (ih n)
theorem map {α' β':Type} {R':α'→β'→Prop} (h:All2 R as bs) (f:α→α') (g:β→β') (hf:∀ a b,R a b→R' (f a) (g b)):All2 R' (as.map f) (bs.map g):=by
 induction h with
 | nil=>exact .nil
 | cons h _ ih=>exact .cons (hf _ _ h) ih
theorem map_left {α':Type} {R':α'→β→Prop} (h:All2 R as bs) (f:α→α') (hf:∀ a b,R a b→R' (f a) b):All2 R' (as.map f) bs:=by
 induction h with
 | nil=>exact .nil
 | cons h _ ih=>exact .cons (hf _ _ h) ih
end All2
def tyi (P:Program) (e:TypeId):Option (Nat×Nat×List Value×Bool):=
 match P.info? e,P.underlying e with
 | some i,some d=>match i.zero with
  | some z=>some (i.size,i.bytes,z.cells.toList,match d with | .struct _=>true | .array _ _=>true|_=>false)
  | none=>none
 | _,_=>none
def fld (P:Program) (s f:Nat):Option (Nat×Nat×Bool):=
 match P.underlying s with
 | some (.struct fs)=>match fs[f]? with
  | some fl=>match tyi P fl.type with
   | some (sz,_,_,g)=>some (fl.offset,sz,g)
   | none=>none
  | none=>none
 | _=>none
def eln (P:Program) (t:TypeId):Option TypeId:=
 match P.underlying t with
 | some (.slice e)=>some e
 | _=>none
def arn (P:Program) (t:TypeId):Option (Nat×TypeId):=
 match P.underlying t with
 | some (.array n e)=>some (n,e)
 | _=>none
theorem tyi_some {P:Program} {e:TypeId} {s b:Nat} {z:List Value} {g:Bool} (h:tyi P e=some (s,b,z,g)):
  ∃ i d v,P.info? e=some i∧P.underlying e=some d∧i.zero=some v∧i.size=s∧i.bytes=b∧v.cells.toList=z∧(match d with | .struct _=>true | .array _ _=>true|_=>false)=g:=by
 unfold tyi at h
 split at h
 ·rename_i i d hi hd
  split at h
  ·rename_i v hv
   simp only [Option.some.injEq,Prod.mk.injEq] at h
   obtain ⟨h1,h2,h3,h4⟩:=h
   exact ⟨i,d,v,hi,hd,hv,h1,h2,h3,h4⟩
  ·cases h
 ·cases h
theorem eln_some {P:Program} {t e:TypeId} (h:eln P t=some e):P.underlying t=some (.slice e):=by
 unfold eln at h
 split at h
 ·rename_i e' he
  injection h with h
  rw [he,h]
 ·cases h
theorem fld_some {P:Program} {s f o z:Nat} {g:Bool} (h:fld P s f=some (o,z,g)):
  ∃ fs fl b zz,P.underlying s=some (.struct fs)∧fs[f]?=some fl∧tyi P fl.type=some (z,b,zz,g)∧fl.offset=o:=by
 unfold fld at h
 split at h
 ·rename_i fs hs
  split at h
  ·rename_i fl hf
   split at h
   ·rename_i sz b zz g' ht
    simp only [Option.some.injEq,Prod.mk.injEq] at h
    obtain ⟨h1,h2,h3⟩:=h
    subst h1 h2 h3
    exact ⟨fs,fl,b,zz,hs,hf,ht,rfl⟩
   ·cases h
  ·cases h
 ·cases h
theorem add_block (a:Addr) (i:Nat):(a.add i).block=a.block:=by unfold Addr.add; split <;> rfl
theorem add_add (a:Addr) (i j:Nat):(a.add i).add j=a.add (i+j):=by
 unfold Addr.add
 by_cases hi:i=0 <;> by_cases hj:j=0 <;> simp [hi,hj,Nat.add_assoc]
theorem add_at (g o i:Nat):(⟨g,o,none⟩:Addr).add i=⟨g,o+i,none⟩:=by unfold Addr.add; split <;> simp_all
inductive DV where
 | v (x:Value)
 | row (e:TypeId) (css:List (List DV))
 | ro (cells:List DV)
 | fn (f:FuncId) (caps:List DV)
 | any
inductive Deep (P:Program) (w:World) (ok:Nat→Prop):DV→Value→Prop
 | v (x:Value):Deep P w ok (.v x) x
 | any (u:Value):Deep P w ok .any u
 | row0 (e:TypeId) (A:Option Addr) (c:Nat) (h0:A=none→c=0):Deep P w ok (.row e []) (.slice A 0 c)
 | row (e:TypeId) (css:List (List DV)) (ad:Addr) (n c sz:Nat) (vals:Nat→Nat→Value) (hn:n=css.length) (hc:n≤c) (hsz:sz=P.cellsOf e) (hpos:0 < sz) (hne:css≠[]) (hok:ok ad.block)
   (hlen:∀ cs,cs∈css→cs.length=sz)
   (hcell:∀ i cs j d,css[i]?=some cs→cs[j]?=some d→w.cell? (ad.add (i*sz+j))=some (vals i j))
   (hd:∀ i cs j d,css[i]?=some cs→cs[j]?=some d→Deep P w ok d (vals i j)):Deep P w ok (.row e css) (.slice (some ad) n c)
 | ro (cells:List DV) (ad:Addr) (vals:Nat→Value) (hne:cells≠[]) (hok:ok ad.block)
   (hcell:∀ (j:Nat) d,cells[j]?=some d→w.cell? (ad.add j)=some (vals j))
   (hd:∀ (j:Nat) d,cells[j]?=some d→Deep P w ok d (vals j)):Deep P w ok (.ro cells) (.pointer (some ad))
 | fn (f:FuncId) (caps:List DV) (vals:Nat→Value)
   (hd:∀ (j:Nat) d,caps[j]?=some d→Deep P w ok d (vals j)):Deep P w ok (.fn f caps) (.func (.func f) #[] ((List.range caps.length).map vals).toArray)
theorem Deep.mono {P:Program} {w w1:World} {ok ok1:Nat→Prop} {d:DV} {u:Value} (h:Deep P w ok d u) (hw:∀ k,ok k→k < w.heap.size→w1.heap[k]?=w.heap[k]?∧ok1 k):Deep P w1 ok1 d u:=by
 induction h with
 | v x=>exact .v x
 | any u=>exact .any u
 | row0 e A c h0=>exact .row0 e A c h0
 | row e css ad n c sz vals hn hc hsz hpos hne hok hlen hcell hd ih=>
  have hlt:ad.block < w.heap.size:=by
   obtain ⟨cs,r,rfl⟩:=List.exists_cons_of_ne_nil hne
   have hl:=hlen cs (by simp)
   have:=hcell 0 cs 0 _ rfl (List.getElem?_eq_getElem (by omega))
   have:=World.block_lt_of_cell? w _ this
   rwa [add_block] at this
  exact .row e css ad n c sz vals hn hc hsz hpos hne (hw _ hok hlt).2 hlen (fun i cs j d h1 h2=>by
   rw [World.cell?_of_block (w:=w) (a:=ad.add (i*sz+j)) (by rw [add_block ad _]; exact (hw _ hok hlt).1)]
   exact hcell i cs j d h1 h2) ih
 | ro cells ad vals hne hok hcell hd ih=>
  have hlt:ad.block < w.heap.size:=by
   obtain ⟨c,r,rfl⟩:=List.exists_cons_of_ne_nil hne
   have:=World.block_lt_of_cell? w _ (hcell 0 c rfl)
   rwa [add_block] at this
  exact .ro cells ad vals hne (hw _ hok hlt).2 (fun j d h1=>by
   rw [World.cell?_of_block (w:=w) (a:=ad.add j) (by rw [add_block ad _]; exact (hw _ hok hlt).1)]
   exact hcell j d h1) ih
 | fn f caps vals hd ih=>exact .fn f caps vals ih
inductive Own (P:Program) (w:World):(Nat→Prop)→DV→Value→Prop
 | v (x:Value) (h:x.oneCell'=true):Own P w (fun _=>False) (.v x) x
 | any (u:Value) (h:u.oneCell'=true):Own P w (fun _=>False) .any u
 | row (F:Nat→Prop) (e:TypeId) (css:List (List DV)) (v:Value) (fl:List Value) (Fs:Nat→Nat→Nat→Prop)
   (ho:w.ownsRow 0 e (P.cellsOf e) v css.length fl)
   (hlen:∀ cs,cs∈css→cs.length=P.cellsOf e)
   (hc:∀ i j cs d u,css[i]?=some cs→cs[j]?=some d→fl[i*P.cellsOf e+j]?=some u→Own P w (Fs i j) d u)
   (hd:∀ i j i' j' k,Fs i j k→Fs i' j' k→i=i'∧j=j')
   (hb:∀ i j k,Fs i j k→v.ownBlock≠some k)
   (hr:∀ i j k,Fs i j k→∃ cs,css[i]?=some cs∧j < cs.length)
   (hF:∀ k,F k↔v.ownBlock=some k∨∃ i j,Fs i j k) (hpos:0 < P.cellsOf e):Own P w F (.row e css) v
variable {P : Program} {w w1 : World} {F : Nat → Prop} {d : DV} {u v : Value} {e : TypeId} {css : List (List DV)}
theorem flat_at {css:List (List DV)} {fl:List Value} {s i j:Nat} {cs:List DV} {d:DV} (hl:fl.length=css.length*s) (hlen:∀ cs,cs∈css→cs.length=s) (h1:css[i]?=some cs) (h2:cs[j]?=some d):
  i*s+j < fl.length∧j < s:=by
 have hi:=(List.getElem?_eq_some_iff.1 h1).1
 have hj:=(List.getElem?_eq_some_iff.1 h2).1
 rw [hlen cs (List.mem_of_getElem? h1)] at hj
 have:i*s+s≤css.length*s:=by rw [← Nat.succ_mul]; exact Nat.mul_le_mul_right _ hi
 rw [hl]
 exact ⟨by omega,hj⟩
theorem Own.one (h:Own P w F d u):u.oneCell'=true:=by
 cases h with
 | v x h=>exact h
 | any u h=>exact h
 | row _ e css _ fl Fs ho hlen hc hd hb hr hF hpos=>
  rcases ho.2 with ⟨rfl,_⟩|⟨g,cap,cur,rfl,_⟩ <;> rfl
theorem Own.lt (h:Own P w F d u):∀ k,F k→k < w.heap.size:=by
 induction h with
 | v x h=>intro k hk; exact hk.elim
 | any u h=>intro k hk; exact hk.elim
 | row F e css v fl Fs ho hlen hc hd hb hr hF hpos ih=>
  intro k hk
  rcases (hF k).1 hk with h1|⟨i,j,h1⟩
  ·exact (ho.lt k h1).2
  ·obtain ⟨cs,h2,h3⟩:=hr i j k h1
   obtain ⟨h4,_⟩:=flat_at ho.1 hlen h2 (List.getElem?_eq_getElem h3)
   exact ih i j cs _ _ h2 (List.getElem?_eq_getElem h3) (List.getElem?_eq_getElem h4) k h1
theorem ownsRow_move {base size n:Nat} {e:TypeId} {v:Value} {xs:List Value} (h:w.ownsRow base e size v n xs) (hm:∀ k,v.ownBlock=some k→w1.heap[k]?=w.heap[k]?):w1.ownsRow base e size v n xs:=by
 obtain ⟨h1,h2⟩:=h
 refine ⟨h1,?_⟩
 rcases h2 with h2|⟨g,cap,cur,rfl,hg,hh,r⟩
 ·exact .inl h2
 ·exact .inr ⟨g,cap,cur,rfl,hg,(hm g (by simp [Value.ownBlock])).trans hh,r⟩
theorem Own.move (h:Own P w F d u) (hm:∀ k,F k→w1.heap[k]?=w.heap[k]?):Own P w1 F d u:=by
 induction h with
 | v x h=>exact .v x h
 | any u h=>exact .any u h
 | row F e css v fl Fs ho hlen hc hd hb hr hF hpos ih=>
  exact .row F e css v fl Fs (ownsRow_move ho (fun k hk=>hm k ((hF k).2 (.inl hk)))) hlen
   (fun i j cs d u h1 h2 h3=>ih i j cs d u h1 h2 h3 (fun k hk=>hm k ((hF k).2 (.inr ⟨i,j,hk⟩)))) hd hb hr hF hpos
theorem ownsRow_lower {base base' size n:Nat} {e:TypeId} {v:Value} {xs:List Value} (h:w.ownsRow base e size v n xs) (hb:base'≤base):w.ownsRow base' e size v n xs:=by
 refine ⟨h.1,?_⟩
 rcases h.2 with h2|⟨g,cap,cur,rfl,hg,r⟩
 ·exact .inl h2
 ·exact .inr ⟨g,cap,cur,rfl,Nat.le_trans hb hg,r⟩
theorem Own.deep {ok:Nat→Prop} (h:Own P w F d u) (hok:∀ k,F k→ok k):Deep P w ok d u:=by
 induction h with
 | v x h=>exact .v x
 | any u h=>exact .any u
 | row F e css v fl Fs ho hlen hc hd hb hr hF hpos ih=>
  have ih':∀ i j cs d u,css[i]?=some cs→cs[j]?=some d→fl[i*P.cellsOf e+j]?=some u→Deep P w ok d u:=
   fun i j cs d u h1 h2 h3=>ih i j cs d u h1 h2 h3 (fun k hk=>hok k ((hF k).2 (.inr ⟨i,j,hk⟩)))
  rcases ho.2 with ⟨rfl,h0⟩|⟨g,cap,cur,rfl,hg,hh,hnc,hm,hsz,htk⟩
  ·obtain rfl:css=[]:=List.length_eq_zero_iff.1 h0
   exact .row0 _ _ _ (fun _=>rfl)
  ·by_cases hne:css=[]
   ·subst hne
    exact .row0 _ _ _ (fun h=>by cases h)
   refine .row e css ⟨g,0,none⟩ css.length cap (P.cellsOf e) (fun i j=>fl.getD (i*P.cellsOf e+j) default) rfl hnc rfl hpos hne (hok g ((hF g).2 (.inl rfl))) hlen (fun i cs j d h1 h2=>?_) (fun i cs j d h1 h2=>?_)
   ·obtain ⟨h3,_⟩:=flat_at ho.1 hlen h1 h2
    have:=ho.cells (g:=g) rfl (i*P.cellsOf e+j) _ (List.getElem?_eq_getElem h3)
    rw [this,List.getD_eq_getElem?_getD,List.getElem?_eq_getElem h3]
    rfl
   ·obtain ⟨h3,_⟩:=flat_at ho.1 hlen h1 h2
    rw [List.getD_eq_getElem?_getD,List.getElem?_eq_getElem h3]
    exact ih' i j cs d _ h1 h2 (List.getElem?_eq_getElem h3)
theorem Own.row_inv (h:Own P w F (.row e css) v):∃ (fl:List Value) (Fs:Nat→Nat→Nat→Prop),w.ownsRow 0 e (P.cellsOf e) v css.length fl∧(∀ cs,cs∈css→cs.length=P.cellsOf e)∧
  (∀ i j cs d u,css[i]?=some cs→cs[j]?=some d→fl[i*P.cellsOf e+j]?=some u→Own P w (Fs i j) d u)∧(∀ i j i' j' k,Fs i j k→Fs i' j' k→i=i'∧j=j')∧
  (∀ i j k,Fs i j k→v.ownBlock≠some k)∧(∀ i j k,Fs i j k→∃ cs,css[i]?=some cs∧j < cs.length)∧(∀ k,F k↔v.ownBlock=some k∨∃ i j,Fs i j k)∧0 < P.cellsOf e:=by
 generalize hd0:DV.row e css=d0 at h
 cases h with
 | v x h=>cases hd0
 | any u h=>cases hd0
 | row F e' css' v fl Fs ho hlen hc hd hb hr hF hpos=>
  injection hd0 with h1 h2
  subst h1 h2
  exact ⟨fl,Fs,ho,hlen,hc,hd,hb,hr,hF,hpos⟩
theorem Own.head (h:Own P w F (.row e css) v) {k:Nat} (hk:v.ownBlock=some k):F k:=by
 obtain ⟨_,_,_,_,_,_,_,_,hF,_⟩:=h.row_inv
 exact (hF k).2 (.inl hk)
structure Fr (S:Nat→Prop) (w w1:World):Prop where
 os:w1.os=w.os
 tape:w1.tape=w.tape
 output:w1.output=w.output
 size:w.heap.size≤w1.heap.size
 block:∀ k,k < w.heap.size→¬ S k→w1.heap[k]?=w.heap[k]?
theorem Fr.refl (S:Nat→Prop) (w:World):Fr S w w:=⟨rfl,rfl,rfl,Nat.le_refl _,fun _ _ _=>rfl⟩
theorem Fr.trans {S S1:Nat→Prop} {a b c:World} (h:Fr S a b) (k:Fr S1 b c) (hs:∀ x,S1 x→S x∨a.heap.size≤x):Fr S a c:=
 ⟨k.os.trans h.os,k.tape.trans h.tape,k.output.trans h.output,Nat.le_trans h.size k.size,fun i hi hn=>(k.block i (Nat.lt_of_lt_of_le hi h.size) (fun h2=>(hs i h2).elim hn (fun h3=>by omega))).trans (h.block i hi hn)⟩
theorem Fr.mono {S S1:Nat→Prop} {a b:World} (h:Fr S a b) (hs:∀ x,S x→x < a.heap.size→S1 x):Fr S1 a b:=
 ⟨h.os,h.tape,h.output,h.size,fun i hi hn=>h.block i hi (fun h2=>hn (hs i h2 hi))⟩
theorem Fr.of_below {a b:World} (h:Below a.heap.size a b) (S:Nat→Prop):Fr S a b:=⟨h.os,h.tape,h.output,h.size,fun i hi _=>h.block i hi⟩
theorem Fr.below {a b:World} (h:Fr (fun _=>False) a b):Below a.heap.size a b:=⟨h.os,h.tape,h.output,h.size,fun i hi=>h.block i hi (fun x=>x)⟩
theorem Fr.of_grown {a b:World} {row:Option Nat} (h:a.grownBy b row):Fr (fun k=>row=some k) a b:=⟨h.os,h.tape,h.output,h.size,fun i hi hn=>h.block i hi (fun he=>hn he.symm)⟩
theorem Fr.drew (w:World) (S:Nat→Prop):Fr S w { w with drawn:=w.drawn+1 }:=⟨rfl,rfl,rfl,Nat.le_refl _,fun _ _ _=>rfl⟩
theorem Fr.alloc (w:World) (o:Obj) (S:Nat→Prop):Fr S w (w.alloc o):=Fr.of_below ((Below.refl _ w).alloc (Nat.le_refl _) o) S
end Go.Proofs.YticimffljcljoaaGreatM

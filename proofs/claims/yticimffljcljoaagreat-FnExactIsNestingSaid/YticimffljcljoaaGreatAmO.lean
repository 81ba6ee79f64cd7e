/- The abstract machine's control, and states made fewer. No condition. -/
import Derived.Test.YticimffljcljoaaGreatAmN
set_option linter.unusedVariables false
set_option linter.unusedSimpArgs false
namespace Go.Proofs.YticimffljcljoaaGreatM
open Go Go.RowKit
def thenQ (n:St→Prop) (Q:Exit→St→Prop):Exit→St→Prop
 | .normal,s=>n s
 | e,s=>Q e s
def blockQ (id:Nat) (Q:Exit→St→Prop):Exit→St→Prop
 | .exit i,s=>cond (Nat.beq i id) (Q .normal s) (Q (.exit i) s)
 | e,s=>Q e s
def retQ (R:St→Prop):Exit→St→Prop
 | .ret,s=>R s
 | .normal,s=>R s
 | _,_=>False
def LW (P:Program) (c:Code) (Q:Exit→Act→World→Prop) (a:Act) (w:World):Prop:=
 ∀ (b:Frame) (k:List Item) (cs:List Frame),∃ e a' w',Q e a' w'∧Arrives P (lone (b.at a (.code c :: .inLoop c::k)) cs w) b k cs e a' w'
theorem LW.step {P:Program} {c:Code} {Q:Exit→Act→World→Prop} {a:Act} {w:World} (h:c.wp P (Exit.then (LW P c Q) Q) a w):LW P c Q a w:=by
 intro b k cs
 obtain ⟨e,a1,w1,hq,harr⟩:=h b (.inLoop c::k) cs
 cases e with
 | normal=>
  obtain ⟨e2,a2,w2,hq2,harr2⟩:=hq b k cs
  exact ⟨e2,a2,w2,hq2,.of_steps (Steps.trans harr (.one step_inLoop)) harr2⟩
 | exit id=>exact ⟨_,a1,w1,hq,.pass (x := .inLoop c) rfl (fun _ _ => .inl (by simp)) harr⟩
 | goto l=>exact ⟨_,a1,w1,hq,.pass (x := .inLoop c) rfl (fun _ _ => .inl (by simp)) harr⟩
 | ret=>exact ⟨_,a1,w1,hq,.pass (x := .inLoop c) rfl (fun _ _ => .inl (by simp)) harr⟩
 | panic ch=>exact ⟨_,a1,w1,hq,.pass (x := .inLoop c) rfl (fun _ _ => .inl (by simp)) harr⟩
 | outgrown=>exact ⟨_,a1,w1,hq,.pass (x := .inLoop c) rfl (fun _ _ => .inl (by simp)) harr⟩
theorem LW.loop {P:Program} {c:Code} {Q:Exit→Act→World→Prop} {a:Act} {w:World} (h:LW P c Q a w):(Code.loop c).wp P Q a w:=by
 intro b k cs
 obtain ⟨e,a',w',hq,harr⟩:=h b k cs
 exact ⟨e,a',w',hq,.of_steps (.one step_loop) harr⟩
structure AGr (P:Program) (N:Nat) (w0:World) (S:Fx) (c:Code) (Q:Exit→St→Prop) (s:St):Prop where
 run:∀ a w,Rel P N w0 S s a w→LW P c (fun e a' w'=>∃ s',Q e s'∧Rel P N w0 S s' a' w') a w
section
variable {P : Program} {N : Nat} {w0 : World} {S : Fx} {s : St} {Q : Exit → St → Prop} {x y c : Code} {w : World} {a : Act}
theorem AG.seq (h:AG P N w0 S x (thenQ (AG P N w0 S y Q) Q) s):AG P N w0 S (.seq x y) Q s:=
 ⟨fun a w hr=>wp_seq (wp_mono (h.run a w hr) (fun e a w he=>by
  obtain ⟨s',h1,h2⟩:=he
  cases e with
  | normal=>exact h1.run a w h2
  | _=>exact ⟨s',h1,h2⟩))⟩
theorem AG.skip (h:Q .normal s):AG P N w0 S .skip Q s:=⟨fun a w hr=>wp_skip ⟨s,h,hr⟩⟩
theorem AG.exit {id:Nat} (h:Q (.exit id) s):AG P N w0 S (.exit id) Q s:=⟨fun a w hr=>wp_exit ⟨s,h,hr⟩⟩
theorem AG.ret (h:Q .ret s):AG P N w0 S .ret Q s:=⟨fun a w hr=>wp_ret ⟨s,h,hr⟩⟩
theorem ev_bool {o:Operand} {b:Bool} (hr:Rel P N w0 S s a w) (h:s.ev o=vB b):a.eval o = .bool b:=by
 obtain ⟨ρ,F,hr⟩:=hr
 have:=hr.ev o
 rw [h] at this
 exact rel_v this
theorem AG.yes {o:Operand} {b:Bool} (h:s.ev o=vB b) (hb:b=true) (k:AG P N w0 S x Q s):AG P N w0 S (.cond o x y) Q s:=
 ⟨fun a w hr=>wp_cond_true (by rw [ev_bool hr h,hb]) (k.run a w hr)⟩
theorem AG.no {o:Operand} {b:Bool} (h:s.ev o=vB b) (hb:b=false) (k:AG P N w0 S y Q s):AG P N w0 S (.cond o x y) Q s:=
 ⟨fun a w hr=>wp_cond_false (by rw [ev_bool hr h,hb]) (k.run a w hr)⟩
theorem AG.block {id:Nat} (h:AG P N w0 S c (blockQ id Q) s):AG P N w0 S (.block id c) Q s:=
 ⟨fun a w hr=>wp_block (wp_mono (h.run a w hr) (fun e a w he=>by
  obtain ⟨s',h1,h2⟩:=he
  cases e with
  | exit i=>
   show if i=id then _ else _
   have h3:cond (Nat.beq i id) (Q .normal s') (Q (.exit i) s'):=h1
   by_cases hi:i=id
   ·rw [if_pos hi]
    subst hi
    rw [show Nat.beq i i=true from Nat.beq_refl i] at h3
    exact ⟨s',h3,h2⟩
   ·rw [if_neg hi]
    rw [nb_ne hi] at h3
    exact ⟨s',h3,h2⟩
  | _=>exact ⟨s',h1,h2⟩))⟩
theorem AG.loop (h:AGr P N w0 S c Q s):AG P N w0 S (.loop c) Q s:=⟨fun a w hr=>LW.loop (h.run a w hr)⟩
theorem AGr.step (h:AG P N w0 S c (thenQ (AGr P N w0 S c Q) Q) s):AGr P N w0 S c Q s:=
 ⟨fun a w hr=>LW.step (wp_mono (h.run a w hr) (fun e a w he=>by
  obtain ⟨s',h1,h2⟩:=he
  cases e with
  | normal=>exact h1.run a w h2
  | _=>exact ⟨s',h1,h2⟩))⟩
def Cell.mapK (σ:Nat→Nat):Cell→Cell
 | .d x => .d x
 | .own κ n => .own (σ κ) n
 | .sub κ i j n => .sub (σ κ) i j n
 | .sptr κ i j n q => .sptr (σ κ) i j n q
 | .cut κ lo n => .cut (σ κ) lo n
 | .ptr κ off => .ptr (σ κ) off
 | .eptr κ i off => .eptr (σ κ) i off
 | .fnc f κs => .fnc f (κs.map σ)
 | .dead => .dead
def El.mapK (σ:Nat→Nat):El→El
 | .c x => .c (x.mapK σ)
 | .agg cs => .agg (cs.map (Cell.mapK σ))
def AV.mapK (σ:Nat→Nat):AV→AV
 | .c x => .c (x.mapK σ)
 | .agg cs => .agg (cs.map (Cell.mapK σ))
 | .tup xs => .tup (xs.map (El.mapK σ))
def Cont.mapK (σ:Nat→Nat):Cont→Cont
 | .box ty cs => .box ty (cs.map (Cell.mapK σ))
 | .row e css => .row e css
def Cell.inL (ks:List Nat) (c:Cell):Bool:=!(c.uses fun κ=>!(ks.contains κ))
def El.inL (ks:List Nat):El→Bool
 | .c x=>x.inL ks
 | .agg cs=>cs.all (Cell.inL ks)
def AV.inL (ks:List Nat):AV→Bool
 | .c x=>x.inL ks
 | .agg cs=>cs.all (Cell.inL ks)
 | .tup xs=>xs.all (El.inL ks)
def Cont.inL (ks:List Nat):Cont→Bool
 | .box _ cs=>cs.all (Cell.inL ks)
 | .row _ _=>true
def St.of (ts:List (Nat×AV)) (ms:List (Nat×Cont)):St:=⟨fun n=>(lk ts n).getD (.c .dead),lk ms⟩
structure Ren (σ:Nat→Nat) (m m1:Nat→Option Cont):Prop where
 cont:∀ κ c,m1 κ=some c→m (σ κ)=some (c.mapK σ)
 inj:∀ κ κ',m1 κ≠none→m1 κ'≠none→σ κ=σ κ'→κ=κ'
variable {ok ok1 : Nat → Prop} {m m1 : Nat → Option Cont} {ρ : Nat → Value} {F : Nat → Nat → Prop} {σ : Nat → Nat}
theorem Ren.cell (h:Ren σ m m1) {c:Cell} {u:Value} (hl:c.uses (fun κ=>(m1 κ).isNone)=false) (hok:∀ k,ok k→ok1 k) (hc:CellRel P w ok m ρ (c.mapK σ) u):CellRel P w ok1 m1 (fun κ=>ρ (σ κ)) c u:=by
 have live:∀ κ,(m1 κ).isNone=false→∃ c1,m1 κ=some c1∧m (σ κ)=some (c1.mapK σ):=fun κ hκ=>by
  cases hm:m1 κ with
  | none=>rw [hm] at hκ; cases hκ
  | some c1=>exact ⟨c1,rfl,h.cont κ c1 hm⟩
 have row:∀ κ e css,(m1 κ).isNone=false→m (σ κ)=some (.row e css)→m1 κ=some (.row e css):=fun κ e css hκ hm=>by
  obtain ⟨c1,h1,h2⟩:=live κ hκ
  rw [hm] at h2
  cases c1 with
  | box ty cs=>simp [Cont.mapK] at h2
  | row e' css'=>simp only [Cont.mapK,Option.some.injEq] at h2; rw [h1,h2]
 have box:∀ κ ty cs,(m1 κ).isNone=false→m (σ κ)=some (.box ty cs)→∃ cs',m1 κ=some (.box ty cs'):=fun κ ty cs hκ hm=>by
  obtain ⟨c1,h1,h2⟩:=live κ hκ
  rw [hm] at h2
  cases c1 with
  | box ty' cs'=>simp only [Cont.mapK,Option.some.injEq,Cont.box.injEq] at h2; exact ⟨cs',by rw [h1,h2.1]⟩
  | row e' css'=>simp [Cont.mapK] at h2
 cases c with
 | d x=>exact Deep.mono hc (fun k hk _=>⟨rfl,hok k hk⟩)
 | own κ n=>
  obtain ⟨⟨e,css,h1,h2⟩,h3,h4⟩:=hc
  exact ⟨⟨e,css,row κ e css hl h1,h2⟩,h3,h4⟩
 | sub κ i j n=>
  obtain ⟨e,css,cs,e',css',g,n',c',h1,h2⟩:=hc
  exact ⟨e,css,cs,e',css',g,n',c',row κ e css hl h1,h2⟩
 | sptr κ i j n q=>
  obtain ⟨g2,n2,c2,⟨e,css,cs,e',css',g,n',c',h1,h2⟩,rfl⟩:=hc
  exact ⟨g2,n2,c2,⟨e,css,cs,e',css',g,n',c',row κ e css hl h1,h2⟩,rfl⟩
 | cut κ lo n=>
  obtain ⟨e,css,A,c,h1,h2⟩:=hc
  exact ⟨e,css,A,c,row κ e css hl h1,h2⟩
 | ptr κ off=>
  obtain ⟨ty,cs,g,h1,h2⟩:=hc
  obtain ⟨cs',h3⟩:=box κ ty cs hl h1
  exact ⟨ty,cs',g,h3,h2⟩
 | eptr κ i off=>
  obtain ⟨e,css,g,n',c',h1,h2⟩:=hc
  exact ⟨e,css,g,n',c',row κ e css hl h1,h2⟩
 | fnc f κs=>
  obtain ⟨h1,h2⟩:=hc
  have hκ:∀ κ∈κs,(m1 κ).isNone=false:=fun κ hk=>by
   have:=List.any_eq_false.1 (show κs.any _=false from hl) κ hk
   cases hb:(m1 κ).isNone with
   | false=>rfl
   | true=>exact absurd hb this
  refine ⟨fun κ hk=>?_,?_⟩
  ·obtain ⟨ty,cs,h3⟩:=h1 (σ κ) (List.mem_map.2 ⟨κ,hk,rfl⟩)
   obtain ⟨cs',h4⟩:=box κ ty cs (hκ κ hk) h3
   exact ⟨ty,cs',h4⟩
  ·rw [h2,List.map_map]; rfl
 | dead=>exact True.intro
theorem Ren.cells (h:Ren σ m m1) (hok:∀ k,ok k→ok1 k):∀ {cs:List Cell} {us:List Value},(∀ c∈cs,c.uses (fun κ=>(m1 κ).isNone)=false)→All2 (CellRel P w ok m ρ) (cs.map (Cell.mapK σ)) us→All2 (CellRel P w ok1 m1 fun κ=>ρ (σ κ)) cs us
 | [],us,_,hc=>by cases hc; exact .nil
 | c::r,us,hl,hc=>by
  cases hc with
  | cons h1 h2=>exact .cons (h.cell (hl c List.mem_cons_self) hok h1) (Ren.cells h hok (fun c hc=>hl c (List.mem_cons_of_mem _ hc)) h2)
theorem inL_uses {ks:List Nat} {c:Cell} (h:c.inL ks=true) (hk:∀ κ∈ks,m1 κ≠none):c.uses (fun κ=>(m1 κ).isNone)=false:=by
 unfold Cell.inL at h
 have h2:c.uses (fun κ=>!(ks.contains κ))=false:=by simpa using h
 have hno:∀ κ,(!(ks.contains κ))=false→(m1 κ).isNone=false:=fun κ hh=>by
  have:κ∈ks:=by simpa using hh
  have:=hk κ this
  cases hm:m1 κ with
  | none=>exact absurd hm this
  | some _=>rfl
 cases c <;> simp only [Cell.uses] at h2 ⊢ <;> try exact hno _ h2
 rename_i f κs
 rw [List.any_eq_false] at h2 ⊢
 intro κ hκ
 have:=hno κ (by have:=h2 κ hκ; simpa using this)
 simp [this]
theorem Ren.av (h:Ren σ m m1) (hok:∀ k,ok k→ok1 k) {ks:List Nat} (hk:∀ κ∈ks,m1 κ≠none) {v:AV} {u:Value} (hl:v.inL ks=true) (hv:AVRel P w ok m ρ (v.mapK σ) u):AVRel P w ok1 m1 (fun κ=>ρ (σ κ)) v u:=by
 cases v with
 | c x=>
  cases hv with
  | c hc=>exact .c (h.cell (inL_uses hl hk) hok hc)
 | agg cs=>
  cases hv with
  | agg hc=>exact .agg (h.cells hok (fun c hc=>inL_uses (List.all_eq_true.1 hl c hc) hk) hc)
 | tup xs=>
  cases hv with
  | tup hx=>
   refine .tup ?_
   have hl':∀ x∈xs,x.inL ks=true:=fun x hx=>List.all_eq_true.1 hl x hx
   clear hl
   rename_i us
   induction xs generalizing us with
   | nil=>cases hx; exact .nil
   | cons x r ih=>
    cases hx with
    | cons h1 h2=>
     refine .cons ?_ (ih h2 (fun y hy=>hl' y (List.mem_cons_of_mem _ hy)))
     have hlx:=hl' x List.mem_cons_self
     cases x with
     | c y=>cases h1 with|c hc=>exact .c (h.cell (inL_uses hlx hk) hok hc)
     | agg cs=>cases h1 with|agg hc=>exact .agg (h.cells hok (fun c hc=>inL_uses (List.all_eq_true.1 hlx c hc) hk) hc)
theorem Ren.okm (h:Ren σ m m1):∀ k,okm m F k→okm m1 (fun κ=>F (σ κ)) k:=fun k hk κ hn hF=>by
 cases hm:m1 κ with
 | none=>exact hn hm
 | some c=>exact hk (σ κ) (by rw [h.cont κ c hm]; simp) hF
theorem Ren.contRel (h:Ren σ m m1) {ks:List Nat} (hk:∀ κ∈ks,m1 κ≠none) {κ:Nat} {c:Cont} (hl:c.inL ks=true) (hc:ContRel P w (Go.Proofs.YticimffljcljoaaGreatM.okm m F) m ρ F (σ κ) (c.mapK σ)):ContRel P w (Go.Proofs.YticimffljcljoaaGreatM.okm m1 fun κ=>F (σ κ)) m1 (fun κ=>ρ (σ κ)) (fun κ=>F (σ κ)) κ c:=by
 cases c with
 | box ty cs=>
  obtain ⟨g,us,h1,h2,h3,h4,h5⟩:=hc
  exact ⟨g,us,h1,h2,h.cells h.okm (fun c hc=>inL_uses (List.all_eq_true.1 hl c hc) hk) h3,h4,h5⟩
 | row e css=>exact hc
def canT (s:St) (σ:Nat→Nat):List (Nat×AV)→Prop
 | []=>True
 | p::r=>s.t p.1=p.2.mapK σ∧canT s σ r
def canM (s:St) (σ:Nat→Nat):List (Nat×Cont)→Prop
 | []=>True
 | p::r=>s.m (σ p.1)=some (p.2.mapK σ)∧canM s σ r
theorem canT_spec:∀ {ts:List (Nat×AV)},canT s σ ts→∀ n v,lk ts n=some v→s.t n=v.mapK σ
 | [],_,n,v,h=>by cases h
 | (k,a)::r,hc,n,v,h=>by
  by_cases hk:k=n
  ·subst hk
   have h2:cond (Nat.beq k k) (some a) (lk r k)=some v:=h
   rw [show Nat.beq k k=true from Nat.beq_refl k] at h2
   injection h2 with h2
   rw [← h2]; exact hc.1
  ·have h2:cond (Nat.beq k n) (some a) (lk r n)=some v:=h
   rw [nb_ne hk] at h2
   exact canT_spec hc.2 n v h2
theorem canM_spec:∀ {ms:List (Nat×Cont)},canM s σ ms→∀ n c,lk ms n=some c→s.m (σ n)=some (c.mapK σ)
 | [],_,n,v,h=>by cases h
 | (k,a)::r,hc,n,v,h=>by
  by_cases hk:k=n
  ·subst hk
   have h2:cond (Nat.beq k k) (some a) (lk r k)=some v:=h
   rw [show Nat.beq k k=true from Nat.beq_refl k] at h2
   injection h2 with h2
   rw [← h2]; exact hc.1
  ·have h2:cond (Nat.beq k n) (some a) (lk r n)=some v:=h
   rw [nb_ne hk] at h2
   exact canM_spec hc.2 n v h2
theorem lk_live {α:Type}:∀ {ms:List (Nat×α)} {κ:Nat},κ∈ms.map (·.1)→lk ms κ≠none
 | [],κ,h=>by cases h
 | (k,a)::r,κ,h=>by
  show cond (Nat.beq k κ) (some a) (lk r κ)≠none
  by_cases hk:k=κ
  ·subst hk; rw [show Nat.beq k k=true from Nat.beq_refl k]; simp
  ·rw [nb_ne hk]
   simp only [List.map_cons,List.mem_cons] at h
   rcases h with h|h
   ·exact absurd h.symm hk
   ·exact lk_live h
theorem lk_memP {α:Type}:∀ {ms:List (Nat×α)} {κ:Nat} {c:α},lk ms κ=some c→(κ,c)∈ms
 | [],κ,c,h=>by cases h
 | (k,a)::r,κ,c,h=>by
  have h2:cond (Nat.beq k κ) (some a) (lk r κ)=some c:=h
  by_cases hk:k=κ
  ·subst hk
   rw [show Nat.beq k k=true from Nat.beq_refl k] at h2
   injection h2 with h2
   rw [h2]; exact List.mem_cons_self
  ·rw [nb_ne hk] at h2
   exact List.mem_cons_of_mem _ (lk_memP h2)
def okCan (σ:Nat→Nat) (ts:List (Nat×AV)) (ms:List (Nat×Cont)):Bool:=
 let ks:=ms.map (·.1)
 ts.all (fun p=>p.2.inL ks) && ms.all (fun p=>p.2.inL ks) && (ms.map fun p=>σ p.1).Nodup && ms.all fun p=>!(Nat.blt p.1 100) || Nat.beq (σ p.1) p.1
theorem nodup_inj {σ:Nat→Nat} {l:List Nat} (h:(l.map σ).Nodup):∀ x∈l,∀ y∈l,σ x=σ y→x=y:=by
 induction l with
 | nil=>intro x hx; cases hx
 | cons a r ih=>
  simp only [List.map_cons,List.nodup_cons] at h
  intro x hx y hy he
  rcases List.mem_cons.1 hx with hx|hx <;> rcases List.mem_cons.1 hy with hy|hy
  ·rw [hx,hy]
  ·exact absurd (List.mem_map.2 ⟨y,hy,by rw [← he,hx]⟩) h.1
  ·exact absurd (List.mem_map.2 ⟨x,hx,by rw [he,hy]⟩) h.1
  ·exact ih h.2 x hx y hy he
theorem canT_all:∀ {ts:List (Nat×AV)},canT s σ ts→∀ p∈ts,s.t p.1=p.2.mapK σ
 | [],_,p,hp=>by cases hp
 | q::r,h,p,hp=>by
  rcases List.mem_cons.1 hp with rfl|hp
  ·exact h.1
  ·exact canT_all h.2 p hp
theorem Rel.canonE {ts:List (Nat×AV)} {ms:List (Nat×Cont)} (σ:Nat→Nat) (ht:canT s σ ts) (hm:canM s σ ms) (hk:okCan σ ts ms=true) (h:Rel P N w0 S s a w):
  ∃ ρ F,RelE P N w0 S (St.of ts ms) a w ρ F∧∀ p∈ts,AVRel P w (Go.Proofs.YticimffljcljoaaGreatM.okm (lk ms) F) (lk ms) ρ p.2 (a.tmps.getD p.1 undef):=by
 obtain ⟨ρ,F,h⟩:=h
 unfold okCan at hk
 simp only [Bool.and_eq_true,decide_eq_true_eq] at hk
 obtain ⟨⟨⟨k1,k2⟩,k3⟩,k4⟩:=hk
 rw [show (ms.map fun p=>σ p.1)=(ms.map (·.1)).map σ from by rw [List.map_map]; rfl] at k3
 have hks:∀ κ∈ms.map (·.1),lk ms κ≠none:=fun κ hk=>lk_live hk
 have hmem:∀ κ,lk ms κ≠none→κ∈ms.map (·.1):=fun κ hn=>by
  apply Classical.byContradiction
  intro hh
  exact hn (lk_none hh)
 have hren:Ren σ s.m (lk ms):=⟨fun κ c hc=>canM_spec hm κ c hc,fun κ κ' h1 h2 he=>nodup_inj k3 κ (hmem κ h1) κ' (hmem κ' h2) he⟩
 have hlive:∀ κ,lk ms κ≠none→s.m (σ κ)≠none:=fun κ hn=>by
  cases hc:lk ms κ with
  | none=>exact absurd hc hn
  | some c=>rw [hren.cont κ c hc]; simp
 refine ⟨fun κ=>ρ (σ κ),fun κ=>F (σ κ),⟨h.defers,h.size,fun n=>?_,fun κ c hc=>?_,fun κ κ' k h1 h2 h3 h4=>?_,fun κ k h1 h2=>h.base (σ κ) k (hlive κ h1) h2,h.frame,fun κ hlt hn=>?_⟩,fun p hp=>?_⟩
 ·show AVRel P w _ _ _ ((lk ts n).getD (.c .dead)) _
  cases hv:lk ts n with
  | none=>exact .c True.intro
  | some v=>
   have h1:=canT_spec ht n v hv
   have h2:=h.tmps n
   rw [h1] at h2
   exact hren.av hren.okm hks (List.all_eq_true.1 k1 (n,v) (lk_memP hv)) h2
 ·exact hren.contRel hks (List.all_eq_true.1 k2 (κ,c) (lk_memP hc)) (h.mem (σ κ) _ (hren.cont κ c hc))
 ·exact hren.inj κ κ' h1 h2 (h.apart (σ κ) (σ κ') k (hlive κ h1) (hlive κ' h2) h3 h4)
 ·cases hc:lk ms κ with
  | none=>exact absurd hc hn
  | some c=>
   have:=List.all_eq_true.1 k4 (κ,c) (lk_memP hc)
   have hσ:σ κ=κ:=by
    simp only [Bool.or_eq_true,Bool.not_eq_true',Nat.blt_eq] at this
    rcases this with h5|h5
    ·have:Nat.blt κ 100=true:=by rw [Nat.blt_eq]; exact hlt
     rw [this] at h5; cases h5
    ·exact Nat.eq_of_beq_eq_true h5
   show ρ (σ κ)=_
   rw [hσ]
   exact h.pin κ hlt (by have:=hlive κ hn; rwa [hσ] at this)
 ·have h1:=canT_all ht p hp
  have h2:=h.tmps p.1
  rw [h1] at h2
  exact hren.av hren.okm hks (List.all_eq_true.1 k1 p hp) h2
theorem Rel.canon {ts:List (Nat×AV)} {ms:List (Nat×Cont)} (σ:Nat→Nat) (ht:canT s σ ts) (hm:canM s σ ms) (hk:okCan σ ts ms=true) (h:Rel P N w0 S s a w):Rel P N w0 S (St.of ts ms) a w:=by
 obtain ⟨ρ,F,h1,_⟩:=h.canonE σ ht hm hk
 exact ⟨ρ,F,h1⟩
theorem AG.canon {ts:List (Nat×AV)} {ms:List (Nat×Cont)} (σ:Nat→Nat) (k:AG P N w0 S c Q (St.of ts ms)) (ht:canT s σ ts) (hm:canM s σ ms) (hk:okCan σ ts ms=true):AG P N w0 S c Q s:=
 ⟨fun a w hr=>k.run a w (hr.canon σ ht hm hk)⟩
inductive Can (I:St→Prop) (s:St):Prop
 | mk {ts:List (Nat×AV)} {ms:List (Nat×Cont)} (σ:Nat→Nat) (h:I (St.of ts ms)) (ht:canT s σ ts) (hm:canM s σ ms) (hk:okCan σ ts ms=true)
theorem AGr.loopI {n:Nat} (I:Nat→St→Prop) (h:I n s) (h0:∀ s,¬ I 0 s) (step:∀ k,(∀ j,j≤k→∀ s,I j s→AGr P N w0 S c Q s)→∀ s,I (k+1) s→AG P N w0 S c (thenQ (AGr P N w0 S c Q) Q) s):AGr P N w0 S c Q s:=by
 have key:∀ k s,I k s→AGr P N w0 S c Q s:=by
  intro k
  induction k using Nat.strongRecOn with
  | _ k ih=>
   intro s h
   cases k with
   | zero=>exact absurd h (h0 s)
   | succ k=>exact AGr.step (step k (fun j hj=>ih j (by omega)) s h)
 exact key n s h
theorem AGr.canon {ts:List (Nat×AV)} {ms:List (Nat×Cont)} (σ:Nat→Nat) (k:AGr P N w0 S c Q (St.of ts ms)) (ht:canT s σ ts) (hm:canM s σ ms) (hk:okCan σ ts ms=true):AGr P N w0 S c Q s:=
 ⟨fun a w hr=>k.run a w (hr.canon σ ht hm hk)⟩
end
end Go.Proofs.YticimffljcljoaaGreatM

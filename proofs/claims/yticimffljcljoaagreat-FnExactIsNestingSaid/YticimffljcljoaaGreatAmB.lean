/- The abstract machine's states and what they say of a frame and a world. No condition. -/
import Derived.Test.YticimffljcljoaaGreatAmA
set_option linter.unusedVariables false
set_option linter.unusedSimpArgs false
namespace Go.Proofs.YticimffljcljoaaGreatM
open Go Go.RowKit
inductive Cell where
 | d (x:DV)
 | own (κ n:Nat)
 | sub (κ i j n:Nat)
 | sptr (κ i j n q:Nat)
 | cut (κ lo n:Nat)
 | ptr (κ off:Nat)
 | eptr (κ i off:Nat)
 | fnc (f:FuncId) (κs:List Nat)
 | dead
inductive El where
 | c (x:Cell)
 | agg (cs:List Cell)
inductive AV where
 | c (x:Cell)
 | agg (cs:List Cell)
 | tup (xs:List El)
def El.av:El→AV
 | .c x => .c x
 | .agg cs => .agg cs
inductive Cont where
 | box (ty:TypeId) (cs:List Cell)
 | row (e:TypeId) (css:List (List DV))
structure St where
 t:Nat→AV
 m:Nat→Option Cont
def upd {α:Type} (f:Nat→α) (n:Nat) (a:α):Nat→α:=fun k=>if k=n then a else f k
theorem upd_same {α:Type} (f:Nat→α) (n:Nat) (a:α):upd f n a n=a:=by simp [upd]
theorem upd_ne {α:Type} (f:Nat→α) {n k:Nat} (a:α) (h:k≠n):upd f n a k=f k:=by simp [upd,h]
def Cell.kill (p:Cell→Bool) (c:Cell):Cell:=if p c then .dead else c
def El.kill (p:Cell→Bool):El→El
 | .c x => .c (x.kill p)
 | .agg cs => .agg (cs.map (Cell.kill p))
def AV.kill (p:Cell→Bool):AV→AV
 | .c x => .c (x.kill p)
 | .agg cs => .agg (cs.map (Cell.kill p))
 | .tup xs => .tup (xs.map (El.kill p))
def Cont.kill (p:Cell→Bool):Cont→Cont
 | .box ty cs => .box ty (cs.map (Cell.kill p))
 | .row e css => .row e css
def Cell.uses (K:Nat→Bool):Cell→Bool
 | .d _=>false
 | .own κ _=>K κ
 | .sub κ _ _ _=>K κ
 | .sptr κ _ _ _ _=>K κ
 | .cut κ _ _=>K κ
 | .ptr κ _=>K κ
 | .eptr κ _ _=>K κ
 | .fnc _ κs=>κs.any K
 | .dead=>false
def Cell.isSub (κ:Nat):Cell→Bool
 | .sub κ' _ _ _=>κ' == κ
 | .sptr κ' _ _ _ _=>κ' == κ
 | _=>false
section
variable (P : Program) (w : World) (ok : Nat → Prop) (m : Nat → Option Cont) (ρ : Nat → Value)
abbrev SubRel (κ i j n:Nat) (u:Value):Prop:=∃ e css cs e' css' g n' c',m κ=some (.row e css)∧css[i]?=some cs∧cs[j]?=some (.row e' css')∧css'.length=n∧ρ κ = .slice (some ⟨g,0,none⟩) n' c'∧w.cell? ⟨g,i*P.cellsOf e+j,none⟩=some u∧u.oneCell'=true
def CellRel:Cell→Value→Prop
 | .d x,u=>Deep P w ok x u
 | .own κ n,u=>(∃ e css,m κ=some (.row e css)∧css.length=n)∧u=ρ κ∧u.oneCell'=true
 | .sub κ i j n,u=>SubRel P w m ρ κ i j n u
 | .sptr κ i j n q,u=>∃ g2 n2 c2,SubRel P w m ρ κ i j n (.slice (some ⟨g2,0,none⟩) n2 c2)∧u = .pointer (some ⟨g2,q,none⟩)
 | .cut κ lo n,u=>∃ e css A c,m κ=some (.row e css)∧lo+n≤css.length∧u = .slice A n c∧n≤c∧(A=none→c=0)∧(0 < n→∃ g n' c',ρ κ = .slice (some ⟨g,0,none⟩) n' c'∧A=some ⟨g,lo*P.cellsOf e,none⟩)
 | .ptr κ off,u=>∃ ty cs g,m κ=some (.box ty cs)∧ρ κ = .pointer (some ⟨g,0,none⟩)∧u = .pointer (some ⟨g,off,none⟩)
 | .eptr κ i off,u=>∃ e css g n' c',m κ=some (.row e css)∧i < css.length∧ρ κ = .slice (some ⟨g,0,none⟩) n' c'∧u = .pointer (some ⟨g,i*P.cellsOf e+off,none⟩)
 | .fnc f κs,u=>(∀ κ∈κs,∃ ty cs,m κ=some (.box ty cs))∧u = .func (.func f) #[] (κs.map ρ).toArray
 | .dead,_=>True
inductive ElRel:El→Value→Prop
 | c {x u} (h:CellRel P w ok m ρ x u):ElRel (.c x) u
 | agg {cs us} (h:All2 (CellRel P w ok m ρ) cs us):ElRel (.agg cs) (.agg us.toArray)
inductive AVRel:AV→Value→Prop
 | c {x u} (h:CellRel P w ok m ρ x u):AVRel (.c x) u
 | agg {cs us} (h:All2 (CellRel P w ok m ρ) cs us):AVRel (.agg cs) (.agg us.toArray)
 | tup {xs us} (h:All2 (ElRel P w ok m ρ) xs us):AVRel (.tup xs) (.tuple us.toArray)
end
def okm (m:Nat→Option Cont) (F:Nat→Nat→Prop) (k:Nat):Prop:=∀ κ,m κ≠none→¬ F κ k
def ContRel (P:Program) (w:World) (ok:Nat→Prop) (m:Nat→Option Cont) (ρ:Nat→Value) (F:Nat→Nat→Prop) (κ:Nat):Cont→Prop
 | .box ty cs=>∃ g us,ρ κ = .pointer (some ⟨g,0,none⟩)∧w.heap[g]?=some (.cells us.toArray ty (0,0))∧All2 (CellRel P w ok m ρ) cs us∧(∀ u∈us,u.oneCell'=true)∧∀ k,F κ k↔k=g
 | .row e css=>Own P w (F κ) (.row e css) (ρ κ)
structure Fx where
 S:Nat→Prop
 pin:Nat→Value
structure RelE (P:Program) (N:Nat) (w0:World) (S:Fx) (s:St) (a:Act) (w:World) (ρ:Nat→Value) (F:Nat→Nat→Prop):Prop where
 defers:a.defers=[]
 size:a.tmps.size=N
 tmps:∀ n,AVRel P w (okm s.m F) s.m ρ (s.t n) (a.tmps.getD n undef)
 mem:∀ κ c,s.m κ=some c→ContRel P w (okm s.m F) s.m ρ F κ c
 apart:∀ κ κ' k,s.m κ≠none→s.m κ'≠none→F κ k→F κ' k→κ=κ'
 base:∀ κ k,s.m κ≠none→F κ k→w0.heap.size≤k∨S.S k
 frame:Fr S.S w0 w
 pin:∀ κ,κ < 100→s.m κ≠none→ρ κ=S.pin κ
def Rel (P:Program) (N:Nat) (w0:World) (S:Fx) (s:St) (a:Act) (w:World):Prop:=∃ ρ F,RelE P N w0 S s a w ρ F
section
variable {P : Program} {w w1 : World} {ok ok1 : Nat → Prop} {m m1 : Nat → Option Cont} {ρ ρ1 : Nat → Value} {F F1 : Nat → Nat → Prop} {N : Nat} {w0 : World} {S : Fx} {s : St} {a : Act}
theorem ContRel.lt {κ:Nat} {c:Cont} (h:ContRel P w ok m ρ F κ c):∀ k,F κ k→k < w.heap.size:=by
 cases c with
 | box ty cs=>
  obtain ⟨g,us,h1,h2,h3,h4,h5⟩:=h
  intro k hk
  rw [(h5 k).1 hk]
  exact (Array.getElem?_eq_some_iff.1 h2).1
 | row e css=>exact Own.lt h
theorem RelE.lt (h:RelE P N w0 S s a w ρ F) {κ k:Nat} (hm:s.m κ≠none) (hk:F κ k):k < w.heap.size:=by
 cases hc:s.m κ with
 | none=>exact absurd hc hm
 | some c=>exact (h.mem κ c hc).lt k hk
theorem CellRel.kill {p:Cell→Bool} {c:Cell} {u:Value} (hf:∀ c u,p c=false→CellRel P w ok m ρ c u→CellRel P w1 ok1 m1 ρ1 c u) (h:CellRel P w ok m ρ c u):CellRel P w1 ok1 m1 ρ1 (c.kill p) u:=by
 unfold Cell.kill
 cases hp:p c with
 | true=>exact True.intro
 | false=>exact hf c u hp h
theorem AVRel.kill {p:Cell→Bool} {v:AV} {u:Value} (hf:∀ c u,p c=false→CellRel P w ok m ρ c u→CellRel P w1 ok1 m1 ρ1 c u) (h:AVRel P w ok m ρ v u):AVRel P w1 ok1 m1 ρ1 (v.kill p) u:=by
 cases h with
 | c h=>exact .c (h.kill hf)
 | agg h=>exact .agg (h.map_left _ (fun _ _ hh=>CellRel.kill hf hh))
 | tup h=>
  refine .tup (h.map_left _ (fun _ _ hh=>?_))
  cases hh with
  | c h=>exact .c (h.kill hf)
  | agg h=>exact .agg (h.map_left _ (fun _ _ hh=>CellRel.kill hf hh))
theorem AVRel.imp {v:AV} {u:Value} (hf:∀ c u,CellRel P w ok m ρ c u→CellRel P w1 ok1 m1 ρ1 c u) (h:AVRel P w ok m ρ v u):AVRel P w1 ok1 m1 ρ1 v u:=by
 cases h with
 | c h=>exact .c (hf _ _ h)
 | agg h=>exact .agg (h.imp hf)
 | tup h=>
  refine .tup (h.imp (fun _ _ hh=>?_))
  cases hh with
  | c h=>exact .c (hf _ _ h)
  | agg h=>exact .agg (h.imp hf)
theorem RelE.change (h:RelE P N w0 S s a w ρ F) (p:Cell→Bool) {T:Nat→Prop} (hfr:Fr T w w1) (hT:∀ k,T k→w0.heap.size≤k∨S.S k)
  (hc:∀ c u,p c=false→CellRel P w (okm s.m F) s.m ρ c u→CellRel P w1 (okm m1 F1) m1 ρ1 c u)
  (hm:∀ κ c,m1 κ=some c→ContRel P w1 (okm m1 F1) m1 ρ1 F1 κ c)
  (hap:∀ κ κ' k,m1 κ≠none→m1 κ'≠none→F1 κ k→F1 κ' k→κ=κ') (hb:∀ κ k,m1 κ≠none→F1 κ k→w0.heap.size≤k∨S.S k) (hpn:∀ κ,κ < 100→m1 κ≠none→ρ1 κ=S.pin κ):
  RelE P N w0 S ⟨fun n=>(s.t n).kill p,m1⟩ a w1 ρ1 F1 where
 defers:=h.defers
 size:=h.size
 tmps:=fun n=>(h.tmps n).kill hc
 mem:=hm
 apart:=hap
 base:=hb
 frame:=h.frame.trans hfr (fun x hx=>(hT x hx).symm)
 pin:=hpn
theorem RelE.put (h:RelE P N w0 S s a w ρ F) {d:Nat} {v:AV} {u:Value} (hd:d < N) (hv:AVRel P w (okm s.m F) s.m ρ v u):RelE P N w0 S ⟨upd s.t d v,s.m⟩ (a.put (some d) u) w ρ F where
 defers:=h.defers
 size:=by simp [Act.put,h.size]
 tmps:=fun n=>by
  by_cases hn:n=d
  ·subst hn
   show AVRel P w (okm s.m F) s.m ρ (upd s.t n v n) _
   rw [upd_same]
   have:(a.put (some n) u).tmps.getD n undef=u:=by
    simp [Act.put,Array.getElem?_setIfInBounds,h.size,hd]
   rw [this]
   exact hv
  ·show AVRel P w (okm s.m F) s.m ρ (upd s.t d v n) _
   rw [upd_ne _ _ hn]
   have:(a.put (some d) u).tmps.getD n undef=a.tmps.getD n undef:=by
    simp [Act.put,Array.getElem?_setIfInBounds,Ne.symm hn]
   rw [this]
   exact h.tmps n
 mem:=h.mem
 apart:=h.apart
 base:=h.base
 frame:=h.frame
 pin:=h.pin
theorem cell_other {K:Nat→Bool} {T:Nat→Prop} (h:RelE P N w0 S s a w ρ F) (hfr:Fr T w w1) (hTn:∀ κ k,K κ=false→s.m κ≠none→F κ k→¬ T k) (hTo:∀ k,okm s.m F k→k < w.heap.size→¬ T k∧okm m1 F1 k)
  (hmk:∀ κ,K κ=false→(∀ e css,s.m κ=some (.row e css)→m1 κ=some (.row e css))∧(∀ ty cs,s.m κ=some (.box ty cs)→∃ cs',m1 κ=some (.box ty cs'))) (hρ:∀ κ,K κ=false→ρ1 κ=ρ κ):
  ∀ c u,c.uses K=false→CellRel P w (okm s.m F) s.m ρ c u→CellRel P w1 (okm m1 F1) m1 ρ1 c u:=by
 intro c u hk hc
 cases c with
 | d x=>exact Deep.mono hc (fun k hok hlt=>⟨hfr.block k hlt (hTo k hok hlt).1,(hTo k hok hlt).2⟩)
 | own κ n=>
  obtain ⟨⟨e,css,h1,h2⟩,h3,h4⟩:=hc
  exact ⟨⟨e,css,(hmk κ hk).1 e css h1,h2⟩,h3.trans (hρ κ hk).symm,h4⟩
 | sub κ i j n=>
  obtain ⟨e,css,cs,e',css',g,n',c',h1,h2,h3,h4,h5,h6,h7⟩:=hc
  refine ⟨e,css,cs,e',css',g,n',c',(hmk κ hk).1 e css h1,h2,h3,h4,(hρ κ hk).trans h5,?_,h7⟩
  have hF:F κ g:=by
   exact Own.head (h.mem κ _ h1) (by rw [h5]; rfl)
  have hlt:=h.lt (κ:=κ) (by rw [h1]; simp) hF
  rw [World.cell?_of_block (w:=w) (a:=⟨g,_,none⟩) (hfr.block g hlt (hTn κ g hk (by rw [h1]; simp) hF))]
  exact h6
 | sptr κ i j n q=>
  obtain ⟨g2,n2,c2,hc,rfl⟩:=hc
  refine ⟨g2,n2,c2,?_,rfl⟩
  obtain ⟨e,css,cs,e',css',g,n',c',h1,h2,h3,h4,h5,h6,h7⟩:=hc
  refine ⟨e,css,cs,e',css',g,n',c',(hmk κ hk).1 e css h1,h2,h3,h4,(hρ κ hk).trans h5,?_,h7⟩
  have hF:F κ g:=by
   exact Own.head (h.mem κ _ h1) (by rw [h5]; rfl)
  have hlt:=h.lt (κ:=κ) (by rw [h1]; simp) hF
  rw [World.cell?_of_block (w:=w) (a:=⟨g,_,none⟩) (hfr.block g hlt (hTn κ g hk (by rw [h1]; simp) hF))]
  exact h6
 | cut κ lo n=>
  obtain ⟨e,css,A,c,h1,h2,h3,h4,h5⟩:=hc
  exact ⟨e,css,A,c,(hmk κ hk).1 e css h1,h2,h3,h4,h5.1,fun hp=>by rw [hρ κ hk]; exact h5.2 hp⟩
 | ptr κ off=>
  obtain ⟨ty,cs,g,h1,h2,h3⟩:=hc
  obtain ⟨cs',h4⟩:=(hmk κ hk).2 ty cs h1
  exact ⟨ty,cs',g,h4,(hρ κ hk).trans h2,h3⟩
 | eptr κ i off=>
  obtain ⟨e,css,g,n',c',h1,h2,h3,h4⟩:=hc
  exact ⟨e,css,g,n',c',(hmk κ hk).1 e css h1,h2,(hρ κ hk).trans h3,h4⟩
 | fnc f κs=>
  obtain ⟨h1,h2⟩:=hc
  have hkk:∀ κ∈κs,K κ=false:=fun κ hκ=>by
   cases hK:K κ with
   | false=>rfl
   | true=>exact absurd (List.any_eq_true.2 ⟨κ,hκ,hK⟩) (by rw [show κs.any K=false from hk]; simp)
  refine ⟨fun κ hκ=>?_,?_⟩
  ·obtain ⟨ty,cs,h3⟩:=h1 κ hκ
   obtain ⟨cs',h4⟩:=(hmk κ (hkk κ hκ)).2 ty cs h3
   exact ⟨ty,cs',h4⟩
  ·rw [h2,List.map_congr_left (fun κ hκ=>(hρ κ (hkk κ hκ)).symm)]
 | dead=>exact True.intro
end
end Go.Proofs.YticimffljcljoaaGreatM

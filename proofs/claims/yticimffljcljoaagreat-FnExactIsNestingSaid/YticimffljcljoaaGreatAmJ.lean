/- The abstract machine's operations on rows of the call's own: elements read and written. No condition. -/
import Derived.Test.YticimffljcljoaaGreatAmI
set_option linter.unusedVariables false
set_option linter.unusedSimpArgs false
namespace Go.Proofs.YticimffljcljoaaGreatM
open Go Go.RowKit
def elC (κ i j:Nat):DV→Cell
 | .v x => .d (.v x)
 | .row _ css => .sub κ i j css.length
 | _ => .dead
def elCs (κ i:Nat):Nat→List DV→List Cell
 | _,[]=>[]
 | j,d::r=>elC κ i j d::elCs κ i (j+1) r
theorem elCs_len (κ i:Nat):∀ (j:Nat) (ds:List DV),(elCs κ i j ds).length=ds.length
 | _,[]=>rfl
 | j,d::r=>by simp [elCs,elCs_len κ i (j+1) r]
theorem elCs_get (κ i:Nat):∀ (j:Nat) (ds:List DV) (q:Nat),(elCs κ i j ds)[q]?=(ds[q]?).map (elC κ i (j+q))
 | _,[],q=>by simp [elCs]
 | j,d::r,0=>by simp [elCs]
 | j,d::r,q+1=>by
  simp only [elCs,List.getElem?_cons_succ,elCs_get κ i (j+1) r q]
  rw [show j+1+q=j+(q+1) from by omega]
section
variable {P : Program} {w w1 : World} {ok ok1 : Nat → Prop} {m m1 : Nat → Option Cont} {ρ ρ1 : Nat → Value} {F F1 : Nat → Nat → Prop} {N : Nat} {w0 : World} {S : Fx} {s : St} {a : Act} {o : Oper}
theorem Own.v_inv {G:Nat→Prop} {x u:Value} (h:Own P w G (.v x) u):u=x∧x.oneCell'=true∧∀ k,¬ G k:=by
 generalize hd:DV.v x=d at h
 cases h with
 | v y h=>injection hd with hd; subst hd; exact ⟨rfl,h,fun _ hf=>hf⟩
 | any=>cases hd
 | row=>cases hd
theorem s_loadElt {e e0:TypeId} {x:Operand} {z b:Nat} {zz:List Value} {g:Bool} {κ i off:Nat} {css:List (List DV)} {cs:List DV} (ho:o.op = .load e x) (hti:tyi P e=some (z,b,zz,g)) (hx:s.ev x = .c (.eptr κ i off)) (hm:s.m κ=some (.row e0 css)) (hi:css[i]?=some cs)
  (hp:off+z≤cs.length∧(g=false→z=1)) (hd:∀ n,o.dst=some n→n < N):SoundOp P N w0 S o s ⟨updO s.t o.dst (mkAV g (elCs κ i off ((cs.drop off).take z))),s.m⟩:=by
 refine sound_val hd fun a w ρ F hr=>?_
 have h1:=hr.ev x
 rw [hx] at h1
 cases h1 with
 | c h1=>
  obtain ⟨e',css',g0,n',c',h2,h3,h4,h5⟩:=h1
  rw [hm] at h2
  injection h2 with h2
  injection h2 with h2 h2'
  subst h2 h2'
  have hmem:=hr.mem κ _ hm
  obtain ⟨fl,Fs,how,hlen,hcc,_⟩:=Own.row_inv hmem
  have hsz:=hlen cs (List.mem_of_getElem? hi)
  have hfit:i*P.cellsOf e0+P.cellsOf e0≤fl.length:=by
   rw [how.1,← Nat.succ_mul]; exact Nat.mul_le_mul_right _ (List.getElem?_eq_some_iff.1 hi).1
  have hul:((fl.drop (i*P.cellsOf e0+off)).take z).length=z:=by rw [List.length_take,List.length_drop]; have:=hp.1; omega
  have hget:∀ (j:Nat) y,((fl.drop (i*P.cellsOf e0+off)).take z)[j]?=some y→j < z∧fl[i*P.cellsOf e0+(off+j)]?=some y:=fun j y hj=>by
   rw [List.getElem?_take] at hj
   split at hj
   ·rename_i hjz
    rw [List.getElem?_drop,Nat.add_assoc] at hj
    exact ⟨hjz,hj⟩
   ·cases hj
  have hcell:∀ (q:Nat) y,fl[q]?=some y→w.cell? ⟨g0,q,none⟩=some y:=fun q y hq=>by
   have:=how.cells (g:=g0) (by rw [h4]; rfl) q y hq
   rwa [add_at,Nat.zero_add] at this
  have hall:All2 (CellRel P w (okm s.m F) s.m ρ) (elCs κ i off ((cs.drop off).take z)) ((fl.drop (i*P.cellsOf e0+off)).take z):=by
   refine All2.of_get ?_ (fun j c u hc hu=>?_)
   ·rw [elCs_len,hul,List.length_take,List.length_drop]; have:=hp.1; omega
   ·obtain ⟨hjz,hu⟩:=hget j u hu
    rw [elCs_get,List.getElem?_take,if_pos hjz,List.getElem?_drop] at hc
    obtain ⟨d,hd1,rfl⟩:=Option.map_eq_some_iff.1 hc
    have hown:=hcc i (off+j) cs d u hi hd1 hu
    cases d with
    | v x'=>
     obtain ⟨rfl,_,_⟩:=hown.v_inv
     exact Deep.v _
    | row e' css'=>exact ⟨e0,css,cs,e',css',g0,n',c',hm,hi,hd1,rfl,h4,hcell _ _ hu,hown.one⟩
    | ro cells=>exact True.intro
    | fn f caps=>exact True.intro
    | any=>exact True.intro
  obtain ⟨u,h10,h11,h12⟩:=mkAV_rel (z:=z) hall (g:=g) (fun hg=>by rw [hall.len,hul,hp.2 hg])
  refine ⟨u,?_,h10⟩
  have:=run_loadVar (w:=w) (ad:=⟨g0,i*P.cellsOf e0+off,none⟩) hti ((fl.drop (i*P.cellsOf e0+off)).take z) hul hp.2 h11 h12 (fun j y hj=>by
   rw [add_at,Nat.add_assoc]
   exact hcell _ _ (hget j y hj).2)
  unfold execOp
  rw [ho]
  simp [h5,Instr.loadAt,Instr.sureAddr,this]
theorem usesOr (c:Cell) (A B:Nat→Bool):c.uses (fun x=>A x || B x)=(c.uses A || c.uses B):=by
 cases c <;> simp [Cell.uses]
 rename_i f κs
 induction κs with
 | nil=>rfl
 | cons x xs ih=>simp only [List.any_cons,ih]; cases (A x) <;> cases (B x) <;> cases (xs.any A) <;> cases (xs.any B) <;> rfl
theorem cell_fresh {c:Cell} {u:Value} {κ:Nat} (hκ:m κ=none) (h:CellRel P w ok m ρ c u) (hd:c ≠ .dead):c.uses (fun x=>x == κ)=false:=by
 have hne:∀ κ',m κ'≠none→(κ' == κ)=false:=fun κ' h=>by
  cases hb:κ' == κ with
  | false=>rfl
  | true=>exact absurd (by rw [show κ'=κ from by simpa using hb]; exact hκ) h
 cases c with
 | d x=>rfl
 | own κ' n=>obtain ⟨⟨e,css,h1,_⟩,_⟩:=h; exact hne κ' (by rw [h1]; simp)
 | sub κ' i j n=>obtain ⟨e,css,_,_,_,_,_,_,h1,_⟩:=h; exact hne κ' (by rw [h1]; simp)
 | sptr κ' i j n q=>obtain ⟨_,_,_,⟨e,css,_,_,_,_,_,_,h1,_⟩,_⟩:=h; exact hne κ' (by rw [h1]; simp)
 | cut κ' lo n=>obtain ⟨e,css,_,_,h1,_⟩:=h; exact hne κ' (by rw [h1]; simp)
 | ptr κ' off=>obtain ⟨ty,cs,g,h1,_⟩:=h; exact hne κ' (by rw [h1]; simp)
 | eptr κ' i off=>obtain ⟨e,css,_,_,_,h1,_⟩:=h; exact hne κ' (by rw [h1]; simp)
 | fnc f κs=>
  obtain ⟨h1,_⟩:=h
  show κs.any _=false
  rw [List.any_eq_false]
  intro κ' hk
  obtain ⟨ty,cs,h2⟩:=h1 κ' hk
  rw [hne κ' (by rw [h2]; simp)]
  simp
 | dead=>exact absurd rfl hd
theorem cell_kill_eq {c:Cell} {u:Value} {p q:Cell→Bool} (h:CellRel P w ok m ρ c u) (hpq:∀ c u,CellRel P w ok m ρ c u→c ≠ .dead→p c=q c):c.kill p=c.kill q:=by
 unfold Cell.kill
 by_cases hd:c = .dead
 ·subst hd; simp
 ·rw [hpq c u h hd]
theorem cells_kill_eq {cs:List Cell} {us:List Value} {p q:Cell→Bool} (h:All2 (CellRel P w ok m ρ) cs us) (hpq:∀ c u,CellRel P w ok m ρ c u→c ≠ .dead→p c=q c):cs.map (Cell.kill p)=cs.map (Cell.kill q):=by
 induction h with
 | nil=>rfl
 | cons h _ ih=>simp only [List.map_cons,ih,cell_kill_eq h hpq]
theorem AV_kill_eq {v:AV} {u:Value} {p q:Cell→Bool} (h:AVRel P w ok m ρ v u) (hpq:∀ c u,CellRel P w ok m ρ c u→c ≠ .dead→p c=q c):v.kill p=v.kill q:=by
 cases h with
 | c h=>simp only [AV.kill,cell_kill_eq h hpq]
 | agg h=>simp only [AV.kill,cells_kill_eq h hpq]
 | tup h=>
  simp only [AV.kill]
  congr 1
  induction h with
  | nil=>rfl
  | cons h _ ih=>
   simp only [List.map_cons,ih]
   congr 1
   cases h with
   | c h=>simp only [El.kill,cell_kill_eq h hpq]
   | agg h=>simp only [El.kill,cells_kill_eq h hpq]
theorem cell_kill_no (c:Cell):c.kill (fun _=>false)=c:=rfl
theorem AV_kill_no (v:AV):v.kill (fun _=>false)=v:=by
 have h:∀ cs:List Cell,cs.map (Cell.kill fun _=>false)=cs:=fun cs=>by
  rw [List.map_congr_left (g:=id) (fun c _=>cell_kill_no c)]; simp
 cases v with
 | c x=>rfl
 | agg cs=>simp only [AV.kill,h]
 | tup xs=>
  simp only [AV.kill]
  congr 1
  rw [List.map_congr_left (g:=id) (fun e _=>by cases e <;> simp [El.kill,h,cell_kill_no])]
  simp
theorem Cont_kill_no (c:Cont):c.kill (fun _=>false)=c:=by
 cases c with
 | box ty cs=>simp only [Cont.kill]; congr 1; rw [List.map_congr_left (g:=id) (fun c _=>cell_kill_no c)]; simp
 | row e css=>rfl
theorem inK_nil (c:Cell):inK [] [] c=false:=by
 unfold inK
 cases c <;> simp [Cell.uses,subIn]
theorem killT_eq (hr:RelE P N w0 S s a w ρ F) {p:Cell→Bool} (D E:List Nat) (hpq:∀ c u,CellRel P w (okm s.m F) s.m ρ c u→c ≠ .dead→p c=inK D E c):(fun n=>(s.t n).kill p)=killT s.t D E:=by
 funext n
 by_cases hDE:D=[]∧E=[]
 ·obtain ⟨rfl,rfl⟩:=hDE
  show (s.t n).kill p=s.t n
  rw [AV_kill_eq (hr.tmps n) (q:=fun _=>false) (fun c u hc hd=>by rw [hpq c u hc hd,inK_nil])]
  exact AV_kill_no _
 ·have:killT s.t D E n=(s.t n).kill (inK D E):=by
   cases D with
   | nil=>
    cases E with
    | nil=>exact absurd ⟨rfl,rfl⟩ hDE
    | cons k r=>rfl
   | cons k r=>rfl
  rw [this]
  exact AV_kill_eq (hr.tmps n) hpq
theorem killK_eq (hr:RelE P N w0 S s a w ρ F) {p:Cell→Bool} (D E:List Nat) (hpq:∀ c u,CellRel P w (okm s.m F) s.m ρ c u→c ≠ .dead→p c=inK D E c) (κ:Nat):(s.m κ).map (Cont.kill p)=killK s.m D E κ:=by
 have hbox:∀ q:Cell→Bool,(∀ c u,CellRel P w (okm s.m F) s.m ρ c u→c ≠ .dead→p c=q c)→(s.m κ).map (Cont.kill p)=(s.m κ).map (Cont.kill q):=fun q hq=>by
  cases hc:s.m κ with
  | none=>rfl
  | some c=>
   have:=hr.mem κ c hc
   cases c with
   | box ty cs=>
    obtain ⟨g,us,_,_,h3,_⟩:=this
    simp only [Option.map_some,Cont.kill,cells_kill_eq h3 hq]
   | row e css=>rfl
 by_cases hDE:D=[]∧E=[]
 ·obtain ⟨rfl,rfl⟩:=hDE
  show (s.m κ).map (Cont.kill p)=s.m κ
  rw [hbox (fun _=>false) (fun c u hc hd=>by rw [hpq c u hc hd,inK_nil])]
  cases s.m κ with
  | none=>rfl
  | some c=>simp [Cont_kill_no]
 ·have:killK s.m D E κ=(s.m κ).map (Cont.kill (inK D E)):=by
   cases D with
   | nil=>
    cases E with
    | nil=>exact absurd ⟨rfl,rfl⟩ hDE
    | cons k r=>rfl
   | cons k r=>rfl
  rw [this]
  exact hbox _ hpq
theorem subIn_nil (c:Cell):subIn [] c=false:=by cases c <;> simp [subIn]
theorem inK_fresh (hr:RelE P N w0 S s a w ρ F) {κ:Nat} (hκ:s.m κ=none) (D:List Nat):∀ c u,CellRel P w (okm s.m F) s.m ρ c u→c ≠ .dead→Cell.uses (fun x=>x == κ || D.contains x) c=inK D [] c:=fun c u hc hd=>by
 unfold inK
 rw [usesOr,cell_fresh hκ hc hd,Bool.false_or,subIn_nil,Bool.or_false]
theorem inK_fresh0 (hr:RelE P N w0 S s a w ρ F) {κ:Nat} (hκ:s.m κ=none):∀ c u,CellRel P w (okm s.m F) s.m ρ c u→c ≠ .dead→Cell.uses (fun x=>x == κ) c=inK [] [] c:=fun c u hc hd=>by
 rw [cell_fresh hκ hc hd,inK_nil]
def noneL (D:List Nat):List (Nat×Option Cont):=D.map fun k=>(k,none)
theorem lk_noneL (D:List Nat) (κ:Nat):lk (noneL D) κ=if D.contains κ then some none else none:=by
 induction D with
 | nil=>rfl
 | cons k r ih=>
  show cond (Nat.beq k κ) (some none) (lk (noneL r) κ)=_
  by_cases h:k=κ
  ·subst h
   rw [show Nat.beq k k=true from Nat.beq_refl k]
   simp
  ·rw [nb_ne h,ih]
   have h':¬ κ=k:=fun e=>h e.symm
   simp [List.contains_cons,h']
theorem newMD_eq (hr:RelE P N w0 S s a w ρ F) {κ:Nat} (hκ:s.m κ=none) (D:List Nat) (c:Cont):newMD s κ D c=putK (killK s.m D []) [(κ,c)] (noneL D):=by
 funext κ'
 unfold newMD putK
 by_cases hne:κ'=κ
 ·subst hne
  rw [upd_same]
  simp [lk,show Nat.beq κ' κ'=true from Nat.beq_refl κ']
 ·rw [upd_ne _ _ hne]
  have h1:lk [(κ,c)] κ'=none:=lk_none (by simpa using hne)
  rw [h1,lk_noneL]
  simp only
  split
  ·rfl
  ·rw [killK_eq hr D [] (inK_fresh hr hκ D)]
theorem newM_eq (hr:RelE P N w0 S s a w ρ F) {κ:Nat} (hκ:s.m κ=none) (c:Cont):newM s κ c=putK (killK s.m [] []) [(κ,c)] []:=by
 funext κ'
 unfold newM putK
 by_cases hne:κ'=κ
 ·subst hne
  rw [upd_same]
  simp [lk,show Nat.beq κ' κ'=true from Nat.beq_refl κ']
 ·rw [upd_ne _ _ hne]
  have h1:lk [(κ,c)] κ'=none:=lk_none (by simpa using hne)
  rw [h1]
  simp only [lk]
  rw [killK_eq hr [] [] (inK_fresh0 hr hκ)]
theorem SoundOp.conv {s1 s2:St} (he:∀ a w ρ F,RelE P N w0 S s a w ρ F→s1=s2) (h:SoundOp P N w0 S o s s1):SoundOp P N w0 S o s s2:=by
 rintro a w ⟨ρ,F,hr⟩
 have:=h a w ⟨ρ,F,hr⟩
 rw [he a w ρ F hr] at this
 exact this
end
end Go.Proofs.YticimffljcljoaaGreatM

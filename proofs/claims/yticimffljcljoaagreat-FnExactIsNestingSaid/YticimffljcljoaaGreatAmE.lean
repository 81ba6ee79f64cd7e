/- The abstract machine's operations on memory. No condition. -/
import Derived.Test.YticimffljcljoaaGreatAmD
import Derived.Laws.NewFold
set_option linter.unusedVariables false
set_option linter.unusedSimpArgs false
namespace Go.Proofs.YticimffljcljoaaGreatM
open Go Go.RowKit
section
variable {P : Program} {w w1 : World} {ok ok1 : Nat → Prop} {m m1 : Nat → Option Cont} {ρ ρ1 : Nat → Value} {F F1 : Nat → Nat → Prop} {N : Nat} {w0 : World} {S : Fx} {s : St} {a : Act} {o : Oper}
theorem ContRel.other {p:Cell→Bool} {κ:Nat} {c:Cont} {T:Nat→Prop} (hc:∀ c u,p c=false→CellRel P w ok m ρ c u→CellRel P w1 ok1 m1 ρ1 c u) (hρ:ρ1 κ=ρ κ) (hF:F1 κ=F κ) (hfr:Fr T w w1) (hT:∀ k,F κ k→¬ T k) (h:ContRel P w ok m ρ F κ c):ContRel P w1 ok1 m1 ρ1 F1 κ (c.kill p):=by
 have hlt:=h.lt
 cases c with
 | box ty cs=>
  obtain ⟨g,us,h1,h2,h3,h4,h5⟩:=h
  refine ⟨g,us,hρ.trans h1,?_,h3.map_left _ (fun _ _ hh=>CellRel.kill hc hh),h4,by rw [hF]; exact h5⟩
  rw [hfr.block g (hlt g ((h5 g).2 rfl)) (hT g ((h5 g).2 rfl))]
  exact h2
 | row e css=>
  show Own P w1 (F1 κ) (.row e css) (ρ1 κ)
  rw [hρ,hF]
  exact Own.move h (fun k hk=>hfr.block k (hlt k hk) (hT k hk))
theorem RelE.fresh (h:RelE P N w0 S s a w ρ F) (K:Nat→Bool) (hfr:Fr (fun _=>False) w w1)
  (hm:∀ κ,K κ=false→m1 κ=(s.m κ).map (Cont.kill (Cell.uses K))) (hρ:∀ κ,K κ=false→ρ1 κ=ρ κ) (hF:∀ κ,K κ=false→F1 κ=F κ)
  (hlo:∀ κ k,K κ=true→m1 κ≠none→F1 κ k→w.heap.size≤k∨∃ κ',K κ'=true∧s.m κ'≠none∧F κ' k)
  (hnew:(∀ c u,c.uses K=false→CellRel P w (okm s.m F) s.m ρ c u→CellRel P w1 (okm m1 F1) m1 ρ1 c u)→∀ κ c,K κ=true→m1 κ=some c→ContRel P w1 (okm m1 F1) m1 ρ1 F1 κ c)
  (hap:∀ κ κ' k,K κ=true→K κ'=true→m1 κ≠none→m1 κ'≠none→F1 κ k→F1 κ' k→κ=κ') (hbig:∀ κ,K κ=true→m1 κ≠none→100≤κ):
  RelE P N w0 S ⟨fun n=>(s.t n).kill (Cell.uses K),m1⟩ a w1 ρ1 F1∧(∀ c u,c.uses K=false→CellRel P w (okm s.m F) s.m ρ c u→CellRel P w1 (okm m1 F1) m1 ρ1 c u):=by
 have hlive:∀ κ,K κ=false→m1 κ≠none→s.m κ≠none:=fun κ hk hn h0=>hn (by rw [hm κ hk,h0]; rfl)
 have hc:=cell_other (m1:=m1) (F1:=F1) (ρ1:=ρ1) (K:=K) h hfr (fun _ _ _ _ _ hf=>hf) (fun k hok hlt=>⟨fun hf=>hf,fun κ hn hk=>by
  cases hK:K κ with
  | true=>
   rcases hlo κ k hK hn hk with h1|⟨κ',_,h2,h3⟩
   ·exact Nat.lt_irrefl _ (Nat.lt_of_lt_of_le hlt h1)
   ·exact hok κ' h2 h3
  | false=>exact hok κ (hlive κ hK hn) (by rwa [hF κ hK] at hk)⟩)
  (fun κ hk=>⟨fun e css he=>by rw [hm κ hk,he]; rfl,fun ty cs he=>⟨_,by rw [hm κ hk,he]; rfl⟩⟩) hρ
 refine ⟨h.change (Cell.uses K) hfr (fun _ hf=>hf.elim) hc (fun κ c hmc=>?_) (fun κ κ' k hn hn' hk hk'=>?_) (fun κ k hn hk=>?_) (fun κ hlt hn=>?_),hc⟩
 ·cases hK:K κ with
  | true=>exact hnew hc κ c hK hmc
  | false=>
   rw [hm κ hK] at hmc
   obtain ⟨c0,h0,rfl⟩:=Option.map_eq_some_iff.1 hmc
   exact (h.mem κ c0 h0).other hc (hρ κ hK) (hF κ hK) hfr (fun _ _ hf=>hf)
 ·cases hK:K κ with
  | true=>
   cases hK':K κ' with
   | true=>exact hap κ κ' k hK hK' hn hn' hk hk'
   | false=>
    rw [hF κ' hK'] at hk'
    have:=h.lt (hlive κ' hK' hn') hk'
    rcases hlo κ k hK hn hk with h1|⟨κ2,h0,h2,h3⟩
    ·omega
    ·have:=h.apart κ2 κ' k h2 (hlive κ' hK' hn') h3 hk'
     rw [this,hK'] at h0
     cases h0
  | false=>
   rw [hF κ hK] at hk
   have hlt:=h.lt (hlive κ hK hn) hk
   cases hK':K κ' with
   | true=>
    rcases hlo κ' k hK' hn' hk' with h1|⟨κ2,h0,h2,h3⟩
    ·omega
    ·have:=h.apart κ κ2 k (hlive κ hK hn) h2 hk h3
     rw [← this,hK] at h0
     cases h0
   | false=>
    rw [hF κ' hK'] at hk'
    exact h.apart κ κ' k (hlive κ hK hn) (hlive κ' hK' hn') hk hk'
 ·cases hK:K κ with
  | true=>
   rcases hlo κ k hK hn hk with h1|⟨κ2,h0,h2,h3⟩
   ·exact .inl (Nat.le_trans h.frame.size h1)
   ·exact h.base κ2 k h2 h3
  | false=>
   rw [hF κ hK] at hk
   exact h.base κ k (hlive κ hK hn) hk
 ·cases hK:K κ with
  | true=>have:=hbig κ hK hn; omega
  | false=>rw [hρ κ hK]; exact h.pin κ hlt (hlive κ hK hn)
theorem RelE.write (h:RelE P N w0 S s a w ρ F) (κ:Nat) {c0:Cont} (hκ:s.m κ=some c0) (D:Nat→Bool) (hD:D κ=false) (p:Cell→Bool) (hpD:∀ c,c.uses D=true→p c=true)
  {c1:Cont} {v1:Value} {Fκ:Nat→Prop} (hfr:Fr (F κ) w w1) (hF1:∀ k,Fκ k→F κ k∨(∃ κ',D κ'=true∧s.m κ'≠none∧F κ' k)∨w.heap.size≤k) (hv1:κ < 100→v1=ρ κ)
  (hm:∀ κ',κ'≠κ→m1 κ'=if D κ' then none else (s.m κ').map (Cont.kill p)) (hm1:m1 κ=some c1)
  (hcells:∀ c u,p c=false→c.uses (fun x=>x == κ)=true→CellRel P w (okm s.m F) s.m ρ c u→CellRel P w1 (okm m1 (upd F κ Fκ)) m1 (upd ρ κ v1) c u)
  (hcont:(∀ c u,p c=false→CellRel P w (okm s.m F) s.m ρ c u→CellRel P w1 (okm m1 (upd F κ Fκ)) m1 (upd ρ κ v1) c u)→ContRel P w1 (okm m1 (upd F κ Fκ)) m1 (upd ρ κ v1) (upd F κ Fκ) κ c1):
  RelE P N w0 S ⟨fun n=>(s.t n).kill p,m1⟩ a w1 (upd ρ κ v1) (upd F κ Fκ):=by
 have hn0:s.m κ≠none:=by rw [hκ]; simp
 have hlive:∀ κ',κ'≠κ→m1 κ'≠none→s.m κ'≠none∧D κ'=false:=fun κ' hne hn=>by
  rw [hm κ' hne] at hn
  cases hDk:D κ' with
  | true=>rw [hDk] at hn; simp at hn
  | false=>
   rw [hDk] at hn
   simp at hn
   exact ⟨hn,rfl⟩
 have hother:=cell_other (m1:=m1) (F1:=upd F κ Fκ) (ρ1:=upd ρ κ v1) (K:=fun x=>x == κ || D x) h hfr
  (fun κ' k hK hn hk hk'=>by
   have hne:κ'≠κ:=by
    rintro rfl
    simp at hK
   exact hne (h.apart κ' κ k hn hn0 hk hk'))
  (fun k hok hlt=>⟨hok κ hn0,fun κ' hn hk=>by
   by_cases hne:κ'=κ
   ·subst hne
    rw [upd_same] at hk
    rcases hF1 k hk with h1|⟨κ2,h1,h2,h3⟩|h1
    ·exact hok κ' hn0 h1
    ·exact hok κ2 h2 h3
    ·omega
   ·rw [upd_ne _ _ hne] at hk
    exact hok κ' (hlive κ' hne hn).1 hk⟩)
  (fun κ' hK=>by
   have hne:κ'≠κ:=by
    rintro rfl
    simp at hK
   have hDk:D κ'=false:=by
    cases hDk:D κ' with
    | true=>simp [hDk] at hK
    | false=>rfl
   refine ⟨fun e css he=>?_,fun ty cs he=>?_⟩
   ·rw [hm κ' hne,hDk,he]; rfl
   ·exact ⟨_,by rw [hm κ' hne,hDk,he]; rfl⟩)
  (fun κ' hK=>by
   have hne:κ'≠κ:=by
    rintro rfl
    simp at hK
   exact upd_ne _ _ hne)
 have usesOr:∀ c:Cell,c.uses (fun x=>x == κ || D x)=(c.uses (fun x=>x == κ) || c.uses D):=by
  intro c
  cases c <;> simp [Cell.uses]
  rename_i f κs
  induction κs with
  | nil=>rfl
  | cons x xs ih=>simp only [List.any_cons,ih]; cases (x == κ) <;> cases (D x) <;> cases (xs.any D) <;> cases (xs.any fun x=>x == κ) <;> rfl
 have hall:∀ c u,p c=false→CellRel P w (okm s.m F) s.m ρ c u→CellRel P w1 (okm m1 (upd F κ Fκ)) m1 (upd ρ κ v1) c u:=by
  intro c u hp hc
  cases hu:c.uses (fun x=>x == κ) with
  | true=>exact hcells c u hp hu hc
  | false=>
   refine hother c u ?_ hc
   rw [usesOr,hu]
   cases hd:c.uses D with
   | true=>rw [hpD c hd] at hp; cases hp
   | false=>rfl
 refine h.change p hfr (fun k hk=>h.base κ k hn0 hk) hall (fun κ' c hmc=>?_) (fun κ1 κ2 k hn hn' hk hk'=>?_) (fun κ' k hn hk=>?_) (fun κ' hlt hn=>?_)
 ·by_cases hne:κ'=κ
  ·subst hne
   rw [hm1] at hmc
   injection hmc with hmc
   subst hmc
   exact hcont hall
  ·obtain ⟨h1,h2⟩:=hlive κ' hne (by rw [hmc]; simp)
   rw [hm κ' hne,h2] at hmc
   obtain ⟨c2,h3,rfl⟩:=Option.map_eq_some_iff.1 hmc
   exact (h.mem κ' c2 h3).other hall (upd_ne _ _ hne) (upd_ne _ _ hne) hfr (fun k hk hk'=>hne (h.apart κ' κ k h1 hn0 hk hk'))
 ·have step:∀ κ1 κ2,κ1≠κ→κ2=κ→m1 κ1≠none→upd F κ Fκ κ1 k→upd F κ Fκ κ2 k→False:=by
   rintro κ1 κ2 hne rfl hn hk hk'
   rw [upd_ne _ _ hne] at hk
   rw [upd_same] at hk'
   obtain ⟨h1,h2⟩:=hlive κ1 hne hn
   rcases hF1 k hk' with h3|⟨κ3,h3,h4,h5⟩|h3
   ·exact hne (h.apart κ1 κ2 k h1 hn0 hk h3)
   ·have:=h.apart κ1 κ3 k h1 h4 hk h5
    rw [this,h3] at h2
    cases h2
   ·have:=h.lt h1 hk
    omega
  by_cases h1:κ1=κ
  ·by_cases h2:κ2=κ
   ·rw [h1,h2]
   ·exact (step κ2 κ1 h2 h1 hn' hk' hk).elim
  ·by_cases h2:κ2=κ
   ·exact (step κ1 κ2 h1 h2 hn hk hk').elim
   ·rw [upd_ne _ _ h1] at hk
    rw [upd_ne _ _ h2] at hk'
    exact h.apart κ1 κ2 k (hlive κ1 h1 hn).1 (hlive κ2 h2 hn').1 hk hk'
 ·by_cases hne:κ'=κ
  ·subst hne
   rw [upd_same] at hk
   rcases hF1 k hk with h3|⟨κ3,h3,h4,h5⟩|h3
   ·exact h.base κ' k hn0 h3
   ·exact h.base κ3 k h4 h5
   ·exact .inl (Nat.le_trans h.frame.size h3)
  ·rw [upd_ne _ _ hne] at hk
   exact h.base κ' k (hlive κ' hne hn).1 hk
 ·by_cases hne:κ'=κ
  ·subst hne
   rw [upd_same,hv1 hlt]
   exact h.pin κ' hlt hn0
  ·rw [upd_ne _ _ hne]
   exact h.pin κ' hlt (hlive κ' hne hn).1
theorem Rel.mk (h:RelE P N w0 S s a w ρ F):Rel P N w0 S s a w:=⟨ρ,F,h⟩
def newM (s:St) (κ:Nat) (c:Cont):Nat→Option Cont:=upd (fun κ'=>(s.m κ').map (Cont.kill (Cell.uses fun x=>x == κ))) κ (some c)
theorem fresh_box (h:RelE P N w0 S s a w ρ F) (κ:Nat) (ty:TypeId) (cs:List Cell) (us:List Value) (hu:All2 (CellRel P w (okm s.m F) s.m ρ) cs us) (h1:∀ x∈us,x.oneCell'=true) (hbig:100≤κ):
  ∃ ρ1 F1,RelE P N w0 S ⟨fun n=>(s.t n).kill (Cell.uses fun x=>x == κ),newM s κ (.box ty (cs.map (Cell.kill (Cell.uses fun x=>x == κ))))⟩ a (w.alloc (.cells us.toArray ty)) ρ1 F1∧ρ1 κ = .pointer (some ⟨w.heap.size,0,none⟩):=by
 refine ⟨upd ρ κ (.pointer (some ⟨w.heap.size,0,none⟩)),upd F κ (fun k=>k=w.heap.size),?_,upd_same _ _ _⟩
 have hne:∀ κ',(κ' == κ)=false→κ'≠κ:=fun κ' hk=>by simpa using hk
 refine (h.fresh (m1:=newM s κ (.box ty (cs.map (Cell.kill (Cell.uses fun x=>x == κ))))) (fun x=>x == κ) (Fr.alloc w _ _) (fun κ' hk=>upd_ne _ _ (hne κ' hk)) (fun κ' hk=>upd_ne _ _ (hne κ' hk)) (fun κ' hk=>upd_ne _ _ (hne κ' hk)) (fun κ' k hk hn hf=>?_) (fun hc κ' c hk hmc=>?_) (fun κ1 κ2 k hk1 hk2 _ _ _ _=>?_) (fun κ' hk _=>?_)).1
 ·obtain rfl:κ'=κ:=by simpa using hk
  rw [upd_same] at hf
  exact .inl (by omega)
 ·obtain rfl:κ'=κ:=by simpa using hk
  unfold newM at hmc
  rw [upd_same] at hmc
  injection hmc with hmc
  subst hmc
  refine ⟨w.heap.size,us,upd_same _ _ _,heap_alloc_new w _,hu.map_left _ (fun _ _ hh=>CellRel.kill hc hh),h1,fun k=>by show upd F κ' (fun k=>k=w.heap.size) κ' k↔_; rw [upd_same]⟩
 ·rw [show κ1=κ from by simpa using hk1,show κ2=κ from by simpa using hk2]
 ·rw [show κ'=κ from by simpa using hk]; exact hbig
theorem s_fresh_box {o:Oper} {d:Nat} {ty:TypeId} {cs:List Cell} (hdst:o.dst=some d) (hd:d < N) (κ:Nat) (hbig:100≤κ)
  (hrun:∀ a w ρ F,RelE P N w0 S s a w ρ F→∃ us,All2 (CellRel P w (okm s.m F) s.m ρ) cs us∧(∀ x∈us,x.oneCell'=true)∧(execOp a.eval o).run P w = .ok (.value (.pointer (some ⟨w.heap.size,0,none⟩))) (w.alloc (.cells us.toArray ty))):
  SoundOp P N w0 S o s ⟨updO (fun n=>(s.t n).kill (Cell.uses fun x=>x == κ)) o.dst (.c (.ptr κ 0)),newM s κ (.box ty (cs.map (Cell.kill (Cell.uses fun x=>x == κ))))⟩:=by
 rintro a w ⟨ρ,F,hr⟩
 obtain ⟨us,h1,h2,h3⟩:=hrun a w ρ F hr
 obtain ⟨ρ1,F1,h4,h5⟩:=fresh_box hr κ ty cs us h1 h2 hbig
 unfold Oper.wp
 rw [h3]
 show Rel P N w0 S _ (a.put o.dst _) _
 rw [hdst]
 exact ⟨ρ1,F1,h4.put hd (.c (show CellRel P _ _ (newM s κ _) ρ1 (.ptr κ 0) _ from ⟨ty,_,w.heap.size,upd_same _ _ _,h5,rfl⟩))⟩
theorem s_alloc {o:Oper} {d:Nat} {e:TypeId} {z b:Nat} {zz:List Value} {g:Bool} (ho:o.op = .alloc e) (hti:tyi P e=some (z,b,zz,g)) (h1:zz.all Value.oneCell'=true) (hdst:o.dst=some d) (hd:d < N) (κ:Nat) (hbig:100≤κ):
  SoundOp P N w0 S o s ⟨updO (fun n=>(s.t n).kill (Cell.uses fun x=>x == κ)) o.dst (.c (.ptr κ 0)),newM s κ (.box e ((cvs zz).map (Cell.kill (Cell.uses fun x=>x == κ))))⟩:=by
 refine s_fresh_box hdst hd κ hbig fun a w ρ F hr=>?_
 obtain ⟨i,dd,v,h2,h3,h4,h5,h6,h7,h8⟩:=tyi_some hti
 refine ⟨zz,all2_map_v,fun x hx=>List.all_eq_true.1 h1 x hx,?_⟩
 unfold execOp
 rw [ho]
 have h9:(zeroValue e).run P w = .ok v w:=by simp [zeroValue,typeInfo,h2,h4]
 have h10:zz.toArray=v.cells:=by rw [← h7]
 simp [Instr.alloc,h9,newVar,newRow,run_newObj_alloc,h10]
theorem s_box {o:Oper} {d:Nat} {e:TypeId} {x:Operand} {cs:List Cell} (ho:o.op = .box e x) (hx:(s.ev x).cells=some cs) (h1:cs.all Cell.okc=true) (hdst:o.dst=some d) (hd:d < N) (κ:Nat) (hbig:100≤κ):
  SoundOp P N w0 S o s ⟨updO (fun n=>(s.t n).kill (Cell.uses fun x=>x == κ)) o.dst (.c (.ptr κ 0)),newM s κ (.box e (cs.map (Cell.kill (Cell.uses fun x=>x == κ))))⟩:=by
 refine s_fresh_box hdst hd κ hbig fun a w ρ F hr=>?_
 obtain ⟨h2,h3⟩:=rel_cells hx (hr.ev x) h1
 refine ⟨_,h2,h3,?_⟩
 unfold execOp
 rw [ho]
 simp [Instr.box,newVar,newRow,run_newObj_alloc]
theorem box_cell {w:World} {g:Nat} {us:List Value} {ty:TypeId} {fr:Nat×Nat} (h:w.heap[g]?=some (.cells us.toArray ty fr)) (i:Nat):w.cell? ⟨g,i,none⟩=us[i]?:=by
 simp [World.cell?,h]
theorem s_loadBox {o:Oper} {e:TypeId} {x:Operand} {z b:Nat} {zz:List Value} {g:Bool} {κ off:Nat} {ty:TypeId} {cs:List Cell} (ho:o.op = .load e x) (hti:tyi P e=some (z,b,zz,g)) (hx:s.ev x = .c (.ptr κ off)) (hm:s.m κ=some (.box ty cs))
  (hp:off+z≤cs.length∧(g=false→z=1)) (hd:∀ n,o.dst=some n→n < N):SoundOp P N w0 S o s ⟨updO s.t o.dst (mkAV g ((cs.drop off).take z)),s.m⟩:=by
 refine sound_val hd fun a w ρ F hr=>?_
 have h1:=hr.ev x
 rw [hx] at h1
 cases h1 with
 | c h1=>
  obtain ⟨ty',cs',g',h2,h3,h4⟩:=h1
  obtain ⟨g2,us,h5,h6,h7,h8,h9⟩:=hr.mem κ _ hm
  rw [h3] at h5
  injection h5 with h5
  injection h5 with h5
  injection h5 with h5
  subst h5
  have hl:=h7.len
  have hall:=(h7.drop off).take z
  have hlen:((cs.drop off).take z).length=z:=by rw [List.length_take,List.length_drop]; omega
  obtain ⟨u,h10,h11,h12⟩:=mkAV_rel (z:=z) hall (g:=g) (fun hg=>by rw [hlen,hp.2 hg])
  refine ⟨u,?_,h10⟩
  have:=run_loadVar (w:=w) (ad:=⟨g',off,none⟩) hti ((us.drop off).take z) (by rw [← hall.len,hlen]) hp.2 h11 h12 (fun j y hj=>by
   rw [add_at,box_cell h6]
   rw [List.getElem?_take] at hj
   split at hj
   ·rwa [List.getElem?_drop] at hj
   ·cases hj)
  unfold execOp
  rw [ho]
  simp [h4,Instr.loadAt,Instr.sureAddr,this]
def putL {α:Type} (cs:List α) (off:Nat) (xs:List α):List α:=cs.take off++xs++cs.drop (off+xs.length)
theorem All2.putL {α β:Type} {R:α→β→Prop} {cs xs:List α} {us ys:List β} (h:All2 R cs us) (h':All2 R xs ys) (off:Nat):All2 R (Go.Proofs.YticimffljcljoaaGreatM.putL cs off xs) (Go.Proofs.YticimffljcljoaaGreatM.putL us off ys):=by
 unfold Go.Proofs.YticimffljcljoaaGreatM.putL
 rw [h'.len]
 exact ((h.take off).append h').append (h.drop _)
theorem s_storeBox {o:Oper} {e:TypeId} {p x:Operand} {z b:Nat} {zz:List Value} {g:Bool} {κ off:Nat} {ty:TypeId} {cs xs:List Cell} (ho:o.op = .store e p x) (hti:tyi P e=some (z,b,zz,g)) (hpt:s.ev p = .c (.ptr κ off)) (hm:s.m κ=some (.box ty cs))
  (hx:(s.ev x).cells=some xs) (hk:xs.all Cell.okc=true) (hl:xs.length=z) (hb:off+z≤cs.length) (hdst:o.dst=none):SoundOp P N w0 S o s ⟨s.t,upd s.m κ (some (.box ty (putL cs off xs)))⟩:=by
 rintro a w ⟨ρ,F,hr⟩
 have h1:=hr.ev p
 rw [hpt] at h1
 cases h1 with
 | c h1=>
  obtain ⟨ty',cs',g',h2,h3,h4⟩:=h1
  obtain ⟨g2,us,h5,h6,h7,h8,h9⟩:=hr.mem κ _ hm
  rw [h3] at h5
  injection h5 with h5
  injection h5 with h5
  injection h5 with h5
  subst h5
  obtain ⟨h10,h11⟩:=rel_cells hx (hr.ev x) hk
  have hlu:=h7.len
  have hlx:=h10.len
  have e1:(a.eval x).cells.toList.length=(a.eval x).cells.size:=Array.length_toList
  have hsz:(a.eval x).cells.size=z:=by omega
  have hst:=run_storeCells_at P g' off ty (a.eval x).cells.toList 0 us.toArray w h6 (by rw [List.size_toArray]; omega) h11
  have hrun:(execOp a.eval o).run P w = .ok .skip (w.setRow g' (putL us off (a.eval x).cells.toList).toArray):=by
   unfold execOp
   rw [ho]
   simp only [Instr.storeAt,h4,Instr.sureAddr,storeVar,Sem.run_bind,Sem.run_pure,Result.andThen_ok,run_sizeOf_tyi hti,hsz]
   simp only [ne_eq,not_true_eq_false,if_false,hst,Result.andThen_ok]
   rfl
  unfold Oper.wp
  rw [hrun]
  show Rel P N w0 S _ (a.put o.dst undef) _
  rw [hdst]
  show Rel P N w0 S _ a _
  have hkill:∀ n,(s.t n).kill (fun _=>false)=s.t n:=fun n=>by
   have hk1:∀ c:Cell,c.kill (fun _=>false)=c:=fun c=>by simp [Cell.kill]
   have hk2:∀ cs:List Cell,cs.map (Cell.kill fun _=>false)=cs:=fun cs=>by rw [List.map_congr_left (g:=id) (fun c _=>hk1 c)]; simp
   cases s.t n with
   | c x=>simp [AV.kill,hk1]
   | agg cs=>simp [AV.kill,hk2]
   | tup xs=>
    simp only [AV.kill]
    congr 1
    rw [List.map_congr_left (g:=id) (fun e _=>by cases e <;> simp [El.kill,hk1,hk2])]
    simp
  have hkc:∀ c:Cont,c.kill (fun _=>false)=c:=fun c=>by
   have hk1:∀ c:Cell,c.kill (fun _=>false)=c:=fun c=>by simp [Cell.kill]
   cases c with
   | box ty cs=>simp only [Cont.kill]; congr 1; rw [List.map_congr_left (g:=id) (fun c _=>hk1 c)]; simp
   | row e css=>rfl
  have hfr:Fr (F κ) w (w.setRow g' (putL us off (a.eval x).cells.toList).toArray):=by
   refine ⟨rfl,rfl,rfl,by simp [World.setRow],fun k _ hn=>setRow_other _ _ _ _ (fun he=>hn (by rw [he]; exact (h9 g').2 rfl))⟩
  have:=hr.write κ hm (fun _=>false) rfl (fun _=>false) (fun c hc=>by
    have:∀ c:Cell,c.uses (fun _=>false)=false:=fun c=>by cases c <;> simp [Cell.uses]
    rw [this] at hc; cases hc) (m1:=upd s.m κ (some (.box ty (putL cs off xs)))) (c1 := .box ty (putL cs off xs)) (v1:=ρ κ) (Fκ:=F κ) hfr (fun k hk => .inl hk) (fun _=>rfl)
   (fun κ' hne=>by
    rw [upd_ne _ _ hne]
    simp only [Bool.false_eq_true,if_false]
    cases s.m κ' with
    | none=>rfl
    | some c=>simp [hkc]) (upd_same _ _ _)
   (fun c u _ hu hc=>?_) (fun hall=>?_)
  ·have he:(⟨fun n=>(s.t n).kill (fun _=>false),upd s.m κ (some (.box ty (putL cs off xs)))⟩:St)=⟨s.t,upd s.m κ (some (.box ty (putL cs off xs)))⟩:=by
    congr 1
    exact funext hkill
   rw [he] at this
   exact ⟨_,_,this⟩
  ·cases c with
   | ptr κ' off'=>
    obtain ⟨ty2,cs2,g3,q1,q2,q3⟩:=hc
    obtain rfl:κ'=κ:=by simpa [Cell.uses] using hu
    exact ⟨ty,_,g3,upd_same _ _ _,by rw [upd_same]; exact q2,q3⟩
   | fnc f κs=>
    obtain ⟨q1,q2⟩:=hc
    refine ⟨fun κ' hk'=>?_,?_⟩
    ·by_cases hne:κ'=κ
     ·subst hne
      exact ⟨ty,_,upd_same _ _ _⟩
     ·obtain ⟨ty2,cs2,q3⟩:=q1 κ' hk'
      exact ⟨ty2,cs2,by rw [upd_ne _ _ hne]; exact q3⟩
    ·rw [q2,List.map_congr_left (fun κ' _=>show ρ κ'=upd ρ κ (ρ κ) κ' from by
      by_cases hne:κ'=κ
      ·subst hne; rw [upd_same]
      ·rw [upd_ne _ _ hne])]
   | own κ' n=>
    obtain ⟨⟨e',css,q1,_⟩,_⟩:=hc
    obtain rfl:κ'=κ:=by simpa [Cell.uses] using hu
    rw [hm] at q1; cases q1
   | sub κ' i j n=>
    obtain ⟨e',css,_,_,_,_,_,_,q1,_⟩:=hc
    obtain rfl:κ'=κ:=by simpa [Cell.uses] using hu
    rw [hm] at q1; cases q1
   | sptr κ' i j n q=>
    obtain ⟨g2,n2,c2,⟨e',css,_,_,_,_,_,_,q1,_⟩,rfl⟩:=hc
    obtain rfl:κ'=κ:=by simpa [Cell.uses] using hu
    rw [hm] at q1; cases q1
   | cut κ' lo n=>
    obtain ⟨e',css,_,_,q1,_⟩:=hc
    obtain rfl:κ'=κ:=by simpa [Cell.uses] using hu
    rw [hm] at q1; cases q1
   | eptr κ' i off'=>
    obtain ⟨e',css,_,_,_,q1,_⟩:=hc
    obtain rfl:κ'=κ:=by simpa [Cell.uses] using hu
    rw [hm] at q1; cases q1
   | d x=>simp [Cell.uses] at hu
   | dead=>simp [Cell.uses] at hu
  ·refine ⟨g',_,by rw [upd_same]; exact h3,setRow_heap w g' _ _ ty (0,0) h6,(h7.putL h10 off).imp (fun c u hc=>hall c u rfl hc),fun u hu=>?_,fun k=>by rw [upd_same]; exact h9 k⟩
   unfold putL at hu
   rcases List.mem_append.1 hu with hu|hu
   ·rcases List.mem_append.1 hu with hu|hu
    ·exact h8 u (List.mem_of_mem_take hu)
    ·exact h11 u hu
   ·exact h8 u (List.mem_of_mem_drop hu)
end
end Go.Proofs.YticimffljcljoaaGreatM

/- The abstract machine's operations on rows. No condition. -/
import Derived.Test.YticimffljcljoaaGreatAmE
set_option linter.unusedVariables false
set_option linter.unusedSimpArgs false
namespace Go.Proofs.YticimffljcljoaaGreatM
open Go Go.RowKit
def cellDV (m:Nat→Option Cont):Cell→Option DV
 | .d (.v x)=>if x.oneCell'=true then some (.v x) else none
 | .own κ _=>match m κ with
  | some (.row e css)=>some (.row e css)
  | _=>none
 | _=>none
def cellsDV (m:Nat→Option Cont):List Cell→Option (List DV)
 | []=>some []
 | c::r=>match cellDV m c,cellsDV m r with
  | some x,some xs=>some (x::xs)
  | _,_=>none
def ownKeys:List Cell→List Nat
 | []=>[]
 | .own κ _::r=>κ::ownKeys r
 | _::r=>ownKeys r
def chunkN {α:Type} (z:Nat):Nat→List α→List (List α)
 | 0,_=>[]
 | n+1,l=>l.take z::chunkN z n (l.drop z)
theorem chunkN_len {α:Type} (z:Nat):∀ (n:Nat) (l:List α),(chunkN z n l).length=n
 | 0,_=>rfl
 | n+1,l=>by simp [chunkN,chunkN_len z n]
theorem chunkN_get {α:Type} (z:Nat):∀ (n:Nat) (l:List α) (i:Nat),i < n→(chunkN z n l)[i]?=some ((l.drop (i*z)).take z)
 | 0,_,_,h=>by omega
 | n+1,l,0,_=>by simp [chunkN]
 | n+1,l,i+1,h=>by
  simp only [chunkN,List.getElem?_cons_succ]
  rw [chunkN_get z n (l.drop z) i (by omega),List.drop_drop]
  congr 3
  rw [Nat.succ_mul,Nat.add_comm]
section
variable {P : Program} {w w1 : World} {ok ok1 : Nat → Prop} {m m1 : Nat → Option Cont} {ρ ρ1 : Nat → Value} {F F1 : Nat → Nat → Prop} {N : Nat} {w0 : World} {S : Fx} {s : St} {a : Act} {o : Oper}
def fsOf (F:Nat→Nat→Prop) (cs:List Cell) (j k:Nat):Prop:=∃ κ n,cs[j]?=some (.own κ n)∧F κ k
theorem ownKeys_mem {cs:List Cell} {j κ n:Nat} (h:cs[j]?=some (.own κ n)):κ∈ownKeys cs:=by
 induction cs generalizing j with
 | nil=>simp at h
 | cons c r ih=>
  cases j with
  | zero=>
   simp only [List.getElem?_cons_zero,Option.some.injEq] at h
   subst h
   exact List.mem_cons_self
  | succ j=>
   have:=ih (by simpa using h)
   cases c <;> first|exact this|exact List.mem_cons_of_mem _ this
theorem ownKeys_inj {cs:List Cell} (hn:(ownKeys cs).Nodup) {i j κ n n':Nat} (h1:cs[i]?=some (.own κ n)) (h2:cs[j]?=some (.own κ n')):i=j:=by
 induction cs generalizing i j with
 | nil=>simp at h1
 | cons c r ih=>
  have hr:(ownKeys r).Nodup:=by
   cases c <;> first|exact hn|exact (List.nodup_cons.1 hn).2
  cases i with
  | zero=>
   simp only [List.getElem?_cons_zero,Option.some.injEq] at h1
   subst h1
   cases j with
   | zero=>rfl
   | succ j=>exact absurd (ownKeys_mem (by simpa using h2)) (List.nodup_cons.1 hn).1
  | succ i=>
   cases j with
   | zero=>
    simp only [List.getElem?_cons_zero,Option.some.injEq] at h2
    subst h2
    exact absurd (ownKeys_mem (by simpa using h1)) (List.nodup_cons.1 hn).1
   | succ j=>
    have:=ih hr (show r[i]?=_ from by simpa using h1) (show r[j]?=_ from by simpa using h2)
    rw [this]
theorem cellDV_own (h:RelE P N w0 S s a w ρ F) {c:Cell} {d:DV} {u:Value} (hd:cellDV s.m c=some d) (hr:CellRel P w (okm s.m F) s.m ρ c u):
  Own P w (fun k=>∃ κ n,c = .own κ n∧F κ k) d u:=by
 unfold cellDV at hd
 split at hd
 ·rename_i x
  split at hd
  ·rename_i hx
   injection hd with hd
   subst hd
   have hu:u=x:=deep_v (P:=P) (w:=w) (ok:=okm s.m F) hr
   rw [hu]
   have:(fun k=>∃ κ n,Cell.d (.v x) = .own κ n∧F κ k)=fun _=>False:=by
    funext k
    simp
   rw [this]
   exact .v x hx
  ·cases hd
 ·rename_i κ n
  split at hd
  ·rename_i e css hm
   injection hd with hd
   subst hd
   obtain ⟨_,h2,_⟩:=hr
   have:(fun k=>∃ κ' n',Cell.own κ n = .own κ' n'∧F κ' k)=F κ:=by
    funext k
    simp
   rw [this,h2]
   exact h.mem κ _ hm
  ·cases hd
 ·cases hd
theorem cellsDV_len {m:Nat→Option Cont}:∀ {cs:List Cell} {ds:List DV},cellsDV m cs=some ds→ds.length=cs.length
 | [],ds,h=>by simp only [cellsDV,Option.some.injEq] at h; subst h; rfl
 | c::r,ds,h=>by
  simp only [cellsDV] at h
  split at h
  ·rename_i x xs hx hxs
   injection h with h
   subst h
   simp [cellsDV_len hxs]
  ·cases h
theorem cellsDV_get {m:Nat→Option Cont}:∀ {cs:List Cell} {ds:List DV},cellsDV m cs=some ds→∀ {j:Nat} {d:DV},ds[j]?=some d→∃ c,cs[j]?=some c∧cellDV m c=some d
 | [],ds,h,j,d,hd=>by simp only [cellsDV,Option.some.injEq] at h; subst h; simp at hd
 | c::r,ds,h,j,d,hd=>by
  simp only [cellsDV] at h
  split at h
  ·rename_i x xs hx hxs
   injection h with h
   subst h
   cases j with
   | zero=>
    simp only [List.getElem?_cons_zero,Option.some.injEq] at hd
    subst hd
    exact ⟨c,rfl,hx⟩
   | succ j=>exact cellsDV_get hxs (by simpa using hd)
  ·cases h
theorem own_of_cells (h:RelE P N w0 S s a w ρ F) {e:TypeId} {z n:Nat} {cs:List Cell} {ds:List DV} {us:List Value} {v:Value} (hz:P.cellsOf e=z) (hpos:0 < z) (hd:cellsDV s.m cs=some ds) (hall:All2 (CellRel P w (okm s.m F) s.m ρ) cs us)
  (hn:(ownKeys cs).Nodup) (hl:cs.length=n*z) (hown:w1.ownsRow 0 e z v n us) (hw:∀ κ k,s.m κ≠none→F κ k→w1.heap[k]?=w.heap[k]?) (hvb:∀ κ k,s.m κ≠none→F κ k→v.ownBlock≠some k):
  Own P w1 (fun k=>v.ownBlock=some k∨∃ j,fsOf F cs j k) (.row e (chunkN z n ds)) v:=by
 have hdl:=cellsDV_len hd
 have hlive:∀ {j κ n':Nat} {d:DV},cs[j]?=some (.own κ n')→ds[j]?=some d→s.m κ≠none:=by
  intro j κ n' d hc hdj
  obtain ⟨c,h1,h2⟩:=cellsDV_get hd hdj
  rw [hc] at h1
  injection h1 with h1
  subst h1
  simp only [cellDV] at h2
  split at h2
  ·rename_i e' css' hm
   rw [hm]; simp
  ·cases h2
 have hat:∀ {i j:Nat} {c:List DV} {d:DV},(chunkN z n ds)[i]?=some c→c[j]?=some d→i < n∧j < z∧ds[i*z+j]?=some d:=by
  intro i j c d h1 h2
  have hi:i < n:=by have:=(List.getElem?_eq_some_iff.1 h1).1; rwa [chunkN_len] at this
  rw [chunkN_get z n ds i hi] at h1
  injection h1 with h1
  subst h1
  rw [List.getElem?_take] at h2
  split at h2
  ·rename_i hj
   rw [List.getElem?_drop] at h2
   exact ⟨hi,hj,h2⟩
  ·cases h2
 refine .row _ e _ v us (fun i j k=>j < z∧fsOf F cs (i*z+j) k) (by rw [hz,chunkN_len]; exact hown) (fun c hc=>?_) (fun i j c d u h1 h2 h3=>?_) (fun i j i' j' k h1 h2=>?_) (fun i j k h1=>?_) (fun i j k h1=>?_) (fun k=>?_) (by rw [hz]; exact hpos)
 ·obtain ⟨i,hi,rfl⟩:=List.mem_iff_getElem.1 hc
  have hi':i < n:=by rwa [chunkN_len] at hi
  have:=chunkN_get z n ds i hi'
  rw [List.getElem?_eq_getElem hi] at this
  injection this with this
  rw [this,hz,List.length_take,List.length_drop,hdl,hl]
  have:i*z+z≤n*z:=by rw [← Nat.succ_mul]; exact Nat.mul_le_mul_right _ hi'
  omega
 ·obtain ⟨hi,hj,h4⟩:=hat h1 h2
  rw [hz] at h3
  obtain ⟨c',h5,h6⟩:=cellsDV_get hd h4
  have h7:=cellDV_own h h6 (hall.get h5 h3)
  have:(fun k=>∃ κ n,c' = .own κ n∧F κ k)=fun k=>j < z∧fsOf F cs (i*z+j) k:=by
   funext k
   refine propext ⟨?_,?_⟩
   ·rintro ⟨κ,n',rfl,h8⟩
    exact ⟨hj,κ,n',h5,h8⟩
   ·rintro ⟨_,κ,n',h8,h9⟩
    rw [h5] at h8
    injection h8 with h8
    exact ⟨κ,n',h8,h9⟩
  rw [← this]
  refine h7.move (fun k hk=>?_)
  obtain ⟨κ,n',rfl,h8⟩:=hk
  exact hw κ k (hlive h5 h4) h8
 ·obtain ⟨hj,κ,n1,h3,h4⟩:=h1
  obtain ⟨hj',κ',n2,h5,h6⟩:=h2
  have hl1:i*z+j < ds.length:=by rw [hdl]; exact (List.getElem?_eq_some_iff.1 h3).1
  have hl2:i'*z+j' < ds.length:=by rw [hdl]; exact (List.getElem?_eq_some_iff.1 h5).1
  have hk:=h.apart κ κ' k (hlive h3 (List.getElem?_eq_getElem hl1)) (hlive h5 (List.getElem?_eq_getElem hl2)) h4 h6
  subst hk
  have heq:=ownKeys_inj hn h3 h5
  have h7:i=i':=by
   have e1:(i*z+j) / z=i:=by rw [Nat.mul_comm,Nat.mul_add_div hpos,Nat.div_eq_of_lt hj,Nat.add_zero]
   have e2:(i'*z+j') / z=i':=by rw [Nat.mul_comm,Nat.mul_add_div hpos,Nat.div_eq_of_lt hj',Nat.add_zero]
   rw [← e1,← e2,heq]
  subst h7
  exact ⟨rfl,by omega⟩
 ·obtain ⟨hj,κ,n1,h3,h4⟩:=h1
  have hl1:i*z+j < ds.length:=by rw [hdl]; exact (List.getElem?_eq_some_iff.1 h3).1
  exact hvb κ k (hlive h3 (List.getElem?_eq_getElem hl1)) h4
 ·obtain ⟨hj,κ,n1,h3,h4⟩:=h1
  have hl1:i*z+j < ds.length:=by rw [hdl]; exact (List.getElem?_eq_some_iff.1 h3).1
  have hi:i < n:=by
   rw [hdl,hl] at hl1
   rcases Nat.lt_or_ge i n with h5|h5
   ·exact h5
   ·have:=Nat.mul_le_mul_right z h5
    omega
  refine ⟨_,chunkN_get z n ds i hi,?_⟩
  rw [List.length_take,List.length_drop]
  omega
 ·refine ⟨fun hk=>hk.imp id (fun ⟨j,hj⟩=>⟨j / z,j%z,Nat.mod_lt _ hpos,by rw [Nat.mul_comm,Nat.div_add_mod]; exact hj⟩),fun hk=>hk.imp id (fun ⟨i,j,_,hj⟩=>⟨i*z+j,hj⟩)⟩
def newMD (s:St) (κ:Nat) (D:List Nat) (c:Cont):Nat→Option Cont:=
 upd (fun κ'=>if D.contains κ' then none else (s.m κ').map (Cont.kill (Cell.uses fun x=>x == κ || D.contains x))) κ (some c)
def St.killed (s:St) (κ:Nat) (D:List Nat):Nat→AV:=fun n=>(s.t n).kill (Cell.uses fun x=>x == κ || D.contains x)
theorem fresh_row (h:RelE P N w0 S s a w ρ F) (κ:Nat) (D:List Nat) {e:TypeId} {css:List (List DV)} {v:Value} {Fκ:Nat→Prop} (hfr:Fr (fun _=>False) w w1)
  (hF:∀ k,Fκ k→w.heap.size≤k∨∃ κ',(κ'=κ∨κ'∈D)∧s.m κ'≠none∧F κ' k) (hown:Own P w1 Fκ (.row e css) v) (hbig:100≤κ):
  RelE P N w0 S ⟨s.killed κ D,newMD s κ D (.row e css)⟩ a w1 (upd ρ κ v) (upd F κ Fκ):=by
 have hne:∀ κ',(κ' == κ || D.contains κ')=false→κ'≠κ∧D.contains κ'=false:=fun κ' hk=>by
  simp only [Bool.or_eq_false_iff] at hk
  exact ⟨by simpa using hk.1,hk.2⟩
 refine (h.fresh (m1:=newMD s κ D (.row e css)) (ρ1:=upd ρ κ v) (F1:=upd F κ Fκ) (fun x=>x == κ || D.contains x) hfr (fun κ' hk=>?_) (fun κ' hk=>upd_ne _ _ (hne κ' hk).1) (fun κ' hk=>upd_ne _ _ (hne κ' hk).1) (fun κ' k hk hn hf=>?_) (fun hc κ' c hk hmc=>?_) (fun κ1 κ2 k hk1 hk2 hn1 hn2 _ _=>?_) (fun κ' hk hn=>?_)).1
 ·unfold newMD
  rw [upd_ne _ _ (hne κ' hk).1,(hne κ' hk).2]
  rfl
 ·have h1:κ'=κ:=by
   by_cases h1:κ'=κ
   ·exact h1
   ·unfold newMD at hn
    rw [upd_ne _ _ h1] at hn
    rcases Bool.or_eq_true_iff.1 hk with h2|h2
    ·simpa using h2
    ·rw [if_pos h2] at hn; exact absurd rfl hn
  subst h1
  rw [upd_same] at hf
  rcases hF k hf with h2|⟨κ2,h2,h3,h4⟩
  ·exact .inl h2
  ·refine .inr ⟨κ2,?_,h3,h4⟩
   rcases h2 with rfl|h2
   ·simp
   ·simp [h2]
 ·have h1:κ'=κ:=by
   by_cases h1:κ'=κ
   ·exact h1
   ·unfold newMD at hmc
    rw [upd_ne _ _ h1] at hmc
    rcases Bool.or_eq_true_iff.1 hk with h2|h2
    ·simpa using h2
    ·rw [if_pos h2] at hmc; cases hmc
  subst h1
  unfold newMD at hmc
  rw [upd_same] at hmc
  injection hmc with hmc
  subst hmc
  show Own P w1 (upd F κ' Fκ κ') (.row e css) (upd ρ κ' v κ')
  rw [upd_same,upd_same]
  exact hown
 ·have h1:∀ κ',(κ' == κ || D.contains κ')=true→newMD s κ D (.row e css) κ'≠none→κ'=κ:=fun κ' hk hn=>by
   by_cases h1:κ'=κ
   ·exact h1
   ·unfold newMD at hn
    rw [upd_ne _ _ h1] at hn
    rcases Bool.or_eq_true_iff.1 hk with h2|h2
    ·simpa using h2
    ·rw [if_pos h2] at hn; exact absurd rfl hn
  rw [h1 κ1 hk1 hn1,h1 κ2 hk2 hn2]
 ·have h1:κ'=κ:=by
   by_cases h1:κ'=κ
   ·exact h1
   ·unfold newMD at hn
    rw [upd_ne _ _ h1] at hn
    rcases Bool.or_eq_true_iff.1 hk with h2|h2
    ·simpa using h2
    ·rw [if_pos h2] at hn; exact absurd rfl hn
  rw [h1]; exact hbig
theorem newMD_self (s:St) (κ:Nat) (D:List Nat) (c:Cont):newMD s κ D c κ=some c:=upd_same _ _ _
theorem ownsRow_own {base:Nat} {e:TypeId} {size n:Nat} {v:Value} {xs:List Value} (h:w.ownsRow base e size v n xs):v.oneCell'=true:=by
 rcases h.2 with ⟨rfl,_⟩|⟨g,cap,cur,rfl,_⟩ <;> rfl
theorem rep_flat {zz:List Value} {z:Nat} (hz:0 < z) (hzz:zz.length=z) {n:Nat}:∀ {j:Nat},j < n*z→(List.replicate n zz).flatten[j]?=zz[j%z]?:=by
 induction n with
 | zero=>intro j hj; simp at hj
 | succ n ih=>
  intro j hj
  rw [List.replicate_succ,List.flatten_cons]
  rcases Nat.lt_or_ge j z with h10|h10
  ·rw [List.getElem?_append_left (by omega),Nat.mod_eq_of_lt h10]
  ·rw [List.getElem?_append_right (by omega),hzz,ih (by rw [Nat.succ_mul] at hj; omega),Nat.mod_eq_sub_mod h10]
theorem s_buildSlice {o:Oper} {d:Nat} {t e:TypeId} {n:Nat} {parts:Array (Nat×Operand)} {z b:Nat} {zz:List Value} {g:Bool} {cs:List Cell} {ds:List DV} (ho:o.op = .buildSlice t n parts) (ht:eln P t=some e) (hti:tyi P e=some (z,b,zz,g))
  (hf:fillA (plA z) s.ev parts.toList (cvs (List.replicate n zz).flatten)=some cs) (hds:cellsDV s.m cs=some ds) (hnd:(ownKeys cs).Nodup) (hok:cs.all Cell.okc=true) (hz:0 < z) (hzz:zz.length=z) (hn:n*z≤16777216)
  (κ:Nat) (hbig:100≤κ) (hdst:o.dst=some d) (hd:d < N):SoundOp P N w0 S o s ⟨updO (s.killed κ (ownKeys cs)) o.dst (.c (.own κ n)),newMD s κ (ownKeys cs) (.row e (chunkN z n ds))⟩:=by
 rintro a w ⟨ρ,F,hr⟩
 obtain ⟨i,dd,v,h1,h2,h3,h4,h5,h6,h7⟩:=tyi_some hti
 have hcs:v.cells.size=z:=by rw [← Array.length_toList,h6,hzz]
 have hzero:((Array.range (n*z)).map (v.cells[·%v.cells.size]!)).toList=(List.replicate n zz).flatten:=by
  apply List.ext_getElem?
  intro j
  by_cases hj:j < n*z
  ·have h8:j%z < z:=Nat.mod_lt _ hz
   have h9:=rep_flat (n:=n) hz hzz hj
   rw [h9]
   have h10:v.cells[j%z]! = zz[j%z]'(by omega):=by
    rw [getElem!_pos v.cells (j%z) (by omega)]
    simp only [← h6,Array.getElem_toList]
   simp [hj,hcs,h10]
  ·rw [List.getElem?_eq_none (by simp; omega),List.getElem?_eq_none (by simp [hzz]; omega)]
 obtain ⟨us',h8,h9,h10⟩:=run_fill hr (plA z) (fun i=>some (i*z,z)) (fun i p z' hp=>hp) parts.toList _ cs ((Array.range (n*z)).map (v.cells[·%v.cells.size]!)) hf (by rw [hzero]; exact all2_map_v)
 have hlen:us'.size=n*z:=by rw [h10]; simp
 have hone:=cells_one hok h9
 have hrun:(execOp a.eval o).run P w = .ok (.value (.slice (some ⟨w.heap.size,0,none⟩) n n)) (w.alloc (.cells us' e)):=by
  unfold execOp
  rw [ho]
  have h11:(zeroValue e).run P w = .ok v w:=by simp [zeroValue,typeInfo,h1,h3]
  have h12:(parts.map fun (i,x)=>(i,a.eval x)).toList=parts.toList.map fun (i,x)=>(i,a.eval x):=by simp
  simp only [Instr.buildSlice,Sem.run_bind,run_underlying (eln_some ht),Result.andThen_ok,run_sizeOf_tyi hti]
  rw [if_neg (by omega)]
  by_cases h0:n*z=0
  ·have h14:Instr.fill (fun i=>some (i*z,z)) ((Array.range (n*z)).map ((#[]:Array Value)[·%(#[]:Array Value).size]!)) (parts.toList.map fun (i,x)=>(i,a.eval x))=some us':=by
    rw [← h8]
    congr 1
    simp [h0]
   rw [if_pos h0]
   simp only [Sem.run_bind,Sem.run_pure,Result.andThen_ok,h12,h14,newRow,run_newObj_alloc]
  ·rw [if_neg h0]
   simp only [Sem.run_bind,Sem.run_pure,Result.andThen_ok,h11,h12,h8,newRow,run_newObj_alloc]
 have hrow:(w.alloc (.cells us' e)).ownsRow 0 e z (.slice (some ⟨w.heap.size,0,none⟩) n n) n us'.toList:=
  World.ownsRow_lit w us' n (Nat.zero_le _) (by simp only [maxLen]; have:=Nat.le_mul_of_pos_right n hz; omega) hlen
 have hlive:=fun κ k (hn:s.m κ≠none) (hk:F κ k)=>hr.lt hn hk
 have hown:=own_of_cells (w1:=w.alloc (.cells us' e)) hr (cellsOf_tyi hti) hz hds h9 hnd (by rw [h9.len,Array.length_toList,hlen]) hrow (fun κ k hn hk=>Below.heap_alloc w _ k (hlive κ k hn hk)) (fun κ k hn hk he=>by
  have:=hlive κ k hn hk
  simp [Value.ownBlock] at he
  omega)
 have hrel:=fresh_row (D:=ownKeys cs) hr κ (Fr.alloc w _ _) (fun k hk=>by
  rcases hk with hk|⟨j,κ',n',h11,h12⟩
  ·simp [Value.ownBlock] at hk
   exact .inl (by omega)
  ·by_cases hlt:s.m κ'≠none
   ·exact .inr ⟨κ',.inr (ownKeys_mem h11),hlt,h12⟩
   ·have hj:j < ds.length:=by rw [cellsDV_len hds]; exact (List.getElem?_eq_some_iff.1 h11).1
    obtain ⟨c,h13,h14⟩:=cellsDV_get hds (List.getElem?_eq_getElem hj)
    rw [h11] at h13
    injection h13 with h13
    subst h13
    simp only [cellDV] at h14
    have:s.m κ'=none:=by simpa using hlt
    rw [this] at h14
    cases h14) hown hbig
 unfold Oper.wp
 rw [hrun]
 show Rel P N w0 S _ (a.put o.dst _) _
 rw [hdst]
 exact ⟨_,_,hrel.put hd (.c ⟨⟨e,_,newMD_self _ _ _ _,chunkN_len _ _ _⟩,(upd_same _ _ _).symm,rfl⟩)⟩
def ZD (P:Program) (d:DV) (x:Value):Prop:=d = .v x∨∃ e,d = .row e []∧x = .slice none 0 0∧0 < P.cellsOf e
theorem ZD.own {P:Program} {w:World} {d:DV} {x:Value} (h:ZD P d x) (h1:x.oneCell'=true):Own P w (fun _=>False) d x:=by
 rcases h with rfl|⟨e,rfl,rfl,hpos⟩
 ·exact .v x h1
 ·refine .row _ e [] _ [] (fun _ _ _=>False) ⟨by simp,.inl ⟨rfl,rfl⟩⟩ (fun cs hcs=>(by cases hcs)) (fun i j cs d u hi=>(by simp at hi)) (fun _ _ _ _ _ h=>h.elim) (fun _ _ _ h=>h.elim) (fun _ _ _ h=>h.elim) (fun k=>⟨fun h=>h.elim,fun h=>?_⟩) hpos
  rcases h with h|⟨_,_,h⟩
  ·simp [Value.ownBlock] at h
  ·exact h
theorem zN {P:Program}:All2 (ZD P) [] [] := .nil
theorem zV {P:Program} {x:Value} {ds:List DV} {xs:List Value} (r:All2 (ZD P) ds xs):All2 (ZD P) (.v x::ds) (x::xs) := .cons (.inl rfl) r
theorem zR {P:Program} {e:TypeId} {z b:Nat} {zz:List Value} {g:Bool} {ds:List DV} {xs:List Value} (hti:tyi P e=some (z,b,zz,g)) (r:All2 (ZD P) ds xs) (hz:0 < z:=by decide):All2 (ZD P) (.row e []::ds) (.slice none 0 0::xs) := .cons (.inr ⟨e,rfl,rfl,by rw [cellsOf_tyi hti]; exact hz⟩) r
theorem s_makeSlice {o:Oper} {d:Nat} {t e:TypeId} {l c:Operand} {z b:Nat} {zz:List Value} {g:Bool} {n:Int} {zs:List DV} (ho:o.op = .makeSlice t l c) (ht:eln P t=some e) (hti:tyi P e=some (z,b,zz,g)) (hl:s.ev l = .c (.d (.v (.int .i64 n)))) (hc:s.ev c = .c (.d (.v (.int .i64 n))))
  (hzs:All2 (ZD P) zs zz) (hz:0 < z) (hzz:zz.length=z) (hone:zz.all Value.oneCell'=true) (h0:0≤n) (hb:b*n.toNat≤281474976710656) (hm:n≤9223372036854775807) (κ:Nat) (hbig:100≤κ) (hdst:o.dst=some d) (hd:d < N):
  SoundOp P N w0 S o s ⟨updO (s.killed κ []) o.dst (.c (.own κ n.toNat)),newMD s κ [] (.row e (List.replicate n.toNat (zs)))⟩:=by
 rintro a w ⟨ρ,F,hr⟩
 obtain ⟨i,dd,v,h1,h2,h3,h4,h5,h6,h7⟩:=tyi_some hti
 have hcs:v.cells.size=z:=by rw [← Array.length_toList,h6,hzz]
 have hl1:=hr.ev l
 rw [hl] at hl1
 have hc1:=hr.ev c
 rw [hc] at hc1
 obtain ⟨w1,h8,h9,h10⟩:=run_make_full (P:=P) w 0 t e i v z (eln_some ht) h1 h3 h4 .i64 .i64 n.toNat (by rw [h5]; exact hb) (by simp only [maxLen]; omega) (Nat.zero_le _)
 have hn:((n.toNat:Nat):Int)=n:=by omega
 rw [hn] at h8
 have hflat:∀ j,j < n.toNat*z→(madeCells v.cells (n.toNat*z)).toList[j]?=zz[j%z]?:=by
  intro j hj
  have h11:j%z < z:=Nat.mod_lt _ hz
  have h12:v.cells[j%z]! = zz[j%z]'(by omega):=by
   rw [getElem!_pos v.cells (j%z) (by omega)]
   simp only [← h6,Array.getElem_toList]
  simp [madeCells,hj,hcs,h12]
 have hrep:∀ (i:Nat) (cs:List DV) (j:Nat) (d:DV),(List.replicate n.toNat (zs))[i]?=some cs→cs[j]?=some d→i < n.toNat∧∃ x,zz[j]?=some x∧ZD P d x:=by
  intro i cs j d h11 h12
  rw [List.getElem?_replicate] at h11
  split at h11
  ·rename_i hi
   injection h11 with h11
   subst h11
   obtain ⟨x,hx,hzd⟩:=hzs.getL h12
   exact ⟨hi,x,hx,hzd⟩
  ·cases h11
 have hown:Own P w1 (fun k=>(Value.slice (some ⟨w.heap.size,0,none⟩) n.toNat n.toNat).ownBlock=some k) (.row e (List.replicate n.toNat (zs))) (.slice (some ⟨w.heap.size,0,none⟩) n.toNat n.toNat):=by
  refine .row _ e _ _ (madeCells v.cells (n.toNat*z)).toList (fun _ _ _=>False) (by rw [List.length_replicate,cellsOf_tyi hti]; exact h9) (fun cs hcs=>?_) (fun i j cs d u h11 h12 h13=>?_) (fun _ _ _ _ _ h=>h.elim) (fun _ _ _ h=>h.elim) (fun _ _ _ h=>h.elim) (fun k=>⟨.inl,fun h=>h.elim id (fun ⟨_,_,h⟩=>h.elim)⟩) (by rw [cellsOf_tyi hti]; exact hz)
  ·rw [List.mem_replicate] at hcs
   rw [hcs.2,cellsOf_tyi hti]
   rw [hzs.len,hzz]
  ·obtain ⟨hi,x,hx,hzd⟩:=hrep i cs j d h11 h12
   have hj:j < z:=by rw [← hzz]; exact (List.getElem?_eq_some_iff.1 hx).1
   rw [cellsOf_tyi hti] at h13
   have hlt:i*z+j < n.toNat*z:=by
    have:i*z+z≤n.toNat*z:=by rw [← Nat.succ_mul]; exact Nat.mul_le_mul_right _ hi
    omega
   rw [hflat _ hlt,Nat.mul_comm,Nat.mul_add_mod,Nat.mod_eq_of_lt hj,hx] at h13
   injection h13 with h13
   subst h13
   exact hzd.own (List.all_eq_true.1 hone x (List.mem_of_getElem? hx))
 have hrel:=fresh_row (D:=[]) hr κ (Fr.of_grown h10 |>.mono (fun k hk _=>by cases hk)) (fun k hk=>by
  simp [Value.ownBlock] at hk
  exact .inl (by omega)) hown hbig
 have hrun:(execOp a.eval o).run P w = .ok (.value (.slice (some ⟨w.heap.size,0,none⟩) n.toNat n.toNat)) w1:=by
  unfold execOp
  rw [ho]
  simp [rel_v hl1,rel_v hc1,h8]
 unfold Oper.wp
 rw [hrun]
 show Rel P N w0 S _ (a.put o.dst _) _
 rw [hdst]
 exact ⟨_,_,hrel.put hd (.c ⟨⟨e,_,newMD_self _ _ _ _,List.length_replicate⟩,(upd_same _ _ _).symm,rfl⟩)⟩
end
end Go.Proofs.YticimffljcljoaaGreatM

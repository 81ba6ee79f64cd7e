/- The abstract machine's operations that turn no memory. No condition. -/
import Derived.Test.YticimffljcljoaaGreatAmC
set_option linter.unusedVariables false
set_option linter.unusedSimpArgs false
namespace Go.Proofs.YticimffljcljoaaGreatM
open Go Go.RowKit
def SoundOp (P:Program) (N:Nat) (w0:World) (S:Fx) (o:Oper) (s s':St):Prop:=
 ∀ a w,Rel P N w0 S s a w→o.wp P a w (fun a' w'=>Rel P N w0 S s' a' w') (fun _ _ _=>False)
def faA (o z:Nat):AV→Out
 | .c (.ptr κ off) => .val (z≠0) (.c (.ptr κ (off+o)))
 | .c (.eptr κ i off) => .val (z≠0) (.c (.eptr κ i (off+o)))
 | .c (.d (.ro cells)) => .val (z≠0∧o < cells.length) (.c (.d (.ro (cells.drop o))))
 | _ => .bad
def fieldA (o z:Nat) (g:Bool):AV→Out
 | .agg cs => .val (o+z≤cs.length∧(g=false→z=1)) (mkAV g ((cs.drop o).take z))
 | _ => .bad
def lenA:AV→Out
 | .c (.d (.v (.string b))) => .val True (.c (.d (.v (.int .i64 b.size))))
 | .c (.d (.v (.slice _ n _))) => .val True (.c (.d (.v (.int .i64 n))))
 | .c (.d (.row _ css)) => .val True (.c (.d (.v (.int .i64 css.length))))
 | .c (.own _ n) => .val True (.c (.d (.v (.int .i64 n))))
 | .c (.sub _ _ _ n) => .val True (.c (.d (.v (.int .i64 n))))
 | .c (.cut _ _ n) => .val True (.c (.d (.v (.int .i64 n))))
 | _ => .bad
def ixA (z:List DV) (i:Int):AV→Out
 | .c (.d (.row _ css)) => .val (0≤i∧i < css.length) (.c (.d (.ro (css.getD i.toNat z))))
 | .c (.own κ n) => .val (0≤i∧i < n) (.c (.eptr κ i.toNat 0))
 | _ => .bad
def strIx (i:Int):AV→Out
 | .c (.d (.v (.string b))) => .val (0≤i∧i < b.size) (.c (.d (.v (.int .u8 (bt b i)))))
 | _ => .bad
def zdv (z:List Value):List DV:=z.map .v
def roLoad (z:Nat) (g:Bool) (cells:List DV):Out := .val (z≤cells.length∧(g=false→z=1)) (mkAV g ((cells.take z).map .d))
def extA (j:Nat):AV→Out
 | .tup xs=>match xs[j]? with
  | some x => .val True x.av
  | none => .bad
 | _ => .bad
def minA (mx:Bool) (x y:AV):Out:=
 match x,y with
 | .c (.d (.v (.int k a))),.c (.d (.v (.int k' b))) => .val (k=k') (.c (.d (.v (.int k (if mx then (if a < b then b else a) else (if b < a then b else a))))))
 | _,_ => .bad
def fillA (pl:Nat→Option (Nat×Nat)) (ev:Operand→AV):List (Nat×Operand)→List Cell→Option (List Cell)
 | [],cs=>some cs
 | (i,x)::r,cs=>match pl i,(ev x).cells with
  | some (o,z),some xs=>if xs.length=z∧o+z≤cs.length∧xs.all Cell.okc=true then fillA pl ev r (cs.take o++xs++cs.drop (o+z)) else none
  | _,_=>none
def plS (P:Program) (t i:Nat):Option (Nat×Nat):=
 match fld P t i with
 | some (o,z,_)=>some (o,z)
 | none=>none
def plA (z i:Nat):Option (Nat×Nat):=some (i*z,z)
def cvs (zz:List Value):List Cell:=zz.map fun x => .d (.v x)
def infosOk (P:Program) (t:TypeId):Bool:=
 match P.underlying t with
 | some (.struct fs)=>fs.all fun f=>(P.info? f.type).isSome
 | _=>false
def eqC:List Value→List Value→Bool
 | [],[]=>true
 | [.int _ a],[.int _ b]=>decide (a=b)
 | [.string a],[.string b]=>a.toList == b.toList
 | [.bool a],[.bool b]=>a == b
 | .int _ a::x,.int _ b::y=>decide (a=b) && eqC x y
 | .string a::x,.string b::y=>a.toList == b.toList && eqC x y
 | .bool a::x,.bool b::y=>(a == b) && eqC x y
 | _,_=>false
def EqRun (P:Program) (op:BinOp) (t:TypeId) (xs ys:List Value) (b:Bool):Prop:=
 ∀ (x y:Operand) (w:World),(do eqGuard op t x y (.agg xs.toArray) (.agg ys.toArray); binOp op t (.agg xs.toArray) (.agg ys.toArray):Sem Value).run P w = .ok (.bool b) w
def binA (P:Program) (op:BinOp) (t:TypeId) (x y:AV):Out:=
 match x,y with
 | .c (.d (.v x)),.c (.d (.v y)) => .val ((bin op x y).1∧x.oneCell'=true∧y.oneCell'=true) (.c (.d (.v (bin op x y).2)))
 | .agg xs,.agg ys=>match gvs xs,gvs ys with
  | some xs,some ys=>match op with
   | .eql => .val (EqRun P .eql t xs ys (eqC xs ys)) (.c (.d (.v (.bool (eqC xs ys)))))
   | .neq => .val (EqRun P .neq t xs ys (!(eqC xs ys))) (.c (.d (.v (.bool (!(eqC xs ys))))))
   | _ => .bad
  | _,_ => .bad
 | _,_ => .bad
def cvA (P:Program) (dst:TypeId):AV→Out
 | .c (.d (.v (.int _ n)))=>match P.underlying dst with
  | some (.int k) => .val True (.c (.d (.v (.int k (wr k n)))))
  | _ => .bad
 | _ => .bad
def nilA:AV→Out
 | .c (.ptr κ o) => .val True (.c (.ptr κ o))
 | .c (.eptr κ i o) => .val True (.c (.eptr κ i o))
 | .c (.d (.ro cs)) => .val True (.c (.d (.ro cs)))
 | _ => .bad
def sliceA (lo hi:Option Int):AV→Out
 | .c (.d (.v (.string b)))=>
  let h:=hi.getD b.size
  let l:=lo.getD 0
  .val (0≤l∧l≤h∧h≤b.size) (.c (.d (.v (.string (b.extract l.toNat h.toNat)))))
 | .c (.d (.row e css))=>
  let h:=hi.getD css.length
  let l:=lo.getD 0
  .val (0≤l∧l≤h∧h≤css.length) (.c (.d (.row e ((css.take h.toNat).drop l.toNat))))
 | .c (.own κ n)=>
  let h:=hi.getD n
  let l:=lo.getD 0
  .val (0≤l∧l≤h∧h≤n) (.c (.cut κ l.toNat (h.toNat - l.toNat)))
 | _ => .bad
def optI (s:St):Option Operand→Option (Option Int)
 | none=>some none
 | some x=>match s.ev x with
  | .c (.d (.v (.int _ i)))=>some (some i)
  | _=>none
def capsA (s:St):List Operand→Option (List Nat)
 | []=>some []
 | x::r=>match s.ev x,capsA s r with
  | .c (.ptr κ 0),some ks=>some (κ::ks)
  | _,_=>none
section
variable {P : Program} {w w1 : World} {ok ok1 : Nat → Prop} {m m1 : Nat → Option Cont} {ρ ρ1 : Nat → Value} {F F1 : Nat → Nat → Prop} {N : Nat} {w0 : World} {S : Fx} {s : St} {a : Act} {o : Oper}
theorem Rel.putO {d:Option Tmp} {v:AV} {u:Value} (h:RelE P N w0 S s a w ρ F) (hd:∀ n,d=some n→n < N) (hv:AVRel P w (okm s.m F) s.m ρ v u):Rel P N w0 S ⟨updO s.t d v,s.m⟩ (a.put d u) w:=by
 cases d with
 | none=>exact ⟨ρ,F,h⟩
 | some n=>exact ⟨ρ,F,h.put (hd n rfl) hv⟩
theorem sound_val {v:AV} (hd:∀ n,o.dst=some n→n < N)
  (h:∀ a w ρ F,RelE P N w0 S s a w ρ F→∃ u,(execOp a.eval o).run P w = .ok (.value u) w∧AVRel P w (okm s.m F) s.m ρ v u):SoundOp P N w0 S o s ⟨updO s.t o.dst v,s.m⟩:=by
 rintro a w ⟨ρ,F,hr⟩
 obtain ⟨u,h1,h2⟩:=h a w ρ F hr
 unfold Oper.wp
 rw [h1]
 exact Rel.putO hr hd h2
theorem s_move {x:Operand} (ho:o.op = .move x∨o.op = .assign x) (hd:∀ n,o.dst=some n→n < N):SoundOp P N w0 S o s ⟨updO s.t o.dst (s.ev x),s.m⟩:=
 sound_val hd fun a w ρ F hr=>⟨a.eval x,by rcases ho with ho|ho <;> (unfold execOp; rw [ho]; rfl),hr.ev x⟩
theorem run_sizeOf_tyi {e:TypeId} {z b:Nat} {zz:List Value} {g:Bool} (h:tyi P e=some (z,b,zz,g)) (w:World):(sizeOf e).run P w = .ok z w:=by
 obtain ⟨i,d,v,hi,hd,hv,h1,h2,h3,h4⟩:=tyi_some h
 simp [sizeOf,typeInfo,hi,h1]
theorem run_isAgg_tyi {e:TypeId} {z b:Nat} {zz:List Value} {g:Bool} (h:tyi P e=some (z,b,zz,g)) (w:World):(isAgg e).run P w = .ok g w:=by
 obtain ⟨i,d,v,hi,hd,hv,h1,h2,h3,h4⟩:=tyi_some h
 simp only [isAgg,Sem.run_bind,run_underlying hd,Result.andThen_ok]
 cases d <;> simp_all
theorem cellsOf_tyi {e:TypeId} {z b:Nat} {zz:List Value} {g:Bool} (h:tyi P e=some (z,b,zz,g)):P.cellsOf e=z:=by
 obtain ⟨i,d,v,hi,hd,hv,h1,h2,h3,h4⟩:=tyi_some h
 simp [Program.cellsOf,hi,h1]
theorem run_fieldPlace {fl:Field} {z b:Nat} {zz:List Value} {g:Bool} (h:tyi P fl.type=some (z,b,zz,g)) (hz:z≠0) (ad:Addr) (w:World):(fieldPlace ad fl).run P w = .ok (ad.add fl.offset) w:=by
 simp [fieldPlace,run_sizeOf_tyi h,hz]
theorem run_fieldAt {t f p z:Nat} {g:Bool} (h:fld P t f=some (p,z,g)) (hz:z≠0) (ad:Addr) (w:World):(Instr.fieldAt t (.pointer (some ad)) f).run P w = .ok (.pointer (some (ad.add p))) w:=by
 obtain ⟨fs,fl,b,zz,h1,h2,h3,h4⟩:=fld_some h
 simp [Instr.fieldAt,run_underlying h1,h2,Instr.sureAddr,run_fieldPlace h3 hz,h4]
theorem s_fieldAddr {t f p z:Nat} {g:Bool} {x:Operand} (ho:o.op = .fieldAddr t x f) (hf:fld P t f=some (p,z,g)) (hp:(faA p z (s.ev x)).pre) (hd:∀ n,o.dst=some n→n < N):
  SoundOp P N w0 S o s ⟨updO s.t o.dst (faA p z (s.ev x)).v,s.m⟩:=by
 refine sound_val hd fun a w ρ F hr=>?_
 have hx:=hr.ev x
 have hrun:∀ ad,a.eval x = .pointer (some ad)→z≠0→(execOp a.eval o).run P w = .ok (.value (.pointer (some (ad.add p)))) w:=by
  intro ad he hz
  unfold execOp
  rw [ho]
  simp [he,run_fieldAt hf hz]
 generalize s.ev x=v at hp hx ⊢
 unfold faA at hp ⊢
 split at hp
 ·rename_i κ off
  cases hx with
  | c hx=>
   obtain ⟨ty,cs,g',h1,h2,h3⟩:=hx
   refine ⟨_,hrun _ h3 hp,.c ⟨ty,cs,g',h1,h2,?_⟩⟩
   rw [add_at]
 ·rename_i κ i off
  cases hx with
  | c hx=>
   obtain ⟨e,css,g',n',c',h1,h2,h3,h4⟩:=hx
   refine ⟨_,hrun _ h4 hp,.c ⟨e,css,g',n',c',h1,h2,h3,?_⟩⟩
   rw [add_at,Nat.add_assoc]
 ·rename_i cells
  cases hx with
  | c hx=>
   generalize hu:a.eval x=u at hx
   generalize hdv:DV.ro cells=dv at hx
   cases hx with
   | ro cells' ad vals hne hok hcell hdd=>
    injection hdv with hdv
    subst hdv
    refine ⟨_,hrun _ hu hp.1,.c (Deep.ro _ _ (fun j=>vals (p+j)) ?_ (by rw [add_block]; exact hok) ?_ ?_)⟩
    ·intro h0
     have:=hp.2
     rw [List.drop_eq_nil_iff] at h0
     omega
    ·intro j d hj
     rw [add_add]
     exact hcell _ d (by simpa using hj)
    ·intro j d hj
     exact hdd _ d (by simpa using hj)
   | _=>cases hdv
 ·exact hp.elim
theorem deep_row {e:TypeId} {css:List (List DV)} {u:Value} (h:Deep P w ok (.row e css) u):∃ A c,u = .slice A css.length c∧css.length≤c∧(css≠[]→∃ ad,A=some ad∧ok ad.block∧0 < P.cellsOf e∧(∀ cs,cs∈css→cs.length=P.cellsOf e)∧
  ∃ vals:Nat→Nat→Value,(∀ i cs j d,css[i]?=some cs→cs[j]?=some d→w.cell? (ad.add (i*P.cellsOf e+j))=some (vals i j))∧(∀ i cs j d,css[i]?=some cs→cs[j]?=some d→Deep P w ok d (vals i j))):=by
 generalize hd:DV.row e css=d at h
 cases h with
 | row0 e' A c h0=>
  injection hd with h1 h2
  subst h1 h2
  exact ⟨A,c,rfl,Nat.zero_le _,fun h=>absurd rfl h⟩
 | row e' css' ad n c sz vals hn hc hsz hpos hne hok hlen hcell hdd=>
  injection hd with h1 h2
  subst h1 h2 hn hsz
  exact ⟨some ad,c,rfl,hc,fun _=>⟨ad,rfl,hok,hpos,hlen,vals,hcell,hdd⟩⟩
 | _=>cases hd
theorem deep_nilc {e:TypeId} {css:List (List DV)} {A:Option Addr} {n c:Nat} (h:Deep P w ok (.row e css) (.slice A n c)):A=none→c=0:=by
 generalize hd:DV.row e css=d at h
 generalize hu:Value.slice A n c=u at h
 cases h with
 | row0 e' A c h0=>injection hu with h1 h2 h3; subst h1 h3; exact h0
 | row e' css' ad n c sz vals hn hc hsz hpos hne hok hlen hcell hdd=>injection hu with h1 h2 h3; subst h1; intro h; cases h
 | _=>cases hd
theorem rel_row {e:TypeId} {css:List (List DV)} {u:Value} (h:AVRel P w ok m ρ (.c (.d (.row e css))) u):Deep P w ok (.row e css) u:=by
 cases h with
 | c h=>exact h
theorem deep_ro {cells:List DV} {u:Value} (h:Deep P w ok (.ro cells) u):∃ (ad:Addr) (vals:Nat→Value),u = .pointer (some ad)∧cells≠[]∧ok ad.block∧(∀ (j:Nat) d,cells[j]?=some d→w.cell? (ad.add j)=some (vals j))∧(∀ (j:Nat) d,cells[j]?=some d→Deep P w ok d (vals j)):=by
 generalize hd:DV.ro cells=d at h
 cases h with
 | ro cells' ad vals hne hok hcell hdd=>
  injection hd with h1
  subst h1
  exact ⟨ad,vals,rfl,hne,hok,hcell,hdd⟩
 | _=>cases hd
theorem rel_own {κ n:Nat} {u:Value} (h:AVRel P w ok m ρ (.c (.own κ n)) u):(∃ e css,m κ=some (.row e css)∧css.length=n)∧u=ρ κ∧u.oneCell'=true:=by
 cases h with
 | c h=>exact h
theorem s_len {x:Operand} {ty:TypeId} (ho:o.op = .call { callee := .builtin .len,args:=#[x],argTypes:=#[ty] }) (hty:∃ d,P.underlying ty=some d∧(d = .string∨∃ e,d = .slice e)) (hsl:(∀ b,s.ev x ≠ .c (.d (.v (.string b))))→∃ e,P.underlying ty=some (.slice e))
  (hstr:∀ b,s.ev x = .c (.d (.v (.string b)))→P.underlying ty=some .string) (hp:(lenA (s.ev x)).pre) (hd:∀ n,o.dst=some n→n < N):
  SoundOp P N w0 S o s ⟨updO s.t o.dst (lenA (s.ev x)).v,s.m⟩:=by
 refine sound_val hd fun a w ρ F hr=>?_
 have hx:=hr.ev x
 have hrs:∀ e A n c,P.underlying ty=some (.slice e)→a.eval x = .slice A n c→(execOp a.eval o).run P w = .ok (.value (.int .i64 n)) w:=by
  intro e A n c ht he
  unfold execOp
  rw [ho]
  simp [resolve,invoke,builtin,Builtin.len_,he,run_underlying ht,goInt]
 have hrb:∀ b,P.underlying ty=some .string→a.eval x = .string b→(execOp a.eval o).run P w = .ok (.value (.int .i64 b.size)) w:=by
  intro b ht he
  unfold execOp
  rw [ho]
  simp [resolve,invoke,builtin,Builtin.len_,he,run_underlying ht,goInt]
 generalize s.ev x=v at hp hx hsl hstr ⊢
 unfold lenA at hp ⊢
 split at hp
 ·rename_i b
  exact ⟨_,hrb b (hstr b rfl) (rel_v hx),.c (Deep.v _)⟩
 ·rename_i A n c
  obtain ⟨e,ht⟩:=hsl (by simp)
  exact ⟨_,hrs e A n c ht (rel_v hx),.c (Deep.v _)⟩
 ·rename_i e' css
  obtain ⟨e,ht⟩:=hsl (by simp)
  obtain ⟨A,c,h1,h2,_⟩:=deep_row (rel_row hx)
  exact ⟨_,hrs e A _ c ht h1,.c (Deep.v _)⟩
 ·rename_i κ n
  obtain ⟨e,ht⟩:=hsl (by simp)
  obtain ⟨⟨e',css,h1,h2⟩,h3,h4⟩:=rel_own hx
  have hmem:=hr.mem κ _ h1
  obtain ⟨fl,Fs,how,_⟩:=Own.row_inv hmem
  obtain ⟨A,c,h5⟩:∃ A c,ρ κ = .slice A css.length c:=by
   rcases how.2 with ⟨h5,h6⟩|⟨g,cap,cur,h5,_⟩
   ·exact ⟨none,0,by rw [h5,h6]⟩
   ·exact ⟨_,_,h5⟩
  refine ⟨_,hrs e A _ c ht (h3.trans h5),?_⟩
  rw [← h2]
  exact .c (Deep.v _)
 ·rename_i κ i j n
  obtain ⟨e,ht⟩:=hsl (by simp)
  cases hx with
  | c hx=>
   obtain ⟨e1,css,cs,e',css',g,n',c',h1,h2,h3,h4,h5,h6,h7⟩:=hx
   have hmem:=hr.mem κ _ h1
   obtain ⟨fl,Fs,how,hlen,hcc,_⟩:=Own.row_inv hmem
   obtain ⟨h8,_⟩:=flat_at how.1 hlen h2 h3
   have h9:=hcc i j cs _ _ h2 h3 (List.getElem?_eq_getElem h8)
   have h10:w.cell? ⟨g,i*P.cellsOf e1+j,none⟩=some fl[i*P.cellsOf e1+j]:=by
    have:=how.cells (g:=g) (by rw [h5]; rfl) _ _ (List.getElem?_eq_getElem h8)
    rwa [add_at,Nat.zero_add] at this
   obtain ⟨fl2,Fs2,how2,_⟩:=Own.row_inv h9
   have h11:a.eval x=fl[i*P.cellsOf e1+j]:=Option.some.inj (h6.symm.trans h10)
   obtain ⟨A,c,h12⟩:∃ A c,fl[i*P.cellsOf e1+j] = .slice A css'.length c:=by
    rcases how2.2 with ⟨h5,h6⟩|⟨g,cap,cur,h5,_⟩
    ·exact ⟨none,0,by rw [h5,h6]⟩
    ·exact ⟨_,_,h5⟩
   refine ⟨_,hrs e A _ c ht (h11.trans h12),?_⟩
   rw [← h4]
   exact .c (Deep.v _)
 ·rename_i κ lo n
  obtain ⟨e,ht⟩:=hsl (by simp)
  cases hx with
  | c hx=>
   obtain ⟨e1,css,A,c,h1,h2,h3,h4,h5⟩:=hx
   exact ⟨_,hrs e A _ c ht h3,.c (Deep.v _)⟩
 ·exact hp.elim
theorem s_indexStr {x i:Operand} {ty:TypeId} {k:IntKind} {iv:Int} (ho:o.op = .index ty x i) (hty:P.underlying ty=some .string) (hi:s.ev i = .c (.d (.v (.int k iv)))) (hp:(strIx iv (s.ev x)).pre) (hd:∀ n,o.dst=some n→n < N):
  SoundOp P N w0 S o s ⟨updO s.t o.dst (strIx iv (s.ev x)).v,s.m⟩:=by
 refine sound_val hd fun a w ρ F hr=>?_
 have hx:=hr.ev x
 have hix:=hr.ev i
 rw [hi] at hix
 generalize s.ev x=v at hp hx ⊢
 unfold strIx at hp ⊢
 split at hp
 ·rename_i b
  refine ⟨_,?_,.c (Deep.v _)⟩
  have h9:0≤iv∧iv < (b.size:Int):=hp
  have h1:iv.toNat < b.size:=by omega
  have h2:b[iv.toNat]?=some b[iv.toNat]:=getElem?_pos b iv.toNat h1
  unfold execOp
  rw [ho]
  simp only [rel_v hx,rel_v hix]
  simp [Instr.index,asIntOf,run_underlying hty,h9.1,h2,bt,h1]
 ·exact hp.elim
theorem s_indexAddr {x i:Operand} {ty e:TypeId} {k:IntKind} {iv:Int} {sz b:Nat} {z:List Value} {g:Bool} (ho:o.op = .indexAddr ty x i) (hty:P.underlying ty=some (.slice e)) (hti:tyi P e=some (sz,b,z,g)) (hi:s.ev i = .c (.d (.v (.int k iv))))
  (hse:∀ e' css,s.ev x = .c (.d (.row e' css))→P.cellsOf e'=sz) (hso:∀ κ n e' css,s.ev x = .c (.own κ n)→s.m κ=some (.row e' css)→P.cellsOf e'=sz)
  (hp:(ixA (zdv z) iv (s.ev x)).pre) (hd:∀ n,o.dst=some n→n < N):
  SoundOp P N w0 S o s ⟨updO s.t o.dst (ixA (zdv z) iv (s.ev x)).v,s.m⟩:=by
 refine sound_val hd fun a w ρ F hr=>?_
 have hx:=hr.ev x
 have hix:=hr.ev i
 rw [hi] at hix
 have hrun:∀ ad n c,a.eval x = .slice (some ad) n c→0≤iv∧iv < n→(execOp a.eval o).run P w = .ok (.value (.pointer (some (ad.add (iv.toNat*sz))))) w:=by
  intro ad n c he hb
  unfold execOp
  rw [ho]
  simp only [he,rel_v hix]
  simp [Instr.indexAt,asIntOf,run_underlying hty,hb.1,hb.2,run_sizeOf_tyi hti]
 generalize s.ev x=v at hp hx hse hso ⊢
 unfold ixA at hp ⊢
 split at hp
 ·rename_i e' css
  obtain ⟨A,c,h1,h2,h3⟩:=deep_row (rel_row hx)
  have hil:iv.toNat < css.length:=by have:=hp.1; have:=hp.2; omega
  obtain ⟨ad,h4,h5,h6,h7,vals,h8,h9⟩:=h3 (by rintro rfl; simp at hil)
  subst h4
  rw [hse e' css rfl] at h6 h7 h8
  refine ⟨_,hrun ad _ c h1 hp,.c ?_⟩
  have hg:css.getD iv.toNat (zdv z)=css[iv.toNat]:=by rw [List.getD_eq_getElem?_getD,List.getElem?_eq_getElem hil]; rfl
  have hl:=h7 _ (List.getElem_mem hil)
  refine Deep.ro _ _ (fun j=>vals iv.toNat j) ?_ (by rw [add_block]; exact h5) (fun j d hj=>?_) (fun j d hj=>?_)
  ·rw [hg]
   intro h0
   rw [h0] at hl
   simp at hl
   omega
  ·rw [hg] at hj
   rw [add_add]
   exact h8 _ _ j d (List.getElem?_eq_getElem hil) hj
  ·rw [hg] at hj
   exact h9 _ _ j d (List.getElem?_eq_getElem hil) hj
 ·rename_i κ n
  obtain ⟨⟨e',css,h1,h2⟩,h3,h4⟩:=rel_own hx
  have hmem:=hr.mem κ _ h1
  obtain ⟨fl,Fs,how,_⟩:=Own.row_inv hmem
  have h9:0≤iv∧iv < (n:Int):=hp
  have hil:iv.toNat < css.length:=by omega
  rcases how.2 with ⟨_,h0⟩|⟨g,cap,cur,h5,_⟩
  ·rw [h0] at hil
   exact absurd hil (Nat.not_lt_zero _)
  ·refine ⟨_,hrun ⟨g,0,none⟩ css.length cap (h3.trans h5) ⟨hp.1,by rw [h2]; exact hp.2⟩,.c ⟨e',css,g,_,_,h1,hil,h5,?_⟩⟩
   rw [add_at,Nat.zero_add,hso κ n e' css rfl h1]
   rfl
 ·exact hp.elim
theorem s_extract {x:Operand} {j:Nat} (ho:o.op = .extract x j) (hp:(extA j (s.ev x)).pre) (hd:∀ n,o.dst=some n→n < N):SoundOp P N w0 S o s ⟨updO s.t o.dst (extA j (s.ev x)).v,s.m⟩:=by
 refine sound_val hd fun a w ρ F hr=>?_
 have hx:=hr.ev x
 generalize s.ev x=v at hp hx ⊢
 unfold extA at hp ⊢
 split at hp
 ·rename_i xs
  generalize hu:a.eval x=u at hx
  cases hx with
  | tup h=>
   rename_i us
   split at hp
   ·rename_i el hel
    obtain ⟨y,hy,hry⟩:=h.getL hel
    refine ⟨y,?_,?_⟩
    ·unfold execOp
     rw [ho]
     simp [hu,Instr.extract,hy]
    ·simp only [hel,Out.val]
     cases hry with
     | c h=>exact .c h
     | agg h=>exact .agg h
   ·exact hp.elim
 ·exact hp.elim
theorem s_un {op:UnOp} {t:TypeId} {x:Operand} {v:Value} (ho:o.op = .unOp op t x) (hx:s.ev x = .c (.d (.v v))) (hp:(una op v).1) (hd:∀ n,o.dst=some n→n < N):SoundOp P N w0 S o s ⟨updO s.t o.dst (.c (.d (.v (una op v).2))),s.m⟩:=by
 refine sound_val hd fun a w ρ F hr=>⟨_,?_,.c (Deep.v _)⟩
 have h1:=hr.ev x
 rw [hx] at h1
 unfold execOp
 rw [ho]
 simp [rel_v h1,una_run hp]
theorem s_pick {c x y:Operand} {b:Bool} (ho:o.op = .pick c x y) (hc:s.ev c = .c (.d (.v (.bool b)))) (hd:∀ n,o.dst=some n→n < N):SoundOp P N w0 S o s ⟨updO s.t o.dst (if b=true then s.ev x else s.ev y),s.m⟩:=by
 refine sound_val hd fun a w ρ F hr=>⟨if b=true then a.eval x else a.eval y,?_,?_⟩
 ·have h1:=hr.ev c
  rw [hc] at h1
  unfold execOp
  rw [ho]
  simp [rel_v h1,asBool]
 ·split
  ·exact hr.ev x
  ·exact hr.ev y
theorem s_conv {src dst:TypeId} {x:Operand} (ho:o.op = .convert src dst x) (hs:∃ d,P.underlying src=some d) (hp:(cvA P dst (s.ev x)).pre) (hd:∀ n,o.dst=some n→n < N):SoundOp P N w0 S o s ⟨updO s.t o.dst (cvA P dst (s.ev x)).v,s.m⟩:=by
 refine sound_val hd fun a w ρ F hr=>?_
 have hx:=hr.ev x
 obtain ⟨ds,hs⟩:=hs
 generalize s.ev x=v at hp hx ⊢
 unfold cvA at hp
 split at hp
 ·rename_i k n
  split at hp
  ·rename_i k' hk
   rw [show cvA P dst (.c (.d (.v (.int k n)))) = .val True (.c (.d (.v (.int k' (wr k' n))))) from by simp [cvA,hk]]
   refine ⟨_,?_,.c (Deep.v _)⟩
   unfold execOp
   rw [ho]
   simp [rel_v hx,convert,run_underlying hs,run_underlying hk,Conv.intToInt,wr_eq]
  ·exact hp.elim
 ·exact hp.elim
theorem s_nil {x:Operand} (ho:o.op = .nilCheck x) (hp:(nilA (s.ev x)).pre) (hd:∀ n,o.dst=some n→n < N):SoundOp P N w0 S o s ⟨updO s.t o.dst (nilA (s.ev x)).v,s.m⟩:=by
 refine sound_val hd fun a w ρ F hr=>?_
 have hx:=hr.ev x
 have hrun:∀ ad,a.eval x = .pointer (some ad)→(execOp a.eval o).run P w = .ok (.value (.pointer (some ad))) w:=by
  intro ad he
  unfold execOp
  rw [ho]
  simp [he]
 generalize s.ev x=v at hp hx ⊢
 unfold nilA at hp ⊢
 split at hp
 ·cases hx with
  | c hx=>
   obtain ⟨ty,cs,g,h1,h2,h3⟩:=hx
   exact ⟨_,hrun _ h3,.c ⟨ty,cs,g,h1,h2,rfl⟩⟩
 ·cases hx with
  | c hx=>
   obtain ⟨e,css,g,n',c',h1,h2,h3,h4⟩:=hx
   exact ⟨_,hrun _ h4,.c ⟨e,css,g,n',c',h1,h2,h3,rfl⟩⟩
 ·cases hx with
  | c hx=>
   obtain ⟨ad,vals,h1,h2,h3,h4,h5⟩:=deep_ro hx
   exact ⟨_,hrun _ h1,.c (Deep.ro _ _ vals h2 h3 h4 h5)⟩
 ·exact hp.elim
theorem s_min {x y:Operand} {tys:Array TypeId} {mx:Bool} (ho:o.op = .call { callee := .builtin (if mx then .max else .min),args:=#[x,y],argTypes:=tys }) (hp:(minA mx (s.ev x) (s.ev y)).pre) (hd:∀ n,o.dst=some n→n < N):SoundOp P N w0 S o s ⟨updO s.t o.dst (minA mx (s.ev x) (s.ev y)).v,s.m⟩:=by
 refine sound_val hd fun a w ρ F hr=>?_
 have hx:=hr.ev x
 have hy:=hr.ev y
 generalize s.ev x=v at hp hx ⊢
 generalize s.ev y=v' at hp hy ⊢
 unfold minA at hp ⊢
 split at hp
 ·rename_i k p k' q
  refine ⟨_,?_,.c (Deep.v _)⟩
  unfold execOp
  rw [ho]
  cases mx <;> simp [rel_v hx,rel_v hy,resolve,invoke,builtin,Builtin.min_,Builtin.max_,Builtin.min2,Builtin.max2]
 ·exact hp.elim
theorem s_bin {op:BinOp} {t t':TypeId} {x y:Operand} (ho:o.op = .binOp op t x y t') (hp:(binA P op t (s.ev x) (s.ev y)).pre) (hd:∀ n,o.dst=some n→n < N):SoundOp P N w0 S o s ⟨updO s.t o.dst (binA P op t (s.ev x) (s.ev y)).v,s.m⟩:=by
 refine sound_val hd fun a w ρ F hr=>?_
 have hx:=hr.ev x
 have hy:=hr.ev y
 generalize s.ev x=v at hp hx ⊢
 generalize s.ev y=v' at hp hy ⊢
 unfold binA at hp ⊢
 split at hp
 ·rename_i p q
  refine ⟨_,?_,.c (Deep.v _)⟩
  unfold execOp
  rw [ho]
  simp only [rel_v hx,rel_v hy]
  have hg:(eqGuard op t x y p q).run P w = .ok () w:=by
   have h1:∀ cs,p ≠ .agg cs:=fun cs h=>by rw [h] at hp; cases hp.2.1
   unfold eqGuard
   cases op <;> first|rfl|(cases p <;> first|(exact absurd rfl (h1 _))|rfl|(cases q <;> first|rfl|exact hp.1.elim))
  simp [hg,bin_run hp.1]
 ·rename_i xs ys
  obtain ⟨us,h1,h2⟩:=rel_agg hx
  obtain ⟨vs,h3,h4⟩:=rel_agg hy
  split at hp
  ·rename_i xv yv hxv hyv
   rw [gvs_rel hxv h2] at h1
   rw [gvs_rel hyv h4] at h3
   split at hp
   ·refine ⟨_,?_,.c (Deep.v _)⟩
    unfold execOp
    rw [ho]
    have:=hp x y w
    simp only [Sem.run_bind,h1,h3] at this ⊢
    rw [this]
    rfl
   ·refine ⟨_,?_,.c (Deep.v _)⟩
    unfold execOp
    rw [ho]
    have:=hp x y w
    simp only [Sem.run_bind,h1,h3] at this ⊢
    rw [this]
    rfl
   ·exact hp.elim
  ·exact hp.elim
 ·exact hp.elim
theorem mkAV_rel {g:Bool} {z:Nat} {cs:List Cell} {us:List Value} (h:All2 (CellRel P w ok m ρ) cs us) (hg:g=false→cs.length=1):∃ u,AVRel P w ok m ρ (mkAV g cs) u∧(g=true→u = .agg us.toArray)∧(g=false→us=[u]):=by
 cases g with
 | true=>exact ⟨_,.agg h,fun _=>rfl,fun h=>by cases h⟩
 | false=>
  have:=hg rfl
  match cs,us,h with
  | [c],[u],.cons h1 _=>exact ⟨u,.c h1,fun h=>(by cases h),fun _=>rfl⟩
  | [],us,h=>simp at this
  | _::_::_,us,h=>simp at this
theorem run_part {e:TypeId} {z b:Nat} {zz:List Value} {g:Bool} (h:tyi P e=some (z,b,zz,g)) (us:List Value) (o:Nat) (hb:o+z≤us.length) (hg:g=false→z=1) {u:Value} (h1:g=true→u = .agg ((us.drop o).take z).toArray) (h2:g=false→(us.drop o).take z=[u]) (w:World):
  (part e us.toArray o).run P w = .ok u w:=by
 cases g with
 | true=>
  simp only [part,Sem.run_bind,run_isAgg_tyi h,Result.andThen_ok,if_true,run_sizeOf_tyi h]
  rw [h1 rfl]
  simp only [Sem.run_pure]
  congr 2
  apply Array.ext'
  simp [List.take_drop]
 | false=>
  have hz:=hg rfl
  subst hz
  have h3:=h2 rfl
  have h4:us[o]?=some u:=by
   have:=congrArg (·[0]?) h3
   simpa using this
  simp [part,run_isAgg_tyi h,h4]
theorem s_field {t f p z:Nat} {g:Bool} {x:Operand} (ho:o.op = .field t x f) (hf:fld P t f=some (p,z,g)) (hp:(fieldA p z g (s.ev x)).pre) (hd:∀ n,o.dst=some n→n < N):
  SoundOp P N w0 S o s ⟨updO s.t o.dst (fieldA p z g (s.ev x)).v,s.m⟩:=by
 refine sound_val hd fun a w ρ F hr=>?_
 have hx:=hr.ev x
 generalize s.ev x=v at hp hx ⊢
 unfold fieldA at hp
 split at hp
 ·rename_i cs
  obtain ⟨us,h1,h2⟩:=rel_agg hx
  obtain ⟨fs,fl,b,zz,h3,h4,h5,h6⟩:=fld_some hf
  have h7:p+z≤cs.length∧(g=false→z=1):=hp
  have h8:=(h2.drop p).take z
  have h9:((cs.drop p).take z).length=z:=by rw [List.length_take,List.length_drop]; omega
  obtain ⟨u,h10,h11,h12⟩:=mkAV_rel (z:=z) h8 (g:=g) (fun hg=>by rw [h9,h7.2 hg])
  refine ⟨u,?_,h10⟩
  unfold execOp
  rw [ho]
  have:=run_part h5 us p (by rw [← h2.len]; exact h7.1) h7.2 h11 h12 w
  simp [h1,Instr.field,run_underlying h3,h4,asAgg,h6,this]
 ·exact hp.elim
theorem run_loadVar {e:TypeId} {z b:Nat} {zz:List Value} {g:Bool} (h:tyi P e=some (z,b,zz,g)) (us:List Value) (hl:us.length=z) (hg:g=false→z=1) {u:Value} (h1:g=true→u = .agg us.toArray) (h2:g=false→us=[u]) {ad:Addr} (hc:∀ (j:Nat) x,us[j]?=some x→w.cell? (ad.add j)=some x):
  (loadVar e ad).run P w = .ok u w:=by
 cases g with
 | true=>
  have:=run_loadCells_list (P:=P) w ad us hc
  rw [hl] at this
  simp [loadVar,run_isAgg_tyi h,run_sizeOf_tyi h,this,h1 rfl]
 | false=>
  have:=hc 0 u (by rw [h2 rfl]; rfl)
  rw [show ad.add 0=ad from by simp [Addr.add]] at this
  simp [loadVar,run_isAgg_tyi h,load,Sem.run,this]
theorem s_loadRo {e:TypeId} {x:Operand} {z b:Nat} {zz:List Value} {g:Bool} {cells:List DV} (ho:o.op = .load e x) (hti:tyi P e=some (z,b,zz,g)) (hx:s.ev x = .c (.d (.ro cells))) (hp:(roLoad z g cells).pre) (hd:∀ n,o.dst=some n→n < N):
  SoundOp P N w0 S o s ⟨updO s.t o.dst (roLoad z g cells).v,s.m⟩:=by
 refine sound_val hd fun a w ρ F hr=>?_
 have h1:=hr.ev x
 rw [hx] at h1
 cases h1 with
 | c h1=>
  obtain ⟨ad,vals,h2,h3,h4,h5,h6⟩:=deep_ro h1
  have hp':z≤cells.length∧(g=false→z=1):=hp
  have hall:All2 (CellRel P w (okm s.m F) s.m ρ) ((cells.take z).map .d) ((List.range z).map vals):=by
   refine All2.of_get (by simp; omega) fun i c u hc hu=>?_
   rw [List.getElem?_map] at hc hu
   obtain ⟨d,hd1,rfl⟩:=Option.map_eq_some_iff.1 hc
   obtain ⟨j,hj,rfl⟩:=Option.map_eq_some_iff.1 hu
   obtain ⟨hi1,hi2⟩:=List.getElem?_eq_some_iff.1 hj
   rw [List.getElem_range] at hi2
   subst hi2
   rw [List.getElem?_take] at hd1
   split at hd1
   ·exact h6 _ d hd1
   ·cases hd1
  have hlen:((cells.take z).map Cell.d).length=z:=by simp; omega
  obtain ⟨u,h7,h8,h9⟩:=mkAV_rel (z:=z) hall (g:=g) (fun hg=>by rw [hlen,hp'.2 hg])
  refine ⟨u,?_,h7⟩
  have:=run_loadVar (w:=w) (ad:=ad) hti ((List.range z).map vals) (by simp) hp'.2 h8 h9 (fun j y hj=>by
   rw [List.getElem?_map] at hj
   obtain ⟨i,hi,rfl⟩:=Option.map_eq_some_iff.1 hj
   obtain ⟨hi1,hi2⟩:=List.getElem?_eq_some_iff.1 hi
   rw [List.getElem_range] at hi2
   subst hi2
   rw [List.length_range] at hi1
   exact h5 j cells[j] (List.getElem?_eq_getElem (by omega)))
  unfold execOp
  rw [ho]
  simp [h2,Instr.loadAt,Instr.sureAddr,this]
theorem run_bound {x:Value} {k:IntKind} {i:Int} (hx:x = .int k i) {y:Nat} {code:BoundsCode} (h:0≤i∧i≤y) (w:World):(Instr.sliceBound x y code).run P w = .ok i.toNat w:=by
 subst hx
 simp [Instr.sliceBound,asIntOf,h.1,h.2]
def LoHi (a:Act) (x:Option Operand) (i:Option Int):Prop:=
 match x,i with
 | none,none=>True
 | some x,some i=>∃ k,a.eval x = .int k i
 | _,_=>False
theorem optI_rel {x:Option Operand} {i:Option Int} (hr:RelE P N w0 S s a w ρ F) (h:optI s x=some i):LoHi a x i:=by
 cases x with
 | none=>simp only [optI,Option.some.injEq] at h; subst h; exact True.intro
 | some x=>
  simp only [optI] at h
  split at h
  ·rename_i k j hj
   injection h with h
   subst h
   have:=hr.ev x
   rw [hj] at this
   exact ⟨k,rel_v this⟩
  ·cases h
theorem run_sliceBounds {isSlice:Bool} {len cap:Nat} {lo hi:Option Operand} {l h:Option Int} (hlo:LoHi a lo l) (hhi:LoHi a hi h) (hb:0≤l.getD 0∧l.getD 0≤h.getD len∧h.getD len≤len) (hc:len≤cap) (w:World):
  (Instr.sliceBounds isSlice len cap (lo.map a.eval) (hi.map a.eval) none).run P w = .ok ((l.getD 0).toNat,(h.getD len).toNat,cap) w:=by
 cases hi with
 | none=>
  cases h with
  | some _=>exact hhi.elim
  | none=>
   cases lo with
   | none=>
    cases l with
    | some _=>exact hlo.elim
    | none=>simp [Instr.sliceBounds]
   | some x=>
    cases l with
    | none=>exact hlo.elim
    | some i=>
     obtain ⟨k,hk⟩:=hlo
     have hb':0≤i∧i≤(len:Int):=⟨hb.1,hb.2.1⟩
     simp [Instr.sliceBounds,run_bound hk hb']
 | some y=>
  cases h with
  | none=>exact hhi.elim
  | some j=>
   obtain ⟨k2,hk2⟩:=hhi
   have hj:0≤j∧j≤(cap:Int):=⟨by have:=hb.1; have:=hb.2.1; simp only [Option.getD_some] at this; omega,by have:=hb.2.2; simp only [Option.getD_some] at this; omega⟩
   cases lo with
   | none=>
    cases l with
    | some _=>exact hlo.elim
    | none=>simp [Instr.sliceBounds,run_bound hk2 hj]
   | some x=>
    cases l with
    | none=>exact hlo.elim
    | some i=>
     obtain ⟨k,hk⟩:=hlo
     have h1:i≤j:=hb.2.1
     have h0:0≤i:=hb.1
     have hb':0≤i∧i≤(j.toNat:Int):=⟨h0,by omega⟩
     simp [Instr.sliceBounds,run_bound hk hb',run_bound hk2 hj]
theorem deep_cut {e:TypeId} {css:List (List DV)} {A:Option Addr} {n c l h:Nat} (hd:Deep P w ok (.row e css) (.slice A n c)) (h1:l≤h) (h2:h≤css.length):
  Deep P w ok (.row e ((css.take h).drop l)) (.slice (if c=l then A else A.map (·.add (l*P.cellsOf e))) (h - l) (c - l)):=by
 obtain ⟨A',c',h3,h4,h5⟩:=deep_row hd
 injection h3 with h6 h7 h8
 subst h6 h7 h8
 have hlen:((css.take h).drop l).length=h - l:=by simp; omega
 by_cases hne:(css.take h).drop l=[]
 ·rw [hne] at hlen ⊢
  have:h - l=0:=by simpa using hlen.symm
  rw [this]
  refine .row0 _ _ _ (fun hA=>?_)
  by_cases hcl:c=l
  ·omega
  ·rw [if_neg hcl] at hA
   have:=deep_nilc hd (by cases A with|none=>rfl|some _=>cases hA)
   omega
 ·have hlt:l < h:=by
   have:(css.take h).drop l≠[]:=hne
   rw [Ne,List.drop_eq_nil_iff] at this
   simp at this
   omega
  obtain ⟨ad,rfl,h6,h7,h8,vals,h9,h10⟩:=h5 (by rintro rfl; simp at h2; omega)
  rw [if_neg (by omega)]
  have hget:∀ i cs,((css.take h).drop l)[i]?=some cs→css[l+i]?=some cs:=by
   intro i cs hi
   rw [List.getElem?_drop,List.getElem?_take] at hi
   split at hi
   ·exact hi
   ·cases hi
  refine Deep.row e _ (ad.add (l*P.cellsOf e)) (h - l) (c - l) (P.cellsOf e) (fun i j=>vals (l+i) j) hlen.symm (by omega) rfl h7 hne (by rw [add_block]; exact h6) (fun cs hcs=>?_) (fun i cs j d hi hj=>?_) (fun i cs j d hi hj=>?_)
  ·exact h8 cs (List.mem_of_mem_take (List.mem_of_mem_drop hcs))
  ·rw [add_add,← Nat.add_assoc,← Nat.add_mul]
   exact h9 _ cs j d (hget i cs hi) hj
  ·exact h10 _ cs j d (hget i cs hi) hj
theorem s_slice {ty:TypeId} {x:Operand} {lo hi:Option Operand} {l h:Option Int} (ho:o.op = .slice ty x lo hi none) (hlo:optI s lo=some l) (hhi:optI s hi=some h)
  (hts:(∀ b,s.ev x = .c (.d (.v (.string b)))→P.underlying ty=some .string)∧((∀ b,s.ev x ≠ .c (.d (.v (.string b))))→∃ e sz b zz g,P.underlying ty=some (.slice e)∧tyi P e=some (sz,b,zz,g)∧(∀ e' css,s.ev x = .c (.d (.row e' css))→P.cellsOf e'=sz)∧(∀ κ n e' css,s.ev x = .c (.own κ n)→s.m κ=some (.row e' css)→P.cellsOf e'=sz)))
  (hp:(sliceA l h (s.ev x)).pre) (hd:∀ n,o.dst=some n→n < N):
  SoundOp P N w0 S o s ⟨updO s.t o.dst (sliceA l h (s.ev x)).v,s.m⟩:=by
 refine sound_val hd fun a w ρ F hr=>?_
 have hx:=hr.ev x
 have hL:=optI_rel hr hlo
 have hH:=optI_rel hr hhi
 generalize s.ev x=v at hp hx hts ⊢
 unfold sliceA at hp
 split at hp
 ·rename_i b
  have hty:=hts.1 b rfl
  have hb:0≤l.getD 0∧l.getD 0≤h.getD b.size∧h.getD b.size≤b.size:=hp
  refine ⟨_,?_,.c (Deep.v _)⟩
  unfold execOp
  rw [ho]
  have:=run_sliceBounds (P:=P) (isSlice:=false) (len:=b.size) (cap:=b.size) hL hH hb (Nat.le_refl _) w
  simp [Instr.sliceAt,run_underlying hty,Instr.slice,rel_v hx,this]
 ·rename_i e' css
  obtain ⟨e,sz,b,zz,g,hty,hti,hse,_⟩:=hts.2 (by simp)
  have hb:0≤l.getD 0∧l.getD 0≤h.getD css.length∧h.getD css.length≤css.length:=hp
  obtain ⟨A,c,h1,h2,h3⟩:=deep_row (rel_row hx)
  have hrun:(execOp a.eval o).run P w = .ok (.value (.slice (if c=(l.getD 0).toNat then A else A.map (·.add ((l.getD 0).toNat*sz))) ((h.getD css.length).toNat - (l.getD 0).toNat) (c - (l.getD 0).toNat))) w:=by
   unfold execOp
   rw [ho]
   have:=run_sliceBounds (P:=P) (isSlice:=true) (len:=css.length) (cap:=c) hL hH hb h2 w
   simp [Instr.sliceAt,run_underlying hty,Instr.slice,h1,this,run_sizeOf_tyi hti]
  refine ⟨_,hrun,.c ?_⟩
  rw [← hse e' css rfl]
  exact deep_cut (by have:=rel_row hx; rwa [h1] at this) (by omega) (by omega)
 ·rename_i κ n
  obtain ⟨e,sz,b,zz,g,hty,hti,_,hso⟩:=hts.2 (by simp)
  have hb:0≤l.getD 0∧l.getD 0≤h.getD n∧h.getD n≤n:=hp
  obtain ⟨⟨e',css,h1,h2⟩,h3,h4⟩:=rel_own hx
  have hmem:=hr.mem κ _ h1
  obtain ⟨fl,Fs,how,_⟩:=Own.row_inv hmem
  have hsz:=hso κ n e' css rfl h1
  obtain ⟨A,c,h5,h6,h7,h8⟩:∃ A c,ρ κ = .slice A n c∧n≤c∧(0 < n→∃ g,A=some ⟨g,0,none⟩)∧(A=none→c=0):=by
   rw [← h2]
   rcases how.2 with ⟨h5,h6⟩|⟨g,cap,cur,h5,_,_,h6,_⟩
   ·exact ⟨none,0,by rw [h5,h6],by omega,fun h=>by omega,fun _=>rfl⟩
   ·exact ⟨_,_,h5,h6,fun _=>⟨g,rfl⟩,fun h=>by cases h⟩
  have hrun:(execOp a.eval o).run P w = .ok (.value (.slice (if c=(l.getD 0).toNat then A else A.map (·.add ((l.getD 0).toNat*sz))) ((h.getD n).toNat - (l.getD 0).toNat) (c - (l.getD 0).toNat))) w:=by
   unfold execOp
   rw [ho]
   have:=run_sliceBounds (P:=P) (isSlice:=true) (len:=n) (cap:=c) hL hH hb h6 w
   simp [Instr.sliceAt,run_underlying hty,Instr.slice,h3.trans h5,this,run_sizeOf_tyi hti]
  refine ⟨_,hrun,.c ⟨e',css,_,_,h1,by omega,rfl,by omega,fun hA=>?_,fun hpos=>?_⟩⟩
  ·have hA':A=none:=by
    split at hA
    ·exact hA
    ·cases A with
     | none=>rfl
     | some _=>cases hA
   have:=h8 hA'
   omega
  obtain ⟨g,rfl⟩:=h7 (by omega)
  refine ⟨g,n,c,h5,?_⟩
  rw [if_neg (by omega),Option.map_some,add_at,Nat.zero_add,hsz]
 ·exact hp.elim
theorem caps_rel {s:St} (hr:RelE P N w0 S s a w ρ F):∀ {xs:List Operand} {ks:List Nat},capsA s xs=some ks→xs.map a.eval=ks.map ρ∧∀ κ∈ks,∃ ty cs,s.m κ=some (.box ty cs)
 | [],ks,h=>by
  simp only [capsA,Option.some.injEq] at h
  subst h
  exact ⟨rfl,fun κ hk=>by cases hk⟩
 | x::r,ks,h=>by
  simp only [capsA] at h
  split at h
  ·rename_i κ ks' hx hks
   injection h with h
   subst h
   obtain ⟨h1,h2⟩:=caps_rel hr hks
   have h3:=hr.ev x
   rw [hx] at h3
   cases h3 with
   | c h3=>
    obtain ⟨ty,cs,g,h4,h5,h6⟩:=h3
    refine ⟨by simp [h1,h5,h6],fun κ' hk=>?_⟩
    rcases List.mem_cons.1 hk with rfl|hk
    ·exact ⟨ty,cs,h4⟩
    ·exact h2 κ' hk
  ·cases h
theorem s_makeFunc {f:FuncId} {caps:Array Operand} {ks:List Nat} (ho:o.op = .makeFunc (.func f) #[] caps) (hc:capsA s caps.toList=some ks) (hd:∀ n,o.dst=some n→n < N):SoundOp P N w0 S o s ⟨updO s.t o.dst (.c (.fnc f ks)),s.m⟩:=by
 refine sound_val hd fun a w ρ F hr=>?_
 obtain ⟨h1,h2⟩:=caps_rel hr hc
 refine ⟨_,?_,.c ⟨h2,rfl⟩⟩
 unfold execOp
 rw [ho]
 have:caps.map a.eval=(ks.map ρ).toArray:=by
  apply Array.ext'
  simpa using h1
 simp [Instr.makeFunc,this]
theorem foldl_set (vs:List Value):∀ (off k:Nat) (cells:Array Value),off+k+vs.length≤cells.size→
  ((vs.zipIdx k).foldl (fun cs (c,j)=>cs.setIfInBounds (off+j) c) cells).toList=cells.toList.take (off+k)++vs++cells.toList.drop (off+k+vs.length):=by
 induction vs with
 | nil=>intro off k cells h; simp
 | cons v vs ih=>
  intro off k cells h
  simp only [List.zipIdx_cons,List.foldl_cons]
  simp only [List.length_cons] at h
  rw [ih off (k+1) _ (by simp; omega)]
  rw [Array.toList_setIfInBounds]
  have h1:off+k < cells.toList.length:=by simp; omega
  apply List.ext_getElem?
  intro i
  simp only [List.append_assoc,List.getElem?_append,List.length_take,List.length_set,List.getElem?_take,List.getElem?_set,List.getElem?_drop,List.length_cons,List.cons_append,List.nil_append]
  simp only [Array.length_toList] at h1 ⊢
  rw [Nat.min_eq_left (by omega),Nat.min_eq_left (by omega)]
  by_cases c1:i < off+k
  ·rw [if_pos (by omega),if_pos (by omega),if_neg (by omega),if_pos c1,if_pos c1]
  ·by_cases c2:i=off+k
   ·subst c2
    rw [if_pos (show off+k < off+(k+1) by omega),if_pos (show off+k < off+(k+1) by omega),if_pos rfl,if_pos h1,if_neg (by omega),Nat.sub_self]
    rfl
   ·rw [if_neg (by omega),if_neg c1]
    obtain ⟨r,rfl⟩:∃ r,i=off+k+1+r:=⟨i - (off+k+1),by omega⟩
    rw [show off+k+1+r - (off+(k+1))=r from by omega,show off+k+1+r - (off+k)=r+1 from by omega]
    rw [List.getElem?_cons_succ]
    by_cases c3:r < vs.length
    ·rw [if_pos c3,List.getElem?_append_left c3]
    ·rw [if_neg c3,List.getElem?_append_right (by omega),if_neg (by omega)]
     simp only [List.getElem?_drop]
     congr 1
     omega
theorem run_fill {s:St} (hr:RelE P N w0 S s a w ρ F) (pl place:Nat→Option (Nat×Nat)) (hpl:∀ i p z,pl i=some (p,z)→place i=some (p,z)):
  ∀ (parts:List (Nat×Operand)) (cs cs':List Cell) (us:Array Value),fillA pl s.ev parts cs=some cs'→All2 (CellRel P w (okm s.m F) s.m ρ) cs us.toList→
   ∃ us':Array Value,Instr.fill place us (parts.map fun (i,x)=>(i,a.eval x))=some us'∧All2 (CellRel P w (okm s.m F) s.m ρ) cs' us'.toList∧us'.size=us.size
 | [],cs,cs',us,h,hall=>by
  simp only [fillA,Option.some.injEq] at h
  subst h
  exact ⟨us,rfl,hall,rfl⟩
 | (i,x)::r,cs,cs',us,h,hall=>by
  simp only [fillA] at h
  split at h
  ·rename_i p z xs hf hxs
   split at h
   ·rename_i hb
    obtain ⟨h1,h2⟩:=rel_cells hxs (hr.ev x) hb.2.2
    have hl1:=h1.len
    have hl2:=hall.len
    have e1:(a.eval x).cells.toList.length=(a.eval x).cells.size:=Array.length_toList
    have e2:us.toList.length=us.size:=Array.length_toList
    have hsz:(a.eval x).cells.size=z:=by have:=hb.1; omega
    have hfit:p+z≤us.size:=by have:=hb.2.1; omega
    have hset:=foldl_set (a.eval x).cells.toList p 0 us (by rw [e1,hsz]; exact hfit)
    have hzip:(a.eval x).cells.zipIdx.foldl (fun cs (c,j)=>cs.setIfInBounds (p+j) c) us=((a.eval x).cells.toList.zipIdx 0).foldl (fun cs (c,j)=>cs.setIfInBounds (p+j) c) us:=by
     rw [← Array.foldl_toList]
     simp
    have hall2:All2 (CellRel P w (okm s.m F) s.m ρ) (cs.take p++xs++cs.drop (p+z)) ((a.eval x).cells.zipIdx.foldl (fun cs (c,j)=>cs.setIfInBounds (p+j) c) us).toList:=by
     rw [hzip,hset,Array.length_toList,hsz,Nat.add_zero]
     exact ((hall.take p).append h1).append (hall.drop _)
    obtain ⟨us',h3,h4,h5⟩:=run_fill hr pl place hpl r _ cs' _ h hall2
    have e3:=hall2.len
    have e4:((a.eval x).cells.zipIdx.foldl (fun cs (c,j)=>cs.setIfInBounds (p+j) c) us).size=us.size:=by
     rw [← Array.length_toList,hzip,hset]
     simp only [List.length_append,List.length_take,List.length_drop,Nat.add_zero,e1,e2,hsz]
     omega
    refine ⟨us',?_,h4,h5.trans e4⟩
    simp only [List.map_cons,Instr.fill,hpl i p z hf]
    rw [if_neg (by rw [hsz]; simpa using hfit)]
    exact h3
   ·cases h
  ·cases h
theorem run_places {fs:Array Field} (h:fs.all (fun f=>(P.info? f.type).isSome)=true) (w:World):
  (fs.mapM (fun f=>do pure (f.offset,← sizeOf f.type)):Sem (Array (Nat×Nat))).run P w = .ok (fs.map fun f=>(f.offset,P.cellsOf f.type)) w:=by
 have hl:∀ (l:List Field),(∀ f∈l,(P.info? f.type).isSome=true)→(l.mapM (fun f=>do pure (f.offset,← sizeOf f.type)):Sem (List (Nat×Nat))).run P w = .ok (l.map fun f=>(f.offset,P.cellsOf f.type)) w:=by
  intro l
  induction l with
  | nil=>intro _; rfl
  | cons f l ih=>
   intro hh
   obtain ⟨i,hi⟩:=Option.isSome_iff_exists.1 (hh f List.mem_cons_self)
   have h1:(sizeOf f.type).run P w = .ok (P.cellsOf f.type) w:=by simp [sizeOf,typeInfo,hi,Program.cellsOf]
   rw [List.mapM_cons]
   simp only [Sem.run_bind,h1,Result.andThen_ok,Sem.run_pure,ih (fun g hg=>hh g (List.mem_cons_of_mem _ hg)),List.map_cons]
 rw [Array.mapM_eq_mapM_toList]
 have:=hl fs.toList (fun f hf=>by
  rw [Array.all_eq_true_iff_forall_mem] at h
  exact h f (by simpa using hf))
 rw [show (List.toArray <$> (fs.toList.mapM (fun f=>do pure (f.offset,← sizeOf f.type)):Sem (List (Nat×Nat))))=((fs.toList.mapM (fun f=>do pure (f.offset,← sizeOf f.type)):Sem (List (Nat×Nat))) >>= fun l=>pure l.toArray) from (map_eq_pure_bind _ _)]
 simp only [Sem.run_bind,this,Result.andThen_ok,Sem.run_pure]
 congr 1
 apply Array.ext'
 simp
theorem s_build {t:TypeId} {parts:Array (Nat×Operand)} {z b:Nat} {zz:List Value} {g:Bool} {cs:List Cell} (ho:o.op = .build t parts) (hti:tyi P t=some (z,b,zz,g)) (hin:infosOk P t=true)
  (hf:fillA (plS P t) s.ev parts.toList (cvs zz)=some cs) (hd:∀ n,o.dst=some n→n < N):SoundOp P N w0 S o s ⟨updO s.t o.dst (.agg cs),s.m⟩:=by
 refine sound_val hd fun a w ρ F hr=>?_
 obtain ⟨i,d,v,h1,h2,h3,h4,h5,h6,h7⟩:=tyi_some hti
 unfold infosOk at hin
 rw [h2] at hin
 cases d <;> simp only at hin <;> try (cases hin)
 rename_i fs
 obtain ⟨us',h8,h9,_⟩:=run_fill hr (plS P t) (fun i=>(fs.map fun f=>(f.offset,P.cellsOf f.type))[i]?) (fun i p z hpl=>by
  unfold plS at hpl
  split at hpl
  ·rename_i o' z' g' hfd
   simp only [Option.some.injEq,Prod.mk.injEq] at hpl
   obtain ⟨rfl,rfl⟩:=hpl
   obtain ⟨fs',fl,b',zz',h10,h11,h12,h13⟩:=fld_some hfd
   rw [h2] at h10
   injection h10 with h10
   injection h10 with h10
   subst h10
   simp [h11,h13,cellsOf_tyi h12]
  ·cases hpl) parts.toList (cvs zz) cs v.cells hf (by rw [h6]; exact all2_map_v)
 refine ⟨.agg us',?_,?_⟩
 ·unfold execOp
  rw [ho]
  have h10:(zeroValue t).run P w = .ok v w:=by simp [zeroValue,typeInfo,h1,h3]
  have h11:(parts.map fun (i,x)=>(i,a.eval x)).toList=parts.toList.map fun (i,x)=>(i,a.eval x):=by simp
  simp only [Instr.build,Sem.run_bind,h10,Result.andThen_ok,run_underlying h2,run_places hin,h11,h8,Sem.run_pure]
 ·have:=AVRel.agg h9
  simpa using this
end
end Go.Proofs.YticimffljcljoaaGreatM

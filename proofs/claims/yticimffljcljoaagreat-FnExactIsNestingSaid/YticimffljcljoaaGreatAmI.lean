/- The abstract machine's operations as steps of a region: those that give a value. No condition. -/
import Derived.Test.YticimffljcljoaaGreatAmH
set_option linter.unusedVariables false
set_option linter.unusedSimpArgs false
namespace Go.Proofs.YticimffljcljoaaGreatM
open Go Go.RowKit
theorem blt {a b:Nat} (h:Nat.blt a b=true):a < b:=by rwa [Nat.blt_eq] at h
theorem ble {a b:Nat} (h:Nat.ble a b=true):a≤b:=Nat.le_of_ble_eq_true h
def fitB (p z n:Nat) (g:Bool):Bool:=Nat.ble (p+z) n && (g || Nat.beq z 1)
theorem fitB_spec {p z n:Nat} {g:Bool} (h:fitB p z n g=true):p+z≤n∧(g=false→z=1):=by
 unfold fitB at h
 simp only [Bool.and_eq_true,Bool.or_eq_true] at h
 refine ⟨ble h.1,fun hg=>?_⟩
 rcases h.2 with h2|h2
 ·rw [hg] at h2; cases h2
 ·exact Nat.eq_of_beq_eq_true h2
inductive Gs (ops:Array Oper) (o:Oper) (s:St):List (Operand×AV)→Prop
 | no (h:o.guard=none):Gs ops o s []
 | yes {j:Nat} {b b':Bool} {g:Nat} (h:o.guard=some (j,b)) (hj:(ops[j]?).bind (·.dst)=some g) (ht:s.t g = .c (.d (.v (.bool b')))) (hb:b'=b):Gs ops o s [(.tmp g,.c (.d (.v (.bool b))))]
theorem Gs.gd {ops:Array Oper} {o:Oper} {s:St} {G:List (Operand×AV)} (h:Gs ops o s G):Gd ops o G∧preT s G:=by
 cases h with
 | no h=>exact ⟨.none h,True.intro⟩
 | yes h hj ht hb=>
  subst hb
  exact ⟨.some h hj,ht,True.intro⟩
abbrev RV (P:Program) (N:Nat) (w0:World) (S:Fx) (draw:Bool) (ops:Array Oper) (pre:List (Oper×Eff)) (rest:List Oper) (t:Nat→AV) (m:Nat→Option Cont) (K:St→Prop) (o:Oper) (G rt:List (Operand×AV)) (rk:List (Nat×Cont)) (d:Nat) (v:AV):Prop:=
 RA P N w0 S draw ops (pre++[(o,⟨G++rt,rk,some (d,v),[],[],[],[]⟩)]) rest ⟨putT t (some (d,v)),m⟩ K
section
variable {P : Program} {N : Nat} {w0 : World} {S : Fx} {o : Oper} {ops : Array Oper} {draw : Bool} {pre : List (Oper × Eff)} {rest : List Oper} {t : Nat → AV} {m : Nat → Option Cont} {K : St → Prop} {G : List (Operand × AV)} {d : Nat}
theorem dlt (hd:o.dst=some d) (hN:Nat.blt d N=true):∀ n,o.dst=some n→n < N:=fun n hn=>by
 rw [hd] at hn
 injection hn with hn
 rw [← hn]
 exact blt hN
theorem RA.val {rt:List (Operand×AV)} {rk:List (Nat×Cont)} {v:AV} (hd:o.dst=some d) (hg:Gs ops o ⟨t,m⟩ G) (k:RV P N w0 S draw ops pre rest t m K o G rt rk d v) (hrt:preT ⟨t,m⟩ rt) (hrk:preK ⟨t,m⟩ rk)
  (h:∀ s,preT s rt→preK s rk→SoundOp P N w0 S o s ⟨updO s.t o.dst v,s.m⟩):RA P N w0 S draw ops pre (o::rest) ⟨t,m⟩ K:=by
 obtain ⟨h1,h2⟩:=hg.gd
 refine RA.op (L:=Eff.gd ⟨rt,rk,some (d,v),[],[],[],[]⟩ G) (GOp.of h1 (fun s hp=>?_)) ⟨preT_append.2 ⟨h2,hrt⟩,hrk,True.intro⟩ k
 have:=h s hp.1 hp.2.1
 rw [hd] at this
 have he:Eff.app ⟨rt,rk,some (d,v),[],[],[],[]⟩ s=⟨updO s.t (some d) v,s.m⟩:=congrArg (fun t=>(⟨t,s.m⟩:St)) (putT_upd s.t d v)
 rw [he]
 exact this
theorem RA.skip {j g:Nat} {b b' b2:Bool} (hg:o.guard=some (j,b)) (hd:o.dst=some d) (hN:Nat.blt d N=true) (hj:(ops[j]?).bind (·.dst)=some g) (ht:t g = .c (.d (.v (.bool b')))) (hb:b'=b2) (hne:b2≠b)
  (k:RA P N w0 S draw ops (pre++[(o,⟨[(.tmp g,.c (.d (.v (.bool b2))))],[],some (d,.tup []),[],[],[],[]⟩)]) rest ⟨putT t (some (d,.tup [])),m⟩ K):RA P N w0 S draw ops pre (o::rest) ⟨t,m⟩ K:=by
 subst hb
 exact RA.op (GOp.skip hg hj hne hd (blt hN)) ⟨⟨ht,True.intro⟩,True.intro,True.intro⟩ k
abbrev vI (x:Int):AV := .c (.d (.v (.int .i64 x)))
abbrev vB (x:Bool):AV := .c (.d (.v (.bool x)))
abbrev vS (x:ByteArray):AV := .c (.d (.v (.string x)))
abbrev vR (e:TypeId) (css:List (List DV)):AV := .c (.d (.row e css))
abbrev vO (cells:List DV):AV := .c (.d (.ro cells))
abbrev gV (x:Value):AV := .c (.d (.v x))
theorem a_move {x:Operand} {v:AV} (k:RV P N w0 S draw ops pre rest t m K o G [(x,v)] [] d v) (ho:o.op = .move x∨o.op = .assign x:=by first|exact .inl rfl|exact .inr rfl) (hd:o.dst=some d:=by rfl) (hN:Nat.blt d N=true:=by rfl) (h1:St.ev ⟨t,m⟩ x=v:=by rfl) (hg:Gs ops o ⟨t,m⟩ G:=by exact Gs.no rfl):RA P N w0 S draw ops pre (o::rest) ⟨t,m⟩ K:=
 RA.val hd hg k ⟨h1,True.intro⟩ True.intro (fun s hs _=>by
  have:=s_move (P:=P) (N:=N) (w0:=w0) (S:=S) (s:=s) ho (dlt hd hN)
  rwa [hs.1] at this)
theorem a_bin {op:BinOp} {T T':TypeId} {x y:Operand} {u1 u2 u:Value} (k:RV P N w0 S draw ops pre rest t m K o G [(x,gV u1),(y,gV u2)] [] d (gV u)) (ho:o.op = .binOp op T x y T':=by rfl) (hd:o.dst=some d:=by rfl) (hN:Nat.blt d N=true:=by rfl) (h1:St.ev ⟨t,m⟩ x=gV u1:=by rfl) (h2:St.ev ⟨t,m⟩ y=gV u2:=by rfl) (hv:(bin op u1 u2).2=u:=by rfl) (hcc:u1.oneCell'=true∧u2.oneCell'=true:=by exact ⟨rfl,rfl⟩) (hp:(bin op u1 u2).1:=by exact trivial) (hg:Gs ops o ⟨t,m⟩ G:=by exact Gs.no rfl):RA P N w0 S draw ops pre (o::rest) ⟨t,m⟩ K:=
 RA.val hd hg k ⟨h1,h2,True.intro⟩ True.intro (fun s hs _=>by
  have:=s_bin (P:=P) (N:=N) (w0:=w0) (S:=S) (s:=s) ho (by rw [hs.1,hs.2.1]; exact ⟨hp,hcc⟩) (dlt hd hN)
  rw [hs.1,hs.2.1] at this
  rw [← hv]
  exact this)
def binI (op:BinOp) (k:IntKind) (a b:Int):Option Value:=
 match op with
 | .add=>some (.int k (wr k (a+b)))
 | .sub=>some (.int k (wr k (a - b)))
 | .mul=>some (.int k (wr k (a*b)))
 | .eql=>some (.bool (decide (a=b)))
 | .neq=>some (.bool (!(decide (a=b))))
 | .lss=>some (.bool (decide (a < b)))
 | .leq=>some (.bool (decide (a≤b)))
 | .gtr=>some (.bool (decide (b < a)))
 | .geq=>some (.bool (decide (b≤a)))
 | _=>none
theorem binI_spec {op:BinOp} {k1:IntKind} {a b:Int} {u:Value} (h:binI op k1 a b=some u):(bin op (.int k1 a) (.int k1 b)).1∧(bin op (.int k1 a) (.int k1 b)).2=u:=by
 cases op <;> simp only [binI] at h <;> first|(injection h with h; subst h; exact ⟨rfl,rfl⟩)|(injection h with h; subst h; refine ⟨rfl,?_⟩; simp only [bin]; rw [decide_not])|cases h
theorem a_int {op:BinOp} {T T':TypeId} {x y:Operand} {k1:IntKind} {i j:Int} {u:Value} (k:RV P N w0 S draw ops pre rest t m K o G [(x,gV (.int k1 i)),(y,gV (.int k1 j))] [] d (gV u)) (ho:o.op = .binOp op T x y T':=by rfl) (hd:o.dst=some d:=by rfl) (hN:Nat.blt d N=true:=by rfl) (h1:St.ev ⟨t,m⟩ x=gV (.int k1 i):=by rfl) (h2:St.ev ⟨t,m⟩ y=gV (.int k1 j):=by rfl) (hv:binI op k1 i j=some u:=by rfl) (hg:Gs ops o ⟨t,m⟩ G:=by exact Gs.no rfl):RA P N w0 S draw ops pre (o::rest) ⟨t,m⟩ K:=
 a_bin (k:=k) (h1:=h1) (h2:=h2) (hv:=(binI_spec hv).2) (hp:=(binI_spec hv).1) (hcc:=⟨rfl,rfl⟩) (ho:=ho) (hd:=hd) (hN:=hN) (hg:=hg)
theorem a_quo {T T':TypeId} {x y:Operand} {k1:IntKind} {i j:Int} {r:Int} (k:RV P N w0 S draw ops pre rest t m K o G [(x,gV (.int k1 i)),(y,gV (.int k1 j))] [] d (gV (.int k1 r))) (hb0:¬ j=0) (ho:o.op = .binOp .quo T x y T':=by rfl) (hd:o.dst=some d:=by rfl) (hN:Nat.blt d N=true:=by rfl) (h1:St.ev ⟨t,m⟩ x=gV (.int k1 i):=by rfl) (h2:St.ev ⟨t,m⟩ y=gV (.int k1 j):=by rfl) (hv:wr k1 (i.tdiv j)=r:=by rfl) (hg:Gs ops o ⟨t,m⟩ G:=by exact Gs.no rfl):RA P N w0 S draw ops pre (o::rest) ⟨t,m⟩ K:=
 a_bin (op := .quo) (k:=k) (h1:=h1) (h2:=h2) (hv:=(by rw [← hv]; rfl)) (hp:=⟨rfl,hb0⟩) (hcc:=⟨rfl,rfl⟩) (ho:=ho) (hd:=hd) (hN:=hN) (hg:=hg)
theorem a_rem {T T':TypeId} {x y:Operand} {k1:IntKind} {i j:Int} {r:Int} (k:RV P N w0 S draw ops pre rest t m K o G [(x,gV (.int k1 i)),(y,gV (.int k1 j))] [] d (gV (.int k1 r))) (hb0:¬ j=0) (ho:o.op = .binOp .rem T x y T':=by rfl) (hd:o.dst=some d:=by rfl) (hN:Nat.blt d N=true:=by rfl) (h1:St.ev ⟨t,m⟩ x=gV (.int k1 i):=by rfl) (h2:St.ev ⟨t,m⟩ y=gV (.int k1 j):=by rfl) (hv:i.tmod j=r:=by rfl) (hg:Gs ops o ⟨t,m⟩ G:=by exact Gs.no rfl):RA P N w0 S draw ops pre (o::rest) ⟨t,m⟩ K:=
 a_bin (op := .rem) (k:=k) (h1:=h1) (h2:=h2) (hv:=(by rw [← hv]; rfl)) (hp:=⟨rfl,hb0⟩) (hcc:=⟨rfl,rfl⟩) (ho:=ho) (hd:=hd) (hN:=hN) (hg:=hg)
theorem a_un {op:UnOp} {T:TypeId} {x:Operand} {u1 u:Value} (k:RV P N w0 S draw ops pre rest t m K o G [(x,gV u1)] [] d (gV u)) (ho:o.op = .unOp op T x:=by rfl) (hd:o.dst=some d:=by rfl) (hN:Nat.blt d N=true:=by rfl) (h1:St.ev ⟨t,m⟩ x=gV u1:=by rfl) (hv:(una op u1).2=u:=by rfl) (hp:(una op u1).1:=by exact trivial) (hg:Gs ops o ⟨t,m⟩ G:=by exact Gs.no rfl):RA P N w0 S draw ops pre (o::rest) ⟨t,m⟩ K:=
 RA.val hd hg k ⟨h1,True.intro⟩ True.intro (fun s hs _=>by
  have:=s_un (P:=P) (N:=N) (w0:=w0) (S:=S) (s:=s) ho hs.1 hp (dlt hd hN)
  rw [← hv]
  exact this)
theorem a_eqS {op:BinOp} {T T':TypeId} {x y:Operand} {c1 c2:List Cell} {u1 u2:List Value} {b:Bool} (k:RV P N w0 S draw ops pre rest t m K o G [(x,.agg c1),(y,.agg c2)] [] d (vB b)) (hb:(op = .eql∧b=eqC u1 u2)∨(op = .neq∧b=!(eqC u1 u2))) (hr:EqRun P op T u1 u2 b) (ho:o.op = .binOp op T x y T':=by rfl) (hd:o.dst=some d:=by rfl) (hN:Nat.blt d N=true:=by rfl) (h1:St.ev ⟨t,m⟩ x = .agg c1:=by rfl) (h2:St.ev ⟨t,m⟩ y = .agg c2:=by rfl) (hc1:gvs c1=some u1:=by rfl) (hc2:gvs c2=some u2:=by rfl) (hg:Gs ops o ⟨t,m⟩ G:=by exact Gs.no rfl):RA P N w0 S draw ops pre (o::rest) ⟨t,m⟩ K:=
 RA.val hd hg k ⟨h1,h2,True.intro⟩ True.intro (fun s hs _=>by
  have hbA:binA P op T (s.ev x) (s.ev y) = .val (EqRun P op T u1 u2 b) (vB b):=by
   rw [hs.1,hs.2.1]
   unfold binA
   simp only [hc1,hc2]
   rcases hb with ⟨rfl,rfl⟩|⟨rfl,rfl⟩ <;> rfl
  have:=s_bin (P:=P) (N:=N) (w0:=w0) (S:=S) (s:=s) ho (by rw [hbA]; exact hr) (dlt hd hN)
  rw [hbA] at this
  exact this)
theorem a_pick {c x y:Operand} {b b':Bool} {v:AV} (k:RV P N w0 S draw ops pre rest t m K o G [(c,vB b),(if b=true then x else y,v)] [] d v) (hb:b'=b) (ho:o.op = .pick c x y:=by rfl) (hd:o.dst=some d:=by rfl) (hN:Nat.blt d N=true:=by rfl) (h1:St.ev ⟨t,m⟩ c=vB b':=by rfl) (h2:St.ev ⟨t,m⟩ (if b=true then x else y)=v:=by rfl) (hg:Gs ops o ⟨t,m⟩ G:=by exact Gs.no rfl):RA P N w0 S draw ops pre (o::rest) ⟨t,m⟩ K:=
 RA.val hd hg k ⟨by rw [h1,hb],h2,True.intro⟩ True.intro (fun s hs _=>by
  have:=s_pick (P:=P) (N:=N) (w0:=w0) (S:=S) (s:=s) ho hs.1 (dlt hd hN)
  have h3:=hs.2.1
  cases b with
  | true=>rw [if_pos rfl] at this h3; rwa [h3] at this
  | false=>rw [if_neg (by simp)] at this h3; rwa [h3] at this)
theorem a_minmax {x y:Operand} {tys:Array TypeId} {mx:Bool} {k1:IntKind} {i j r:Int} (k:RV P N w0 S draw ops pre rest t m K o G [(x,gV (.int k1 i)),(y,gV (.int k1 j))] [] d (gV (.int k1 r))) (ho:o.op = .call { callee := .builtin (if mx then .max else .min),args:=#[x,y],argTypes:=tys }:=by rfl) (hd:o.dst=some d:=by rfl) (hN:Nat.blt d N=true:=by rfl) (h1:St.ev ⟨t,m⟩ x=gV (.int k1 i):=by rfl) (h2:St.ev ⟨t,m⟩ y=gV (.int k1 j):=by rfl) (hr:(if mx then (if i < j then j else i) else (if j < i then j else i))=r:=by rfl) (hg:Gs ops o ⟨t,m⟩ G:=by exact Gs.no rfl):RA P N w0 S draw ops pre (o::rest) ⟨t,m⟩ K:=
 RA.val hd hg k ⟨h1,h2,True.intro⟩ True.intro (fun s hs _=>by
  have:=s_min (P:=P) (N:=N) (w0:=w0) (S:=S) (s:=s) ho (by rw [hs.1,hs.2.1]; exact rfl) (dlt hd hN)
  rw [hs.1,hs.2.1] at this
  rw [← hr]
  exact this)
theorem a_conv {src dst:TypeId} {x:Operand} {k1 k2:IntKind} {i j:Int} {D:TypeDesc} (k:RV P N w0 S draw ops pre rest t m K o G [(x,gV (.int k1 i))] [] d (gV (.int k2 j))) (hs:P.underlying src=some D) (hk:P.underlying dst=some (.int k2)) (ho:o.op = .convert src dst x:=by rfl) (hd:o.dst=some d:=by rfl) (hN:Nat.blt d N=true:=by rfl) (h1:St.ev ⟨t,m⟩ x=gV (.int k1 i):=by rfl) (hj:wr k2 i=j:=by rfl) (hg:Gs ops o ⟨t,m⟩ G:=by exact Gs.no rfl):RA P N w0 S draw ops pre (o::rest) ⟨t,m⟩ K:=
 RA.val hd hg k ⟨h1,True.intro⟩ True.intro (fun s hss _=>by
  have hc:cvA P dst (s.ev x) = .val True (gV (.int k2 j)):=by rw [hss.1]; unfold cvA; simp only [hk]; rw [hj]
  have:=s_conv (P:=P) (N:=N) (w0:=w0) (S:=S) (s:=s) ho ⟨D,hs⟩ (by rw [hc]; exact True.intro) (dlt hd hN)
  rw [hc] at this
  exact this)
theorem a_len {x:Operand} {ty:TypeId} {v:AV} {n:Int} {D:TypeDesc} (k:RV P N w0 S draw ops pre rest t m K o G [(x,v)] [] d (vI n)) (hv:lenA v = .val True (vI n)) (hu:P.underlying ty=some D) (hD:((∃ b,v=vS b)∧D = .string)∨((∀ b,v≠vS b)∧∃ e,D = .slice e)) (ho:o.op = .call { callee := .builtin .len,args:=#[x],argTypes:=#[ty] }:=by rfl) (hd:o.dst=some d:=by rfl) (hN:Nat.blt d N=true:=by rfl) (h1:St.ev ⟨t,m⟩ x=v:=by rfl) (hg:Gs ops o ⟨t,m⟩ G:=by exact Gs.no rfl):RA P N w0 S draw ops pre (o::rest) ⟨t,m⟩ K:=
 RA.val hd hg k ⟨h1,True.intro⟩ True.intro (fun s hs _=>by
  have:=s_len (P:=P) (N:=N) (w0:=w0) (S:=S) (s:=s) ho ⟨D,hu,hD.elim (fun h => .inl h.2) (fun h => .inr h.2)⟩ (fun hn=>by
   rcases hD with ⟨⟨b,hb⟩,_⟩|⟨_,e,rfl⟩
   ·exact absurd (hs.1.trans hb) (hn b)
   ·exact ⟨e,hu⟩) (fun b hb=>by
   rcases hD with ⟨_,rfl⟩|⟨hn,_⟩
   ·exact hu
   ·exact absurd (hs.1.symm.trans hb) (hn b)) (by rw [hs.1,hv]; exact True.intro) (dlt hd hN)
  rw [hs.1,hv] at this
  exact this)
theorem a_lenR {x:Operand} {ty e e':TypeId} {α:Type} {c:α→List DV} {l:List α} (k:RV P N w0 S draw ops pre rest t m K o G [(x,vR e (l.map c))] [] d (vI (l.length:Int))) (hu:P.underlying ty=some (.slice e')) (ho:o.op = .call { callee := .builtin .len,args:=#[x],argTypes:=#[ty] }:=by rfl) (hd:o.dst=some d:=by rfl) (hN:Nat.blt d N=true:=by rfl) (h1:St.ev ⟨t,m⟩ x=vR e (l.map c):=by rfl) (hg:Gs ops o ⟨t,m⟩ G:=by exact Gs.no rfl):RA P N w0 S draw ops pre (o::rest) ⟨t,m⟩ K:=
 a_len (k:=k) (h1:=h1) (hv:=(by simp [lenA,vI,Out.val])) (ho:=ho) (hu:=hu) (hD:=(.inr ⟨fun b h=>(by cases h),e',rfl⟩)) (hd:=hd) (hN:=hN) (hg:=hg)
theorem a_lenO {x:Operand} {ty e':TypeId} {κ n:Nat} (k:RV P N w0 S draw ops pre rest t m K o G [(x,.c (.own κ n))] [] d (vI (n:Int))) (hu:P.underlying ty=some (.slice e')) (ho:o.op = .call { callee := .builtin .len,args:=#[x],argTypes:=#[ty] }:=by rfl) (hd:o.dst=some d:=by rfl) (hN:Nat.blt d N=true:=by rfl) (h1:St.ev ⟨t,m⟩ x = .c (.own κ n):=by rfl) (hg:Gs ops o ⟨t,m⟩ G:=by exact Gs.no rfl):RA P N w0 S draw ops pre (o::rest) ⟨t,m⟩ K:=
 a_len (k:=k) (h1:=h1) (hv:=rfl) (ho:=ho) (hu:=hu) (hD:=(.inr ⟨fun b h=>(by cases h),e',rfl⟩)) (hd:=hd) (hN:=hN) (hg:=hg)
theorem a_lenC {x:Operand} {ty e':TypeId} {κ i n:Nat} (k:RV P N w0 S draw ops pre rest t m K o G [(x,.c (.cut κ i n))] [] d (vI (n:Int))) (hu:P.underlying ty=some (.slice e')) (ho:o.op = .call { callee := .builtin .len,args:=#[x],argTypes:=#[ty] }:=by rfl) (hd:o.dst=some d:=by rfl) (hN:Nat.blt d N=true:=by rfl) (h1:St.ev ⟨t,m⟩ x = .c (.cut κ i n):=by rfl) (hg:Gs ops o ⟨t,m⟩ G:=by exact Gs.no rfl):RA P N w0 S draw ops pre (o::rest) ⟨t,m⟩ K:=
 a_len (k:=k) (h1:=h1) (hv:=rfl) (ho:=ho) (hu:=hu) (hD:=(.inr ⟨fun b h=>(by cases h),e',rfl⟩)) (hd:=hd) (hN:=hN) (hg:=hg)
theorem a_lenS {x:Operand} {ty:TypeId} {b:ByteArray} {n:Int} (k:RV P N w0 S draw ops pre rest t m K o G [(x,vS b)] [] d (vI n)) (hu:P.underlying ty=some .string) (ho:o.op = .call { callee := .builtin .len,args:=#[x],argTypes:=#[ty] }:=by rfl) (hd:o.dst=some d:=by rfl) (hN:Nat.blt d N=true:=by rfl) (h1:St.ev ⟨t,m⟩ x=vS b:=by rfl) (hn:(b.size:Int)=n:=by rfl) (hg:Gs ops o ⟨t,m⟩ G:=by exact Gs.no rfl):RA P N w0 S draw ops pre (o::rest) ⟨t,m⟩ K:=
 a_len (k:=k) (h1:=h1) (hv:=(by rw [← hn]; rfl)) (ho:=ho) (hu:=hu) (hD:=(.inl ⟨⟨b,rfl⟩,rfl⟩)) (hd:=hd) (hN:=hN) (hg:=hg)
theorem a_ext {x:Operand} {j:Nat} {xs:List El} {e:El} {v:AV} (k:RV P N w0 S draw ops pre rest t m K o G [(x,.tup xs)] [] d v) (ho:o.op = .extract x j:=by rfl) (hd:o.dst=some d:=by rfl) (hN:Nat.blt d N=true:=by rfl) (h1:St.ev ⟨t,m⟩ x = .tup xs:=by rfl) (h2:xs[j]?=some e:=by rfl) (h3:e.av=v:=by rfl) (hg:Gs ops o ⟨t,m⟩ G:=by exact Gs.no rfl):RA P N w0 S draw ops pre (o::rest) ⟨t,m⟩ K:=
 RA.val hd hg k ⟨h1,True.intro⟩ True.intro (fun s hs _=>by
  have hx:extA j (s.ev x) = .val True v:=by rw [hs.1]; unfold extA; simp only [h2,h3]
  have:=s_extract (P:=P) (N:=N) (w0:=w0) (S:=S) (s:=s) ho (by rw [hx]; exact True.intro) (dlt hd hN)
  rw [hx] at this
  exact this)
theorem a_nil {x:Operand} {v:AV} (k:RV P N w0 S draw ops pre rest t m K o G [(x,v)] [] d v) (ho:o.op = .nilCheck x:=by rfl) (hd:o.dst=some d:=by rfl) (hN:Nat.blt d N=true:=by rfl) (h1:St.ev ⟨t,m⟩ x=v:=by rfl) (hv:nilA v = .val True v:=by rfl) (hg:Gs ops o ⟨t,m⟩ G:=by exact Gs.no rfl):RA P N w0 S draw ops pre (o::rest) ⟨t,m⟩ K:=
 RA.val hd hg k ⟨h1,True.intro⟩ True.intro (fun s hs _=>by
  have hx:nilA (s.ev x) = .val True v:=by rw [hs.1]; exact hv
  have:=s_nil (P:=P) (N:=N) (w0:=w0) (S:=S) (s:=s) ho (by rw [hx]; exact True.intro) (dlt hd hN)
  rw [hx] at this
  exact this)
theorem a_str {x i:Operand} {ty:TypeId} {k1:IntKind} {iv:Int} {b:ByteArray} (k:RV P N w0 S draw ops pre rest t m K o G [(x,vS b),(i,gV (.int k1 iv))] [] d (gV (.int .u8 (bt b iv)))) (hp:0≤iv∧iv < b.size) (hu:P.underlying ty=some .string) (ho:o.op = .index ty x i:=by rfl) (hd:o.dst=some d:=by rfl) (hN:Nat.blt d N=true:=by rfl) (h1:St.ev ⟨t,m⟩ x=vS b:=by rfl) (h2:St.ev ⟨t,m⟩ i=gV (.int k1 iv):=by rfl) (hg:Gs ops o ⟨t,m⟩ G:=by exact Gs.no rfl):RA P N w0 S draw ops pre (o::rest) ⟨t,m⟩ K:=
 RA.val hd hg k ⟨h1,h2,True.intro⟩ True.intro (fun s hs _=>by
  have hx:strIx iv (s.ev x) = .val (0≤iv∧iv < b.size) (gV (.int .u8 (bt b iv))):=by rw [hs.1]; rfl
  have:=s_indexStr (P:=P) (N:=N) (w0:=w0) (S:=S) (s:=s) ho hu hs.2.1 (by rw [hx]; exact hp) (dlt hd hN)
  rw [hx] at this
  exact this)
theorem a_ixR {x i:Operand} {ty e:TypeId} {k1:IntKind} {iv:Int} {sz b:Nat} {z:List Value} {g:Bool} {α:Type} {c:α→List DV} {l:List α} {el:List DV} (k:RV P N w0 S draw ops pre rest t m K o G [(x,vR e (l.map c)),(i,gV (.int k1 iv))] [] d (vO el)) (hp:0≤iv∧iv < l.length) (hti:tyi P e=some (sz,b,z,g)) (hu:P.underlying ty=some (.slice e)) (ho:o.op = .indexAddr ty x i:=by rfl) (hd:o.dst=some d:=by rfl) (hN:Nat.blt d N=true:=by rfl) (h1:St.ev ⟨t,m⟩ x=vR e (l.map c):=by rfl) (h2:St.ev ⟨t,m⟩ i=gV (.int k1 iv):=by rfl) (hel:(l.map c).getD iv.toNat (zdv z)=el:=by rfl) (hg:Gs ops o ⟨t,m⟩ G:=by exact Gs.no rfl):RA P N w0 S draw ops pre (o::rest) ⟨t,m⟩ K:=
 RA.val hd hg k ⟨h1,h2,True.intro⟩ True.intro (fun s hs _=>by
  have hx:ixA (zdv z) iv (s.ev x) = .val (0≤iv∧iv < (l.map c).length) (vO el):=by rw [hs.1,← hel]; rfl
  have:=s_indexAddr (P:=P) (N:=N) (w0:=w0) (S:=S) (s:=s) ho hu hti hs.2.1 (fun e' css he=>by
   rw [hs.1] at he
   injection he with he
   injection he with he
   injection he with he1 he2
   subst he1
   exact cellsOf_tyi hti) (fun κ n e' css he _=>by rw [hs.1] at he; cases he) (by rw [hx]; show 0≤iv∧iv < ((l.map c).length:Int); simpa using hp) (dlt hd hN)
  rw [hx] at this
  exact this)
theorem a_ixO {x i:Operand} {ty e:TypeId} {k1:IntKind} {iv:Int} {sz b:Nat} {z:List Value} {g:Bool} {κ n:Nat} {css:List (List DV)} (k:RV P N w0 S draw ops pre rest t m K o G [(x,.c (.own κ n)),(i,gV (.int k1 iv))] [(κ,.row e css)] d (.c (.eptr κ iv.toNat 0))) (hp:0≤iv∧iv < n) (hti:tyi P e=some (sz,b,z,g)) (hu:P.underlying ty=some (.slice e)) (ho:o.op = .indexAddr ty x i:=by rfl) (hd:o.dst=some d:=by rfl) (hN:Nat.blt d N=true:=by rfl) (h1:St.ev ⟨t,m⟩ x = .c (.own κ n):=by rfl) (h2:St.ev ⟨t,m⟩ i=gV (.int k1 iv):=by rfl) (hm:m κ=some (.row e css):=by rfl) (hg:Gs ops o ⟨t,m⟩ G:=by exact Gs.no rfl):RA P N w0 S draw ops pre (o::rest) ⟨t,m⟩ K:=
 RA.val hd hg k ⟨h1,h2,True.intro⟩ ⟨hm,True.intro⟩ (fun s hs hk=>by
  have hx:ixA (zdv z) iv (s.ev x) = .val (0≤iv∧iv < n) (.c (.eptr κ iv.toNat 0)):=by rw [hs.1]; rfl
  have:=s_indexAddr (P:=P) (N:=N) (w0:=w0) (S:=S) (s:=s) ho hu hti hs.2.1 (fun e' css he=>by rw [hs.1] at he; cases he) (fun κ' n' e' css' he hm'=>by
   rw [hs.1] at he
   injection he with he
   injection he with he1 he2
   subst he1
   rw [hk.1] at hm'
   injection hm' with hm'
   injection hm' with h5 h6
   rw [← h5]
   exact cellsOf_tyi hti) (by rw [hx]; exact hp) (dlt hd hN)
  rw [hx] at this
  exact this)
theorem a_fa {T f p z:Nat} {g:Bool} {x:Operand} {v v':AV} {Q:Prop} (k:RV P N w0 S draw ops pre rest t m K o G [(x,v)] [] d v') (hf:fld P T f=some (p,z,g)) (hq:Q) (ho:o.op = .fieldAddr T x f:=by rfl) (hd:o.dst=some d:=by rfl) (hN:Nat.blt d N=true:=by rfl) (h1:St.ev ⟨t,m⟩ x=v:=by rfl) (hv:faA p z v = .val Q v':=by rfl) (hg:Gs ops o ⟨t,m⟩ G:=by exact Gs.no rfl):RA P N w0 S draw ops pre (o::rest) ⟨t,m⟩ K:=
 RA.val hd hg k ⟨h1,True.intro⟩ True.intro (fun s hs _=>by
  have hx:faA p z (s.ev x) = .val Q v':=by rw [hs.1]; exact hv
  have:=s_fieldAddr (P:=P) (N:=N) (w0:=w0) (S:=S) (s:=s) ho hf (by rw [hx]; exact hq) (dlt hd hN)
  rw [hx] at this
  exact this)
theorem a_faB {T f p z:Nat} {g:Bool} {x:Operand} {κ off q:Nat} (k:RV P N w0 S draw ops pre rest t m K o G [(x,.c (.ptr κ off))] [] d (.c (.ptr κ q))) (hf:fld P T f=some (p,z,g)) (ho:o.op = .fieldAddr T x f:=by rfl) (hd:o.dst=some d:=by rfl) (hN:Nat.blt d N=true:=by rfl) (h1:St.ev ⟨t,m⟩ x = .c (.ptr κ off):=by rfl) (hq:off+p=q:=by rfl) (hz:Nat.blt 0 z=true:=by rfl) (hg:Gs ops o ⟨t,m⟩ G:=by exact Gs.no rfl):RA P N w0 S draw ops pre (o::rest) ⟨t,m⟩ K:=
 a_fa (Q:=z≠0) (k:=k) (h1:=h1) (hf:=hf) (hv:=(by rw [← hq]; rfl)) (hq:=(by have:=blt hz; omega)) (ho:=ho) (hd:=hd) (hN:=hN) (hg:=hg)
theorem a_faR {T f p z:Nat} {g:Bool} {x:Operand} {cells cells':List DV} (k:RV P N w0 S draw ops pre rest t m K o G [(x,vO cells)] [] d (vO cells')) (hf:fld P T f=some (p,z,g)) (ho:o.op = .fieldAddr T x f:=by rfl) (hd:o.dst=some d:=by rfl) (hN:Nat.blt d N=true:=by rfl) (h1:St.ev ⟨t,m⟩ x=vO cells:=by rfl) (hq:cells.drop p=cells':=by rfl) (hz:Nat.blt 0 z=true:=by rfl) (hl:Nat.blt p cells.length=true:=by rfl) (hg:Gs ops o ⟨t,m⟩ G:=by exact Gs.no rfl):RA P N w0 S draw ops pre (o::rest) ⟨t,m⟩ K:=
 a_fa (Q:=z≠0∧p < cells.length) (k:=k) (h1:=h1) (hf:=hf) (hv:=(by rw [← hq]; rfl)) (hq:=⟨by have:=blt hz; omega,blt hl⟩) (ho:=ho) (hd:=hd) (hN:=hN) (hg:=hg)
theorem a_fld {T f p z:Nat} {g:Bool} {x:Operand} {cs:List Cell} {v:AV} (k:RV P N w0 S draw ops pre rest t m K o G [(x,.agg cs)] [] d v) (hf:fld P T f=some (p,z,g)) (ho:o.op = .field T x f:=by rfl) (hd:o.dst=some d:=by rfl) (hN:Nat.blt d N=true:=by rfl) (h1:St.ev ⟨t,m⟩ x = .agg cs:=by rfl) (hv:mkAV g ((cs.drop p).take z)=v:=by rfl) (hq:fitB p z cs.length g=true:=by rfl) (hg:Gs ops o ⟨t,m⟩ G:=by exact Gs.no rfl):RA P N w0 S draw ops pre (o::rest) ⟨t,m⟩ K:=
 RA.val hd hg k ⟨h1,True.intro⟩ True.intro (fun s hs _=>by
  have hx:fieldA p z g (s.ev x) = .val (p+z≤cs.length∧(g=false→z=1)) v:=by rw [hs.1,← hv]; rfl
  have:=s_field (P:=P) (N:=N) (w0:=w0) (S:=S) (s:=s) ho hf (by rw [hx]; exact fitB_spec hq) (dlt hd hN)
  rw [hx] at this
  exact this)
theorem a_ldR {e:TypeId} {x:Operand} {z b:Nat} {zz:List Value} {g:Bool} {cells:List DV} {v:AV} (k:RV P N w0 S draw ops pre rest t m K o G [(x,vO cells)] [] d v) (hti:tyi P e=some (z,b,zz,g)) (ho:o.op = .load e x:=by rfl) (hd:o.dst=some d:=by rfl) (hN:Nat.blt d N=true:=by rfl) (h1:St.ev ⟨t,m⟩ x=vO cells:=by rfl) (hv:mkAV g ((cells.take z).map .d)=v:=by rfl) (hq:fitB 0 z cells.length g=true:=by rfl) (hg:Gs ops o ⟨t,m⟩ G:=by exact Gs.no rfl):RA P N w0 S draw ops pre (o::rest) ⟨t,m⟩ K:=
 RA.val hd hg k ⟨h1,True.intro⟩ True.intro (fun s hs _=>by
  have:=s_loadRo (P:=P) (N:=N) (w0:=w0) (S:=S) (s:=s) ho hti hs.1 (by have:=fitB_spec hq; rwa [Nat.zero_add] at this) (dlt hd hN)
  rw [← hv]
  exact this)
theorem a_ldB {e:TypeId} {x:Operand} {z b:Nat} {zz:List Value} {g:Bool} {κ off:Nat} {ty:TypeId} {cs:List Cell} {v:AV} (k:RV P N w0 S draw ops pre rest t m K o G [(x,.c (.ptr κ off))] [(κ,.box ty cs)] d v) (hti:tyi P e=some (z,b,zz,g)) (ho:o.op = .load e x:=by rfl) (hd:o.dst=some d:=by rfl) (hN:Nat.blt d N=true:=by rfl) (h1:St.ev ⟨t,m⟩ x = .c (.ptr κ off):=by rfl) (hm:m κ=some (.box ty cs):=by rfl) (hv:mkAV g ((cs.drop off).take z)=v:=by rfl) (hq:fitB off z cs.length g=true:=by rfl) (hg:Gs ops o ⟨t,m⟩ G:=by exact Gs.no rfl):RA P N w0 S draw ops pre (o::rest) ⟨t,m⟩ K:=
 RA.val hd hg k ⟨h1,True.intro⟩ ⟨hm,True.intro⟩ (fun s hs hk=>by
  have:=s_loadBox (P:=P) (N:=N) (w0:=w0) (S:=S) (s:=s) ho hti hs.1 hk.1 (fitB_spec hq) (dlt hd hN)
  rw [← hv]
  exact this)
theorem fillA_congr {pl:Nat→Option (Nat×Nat)} {ev ev':Operand→AV}:∀ {parts:List (Nat×Operand)} {cs:List Cell},(∀ p∈parts,ev p.2=ev' p.2)→fillA pl ev parts cs=fillA pl ev' parts cs
 | [],cs,_=>rfl
 | (i,x)::r,cs,h=>by
  have hx:ev x=ev' x:=h (i,x) List.mem_cons_self
  unfold fillA
  rw [hx]
  split
  ·split
   ·exact fillA_congr fun p hp=>h p (List.mem_cons_of_mem _ hp)
   ·rfl
  ·rfl
def rds (s:St) (xs:List (Nat×Operand)):List (Operand×AV):=xs.map fun p=>(p.2,s.ev p.2)
theorem preT_rds (s:St):∀ xs:List (Nat×Operand),preT s (rds s xs)
 | []=>True.intro
 | p::r=>⟨rfl,preT_rds s r⟩
theorem rds_ev {s s':St}:∀ {xs:List (Nat×Operand)},preT s' (rds s xs)→∀ p∈xs,s'.ev p.2=s.ev p.2
 | [],_,p,hp=>by cases hp
 | x::r,h,p,hp=>by
  rcases List.mem_cons.1 hp with rfl|hp
  ·exact h.1
  ·exact rds_ev (xs:=r) h.2 p hp
theorem a_build {T:TypeId} {parts:Array (Nat×Operand)} {z b:Nat} {zz:List Value} {g:Bool} {cs:List Cell} (k:RV P N w0 S draw ops pre rest t m K o G (rds ⟨t,m⟩ parts.toList) [] d (.agg cs)) (hti:tyi P T=some (z,b,zz,g)) (hf:fillA (plS P T) (St.ev ⟨t,m⟩) parts.toList (cvs zz)=some cs) (ho:o.op = .build T parts:=by rfl) (hd:o.dst=some d:=by rfl) (hN:Nat.blt d N=true:=by rfl) (hin:infosOk P T=true:=by rfl) (hg:Gs ops o ⟨t,m⟩ G:=by exact Gs.no rfl):RA P N w0 S draw ops pre (o::rest) ⟨t,m⟩ K:=
 RA.val hd hg k (preT_rds _ _) True.intro (fun s hs _=>s_build (P:=P) (N:=N) (w0:=w0) (S:=S) (s:=s) ho hti hin (by rw [fillA_congr (rds_ev hs)]; exact hf) (dlt hd hN))
end
end Go.Proofs.YticimffljcljoaaGreatM

/- The abstract machine's operations. No condition. -/
import Derived.Test.YticimffljcljoaaGreatAmB
set_option linter.unusedVariables false
namespace Go.Proofs.YticimffljcljoaaGreatM
open Go Go.RowKit
def wr:IntKind→Int→Int
 | .i64,x=>wrap64 x
 | .u8,x=>x%256
 | .u64,x=>x%18446744073709551616
 | k,x=>k.wrap x
theorem wr_eq (k:IntKind) (x:Int):k.wrap x=wr k x:=by
 cases k <;> first|rfl|(unfold wr wrap64; exact IntKind.wrap_i64 x)|(simp [wr,IntKind.wrap,IntKind.bits,IntKind.signed])
def bt (s:ByteArray) (i:Int):Int:=if h:i.toNat < s.size then ((s[i.toNat]'h).toNat:Int) else 0
def bin (op:BinOp) (x y:Value):Prop×Value:=
 match op,x,y with
 | .add,.int k a,.int k' b=>(k=k',.int k (wr k (a+b)))
 | .sub,.int k a,.int k' b=>(k=k',.int k (wr k (a - b)))
 | .mul,.int k a,.int k' b=>(k=k',.int k (wr k (a*b)))
 | .quo,.int k a,.int k' b=>(k=k'∧¬ b=0,.int k (wr k (a.tdiv b)))
 | .rem,.int k a,.int k' b=>(k=k'∧¬ b=0,.int k (a.tmod b))
 | .eql,.int k a,.int k' b=>(k=k',.bool (decide (a=b)))
 | .neq,.int k a,.int k' b=>(k=k',.bool (decide (¬ a=b)))
 | .lss,.int k a,.int k' b=>(k=k',.bool (decide (a < b)))
 | .leq,.int k a,.int k' b=>(k=k',.bool (decide (a≤b)))
 | .gtr,.int k a,.int k' b=>(k=k',.bool (decide (b < a)))
 | .geq,.int k a,.int k' b=>(k=k',.bool (decide (b≤a)))
 | .shr,.int k a,.int k' b=>(b=1,.int k (a.fdiv 2))
 | .add,.string a,.string b=>(a.size+b.size≤9223372036854775807,.string (a++b))
 | .eql,.string a,.string b=>(True,.bool (a.toList == b.toList))
 | .neq,.string a,.string b=>(True,.bool (!(a.toList == b.toList)))
 | .lss,.string a,.string b=>(True,.bool (Op.bytesLess a.toList b.toList))
 | .leq,.string a,.string b=>(True,.bool (Op.bytesLess a.toList b.toList || a.toList == b.toList))
 | .gtr,.string a,.string b=>(True,.bool (!(Op.bytesLess a.toList b.toList || a.toList == b.toList)))
 | .geq,.string a,.string b=>(True,.bool (!(Op.bytesLess a.toList b.toList)))
 | _,_,_=>(False,.bool false)
theorem bin_run {P:Program} {op:BinOp} {t:TypeId} {x y:Value} (h:(bin op x y).1) (w:World):(binOp op t x y).run P w = .ok (bin op x y).2 w:=by
 unfold bin at h ⊢
 split at h <;> simp only at h ⊢ <;> (try obtain ⟨h,h2⟩:=h) <;> (try subst h) <;>
  first
  | (simp [binOp,Op.intArith,Op.intCmp,Op.stringOp,wr_eq]; done)
  | (simp [binOp,Op.intDiv,wr_eq,h2]; done)
  | (simp [binOp,Op.intCmp,Bool.beq_eq_decide_eq,bne]; done)
  | (simp [binOp,Op.stringOp,IntKind.max,IntKind.bits,IntKind.signed]; omega)
  | (simp [binOp,Op.shift]; split <;> rfl)
  | (rename_i k a k'; cases k <;> rfl)
  | exact h.elim
def una (op:UnOp) (x:Value):Prop×Value:=
 match op,x with
 | .neg,.int k a=>(True,.int k (wr k (0 - a)))
 | .not,.bool b=>(True,.bool (!b))
 | _,_=>(False,.bool false)
theorem una_run {P:Program} {op:UnOp} {x:Value} (h:(una op x).1) (w:World):(Op.unary op x).run P w = .ok (una op x).2 w:=by
 unfold una at h ⊢
 split at h <;> simp only at h ⊢
 ·simp [Op.unary,Op.intArith,wr_eq]
 ·simp [Op.unary]
def ofVal:Value→AV
 | .agg cs => .agg (cs.toList.map fun x => .d (.v x))
 | .bool b => .c (.d (.v (.bool b)))
 | .int k n => .c (.d (.v (.int k n)))
 | .string s => .c (.d (.v (.string s)))
 | .slice a n c => .c (.d (.v (.slice a n c)))
 | .pointer a => .c (.d (.v (.pointer a)))
 | .nilIface => .c (.d (.v .nilIface))
 | .nilFunc => .c (.d (.v .nilFunc))
 | _ => .c .dead
def St.ev (s:St):Operand→AV
 | .tmp n=>s.t n
 | .const v=>ofVal v
 | .func f => .c (.d (.fn f []))
 | .global _ => .c .dead
def DV.gv:DV→Option Value
 | .v x=>some x
 | _=>none
def Cell.gv:Cell→Option Value
 | .d (.v x)=>some x
 | _=>none
def gvs:List Cell→Option (List Value)
 | []=>some []
 | c::r=>match c.gv,gvs r with
  | some x,some xs=>some (x::xs)
  | _,_=>none
def dgvs:List DV→Option (List Value)
 | []=>some []
 | c::r=>match c.gv,dgvs r with
  | some x,some xs=>some (x::xs)
  | _,_=>none
def Cell.okc:Cell→Bool
 | .d (.v x)=>x.oneCell'
 | .d .any=>false
 | .dead=>false
 | _=>true
def AV.cells:AV→Option (List Cell)
 | .c x=>some [x]
 | .agg cs=>some cs
 | .tup _=>none
def mkAV (g:Bool) (cs:List Cell):AV:=
 match g,cs with
 | true,cs => .agg cs
 | false,[c] => .c c
 | false,_ => .c .dead
structure Out where
 pre:Prop
 v:AV
def Out.bad:Out:=⟨False,.c .dead⟩
def Out.val (pre:Prop) (v:AV):Out:=⟨pre,v⟩
def updO {α:Type} (f:Nat→α) (d:Option Nat) (a:α):Nat→α:=
 match d with
 | some n=>upd f n a
 | none=>f
section
variable {P : Program} {w w1 : World} {ok ok1 : Nat → Prop} {m m1 : Nat → Option Cont} {ρ ρ1 : Nat → Value} {F F1 : Nat → Nat → Prop} {N : Nat} {w0 : World} {S : Fx} {s : St} {a : Act}
theorem all2_map_v {xs:List Value}:All2 (CellRel P w ok m ρ) (xs.map fun x=>Cell.d (.v x)) xs:=by
 induction xs with
 | nil=>exact .nil
 | cons x xs ih=>exact .cons (Deep.v x) ih
theorem ofVal_rel (v:Value):AVRel P w ok m ρ (ofVal v) v:=by
 cases v <;> first
  | exact .c (Deep.v _)
  | exact .c True.intro
  | (rename_i cs; exact (show AVRel P w ok m ρ (.agg (cs.toList.map fun x => .d (.v x))) (.agg cs) from by
    have:=AVRel.agg (P:=P) (w:=w) (ok:=ok) (m:=m) (ρ:=ρ) (all2_map_v (xs:=cs.toList))
    simpa using this))
theorem RelE.ev (h:RelE P N w0 S s a w ρ F) (x:Operand):AVRel P w (okm s.m F) s.m ρ (s.ev x) (a.eval x):=by
 cases x with
 | tmp n=>exact h.tmps n
 | const v=>exact ofVal_rel v
 | func f=>exact .c (by
   have:=Deep.fn (P:=P) (w:=w) (ok:=okm s.m F) f [] (fun _=>undef) (fun j d hj=>by simp at hj)
   exact this)
 | global g=>exact .c True.intro
theorem deep_v {x:Value} {u:Value} (h:Deep P w ok (.v x) u):u=x:=by
 generalize hd:DV.v x=d at h
 cases h <;> first|(injection hd with hd; exact hd.symm)|cases hd
theorem rel_v {x:Value} {u:Value} (h:AVRel P w ok m ρ (.c (.d (.v x))) u):u=x:=by
 cases h with
 | c h=>exact deep_v h
theorem Cell.gv_rel {c:Cell} {x u:Value} (h:c.gv=some x) (hr:CellRel P w ok m ρ c u):u=x:=by
 unfold Cell.gv at h
 split at h
 ·injection h with h; subst h; exact deep_v hr
 ·cases h
theorem gvs_rel:∀ {cs:List Cell} {us xs:List Value},gvs cs=some xs→All2 (CellRel P w ok m ρ) cs us→us=xs
 | [],us,xs,h,hr=>by
  cases hr
  simpa [gvs] using h.symm
 | c::r,us,xs,h,hr=>by
  cases hr with
  | cons h1 h2=>
   simp only [gvs] at h
   split at h
   ·rename_i x xs' hx hxs
    injection h with h
    subst h
    rw [Cell.gv_rel hx h1,gvs_rel hxs h2]
   ·cases h
theorem rel_agg {cs:List Cell} {u:Value} (h:AVRel P w ok m ρ (.agg cs) u):∃ us:List Value,u = .agg us.toArray∧All2 (CellRel P w ok m ρ) cs us:=by
 cases h with
 | agg h=>exact ⟨_,rfl,h⟩
theorem cell_one {c:Cell} {y:Value} (hk:Cell.okc c=true) (hr:CellRel P w ok m ρ c y):y.oneCell'=true:=by
 cases c with
 | d x=>
  cases x with
  | v x=>rw [deep_v hr]; exact hk
  | row e css=>cases hr <;> rfl
  | ro cells=>cases hr; rfl
  | fn f caps=>cases hr; rfl
  | any=>cases hk
 | own κ n=>exact hr.2.2
 | sub κ i j n=>obtain ⟨e,css,cs,e',css',g,n',c',h1,h2,h3,h4,h5,h6,h7⟩:=hr; exact h7
 | sptr κ i j n q=>obtain ⟨g2,n2,c2,hr,rfl⟩:=hr; rfl
 | cut κ lo n=>obtain ⟨e,css,A,c,h1,h2,rfl,h4⟩:=hr; rfl
 | ptr κ off=>obtain ⟨ty,cs,g,h1,h2,rfl⟩:=hr; rfl
 | eptr κ i off=>obtain ⟨e,css,g,n',c',h1,h2,h3,rfl⟩:=hr; rfl
 | fnc f κs=>obtain ⟨h1,rfl⟩:=hr; rfl
 | dead=>cases hk
theorem one_cells {y:Value} (h:y.oneCell'=true):y.cells=#[y]:=by
 cases y <;> first|rfl|cases h
theorem cells_one:∀ {cs:List Cell} {us:List Value},cs.all Cell.okc=true→All2 (CellRel P w ok m ρ) cs us→∀ x∈us,x.oneCell'=true:=by
 intro cs us hk h
 induction h with
 | nil=>intro x hx; cases hx
 | cons h1 _ ih=>
  simp only [List.all_cons,Bool.and_eq_true] at hk
  intro x hx
  rcases List.mem_cons.1 hx with rfl|hx
  ·exact cell_one hk.1 h1
  ·exact ih hk.2 x hx
theorem rel_cells {v:AV} {cs:List Cell} {u:Value} (hc:v.cells=some cs) (h:AVRel P w ok m ρ v u) (hok:cs.all Cell.okc=true):All2 (CellRel P w ok m ρ) cs u.cells.toList∧∀ x∈u.cells.toList,x.oneCell'=true:=by
 cases h with
 | c h=>
  injection hc with hc
  subst hc
  have h1:=cell_one (by simpa using hok) h
  rw [one_cells h1]
  exact ⟨.cons h .nil,fun x hx=>by
   obtain rfl:x=_:=List.mem_singleton.1 hx
   exact h1⟩
 | agg h=>
  injection hc with hc
  subst hc
  simp only [Value.cells]
  exact ⟨h,cells_one hok h⟩
 | tup h=>cases hc
end
end Go.Proofs.YticimffljcljoaaGreatM

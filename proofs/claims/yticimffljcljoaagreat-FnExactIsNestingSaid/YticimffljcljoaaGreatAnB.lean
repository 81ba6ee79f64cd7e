/- The abstract machine: a row's length told anew; a nil told as a row of the call's own; arguments of calls that write. No condition. -/
import Derived.Test.YticimffljcljoaaGreatAnA
set_option linter.unusedVariables false
set_option linter.unusedSimpArgs false
namespace Go.Proofs.YticimffljcljoaaGreatM
open Go Go.RowKit
def Cell.rl (κ n:Nat):Cell→Cell
 | .own k n0=>cond (Nat.beq k κ) (.own k n) (.own k n0)
 | c=>c
def El.rl (κ n:Nat):El→El
 | .c x => .c (x.rl κ n)
 | .agg cs => .agg (cs.map (Cell.rl κ n))
def AV.rl (κ n:Nat):AV→AV
 | .c x => .c (x.rl κ n)
 | .agg cs => .agg (cs.map (Cell.rl κ n))
 | .tup xs => .tup (xs.map (El.rl κ n))
def Cont.rl (κ n:Nat):Cont→Cont
 | .box ty cs => .box ty (cs.map (Cell.rl κ n))
 | .row e css => .row e css
def AV.nl (κ j:Nat):AV→AV
 | .c _ => .c (.own κ 0)
 | .agg cs => .agg (cs.set j (.own κ 0))
 | v=>v
def Cell.isNil:Cell→Bool
 | .d (.v (.slice none 0 0))=>true
 | _=>false
def AV.isNil (j:Nat):AV→Bool
 | .c x=>x.isNil
 | .agg cs=>match cs[j]? with
  | some x=>x.isNil
  | none=>false
 | _=>false
section
variable {P : Program} {N : Nat} {w0 : World} {S : Fx} {s : St} {Q : Exit → St → Prop} {c : Code} {w : World} {a : Act} {ρ : Nat → Value} {F : Nat → Nat → Prop}
def rlen (s:St) (κ n:Nat):St:=⟨fun q=>(s.t q).rl κ n,fun k=>(s.m k).map (Cont.rl κ n)⟩
theorem Rel.relen {κ n:Nat} {e:TypeId} {css:List (List DV)} (hm:s.m κ=some (.row e css)) (hn:css.length=n) (h:Rel P N w0 S s a w):Rel P N w0 S (rlen s κ n) a w:=by
 obtain ⟨ρ,F,h⟩:=h
 have hlive:∀ k,(rlen s κ n).m k≠none↔s.m k≠none:=fun k=>by
  show (s.m k).map (Cont.rl κ n)≠none↔_
  cases s.m k <;> simp
 have hok:∀ k,okm s.m F k→okm (rlen s κ n).m F k:=fun k hk κ' hn' hF=>hk κ' ((hlive κ').1 hn') hF
 have hcell0:=cell_other (m1:=(rlen s κ n).m) (F1:=F) (ρ1:=ρ) (K:=fun _=>false) h (Fr.refl (fun _=>False) w) (fun _ _ _ _ _ hT=>hT) (fun k hk _=>⟨fun hT=>hT,hok k hk⟩) (fun κ' _=>⟨fun e css h1=>by show (s.m κ').map _=_; rw [h1]; rfl,fun ty cs h1=>⟨_,by show (s.m κ').map _=_; rw [h1]; rfl⟩⟩) (fun _ _=>rfl)
 have huse:∀ c:Cell,c.uses (fun _=>false)=false:=fun c=>by cases c <;> simp [Cell.uses]
 have hcell:∀ c u,CellRel P w (okm s.m F) s.m ρ c u→CellRel P w (okm (rlen s κ n).m F) (rlen s κ n).m ρ (c.rl κ n) u:=by
  intro c u hc
  have h1:=hcell0 c u (huse c) hc
  cases c with
  | own k n0=>
   show CellRel P w _ _ ρ (cond (Nat.beq k κ) (.own k n) (.own k n0)) u
   by_cases hk:k=κ
   ·subst hk
    rw [Nat.beq_refl]
    obtain ⟨_,h3,h4⟩:=hc
    exact ⟨⟨e,css,by show (s.m k).map _=_; rw [hm]; rfl,hn⟩,h3,h4⟩
   ·rw [nb_ne hk]
    exact h1
  | _=>exact h1
 refine ⟨ρ,F,h.defers,h.size,fun n'=>?_,fun k c hc=>?_,fun k k' x h1 h2 h3 h4=>h.apart k k' x ((hlive k).1 h1) ((hlive k').1 h2) h3 h4,fun k x h1 h2=>h.base k x ((hlive k).1 h1) h2,h.frame,fun k hlt hn=>h.pin k hlt ((hlive k).1 hn)⟩
 ·show AVRel P w _ _ ρ ((s.t n').rl κ n) _
  have ht:=h.tmps n'
  generalize a.tmps.getD n' undef=u at ht ⊢
  generalize s.t n'=v at ht ⊢
  cases ht with
  | c hc=>exact .c (hcell _ _ hc)
  | agg hc=>exact .agg (hc.map_left _ hcell)
  | tup hc=>
   refine .tup (hc.map_left _ (fun x u hx=>?_))
   cases hx with
   | c hc=>exact .c (hcell _ _ hc)
   | agg hc=>exact .agg (hc.map_left _ hcell)
 ·have hc':(s.m k).map (Cont.rl κ n)=some c:=hc
  obtain ⟨c0,h0,rfl⟩:=Option.map_eq_some_iff.1 hc'
  have:=h.mem k c0 h0
  cases c0 with
  | box ty cs=>
   obtain ⟨g,us,h1,h2,h3,h4,h5⟩:=this
   exact ⟨g,us,h1,h2,h3.map_left _ hcell,h4,h5⟩
  | row e' css'=>exact this
theorem AG.relen (κ n:Nat) {e:TypeId} {css:List (List DV)} (k:AG P N w0 S c Q (rlen s κ n)) (hm:s.m κ=some (.row e css):=by rfl) (hn:css.length=n:=by exact List.length_map _):AG P N w0 S c Q s:=
 ⟨fun a w hr=>k.run a w (hr.relen hm hn)⟩
theorem isNil_eq {c:Cell} (h:c.isNil=true):c = .d (.v (.slice none 0 0)):=by
 unfold Cell.isNil at h
 split at h
 ·rfl
 ·cases h
theorem put_self {a:Act} {q:Nat} (hq:q < a.tmps.size):a.put (some q) (a.tmps.getD q undef)=a:=by
 have h:a.tmps.setIfInBounds q (a.tmps.getD q undef)=a.tmps:=by
  apply Array.ext
  ·simp
  ·intro i h1 h2
   by_cases hi:q=i
   ·subst hi
    simp [h2]
   ·exact Array.getElem_setIfInBounds_ne h2 hi
 unfold Act.put
 simp only [h]
theorem Rel.nilRow {q κ j:Nat} {e:TypeId} (hq:AV.isNil j (s.t q)=true) (hκ:s.m κ=none) (hbig:100≤κ) (hpos:0 < P.cellsOf e) (hN:q < N) (h:Rel P N w0 S s a w):Rel P N w0 S ⟨putT s.t (some (q,(s.t q).nl κ j)),putK s.m [(κ,.row e [])] []⟩ a w:=by
 obtain ⟨ρ,F,hr⟩:=h
 have hown:Own P w (fun _=>False) (.row e []) (.slice none 0 0):=by
  refine .row _ e [] _ [] (fun _ _ _=>False) ⟨by simp,.inl ⟨rfl,rfl⟩⟩ (fun cs hcs=>(by cases hcs)) (fun i j cs d u hi=>(by simp at hi)) (fun _ _ _ _ _ h=>h.elim) (fun _ _ _ h=>h.elim) (fun _ _ _ h=>h.elim) (fun k=>⟨fun h=>h.elim,fun h=>?_⟩) hpos
  rcases h with h|⟨_,_,h⟩
  ·simp [Value.ownBlock] at h
  ·exact h
 have hrel:=fresh_row (D:=[]) hr κ (Fr.refl _ w) (fun k hk=>hk.elim) hown hbig
 have e1:s.killed κ []=s.t:=killT_eq hr [] [] (inK_fresh hr hκ [])
 have e2:newMD s κ [] (.row e [])=putK s.m [(κ,.row e [])] []:=newMD_eq hr hκ [] _
 rw [e1,e2] at hrel
 have hold:=hr.tmps q
 have hnew:=hrel.tmps q
 have hself:putK s.m [(κ,Cont.row e [])] [] κ=some (.row e []):=by unfold putK; simp [lk,show Nat.beq κ κ=true from Nat.beq_refl κ]
 have hown':∀ u,u=Value.slice none 0 0→CellRel P w (okm (putK s.m [(κ,Cont.row e [])] []) (upd F κ fun _=>False)) (putK s.m [(κ,Cont.row e [])] []) (upd ρ κ (.slice none 0 0)) (.own κ 0) u:=fun u hu=>⟨⟨e,[],hself,rfl⟩,by rw [upd_same]; exact hu,by rw [hu]; rfl⟩
 have hv:AVRel P w (okm (putK s.m [(κ,Cont.row e [])] []) (upd F κ fun _=>False)) (putK s.m [(κ,Cont.row e [])] []) (upd ρ κ (.slice none 0 0)) ((s.t q).nl κ j) (a.tmps.getD q undef):=by
  generalize a.tmps.getD q undef=u at hnew ⊢
  have hnew':AVRel P w (okm (putK s.m [(κ,Cont.row e [])] []) (upd F κ fun _=>False)) (putK s.m [(κ,Cont.row e [])] []) (upd ρ κ (.slice none 0 0)) (s.t q) u:=hnew
  generalize s.t q=v at hq hnew' ⊢
  cases hnew' with
  | c hc=>
   rename_i x
   have hx:=isNil_eq (show x.isNil=true from hq)
   subst hx
   exact .c (hown' _ (deep_v hc))
  | agg hc=>
   rename_i cs us
   have hq':(match cs[j]? with|some x=>x.isNil|none=>false)=true:=hq
   split at hq'
   ·rename_i x hj
    have hx:=isNil_eq hq'
    subst hx
    obtain ⟨u,hu,hrel⟩:=hc.getL hj
    have h2:=hc.set (hown' u (deep_v hrel)) j
    have h3:us.set j u=us:=by
     apply List.ext_getElem?
     intro i
     by_cases hi:i=j
     ·subst hi
      rw [List.getElem?_set_self (List.getElem?_eq_some_iff.1 hu).1,hu]
     ·rw [List.getElem?_set_ne (Ne.symm hi)]
    rw [h3] at h2
    exact .agg h2
   ·cases hq'
  | tup hc=>cases hq
 have hput:=hrel.put hN hv
 rw [put_self (by rw [hr.size]; exact hN)] at hput
 rw [putT_upd]
 exact ⟨_,_,hput⟩
theorem AG.nilRow (q κ j:Nat) {e:TypeId} {z b:Nat} {zz:List Value} {g:Bool} {v:AV} (k:AG P N w0 S c Q ⟨putT s.t (some (q,v)),putK s.m [(κ,.row e [])] []⟩) (hti:tyi P e=some (z,b,zz,g)) (hv:(s.t q).nl κ j=v:=by rfl) (hq:AV.isNil j (s.t q)=true:=by rfl) (hκ:s.m κ=none:=by rfl) (hbig:Nat.ble 100 κ=true:=by rfl) (hz:0 < z:=by decide) (hN:Nat.blt q N=true:=by rfl):AG P N w0 S c Q s:=
 ⟨fun a w hr=>k.run a w (hv▸hr.nilRow hq hκ (ble hbig) (by rw [cellsOf_tyi hti]; exact hz) (blt hN))⟩
theorem GOp.skip0 {ops:Array Oper} {o:Oper} {j g d:Nat} {b:Bool} (h:o.guard=some (j,b)) (hj:(ops[j]?).bind (·.dst)=some g) (hd:o.dst=some d) (hN:d < N):
  GOp P N w0 S ops o ⟨[(.tmp g,.tup [])],[],some (d,.tup []),[],[],[],[]⟩:=by
 intro s a w K Q hp hr hK
 have h1:s.t g = .tup []:=hp.1.1
 have hw:Region.wanted o (yielded ops a.tmps)=false:=by
  obtain ⟨ρ,F,hr⟩:=hr
  have h2:=hr.tmps g
  rw [h1] at h2
  have h3:a.tmps.getD g undef = .tuple #[]:=by
   generalize a.tmps.getD g undef=v at h2
   cases h2 with
   | tup h=>cases h; rfl
  have:yielded ops a.tmps j=none:=by
   unfold yielded
   rw [hj]
   rw [Array.getD_eq_getD_getElem?] at h3
   cases h4:a.tmps[g]? with
   | none=>simp [h4]
   | some v=>rw [h4] at h3; simp only [Option.getD_some] at h3; simp [h4,h3]
  simp [Region.wanted,h,this]
 rw [if_neg (by rw [hw]; simp)]
 refine hK _ _ ?_
 obtain ⟨ρ,F,hr⟩:=hr
 have:=hr.put hN (.tup (.nil:All2 (ElRel P w (okm s.m F) s.m ρ) [] []))
 rw [hd]
 refine ⟨ρ,F,?_⟩
 have he:(⟨upd s.t d (.tup []),s.m⟩:St)=Eff.app ⟨[(.tmp g,.tup [])],[],some (d,.tup []),[],[],[],[]⟩ s:=by
  unfold Eff.app
  exact congrArg (fun t=>(⟨t,s.m⟩:St)) (putT_upd s.t d _).symm
 rw [← he]
 exact this
theorem RA.skip0 {ops:Array Oper} {o:Oper} {draw:Bool} {pre:List (Oper×Eff)} {rest:List Oper} {t:Nat→AV} {m:Nat→Option Cont} {K:St→Prop} {j g d:Nat} {b:Bool} (h:o.guard=some (j,b)) (hj:(ops[j]?).bind (·.dst)=some g) (ht:t g = .tup []) (hd:o.dst=some d) (hN:Nat.blt d N=true)
  (k:RA P N w0 S draw ops (pre++[(o,⟨[(.tmp g,.tup [])],[],some (d,.tup []),[],[],[],[]⟩)]) rest ⟨putT t (some (d,.tup [])),m⟩ K):RA P N w0 S draw ops pre (o::rest) ⟨t,m⟩ K:=
 RA.op (GOp.skip0 h hj hd (blt hN)) ⟨⟨ht,True.intro⟩,True.intro,True.intro⟩ k
theorem lenM {α β:Type} {f:α→β} {l:List α} {p:Int→Prop} (h:p (l.length:Int)):p ((l.map f).length:Int):=by
 rw [List.length_map]; exact h
variable {L : List (Nat × Cont)} {τ : Nat → Nat} {as bs : List AV} {cs cs' : List Cell}
theorem m0:All2 (MA L τ) [] [] := .nil
theorem k0:All2 (MC L τ) [] [] := .nil
variable {κ i j n μ : Nat}
theorem u0:All2 (UA L κ i j n μ) [] [] := .nil
end
end Go.Proofs.YticimffljcljoaaGreatM

/- slices.Clone of points, told over the abstract machine. No condition. -/
import Derived.Test.YticimffljcljoaaGreatAnF
import Derived.Test.YticimffljcljoaaGreatProg
import Derived.WalkKit
import Derived.ProofKit
import Derived.OwnWalk
import Derived.Shelf.SlicesG.Clone
set_option linter.unusedVariables false
set_option linter.unusedSimpArgs false
namespace Go.Proofs.YticimffljcljoaaGreat.CloneP
open Go Go.RowKit Go.Lib Go.Shelf Go.Proofs.YticimffljcljoaaGreatM
set_option maxHeartbeats 2000000 in
set_option maxRecDepth 100000 in
theorem clone_at (ad:Addr) (n c:Nat) (zs:List Value) (w:World) (hz:zs.length=n*2) (hbig:n*16≤140737488355328) (hc:∀ j u,zs[j]?=some u→w.cell? (ad.add j)=some u) (h1:∀ u∈zs,u.oneCell'=true):
  Calls Tryz.prog 157 #[.slice (some ad) n c] w fun e w'=>∃ v',e = .returned v'∧w'.ownsRow w.heap.size 143 2 v' n zs∧Below w.heap.size w w':=by
 obtain ⟨i0,hi,hz0,hz1,hz2⟩:=info_parts (P:=Tryz.prog) (e:=143) (z := .agg #[.int .i64 0,.int .i64 0]) (size:=2) (bytes:=16) (by kernel_rfl)
 have t22:Tryz.prog.underlying 37=some (.slice 143):=by kernel_rfl
 have q22:∀ (w:World) (a:Option Addr) (n c n' c':Nat),(binOp .eql 37 (.slice a n c) (.slice none n' c')).run Tryz.prog w = .ok (.bool a.isNone) w:=fun w a n c n' c'=>run_eql_slice_nil w _ _ a n c n' c' t22
 have u22:∀ w,Sem.run Tryz.prog (underlying 37) w = .ok (TypeDesc.slice 143) w:=run_underlying t22
 have A:Aside (∀ j u,zs[j]?=some u→w.cell? (ad.add j)=some u):=hc
 clear hc
 go_enter Tryz.func157,Tryz.ntmps157
 go_wp2_with (at_builtin; refine wpList_append_own _ rfl _ _ 37 rfl w.heap.size 143 i0 (.agg #[.int .i64 0,.int .i64 0]) 2 16 t22 hi hz0 hz1 hz2 rfl (by decide) _ _ _ rfl (World.ownsRow_made w #[] 0 (Nat.le_refl _) (Nat.zero_le _) rfl) ad n c zs rfl ?qc1 ?qc2 ?qc3 ?qc4 ?qc5 ?qc6 ?_)
 case qc1=>exact hz
 case qc2=>
  intro j u hj
  exact cell?_alloc_some _ (A.out j u hj)
 case qc3=>exact h1
 case qc4=>unfold maxLen; omega
 case qc5=>omega
 case qc6=>simp
 intro v' w1 hown hgrow hnil
 go_wp2
 go_ret
 exact ⟨v',rfl,by simpa using hown,((Below.refl _ w).alloc (Nat.le_refl _) _).grown hgrow (by simp) (by intro k hk; simp [Value.ownBlock] at hk; omega)⟩
set_option maxHeartbeats 2000000 in
set_option maxRecDepth 100000 in
theorem clone_nil (n c:Nat) (w:World):Calls Tryz.prog 157 #[.slice none n c] w fun e w'=>e = .returned (.slice none 0 0)∧w'=w:=by
 have t22:Tryz.prog.underlying 37=some (.slice 143):=by kernel_rfl
 have q22:∀ (w:World) (a:Option Addr) (n c n' c':Nat),(binOp .eql 37 (.slice a n c) (.slice none n' c')).run Tryz.prog w = .ok (.bool a.isNone) w:=fun w a n c n' c'=>run_eql_slice_nil w _ _ a n c n' c' t22
 go_enter Tryz.func157,Tryz.ntmps157
 go_wp2
 go_ret
 exact ⟨rfl,rfl⟩
def fl:List (Int×Int)→List Value
 | []=>[]
 | x::r => .int .i64 x.1 :: .int .i64 x.2::fl r
theorem fl_len (l:List (Int×Int)):(fl l).length=l.length*2:=by
 induction l with
 | nil=>rfl
 | cons x r ih=>simp only [fl,List.length_cons,ih]; omega
theorem fl_get (l:List (Int×Int)) (i:Nat):(fl l)[i*2]?=(l[i]?).map (fun x => .int .i64 x.1)∧(fl l)[i*2+1]?=(l[i]?).map (fun x => .int .i64 x.2):=by
 induction l generalizing i with
 | nil=>simp [fl]
 | cons x r ih=>
  cases i with
  | zero=>simp [fl]
  | succ i=>
   have e:(i+1)*2=i*2+1+1:=by omega
   simp only [fl,e,List.getElem?_cons_succ]
   exact ih i
theorem fl_one (l:List (Int×Int)):∀ u∈fl l,u.oneCell'=true:=by
 induction l with
 | nil=>intro u hu; cases hu
 | cons x r ih=>
  intro u hu
  simp only [fl,List.mem_cons] at hu
  rcases hu with rfl|rfl|hu
  ·rfl
  ·rfl
  ·exact ih u hu
def cp (x:Int×Int):List DV:=[.v (.int .i64 x.1),.v (.int .i64 x.2)]
theorem clone_okF (l:List (Int×Int)) (h:l.length*16≤140737488355328):
  OkF Tryz.prog 157 [.c (.d (.row 143 (l.map cp)))] [] (.c (.own 100 l.length)) [(100,.row 143 (l.map cp))]:=by
 have hcl:Tryz.prog.cellsOf 143=2:=by kernel_rfl
 refine ⟨⟨Tryz.f157,Tryz.func157,by kernel_rfl,by kernel_rfl⟩,fun w vals ρ0 F hv hrows=>?_⟩
 obtain ⟨v0,rfl,ok,hd⟩:∃ v0,vals=[v0]∧∃ ok,Deep Tryz.prog w ok (.row 143 (l.map cp)) v0:=by
  cases hv with
  | cons h1 h2=>
   cases h2
   cases h1 with
   | c h1=>exact ⟨_,rfl,_,h1⟩
 have hend:∀ (e':Ending) (w':World),(∃ v',e' = .returned v'∧w'.ownsRow w.heap.size 143 2 v' l.length (fl l)∧Below w.heap.size w w')→
   ∃ u ρ' F',e' = .returned u∧Fr (blocks [] F) w w'∧AVRel Tryz.prog w' (okm (lk [(100,Cont.row 143 (l.map cp))]) F') (lk [(100,Cont.row 143 (l.map cp))]) ρ' (.c (.own 100 l.length)) u∧Go.Proofs.YticimffljcljoaaGreatM.Rows Tryz.prog w' [(100,Cont.row 143 (l.map cp))] ρ' F'∧
   (∀ κ,κ < 100→lk [(100,Cont.row 143 (l.map cp))] κ≠none→ρ' κ=ρ0 κ)∧∀ κ k,lk [(100,Cont.row 143 (l.map cp))] κ≠none→F' κ k→w.heap.size≤k∨blocks [] F k:=by
  rintro e' w' ⟨v',rfl,hown,hbel⟩
  have hOne:∀ κ,lk [(100,Cont.row 143 (l.map cp))] κ≠none→κ=100:=fun κ h=>by simpa using lk_key h
  refine ⟨v',fun _=>v',fun _ k=>v'.ownBlock=some k,rfl,Fr.of_below hbel _,.c ⟨⟨_,_,rfl,List.length_map _⟩,rfl,ownsRow_own hown⟩,⟨fun κ ct hκ=>?_,fun κ κ' k h1 h2 _ _=>(hOne κ h1).trans (hOne κ' h2).symm⟩,fun κ hlt h1=>by have:=hOne κ h1; omega,fun κ k _ hk => .inl (hown.lt k hk).1⟩
  obtain rfl:=hOne κ (by rw [hκ]; simp)
  obtain ⟨_,rfl⟩:=lk_one hκ
  refine .row (fun k=>v'.ownBlock=some k) 143 (l.map cp) v' (fl l) (fun _ _ _=>False) (by rw [List.length_map,hcl]; exact ownsRow_lower hown (Nat.zero_le _)) (fun cs hm=>?_) (fun i j cs d u a1 a2 a3=>?_) (fun _ _ _ _ _ h=>h.elim) (fun _ _ _ h=>h.elim) (fun _ _ _ h=>h.elim) (fun k=>⟨.inl,fun h=>h.elim id (fun ⟨_,_,h⟩=>h.elim)⟩) (by rw [hcl]; decide)
  ·obtain ⟨x,_,rfl⟩:=List.mem_map.1 hm
   rw [hcl]; rfl
  ·rw [List.getElem?_map] at a1
   obtain ⟨x,hx,rfl⟩:=Option.map_eq_some_iff.1 a1
   have g:=fl_get l i
   rw [hx] at g
   rw [hcl] at a3
   cases j with
   | zero=>
    obtain rfl:DV.v (.int .i64 x.1)=d:=by simpa [cp] using a2
    rw [Nat.add_zero,g.1] at a3
    obtain rfl:Value.int .i64 x.1=u:=by simpa using a3
    exact .v _ rfl
   | succ j=>
    cases j with
    | zero=>
     obtain rfl:DV.v (.int .i64 x.2)=d:=by simpa [cp] using a2
     rw [g.2] at a3
     obtain rfl:Value.int .i64 x.2=u:=by simpa using a3
     exact .v _ rfl
    | succ j=>simp [cp] at a2
 by_cases hl:l=[]
 ·subst hl
  obtain ⟨A,c,rfl⟩:∃ A c,v0 = .slice A 0 c:=by
   generalize hq:DV.row 143 (List.map cp ([]:List (Int×Int)))=q at hd
   cases hd with
   | row0 e A c h0=>exact ⟨A,c,rfl⟩
   | row e css ad n c sz vals hn hc hsz hpos hne=>injection hq with _ hq; exact absurd hq.symm hne
   | _=>cases hq
  cases A with
  | none=>exact Calls.mono (clone_nil 0 c w) (fun e' w' ⟨h1,h2⟩=>hend e' w' ⟨_,h1,by subst h2; exact World.ownsRow_nil _ _ _ _,by subst h2; exact Below.refl _ _⟩)
  | some a=>exact Calls.mono (clone_at a 0 c [] w rfl (by omega) (fun j u h=>by simp at h) (fun u h=>by cases h)) (fun e' w' h=>hend e' w' h)
 ·obtain ⟨ad,c,rfl,hcell⟩:∃ ad c,v0 = .slice (some ad) l.length c∧∀ j u,(fl l)[j]?=some u→w.cell? (ad.add j)=some u:=by
   generalize hq:DV.row 143 (List.map cp l)=q at hd
   cases hd with
   | row0 e A c h0=>injection hq with _ hq; exact absurd (List.map_eq_nil_iff.1 hq) hl
   | row e css ad n c sz vals hn hc hsz hpos hne hok hlen hcell hd=>
    injection hq with hq1 hq
    subst hq1 hq
    rw [List.length_map] at hn
    subst hn
    refine ⟨ad,c,rfl,fun j u hu=>?_⟩
    have hj:=(List.getElem?_eq_some_iff.1 hu).1
    rw [fl_len] at hj
    have hi:j / 2 < l.length:=by omega
    have e0:l[j / 2]?=some l[j / 2]:=List.getElem?_eq_getElem hi
    have e1:(l.map cp)[j / 2]?=some (cp l[j / 2]):=by rw [List.getElem?_map,e0]; rfl
    have g:=fl_get l (j / 2)
    rw [e0] at g
    rcases Nat.mod_two_eq_zero_or_one j with hm|hm
    ·have ej:j / 2*2=j:=by omega
     rw [ej] at g
     have h1:=hcell (j / 2) _ 0 _ e1 rfl
     have h2:=hd (j / 2) _ 0 _ e1 rfl
     rw [hsz,hcl,Nat.add_zero,ej] at h1
     rw [h1,← hu,g.1]
     exact congrArg some (deep_v h2)
    ·have ej:j / 2*2+1=j:=by omega
     rw [ej] at g
     have h1:=hcell (j / 2) _ 1 _ e1 rfl
     have h2:=hd (j / 2) _ 1 _ e1 rfl
     rw [hsz,hcl,ej] at h1
     rw [h1,← hu,g.2]
     exact congrArg some (deep_v h2)
   | _=>cases hq
  exact Calls.mono (clone_at ad l.length c (fl l) w (fl_len l) h hcell (fl_one l)) (fun e' w' h=>hend e' w' h)
end Go.Proofs.YticimffljcljoaaGreat.CloneP

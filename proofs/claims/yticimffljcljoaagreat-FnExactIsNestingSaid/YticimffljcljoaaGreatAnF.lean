/- A law's row over the abstract machine: what its arguments read as; a contract's call. No condition. -/
import Derived.Test.YticimffljcljoaaGreatAnE
import Derived.ProofKit
import Derived.OpenShut
import Derived.ShutString
import Derived.ChangeOld
import Derived.SizedLaws
import Derived.Deep.Slices
set_option linter.unusedVariables false
set_option linter.unusedSimpArgs false
namespace Go.Proofs.YticimffljcljoaaGreatM
open Go Go.RowKit
def OpensD {α:Type} (P:Program) (t:TypeId) (c:α→List DV) (B:α→Prop):Prop:=
 ∀ (H:Type) (enc:TypeId×Value→H) (w:World) (base:Nat) (spare:Nat→Bool) (held:Bool) (fuel:Nat) (cs:List Value) (x:DataW H×List MemPlace),
  DataW.trod enc P w base spare held fuel t cs=some x→∃ z,All2 (Deep P w fun _=>True) (c z) cs∧B z
theorem opensD_int {P:Program} {t:TypeId} {k:IntKind} (ht:P.underlying t=some (.int k)):OpensD P t (fun z:Int=>[.v (.int k z)]) (fun z=>(Lit.int k z).wf=true):=by
 intro H enc w base spare held fuel cs x h
 obtain ⟨n,rfl,_,hw⟩:=DataW.trod_int ht h
 exact ⟨n,.cons (.v _) .nil,hw⟩
theorem opensD_string {P:Program} {t:TypeId} (ht:P.underlying t=some .string):OpensD P t (fun z:ByteArray=>[.v (.string z)]) (fun z=>z.size≤maxLen):=by
 intro H enc w base spare held fuel cs x h
 obtain ⟨s,rfl,_,hs⟩:=DataW.trod_string ht h
 exact ⟨s,.cons (.v _) .nil,hs⟩
theorem list_ofD {α:Type} {n:Nat} {Q:Nat→α→Prop} (h:∀ i,i < n→∃ z,Q i z):∃ zs:List α,zs.length=n∧∀ (j:Nat) (p:α),zs[j]?=some p→Q j p:=by
 induction n with
 | zero=>exact ⟨[],rfl,fun j p hj=>by simp at hj⟩
 | succ n ih=>
  obtain ⟨zs,hl,hz⟩:=ih (fun i hi=>h i (by omega))
  obtain ⟨z,hq⟩:=h n (by omega)
  refine ⟨zs++[z],by simp [hl],fun j p hj=>?_⟩
  rcases Nat.lt_or_ge j zs.length with hlt|hge
  ·rw [List.getElem?_append_left hlt] at hj
   exact hz j p hj
  ·have hj2:j=n:=by
    have:=(List.getElem?_eq_some_iff.1 hj).1
    rw [List.length_append,List.length_singleton] at this
    omega
   subst hj2
   rw [← hl,List.getElem?_concat_length] at hj
   obtain rfl:z=p:=by simpa using hj
   exact hq
theorem opensD_slice {α:Type} {P:Program} {t e:TypeId} {c:α→List DV} {B:α→Prop} (ht:P.underlying t=some (.slice e)) (hpos:0 < P.cellsOf e) (he:OpensD P e c B):
  OpensD P t (fun l:List α=>[.row e (l.map c)]) (fun l=>l.length≤maxLen∧∀ x∈l,B x):=by
 intro H enc w base spare held fuel cs x h
 rcases Deep.open_slice ht h with ⟨rfl,_⟩|⟨a,len,cap,m,n,D,Pl,rfl,hb,hl,hm,hmm,_,hi⟩
 ·exact ⟨[],.cons (.row0 _ _ _ (fun _=>rfl)) .nil,Nat.zero_le _,by simp⟩
 ·have hlm:len≤m:=by rw [hmm]; split <;> omega
  have hz:∀ i,i < len→∃ z:α,B z∧∃ cs',cs'.length=P.cellsOf e∧All2 (Deep P w fun _=>True) (c z) cs'∧∀ j u,cs'[j]?=some u→w.cell? (a.add (i*P.cellsOf e+j))=some u:=by
   intro i hil
   obtain ⟨cs',h1,h2⟩:=hi i (by omega)
   obtain ⟨_,hcl,hat⟩:=World.cells?_some h1
   obtain ⟨z,hK,hB⟩:=he H enc w base spare held n cs' _ h2
   refine ⟨z,hB,cs',hcl,hK,fun j u hu=>?_⟩
   have hj:j < P.cellsOf e:=by rw [← hcl]; exact (List.getElem?_eq_some_iff.1 hu).1
   rw [← Deep.add_add,hat j hj]
   exact hu
  obtain ⟨zs,hzl,hzs⟩:=list_ofD hz
  refine ⟨zs,.cons ?_ .nil,by unfold maxLen at hm ⊢; omega,fun x hx=>?_⟩
  ·by_cases h0:zs=[]
   ·subst h0
    obtain rfl:len=0:=hzl.symm
    exact .row0 _ _ _ (fun h=>by cases h)
   ·have hmap:∀ i css,(zs.map c)[i]?=some css→∃ z,zs[i]?=some z∧c z=css:=fun i css h=>by
     rw [List.getElem?_map] at h
     exact Option.map_eq_some_iff.1 h
    refine .row e (zs.map c) a len cap (P.cellsOf e) (fun i j=>(w.cell? (a.add (i*P.cellsOf e+j))).getD default) (by rw [List.length_map,hzl]) hl rfl hpos (by simpa using h0) True.intro (fun cs hcs=>?_) (fun i cs j d h1 h2=>?_) (fun i cs j d h1 h2=>?_)
    ·obtain ⟨z,hz1,rfl⟩:=List.mem_map.1 hcs
     obtain ⟨i,hi1⟩:=List.mem_iff_getElem?.1 hz1
     obtain ⟨_,cs',h3,h4,_⟩:=hzs i z hi1
     rw [h4.len,h3]
    ·obtain ⟨z,h3,rfl⟩:=hmap i cs h1
     obtain ⟨_,cs',h4,h5,h6⟩:=hzs i z h3
     obtain ⟨u,h7,_⟩:=h5.getL h2
     rw [h6 j u h7]; rfl
    ·obtain ⟨z,h3,rfl⟩:=hmap i cs h1
     obtain ⟨_,cs',h4,h5,h6⟩:=hzs i z h3
     obtain ⟨u,h7,h8⟩:=h5.getL h2
     rw [h6 j u h7]
     exact h8
  ·obtain ⟨j,hj⟩:=List.mem_iff_getElem?.1 hx
   exact (hzs j x hj).1
theorem OpensD.to {α:Type} {P:Program} {t:TypeId} {c c':α→List DV} {B B':α→Prop} (h:OpensD P t c B) (hc:∀ z,c z=c' z) (hB:∀ z,B z→B' z):OpensD P t c' B':=by
 intro H enc w base spare held fuel cs x hx
 obtain ⟨z,h1,h2⟩:=h H enc w base spare held fuel cs x hx
 exact ⟨z,hc z▸h1,hB z h2⟩
theorem all2_pair {α β:Type} {R:α→β→Prop} {a b:List α} {cs:List β} (o s:Nat) (h1:All2 R a ((cs.drop o).take s)) (h2:All2 R b (cs.drop (o+s))):All2 R (a++b) (cs.drop o):=by
 rw [← List.take_append_drop s (cs.drop o),List.drop_drop]
 exact h1.append h2
theorem all2_last {α β:Type} {R:α→β→Prop} {b:List α} {cs:List β} (o s:Nat) (hl:cs.length=o+s) (h:All2 R b ((cs.drop o).take s)):All2 R b (cs.drop o):=by
 rwa [List.take_of_length_le (by rw [List.length_drop]; omega)] at h
section
variable {P : Program} {w : World}
abbrev okN:Nat→Prop:=okm (lk []) fun _ _=>False
theorem toOkN {d:DV} {u:Value} (h:Deep P w (fun _=>True) d u):Deep P w okN d u:=h.mono (fun k _ _=>⟨rfl,fun κ hn=>absurd rfl hn⟩)
abbrev ArgR (P:Program) (w:World):AV→Value→Prop:=AVRel P w okN (lk []) fun _=>default
theorem arg_one {d:DV} {u:Value} (h:All2 (Deep P w fun _=>True) [d] [u]):ArgR P w (.c (.d d)) u:=by
 cases h with
 | cons h _=>exact .c (toOkN h)
theorem arg_agg {ds:List DV} {us:List Value} (h:All2 (Deep P w fun _=>True) ds us):ArgR P w (.agg (ds.map .d)) (.agg us.toArray):=
 .agg (h.map_left _ (fun _ _ h=>toOkN h))
theorem OkF.closed {f:FuncId} {as:List AV} {x:Value} (hc:OkF P f as [] (.c (.d (.v x))) []) {vals:List Value} (ha:All2 (ArgR P w) as vals):Calls P f vals.toArray w (fun e w'=>e = .returned x∧Below w.heap.size w w'):=by
 refine Calls.mono (hc.run w vals (fun _=>default) (fun _ _=>False) ha ⟨fun κ c hc=>(by cases hc),fun κ κ' k h=>absurd rfl h⟩) (fun e w' he=>?_)
 obtain ⟨u,ρ',F',rfl,hfr,hu,_⟩:=he
 refine ⟨by rw [rel_v hu],(hfr.mono (fun k hk _=>?_)).below⟩
 obtain ⟨_,h,_⟩:=hk
 exact h rfl
end
end Go.Proofs.YticimffljcljoaaGreatM

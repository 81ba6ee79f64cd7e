/- An append of a part of a row. No condition. -/
import Derived.Test.YticimffljcljoaaGreatAnJ
set_option linter.unusedVariables false
set_option linter.unusedSimpArgs false
namespace Go.Proofs.YticimffljcljoaaGreatM
open Go Go.RowKit
section
variable {P : Program} {w : World} {ρ : Nat → Value} {F : Nat → Nat → Prop} {N : Nat} {w0 : World} {S : Fx} {s : St} {a : Act} {o : Oper} {ops : Array Oper} {draw : Bool} {pre : List (Oper × Eff)} {rest : List Oper} {t : Nat → AV} {m : Nat → Option Cont} {K : St → Prop} {G : List (Operand × AV)} {d : Nat}
theorem src_cut (hr:RelE P N w0 S s a w ρ F) {κ2 lo n:Nat} {e:TypeId} {css2:List (List DV)} {y:Value} (hm:s.m κ2=some (.row e css2)) (hy:AVRel P w (okm s.m F) s.m ρ (.c (.cut κ2 lo n)) y) (hv:∀ cs∈css2,cs.all isV=true):Src P w s F e [] ((css2.drop lo).take n) y:=by
 cases hy with
 | c h1=>
  obtain ⟨e',css',A,c,h2,h3,h4,h5,h6,h7⟩:=h1
  rw [hm] at h2
  injection h2 with h2
  injection h2 with h2 h2'
  subst h2 h2'
  obtain ⟨fl,Fs,how,hlen,hcc,hdj,hbk,hrg,hF,hpos⟩:=Own.row_inv (hr.mem κ2 _ hm)
  have hfl:=how.1
  have hl:((css2.drop lo).take n).length=n:=by rw [List.length_take,List.length_drop]; omega
  have hget:∀ q:Nat,((css2.drop lo).take n)[q]?=if q < n then css2[lo+q]? else none:=fun q=>by
   rw [List.getElem?_take]
   split
   ·rw [List.getElem?_drop]
   ·rfl
  have hnews:∀ q:Nat,((fl.drop (lo*P.cellsOf e)).take (n*P.cellsOf e))[q]?=if q < n*P.cellsOf e then fl[lo*P.cellsOf e+q]? else none:=fun q=>by
   rw [List.getElem?_take]
   split
   ·rw [List.getElem?_drop]
   ·rfl
  have hle:lo*P.cellsOf e+n*P.cellsOf e≤fl.length:=by
   rw [hfl,← Nat.add_mul]
   exact Nat.mul_le_mul_right _ h3
  have hx:∀ {cs:List DV} {d:DV} {i j:Nat} {u:Value},css2[i]?=some cs→cs[j]?=some d→fl[i*P.cellsOf e+j]?=some u→Own P w (fun _=>False) d u:=by
   intro cs d i j u hi hj hu
   have h8:=hcc i j cs d u hi hj hu
   have h9:=List.all_eq_true.1 (hv cs (List.mem_of_getElem? hi)) d (List.mem_of_getElem? hj)
   generalize Fs i j=G at h8
   cases d with
   | v x=>
    cases h8 with
    | v x' h=>exact .v _ h
   | _=>cases h9
  refine ⟨(fl.drop (lo*P.cellsOf e)).take (n*P.cellsOf e),fun _ _ _=>False,by rw [List.length_take,List.length_drop,hl]; omega,fun cs hcs=>hlen cs (List.mem_of_mem_drop (List.mem_of_mem_take hcs)),fun u hu=>?_,fun i j cs d u hi hj hu=>?_,fun _ _ _ _ _ h=>h.elim,fun _ _ _ h=>h.elim,fun _ _ _ h=>h.elim,?_⟩
  ·obtain ⟨q,hq⟩:=List.mem_iff_getElem?.1 (List.mem_of_mem_drop (List.mem_of_mem_take hu))
   have hq1:q < css2.length*P.cellsOf e:=by rw [← hfl]; exact (List.getElem?_eq_some_iff.1 hq).1
   have hi:q / P.cellsOf e < css2.length:=Nat.div_lt_of_lt_mul (by rw [Nat.mul_comm]; exact hq1)
   have hj:q%P.cellsOf e < (css2[q / P.cellsOf e]).length:=by rw [hlen _ (List.getElem_mem hi)]; exact Nat.mod_lt _ hpos
   refine (hx (List.getElem?_eq_getElem hi) (List.getElem?_eq_getElem hj) ?_).one
   rw [Nat.mul_comm,Nat.div_add_mod]
   exact hq
  ·rw [hget] at hi
   by_cases hin:i < n
   ·rw [if_pos hin] at hi
    have hj2:j < P.cellsOf e:=by rw [← hlen cs (List.mem_of_getElem? hi)]; exact (List.getElem?_eq_some_iff.1 hj).1
    rw [hnews] at hu
    by_cases hc:i*P.cellsOf e+j < n*P.cellsOf e
    ·rw [if_pos hc] at hu
     refine hx hi hj ?_
     rw [Nat.add_mul,Nat.add_assoc]
     exact hu
    ·rw [if_neg hc] at hu; cases hu
   ·rw [if_neg hin] at hi; cases hi
  ·rw [hl]
   by_cases hn:0 < n
   ·obtain ⟨g,n',c',h8,h9⟩:=h7 hn
    refine .inr ⟨⟨g,lo*P.cellsOf e,none⟩,c,by rw [h4,h9],fun q u hq=>?_⟩
    rw [hnews] at hq
    split at hq
    ·have:=how.cells (g:=g) (by rw [h8]; rfl) _ u hq
     have he:(⟨g,0,none⟩:Addr).add (lo*P.cellsOf e+q)=(⟨g,lo*P.cellsOf e,none⟩:Addr).add q:=by rw [add_at,add_at,Nat.zero_add]
     rw [← he]; exact this
    ·cases hq
   ·obtain rfl:n=0:=by omega
    cases A with
    | none=>
     have:=h6 rfl
     subst this
     exact .inl ⟨h4,by simp⟩
    | some ad=>exact .inr ⟨ad,c,h4,fun q u hq=>by rw [hnews,if_neg (by omega)] at hq; cases hq⟩
theorem a_appC {x y:Operand} {T e:TypeId} {z b:Nat} {zz:List Value} {g:Bool} {κ κ2 n lo n2 n':Nat} {css css2 css':List (List DV)} (k:RM P N w0 S draw ops pre rest t m K o G [(x,.c (.own κ n)),(y,.c (.cut κ2 lo n2))] [(κ,.row e css),(κ2,.row e css2)] (some (d,.c (.own κ n'))) [] [(κ,some (.row e css'))] [κ] []) (hv:∀ cs∈css2,cs.all isV=true) (hti:tyi P e=some (z,b,zz,g)) (h63:n'≤maxLen) (hb:n'*b≤140737488355328) (hc:css++(css2.drop lo).take n2=css') (hn:css'.length=n') (hu:P.underlying T=some (.slice e)) (ho:o.op = .call { callee := .builtin .append,args:=#[x,y],argTypes:=#[T,T] }:=by rfl) (hd:o.dst=some d:=by rfl) (hN:Nat.blt d N=true:=by rfl) (hx:St.ev ⟨t,m⟩ x = .c (.own κ n):=by rfl) (hm:m κ=some (.row e css):=by rfl) (hy:St.ev ⟨t,m⟩ y = .c (.cut κ2 lo n2):=by rfl) (hm2:m κ2=some (.row e css2):=by rfl) (hbig:Nat.ble 100 κ=true:=by rfl) (hzz:zz.length=z:=by rfl) (hg:Gs ops o ⟨t,m⟩ G:=by exact Gs.no rfl):RA P N w0 S draw ops pre (o::rest) ⟨t,m⟩ K:=
 RA.mem hg k ⟨hx,hy,True.intro⟩ ⟨hm,hm2,True.intro⟩ True.intro (fun s hs hk _=>by
  subst hc hn
  rw [List.length_append] at h63 hb
  exact s_append (D:=[]) ho hs.1 hk.1 (ble hbig) (by simp) (fun a w ρ F hr=>by
   have h1:=hr.ev y
   rw [hs.2.1] at h1
   exact src_cut hr hk.2.1 h1 hv) hu hti hzz h63 hb hd (blt hN))
inductive CanR (I:St→Prop):St→Prop
 | mk {s:St} {ts:List (Nat×AV)} {ms:List (Nat×Cont)} (σ:Nat→Nat) (h:I (St.of ts ms)) (ht:canT s σ ts) (hm:canM s σ ms) (hk:okCan σ ts ms=true):CanR I s
 | rl {s:St} (κ n:Nat) {e:TypeId} {css:List (List DV)} (k:CanR I (rlen s κ n)) (hm:s.m κ=some (.row e css):=by rfl) (hn:css.length=n:=by exact List.length_map _):CanR I s
theorem CanR.rel {I:St→Prop} {s:St} (h:CanR I s) {w:World} {a:Act} (hr:Rel P N w0 S s a w):∃ s',I s'∧Rel P N w0 S s' a w:=by
 induction h with
 | mk σ h ht hm hk=>exact ⟨_,h,hr.canon σ ht hm hk⟩
 | rl κ n k hm hn ih=>exact ih (hr.relen hm hn)
theorem AG.joinR {c:Code} {Q:Exit→St→Prop} (I:St→Prop) (k:AG P N w0 S c (thenQ (CanR I) Q) s) (h:∀ s,I s→Q .normal s):AG P N w0 S c Q s:=
 ⟨fun a w hr=>wp_mono (k.run a w hr) (fun e a w he=>by
  obtain ⟨s',h1,h2⟩:=he
  cases e with
  | normal=>
   obtain ⟨s2,c4,c1⟩:=h1.rel h2
   exact ⟨_,h _ c4,c1⟩
  | _=>exact ⟨s',h1,h2⟩)⟩
end
end Go.Proofs.YticimffljcljoaaGreatM

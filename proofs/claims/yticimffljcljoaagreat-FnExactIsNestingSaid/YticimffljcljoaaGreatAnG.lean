/- Words that a contract of the shelf's sorts needs, to be told over the abstract machine: a row of a caller's put in order where it lies. No condition. -/
import Derived.Test.YticimffljcljoaaGreatAnF
import Derived.Shelf.GgSortFunc.InsertionK
set_option linter.unusedVariables false
namespace Go.Proofs.YticimffljcljoaaGreatM
open Go Go.RowKit Go.Sort
variable {P : Program}
theorem putCells_id_size (off:Nat) (d c:Array Value):(putCells id off d c).size=c.size:=by simp [putCells]
theorem putCells_take (d c:Array Value) (h:d.size≤c.size):(putCells id 0 d c).toList.take d.size=d.toList:=by
 apply List.ext_getElem
 ·simp [putCells]; omega
 ·intro i h1 h2
  have h3:i < d.size:=by simpa using h2
  simp only [List.getElem_take,Array.getElem_toList,putCells,Array.getElem_mapIdx,id,Nat.zero_add,Nat.sub_zero]
  rw [if_pos ⟨Nat.zero_le _,h3⟩,getElem!_pos d i h3]
theorem heap_sorted {w:World} {blk n:Nat} {d cur:Array Value} {os:Array Obj} {e:TypeId} {z:Nat×Nat} (h:w.heap[blk]?=some (.cells cur e z)):
  (grow (putRow id (Sort.ahead w n) blk 0 d) os).heap[blk]?=some (.cells (putCells id 0 d cur) e z):=by
 have hlt:=(Array.getElem?_eq_some_iff.1 h).1
 show ((w.heap.modify blk (onCells (putCells id 0 d)))++os)[blk]?=_
 rw [Array.getElem?_append_left (by rw [Array.size_modify]; exact hlt),Array.getElem?_modify,if_pos rfl,h]
 rfl
theorem fr_sorted {w:World} {blk n:Nat} {d:Array Value} {os:Array Obj} {S:Nat→Prop} (hS:S blk):Fr S w (grow (putRow id (Sort.ahead w n) blk 0 d) os):=by
 refine ⟨rfl,rfl,rfl,?_,fun k hk hn=>?_⟩
 ·rw [size_grow,size_putRow]; exact Nat.le_add_right _ _
 ·show ((w.heap.modify blk (onCells (putCells id 0 d)))++os)[k]?=_
  rw [Array.getElem?_append_left (by rw [Array.size_modify]; exact hk),Array.getElem?_modify,if_neg (fun (he:blk=k)=>hn (he▸hS))]
theorem owns_sorted {w:World} {blk m n cap size:Nat} {d:Array Value} {os:Array Obj} {e:TypeId} {xs:List Value} (h:w.ownsRow 0 e size (.slice (some ⟨blk,0,none⟩) n cap) n xs) (hd:d.size=n*size):
  (grow (putRow id (Sort.ahead w m) blk 0 d) os).ownsRow 0 e size (.slice (some ⟨blk,0,none⟩) n cap) n d.toList:=by
 obtain ⟨h1,h2⟩:=h
 refine ⟨by simpa using hd,.inr ?_⟩
 rcases h2 with ⟨h2,_⟩|⟨g,cap',cur,hv,hg,hh,hnc,hm,hsz,htk⟩
 ·cases h2
 ·injection hv with hv1 hv2 hv3
  injection hv1 with hv1
  injection hv1 with hv1
  subst hv1 hv3
  refine ⟨blk,cap,putCells id 0 d cur,rfl,hg,heap_sorted hh,hnc,hm,by rw [putCells_id_size]; exact hsz,?_⟩
  rw [← hd]
  exact putCells_take d cur (by rw [hsz,hd]; exact Nat.mul_le_mul_right _ hnc)
section
variable {α : Type} [Inhabited α]
theorem flatK_at (enc:α→List Value) (k:Nat) (hk:∀ x,(enc x).length=k) (l:List α) {i j:Nat} {x:α} (hi:l[i]?=some x) (hj:j < k):(flatK enc k l.toArray)[i*k+j]! = (enc x)[j]! := by
 have hlt:=(List.getElem?_eq_some_iff.1 hi).1
 have hb:i*k+j < l.length*k:=by
  have:i*k+k≤l.length*k:=by rw [← Nat.succ_mul]; exact Nat.mul_le_mul_right _ hlt
  omega
 have hpos:0 < k:=by omega
 rw [get_flatK enc k l.toArray _ (by simpa using hb),Nat.mul_comm i k,Nat.mul_add_div hpos,Nat.div_eq_of_lt hj,Nat.add_zero,Nat.mul_add_mod,Nat.mod_eq_of_lt hj]
 congr 1
 rw [getElem!_pos l.toArray i (by simpa using hlt)]
 have:=(List.getElem?_eq_some_iff.1 hi).2
 simpa using congrArg enc this
end
end Go.Proofs.YticimffljcljoaaGreatM

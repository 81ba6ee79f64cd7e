/- slices.Delete of points, told over the abstract machine. No condition. -/
import Derived.Test.YticimffljcljoaaGreatAnQ
import Derived.Test.YticimffljcljoaaGreatProg
import Derived.WalkKit
import Derived.ProofKit
import Derived.OwnWalk
import Derived.Shelf.SlicesG.Delete
set_option linter.unusedVariables false
set_option linter.unusedSimpArgs false
namespace Go.Proofs.YticimffljcljoaaGreat.DeleteP
open Go Go.RowKit Go.Lib Go.Shelf Go.Sort Go.Proofs.YticimffljcljoaaGreatM
theorem run_clear2 {P:Program} (w:World) (t e ty:TypeId) (z u:Value) (ht:P.underlying t=some (.slice e)) (hv:∀ w,(zeroValue e).run P w = .ok z w) (hz:z.cells=#[u,u]) (h1:u.oneCell'=true) (b o n c:Nat) (hn:0 < n)
  (hc:∀ j,j < n*2→(w.cell? ⟨b,o+j,none⟩).isSome=true) (hf:∀ j,j < n*2→w.frozen? ⟨b,o+j,none⟩=false):
  (Builtin.clear_ #[t] ty #[.slice (some ⟨b,o,none⟩) n c]).run P w = .ok (.tuple #[]) (w.setCells b o (List.replicate (n*2) u)):=by
 have hzc:(Builtin.zeroCells z.cells n).toList=List.replicate (n*2) u:=by
  rw [hz]
  simp [Builtin.zeroCells]
  apply List.ext_getElem
  ·simp
  ·intro i h1 h2
   rcases Nat.mod_two_eq_zero_or_one i with h|h <;> simp [h]
 have hst:=run_storeCells_cells (P:=P) b o (List.replicate (n*2) u) 0 w (by simpa using hc) (by simpa using hf) (by intro v hv'; rw [List.eq_of_mem_replicate hv']; exact h1)
 simp only [Nat.add_zero] at hst
 obtain ⟨m,rfl⟩:∃ m,n=m+1:=⟨n - 1,by omega⟩
 simp [Builtin.clear_,run_underlying ht,hv,hzc,hst]
set_option maxHeartbeats 4000000 in
set_option maxRecDepth 1000000 in
theorem del_at (blk off cap n i j:Nat) (d:Array Value) (w:World) (hsz:d.size=n*2) (hH:Holds id w blk off d) (hone:∀ u∈d.toList,u.oneCell'=true) (hcap:n≤cap) (hm:cap≤9223372036854775807) (hi:i < j) (hj:j≤n):
  Calls Tryz.prog 159 #[.slice (some ⟨blk,off,none⟩) n cap,.int .i64 i,.int .i64 j] w fun e w'=>e = .returned (.slice (some ⟨blk,off,none⟩) (n - (j - i)) cap)∧∃ q,w'=putRow id (Sort.ahead w q) blk off (d.toList.take (i*2)++d.toList.drop (j*2)++List.replicate ((j - i)*2) (Value.int .i64 0)).toArray:=by
 obtain ⟨i0,hi0,hz0,hz1,hz2⟩:=info_parts (P:=Tryz.prog) (e:=143) (z := .agg #[.int .i64 0,.int .i64 0]) (size:=2) (bytes:=16) (by kernel_rfl)
 have t22:Tryz.prog.underlying 37=some (.slice 143):=by kernel_rfl
 have v23:∀ w,(zeroValue 143).run Tryz.prog w = .ok (.agg #[.int .i64 0,.int .i64 0]) w:=fun w=>by kernel_rfl
 obtain ⟨news,hnews⟩:∃ news,news=d.toList.drop (j*2):=⟨_,rfl⟩
 have hlen:news.length=(n - j)*2:=by rw [hnews]; simp; omega
 obtain ⟨A,hA,hsrc⟩:∃ A:Addr,(if cap=j then some (⟨blk,off,none⟩:Addr) else some ⟨blk,off+j*2,none⟩)=some A∧Hid (∀ t u,news[t]?=some u→w.drew.cell? (A.add t)=some u):=by
  by_cases h:cap=j
  ·refine ⟨⟨blk,off,none⟩,by simp [h],fun t u hu=>?_⟩
   have h0:news.length=0:=by rw [hlen]; omega
   rw [List.length_eq_zero_iff.1 h0] at hu
   simp at hu
  ·refine ⟨⟨blk,off+j*2,none⟩,by simp [h],fun t u hu=>?_⟩
   have ht:t < (n - j)*2:=by
    have:=(List.getElem?_eq_some_iff.1 hu).1
    rwa [hlen] at this
   rw [hnews,List.getElem?_drop,Array.getElem?_toList,Array.getElem?_eq_getElem (by omega)] at hu
   rw [Addr.add_lit,show off+j*2+t=off+(j*2+t) by omega]
   have h3:=(hH (j*2+t) (by omega)).1
   rw [getElem!_pos d _ (by omega)] at h3
   exact h3.trans hu
 have s1:Hid (news.length=(n - j)*2):=hlen
 have s2:Hid (∀ u∈news,u.oneCell'=true):=by
  intro u hu
  rw [hnews] at hu
  exact hone u (List.mem_of_mem_drop hu)
 have s3:Hid (∀ t,t < news.length→(w.drew.cell? ⟨blk,off+i*2+t,none⟩).isSome=true∧w.drew.frozen? ⟨blk,off+i*2+t,none⟩=false):=by
  intro t ht
  rw [hlen] at ht
  rw [Nat.add_assoc]
  exact ⟨by show (w.cell? _).isSome=true; rw [(hH (i*2+t) (by omega)).1]; rfl,(hH (i*2+t) (by omega)).2⟩
 obtain ⟨W1,hW1⟩:∃ W1,W1=w.drew.setCells blk (off+i*2) news:=⟨_,rfl⟩
 have hW1':W1=putRow id (Sort.ahead w 1) blk off (lay d (i*2) news):=by
  have h3:=putRow_setCells id (Sort.ahead w 1) blk off news d (i*2) (by rw [hlen]; omega)
  rw [List.map_id,putRow_self id (Sort.ahead w 1) blk off d (holds_ahead id w 1 blk off d hH)] at h3
  rw [hW1,← h3]
  rfl
 have hH1:Holds id W1 blk off (lay d (i*2) news):=by rw [hW1']; exact holds_putRow id _ blk off d _ (holds_ahead id w 1 blk off d hH) (lay_size _ _ _)
 have hcl:∀ ty,(Builtin.clear_ #[37] ty #[.slice (some ⟨blk,off+(i+(n - j))*2,none⟩) (n - (i+(n - j))) (cap - (i+(n - j)))]).run Tryz.prog W1 = .ok (.tuple #[]) (W1.setCells blk (off+(i+(n - j))*2) (List.replicate ((n - (i+(n - j)))*2) (.int .i64 0))):=
  fun ty=>run_clear2 W1 _ _ ty _ _ t22 v23 rfl rfl blk (off+(i+(n - j))*2) _ _ (by omega) (fun t ht=>by rw [show off+(i+(n - j))*2+t=off+((i+(n - j))*2+t) by omega,(hH1 _ (by rw [lay_size]; omega)).1]; rfl) (fun t ht=>by rw [show off+(i+(n - j))*2+t=off+((i+(n - j))*2+t) by omega]; exact (hH1 _ (by rw [lay_size]; omega)).2)
 have X:Aside (W1=putRow id (Sort.ahead w 1) blk off (lay d (i*2) news)):=hW1'
 have hW:Hid (W1=w.drew.setCells blk (off+i*2) news):=hW1
 have N:Aside (news=d.toList.drop (j*2)):=hnews
 have hic:i≤cap:=by omega
 have hjc:j≤cap:=by omega
 have mixed:Tryz.prog.follows Departure.mixedOrders=true:=by kernel_rfl
 clear hW1 hW1' hH1 hH hnews hlen hone
 go_enter Tryz.func159,Tryz.ntmps159
 go_wp2_with fail
 go_region_law_o (refine step_append_room rfl (.tmp 22) (.tmp 25) 37 rfl 143 i0 2 t22 hi0 hz1 blk off i cap (by simp [Act.eval,Act.put]) A (n - j) (cap - j) news (by simp [Act.eval,Act.put]) s1.out hsrc.out s2.out (by omega) s3.out ?_; rw [← hW.out])
 go_wp2
 go_ret
 refine ⟨by rw [show n - (j - i)=i+(n - j) by omega]; rfl,1,?_⟩
 have e1:=delete_arr d (i*2) (j*2) (Value.int .i64 0) (by omega) (by omega)
 rw [show j*2 - i*2=(j - i)*2 by omega,← N.out] at e1
 rw [← N.out,← e1]
 have e2:=putRow_setCells id (Sort.ahead w 1) blk off (List.replicate ((j - i)*2) (Value.int .i64 0)) (lay d (i*2) news) (i*2+(d.size - j*2)) (by rw [lay_size]; simp; omega)
 rw [← X.out,List.map_id] at e2
 rw [← e2,show i*2+(d.size - j*2)=(i+(n - j))*2 by omega,show j - i=n - (i+(n - j)) by omega]
def en (x:Int×Int):List Value:=[.int .i64 x.1,.int .i64 x.2]
def cp (x:Int×Int):List DV:=[.v (.int .i64 x.1),.v (.int .i64 x.2)]
def fl:List (Int×Int)→List Value
 | []=>[]
 | x::r => .int .i64 x.1 :: .int .i64 x.2::fl r
theorem fl_len (l:List (Int×Int)):(fl l).length=l.length*2:=by
 induction l with
 | nil=>rfl
 | cons x r ih=>simp only [fl,List.length_cons,ih]; omega
theorem fl_get (l:List (Int×Int)) (i:Nat):(fl l)[i*2]?=(l[i]?).map (fun x => .int .i64 x.1)∧(fl l)[i*2+1]?=(l[i]?).map (fun x => .int .i64 x.2):=by
 induction l generalizing i with
 | nil=>simp [fl]
 | cons x r ih=>
  cases i with
  | zero=>simp [fl]
  | succ i=>
   have e:(i+1)*2=i*2+1+1:=by omega
   simp only [fl,e,List.getElem?_cons_succ]
   exact ih i
theorem fl_one (l:List (Int×Int)):∀ u∈fl l,u.oneCell'=true:=by
 induction l with
 | nil=>intro u hu; cases hu
 | cons x r ih=>
  intro u hu
  simp only [fl,List.mem_cons] at hu
  rcases hu with rfl|rfl|hu
  ·rfl
  ·rfl
  ·exact ih u hu
theorem fl_app (a b:List (Int×Int)):fl (a++b)=fl a++fl b:=by
 induction a with
 | nil=>rfl
 | cons x r ih=>simp only [List.cons_append,fl,ih]
theorem fl_take (l:List (Int×Int)) (i:Nat):fl (l.take i)=(fl l).take (i*2):=by
 induction l generalizing i with
 | nil=>simp [fl]
 | cons x r ih=>
  cases i with
  | zero=>simp [fl]
  | succ i=>
   have e:(i+1)*2=i*2+1+1:=by omega
   simp only [fl,e,List.take_succ_cons,ih]
theorem fl_drop (l:List (Int×Int)) (i:Nat):fl (l.drop i)=(fl l).drop (i*2):=by
 induction l generalizing i with
 | nil=>simp [fl]
 | cons x r ih=>
  cases i with
  | zero=>simp [fl]
  | succ i=>
   have e:(i+1)*2=i*2+1+1:=by omega
   simp only [fl,e,List.drop_succ_cons,ih]
theorem flatK_fl (l:List (Int×Int)):flatK en 2 l.toArray=(fl l).toArray:=by
 apply Array.ext
 ·rw [size_flatK]; simp [fl_len]
 ·intro t h1 h2
  have h3:t < l.length*2:=by rw [size_flatK] at h1; simpa using h1
  have g:=get_flatK en 2 l.toArray t (by simpa using h3)
  rw [getElem!_pos _ t h1] at g
  rw [g]
  have hi:t / 2 < l.length:=by omega
  have e0:l[t / 2]?=some l[t / 2]:=List.getElem?_eq_getElem hi
  have q:=fl_get l (t / 2)
  rw [e0] at q
  have e1:l.toArray[t / 2]! = l[t / 2]:=by rw [getElem!_pos _ _ (by simpa using hi)]; simp
  rw [e1]
  rw [List.getElem_toArray]
  have h4:(fl l)[t]?=some (fl l)[t]:=List.getElem?_eq_getElem (by rw [fl_len]; exact h3)
  rcases Nat.mod_two_eq_zero_or_one t with hm|hm
  ·have ej:t / 2*2=t:=by omega
   rw [ej,h4] at q
   rw [hm,Option.some.inj q.1]; rfl
  ·have ej:t / 2*2+1=t:=by omega
   rw [ej,h4] at q
   rw [hm,Option.some.inj q.2]; rfl
theorem del_okN (l:List (Int×Int)) (i:Int) (h0:0≤i) (hi:i < (l.length:Int)):
  OkN Tryz.prog 159 143 i (i+1) (l.map cp) ((l.take i.toNat++l.drop (i.toNat+1)).map cp):=by
 obtain ⟨k,rfl⟩:=Int.eq_ofNat_of_zero_le h0
 have hk:k < l.length:=by omega
 have e1:((k:Nat):Int)+1=((k+1:Nat):Int):=by omega
 rw [e1]
 show OkN Tryz.prog 159 143 (k:Int) ((k+1:Nat):Int) (l.map cp) ((l.take k++l.drop (k+1)).map cp)
 refine cut_okN (k:=2) (k:Int) ((k+1:Nat):Int) en cp (fun _=>rfl) (by kernel_rfl) (by decide) (fun _=>rfl) (fun x v hv=>by simp [en] at hv; rcases hv with rfl|rfl <;> rfl) ⟨Tryz.f159,Tryz.func159,by kernel_rfl,by kernel_rfl⟩ l (l.take k++l.drop (k+1)) [(0,0)] (by simp; omega) (fun hnil=>by subst hnil; simp at hk) (fun blk cap w hH hlt hc hm=>?_)
 have hH':Holds id w blk 0 (flatK en 2 l.toArray):=hH
 rw [flatK_fl] at hH'
 have hcon:=del_at blk 0 cap l.length k (k+1) (fl l).toArray w (by simp [fl_len]) hH' (by simpa using fl_one l) hc (by unfold maxLen at hm; omega) (by omega) (by omega)
 refine Calls.mono hcon (fun e w' he=>?_)
 obtain ⟨he,q,hw⟩:=he
 refine ⟨?_,q,#[],?_⟩
 ·rw [he]
  have:(l.take k++l.drop (k+1)).length=l.length - (k+1 - k):=by simp; omega
  rw [this]
 ·have e2:(fl l).take (k*2)++(fl l).drop ((k+1)*2)++List.replicate ((k+1 - k)*2) (Value.int .i64 0)=fl (l.take k++l.drop (k+1)++[(0,0)]):=by
   rw [fl_app,fl_app,fl_take,fl_drop,show (k+1 - k)*2=2 by omega]; rfl
  have e3:(fl l).toArray.toList=fl l:=rfl
  rw [hw,grow_empty,flatK_fl,e3,e2]
end Go.Proofs.YticimffljcljoaaGreat.DeleteP

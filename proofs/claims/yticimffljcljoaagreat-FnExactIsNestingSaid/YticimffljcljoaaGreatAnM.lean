/- The abstract machine: a call that takes a row of the call's own and hands it back, turned and shorter (slices.Compact). No condition. -/
import Derived.Test.YticimffljcljoaaGreatAnL
import Derived.Test.YticimffljcljoaaGreatAnG
set_option linter.unusedVariables false
namespace Go.Proofs.YticimffljcljoaaGreatM
open Go Go.RowKit Go.Sort
section
variable {P : Program}
structure OkC (P:Program) (f:FuncId) (e:TypeId) (css css':List (List DV)):Prop where
 fn:∃ fn:Func,P.funcs[f]?=some fn∧(fn.name == "runtime.NumGoroutine")=false∧fn.body.isNone=false
 run:∀ (w:World) (v:Value) (F:Nat→Prop),Own P w F (.row e css) v→Calls P f #[v] w (fun e' w'=>∃ v1 F1,e' = .returned v1∧Fr F w w'∧Own P w' F1 (.row e css') v1∧∀ k,F1 k→F k∨w.heap.size≤k)
theorem owns_cut {w:World} {blk n n' cap size:Nat} {e:TypeId} {xs:List Value} (h:w.ownsRow 0 e size (.slice (some ⟨blk,0,none⟩) n cap) n xs) (hn:n'≤n):
  w.ownsRow 0 e size (.slice (some ⟨blk,0,none⟩) n' cap) n' (xs.take (n'*size)):=by
 obtain ⟨h1,h2⟩:=h
 have hle:n'*size≤n*size:=Nat.mul_le_mul_right _ hn
 refine ⟨by rw [List.length_take,h1,Nat.min_eq_left hle],.inr ?_⟩
 rcases h2 with ⟨h2,_⟩|⟨g,cap',cur,hv,hg,hh,hnc,hm,hsz,htk⟩
 ·cases h2
 ·injection hv with hv1 hv2 hv3
  injection hv1 with hv1
  injection hv1 with hv1
  subst hv1 hv3
  refine ⟨blk,cap,cur,rfl,hg,hh,by omega,hm,hsz,?_⟩
  rw [← htk,List.take_take,Nat.min_eq_left hle]
section
variable {α : Type} [Inhabited α]
end
variable {N : Nat} {w0 : World} {S : Fx} {s : St} {o : Oper} {d : Nat}
variable {ops : Array Oper} {draw : Bool} {pre : List (Oper × Eff)} {rest : List Oper} {t : Nat → AV} {m : Nat → Option Cont} {K : St → Prop} {G : List (Operand × AV)}
end
end Go.Proofs.YticimffljcljoaaGreatM

/- The least of four whole numbers. No condition. -/
import Derived.Test.YticimffljcljoaaGreatAnF
set_option linter.unusedVariables false
namespace Go.Proofs.YticimffljcljoaaGreatM
open Go Go.RowKit
section
variable {P : Program} {N : Nat} {w0 : World} {S : Fx} {o : Oper} {s : St}
theorem s_min4 {x y z q:Operand} {tys:Array TypeId} {k:IntKind} {a b c d:Int} (ho:o.op = .call { callee := .builtin .min,args:=#[x,y,z,q],argTypes:=tys })
  (hx:s.ev x=gV (.int k a)) (hy:s.ev y=gV (.int k b)) (hz:s.ev z=gV (.int k c)) (hq:s.ev q=gV (.int k d)) (hd:∀ n,o.dst=some n→n < N):
  SoundOp P N w0 S o s ⟨updO s.t o.dst (gV (.int k (mn (mn (mn a b) c) d))),s.m⟩:=by
 refine sound_val hd fun e w ρ F hr=>?_
 have gx:=hr.ev x
 have gy:=hr.ev y
 have gz:=hr.ev z
 have gq:=hr.ev q
 rw [hx] at gx
 rw [hy] at gy
 rw [hz] at gz
 rw [hq] at gq
 refine ⟨_,?_,.c (Deep.v _)⟩
 unfold execOp
 rw [ho]
 simp [rel_v gx,rel_v gy,rel_v gz,rel_v gq,resolve,invoke,builtin,Builtin.min_,Builtin.min2,mn]
 first|rfl|(congr 1 <;> (try rfl) <;> (congr 1 <;> rfl))|(split <;> rfl)
end
section
variable {P : Program} {N : Nat} {w0 : World} {S : Fx} {o : Oper} {ops : Array Oper} {draw : Bool} {pre : List (Oper × Eff)} {rest : List Oper} {t : Nat → AV} {m : Nat → Option Cont} {K : St → Prop} {G : List (Operand × AV)} {d : Nat}
theorem a_min4 {x y z q:Operand} {tys:Array TypeId} {k1:IntKind} {i j l n r:Int} (k:RV P N w0 S draw ops pre rest t m K o G [(x,gV (.int k1 i)),(y,gV (.int k1 j)),(z,gV (.int k1 l)),(q,gV (.int k1 n))] [] d (gV (.int k1 r))) (ho:o.op = .call { callee := .builtin .min,args:=#[x,y,z,q],argTypes:=tys }:=by rfl) (hd:o.dst=some d:=by rfl) (hN:Nat.blt d N=true:=by rfl) (h1:St.ev ⟨t,m⟩ x=gV (.int k1 i):=by rfl) (h2:St.ev ⟨t,m⟩ y=gV (.int k1 j):=by rfl) (h3:St.ev ⟨t,m⟩ z=gV (.int k1 l):=by rfl) (h4:St.ev ⟨t,m⟩ q=gV (.int k1 n):=by rfl) (hr:mn (mn (mn i j) l) n=r:=by rfl) (hg:Gs ops o ⟨t,m⟩ G:=by exact Gs.no rfl):RA P N w0 S draw ops pre (o::rest) ⟨t,m⟩ K:=
 RA.val hd hg k ⟨h1,h2,h3,h4,True.intro⟩ True.intro (fun s hs _=>by
  have:=s_min4 (P:=P) (N:=N) (w0:=w0) (S:=S) (s:=s) ho hs.1 hs.2.1 hs.2.2.1 hs.2.2.2.1 (dlt hd hN)
  rw [← hr]
  exact this)
end
end Go.Proofs.YticimffljcljoaaGreatM

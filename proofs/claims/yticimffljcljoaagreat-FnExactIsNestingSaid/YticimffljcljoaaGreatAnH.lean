/- Arrays: their elements' places, literals. No condition. -/
import Derived.Test.YticimffljcljoaaGreatAnF
set_option linter.unusedVariables false
set_option linter.unusedSimpArgs false
namespace Go.Proofs.YticimffljcljoaaGreatM
open Go Go.RowKit
section
variable {P : Program} {N : Nat} {w0 : World} {S : Fx} {o : Oper} {s : St}
theorem s_binB {op:BinOp} {t t':TypeId} {x y:Operand} {p q b:Bool} (ho:o.op = .binOp op t x y t') (ht:P.underlying t=some .bool) (hop:(op = .eql∧b=(p == q))∨(op = .neq∧b=!(p == q))) (h1:s.ev x=vB p) (h2:s.ev y=vB q) (hd:∀ n,o.dst=some n→n < N):
  SoundOp P N w0 S o s ⟨updO s.t o.dst (vB b),s.m⟩:=by
 refine sound_val hd fun a w ρ F hr=>?_
 have hx:=hr.ev x
 have hy:=hr.ev y
 rw [h1] at hx
 rw [h2] at hy
 refine ⟨_,?_,.c (Deep.v _)⟩
 unfold execOp
 rw [ho]
 simp only [rel_v hx,rel_v hy]
 have hg:(eqGuard op t x y (.bool p) (.bool q)).run P w = .ok () w:=by
  unfold eqGuard
  rcases hop with ⟨rfl,_⟩|⟨rfl,_⟩ <;> rfl
 rcases hop with ⟨rfl,rfl⟩|⟨rfl,rfl⟩
 ·simp [hg,binOp,run_equal_bool _ _ _ _ ht]
 ·simp [hg,binOp,run_equal_bool _ _ _ _ ht,bne]
end
section
variable {P : Program} {N : Nat} {w0 : World} {S : Fx} {o : Oper} {ops : Array Oper} {draw : Bool} {pre : List (Oper × Eff)} {rest : List Oper} {t : Nat → AV} {m : Nat → Option Cont} {K : St → Prop} {G : List (Operand × AV)} {d : Nat}
theorem a_binB {op:BinOp} {T T':TypeId} {x y:Operand} {p q b:Bool} (k:RV P N w0 S draw ops pre rest t m K o G [(x,vB p),(y,vB q)] [] d (vB b)) (ht:P.underlying T=some .bool) (hop:(op = .eql∧b=(p == q))∨(op = .neq∧b=!(p == q))) (ho:o.op = .binOp op T x y T':=by rfl) (hd:o.dst=some d:=by rfl) (hN:Nat.blt d N=true:=by rfl) (h1:St.ev ⟨t,m⟩ x=vB p:=by rfl) (h2:St.ev ⟨t,m⟩ y=vB q:=by rfl) (hg:Gs ops o ⟨t,m⟩ G:=by exact Gs.no rfl):RA P N w0 S draw ops pre (o::rest) ⟨t,m⟩ K:=
 RA.val hd hg k ⟨h1,h2,True.intro⟩ True.intro (fun s hs _=>s_binB (P:=P) (N:=N) (w0:=w0) (S:=S) (s:=s) ho ht hop hs.1 hs.2.1 (dlt hd hN))
end
end Go.Proofs.YticimffljcljoaaGreatM

/- The abstract machine: '==' of structs. No condition. -/
import Derived.Test.YticimffljcljoaaGreatAnB
import Derived.Laws.StructEq
set_option linter.unusedVariables false
set_option linter.unusedSimpArgs false
namespace Go.Proofs.YticimffljcljoaaGreatM
open Go Go.RowKit
theorem eqRun_of {P:Program} {t:TypeId} {xs ys:List Value} {b:Bool} (hg:P.eqGuardType P.depth t=false) (h:∀ w,(Op.equalIn 10000 t (.agg xs.toArray) (.agg ys.toArray)).run P w = .ok b w):EqRun P .eql t xs ys b∧EqRun P .neq t xs ys (!b):=by
 constructor <;> intro x y w
 ·have h1:(eqGuard .eql t x y (.agg xs.toArray) (.agg ys.toArray)).run P w = .ok () w:=by
   unfold eqGuard
   simp [hg]
  simp only [Sem.run_bind,h1,Result.andThen_ok,run_eql_struct,h]
 ·have h1:(eqGuard .neq t x y (.agg xs.toArray) (.agg ys.toArray)).run P w = .ok () w:=by
   unfold eqGuard
   simp [hg]
  simp only [Sem.run_bind,h1,Result.andThen_ok,run_neq_struct,h]
end Go.Proofs.YticimffljcljoaaGreatM

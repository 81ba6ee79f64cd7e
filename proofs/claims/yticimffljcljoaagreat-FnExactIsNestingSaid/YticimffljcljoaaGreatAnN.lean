/- The abstract machine: a literal of rows that are only read, itself only read. No condition. -/
import Derived.Test.YticimffljcljoaaGreatAnL
set_option linter.unusedVariables false
set_option linter.unusedSimpArgs false
namespace Go.Proofs.YticimffljcljoaaGreatM
open Go Go.RowKit
section
variable {P : Program} {N : Nat} {w0 : World} {S : Fx} {s : St} {o : Oper} {d : Nat}
variable {ops : Array Oper} {draw : Bool} {pre : List (Oper × Eff)} {rest : List Oper} {t : Nat → AV} {m : Nat → Option Cont} {K : St → Prop} {G : List (Operand × AV)}
end
end Go.Proofs.YticimffljcljoaaGreatM

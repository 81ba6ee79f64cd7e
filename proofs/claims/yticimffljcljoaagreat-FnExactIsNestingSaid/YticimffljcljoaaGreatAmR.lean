/- Words that the printed functions use. No condition. -/
import Derived.Test.YticimffljcljoaaGreatAmQ
set_option linter.unusedVariables false
namespace Go.Proofs.YticimffljcljoaaGreatM
open Go Go.RowKit
theorem bindO {α β:Type} {x:Option α} {f:α→Option β} {b:β} (h:x.bind f=some b):∃ a,x=some a∧f a=some b:=by
 cases x with
 | none=>cases h
 | some a=>exact ⟨a,rfl,h⟩
def mx (x y:Int):Int:=if x < y then y else x
def mn (x y:Int):Int:=if y < x then y else x
theorem set_map {α:Type} {c:α→List DV} {l:List α} {i off:Nat} {a b:α} {ds:List DV} (h:putL (c a) off ds=c b):(l.map c).set i (putL (c a) off ds)=(l.set i b).map c:=by
 rw [h,List.map_set]
theorem results_tmp4 {fn:Func} {a b c d:Tmp} (h:fn.results=#[.tmp a,.tmp b,.tmp c,.tmp d]) (tmps:Array Value) (P:Program) (w:World):(results fn tmps).run P w = .ok (.tuple #[tmps.getD a undef,tmps.getD b undef,tmps.getD c undef,tmps.getD d undef]) w:=by
 simp [results,h]
theorem ownE {s:St} {t κ a b:Nat} (h:s.t t = .c (.own κ a)) (hab:a=b):s.t t = .c (.own κ b):=by rw [h,hab]
theorem rep_map {α:Type} {c:α→List DV} {z:α} {n:Nat} {zs:List DV} (h:c z=zs):List.replicate n zs=(List.replicate n z).map c:=by
 rw [List.map_replicate,h]
end Go.Proofs.YticimffljcljoaaGreatM

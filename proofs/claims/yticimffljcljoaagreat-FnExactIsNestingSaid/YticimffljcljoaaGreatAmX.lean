/- The abstract machine: results in the caller's names. No condition. -/
import Derived.Test.YticimffljcljoaaGreatAmV
set_option linter.unusedVariables false
set_option linter.unusedSimpArgs false
namespace Go.Proofs.YticimffljcljoaaGreatM
open Go Go.RowKit
section
variable {P : Program} {w1 : World} {ok ok1 : Nat → Prop} {m1 : Nat → Option Cont} {ρ1 ρ' : Nat → Value}
theorem res_cell {ms nk:List (Nat×Cont)} {σ:Nat→Nat} (hnk:nkOk ms σ nk) (hput:∀ κ c,lk nk κ=some c→m1 κ=some c) (hρ:∀ κ,lk nk κ≠none→ρ1 κ=ρ' (σ κ)) {c:Cell} {u:Value} (h1:resC c=true) (h2:c.inL (nk.map (·.1))=true) (h3:CellRel P w1 ok (lk ms) ρ' (c.mapK σ) u):CellRel P w1 ok1 m1 ρ1 c u:=by
 cases c with
 | d x=>
  cases x with
  | v x=>rw [deep_v h3]; exact Deep.v x
  | _=>cases h1
 | own κ n=>
  have h4:κ∈nk.map (·.1):=by simpa [Cell.inL,Cell.uses] using h2
  have h5:=lk_live h4
  obtain ⟨⟨e,css,q1,q2⟩,q3,q4⟩:=h3
  cases hl:lk nk κ with
  | none=>exact absurd hl h5
  | some c2=>
   have:=nkOk_spec hnk κ c2 hl
   rw [q1] at this
   injection this with this
   subst this
   exact ⟨⟨e,css,hput κ _ hl,q2⟩,by rw [hρ κ h5]; exact q3,q4⟩
 | _=>cases h1
theorem res_cells {ms nk:List (Nat×Cont)} {σ:Nat→Nat} (hnk:nkOk ms σ nk) (hput:∀ κ c,lk nk κ=some c→m1 κ=some c) (hρ:∀ κ,lk nk κ≠none→ρ1 κ=ρ' (σ κ)):∀ {cs:List Cell} {us:List Value},cs.all resC=true→cs.all (Cell.inL (nk.map (·.1)))=true→All2 (CellRel P w1 ok (lk ms) ρ') (cs.map (Cell.mapK σ)) us→All2 (CellRel P w1 ok1 m1 ρ1) cs us
 | [],us,_,_,h=>by cases h; exact .nil
 | c::r,us,h1,h2,h=>by
  simp only [List.all_cons,Bool.and_eq_true] at h1 h2
  cases h with
  | cons h3 h4=>exact .cons (res_cell hnk hput hρ h1.1 h2.1 h3) (res_cells hnk hput hρ h1.2 h2.2 h4)
theorem res_els {ms nk:List (Nat×Cont)} {σ:Nat→Nat} (hnk:nkOk ms σ nk) (hput:∀ κ c,lk nk κ=some c→m1 κ=some c) (hρ:∀ κ,lk nk κ≠none→ρ1 κ=ρ' (σ κ)):∀ {xs:List El} {us:List Value},xs.all resE=true→xs.all (El.inL (nk.map (·.1)))=true→All2 (ElRel P w1 ok (lk ms) ρ') (xs.map (El.mapK σ)) us→All2 (ElRel P w1 ok1 m1 ρ1) xs us
 | [],us,_,_,h=>by cases h; exact .nil
 | x::r,us,h1,h2,h=>by
  simp only [List.all_cons,Bool.and_eq_true] at h1 h2
  cases h with
  | cons h3 h4=>
   refine .cons ?_ (res_els hnk hput hρ h1.2 h2.2 h4)
   cases x with
   | c y=>cases h3 with|c h5=>exact .c (res_cell hnk hput hρ h1.1 h2.1 h5)
   | agg cs=>cases h3 with|agg h5=>exact .agg (res_cells hnk hput hρ h1.1 h2.1 h5)
theorem res_rel {ms nk:List (Nat×Cont)} {σ:Nat→Nat} (hnk:nkOk ms σ nk) (hput:∀ κ c,lk nk κ=some c→m1 κ=some c) (hρ:∀ κ,lk nk κ≠none→ρ1 κ=ρ' (σ κ)) {v:AV} {u:Value} (h1:resA v=true) (h2:v.inL (nk.map (·.1))=true) (h:AVRel P w1 ok (lk ms) ρ' (v.mapK σ) u):AVRel P w1 ok1 m1 ρ1 v u:=by
 cases v with
 | c x=>cases h with|c h=>exact .c (res_cell hnk hput hρ h1 h2 h)
 | agg cs=>cases h with|agg h=>exact .agg (res_cells hnk hput hρ h1 h2 h)
 | tup xs=>cases h with|tup h=>exact .tup (res_els hnk hput hρ h1 h2 h)
end
end Go.Proofs.YticimffljcljoaaGreatM

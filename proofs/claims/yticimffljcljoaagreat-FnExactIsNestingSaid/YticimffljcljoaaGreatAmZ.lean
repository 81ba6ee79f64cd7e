/- The abstract machine: calls that write a row inside a row of the caller's. No condition. -/
import Derived.Test.YticimffljcljoaaGreatAmY
set_option linter.unusedVariables false
set_option linter.unusedSimpArgs false
namespace Go.Proofs.YticimffljcljoaaGreatM
open Go Go.RowKit
section
variable {P : Program} {N : Nat} {w0 : World} {S : Fx} {s : St} {w w1 : World} {a : Act} {ρ : Nat → Value} {F : Nat → Nat → Prop} {o : Oper}
inductive UA (L:List (Nat×Cont)) (κ i j n μ:Nat):AV→AV→Prop
 | r {v v':AV} (h:AVRd L v v'):UA L κ i j n μ v v'
 | sub {n':Nat} (h:n'=n):UA L κ i j n μ (.c (.sub κ i j n)) (.c (.own μ n'))
theorem UA.rel {L:List (Nat×Cont)} {κ i j n μ:Nat} {e e':TypeId} {css css':List (List DV)} {cs:List DV} {F0:Nat→Prop} {u0:Value} (hr:RelE P N w0 S s a w ρ F) (hL:preK s L) (hm:s.m κ=some (.row e css)) (hi:css[i]?=some cs) (hj:cs[j]?=some (.row e' css')) (hF0:∀ k,F0 k→F κ k) (hu0:∀ g n c,ρ κ = .slice (some ⟨g,0,none⟩) n c→w.cell? ⟨g,i*P.cellsOf e+j,none⟩=some u0) (hdis:lk L κ=none) {v v':AV} (h:UA L κ i j n μ v v') {u:Value} (hu:AVRel P w (okm s.m F) s.m ρ v u):
  AVRel P w (okm (lk [(μ,.row e' css')]) fun _=>F0) (lk [(μ,.row e' css')]) (fun _=>u0) v' u:=by
 have hd:∀ {c:Cell} {x:DV},Rd L c x→∀ u,CellRel P w (okm s.m F) s.m ρ c u→Deep P w (okm (lk [(μ,Cont.row e' css')]) fun _=>F0) x u:=fun h u hu=>
  h.deepG hr hL (fun k hk μ' _ hF=>hk κ (by rw [hm]; simp) (hF0 k hF)) (fun κ' c hc k hk μ' _ hF=>by
   have:=hr.apart κ' κ k (by rw [preK_spec hL κ' c hc]; simp) (by rw [hm]; simp) hk (hF0 k hF)
   subst this
   rw [hdis] at hc
   cases hc) u hu
 cases h with
 | r h=>
  cases h with
  | c h=>cases hu with|c hu=>exact .c (hd h u hu)
  | agg h=>
   cases hu with
   | agg hu=>
    refine .agg ?_
    rename_i cs cs' us
    induction h generalizing us with
    | nil=>cases hu; exact .nil
    | cons h1 _ ih=>
     cases hu with
     | cons h2 h3=>
      obtain ⟨d,rfl,h4⟩:=h1
      exact .cons (hd h4 _ h2) (ih h3)
 | sub hn=>
  subst hn
  cases hu with
  | c hu=>
   refine .c ?_
   obtain ⟨e2,css2,cs2,e3,css3,g,n',c',h1,h2,h3,h4,h5,h6,h7⟩:=hu
   rw [hm] at h1
   injection h1 with h1
   injection h1 with h1 h1'
   subst h1 h1'
   rw [hi] at h2
   injection h2 with h2
   subst h2
   rw [hj] at h3
   injection h3 with h3
   injection h3 with h3 h3'
   subst h3 h3'
   have:=hu0 _ _ _ h5
   rw [h6] at this
   injection this with this
   subst this
   exact ⟨⟨e',css',by show cond (Nat.beq μ μ) _ _=_; rw [Nat.beq_refl]; rfl,h4⟩,rfl,h7⟩
theorem lk_one {α:Type} {k κ:Nat} {a b:α} (h:lk [(k,a)] κ=some b):κ=k∧b=a:=by
 have h2:cond (Nat.beq k κ) (some a) none=some b:=h
 by_cases hk:k=κ
 ·subst hk; rw [Nat.beq_refl] at h2; injection h2 with h2; exact ⟨rfl,h2.symm⟩
 ·rw [nb_ne hk] at h2; cases h2
variable {ops : Array Oper} {draw : Bool} {pre : List (Oper × Eff)} {rest : List Oper} {t : Nat → AV} {m : Nat → Option Cont} {K : St → Prop} {G : List (Operand × AV)} {d : Nat}
end
end Go.Proofs.YticimffljcljoaaGreatM

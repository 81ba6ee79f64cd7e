/- The abstract machine: calls that write a row inside a row of the caller's. No condition. -/
import Derived.Test.YtadjbffiomkljaaGreatAmY
set_option linter.unusedVariables false
set_option linter.unusedSimpArgs false
namespace Go.Proofs.YtadjbffiomkljaaGreatM
open Go Go.RowKit
section
variable {P : Program} {N : Nat} {w0 : World} {S : Fx} {s : St} {w w1 : World} {a : Act} {ρ : Nat → Value} {F : Nat → Nat → Prop} {o : Oper}
theorem Own.inner {F : Nat → Prop} {e : TypeId} {css : List (List DV)} {v : Value} (h : Own P w F (.row e css) v) {i j : Nat} {cs : List DV} {d : DV} (hi : css[i]? = some cs) (hj : cs[j]? = some d) :
  ∃ u0 F0, Own P w F0 d u0 ∧ (∀ k, F0 k → F k) ∧ (∀ g n c, v = .slice (some ⟨g, 0, none⟩) n c → w.cell? ⟨g, i * P.cellsOf e + j, none⟩ = some u0) ∧ ∀ (w1 : World) (F1 : Nat → Prop) (d1 : DV), (∀ k, k < w.heap.size → ¬ F0 k → w1.heap[k]? = w.heap[k]?) → Own P w1 F1 d1 u0 → (∀ k, F1 k → w.heap.size ≤ k ∨ F0 k) → Own P w1 (fun k => (F k ∧ ¬ F0 k) ∨ F1 k) (.row e (css.set i (cs.set j d1))) v := by
 have hlt := h.lt
 obtain ⟨fl, Fs, how, hlen, hcc, hdd, hb, hrr, hF, hpos⟩ := h.row_inv
 obtain ⟨h8, h8'⟩ := flat_at how.1 hlen hi hj
 have hfs : ∀ i' j' k, Fs i' j' k → k < w.heap.size := fun i' j' k hk => hlt k ((hF k).2 (.inr ⟨i', j', hk⟩))
 refine ⟨fl[i * P.cellsOf e + j], Fs i j, hcc i j cs d _ hi hj (List.getElem?_eq_getElem h8), fun k hk => (hF k).2 (.inr ⟨i, j, hk⟩), fun g n c hv => ?_, fun w1 F1 d1 hfr h1 hnew => ?_⟩
 ·have := how.cells (g := g) (by rw [hv]; rfl) _ _ (List.getElem?_eq_getElem h8)
  rwa [add_at, Nat.zero_add] at this
 have hxl : (cs.set j d1).length = cs.length := List.length_set
 have hil : i < css.length := (List.getElem?_eq_some_iff.1 hi).1
 have hjl : j < cs.length := (List.getElem?_eq_some_iff.1 hj).1
 refine .row _ e _ v fl (fun i' j' => if i' = i ∧ j' = j then F1 else Fs i' j') ?_ ?_ ?_ ?_ ?_ ?_ ?_ hpos
 ·rw [List.length_set]
  exact ownsRow_move how (fun k hk => hfr k (hlt k ((hF k).2 (.inl hk))) (fun h0 => hb i j k h0 hk))
 ·intro cs' hcs'
  rcases List.mem_or_eq_of_mem_set hcs' with hcs' | rfl
  ·exact hlen cs' hcs'
  ·rw [hxl]; exact hlen cs (List.mem_of_getElem? hi)
 ·intro i' j' cs' d' u' h2 h3 h4
  by_cases hi' : i' = i
  ·subst hi'
   rw [List.getElem?_set_self hil] at h2
   injection h2 with h2
   subst h2
   by_cases hj' : j' = j
   ·subst hj'
    rw [List.getElem?_set_self hjl] at h3
    injection h3 with h3
    subst h3
    rw [List.getElem?_eq_getElem h8] at h4
    injection h4 with h4
    subst h4
    rw [if_pos ⟨rfl, rfl⟩]
    exact h1
   ·rw [List.getElem?_set_ne (Ne.symm hj')] at h3
    rw [if_neg (fun hh => hj' hh.2)]
    exact (hcc i' j' cs d' u' hi h3 h4).move (fun k hk => hfr k (hfs _ _ k hk) (fun h0 => hj' (hdd _ _ _ _ k hk h0).2))
  ·rw [List.getElem?_set_ne (Ne.symm hi')] at h2
   rw [if_neg (fun hh => hi' hh.1)]
   exact (hcc i' j' cs' d' u' h2 h3 h4).move (fun k hk => hfr k (hfs _ _ k hk) (fun h0 => hi' (hdd _ _ _ _ k hk h0).1))
 ·intro i1 j1 i2 j2 k h2 h3
  have hx : ∀ i2 j2, Fs i2 j2 k → F1 k → i2 = i ∧ j2 = j := fun i2 j2 h3 h2 => (hnew k h2).elim (fun hk => absurd (hfs _ _ k h3) (by omega)) (fun h0 => hdd _ _ _ _ k h3 h0)
  by_cases ha : i1 = i ∧ j1 = j <;> by_cases hb' : i2 = i ∧ j2 = j
  ·exact ⟨ha.1.trans hb'.1.symm, ha.2.trans hb'.2.symm⟩
  ·rw [if_pos ha] at h2; rw [if_neg hb'] at h3; exact absurd (hx _ _ h3 h2) hb'
  ·rw [if_neg ha] at h2; rw [if_pos hb'] at h3; exact absurd (hx _ _ h2 h3) ha
  ·rw [if_neg ha] at h2; rw [if_neg hb'] at h3; exact hdd _ _ _ _ k h2 h3
 ·intro i' j' k h2 hk
  by_cases ha : i' = i ∧ j' = j
  ·rw [if_pos ha] at h2
   exact (hnew k h2).elim (fun h3 => absurd (hlt k ((hF k).2 (.inl hk))) (by omega)) (fun h0 => hb i j k h0 hk)
  ·rw [if_neg ha] at h2; exact hb _ _ k h2 hk
 ·intro i' j' k h2
  by_cases ha : i' = i ∧ j' = j
  ·obtain ⟨rfl, rfl⟩ := ha
   exact ⟨_, List.getElem?_set_self hil, by rw [hxl]; exact hjl⟩
  ·rw [if_neg ha] at h2
   obtain ⟨cs', h3, h4⟩ := hrr _ _ k h2
   by_cases hi' : i' = i
   ·subst hi'
    rw [hi] at h3
    injection h3 with h3
    subst h3
    exact ⟨_, List.getElem?_set_self hil, by rw [hxl]; exact h4⟩
   ·exact ⟨cs', by rw [List.getElem?_set_ne (Ne.symm hi')]; exact h3, h4⟩
 ·intro k
  constructor
  ·rintro (⟨h2, h3⟩ | h2)
   ·rcases (hF k).1 h2 with h4 | ⟨i', j', h4⟩
    ·exact .inl h4
    ·refine .inr ⟨i', j', ?_⟩
     rw [if_neg (fun hh => h3 (by rw [hh.1, hh.2] at h4; exact h4))]
     exact h4
   ·exact .inr ⟨i, j, by rw [if_pos ⟨rfl, rfl⟩]; exact h2⟩
  ·rintro (h2 | ⟨i', j', h2⟩)
   ·exact .inl ⟨(hF k).2 (.inl h2), fun h0 => hb i j k h0 h2⟩
   ·by_cases ha : i' = i ∧ j' = j
    ·rw [if_pos ha] at h2; exact .inr h2
    ·rw [if_neg ha] at h2
     exact .inl ⟨(hF k).2 (.inr ⟨i', j', h2⟩), fun h0 => ha (hdd _ _ _ _ k h2 h0)⟩
inductive UA (L : List (Nat × Cont)) (κ i j n μ : Nat) : AV → AV → Prop
 | r {v v' : AV} (h : AVRd L v v') : UA L κ i j n μ v v'
 | sub {n' : Nat} (h : n' = n) : UA L κ i j n μ (.c (.sub κ i j n)) (.c (.own μ n'))
theorem UA.rel {L : List (Nat × Cont)} {κ i j n μ : Nat} {e e' : TypeId} {css css' : List (List DV)} {cs : List DV} {F0 : Nat → Prop} {u0 : Value} (hr : RelE P N w0 S s a w ρ F) (hL : preK s L) (hm : s.m κ = some (.row e css)) (hi : css[i]? = some cs) (hj : cs[j]? = some (.row e' css')) (hF0 : ∀ k, F0 k → F κ k) (hu0 : ∀ g n c, ρ κ = .slice (some ⟨g, 0, none⟩) n c → w.cell? ⟨g, i * P.cellsOf e + j, none⟩ = some u0) (hdis : lk L κ = none) {v v' : AV} (h : UA L κ i j n μ v v') {u : Value} (hu : AVRel P w (okm s.m F) s.m ρ v u) :
  AVRel P w (okm (lk [(μ, .row e' css')]) fun _ => F0) (lk [(μ, .row e' css')]) (fun _ => u0) v' u := by
 have hd : ∀ {c : Cell} {x : DV}, Rd L c x → ∀ u, CellRel P w (okm s.m F) s.m ρ c u → Deep P w (okm (lk [(μ, Cont.row e' css')]) fun _ => F0) x u := fun h u hu =>
  h.deepG hr hL (fun k hk μ' _ hF => hk κ (by rw [hm]; simp) (hF0 k hF)) (fun κ' c hc k hk μ' _ hF => by
   have := hr.apart κ' κ k (by rw [preK_spec hL κ' c hc]; simp) (by rw [hm]; simp) hk (hF0 k hF)
   subst this
   rw [hdis] at hc
   cases hc) u hu
 cases h with
 | r h =>
  cases h with
  | c h => cases hu with | c hu => exact .c (hd h u hu)
  | agg h =>
   cases hu with
   | agg hu =>
    refine .agg ?_
    rename_i cs cs' us
    induction h generalizing us with
    | nil => cases hu; exact .nil
    | cons h1 _ ih =>
     cases hu with
     | cons h2 h3 =>
      obtain ⟨d, rfl, h4⟩ := h1
      exact .cons (hd h4 _ h2) (ih h3)
 | sub hn =>
  subst hn
  cases hu with
  | c hu =>
   refine .c ?_
   obtain ⟨e2, css2, cs2, e3, css3, g, n', c', h1, h2, h3, h4, h5, h6, h7⟩ := hu
   rw [hm] at h1
   injection h1 with h1
   injection h1 with h1 h1'
   subst h1 h1'
   rw [hi] at h2
   injection h2 with h2
   subst h2
   rw [hj] at h3
   injection h3 with h3
   injection h3 with h3 h3'
   subst h3 h3'
   have := hu0 _ _ _ h5
   rw [h6] at this
   injection this with this
   subst this
   exact ⟨⟨e', css', by show cond (Nat.beq μ μ) _ _ = _; rw [Nat.beq_refl]; rfl, h4⟩, rfl, h7⟩
theorem lk_one {α : Type} {k κ : Nat} {a b : α} (h : lk [(k, a)] κ = some b) : κ = k ∧ b = a := by
 have h2 : cond (Nat.beq k κ) (some a) none = some b := h
 by_cases hk : k = κ
 ·subst hk; rw [Nat.beq_refl] at h2; injection h2 with h2; exact ⟨rfl, h2.symm⟩
 ·rw [nb_ne hk] at h2; cases h2
variable {ops : Array Oper} {draw : Bool} {pre : List (Oper × Eff)} {rest : List Oper} {t : Nat → AV} {m : Nat → Option Cont} {K : St → Prop} {G : List (Operand × AV)} {d : Nat}
end
end Go.Proofs.YtadjbffiomkljaaGreatM

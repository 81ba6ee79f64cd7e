/- For every angle the printed law FnExactTanOf answers true: the program's TanOf and the reference's agree. -/
import Derived.Test.YtlplkcdlnplioaaDoorPFnExactTanOfx1
namespace Go.Proofs.YtlplkcdlnplioaaDoor.Pure
open Go.RowKit Go.Proofs.YtlplkcdlnplioaaDoor.PFnExactTanOf Go.Proofs.YtlplkcdlnplioaaDoorW.PrintWords Go.Proofs.YtlplkcdlnplioaaDoorW.PrintLast
set_option linter.unusedVariables false
set_option linter.unusedSimpArgs false
set_option linter.unnecessarySimpa false

theorem w64 {x : Int} (h0 : -9223372036854775808 ≤ x) (h1 : x ≤ 9223372036854775807) : wrap64 x = x := by unfold wrap64; omega
theorem wf64 {x : Int} (h : (Lit.int .i64 x).wf = true) : -9223372036854775808 ≤ x ∧ x ≤ 9223372036854775807 := by
  simp only [Lit.wf, IntKind.has, Bool.and_eq_true, decide_eq_true_eq] at h
  exact h
theorem maxLen_eq : maxLen = 9223372036854775807 := rfl
theorem Ev.cond {α : Type} {c : Prop} [Decidable c] {g f : Nat → Option α} {r : α} (h : c → Ev g r) (h' : ¬ c → Ev f r) : Ev (fun k => if c then g k else f k) r := by
  by_cases hc : c
  · simp only [if_pos hc]; exact h hc
  · simp only [if_neg hc]; exact h' hc
theorem down {n : Nat} {Q : Nat → Prop} (he : Q n) (hs : ∀ i, i < n → Q (i + 1) → Q i) : Q 0 := by
  have h : ∀ d i, i + d = n → Q i := by
    intro d
    induction d with
    | zero => intro i hi; have : i = n := by omega
              subst this; exact he
    | succ d ih => intro i hi; exact hs i (by omega) (ih (i + 1) (by omega))
  exact h n 0 (by omega)
theorem wsucc {i : Nat} (h : i < 9223372036854775807) : wrap64 ((i : Int) + 1) = ((i + 1 : Nat) : Int) := by rw [w64 (by omega) (by omega)]; omega
theorem getD_mem {α : Type} {xs : List α} {i : Nat} (z : α) (h : i < xs.length) : xs.getD i z ∈ xs := by
  rw [List.getD_eq_getElem?_getD, List.getElem?_eq_getElem h]; exact List.getElem_mem h
theorem getD_map {α β : Type} {xs : List α} {i : Nat} (c : α → β) (z : α) (z' : β) (h : i < xs.length) : (xs.map c).getD i z' = c (xs.getD i z) := by
  rw [List.getD_eq_getElem?_getD, List.getD_eq_getElem?_getD, List.getElem?_eq_getElem h, List.getElem?_eq_getElem (by simpa using h)]; simp
theorem Ev.some_eq {α : Type} {g : Nat → Option α} {r : α} (h : ∀ k, g (k + 1) = some r) : Ev g r := Ev.step (f := fun _ => some r) h (Ev.now r)
/-- A row made full of one value and filled from the left. -/
theorem ev_fill {α β : Type} (xs : List α) (z : α) (c : α → β) (L : Nat → List β → Int → Option (List β))
    (he : ∀ ys : List β, ys.length = xs.length → Ev (fun k => L k ys (xs.length : Int)) ys)
    (hs : ∀ (ys r : List β) (i : Nat), i < xs.length → ys.length = xs.length → Ev (fun k => L k (ys.set i (c (xs.getD i z))) ((i + 1 : Nat) : Int)) r → Ev (fun k => L k ys (i : Int)) r) :
    ∀ ys : List β, ys.length = xs.length → Ev (fun k => L k ys 0) (xs.map c) := by
  have h : ∀ d (i : Nat) (ys : List β), i + d = xs.length → ys.length = xs.length → Ev (fun k => L k ys (i : Int)) (ys.take i ++ (xs.drop i).map c) := by
    intro d
    induction d with
    | zero =>
      intro i ys hi hy
      have e : i = xs.length := by omega
      subst e
      rw [List.drop_of_length_le (Nat.le_refl _), List.map_nil, List.append_nil, List.take_of_length_le (by omega)]
      exact he ys hy
    | succ d ih =>
      intro i ys hi hy
      have hlt : i < xs.length := by omega
      refine hs ys _ i hlt hy ?_
      have h2 := ih (i + 1) (ys.set i (c (xs.getD i z))) (by omega) (by rw [List.length_set]; exact hy)
      have e2 : (ys.set i (c (xs.getD i z))).take (i + 1) = ys.take i ++ [c (xs.getD i z)] := by
        rw [List.take_succ_eq_append_getElem (by rw [List.length_set]; omega), List.getElem_set_self, List.take_set_of_le (by omega)]
      have e3 : xs.drop i = xs.getD i z :: xs.drop (i + 1) := by
        rw [List.drop_eq_getElem_cons hlt, List.getD_eq_getElem?_getD, List.getElem?_eq_getElem hlt]; rfl
      rw [e2] at h2
      rw [e3, List.map_cons]
      simpa using h2
  intro ys hy
  have := h xs.length 0 ys (by omega) hy
  simpa using this
/-- One round of a loop, which leans on what a call answers. -/
theorem Ev.step1 {α β : Type} {g f : Nat → Option α} {u : Nat → Option β} {b : β} {r : α} (e : Ev u b) (k : Ev f r) (h : ∀ k, u k = some b → g (k + 1) = f k) : Ev g r := by
  obtain ⟨K, e⟩ := e
  obtain ⟨K', k⟩ := k
  refine ⟨max K K' + 1, fun n hn => ?_⟩
  obtain ⟨m, rfl⟩ : ∃ m, n = m + 1 := ⟨n - 1, by omega⟩
  rw [h m (e m (by omega))]
  exact k m (by omega)
theorem Ev.step2 {α β γ : Type} {g f : Nat → Option α} {u : Nat → Option β} {v : Nat → Option γ} {b : β} {c : γ} {r : α} (e : Ev u b) (e' : Ev v c) (k : Ev f r) (h : ∀ k, u k = some b → v k = some c → g (k + 1) = f k) : Ev g r := by
  obtain ⟨K, e⟩ := e
  obtain ⟨K2, e'⟩ := e'
  obtain ⟨K', k⟩ := k
  refine ⟨max (max K K2) K' + 1, fun n hn => ?_⟩
  obtain ⟨m, rfl⟩ : ∃ m, n = m + 1 := ⟨n - 1, by omega⟩
  rw [h m (e m (by omega)) (e' m (by omega))]
  exact k m (by omega)

theorem in_eq (n lo hi : Int) : spec_l00In.f n lo hi = some (decide (lo ≤ n ∧ n ≤ hi)) := by
  unfold spec_l00In.f
  by_cases h : n ≥ lo
  · rw [if_pos h]; simp [show lo ≤ n from h]
  · rw [if_neg h]; simp; omega

theorem within_eq (n lo hi : Int) : impl_within.f n lo hi = some (decide (lo ≤ n ∧ n ≤ hi)) := by
  unfold impl_within.f
  by_cases h : n ≥ lo
  · rw [if_pos h]; simp [show lo ≤ n from h]
  · rw [if_neg h]; simp; omega

theorem rdn (xs : List Int) (i : Nat) : rd xs (i : Int) = xs.getD i 0 := by show xs.getD (i : Int).toNat 0 = _; rw [Int.toNat_natCast]
theorem tab_all : ∀ i : Nat, i < 31 → 0 ≤ gt0.getD i 0 ∧ gt0.getD i 0 ≤ 5774 := by decide
theorem tab_range (d : Int) (h0 : 0 ≤ d) (h1 : d ≤ 30) : 0 ≤ rd gt0 d ∧ rd gt0 d ≤ 5774 := by
  obtain ⟨i, rfl⟩ : ∃ i : Nat, d = i := ⟨d.toNat, by omega⟩
  rw [rdn]; exact tab_all i (by omega)
theorem table_eq : spec_l13Table.f = some gt0 := rfl

theorem angle_eq (d : Int) : spec_l13Angle.f d = some (decide (0 ≤ d ∧ d ≤ 30)) := by unfold spec_l13Angle.f; rw [in_eq]; rfl

theorem FnExactTanOf : laws_FnExactTanOf.Pure := by
  intro d _
  unfold laws_FnExactTanOf.f spec_TanOf.f impl_TanOf.f
  simp only [angle_eq, within_eq, table_eq, Option.bind_some,]
  by_cases h : 0 ≤ d ∧ d ≤ 30
  · rw [decide_eq_true h, if_pos rfl, if_pos rfl, if_pos h.1, if_pos (show d < (gt0.length : Int) by rw [gt0_len]; omega), if_pos (show d < 31 by omega)]
    simp only [Option.bind_some, if_true, if_pos h.1]
  · rw [decide_eq_false h]; rfl

end Go.Proofs.YtlplkcdlnplioaaDoor.Pure

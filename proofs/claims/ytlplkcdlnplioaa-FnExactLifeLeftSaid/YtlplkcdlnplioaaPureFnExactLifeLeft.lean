/- For every blade and use the printed law FnExactLifeLeft answers true: the program's LifeLeft and the reference's agree. -/
import Derived.Test.YtlplkcdlnplioaaPFnExactLifeLeftx2
namespace Go.Proofs.Ytlplkcdlnplioaa.Pure
open Go.RowKit Go.Proofs.Ytlplkcdlnplioaa.PFnExactLifeLeft Go.Proofs.YtlplkcdlnplioaaW.PrintWords Go.Proofs.YtlplkcdlnplioaaW.PrintLast
set_option linter.unusedVariables false
set_option linter.unusedSimpArgs false

theorem w64 {x : Int} (h0 : -9223372036854775808 ≤ x) (h1 : x ≤ 9223372036854775807) : wrap64 x = x := by unfold wrap64; omega
theorem wf64 {x : Int} (h : (Lit.int .i64 x).wf = true) : -9223372036854775808 ≤ x ∧ x ≤ 9223372036854775807 := by
  simp only [Lit.wf, IntKind.has, Bool.and_eq_true, decide_eq_true_eq] at h
  exact h
theorem maxLen_eq : maxLen = 9223372036854775807 := rfl
theorem Ev.cond {α : Type} {c : Prop} [Decidable c] {g f : Nat → Option α} {r : α} (h : c → Ev g r) (h' : ¬ c → Ev f r) : Ev (fun k => if c then g k else f k) r := by
  by_cases hc : c
  · simp only [if_pos hc]; exact h hc
  · simp only [if_neg hc]; exact h' hc

theorem in_eq (n lo hi : Int) : spec_l00In.f n lo hi = some (decide (lo ≤ n ∧ n ≤ hi)) := by
  unfold spec_l00In.f
  by_cases h : n ≥ lo
  · rw [if_pos h]; simp [show lo ≤ n from h]
  · rw [if_neg h]; simp; omega

theorem within_eq (n lo hi : Int) : impl_within.f n lo hi = some (decide (lo ≤ n ∧ n ≤ hi)) := by
  unfold impl_within.f
  by_cases h : n ≥ lo
  · rw [if_pos h]; simp [show lo ≤ n from h]
  · rw [if_neg h]; simp; omega

theorem small_eq (c : Int) : spec_l01Small.f c = some (decide (97 ≤ c ∧ c ≤ 122)) := by
  unfold spec_l01Small.f
  by_cases h : c ≥ 97
  · rw [if_pos h]; simp [show 97 ≤ c from h]
  · rw [if_neg h]; simp; omega
theorem digit_eq (c : Int) : spec_l01Digit.f c = some (decide (48 ≤ c ∧ c ≤ 57)) := by
  unfold spec_l01Digit.f
  by_cases h : c ≥ 48
  · rw [if_pos h]; simp [show 48 ≤ c from h]
  · rw [if_neg h]; simp; omega
theorem name_tail (s : ByteArray) (hs : s.size ≤ 9223372036854775807) (d : Nat) : ∀ (i : Int), 0 ≤ i → (s.size : Int) - i = d →
    ∃ b, Ev (fun k => impl_IsName.l0 k s i) b ∧ Ev (fun k => spec_l01Name.l0 k s i) b := by
  induction d with
  | zero =>
    intro i h0 hd
    refine ⟨true, Ev.step (f := fun _ => some true) (fun k => ?_) (Ev.now _), Ev.step (f := fun _ => some true) (fun k => ?_) (Ev.now _)⟩
    · simp only [impl_IsName.l0]; rw [if_neg (by omega)]
    · simp only [spec_l01Name.l0]; rw [if_neg (by omega)]
  | succ d ih =>
    intro i h0 hd
    have hlt : i < (s.size : Int) := by omega
    have hw : wrap64 (i + 1) = i + 1 := w64 (by omega) (by omega)
    by_cases hg : (97 ≤ bt s i ∧ bt s i ≤ 122) ∨ (48 ≤ bt s i ∧ bt s i ≤ 57)
    · obtain ⟨b, h1, h2⟩ := ih (i + 1) (by omega) (by omega)
      refine ⟨b, Ev.step (f := fun k => impl_IsName.l0 k s (i + 1)) (fun k => ?_) h1, Ev.step (f := fun k => spec_l01Name.l0 k s (i + 1)) (fun k => ?_) h2⟩
      · simp only [impl_IsName.l0]; rw [if_pos hlt, if_pos h0, hw]
        rcases hg with hg | hg
        · rw [if_neg (by omega), if_neg (by omega)]
        · rw [if_pos (by omega), if_neg (by omega), if_neg (by omega)]
      · simp only [spec_l01Name.l0, small_eq, digit_eq, Option.bind_some]; rw [if_pos hlt, if_pos h0, hw]
        by_cases hq : 97 ≤ bt s i ∧ bt s i ≤ 122
        · rw [if_pos (by simpa using hq)]
        · have hq2 : 48 ≤ bt s i ∧ bt s i ≤ 57 := by omega
          rw [if_neg (by simpa using hq), if_pos (by simpa using hq2)]
    · refine ⟨false, Ev.step (f := fun _ => some false) (fun k => ?_) (Ev.now _), Ev.step (f := fun _ => some false) (fun k => ?_) (Ev.now _)⟩
      · simp only [impl_IsName.l0]; rw [if_pos hlt, if_pos h0]
        by_cases h1 : bt s i < 97
        · rw [if_pos h1]
          by_cases h2 : bt s i < 48
          · rw [if_pos h2]
          · rw [if_neg h2, if_pos (by omega)]
        · rw [if_neg h1, if_pos (by omega)]
          by_cases h2 : bt s i < 48
          · rw [if_pos h2]
          · rw [if_neg h2, if_pos (by omega)]
      · simp only [spec_l01Name.l0, small_eq, digit_eq, Option.bind_some]; rw [if_pos hlt, if_pos h0]
        have h1 : ¬ (97 ≤ bt s i ∧ bt s i ≤ 122) := fun h => hg (.inl h)
        have h2 : ¬ (48 ≤ bt s i ∧ bt s i ≤ 57) := fun h => hg (.inr h)
        rw [if_neg (by simpa using h1), if_neg (by simpa using h2)]
theorem name_same (s : ByteArray) (hs : s.size ≤ 9223372036854775807) : ∃ b, Ev (fun k => impl_IsName.f k s) b ∧ Ev (fun k => spec_l01Name.f k s) b ∧ (b = true → s.size ≤ 10) := by
  have he : (s.toList = ([] : List UInt8)) ↔ s.size = 0 := by
    rw [ByteArray.toList_eq]
    constructor
    · intro h; have := data_length s; rw [h] at this; simpa using this.symm
    · intro h; have := data_length s; rw [h] at this; exact List.eq_nil_of_length_eq_zero this
  have f1 : Ev (fun k => impl_IsName.j0 k s true) false := Ev.step (f := fun _ => some false) (fun k => by simp only [impl_IsName.j0]; rfl) (Ev.now _)
  have f2 : Ev (fun k => spec_l01Name.j0 k s true) false := Ev.step (f := fun _ => some false) (fun k => by simp only [spec_l01Name.j0]; rfl) (Ev.now _)
  unfold impl_IsName.f spec_l01Name.f
  by_cases h0 : s.size = 0
  · refine ⟨false, ?_, ?_, by simp⟩
    · simp only [if_pos (show (s.size : Int) < 1 by omega)]; exact f1
    · simp only [if_pos (he.2 h0)]; exact f2
  · have hn : ¬ (s.toList = ([] : List UInt8)) := fun h => h0 (he.1 h)
    simp only [if_neg hn, if_neg (show ¬ (s.size : Int) < 1 by omega)]
    by_cases h1 : (s.size : Int) > 10
    · simp only [if_pos h1]; exact ⟨false, f1, f2, by simp⟩
    · simp only [if_neg h1, if_pos (show (0 : Int) < (s.size : Int) by omega), small_eq, Option.bind_some]
      by_cases h2 : 97 ≤ bt s 0 ∧ bt s 0 ≤ 122
      · obtain ⟨b, e1, e2⟩ := name_tail s hs s.size 0 (by omega) (by omega)
        refine ⟨b, ?_, ?_, fun _ => by omega⟩
        · simp only [if_neg (show ¬ bt s 0 < 97 by omega), show decide (bt s 0 > 122) = false from decide_eq_false (by omega)]
          exact Ev.step (f := fun k => impl_IsName.l0 k s 0) (fun k => by simp only [impl_IsName.j0]; rw [if_neg (by simp)]) e1
        · simp only [show (!decide (97 ≤ bt s 0 ∧ bt s 0 ≤ 122)) = false by simpa using h2]
          exact Ev.step (f := fun k => spec_l01Name.l0 k s 0) (fun k => by simp only [spec_l01Name.j0]; rw [if_neg (by simp)]) e2
      · refine ⟨false, ?_, ?_, by simp⟩
        · by_cases h3 : bt s 0 < 97
          · simp only [if_pos h3]; exact f1
          · simp only [if_neg h3, show decide (bt s 0 > 122) = true from decide_eq_true (by omega)]; exact f1
        · simp only [show (!decide (97 ≤ bt s 0 ∧ bt s 0 ≤ 122)) = true by simp; omega]; exact f2

theorem blade_same (s : ByteArray) (a b c : Int) (hs : s.size ≤ 9223372036854775807) : ∃ r, Ev (fun k => impl_ValidBlade.f k s a b c) r ∧ Ev (fun k => spec_l16Ok.f k [⟨s, a, b, c⟩]) r ∧
    (r = true → (1 ≤ a ∧ a ≤ 1000000) ∧ (0 ≤ b ∧ b ≤ 1000000) ∧ (1 ≤ c ∧ c ≤ 10000)) := by
  obtain ⟨t, h1, h2, _⟩ := name_same s hs
  refine ⟨t && decide (1 ≤ a ∧ a ≤ 1000000) && decide (0 ≤ b ∧ b ≤ 1000000) && decide (1 ≤ c ∧ c ≤ 10000), ?_, ?_, fun h => ?_⟩
  · unfold impl_ValidBlade.f
    refine Ev.bind h1 ?_
    simp only [within_eq, Option.bind_some]
    generalize decide (1 ≤ a ∧ a ≤ 1000000) = p
    generalize decide (0 ≤ b ∧ b ≤ 1000000) = q
    cases t <;> cases p <;> cases q <;> exact Ev.now _
  · unfold spec_l16Ok.f
    refine Ev.bind h2 ?_
    simp only [show ∀ x, rd_T26 [x] 0 = x from fun _ => rfl, in_eq, Option.bind_some]
    generalize decide (1 ≤ a ∧ a ≤ 1000000) = p
    generalize decide (0 ≤ b ∧ b ≤ 1000000) = q
    cases t <;> cases p <;> cases q <;> exact Ev.now _
  · simp only [Bool.and_eq_true, decide_eq_true_eq] at h
    exact ⟨h.1.1.2, h.1.2, h.2⟩

theorem FnExactLifeLeft : laws_FnExactLifeLeft.Pure := by
  intro s a b c u hB hu
  have hs : s.size ≤ 9223372036854775807 := hB.1
  obtain ⟨r, h1, h2, h3⟩ := blade_same s a b c hs
  suffices h : Ev (fun k => laws_FnExactLifeLeft.f k s a b c u) true from h.rounds
  unfold laws_FnExactLifeLeft.f laws_szBlade.f laws_toBlade.f spec_LifeLeft.f impl_LifeLeft.f
  by_cases hz : wrap64 (1048576 - (s.size : Int)) < 0
  · simp only [if_pos hz, Option.bind_some]; exact Ev.now _
  · simp only [if_neg hz, Option.bind_some]
    cases r with
    | false =>
      refine Ev.bind (Ev.bind h2 (Ev.now (0, 1))) (Ev.bind (Ev.bind h1 (Ev.now (0, 1))) ?_)
      exact Ev.now _
    | true =>
      refine Ev.bind (a := if decide (0 ≤ u ∧ u ≤ a) = true then (wrap64 (a - u), 0) else (0, 2)) (Ev.bind h2 ?_) (Ev.bind (a := if decide (0 ≤ u ∧ u ≤ a) = true then (wrap64 (a - u), 0) else (0, 2)) (Ev.bind h1 ?_) ?_)
      · simp only [in_eq, Option.bind_some, if_true]
        generalize decide (0 ≤ u ∧ u ≤ a) = p
        cases p <;> exact Ev.now _
      · simp only [within_eq, Option.bind_some, if_true]
        generalize decide (0 ≤ u ∧ u ≤ a) = p
        cases p <;> exact Ev.now _
      · simp only [if_true]; exact Ev.now _

end Go.Proofs.Ytlplkcdlnplioaa.Pure

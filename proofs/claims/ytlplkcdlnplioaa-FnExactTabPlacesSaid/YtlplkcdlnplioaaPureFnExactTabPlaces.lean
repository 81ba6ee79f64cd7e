/- For all three numbers the printed law FnExactTabPlaces answers true: the program's TabPlaces and the reference's agree, and the result is new memory. -/
import Derived.Test.YtlplkcdlnplioaaPFnExactTabPlacesx2
namespace Go.Proofs.Ytlplkcdlnplioaa.Pure
open Go.RowKit Go.Proofs.Ytlplkcdlnplioaa.PFnExactTabPlaces Go.Proofs.YtlplkcdlnplioaaW.PrintWords Go.Proofs.YtlplkcdlnplioaaW.PrintLast
set_option linter.unusedVariables false
set_option linter.unusedSimpArgs false

theorem w64 {x : Int} (h0 : -9223372036854775808 ≤ x) (h1 : x ≤ 9223372036854775807) : wrap64 x = x := by unfold wrap64; omega
theorem wf64 {x : Int} (h : (Lit.int .i64 x).wf = true) : -9223372036854775808 ≤ x ∧ x ≤ 9223372036854775807 := by
  simp only [Lit.wf, IntKind.has, Bool.and_eq_true, decide_eq_true_eq] at h
  exact h
theorem maxLen_eq : maxLen = 9223372036854775807 := rfl
theorem Ev.cond {α : Type} {c : Prop} [Decidable c] {g f : Nat → Option α} {r : α} (h : c → Ev g r) (h' : ¬ c → Ev f r) : Ev (fun k => if c then g k else f k) r := by
  by_cases hc : c
  · simp only [if_pos hc]; exact h hc
  · simp only [if_neg hc]; exact h' hc

theorem in_eq (n lo hi : Int) : spec_l00In.f n lo hi = some (decide (lo ≤ n ∧ n ≤ hi)) := by
  unfold spec_l00In.f
  by_cases h : n ≥ lo
  · rw [if_pos h]; simp [show lo ≤ n from h]
  · rw [if_neg h]; simp; omega

theorem within_eq (n lo hi : Int) : impl_within.f n lo hi = some (decide (lo ≤ n ∧ n ≤ hi)) := by
  unfold impl_within.f
  by_cases h : n ≥ lo
  · rw [if_pos h]; simp [show lo ≤ n from h]
  · rw [if_neg h]; simp; omega

theorem eqS_tail (xs : List Int) (hl : xs.length ≤ 9223372036854775807) (d : Nat) : ∀ (i : Int), 0 ≤ i → (xs.length : Int) - i = d → Ev (fun k => laws_eqInt64S.l0 k xs xs i) true := by
  induction d with
  | zero =>
    intro i h0 hd
    refine Ev.step (f := fun _ => some true) (fun k => ?_) (Ev.now _)
    simp only [laws_eqInt64S.l0]; rw [if_neg (by omega)]
  | succ d ih =>
    intro i h0 hd
    refine Ev.step (f := fun k => laws_eqInt64S.l0 k xs xs (i + 1)) (fun k => ?_) (ih (i + 1) (by omega) (by omega))
    simp only [laws_eqInt64S.l0]; rw [if_pos (by omega), if_pos h0, if_pos (by omega), if_pos trivial, w64 (by omega) (by omega)]
theorem eqS_same (xs : List Int) (hl : xs.length ≤ 9223372036854775807) : Ev (fun k => laws_eqInt64S.f k xs xs) true := by
  unfold laws_eqInt64S.f
  simp only [if_true]
  exact eqS_tail xs hl xs.length 0 (by omega) (by omega)

def mk : Nat → Int → List Int
  | 0, _ => []
  | n + 1, a => a :: mk n (a + 1)
theorem mk_length (n : Nat) : ∀ a, (mk n a).length = n := by
  induction n with
  | zero => intro a; rfl
  | succ n ih => intro a; simp [mk, ih]
theorem mk_at (n : Nat) : ∀ (a : Int) (j : Nat), j < n → (mk n a).getD j 0 = a + j := by
  induction n with
  | zero => intro a j h; omega
  | succ n ih =>
    intro a j h
    cases j with
    | zero => simp [mk]
    | succ j => simp only [mk, List.getD_cons_succ]; rw [ih (a + 1) j (by omega)]; omega
theorem mark_tail (d : Nat) : ∀ (xs : List Int) (a i : Int), 0 ≤ i → (xs.length : Int) - i = d → xs.length ≤ 4611686018427387903 → 0 ≤ a → a + d ≤ 9223372036854775807 →
    Ev (fun k => laws_markInt64S.l0 k xs a i) (a + d, xs.take i.toNat ++ mk d a) := by
  induction d with
  | zero =>
    intro xs a i h0 hd hl ha hb
    refine Ev.step (f := fun _ => some (a, xs)) (fun k => ?_) ?_
    · simp only [laws_markInt64S.l0]; rw [if_neg (by omega)]
    · rw [show xs.take i.toNat = xs from List.take_of_length_le (by omega)]
      simp [mk]; exact Ev.now _
  | succ d ih =>
    intro xs a i h0 hd hl ha hb
    have h := ih (xs.set i.toNat a) (a + 1) (i + 1) (by omega) (by rw [List.length_set]; omega) (by rw [List.length_set]; omega) (by omega) (by omega)
    refine Ev.step (f := fun k => laws_markInt64S.l0 k (xs.set i.toNat a) (a + 1) (i + 1)) (fun k => ?_) ?_
    · simp only [laws_markInt64S.l0]; rw [if_pos (by omega), if_pos h0, w64 (x := a + 1) (by omega) (by omega), w64 (x := i + 1) (by omega) (by omega)]
    · have e1 : (i + 1).toNat = i.toNat + 1 := by omega
      have e2 : (xs.set i.toNat a).take (i.toNat + 1) = xs.take i.toNat ++ [a] := by
        rw [List.take_succ_eq_append_getElem (by rw [List.length_set]; omega), List.getElem_set_self, List.take_set_of_le (by omega)]
      rw [e1, e2] at h
      rw [show a + ((d + 1 : Nat) : Int) = a + 1 + d by omega]
      simpa [mk] using h
theorem held_tail (n : Nat) (b : Int) (hn : n ≤ 4611686018427387903) (hb0 : 0 ≤ b) (hb : b + n ≤ 9223372036854775807) (d : Nat) : ∀ (i : Int), 0 ≤ i → (n : Int) - i = d →
    Ev (fun k => laws_heldInt64S.l0 k (mk n b) (b + i) i) (b + n) := by
  induction d with
  | zero =>
    intro i h0 hd
    refine Ev.step (f := fun _ => some (b + n)) (fun k => ?_) (Ev.now _)
    simp only [laws_heldInt64S.l0]; rw [if_neg (by rw [mk_length]; omega), show b + i = b + n by omega]
  | succ d ih =>
    intro i h0 hd
    have h := ih (i + 1) (by omega) (by omega)
    refine Ev.step (f := fun k => laws_heldInt64S.l0 k (mk n b) (b + (i + 1)) (i + 1)) (fun k => ?_) h
    simp only [laws_heldInt64S.l0]
    rw [if_pos (by rw [mk_length]; omega), if_pos h0, if_pos (by unfold rd; rw [mk_at n b i.toNat (by omega)]; omega), w64 (x := b + i + 1) (by omega) (by omega), w64 (x := i + 1) (by omega) (by omega), show b + i + 1 = b + (i + 1) by omega]
theorem mark_held (xs : List Int) (hl : xs.length ≤ 1000000000) : Ev (fun k => laws_markInt64S.f k xs 1) (1 + (xs.length : Int), mk xs.length 1) ∧ Ev (fun k => laws_heldInt64S.f k (mk xs.length 1) 1) (1 + (xs.length : Int)) := by
  constructor
  · have h := mark_tail xs.length xs 1 0 (by omega) (by omega) (by omega) (by omega) (by omega)
    simpa [laws_markInt64S.f] using h
  · have h := held_tail xs.length 1 (by omega) (by omega) (by omega) xs.length 0 (by omega) (by omega)
    simpa [laws_heldInt64S.f] using h

theorem round_eq (a b : Int) (ha : 0 ≤ a) (hb : 0 < b) : (2 * a + b) / (2 * b) = if a % b ≥ b - a % b then a / b + 1 else a / b := by
  have h1 : b * (a / b) + a % b = a := Int.mul_ediv_add_emod a b
  have h2 : 0 ≤ a % b := Int.emod_nonneg a (by omega)
  have h3 : a % b < b := Int.emod_lt_of_pos a hb
  have h4 : 2 * b * (a / b) = 2 * (b * (a / b)) := Int.mul_assoc 2 b (a / b)
  by_cases h : a % b ≥ b - a % b
  · rw [if_pos h]
    refine ((Int.ediv_emod_unique (r := 2 * (a % b) - b) (by omega)).2 ⟨?_, by omega, by omega⟩).1
    rw [Int.mul_add, h4]; omega
  · rw [if_neg h]
    refine ((Int.ediv_emod_unique (r := 2 * (a % b) + b) (by omega)).2 ⟨?_, by omega, by omega⟩).1
    rw [h4]; omega
theorem mx_self_neg (a : Int) (ha : 0 ≤ a) (ha2 : a ≤ 9223372036854775807) : mx a (wrap64 (-a)) = a := by
  rw [w64 (by omega) (by omega)]; unfold mx; split <;> omega
theorem nearest_eq (a b : Int) (ha : 0 ≤ a) (ha2 : a ≤ 2305843009213693951) (hb : 0 < b) (hb2 : b ≤ 2305843009213693951) : impl_nearest.f a b = some ((2 * a + b) / (2 * b)) := by
  have h1 : b * (a / b) + a % b = a := Int.mul_ediv_add_emod a b
  have h2 : 0 ≤ a % b := Int.emod_nonneg a (by omega)
  have h3 : a % b < b := Int.emod_lt_of_pos a hb
  have h5 : 0 ≤ a / b := Int.ediv_nonneg ha (by omega)
  have h6 : a / b ≤ a := Int.ediv_le_self b ha
  unfold impl_nearest.f
  rw [mx_self_neg a ha (by omega), mx_self_neg b (by omega) (by omega), if_neg (by omega), if_neg (by omega), Int.tmod_eq_emod_of_nonneg ha, Int.tdiv_eq_ediv_of_nonneg ha,
    w64 (x := b - a % b) (by omega) (by omega), w64 (x := a / b) (by omega) (by omega), w64 (x := a / b + 1) (by omega) (by omega), round_eq a b ha hb]
  rw [show decide (a < 0) = false from decide_eq_false (by omega), show decide (b < 0) = false from decide_eq_false (by omega)]
  simp only [bne_self_eq_false, Bool.false_eq_true, if_false]
  split <;> rfl
theorem div_eq (a b : Int) (ha : 0 ≤ a) (ha2 : a ≤ 2305843009213693951) (hb : 0 < b) (hb2 : b ≤ 2305843009213693951) : spec_l01Div.f a b = some ((2 * a + b) / (2 * b)) := by
  unfold spec_l01Div.f
  have h5 : 0 ≤ (2 * a + b) / (2 * b) := Int.ediv_nonneg (by omega) (by omega)
  have h6 : (2 * a + b) / (2 * b) ≤ 2 * a + b := Int.ediv_le_self (2 * b) (by omega)
  rw [if_neg (by omega), if_neg (by omega), w64 (x := 2 * b) (by omega) (by omega), if_neg (by omega), w64 (x := 2 * a) (by omega) (by omega), w64 (x := 2 * a + b) (by omega) (by omega), Int.tdiv_eq_ediv_of_nonneg (by omega), w64 (by omega) (by omega)]

theorem max_eq (a b : Int) : spec_l00Max.f a b = some (if a > b then a else b) := by unfold spec_l00Max.f; split <;> rfl
theorem tabs_tail (x t n : Int) (hx : 0 ≤ x ∧ x ≤ 20000) (ht : 1 ≤ t ∧ t ≤ 200) (hn : 1 ≤ n ∧ n ≤ 20000) (d : Nat) : ∀ (i : Int) (out : List Int), 0 ≤ i → n - i = d → (out.length : Int) = i →
    ∃ r, Ev (fun k => impl_tabs.l0 k x t n out i) r ∧ Ev (fun k => spec_l14Tabs.l0 k x t n out i) r ∧ r.length ≤ 20000 := by
  induction d with
  | zero =>
    intro i out h0 hd ho
    refine ⟨out, Ev.step (f := fun _ => some out) (fun k => ?_) (Ev.now _), Ev.step (f := fun _ => some out) (fun k => ?_) (Ev.now _), by omega⟩
    · simp only [impl_tabs.l0]; rw [if_neg (by omega)]
    · simp only [spec_l14Tabs.l0]; rw [if_neg (by omega)]
  | succ d ih =>
    intro i out h0 hd ho
    by_cases hc : x ≥ wrap64 (wrap64 (3 * n) * t)
    · have p1 := Int.mul_le_mul hx.2 (show 2 * i + 1 ≤ 40001 by omega) (by omega) (by omega)
      have p0 : 0 ≤ x * (2 * i + 1) := Int.mul_nonneg hx.1 (by omega)
      have hq : (2 * (x * (2 * i + 1)) + 2 * n) / (2 * (2 * n)) ≤ 2 * (x * (2 * i + 1)) + 2 * n := Int.ediv_le_self _ (by omega)
      obtain ⟨r, h1, h2, h3⟩ := ih (i + 1) (out ++ [wrap64 ((2 * (x * (2 * i + 1)) + 2 * n) / (2 * (2 * n)) - wrap64 (Int.tdiv t 2))]) (by omega) (by omega) (by simp; omega)
      refine ⟨r, Ev.step (f := fun k => impl_tabs.l0 k x t n (out ++ [wrap64 ((2 * (x * (2 * i + 1)) + 2 * n) / (2 * (2 * n)) - wrap64 (Int.tdiv t 2))]) (i + 1)) (fun k => ?_) h1,
        Ev.step (f := fun k => spec_l14Tabs.l0 k x t n (out ++ [wrap64 ((2 * (x * (2 * i + 1)) + 2 * n) / (2 * (2 * n)) - wrap64 (Int.tdiv t 2))]) (i + 1)) (fun k => ?_) h2, h3⟩
      · simp only [impl_tabs.l0]
        rw [if_pos (by omega), if_pos hc, w64 (x := 2 * i) (by omega) (by omega), w64 (x := 2 * i + 1) (by omega) (by omega), w64 (x := x * (2 * i + 1)) (by omega) (by omega), w64 (x := 2 * n) (by omega) (by omega), nearest_eq _ _ p0 (by omega) (by omega) (by omega)]
        simp only [Option.bind_some]
        rw [if_pos (by omega), w64 (x := i + 1) (by omega) (by omega)]
      · simp only [spec_l14Tabs.l0]
        rw [if_pos (by omega), if_pos hc, w64 (x := 2 * i) (by omega) (by omega), w64 (x := 2 * i + 1) (by omega) (by omega), w64 (x := x * (2 * i + 1)) (by omega) (by omega), w64 (x := 2 * n) (by omega) (by omega), div_eq _ _ p0 (by omega) (by omega) (by omega)]
        simp only [Option.bind_some]
        rw [if_pos (by omega), w64 (x := i + 1) (by omega) (by omega)]
    · refine ⟨out, Ev.step (f := fun _ => some out) (fun k => ?_) (Ev.now _), Ev.step (f := fun _ => some out) (fun k => ?_) (Ev.now _), by omega⟩
      · simp only [impl_tabs.l0]; rw [if_pos (by omega), if_neg hc]
      · simp only [spec_l14Tabs.l0]; rw [if_pos (by omega), if_neg hc]
theorem tabs_same (x p t : Int) (hx : 0 ≤ x ∧ x ≤ 20000) (hp : 1 ≤ p ∧ p ≤ 5000) (ht : 1 ≤ t ∧ t ≤ 200) :
    ∃ r, Ev (fun k => impl_tabs.f k x p t) r ∧ Ev (fun k => spec_l14Tabs.f k x p t) r ∧ r.length ≤ 20000 := by
  have h5 : 0 ≤ x / p := Int.ediv_nonneg hx.1 (by omega)
  have h6 : x / p ≤ x := Int.ediv_le_self p hx.1
  obtain ⟨r, h1, h2, h3⟩ := tabs_tail x t (if 1 > x / p then 1 else x / p) hx ht (by split <;> omega) (if 1 > x / p then 1 else x / p).toNat 0 [] (by omega) (by split <;> omega) rfl
  refine ⟨r, ?_, ?_, h3⟩
  · unfold impl_tabs.f
    simp only [if_neg (show ¬ p = 0 by omega), Int.tdiv_eq_ediv_of_nonneg hx.1, w64 (x := x / p) (by omega) (by omega)]
    rw [show mx (x / p) 1 = if 1 > x / p then 1 else x / p from rfl]
    exact h1
  · unfold spec_l14Tabs.f
    simp only [if_neg (show ¬ p = 0 by omega), Int.tdiv_eq_ediv_of_nonneg hx.1, w64 (x := x / p) (by omega) (by omega), max_eq, Option.bind_some]
    exact h2
theorem tabPlaces_same (x p t : Int) : ∃ (r : List Int) (c : Int), Ev (fun k => impl_TabPlaces.f k x p t) (r, c) ∧ Ev (fun k => spec_TabPlaces.f k x p t) (r, c) ∧ r.length ≤ 20000 := by
  unfold impl_TabPlaces.f spec_TabPlaces.f
  simp only [within_eq, in_eq, Option.bind_some, decide_eq_true_eq]
  by_cases hx : 0 ≤ x ∧ x ≤ 20000
  · by_cases hp : 1 ≤ p ∧ p ≤ 5000
    · by_cases ht : 1 ≤ t ∧ t ≤ 200
      · obtain ⟨r, h1, h2, h3⟩ := tabs_same x p t hx hp ht
        simp only [if_pos hx, if_pos hp, if_pos ht]
        exact ⟨r, 0, Ev.bind h1 (Ev.now _), Ev.bind h2 (Ev.now _), h3⟩
      · simp only [if_pos hx, if_pos hp, if_neg ht]; exact ⟨[], 2, Ev.now _, Ev.now _, by simp⟩
    · simp only [if_pos hx, if_neg hp]; exact ⟨[], 2, Ev.now _, Ev.now _, by simp⟩
  · simp only [if_neg hx]; exact ⟨[], 2, Ev.now _, Ev.now _, by simp⟩

theorem FnExactTabPlaces : laws_FnExactTabPlaces.Pure := by
  intro x p t _ _ _
  obtain ⟨r, c, h1, h2, h3⟩ := tabPlaces_same x p t
  have he := eqS_same r (by omega)
  obtain ⟨hm, hh⟩ := mark_held r (by omega)
  suffices h : Ev (fun k => laws_FnExactTabPlaces.f k x p t) true from h.rounds
  have hj1 : Ev (fun k => laws_FnExactTabPlaces.j1 k (mk r.length 1) (1 + (r.length : Int)) false) true := by
    refine Ev.step (f := fun k => (laws_heldInt64S.f k (mk r.length 1) 1).bind fun t143 => if t143 < 0 then some false else if t143 = 1 + (r.length : Int) then some true else some false) (fun k => ?_) (Ev.bind hh ?_)
    · simp only [laws_FnExactTabPlaces.j1]; rw [if_neg (by simp)]
    · simp only [if_neg (show ¬ (1 + (r.length : Int)) < 0 by omega), if_true]; exact Ev.now _
  unfold laws_FnExactTabPlaces.f
  refine Ev.bind h2 (Ev.bind h1 (Ev.bind he ?_))
  simp only [bne_self_eq_false, if_true]
  refine Ev.step (f := fun k => (laws_markInt64S.f k r 1).bind fun bt => (laws_heldInt64S.f k bt.2 1).bind fun t143 => if t143 < 0 then some false else if t143 = bt.1 then ((impl_TabPlaces.f k x p t).bind fun b2 => (laws_eqInt64S.f k b2.1 r).bind fun t148 => if t148 = true then laws_FnExactTabPlaces.j1 k bt.2 bt.1 (b2.2 != c) else laws_FnExactTabPlaces.j1 k bt.2 bt.1 true) else some false) (fun k => ?_) (Ev.bind hm (Ev.bind hh ?_))
  · simp only [laws_FnExactTabPlaces.j0]; rw [if_neg (by simp)]
  · simp only [if_neg (show ¬ (1 + (r.length : Int)) < 0 by omega), if_true]
    refine Ev.bind h1 (Ev.bind he ?_)
    simp only [bne_self_eq_false, if_true]
    exact hj1

end Go.Proofs.Ytlplkcdlnplioaa.Pure

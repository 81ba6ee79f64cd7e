/- For every input the printed law FnBevel answers true: the best angle has the least gap, and just the angles of a range close it. -/
import Derived.Test.YtlplkcdlnplioaaDoorPFnBevelx3
namespace Go.Proofs.YtlplkcdlnplioaaDoor.Pure
open Go.RowKit Go.Proofs.YtlplkcdlnplioaaDoor.PFnBevel Go.Proofs.YtlplkcdlnplioaaDoorW.PrintWords Go.Proofs.YtlplkcdlnplioaaDoorW.PrintLast
set_option linter.unusedVariables false
set_option linter.unusedSimpArgs false
set_option linter.unnecessarySimpa false

theorem w64 {x : Int} (h0 : -9223372036854775808 ≤ x) (h1 : x ≤ 9223372036854775807) : wrap64 x = x := by unfold wrap64; omega
theorem wf64 {x : Int} (h : (Lit.int .i64 x).wf = true) : -9223372036854775808 ≤ x ∧ x ≤ 9223372036854775807 := by
  simp only [Lit.wf, IntKind.has, Bool.and_eq_true, decide_eq_true_eq] at h
  exact h
theorem maxLen_eq : maxLen = 9223372036854775807 := rfl
theorem Ev.cond {α : Type} {c : Prop} [Decidable c] {g f : Nat → Option α} {r : α} (h : c → Ev g r) (h' : ¬ c → Ev f r) : Ev (fun k => if c then g k else f k) r := by
  by_cases hc : c
  · simp only [if_pos hc]; exact h hc
  · simp only [if_neg hc]; exact h' hc
theorem down {n : Nat} {Q : Nat → Prop} (he : Q n) (hs : ∀ i, i < n → Q (i + 1) → Q i) : Q 0 := by
  have h : ∀ d i, i + d = n → Q i := by
    intro d
    induction d with
    | zero => intro i hi; have : i = n := by omega
              subst this; exact he
    | succ d ih => intro i hi; exact hs i (by omega) (ih (i + 1) (by omega))
  exact h n 0 (by omega)
theorem wsucc {i : Nat} (h : i < 9223372036854775807) : wrap64 ((i : Int) + 1) = ((i + 1 : Nat) : Int) := by rw [w64 (by omega) (by omega)]; omega
theorem getD_mem {α : Type} {xs : List α} {i : Nat} (z : α) (h : i < xs.length) : xs.getD i z ∈ xs := by
  rw [List.getD_eq_getElem?_getD, List.getElem?_eq_getElem h]; exact List.getElem_mem h
theorem getD_map {α β : Type} {xs : List α} {i : Nat} (c : α → β) (z : α) (z' : β) (h : i < xs.length) : (xs.map c).getD i z' = c (xs.getD i z) := by
  rw [List.getD_eq_getElem?_getD, List.getD_eq_getElem?_getD, List.getElem?_eq_getElem h, List.getElem?_eq_getElem (by simpa using h)]; simp
theorem Ev.some_eq {α : Type} {g : Nat → Option α} {r : α} (h : ∀ k, g (k + 1) = some r) : Ev g r := Ev.step (f := fun _ => some r) h (Ev.now r)
/-- A row made full of one value and filled from the left. -/
theorem ev_fill {α β : Type} (xs : List α) (z : α) (c : α → β) (L : Nat → List β → Int → Option (List β))
    (he : ∀ ys : List β, ys.length = xs.length → Ev (fun k => L k ys (xs.length : Int)) ys)
    (hs : ∀ (ys r : List β) (i : Nat), i < xs.length → ys.length = xs.length → Ev (fun k => L k (ys.set i (c (xs.getD i z))) ((i + 1 : Nat) : Int)) r → Ev (fun k => L k ys (i : Int)) r) :
    ∀ ys : List β, ys.length = xs.length → Ev (fun k => L k ys 0) (xs.map c) := by
  have h : ∀ d (i : Nat) (ys : List β), i + d = xs.length → ys.length = xs.length → Ev (fun k => L k ys (i : Int)) (ys.take i ++ (xs.drop i).map c) := by
    intro d
    induction d with
    | zero =>
      intro i ys hi hy
      have e : i = xs.length := by omega
      subst e
      rw [List.drop_of_length_le (Nat.le_refl _), List.map_nil, List.append_nil, List.take_of_length_le (by omega)]
      exact he ys hy
    | succ d ih =>
      intro i ys hi hy
      have hlt : i < xs.length := by omega
      refine hs ys _ i hlt hy ?_
      have h2 := ih (i + 1) (ys.set i (c (xs.getD i z))) (by omega) (by rw [List.length_set]; exact hy)
      have e2 : (ys.set i (c (xs.getD i z))).take (i + 1) = ys.take i ++ [c (xs.getD i z)] := by
        rw [List.take_succ_eq_append_getElem (by rw [List.length_set]; omega), List.getElem_set_self, List.take_set_of_le (by omega)]
      have e3 : xs.drop i = xs.getD i z :: xs.drop (i + 1) := by
        rw [List.drop_eq_getElem_cons hlt, List.getD_eq_getElem?_getD, List.getElem?_eq_getElem hlt]; rfl
      rw [e2] at h2
      rw [e3, List.map_cons]
      simpa using h2
  intro ys hy
  have := h xs.length 0 ys (by omega) hy
  simpa using this
/-- One round of a loop, which leans on what a call answers. -/
theorem Ev.step1 {α β : Type} {g f : Nat → Option α} {u : Nat → Option β} {b : β} {r : α} (e : Ev u b) (k : Ev f r) (h : ∀ k, u k = some b → g (k + 1) = f k) : Ev g r := by
  obtain ⟨K, e⟩ := e
  obtain ⟨K', k⟩ := k
  refine ⟨max K K' + 1, fun n hn => ?_⟩
  obtain ⟨m, rfl⟩ : ∃ m, n = m + 1 := ⟨n - 1, by omega⟩
  rw [h m (e m (by omega))]
  exact k m (by omega)
theorem Ev.step2 {α β γ : Type} {g f : Nat → Option α} {u : Nat → Option β} {v : Nat → Option γ} {b : β} {c : γ} {r : α} (e : Ev u b) (e' : Ev v c) (k : Ev f r) (h : ∀ k, u k = some b → v k = some c → g (k + 1) = f k) : Ev g r := by
  obtain ⟨K, e⟩ := e
  obtain ⟨K2, e'⟩ := e'
  obtain ⟨K', k⟩ := k
  refine ⟨max (max K K2) K' + 1, fun n hn => ?_⟩
  obtain ⟨m, rfl⟩ : ∃ m, n = m + 1 := ⟨n - 1, by omega⟩
  rw [h m (e m (by omega)) (e' m (by omega))]
  exact k m (by omega)

theorem within_eq (n lo hi : Int) : impl_within.f n lo hi = some (decide (lo ≤ n ∧ n ≤ hi)) := by
  unfold impl_within.f
  by_cases h : n ≥ lo
  · rw [if_pos h]; simp [show lo ≤ n from h]
  · rw [if_neg h]; simp; omega

theorem round_eq (a b : Int) (ha : 0 ≤ a) (hb : 0 < b) : (2 * a + b) / (2 * b) = if a % b ≥ b - a % b then a / b + 1 else a / b := by
  have h1 : b * (a / b) + a % b = a := Int.mul_ediv_add_emod a b
  have h2 : 0 ≤ a % b := Int.emod_nonneg a (by omega)
  have h3 : a % b < b := Int.emod_lt_of_pos a hb
  have h4 : 2 * b * (a / b) = 2 * (b * (a / b)) := Int.mul_assoc 2 b (a / b)
  by_cases h : a % b ≥ b - a % b
  · rw [if_pos h]
    refine ((Int.ediv_emod_unique (r := 2 * (a % b) - b) (by omega)).2 ⟨?_, by omega, by omega⟩).1
    rw [Int.mul_add, h4]; omega
  · rw [if_neg h]
    refine ((Int.ediv_emod_unique (r := 2 * (a % b) + b) (by omega)).2 ⟨?_, by omega, by omega⟩).1
    rw [h4]; omega
theorem mx_self_neg (a : Int) (ha : 0 ≤ a) (ha2 : a ≤ 9223372036854775807) : mx a (wrap64 (-a)) = a := by
  rw [w64 (by omega) (by omega)]; unfold mx; split <;> omega
theorem nearest_eq (a b : Int) (ha : 0 ≤ a) (ha2 : a ≤ 2305843009213693951) (hb : 0 < b) (hb2 : b ≤ 2305843009213693951) : impl_nearest.f a b = some ((2 * a + b) / (2 * b)) := by
  have h1 : b * (a / b) + a % b = a := Int.mul_ediv_add_emod a b
  have h2 : 0 ≤ a % b := Int.emod_nonneg a (by omega)
  have h3 : a % b < b := Int.emod_lt_of_pos a hb
  have h5 : 0 ≤ a / b := Int.ediv_nonneg ha (by omega)
  have h6 : a / b ≤ a := Int.ediv_le_self b ha
  unfold impl_nearest.f
  rw [mx_self_neg a ha (by omega), mx_self_neg b (by omega) (by omega), if_neg (by omega), if_neg (by omega), Int.tmod_eq_emod_of_nonneg ha, Int.tdiv_eq_ediv_of_nonneg ha,
    w64 (x := b - a % b) (by omega) (by omega), w64 (x := a / b) (by omega) (by omega), w64 (x := a / b + 1) (by omega) (by omega), round_eq a b ha hb]
  rw [show decide (a < 0) = false from decide_eq_false (by omega), show decide (b < 0) = false from decide_eq_false (by omega)]
  simp only [bne_self_eq_false, Bool.false_eq_true, if_false]
  split <;> rfl

theorem rdn (xs : List Int) (i : Nat) : rd xs (i : Int) = xs.getD i 0 := by show xs.getD (i : Int).toNat 0 = _; rw [Int.toNat_natCast]
theorem tab_all : ∀ i : Nat, i < 31 → 0 ≤ gt0.getD i 0 ∧ gt0.getD i 0 ≤ 5774 := by decide
theorem tab_range (d : Int) (h0 : 0 ≤ d) (h1 : d ≤ 30) : 0 ≤ rd gt0 d ∧ rd gt0 d ≤ 5774 := by
  obtain ⟨i, rfl⟩ : ∃ i : Nat, d = i := ⟨d.toNat, by omega⟩
  rw [rdn]; exact tab_all i (by omega)

theorem wf8 {x : Int} (h : (Lit.int .u8 x).wf = true) : 0 ≤ x ∧ x ≤ 255 := by
  simp only [Lit.wf, IntKind.has, Bool.and_eq_true, decide_eq_true_eq] at h
  exact h
/-- The gap at an angle. -/
def gapOf (t k : Int) (i : Nat) : Int := k - (2 * (t * gt0.getD i 0) + 10000) / (2 * 10000)
def openOf (t k : Int) (i : Nat) : Int := mx (gapOf t k i) (wrap64 (-(gapOf t k i)))
theorem gap_eq (t k : Int) (ht : 1 ≤ t ∧ t ≤ 1000) (hk : 0 ≤ k ∧ k ≤ 200) (i : Nat) (hi : i ≤ 30) : impl_bevelGap.f t k (i : Int) = some (gapOf t k i) ∧ -10000000 ≤ gapOf t k i ∧ gapOf t k i ≤ 200 := by
  obtain ⟨r0, r1⟩ := tab_all i (by omega)
  have m0 : 0 ≤ t * gt0.getD i 0 := Int.mul_nonneg (by omega) r0
  have m1 : t * gt0.getD i 0 ≤ 1000 * 5774 := Int.mul_le_mul ht.2 r1 r0 (by omega)
  have q0 : 0 ≤ (2 * (t * gt0.getD i 0) + 10000) / (2 * 10000) := Int.ediv_nonneg (by omega) (by omega)
  have q1 : (2 * (t * gt0.getD i 0) + 10000) / (2 * 10000) ≤ 2 * (t * gt0.getD i 0) + 10000 := Int.ediv_le_self (2 * 10000) (by omega)
  refine ⟨?_, by unfold gapOf; omega, by unfold gapOf; omega⟩
  unfold impl_bevelGap.f gapOf
  rw [if_pos (by omega), if_pos (show (i : Int) < 31 by omega), rdn, w64 (x := t * gt0.getD i 0) (by omega) (by omega), nearest_eq _ _ m0 (by omega) (by omega) (by omega)]
  simp only [Option.bind_some]
  rw [w64 (by omega) (by omega)]
theorem tab_step : ∀ i : Nat, i < 30 → gt0.getD i 0 ≤ gt0.getD (i + 1) 0 := by decide
theorem tab_mono (i : Nat) : ∀ j : Nat, i ≤ j → j ≤ 30 → gt0.getD i 0 ≤ gt0.getD j 0 := by
  intro j
  induction j with
  | zero =>
    intro h _
    obtain rfl : i = 0 := by omega
    exact Int.le_refl _
  | succ j ih =>
    intro h hj
    rcases Nat.eq_or_lt_of_le h with rfl | hlt
    · exact Int.le_refl _
    · exact Int.le_trans (ih (by omega) (by omega)) (tab_step j (by omega))
theorem gap_mono (t k : Int) (ht : 1 ≤ t) (i j : Nat) (h : i ≤ j) (hj : j ≤ 30) : gapOf t k j ≤ gapOf t k i := by
  have h1 : t * gt0.getD i 0 ≤ t * gt0.getD j 0 := Int.mul_le_mul_of_nonneg_left (tab_mono i j h hj) (by omega)
  have h2 : (2 * (t * gt0.getD i 0) + 10000) / (2 * 10000) ≤ (2 * (t * gt0.getD j 0) + 10000) / (2 * 10000) := Int.ediv_le_ediv (by omega) (by omega)
  unfold gapOf; omega
theorem open_le (t k : Int) (ht : 1 ≤ t ∧ t ≤ 1000) (hk : 0 ≤ k ∧ k ≤ 200) (i : Nat) (hi : i ≤ 30) (m : Int) : openOf t k i ≤ m ↔ gapOf t k i ≤ m ∧ -(gapOf t k i) ≤ m := by
  obtain ⟨_, g0, g1⟩ := gap_eq t k ht hk i hi
  unfold openOf
  rw [w64 (x := -(gapOf t k i)) (by omega) (by omega)]
  unfold mx
  split <;> omega
theorem between (t k m : Int) (ht : 1 ≤ t ∧ t ≤ 1000) (hk : 0 ≤ k ∧ k ≤ 200) (a b i : Nat) (ha : a ≤ i) (hb : i ≤ b) (h30 : b ≤ 30) (oa : openOf t k a ≤ m) (ob : openOf t k b ≤ m) : openOf t k i ≤ m := by
  have h1 := (open_le t k ht hk a (by omega) m).1 oa
  have h2 := (open_le t k ht hk b (by omega) m).1 ob
  have h3 := gap_mono t k ht.1 a i ha (by omega)
  have h4 := gap_mono t k ht.1 i b hb h30
  exact (open_le t k ht hk i (by omega) m).2 ⟨by omega, by omega⟩
theorem best_ev (t k : Int) (ht : 1 ≤ t ∧ t ≤ 1000) (hk : 0 ≤ k ∧ k ≤ 200) : ∃ b : Nat, b ≤ 30 ∧ (∀ i, i ≤ 30 → openOf t k b ≤ openOf t k i) ∧ Ev (fun n => impl_BestBevel.f n t k) ((b : Int), 0) := by
  have h := down (n := 30) (Q := fun i => ∀ b : Nat, b ≤ 30 → (∀ j, j ≤ i → openOf t k b ≤ openOf t k j) → ∃ r : Nat, r ≤ 30 ∧ (∀ j, j ≤ 30 → openOf t k r ≤ openOf t k j) ∧ Ev (fun n => impl_BestBevel.l0 n t k (b : Int) ((i : Int) + 1)) ((r : Int), 0)) ?_ ?_
  · obtain ⟨b, b0, b1, b2⟩ := h 0 (by omega) (fun j hj => (show j = 0 by omega) ▸ Int.le_refl _)
    refine ⟨b, b0, b1, ?_⟩
    unfold impl_BestBevel.f
    simp only [within_eq, Option.bind_some, decide_eq_true ht, decide_eq_true hk, if_true, Bool.not_true]
    exact Ev.step (fun n => by simp only [impl_BestBevel.j0]; rfl) (show Ev (fun n => impl_BestBevel.l0 n t k 0 1) ((b : Int), 0) by simpa using b2)
  · intro b b0 b1
    refine ⟨b, b0, b1, Ev.some_eq fun n => ?_⟩
    simp only [impl_BestBevel.l0]; rw [if_neg (by omega)]
  · intro i hi ih b b0 b1
    have e1 := (gap_eq t k ht hk (i + 1) (by omega)).1
    have e2 := (gap_eq t k ht hk b b0).1
    have hw : wrap64 ((i : Int) + 1 + 1) = ((i + 1 : Nat) : Int) + 1 := by rw [w64 (by omega) (by omega)]; omega
    rw [show ((i + 1 : Nat) : Int) = (i : Int) + 1 by omega] at e1
    by_cases hg : openOf t k (i + 1) < openOf t k b
    · obtain ⟨r, r0, r1, r2⟩ := ih (i + 1) (by omega) (fun j hj => by
        rcases Nat.eq_or_lt_of_le hj with rfl | hlt
        · exact Int.le_refl _
        · have := b1 j (by omega); omega)
      refine ⟨r, r0, r1, Ev.step (fun n => ?_) (show Ev (fun n => impl_BestBevel.l0 n t k ((i : Int) + 1) (((i + 1 : Nat) : Int) + 1)) ((r : Int), 0) by rw [show ((i + 1 : Nat) : Int) = (i : Int) + 1 by omega] at r2 ⊢; exact r2)⟩
      simp only [impl_BestBevel.l0, e1, e2, impl_absolute.f, Option.bind_some]; rw [if_pos (by omega), if_pos (show mx (gapOf t k (i + 1)) _ < mx (gapOf t k b) _ from hg), hw]
    · obtain ⟨r, r0, r1, r2⟩ := ih b b0 (fun j hj => by
        rcases Nat.eq_or_lt_of_le hj with rfl | hlt
        · omega
        · exact b1 j (by omega))
      refine ⟨r, r0, r1, Ev.step (fun n => ?_) r2⟩
      simp only [impl_BestBevel.l0, e1, e2, impl_absolute.f, Option.bind_some]; rw [if_pos (by omega), if_neg (show ¬ mx (gapOf t k (i + 1)) _ < mx (gapOf t k b) _ from hg), hw]
def Fin (t k m lo hi c : Int) : Prop := (c = 0 ∧ ∃ nl nh : Nat, lo = nl ∧ hi = nh ∧ nl ≤ nh ∧ nh ≤ 30 ∧ openOf t k nl ≤ m ∧ openOf t k nh ≤ m ∧ ∀ j, j ≤ 30 → openOf t k j ≤ m → nl ≤ j ∧ j ≤ nh) ∨ (c = 3 ∧ ∀ j, j ≤ 30 → ¬ openOf t k j ≤ m)
theorem range_ev (t k m : Int) (ht : 1 ≤ t ∧ t ≤ 1000) (hk : 0 ≤ k ∧ k ≤ 200) (hm : 0 ≤ m ∧ m ≤ 200) : ∃ lo hi c, Ev (fun n => impl_BevelRange.f n t k m) (lo, hi, c) ∧ Fin t k m lo hi c := by
  have h := down (n := 31) (Q := fun i => ((∀ j, j < i → ¬ openOf t k j ≤ m) → ∃ lo hi c, Ev (fun n => impl_BevelRange.l0 n t k m (-1) (-1) (i : Int)) (lo, hi, c) ∧ Fin t k m lo hi c) ∧
      (∀ nl nh : Nat, nl ≤ nh → nh < i → openOf t k nl ≤ m → openOf t k nh ≤ m → (∀ j, j < i → openOf t k j ≤ m → nl ≤ j ∧ j ≤ nh) → ∃ lo hi c, Ev (fun n => impl_BevelRange.l0 n t k m (nl : Int) (nh : Int) (i : Int)) (lo, hi, c) ∧ Fin t k m lo hi c)) ?_ ?_
  · obtain ⟨lo, hi, c, e, f⟩ := h.1 (fun j hj => by omega)
    refine ⟨lo, hi, c, ?_, f⟩
    unfold impl_BevelRange.f
    simp only [within_eq, Option.bind_some, decide_eq_true ht, decide_eq_true hk, decide_eq_true hm, if_true, Bool.not_true]
    exact Ev.step (fun n => by simp only [impl_BevelRange.j0]; rfl) e
  · refine ⟨fun hn => ⟨0, 0, 3, Ev.some_eq fun n => ?_, .inr ⟨rfl, fun j hj => hn j (by omega)⟩⟩, fun nl nh h1 h2 h3 h4 h5 => ⟨nl, nh, 0, Ev.some_eq fun n => ?_, .inl ⟨rfl, nl, nh, rfl, rfl, h1, by omega, h3, h4, fun j hj => h5 j (by omega)⟩⟩⟩
    · simp only [impl_BevelRange.l0]; rw [if_neg (by omega), if_pos (by omega)]
    · simp only [impl_BevelRange.l0]; rw [if_neg (by omega), if_neg (by omega)]
  · intro i hi ⟨ih1, ih2⟩
    have e1 := (gap_eq t k ht hk i (by omega)).1
    by_cases hg : openOf t k i ≤ m
    · constructor
      · intro hn
        obtain ⟨lo, hi', c, e, f⟩ := ih2 i i (Nat.le_refl _) (by omega) hg hg (fun j hj hjm => by
          by_cases hji : j < i
          · exact absurd hjm (hn j hji)
          · omega)
        refine ⟨lo, hi', c, Ev.step (fun n => ?_) e, f⟩
        simp only [impl_BevelRange.l0, e1, impl_absolute.f, Option.bind_some]; rw [if_pos (by omega), if_pos (show mx (gapOf t k i) _ ≤ m from hg), if_pos (by omega), wsucc (by omega)]
      · intro nl nh h1 h2 h3 h4 h5
        obtain ⟨lo, hi', c, e, f⟩ := ih2 nl i (by omega) (by omega) h3 hg (fun j hj hjm => by
          by_cases hji : j < i
          · have := h5 j hji hjm; omega
          · omega)
        refine ⟨lo, hi', c, Ev.step (fun n => ?_) e, f⟩
        simp only [impl_BevelRange.l0, e1, impl_absolute.f, Option.bind_some]; rw [if_pos (by omega), if_pos (show mx (gapOf t k i) _ ≤ m from hg), if_neg (by omega), wsucc (by omega)]
    · constructor
      · intro hn
        obtain ⟨lo, hi', c, e, f⟩ := ih1 (fun j hj => by
          by_cases hji : j < i
          · exact hn j hji
          · obtain rfl : j = i := by omega
            exact hg)
        refine ⟨lo, hi', c, Ev.step (fun n => ?_) e, f⟩
        simp only [impl_BevelRange.l0, e1, impl_absolute.f, Option.bind_some]; rw [if_pos (by omega), if_neg (show ¬ mx (gapOf t k i) _ ≤ m from hg), wsucc (by omega)]
      · intro nl nh h1 h2 h3 h4 h5
        obtain ⟨lo, hi', c, e, f⟩ := ih2 nl nh h1 (by omega) h3 h4 (fun j hj hjm => by
          by_cases hji : j < i
          · exact h5 j hji hjm
          · obtain rfl : j = i := by omega
            exact absurd hjm hg)
        refine ⟨lo, hi', c, Ev.step (fun n => ?_) e, f⟩
        simp only [impl_BevelRange.l0, e1, impl_absolute.f, Option.bind_some]; rw [if_pos (by omega), if_neg (show ¬ mx (gapOf t k i) _ ≤ m from hg), wsucc (by omega)]
theorem common_ev (t k m : Int) (ht : 1 ≤ t ∧ t ≤ 1000) (hk : 0 ≤ k ∧ k ≤ 200) (hm : 0 ≤ m ∧ m ≤ 200) : (∃ f : Nat, f ≤ 30 ∧ openOf t k f ≤ m ∧ (∀ j, j < f → ¬ openOf t k j ≤ m) ∧ Ev (fun n => impl_CommonBevel.f n [t] k m) ((f : Int), 0)) ∨ ((∀ j, j ≤ 30 → ¬ openOf t k j ≤ m) ∧ Ev (fun n => impl_CommonBevel.f n [t] k m) (0, 3)) := by
  have hr : rd [t] 0 = t := rfl
  have hw1 : wrap64 (0 + 1) = 1 := by rw [w64 (by omega) (by omega)]; rfl
  have ent : ∀ r : Int × Int, Ev (fun n => impl_CommonBevel.l1 n [t] k m 0) r → Ev (fun n => impl_CommonBevel.f n [t] k m) r := by
    intro r h
    unfold impl_CommonBevel.f
    refine Ev.step (f := fun n => impl_CommonBevel.l0 n [t] k m [t] 1 1) (fun n => ?_) (Ev.step (f := fun n => impl_CommonBevel.j1 n [t] k m false) (fun n => ?_) (Ev.step (fun n => ?_) h))
    · simp only [impl_CommonBevel.l0, List.length_singleton, hr, within_eq, Option.bind_some, decide_eq_true ht, if_true, hw1]; rw [if_pos (by omega), if_pos (by omega), if_pos (by omega)]; rfl
    · simp only [impl_CommonBevel.l0, within_eq, Option.bind_some, decide_eq_true hk, decide_eq_true hm, if_true, Bool.not_true]; rw [if_neg (by omega)]
    · simp only [impl_CommonBevel.j1, List.length_singleton]; rw [if_neg Bool.false_ne_true, if_neg (by omega)]
  have h := down (n := 31) (Q := fun i => (∀ j, j < i → ¬ openOf t k j ≤ m) → (∃ f : Nat, f ≤ 30 ∧ openOf t k f ≤ m ∧ (∀ j, j < f → ¬ openOf t k j ≤ m) ∧ Ev (fun n => impl_CommonBevel.l1 n [t] k m (i : Int)) ((f : Int), 0)) ∨ ((∀ j, j ≤ 30 → ¬ openOf t k j ≤ m) ∧ Ev (fun n => impl_CommonBevel.l1 n [t] k m (i : Int)) (0, 3))) ?_ ?_
  · rcases h (fun j hj => by omega) with ⟨f, f0, f1, f2, e⟩ | ⟨f2, e⟩
    · exact .inl ⟨f, f0, f1, f2, ent _ e⟩
    · exact .inr ⟨f2, ent _ e⟩
  · intro hn
    refine .inr ⟨fun j hj => hn j (by omega), Ev.some_eq fun n => ?_⟩
    simp only [impl_CommonBevel.l1]; rw [if_neg (by omega)]
  · intro i hi ih hn
    have e1 := (gap_eq t k ht hk i (by omega)).1
    have inn : ∀ r : Int × Int, Ev (fun n => impl_CommonBevel.l2 n [t] k m (i : Int) (decide (openOf t k i ≤ m)) (i : Int) [t] 1 1) r → Ev (fun n => impl_CommonBevel.l1 n [t] k m (i : Int)) r := by
      intro r h
      refine Ev.step (f := fun n => impl_CommonBevel.l2 n [t] k m (i : Int) true (i : Int) [t] 1 0) (fun n => ?_) (Ev.step (fun n => ?_) h)
      · simp only [impl_CommonBevel.l1, List.length_singleton]; rw [if_pos (by omega)]; rfl
      · simp only [impl_CommonBevel.l2, List.length_singleton, hr, e1, impl_absolute.f, Option.bind_some, hw1]; rw [if_pos (by omega), if_pos (by omega), if_pos (by omega), if_pos trivial]; rfl
    by_cases hg : openOf t k i ≤ m
    · refine .inl ⟨i, by omega, hg, hn, inn _ ?_⟩
      rw [decide_eq_true hg]
      refine Ev.some_eq fun n => ?_
      simp only [impl_CommonBevel.l2]; rw [if_neg (by omega), if_pos trivial]
    · have hn' : ∀ j, j < i + 1 → ¬ openOf t k j ≤ m := fun j hj => by
        by_cases hji : j < i
        · exact hn j hji
        · obtain rfl : j = i := by omega
          exact hg
      have nxt : ∀ r : Int × Int, Ev (fun n => impl_CommonBevel.l1 n [t] k m ((i + 1 : Nat) : Int)) r → Ev (fun n => impl_CommonBevel.l1 n [t] k m (i : Int)) r := by
        intro r h
        refine inn _ ?_
        rw [decide_eq_false hg]
        refine Ev.step (fun n => ?_) h
        simp only [impl_CommonBevel.l2]; rw [if_neg (by omega), if_neg Bool.false_ne_true, wsucc (by omega)]
      rcases ih hn' with ⟨f, f0, f1, f2, e⟩ | ⟨f2, e⟩
      · exact .inl ⟨f, f0, f1, f2, nxt _ e⟩
      · exact .inr ⟨f2, nxt _ e⟩
theorem at_ev (l : List Int) (hl : ∀ x ∈ l, (Lit.int .u8 x).wf = true) (i c : Int) (hi : 0 ≤ i) (hc : 2 ≤ c ∧ c ≤ 1000) : ∃ v, laws_r8At.f l i c = some v ∧ 0 ≤ v ∧ v < c := by
  unfold laws_r8At.f
  rw [if_neg (by omega)]
  by_cases h : i ≥ (l.length : Int)
  · rw [if_pos h]; exact ⟨0, rfl, by omega, by omega⟩
  · rw [if_neg h, if_pos hi, if_pos (by omega), if_neg (by omega)]
    obtain ⟨j, rfl⟩ : ∃ j : Nat, i = j := ⟨i.toNat, by omega⟩
    have hv := wf8 (hl _ (getD_mem 0 (show j < l.length by omega)))
    rw [rdn, w64 (by omega) (by omega)]
    exact ⟨_, rfl, Int.tmod_nonneg _ (by omega), Int.tmod_lt_of_pos _ (by omega)⟩
theorem wide_ev (l : List Int) (hl : ∀ x ∈ l, (Lit.int .u8 x).wf = true) (i c : Int) (hi : 0 ≤ i ∧ i ≤ 100) (hc : 2 ≤ c ∧ c ≤ 1000) : ∃ v, laws_r8Wide.f l i c = some v ∧ 0 ≤ v ∧ v < c := by
  obtain ⟨a, a1, a2, a3⟩ := at_ev l hl i 256 hi.1 (by omega)
  obtain ⟨b, b1, b2, b3⟩ := at_ev l hl (i + 1) 256 (by omega) (by omega)
  unfold laws_r8Wide.f
  rw [w64 (x := i + 1) (by omega) (by omega), a1, b1]
  simp only [Option.bind_some]
  rw [if_neg (by omega), w64 (x := 256 * a) (by omega) (by omega), w64 (x := 256 * a + b) (by omega) (by omega)]
  exact ⟨_, rfl, Int.tmod_nonneg _ (by omega), Int.tmod_lt_of_pos _ (by omega)⟩
theorem bevelGap_eq (t k : Int) (ht : 1 ≤ t ∧ t ≤ 1000) (hk : 0 ≤ k ∧ k ≤ 200) (i : Nat) (hi : i ≤ 30) : impl_BevelGap.f t k (i : Int) = some (gapOf t k i, 0) := by
  unfold impl_BevelGap.f
  simp only [within_eq, Option.bind_some, decide_eq_true ht, decide_eq_true hk, decide_eq_true (show 0 ≤ (i : Int) ∧ (i : Int) ≤ 30 by omega), if_true, (gap_eq t k ht hk i hi).1]
theorem closes_eq (t k m : Int) (ht : 1 ≤ t ∧ t ≤ 1000) (hk : 0 ≤ k ∧ k ≤ 200) (hm : 0 ≤ m ∧ m ≤ 200) (i : Nat) (hi : i ≤ 30) : impl_ClosesGap.f t k (i : Int) m = some (decide (openOf t k i ≤ m)) := by
  unfold impl_ClosesGap.f
  rw [bevelGap_eq t k ht hk i hi]
  simp only [Option.bind_some, if_true, within_eq, decide_eq_true hm, impl_absolute.f]
  rfl
theorem loop_ev (t k m lo hi c : Int) (ht : 1 ≤ t ∧ t ≤ 1000) (hk : 0 ≤ k ∧ k ≤ 200) (hm : 0 ≤ m ∧ m ≤ 200) (b : Nat) (hb : b ≤ 30) (hbest : ∀ i, i ≤ 30 → openOf t k b ≤ openOf t k i) (hf : Fin t k m lo hi c) :
    Ev (fun n => laws_FnBevel.l0 n t k m (gapOf t k b) lo hi c 0) true := by
  refine down (n := 31) (Q := fun i => Ev (fun n => laws_FnBevel.l0 n t k m (gapOf t k b) lo hi c (i : Int)) true) ?_ ?_
  · refine Ev.some_eq fun n => ?_
    simp only [laws_FnBevel.l0]; rw [if_neg (by omega)]
    rcases hf with ⟨rfl, _⟩ | ⟨rfl, _⟩ <;> rfl
  · intro i hi' ih
    refine Ev.step (fun n => ?_) ih
    simp only [laws_FnBevel.l0, bevelGap_eq t k ht hk i (by omega), closes_eq t k m ht hk hm i (by omega), laws_r8Abs.f, Option.bind_some]
    rw [if_pos (by omega), if_pos trivial, if_neg (show ¬ mx (gapOf t k i) _ < mx (gapOf t k b) _ from Int.not_lt.2 (hbest i (by omega))), wsucc (by omega),
      if_neg (show ¬ (decide (openOf t k i ≤ m) != decide (mx (gapOf t k i) _ ≤ m)) = true from by rw [show decide (mx (gapOf t k i) (wrap64 (-gapOf t k i)) ≤ m) = decide (openOf t k i ≤ m) from rfl]; simp)]
    rcases hf with ⟨rfl, nl, nh, rfl, rfl, h1, h2, h3, h4, h5⟩ | ⟨rfl, h5⟩
    · rw [if_pos rfl]
      by_cases hlo : (i : Int) ≥ nl
      · rw [if_pos hlo]
        have : decide (openOf t k i ≤ m) = decide ((i : Int) ≤ nh) := by
          rw [Bool.eq_iff_iff, decide_eq_true_eq, decide_eq_true_eq]
          exact ⟨fun h => by have := (h5 i (by omega) h).2; omega, fun h => between t k m ht hk nl nh i (by omega) (by omega) h2 h3 h4⟩
        rw [this, if_neg (by simp)]
      · rw [if_neg hlo, decide_eq_false (fun h => hlo (by have := (h5 i (by omega) h).1; omega)), if_neg (by simp)]
    · rw [if_neg (by omega), decide_eq_false (h5 i (by omega)), if_neg (by simp)]
theorem FnBevel : laws_FnBevel.Pure := by
  intro l ⟨_, hl⟩
  suffices hh : Ev (fun n => laws_FnBevel.f n l) true from hh.rounds
  unfold laws_FnBevel.f
  refine Ev.cond (fun _ => Ev.now _) (fun _ => ?_)
  obtain ⟨t', t1, t2, t3⟩ := wide_ev l hl 0 300 (by omega) (by omega)
  obtain ⟨k, k1, k2, k3⟩ := wide_ev l hl 2 60 (by omega) (by omega)
  obtain ⟨m, m1, m2, m3⟩ := at_ev l hl 4 8 (by omega) (by omega)
  simp only [t1, k1, m1, Option.bind_some]
  rw [w64 (x := 1 + t') (by omega) (by omega)]
  obtain ⟨t, ht⟩ : ∃ t, t = 1 + t' := ⟨_, rfl⟩
  rw [← ht]
  have ht1 : 1 ≤ t ∧ t ≤ 1000 := by omega
  have hk1 : 0 ≤ k ∧ k ≤ 200 := by omega
  have hm1 : 0 ≤ m ∧ m ≤ 200 := by omega
  obtain ⟨b, b0, b1, b2⟩ := best_ev t k ht1 hk1
  obtain ⟨lo, hi, c, r1, r2⟩ := range_ev t k m ht1 hk1 hm1
  have hloop := loop_ev t k m lo hi c ht1 hk1 hm1 b b0 b1 r2
  have hj : Ev (fun n => laws_FnBevel.j0 n t k m (gapOf t k b) lo hi c false) true := Ev.step (fun n => by simp only [laws_FnBevel.j0]; rfl) hloop
  refine Ev.bind b2 ?_
  simp only [bevelGap_eq t k ht1 hk1 b b0, Option.bind_some]
  refine Ev.bind r1 ?_
  rcases common_ev t k m ht1 hk1 hm1 with ⟨f, f0, f1, f2, e⟩ | ⟨f2, e⟩
  · refine Ev.bind e ?_
    rcases r2 with ⟨rfl, nl, nh, rfl, rfl, h1, h2, h3, h4, h5⟩ | ⟨rfl, h5⟩
    · have hfn : f = nl := by
        have := (h5 f f0 f1).1
        rcases Nat.eq_or_lt_of_le this with h | h
        · exact h.symm
        · exact absurd h3 (f2 nl h)
      subst hfn
      simp only [if_true, bne_self_eq_false]; exact hj
    · exact absurd f1 (h5 f f0)
  · refine Ev.bind e ?_
    rcases r2 with ⟨rfl, nl, nh, rfl, rfl, h1, h2, h3, h4, h5⟩ | ⟨rfl, h5⟩
    · exact absurd h3 (f2 nl (by omega))
    · simp only [if_true, if_neg (show ¬ (3 : Int) = 0 by omega)]; exact hj

end Go.Proofs.YtlplkcdlnplioaaDoor.Pure

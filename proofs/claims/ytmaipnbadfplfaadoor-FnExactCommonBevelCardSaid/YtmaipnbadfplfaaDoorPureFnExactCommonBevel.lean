/- For every list of sheets, kerf and tolerance the printed law FnExactCommonBevel answers true: the program's CommonBevel and the reference's agree, and the argument stays as it was. -/
import Derived.Test.YtmaipnbadfplfaaDoorPFnExactCommonBevelx3
namespace Go.Proofs.YtmaipnbadfplfaaDoor.Pure
open Go.RowKit Go.Proofs.YtmaipnbadfplfaaDoor.PFnExactCommonBevel Go.Proofs.YtmaipnbadfplfaaDoorW.PrintWords Go.Proofs.YtmaipnbadfplfaaDoorW.PrintLast
set_option linter.unusedVariables false
set_option linter.unusedSimpArgs false
set_option linter.unnecessarySimpa false

theorem w64 {x : Int} (h0 : -9223372036854775808 ≤ x) (h1 : x ≤ 9223372036854775807) : wrap64 x = x := by unfold wrap64; omega
theorem wf64 {x : Int} (h : (Lit.int .i64 x).wf = true) : -9223372036854775808 ≤ x ∧ x ≤ 9223372036854775807 := by
  simp only [Lit.wf, IntKind.has, Bool.and_eq_true, decide_eq_true_eq] at h
  exact h
theorem maxLen_eq : maxLen = 9223372036854775807 := rfl
theorem Ev.cond {α : Type} {c : Prop} [Decidable c] {g f : Nat → Option α} {r : α} (h : c → Ev g r) (h' : ¬ c → Ev f r) : Ev (fun k => if c then g k else f k) r := by
  by_cases hc : c
  · simp only [if_pos hc]; exact h hc
  · simp only [if_neg hc]; exact h' hc
theorem down {n : Nat} {Q : Nat → Prop} (he : Q n) (hs : ∀ i, i < n → Q (i + 1) → Q i) : Q 0 := by
  have h : ∀ d i, i + d = n → Q i := by
    intro d
    induction d with
    | zero => intro i hi; have : i = n := by omega
              subst this; exact he
    | succ d ih => intro i hi; exact hs i (by omega) (ih (i + 1) (by omega))
  exact h n 0 (by omega)
theorem wsucc {i : Nat} (h : i < 9223372036854775807) : wrap64 ((i : Int) + 1) = ((i + 1 : Nat) : Int) := by rw [w64 (by omega) (by omega)]; omega
theorem getD_mem {α : Type} {xs : List α} {i : Nat} (z : α) (h : i < xs.length) : xs.getD i z ∈ xs := by
  rw [List.getD_eq_getElem?_getD, List.getElem?_eq_getElem h]; exact List.getElem_mem h
theorem getD_map {α β : Type} {xs : List α} {i : Nat} (c : α → β) (z : α) (z' : β) (h : i < xs.length) : (xs.map c).getD i z' = c (xs.getD i z) := by
  rw [List.getD_eq_getElem?_getD, List.getD_eq_getElem?_getD, List.getElem?_eq_getElem h, List.getElem?_eq_getElem (by simpa using h)]; simp
theorem Ev.some_eq {α : Type} {g : Nat → Option α} {r : α} (h : ∀ k, g (k + 1) = some r) : Ev g r := Ev.step (f := fun _ => some r) h (Ev.now r)
/-- A row made full of one value and filled from the left. -/
theorem ev_fill {α β : Type} (xs : List α) (z : α) (c : α → β) (L : Nat → List β → Int → Option (List β))
    (he : ∀ ys : List β, ys.length = xs.length → Ev (fun k => L k ys (xs.length : Int)) ys)
    (hs : ∀ (ys r : List β) (i : Nat), i < xs.length → ys.length = xs.length → Ev (fun k => L k (ys.set i (c (xs.getD i z))) ((i + 1 : Nat) : Int)) r → Ev (fun k => L k ys (i : Int)) r) :
    ∀ ys : List β, ys.length = xs.length → Ev (fun k => L k ys 0) (xs.map c) := by
  have h : ∀ d (i : Nat) (ys : List β), i + d = xs.length → ys.length = xs.length → Ev (fun k => L k ys (i : Int)) (ys.take i ++ (xs.drop i).map c) := by
    intro d
    induction d with
    | zero =>
      intro i ys hi hy
      have e : i = xs.length := by omega
      subst e
      rw [List.drop_of_length_le (Nat.le_refl _), List.map_nil, List.append_nil, List.take_of_length_le (by omega)]
      exact he ys hy
    | succ d ih =>
      intro i ys hi hy
      have hlt : i < xs.length := by omega
      refine hs ys _ i hlt hy ?_
      have h2 := ih (i + 1) (ys.set i (c (xs.getD i z))) (by omega) (by rw [List.length_set]; exact hy)
      have e2 : (ys.set i (c (xs.getD i z))).take (i + 1) = ys.take i ++ [c (xs.getD i z)] := by
        rw [List.take_succ_eq_append_getElem (by rw [List.length_set]; omega), List.getElem_set_self, List.take_set_of_le (by omega)]
      have e3 : xs.drop i = xs.getD i z :: xs.drop (i + 1) := by
        rw [List.drop_eq_getElem_cons hlt, List.getD_eq_getElem?_getD, List.getElem?_eq_getElem hlt]; rfl
      rw [e2] at h2
      rw [e3, List.map_cons]
      simpa using h2
  intro ys hy
  have := h xs.length 0 ys (by omega) hy
  simpa using this
/-- One round of a loop, which leans on what a call answers. -/
theorem Ev.step1 {α β : Type} {g f : Nat → Option α} {u : Nat → Option β} {b : β} {r : α} (e : Ev u b) (k : Ev f r) (h : ∀ k, u k = some b → g (k + 1) = f k) : Ev g r := by
  obtain ⟨K, e⟩ := e
  obtain ⟨K', k⟩ := k
  refine ⟨max K K' + 1, fun n hn => ?_⟩
  obtain ⟨m, rfl⟩ : ∃ m, n = m + 1 := ⟨n - 1, by omega⟩
  rw [h m (e m (by omega))]
  exact k m (by omega)
theorem Ev.step2 {α β γ : Type} {g f : Nat → Option α} {u : Nat → Option β} {v : Nat → Option γ} {b : β} {c : γ} {r : α} (e : Ev u b) (e' : Ev v c) (k : Ev f r) (h : ∀ k, u k = some b → v k = some c → g (k + 1) = f k) : Ev g r := by
  obtain ⟨K, e⟩ := e
  obtain ⟨K2, e'⟩ := e'
  obtain ⟨K', k⟩ := k
  refine ⟨max (max K K2) K' + 1, fun n hn => ?_⟩
  obtain ⟨m, rfl⟩ : ∃ m, n = m + 1 := ⟨n - 1, by omega⟩
  rw [h m (e m (by omega)) (e' m (by omega))]
  exact k m (by omega)

theorem in_eq (n lo hi : Int) : spec_l00In.f n lo hi = some (decide (lo ≤ n ∧ n ≤ hi)) := by
  unfold spec_l00In.f
  by_cases h : n ≥ lo
  · rw [if_pos h]; simp [show lo ≤ n from h]
  · rw [if_neg h]; simp; omega

theorem within_eq (n lo hi : Int) : impl_within.f n lo hi = some (decide (lo ≤ n ∧ n ≤ hi)) := by
  unfold impl_within.f
  by_cases h : n ≥ lo
  · rw [if_pos h]; simp [show lo ≤ n from h]
  · rw [if_neg h]; simp; omega

theorem eqS_tail (xs : List Int) (hl : xs.length ≤ 9223372036854775807) (d : Nat) : ∀ (i : Int), 0 ≤ i → (xs.length : Int) - i = d → Ev (fun k => laws_eqInt64S.l0 k xs xs i) true := by
  induction d with
  | zero =>
    intro i h0 hd
    refine Ev.step (f := fun _ => some true) (fun k => ?_) (Ev.now _)
    simp only [laws_eqInt64S.l0]; rw [if_neg (by omega)]
  | succ d ih =>
    intro i h0 hd
    refine Ev.step (f := fun k => laws_eqInt64S.l0 k xs xs (i + 1)) (fun k => ?_) (ih (i + 1) (by omega) (by omega))
    simp only [laws_eqInt64S.l0]; rw [if_pos (by omega), if_pos h0, if_pos (by omega), if_pos trivial, w64 (by omega) (by omega)]
theorem eqS_same (xs : List Int) (hl : xs.length ≤ 9223372036854775807) : Ev (fun k => laws_eqInt64S.f k xs xs) true := by
  unfold laws_eqInt64S.f
  simp only [if_true]
  exact eqS_tail xs hl xs.length 0 (by omega) (by omega)

theorem rd_nat (xs : List Int) (i : Nat) : rd xs (i : Int) = xs.getD i 0 := by show xs.getD (i : Int).toNat 0 = _; rw [Int.toNat_natCast]
theorem toS_eq (l : List Int) (hl : l.length ≤ 1048576) : Ev (fun k => laws_toInt64S.f k l) l := by
  unfold laws_toInt64S.f
  simp only [if_pos (show (0 : Int) ≤ (l.length : Int) by omega), if_pos (show ((l.length : Int) : Int).toNat ≤ 35184372088832 by omega)]
  have h := ev_fill l 0 id (fun k ys i => laws_toInt64S.l0 k l ys i) ?_ ?_ (List.replicate ((l.length : Int)).toNat 0) (by simp)
  · simpa using h
  · intro ys hy
    exact Ev.some_eq fun k => by simp only [laws_toInt64S.l0]; rw [if_neg (by omega)]
  · intro ys r i hi hy h
    refine Ev.step (fun k => ?_) h
    simp only [laws_toInt64S.l0, rd_nat]; (repeat (first | rw [if_pos (by omega)] | rw [if_neg (by omega)] | rw [if_pos (rfl : true = true)] | rw [if_neg Bool.false_ne_true] | rw [if_pos trivial])); rw [wsucc (by omega)]; rfl

theorem round_eq (a b : Int) (ha : 0 ≤ a) (hb : 0 < b) : (2 * a + b) / (2 * b) = if a % b ≥ b - a % b then a / b + 1 else a / b := by
  have h1 : b * (a / b) + a % b = a := Int.mul_ediv_add_emod a b
  have h2 : 0 ≤ a % b := Int.emod_nonneg a (by omega)
  have h3 : a % b < b := Int.emod_lt_of_pos a hb
  have h4 : 2 * b * (a / b) = 2 * (b * (a / b)) := Int.mul_assoc 2 b (a / b)
  by_cases h : a % b ≥ b - a % b
  · rw [if_pos h]
    refine ((Int.ediv_emod_unique (r := 2 * (a % b) - b) (by omega)).2 ⟨?_, by omega, by omega⟩).1
    rw [Int.mul_add, h4]; omega
  · rw [if_neg h]
    refine ((Int.ediv_emod_unique (r := 2 * (a % b) + b) (by omega)).2 ⟨?_, by omega, by omega⟩).1
    rw [h4]; omega
theorem mx_self_neg (a : Int) (ha : 0 ≤ a) (ha2 : a ≤ 9223372036854775807) : mx a (wrap64 (-a)) = a := by
  rw [w64 (by omega) (by omega)]; unfold mx; split <;> omega
theorem nearest_eq (a b : Int) (ha : 0 ≤ a) (ha2 : a ≤ 2305843009213693951) (hb : 0 < b) (hb2 : b ≤ 2305843009213693951) : impl_nearest.f a b = some ((2 * a + b) / (2 * b)) := by
  have h1 : b * (a / b) + a % b = a := Int.mul_ediv_add_emod a b
  have h2 : 0 ≤ a % b := Int.emod_nonneg a (by omega)
  have h3 : a % b < b := Int.emod_lt_of_pos a hb
  have h5 : 0 ≤ a / b := Int.ediv_nonneg ha (by omega)
  have h6 : a / b ≤ a := Int.ediv_le_self b ha
  unfold impl_nearest.f
  rw [mx_self_neg a ha (by omega), mx_self_neg b (by omega) (by omega), if_neg (by omega), if_neg (by omega), Int.tmod_eq_emod_of_nonneg ha, Int.tdiv_eq_ediv_of_nonneg ha,
    w64 (x := b - a % b) (by omega) (by omega), w64 (x := a / b) (by omega) (by omega), w64 (x := a / b + 1) (by omega) (by omega), round_eq a b ha hb]
  rw [show decide (a < 0) = false from decide_eq_false (by omega), show decide (b < 0) = false from decide_eq_false (by omega)]
  simp only [bne_self_eq_false, Bool.false_eq_true, if_false]
  split <;> rfl
theorem div_eq (a b : Int) (ha : 0 ≤ a) (ha2 : a ≤ 2305843009213693951) (hb : 0 < b) (hb2 : b ≤ 2305843009213693951) : spec_l01Div.f a b = some ((2 * a + b) / (2 * b)) := by
  unfold spec_l01Div.f
  have h5 : 0 ≤ (2 * a + b) / (2 * b) := Int.ediv_nonneg (by omega) (by omega)
  have h6 : (2 * a + b) / (2 * b) ≤ 2 * a + b := Int.ediv_le_self (2 * b) (by omega)
  rw [if_neg (by omega), if_neg (by omega), w64 (x := 2 * b) (by omega) (by omega), if_neg (by omega), w64 (x := 2 * a) (by omega) (by omega), w64 (x := 2 * a + b) (by omega) (by omega), Int.tdiv_eq_ediv_of_nonneg (by omega), w64 (by omega) (by omega)]

theorem rdn (xs : List Int) (i : Nat) : rd xs (i : Int) = xs.getD i 0 := by show xs.getD (i : Int).toNat 0 = _; rw [Int.toNat_natCast]
theorem tab_all : ∀ i : Nat, i < 31 → 0 ≤ gt0.getD i 0 ∧ gt0.getD i 0 ≤ 5774 := by decide
theorem tab_range (d : Int) (h0 : 0 ≤ d) (h1 : d ≤ 30) : 0 ≤ rd gt0 d ∧ rd gt0 d ≤ 5774 := by
  obtain ⟨i, rfl⟩ : ∃ i : Nat, d = i := ⟨d.toNat, by omega⟩
  rw [rdn]; exact tab_all i (by omega)
theorem table_eq : spec_l13Table.f = some gt0 := rfl

theorem gap_both (t k d : Int) (ht : 1 ≤ t ∧ t ≤ 1000) (hk : 0 ≤ k ∧ k ≤ 200) (hd : 0 ≤ d ∧ d ≤ 30) :
    ∃ g, spec_l13Gap.f t k d = some g ∧ impl_bevelGap.f t k d = some g ∧ -10000000 ≤ g ∧ g ≤ 200 := by
  obtain ⟨r0, r1⟩ := tab_range d hd.1 hd.2
  have m0 : 0 ≤ t * rd gt0 d := Int.mul_nonneg (by omega) r0
  have m1 : t * rd gt0 d ≤ 1000 * 5774 := Int.mul_le_mul ht.2 r1 r0 (by omega)
  have q0 : 0 ≤ (2 * (t * rd gt0 d) + 10000) / (2 * 10000) := Int.ediv_nonneg (by omega) (by omega)
  have q1 : (2 * (t * rd gt0 d) + 10000) / (2 * 10000) ≤ 2 * (t * rd gt0 d) + 10000 := Int.ediv_le_self (2 * 10000) (by omega)
  refine ⟨k - (2 * (t * rd gt0 d) + 10000) / (2 * 10000), ?_, ?_, by omega, by omega⟩
  · unfold spec_l13Gap.f
    rw [table_eq]
    simp only [Option.bind_some,]
    rw [if_pos hd.1, if_pos (show d < (gt0.length : Int) by rw [gt0_len]; omega), w64 (x := t * rd gt0 d) (by omega) (by omega), div_eq _ _ m0 (by omega) (by omega) (by omega)]
    simp only [Option.bind_some]
    rw [w64 (by omega) (by omega)]
  · unfold impl_bevelGap.f
    rw [if_pos hd.1, if_pos (show d < 31 by omega), w64 (x := t * rd gt0 d) (by omega) (by omega), nearest_eq _ _ m0 (by omega) (by omega) (by omega)]
    simp only [Option.bind_some]
    rw [w64 (by omega) (by omega)]

theorem sheet_eq (t k : Int) : spec_l13Sheet.f t k = some (decide (1 ≤ t ∧ t ≤ 1000) && decide (0 ≤ k ∧ k ≤ 200)) := by
  unfold spec_l13Sheet.f
  simp only [in_eq, Option.bind_some]
  by_cases h : 1 ≤ t ∧ t ≤ 1000
  · simp only [h, and_self, decide_true, if_true, Bool.true_and]
  · simp only [decide_eq_false h, Bool.false_eq_true, if_false, Bool.false_and]

theorem open_both (t k d : Int) (ht : 1 ≤ t ∧ t ≤ 1000) (hk : 0 ≤ k ∧ k ≤ 200) (hd : 0 ≤ d ∧ d ≤ 30) :
    ∃ g o, spec_l13Open.f t k d = some o ∧ impl_bevelGap.f t k d = some g ∧ impl_absolute.f g = some o ∧ spec_l13Gap.f t k d = some g := by
  obtain ⟨g, e1, e2, g0, g1⟩ := gap_both t k d ht hk hd
  refine ⟨g, mx g (wrap64 (-g)), ?_, e2, rfl, e1⟩
  unfold spec_l13Open.f
  rw [e1]
  simp only [Option.bind_some, spec_l00Max.f]
  rw [w64 (x := -g) (by omega) (by omega)]
  unfold mx
  by_cases h : g > -g
  · rw [if_pos h]; split <;> first | rfl | (simp only [Option.bind_some, Option.some.injEq]; omega)
  · rw [if_neg h]; split <;> first | rfl | (simp only [Option.bind_some, Option.some.injEq]; omega)

theorem angles_both (l : List Int) (hl : l.length ≤ 64) (hg : ∀ j, j < l.length → 1 ≤ l.getD j 0 ∧ l.getD j 0 ≤ 1000) (k m : Int) (hk : 0 ≤ k ∧ k ≤ 200) :
    ∃ r : Int × Int, Ev (fun n => spec_CommonBevel.l1 n l k m 0) r ∧ Ev (fun n => impl_CommonBevel.l1 n l k m 0) r := by
  refine down (n := 31) (Q := fun d => ∃ r : Int × Int, Ev (fun n => spec_CommonBevel.l1 n l k m (d : Int)) r ∧ Ev (fun n => impl_CommonBevel.l1 n l k m (d : Int)) r) ?_ ?_
  · refine ⟨(0, 3), Ev.some_eq fun n => ?_, Ev.some_eq fun n => ?_⟩
    · simp only [spec_CommonBevel.l1]; rw [if_neg (by omega)]
    · simp only [impl_CommonBevel.l1]; rw [if_neg (by omega)]
  · intro d hd ⟨r, r1, r2⟩
    have h2 := down (n := l.length) (Q := fun i => ∀ f : Bool, ∃ r : Int × Int, Ev (fun n => spec_CommonBevel.l2 n l k m (d : Int) f (i : Int)) r ∧ Ev (fun n => impl_CommonBevel.l2 n l k m (d : Int) f (d : Int) l (l.length : Int) (i : Int)) r) ?_ ?_
    · obtain ⟨q, q1, q2⟩ := h2 true
      refine ⟨q, Ev.step (fun n => ?_) q1, Ev.step (fun n => ?_) q2⟩
      · simp only [spec_CommonBevel.l1]; rw [if_pos (by omega)]; rfl
      · simp only [impl_CommonBevel.l1]; rw [if_pos (by omega)]; rfl
    · intro f
      cases f with
      | true =>
        refine ⟨((d : Int), 0), Ev.some_eq fun n => ?_, Ev.some_eq fun n => ?_⟩
        · simp only [spec_CommonBevel.l2]; rw [if_neg (by omega), if_pos trivial]
        · simp only [impl_CommonBevel.l2]; rw [if_neg (by omega), if_pos trivial]
      | false =>
        refine ⟨r, Ev.step (fun n => ?_) r1, Ev.step (fun n => ?_) r2⟩
        · simp only [spec_CommonBevel.l2]; rw [if_neg (by omega), if_neg Bool.false_ne_true, wsucc (by omega)]
        · simp only [impl_CommonBevel.l2]; rw [if_neg (by omega), if_neg Bool.false_ne_true, wsucc (by omega)]
    · intro i hi ih f
      cases f with
      | true =>
        obtain ⟨g, o, e1, e2, e3, _⟩ := open_both (l.getD i 0) k (d : Int) (hg i hi) hk (by omega)
        obtain ⟨q, q1, q2⟩ := ih (decide (o ≤ m))
        refine ⟨q, Ev.step (fun n => ?_) q1, Ev.step (fun n => ?_) q2⟩
        · simp only [spec_CommonBevel.l2, spec_l13Closes.f, rd_nat, e1, Option.bind_some]; rw [if_pos (by omega), if_pos trivial, if_pos (by omega), wsucc (by omega)]
        · simp only [impl_CommonBevel.l2, rd_nat, e2, e3, Option.bind_some]; rw [if_pos (by omega), if_pos (by omega), if_pos (by omega), if_pos trivial, wsucc (by omega)]
      | false =>
        obtain ⟨q, q1, q2⟩ := ih false
        refine ⟨q, Ev.step (fun n => ?_) q1, Ev.step (fun n => ?_) q2⟩
        · simp only [spec_CommonBevel.l2]; rw [if_pos (by omega), if_neg Bool.false_ne_true, wsucc (by omega)]
        · simp only [impl_CommonBevel.l2]; rw [if_pos (by omega), if_pos (by omega), if_pos (by omega), if_neg Bool.false_ne_true, wsucc (by omega)]
theorem both (l : List Int) (hl : l.length ≤ 1048576) (k m : Int) : ∃ r : Int × Int, Ev (fun n => spec_CommonBevel.f n l k m) r ∧ Ev (fun n => impl_CommonBevel.f n l k m) r := by
  have s0 : Ev (fun n => spec_CommonBevel.j1 n l k m true) (0, 2) := Ev.some_eq fun n => by simp only [spec_CommonBevel.j1]; rfl
  have i0 : Ev (fun n => impl_CommonBevel.j1 n l k m true) (0, 2) := Ev.some_eq fun n => by simp only [impl_CommonBevel.j1]; rfl
  unfold spec_CommonBevel.f impl_CommonBevel.f
  by_cases hk : 0 ≤ k ∧ k ≤ 200
  · by_cases hall : ∀ j, j < l.length → 1 ≤ l.getD j 0 ∧ l.getD j 0 ≤ 1000
    · have hend : ∃ r : Int × Int, Ev (fun n => spec_CommonBevel.l0 n l k m (l.length : Int)) r ∧ Ev (fun n => impl_CommonBevel.l0 n l k m l (l.length : Int) (l.length : Int)) r := by
        by_cases hm : 0 ≤ m ∧ m ≤ 200
        · have hj : ∃ r : Int × Int, Ev (fun n => spec_CommonBevel.j1 n l k m false) r ∧ Ev (fun n => impl_CommonBevel.j1 n l k m false) r := by
            by_cases h64 : (l.length : Int) > 64
            · refine ⟨(0, 5), Ev.some_eq fun n => ?_, Ev.some_eq fun n => ?_⟩
              · simp only [spec_CommonBevel.j1]; rw [if_neg Bool.false_ne_true, if_pos h64]
              · simp only [impl_CommonBevel.j1]; rw [if_neg Bool.false_ne_true, if_pos h64]
            · obtain ⟨r, r1, r2⟩ := angles_both l (by omega) hall k m hk
              refine ⟨r, Ev.step (fun n => ?_) r1, Ev.step (fun n => ?_) r2⟩
              · simp only [spec_CommonBevel.j1]; rw [if_neg Bool.false_ne_true, if_neg h64]
              · simp only [impl_CommonBevel.j1]; rw [if_neg Bool.false_ne_true, if_neg h64]
          obtain ⟨r, r1, r2⟩ := hj
          refine ⟨r, Ev.step (fun n => ?_) r1, Ev.step (fun n => ?_) r2⟩
          · simp only [spec_CommonBevel.l0, spec_l13Tolerance.f, in_eq, Option.bind_some, decide_eq_true hk, decide_eq_true hm, if_true, Bool.not_true]; rw [if_neg (by omega)]
          · simp only [impl_CommonBevel.l0, within_eq, Option.bind_some, decide_eq_true hk, decide_eq_true hm, if_true, Bool.not_true]; rw [if_neg (by omega)]
        · refine ⟨(0, 2), Ev.step (fun n => ?_) s0, Ev.step (fun n => ?_) i0⟩
          · simp only [spec_CommonBevel.l0, spec_l13Tolerance.f, in_eq, Option.bind_some, decide_eq_true hk, decide_eq_false hm, if_true, Bool.not_false]; rw [if_neg (by omega)]
          · simp only [impl_CommonBevel.l0, within_eq, Option.bind_some, decide_eq_true hk, decide_eq_false hm, if_true, Bool.not_false]; rw [if_neg (by omega)]
      refine down (n := l.length) (Q := fun i => ∃ r : Int × Int, Ev (fun n => spec_CommonBevel.l0 n l k m (i : Int)) r ∧ Ev (fun n => impl_CommonBevel.l0 n l k m l (l.length : Int) (i : Int)) r) hend ?_
      intro i hi ⟨r, r1, r2⟩
      refine ⟨r, Ev.step (fun n => ?_) r1, Ev.step (fun n => ?_) r2⟩
      · simp only [spec_CommonBevel.l0, rd_nat, sheet_eq, Option.bind_some, decide_eq_true (hall i hi), decide_eq_true hk, Bool.and_self, if_true]; rw [if_pos (by omega), if_pos (by omega), wsucc (by omega)]
      · simp only [impl_CommonBevel.l0, rd_nat, within_eq, Option.bind_some, decide_eq_true (hall i hi), if_true]; rw [if_pos (by omega), if_pos (by omega), if_pos (by omega), wsucc (by omega)]
    · have hex : ∃ j, j < l.length ∧ ¬ (1 ≤ l.getD j 0 ∧ l.getD j 0 ≤ 1000) := by
        refine Classical.byContradiction fun hn => hall fun j hj => Classical.byContradiction fun hb => hn ⟨j, hj, hb⟩
      obtain ⟨j, hj, hb⟩ := hex
      have h := down (n := j) (Q := fun i => Ev (fun n => spec_CommonBevel.l0 n l k m (i : Int)) (0, 2) ∧ Ev (fun n => impl_CommonBevel.l0 n l k m l (l.length : Int) (i : Int)) (0, 2)) ?_ ?_
      · exact ⟨(0, 2), h.1, h.2⟩
      · refine ⟨Ev.some_eq fun n => ?_, Ev.some_eq fun n => ?_⟩
        · simp only [spec_CommonBevel.l0, rd_nat, sheet_eq, Option.bind_some, decide_eq_false hb, Bool.false_and]; rw [if_pos (by omega), if_pos (by omega), if_neg Bool.false_ne_true]
        · simp only [impl_CommonBevel.l0, rd_nat, within_eq, Option.bind_some, decide_eq_false hb]; rw [if_pos (by omega), if_pos (by omega), if_pos (by omega), if_neg Bool.false_ne_true]
      · intro i hi ⟨r1, r2⟩
        by_cases hg : 1 ≤ l.getD i 0 ∧ l.getD i 0 ≤ 1000
        · refine ⟨Ev.step (fun n => ?_) r1, Ev.step (fun n => ?_) r2⟩
          · simp only [spec_CommonBevel.l0, rd_nat, sheet_eq, Option.bind_some, decide_eq_true hg, decide_eq_true hk, Bool.and_self, if_true]; rw [if_pos (by omega), if_pos (by omega), wsucc (by omega)]
          · simp only [impl_CommonBevel.l0, rd_nat, within_eq, Option.bind_some, decide_eq_true hg, if_true]; rw [if_pos (by omega), if_pos (by omega), if_pos (by omega), wsucc (by omega)]
        · refine ⟨Ev.some_eq fun n => ?_, Ev.some_eq fun n => ?_⟩
          · simp only [spec_CommonBevel.l0, rd_nat, sheet_eq, Option.bind_some, decide_eq_false hg, Bool.false_and]; rw [if_pos (by omega), if_pos (by omega), if_neg Bool.false_ne_true]
          · simp only [impl_CommonBevel.l0, rd_nat, within_eq, Option.bind_some, decide_eq_false hg]; rw [if_pos (by omega), if_pos (by omega), if_pos (by omega), if_neg Bool.false_ne_true]
  · have h := down (n := l.length) (Q := fun i => Ev (fun n => spec_CommonBevel.l0 n l k m (i : Int)) (0, 2) ∧ Ev (fun n => impl_CommonBevel.l0 n l k m l (l.length : Int) (i : Int)) (0, 2)) ?_ ?_
    · exact ⟨(0, 2), h.1, h.2⟩
    · refine ⟨Ev.step (fun n => ?_) s0, Ev.step (fun n => ?_) i0⟩
      · simp only [spec_CommonBevel.l0, in_eq, Option.bind_some, decide_eq_false hk]; rw [if_neg (by omega), if_neg Bool.false_ne_true]
      · simp only [impl_CommonBevel.l0, within_eq, Option.bind_some, decide_eq_false hk]; rw [if_neg (by omega), if_neg Bool.false_ne_true]
    · intro i hi ⟨r1, r2⟩
      constructor
      · refine Ev.some_eq fun n => ?_
        simp only [spec_CommonBevel.l0, rd_nat, sheet_eq, Option.bind_some, decide_eq_false hk, Bool.and_false]; rw [if_pos (by omega), if_pos (by omega), if_neg Bool.false_ne_true]
      · by_cases hg : 1 ≤ l.getD i 0 ∧ l.getD i 0 ≤ 1000
        · refine Ev.step (fun n => ?_) r2
          simp only [impl_CommonBevel.l0, rd_nat, within_eq, Option.bind_some, decide_eq_true hg, if_true]; rw [if_pos (by omega), if_pos (by omega), if_pos (by omega), wsucc (by omega)]
        · refine Ev.some_eq fun n => ?_
          simp only [impl_CommonBevel.l0, rd_nat, within_eq, Option.bind_some, decide_eq_false hg]; rw [if_pos (by omega), if_pos (by omega), if_pos (by omega), if_neg Bool.false_ne_true]
theorem FnExactCommonBevel : laws_FnExactCommonBevel.Pure := by
  intro l k m _ _ _
  suffices hh : Ev (fun n => laws_FnExactCommonBevel.f n l k m) true from hh.rounds
  unfold laws_FnExactCommonBevel.f
  refine Ev.cond (fun _ => Ev.now _) (fun h0 => ?_)
  have hl : l.length ≤ 1048576 := by omega
  have ht := toS_eq l hl
  obtain ⟨r, r1, r2⟩ := both l hl k m
  refine Ev.bind ht (Ev.bind r1 (Ev.bind ht (Ev.bind r2 ?_)))
  simp only [if_true, bne_self_eq_false]
  refine Ev.step (fun n => by simp only [laws_FnExactCommonBevel.j0]; rfl) ?_
  refine Ev.bind ht (Ev.bind (eqS_same l (by omega)) ?_)
  simp only [if_true]; exact Ev.now _

end Go.Proofs.YtmaipnbadfplfaaDoor.Pure

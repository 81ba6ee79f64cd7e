/- For every list of boxes and every sheet the printed law FnExactBoxesBound answers true: the program's BoxesBound and the reference's agree, and the argument stays as it was. -/
import Derived.Test.YtmaipnbadfplfaaPFnExactBoxesBoundx4
namespace Go.Proofs.Ytmaipnbadfplfaa.Pure
open Go.RowKit Go.Proofs.Ytmaipnbadfplfaa.PFnExactBoxesBound Go.Proofs.YtmaipnbadfplfaaW.PrintWords Go.Proofs.YtmaipnbadfplfaaW.PrintLast
set_option linter.unusedVariables false
set_option linter.unusedSimpArgs false

theorem w64 {x : Int} (h0 : -9223372036854775808 ≤ x) (h1 : x ≤ 9223372036854775807) : wrap64 x = x := by unfold wrap64; omega
theorem wf64 {x : Int} (h : (Lit.int .i64 x).wf = true) : -9223372036854775808 ≤ x ∧ x ≤ 9223372036854775807 := by
  simp only [Lit.wf, IntKind.has, Bool.and_eq_true, decide_eq_true_eq] at h
  exact h
theorem maxLen_eq : maxLen = 9223372036854775807 := rfl
theorem Ev.cond {α : Type} {c : Prop} [Decidable c] {g f : Nat → Option α} {r : α} (h : c → Ev g r) (h' : ¬ c → Ev f r) : Ev (fun k => if c then g k else f k) r := by
  by_cases hc : c
  · simp only [if_pos hc]; exact h hc
  · simp only [if_neg hc]; exact h' hc
theorem down {n : Nat} {Q : Nat → Prop} (he : Q n) (hs : ∀ i, i < n → Q (i + 1) → Q i) : Q 0 := by
  have h : ∀ d i, i + d = n → Q i := by
    intro d
    induction d with
    | zero => intro i hi; have : i = n := by omega
              subst this; exact he
    | succ d ih => intro i hi; exact hs i (by omega) (ih (i + 1) (by omega))
  exact h n 0 (by omega)
theorem wsucc {i : Nat} (h : i < 9223372036854775807) : wrap64 ((i : Int) + 1) = ((i + 1 : Nat) : Int) := by rw [w64 (by omega) (by omega)]; omega
theorem getD_mem {α : Type} {xs : List α} {i : Nat} (z : α) (h : i < xs.length) : xs.getD i z ∈ xs := by
  rw [List.getD_eq_getElem?_getD, List.getElem?_eq_getElem h]; exact List.getElem_mem h
theorem getD_map {α β : Type} {xs : List α} {i : Nat} (c : α → β) (z : α) (z' : β) (h : i < xs.length) : (xs.map c).getD i z' = c (xs.getD i z) := by
  rw [List.getD_eq_getElem?_getD, List.getD_eq_getElem?_getD, List.getElem?_eq_getElem h, List.getElem?_eq_getElem (by simpa using h)]; simp
theorem Ev.some_eq {α : Type} {g : Nat → Option α} {r : α} (h : ∀ k, g (k + 1) = some r) : Ev g r := Ev.step (f := fun _ => some r) h (Ev.now r)
/-- A row made full of one value and filled from the left. -/
theorem ev_fill {α β : Type} (xs : List α) (z : α) (c : α → β) (L : Nat → List β → Int → Option (List β))
    (he : ∀ ys : List β, ys.length = xs.length → Ev (fun k => L k ys (xs.length : Int)) ys)
    (hs : ∀ (ys r : List β) (i : Nat), i < xs.length → ys.length = xs.length → Ev (fun k => L k (ys.set i (c (xs.getD i z))) ((i + 1 : Nat) : Int)) r → Ev (fun k => L k ys (i : Int)) r) :
    ∀ ys : List β, ys.length = xs.length → Ev (fun k => L k ys 0) (xs.map c) := by
  have h : ∀ d (i : Nat) (ys : List β), i + d = xs.length → ys.length = xs.length → Ev (fun k => L k ys (i : Int)) (ys.take i ++ (xs.drop i).map c) := by
    intro d
    induction d with
    | zero =>
      intro i ys hi hy
      have e : i = xs.length := by omega
      subst e
      rw [List.drop_of_length_le (Nat.le_refl _), List.map_nil, List.append_nil, List.take_of_length_le (by omega)]
      exact he ys hy
    | succ d ih =>
      intro i ys hi hy
      have hlt : i < xs.length := by omega
      refine hs ys _ i hlt hy ?_
      have h2 := ih (i + 1) (ys.set i (c (xs.getD i z))) (by omega) (by rw [List.length_set]; exact hy)
      have e2 : (ys.set i (c (xs.getD i z))).take (i + 1) = ys.take i ++ [c (xs.getD i z)] := by
        rw [List.take_succ_eq_append_getElem (by rw [List.length_set]; omega), List.getElem_set_self, List.take_set_of_le (by omega)]
      have e3 : xs.drop i = xs.getD i z :: xs.drop (i + 1) := by
        rw [List.drop_eq_getElem_cons hlt, List.getD_eq_getElem?_getD, List.getElem?_eq_getElem hlt]; rfl
      rw [e2] at h2
      rw [e3, List.map_cons]
      simpa using h2
  intro ys hy
  have := h xs.length 0 ys (by omega) hy
  simpa using this
/-- One round of a loop, which leans on what a call answers. -/
theorem Ev.step1 {α β : Type} {g f : Nat → Option α} {u : Nat → Option β} {b : β} {r : α} (e : Ev u b) (k : Ev f r) (h : ∀ k, u k = some b → g (k + 1) = f k) : Ev g r := by
  obtain ⟨K, e⟩ := e
  obtain ⟨K', k⟩ := k
  refine ⟨max K K' + 1, fun n hn => ?_⟩
  obtain ⟨m, rfl⟩ : ∃ m, n = m + 1 := ⟨n - 1, by omega⟩
  rw [h m (e m (by omega))]
  exact k m (by omega)
theorem Ev.step2 {α β γ : Type} {g f : Nat → Option α} {u : Nat → Option β} {v : Nat → Option γ} {b : β} {c : γ} {r : α} (e : Ev u b) (e' : Ev v c) (k : Ev f r) (h : ∀ k, u k = some b → v k = some c → g (k + 1) = f k) : Ev g r := by
  obtain ⟨K, e⟩ := e
  obtain ⟨K2, e'⟩ := e'
  obtain ⟨K', k⟩ := k
  refine ⟨max (max K K2) K' + 1, fun n hn => ?_⟩
  obtain ⟨m, rfl⟩ : ∃ m, n = m + 1 := ⟨n - 1, by omega⟩
  rw [h m (e m (by omega)) (e' m (by omega))]
  exact k m (by omega)

theorem in_eq (n lo hi : Int) : spec_l00In.f n lo hi = some (decide (lo ≤ n ∧ n ≤ hi)) := by
  unfold spec_l00In.f
  by_cases h : n ≥ lo
  · rw [if_pos h]; simp [show lo ≤ n from h]
  · rw [if_neg h]; simp; omega

theorem within_eq (n lo hi : Int) : impl_within.f n lo hi = some (decide (lo ≤ n ∧ n ≤ hi)) := by
  unfold impl_within.f
  by_cases h : n ≥ lo
  · rw [if_pos h]; simp [show lo ≤ n from h]
  · rw [if_neg h]; simp; omega

theorem eqS_tail (xs : List Int) (hl : xs.length ≤ 9223372036854775807) (d : Nat) : ∀ (i : Int), 0 ≤ i → (xs.length : Int) - i = d → Ev (fun k => laws_eqInt64S.l0 k xs xs i) true := by
  induction d with
  | zero =>
    intro i h0 hd
    refine Ev.step (f := fun _ => some true) (fun k => ?_) (Ev.now _)
    simp only [laws_eqInt64S.l0]; rw [if_neg (by omega)]
  | succ d ih =>
    intro i h0 hd
    refine Ev.step (f := fun k => laws_eqInt64S.l0 k xs xs (i + 1)) (fun k => ?_) (ih (i + 1) (by omega) (by omega))
    simp only [laws_eqInt64S.l0]; rw [if_pos (by omega), if_pos h0, if_pos (by omega), if_pos trivial, w64 (by omega) (by omega)]
theorem eqS_same (xs : List Int) (hl : xs.length ≤ 9223372036854775807) : Ev (fun k => laws_eqInt64S.f k xs xs) true := by
  unfold laws_eqInt64S.f
  simp only [if_true]
  exact eqS_tail xs hl xs.length 0 (by omega) (by omega)

theorem rd_nat (xs : List Int) (i : Nat) : rd xs (i : Int) = xs.getD i 0 := by show xs.getD (i : Int).toNat 0 = _; rw [Int.toNat_natCast]
theorem toS_eq (l : List Int) (hl : l.length ≤ 1048576) : Ev (fun k => laws_toInt64S.f k l) l := by
  unfold laws_toInt64S.f
  simp only [if_pos (show (0 : Int) ≤ (l.length : Int) by omega), if_pos (show ((l.length : Int) : Int).toNat ≤ 35184372088832 by omega)]
  have h := ev_fill l 0 id (fun k ys i => laws_toInt64S.l0 k l ys i) ?_ ?_ (List.replicate ((l.length : Int)).toNat 0) (by simp)
  · simpa using h
  · intro ys hy
    exact Ev.some_eq fun k => by simp only [laws_toInt64S.l0]; rw [if_neg (by omega)]
  · intro ys r i hi hy h
    refine Ev.step (fun k => ?_) h
    simp only [laws_toInt64S.l0, rd_nat]; (repeat (first | rw [if_pos (by omega)] | rw [if_neg (by omega)] | rw [if_pos (rfl : true = true)] | rw [if_neg Bool.false_ne_true] | rw [if_pos trivial])); rw [wsucc (by omega)]; rfl
/-- A list of lists of bounded size. -/
def szRows (l : List (List Int)) : Prop := l.length ≤ 1048576 ∧ ∀ x ∈ l, x.length ≤ 1048576
theorem rdL_nat (xs : List (List Int)) (i : Nat) : rd_L1 xs (i : Int) = xs.getD i [] := by show xs.getD (i : Int).toNat _ = _; rw [Int.toNat_natCast]
theorem szSS_le (l : List (List Int)) (hB : ∀ x ∈ l, x.length ≤ 9223372036854775807) (hl : l.length ≤ 9223372036854775807) (a : Int) (h0 : 0 ≤ a) (h1 : a ≤ 1048576) :
    ∃ r, Ev (fun k => laws_szInt64SS.f k l a) r ∧ (0 ≤ r → szRows l) ∧ r ≤ 1048576 := by
  unfold laws_szInt64SS.f
  by_cases hc : wrap64 (a - (l.length : Int)) < 0
  · simp only [if_pos hc]; exact ⟨-1, Ev.now _, by omega, by omega⟩
  · simp only [if_neg hc]
    rw [w64 (by omega) (by omega)] at hc ⊢
    have h := down (n := l.length) (Q := fun i => ∀ b, 0 ≤ b → b ≤ 1048576 → ∃ r, Ev (fun k => laws_szInt64SS.l0 k l b (i : Int)) r ∧ r ≤ 1048576 ∧ (0 ≤ r → ∀ j, i ≤ j → j < l.length → (l.getD j []).length ≤ 1048576)) ?_ ?_
    · obtain ⟨r, h2, h3, h4⟩ := h (a - (l.length : Int)) (by omega) (by omega)
      refine ⟨r, h2, fun hr => ⟨by omega, fun x hx => ?_⟩, h3⟩
      obtain ⟨j, hj, rfl⟩ := List.getElem_of_mem hx
      have := h4 hr j (Nat.zero_le _) hj
      rwa [List.getD_eq_getElem?_getD, List.getElem?_eq_getElem hj] at this
    · intro b _ _
      exact ⟨b, Ev.some_eq fun k => by simp only [laws_szInt64SS.l0]; rw [if_neg (by omega)], by omega, fun _ j h1 h2 => by omega⟩
    · intro i hi ih b hb0 hb1
      have hz := hB _ (getD_mem ([] : List Int) hi)
      have hw : wrap64 (b - ((l.getD i []).length : Int)) = b - ((l.getD i []).length : Int) := w64 (by omega) (by omega)
      by_cases hd : wrap64 (b - ((l.getD i []).length : Int)) < 0
      · exact ⟨-1, Ev.some_eq fun k => by simp only [laws_szInt64SS.l0, laws_szInt64S.f, rdL_nat]; rw [if_pos (by omega), if_pos (by omega), if_pos hd]; rfl, by omega, by omega⟩
      · obtain ⟨r, hr, hr1, hr2⟩ := ih (wrap64 (b - ((l.getD i []).length : Int))) (by omega) (by omega)
        refine ⟨r, Ev.step (fun k => ?_) hr, hr1, fun h0 j hj hj2 => ?_⟩
        · simp only [laws_szInt64SS.l0, laws_szInt64S.f, rdL_nat]
          rw [if_pos (by omega), if_pos (by omega), if_neg hd]
          simp only [Option.bind_some]
          rw [if_neg hd, wsucc (by omega)]
        · rcases Nat.eq_or_lt_of_le hj with rfl | hlt
          · omega
          · exact hr2 h0 j hlt hj2
theorem toSS_eq (l : List (List Int)) (hs : szRows l) : Ev (fun k => laws_toInt64SS.f k l) l := by
  unfold laws_toInt64SS.f
  have hl := hs.1
  simp only [if_pos (show (0 : Int) ≤ (l.length : Int) by omega), if_pos (show ((l.length : Int) : Int).toNat ≤ 11728124029610 by omega)]
  have h := ev_fill l [] id (fun k ys i => laws_toInt64SS.l0 k l ys i) ?_ ?_ (List.replicate ((l.length : Int)).toNat []) (by simp)
  · simpa using h
  · intro ys hy
    exact Ev.some_eq fun k => by simp only [laws_toInt64SS.l0]; rw [if_neg (by omega)]
  · intro ys r i hi hy h
    refine Ev.step1 (toS_eq (l.getD i []) (hs.2 _ (getD_mem _ hi))) h (fun k hk => ?_)
    simp only [laws_toInt64SS.l0, rdL_nat, hk, Option.bind_some]; (repeat (first | rw [if_pos (by omega)] | rw [if_neg (by omega)] | rw [if_pos (rfl : true = true)] | rw [if_neg Bool.false_ne_true] | rw [if_pos trivial])); rw [wsucc (by omega)]; rfl
theorem eqSS_same (l : List (List Int)) (hs : szRows l) : Ev (fun k => laws_eqInt64SS.f k l l) true := by
  unfold laws_eqInt64SS.f
  simp only [if_true]
  have hl := hs.1
  refine down (n := l.length) (Q := fun i => Ev (fun k => laws_eqInt64SS.l0 k l l (i : Int)) true) ?_ ?_
  · exact Ev.some_eq fun k => by simp only [laws_eqInt64SS.l0]; rw [if_neg (by omega)]
  · intro i hi ih
    refine Ev.step1 (eqS_same (l.getD i []) (by have := hs.2 _ (getD_mem ([] : List Int) hi); omega)) ih (fun k hk => ?_)
    simp only [laws_eqInt64SS.l0, rdL_nat, hk, Option.bind_some]; (repeat (first | rw [if_pos (by omega)] | rw [if_neg (by omega)] | rw [if_pos (rfl : true = true)] | rw [if_neg Bool.false_ne_true] | rw [if_pos trivial])); rw [wsucc (by omega)]
theorem rows_B (l : List (List Int)) (hB : ∀ x ∈ l, (x.length ≤ maxLen ∧ ∀ y ∈ x, (Lit.int .i64 y).wf = true)) : ∀ x ∈ l, x.length ≤ 9223372036854775807 := fun x hx => (hB x hx).1

def sz20 (n : Int) : Prop := 1 ≤ n ∧ n ≤ 20000
instance (n : Int) : Decidable (sz20 n) := inferInstanceAs (Decidable (1 ≤ n ∧ n ≤ 20000))
theorem size_eq (n : Int) : spec_l12Size.f n = some (decide (sz20 n)) := by unfold spec_l12Size.f; rw [in_eq]; rfl
theorem win_eq (n : Int) : impl_within.f n 1 20000 = some (decide (sz20 n)) := within_eq n 1 20000
/-- A box of two good sizes. -/
def okBox (x : List Int) : Prop := x.length = 2 ∧ sz20 (rd x 0) ∧ sz20 (rd x 1)
/-- Are all boxes from i on good, and do they fit? -/
theorem spec_l1 (l : List (List Int)) (hs : szRows l) (a b : Int) (h2 : ∀ j, j < l.length → okBox (l.getD j [])) : ∀ i, i ≤ l.length →
    ∃ m : Bool, Ev (fun k => spec_l12Ask.l1 k l a b (i : Int)) (if m then 6 else 0) ∧ (m = true ↔ ∃ j, i ≤ j ∧ j < l.length ∧ (rd (l.getD j []) 0 > a ∨ rd (l.getD j []) 1 > b)) := by
  have hl := hs.1
  have h : ∀ d i, i + d = l.length → ∃ m : Bool, Ev (fun k => spec_l12Ask.l1 k l a b (i : Int)) (if m then 6 else 0) ∧ (m = true ↔ ∃ j, i ≤ j ∧ j < l.length ∧ (rd (l.getD j []) 0 > a ∨ rd (l.getD j []) 1 > b)) := by
    intro d
    induction d with
    | zero =>
      intro i hi
      refine ⟨false, Ev.some_eq fun k => ?_, by simp; intro j h1 h2; omega⟩
      simp only [spec_l12Ask.l1]; rw [if_neg (by omega)]; rfl
    | succ d ih =>
      intro i hi
      obtain ⟨g1, _, _⟩ := h2 i (by omega)
      by_cases hb : rd (l.getD i []) 0 > a ∨ rd (l.getD i []) 1 > b
      · refine ⟨true, Ev.some_eq fun k => ?_, by simp; exact ⟨i, Nat.le_refl _, by omega, by simpa using hb⟩⟩
        simp only [spec_l12Ask.l1, rdL_nat]; rw [if_pos (by omega), if_pos (by omega), if_pos (by omega)]
        by_cases h1 : rd (l.getD i []) 0 > a
        · rw [if_pos h1]; rfl
        · rw [if_neg h1, if_pos (by omega), if_pos (by omega)]; rfl
      · obtain ⟨m, e, h3⟩ := ih (i + 1) (by omega)
        refine ⟨m, Ev.step (fun k => ?_) e, h3.trans ⟨fun ⟨j, q1, q2, q3⟩ => ⟨j, by omega, q2, q3⟩, fun ⟨j, q1, q2, q3⟩ => ?_⟩⟩
        · simp only [spec_l12Ask.l1, rdL_nat]; rw [if_pos (by omega), if_pos (by omega), if_pos (by omega), if_neg (by omega), if_pos (by omega), if_neg (by omega), wsucc (by omega)]
        · rcases Nat.eq_or_lt_of_le q1 with rfl | hlt
          · exact absurd q3 hb
          · exact ⟨j, hlt, q2, q3⟩
  intro i hi
  exact h (l.length - i) i (by omega)
theorem ask_loop (l : List (List Int)) (hs : szRows l) (a b : Int) :
    ∃ c, Ev (fun k => spec_l12Ask.l0 k l a b 0) c ∧ Ev (fun k => impl_sizesCode.l0 k a b 0 l (l.length : Int) 0) c ∧ (c = 0 → ∀ j, j < l.length → okBox (l.getD j [])) := by
  have hl := hs.1
  have h : ∀ d i (e : Int), i + d = l.length → (∀ j, j < i → okBox (l.getD j [])) → (e = 0 ∨ e = 6) → (e = 6 ↔ ∃ j, j < i ∧ (rd (l.getD j []) 0 > a ∨ rd (l.getD j []) 1 > b)) →
      ∃ c, Ev (fun k => spec_l12Ask.l0 k l a b (i : Int)) c ∧ Ev (fun k => impl_sizesCode.l0 k a b e l (l.length : Int) (i : Int)) c ∧ (c = 0 → ∀ j, j < l.length → okBox (l.getD j [])) := by
    intro d
    induction d with
    | zero =>
      intro i e hi hg he he6
      obtain ⟨m, e1, e2⟩ := spec_l1 l hs a b (fun j hj => hg j (by omega)) 0 (by omega)
      have hme : (if m then 6 else 0 : Int) = e := by
        by_cases hm : m = true
        · rw [if_pos hm]; obtain ⟨j, _, q2, q3⟩ := e2.1 hm; exact (he6.2 ⟨j, (by rw [Nat.add_zero] at hi; rw [hi]; exact q2), q3⟩).symm
        · rw [if_neg hm]; rcases he with he | he
          · exact he.symm
          · obtain ⟨j, q2, q3⟩ := he6.1 he; exact absurd (e2.2 ⟨j, by omega, by omega, q3⟩) hm
      rw [hme] at e1
      refine ⟨e, Ev.step (fun k => ?_) e1, Ev.some_eq fun k => ?_, fun _ j hj => hg j (by omega)⟩
      · simp only [spec_l12Ask.l0]; rw [if_neg (by omega)]; rfl
      · simp only [impl_sizesCode.l0]; rw [if_neg (by omega)]
    | succ d ih =>
      intro i e hi hg he he6
      have bad : ¬ okBox (l.getD i []) → ∃ c, Ev (fun k => spec_l12Ask.l0 k l a b (i : Int)) c ∧ Ev (fun k => impl_sizesCode.l0 k a b e l (l.length : Int) (i : Int)) c ∧ (c = 0 → ∀ j, j < l.length → okBox (l.getD j [])) := by
        intro hn
        have j2 : Ev (fun k => impl_sizesCode.j2 k a b e (l.getD i []) l (l.length : Int) (i : Int) true) 2 := Ev.some_eq fun k => by simp only [impl_sizesCode.j2]; rfl
        refine ⟨2, Ev.some_eq fun k => ?_, ?_, by omega⟩
        · simp only [spec_l12Ask.l0, rdL_nat, size_eq, Option.bind_some, decide_eq_true_eq]; rw [if_pos (by omega), if_pos (by omega)]
          by_cases g1 : ((l.getD i []).length : Int) = 2
          · rw [if_pos g1, if_pos (by omega)]
            by_cases g2 : sz20 (rd (l.getD i []) 0)
            · rw [if_pos g2, if_pos (by omega)]
              have g3 : ¬ sz20 (rd (l.getD i []) 1) := fun g3 => hn ⟨by omega, g2, g3⟩
              rw [if_neg g3]
            · rw [if_neg g2]
          · rw [if_neg g1]
        · refine Ev.step (fun k => ?_) j2
          simp only [impl_sizesCode.l0, rdL_nat, win_eq, Option.bind_some, decide_eq_true_eq]; rw [if_pos (by omega), if_pos (by omega), if_pos (by omega)]
          by_cases g1 : ((l.getD i []).length : Int) = 2
          · rw [if_pos g1, if_pos (by omega)]
            by_cases g2 : sz20 (rd (l.getD i []) 0)
            · rw [if_pos g2, if_pos (by omega)]
              have g3 : ¬ sz20 (rd (l.getD i []) 1) := fun g3 => hn ⟨by omega, g2, g3⟩
              simp only [g3, decide_false, Bool.not_false]
            · rw [if_neg g2]
          · rw [if_neg g1]
      by_cases hk : okBox (l.getD i [])
      · obtain ⟨g1, g2, g3⟩ := hk
        have hnew : ∃ e' : Int, e' = (if rd (l.getD i []) 0 > a ∨ rd (l.getD i []) 1 > b then 6 else e) := ⟨_, rfl⟩
        obtain ⟨e', he'⟩ := hnew
        obtain ⟨c, c1, c2, c3⟩ := ih (i + 1) e' (by omega) (fun j hj => by
            rcases Nat.lt_or_ge j i with h1 | h1
            · exact hg j h1
            · obtain rfl : j = i := by omega
              exact ⟨g1, g2, g3⟩) (by rw [he']; split <;> omega) (by
            rw [he']
            by_cases hb : rd (l.getD i []) 0 > a ∨ rd (l.getD i []) 1 > b
            · rw [if_pos hb]; exact ⟨fun _ => ⟨i, by omega, hb⟩, fun _ => rfl⟩
            · rw [if_neg hb]; exact he6.trans ⟨fun ⟨j, q1, q2⟩ => ⟨j, by omega, q2⟩, fun ⟨j, q1, q2⟩ => by
                rcases Nat.lt_or_ge j i with h1 | h1
                · exact ⟨j, h1, q2⟩
                · obtain rfl : j = i := by omega
                  exact absurd q2 hb⟩)
        have j2 : Ev (fun k => impl_sizesCode.j2 k a b e (l.getD i []) l (l.length : Int) (i : Int) false) c := by
          refine Ev.step (fun k => ?_) c2
          simp only [impl_sizesCode.j2]; rw [if_neg Bool.false_ne_true, if_pos (by omega), he', wsucc (by omega)]
          by_cases q1 : rd (l.getD i []) 0 > a
          · rw [if_pos q1, if_pos (.inl q1)]
          · rw [if_neg q1, if_pos (by omega)]
            by_cases q2 : rd (l.getD i []) 1 > b
            · rw [if_pos q2, if_pos (.inr q2)]
            · rw [if_neg q2, if_neg (by omega)]
        refine ⟨c, Ev.step (fun k => ?_) c1, Ev.step (fun k => ?_) j2, c3⟩
        · simp only [spec_l12Ask.l0, rdL_nat, size_eq, Option.bind_some, decide_eq_true_eq]; rw [if_pos (by omega), if_pos (by omega), if_pos (by omega), if_pos (by omega), if_pos g2, if_pos (by omega), if_pos g3, wsucc (by omega)]
        · simp only [impl_sizesCode.l0, rdL_nat, win_eq, Option.bind_some, decide_eq_true_eq]; rw [if_pos (by omega), if_pos (by omega), if_pos (by omega), if_pos (by omega), if_pos (by omega), if_pos g2, if_pos (by omega)]
          simp only [g3, decide_true, Bool.not_true]
      · exact bad hk
  obtain ⟨c, c1, c2, c3⟩ := h l.length 0 0 (by omega) (fun j hj => by omega) (.inl rfl) ⟨fun h => by omega, fun ⟨j, hj, _⟩ => by omega⟩
  exact ⟨c, c1, c2, c3⟩
theorem boxes_ask (l : List (List Int)) (hs : szRows l) (a b : Int) :
    ∃ c, Ev (fun k => spec_l12Ask.f k l a b) c ∧ Ev (fun k => impl_sizesCode.f k l a b) c ∧ (c = 0 → l.length ≤ 24 ∧ sz20 a ∧ sz20 b ∧ ∀ j, j < l.length → okBox (l.getD j [])) := by
  have s1 : Ev (fun k => spec_l12Ask.j0 k l a b true) 2 := Ev.some_eq fun k => by simp only [spec_l12Ask.j0]; rfl
  have i1 : Ev (fun k => impl_sizesCode.j0 k l a b true) 2 := Ev.some_eq fun k => by simp only [impl_sizesCode.j0]; rfl
  unfold spec_l12Ask.f impl_sizesCode.f
  simp only [size_eq, win_eq, Option.bind_some, decide_eq_true_eq]
  by_cases h1 : (l.length : Int) > 24
  · simp only [if_pos h1]; exact ⟨2, s1, i1, by omega⟩
  · simp only [if_neg h1]
    by_cases h2 : sz20 a
    · simp only [if_pos h2]
      by_cases h3 : sz20 b
      · simp only [h3, decide_true, Bool.not_true]
        obtain ⟨c, c1, c2, c3⟩ := ask_loop l hs a b
        exact ⟨c, Ev.step (fun k => by simp only [spec_l12Ask.j0]; rfl) c1, Ev.step (fun k => by simp only [impl_sizesCode.j0]; rfl) c2, fun h => ⟨by omega, h2, trivial, c3 h⟩⟩
      · simp only [h3, decide_false, Bool.not_false]; exact ⟨2, s1, i1, by omega⟩
    · simp only [if_neg h2]; exact ⟨2, s1, i1, by omega⟩
theorem area_le (x y : Int) (hx : sz20 x) (hy : sz20 y) : 1 ≤ x * y ∧ x * y ≤ 400000000 := by
  unfold sz20 at hx hy
  have h1 := Int.mul_le_mul hx.2 hy.2 (by omega) (by omega : (0 : Int) ≤ 20000)
  have h2 := Int.mul_le_mul hx.1 hy.1 (by omega) (by omega : (0 : Int) ≤ x)
  omega
theorem sum_boxes (l : List (List Int)) (hl : l.length ≤ 24) (a b : Int) (ha : sz20 a) (hb : sz20 b) (hk : ∀ j, j < l.length → okBox (l.getD j [])) :
    ∃ r, Ev (fun k => spec_BoxesBound.l0 k l a b 0 0) r ∧ Ev (fun k => impl_BoxesBound.l0 k a b 0 l (l.length : Int) 0) r := by
  have hab := area_le a b ha hb
  have h := down (n := l.length) (Q := fun i => ∀ acc : Int, 0 ≤ acc → acc ≤ i * 400000000 → ∃ r, Ev (fun k => spec_BoxesBound.l0 k l a b acc (i : Int)) r ∧ Ev (fun k => impl_BoxesBound.l0 k a b acc l (l.length : Int) (i : Int)) r) ?_ ?_
  · exact h 0 (by omega) (by omega)
  · intro acc h0 h1
    have hw : wrap64 (a * b) = a * b := w64 (by omega) (by omega)
    refine ⟨(wrap64 (Int.tdiv (wrap64 ((wrap64 (acc + a * b)) - 1)) (a * b)), 0), Ev.some_eq fun k => ?_, Ev.some_eq fun k => ?_⟩
    · simp only [spec_BoxesBound.l0, hw]; rw [if_neg (by omega), if_neg (by omega)]
    · simp only [impl_BoxesBound.l0, hw]; rw [if_neg (by omega), if_neg (by omega)]
  · intro i hi ih acc h0 h1
    obtain ⟨g1, g2, g3⟩ := hk i hi
    have hm := area_le _ _ g2 g3
    have hw : wrap64 (rd (l.getD i []) 0 * rd (l.getD i []) 1) = rd (l.getD i []) 0 * rd (l.getD i []) 1 := w64 (by omega) (by omega)
    have hw2 : wrap64 (acc + rd (l.getD i []) 0 * rd (l.getD i []) 1) = acc + rd (l.getD i []) 0 * rd (l.getD i []) 1 := w64 (by omega) (by omega)
    obtain ⟨r, e1, e2⟩ := ih (acc + rd (l.getD i []) 0 * rd (l.getD i []) 1) (by omega) (by omega)
    refine ⟨r, Ev.step (fun k => ?_) e1, Ev.step (fun k => ?_) e2⟩
    · simp only [spec_BoxesBound.l0, rdL_nat, hw, hw2]; (repeat (first | rw [if_pos (by omega)] | rw [if_neg (by omega)] | rw [if_pos (rfl : true = true)] | rw [if_neg Bool.false_ne_true] | rw [if_pos trivial])); rw [wsucc (by omega)]
    · simp only [impl_BoxesBound.l0, rdL_nat, hw, hw2]; (repeat (first | rw [if_pos (by omega)] | rw [if_neg (by omega)] | rw [if_pos (rfl : true = true)] | rw [if_neg Bool.false_ne_true] | rw [if_pos trivial])); rw [wsucc (by omega)]
theorem FnExactBoxesBound : laws_FnExactBoxesBound.Pure := by
  intro l a b hB ha hb
  obtain ⟨z, hz, hz2, _⟩ := szSS_le l (rows_B l hB.2) hB.1 1048576 (by omega) (by omega)
  suffices h : Ev (fun k => laws_FnExactBoxesBound.f k l a b) true from h.rounds
  unfold laws_FnExactBoxesBound.f
  refine Ev.bind hz (Ev.cond (fun _ => Ev.now _) (fun hn => ?_))
  have hs := hz2 (by omega)
  have ht := toSS_eq l hs
  obtain ⟨c, c1, c2, c3⟩ := boxes_ask l hs a b
  have hr : ∃ r, Ev (fun k => spec_BoxesBound.f k l a b) r ∧ Ev (fun k => impl_BoxesBound.f k l a b) r := by
    unfold spec_BoxesBound.f impl_BoxesBound.f
    by_cases hc : c = 0
    · obtain ⟨q1, q2, q3, q4⟩ := c3 hc
      obtain ⟨r, e1, e2⟩ := sum_boxes l q1 a b q2 q3 q4
      refine ⟨r, Ev.bind c1 ?_, Ev.bind c2 ?_⟩
      · simp only [if_pos hc]; exact e1
      · simp only [if_pos hc]; exact e2
    · refine ⟨(0, c), Ev.bind c1 ?_, Ev.bind c2 ?_⟩
      · simp only [if_neg hc]; exact Ev.now _
      · simp only [if_neg hc]; exact Ev.now _
  obtain ⟨v, e1, e2⟩ := hr
  refine Ev.bind ht (Ev.bind e1 (Ev.bind ht (Ev.bind e2 ?_)))
  simp only [if_true, bne_self_eq_false]
  refine Ev.step (fun k => by simp only [laws_FnExactBoxesBound.j0]; rfl) ?_
  exact Ev.bind ht (Ev.bind (eqSS_same l hs) (Ev.now _))

end Go.Proofs.Ytmaipnbadfplfaa.Pure

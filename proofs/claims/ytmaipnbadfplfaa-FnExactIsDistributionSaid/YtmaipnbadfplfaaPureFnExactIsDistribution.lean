/- For every list of rows and every number the printed law FnExactIsDistribution answers true: the program's IsDistribution and the reference's agree, and the argument stays as it was. -/
import Derived.Test.YtmaipnbadfplfaaPFnExactIsDistributionx4
namespace Go.Proofs.Ytmaipnbadfplfaa.Pure
open Go.RowKit Go.Proofs.Ytmaipnbadfplfaa.PFnExactIsDistribution Go.Proofs.YtmaipnbadfplfaaW.PrintWords Go.Proofs.YtmaipnbadfplfaaW.PrintLast
set_option linter.unusedVariables false
set_option linter.unusedSimpArgs false

theorem w64 {x : Int} (h0 : -9223372036854775808 ≤ x) (h1 : x ≤ 9223372036854775807) : wrap64 x = x := by unfold wrap64; omega
theorem wf64 {x : Int} (h : (Lit.int .i64 x).wf = true) : -9223372036854775808 ≤ x ∧ x ≤ 9223372036854775807 := by
  simp only [Lit.wf, IntKind.has, Bool.and_eq_true, decide_eq_true_eq] at h
  exact h
theorem maxLen_eq : maxLen = 9223372036854775807 := rfl
theorem Ev.cond {α : Type} {c : Prop} [Decidable c] {g f : Nat → Option α} {r : α} (h : c → Ev g r) (h' : ¬ c → Ev f r) : Ev (fun k => if c then g k else f k) r := by
  by_cases hc : c
  · simp only [if_pos hc]; exact h hc
  · simp only [if_neg hc]; exact h' hc
theorem down {n : Nat} {Q : Nat → Prop} (he : Q n) (hs : ∀ i, i < n → Q (i + 1) → Q i) : Q 0 := by
  have h : ∀ d i, i + d = n → Q i := by
    intro d
    induction d with
    | zero => intro i hi; have : i = n := by omega
              subst this; exact he
    | succ d ih => intro i hi; exact hs i (by omega) (ih (i + 1) (by omega))
  exact h n 0 (by omega)
theorem wsucc {i : Nat} (h : i < 9223372036854775807) : wrap64 ((i : Int) + 1) = ((i + 1 : Nat) : Int) := by rw [w64 (by omega) (by omega)]; omega
theorem getD_mem {α : Type} {xs : List α} {i : Nat} (z : α) (h : i < xs.length) : xs.getD i z ∈ xs := by
  rw [List.getD_eq_getElem?_getD, List.getElem?_eq_getElem h]; exact List.getElem_mem h
theorem getD_map {α β : Type} {xs : List α} {i : Nat} (c : α → β) (z : α) (z' : β) (h : i < xs.length) : (xs.map c).getD i z' = c (xs.getD i z) := by
  rw [List.getD_eq_getElem?_getD, List.getD_eq_getElem?_getD, List.getElem?_eq_getElem h, List.getElem?_eq_getElem (by simpa using h)]; simp
theorem Ev.some_eq {α : Type} {g : Nat → Option α} {r : α} (h : ∀ k, g (k + 1) = some r) : Ev g r := Ev.step (f := fun _ => some r) h (Ev.now r)
/-- A row made full of one value and filled from the left. -/
theorem ev_fill {α β : Type} (xs : List α) (z : α) (c : α → β) (L : Nat → List β → Int → Option (List β))
    (he : ∀ ys : List β, ys.length = xs.length → Ev (fun k => L k ys (xs.length : Int)) ys)
    (hs : ∀ (ys r : List β) (i : Nat), i < xs.length → ys.length = xs.length → Ev (fun k => L k (ys.set i (c (xs.getD i z))) ((i + 1 : Nat) : Int)) r → Ev (fun k => L k ys (i : Int)) r) :
    ∀ ys : List β, ys.length = xs.length → Ev (fun k => L k ys 0) (xs.map c) := by
  have h : ∀ d (i : Nat) (ys : List β), i + d = xs.length → ys.length = xs.length → Ev (fun k => L k ys (i : Int)) (ys.take i ++ (xs.drop i).map c) := by
    intro d
    induction d with
    | zero =>
      intro i ys hi hy
      have e : i = xs.length := by omega
      subst e
      rw [List.drop_of_length_le (Nat.le_refl _), List.map_nil, List.append_nil, List.take_of_length_le (by omega)]
      exact he ys hy
    | succ d ih =>
      intro i ys hi hy
      have hlt : i < xs.length := by omega
      refine hs ys _ i hlt hy ?_
      have h2 := ih (i + 1) (ys.set i (c (xs.getD i z))) (by omega) (by rw [List.length_set]; exact hy)
      have e2 : (ys.set i (c (xs.getD i z))).take (i + 1) = ys.take i ++ [c (xs.getD i z)] := by
        rw [List.take_succ_eq_append_getElem (by rw [List.length_set]; omega), List.getElem_set_self, List.take_set_of_le (by omega)]
      have e3 : xs.drop i = xs.getD i z :: xs.drop (i + 1) := by
        rw [List.drop_eq_getElem_cons hlt, List.getD_eq_getElem?_getD, List.getElem?_eq_getElem hlt]; rfl
      rw [e2] at h2
      rw [e3, List.map_cons]
      simpa using h2
  intro ys hy
  have := h xs.length 0 ys (by omega) hy
  simpa using this
/-- One round of a loop, which leans on what a call answers. -/
theorem Ev.step1 {α β : Type} {g f : Nat → Option α} {u : Nat → Option β} {b : β} {r : α} (e : Ev u b) (k : Ev f r) (h : ∀ k, u k = some b → g (k + 1) = f k) : Ev g r := by
  obtain ⟨K, e⟩ := e
  obtain ⟨K', k⟩ := k
  refine ⟨max K K' + 1, fun n hn => ?_⟩
  obtain ⟨m, rfl⟩ : ∃ m, n = m + 1 := ⟨n - 1, by omega⟩
  rw [h m (e m (by omega))]
  exact k m (by omega)
theorem Ev.step2 {α β γ : Type} {g f : Nat → Option α} {u : Nat → Option β} {v : Nat → Option γ} {b : β} {c : γ} {r : α} (e : Ev u b) (e' : Ev v c) (k : Ev f r) (h : ∀ k, u k = some b → v k = some c → g (k + 1) = f k) : Ev g r := by
  obtain ⟨K, e⟩ := e
  obtain ⟨K2, e'⟩ := e'
  obtain ⟨K', k⟩ := k
  refine ⟨max (max K K2) K' + 1, fun n hn => ?_⟩
  obtain ⟨m, rfl⟩ : ∃ m, n = m + 1 := ⟨n - 1, by omega⟩
  rw [h m (e m (by omega)) (e' m (by omega))]
  exact k m (by omega)

theorem in_eq (n lo hi : Int) : spec_l00In.f n lo hi = some (decide (lo ≤ n ∧ n ≤ hi)) := by
  unfold spec_l00In.f
  by_cases h : n ≥ lo
  · rw [if_pos h]; simp [show lo ≤ n from h]
  · rw [if_neg h]; simp; omega

theorem within_eq (n lo hi : Int) : impl_within.f n lo hi = some (decide (lo ≤ n ∧ n ≤ hi)) := by
  unfold impl_within.f
  by_cases h : n ≥ lo
  · rw [if_pos h]; simp [show lo ≤ n from h]
  · rw [if_neg h]; simp; omega

theorem eqS_tail (xs : List Int) (hl : xs.length ≤ 9223372036854775807) (d : Nat) : ∀ (i : Int), 0 ≤ i → (xs.length : Int) - i = d → Ev (fun k => laws_eqInt64S.l0 k xs xs i) true := by
  induction d with
  | zero =>
    intro i h0 hd
    refine Ev.step (f := fun _ => some true) (fun k => ?_) (Ev.now _)
    simp only [laws_eqInt64S.l0]; rw [if_neg (by omega)]
  | succ d ih =>
    intro i h0 hd
    refine Ev.step (f := fun k => laws_eqInt64S.l0 k xs xs (i + 1)) (fun k => ?_) (ih (i + 1) (by omega) (by omega))
    simp only [laws_eqInt64S.l0]; rw [if_pos (by omega), if_pos h0, if_pos (by omega), if_pos trivial, w64 (by omega) (by omega)]
theorem eqS_same (xs : List Int) (hl : xs.length ≤ 9223372036854775807) : Ev (fun k => laws_eqInt64S.f k xs xs) true := by
  unfold laws_eqInt64S.f
  simp only [if_true]
  exact eqS_tail xs hl xs.length 0 (by omega) (by omega)

theorem rd_nat (xs : List Int) (i : Nat) : rd xs (i : Int) = xs.getD i 0 := by show xs.getD (i : Int).toNat 0 = _; rw [Int.toNat_natCast]
theorem toS_eq (l : List Int) (hl : l.length ≤ 1048576) : Ev (fun k => laws_toInt64S.f k l) l := by
  unfold laws_toInt64S.f
  simp only [if_pos (show (0 : Int) ≤ (l.length : Int) by omega), if_pos (show ((l.length : Int) : Int).toNat ≤ 35184372088832 by omega)]
  have h := ev_fill l 0 id (fun k ys i => laws_toInt64S.l0 k l ys i) ?_ ?_ (List.replicate ((l.length : Int)).toNat 0) (by simp)
  · simpa using h
  · intro ys hy
    exact Ev.some_eq fun k => by simp only [laws_toInt64S.l0]; rw [if_neg (by omega)]
  · intro ys r i hi hy h
    refine Ev.step (fun k => ?_) h
    simp only [laws_toInt64S.l0, rd_nat]; (repeat (first | rw [if_pos (by omega)] | rw [if_neg (by omega)] | rw [if_pos (rfl : true = true)] | rw [if_neg Bool.false_ne_true] | rw [if_pos trivial])); rw [wsucc (by omega)]; rfl
/-- A list of lists of bounded size. -/
def szRows (l : List (List Int)) : Prop := l.length ≤ 1048576 ∧ ∀ x ∈ l, x.length ≤ 1048576
theorem rdL_nat (xs : List (List Int)) (i : Nat) : rd_L1 xs (i : Int) = xs.getD i [] := by show xs.getD (i : Int).toNat _ = _; rw [Int.toNat_natCast]
theorem szSS_le (l : List (List Int)) (hB : ∀ x ∈ l, x.length ≤ 9223372036854775807) (hl : l.length ≤ 9223372036854775807) (a : Int) (h0 : 0 ≤ a) (h1 : a ≤ 1048576) :
    ∃ r, Ev (fun k => laws_szInt64SS.f k l a) r ∧ (0 ≤ r → szRows l) ∧ r ≤ 1048576 := by
  unfold laws_szInt64SS.f
  by_cases hc : wrap64 (a - (l.length : Int)) < 0
  · simp only [if_pos hc]; exact ⟨-1, Ev.now _, by omega, by omega⟩
  · simp only [if_neg hc]
    rw [w64 (by omega) (by omega)] at hc ⊢
    have h := down (n := l.length) (Q := fun i => ∀ b, 0 ≤ b → b ≤ 1048576 → ∃ r, Ev (fun k => laws_szInt64SS.l0 k l b (i : Int)) r ∧ r ≤ 1048576 ∧ (0 ≤ r → ∀ j, i ≤ j → j < l.length → (l.getD j []).length ≤ 1048576)) ?_ ?_
    · obtain ⟨r, h2, h3, h4⟩ := h (a - (l.length : Int)) (by omega) (by omega)
      refine ⟨r, h2, fun hr => ⟨by omega, fun x hx => ?_⟩, h3⟩
      obtain ⟨j, hj, rfl⟩ := List.getElem_of_mem hx
      have := h4 hr j (Nat.zero_le _) hj
      rwa [List.getD_eq_getElem?_getD, List.getElem?_eq_getElem hj] at this
    · intro b _ _
      exact ⟨b, Ev.some_eq fun k => by simp only [laws_szInt64SS.l0]; rw [if_neg (by omega)], by omega, fun _ j h1 h2 => by omega⟩
    · intro i hi ih b hb0 hb1
      have hz := hB _ (getD_mem ([] : List Int) hi)
      have hw : wrap64 (b - ((l.getD i []).length : Int)) = b - ((l.getD i []).length : Int) := w64 (by omega) (by omega)
      by_cases hd : wrap64 (b - ((l.getD i []).length : Int)) < 0
      · exact ⟨-1, Ev.some_eq fun k => by simp only [laws_szInt64SS.l0, laws_szInt64S.f, rdL_nat]; rw [if_pos (by omega), if_pos (by omega), if_pos hd]; rfl, by omega, by omega⟩
      · obtain ⟨r, hr, hr1, hr2⟩ := ih (wrap64 (b - ((l.getD i []).length : Int))) (by omega) (by omega)
        refine ⟨r, Ev.step (fun k => ?_) hr, hr1, fun h0 j hj hj2 => ?_⟩
        · simp only [laws_szInt64SS.l0, laws_szInt64S.f, rdL_nat]
          rw [if_pos (by omega), if_pos (by omega), if_neg hd]
          simp only [Option.bind_some]
          rw [if_neg hd, wsucc (by omega)]
        · rcases Nat.eq_or_lt_of_le hj with rfl | hlt
          · omega
          · exact hr2 h0 j hlt hj2
theorem toSS_eq (l : List (List Int)) (hs : szRows l) : Ev (fun k => laws_toInt64SS.f k l) l := by
  unfold laws_toInt64SS.f
  have hl := hs.1
  simp only [if_pos (show (0 : Int) ≤ (l.length : Int) by omega), if_pos (show ((l.length : Int) : Int).toNat ≤ 11728124029610 by omega)]
  have h := ev_fill l [] id (fun k ys i => laws_toInt64SS.l0 k l ys i) ?_ ?_ (List.replicate ((l.length : Int)).toNat []) (by simp)
  · simpa using h
  · intro ys hy
    exact Ev.some_eq fun k => by simp only [laws_toInt64SS.l0]; rw [if_neg (by omega)]
  · intro ys r i hi hy h
    refine Ev.step1 (toS_eq (l.getD i []) (hs.2 _ (getD_mem _ hi))) h (fun k hk => ?_)
    simp only [laws_toInt64SS.l0, rdL_nat, hk, Option.bind_some]; (repeat (first | rw [if_pos (by omega)] | rw [if_neg (by omega)] | rw [if_pos (rfl : true = true)] | rw [if_neg Bool.false_ne_true] | rw [if_pos trivial])); rw [wsucc (by omega)]; rfl
theorem eqSS_same (l : List (List Int)) (hs : szRows l) : Ev (fun k => laws_eqInt64SS.f k l l) true := by
  unfold laws_eqInt64SS.f
  simp only [if_true]
  have hl := hs.1
  refine down (n := l.length) (Q := fun i => Ev (fun k => laws_eqInt64SS.l0 k l l (i : Int)) true) ?_ ?_
  · exact Ev.some_eq fun k => by simp only [laws_eqInt64SS.l0]; rw [if_neg (by omega)]
  · intro i hi ih
    refine Ev.step1 (eqS_same (l.getD i []) (by have := hs.2 _ (getD_mem ([] : List Int) hi); omega)) ih (fun k hk => ?_)
    simp only [laws_eqInt64SS.l0, rdL_nat, hk, Option.bind_some]; (repeat (first | rw [if_pos (by omega)] | rw [if_neg (by omega)] | rw [if_pos (rfl : true = true)] | rw [if_neg Bool.false_ne_true] | rw [if_pos trivial])); rw [wsucc (by omega)]
theorem rows_B (l : List (List Int)) (hB : ∀ x ∈ l, (x.length ≤ maxLen ∧ ∀ y ∈ x, (Lit.int .i64 y).wf = true)) : ∀ x ∈ l, x.length ≤ 9223372036854775807 := fun x hx => (hB x hx).1

/-- Are all numbers in 0 .. a - 1, and none twice (nor among S)? -/
def okFrom (a : Int) : List Int → List Int → Bool
  | _, [] => true
  | S, v :: t => if 0 ≤ v ∧ v ≤ a - 1 then (if v ∈ S then false else okFrom a (S ++ [v]) t) else false
theorem drop_cons {α : Type} (xs : List α) (z : α) {i : Nat} (h : i < xs.length) : xs.drop i = xs.getD i z :: xs.drop (i + 1) := by
  rw [List.drop_eq_getElem_cons h, List.getD_eq_getElem?_getD, List.getElem?_eq_getElem h]; rfl
theorem has_eq (xs : List Int) (v : Int) (hl : xs.length ≤ 1048576) : Ev (fun k => spec_l00Has.f k xs v) (decide (v ∈ xs)) := by
  unfold spec_l00Has.f
  have h := down (n := xs.length) (Q := fun i => Ev (fun k => spec_l00Has.l0 k xs v (i : Int)) (decide (v ∈ xs.drop i))) ?_ ?_
  · simpa using h
  · refine Ev.some_eq fun k => ?_
    simp only [spec_l00Has.l0]; rw [if_neg (by omega)]; simp
  · intro i hi ih
    by_cases hv : xs.getD i 0 = v
    · rw [drop_cons xs 0 hi, hv]
      refine Ev.some_eq fun k => ?_
      simp only [spec_l00Has.l0, rd_nat]; rw [if_pos (by omega), if_pos (by omega), if_pos hv]; simp
    · rw [drop_cons xs 0 hi, show decide (v ∈ xs.getD i 0 :: xs.drop (i + 1)) = decide (v ∈ xs.drop (i + 1)) from decide_eq_decide.2 ⟨fun h => (List.mem_cons.1 h).resolve_left (Ne.symm hv), List.mem_cons_of_mem _⟩]
      refine Ev.step (fun k => ?_) ih
      simp only [spec_l00Has.l0, rd_nat]; rw [if_pos (by omega), if_pos (by omega), if_neg hv, wsucc (by omega)]
theorem isOrder_loop (a : Int) (ha : 1 ≤ a) (ha8 : a ≤ 8) (xs : List Int) (hl : xs.length ≤ 1048576) : ∀ d i (S : List Int) (bs : List Bool), i + d = xs.length → (bs.length : Int) = a →
    (∀ v : Int, 0 ≤ v → v < a → (bs.getD v.toNat false = true ↔ v ∈ S)) → Ev (fun k => impl_isOrder.l0 k a bs xs (xs.length : Int) (i : Int)) (okFrom a S (xs.drop i)) := by
  intro d
  induction d with
  | zero =>
    intro i S bs hi hb hS
    have e : i = xs.length := by omega
    rw [e, List.drop_length]
    refine Ev.some_eq fun k => ?_
    simp only [impl_isOrder.l0]; rw [if_neg (by omega)]; rfl
  | succ d ih =>
    intro i S bs hi hb hS
    have hlt : i < xs.length := by omega
    rw [drop_cons xs 0 hlt]
    have hw : wrap64 (a - 1) = a - 1 := w64 (by omega) (by omega)
    by_cases hg : 0 ≤ xs.getD i 0 ∧ xs.getD i 0 ≤ a - 1
    · have hrd : rdOf false bs (xs.getD i 0) = bs.getD (xs.getD i 0).toNat false := rfl
      by_cases hm : xs.getD i 0 ∈ S
      · have hr : bs.getD (xs.getD i 0).toNat false = true := (hS _ hg.1 (by omega)).2 hm
        rw [show okFrom a S (xs.getD i 0 :: xs.drop (i + 1)) = false by rw [okFrom, if_pos hg, if_pos hm]]
        refine Ev.some_eq fun k => ?_
        simp only [impl_isOrder.l0, rd_nat, within_eq, Option.bind_some, hw, decide_eq_true_eq]
        rw [if_pos (by omega), if_pos (by omega), if_pos (by omega), if_pos hg, if_pos hg.1, if_pos (by omega), hrd, if_pos hr]
      · have hr : ¬ bs.getD (xs.getD i 0).toNat false = true := fun h => hm ((hS _ hg.1 (by omega)).1 h)
        rw [show okFrom a S (xs.getD i 0 :: xs.drop (i + 1)) = okFrom a (S ++ [xs.getD i 0]) (xs.drop (i + 1)) by rw [okFrom, if_pos hg, if_neg hm]]
        refine Ev.step (fun k => ?_) (ih (i + 1) (S ++ [xs.getD i 0]) (bs.set (xs.getD i 0).toNat true) (by omega) (by rw [List.length_set]; exact hb) ?_)
        · simp only [impl_isOrder.l0, rd_nat, within_eq, Option.bind_some, hw, decide_eq_true_eq]
          rw [if_pos (by omega), if_pos (by omega), if_pos (by omega), if_pos hg, if_pos hg.1, if_pos (by omega), hrd, if_neg hr, wsucc (by omega)]
        · intro v hv hv2
          rw [List.mem_append, List.mem_singleton, List.getD_eq_getElem?_getD, List.getElem?_set]
          by_cases he : v = xs.getD i 0
          · rw [← he, if_pos rfl, if_pos (by omega)]; simp
          · rw [if_neg (by omega), ← List.getD_eq_getElem?_getD, hS v hv hv2]
            exact ⟨fun h => .inl h, fun h => h.resolve_right he⟩
    · rw [show okFrom a S (xs.getD i 0 :: xs.drop (i + 1)) = false by rw [okFrom, if_neg hg]]
      refine Ev.some_eq fun k => ?_
      simp only [impl_isOrder.l0, rd_nat, within_eq, Option.bind_some, hw, decide_eq_true_eq]
      rw [if_pos (by omega), if_pos (by omega), if_pos (by omega), if_neg hg]
theorem isOrder_eq (a : Int) (ha : 1 ≤ a) (ha8 : a ≤ 8) (xs : List Int) (hl : (xs.length : Int) = a) : Ev (fun k => impl_isOrder.f k xs a) (okFrom a [] xs) := by
  unfold impl_isOrder.f
  simp only [if_pos hl, if_pos (show (0 : Int) ≤ a by omega), if_pos (show (a : Int).toNat ≤ 281474976710656 by omega)]
  have h := isOrder_loop a ha ha8 xs (by omega) xs.length 0 [] (List.replicate a.toNat false) (by omega) (by simp; omega) (fun v h0 h1 => by
    rw [List.getD_eq_getElem?_getD, List.getElem?_replicate]
    split <;> simp)
  simpa using h
/-- A column of a list of rows. -/
def colOf (c : Nat) (l : List (List Int)) : List Int := l.map (fun r => r.getD c 0)
theorem col_drop (l : List (List Int)) (c i : Nat) (h : i < l.length) : colOf c (l.drop i) = (l.getD i []).getD c 0 :: colOf c (l.drop (i + 1)) := by
  rw [drop_cons l [] h]; rfl
theorem spec_col (l : List (List Int)) (hs : l.length ≤ 8) (a : Int) (ha : 1 ≤ a) (ha8 : a ≤ 8) (c : Nat) (hc : ∀ j, j < l.length → c < (l.getD j []).length) (R : Bool)
    (hR : Ev (fun k => spec_IsDistribution.l1 k l a ((c + 1 : Nat) : Int)) R) (hcs : c < 9223372036854775807) : ∀ d i (S : List Int), i + d = l.length → S.length ≤ i →
    Ev (fun k => spec_IsDistribution.l2 k l a (c : Int) S (i : Int)) (if okFrom a S (colOf c (l.drop i)) then R else false) := by
  intro d
  induction d with
  | zero =>
    intro i S hi hS
    have e : i = l.length := by omega
    rw [e, List.drop_length]
    refine Ev.step (fun k => ?_) hR
    simp only [spec_IsDistribution.l2]; rw [if_neg (by omega), wsucc hcs]
  | succ d ih =>
    intro i S hi hS
    have hlt : i < l.length := by omega
    have hw : wrap64 (a - 1) = a - 1 := w64 (by omega) (by omega)
    have hcl := hc i hlt
    rw [col_drop l c i hlt]
    by_cases hg : 0 ≤ (l.getD i []).getD c 0 ∧ (l.getD i []).getD c 0 ≤ a - 1
    · have hh := has_eq S ((l.getD i []).getD c 0) (by omega)
      by_cases hm : (l.getD i []).getD c 0 ∈ S
      · rw [show okFrom a S ((l.getD i []).getD c 0 :: colOf c (l.drop (i + 1))) = false by rw [okFrom, if_pos hg, if_pos hm]]
        refine Ev.step1 hh (Ev.now false) (fun k hk => ?_)
        simp only [spec_IsDistribution.l2, rdL_nat, rd_nat, in_eq, Option.bind_some, hw, hk, decide_eq_true_eq]
        rw [if_pos (by omega), if_pos (by omega), if_pos (by omega), if_pos (by omega), if_pos hg, if_pos hm]
      · rw [show okFrom a S ((l.getD i []).getD c 0 :: colOf c (l.drop (i + 1))) = okFrom a (S ++ [(l.getD i []).getD c 0]) (colOf c (l.drop (i + 1))) by rw [okFrom, if_pos hg, if_neg hm]]
        refine Ev.step1 hh (ih (i + 1) (S ++ [(l.getD i []).getD c 0]) (by omega) (by simp; omega)) (fun k hk => ?_)
        simp only [spec_IsDistribution.l2, rdL_nat, rd_nat, in_eq, Option.bind_some, hw, hk, decide_eq_true_eq]
        rw [if_pos (by omega), if_pos (by omega), if_pos (by omega), if_pos (by omega), if_pos hg, if_neg hm, if_pos (by omega), wsucc (by omega)]
    · rw [show okFrom a S ((l.getD i []).getD c 0 :: colOf c (l.drop (i + 1))) = false by rw [okFrom, if_neg hg]]
      refine Ev.some_eq fun k => ?_
      simp only [spec_IsDistribution.l2, rdL_nat, rd_nat, in_eq, Option.bind_some, hw, decide_eq_true_eq]
      rw [if_pos (by omega), if_pos (by omega), if_pos (by omega), if_pos (by omega), if_neg hg]; rfl
theorem impl_col (l : List (List Int)) (a : Int) (hs : (l.length : Int) = a) (ha : 1 ≤ a) (ha8 : a ≤ 8) (n : Int) (c : Nat) (hc : ∀ j, j < l.length → c < (l.getD j []).length) (R : Bool)
    (hR : Ev (fun k => impl_IsDistribution.l0 k l a n ((c + 1 : Nat) : Int)) R) (hcs : c < 9223372036854775807) : ∀ d i (S : List Int), i + d = l.length → S.length = i →
    Ev (fun k => impl_IsDistribution.l1 k l a (c : Int) S n (c : Int) l (l.length : Int) (i : Int)) (if okFrom a [] (S ++ colOf c (l.drop i)) then R else false) := by
  intro d
  induction d with
  | zero =>
    intro i S hi hS
    have e : i = l.length := by omega
    rw [e, List.drop_length, show colOf c ([] : List (List Int)) = [] from rfl, List.append_nil]
    have ho := isOrder_eq a ha ha8 S (by omega)
    cases hok : okFrom a [] S with
    | true =>
      rw [hok] at ho
      refine Ev.step1 ho hR (fun k hk => ?_)
      simp only [impl_IsDistribution.l1, hk, Option.bind_some]; rw [if_neg (by omega)]; (repeat (first | rw [if_pos (by omega)] | rw [if_neg (by omega)] | rw [if_pos (rfl : true = true)] | rw [if_neg Bool.false_ne_true] | rw [if_pos trivial])); rw [wsucc hcs]
    | false =>
      rw [hok] at ho
      refine Ev.step1 ho (Ev.now false) (fun k hk => ?_)
      simp only [impl_IsDistribution.l1, hk, Option.bind_some]; rw [if_neg (by omega)]; rfl
  | succ d ih =>
    intro i S hi hS
    have hlt : i < l.length := by omega
    have hcl := hc i hlt
    rw [col_drop l c i hlt]
    have h := ih (i + 1) (S ++ [(l.getD i []).getD c 0]) (by omega) (by simp; omega)
    rw [List.append_assoc] at h
    refine Ev.step (fun k => ?_) h
    simp only [impl_IsDistribution.l1, rdL_nat, rd_nat]
    rw [if_pos (by omega), if_pos (by omega), if_pos (by omega), if_pos (by omega), if_pos (by omega), if_pos (by omega), wsucc (by omega)]
theorem cols_same (l : List (List Int)) (a : Int) (hs : (l.length : Int) = a) (ha : 1 ≤ a) (ha8 : a ≤ 8) (n : Nat) (hn : n ≤ 24) (hr : ∀ j, j < l.length → (l.getD j []).length = n) :
    ∃ R, Ev (fun k => spec_IsDistribution.l1 k l a 0) R ∧ Ev (fun k => impl_IsDistribution.l0 k l a (n : Int) 0) R := by
  have h0 := hr 0 (by omega)
  refine down (n := n) (Q := fun c => ∃ R, Ev (fun k => spec_IsDistribution.l1 k l a (c : Int)) R ∧ Ev (fun k => impl_IsDistribution.l0 k l a (n : Int) (c : Int)) R) ?_ ?_
  · refine ⟨true, Ev.some_eq fun k => ?_, Ev.some_eq fun k => ?_⟩
    · simp only [spec_IsDistribution.l1, show rd_L1 l 0 = l.getD 0 [] from rfl, h0]; rw [if_pos (by omega), if_neg (by omega)]
    · simp only [impl_IsDistribution.l0]; rw [if_neg (by omega)]
  · intro c hc ⟨R, h1, h2⟩
    have hcc : ∀ j, j < l.length → c < (l.getD j []).length := fun j hj => by rw [hr j hj]; exact hc
    have e1 := spec_col l (by omega) a ha ha8 c hcc R h1 (by omega) l.length 0 [] (by omega) (by simp)
    have e2 := impl_col l a hs ha ha8 n c hcc R h2 (by omega) l.length 0 [] (by omega) rfl
    rw [List.drop_zero] at e1 e2
    rw [List.nil_append] at e2
    refine ⟨_, Ev.step (fun k => ?_) e1, Ev.step (fun k => ?_) e2⟩
    · simp only [spec_IsDistribution.l1, show rd_L1 l 0 = l.getD 0 [] from rfl, h0]; rw [if_pos (by omega), if_pos (by omega)]; rfl
    · simp only [impl_IsDistribution.l0]; rw [if_pos (by omega)]; rfl
theorem spec_rows (l : List (List Int)) (hl : l.length ≤ 8) (a : Int) (n : Nat) (h0 : 0 < l.length) (hn : (l.getD 0 []).length = n) :
    ∀ d i, i + d = l.length → ((∀ j, i ≤ j → j < l.length → (l.getD j []).length = n ∧ n ≤ 24) → ∀ R, Ev (fun k => spec_IsDistribution.l1 k l a 0) R → Ev (fun k => spec_IsDistribution.l0 k l a (i : Int)) R) ∧
      (¬ (∀ j, i ≤ j → j < l.length → (l.getD j []).length = n ∧ n ≤ 24) → Ev (fun k => spec_IsDistribution.l0 k l a (i : Int)) false) := by
  intro d
  induction d with
  | zero =>
    intro i hi
    refine ⟨fun _ R hR => Ev.step (fun k => ?_) hR, fun h => absurd (fun j h1 h2 => by omega) h⟩
    simp only [spec_IsDistribution.l0]; rw [if_neg (by omega)]
  | succ d ih =>
    intro i hi
    have hlt : i < l.length := by omega
    obtain ⟨ih1, ih2⟩ := ih (i + 1) (by omega)
    refine ⟨fun h R hR => Ev.step (fun k => ?_) (ih1 (fun j h1 h2 => h j (by omega) h2) R hR), fun h => ?_⟩
    · obtain ⟨q1, q2⟩ := h i (Nat.le_refl _) hlt
      simp only [spec_IsDistribution.l0, rdL_nat, show rd_L1 l 0 = l.getD 0 [] from rfl, hn, q1]
      (repeat (first | rw [if_pos (by omega)] | rw [if_neg (by omega)] | rw [if_pos (rfl : true = true)] | rw [if_neg Bool.false_ne_true] | rw [if_pos trivial])); rw [wsucc (by omega)]
    · by_cases q1 : (l.getD i []).length = n
      · by_cases q2 : n ≤ 24
        · refine Ev.step (fun k => ?_) (ih2 (fun h' => h (fun j h1 h2 => by
            rcases Nat.eq_or_lt_of_le h1 with rfl | hj
            · exact ⟨q1, q2⟩
            · exact h' j hj h2)))
          simp only [spec_IsDistribution.l0, rdL_nat, show rd_L1 l 0 = l.getD 0 [] from rfl, hn, q1]
          (repeat (first | rw [if_pos (by omega)] | rw [if_neg (by omega)] | rw [if_pos (rfl : true = true)] | rw [if_neg Bool.false_ne_true] | rw [if_pos trivial])); rw [wsucc (by omega)]
        · refine Ev.some_eq fun k => ?_
          simp only [spec_IsDistribution.l0, rdL_nat, show rd_L1 l 0 = l.getD 0 [] from rfl, hn, q1]
          (repeat (first | rw [if_pos (by omega)] | rw [if_neg (by omega)] | rw [if_pos (rfl : true = true)] | rw [if_neg Bool.false_ne_true] | rw [if_pos trivial]))
      · refine Ev.some_eq fun k => ?_
        simp only [spec_IsDistribution.l0, rdL_nat, show rd_L1 l 0 = l.getD 0 [] from rfl, hn]
        rw [if_pos (by omega), if_pos (by omega), if_pos (by omega), if_neg (by omega)]
theorem index_rows (l : List (List Int)) (hl : l.length ≤ 8) (n : Nat) : Ev (fun k => slices_ContainsFunc_int64_int64__impl_IsDistribution_1.f k l [(n : Int)]) (decide (¬ ∀ j, j < l.length → (l.getD j []).length = n)) := by
  have h : ∀ d i, i + d = l.length → ∃ r : Int, Ev (fun k => slices_IndexFunc_int64_int64__impl_IsDistribution_1.l0 k l (l.length : Int) (i : Int) [(n : Int)]) r ∧ (r ≥ 0 ↔ ¬ ∀ j, i ≤ j → j < l.length → (l.getD j []).length = n) := by
    intro d
    induction d with
    | zero =>
      intro i hi
      refine ⟨-1, Ev.some_eq fun k => ?_, ⟨fun h => by omega, fun h => absurd (fun j h1 h2 => by omega) h⟩⟩
      simp only [slices_IndexFunc_int64_int64__impl_IsDistribution_1.l0]; rw [if_neg (by omega)]
    | succ d ih =>
      intro i hi
      have hf : impl_IsDistribution_1.f (l.getD i []) [(n : Int)] = some (((l.getD i []).length : Int) != n) := by
        unfold impl_IsDistribution_1.f; rw [if_pos (by simp)]; rfl
      by_cases hq : (l.getD i []).length = n
      · obtain ⟨r, h1, h2⟩ := ih (i + 1) (by omega)
        refine ⟨r, Ev.step (fun k => ?_) h1, h2.trans (not_congr ⟨fun h j q1 q2 => ?_, fun h j q1 q2 => h j (by omega) q2⟩)⟩
        · simp only [slices_IndexFunc_int64_int64__impl_IsDistribution_1.l0, rdL_nat, hf, Option.bind_some]
          rw [hq, bne_self_eq_false]; (repeat (first | rw [if_pos (by omega)] | rw [if_neg (by omega)] | rw [if_pos (rfl : true = true)] | rw [if_neg Bool.false_ne_true] | rw [if_pos trivial])); rw [wsucc (by omega)]
        · rcases Nat.eq_or_lt_of_le q1 with rfl | hj
          · exact hq
          · exact h j hj q2
      · refine ⟨i, Ev.some_eq fun k => ?_, ⟨fun _ h => hq (h i (Nat.le_refl _) (by omega)), fun _ => by omega⟩⟩
        simp only [slices_IndexFunc_int64_int64__impl_IsDistribution_1.l0, rdL_nat, hf, Option.bind_some]
        rw [if_pos (by omega), if_pos (by omega), if_pos (by omega), if_pos (by simpa using (by omega : ¬ ((l.getD i []).length : Int) = n))]
  obtain ⟨r, h1, h2⟩ := h l.length 0 (by omega)
  unfold slices_ContainsFunc_int64_int64__impl_IsDistribution_1.f slices_IndexFunc_int64_int64__impl_IsDistribution_1.f
  refine Ev.bind h1 ?_
  have e : decide (r ≥ 0) = decide (¬ ∀ j, j < l.length → (l.getD j []).length = n) := by
    refine decide_eq_decide.2 (h2.trans (not_congr ⟨fun h j q => h j (Nat.zero_le _) q, fun h j _ q => h j q⟩))
  rw [← e]; exact Ev.now _
/-- The reference's and the program's test of a distribution agree. -/
theorem dist_same (l : List (List Int)) (hs : szRows l) (a : Int) (ha : -9223372036854775808 ≤ a ∧ a ≤ 9223372036854775807) :
    ∃ r, Ev (fun k => spec_IsDistribution.f k l a) r ∧ Ev (fun k => impl_IsDistribution.f k l a) r := by
  have s1 : Ev (fun k => spec_IsDistribution.j0 k l a true) false := Ev.some_eq fun k => by simp only [spec_IsDistribution.j0]; rfl
  have i1 : Ev (fun k => impl_IsDistribution.j0 k l a true) false := Ev.some_eq fun k => by simp only [impl_IsDistribution.j0]; rfl
  unfold spec_IsDistribution.f impl_IsDistribution.f
  simp only [in_eq, within_eq, Option.bind_some, decide_eq_true_eq]
  by_cases h1 : 1 ≤ a ∧ a ≤ 8
  · simp only [if_pos h1]
    by_cases h2 : (l.length : Int) = a
    · simp only [show ((l.length : Int) != a) = false by simp [h2]]
      have h0 : 0 < l.length := by omega
      obtain ⟨g1, g2⟩ := spec_rows l (by omega) a (l.getD 0 []).length h0 rfl l.length 0 (by omega)
      have hrd : rd_L1 l 0 = l.getD 0 [] := rfl
      have j1 : ∀ n : Int, Ev (fun k => impl_IsDistribution.j1 k l a true n) false := fun n => Ev.some_eq fun k => by simp only [impl_IsDistribution.j1]; rfl
      by_cases hn : (l.getD 0 []).length ≤ 24
      · have hi := index_rows l (by omega) (l.getD 0 []).length
        by_cases hall : ∀ j, j < l.length → (l.getD j []).length = (l.getD 0 []).length
        · obtain ⟨R, e1, e2⟩ := cols_same l a h2 h1.1 h1.2 (l.getD 0 []).length hn hall
          rw [decide_eq_false (fun h => h hall)] at hi
          refine ⟨R, Ev.step (fun k => by simp only [spec_IsDistribution.j0]; rfl) (g1 (fun j _ hj => ⟨hall j hj, hn⟩) R e1), ?_⟩
          refine Ev.step1 (f := fun k => impl_IsDistribution.j1 k l a false ((l.getD 0 []).length : Int)) hi (Ev.step (fun k => by simp only [impl_IsDistribution.j1]; rfl) e2) (fun k hk => ?_)
          simp only [impl_IsDistribution.j0, hrd, hk, Option.bind_some]; rw [if_neg Bool.false_ne_true, if_pos (by omega), if_neg (by omega)]
        · rw [decide_eq_true hall] at hi
          refine ⟨false, Ev.step (fun k => by simp only [spec_IsDistribution.j0]; rfl) (g2 (fun h => hall (fun j hj => (h j (Nat.zero_le _) hj).1))), ?_⟩
          refine Ev.step1 (f := fun k => impl_IsDistribution.j1 k l a true ((l.getD 0 []).length : Int)) hi (j1 _) (fun k hk => ?_)
          simp only [impl_IsDistribution.j0, hrd, hk, Option.bind_some]; rw [if_neg Bool.false_ne_true, if_pos (by omega), if_neg (by omega)]
      · refine ⟨false, Ev.step (fun k => by simp only [spec_IsDistribution.j0]; rfl) (g2 (fun h => hn (h 0 (Nat.zero_le _) h0).2)), ?_⟩
        refine Ev.step (fun k => ?_) (j1 ((l.getD 0 []).length : Int))
        simp only [impl_IsDistribution.j0, hrd]; rw [if_neg Bool.false_ne_true, if_pos (by omega), if_pos (by omega)]
    · simp only [show ((l.length : Int) != a) = true by simp [h2]]; exact ⟨false, s1, i1⟩
  · simp only [if_neg h1]; exact ⟨false, s1, i1⟩

theorem FnExactIsDistribution : laws_FnExactIsDistribution.Pure := by
  intro l a hB ha
  obtain ⟨z, hz, hz2, _⟩ := szSS_le l (rows_B l hB.2) hB.1 1048576 (by omega) (by omega)
  suffices h : Ev (fun k => laws_FnExactIsDistribution.f k l a) true from h.rounds
  unfold laws_FnExactIsDistribution.f
  refine Ev.bind hz (Ev.cond (fun _ => Ev.now _) (fun hn => ?_))
  have hs := hz2 (by omega)
  have ht := toSS_eq l hs
  obtain ⟨r, e1, e2⟩ := dist_same l hs a (wf64 ha)
  refine Ev.bind ht (Ev.bind e1 (Ev.bind ht (Ev.bind e2 ?_)))
  simp only [bne_self_eq_false, Bool.false_eq_true, if_false]
  exact Ev.bind ht (Ev.bind (eqSS_same l hs) (Ev.now _))

end Go.Proofs.Ytmaipnbadfplfaa.Pure

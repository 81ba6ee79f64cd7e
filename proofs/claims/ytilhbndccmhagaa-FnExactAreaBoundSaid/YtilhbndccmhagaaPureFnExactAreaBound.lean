/- For every list of areas and of usable areas the printed law FnExactAreaBound answers true: the program's AreaBound (sorted, the greatest first) and the reference's (the greatest that is left, each time) agree, and the arguments stay as they were. -/
import Derived.Test.YtilhbndccmhagaaPFnExactAreaBoundx4
namespace Go.Proofs.Ytilhbndccmhagaa.Pure
open Go.RowKit Go.Proofs.Ytilhbndccmhagaa.PFnExactAreaBound Go.Proofs.YtilhbndccmhagaaW.PrintWords Go.Proofs.YtilhbndccmhagaaW.PrintLast
set_option linter.unusedVariables false
set_option linter.unusedSimpArgs false
set_option linter.unnecessarySimpa false

theorem w64 {x : Int} (h0 : -9223372036854775808 ≤ x) (h1 : x ≤ 9223372036854775807) : wrap64 x = x := by unfold wrap64; omega
theorem wf64 {x : Int} (h : (Lit.int .i64 x).wf = true) : -9223372036854775808 ≤ x ∧ x ≤ 9223372036854775807 := by
  simp only [Lit.wf, IntKind.has, Bool.and_eq_true, decide_eq_true_eq] at h
  exact h
theorem maxLen_eq : maxLen = 9223372036854775807 := rfl
theorem Ev.cond {α : Type} {c : Prop} [Decidable c] {g f : Nat → Option α} {r : α} (h : c → Ev g r) (h' : ¬ c → Ev f r) : Ev (fun k => if c then g k else f k) r := by
  by_cases hc : c
  · simp only [if_pos hc]; exact h hc
  · simp only [if_neg hc]; exact h' hc
theorem down {n : Nat} {Q : Nat → Prop} (he : Q n) (hs : ∀ i, i < n → Q (i + 1) → Q i) : Q 0 := by
  have h : ∀ d i, i + d = n → Q i := by
    intro d
    induction d with
    | zero => intro i hi; have : i = n := by omega
              subst this; exact he
    | succ d ih => intro i hi; exact hs i (by omega) (ih (i + 1) (by omega))
  exact h n 0 (by omega)
theorem wsucc {i : Nat} (h : i < 9223372036854775807) : wrap64 ((i : Int) + 1) = ((i + 1 : Nat) : Int) := by rw [w64 (by omega) (by omega)]; omega
theorem getD_mem {α : Type} {xs : List α} {i : Nat} (z : α) (h : i < xs.length) : xs.getD i z ∈ xs := by
  rw [List.getD_eq_getElem?_getD, List.getElem?_eq_getElem h]; exact List.getElem_mem h
theorem getD_map {α β : Type} {xs : List α} {i : Nat} (c : α → β) (z : α) (z' : β) (h : i < xs.length) : (xs.map c).getD i z' = c (xs.getD i z) := by
  rw [List.getD_eq_getElem?_getD, List.getD_eq_getElem?_getD, List.getElem?_eq_getElem h, List.getElem?_eq_getElem (by simpa using h)]; simp
theorem Ev.some_eq {α : Type} {g : Nat → Option α} {r : α} (h : ∀ k, g (k + 1) = some r) : Ev g r := Ev.step (f := fun _ => some r) h (Ev.now r)
/-- A row made full of one value and filled from the left. -/
theorem ev_fill {α β : Type} (xs : List α) (z : α) (c : α → β) (L : Nat → List β → Int → Option (List β))
    (he : ∀ ys : List β, ys.length = xs.length → Ev (fun k => L k ys (xs.length : Int)) ys)
    (hs : ∀ (ys r : List β) (i : Nat), i < xs.length → ys.length = xs.length → Ev (fun k => L k (ys.set i (c (xs.getD i z))) ((i + 1 : Nat) : Int)) r → Ev (fun k => L k ys (i : Int)) r) :
    ∀ ys : List β, ys.length = xs.length → Ev (fun k => L k ys 0) (xs.map c) := by
  have h : ∀ d (i : Nat) (ys : List β), i + d = xs.length → ys.length = xs.length → Ev (fun k => L k ys (i : Int)) (ys.take i ++ (xs.drop i).map c) := by
    intro d
    induction d with
    | zero =>
      intro i ys hi hy
      have e : i = xs.length := by omega
      subst e
      rw [List.drop_of_length_le (Nat.le_refl _), List.map_nil, List.append_nil, List.take_of_length_le (by omega)]
      exact he ys hy
    | succ d ih =>
      intro i ys hi hy
      have hlt : i < xs.length := by omega
      refine hs ys _ i hlt hy ?_
      have h2 := ih (i + 1) (ys.set i (c (xs.getD i z))) (by omega) (by rw [List.length_set]; exact hy)
      have e2 : (ys.set i (c (xs.getD i z))).take (i + 1) = ys.take i ++ [c (xs.getD i z)] := by
        rw [List.take_succ_eq_append_getElem (by rw [List.length_set]; omega), List.getElem_set_self, List.take_set_of_le (by omega)]
      have e3 : xs.drop i = xs.getD i z :: xs.drop (i + 1) := by
        rw [List.drop_eq_getElem_cons hlt, List.getD_eq_getElem?_getD, List.getElem?_eq_getElem hlt]; rfl
      rw [e2] at h2
      rw [e3, List.map_cons]
      simpa using h2
  intro ys hy
  have := h xs.length 0 ys (by omega) hy
  simpa using this
/-- One round of a loop, which leans on what a call answers. -/
theorem Ev.step1 {α β : Type} {g f : Nat → Option α} {u : Nat → Option β} {b : β} {r : α} (e : Ev u b) (k : Ev f r) (h : ∀ k, u k = some b → g (k + 1) = f k) : Ev g r := by
  obtain ⟨K, e⟩ := e
  obtain ⟨K', k⟩ := k
  refine ⟨max K K' + 1, fun n hn => ?_⟩
  obtain ⟨m, rfl⟩ : ∃ m, n = m + 1 := ⟨n - 1, by omega⟩
  rw [h m (e m (by omega))]
  exact k m (by omega)
theorem Ev.step2 {α β γ : Type} {g f : Nat → Option α} {u : Nat → Option β} {v : Nat → Option γ} {b : β} {c : γ} {r : α} (e : Ev u b) (e' : Ev v c) (k : Ev f r) (h : ∀ k, u k = some b → v k = some c → g (k + 1) = f k) : Ev g r := by
  obtain ⟨K, e⟩ := e
  obtain ⟨K2, e'⟩ := e'
  obtain ⟨K', k⟩ := k
  refine ⟨max (max K K2) K' + 1, fun n hn => ?_⟩
  obtain ⟨m, rfl⟩ : ∃ m, n = m + 1 := ⟨n - 1, by omega⟩
  rw [h m (e m (by omega)) (e' m (by omega))]
  exact k m (by omega)

theorem in_eq (n lo hi : Int) : spec_l00In.f n lo hi = some (decide (lo ≤ n ∧ n ≤ hi)) := by
  unfold spec_l00In.f
  by_cases h : n ≥ lo
  · rw [if_pos h]; simp [show lo ≤ n from h]
  · rw [if_neg h]; simp; omega

theorem within_eq (n lo hi : Int) : impl_within.f n lo hi = some (decide (lo ≤ n ∧ n ≤ hi)) := by
  unfold impl_within.f
  by_cases h : n ≥ lo
  · rw [if_pos h]; simp [show lo ≤ n from h]
  · rw [if_neg h]; simp; omega

theorem eqS_tail (xs : List Int) (hl : xs.length ≤ 9223372036854775807) (d : Nat) : ∀ (i : Int), 0 ≤ i → (xs.length : Int) - i = d → Ev (fun k => laws_eqInt64S.l0 k xs xs i) true := by
  induction d with
  | zero =>
    intro i h0 hd
    refine Ev.step (f := fun _ => some true) (fun k => ?_) (Ev.now _)
    simp only [laws_eqInt64S.l0]; rw [if_neg (by omega)]
  | succ d ih =>
    intro i h0 hd
    refine Ev.step (f := fun k => laws_eqInt64S.l0 k xs xs (i + 1)) (fun k => ?_) (ih (i + 1) (by omega) (by omega))
    simp only [laws_eqInt64S.l0]; rw [if_pos (by omega), if_pos h0, if_pos (by omega), if_pos trivial, w64 (by omega) (by omega)]
theorem eqS_same (xs : List Int) (hl : xs.length ≤ 9223372036854775807) : Ev (fun k => laws_eqInt64S.f k xs xs) true := by
  unfold laws_eqInt64S.f
  simp only [if_true]
  exact eqS_tail xs hl xs.length 0 (by omega) (by omega)

theorem rd_nat (xs : List Int) (i : Nat) : rd xs (i : Int) = xs.getD i 0 := by show xs.getD (i : Int).toNat 0 = _; rw [Int.toNat_natCast]
theorem toS_eq (l : List Int) (hl : l.length ≤ 1048576) : Ev (fun k => laws_toInt64S.f k l) l := by
  unfold laws_toInt64S.f
  simp only [if_pos (show (0 : Int) ≤ (l.length : Int) by omega), if_pos (show ((l.length : Int) : Int).toNat ≤ 35184372088832 by omega)]
  have h := ev_fill l 0 id (fun k ys i => laws_toInt64S.l0 k l ys i) ?_ ?_ (List.replicate ((l.length : Int)).toNat 0) (by simp)
  · simpa using h
  · intro ys hy
    exact Ev.some_eq fun k => by simp only [laws_toInt64S.l0]; rw [if_neg (by omega)]
  · intro ys r i hi hy h
    refine Ev.step (fun k => ?_) h
    simp only [laws_toInt64S.l0, rd_nat]; (repeat (first | rw [if_pos (by omega)] | rw [if_neg (by omega)] | rw [if_pos (rfl : true = true)] | rw [if_neg Bool.false_ne_true] | rw [if_pos trivial])); rw [wsucc (by omega)]; rfl

theorem drop_cons {α : Type} (xs : List α) (z : α) {i : Nat} (h : i < xs.length) : xs.drop i = xs.getD i z :: xs.drop (i + 1) := by
  rw [List.drop_eq_getElem_cons h, List.getD_eq_getElem?_getD, List.getElem?_eq_getElem h]; rfl
def okA (x : Int) : Prop := 0 ≤ x ∧ x ≤ 1000000000000
instance (x : Int) : Decidable (okA x) := by unfold okA; infer_instance
theorem own_eq (us : List Int) (hu : us.length ≤ 1048576) : spec_l00Own.f us = some us := by
  unfold spec_l00Own.f
  simp only [Option.bind_some, List.length_nil, List.nil_append]
  rw [if_pos (by omega)]
theorem s0_loop (xs us : List Int) (hl : xs.length ≤ 1048576) (R : Int × Int) : ∀ (d i : Nat) (s : Int), i + d = xs.length → 0 ≤ s → s ≤ (i : Int) * 1000000000000 →
    ((∀ x ∈ xs.drop i, okA x) → Ev (fun k => (spec_l00Own.f us).bind fun t => spec_AreaBound.l1 k xs us (s + (xs.drop i).sum) t 0) R) → ((¬ ∀ x ∈ xs.drop i, okA x) → R = (0, 2)) →
    Ev (fun k => spec_AreaBound.l0 k xs us s (i : Int)) R := by
  intro d
  induction d with
  | zero =>
    intro i s hi h0 h1 h h'
    have hd : xs.drop i = [] := List.drop_eq_nil_of_le (by omega)
    have := h (by rw [hd]; simp)
    rw [hd] at this
    simp only [List.sum_nil, Int.add_zero] at this
    refine Ev.step (fun k => by simp only [spec_AreaBound.l0]; rw [if_neg (by omega)]) this
  | succ d ih =>
    intro i s hi h0 h1 h h'
    have hd := drop_cons xs (0 : Int) (i := i) (by omega)
    rw [hd] at h h'
    simp only [List.mem_cons, forall_eq_or_imp, List.sum_cons] at h h'
    refine Ev.step (fun k => by simp only [spec_AreaBound.l0]; rw [if_pos (by omega), if_pos (by omega), rd_nat, in_eq, Option.bind_some]) ?_
    by_cases hx : okA (xs.getD i 0)
    · have e : decide (0 ≤ xs.getD i 0 ∧ xs.getD i 0 ≤ 1000000000000) = true := decide_eq_true hx
      simp only [e, if_true]
      have hx2 := hx
      unfold okA at hx2
      rw [wsucc (by omega), w64 (by omega) (by omega)]
      refine ih (i + 1) _ (by omega) (by omega) (by omega) (fun ha => ?_) (fun ha => h' (fun hb => ha hb.2))
      rw [Int.add_assoc]
      exact h ⟨hx, ha⟩
    · have e : decide (0 ≤ xs.getD i 0 ∧ xs.getD i 0 ≤ 1000000000000) = false := decide_eq_false hx
      simp only [e]
      rw [h' (fun hb => hx hb.1)]
      exact Ev.now _
theorem s1_loop (xs us ys : List Int) (s : Int) (hl : ys.length ≤ 1048576) (R : Int × Int) : ∀ (d i : Nat), i + d = ys.length →
    ((∀ x ∈ ys.drop i, okA x) → Ev (fun k => if (xs.length : Int) > 64 then (spec_AreaBound.j2 k s ys true) else (spec_AreaBound.j2 k s ys (decide ((us.length : Int) > 64)))) R) → ((¬ ∀ x ∈ ys.drop i, okA x) → R = (0, 2)) →
    Ev (fun k => spec_AreaBound.l1 k xs us s ys (i : Int)) R := by
  intro d
  induction d with
  | zero =>
    intro i hi h h'
    have hd : ys.drop i = [] := List.drop_eq_nil_of_le (by omega)
    exact Ev.step (fun k => by simp only [spec_AreaBound.l1]; rw [if_neg (show ¬ (i : Int) < (ys.length : Int) by omega)]) (h (by rw [hd]; simp))
  | succ d ih =>
    intro i hi h h'
    have hd := drop_cons ys (0 : Int) (i := i) (by omega)
    rw [hd] at h h'
    simp only [List.mem_cons, forall_eq_or_imp] at h h'
    refine Ev.step (fun k => by simp only [spec_AreaBound.l1]; rw [if_pos (by omega), if_pos (by omega), rd_nat, in_eq, Option.bind_some]) ?_
    by_cases hx : okA (ys.getD i 0)
    · have e : decide (0 ≤ ys.getD i 0 ∧ ys.getD i 0 ≤ 1000000000000) = true := decide_eq_true hx
      simp only [e, if_true]
      rw [wsucc (by omega)]
      exact ih (i + 1) (by omega) (fun ha => h ⟨hx, ha⟩) (fun ha => h' (fun hb => ha hb.2))
    · have e : decide (0 ≤ ys.getD i 0 ∧ ys.getD i 0 ≤ 1000000000000) = false := decide_eq_false hx
      simp only [e]
      rw [h' (fun hb => hx hb.1)]
      exact Ev.now _
/-- A row of the program's check. -/
theorem p1_loop (x0 x1 : List Int) (x6 : Int) (x18 : List (List Int)) (x19 x20 : Int) (ys : List Int) (hl : ys.length ≤ 1048576) (R : Int × Int) : ∀ (d i : Nat), i + d = ys.length →
    ((∀ x ∈ ys.drop i, okA x) → Ev (fun k => impl_AreaBound.l0 k x0 x1 x6 x18 x19 (wrap64 (x20 + 1))) R) → ((¬ ∀ x ∈ ys.drop i, okA x) → R = (0, 2)) →
    Ev (fun k => impl_AreaBound.l1 k x0 x1 x6 x18 x19 x20 ys (ys.length : Int) (i : Int)) R := by
  intro d
  induction d with
  | zero =>
    intro i hi h h'
    have hd : ys.drop i = [] := List.drop_eq_nil_of_le (by omega)
    exact Ev.step (fun k => by simp only [impl_AreaBound.l1]; rw [if_neg (show ¬ (i : Int) < (ys.length : Int) by omega)]) (h (by rw [hd]; simp))
  | succ d ih =>
    intro i hi h h'
    have hd := drop_cons ys (0 : Int) (i := i) (by omega)
    rw [hd] at h h'
    simp only [List.mem_cons, forall_eq_or_imp] at h h'
    refine Ev.step (fun k => by simp only [impl_AreaBound.l1]; rw [if_pos (by omega), if_pos (by omega), if_pos (by omega), rd_nat, within_eq, Option.bind_some]) ?_
    by_cases hx : okA (ys.getD i 0)
    · have e : decide (0 ≤ ys.getD i 0 ∧ ys.getD i 0 ≤ 1000000000000) = true := decide_eq_true hx
      simp only [e, if_true]
      rw [wsucc (by omega)]
      exact ih (i + 1) (by omega) (fun ha => h ⟨hx, ha⟩) (fun ha => h' (fun hb => ha hb.2))
    · have e : decide (0 ≤ ys.getD i 0 ∧ ys.getD i 0 ≤ 1000000000000) = false := decide_eq_false hx
      simp only [e]
      rw [h' (fun hb => hx hb.1)]
      exact Ev.now _
theorem p2_loop (x1 ys : List Int) (hl : ys.length ≤ 64) (hok : ∀ x ∈ ys, okA x) (R : Int × Int) : ∀ (d i : Nat) (s : Int), i + d = ys.length → 0 ≤ s → s ≤ (i : Int) * 1000000000000 →
    Ev (fun k => (slices_Clone_int64_int64.f x1).bind fun t146 => ((slices_Sort_int64_int64.f t146).bind fun t150 => ((slices_Reverse_int64_int64.f t150).bind fun t151 => (impl_AreaBound.l3 k (wrap64 (Int.tdiv (wrap64 (s + (ys.drop i).sum + 1)) 2)) t151 0)))) R →
    Ev (fun k => impl_AreaBound.l2 k x1 s ys (ys.length : Int) (i : Int)) R := by
  intro d
  induction d with
  | zero =>
    intro i s hi h0 h1 h
    have hd : ys.drop i = [] := List.drop_eq_nil_of_le (by omega)
    rw [hd] at h
    simp only [List.sum_nil, Int.add_zero] at h
    exact Ev.step (fun k => by simp only [impl_AreaBound.l2]; rw [if_neg (show ¬ (i : Int) < (ys.length : Int) by omega)]) h
  | succ d ih =>
    intro i s hi h0 h1 h
    have hd := drop_cons ys (0 : Int) (i := i) (by omega)
    rw [hd, List.sum_cons, ← Int.add_assoc] at h
    have hx := hok _ (getD_mem (xs := ys) (i := i) 0 (by omega))
    unfold okA at hx
    refine Ev.step (fun k => by simp only [impl_AreaBound.l2]; rw [if_pos (by omega), if_pos (by omega), if_pos (by omega), rd_nat, wsucc (by omega), w64 (by omega) (by omega)]) ?_
    exact ih (i + 1) _ (by omega) (by omega) (by omega) h
/-- The greatest of those that are left. -/
theorem s3_loop (rest : List Int) (hl : rest.length ≤ 64) (need hv cnt : Int) (R : Int × Int)
    (h : ∀ b, b < rest.length → (∀ j, j < rest.length → rest.getD j 0 ≤ rest.getD b 0) → Ev (fun k => spec_AreaBound.l2 k (rest.take b ++ rest.drop (b + 1)) need (wrap64 (hv + rest.getD b 0)) (wrap64 (cnt + 1))) R) :
    ∀ (d i b : Nat), i + d = rest.length → b < i → (∀ j, j < i → rest.getD j 0 ≤ rest.getD b 0) → Ev (fun k => spec_AreaBound.l3 k rest need hv cnt (b : Int) (i : Int)) R := by
  intro d
  induction d with
  | zero =>
    intro i b hi hb hm
    refine Ev.step (fun k => ?_) (h b (by omega) (fun j hj => hm j (by omega)))
    have e1 : rest.take ((b : Int) : Int).toNat = rest.take b := by rw [Int.toNat_natCast]
    simp only [spec_AreaBound.l3]
    rw [if_neg (by omega), if_pos (by omega), if_pos (by omega), if_pos (by omega), e1, own_eq _ (by simp; omega), Option.bind_some, wsucc (by omega), if_pos (by omega), if_pos (by omega), Option.bind_some, Int.toNat_natCast, if_pos (by simp; omega), rd_nat]
  | succ d ih =>
    intro i b hi hb hm
    refine Ev.step (fun k => by simp only [spec_AreaBound.l3]; rw [if_pos (by omega), if_pos (by omega), if_pos (by omega), if_pos (by omega), rd_nat, rd_nat, wsucc (by omega)]) ?_
    refine Ev.cond (fun hc => ih (i + 1) i (by omega) (by omega) (fun j hj => ?_)) (fun hc => ih (i + 1) b (by omega) (by omega) (fun j hj => ?_))
    · rcases Nat.lt_or_ge j i with h1 | h1
      · have := hm j h1; omega
      · obtain rfl : j = i := by omega
        exact Int.le_refl _
    · rcases Nat.lt_or_ge j i with h1 | h1
      · exact hm j h1
      · obtain rfl : j = i := by omega
        omega
theorem greedy (s : List Int) (hs : s.Pairwise (fun a b => b ≤ a)) (hl : s.length ≤ 64) (hok : ∀ x ∈ s, okA x) (need : Int) (hn : 0 ≤ need) (hn2 : need ≤ 1000000000000000) :
    ∀ (d c : Nat) (hv : Int), c + d = s.length → 0 ≤ hv → hv ≤ (c : Int) * 1000000000000 →
    ∃ r code, (∀ rest : List Int, rest.Perm (s.drop c) → Ev (fun k => spec_AreaBound.l2 k rest need hv (c : Int)) (r, code)) ∧ Ev (fun k => impl_AreaBound.l3 k (need - hv) s (c : Int)) (r, code) := by
  intro d
  induction d with
  | zero =>
    intro c hv hc h0 h1
    have hd : s.drop c = [] := List.drop_eq_nil_of_le (by omega)
    by_cases hv2 : hv < need
    · refine ⟨0, 3, fun rest hp => ?_, Ev.some_eq (fun k => ?_)⟩
      · rw [hd] at hp
        obtain rfl := hp.eq_nil
        exact Ev.some_eq (fun k => by simp only [spec_AreaBound.l2]; rw [if_pos hv2, if_pos (by simp)])
      · simp only [impl_AreaBound.l3]; rw [if_neg (by omega), if_pos (by omega)]
    · refine ⟨c, 0, fun rest hp => Ev.some_eq (fun k => ?_), Ev.some_eq (fun k => ?_)⟩
      · simp only [spec_AreaBound.l2]; rw [if_neg hv2]
      · simp only [impl_AreaBound.l3]; rw [if_pos (by omega)]
  | succ d ih =>
    intro c hv hc h0 h1
    by_cases hv2 : hv < need
    · have hd := drop_cons s (0 : Int) (i := c) (by omega)
      have hx := hok _ (getD_mem (xs := s) (i := c) 0 (by omega))
      unfold okA at hx
      have hmax : ∀ x ∈ s.drop (c + 1), x ≤ s.getD c 0 := by
        have h2 : (s.drop c).Pairwise (fun a b => b ≤ a) := hs.sublist (List.drop_sublist _ _)
        rw [hd, List.pairwise_cons] at h2
        exact h2.1
      obtain ⟨r, code, e1, e2⟩ := ih (c + 1) (hv + s.getD c 0) (by omega) (by omega) (by omega)
      refine ⟨r, code, fun rest hp => ?_, ?_⟩
      · have hrl : rest.length = s.length - c := by rw [hp.length_eq, List.length_drop]
        have h3 : s.getD c 0 ∈ rest := hp.mem_iff.2 (by rw [hd]; exact List.mem_cons_self)
        refine Ev.step (fun k => by simp only [spec_AreaBound.l2]; rw [if_pos hv2, if_neg (by omega)]) ?_
        refine s3_loop rest (by omega) need hv (c : Int) (r, code) (fun b hb hm => ?_) (rest.length - 1) 1 0 (by omega) (by omega) (fun j hj => by obtain rfl : j = 0 := (by omega); exact Int.le_refl _)
        have hmem : rest.getD b 0 ∈ s.drop c := hp.mem_iff.1 (getD_mem 0 hb)
        have hge : s.getD c 0 ≤ rest.getD b 0 := by
          obtain ⟨j, hj, hje⟩ := List.mem_iff_getElem.1 h3
          have := hm j hj
          rw [List.getD_eq_getElem?_getD, List.getElem?_eq_getElem hj] at this
          simp only [Option.getD_some] at this
          omega
        have he : rest.getD b 0 = s.getD c 0 := by
          rw [hd, List.mem_cons] at hmem
          rcases hmem with h4 | h4
          · exact h4
          · have := hmax _ h4; omega
        have h5 : rest.Perm (rest.getD b 0 :: (rest.take b ++ rest.drop (b + 1))) := by
          have h6 : rest = rest.take b ++ rest.getD b 0 :: rest.drop (b + 1) := by rw [← drop_cons rest (0 : Int) hb, List.take_append_drop]
          exact (List.Perm.of_eq h6).trans List.perm_middle
        have h7 := h5.symm.trans hp
        rw [hd, he] at h7
        have h8 := e1 _ h7.cons_inv
        rw [he, w64 (by omega) (by omega), wsucc (by omega)]
        exact h8
      · refine Ev.step (fun k => by simp only [impl_AreaBound.l3]; rw [if_neg (by omega), if_neg (by omega), if_pos (by omega), if_pos (by omega), rd_nat, w64 (by omega) (by omega), wsucc (by omega)]) ?_
        rw [show need - hv - s.getD c 0 = need - (hv + s.getD c 0) by omega]
        exact e2
    · refine ⟨c, 0, fun rest hp => Ev.some_eq (fun k => ?_), Ev.some_eq (fun k => ?_)⟩
      · simp only [spec_AreaBound.l2]; rw [if_neg hv2]
      · simp only [impl_AreaBound.l3]; rw [if_pos (by omega)]
theorem sum_ok : ∀ (xs : List Int), (∀ x ∈ xs, okA x) → 0 ≤ xs.sum ∧ xs.sum ≤ (xs.length : Int) * 1000000000000
  | [], _ => by simp
  | x :: xs, h => by
    have h1 := sum_ok xs (fun y hy => h y (List.mem_cons_of_mem _ hy))
    have h2 := h x List.mem_cons_self
    unfold okA at h2
    rw [List.sum_cons, List.length_cons]
    omega
theorem area_both (xs us : List Int) (hx : xs.length ≤ 1048576) (hu : us.length ≤ 1048576) :
    ∃ r code, Ev (fun k => spec_AreaBound.f k xs us) (r, code) ∧ Ev (fun k => impl_AreaBound.f k xs us) (r, code) := by
  -- what both come to behind the checks
  have hR : ∃ r code, ((∀ x ∈ xs, okA x) → (∀ x ∈ us, okA x) → Ev (fun k => if (xs.length : Int) > 64 then (spec_AreaBound.j2 k xs.sum us true) else (spec_AreaBound.j2 k xs.sum us (decide ((us.length : Int) > 64)))) (r, code))
      ∧ ((∀ x ∈ xs, okA x) → (∀ x ∈ us, okA x) → Ev (fun k => if (xs.length : Int) > 64 then (impl_AreaBound.j2 k xs us 0 true) else (impl_AreaBound.j2 k xs us 0 (decide ((us.length : Int) > 64)))) (r, code))
      ∧ ((¬ ((∀ x ∈ xs, okA x) ∧ ∀ x ∈ us, okA x)) → (r, code) = (0, 2)) := by
    by_cases hok : (∀ x ∈ xs, okA x) ∧ ∀ x ∈ us, okA x
    · by_cases h1 : (xs.length : Int) > 64
      · refine ⟨0, 5, fun _ _ => ?_, fun _ _ => ?_, fun h => absurd hok h⟩
        · simp only [if_pos h1]
          exact Ev.some_eq (fun k => by simp only [spec_AreaBound.j2]; rfl)
        · simp only [if_pos h1]
          exact Ev.some_eq (fun k => by simp only [impl_AreaBound.j2]; rfl)
      · by_cases h2 : (us.length : Int) > 64
        · refine ⟨0, 5, fun _ _ => ?_, fun _ _ => ?_, fun h => absurd hok h⟩
          · simp only [if_neg h1, decide_eq_true h2]
            exact Ev.some_eq (fun k => by simp only [spec_AreaBound.j2]; rfl)
          · simp only [if_neg h1, decide_eq_true h2]
            exact Ev.some_eq (fun k => by simp only [impl_AreaBound.j2]; rfl)
        · have hsum := sum_ok xs hok.1
          have hperm : (us.mergeSort (fun x y => decide (x ≤ y))).reverse.Perm us := (List.reverse_perm _).trans (List.mergeSort_perm _ _)
          have hsl : (us.mergeSort (fun x y => decide (x ≤ y))).reverse.length ≤ 64 := by rw [hperm.length_eq]; omega
          have hpw : (us.mergeSort (fun x y => decide (x ≤ y))).reverse.Pairwise (fun a b => b ≤ a) := by
            rw [List.pairwise_reverse]
            have := List.pairwise_mergeSort (le := fun x y : Int => decide (x ≤ y)) (by intro a b c h1 h2; simp at *; omega) (by intro a b; simp; omega) us
            simpa using this
          obtain ⟨r, code, e1, e2⟩ := greedy _ hpw hsl (fun x hx => hok.2 x (hperm.mem_iff.1 hx)) ((xs.sum + 1) / 2) (by omega) (by omega) _ 0 0 (by rw [Nat.zero_add]) (by omega) (by omega)
          have hneed : wrap64 (Int.tdiv (wrap64 (xs.sum + 1)) 2) = (xs.sum + 1) / 2 := by
            rw [w64 (x := xs.sum + 1) (by omega) (by omega), Int.tdiv_eq_ediv_of_nonneg (by omega), w64 (by omega) (by omega)]
          refine ⟨r, code, fun _ _ => ?_, fun _ _ => ?_, fun h => absurd hok h⟩
          · simp only [if_neg h1, decide_eq_false h2]
            refine Ev.step (fun k => by simp only [spec_AreaBound.j2]; rw [if_neg (by simp), hneed]) ?_
            exact e1 us (by rw [List.drop_zero]; exact hperm.symm)
          · simp only [if_neg h1, decide_eq_false h2]
            refine Ev.step (fun k => by simp only [impl_AreaBound.j2]; rw [if_neg (by simp)]) ?_
            refine p2_loop us xs (by omega) hok.1 _ xs.length 0 0 (by omega) (by omega) (by omega) ?_
            simp only [slices_Clone_int64_int64.f, slices_Sort_int64_int64.f, slices_Reverse_int64_int64.f, List.drop_zero, Int.zero_add, hneed]
            have hml : (us.mergeSort (fun x y => decide (x ≤ y))).length = us.length := List.length_mergeSort _
            simp only [show us.length ≤ 17592186044416 by omega, show us.length < 4611686018427387904 by omega, hml, show us.length ≤ 9223372036854775807 by omega, if_true, Option.bind_some]
            simpa using e2
    · exact ⟨0, 2, fun h1 h2 => absurd ⟨h1, h2⟩ hok, fun h1 h2 => absurd ⟨h1, h2⟩ hok, fun _ => rfl⟩
  obtain ⟨r, code, e1, e2, e3⟩ := hR
  refine ⟨r, code, ?_, ?_⟩
  · unfold spec_AreaBound.f
    refine s0_loop xs us hx (r, code) xs.length 0 0 (by omega) (by omega) (by omega) (fun ha => ?_) (fun ha => e3 (fun hb => ha (by simpa using hb.1)))
    simp only [own_eq us hu, Option.bind_some, List.drop_zero, Int.zero_add] at ha ⊢
    exact s1_loop xs us us _ hu (r, code) us.length 0 (by omega) (fun hb => e1 ha (by simpa using hb)) (fun hb => e3 (fun hc => hb (by simpa using hc.2)))
  · unfold impl_AreaBound.f
    simp only [Option.bind_some]
    have w1 : wrap64 (0 + 1) = 1 := by rw [w64 (by omega) (by omega)]; rfl
    have w2 : wrap64 (1 + 1) = 2 := by rw [w64 (by omega) (by omega)]; rfl
    refine Ev.step (f := fun k => impl_AreaBound.l1 k xs us 0 [xs, us] (([xs, us] : List (List Int)).length : Int) 0 xs (xs.length : Int) 0) (fun k => by simp only [impl_AreaBound.l0]; rw [if_pos (by simp), if_pos (by omega), if_pos (by simp)]; rfl) ?_
    refine p1_loop xs us 0 [xs, us] _ 0 xs hx _ xs.length 0 (by omega) (fun ha => ?_) (fun ha => e3 (fun hb => ha (by simpa using hb.1)))
    simp only [List.drop_zero] at ha
    rw [w1]
    refine Ev.step (f := fun k => impl_AreaBound.l1 k xs us 0 [xs, us] (([xs, us] : List (List Int)).length : Int) 1 us (us.length : Int) 0) (fun k => by simp only [impl_AreaBound.l0]; rw [if_pos (by simp), if_pos (by omega), if_pos (by simp)]; rfl) ?_
    refine p1_loop xs us 0 [xs, us] _ 1 us hu _ us.length 0 (by omega) (fun hb => ?_) (fun hb => e3 (fun hc => hb (by simpa using hc.2)))
    simp only [List.drop_zero] at hb
    rw [w2]
    refine Ev.step (fun k => by simp only [impl_AreaBound.l0]; rw [if_neg (by simp)]) ?_
    exact e2 ha hb
theorem FnExactAreaBound : laws_FnExactAreaBound.Pure := by
  intro xs us hx1 hx2 hx3 hu1 hu2 hu3
  suffices h : Ev (fun k => laws_FnExactAreaBound.f k xs us) true from h.rounds
  unfold laws_FnExactAreaBound.f
  refine Ev.cond (fun _ => Ev.now _) (fun hx => Ev.cond (fun _ => Ev.now _) (fun hu => ?_))
  have hx : xs.length ≤ 1048576 := by omega
  have hu : us.length ≤ 1048576 := by omega
  obtain ⟨r, code, e1, e2⟩ := area_both xs us hx hu
  refine Ev.bind (toS_eq xs hx) (Ev.bind (toS_eq us hu) (Ev.bind e1 (Ev.bind (toS_eq xs hx) (Ev.bind (toS_eq us hu) (Ev.bind e2 ?_)))))
  simp only [if_true, bne_self_eq_false]
  refine Ev.step (fun k => by simp only [laws_FnExactAreaBound.j0]; rfl) ?_
  refine Ev.bind (toS_eq xs hx) (Ev.bind (eqS_same xs (by omega)) ?_)
  simp only [if_true]
  refine Ev.bind (toS_eq us hu) (Ev.bind (eqS_same us (by omega)) ?_)
  simp only [if_true]
  exact Ev.now _

end Go.Proofs.Ytilhbndccmhagaa.Pure

/- For every list of points and kerf the printed law FnExactKerfLoss answers true: the program's KerfLoss and the reference's agree, and the argument stays as it was. -/
import Derived.Test.YtpkjalhfioajjaaZFnExactKerfLoss11
namespace Go.Proofs.Ytpkjalhfioajjaa.Pure
open Go.RowKit Go.Proofs.Ytpkjalhfioajjaa.PFnExactKerfLoss Go.Proofs.YtpkjalhfioajjaaW.PrintWords Go.Proofs.YtpkjalhfioajjaaW.PrintLast
set_option linter.unusedVariables false
set_option linter.unusedSimpArgs false
set_option linter.unnecessarySimpa false
theorem w64 {x : Int} (h0 : -9223372036854775808 ≤ x) (h1 : x ≤ 9223372036854775807) : wrap64 x = x := by unfold wrap64; omega
theorem wf64 {x : Int} (h : (Lit.int .i64 x).wf = true) : -9223372036854775808 ≤ x ∧ x ≤ 9223372036854775807 := by
  simp only [Lit.wf, IntKind.has, Bool.and_eq_true, decide_eq_true_eq] at h
  exact h
theorem maxLen_eq : maxLen = 9223372036854775807 := rfl
theorem Ev.cond {α : Type} {c : Prop} [Decidable c] {g f : Nat → Option α} {r : α} (h : c → Ev g r) (h' : ¬ c → Ev f r) : Ev (fun k => if c then g k else f k) r := by
  by_cases hc : c
  · simp only [if_pos hc]; exact h hc
  · simp only [if_neg hc]; exact h' hc
theorem down {n : Nat} {Q : Nat → Prop} (he : Q n) (hs : ∀ i, i < n → Q (i + 1) → Q i) : Q 0 := by
  have h : ∀ d i, i + d = n → Q i := by
    intro d
    induction d with
    | zero => intro i hi; have : i = n := by omega
              subst this; exact he
    | succ d ih => intro i hi; exact hs i (by omega) (ih (i + 1) (by omega))
  exact h n 0 (by omega)
theorem wsucc {i : Nat} (h : i < 9223372036854775807) : wrap64 ((i : Int) + 1) = ((i + 1 : Nat) : Int) := by rw [w64 (by omega) (by omega)]; omega
theorem getD_mem {α : Type} {xs : List α} {i : Nat} (z : α) (h : i < xs.length) : xs.getD i z ∈ xs := by
  rw [List.getD_eq_getElem?_getD, List.getElem?_eq_getElem h]; exact List.getElem_mem h
theorem getD_map {α β : Type} {xs : List α} {i : Nat} (c : α → β) (z : α) (z' : β) (h : i < xs.length) : (xs.map c).getD i z' = c (xs.getD i z) := by
  rw [List.getD_eq_getElem?_getD, List.getD_eq_getElem?_getD, List.getElem?_eq_getElem h, List.getElem?_eq_getElem (by simpa using h)]; simp
theorem Ev.some_eq {α : Type} {g : Nat → Option α} {r : α} (h : ∀ k, g (k + 1) = some r) : Ev g r := Ev.step (f := fun _ => some r) h (Ev.now r)
theorem ev_fill {α β : Type} (xs : List α) (z : α) (c : α → β) (L : Nat → List β → Int → Option (List β))
    (he : ∀ ys : List β, ys.length = xs.length → Ev (fun k => L k ys (xs.length : Int)) ys)
    (hs : ∀ (ys r : List β) (i : Nat), i < xs.length → ys.length = xs.length → Ev (fun k => L k (ys.set i (c (xs.getD i z))) ((i + 1 : Nat) : Int)) r → Ev (fun k => L k ys (i : Int)) r) :
    ∀ ys : List β, ys.length = xs.length → Ev (fun k => L k ys 0) (xs.map c) := by
  have h : ∀ d (i : Nat) (ys : List β), i + d = xs.length → ys.length = xs.length → Ev (fun k => L k ys (i : Int)) (ys.take i ++ (xs.drop i).map c) := by
    intro d
    induction d with
    | zero =>
      intro i ys hi hy
      have e : i = xs.length := by omega
      subst e
      rw [List.drop_of_length_le (Nat.le_refl _), List.map_nil, List.append_nil, List.take_of_length_le (by omega)]
      exact he ys hy
    | succ d ih =>
      intro i ys hi hy
      have hlt : i < xs.length := by omega
      refine hs ys _ i hlt hy ?_
      have h2 := ih (i + 1) (ys.set i (c (xs.getD i z))) (by omega) (by rw [List.length_set]; exact hy)
      have e2 : (ys.set i (c (xs.getD i z))).take (i + 1) = ys.take i ++ [c (xs.getD i z)] := by
        rw [List.take_succ_eq_append_getElem (by rw [List.length_set]; omega), List.getElem_set_self, List.take_set_of_le (by omega)]
      have e3 : xs.drop i = xs.getD i z :: xs.drop (i + 1) := by
        rw [List.drop_eq_getElem_cons hlt, List.getD_eq_getElem?_getD, List.getElem?_eq_getElem hlt]; rfl
      rw [e2] at h2
      rw [e3, List.map_cons]
      simpa using h2
  intro ys hy
  have := h xs.length 0 ys (by omega) hy
  simpa using this
theorem Ev.step1 {α β : Type} {g f : Nat → Option α} {u : Nat → Option β} {b : β} {r : α} (e : Ev u b) (k : Ev f r) (h : ∀ k, u k = some b → g (k + 1) = f k) : Ev g r := by
  obtain ⟨K, e⟩ := e
  obtain ⟨K', k⟩ := k
  refine ⟨max K K' + 1, fun n hn => ?_⟩
  obtain ⟨m, rfl⟩ : ∃ m, n = m + 1 := ⟨n - 1, by omega⟩
  rw [h m (e m (by omega))]
  exact k m (by omega)
theorem Ev.step2 {α β γ : Type} {g f : Nat → Option α} {u : Nat → Option β} {v : Nat → Option γ} {b : β} {c : γ} {r : α} (e : Ev u b) (e' : Ev v c) (k : Ev f r) (h : ∀ k, u k = some b → v k = some c → g (k + 1) = f k) : Ev g r := by
  obtain ⟨K, e⟩ := e
  obtain ⟨K2, e'⟩ := e'
  obtain ⟨K', k⟩ := k
  refine ⟨max (max K K2) K' + 1, fun n hn => ?_⟩
  obtain ⟨m, rfl⟩ : ∃ m, n = m + 1 := ⟨n - 1, by omega⟩
  rw [h m (e m (by omega)) (e' m (by omega))]
  exact k m (by omega)
theorem in_eq (n lo hi : Int) : spec_l00In.f n lo hi = some (decide (lo ≤ n ∧ n ≤ hi)) := by
  unfold spec_l00In.f
  by_cases h : n ≥ lo
  · rw [if_pos h]; simp [show lo ≤ n from h]
  · rw [if_neg h]; simp; omega
theorem within_eq (n lo hi : Int) : impl_within.f n lo hi = some (decide (lo ≤ n ∧ n ≤ hi)) := by
  unfold impl_within.f
  by_cases h : n ≥ lo
  · rw [if_pos h]; simp [show lo ≤ n from h]
  · rw [if_neg h]; simp; omega
theorem round_eq (a b : Int) (ha : 0 ≤ a) (hb : 0 < b) : (2 * a + b) / (2 * b) = if a % b ≥ b - a % b then a / b + 1 else a / b := by
  have h1 : b * (a / b) + a % b = a := Int.mul_ediv_add_emod a b
  have h2 : 0 ≤ a % b := Int.emod_nonneg a (by omega)
  have h3 : a % b < b := Int.emod_lt_of_pos a hb
  have h4 : 2 * b * (a / b) = 2 * (b * (a / b)) := Int.mul_assoc 2 b (a / b)
  by_cases h : a % b ≥ b - a % b
  · rw [if_pos h]
    refine ((Int.ediv_emod_unique (r := 2 * (a % b) - b) (by omega)).2 ⟨?_, by omega, by omega⟩).1
    rw [Int.mul_add, h4]; omega
  · rw [if_neg h]
    refine ((Int.ediv_emod_unique (r := 2 * (a % b) + b) (by omega)).2 ⟨?_, by omega, by omega⟩).1
    rw [h4]; omega
theorem mx_self_neg (a : Int) (ha : 0 ≤ a) (ha2 : a ≤ 9223372036854775807) : mx a (wrap64 (-a)) = a := by
  rw [w64 (by omega) (by omega)]; unfold mx; split <;> omega
theorem nearest_eq (a b : Int) (ha : 0 ≤ a) (ha2 : a ≤ 2305843009213693951) (hb : 0 < b) (hb2 : b ≤ 2305843009213693951) : impl_nearest.f a b = some ((2 * a + b) / (2 * b)) := by
  have h1 : b * (a / b) + a % b = a := Int.mul_ediv_add_emod a b
  have h2 : 0 ≤ a % b := Int.emod_nonneg a (by omega)
  have h3 : a % b < b := Int.emod_lt_of_pos a hb
  have h5 : 0 ≤ a / b := Int.ediv_nonneg ha (by omega)
  have h6 : a / b ≤ a := Int.ediv_le_self b ha
  unfold impl_nearest.f
  rw [mx_self_neg a ha (by omega), mx_self_neg b (by omega) (by omega), if_neg (by omega), if_neg (by omega), Int.tmod_eq_emod_of_nonneg ha, Int.tdiv_eq_ediv_of_nonneg ha,
    w64 (x := b - a % b) (by omega) (by omega), w64 (x := a / b) (by omega) (by omega), w64 (x := a / b + 1) (by omega) (by omega), round_eq a b ha hb]
  rw [show decide (a < 0) = false from decide_eq_false (by omega), show decide (b < 0) = false from decide_eq_false (by omega)]
  simp only [bne_self_eq_false, Bool.false_eq_true, if_false]
  split <;> rfl
theorem div_eq (a b : Int) (ha : 0 ≤ a) (ha2 : a ≤ 2305843009213693951) (hb : 0 < b) (hb2 : b ≤ 2305843009213693951) : spec_l01Div.f a b = some ((2 * a + b) / (2 * b)) := by
  unfold spec_l01Div.f
  have h5 : 0 ≤ (2 * a + b) / (2 * b) := Int.ediv_nonneg (by omega) (by omega)
  have h6 : (2 * a + b) / (2 * b) ≤ 2 * a + b := Int.ediv_le_self (2 * b) (by omega)
  rw [if_neg (by omega), if_neg (by omega), w64 (x := 2 * b) (by omega) (by omega), if_neg (by omega), w64 (x := 2 * a) (by omega) (by omega), w64 (x := 2 * a + b) (by omega) (by omega), Int.tdiv_eq_ediv_of_nonneg (by omega), w64 (by omega) (by omega)]
theorem side_ex (a b c d e f : Int) : ∃ s, spec_l02Side.f a b c d e f = some s ∧ impl_side.f a b c d e f = some s := by
  unfold spec_l02Side.f spec_l02Cross.f impl_side.f
  simp only [Option.bind_some]
  split
  · exact ⟨_, rfl, rfl⟩
  · split <;> exact ⟨_, rfl, rfl⟩
theorem min_some (a b : Int) : spec_l00Min.f a b = some (mn a b) := by
  unfold spec_l00Min.f mn
  split <;> split <;> first | rfl | (simp only [Option.some.injEq]; omega)
theorem max_some (a b : Int) : spec_l00Max.f a b = some (mx a b) := by
  unfold spec_l00Max.f mx
  split <;> split <;> first | rfl | (simp only [Option.some.injEq]; omega)
theorem on_ex (a b c d e f : Int) : ∃ t, spec_l02On.f a b c d e f = some t ∧ impl_on.f a b c d e f = some t := by
  obtain ⟨s, s1, s2⟩ := side_ex a b c d e f
  unfold spec_l02On.f impl_on.f
  simp only [s1, s2, min_some, max_some, in_eq, within_eq, Option.bind_some]
  split
  · split <;> exact ⟨_, rfl, rfl⟩
  · exact ⟨_, rfl, rfl⟩
theorem cross_ex (a b c d e f g h : Int) : ∃ t, spec_l02Crosses.f a b c d e f g h = some t ∧ impl_crossing.f a b c d e f g h = some t := by
  obtain ⟨s, s1, s2⟩ := side_ex a b c d e f
  obtain ⟨t, t1, t2⟩ := side_ex a b c d g h
  obtain ⟨u, u1, u2⟩ := side_ex e f g h a b
  obtain ⟨v, v1, v2⟩ := side_ex e f g h c d
  unfold spec_l02Crosses.f impl_crossing.f
  simp only [s1, s2, t1, t2, u1, u2, v1, v2, Option.bind_some]
  split <;> exact ⟨_, rfl, rfl⟩
theorem meet_ex (a b c d e f g h : Int) : ∃ t, spec_l03Meet.f a b c d e f g h = some t ∧ impl_touching.f a b c d e f g h = some t := by
  obtain ⟨s, s1, s2⟩ := cross_ex a b c d e f g h
  obtain ⟨t, t1, t2⟩ := on_ex a b c d e f
  obtain ⟨u, u1, u2⟩ := on_ex a b c d g h
  obtain ⟨v, v1, v2⟩ := on_ex e f g h a b
  obtain ⟨w, w1, w2⟩ := on_ex e f g h c d
  unfold spec_l03Meet.f impl_touching.f
  simp only [s1, s2, t1, t2, u1, u2, v1, v2, w1, w2, Option.bind_some]
  split
  · exact ⟨_, rfl, rfl⟩
  · split
    · exact ⟨_, rfl, rfl⟩
    · split
      · exact ⟨_, rfl, rfl⟩
      · split <;> exact ⟨_, rfl, rfl⟩
def okPt (p : S124) : Prop := (0 ≤ p.f0 ∧ p.f0 ≤ 20000) ∧ 0 ≤ p.f1 ∧ p.f1 ≤ 20000
instance (p : S124) : Decidable (okPt p) := inferInstanceAs (Decidable ((0 ≤ p.f0 ∧ p.f0 ≤ 20000) ∧ 0 ≤ p.f1 ∧ p.f1 ≤ 20000))
theorem ptS_eq (p : S124) : spec_l02Ok.f p.f0 p.f1 = some (decide (okPt p)) := by
  unfold spec_l02Ok.f okPt
  simp only [in_eq, Option.bind_some]
  by_cases h : 0 ≤ p.f0 ∧ p.f0 ≤ 20000
  · simp [h]
  · simp [h]
theorem ptI_eq (p : S124) : impl_ValidPoint.f p.f0 p.f1 = some (decide (okPt p)) := by
  unfold impl_ValidPoint.f okPt
  simp only [within_eq, Option.bind_some]
  by_cases h : 0 ≤ p.f0 ∧ p.f0 ≤ 20000
  · simp [h]
  · simp [h]
theorem rdP (x : List S124) (i : Nat) : rd_T124 x (i : Int) = x.getD i z124 := by unfold rd_T124; simp
theorem next_ok (x : List S124) (i j : Int) (hx : 0 < x.length) (h0 : 0 ≤ i + j) (h1 : i + j ≤ 1000000) : wrap64 (i + j) = i + j ∧ 0 ≤ Int.tmod (i + j) (x.length : Int) ∧ Int.tmod (i + j) (x.length : Int) < (x.length : Int) :=
  ⟨w64 (by omega) (by omega), Int.tmod_nonneg _ h0, Int.tmod_lt_of_pos _ (by omega)⟩
theorem area_ex (x : List S124) (hx : 0 < x.length) (hl : x.length ≤ 100000) : ∃ v, Ev (fun k => spec_l03Area.f k x) v ∧ Ev (fun k => impl_doubled.f k x) v := by
  unfold spec_l03Area.f impl_doubled.f
  have h := down (n := x.length) (Q := fun i => ∀ s, ∃ v, Ev (fun k => spec_l03Area.l0 k x s (i : Int)) v ∧ Ev (fun k => impl_doubled.l0 k x s x (x.length : Int) (i : Int)) v) ?_ ?_
  · exact h 0
  · intro s
    refine ⟨s, Ev.some_eq fun k => ?_, Ev.some_eq fun k => ?_⟩
    · simp only [spec_l03Area.l0]; rw [if_neg (by omega)]
    · simp only [impl_doubled.l0]; rw [if_neg (by omega)]
  · intro i hi ih s
    obtain ⟨n1, n2, n3⟩ := next_ok x i 1 hx (by omega) (by omega)
    obtain ⟨v, v1, v2⟩ := ih (wrap64 (s + (wrap64 ((wrap64 (((rd_T124 x (i : Int)).f0) * ((rd_T124 x (Int.tmod ((i : Int) + 1) (x.length : Int))).f1))) - (wrap64 (((rd_T124 x (i : Int)).f1) * ((rd_T124 x (Int.tmod ((i : Int) + 1) (x.length : Int))).f0)))))))
    refine ⟨v, Ev.step (fun k => ?_) v1, Ev.step (fun k => ?_) v2⟩
    · simp only [spec_l03Area.l0, n1]; rw [if_pos (by omega), if_neg (by omega), if_pos n2, if_pos n3, if_pos (by omega), show (i : Int) + 1 = ((i + 1 : Nat) : Int) by omega]
    · simp only [impl_doubled.l0, n1]; rw [if_pos (by omega), if_pos (by omega), if_pos (by omega), if_neg (by omega), if_pos n2, if_pos n3, show (i : Int) + 1 = ((i + 1 : Nat) : Int) by omega]
theorem edges_ex (x : List S124) (hx : 0 < x.length) (hl : x.length ≤ 24) : ∃ r, Ev (fun k => spec_l03Ok.l1 k x (x.length : Int) 0) r ∧ Ev (fun k => impl_ValidPolygon.l0 k x (x.length : Int) (x.length : Int) 0) r := by
  refine down (n := x.length) (Q := fun i => ∃ r, Ev (fun k => spec_l03Ok.l1 k x (x.length : Int) (i : Int)) r ∧ Ev (fun k => impl_ValidPolygon.l0 k x (x.length : Int) (x.length : Int) (i : Int)) r) ?_ ?_
  · obtain ⟨v, v1, v2⟩ := area_ex x hx (by omega)
    refine ⟨decide (v > 0), Ev.step (f := fun k => (spec_l03Area.f k x).bind fun t => some (decide (t > 0))) (fun k => ?_) (Ev.bind v1 (Ev.now _)), Ev.step (f := fun k => (impl_doubled.f k x).bind fun t => some (decide (t > 0))) (fun k => ?_) (Ev.bind v2 (Ev.now _))⟩
    · simp only [spec_l03Ok.l1]; rw [if_neg (by omega)]
    · simp only [impl_ValidPolygon.l0]; rw [if_neg (by omega)]
  · intro i hi ⟨r, r1, r2⟩
    obtain ⟨n1, n2, n3⟩ := next_ok x i 1 hx (by omega) (by omega)
    obtain ⟨m1, m2, m3⟩ := next_ok x i 2 hx (by omega) (by omega)
    have inn : ∀ (a0 a1 b0 b1 : Int) (d c : Nat), x.length ≤ c + d → c ≤ 100 → ∃ q, Ev (fun k => spec_l03Ok.l2 k x (x.length : Int) (i : Int) (c : Int) a0 a1 b0 b1) q ∧ Ev (fun k => impl_ValidPolygon.l1 k x (x.length : Int) (i : Int) (c : Int) (x.length : Int) (i : Int) a0 a1 b0 b1) q := by
      intro a0 a1 b0 b1 d
      have fin : ∀ c : Nat, x.length ≤ c → ∃ q, Ev (fun k => spec_l03Ok.l2 k x (x.length : Int) (i : Int) (c : Int) a0 a1 b0 b1) q ∧ Ev (fun k => impl_ValidPolygon.l1 k x (x.length : Int) (i : Int) (c : Int) (x.length : Int) (i : Int) a0 a1 b0 b1) q := by
        intro c hc
        refine ⟨r, Ev.step (fun k => ?_) r1, Ev.step (fun k => ?_) r2⟩
        · simp only [spec_l03Ok.l2]; rw [if_neg (by omega), wsucc (by omega)]
        · simp only [impl_ValidPolygon.l1]; rw [if_neg (by omega), wsucc (by omega)]
      induction d with
      | zero => intro c hc _; exact fin c (by omega)
      | succ d ihd =>
        intro c hc hc2
        by_cases hcn : x.length ≤ c
        · exact fin c hcn
        · obtain ⟨q, q1, q2⟩ := ihd (c + 1) (by omega) (by omega)
          obtain ⟨k1, k2, k3⟩ := next_ok x c 1 hx (by omega) (by omega)
          by_cases he : Int.tmod ((c : Int) + 1) (x.length : Int) = (i : Int)
          · refine ⟨q, Ev.step (fun k => ?_) q1, Ev.step (fun k => ?_) q2⟩
            · simp only [spec_l03Ok.l2, k1]; rw [if_pos (by omega), if_neg (by omega), if_pos he, show (c : Int) + 1 = ((c + 1 : Nat) : Int) by omega]
            · simp only [impl_ValidPolygon.l1, k1]; rw [if_pos (by omega), if_neg (by omega), if_pos he, show (c : Int) + 1 = ((c + 1 : Nat) : Int) by omega]
          · obtain ⟨t, t1, t2⟩ := meet_ex a0 a1 b0 b1 ((rd_T124 x (c : Int)).f0) ((rd_T124 x (c : Int)).f1) ((rd_T124 x (Int.tmod ((c : Int) + 1) (x.length : Int))).f0) ((rd_T124 x (Int.tmod ((c : Int) + 1) (x.length : Int))).f1)
            cases t with
            | true =>
              refine ⟨false, Ev.some_eq fun k => ?_, Ev.some_eq fun k => ?_⟩
              · simp only [spec_l03Ok.l2, k1, t1, Option.bind_some]; rw [if_pos (by omega), if_neg (by omega), if_neg he, if_pos (by omega), if_pos (by omega), if_pos k2, if_pos k3, if_pos trivial]
              · simp only [impl_ValidPolygon.l1, k1, t2, Option.bind_some]; rw [if_pos (by omega), if_neg (by omega), if_neg he, if_pos (by omega), if_pos (by omega), if_pos k2, if_pos k3, if_pos trivial]
            | false =>
              refine ⟨q, Ev.step (fun k => ?_) q1, Ev.step (fun k => ?_) q2⟩
              · simp only [spec_l03Ok.l2, k1, t1, Option.bind_some]; rw [if_pos (by omega), if_neg (by omega), if_neg he, if_pos (by omega), if_pos (by omega), if_pos k2, if_pos k3, if_neg Bool.false_ne_true, show (c : Int) + 1 = ((c + 1 : Nat) : Int) by omega]
              · simp only [impl_ValidPolygon.l1, k1, t2, Option.bind_some]; rw [if_pos (by omega), if_neg (by omega), if_neg he, if_pos (by omega), if_pos (by omega), if_pos k2, if_pos k3, if_neg Bool.false_ne_true, show (c : Int) + 1 = ((c + 1 : Nat) : Int) by omega]
    have jt : ∀ a0 a1 b0 b1 : Int, Ev (fun k => spec_l03Ok.j3 k x (x.length : Int) (i : Int) true a0 a1 b0 b1) false ∧ Ev (fun k => impl_ValidPolygon.j2 k x (x.length : Int) (i : Int) (x.length : Int) (i : Int) true a0 a1 b0 b1) false := fun a0 a1 b0 b1 =>
      ⟨Ev.some_eq fun k => by simp only [spec_l03Ok.j3]; rfl, Ev.some_eq fun k => by simp only [impl_ValidPolygon.j2]; rfl⟩
    have jf : ∀ (t : Bool) (a0 a1 b0 b1 : Int), ∃ q, Ev (fun k => spec_l03Ok.j3 k x (x.length : Int) (i : Int) t a0 a1 b0 b1) q ∧ Ev (fun k => impl_ValidPolygon.j2 k x (x.length : Int) (i : Int) (x.length : Int) (i : Int) t a0 a1 b0 b1) q := by
      intro t a0 a1 b0 b1
      cases t with
      | true => exact ⟨false, jt a0 a1 b0 b1⟩
      | false =>
        obtain ⟨q, q1, q2⟩ := inn a0 a1 b0 b1 x.length (i + 2) (by omega) (by omega)
        refine ⟨q, Ev.step (fun k => ?_) q1, Ev.step (fun k => ?_) q2⟩
        · simp only [spec_l03Ok.j3, m1]; rw [if_neg Bool.false_ne_true, show (i : Int) + 2 = ((i + 2 : Nat) : Int) by omega]
        · simp only [impl_ValidPolygon.j2, m1]; rw [if_neg Bool.false_ne_true, show (i : Int) + 2 = ((i + 2 : Nat) : Int) by omega]
    obtain ⟨p, hp⟩ : ∃ p, p = rd_T124 x (i : Int) := ⟨_, rfl⟩
    obtain ⟨p', hp'⟩ : ∃ p, p = rd_T124 x (Int.tmod ((i : Int) + 1) (x.length : Int)) := ⟨_, rfl⟩
    obtain ⟨p2, hp2⟩ : ∃ p, p = rd_T124 x (Int.tmod ((i : Int) + 2) (x.length : Int)) := ⟨_, rfl⟩
    by_cases he : (p.f0 == p'.f0 && (p.f1 == p'.f1)) = true
    · obtain ⟨q1, q2⟩ := jt p.f0 p.f1 p'.f0 p'.f1
      refine ⟨false, Ev.step (fun k => ?_) q1, Ev.step (fun k => ?_) q2⟩
      · simp only [spec_l03Ok.l1, n1, m1, ← hp, ← hp', ← hp2]; rw [if_pos (by omega), if_pos (by omega), if_pos (by omega), if_neg (by omega), if_pos n2, if_pos n3, if_pos m2, if_pos m3, if_pos he]
      · simp only [impl_ValidPolygon.l0, n1, m1, ← hp, ← hp', ← hp2]; rw [if_pos (by omega), if_pos (by omega), if_pos (by omega), if_neg (by omega), if_pos n2, if_pos n3, if_pos m2, if_pos m3, if_pos he]
    · obtain ⟨t, t1, t2⟩ := on_ex p.f0 p.f1 p'.f0 p'.f1 p2.f0 p2.f1
      obtain ⟨u, u1, u2⟩ := on_ex p'.f0 p'.f1 p2.f0 p2.f1 p.f0 p.f1
      cases t with
      | true =>
        obtain ⟨q1, q2⟩ := jt p.f0 p.f1 p'.f0 p'.f1
        refine ⟨false, Ev.step (fun k => ?_) q1, Ev.step (fun k => ?_) q2⟩
        · simp only [spec_l03Ok.l1, n1, m1, ← hp, ← hp', ← hp2, t1, u1, Option.bind_some]; rw [if_pos (by omega), if_pos (by omega), if_pos (by omega), if_neg (by omega), if_pos n2, if_pos n3, if_pos m2, if_pos m3, if_neg he, if_pos trivial]
        · simp only [impl_ValidPolygon.l0, n1, m1, ← hp, ← hp', ← hp2, t2, u2, Option.bind_some]; rw [if_pos (by omega), if_pos (by omega), if_pos (by omega), if_neg (by omega), if_pos n2, if_pos n3, if_pos m2, if_pos m3, if_neg he, if_pos trivial]
      | false =>
        obtain ⟨q, q1, q2⟩ := jf u p.f0 p.f1 p'.f0 p'.f1
        refine ⟨q, Ev.step (fun k => ?_) q1, Ev.step (fun k => ?_) q2⟩
        · simp only [spec_l03Ok.l1, n1, m1, ← hp, ← hp', ← hp2, t1, u1, Option.bind_some]; rw [if_pos (by omega), if_pos (by omega), if_pos (by omega), if_neg (by omega), if_pos n2, if_pos n3, if_pos m2, if_pos m3, if_neg he, if_neg Bool.false_ne_true]
        · simp only [impl_ValidPolygon.l0, n1, m1, ← hp, ← hp', ← hp2, t2, u2, Option.bind_some]; rw [if_pos (by omega), if_pos (by omega), if_pos (by omega), if_neg (by omega), if_pos n2, if_pos n3, if_pos m2, if_pos m3, if_neg he, if_neg Bool.false_ne_true]
theorem points_ev (x : List S124) (hl : x.length ≤ 1000000) : Ev (fun k => impl_validPoints.f k x) (decide (∀ j, j < x.length → okPt (x.getD j z124))) := by
  unfold impl_validPoints.f
  by_cases h : ∀ j, j < x.length → okPt (x.getD j z124)
  · rw [decide_eq_true h]
    refine down (n := x.length) (Q := fun i => Ev (fun k => impl_validPoints.l0 k x (x.length : Int) (i : Int)) true) ?_ ?_
    · refine Ev.some_eq fun k => ?_
      simp only [impl_validPoints.l0]; rw [if_neg (by omega)]
    · intro i hi ih
      refine Ev.step (fun k => ?_) ih
      simp only [impl_validPoints.l0, ptI_eq, rdP, decide_eq_true (h i hi), Option.bind_some]; rw [if_pos (by omega), if_pos (by omega), if_pos (by omega), if_pos trivial, wsucc (by omega)]
  · rw [decide_eq_false h]
    obtain ⟨j, hj, hb⟩ : ∃ j, j < x.length ∧ ¬ okPt (x.getD j z124) := Classical.byContradiction fun hn => h fun j hj => Classical.byContradiction fun hb => hn ⟨j, hj, hb⟩
    refine down (n := j) (Q := fun i => Ev (fun k => impl_validPoints.l0 k x (x.length : Int) (i : Int)) false) ?_ ?_
    · refine Ev.some_eq fun k => ?_
      simp only [impl_validPoints.l0, ptI_eq, rdP, decide_eq_false hb, Option.bind_some]; rw [if_pos (by omega), if_pos (by omega), if_pos (by omega), if_neg Bool.false_ne_true]
    · intro i hi ih
      by_cases hg : okPt (x.getD i z124)
      · refine Ev.step (fun k => ?_) ih
        simp only [impl_validPoints.l0, ptI_eq, rdP, decide_eq_true hg, Option.bind_some]; rw [if_pos (by omega), if_pos (by omega), if_pos (by omega), if_pos trivial, wsucc (by omega)]
      · refine Ev.some_eq fun k => ?_
        simp only [impl_validPoints.l0, ptI_eq, rdP, decide_eq_false hg, Option.bind_some]; rw [if_pos (by omega), if_pos (by omega), if_pos (by omega), if_neg Bool.false_ne_true]
theorem poly_same (x : List S124) (hl : x.length ≤ 1048576) : ∃ r, Ev (fun k => spec_l03Ok.f k x) r ∧ Ev (fun k => impl_ValidPolygon.f k x) r ∧ (r = true → (3 ≤ x.length ∧ x.length ≤ 24) ∧ ∀ j, j < x.length → okPt (x.getD j z124)) := by
  have s0 : Ev (fun k => spec_l03Ok.j0 k x (x.length : Int) true) false := Ev.some_eq fun k => by simp only [spec_l03Ok.j0]; rfl
  have i0 : Ev (fun k => impl_ValidPolygon.j0 k x (x.length : Int) true) false := Ev.some_eq fun k => by simp only [impl_ValidPolygon.j0]; rfl
  unfold spec_l03Ok.f impl_ValidPolygon.f
  by_cases h3 : (x.length : Int) < 3
  · simp only [if_pos h3]; exact ⟨false, s0, i0, by simp⟩
  · simp only [if_neg h3]
    by_cases h24 : (x.length : Int) > 24
    · simp only [if_pos h24, decide_eq_true h24]; exact ⟨false, s0, i0, by simp⟩
    · simp only [if_neg h24, decide_eq_false h24]
      have hp := points_ev x (by omega)
      by_cases h : ∀ j, j < x.length → okPt (x.getD j z124)
      · rw [decide_eq_true h] at hp
        obtain ⟨r, r1, r2⟩ := edges_ex x (by omega) (by omega)
        refine ⟨r, Ev.step (f := fun k => spec_l03Ok.l0 k x (x.length : Int) 0) (fun k => by simp only [spec_l03Ok.j0]; rfl) ?_, Ev.bind hp ?_, fun _ => ⟨by omega, h⟩⟩
        · refine down (n := x.length) (Q := fun i => Ev (fun k => spec_l03Ok.l0 k x (x.length : Int) (i : Int)) r) ?_ ?_
          · refine Ev.step (fun k => ?_) r1
            simp only [spec_l03Ok.l0]; rw [if_neg (by omega)]
          · intro i hi ih
            refine Ev.step (fun k => ?_) ih
            simp only [spec_l03Ok.l0, ptS_eq, rdP, decide_eq_true (h i hi), Option.bind_some]; rw [if_pos (by omega), if_pos (by omega), if_pos (by omega), if_pos trivial, wsucc (by omega)]
        · exact Ev.step (fun k => by simp only [impl_ValidPolygon.j0]; rfl) r2
      · rw [decide_eq_false h] at hp
        obtain ⟨j, hj, hb⟩ : ∃ j, j < x.length ∧ ¬ okPt (x.getD j z124) := Classical.byContradiction fun hn => h fun j hj => Classical.byContradiction fun hb => hn ⟨j, hj, hb⟩
        refine ⟨false, Ev.step (f := fun k => spec_l03Ok.l0 k x (x.length : Int) 0) (fun k => by simp only [spec_l03Ok.j0]; rfl) ?_, Ev.bind hp i0, by simp⟩
        refine down (n := j) (Q := fun i => Ev (fun k => spec_l03Ok.l0 k x (x.length : Int) (i : Int)) false) ?_ ?_
        · refine Ev.some_eq fun k => ?_
          simp only [spec_l03Ok.l0, ptS_eq, rdP, decide_eq_false hb, Option.bind_some]; rw [if_pos (by omega), if_pos (by omega), if_pos (by omega), if_neg Bool.false_ne_true]
        · intro i hi ih
          by_cases hg : okPt (x.getD i z124)
          · refine Ev.step (fun k => ?_) ih
            simp only [spec_l03Ok.l0, ptS_eq, rdP, decide_eq_true hg, Option.bind_some]; rw [if_pos (by omega), if_pos (by omega), if_pos (by omega), if_pos trivial, wsucc (by omega)]
          · refine Ev.some_eq fun k => ?_
            simp only [spec_l03Ok.l0, ptS_eq, rdP, decide_eq_false hg, Option.bind_some]; rw [if_pos (by omega), if_pos (by omega), if_pos (by omega), if_neg Bool.false_ne_true]
theorem half_eq (a b : Int) (h0 : 0 ≤ a) (h1 : a < b) (h2 : b ≤ 3037000499) : wrap64 (Int.tdiv (wrap64 ((wrap64 (a + b)) + 1)) 2) = (a + b + 1) / 2 := by
  rw [w64 (x := a + b) (by omega) (by omega), w64 (x := a + b + 1) (by omega) (by omega), Int.tdiv_eq_ediv_of_nonneg (by omega), w64 (by omega) (by omega)]
theorem sq_mono {a b : Int} (h0 : 0 ≤ a) (h : a ≤ b) : a * a ≤ b * b := Int.mul_le_mul h h h0 (by omega)
theorem root_uniq {x a b : Int} (ha : 0 ≤ a) (hb : 0 ≤ b) (a1 : a * a ≤ x) (a2 : x < (a + 1) * (a + 1)) (b1 : b * b ≤ x) (b2 : x < (b + 1) * (b + 1)) : a = b := by
  rcases Int.lt_trichotomy a b with h | h | h
  · have := sq_mono (a := a + 1) (b := b) (by omega) (by omega); omega
  · exact h
  · have := sq_mono (a := b + 1) (b := a) (by omega) (by omega); omega
theorem sroot (x : Int) : ∀ (d : Nat) (lo hi : Int), hi - lo ≤ d → 0 ≤ lo → lo ≤ hi → hi ≤ 3037000499 → lo * lo ≤ x → x < (hi + 1) * (hi + 1) → ∃ r, Ev (fun k => spec_l01Root.l0 k x lo hi) r ∧ lo ≤ r ∧ r ≤ hi ∧ r * r ≤ x ∧ x < (r + 1) * (r + 1) := by
  intro d
  induction d with
  | zero =>
    intro lo hi hd h0 h1 h2 h3 h4
    obtain rfl : lo = hi := by omega
    refine ⟨lo, Ev.some_eq fun k => ?_, by omega, by omega, h3, h4⟩
    simp only [spec_l01Root.l0]; rw [if_neg (by omega)]
  | succ d ih =>
    intro lo hi hd h0 h1 h2 h3 h4
    by_cases hlt : lo < hi
    · obtain ⟨m, hm⟩ : ∃ m, m = (lo + hi + 1) / 2 := ⟨_, rfl⟩
      have hm1 : lo < m ∧ m ≤ hi := by omega
      have hsq : m * m ≤ 3037000499 * 3037000499 := sq_mono (by omega) (by omega)
      have hsq0 : 0 ≤ m * m := Int.mul_nonneg (by omega) (by omega)
      have hw : wrap64 (m * m) = m * m := w64 (by omega) (by omega)
      by_cases hc : m * m ≤ x
      · obtain ⟨r, r1, r2, r3, r4⟩ := ih m hi (by omega) (by omega) hm1.2 h2 hc h4
        refine ⟨r, Ev.step (fun k => ?_) r1, by omega, r3, r4⟩
        simp only [spec_l01Root.l0, half_eq lo hi h0 hlt h2, ← hm, hw]; rw [if_pos hlt, if_pos hc]
      · have he : m - 1 + 1 = m := by omega
        obtain ⟨r, r1, r2, r3, r4⟩ := ih lo (m - 1) (by omega) h0 (by omega) (by omega) h3 (by rw [he]; omega)
        refine ⟨r, Ev.step (fun k => ?_) r1, r2, by omega, r4⟩
        simp only [spec_l01Root.l0, half_eq lo hi h0 hlt h2, ← hm, hw]; rw [if_pos hlt, if_neg hc, w64 (x := m - 1) (by omega) (by omega)]
    · obtain rfl : lo = hi := by omega
      refine ⟨lo, Ev.some_eq fun k => ?_, by omega, by omega, h3, h4⟩
      simp only [spec_l01Root.l0]; rw [if_neg (by omega)]
theorem iroot (x : Int) (hx : 1 ≤ x ∧ x ≤ 9223372036854775807) : ∀ (d : Nat) (lo hi : Int), hi - lo ≤ d → 1 ≤ lo → lo ≤ hi → hi ≤ 3037000499 → lo * lo ≤ x → x < (hi + 1) * (hi + 1) → ∃ r, Ev (fun k => impl_RootOf.l0 k x lo hi) r ∧ lo ≤ r ∧ r ≤ hi ∧ r * r ≤ x ∧ x < (r + 1) * (r + 1) := by
  intro d
  induction d with
  | zero =>
    intro lo hi hd h0 h1 h2 h3 h4
    obtain rfl : lo = hi := by omega
    refine ⟨lo, Ev.some_eq fun k => ?_, by omega, by omega, h3, h4⟩
    simp only [impl_RootOf.l0]; rw [if_neg (by omega)]
  | succ d ih =>
    intro lo hi hd h0 h1 h2 h3 h4
    by_cases hlt : lo < hi
    · obtain ⟨m, hm⟩ : ∃ m, m = (lo + hi + 1) / 2 := ⟨_, rfl⟩
      have hm1 : lo < m ∧ m ≤ hi := by omega
      have q0 : 0 ≤ x / m := Int.ediv_nonneg (by omega) (by omega)
      have q1 : x / m ≤ x := Int.ediv_le_self m (by omega)
      have hw : wrap64 (Int.tdiv x m) = x / m := by rw [Int.tdiv_eq_ediv_of_nonneg (by omega), w64 (by omega) (by omega)]
      have hiff : m ≤ x / m ↔ m * m ≤ x := Int.le_ediv_iff_mul_le (by omega)
      by_cases hc : m * m ≤ x
      · obtain ⟨r, r1, r2, r3, r4⟩ := ih m hi (by omega) (by omega) hm1.2 h2 hc h4
        refine ⟨r, Ev.step (fun k => ?_) r1, by omega, r3, r4⟩
        simp only [impl_RootOf.l0, half_eq lo hi (by omega) hlt h2, ← hm, hw]; rw [if_pos hlt, if_neg (by omega), if_pos (hiff.2 hc)]
      · have he : m - 1 + 1 = m := by omega
        obtain ⟨r, r1, r2, r3, r4⟩ := ih lo (m - 1) (by omega) h0 (by omega) (by omega) h3 (by rw [he]; omega)
        refine ⟨r, Ev.step (fun k => ?_) r1, r2, by omega, r4⟩
        simp only [impl_RootOf.l0, half_eq lo hi (by omega) hlt h2, ← hm, hw]; rw [if_pos hlt, if_neg (by omega), if_neg (fun h => hc (hiff.1 h)), w64 (x := m - 1) (by omega) (by omega)]
    · obtain rfl : lo = hi := by omega
      refine ⟨lo, Ev.some_eq fun k => ?_, by omega, by omega, h3, h4⟩
      simp only [impl_RootOf.l0]; rw [if_neg (by omega)]
theorem root_both (x : Int) (h0 : 0 ≤ x) (h1 : x ≤ 1000000000000) : ∃ r, Ev (fun k => spec_l01Root.f k x) r ∧ Ev (fun k => impl_RootOf.f k x) r ∧ 0 ≤ r ∧ r ≤ 1000000 := by
  have big : x < (3037000499 + 1) * (3037000499 + 1) := by omega
  obtain ⟨r, r1, r2, r3, r4, r5⟩ := sroot x 3037000499 0 3037000499 (by omega) (by omega) (by omega) (by omega) (by omega) big
  have hr : r ≤ 1000000 := by
    rcases Int.lt_or_le 1000000 r with h | h
    · have := sq_mono (a := 1000001) (b := r) (by omega) (by omega); omega
    · exact h
  refine ⟨r, r1, ?_, r2, hr⟩
  unfold impl_RootOf.f
  by_cases hx : x < 1
  · simp only [if_pos hx]
    obtain rfl : x = 0 := by omega
    have : r = 0 := root_uniq r2 (Int.le_refl 0) r4 r5 (by omega) (by omega)
    rw [this]; exact Ev.now _
  · simp only [if_neg hx]
    obtain ⟨q, q1, q2, q3, q4, q5⟩ := iroot x (by omega) 3037000499 1 3037000499 (by omega) (by omega) (by omega) (by omega) (by omega) big
    rw [root_uniq r2 (by omega) r4 r5 q4 q5]; exact q1
theorem apart_ex (p q : S124) (hp : okPt p) (hq : okPt q) : ∃ r, Ev (fun k => spec_l02Apart.f k p.f0 p.f1 q.f0 q.f1) r ∧ Ev (fun k => impl_Distance.f k p.f0 p.f1 q.f0 q.f1) r ∧ 0 ≤ r ∧ r ≤ 1000000 := by
  obtain ⟨⟨p0, p1⟩, p2, p3⟩ := hp
  obtain ⟨⟨q0, q1⟩, q2, q3⟩ := hq
  obtain ⟨a, ha⟩ : ∃ a, a = p.f0 - q.f0 := ⟨_, rfl⟩
  obtain ⟨b, hb⟩ : ∃ b, b = p.f1 - q.f1 := ⟨_, rfl⟩
  have sq : ∀ z : Int, -20000 ≤ z → z ≤ 20000 → 0 ≤ z * z ∧ z * z ≤ 400000000 := fun z h0 h1 => by
    rcases Int.le_total 0 z with h | h
    · exact ⟨Int.mul_nonneg h h, (Int.mul_le_mul h1 h1 h (by omega) : z * z ≤ 20000 * 20000)⟩
    · have e : z * z = (-z) * (-z) := by rw [Int.neg_mul_neg]
      rw [e]; exact ⟨Int.mul_nonneg (by omega) (by omega), (Int.mul_le_mul (by omega) (by omega) (by omega) (by omega) : (-z) * (-z) ≤ 20000 * 20000)⟩
  obtain ⟨a0, a1⟩ := sq a (by omega) (by omega)
  obtain ⟨b0, b1⟩ := sq b (by omega) (by omega)
  obtain ⟨r, r1, r2, r3, r4⟩ := root_both (a * a + b * b) (by omega) (by omega)
  have hs : wrap64 ((wrap64 ((wrap64 (p.f0 - q.f0)) * (wrap64 (p.f0 - q.f0)))) + (wrap64 ((wrap64 (p.f1 - q.f1)) * (wrap64 (p.f1 - q.f1))))) = a * a + b * b := by
    rw [← ha, ← hb, w64 (x := a) (by omega) (by omega), w64 (x := b) (by omega) (by omega), w64 (x := a * a) (by omega) (by omega), w64 (x := b * b) (by omega) (by omega), w64 (by omega) (by omega)]
  refine ⟨r, ?_, ?_, r3, r4⟩
  · unfold spec_l02Apart.f spec_l02Square.f
    simp only [hs, Option.bind_some]
    exact Ev.bind r1 (Ev.now _)
  · unfold impl_Distance.f impl_squared.f
    have hv := points_ev [(⟨p.f0, p.f1⟩ : S124), (⟨q.f0, q.f1⟩ : S124)] (by simp)
    rw [decide_eq_true (show ∀ j, j < [(⟨p.f0, p.f1⟩ : S124), (⟨q.f0, q.f1⟩ : S124)].length → okPt ([(⟨p.f0, p.f1⟩ : S124), (⟨q.f0, q.f1⟩ : S124)].getD j z124) from fun j hj => by
      match j, hj with
      | 0, _ => exact ⟨⟨p0, p1⟩, p2, p3⟩
      | 1, _ => exact ⟨⟨q0, q1⟩, q2, q3⟩
      | (j + 2), hj => exact absurd hj (by simp only [List.length_cons, List.length_nil]; omega))] at hv
    refine Ev.bind hv ?_
    simp only [if_true, hs, Option.bind_some]
    exact Ev.bind r2 (Ev.now _)
theorem perimeter_ex (x : List S124) (hx : 3 ≤ x.length ∧ x.length ≤ 24) (hok : ∀ j, j < x.length → okPt (x.getD j z124)) :
    ∃ v, Ev (fun k => spec_l03Length.f k x) v ∧ Ev (fun k => impl_PerimeterOf.l0 k x 0 (x.length : Int) 0) (v, 0) ∧ 0 ≤ v ∧ v ≤ 24000000 := by
  unfold spec_l03Length.f
  have h := down (n := x.length) (Q := fun i => ∀ s : Int, 0 ≤ s → s ≤ 1000000 * i → ∃ v, Ev (fun k => spec_l03Length.l0 k x s (i : Int)) v ∧ Ev (fun k => impl_PerimeterOf.l0 k x s (x.length : Int) (i : Int)) (v, 0) ∧ 0 ≤ v ∧ v ≤ 24000000) ?_ ?_
  · exact h 0 (by omega) (by omega)
  · intro s s0 s1
    refine ⟨s, Ev.some_eq fun k => ?_, Ev.some_eq fun k => ?_, s0, by omega⟩
    · simp only [spec_l03Length.l0]; rw [if_neg (by omega)]
    · simp only [impl_PerimeterOf.l0]; rw [if_neg (by omega)]
  · intro i hi ih s s0 s1
    obtain ⟨n1, n2, n3⟩ := next_ok x i 1 (by omega) (by omega) (by omega)
    obtain ⟨m, hm⟩ : ∃ m : Nat, Int.tmod ((i : Int) + 1) (x.length : Int) = m := ⟨(Int.tmod ((i : Int) + 1) (x.length : Int)).toNat, by omega⟩
    obtain ⟨r, r1, r2, r3, r4⟩ := apart_ex (x.getD i z124) (x.getD m z124) (hok i hi) (hok m (by omega))
    obtain ⟨v, v1, v2, v3⟩ := ih (s + r) (by omega) (by omega)
    refine ⟨v, Ev.step1 r1 v1 (fun k hk => ?_), Ev.step1 r2 v2 (fun k hk => ?_), v3⟩
    · simp only [spec_l03Length.l0, n1, hm, rdP, hk, Option.bind_some]; rw [if_pos (by omega), if_pos (by omega), if_neg (by omega), if_pos (by omega), if_pos (by omega), w64 (x := s + r) (by omega) (by omega), show (i : Int) + 1 = ((i + 1 : Nat) : Int) by omega]
    · simp only [impl_PerimeterOf.l0, n1, hm, rdP, hk, Option.bind_some]; rw [if_pos (by omega), if_pos (by omega), if_pos (by omega), if_neg (by omega), if_pos (by omega), if_pos (by omega), w64 (x := s + r) (by omega) (by omega), show (i : Int) + 1 = ((i + 1 : Nat) : Int) by omega]
def cvPt (x : S126) : S124 := ⟨x.f0, x.f1⟩
theorem szPt_le (l : List S126) (hl : l.length ≤ 9223372036854775807) (a : Int) (h0 : 0 ≤ a) (h1 : a ≤ 1048576) : ∃ r, laws_szPointS.f l a = some r ∧ (0 ≤ r → (l.length : Int) ≤ a) ∧ r ≤ 1048576 := by
  unfold laws_szPointS.f
  have hw : wrap64 (a - (l.length : Int)) = a - (l.length : Int) := w64 (by omega) (by omega)
  by_cases h : wrap64 (a - (l.length : Int)) < 0
  · rw [if_pos h]; exact ⟨-1, rfl, by omega, by omega⟩
  · rw [if_neg h]; exact ⟨_, rfl, by omega, by omega⟩
theorem toPt_eq (l : List S126) (hl : l.length ≤ 1048576) : Ev (fun k => laws_toPointS.f k l) (l.map cvPt) := by
  unfold laws_toPointS.f
  simp only [if_pos (show (0 : Int) ≤ (l.length : Int) by omega), if_pos (show ((l.length : Int) : Int).toNat ≤ 17592186044416 by omega)]
  refine ev_fill l z126 cvPt (fun k ys i => laws_toPointS.l0 k l ys i) ?_ ?_ _ (by simp)
  · intro ys hy
    exact Ev.some_eq fun k => by simp only [laws_toPointS.l0]; rw [if_neg (by omega)]
  · intro ys r i hi hy h
    refine Ev.step (fun k => ?_) h
    simp only [laws_toPointS.l0, laws_toPoint.f]
    rw [if_pos (by omega), if_pos (by omega)]
    simp only [Option.bind_some]
    rw [if_pos (by omega), wsucc (by omega)]
    rfl
theorem eqPt_same (l : List S124) (hl : l.length ≤ 1048576) : Ev (fun k => laws_eqPointS.f k l l) true := by
  unfold laws_eqPointS.f
  simp only [if_true]
  refine down (n := l.length) (Q := fun i => Ev (fun k => laws_eqPointS.l0 k l l (i : Int)) true) ?_ ?_
  · exact Ev.some_eq fun k => by simp only [laws_eqPointS.l0]; rw [if_neg (by omega)]
  · intro i hi ih
    refine Ev.step (fun k => ?_) ih
    simp only [laws_eqPointS.l0, laws_eqPoint.f, if_true]
    rw [if_pos (by omega), if_pos (by omega), if_pos (by omega)]
    simp only [Option.bind_some, if_true]
    rw [wsucc (by omega)]
theorem both (x : List S124) (hl : x.length ≤ 1048576) (a : Int) : ∃ r : Int × Int, Ev (fun k => spec_KerfLoss.f k x a) r ∧ Ev (fun k => impl_KerfLoss.f k x a) r := by
  obtain ⟨r, e1, e2, e3⟩ := poly_same x hl
  unfold spec_KerfLoss.f impl_KerfLoss.f impl_PerimeterOf.f
  cases r with
  | false =>
    refine ⟨(0, 1), Ev.bind e1 (Ev.now _), Ev.bind (a := ((0 : Int), (1 : Int))) (Ev.bind e2 (Ev.now _)) ?_⟩
    simp only [if_neg (show ¬ (1 : Int) = 0 by omega)]
    refine Ev.some_eq fun k => ?_
    simp only [impl_KerfLoss.j0]; rfl
  | true =>
    obtain ⟨h1, h2⟩ := e3 rfl
    obtain ⟨v, v1, v2, v3, v4⟩ := perimeter_ex x h1 h2
    by_cases ha : 0 ≤ a ∧ a ≤ 200
    · have m0 : 0 ≤ v * a := Int.mul_nonneg v3 ha.1
      have m1 : v * a ≤ 24000000 * 200 := Int.mul_le_mul v4 ha.2 ha.1 (by omega)
      refine ⟨((2 * (v * a) + 10) / (2 * 10), 0), Ev.bind e1 ?_, Ev.bind (a := (v, (0 : Int))) (Ev.bind e2 ?_) ?_⟩
      · simp only [if_true, in_eq, Option.bind_some, decide_eq_true ha]
        refine Ev.bind v1 ?_
        simp only [w64 (x := v * a) (by omega) (by omega), div_eq (v * a) 10 m0 (by omega) (by omega) (by omega), Option.bind_some]
        exact Ev.now _
      · simp only [if_true]; exact v2
      · simp only [if_true, within_eq, Option.bind_some, decide_eq_true ha, Bool.not_true]
        refine Ev.some_eq fun k => ?_
        simp only [impl_KerfLoss.j0, w64 (x := v * a) (by omega) (by omega), nearest_eq (v * a) 10 m0 (by omega) (by omega) (by omega), Option.bind_some]; rfl
    · refine ⟨(0, 2), Ev.bind e1 ?_, Ev.bind (a := (v, (0 : Int))) (Ev.bind e2 ?_) ?_⟩
      · simp only [if_true, in_eq, Option.bind_some, decide_eq_false ha, Bool.false_eq_true, if_false]; exact Ev.now _
      · simp only [if_true]; exact v2
      · simp only [if_true, within_eq, Option.bind_some, decide_eq_false ha, Bool.not_false]
        refine Ev.some_eq fun k => ?_
        simp only [impl_KerfLoss.j0]; rfl
theorem FnExactKerfLoss : laws_FnExactKerfLoss.Pure := by
  intro l a hB _
  suffices hh : Ev (fun k => laws_FnExactKerfLoss.f k l a) true from hh.rounds
  obtain ⟨n, hn, hn1, _⟩ := szPt_le l hB.1 1048576 (by omega) (by omega)
  unfold laws_FnExactKerfLoss.f
  simp only [hn, Option.bind_some]
  refine Ev.cond (fun _ => Ev.now _) (fun h0 => ?_)
  have hl : l.length ≤ 1048576 := by have := hn1 (by omega); omega
  have hlm : (l.map cvPt).length ≤ 1048576 := by simpa using hl
  have ht := toPt_eq l hl
  obtain ⟨r, e1, e2⟩ := both (l.map cvPt) hlm a
  refine Ev.bind ht (Ev.bind e1 (Ev.bind ht (Ev.bind e2 ?_)))
  simp only [if_true, bne_self_eq_false]
  refine Ev.step (fun k => by simp only [laws_FnExactKerfLoss.j0]; rfl) ?_
  refine Ev.bind ht (Ev.bind (eqPt_same _ hlm) ?_)
  simp only [if_true]; exact Ev.now _
end Go.Proofs.Ytpkjalhfioajjaa.Pure

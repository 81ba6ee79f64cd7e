/- For every two packets the printed law FnExactSamePacket answers true: the program's SamePacket and the reference's agree, and the arguments stay as they were. -/
import Derived.Test.YtmaipnbadfplfaaZFnExactSamePacket5
namespace Go.Proofs.Ytmaipnbadfplfaa.Pure
open Go.RowKit Go.Proofs.Ytmaipnbadfplfaa.PFnExactSamePacket Go.Proofs.YtmaipnbadfplfaaW.PrintWords Go.Proofs.YtmaipnbadfplfaaW.PrintLast
set_option linter.unusedVariables false
set_option linter.unusedSimpArgs false
set_option linter.unnecessarySimpa false
theorem w64 {x : Int} (h0 : -9223372036854775808 ≤ x) (h1 : x ≤ 9223372036854775807) : wrap64 x = x := by unfold wrap64; omega
theorem wf64 {x : Int} (h : (Lit.int .i64 x).wf = true) : -9223372036854775808 ≤ x ∧ x ≤ 9223372036854775807 := by
  simp only [Lit.wf, IntKind.has, Bool.and_eq_true, decide_eq_true_eq] at h
  exact h
theorem maxLen_eq : maxLen = 9223372036854775807 := rfl
theorem Ev.cond {α : Type} {c : Prop} [Decidable c] {g f : Nat → Option α} {r : α} (h : c → Ev g r) (h' : ¬ c → Ev f r) : Ev (fun k => if c then g k else f k) r := by
  by_cases hc : c
  · simp only [if_pos hc]; exact h hc
  · simp only [if_neg hc]; exact h' hc
theorem down {n : Nat} {Q : Nat → Prop} (he : Q n) (hs : ∀ i, i < n → Q (i + 1) → Q i) : Q 0 := by
  have h : ∀ d i, i + d = n → Q i := by
    intro d
    induction d with
    | zero => intro i hi; have : i = n := by omega
              subst this; exact he
    | succ d ih => intro i hi; exact hs i (by omega) (ih (i + 1) (by omega))
  exact h n 0 (by omega)
theorem wsucc {i : Nat} (h : i < 9223372036854775807) : wrap64 ((i : Int) + 1) = ((i + 1 : Nat) : Int) := by rw [w64 (by omega) (by omega)]; omega
theorem getD_mem {α : Type} {xs : List α} {i : Nat} (z : α) (h : i < xs.length) : xs.getD i z ∈ xs := by
  rw [List.getD_eq_getElem?_getD, List.getElem?_eq_getElem h]; exact List.getElem_mem h
theorem getD_map {α β : Type} {xs : List α} {i : Nat} (c : α → β) (z : α) (z' : β) (h : i < xs.length) : (xs.map c).getD i z' = c (xs.getD i z) := by
  rw [List.getD_eq_getElem?_getD, List.getD_eq_getElem?_getD, List.getElem?_eq_getElem h, List.getElem?_eq_getElem (by simpa using h)]; simp
theorem Ev.some_eq {α : Type} {g : Nat → Option α} {r : α} (h : ∀ k, g (k + 1) = some r) : Ev g r := Ev.step (f := fun _ => some r) h (Ev.now r)
theorem ev_fill {α β : Type} (xs : List α) (z : α) (c : α → β) (L : Nat → List β → Int → Option (List β))
    (he : ∀ ys : List β, ys.length = xs.length → Ev (fun k => L k ys (xs.length : Int)) ys)
    (hs : ∀ (ys r : List β) (i : Nat), i < xs.length → ys.length = xs.length → Ev (fun k => L k (ys.set i (c (xs.getD i z))) ((i + 1 : Nat) : Int)) r → Ev (fun k => L k ys (i : Int)) r) :
    ∀ ys : List β, ys.length = xs.length → Ev (fun k => L k ys 0) (xs.map c) := by
  have h : ∀ d (i : Nat) (ys : List β), i + d = xs.length → ys.length = xs.length → Ev (fun k => L k ys (i : Int)) (ys.take i ++ (xs.drop i).map c) := by
    intro d
    induction d with
    | zero =>
      intro i ys hi hy
      have e : i = xs.length := by omega
      subst e
      rw [List.drop_of_length_le (Nat.le_refl _), List.map_nil, List.append_nil, List.take_of_length_le (by omega)]
      exact he ys hy
    | succ d ih =>
      intro i ys hi hy
      have hlt : i < xs.length := by omega
      refine hs ys _ i hlt hy ?_
      have h2 := ih (i + 1) (ys.set i (c (xs.getD i z))) (by omega) (by rw [List.length_set]; exact hy)
      have e2 : (ys.set i (c (xs.getD i z))).take (i + 1) = ys.take i ++ [c (xs.getD i z)] := by
        rw [List.take_succ_eq_append_getElem (by rw [List.length_set]; omega), List.getElem_set_self, List.take_set_of_le (by omega)]
      have e3 : xs.drop i = xs.getD i z :: xs.drop (i + 1) := by
        rw [List.drop_eq_getElem_cons hlt, List.getD_eq_getElem?_getD, List.getElem?_eq_getElem hlt]; rfl
      rw [e2] at h2
      rw [e3, List.map_cons]
      simpa using h2
  intro ys hy
  have := h xs.length 0 ys (by omega) hy
  simpa using this
theorem Ev.step1 {α β : Type} {g f : Nat → Option α} {u : Nat → Option β} {b : β} {r : α} (e : Ev u b) (k : Ev f r) (h : ∀ k, u k = some b → g (k + 1) = f k) : Ev g r := by
  obtain ⟨K, e⟩ := e
  obtain ⟨K', k⟩ := k
  refine ⟨max K K' + 1, fun n hn => ?_⟩
  obtain ⟨m, rfl⟩ : ∃ m, n = m + 1 := ⟨n - 1, by omega⟩
  rw [h m (e m (by omega))]
  exact k m (by omega)
theorem Ev.step2 {α β γ : Type} {g f : Nat → Option α} {u : Nat → Option β} {v : Nat → Option γ} {b : β} {c : γ} {r : α} (e : Ev u b) (e' : Ev v c) (k : Ev f r) (h : ∀ k, u k = some b → v k = some c → g (k + 1) = f k) : Ev g r := by
  obtain ⟨K, e⟩ := e
  obtain ⟨K2, e'⟩ := e'
  obtain ⟨K', k⟩ := k
  refine ⟨max (max K K2) K' + 1, fun n hn => ?_⟩
  obtain ⟨m, rfl⟩ : ∃ m, n = m + 1 := ⟨n - 1, by omega⟩
  rw [h m (e m (by omega)) (e' m (by omega))]
  exact k m (by omega)
theorem eqS_tail (xs : List Int) (hl : xs.length ≤ 9223372036854775807) (d : Nat) : ∀ (i : Int), 0 ≤ i → (xs.length : Int) - i = d → Ev (fun k => laws_eqInt64S.l0 k xs xs i) true := by
  induction d with
  | zero =>
    intro i h0 hd
    refine Ev.step (f := fun _ => some true) (fun k => ?_) (Ev.now _)
    simp only [laws_eqInt64S.l0]; rw [if_neg (by omega)]
  | succ d ih =>
    intro i h0 hd
    refine Ev.step (f := fun k => laws_eqInt64S.l0 k xs xs (i + 1)) (fun k => ?_) (ih (i + 1) (by omega) (by omega))
    simp only [laws_eqInt64S.l0]; rw [if_pos (by omega), if_pos h0, if_pos (by omega), if_pos trivial, w64 (by omega) (by omega)]
theorem eqS_same (xs : List Int) (hl : xs.length ≤ 9223372036854775807) : Ev (fun k => laws_eqInt64S.f k xs xs) true := by
  unfold laws_eqInt64S.f
  simp only [if_true]
  exact eqS_tail xs hl xs.length 0 (by omega) (by omega)
theorem rd_nat (xs : List Int) (i : Nat) : rd xs (i : Int) = xs.getD i 0 := by show xs.getD (i : Int).toNat 0 = _; rw [Int.toNat_natCast]
theorem toS_eq (l : List Int) (hl : l.length ≤ 1048576) : Ev (fun k => laws_toInt64S.f k l) l := by
  unfold laws_toInt64S.f
  simp only [if_pos (show (0 : Int) ≤ (l.length : Int) by omega), if_pos (show ((l.length : Int) : Int).toNat ≤ 35184372088832 by omega)]
  have h := ev_fill l 0 id (fun k ys i => laws_toInt64S.l0 k l ys i) ?_ ?_ (List.replicate ((l.length : Int)).toNat 0) (by simp)
  · simpa using h
  · intro ys hy
    exact Ev.some_eq fun k => by simp only [laws_toInt64S.l0]; rw [if_neg (by omega)]
  · intro ys r i hi hy h
    refine Ev.step (fun k => ?_) h
    simp only [laws_toInt64S.l0, rd_nat]; (repeat (first | rw [if_pos (by omega)] | rw [if_neg (by omega)] | rw [if_pos (rfl : true = true)] | rw [if_neg Bool.false_ne_true] | rw [if_pos trivial])); rw [wsucc (by omega)]; rfl
def cvVen (x : S117) : S84 := ⟨x.f0, x.f1, x.f2⟩
theorem szVenS_le (l : List S117) (hB : ∀ x ∈ l, x.f0.size ≤ 9223372036854775807) (hl : l.length ≤ 9223372036854775807) (a : Int) (h0 : 0 ≤ a) (h1 : a ≤ 1048576) :
    ∃ r, Ev (fun k => laws_szVeneerS.f k l a) r ∧ (0 ≤ r → (l.length : Int) ≤ a) ∧ r ≤ 1048576 := by
  unfold laws_szVeneerS.f
  by_cases hc : wrap64 (a - (l.length : Int)) < 0
  · simp only [if_pos hc]; exact ⟨-1, Ev.now _, by omega, by omega⟩
  · simp only [if_neg hc]
    rw [w64 (by omega) (by omega)] at hc ⊢
    have h : ∀ b, 0 ≤ b → b ≤ 1048576 → ∃ r, Ev (fun k => laws_szVeneerS.l0 k l b ((0 : Nat) : Int)) r ∧ r ≤ 1048576 := by
      refine down (n := l.length) (Q := fun i => ∀ b, 0 ≤ b → b ≤ 1048576 → ∃ r, Ev (fun k => laws_szVeneerS.l0 k l b (i : Int)) r ∧ r ≤ 1048576) ?_ ?_
      · intro b _ _
        exact ⟨b, Ev.some_eq fun k => by simp only [laws_szVeneerS.l0]; rw [if_neg (by omega)], by omega⟩
      · intro i hi ih b hb0 hb1
        have hz := hB _ (getD_mem z117 hi)
        by_cases hd : wrap64 (b - ((rd_T117 l (i : Int)).f0.size : Int)) < 0
        · exact ⟨-1, Ev.some_eq fun k => by simp only [laws_szVeneerS.l0, laws_szVeneer.f]; rw [if_pos (by omega), if_pos (by omega), if_pos hd]; rfl, by omega⟩
        · have hz2 : ((rd_T117 l (i : Int)).f0.size : Int) ≤ 9223372036854775807 := by unfold rd_T117; rw [Int.toNat_natCast]; omega
          have hd2 : wrap64 (b - ((rd_T117 l (i : Int)).f0.size : Int)) = b - ((rd_T117 l (i : Int)).f0.size : Int) := w64 (by omega) (by omega)
          obtain ⟨r, hr, hr1⟩ := ih (wrap64 (b - ((rd_T117 l (i : Int)).f0.size : Int))) (by omega) (by omega)
          refine ⟨r, Ev.step (fun k => ?_) hr, hr1⟩
          simp only [laws_szVeneerS.l0, laws_szVeneer.f]
          rw [if_pos (by omega), if_pos (by omega), if_neg hd]
          simp only [Option.bind_some]
          rw [if_neg hd, wsucc (by omega)]
    obtain ⟨r, h2, h3⟩ := h (a - (l.length : Int)) (by omega) (by omega)
    exact ⟨r, h2, by omega, h3⟩
theorem toVenS_eq (l : List S117) (hl : l.length ≤ 1048576) : Ev (fun k => laws_toVeneerS.f k l) (l.map cvVen) := by
  unfold laws_toVeneerS.f
  simp only [if_pos (show (0 : Int) ≤ (l.length : Int) by omega), if_pos (show ((l.length : Int) : Int).toNat ≤ 8796093022208 by omega)]
  refine ev_fill l z117 cvVen (fun k ys i => laws_toVeneerS.l0 k l ys i) ?_ ?_ _ (by simp)
  · intro ys hy
    exact Ev.some_eq fun k => by simp only [laws_toVeneerS.l0]; rw [if_neg (by omega)]
  · intro ys r i hi hy h
    refine Ev.step (fun k => ?_) h
    simp only [laws_toVeneerS.l0, laws_toVeneer.f]
    rw [if_pos (by omega), if_pos (by omega)]
    simp only [Option.bind_some]
    rw [if_pos (by omega), wsucc (by omega)]
    rfl
theorem eqVenS_same (l : List S84) (hl : l.length ≤ 1048576) : Ev (fun k => laws_eqVeneerS.f k l l) true := by
  unfold laws_eqVeneerS.f
  simp only [if_true]
  refine down (n := l.length) (Q := fun i => Ev (fun k => laws_eqVeneerS.l0 k l l (i : Int)) true) ?_ ?_
  · exact Ev.some_eq fun k => by simp only [laws_eqVeneerS.l0]; rw [if_neg (by omega)]
  · intro i hi ih
    refine Ev.step (fun k => ?_) ih
    simp only [laws_eqVeneerS.l0, laws_eqVeneer.f, if_true]
    rw [if_pos (by omega), if_pos (by omega), if_pos (by omega)]
    simp only [Option.bind_some, if_true]
    rw [wsucc (by omega)]
theorem ven_B (l : List S117) (hB : ∀ x ∈ l, B117 x) : (∀ x ∈ l, x.f0.size ≤ 9223372036854775807) ∧ ∀ x ∈ l.map cvVen, x.f0.size ≤ 9223372036854775807 := by
  refine ⟨fun x hx => (hB x hx).1, fun x hx => ?_⟩
  obtain ⟨y, hy, rfl⟩ := List.mem_map.1 hx
  exact (hB y hy).1
theorem szP_le (l : List S117) (hB : ∀ x ∈ l, x.f0.size ≤ 9223372036854775807) (hl : l.length ≤ 9223372036854775807) (xs : List Int) (hx : xs.length ≤ 9223372036854775807) (a : Int) (h0 : 0 ≤ a) (h1 : a ≤ 1048576) :
    ∃ r, Ev (fun k => laws_szPacket.f k l xs a) r ∧ (0 ≤ r → l.length ≤ 1048576 ∧ xs.length ≤ 1048576) ∧ r ≤ 1048576 := by
  obtain ⟨n, e1, e2, e3⟩ := szVenS_le l hB hl a h0 h1
  unfold laws_szPacket.f
  by_cases hn : n < 0
  · refine ⟨-1, Ev.bind e1 ?_, by omega, by omega⟩
    simp only [if_pos hn]; exact Ev.now _
  · have hw : wrap64 (n - (xs.length : Int)) = n - (xs.length : Int) := w64 (by omega) (by omega)
    by_cases hm : wrap64 (n - (xs.length : Int)) < 0
    · refine ⟨-1, Ev.bind e1 ?_, by omega, by omega⟩
      simp only [if_neg hn, laws_szInt64S.f, if_pos hm, Option.bind_some]; exact Ev.now _
    · refine ⟨wrap64 (n - (xs.length : Int)), Ev.bind e1 ?_, fun _ => ⟨by have := e2 (by omega); omega, by omega⟩, by omega⟩
      simp only [if_neg hn, laws_szInt64S.f, if_neg hm, Option.bind_some]; exact Ev.now _
theorem toP_eq (l : List S117) (hl : l.length ≤ 1048576) (xs : List Int) (hx : xs.length ≤ 1048576) : Ev (fun k => laws_toPacket.f k l xs) (l.map cvVen, xs) := by
  unfold laws_toPacket.f
  exact Ev.bind (toVenS_eq l hl) (Ev.bind (toS_eq xs hx) (Ev.now _))
theorem eqP_same (l : List S84) (hl : l.length ≤ 1048576) (xs : List Int) (hx : xs.length ≤ 1048576) : Ev (fun k => laws_eqPacket.f k l xs l xs) true := by
  unfold laws_eqPacket.f
  refine Ev.bind (eqVenS_same l hl) ?_
  simp only [if_true]
  exact Ev.bind (eqS_same xs (by omega)) (Ev.now _)
theorem ven_wf (l : List S117) (hB : ∀ x ∈ l, B117 x) : ∀ x ∈ l.map cvVen, -9223372036854775808 ≤ x.f1 ∧ x.f1 ≤ 9223372036854775807 := fun x hx => by
  obtain ⟨y, hy, rfl⟩ := List.mem_map.1 hx
  exact wf64 (hB y hy).2.1
theorem ints_both (xs ys : List Int) (hx : xs.length ≤ 1048576) : ∃ r, Ev (fun k => spec_l00Same.f k xs ys) r ∧ Ev (fun k => slices_Equal_int64_int64.f k xs ys) r := by
  unfold spec_l00Same.f slices_Equal_int64_int64.f
  by_cases hl : (xs.length : Int) = (ys.length : Int)
  · simp only [if_pos hl]
    refine down (n := xs.length) (Q := fun i => ∃ r, Ev (fun k => spec_l00Same.l0 k xs ys (i : Int)) r ∧ Ev (fun k => slices_Equal_int64_int64.l0 k xs ys (xs.length : Int) (i : Int)) r) ?_ ?_
    · refine ⟨true, Ev.some_eq fun k => ?_, Ev.some_eq fun k => ?_⟩
      · simp only [spec_l00Same.l0]; rw [if_neg (by omega)]
      · simp only [slices_Equal_int64_int64.l0]; rw [if_neg (by omega)]
    · intro i hi ⟨r, r1, r2⟩
      by_cases he : rd xs (i : Int) = rd ys (i : Int)
      · refine ⟨r, Ev.step (fun k => ?_) r1, Ev.step (fun k => ?_) r2⟩
        · simp only [spec_l00Same.l0]; rw [if_pos (by omega), if_pos (by omega), if_pos (by omega), if_pos he, wsucc (by omega)]
        · simp only [slices_Equal_int64_int64.l0]; rw [if_pos (by omega), if_pos (by omega), if_pos (by omega), if_pos (by omega), if_pos he, wsucc (by omega)]
      · refine ⟨false, Ev.some_eq fun k => ?_, Ev.some_eq fun k => ?_⟩
        · simp only [spec_l00Same.l0]; rw [if_pos (by omega), if_pos (by omega), if_pos (by omega), if_neg he]
        · simp only [slices_Equal_int64_int64.l0]; rw [if_pos (by omega), if_pos (by omega), if_pos (by omega), if_pos (by omega), if_neg he]
  · simp only [if_neg hl]; exact ⟨false, Ev.now _, Ev.now _⟩
theorem both (l : List S84) (xs : List Int) (m : List S84) (ys : List Int) (hl : l.length ≤ 1048576) (hx : xs.length ≤ 1048576) :
    ∃ r, Ev (fun k => spec_SamePacket.f k l xs m ys) r ∧ Ev (fun k => impl_SamePacket.f k l xs m ys) r := by
  obtain ⟨q, q1, q2⟩ := ints_both xs ys hx
  unfold spec_SamePacket.f impl_SamePacket.f impl_Veneer.f
  by_cases hlm : (l.length : Int) = (m.length : Int)
  · simp only [if_pos hlm]
    have h := down (n := l.length) (Q := fun i => ∃ b : Bool, Ev (fun k => impl_Veneer.l0 k l m (l.length : Int) (i : Int)) b ∧ Ev (fun k => spec_SamePacket.l0 k (i : Int) l xs m ys) (b && q)) ?_ ?_
    · obtain ⟨b, b1, b2⟩ := h
      refine ⟨b && q, b2, Ev.bind b1 ?_⟩
      cases b with
      | true => simp only [if_true, Bool.true_and]; exact Ev.bind q2 (Ev.now _)
      | false => simp only [Bool.false_eq_true, if_false, Bool.false_and]; exact Ev.now _
    · refine ⟨true, Ev.some_eq fun k => ?_, ?_⟩
      · simp only [impl_Veneer.l0]; rw [if_neg (by omega)]
      · refine Ev.step (f := fun k => (spec_l00Same.f k xs ys).bind fun t => some t) (fun k => ?_) (Ev.bind q1 (Ev.now _))
        simp only [spec_SamePacket.l0]; rw [if_neg (by omega)]
    · intro i hi ⟨b, b1, b2⟩
      by_cases he : (!((((rd_T84 l (i : Int)).f0).toList) == (((rd_T84 m (i : Int)).f0).toList)) || (!(((rd_T84 l (i : Int)).f1) == ((rd_T84 m (i : Int)).f1)) || (!(((rd_T84 l (i : Int)).f2) == ((rd_T84 m (i : Int)).f2))))) = true
      · refine ⟨false, Ev.some_eq fun k => ?_, Ev.some_eq fun k => ?_⟩
        · simp only [impl_Veneer.l0]; rw [if_pos (by omega), if_pos (by omega), if_pos (by omega), if_pos (by omega), if_pos he]
        · simp only [spec_SamePacket.l0]; rw [if_pos (by omega), if_pos (by omega), if_pos (by omega), if_pos he]; rfl
      · refine ⟨b, Ev.step (fun k => ?_) b1, Ev.step (fun k => ?_) b2⟩
        · simp only [impl_Veneer.l0]; rw [if_pos (by omega), if_pos (by omega), if_pos (by omega), if_pos (by omega), if_neg he, wsucc (by omega)]
        · simp only [spec_SamePacket.l0]; rw [if_pos (by omega), if_pos (by omega), if_pos (by omega), if_neg he, wsucc (by omega)]
  · simp only [if_neg hlm]
    exact ⟨false, Ev.now _, Ev.bind (Ev.now false) (Ev.now _)⟩
theorem FnExactSamePacket : laws_FnExactSamePacket.Pure := by
  intro l xs m ys hB hC
  obtain ⟨⟨b1, b2⟩, b3, _⟩ := hB
  obtain ⟨hB1, _⟩ := ven_B l b2
  obtain ⟨⟨c1, c2⟩, c3, _⟩ := hC
  obtain ⟨hC1, _⟩ := ven_B m c2
  suffices h : Ev (fun k => laws_FnExactSamePacket.f k l xs m ys) true from h.rounds
  unfold laws_FnExactSamePacket.f
  obtain ⟨n, hn, hn1, hn2⟩ := szP_le l hB1 b1 xs b3 1048576 (by omega) (by omega)
  refine Ev.bind hn (Ev.cond (fun _ => Ev.now _) (fun h0 => ?_))
  obtain ⟨hl, hx⟩ := hn1 (by omega)
  obtain ⟨n', hn', hn1', _⟩ := szP_le m hC1 c1 ys c3 n (by omega) (by omega)
  refine Ev.bind hn' (Ev.cond (fun _ => Ev.now _) (fun h0' => ?_))
  obtain ⟨hm, hy⟩ := hn1' (by omega)
  have ht := toP_eq l hl xs hx
  have ht' := toP_eq m hm ys hy
  obtain ⟨r, e1, e2⟩ := both (l.map cvVen) xs (m.map cvVen) ys (by simpa using hl) hx
  refine Ev.bind ht (Ev.bind ht' (Ev.bind e1 (Ev.bind ht (Ev.bind ht' (Ev.bind e2 ?_)))))
  simp only [bne_self_eq_false, Bool.false_eq_true, if_false]
  refine Ev.bind ht (Ev.bind (eqP_same _ (by simpa using hl) xs hx) ?_)
  simp only [if_true]
  refine Ev.bind ht' (Ev.bind (eqP_same _ (by simpa using hm) ys hy) ?_)
  simp only [if_true]; exact Ev.now _
end Go.Proofs.Ytmaipnbadfplfaa.Pure

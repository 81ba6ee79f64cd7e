/- For every packet the printed law FnExactDistributionOf answers true: the program's DistributionOf and the reference's agree, the argument stays as it was, and the result is the call's own. -/
import Derived.Test.YtadjbffiomkljaaPFnExactDistributionOfx0
namespace Go.Proofs.Ytadjbffiomkljaa.Pure
open Go Go.RowKit Go.Proofs.Ytadjbffiomkljaa.PFnExactDistributionOf Go.Proofs.YtadjbffiomkljaaM
set_option linter.unusedVariables false
set_option linter.unusedSimpArgs false
set_option linter.unnecessarySimpa false

theorem w64 {x : Int} (h0 : -9223372036854775808 ≤ x) (h1 : x ≤ 9223372036854775807) : wrap64 x = x := by unfold wrap64; omega
theorem wf64 {x : Int} (h : (Lit.int .i64 x).wf = true) : -9223372036854775808 ≤ x ∧ x ≤ 9223372036854775807 := by
  simp only [Lit.wf, IntKind.has, Bool.and_eq_true, decide_eq_true_eq] at h
  exact h
theorem maxLen_eq : maxLen = 9223372036854775807 := rfl
theorem Ev.cond {α : Type} {c : Prop} [Decidable c] {g f : Nat → Option α} {r : α} (h : c → Ev g r) (h' : ¬ c → Ev f r) : Ev (fun k => if c then g k else f k) r := by
  by_cases hc : c
  · simp only [if_pos hc]; exact h hc
  · simp only [if_neg hc]; exact h' hc
theorem down {n : Nat} {Q : Nat → Prop} (he : Q n) (hs : ∀ i, i < n → Q (i + 1) → Q i) : Q 0 := by
  have h : ∀ d i, i + d = n → Q i := by
    intro d
    induction d with
    | zero => intro i hi; have : i = n := by omega
              subst this; exact he
    | succ d ih => intro i hi; exact hs i (by omega) (ih (i + 1) (by omega))
  exact h n 0 (by omega)
theorem wsucc {i : Nat} (h : i < 9223372036854775807) : wrap64 ((i : Int) + 1) = ((i + 1 : Nat) : Int) := by rw [w64 (by omega) (by omega)]; omega
theorem getD_mem {α : Type} {xs : List α} {i : Nat} (z : α) (h : i < xs.length) : xs.getD i z ∈ xs := by
  rw [List.getD_eq_getElem?_getD, List.getElem?_eq_getElem h]; exact List.getElem_mem h
theorem getD_map {α β : Type} {xs : List α} {i : Nat} (c : α → β) (z : α) (z' : β) (h : i < xs.length) : (xs.map c).getD i z' = c (xs.getD i z) := by
  rw [List.getD_eq_getElem?_getD, List.getD_eq_getElem?_getD, List.getElem?_eq_getElem h, List.getElem?_eq_getElem (by simpa using h)]; simp
theorem Ev.some_eq {α : Type} {g : Nat → Option α} {r : α} (h : ∀ k, g (k + 1) = some r) : Ev g r := Ev.step (f := fun _ => some r) h (Ev.now r)
/-- A row made full of one value and filled from the left. -/
theorem ev_fill {α β : Type} (xs : List α) (z : α) (c : α → β) (L : Nat → List β → Int → Option (List β))
    (he : ∀ ys : List β, ys.length = xs.length → Ev (fun k => L k ys (xs.length : Int)) ys)
    (hs : ∀ (ys r : List β) (i : Nat), i < xs.length → ys.length = xs.length → Ev (fun k => L k (ys.set i (c (xs.getD i z))) ((i + 1 : Nat) : Int)) r → Ev (fun k => L k ys (i : Int)) r) :
    ∀ ys : List β, ys.length = xs.length → Ev (fun k => L k ys 0) (xs.map c) := by
  have h : ∀ d (i : Nat) (ys : List β), i + d = xs.length → ys.length = xs.length → Ev (fun k => L k ys (i : Int)) (ys.take i ++ (xs.drop i).map c) := by
    intro d
    induction d with
    | zero =>
      intro i ys hi hy
      have e : i = xs.length := by omega
      subst e
      rw [List.drop_of_length_le (Nat.le_refl _), List.map_nil, List.append_nil, List.take_of_length_le (by omega)]
      exact he ys hy
    | succ d ih =>
      intro i ys hi hy
      have hlt : i < xs.length := by omega
      refine hs ys _ i hlt hy ?_
      have h2 := ih (i + 1) (ys.set i (c (xs.getD i z))) (by omega) (by rw [List.length_set]; exact hy)
      have e2 : (ys.set i (c (xs.getD i z))).take (i + 1) = ys.take i ++ [c (xs.getD i z)] := by
        rw [List.take_succ_eq_append_getElem (by rw [List.length_set]; omega), List.getElem_set_self, List.take_set_of_le (by omega)]
      have e3 : xs.drop i = xs.getD i z :: xs.drop (i + 1) := by
        rw [List.drop_eq_getElem_cons hlt, List.getD_eq_getElem?_getD, List.getElem?_eq_getElem hlt]; rfl
      rw [e2] at h2
      rw [e3, List.map_cons]
      simpa using h2
  intro ys hy
  have := h xs.length 0 ys (by omega) hy
  simpa using this
/-- One round of a loop, which leans on what a call answers. -/
theorem Ev.step1 {α β : Type} {g f : Nat → Option α} {u : Nat → Option β} {b : β} {r : α} (e : Ev u b) (k : Ev f r) (h : ∀ k, u k = some b → g (k + 1) = f k) : Ev g r := by
  obtain ⟨K, e⟩ := e
  obtain ⟨K', k⟩ := k
  refine ⟨max K K' + 1, fun n hn => ?_⟩
  obtain ⟨m, rfl⟩ : ∃ m, n = m + 1 := ⟨n - 1, by omega⟩
  rw [h m (e m (by omega))]
  exact k m (by omega)
theorem Ev.step2 {α β γ : Type} {g f : Nat → Option α} {u : Nat → Option β} {v : Nat → Option γ} {b : β} {c : γ} {r : α} (e : Ev u b) (e' : Ev v c) (k : Ev f r) (h : ∀ k, u k = some b → v k = some c → g (k + 1) = f k) : Ev g r := by
  obtain ⟨K, e⟩ := e
  obtain ⟨K2, e'⟩ := e'
  obtain ⟨K', k⟩ := k
  refine ⟨max (max K K2) K' + 1, fun n hn => ?_⟩
  obtain ⟨m, rfl⟩ : ∃ m, n = m + 1 := ⟨n - 1, by omega⟩
  rw [h m (e m (by omega)) (e' m (by omega))]
  exact k m (by omega)

theorem in_eq (n lo hi : Int) : spec_l00In.f n lo hi = some (decide (lo ≤ n ∧ n ≤ hi)) := by
  unfold spec_l00In.f
  by_cases h : n ≥ lo
  · rw [if_pos h]; simp [show lo ≤ n from h]
  · rw [if_neg h]; simp; omega

theorem within_eq (n lo hi : Int) : impl_within.f n lo hi = some (decide (lo ≤ n ∧ n ≤ hi)) := by
  unfold impl_within.f
  by_cases h : n ≥ lo
  · rw [if_pos h]; simp [show lo ≤ n from h]
  · rw [if_neg h]; simp; omega

theorem eqS_tail (xs : List Int) (hl : xs.length ≤ 9223372036854775807) (d : Nat) : ∀ (i : Int), 0 ≤ i → (xs.length : Int) - i = d → Ev (fun k => laws_eqInt64S.l0 k xs xs i) true := by
  induction d with
  | zero =>
    intro i h0 hd
    refine Ev.step (f := fun _ => some true) (fun k => ?_) (Ev.now _)
    simp only [laws_eqInt64S.l0]; rw [if_neg (by omega)]
  | succ d ih =>
    intro i h0 hd
    refine Ev.step (f := fun k => laws_eqInt64S.l0 k xs xs (i + 1)) (fun k => ?_) (ih (i + 1) (by omega) (by omega))
    simp only [laws_eqInt64S.l0]; rw [if_pos (by omega), if_pos h0, if_pos (by omega), if_pos trivial, w64 (by omega) (by omega)]
theorem eqS_same (xs : List Int) (hl : xs.length ≤ 9223372036854775807) : Ev (fun k => laws_eqInt64S.f k xs xs) true := by
  unfold laws_eqInt64S.f
  simp only [if_true]
  exact eqS_tail xs hl xs.length 0 (by omega) (by omega)

theorem rd_nat (xs : List Int) (i : Nat) : rd2 xs (i : Int) = xs.getD i 0 := by show xs.getD (i : Int).toNat 0 = _; rw [Int.toNat_natCast]
theorem toS_eq (l : List Int) (hl : l.length ≤ 1048576) : Ev (fun k => laws_toInt64S.f k l) l := by
  unfold laws_toInt64S.f
  simp only [if_pos (show (0 : Int) ≤ (l.length : Int) by omega), if_pos (show ((l.length : Int) : Int).toNat ≤ 35184372088832 by omega)]
  have h := ev_fill l 0 id (fun k ys i => laws_toInt64S.l0 k l ys i) ?_ ?_ (List.replicate ((l.length : Int)).toNat 0) (by simp)
  · simpa using h
  · intro ys hy
    exact Ev.some_eq fun k => by simp only [laws_toInt64S.l0]; rw [if_neg (by omega)]
  · intro ys r i hi hy h
    refine Ev.step (fun k => ?_) h
    simp only [laws_toInt64S.l0, rd_nat]; (repeat (first | rw [if_pos (by omega)] | rw [if_neg (by omega)] | rw [if_pos (rfl : true = true)] | rw [if_neg Bool.false_ne_true] | rw [if_pos trivial])); rw [wsucc (by omega)]; rfl

def cvVen (x : S86) : S86 := ⟨x.f0, x.f1, x.f2⟩
theorem szVenS_le (l : List S86) (hB : ∀ x ∈ l, x.f0.size ≤ 9223372036854775807) (hl : l.length ≤ 9223372036854775807) (a : Int) (h0 : 0 ≤ a) (h1 : a ≤ 1048576) :
    ∃ r, Ev (fun k => laws_szVeneerS.f k l a) r ∧ (0 ≤ r → (l.length : Int) ≤ a) ∧ r ≤ 1048576 := by
  unfold laws_szVeneerS.f
  by_cases hc : wrap64 (a - (l.length : Int)) < 0
  · simp only [if_pos hc]; exact ⟨-1, Ev.now _, by omega, by omega⟩
  · simp only [if_neg hc]
    rw [w64 (by omega) (by omega)] at hc ⊢
    have h : ∀ b, 0 ≤ b → b ≤ 1048576 → ∃ r, Ev (fun k => laws_szVeneerS.l0 k l b ((0 : Nat) : Int)) r ∧ r ≤ 1048576 := by
      refine down (n := l.length) (Q := fun i => ∀ b, 0 ≤ b → b ≤ 1048576 → ∃ r, Ev (fun k => laws_szVeneerS.l0 k l b (i : Int)) r ∧ r ≤ 1048576) ?_ ?_
      · intro b _ _
        exact ⟨b, Ev.some_eq fun k => by simp only [laws_szVeneerS.l0]; rw [if_neg (by omega)], by omega⟩
      · intro i hi ih b hb0 hb1
        have hz := hB _ (getD_mem z86 hi)
        by_cases hd : wrap64 (b - ((rd86 l (i : Int)).f0.size : Int)) < 0
        · exact ⟨-1, Ev.some_eq fun k => by simp only [laws_szVeneerS.l0, laws_szVeneer.f]; rw [if_pos (by omega), if_pos (by omega), if_pos hd]; rfl, by omega⟩
        · have hz2 : ((rd86 l (i : Int)).f0.size : Int) ≤ 9223372036854775807 := by unfold rd86; rw [Int.toNat_natCast]; omega
          have hd2 : wrap64 (b - ((rd86 l (i : Int)).f0.size : Int)) = b - ((rd86 l (i : Int)).f0.size : Int) := w64 (by omega) (by omega)
          obtain ⟨r, hr, hr1⟩ := ih (wrap64 (b - ((rd86 l (i : Int)).f0.size : Int))) (by omega) (by omega)
          refine ⟨r, Ev.step (fun k => ?_) hr, hr1⟩
          simp only [laws_szVeneerS.l0, laws_szVeneer.f]
          rw [if_pos (by omega), if_pos (by omega), if_neg hd]
          simp only [Option.bind_some]
          rw [if_neg hd, wsucc (by omega)]
    obtain ⟨r, h2, h3⟩ := h (a - (l.length : Int)) (by omega) (by omega)
    exact ⟨r, h2, by omega, h3⟩
theorem toVenS_eq (l : List S86) (hl : l.length ≤ 1048576) : Ev (fun k => laws_toVeneerS.f k l) (l.map cvVen) := by
  unfold laws_toVeneerS.f
  simp only [if_pos (show (0 : Int) ≤ (l.length : Int) by omega), if_pos (show ((l.length : Int) : Int).toNat ≤ 8796093022208 by omega)]
  refine ev_fill l z86 cvVen (fun k ys i => laws_toVeneerS.l0 k l ys i) ?_ ?_ _ (by simp)
  · intro ys hy
    exact Ev.some_eq fun k => by simp only [laws_toVeneerS.l0]; rw [if_neg (by omega)]
  · intro ys r i hi hy h
    refine Ev.step (fun k => ?_) h
    simp only [laws_toVeneerS.l0, laws_toVeneer.f]
    rw [if_pos (by omega), if_pos (by omega)]
    simp only [Option.bind_some]
    rw [if_pos (by omega), wsucc (by omega)]
    rfl
theorem eqVenS_same (l : List S86) (hl : l.length ≤ 1048576) : Ev (fun k => laws_eqVeneerS.f k l l) true := by
  unfold laws_eqVeneerS.f
  simp only [if_true]
  refine down (n := l.length) (Q := fun i => Ev (fun k => laws_eqVeneerS.l0 k l l (i : Int)) true) ?_ ?_
  · exact Ev.some_eq fun k => by simp only [laws_eqVeneerS.l0]; rw [if_neg (by omega)]
  · intro i hi ih
    refine Ev.step (fun k => ?_) ih
    simp only [laws_eqVeneerS.l0, laws_eqVeneer.f, if_true]
    rw [if_pos (by omega), if_pos (by omega), if_pos (by omega)]
    simp only [Option.bind_some, if_true]
    rw [wsucc (by omega)]
theorem ven_B (l : List S86) (hB : ∀ x ∈ l, B86 x) : (∀ x ∈ l, x.f0.size ≤ 9223372036854775807) ∧ ∀ x ∈ l.map cvVen, x.f0.size ≤ 9223372036854775807 := by
  refine ⟨fun x hx => (hB x hx).1, fun x hx => ?_⟩
  obtain ⟨y, hy, rfl⟩ := List.mem_map.1 hx
  exact (hB y hy).1

/-- A search for the first place where p holds. -/
theorem index_gen (n : Nat) (hn : n ≤ 9223372036854775807) (L : Nat → Int → Option Int) (u : Nat → Nat → Option Bool) (p : Nat → Bool) (hu : ∀ i, i < n → Ev (fun k => u k i) (p i))
    (he : ∀ k, L (k + 1) (n : Int) = some (-1)) (ht : ∀ k i, i < n → u k i = some true → L (k + 1) (i : Int) = some (i : Int)) (hf : ∀ k i, i < n → u k i = some false → L (k + 1) (i : Int) = L k ((i + 1 : Nat) : Int)) :
    ∃ r : Int, Ev (fun k => L k 0) r ∧ (r ≥ 0 ↔ ∃ i, i < n ∧ p i = true) := by
  have h := down (n := n) (Q := fun i => ∃ r : Int, Ev (fun k => L k (i : Int)) r ∧ (r ≥ 0 ↔ ∃ j, i ≤ j ∧ j < n ∧ p j = true)) ?_ ?_
  · obtain ⟨r, h1, h2⟩ := h
    exact ⟨r, h1, h2.trans ⟨fun ⟨j, _, q⟩ => ⟨j, q⟩, fun ⟨j, q⟩ => ⟨j, Nat.zero_le _, q⟩⟩⟩
  · exact ⟨-1, Ev.some_eq he, ⟨fun h => by omega, fun ⟨j, q1, q2, _⟩ => by omega⟩⟩
  · intro i hi ⟨r, h1, h2⟩
    have e := hu i hi
    cases hp : p i with
    | true =>
      rw [hp] at e
      exact ⟨i, Ev.step1 e (Ev.now _) (fun k hk => ht k i hi hk), ⟨fun _ => ⟨i, Nat.le_refl _, hi, hp⟩, fun _ => by omega⟩⟩
    | false =>
      rw [hp] at e
      refine ⟨r, Ev.step1 e h1 (fun k hk => hf k i hi hk), h2.trans ⟨fun ⟨j, q1, q2⟩ => ⟨j, by omega, q2⟩, fun ⟨j, q1, q2, q3⟩ => ?_⟩⟩
      rcases Nat.eq_or_lt_of_le q1 with rfl | hlt
      · rw [hp] at q3; exact absurd q3 (by simp)
      · exact ⟨j, hlt, q2, q3⟩

def nmL : List ByteArray := [(⟨#[97, 115, 104]⟩ : ByteArray), (⟨#[98, 101, 101, 99, 104]⟩ : ByteArray), (⟨#[98, 105, 114, 99, 104]⟩ : ByteArray), (⟨#[99, 104, 101, 114, 114, 121]⟩ : ByteArray), (⟨#[101, 98, 111, 110, 121]⟩ : ByteArray), (⟨#[104, 111, 108, 108, 121]⟩ : ByteArray), (⟨#[109, 97, 112, 108, 101]⟩ : ByteArray), (⟨#[111, 97, 107]⟩ : ByteArray), (⟨#[114, 111, 115, 101, 119, 111, 111, 100]⟩ : ByteArray), (⟨#[119, 97, 108, 110, 117, 116]⟩ : ByteArray)]
theorem names_eq : spec_l07Names.f = some nmL := rfl
theorem nm0 : (rd9 nmL 0).toList = (⟨#[97, 115, 104]⟩ : ByteArray).toList := rfl
theorem nm1 : (rd9 nmL 1).toList = (⟨#[98, 101, 101, 99, 104]⟩ : ByteArray).toList := rfl
theorem nm2 : (rd9 nmL 2).toList = (⟨#[98, 105, 114, 99, 104]⟩ : ByteArray).toList := rfl
theorem nm3 : (rd9 nmL 3).toList = (⟨#[99, 104, 101, 114, 114, 121]⟩ : ByteArray).toList := rfl
theorem nm4 : (rd9 nmL 4).toList = (⟨#[101, 98, 111, 110, 121]⟩ : ByteArray).toList := rfl
theorem nm5 : (rd9 nmL 5).toList = (⟨#[104, 111, 108, 108, 121]⟩ : ByteArray).toList := rfl
theorem nm6 : (rd9 nmL 6).toList = (⟨#[109, 97, 112, 108, 101]⟩ : ByteArray).toList := rfl
theorem nm7 : (rd9 nmL 7).toList = (⟨#[111, 97, 107]⟩ : ByteArray).toList := rfl
theorem nm8 : (rd9 nmL 8).toList = (⟨#[114, 111, 115, 101, 119, 111, 111, 100]⟩ : ByteArray).toList := rfl
theorem nm9 : (rd9 nmL 9).toList = (⟨#[119, 97, 108, 110, 117, 116]⟩ : ByteArray).toList := rfl
theorem nm_hit (s : ByteArray) (i : Nat) (hi : i < 10) (h : (rd9 nmL (i : Int)).toList = s.toList) : Ev (fun k => spec_l07Find.l0 k s nmL (i : Int)) (i : Int) := by
  refine Ev.some_eq fun k => ?_
  simp only [spec_l07Find.l0, show nmL.length = 10 from rfl]; rw [if_pos (by omega), if_pos (by omega), if_pos h]
theorem nm_miss (s : ByteArray) (i : Nat) (hi : i < 10) (r : Int) (h : ¬ (rd9 nmL (i : Int)).toList = s.toList) (hr : Ev (fun k => spec_l07Find.l0 k s nmL ((i + 1 : Nat) : Int)) r) : Ev (fun k => spec_l07Find.l0 k s nmL (i : Int)) r := by
  refine Ev.step (fun k => ?_) hr
  simp only [spec_l07Find.l0, show nmL.length = 10 from rfl]; rw [if_pos (by omega), if_pos (by omega), if_neg h, wsucc (by omega)]
/-- The shades of the kinds of wood. -/
def shL : List Int := [20, 35, 15, 50, 95, 5, 10, 40, 80, 70]
theorem sh_row (i : Nat) (hi : i < 10) : ∃ t, spec_l07Table.f = some t ∧ (t.length : Int) = 10 ∧ ((rd23 t (i : Int)).length : Int) = 3 ∧ rd2 (rd23 t (i : Int)) 0 = shL.getD i 0 := by
  refine ⟨_, rfl, rfl, ?_, ?_⟩
  · have : i = 0 ∨ i = 1 ∨ i = 2 ∨ i = 3 ∨ i = 4 ∨ i = 5 ∨ i = 6 ∨ i = 7 ∨ i = 8 ∨ i = 9 := by omega
    rcases this with rfl | rfl | rfl | rfl | rfl | rfl | rfl | rfl | rfl | rfl <;> rfl
  · have : i = 0 ∨ i = 1 ∨ i = 2 ∨ i = 3 ∨ i = 4 ∨ i = 5 ∨ i = 6 ∨ i = 7 ∨ i = 8 ∨ i = 9 := by omega
    rcases this with rfl | rfl | rfl | rfl | rfl | rfl | rfl | rfl | rfl | rfl <;> rfl
theorem sh_range (i : Nat) (hi : i < 10) : 0 ≤ shL.getD i 0 ∧ shL.getD i 0 ≤ 100 := by
  have : i = 0 ∨ i = 1 ∨ i = 2 ∨ i = 3 ∨ i = 4 ∨ i = 5 ∨ i = 6 ∨ i = 7 ∨ i = 8 ∨ i = 9 := by omega
  rcases this with rfl | rfl | rfl | rfl | rfl | rfl | rfl | rfl | rfl | rfl <;> decide
theorem species (s : ByteArray) : (∃ i : Nat, i < 10 ∧ Ev (fun k => spec_l07Find.f k s) (i : Int) ∧ impl_speciesShade.f s = some (shL.getD i 0, true)) ∨ (Ev (fun k => spec_l07Find.f k s) (-1) ∧ impl_speciesShade.f s = some (0, false)) := by
  unfold spec_l07Find.f impl_speciesShade.f
  simp only [names_eq, Option.bind_some]
  by_cases h0 : s.toList = (⟨#[97, 115, 104]⟩ : ByteArray).toList
  · refine .inl ⟨0, by omega, ?_, ?_⟩
    · exact nm_hit s 0 (by omega) (by rw [h0]; exact nm0)
    · unfold impl_SpeciesData.f; rw [if_pos h0]; rfl
  by_cases h1 : s.toList = (⟨#[98, 101, 101, 99, 104]⟩ : ByteArray).toList
  · refine .inl ⟨1, by omega, ?_, ?_⟩
    · exact nm_miss s 0 (by omega) _ (fun e => h0 (by rw [← e]; exact nm0)) (nm_hit s 1 (by omega) (by rw [h1]; exact nm1))
    · unfold impl_SpeciesData.f; rw [if_neg h0, if_pos h1]; rfl
  by_cases h2 : s.toList = (⟨#[98, 105, 114, 99, 104]⟩ : ByteArray).toList
  · refine .inl ⟨2, by omega, ?_, ?_⟩
    · exact nm_miss s 0 (by omega) _ (fun e => h0 (by rw [← e]; exact nm0)) (nm_miss s 1 (by omega) _ (fun e => h1 (by rw [← e]; exact nm1)) (nm_hit s 2 (by omega) (by rw [h2]; exact nm2)))
    · unfold impl_SpeciesData.f; rw [if_neg h0, if_neg h1, if_pos h2]; rfl
  by_cases h3 : s.toList = (⟨#[99, 104, 101, 114, 114, 121]⟩ : ByteArray).toList
  · refine .inl ⟨3, by omega, ?_, ?_⟩
    · exact nm_miss s 0 (by omega) _ (fun e => h0 (by rw [← e]; exact nm0)) (nm_miss s 1 (by omega) _ (fun e => h1 (by rw [← e]; exact nm1)) (nm_miss s 2 (by omega) _ (fun e => h2 (by rw [← e]; exact nm2)) (nm_hit s 3 (by omega) (by rw [h3]; exact nm3))))
    · unfold impl_SpeciesData.f; rw [if_neg h0, if_neg h1, if_neg h2, if_pos h3]; rfl
  by_cases h4 : s.toList = (⟨#[101, 98, 111, 110, 121]⟩ : ByteArray).toList
  · refine .inl ⟨4, by omega, ?_, ?_⟩
    · exact nm_miss s 0 (by omega) _ (fun e => h0 (by rw [← e]; exact nm0)) (nm_miss s 1 (by omega) _ (fun e => h1 (by rw [← e]; exact nm1)) (nm_miss s 2 (by omega) _ (fun e => h2 (by rw [← e]; exact nm2)) (nm_miss s 3 (by omega) _ (fun e => h3 (by rw [← e]; exact nm3)) (nm_hit s 4 (by omega) (by rw [h4]; exact nm4)))))
    · unfold impl_SpeciesData.f; rw [if_neg h0, if_neg h1, if_neg h2, if_neg h3, if_pos h4]; rfl
  by_cases h5 : s.toList = (⟨#[104, 111, 108, 108, 121]⟩ : ByteArray).toList
  · refine .inl ⟨5, by omega, ?_, ?_⟩
    · exact nm_miss s 0 (by omega) _ (fun e => h0 (by rw [← e]; exact nm0)) (nm_miss s 1 (by omega) _ (fun e => h1 (by rw [← e]; exact nm1)) (nm_miss s 2 (by omega) _ (fun e => h2 (by rw [← e]; exact nm2)) (nm_miss s 3 (by omega) _ (fun e => h3 (by rw [← e]; exact nm3)) (nm_miss s 4 (by omega) _ (fun e => h4 (by rw [← e]; exact nm4)) (nm_hit s 5 (by omega) (by rw [h5]; exact nm5))))))
    · unfold impl_SpeciesData.f; rw [if_neg h0, if_neg h1, if_neg h2, if_neg h3, if_neg h4, if_pos h5]; rfl
  by_cases h6 : s.toList = (⟨#[109, 97, 112, 108, 101]⟩ : ByteArray).toList
  · refine .inl ⟨6, by omega, ?_, ?_⟩
    · exact nm_miss s 0 (by omega) _ (fun e => h0 (by rw [← e]; exact nm0)) (nm_miss s 1 (by omega) _ (fun e => h1 (by rw [← e]; exact nm1)) (nm_miss s 2 (by omega) _ (fun e => h2 (by rw [← e]; exact nm2)) (nm_miss s 3 (by omega) _ (fun e => h3 (by rw [← e]; exact nm3)) (nm_miss s 4 (by omega) _ (fun e => h4 (by rw [← e]; exact nm4)) (nm_miss s 5 (by omega) _ (fun e => h5 (by rw [← e]; exact nm5)) (nm_hit s 6 (by omega) (by rw [h6]; exact nm6)))))))
    · unfold impl_SpeciesData.f; rw [if_neg h0, if_neg h1, if_neg h2, if_neg h3, if_neg h4, if_neg h5, if_pos h6]; rfl
  by_cases h7 : s.toList = (⟨#[111, 97, 107]⟩ : ByteArray).toList
  · refine .inl ⟨7, by omega, ?_, ?_⟩
    · exact nm_miss s 0 (by omega) _ (fun e => h0 (by rw [← e]; exact nm0)) (nm_miss s 1 (by omega) _ (fun e => h1 (by rw [← e]; exact nm1)) (nm_miss s 2 (by omega) _ (fun e => h2 (by rw [← e]; exact nm2)) (nm_miss s 3 (by omega) _ (fun e => h3 (by rw [← e]; exact nm3)) (nm_miss s 4 (by omega) _ (fun e => h4 (by rw [← e]; exact nm4)) (nm_miss s 5 (by omega) _ (fun e => h5 (by rw [← e]; exact nm5)) (nm_miss s 6 (by omega) _ (fun e => h6 (by rw [← e]; exact nm6)) (nm_hit s 7 (by omega) (by rw [h7]; exact nm7))))))))
    · unfold impl_SpeciesData.f; rw [if_neg h0, if_neg h1, if_neg h2, if_neg h3, if_neg h4, if_neg h5, if_neg h6, if_pos h7]; rfl
  by_cases h8 : s.toList = (⟨#[114, 111, 115, 101, 119, 111, 111, 100]⟩ : ByteArray).toList
  · refine .inl ⟨8, by omega, ?_, ?_⟩
    · exact nm_miss s 0 (by omega) _ (fun e => h0 (by rw [← e]; exact nm0)) (nm_miss s 1 (by omega) _ (fun e => h1 (by rw [← e]; exact nm1)) (nm_miss s 2 (by omega) _ (fun e => h2 (by rw [← e]; exact nm2)) (nm_miss s 3 (by omega) _ (fun e => h3 (by rw [← e]; exact nm3)) (nm_miss s 4 (by omega) _ (fun e => h4 (by rw [← e]; exact nm4)) (nm_miss s 5 (by omega) _ (fun e => h5 (by rw [← e]; exact nm5)) (nm_miss s 6 (by omega) _ (fun e => h6 (by rw [← e]; exact nm6)) (nm_miss s 7 (by omega) _ (fun e => h7 (by rw [← e]; exact nm7)) (nm_hit s 8 (by omega) (by rw [h8]; exact nm8)))))))))
    · unfold impl_SpeciesData.f; rw [if_neg h0, if_neg h1, if_neg h2, if_neg h3, if_neg h4, if_neg h5, if_neg h6, if_neg h7, if_pos h8]; rfl
  by_cases h9 : s.toList = (⟨#[119, 97, 108, 110, 117, 116]⟩ : ByteArray).toList
  · refine .inl ⟨9, by omega, ?_, ?_⟩
    · exact nm_miss s 0 (by omega) _ (fun e => h0 (by rw [← e]; exact nm0)) (nm_miss s 1 (by omega) _ (fun e => h1 (by rw [← e]; exact nm1)) (nm_miss s 2 (by omega) _ (fun e => h2 (by rw [← e]; exact nm2)) (nm_miss s 3 (by omega) _ (fun e => h3 (by rw [← e]; exact nm3)) (nm_miss s 4 (by omega) _ (fun e => h4 (by rw [← e]; exact nm4)) (nm_miss s 5 (by omega) _ (fun e => h5 (by rw [← e]; exact nm5)) (nm_miss s 6 (by omega) _ (fun e => h6 (by rw [← e]; exact nm6)) (nm_miss s 7 (by omega) _ (fun e => h7 (by rw [← e]; exact nm7)) (nm_miss s 8 (by omega) _ (fun e => h8 (by rw [← e]; exact nm8)) (nm_hit s 9 (by omega) (by rw [h9]; exact nm9))))))))))
    · unfold impl_SpeciesData.f; rw [if_neg h0, if_neg h1, if_neg h2, if_neg h3, if_neg h4, if_neg h5, if_neg h6, if_neg h7, if_neg h8, if_pos h9]; rfl
  refine .inr ⟨?_, ?_⟩
  · exact nm_miss s 0 (by omega) _ (fun e => h0 (by rw [← e]; exact nm0)) (nm_miss s 1 (by omega) _ (fun e => h1 (by rw [← e]; exact nm1)) (nm_miss s 2 (by omega) _ (fun e => h2 (by rw [← e]; exact nm2)) (nm_miss s 3 (by omega) _ (fun e => h3 (by rw [← e]; exact nm3)) (nm_miss s 4 (by omega) _ (fun e => h4 (by rw [← e]; exact nm4)) (nm_miss s 5 (by omega) _ (fun e => h5 (by rw [← e]; exact nm5)) (nm_miss s 6 (by omega) _ (fun e => h6 (by rw [← e]; exact nm6)) (nm_miss s 7 (by omega) _ (fun e => h7 (by rw [← e]; exact nm7)) (nm_miss s 8 (by omega) _ (fun e => h8 (by rw [← e]; exact nm8)) (nm_miss s 9 (by omega) _ (fun e => h9 (by rw [← e]; exact nm9)) (Ev.some_eq fun k => by simp only [spec_l07Find.l0, show nmL.length = 10 from rfl]; rw [if_neg (by omega)]))))))))))
  · unfold impl_SpeciesData.f; rw [if_neg h0, if_neg h1, if_neg h2, if_neg h3, if_neg h4, if_neg h5, if_neg h6, if_neg h7, if_neg h8, if_neg h9]; rfl
/-- Is a veneer good? Both sides agree. -/
theorem ven_same (x : S86) (h1 : -9223372036854775808 ≤ x.f1 ∧ x.f1 ≤ 9223372036854775807) : ∃ r, Ev (fun k => spec_l07Ok.f k x.f0 x.f1 x.f2) r ∧ impl_ValidVeneer.f x.f0 x.f1 x.f2 = some r := by
  have s0 : ∀ t, Ev (fun k => spec_l07Ok.j0 k x.f1 x.f2 t true) false := fun t => Ev.some_eq fun k => by simp only [spec_l07Ok.j0]; rfl
  unfold spec_l07Ok.f impl_ValidVeneer.f
  rcases species x.f0 with ⟨i, hi, e1, e2⟩ | ⟨e1, e2⟩
  · have hr := sh_range i hi
    obtain ⟨t, t1, t2, t3, t4⟩ := sh_row i hi
    refine ⟨decide (0 ≤ x.f1 ∧ x.f1 ≤ 100) && decide (-15 ≤ x.f1 - shL.getD i 0 ∧ x.f1 - shL.getD i 0 ≤ 15) && decide (0 ≤ x.f2 ∧ x.f2 ≤ 179), Ev.bind e1 ?_, ?_⟩
    · simp only [if_neg (show ¬ (i : Int) < 0 by omega), in_eq, Option.bind_some]
      by_cases ha : 0 ≤ x.f1 ∧ x.f1 ≤ 100
      · simp only [ha, and_self, decide_true, Bool.not_true, Bool.true_and]
        refine Ev.some_eq fun k => ?_
        simp only [spec_l07Ok.j0, t1, Option.bind_some, t4, in_eq, spec_l07Grain.f]
        rw [if_neg Bool.false_ne_true, if_pos (by omega), if_pos (by omega), if_pos (by omega), w64 (x := shL.getD i 0 - 15) (by omega) (by omega), w64 (x := shL.getD i 0 + 15) (by omega) (by omega)]
        by_cases hb : -15 ≤ x.f1 - shL.getD i 0 ∧ x.f1 - shL.getD i 0 ≤ 15
        · rw [if_pos (decide_eq_true (by omega)), decide_eq_true hb]; simp
        · rw [if_neg (by simp only [decide_eq_true_eq]; omega), decide_eq_false hb]; simp
      · rw [decide_eq_false ha]; exact s0 _
    · simp only [e2, Option.bind_some, within_eq, if_true]
      by_cases ha : 0 ≤ x.f1 ∧ x.f1 ≤ 100
      · rw [if_pos (decide_eq_true ha), w64 (x := x.f1 - shL.getD i 0) (by omega) (by omega), decide_eq_true ha]
        by_cases hb : -15 ≤ x.f1 - shL.getD i 0 ∧ x.f1 - shL.getD i 0 ≤ 15
        · rw [if_pos (decide_eq_true hb), decide_eq_true hb]; simp
        · rw [if_neg (by simpa using hb), decide_eq_false hb]; simp
      · rw [if_neg (by simpa using ha), decide_eq_false ha]; simp
  · refine ⟨false, Ev.bind e1 ?_, ?_⟩
    · simp only [if_pos (show (-1 : Int) < 0 by omega)]; exact s0 _
    · simp only [e2, Option.bind_some]; rfl

/-- Are all sheets good? -/
theorem sheets_same (l : List S86) (hl : l.length ≤ 1048576) (hB : ∀ x ∈ l, -9223372036854775808 ≤ x.f1 ∧ x.f1 ≤ 9223372036854775807) :
    ∃ r, Ev (fun k => spec_l15Sheets.f k l) r ∧ Ev (fun k => impl_validSheets.f k l) r ∧ (r = true → 1 ≤ l.length ∧ l.length ≤ 8) := by
  obtain ⟨p, hp⟩ : ∃ p : Nat → Bool, ∀ i, i < l.length → Ev (fun k => spec_l07Ok.f k (l.getD i z86).f0 (l.getD i z86).f1 (l.getD i z86).f2) (p i) ∧ impl_ValidVeneer.f (l.getD i z86).f0 (l.getD i z86).f1 (l.getD i z86).f2 = some (p i) := by
    refine ⟨fun i => if h : i < l.length then (ven_same (l.getD i z86) (hB _ (getD_mem _ h))).choose else false, fun i hi => ?_⟩
    simp only [dif_pos hi]
    exact (ven_same (l.getD i z86) (hB _ (getD_mem _ hi))).choose_spec
  have hrd : ∀ i : Nat, rd86 l (i : Int) = l.getD i z86 := fun i => by unfold rd86; simp
  obtain ⟨r, e1, e2⟩ := index_gen l.length (by omega) (fun k i => slices_IndexFunc_impl_Veneer__impl_validVeneers_1.l0 k l (l.length : Int) i) (fun _ i => some (!(p i))) (fun i => !(p i)) (fun i _ => Ev.now _)
    (fun k => by simp only [slices_IndexFunc_impl_Veneer__impl_validVeneers_1.l0]; rw [if_neg (by omega)])
    (fun k i hi hk => by
      simp only [slices_IndexFunc_impl_Veneer__impl_validVeneers_1.l0, impl_validVeneers_1.f, hrd, (hp i hi).2, hk, Option.bind_some]; rw [if_pos (by omega), if_pos (by omega), if_pos (by omega), if_pos (by simpa using hk)])
    (fun k i hi hk => by
      simp only [slices_IndexFunc_impl_Veneer__impl_validVeneers_1.l0, impl_validVeneers_1.f, hrd, (hp i hi).2, hk, Option.bind_some]; rw [if_pos (by omega), if_pos (by omega), if_pos (by omega), if_neg (by simpa using hk), wsucc (by omega)])
  have hv : Ev (fun k => impl_validVeneers.f k l) (!(decide (r ≥ 0))) := by
    unfold impl_validVeneers.f slices_ContainsFunc_impl_Veneer__impl_validVeneers_1.f slices_IndexFunc_impl_Veneer__impl_validVeneers_1.f
    exact Ev.bind (Ev.bind e1 (Ev.now _)) (Ev.now _)
  have hs := down (n := l.length) (Q := fun i => ∃ q, Ev (fun k => spec_l15Sheets.l0 k l (i : Int)) q ∧ (q = true ↔ (∀ j, i ≤ j → j < l.length → p j = true) ∧ 1 ≤ l.length ∧ l.length ≤ 8)) ?_ ?_
  · obtain ⟨q, q1, q2⟩ := hs
    refine ⟨q, q1, ?_, fun h => (q2.1 h).2⟩
    unfold impl_validSheets.f
    simp only [within_eq, Option.bind_some]
    by_cases hb : 1 ≤ (l.length : Int) ∧ (l.length : Int) ≤ 8
    · simp only [hb, and_self, decide_true, if_true]
      have : q = !(decide (r ≥ 0)) := by
        rw [Bool.eq_iff_iff, q2, Bool.not_eq_true', decide_eq_false_iff_not, e2]
        refine ⟨fun h ⟨i, hi, hpi⟩ => by rw [h.1 i (Nat.zero_le _) hi] at hpi; exact absurd hpi (by simp), fun h => ⟨fun j _ hj => ?_, by omega, by omega⟩⟩
        cases hpj : p j with
        | true => rfl
        | false => exact absurd ⟨j, hj, by rw [hpj]; rfl⟩ h
      rw [this]; exact Ev.bind hv (Ev.now _)
    · have : q = false := by
        cases q with
        | false => rfl
        | true => exact absurd (q2.1 rfl).2 (by omega)
      rw [this]; simp only [if_neg (show ¬ decide (1 ≤ (l.length : Int) ∧ (l.length : Int) ≤ 8) = true by simpa using hb)]; exact Ev.now _
  · refine ⟨decide (1 ≤ (l.length : Int) ∧ (l.length : Int) ≤ 8), Ev.some_eq fun k => ?_, ?_⟩
    · simp only [spec_l15Sheets.l0]; rw [if_neg (by omega)]
      by_cases h1 : (l.length : Int) ≥ 1
      · rw [if_pos h1]; simp [show 1 ≤ (l.length : Int) from h1]
      · rw [if_neg h1, decide_eq_false (by omega)]
    · rw [decide_eq_true_eq]; exact ⟨fun h => ⟨fun j h1 h2 => by omega, by omega, by omega⟩, fun h => by omega⟩
  · intro i hi ⟨q, q1, q2⟩
    obtain ⟨h1, _⟩ := hp i hi
    cases hpi : p i with
    | true =>
      rw [hpi] at h1
      refine ⟨q, Ev.step1 h1 q1 (fun k hk => ?_), q2.trans ⟨fun h => ⟨fun j a b => ?_, h.2⟩, fun h => ⟨fun j a b => h.1 j (by omega) b, h.2⟩⟩⟩
      · simp only [spec_l15Sheets.l0, hrd, hk, Option.bind_some]; (repeat (first | rw [if_pos (by omega)] | rw [if_neg (by omega)] | rw [if_pos (rfl : true = true)] | rw [if_neg Bool.false_ne_true] | rw [if_pos trivial])); rw [wsucc (by omega)]
      · rcases Nat.eq_or_lt_of_le a with rfl | hlt
        · exact hpi
        · exact h.1 j hlt b
    | false =>
      rw [hpi] at h1
      refine ⟨false, Ev.step1 h1 (Ev.now _) (fun k hk => ?_), by simp; intro h; have := h i (Nat.le_refl _) hi; rw [hpi] at this; exact absurd this (by simp)⟩
      simp only [spec_l15Sheets.l0, hrd, hk, Option.bind_some]; rw [if_pos (by omega), if_pos (by omega)]; rfl
theorem packet_same (l : List S86) (hl : l.length ≤ 1048576) (hB : ∀ x ∈ l, -9223372036854775808 ≤ x.f1 ∧ x.f1 ≤ 9223372036854775807) (xs : List Int) (hx : xs.length ≤ 1048576) :
    ∃ r, Ev (fun k => spec_l15Ok.f k l xs) r ∧ Ev (fun k => impl_ValidPacket.f k l xs) r ∧ (r = true → (1 ≤ l.length ∧ l.length ≤ 8) ∧ xs.length ≤ 24 ∧ ∀ j, j < xs.length → 0 ≤ xs.getD j 0 ∧ xs.getD j 0 ≤ (l.length : Int) - 1) := by
  obtain ⟨r, e1, e2, e3⟩ := sheets_same l hl hB
  unfold spec_l15Ok.f impl_ValidPacket.f
  cases r with
  | false => exact ⟨false, Ev.bind e1 (Ev.now _), Ev.bind e2 (Ev.now _), by simp⟩
  | true =>
    obtain ⟨l1, l8⟩ := e3 rfl
    have hw : wrap64 ((l.length : Int) - 1) = (l.length : Int) - 1 := w64 (by omega) (by omega)
    obtain ⟨q, f1, f2⟩ := index_gen xs.length (by omega) (fun k i => slices_IndexFunc_int64_int64__impl_ValidPacket_1.l0 k xs l xs (xs.length : Int) i) (fun _ i => some (!(decide (0 ≤ xs.getD i 0 ∧ xs.getD i 0 ≤ (l.length : Int) - 1)))) (fun i => !(decide (0 ≤ xs.getD i 0 ∧ xs.getD i 0 ≤ (l.length : Int) - 1))) (fun i _ => Ev.now _)
      (fun k => by simp only [slices_IndexFunc_int64_int64__impl_ValidPacket_1.l0]; rw [if_neg (by omega)])
      (fun k i hi hk => by
        simp only [slices_IndexFunc_int64_int64__impl_ValidPacket_1.l0, impl_ValidPacket_1.f, rd_nat, within_eq, hw, Option.bind_some]; rw [if_pos (by omega), if_pos (by omega), if_pos (by omega)]; rw [if_pos (by simpa using hk)])
      (fun k i hi hk => by
        simp only [slices_IndexFunc_int64_int64__impl_ValidPacket_1.l0, impl_ValidPacket_1.f, rd_nat, within_eq, hw, Option.bind_some]; rw [if_pos (by omega), if_pos (by omega), if_pos (by omega)]; rw [if_neg (by simpa using hk), wsucc (by omega)])
    have hc : Ev (fun k => slices_ContainsFunc_int64_int64__impl_ValidPacket_1.f k xs l xs) (decide (q ≥ 0)) := by
      unfold slices_ContainsFunc_int64_int64__impl_ValidPacket_1.f slices_IndexFunc_int64_int64__impl_ValidPacket_1.f
      exact Ev.bind f1 (Ev.now _)
    have hs := down (n := xs.length) (Q := fun i => ∃ t, Ev (fun k => spec_l15Shifts.l0 k xs (l.length : Int) (i : Int)) t ∧ (t = true ↔ (∀ j, i ≤ j → j < xs.length → 0 ≤ xs.getD j 0 ∧ xs.getD j 0 ≤ (l.length : Int) - 1) ∧ xs.length ≤ 24)) ?_ ?_
    · obtain ⟨t, t1, t2⟩ := hs
      refine ⟨t, Ev.bind e1 ?_, Ev.bind e2 ?_, fun h => ⟨⟨l1, l8⟩, (t2.1 h).2, fun j hj => (t2.1 h).1 j (Nat.zero_le _) hj⟩⟩
      · simp only [if_true]; exact Ev.bind (show Ev (fun k => spec_l15Shifts.f k xs (l.length : Int)) t from t1) (Ev.now _)
      · simp only [if_true]
        by_cases hg : (xs.length : Int) > 24
        · have : t = false := by
            cases t with
            | false => rfl
            | true => exact absurd (t2.1 rfl).2 (by omega)
          rw [this]; simp only [if_pos hg]; exact Ev.now _
        · simp only [if_neg hg]
          have : t = !(decide (q ≥ 0)) := by
            rw [Bool.eq_iff_iff, t2, Bool.not_eq_true', decide_eq_false_iff_not, f2]
            refine ⟨fun h ⟨i, hi, hpi⟩ => absurd (h.1 i (Nat.zero_le _) hi) (of_decide_eq_false (by rw [Bool.not_eq_true'] at hpi; exact hpi)), fun h => ⟨fun j _ hj => ?_, by omega⟩⟩
            by_cases hq : 0 ≤ xs.getD j 0 ∧ xs.getD j 0 ≤ (l.length : Int) - 1
            · exact hq
            · exact absurd ⟨j, hj, by rw [decide_eq_false hq]; rfl⟩ h
          rw [this]; exact Ev.bind hc (Ev.now _)
    · refine ⟨decide ((xs.length : Int) ≤ 24), Ev.some_eq fun k => ?_, ?_⟩
      · simp only [spec_l15Shifts.l0]; rw [if_neg (by omega)]
      · rw [decide_eq_true_eq]; exact ⟨fun h => ⟨fun j h1 h2 => by omega, by omega⟩, fun h => by omega⟩
    · intro i hi ⟨t, t1, t2⟩
      by_cases hg : 0 ≤ xs.getD i 0 ∧ xs.getD i 0 ≤ (l.length : Int) - 1
      · refine ⟨t, Ev.step (fun k => ?_) t1, t2.trans ⟨fun h => ⟨fun j a b => ?_, h.2⟩, fun h => ⟨fun j a b => h.1 j (by omega) b, h.2⟩⟩⟩
        · simp only [spec_l15Shifts.l0, rd_nat, in_eq, hw, Option.bind_some, decide_eq_true_eq]; rw [if_pos (by omega), if_pos (by omega), if_pos hg, wsucc (by omega)]
        · rcases Nat.eq_or_lt_of_le a with rfl | hlt
          · exact hg
          · exact h.1 j hlt b
      · refine ⟨false, Ev.some_eq fun k => ?_, by simp; intro h; exact absurd (h i (Nat.le_refl _) hi) (by simpa using hg)⟩
        simp only [spec_l15Shifts.l0, rd_nat, in_eq, hw, Option.bind_some, decide_eq_true_eq]; rw [if_pos (by omega), if_pos (by omega), if_neg hg]

/-- The law's own copies and comparisons. -/
theorem szP_le (l : List S86) (hB : ∀ x ∈ l, x.f0.size ≤ 9223372036854775807) (hl : l.length ≤ 9223372036854775807) (xs : List Int) (hx : xs.length ≤ 9223372036854775807) (a : Int) (h0 : 0 ≤ a) (h1 : a ≤ 1048576) :
    ∃ r, Ev (fun k => laws_szPacket.f k l xs a) r ∧ (0 ≤ r → l.length ≤ 1048576 ∧ xs.length ≤ 1048576) ∧ r ≤ 1048576 := by
  obtain ⟨n, e1, e2, e3⟩ := szVenS_le l hB hl a h0 h1
  unfold laws_szPacket.f
  by_cases hn : n < 0
  · refine ⟨-1, Ev.bind e1 ?_, by omega, by omega⟩
    simp only [if_pos hn]; exact Ev.now _
  · have hw : wrap64 (n - (xs.length : Int)) = n - (xs.length : Int) := w64 (by omega) (by omega)
    by_cases hm : wrap64 (n - (xs.length : Int)) < 0
    · refine ⟨-1, Ev.bind e1 ?_, by omega, by omega⟩
      simp only [if_neg hn, laws_szInt64S.f, if_pos hm, Option.bind_some]; exact Ev.now _
    · refine ⟨wrap64 (n - (xs.length : Int)), Ev.bind e1 ?_, fun _ => ⟨by have := e2 (by omega); omega, by omega⟩, by omega⟩
      simp only [if_neg hn, laws_szInt64S.f, if_neg hm, Option.bind_some]; exact Ev.now _
theorem toP_eq (l : List S86) (hl : l.length ≤ 1048576) (xs : List Int) (hx : xs.length ≤ 1048576) : Ev (fun k => laws_toPacket.f k l xs) (l.map cvVen, xs) := by
  unfold laws_toPacket.f
  exact Ev.bind (toVenS_eq l hl) (Ev.bind (toS_eq xs hx) (Ev.now _))
theorem eqP_same (l : List S86) (hl : l.length ≤ 1048576) (xs : List Int) (hx : xs.length ≤ 1048576) : Ev (fun k => laws_eqPacket.f k l xs l xs) true := by
  unfold laws_eqPacket.f
  refine Ev.bind (eqVenS_same l hl) ?_
  simp only [if_true]
  exact Ev.bind (eqS_same xs (by omega)) (Ev.now _)
theorem ven_wf (l : List S86) (hB : ∀ x ∈ l, B86 x) : ∀ x ∈ l.map cvVen, -9223372036854775808 ≤ x.f1 ∧ x.f1 ≤ 9223372036854775807 := fun x hx => by
  obtain ⟨y, hy, rfl⟩ := List.mem_map.1 hx
  exact wf64 (hB y hy).2.1

/-- A list of lists of bounded size. -/
def szRows (l : List (List Int)) : Prop := l.length ≤ 1048576 ∧ ∀ x ∈ l, x.length ≤ 1048576
theorem rdL_nat (xs : List (List Int)) (i : Nat) : rd23 xs (i : Int) = xs.getD i [] := by show xs.getD (i : Int).toNat _ = _; rw [Int.toNat_natCast]
theorem eqSS_same (l : List (List Int)) (hs : szRows l) : Ev (fun k => laws_eqInt64SS.f k l l) true := by
  unfold laws_eqInt64SS.f
  simp only [if_true]
  have hl := hs.1
  refine down (n := l.length) (Q := fun i => Ev (fun k => laws_eqInt64SS.l0 k l l (i : Int)) true) ?_ ?_
  · exact Ev.some_eq fun k => by simp only [laws_eqInt64SS.l0]; rw [if_neg (by omega)]
  · intro i hi ih
    refine Ev.step1 (eqS_same (l.getD i []) (by have := hs.2 _ (getD_mem ([] : List Int) hi); omega)) ih (fun k hk => ?_)
    simp only [laws_eqInt64SS.l0, rdL_nat, hk, Option.bind_some]; (repeat (first | rw [if_pos (by omega)] | rw [if_neg (by omega)] | rw [if_pos (rfl : true = true)] | rw [if_neg Bool.false_ne_true] | rw [if_pos trivial])); rw [wsucc (by omega)]

def mk : Nat → Int → List Int
  | 0, _ => []
  | n + 1, a => a :: mk n (a + 1)
theorem mk_length (n : Nat) : ∀ a, (mk n a).length = n := by
  induction n with
  | zero => intro a; rfl
  | succ n ih => intro a; simp [mk, ih]
theorem mk_at (n : Nat) : ∀ (a : Int) (j : Nat), j < n → (mk n a).getD j 0 = a + j := by
  induction n with
  | zero => intro a j h; omega
  | succ n ih =>
    intro a j h
    cases j with
    | zero => simp [mk]
    | succ j => simp only [mk, List.getD_cons_succ]; rw [ih (a + 1) j (by omega)]; omega
theorem mark_tail (d : Nat) : ∀ (xs : List Int) (a i : Int), 0 ≤ i → (xs.length : Int) - i = d → xs.length ≤ 4611686018427387903 → 0 ≤ a → a + d ≤ 9223372036854775807 →
    Ev (fun k => laws_markInt64S.l0 k xs a i) (a + d, xs.take i.toNat ++ mk d a) := by
  induction d with
  | zero =>
    intro xs a i h0 hd hl ha hb
    refine Ev.step (f := fun _ => some (a, xs)) (fun k => ?_) ?_
    · simp only [laws_markInt64S.l0]; rw [if_neg (by omega)]
    · rw [show xs.take i.toNat = xs from List.take_of_length_le (by omega)]
      simp [mk]; exact Ev.now _
  | succ d ih =>
    intro xs a i h0 hd hl ha hb
    have h := ih (xs.set i.toNat a) (a + 1) (i + 1) (by omega) (by rw [List.length_set]; omega) (by rw [List.length_set]; omega) (by omega) (by omega)
    refine Ev.step (f := fun k => laws_markInt64S.l0 k (xs.set i.toNat a) (a + 1) (i + 1)) (fun k => ?_) ?_
    · simp only [laws_markInt64S.l0]; rw [if_pos (by omega), if_pos h0, w64 (x := a + 1) (by omega) (by omega), w64 (x := i + 1) (by omega) (by omega)]
    · have e1 : (i + 1).toNat = i.toNat + 1 := by omega
      have e2 : (xs.set i.toNat a).take (i.toNat + 1) = xs.take i.toNat ++ [a] := by
        rw [List.take_succ_eq_append_getElem (by rw [List.length_set]; omega), List.getElem_set_self, List.take_set_of_le (by omega)]
      rw [e1, e2] at h
      rw [show a + ((d + 1 : Nat) : Int) = a + 1 + d by omega]
      simpa [mk] using h

theorem strNum_size (v : Int) : (bs [v]).size = 1 := rfl
theorem m109_size : (⟨#[109]⟩ : ByteArray).size = 1 := rfl
theorem markText_loop : ∀ (n : Nat) (t : ByteArray), t.size + n ≤ 2000000000 → ∃ s, Ev (fun k => laws_markText.l0 k (n : Int) t) s := by
  intro n
  induction n using Nat.strongRecOn with
  | ind n ih =>
    intro t ht
    rcases Nat.eq_zero_or_pos n with rfl | hn
    · refine ⟨(⟨#[109]⟩ : ByteArray) ++ t, Ev.some_eq fun k => ?_⟩
      simp only [laws_markText.l0]; rw [if_neg (by omega), if_pos (by rw [m109_size]; omega)]
    · have hd : Int.tdiv (n : Int) 10 = ((n / 10 : Nat) : Int) := by rw [Int.tdiv_eq_ediv_of_nonneg (by omega)]; omega
      obtain ⟨s, e⟩ := ih (n / 10) (by omega) (bs [(wrap64 (48 + (Int.tmod (n : Int) 10))) % 256] ++ t) (by rw [ByteArray.size_append, strNum_size]; omega)
      refine ⟨s, Ev.step (fun k => ?_) e⟩
      simp only [laws_markText.l0, Option.bind_some, hd]
      rw [if_pos (by omega), if_pos (by rw [strNum_size]; omega), w64 (by omega) (by omega)]
theorem markText_ex (a : Int) (h0 : 0 ≤ a) (h1 : a ≤ 1000000000) : ∃ s, Ev (fun k => laws_markText.f k a) s := by
  unfold laws_markText.f
  by_cases h : a ≤ 0
  · simp only [if_pos h]; exact ⟨_, Ev.now _⟩
  · simp only [if_neg h]
    obtain ⟨s, e⟩ := markText_loop a.toNat (⟨#[]⟩ : ByteArray) (by show 0 + a.toNat ≤ _; omega)
    rw [Int.toNat_of_nonneg h0] at e
    exact ⟨s, e⟩

/-- The marks that a law leaves in veneers. -/
theorem mkv_txt : ∃ f : Int → ByteArray, ∀ a, 0 ≤ a → a ≤ 1000000000 → Ev (fun k => laws_markText.f k a) (f a) := by
  refine ⟨fun a => if h : 0 ≤ a ∧ a ≤ 1000000000 then (markText_ex a h.1 h.2).choose else ⟨#[]⟩, fun a h0 h1 => ?_⟩
  simp only [dif_pos (And.intro h0 h1)]
  exact (markText_ex a h0 h1).choose_spec
def mkv (f : Int → ByteArray) : Nat → Int → List S86
  | 0, _ => []
  | n + 1, a => ⟨f a, a + 1, a + 2⟩ :: mkv f n (a + 3)
theorem mkv_length (f : Int → ByteArray) (n : Nat) : ∀ a, (mkv f n a).length = n := by
  induction n with
  | zero => intro a; rfl
  | succ n ih => intro a; simp [mkv, ih]
theorem mkv_at (f : Int → ByteArray) (n : Nat) : ∀ (a : Int) (j : Nat), j < n → (mkv f n a).getD j z86 = ⟨f (a + 3 * j), a + 3 * j + 1, a + 3 * j + 2⟩ := by
  induction n with
  | zero => intro a j h; omega
  | succ n ih =>
    intro a j h
    cases j with
    | zero => simp [mkv]
    | succ j => simp only [mkv, List.getD_cons_succ]; rw [ih (a + 3) j (by omega)]; rw [show a + 3 + 3 * (j : Int) = a + 3 * ((j + 1 : Nat) : Int) by omega]
theorem mkv_rd (l : List S86) (i : Nat) : rd86 l (i : Int) = l.getD i z86 := by unfold rd86; simp
theorem mkv_set (l : List S86) (i : Nat) (v : S86) (h : i < l.length) : (l.set i v).getD i z86 = v := by
  rw [List.getD_eq_getElem?_getD, List.getElem?_set_self h]; rfl
theorem mkv_mark (f : Int → ByteArray) (hf : ∀ a, 0 ≤ a → a ≤ 1000000000 → Ev (fun k => laws_markText.f k a) (f a)) (d : Nat) : ∀ (l : List S86) (a : Int) (i : Nat), i + d = l.length → l.length ≤ 1048576 → 1 ≤ a → a + 3 * d ≤ 100000000 →
    Ev (fun k => laws_markVeneerS.l0 k l a (i : Int)) (a + 3 * d, l.take i ++ mkv f d a) := by
  induction d with
  | zero =>
    intro l a i hi hl ha hb
    rw [show l.take i = l from List.take_of_length_le (by omega)]
    simp only [mkv, List.append_nil, Int.natCast_zero, Int.mul_zero, Int.add_zero]
    refine Ev.some_eq fun k => ?_
    simp only [laws_markVeneerS.l0]; rw [if_neg (by omega)]
  | succ d ih =>
    intro l a i hi hl ha hb
    have hlt : i < l.length := by omega
    have h := ih (l.set i ⟨f a, a + 1, a + 2⟩) (a + 3) (i + 1) (by rw [List.length_set]; omega) (by rw [List.length_set]; omega) (by omega) (by omega)
    have e2 : (l.set i (⟨f a, a + 1, a + 2⟩ : S86)).take (i + 1) = l.take i ++ [⟨f a, a + 1, a + 2⟩] := by
      rw [List.take_succ_eq_append_getElem (by rw [List.length_set]; omega), List.getElem_set_self, List.take_set_of_le (by omega)]
    rw [e2] at h
    have e3 : (a + 3 * ((d + 1 : Nat) : Int), l.take i ++ mkv f (d + 1) a) = (a + 3 + 3 * (d : Int), l.take i ++ [(⟨f a, a + 1, a + 2⟩ : S86)] ++ mkv f d (a + 3)) := by
      rw [show a + 3 * ((d + 1 : Nat) : Int) = a + 3 + 3 * (d : Int) by omega]; simp [mkv]
    rw [e3]
    refine Ev.step1 (hf a (by omega) (by omega)) h (fun k hk => ?_)
    simp only [laws_markVeneerS.l0, hk, Option.bind_some, Int.toNat_natCast, mkv_rd]
    rw [if_pos (by omega), if_pos (by omega), w64 (x := a + 1) (by omega) (by omega), w64 (x := a + 1 + 1) (by omega) (by omega), w64 (x := a + 1 + 1 + 1) (by omega) (by omega), wsucc (by omega)]
    have hs : ∀ v : S86, (l.set i v).getD i z86 = v := fun v => mkv_set l i v hlt
    simp only [hs, List.set_set]
    rw [show a + 1 + 1 + 1 = a + 3 by omega, show a + 1 + 1 = a + 2 by omega]
theorem mkv_mark1 (l : List S86) (hl : l.length ≤ 1048576) : ∃ (a : Int) (m : List S86), Ev (fun k => laws_markVeneerS.f k l 1) (a, m) ∧ 1 ≤ a ∧ a ≤ 10000000 := by
  obtain ⟨f, hf⟩ := mkv_txt
  have h1 := mkv_mark f hf l.length l 1 0 (by omega) hl (by omega) (by omega)
  refine ⟨1 + 3 * (l.length : Int), mkv f l.length 1, ?_, by omega, by omega⟩
  simpa [laws_markVeneerS.f] using h1

/-- The marks that a law leaves in rows of rows. -/
def mkss : List (List Int) → Int → List (List Int)
  | [], _ => []
  | r :: T, a => mk r.length a :: mkss T (a + r.length)
def totss : List (List Int) → Int
  | [] => 0
  | r :: T => r.length + totss T
theorem totss_le (T : List (List Int)) (B : Nat) (hB : ∀ r ∈ T, r.length ≤ B) : 0 ≤ totss T ∧ totss T ≤ (T.length * B : Nat) := by
  induction T with
  | nil => simp [totss]
  | cons r T ih =>
    obtain ⟨h0, h1⟩ := ih (fun x hx => hB x (List.mem_cons_of_mem _ hx))
    have := hB r List.mem_cons_self
    simp only [totss, List.length_cons, Nat.succ_mul]
    omega
theorem mkss_length (T : List (List Int)) : ∀ a, (mkss T a).length = T.length := by
  induction T with
  | nil => intro a; rfl
  | cons r T ih => intro a; simp [mkss, ih]
theorem held_from (n : Nat) (b : Int) (hn : n ≤ 4611686018427387903) (hb0 : 0 ≤ b) (hb : b + n ≤ 9223372036854775807) : Ev (fun k => laws_heldInt64S.f k (mk n b) b) (b + n) := by
  have h : ∀ d : Nat, ∀ (i : Int), 0 ≤ i → (n : Int) - i = d → Ev (fun k => laws_heldInt64S.l0 k (mk n b) (b + i) i) (b + n) := by
    intro d
    induction d with
    | zero =>
      intro i h0 hd
      refine Ev.step (f := fun _ => some (b + n)) (fun k => ?_) (Ev.now _)
      simp only [laws_heldInt64S.l0]; rw [if_neg (by rw [mk_length]; omega), show b + i = b + n by omega]
    | succ d ih =>
      intro i h0 hd
      refine Ev.step (f := fun k => laws_heldInt64S.l0 k (mk n b) (b + (i + 1)) (i + 1)) (fun k => ?_) (ih (i + 1) (by omega) (by omega))
      simp only [laws_heldInt64S.l0]
      rw [if_pos (by rw [mk_length]; omega), if_pos h0, if_pos (by unfold rd2; rw [mk_at n b i.toNat (by omega)]; omega), w64 (x := b + i + 1) (by omega) (by omega), w64 (x := i + 1) (by omega) (by omega), show b + i + 1 = b + (i + 1) by omega]
  simpa [laws_heldInt64S.f] using h n 0 (by omega) (by omega)
theorem mark_from (xs : List Int) (a : Int) (hl : xs.length ≤ 4611686018427387903) (ha : 0 ≤ a) (hb : a + xs.length ≤ 9223372036854775807) : Ev (fun k => laws_markInt64S.f k xs a) (a + xs.length, mk xs.length a) := by
  have h := mark_tail xs.length xs a 0 (by omega) (by omega) (by omega) ha hb
  simpa [laws_markInt64S.f] using h
theorem markSS_from (T : List (List Int)) (hT : T.length ≤ 1048576) (hr : ∀ r ∈ T, r.length ≤ 1048576) (a : Int) (ha : 0 ≤ a) (hb : a ≤ 1000000000000) :
    Ev (fun k => laws_markInt64SS.f k T a) (a + totss T, mkss T a) ∧ Ev (fun k => laws_heldInt64SS.f k (mkss T a) a) (a + totss T) := by
  constructor
  · have h : ∀ (R D : List (List Int)) (b : Int), (D ++ R).length ≤ 1048576 → (∀ r ∈ R, r.length ≤ 1048576) → 0 ≤ b → b ≤ 1000000000000 + (D.length * 1048576 : Nat) → Ev (fun k => laws_markInt64SS.l0 k (D ++ R) b (D.length : Int)) (b + totss R, D ++ mkss R b) := by
      intro R
      induction R with
      | nil =>
        intro D b hl _ _ _
        simp only [totss, mkss, List.append_nil, Int.add_zero]
        exact Ev.some_eq fun k => by simp only [laws_markInt64SS.l0]; rw [if_neg (by omega)]
      | cons r R ih =>
        intro D b hl hr h0 hb
        have hrl := hr r List.mem_cons_self
        simp only [List.length_append, List.length_cons] at hl
        have h := ih (D ++ [mk r.length b]) (b + r.length) (by simp only [List.length_append, List.length_cons, List.length_nil]; omega) (fun x hx => hr x (List.mem_cons_of_mem _ hx)) (by omega) (by simp only [List.length_append, List.length_cons, List.length_nil]; omega)
        have e1 : (b + totss (r :: R), D ++ mkss (r :: R) b) = (b + r.length + totss R, D ++ [mk r.length b] ++ mkss R (b + r.length)) := by
          simp only [totss, mkss, List.append_assoc, List.singleton_append]; rw [Int.add_assoc]
        rw [e1]
        have hget : (D ++ r :: R).getD D.length [] = r := by simp [List.getD_eq_getElem?_getD]
        have hset : (D ++ r :: R).set D.length (mk r.length b) = D ++ [mk r.length b] ++ R := by simp
        refine Ev.step1 (mark_from r b (by omega) h0 (by omega)) h (fun k hk => ?_)
        simp only [laws_markInt64SS.l0, rdL_nat, hget, hk, Option.bind_some, Int.toNat_natCast, hset]
        rw [if_pos (by simp only [List.length_append, List.length_cons]; omega), if_pos (by omega), wsucc (by omega)]
        simp only [List.length_append, List.length_cons, List.length_nil]
    have := h T [] a (by simpa using hT) hr ha (by simpa using hb)
    simpa [laws_markInt64SS.f] using this
  · have h : ∀ (R D : List (List Int)) (b : Int), (D ++ R).length ≤ 1048576 → (∀ r ∈ R, r.length ≤ 1048576) → 0 ≤ b → b ≤ 1000000000000 + (D.length * 1048576 : Nat) → Ev (fun k => laws_heldInt64SS.l0 k (D ++ mkss R b) b (D.length : Int)) (b + totss R) := by
      intro R
      induction R with
      | nil =>
        intro D b hl _ _ _
        simp only [totss, mkss, List.append_nil, Int.add_zero]
        exact Ev.some_eq fun k => by simp only [laws_heldInt64SS.l0]; rw [if_neg (by omega)]
      | cons r R ih =>
        intro D b hl hr h0 hb
        have hrl := hr r List.mem_cons_self
        simp only [List.length_append, List.length_cons] at hl
        have h := ih (D ++ [mk r.length b]) (b + r.length) (by simp only [List.length_append, List.length_cons, List.length_nil]; omega) (fun x hx => hr x (List.mem_cons_of_mem _ hx)) (by omega) (by simp only [List.length_append, List.length_cons, List.length_nil]; omega)
        have ht := (totss_le R 1048576 (fun x hx => hr x (List.mem_cons_of_mem _ hx))).1
        rw [show b + totss (r :: R) = b + r.length + totss R by simp only [totss]; omega]
        have hget : (D ++ mkss (r :: R) b).getD D.length [] = mk r.length b := by simp [List.getD_eq_getElem?_getD, mkss]
        have hap : D ++ [mk r.length b] ++ mkss R (b + r.length) = D ++ mkss (r :: R) b := by simp [mkss]
        rw [hap] at h
        refine Ev.step1 (held_from r.length b (by omega) h0 (by omega)) h (fun k hk => ?_)
        simp only [laws_heldInt64SS.l0, rdL_nat, hget, hk, Option.bind_some]
        rw [if_pos (by simp only [List.length_append, mkss, List.length_cons]; omega), if_pos (by omega), if_neg (by omega), wsucc (by omega)]
        simp only [List.length_append, List.length_cons, List.length_nil]
    have := h T [] a (by simpa using hT) hr ha (by simpa using hb)
    simpa [laws_heldInt64SS.f] using this
theorem markSS_both (T : List (List Int)) (hT : T.length ≤ 8) (hr : ∀ r ∈ T, r.length ≤ 24) : ∃ (a : Int) (U : List (List Int)), Ev (fun k => laws_markInt64SS.f k T 1) (a, U) ∧ Ev (fun k => laws_heldInt64SS.f k U 1) a ∧ 1 ≤ a := by
  obtain ⟨h1, h2⟩ := markSS_from T (by omega) (fun r h => by have := hr r h; omega) 1 (by omega) (by omega)
  exact ⟨_, _, h1, h2, by have := (totss_le T 24 hr).1; omega⟩

def drow (n : Int) (xs : List Int) (i : Nat) : List Int := xs.map fun s => Int.tmod ((i : Int) + s) n
def dtab (n : Int) (xs : List Int) (m : Nat) : List (List Int) := (List.range m).map (drow n xs)
theorem dtab_succ (n : Int) (xs : List Int) (m : Nat) : dtab n xs (m + 1) = dtab n xs m ++ [drow n xs m] := by
  unfold dtab; rw [List.range_succ, List.map_append]; rfl
theorem dtab_length (n : Int) (xs : List Int) (m : Nat) : (dtab n xs m).length = m := by unfold dtab; simp
theorem take_succ_map {α β : Type} (xs : List α) (g : α → β) (z : α) (j : Nat) (h : j < xs.length) : (xs.take (j + 1)).map g = (xs.take j).map g ++ [g (xs.getD j z)] := by
  rw [List.take_succ_eq_append_getElem h, List.map_append, List.getD_eq_getElem?_getD, List.getElem?_eq_getElem h]; rfl
theorem spec_inner (l : List S86) (hl : 1 ≤ l.length ∧ l.length ≤ 8) (xs : List Int) (hx : xs.length ≤ 24) (hr : ∀ j, j < xs.length → 0 ≤ xs.getD j 0 ∧ xs.getD j 0 ≤ (l.length : Int) - 1) (T : List (List Int)) (hT : T.length ≤ 8) (i : Nat) (hi : i < l.length) (r : List (List Int) × Int)
    (h : Ev (fun k => spec_DistributionOf.l0 k l xs (T ++ [drow l.length xs i]) ((i + 1 : Nat) : Int)) r) : Ev (fun k => spec_DistributionOf.l1 k l xs T (i : Int) [] 0) r := by
  have hq := down (n := xs.length) (Q := fun j => Ev (fun k => spec_DistributionOf.l1 k l xs T (i : Int) ((xs.take j).map fun s => Int.tmod ((i : Int) + s) (l.length : Int)) (j : Int)) r) ?_ ?_
  · simpa using hq
  · refine Ev.step (fun k => ?_) h
    simp only [spec_DistributionOf.l1, List.take_length]
    rw [if_neg (by omega), if_pos (by omega), wsucc (by omega)]
    rfl
  · intro j hj ih
    obtain ⟨s0, s1⟩ := hr j hj
    refine Ev.step (fun k => ?_) ih
    simp only [spec_DistributionOf.l1, spec_l15Sheet.f, rd_nat]
    rw [if_pos (by omega), if_pos (by omega), if_pos (by omega), if_neg (by omega), w64 (x := (i : Int) + xs.getD j 0) (by omega) (by omega)]
    simp only [Option.bind_some]
    rw [if_pos (by rw [List.length_map, List.length_take]; omega), wsucc (by omega), take_succ_map xs _ 0 j hj]
theorem spec_outer (l : List S86) (hl : 1 ≤ l.length ∧ l.length ≤ 8) (xs : List Int) (hx : xs.length ≤ 24) (hr : ∀ j, j < xs.length → 0 ≤ xs.getD j 0 ∧ xs.getD j 0 ≤ (l.length : Int) - 1) :
    Ev (fun k => spec_DistributionOf.l0 k l xs [] 0) (dtab l.length xs l.length, 0) := by
  have hq := down (n := l.length) (Q := fun i => Ev (fun k => spec_DistributionOf.l0 k l xs (dtab l.length xs i) (i : Int)) (dtab l.length xs l.length, 0)) ?_ ?_
  · simpa [dtab] using hq
  · exact Ev.some_eq fun k => by simp only [spec_DistributionOf.l0]; rw [if_neg (by omega)]
  · intro i hi ih
    rw [dtab_succ] at ih
    refine Ev.step (fun k => ?_) (spec_inner l hl xs hx hr (dtab l.length xs i) (by rw [dtab_length]; omega) i hi _ ih)
    simp only [spec_DistributionOf.l0]; rw [if_pos (by omega)]
theorem impl_inner (l : List S86) (hl : 1 ≤ l.length ∧ l.length ≤ 8) (xs : List Int) (hx : xs.length ≤ 24) (hr : ∀ j, j < xs.length → 0 ≤ xs.getD j 0 ∧ xs.getD j 0 ≤ (l.length : Int) - 1) (T : List (List Int)) (hT : T.length ≤ 8) (i : Nat) (hi : i < l.length) (r : List (List Int) × Int)
    (h : Ev (fun k => impl_DistributionOf.l0 k l xs (T ++ [drow l.length xs i]) (l.length : Int) ((i + 1 : Nat) : Int)) r) : Ev (fun k => impl_DistributionOf.l1 k l xs T (i : Int) [] (l.length : Int) (i : Int) xs (xs.length : Int) 0) r := by
  have hq := down (n := xs.length) (Q := fun j => Ev (fun k => impl_DistributionOf.l1 k l xs T (i : Int) ((xs.take j).map fun s => Int.tmod ((i : Int) + s) (l.length : Int)) (l.length : Int) (i : Int) xs (xs.length : Int) (j : Int)) r) ?_ ?_
  · simpa using hq
  · refine Ev.step (fun k => ?_) h
    simp only [impl_DistributionOf.l1, List.take_length]
    rw [if_neg (by omega), if_pos (by omega), wsucc (by omega)]
    rfl
  · intro j hj ih
    obtain ⟨s0, s1⟩ := hr j hj
    refine Ev.step (fun k => ?_) ih
    simp only [impl_DistributionOf.l1, rd_nat]
    rw [if_pos (by omega), if_pos (by omega), if_pos (by omega), if_neg (by omega), w64 (x := (i : Int) + xs.getD j 0) (by omega) (by omega), if_pos (by rw [List.length_map, List.length_take]; omega), wsucc (by omega), take_succ_map xs _ 0 j hj]
theorem impl_outer (l : List S86) (hl : 1 ≤ l.length ∧ l.length ≤ 8) (xs : List Int) (hx : xs.length ≤ 24) (hr : ∀ j, j < xs.length → 0 ≤ xs.getD j 0 ∧ xs.getD j 0 ≤ (l.length : Int) - 1) :
    Ev (fun k => impl_DistributionOf.l0 k l xs [] (l.length : Int) 0) (dtab l.length xs l.length, 0) := by
  have hq := down (n := l.length) (Q := fun i => Ev (fun k => impl_DistributionOf.l0 k l xs (dtab l.length xs i) (l.length : Int) (i : Int)) (dtab l.length xs l.length, 0)) ?_ ?_
  · simpa [dtab] using hq
  · exact Ev.some_eq fun k => by simp only [impl_DistributionOf.l0]; rw [if_neg (by omega)]
  · intro i hi ih
    rw [dtab_succ] at ih
    refine Ev.step (fun k => ?_) (impl_inner l hl xs hx hr (dtab l.length xs i) (by rw [dtab_length]; omega) i hi _ ih)
    simp only [impl_DistributionOf.l0]; rw [if_pos (by omega)]
theorem both (l : List S86) (hl : l.length ≤ 1048576) (hB : ∀ x ∈ l, -9223372036854775808 ≤ x.f1 ∧ x.f1 ≤ 9223372036854775807) (xs : List Int) (hx : xs.length ≤ 1048576) :
    ∃ (T : List (List Int)) (c : Int), Ev (fun k => spec_DistributionOf.f k l xs) (T, c) ∧ Ev (fun k => impl_DistributionOf.f k l xs) (T, c) ∧ T.length ≤ 8 ∧ ∀ r ∈ T, r.length ≤ 24 := by
  obtain ⟨r, e1, e2, e3⟩ := packet_same l hl hB xs hx
  unfold spec_DistributionOf.f impl_DistributionOf.f
  cases r with
  | false => exact ⟨[], 1, Ev.bind e1 (Ev.now _), Ev.bind e2 (Ev.now _), by simp, by simp⟩
  | true =>
    obtain ⟨h1, x24, hr⟩ := e3 rfl
    refine ⟨dtab l.length xs l.length, 0, Ev.bind e1 ?_, Ev.bind e2 ?_, by rw [dtab_length]; exact h1.2, fun r hr => ?_⟩
    · simp only [if_true]; exact spec_outer l h1 xs x24 hr
    · simp only [if_true]; exact impl_outer l h1 xs x24 hr
    · obtain ⟨i, _, rfl⟩ := List.mem_map.1 hr
      unfold drow; rw [List.length_map]; exact x24
theorem FnExactDistributionOf : laws_FnExactDistributionOf.Pure := by
  intro l xs hB
  obtain ⟨⟨b1, b2⟩, b3, _⟩ := hB
  obtain ⟨hB1, _⟩ := ven_B l b2
  suffices h : Ev (fun k => laws_FnExactDistributionOf.f k l xs) true from h.rounds
  unfold laws_FnExactDistributionOf.f
  obtain ⟨n, hn, hn1, _⟩ := szP_le l hB1 b1 xs b3 1048576 (by omega) (by omega)
  refine Ev.bind hn (Ev.cond (fun _ => Ev.now _) (fun h0 => ?_))
  obtain ⟨hl, hx⟩ := hn1 (by omega)
  have ht := toP_eq l hl xs hx
  have hlm : (l.map cvVen).length ≤ 1048576 := by simpa using hl
  obtain ⟨T, c, e1, e2, t8, t24⟩ := both (l.map cvVen) hlm (ven_wf l b2) xs hx
  have he : Ev (fun k => laws_eqInt64SS.f k T T) true := eqSS_same T ⟨by omega, fun r hr => by have := t24 r hr; omega⟩
  obtain ⟨p', m', m1', p0', p1'⟩ := mkv_mark1 (l.map cvVen) hlm
  have hk : Ev (fun k => laws_markPacket.f k (l.map cvVen) xs 1) (p' + (xs.length : Int), m', mk xs.length p') := by
    unfold laws_markPacket.f
    have h := mark_tail xs.length xs p' 0 (by omega) (by omega) (by omega) (by omega) (by omega)
    refine Ev.bind m1' (Ev.bind (show Ev (fun k => laws_markInt64S.f k xs p') (p' + (xs.length : Int), mk xs.length p') from by simpa [laws_markInt64S.f] using h) (Ev.now _))
  obtain ⟨a, U, u1, u2, u0⟩ := markSS_both T t8 t24
  have j2 : Ev (fun k => laws_FnExactDistributionOf.j2 k U a false) true := by
    refine Ev.step (fun k => by simp only [laws_FnExactDistributionOf.j2]; rfl) (Ev.bind u2 ?_)
    simp only [if_neg (show ¬ a < 0 by omega), if_true]; exact Ev.now _
  have j1 : Ev (fun k => laws_FnExactDistributionOf.j1 k l xs T c T false) true := by
    refine Ev.step (fun k => by simp only [laws_FnExactDistributionOf.j1]; rfl) (Ev.bind u1 (Ev.bind u2 ?_))
    simp only [if_neg (show ¬ a < 0 by omega), if_true]
    refine Ev.bind ht (Ev.bind e2 (Ev.bind he ?_))
    simp only [if_true, bne_self_eq_false]; exact j2
  refine Ev.bind ht (Ev.bind e1 (Ev.bind ht (Ev.bind e2 (Ev.bind he ?_))))
  simp only [if_true, bne_self_eq_false]
  refine Ev.step (fun k => by simp only [laws_FnExactDistributionOf.j0]; rfl) (Ev.bind ht (Ev.bind (eqP_same _ hlm xs hx) ?_))
  simp only [if_true]
  refine Ev.bind hk ?_
  simp only [if_neg (show ¬ p' + (xs.length : Int) < 0 by omega)]
  refine Ev.bind he ?_
  simp only [if_true, bne_self_eq_false]; exact j1

end Go.Proofs.Ytadjbffiomkljaa.Pure

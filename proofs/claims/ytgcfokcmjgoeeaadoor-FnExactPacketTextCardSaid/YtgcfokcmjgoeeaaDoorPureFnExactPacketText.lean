/- For every packet the printed law FnExactPacketText answers true: the program's PacketText and the reference's agree, and the argument stays as it was. -/
import Derived.Test.YtgcfokcmjgoeeaaDoorPFnExactPacketTextx7
namespace Go.Proofs.YtgcfokcmjgoeeaaDoor.Pure
open Go.RowKit Go.Proofs.YtgcfokcmjgoeeaaDoor.PFnExactPacketText Go.Proofs.YtgcfokcmjgoeeaaDoorW.PrintWords Go.Proofs.YtgcfokcmjgoeeaaDoorW.PrintLast
set_option linter.unusedVariables false
set_option linter.unusedSimpArgs false
set_option linter.unnecessarySimpa false

theorem w64 {x : Int} (h0 : -9223372036854775808 ≤ x) (h1 : x ≤ 9223372036854775807) : wrap64 x = x := by unfold wrap64; omega
theorem wf64 {x : Int} (h : (Lit.int .i64 x).wf = true) : -9223372036854775808 ≤ x ∧ x ≤ 9223372036854775807 := by
  simp only [Lit.wf, IntKind.has, Bool.and_eq_true, decide_eq_true_eq] at h
  exact h
theorem maxLen_eq : maxLen = 9223372036854775807 := rfl
theorem Ev.cond {α : Type} {c : Prop} [Decidable c] {g f : Nat → Option α} {r : α} (h : c → Ev g r) (h' : ¬ c → Ev f r) : Ev (fun k => if c then g k else f k) r := by
  by_cases hc : c
  · simp only [if_pos hc]; exact h hc
  · simp only [if_neg hc]; exact h' hc
theorem down {n : Nat} {Q : Nat → Prop} (he : Q n) (hs : ∀ i, i < n → Q (i + 1) → Q i) : Q 0 := by
  have h : ∀ d i, i + d = n → Q i := by
    intro d
    induction d with
    | zero => intro i hi; have : i = n := by omega
              subst this; exact he
    | succ d ih => intro i hi; exact hs i (by omega) (ih (i + 1) (by omega))
  exact h n 0 (by omega)
theorem wsucc {i : Nat} (h : i < 9223372036854775807) : wrap64 ((i : Int) + 1) = ((i + 1 : Nat) : Int) := by rw [w64 (by omega) (by omega)]; omega
theorem getD_mem {α : Type} {xs : List α} {i : Nat} (z : α) (h : i < xs.length) : xs.getD i z ∈ xs := by
  rw [List.getD_eq_getElem?_getD, List.getElem?_eq_getElem h]; exact List.getElem_mem h
theorem getD_map {α β : Type} {xs : List α} {i : Nat} (c : α → β) (z : α) (z' : β) (h : i < xs.length) : (xs.map c).getD i z' = c (xs.getD i z) := by
  rw [List.getD_eq_getElem?_getD, List.getD_eq_getElem?_getD, List.getElem?_eq_getElem h, List.getElem?_eq_getElem (by simpa using h)]; simp
theorem Ev.some_eq {α : Type} {g : Nat → Option α} {r : α} (h : ∀ k, g (k + 1) = some r) : Ev g r := Ev.step (f := fun _ => some r) h (Ev.now r)
/-- A row made full of one value and filled from the left. -/
theorem ev_fill {α β : Type} (xs : List α) (z : α) (c : α → β) (L : Nat → List β → Int → Option (List β))
    (he : ∀ ys : List β, ys.length = xs.length → Ev (fun k => L k ys (xs.length : Int)) ys)
    (hs : ∀ (ys r : List β) (i : Nat), i < xs.length → ys.length = xs.length → Ev (fun k => L k (ys.set i (c (xs.getD i z))) ((i + 1 : Nat) : Int)) r → Ev (fun k => L k ys (i : Int)) r) :
    ∀ ys : List β, ys.length = xs.length → Ev (fun k => L k ys 0) (xs.map c) := by
  have h : ∀ d (i : Nat) (ys : List β), i + d = xs.length → ys.length = xs.length → Ev (fun k => L k ys (i : Int)) (ys.take i ++ (xs.drop i).map c) := by
    intro d
    induction d with
    | zero =>
      intro i ys hi hy
      have e : i = xs.length := by omega
      subst e
      rw [List.drop_of_length_le (Nat.le_refl _), List.map_nil, List.append_nil, List.take_of_length_le (by omega)]
      exact he ys hy
    | succ d ih =>
      intro i ys hi hy
      have hlt : i < xs.length := by omega
      refine hs ys _ i hlt hy ?_
      have h2 := ih (i + 1) (ys.set i (c (xs.getD i z))) (by omega) (by rw [List.length_set]; exact hy)
      have e2 : (ys.set i (c (xs.getD i z))).take (i + 1) = ys.take i ++ [c (xs.getD i z)] := by
        rw [List.take_succ_eq_append_getElem (by rw [List.length_set]; omega), List.getElem_set_self, List.take_set_of_le (by omega)]
      have e3 : xs.drop i = xs.getD i z :: xs.drop (i + 1) := by
        rw [List.drop_eq_getElem_cons hlt, List.getD_eq_getElem?_getD, List.getElem?_eq_getElem hlt]; rfl
      rw [e2] at h2
      rw [e3, List.map_cons]
      simpa using h2
  intro ys hy
  have := h xs.length 0 ys (by omega) hy
  simpa using this
/-- One round of a loop, which leans on what a call answers. -/
theorem Ev.step1 {α β : Type} {g f : Nat → Option α} {u : Nat → Option β} {b : β} {r : α} (e : Ev u b) (k : Ev f r) (h : ∀ k, u k = some b → g (k + 1) = f k) : Ev g r := by
  obtain ⟨K, e⟩ := e
  obtain ⟨K', k⟩ := k
  refine ⟨max K K' + 1, fun n hn => ?_⟩
  obtain ⟨m, rfl⟩ : ∃ m, n = m + 1 := ⟨n - 1, by omega⟩
  rw [h m (e m (by omega))]
  exact k m (by omega)
theorem Ev.step2 {α β γ : Type} {g f : Nat → Option α} {u : Nat → Option β} {v : Nat → Option γ} {b : β} {c : γ} {r : α} (e : Ev u b) (e' : Ev v c) (k : Ev f r) (h : ∀ k, u k = some b → v k = some c → g (k + 1) = f k) : Ev g r := by
  obtain ⟨K, e⟩ := e
  obtain ⟨K2, e'⟩ := e'
  obtain ⟨K', k⟩ := k
  refine ⟨max (max K K2) K' + 1, fun n hn => ?_⟩
  obtain ⟨m, rfl⟩ : ∃ m, n = m + 1 := ⟨n - 1, by omega⟩
  rw [h m (e m (by omega)) (e' m (by omega))]
  exact k m (by omega)

theorem in_eq (n lo hi : Int) : spec_l00In.f n lo hi = some (decide (lo ≤ n ∧ n ≤ hi)) := by
  unfold spec_l00In.f
  by_cases h : n ≥ lo
  · rw [if_pos h]; simp [show lo ≤ n from h]
  · rw [if_neg h]; simp; omega

theorem within_eq (n lo hi : Int) : impl_within.f n lo hi = some (decide (lo ≤ n ∧ n ≤ hi)) := by
  unfold impl_within.f
  by_cases h : n ≥ lo
  · rw [if_pos h]; simp [show lo ≤ n from h]
  · rw [if_neg h]; simp; omega

theorem eqS_tail (xs : List Int) (hl : xs.length ≤ 9223372036854775807) (d : Nat) : ∀ (i : Int), 0 ≤ i → (xs.length : Int) - i = d → Ev (fun k => laws_eqInt64S.l0 k xs xs i) true := by
  induction d with
  | zero =>
    intro i h0 hd
    refine Ev.step (f := fun _ => some true) (fun k => ?_) (Ev.now _)
    simp only [laws_eqInt64S.l0]; rw [if_neg (by omega)]
  | succ d ih =>
    intro i h0 hd
    refine Ev.step (f := fun k => laws_eqInt64S.l0 k xs xs (i + 1)) (fun k => ?_) (ih (i + 1) (by omega) (by omega))
    simp only [laws_eqInt64S.l0]; rw [if_pos (by omega), if_pos h0, if_pos (by omega), if_pos trivial, w64 (by omega) (by omega)]
theorem eqS_same (xs : List Int) (hl : xs.length ≤ 9223372036854775807) : Ev (fun k => laws_eqInt64S.f k xs xs) true := by
  unfold laws_eqInt64S.f
  simp only [if_true]
  exact eqS_tail xs hl xs.length 0 (by omega) (by omega)

theorem rd_nat (xs : List Int) (i : Nat) : rd xs (i : Int) = xs.getD i 0 := by show xs.getD (i : Int).toNat 0 = _; rw [Int.toNat_natCast]
theorem toS_eq (l : List Int) (hl : l.length ≤ 1048576) : Ev (fun k => laws_toInt64S.f k l) l := by
  unfold laws_toInt64S.f
  simp only [if_pos (show (0 : Int) ≤ (l.length : Int) by omega), if_pos (show ((l.length : Int) : Int).toNat ≤ 35184372088832 by omega)]
  have h := ev_fill l 0 id (fun k ys i => laws_toInt64S.l0 k l ys i) ?_ ?_ (List.replicate ((l.length : Int)).toNat 0) (by simp)
  · simpa using h
  · intro ys hy
    exact Ev.some_eq fun k => by simp only [laws_toInt64S.l0]; rw [if_neg (by omega)]
  · intro ys r i hi hy h
    refine Ev.step (fun k => ?_) h
    simp only [laws_toInt64S.l0, rd_nat]; (repeat (first | rw [if_pos (by omega)] | rw [if_neg (by omega)] | rw [if_pos (rfl : true = true)] | rw [if_neg Bool.false_ne_true] | rw [if_pos trivial])); rw [wsucc (by omega)]; rfl

def cvVen (x : S65) : S55 := ⟨x.f0, x.f1, x.f2⟩
theorem szVenS_le (l : List S65) (hB : ∀ x ∈ l, x.f0.size ≤ 9223372036854775807) (hl : l.length ≤ 9223372036854775807) (a : Int) (h0 : 0 ≤ a) (h1 : a ≤ 1048576) :
    ∃ r, Ev (fun k => laws_szVeneerS.f k l a) r ∧ (0 ≤ r → (l.length : Int) ≤ a) ∧ r ≤ 1048576 := by
  unfold laws_szVeneerS.f
  by_cases hc : wrap64 (a - (l.length : Int)) < 0
  · simp only [if_pos hc]; exact ⟨-1, Ev.now _, by omega, by omega⟩
  · simp only [if_neg hc]
    rw [w64 (by omega) (by omega)] at hc ⊢
    have h : ∀ b, 0 ≤ b → b ≤ 1048576 → ∃ r, Ev (fun k => laws_szVeneerS.l0 k l b ((0 : Nat) : Int)) r ∧ r ≤ 1048576 := by
      refine down (n := l.length) (Q := fun i => ∀ b, 0 ≤ b → b ≤ 1048576 → ∃ r, Ev (fun k => laws_szVeneerS.l0 k l b (i : Int)) r ∧ r ≤ 1048576) ?_ ?_
      · intro b _ _
        exact ⟨b, Ev.some_eq fun k => by simp only [laws_szVeneerS.l0]; rw [if_neg (by omega)], by omega⟩
      · intro i hi ih b hb0 hb1
        have hz := hB _ (getD_mem z65 hi)
        by_cases hd : wrap64 (b - ((rd_T65 l (i : Int)).f0.size : Int)) < 0
        · exact ⟨-1, Ev.some_eq fun k => by simp only [laws_szVeneerS.l0, laws_szVeneer.f]; rw [if_pos (by omega), if_pos (by omega), if_pos hd]; rfl, by omega⟩
        · have hz2 : ((rd_T65 l (i : Int)).f0.size : Int) ≤ 9223372036854775807 := by unfold rd_T65; rw [Int.toNat_natCast]; omega
          have hd2 : wrap64 (b - ((rd_T65 l (i : Int)).f0.size : Int)) = b - ((rd_T65 l (i : Int)).f0.size : Int) := w64 (by omega) (by omega)
          obtain ⟨r, hr, hr1⟩ := ih (wrap64 (b - ((rd_T65 l (i : Int)).f0.size : Int))) (by omega) (by omega)
          refine ⟨r, Ev.step (fun k => ?_) hr, hr1⟩
          simp only [laws_szVeneerS.l0, laws_szVeneer.f]
          rw [if_pos (by omega), if_pos (by omega), if_neg hd]
          simp only [Option.bind_some]
          rw [if_neg hd, wsucc (by omega)]
    obtain ⟨r, h2, h3⟩ := h (a - (l.length : Int)) (by omega) (by omega)
    exact ⟨r, h2, by omega, h3⟩
theorem toVenS_eq (l : List S65) (hl : l.length ≤ 1048576) : Ev (fun k => laws_toVeneerS.f k l) (l.map cvVen) := by
  unfold laws_toVeneerS.f
  simp only [if_pos (show (0 : Int) ≤ (l.length : Int) by omega), if_pos (show ((l.length : Int) : Int).toNat ≤ 8796093022208 by omega)]
  refine ev_fill l z65 cvVen (fun k ys i => laws_toVeneerS.l0 k l ys i) ?_ ?_ _ (by simp)
  · intro ys hy
    exact Ev.some_eq fun k => by simp only [laws_toVeneerS.l0]; rw [if_neg (by omega)]
  · intro ys r i hi hy h
    refine Ev.step (fun k => ?_) h
    simp only [laws_toVeneerS.l0, laws_toVeneer.f]
    rw [if_pos (by omega), if_pos (by omega)]
    simp only [Option.bind_some]
    rw [if_pos (by omega), wsucc (by omega)]
    rfl
theorem eqVenS_same (l : List S55) (hl : l.length ≤ 1048576) : Ev (fun k => laws_eqVeneerS.f k l l) true := by
  unfold laws_eqVeneerS.f
  simp only [if_true]
  refine down (n := l.length) (Q := fun i => Ev (fun k => laws_eqVeneerS.l0 k l l (i : Int)) true) ?_ ?_
  · exact Ev.some_eq fun k => by simp only [laws_eqVeneerS.l0]; rw [if_neg (by omega)]
  · intro i hi ih
    refine Ev.step (fun k => ?_) ih
    simp only [laws_eqVeneerS.l0, laws_eqVeneer.f, if_true]
    rw [if_pos (by omega), if_pos (by omega), if_pos (by omega)]
    simp only [Option.bind_some, if_true]
    rw [wsucc (by omega)]
theorem ven_B (l : List S65) (hB : ∀ x ∈ l, B65 x) : (∀ x ∈ l, x.f0.size ≤ 9223372036854775807) ∧ ∀ x ∈ l.map cvVen, x.f0.size ≤ 9223372036854775807 := by
  refine ⟨fun x hx => (hB x hx).1, fun x hx => ?_⟩
  obtain ⟨y, hy, rfl⟩ := List.mem_map.1 hx
  exact (hB y hy).1

/-- A search for the first place where p holds. -/
theorem index_gen (n : Nat) (hn : n ≤ 9223372036854775807) (L : Nat → Int → Option Int) (u : Nat → Nat → Option Bool) (p : Nat → Bool) (hu : ∀ i, i < n → Ev (fun k => u k i) (p i))
    (he : ∀ k, L (k + 1) (n : Int) = some (-1)) (ht : ∀ k i, i < n → u k i = some true → L (k + 1) (i : Int) = some (i : Int)) (hf : ∀ k i, i < n → u k i = some false → L (k + 1) (i : Int) = L k ((i + 1 : Nat) : Int)) :
    ∃ r : Int, Ev (fun k => L k 0) r ∧ (r ≥ 0 ↔ ∃ i, i < n ∧ p i = true) := by
  have h := down (n := n) (Q := fun i => ∃ r : Int, Ev (fun k => L k (i : Int)) r ∧ (r ≥ 0 ↔ ∃ j, i ≤ j ∧ j < n ∧ p j = true)) ?_ ?_
  · obtain ⟨r, h1, h2⟩ := h
    exact ⟨r, h1, h2.trans ⟨fun ⟨j, _, q⟩ => ⟨j, q⟩, fun ⟨j, q⟩ => ⟨j, Nat.zero_le _, q⟩⟩⟩
  · exact ⟨-1, Ev.some_eq he, ⟨fun h => by omega, fun ⟨j, q1, q2, _⟩ => by omega⟩⟩
  · intro i hi ⟨r, h1, h2⟩
    have e := hu i hi
    cases hp : p i with
    | true =>
      rw [hp] at e
      exact ⟨i, Ev.step1 e (Ev.now _) (fun k hk => ht k i hi hk), ⟨fun _ => ⟨i, Nat.le_refl _, hi, hp⟩, fun _ => by omega⟩⟩
    | false =>
      rw [hp] at e
      refine ⟨r, Ev.step1 e h1 (fun k hk => hf k i hi hk), h2.trans ⟨fun ⟨j, q1, q2⟩ => ⟨j, by omega, q2⟩, fun ⟨j, q1, q2, q3⟩ => ?_⟩⟩
      rcases Nat.eq_or_lt_of_le q1 with rfl | hlt
      · rw [hp] at q3; exact absurd q3 (by simp)
      · exact ⟨j, hlt, q2, q3⟩

def nmL : List ByteArray := [(⟨#[97, 115, 104]⟩ : ByteArray), (⟨#[98, 101, 101, 99, 104]⟩ : ByteArray), (⟨#[98, 105, 114, 99, 104]⟩ : ByteArray), (⟨#[99, 104, 101, 114, 114, 121]⟩ : ByteArray), (⟨#[101, 98, 111, 110, 121]⟩ : ByteArray), (⟨#[104, 111, 108, 108, 121]⟩ : ByteArray), (⟨#[109, 97, 112, 108, 101]⟩ : ByteArray), (⟨#[111, 97, 107]⟩ : ByteArray), (⟨#[114, 111, 115, 101, 119, 111, 111, 100]⟩ : ByteArray), (⟨#[119, 97, 108, 110, 117, 116]⟩ : ByteArray)]
theorem names_eq : spec_l07Names.f = some nmL := rfl
theorem nm0 : (rdOf ByteArray.empty nmL 0).toList = ([97, 115, 104] : List UInt8) := by show (⟨#[97, 115, 104]⟩ : ByteArray).toList = _; rw [ByteArray.toList_eq]
theorem nm1 : (rdOf ByteArray.empty nmL 1).toList = ([98, 101, 101, 99, 104] : List UInt8) := by show (⟨#[98, 101, 101, 99, 104]⟩ : ByteArray).toList = _; rw [ByteArray.toList_eq]
theorem nm2 : (rdOf ByteArray.empty nmL 2).toList = ([98, 105, 114, 99, 104] : List UInt8) := by show (⟨#[98, 105, 114, 99, 104]⟩ : ByteArray).toList = _; rw [ByteArray.toList_eq]
theorem nm3 : (rdOf ByteArray.empty nmL 3).toList = ([99, 104, 101, 114, 114, 121] : List UInt8) := by show (⟨#[99, 104, 101, 114, 114, 121]⟩ : ByteArray).toList = _; rw [ByteArray.toList_eq]
theorem nm4 : (rdOf ByteArray.empty nmL 4).toList = ([101, 98, 111, 110, 121] : List UInt8) := by show (⟨#[101, 98, 111, 110, 121]⟩ : ByteArray).toList = _; rw [ByteArray.toList_eq]
theorem nm5 : (rdOf ByteArray.empty nmL 5).toList = ([104, 111, 108, 108, 121] : List UInt8) := by show (⟨#[104, 111, 108, 108, 121]⟩ : ByteArray).toList = _; rw [ByteArray.toList_eq]
theorem nm6 : (rdOf ByteArray.empty nmL 6).toList = ([109, 97, 112, 108, 101] : List UInt8) := by show (⟨#[109, 97, 112, 108, 101]⟩ : ByteArray).toList = _; rw [ByteArray.toList_eq]
theorem nm7 : (rdOf ByteArray.empty nmL 7).toList = ([111, 97, 107] : List UInt8) := by show (⟨#[111, 97, 107]⟩ : ByteArray).toList = _; rw [ByteArray.toList_eq]
theorem nm8 : (rdOf ByteArray.empty nmL 8).toList = ([114, 111, 115, 101, 119, 111, 111, 100] : List UInt8) := by show (⟨#[114, 111, 115, 101, 119, 111, 111, 100]⟩ : ByteArray).toList = _; rw [ByteArray.toList_eq]
theorem nm9 : (rdOf ByteArray.empty nmL 9).toList = ([119, 97, 108, 110, 117, 116] : List UInt8) := by show (⟨#[119, 97, 108, 110, 117, 116]⟩ : ByteArray).toList = _; rw [ByteArray.toList_eq]
theorem nm_hit (s : ByteArray) (i : Nat) (hi : i < 10) (h : (rdOf ByteArray.empty nmL (i : Int)).toList = s.toList) : Ev (fun k => spec_l07Find.l0 k s nmL (i : Int)) (i : Int) := by
  refine Ev.some_eq fun k => ?_
  simp only [spec_l07Find.l0, show nmL.length = 10 from rfl]; rw [if_pos (by omega), if_pos (by omega), if_pos h]
theorem nm_miss (s : ByteArray) (i : Nat) (hi : i < 10) (r : Int) (h : ¬ (rdOf ByteArray.empty nmL (i : Int)).toList = s.toList) (hr : Ev (fun k => spec_l07Find.l0 k s nmL ((i + 1 : Nat) : Int)) r) : Ev (fun k => spec_l07Find.l0 k s nmL (i : Int)) r := by
  refine Ev.step (fun k => ?_) hr
  simp only [spec_l07Find.l0, show nmL.length = 10 from rfl]; rw [if_pos (by omega), if_pos (by omega), if_neg h, wsucc (by omega)]
/-- The shades of the kinds of wood. -/
def shL : List Int := [20, 35, 15, 50, 95, 5, 10, 40, 80, 70]
theorem sh_row (i : Nat) (hi : i < 10) : ∃ t, spec_l07Table.f = some t ∧ (t.length : Int) = 10 ∧ ((rd_L3 t (i : Int)).length : Int) = 3 ∧ rd (rd_L3 t (i : Int)) 0 = shL.getD i 0 := by
  refine ⟨_, rfl, rfl, ?_, ?_⟩
  · have : i = 0 ∨ i = 1 ∨ i = 2 ∨ i = 3 ∨ i = 4 ∨ i = 5 ∨ i = 6 ∨ i = 7 ∨ i = 8 ∨ i = 9 := by omega
    rcases this with rfl | rfl | rfl | rfl | rfl | rfl | rfl | rfl | rfl | rfl <;> rfl
  · have : i = 0 ∨ i = 1 ∨ i = 2 ∨ i = 3 ∨ i = 4 ∨ i = 5 ∨ i = 6 ∨ i = 7 ∨ i = 8 ∨ i = 9 := by omega
    rcases this with rfl | rfl | rfl | rfl | rfl | rfl | rfl | rfl | rfl | rfl <;> rfl
theorem sh_range (i : Nat) (hi : i < 10) : 0 ≤ shL.getD i 0 ∧ shL.getD i 0 ≤ 100 := by
  have : i = 0 ∨ i = 1 ∨ i = 2 ∨ i = 3 ∨ i = 4 ∨ i = 5 ∨ i = 6 ∨ i = 7 ∨ i = 8 ∨ i = 9 := by omega
  rcases this with rfl | rfl | rfl | rfl | rfl | rfl | rfl | rfl | rfl | rfl <;> decide
theorem species (s : ByteArray) : (∃ i : Nat, i < 10 ∧ Ev (fun k => spec_l07Find.f k s) (i : Int) ∧ impl_speciesShade.f s = some (shL.getD i 0, true)) ∨ (Ev (fun k => spec_l07Find.f k s) (-1) ∧ impl_speciesShade.f s = some (0, false)) := by
  unfold spec_l07Find.f impl_speciesShade.f
  simp only [names_eq, Option.bind_some]
  by_cases h0 : s.toList = ([97, 115, 104] : List UInt8)
  · refine .inl ⟨0, by omega, ?_, ?_⟩
    · exact nm_hit s 0 (by omega) (by rw [h0]; exact nm0)
    · unfold impl_SpeciesData.f; rw [if_pos h0]; rfl
  by_cases h1 : s.toList = ([98, 101, 101, 99, 104] : List UInt8)
  · refine .inl ⟨1, by omega, ?_, ?_⟩
    · exact nm_miss s 0 (by omega) _ (fun e => h0 (by rw [← e]; exact nm0)) (nm_hit s 1 (by omega) (by rw [h1]; exact nm1))
    · unfold impl_SpeciesData.f; rw [if_neg h0, if_pos h1]; rfl
  by_cases h2 : s.toList = ([98, 105, 114, 99, 104] : List UInt8)
  · refine .inl ⟨2, by omega, ?_, ?_⟩
    · exact nm_miss s 0 (by omega) _ (fun e => h0 (by rw [← e]; exact nm0)) (nm_miss s 1 (by omega) _ (fun e => h1 (by rw [← e]; exact nm1)) (nm_hit s 2 (by omega) (by rw [h2]; exact nm2)))
    · unfold impl_SpeciesData.f; rw [if_neg h0, if_neg h1, if_pos h2]; rfl
  by_cases h3 : s.toList = ([99, 104, 101, 114, 114, 121] : List UInt8)
  · refine .inl ⟨3, by omega, ?_, ?_⟩
    · exact nm_miss s 0 (by omega) _ (fun e => h0 (by rw [← e]; exact nm0)) (nm_miss s 1 (by omega) _ (fun e => h1 (by rw [← e]; exact nm1)) (nm_miss s 2 (by omega) _ (fun e => h2 (by rw [← e]; exact nm2)) (nm_hit s 3 (by omega) (by rw [h3]; exact nm3))))
    · unfold impl_SpeciesData.f; rw [if_neg h0, if_neg h1, if_neg h2, if_pos h3]; rfl
  by_cases h4 : s.toList = ([101, 98, 111, 110, 121] : List UInt8)
  · refine .inl ⟨4, by omega, ?_, ?_⟩
    · exact nm_miss s 0 (by omega) _ (fun e => h0 (by rw [← e]; exact nm0)) (nm_miss s 1 (by omega) _ (fun e => h1 (by rw [← e]; exact nm1)) (nm_miss s 2 (by omega) _ (fun e => h2 (by rw [← e]; exact nm2)) (nm_miss s 3 (by omega) _ (fun e => h3 (by rw [← e]; exact nm3)) (nm_hit s 4 (by omega) (by rw [h4]; exact nm4)))))
    · unfold impl_SpeciesData.f; rw [if_neg h0, if_neg h1, if_neg h2, if_neg h3, if_pos h4]; rfl
  by_cases h5 : s.toList = ([104, 111, 108, 108, 121] : List UInt8)
  · refine .inl ⟨5, by omega, ?_, ?_⟩
    · exact nm_miss s 0 (by omega) _ (fun e => h0 (by rw [← e]; exact nm0)) (nm_miss s 1 (by omega) _ (fun e => h1 (by rw [← e]; exact nm1)) (nm_miss s 2 (by omega) _ (fun e => h2 (by rw [← e]; exact nm2)) (nm_miss s 3 (by omega) _ (fun e => h3 (by rw [← e]; exact nm3)) (nm_miss s 4 (by omega) _ (fun e => h4 (by rw [← e]; exact nm4)) (nm_hit s 5 (by omega) (by rw [h5]; exact nm5))))))
    · unfold impl_SpeciesData.f; rw [if_neg h0, if_neg h1, if_neg h2, if_neg h3, if_neg h4, if_pos h5]; rfl
  by_cases h6 : s.toList = ([109, 97, 112, 108, 101] : List UInt8)
  · refine .inl ⟨6, by omega, ?_, ?_⟩
    · exact nm_miss s 0 (by omega) _ (fun e => h0 (by rw [← e]; exact nm0)) (nm_miss s 1 (by omega) _ (fun e => h1 (by rw [← e]; exact nm1)) (nm_miss s 2 (by omega) _ (fun e => h2 (by rw [← e]; exact nm2)) (nm_miss s 3 (by omega) _ (fun e => h3 (by rw [← e]; exact nm3)) (nm_miss s 4 (by omega) _ (fun e => h4 (by rw [← e]; exact nm4)) (nm_miss s 5 (by omega) _ (fun e => h5 (by rw [← e]; exact nm5)) (nm_hit s 6 (by omega) (by rw [h6]; exact nm6)))))))
    · unfold impl_SpeciesData.f; rw [if_neg h0, if_neg h1, if_neg h2, if_neg h3, if_neg h4, if_neg h5, if_pos h6]; rfl
  by_cases h7 : s.toList = ([111, 97, 107] : List UInt8)
  · refine .inl ⟨7, by omega, ?_, ?_⟩
    · exact nm_miss s 0 (by omega) _ (fun e => h0 (by rw [← e]; exact nm0)) (nm_miss s 1 (by omega) _ (fun e => h1 (by rw [← e]; exact nm1)) (nm_miss s 2 (by omega) _ (fun e => h2 (by rw [← e]; exact nm2)) (nm_miss s 3 (by omega) _ (fun e => h3 (by rw [← e]; exact nm3)) (nm_miss s 4 (by omega) _ (fun e => h4 (by rw [← e]; exact nm4)) (nm_miss s 5 (by omega) _ (fun e => h5 (by rw [← e]; exact nm5)) (nm_miss s 6 (by omega) _ (fun e => h6 (by rw [← e]; exact nm6)) (nm_hit s 7 (by omega) (by rw [h7]; exact nm7))))))))
    · unfold impl_SpeciesData.f; rw [if_neg h0, if_neg h1, if_neg h2, if_neg h3, if_neg h4, if_neg h5, if_neg h6, if_pos h7]; rfl
  by_cases h8 : s.toList = ([114, 111, 115, 101, 119, 111, 111, 100] : List UInt8)
  · refine .inl ⟨8, by omega, ?_, ?_⟩
    · exact nm_miss s 0 (by omega) _ (fun e => h0 (by rw [← e]; exact nm0)) (nm_miss s 1 (by omega) _ (fun e => h1 (by rw [← e]; exact nm1)) (nm_miss s 2 (by omega) _ (fun e => h2 (by rw [← e]; exact nm2)) (nm_miss s 3 (by omega) _ (fun e => h3 (by rw [← e]; exact nm3)) (nm_miss s 4 (by omega) _ (fun e => h4 (by rw [← e]; exact nm4)) (nm_miss s 5 (by omega) _ (fun e => h5 (by rw [← e]; exact nm5)) (nm_miss s 6 (by omega) _ (fun e => h6 (by rw [← e]; exact nm6)) (nm_miss s 7 (by omega) _ (fun e => h7 (by rw [← e]; exact nm7)) (nm_hit s 8 (by omega) (by rw [h8]; exact nm8)))))))))
    · unfold impl_SpeciesData.f; rw [if_neg h0, if_neg h1, if_neg h2, if_neg h3, if_neg h4, if_neg h5, if_neg h6, if_neg h7, if_pos h8]; rfl
  by_cases h9 : s.toList = ([119, 97, 108, 110, 117, 116] : List UInt8)
  · refine .inl ⟨9, by omega, ?_, ?_⟩
    · exact nm_miss s 0 (by omega) _ (fun e => h0 (by rw [← e]; exact nm0)) (nm_miss s 1 (by omega) _ (fun e => h1 (by rw [← e]; exact nm1)) (nm_miss s 2 (by omega) _ (fun e => h2 (by rw [← e]; exact nm2)) (nm_miss s 3 (by omega) _ (fun e => h3 (by rw [← e]; exact nm3)) (nm_miss s 4 (by omega) _ (fun e => h4 (by rw [← e]; exact nm4)) (nm_miss s 5 (by omega) _ (fun e => h5 (by rw [← e]; exact nm5)) (nm_miss s 6 (by omega) _ (fun e => h6 (by rw [← e]; exact nm6)) (nm_miss s 7 (by omega) _ (fun e => h7 (by rw [← e]; exact nm7)) (nm_miss s 8 (by omega) _ (fun e => h8 (by rw [← e]; exact nm8)) (nm_hit s 9 (by omega) (by rw [h9]; exact nm9))))))))))
    · unfold impl_SpeciesData.f; rw [if_neg h0, if_neg h1, if_neg h2, if_neg h3, if_neg h4, if_neg h5, if_neg h6, if_neg h7, if_neg h8, if_pos h9]; rfl
  refine .inr ⟨?_, ?_⟩
  · exact nm_miss s 0 (by omega) _ (fun e => h0 (by rw [← e]; exact nm0)) (nm_miss s 1 (by omega) _ (fun e => h1 (by rw [← e]; exact nm1)) (nm_miss s 2 (by omega) _ (fun e => h2 (by rw [← e]; exact nm2)) (nm_miss s 3 (by omega) _ (fun e => h3 (by rw [← e]; exact nm3)) (nm_miss s 4 (by omega) _ (fun e => h4 (by rw [← e]; exact nm4)) (nm_miss s 5 (by omega) _ (fun e => h5 (by rw [← e]; exact nm5)) (nm_miss s 6 (by omega) _ (fun e => h6 (by rw [← e]; exact nm6)) (nm_miss s 7 (by omega) _ (fun e => h7 (by rw [← e]; exact nm7)) (nm_miss s 8 (by omega) _ (fun e => h8 (by rw [← e]; exact nm8)) (nm_miss s 9 (by omega) _ (fun e => h9 (by rw [← e]; exact nm9)) (Ev.some_eq fun k => by simp only [spec_l07Find.l0, show nmL.length = 10 from rfl]; rw [if_neg (by omega)]))))))))))
  · unfold impl_SpeciesData.f; rw [if_neg h0, if_neg h1, if_neg h2, if_neg h3, if_neg h4, if_neg h5, if_neg h6, if_neg h7, if_neg h8, if_neg h9]; rfl
/-- Is a veneer good? Both sides agree. -/
theorem ven_same (x : S55) (h1 : -9223372036854775808 ≤ x.f1 ∧ x.f1 ≤ 9223372036854775807) : ∃ r, Ev (fun k => spec_l07Ok.f k [x]) r ∧ impl_ValidVeneer.f x.f0 x.f1 x.f2 = some r := by
  have s0 : ∀ t, Ev (fun k => spec_l07Ok.j0 k [x] t true) false := fun t => Ev.some_eq fun k => by simp only [spec_l07Ok.j0]; rfl
  have hx : rd_T55 [x] 0 = x := rfl
  unfold spec_l07Ok.f impl_ValidVeneer.f
  simp only [hx, List.length_singleton, if_pos (show (0 : Int) < ((1 : Nat) : Int) by omega)]
  rcases species x.f0 with ⟨i, hi, e1, e2⟩ | ⟨e1, e2⟩
  · have hr := sh_range i hi
    obtain ⟨t, t1, t2, t3, t4⟩ := sh_row i hi
    refine ⟨decide (0 ≤ x.f1 ∧ x.f1 ≤ 100) && decide (-15 ≤ x.f1 - shL.getD i 0 ∧ x.f1 - shL.getD i 0 ≤ 15) && decide (0 ≤ x.f2 ∧ x.f2 ≤ 179), Ev.bind e1 ?_, ?_⟩
    · simp only [if_neg (show ¬ (i : Int) < 0 by omega), in_eq, Option.bind_some]
      by_cases ha : 0 ≤ x.f1 ∧ x.f1 ≤ 100
      · simp only [ha, and_self, decide_true, Bool.not_true, Bool.true_and]
        refine Ev.some_eq fun k => ?_
        simp only [spec_l07Ok.j0, t1, Option.bind_some, hx, List.length_singleton, t4, in_eq, spec_l07Grain.f]
        rw [if_neg Bool.false_ne_true, if_pos (by omega), if_pos (by omega), if_pos (by omega), if_pos (by omega), w64 (x := shL.getD i 0 - 15) (by omega) (by omega), w64 (x := shL.getD i 0 + 15) (by omega) (by omega)]
        by_cases hb : -15 ≤ x.f1 - shL.getD i 0 ∧ x.f1 - shL.getD i 0 ≤ 15
        · rw [if_pos (decide_eq_true (by omega)), decide_eq_true hb]; simp
        · rw [if_neg (by simp only [decide_eq_true_eq]; omega), decide_eq_false hb]; simp
      · rw [decide_eq_false ha]; exact s0 _
    · simp only [e2, Option.bind_some, within_eq, if_true]
      by_cases ha : 0 ≤ x.f1 ∧ x.f1 ≤ 100
      · rw [if_pos (decide_eq_true ha), w64 (x := x.f1 - shL.getD i 0) (by omega) (by omega), decide_eq_true ha]
        by_cases hb : -15 ≤ x.f1 - shL.getD i 0 ∧ x.f1 - shL.getD i 0 ≤ 15
        · rw [if_pos (decide_eq_true hb), decide_eq_true hb]; simp
        · rw [if_neg (by simpa using hb), decide_eq_false hb]; simp
      · rw [if_neg (by simpa using ha), decide_eq_false ha]; simp
  · refine ⟨false, Ev.bind e1 ?_, ?_⟩
    · simp only [if_pos (show (-1 : Int) < 0 by omega)]; exact s0 _
    · simp only [e2, Option.bind_some]; rfl

/-- Are all sheets good? -/
theorem sheets_same (l : List S55) (hl : l.length ≤ 1048576) (hB : ∀ x ∈ l, -9223372036854775808 ≤ x.f1 ∧ x.f1 ≤ 9223372036854775807) :
    ∃ r, Ev (fun k => spec_l15Sheets.f k l) r ∧ Ev (fun k => impl_validSheets.f k l) r ∧ (r = true → 1 ≤ l.length ∧ l.length ≤ 8) := by
  obtain ⟨p, hp⟩ : ∃ p : Nat → Bool, ∀ i, i < l.length → Ev (fun k => spec_l07Ok.f k [l.getD i z55]) (p i) ∧ impl_ValidVeneer.f (l.getD i z55).f0 (l.getD i z55).f1 (l.getD i z55).f2 = some (p i) := by
    refine ⟨fun i => if h : i < l.length then (ven_same (l.getD i z55) (hB _ (getD_mem _ h))).choose else false, fun i hi => ?_⟩
    simp only [dif_pos hi]
    exact (ven_same (l.getD i z55) (hB _ (getD_mem _ hi))).choose_spec
  have hrd : ∀ i : Nat, rd_T55 l (i : Int) = l.getD i z55 := fun i => by unfold rd_T55; simp
  obtain ⟨r, e1, e2⟩ := index_gen l.length (by omega) (fun k i => slices_IndexFunc_impl_Veneer__impl_validVeneers_1.l0 k l (l.length : Int) i) (fun _ i => some (!(p i))) (fun i => !(p i)) (fun i _ => Ev.now _)
    (fun k => by simp only [slices_IndexFunc_impl_Veneer__impl_validVeneers_1.l0]; rw [if_neg (by omega)])
    (fun k i hi hk => by
      simp only [slices_IndexFunc_impl_Veneer__impl_validVeneers_1.l0, impl_validVeneers_1.f, hrd, (hp i hi).2, hk, Option.bind_some]; rw [if_pos (by omega), if_pos (by omega), if_pos (by omega), if_pos (by simpa using hk)])
    (fun k i hi hk => by
      simp only [slices_IndexFunc_impl_Veneer__impl_validVeneers_1.l0, impl_validVeneers_1.f, hrd, (hp i hi).2, hk, Option.bind_some]; rw [if_pos (by omega), if_pos (by omega), if_pos (by omega), if_neg (by simpa using hk), wsucc (by omega)])
  have hv : Ev (fun k => impl_validVeneers.f k l) (!(decide (r ≥ 0))) := by
    unfold impl_validVeneers.f slices_ContainsFunc_impl_Veneer__impl_validVeneers_1.f slices_IndexFunc_impl_Veneer__impl_validVeneers_1.f
    exact Ev.bind (Ev.bind e1 (Ev.now _)) (Ev.now _)
  have hs := down (n := l.length) (Q := fun i => ∃ q, Ev (fun k => spec_l15Sheets.l0 k l (i : Int)) q ∧ (q = true ↔ (∀ j, i ≤ j → j < l.length → p j = true) ∧ 1 ≤ l.length ∧ l.length ≤ 8)) ?_ ?_
  · obtain ⟨q, q1, q2⟩ := hs
    refine ⟨q, q1, ?_, fun h => (q2.1 h).2⟩
    unfold impl_validSheets.f
    simp only [within_eq, Option.bind_some]
    by_cases hb : 1 ≤ (l.length : Int) ∧ (l.length : Int) ≤ 8
    · simp only [hb, and_self, decide_true, if_true]
      have : q = !(decide (r ≥ 0)) := by
        rw [Bool.eq_iff_iff, q2, Bool.not_eq_true', decide_eq_false_iff_not, e2]
        refine ⟨fun h ⟨i, hi, hpi⟩ => by rw [h.1 i (Nat.zero_le _) hi] at hpi; exact absurd hpi (by simp), fun h => ⟨fun j _ hj => ?_, by omega, by omega⟩⟩
        cases hpj : p j with
        | true => rfl
        | false => exact absurd ⟨j, hj, by rw [hpj]; rfl⟩ h
      rw [this]; exact Ev.bind hv (Ev.now _)
    · have : q = false := by
        cases q with
        | false => rfl
        | true => exact absurd (q2.1 rfl).2 (by omega)
      rw [this]; simp only [if_neg (show ¬ decide (1 ≤ (l.length : Int) ∧ (l.length : Int) ≤ 8) = true by simpa using hb)]; exact Ev.now _
  · refine ⟨decide (1 ≤ (l.length : Int) ∧ (l.length : Int) ≤ 8), Ev.some_eq fun k => ?_, ?_⟩
    · simp only [spec_l15Sheets.l0]; rw [if_neg (by omega)]
      by_cases h1 : (l.length : Int) ≥ 1
      · rw [if_pos h1]; simp [show 1 ≤ (l.length : Int) from h1]
      · rw [if_neg h1, decide_eq_false (by omega)]
    · rw [decide_eq_true_eq]; exact ⟨fun h => ⟨fun j h1 h2 => by omega, by omega, by omega⟩, fun h => by omega⟩
  · intro i hi ⟨q, q1, q2⟩
    obtain ⟨h1, _⟩ := hp i hi
    cases hpi : p i with
    | true =>
      rw [hpi] at h1
      refine ⟨q, Ev.step1 h1 q1 (fun k hk => ?_), q2.trans ⟨fun h => ⟨fun j a b => ?_, h.2⟩, fun h => ⟨fun j a b => h.1 j (by omega) b, h.2⟩⟩⟩
      · simp only [spec_l15Sheets.l0, hrd, hk, Option.bind_some]; (repeat (first | rw [if_pos (by omega)] | rw [if_neg (by omega)] | rw [if_pos (rfl : true = true)] | rw [if_neg Bool.false_ne_true] | rw [if_pos trivial])); rw [wsucc (by omega)]
      · rcases Nat.eq_or_lt_of_le a with rfl | hlt
        · exact hpi
        · exact h.1 j hlt b
    | false =>
      rw [hpi] at h1
      refine ⟨false, Ev.step1 h1 (Ev.now _) (fun k hk => ?_), by simp; intro h; have := h i (Nat.le_refl _) hi; rw [hpi] at this; exact absurd this (by simp)⟩
      simp only [spec_l15Sheets.l0, hrd, hk, Option.bind_some]; rw [if_pos (by omega), if_pos (by omega)]; rfl
theorem packet_same (l : List S55) (hl : l.length ≤ 1048576) (hB : ∀ x ∈ l, -9223372036854775808 ≤ x.f1 ∧ x.f1 ≤ 9223372036854775807) (xs : List Int) (hx : xs.length ≤ 1048576) :
    ∃ r, Ev (fun k => spec_l15Ok.f k [⟨l, xs⟩]) r ∧ Ev (fun k => impl_ValidPacket.f k l xs) r ∧ (r = true → (1 ≤ l.length ∧ l.length ≤ 8) ∧ xs.length ≤ 24 ∧ ∀ j, j < xs.length → 0 ≤ xs.getD j 0 ∧ xs.getD j 0 ≤ (l.length : Int) - 1) := by
  obtain ⟨r, e1, e2, e3⟩ := sheets_same l hl hB
  have hp : rd_T37 [⟨l, xs⟩] 0 = ⟨l, xs⟩ := rfl
  unfold spec_l15Ok.f impl_ValidPacket.f
  simp only [hp, List.length_singleton, if_pos (show (0 : Int) < ((1 : Nat) : Int) by omega)]
  cases r with
  | false => exact ⟨false, Ev.bind e1 (Ev.now _), Ev.bind e2 (Ev.now _), by simp⟩
  | true =>
    obtain ⟨l1, l8⟩ := e3 rfl
    have hw : wrap64 ((l.length : Int) - 1) = (l.length : Int) - 1 := w64 (by omega) (by omega)
    obtain ⟨q, f1, f2⟩ := index_gen xs.length (by omega) (fun k i => slices_IndexFunc_int64_int64__impl_ValidPacket_1.l0 k xs (xs.length : Int) i [⟨l, xs⟩]) (fun _ i => some (!(decide (0 ≤ xs.getD i 0 ∧ xs.getD i 0 ≤ (l.length : Int) - 1)))) (fun i => !(decide (0 ≤ xs.getD i 0 ∧ xs.getD i 0 ≤ (l.length : Int) - 1))) (fun i _ => Ev.now _)
      (fun k => by simp only [slices_IndexFunc_int64_int64__impl_ValidPacket_1.l0]; rw [if_neg (by omega)])
      (fun k i hi hk => by
        simp only [slices_IndexFunc_int64_int64__impl_ValidPacket_1.l0, impl_ValidPacket_1.f, hp, List.length_singleton, rd_nat, within_eq, hw, Option.bind_some]; rw [if_pos (by omega), if_pos (by omega), if_pos (by omega), if_pos (by omega)]; simp only [Option.bind_some]; rw [if_pos (by simpa using hk)])
      (fun k i hi hk => by
        simp only [slices_IndexFunc_int64_int64__impl_ValidPacket_1.l0, impl_ValidPacket_1.f, hp, List.length_singleton, rd_nat, within_eq, hw, Option.bind_some]; rw [if_pos (by omega), if_pos (by omega), if_pos (by omega), if_pos (by omega)]; simp only [Option.bind_some]; rw [if_neg (by simpa using hk), wsucc (by omega)])
    have hc : Ev (fun k => slices_ContainsFunc_int64_int64__impl_ValidPacket_1.f k xs [⟨l, xs⟩]) (decide (q ≥ 0)) := by
      unfold slices_ContainsFunc_int64_int64__impl_ValidPacket_1.f slices_IndexFunc_int64_int64__impl_ValidPacket_1.f
      exact Ev.bind f1 (Ev.now _)
    have hs := down (n := xs.length) (Q := fun i => ∃ t, Ev (fun k => spec_l15Shifts.l0 k xs (l.length : Int) (i : Int)) t ∧ (t = true ↔ (∀ j, i ≤ j → j < xs.length → 0 ≤ xs.getD j 0 ∧ xs.getD j 0 ≤ (l.length : Int) - 1) ∧ xs.length ≤ 24)) ?_ ?_
    · obtain ⟨t, t1, t2⟩ := hs
      refine ⟨t, Ev.bind e1 ?_, Ev.bind e2 ?_, fun h => ⟨⟨l1, l8⟩, (t2.1 h).2, fun j hj => (t2.1 h).1 j (Nat.zero_le _) hj⟩⟩
      · simp only [if_true]; exact Ev.bind (show Ev (fun k => spec_l15Shifts.f k xs (l.length : Int)) t from t1) (Ev.now _)
      · simp only [if_true]
        by_cases hg : (xs.length : Int) > 24
        · have : t = false := by
            cases t with
            | false => rfl
            | true => exact absurd (t2.1 rfl).2 (by omega)
          rw [this]; simp only [if_pos hg]; exact Ev.now _
        · simp only [if_neg hg]
          have : t = !(decide (q ≥ 0)) := by
            rw [Bool.eq_iff_iff, t2, Bool.not_eq_true', decide_eq_false_iff_not, f2]
            refine ⟨fun h ⟨i, hi, hpi⟩ => absurd (h.1 i (Nat.zero_le _) hi) (of_decide_eq_false (by rw [Bool.not_eq_true'] at hpi; exact hpi)), fun h => ⟨fun j _ hj => ?_, by omega⟩⟩
            by_cases hq : 0 ≤ xs.getD j 0 ∧ xs.getD j 0 ≤ (l.length : Int) - 1
            · exact hq
            · exact absurd ⟨j, hj, by rw [decide_eq_false hq]; rfl⟩ h
          rw [this]; exact Ev.bind hc (Ev.now _)
    · refine ⟨decide ((xs.length : Int) ≤ 24), Ev.some_eq fun k => ?_, ?_⟩
      · simp only [spec_l15Shifts.l0]; rw [if_neg (by omega)]
      · rw [decide_eq_true_eq]; exact ⟨fun h => ⟨fun j h1 h2 => by omega, by omega⟩, fun h => by omega⟩
    · intro i hi ⟨t, t1, t2⟩
      by_cases hg : 0 ≤ xs.getD i 0 ∧ xs.getD i 0 ≤ (l.length : Int) - 1
      · refine ⟨t, Ev.step (fun k => ?_) t1, t2.trans ⟨fun h => ⟨fun j a b => ?_, h.2⟩, fun h => ⟨fun j a b => h.1 j (by omega) b, h.2⟩⟩⟩
        · simp only [spec_l15Shifts.l0, rd_nat, in_eq, hw, Option.bind_some, decide_eq_true_eq]; rw [if_pos (by omega), if_pos (by omega), if_pos hg, wsucc (by omega)]
        · rcases Nat.eq_or_lt_of_le a with rfl | hlt
          · exact hg
          · exact h.1 j hlt b
      · refine ⟨false, Ev.some_eq fun k => ?_, by simp; intro h; exact absurd (h i (Nat.le_refl _) hi) (by simpa using hg)⟩
        simp only [spec_l15Shifts.l0, rd_nat, in_eq, hw, Option.bind_some, decide_eq_true_eq]; rw [if_pos (by omega), if_pos (by omega), if_neg hg]

/-- The law's own copies and comparisons. -/
theorem szP_le (l : List S65) (hB : ∀ x ∈ l, x.f0.size ≤ 9223372036854775807) (hl : l.length ≤ 9223372036854775807) (xs : List Int) (hx : xs.length ≤ 9223372036854775807) (a : Int) (h0 : 0 ≤ a) (h1 : a ≤ 1048576) :
    ∃ r, Ev (fun k => laws_szPacket.f k l xs a) r ∧ (0 ≤ r → l.length ≤ 1048576 ∧ xs.length ≤ 1048576) ∧ r ≤ 1048576 := by
  obtain ⟨n, e1, e2, e3⟩ := szVenS_le l hB hl a h0 h1
  unfold laws_szPacket.f
  by_cases hn : n < 0
  · refine ⟨-1, Ev.bind e1 ?_, by omega, by omega⟩
    simp only [if_pos hn]; exact Ev.now _
  · have hw : wrap64 (n - (xs.length : Int)) = n - (xs.length : Int) := w64 (by omega) (by omega)
    by_cases hm : wrap64 (n - (xs.length : Int)) < 0
    · refine ⟨-1, Ev.bind e1 ?_, by omega, by omega⟩
      simp only [if_neg hn, laws_szInt64S.f, if_pos hm, Option.bind_some]; exact Ev.now _
    · refine ⟨wrap64 (n - (xs.length : Int)), Ev.bind e1 ?_, fun _ => ⟨by have := e2 (by omega); omega, by omega⟩, by omega⟩
      simp only [if_neg hn, laws_szInt64S.f, if_neg hm, Option.bind_some]; exact Ev.now _
theorem toP_eq (l : List S65) (hl : l.length ≤ 1048576) (xs : List Int) (hx : xs.length ≤ 1048576) : Ev (fun k => laws_toPacket.f k l xs) (l.map cvVen, xs) := by
  unfold laws_toPacket.f
  exact Ev.bind (toVenS_eq l hl) (Ev.bind (toS_eq xs hx) (Ev.now _))
theorem eqP_same (l : List S55) (hl : l.length ≤ 1048576) (xs : List Int) (hx : xs.length ≤ 1048576) : Ev (fun k => laws_eqPacket.f k l xs l xs) true := by
  unfold laws_eqPacket.f
  refine Ev.bind (eqVenS_same l hl) ?_
  simp only [if_true]
  exact Ev.bind (eqS_same xs (by omega)) (Ev.now _)
theorem ven_wf (l : List S65) (hB : ∀ x ∈ l, B65 x) : ∀ x ∈ l.map cvVen, -9223372036854775808 ≤ x.f1 ∧ x.f1 ≤ 9223372036854775807 := fun x hx => by
  obtain ⟨y, hy, rfl⟩ := List.mem_map.1 hx
  exact wf64 (hB y hy).2.1

theorem rdz (xs : List Int) (i : Nat) : rd xs (i : Int) = xs.getD i 0 := by show xs.getD (i : Int).toNat 0 = _; rw [Int.toNat_natCast]

/-- Numbers in decimal. -/
theorem ba_ext {a b : ByteArray} (h : a.data.toList = b.data.toList) : a = b := by
  cases a; cases b; simp at h; simpa using h
theorem ba_app (a b : ByteArray) : (a ++ b).data.toList = a.data.toList ++ b.data.toList := by
  rw [ByteArray.data_append]; simp
theorem ba_size (a : ByteArray) : a.size = a.data.toList.length := by rw [Array.length_toList]; rfl
def txt (n : Int) : ByteArray := ⟨(Go.Lib.itoa n).toArray⟩
theorem txt_data (n : Int) : (txt n).data.toList = Go.Lib.itoa n := rfl
def lows (u : Nat) : List Int := if h : u = 0 then [] else (48 + ((u % 10 : Nat) : Int)) :: lows (u / 10)
termination_by u
decreasing_by omega
theorem lows_zero : lows 0 = [] := by rw [lows, dif_pos rfl]
theorem lows_pos {u : Nat} (h : u ≠ 0) : lows u = (48 + ((u % 10 : Nat) : Int)) :: lows (u / 10) := by rw [lows, dif_neg h]
theorem lows_len : ∀ (k u : Nat), u < 10 ^ k → (lows u).length ≤ k := by
  intro k
  induction k with
  | zero => intro u h; obtain rfl : u = 0 := by simpa using h
            rw [lows_zero]; exact Nat.le_refl _
  | succ k ih =>
    intro u h
    by_cases h0 : u = 0
    · subst h0; rw [lows_zero]; exact Nat.zero_le _
    · rw [lows_pos h0, List.length_cons]
      have := ih (u / 10) (by rw [Nat.pow_succ] at h; omega)
      omega
theorem lows_dec (u : Nat) (h : u ≠ 0) : ((lows u).reverse.map fun n => UInt8.ofNat n.toNat) = Go.Lib.decDigits u := by
  induction u using Nat.strongRecOn with
  | ind u ih =>
    have e : UInt8.ofNat (48 + ((u % 10 : Nat) : Int)).toNat = UInt8.ofNat (48 + u % 10) := by congr 1
    rw [lows_pos h, List.reverse_cons, List.map_append, Go.Lib.decDigits]
    by_cases h10 : u < 10
    · rw [dif_pos h10, show u / 10 = 0 by omega, lows_zero]
      simp only [List.reverse_nil, List.map_nil, List.nil_append, List.map_cons]
      rw [e, Nat.mod_eq_of_lt h10]
    · rw [dif_neg h10, ih (u / 10) (by omega) (by omega)]
      simp only [List.map_cons, List.map_nil]
      rw [e]
theorem dec_rev (ds : List Int) (hl : ds.length ≤ 1000000) : ∀ (j : Nat) (out : List Int), j ≤ ds.length → out.length + j ≤ 1000000 → Ev (fun k => spec_l01Dec.l1 k ds out ((j : Int) - 1)) (strOfNums (out ++ (ds.take j).reverse)) := by
  intro j
  induction j with
  | zero =>
    intro out hj ho
    refine Ev.some_eq fun k => ?_
    simp only [spec_l01Dec.l1, List.take_zero, List.reverse_nil, List.append_nil]; rw [if_neg (by omega)]
  | succ j ih =>
    intro out hj ho
    have h := ih (out ++ [ds.getD j 0]) (by omega) (by rw [List.length_append, List.length_singleton]; omega)
    have e : out ++ (ds.take (j + 1)).reverse = out ++ [ds.getD j 0] ++ (ds.take j).reverse := by
      rw [List.take_succ_eq_append_getElem (by omega), List.reverse_append, List.getD_eq_getElem?_getD, List.getElem?_eq_getElem (by omega)]
      simp
    rw [e]
    refine Ev.step (fun k => ?_) h
    have hr : rd ds (((j + 1 : Nat) : Int) - 1) = ds.getD j 0 := by show ds.getD (((j + 1 : Nat) : Int) - 1).toNat 0 = _; rw [show (((j + 1 : Nat) : Int) - 1).toNat = j by omega]
    simp only [spec_l01Dec.l1, hr]; rw [if_pos (by omega), if_pos (by omega), if_pos (by omega), if_pos (by omega), w64 (by omega) (by omega), show ((j + 1 : Nat) : Int) - 1 - 1 = (j : Int) - 1 by omega]
theorem dec_digits (n : Int) (r : ByteArray) : ∀ (u : Nat) (m : Int) (acc : List Int), m.natAbs = u → u ≤ 1000000000000 → acc.length + u ≤ 10000000000000 → Ev (fun k => spec_l01Dec.l0 k n (acc ++ lows u) 0) r → Ev (fun k => spec_l01Dec.l0 k n acc m) r := by
  intro u
  induction u using Nat.strongRecOn with
  | ind u ih =>
    intro m acc hm hu ha hr
    by_cases h0 : u = 0
    · subst h0
      obtain rfl : m = 0 := by omega
      rw [lows_zero, List.append_nil] at hr; exact hr
    · rw [lows_pos h0] at hr
      have hr' : Ev (fun k => spec_l01Dec.l0 k n ((acc ++ [48 + ((u % 10 : Nat) : Int)]) ++ lows (u / 10)) 0) r := by rw [List.append_assoc]; exact hr
      have hq : (Int.tdiv m 10).natAbs = u / 10 := by rw [Int.natAbs_tdiv, hm]; rfl
      have hd0 : -1000000000000 ≤ Int.tdiv m 10 ∧ Int.tdiv m 10 ≤ 1000000000000 := by omega
      have h := ih (u / 10) (by omega) (Int.tdiv m 10) (acc ++ [48 + ((u % 10 : Nat) : Int)]) hq (by omega) (by rw [List.length_append, List.length_singleton]; omega) hr'
      have ht : (Int.tmod m 10).natAbs = u % 10 := by rw [Int.natAbs_tmod, hm]; rfl
      refine Ev.step (fun k => ?_) h
      simp only [spec_l01Dec.l0]
      rw [if_neg (by omega), w64 (x := Int.tdiv m 10) (by omega) (by omega)]
      by_cases hs : Int.tmod m 10 < 0
      · rw [if_pos hs, if_pos (by omega), w64 (x := -(Int.tmod m 10)) (by omega) (by omega), w64 (x := 48 + -(Int.tmod m 10)) (by omega) (by omega), show (48 + -(Int.tmod m 10)) % 256 = 48 + ((u % 10 : Nat) : Int) by omega]
      · rw [if_neg hs, if_pos (by omega), w64 (x := 48 + Int.tmod m 10) (by omega) (by omega), show (48 + Int.tmod m 10) % 256 = 48 + ((u % 10 : Nat) : Int) by omega]
theorem txt_len (n : Int) (h : -1000000000000 ≤ n ∧ n ≤ 1000000000000) : (Go.Lib.itoa n).length ≤ 20 := by
  have hd : ∀ u : Nat, u < 10 ^ 13 → (Go.Lib.decDigits u).length ≤ 13 := fun u hu => by
    by_cases h0 : u = 0
    · subst h0; rw [Go.Lib.decDigits, dif_pos (by omega)]; decide
    · rw [← lows_dec u h0]; simp only [List.length_map, List.length_reverse]; exact lows_len 13 u hu
  unfold Go.Lib.itoa
  split
  · have := hd n.natAbs (by omega); rw [List.length_cons]; omega
  · have := hd n.toNat (by omega); omega
theorem dec_ev (n : Int) (h : -1000000000000 ≤ n ∧ n ≤ 1000000000000) : Ev (fun k => spec_l01Dec.f k n) (txt n) := by
  unfold spec_l01Dec.f
  by_cases h0 : n = 0
  · subst h0
    have e : txt 0 = (⟨#[48]⟩ : ByteArray) := ba_ext (by rw [txt_data]; unfold Go.Lib.itoa; rw [if_neg (by omega), Go.Lib.decDigits, dif_pos (by decide)]; rfl)
    rw [e]; simp only [if_true]; exact Ev.now _
  · simp only [if_neg h0]
    have hl : (lows n.natAbs).length ≤ 13 := lows_len 13 _ (by omega)
    refine dec_digits n (txt n) n.natAbs n [] rfl (by omega) (by simp; omega) ?_
    rw [List.nil_append]
    have hj : ∀ ds : List Int, ds.length ≤ 14 → strOfNums ds.reverse = txt n → Ev (fun k => spec_l01Dec.j1 k ds) (txt n) := fun ds hd he => by
      have := dec_rev ds (by omega) ds.length [] (Nat.le_refl _) (by simp; omega)
      rw [List.take_of_length_le (Nat.le_refl _), List.nil_append, he] at this
      refine Ev.step (fun k => ?_) this
      simp only [spec_l01Dec.j1]; rw [w64 (by omega) (by omega)]
    by_cases hn : n < 0
    · refine Ev.step (fun k => ?_) (hj (lows n.natAbs ++ [45]) (by rw [List.length_append, List.length_singleton]; omega) (ba_ext ?_))
      · simp only [spec_l01Dec.l0]; rw [if_pos trivial, if_pos hn, if_pos (by omega)]
      · rw [strOfNums_data, txt_data, List.reverse_append, List.map_append, lows_dec _ (by omega)]
        unfold Go.Lib.itoa; rw [if_pos hn]; rfl
    · refine Ev.step (fun k => ?_) (hj (lows n.natAbs) (by omega) (ba_ext ?_))
      · simp only [spec_l01Dec.l0]; rw [if_pos trivial, if_neg hn]
      · rw [strOfNums_data, txt_data, lows_dec _ (by omega)]
        unfold Go.Lib.itoa; rw [if_neg hn, show n.natAbs = n.toNat by omega]
theorem decimal_eq (n : Int) (h : -1000000000000 ≤ n ∧ n ≤ 1000000000000) : impl_Decimal.f n = some (txt n) := by
  unfold impl_Decimal.f strconv_FormatInt_48.f
  rw [if_pos rfl, if_pos (by omega), if_pos (by omega)]; rfl
/-- Lists of numbers as text. -/
theorem tail_len (xs : List Int) (h : ∀ x ∈ xs, -1000000000000 ≤ x ∧ x ≤ 1000000000000) : (Go.Lib.joinTail [44] (xs.map Go.Lib.itoa)).length ≤ 21 * xs.length := by
  induction xs with
  | nil => simp [Go.Lib.joinTail]
  | cons x xs ih =>
    have h1 := txt_len x (h x (List.mem_cons_self))
    have h2 := ih (fun y hy => h y (List.mem_cons_of_mem _ hy))
    simp only [Go.Lib.joinTail, List.map_cons, List.flatten_cons, List.length_append, List.length_cons, List.length_nil] at h2 ⊢
    omega
theorem drop_map (xs : List Int) (i : Nat) (hi : i < xs.length) : Go.Lib.joinTail [44] ((xs.drop i).map Go.Lib.itoa) = [44] ++ Go.Lib.itoa (xs.getD i 0) ++ Go.Lib.joinTail [44] ((xs.drop (i + 1)).map Go.Lib.itoa) := by
  rw [List.drop_eq_getElem_cons hi, List.getD_eq_getElem?_getD, List.getElem?_eq_getElem hi, List.map_cons]
  unfold Go.Lib.joinTail
  rw [List.map_cons, List.flatten_cons]
  rfl
theorem spec_tail (xs : List Int) (hl : xs.length ≤ 64) (hb : ∀ j, j < xs.length → -1000000000000 ≤ xs.getD j 0 ∧ xs.getD j 0 ≤ 1000000000000) :
    ∀ (d i : Nat) (out : ByteArray), i + d = xs.length → 1 ≤ i → out.size ≤ 30 * i → Ev (fun k => spec_l01List.l0 k xs out (i : Int)) (out ++ ⟨(Go.Lib.joinTail [44] ((xs.drop i).map Go.Lib.itoa)).toArray⟩) := by
  intro d
  induction d with
  | zero =>
    intro i out hi h1 ho
    have e : out ++ (⟨(Go.Lib.joinTail [44] ((xs.drop i).map Go.Lib.itoa)).toArray⟩ : ByteArray) = out := ba_ext (by rw [ba_app, List.drop_of_length_le (by omega)]; simp [Go.Lib.joinTail])
    rw [e]
    refine Ev.some_eq fun k => ?_
    simp only [spec_l01List.l0]; rw [if_neg (by omega)]
  | succ d ih =>
    intro i out hi h1 ho
    have hx := hb i (by omega)
    have hs : (txt (xs.getD i 0)).size ≤ 20 := by rw [ba_size, txt_data]; exact txt_len _ hx
    have hs1 : (⟨#[44]⟩ : ByteArray).size = 1 := rfl
    have h := ih (i + 1) ((out ++ (⟨#[44]⟩ : ByteArray)) ++ txt (xs.getD i 0)) (by omega) (by omega) (by rw [ByteArray.size_append, ByteArray.size_append]; omega)
    have e : out ++ (⟨(Go.Lib.joinTail [44] ((xs.drop i).map Go.Lib.itoa)).toArray⟩ : ByteArray) = (out ++ (⟨#[44]⟩ : ByteArray)) ++ txt (xs.getD i 0) ++ (⟨(Go.Lib.joinTail [44] ((xs.drop (i + 1)).map Go.Lib.itoa)).toArray⟩ : ByteArray) := ba_ext (by
      rw [ba_app, ba_app, ba_app, ba_app, drop_map xs i (by omega), txt_data]; simp)
    rw [e]
    refine Ev.step1 (dec_ev _ hx) h (fun k hk => ?_)
    simp only [spec_l01List.l0, rdz, hk, Option.bind_some]; rw [if_pos (by omega), if_pos (by omega), if_pos (by omega), if_pos (by omega), if_pos (by rw [ByteArray.size_append]; omega), wsucc (by omega)]
def lst (xs : List Int) : ByteArray := ⟨(Go.Lib.join (xs.map Go.Lib.itoa) [44]).toArray⟩
theorem lst_data (xs : List Int) : (lst xs).data.toList = Go.Lib.join (xs.map Go.Lib.itoa) [44] := rfl
theorem lst_len (xs : List Int) (h : ∀ x ∈ xs, -1000000000000 ≤ x ∧ x ≤ 1000000000000) : (Go.Lib.join (xs.map Go.Lib.itoa) [44]).length ≤ 21 * xs.length := by
  cases xs with
  | nil => simp [Go.Lib.join_nil]
  | cons x xs =>
    have h1 := txt_len x (h x (List.mem_cons_self))
    have h2 := tail_len xs (fun y hy => h y (List.mem_cons_of_mem _ hy))
    rw [List.map_cons, Go.Lib.join_cons, List.length_append, List.length_cons]
    omega
theorem list_both (xs : List Int) (hl : xs.length ≤ 64) (hb : ∀ j, j < xs.length → -1000000000000 ≤ xs.getD j 0 ∧ xs.getD j 0 ≤ 1000000000000) : ∃ s, Ev (fun k => spec_l01List.f k xs) s ∧ Ev (fun k => impl_ListText.f k xs) s ∧ s.size ≤ 2000 := by
  have hm : ∀ x ∈ xs, -1000000000000 ≤ x ∧ x ≤ 1000000000000 := fun x hx => by
    obtain ⟨j, hj, rfl⟩ := List.getElem_of_mem hx
    have := hb j hj
    rwa [List.getD_eq_getElem?_getD, List.getElem?_eq_getElem hj] at this
  have hlen := lst_len xs hm
  unfold spec_l01List.f impl_ListText.f
  have hfst : ∀ s, Ev (fun k => impl_ListText.l0 k xs xs (xs.length : Int) (xs.length : Int)) s → Ev (fun k => impl_ListText.l0 k xs xs (xs.length : Int) 0) s := by
    intro s h
    refine down (n := xs.length) (Q := fun i => Ev (fun k => impl_ListText.l0 k xs xs (xs.length : Int) (i : Int)) s) h (fun i hi ih => Ev.step (fun k => ?_) ih)
    simp only [impl_ListText.l0, rdz, within_eq, decide_eq_true (hb i hi), Option.bind_some]; rw [if_pos (by omega), if_pos (by omega), if_pos (by omega), if_pos trivial, wsucc (by omega)]
  simp only [if_neg (show ¬ (xs.length : Int) > 64 by omega)]
  by_cases h0 : (xs.length : Int) = 0
  · simp only [if_pos h0]
    refine ⟨(⟨#[45]⟩ : ByteArray), Ev.now _, hfst _ (Ev.some_eq fun k => ?_), by decide⟩
    simp only [impl_ListText.l0]; rw [if_neg (by omega), if_pos h0]
  · simp only [if_neg h0]
    have hx0 := hb 0 (by omega)
    refine ⟨lst xs, ?_, hfst _ ?_, by rw [ba_size, lst_data]; omega⟩
    · have hs : (txt (xs.getD 0 0)).size ≤ 20 := by rw [ba_size, txt_data]; exact txt_len _ hx0
      have e0 : (⟨#[]⟩ : ByteArray) ++ txt (xs.getD 0 0) = txt (xs.getD 0 0) := ba_ext (by rw [ba_app]; rfl)
      have h := spec_tail xs hl hb (xs.length - 1) 1 (txt (xs.getD 0 0)) (by omega) (Nat.le_refl _) (by omega)
      have e : lst xs = txt (xs.getD 0 0) ++ (⟨(Go.Lib.joinTail [44] ((xs.drop 1).map Go.Lib.itoa)).toArray⟩ : ByteArray) := ba_ext (by
        rw [ba_app, lst_data, txt_data]
        cases xs with
        | nil => simp at h0
        | cons x xs => rw [List.map_cons, Go.Lib.join_cons]; rfl)
      rw [e]
      refine Ev.step1 (dec_ev _ hx0) h (fun k hk => ?_)
      have hr : rd xs 0 = xs.getD 0 0 := rfl
      simp only [spec_l01List.l0, hr, hk, Option.bind_some]; rw [if_pos (by omega), if_neg (by omega), if_pos (by omega), if_pos (by show (⟨#[]⟩ : ByteArray).size + _ ≤ _; rw [show (⟨#[]⟩ : ByteArray).size = 0 from rfl]; omega), e0, w64 (by omega) (by omega)]; rfl
    · have hp := down (n := xs.length) (Q := fun i => ∀ acc : List ByteArray, acc = (xs.take i).map txt → Ev (fun k => impl_ListText.l1 k acc xs (xs.length : Int) (i : Int)) (lst xs)) ?_ ?_
      · refine Ev.step (fun k => ?_) (hp [] (by simp))
        simp only [impl_ListText.l0]; rw [if_neg (by omega), if_neg h0]; rfl
      · intro acc hacc
        rw [List.take_of_length_le (Nat.le_refl _)] at hacc
        have ej : (acc.map (·.data.toList)) = xs.map Go.Lib.itoa := by rw [hacc, List.map_map]; rfl
        refine Ev.some_eq fun k => ?_
        simp only [impl_ListText.l1, strings_Join.f, ej]
        rw [if_neg (by omega), if_pos (by rw [hacc, List.length_map]; omega), if_pos (by show (Go.Lib.join (xs.map Go.Lib.itoa) [44]).length ≤ _; omega)]; rfl
      · intro i hi ih acc hacc
        have hal : acc.length = i := by rw [hacc, List.length_map, List.length_take]; omega
        refine Ev.step (fun k => ?_) (ih (acc ++ [txt (xs.getD i 0)]) (by
          rw [hacc, List.take_succ_eq_append_getElem hi, List.map_append, List.getD_eq_getElem?_getD, List.getElem?_eq_getElem hi]; rfl))
        simp only [impl_ListText.l1, rdz, decimal_eq _ (hb i hi), Option.bind_some]; rw [if_pos (by omega), if_pos (by omega), if_pos (by omega), if_pos (by omega), wsucc (by omega)]

theorem ven_text (x : S55) (hs : x.f0.size ≤ 1048576) (h1 : -9223372036854775808 ≤ x.f1 ∧ x.f1 ≤ 9223372036854775807) (hok : impl_ValidVeneer.f x.f0 x.f1 x.f2 = some true) :
    ∃ t, Ev (fun k => spec_l07Text.f k [x]) t ∧ impl_VeneerText.f x.f0 x.f1 x.f2 = some t ∧ t.size ≤ 1048700 := by
  have hr : (0 ≤ x.f1 ∧ x.f1 ≤ 100) ∧ 0 ≤ x.f2 ∧ x.f2 ≤ 179 := by
    unfold impl_ValidVeneer.f impl_speciesShade.f at hok
    cases hd : impl_SpeciesData.f x.f0 with
    | none => rw [hd] at hok; cases hok
    | some v =>
      rw [hd] at hok
      simp only [Option.bind_some, within_eq] at hok
      split at hok
      · split at hok
        · rename_i ha
          split at hok
          · have hb := Option.some.inj hok
            exact ⟨of_decide_eq_true ha, of_decide_eq_true hb⟩
          · cases hok
        · cases hok
      · cases hok
  have hx : rd_T55 [x] 0 = x := rfl
  have b1 : -1000000000000 ≤ x.f1 ∧ x.f1 ≤ 1000000000000 := by omega
  have b2 : -1000000000000 ≤ x.f2 ∧ x.f2 ≤ 1000000000000 := by omega
  have z1 : (txt x.f1).size ≤ 20 := by rw [ba_size, txt_data]; exact txt_len _ b1
  have z2 : (txt x.f2).size ≤ 20 := by rw [ba_size, txt_data]; exact txt_len _ b2
  have h32 : (⟨#[32]⟩ : ByteArray).size = 1 := rfl
  have s1 : (x.f0 ++ (⟨#[32]⟩ : ByteArray)).size + (txt x.f1).size ≤ 9223372036854775807 := by rw [ByteArray.size_append]; omega
  have s2 : ((x.f0 ++ (⟨#[32]⟩ : ByteArray)) ++ txt x.f1).size + 1 ≤ 9223372036854775807 := by rw [ByteArray.size_append, ByteArray.size_append]; omega
  have s3 : (((x.f0 ++ (⟨#[32]⟩ : ByteArray)) ++ txt x.f1) ++ (⟨#[32]⟩ : ByteArray)).size + (txt x.f2).size ≤ 9223372036854775807 := by rw [ByteArray.size_append, ByteArray.size_append, ByteArray.size_append]; omega
  refine ⟨(((x.f0 ++ (⟨#[32]⟩ : ByteArray)) ++ txt x.f1) ++ (⟨#[32]⟩ : ByteArray)) ++ txt x.f2, ?_, ?_, by rw [ByteArray.size_append, ByteArray.size_append, ByteArray.size_append, ByteArray.size_append]; omega⟩
  · unfold spec_l07Text.f
    simp only [hx, List.length_singleton, if_pos (show (0 : Int) < ((1 : Nat) : Int) by omega), if_pos (show x.f0.size + 1 ≤ 9223372036854775807 by omega)]
    refine Ev.bind (dec_ev _ b1) ?_
    simp only [if_pos s1, if_pos s2]
    refine Ev.bind (dec_ev _ b2) ?_
    simp only [if_pos s3]; exact Ev.now _
  · unfold impl_VeneerText.f
    simp only [hok, Option.bind_some, if_true, decimal_eq _ b1, decimal_eq _ b2, if_pos (show x.f0.size + 1 ≤ 9223372036854775807 by omega), if_pos s1, if_pos s2, if_pos s3]
theorem sheets_ok (l : List S55) (hl : l.length ≤ 1048576) (hB : ∀ x ∈ l, -9223372036854775808 ≤ x.f1 ∧ x.f1 ≤ 9223372036854775807) (xs : List Int) (h : Ev (fun k => spec_l15Ok.f k [⟨l, xs⟩]) true) : ∀ j, j < l.length → impl_ValidVeneer.f (l.getD j z55).f0 (l.getD j z55).f1 (l.getD j z55).f2 = some true := by
  have hrd : ∀ i : Nat, rd_T55 l (i : Int) = l.getD i z55 := fun i => by unfold rd_T55; simp
  have hp : rd_T37 [⟨l, xs⟩] 0 = ⟨l, xs⟩ := rfl
  intro j hj
  obtain ⟨r, r1, r2⟩ := ven_same (l.getD j z55) (hB _ (getD_mem _ hj))
  cases r with
  | true => exact r2
  | false =>
    have hs : Ev (fun k => spec_l15Sheets.f k l) false := by
      have hd := down (n := j) (Q := fun i => Ev (fun k => spec_l15Sheets.l0 k l (i : Int)) false) ?_ ?_
      · exact hd
      · refine Ev.step1 r1 (Ev.now _) (fun k hk => ?_)
        simp only [spec_l15Sheets.l0, hrd, hk, Option.bind_some]; rw [if_pos (by omega), if_pos (by omega)]; rfl
      · intro i hi ih
        obtain ⟨q, q1, _⟩ := ven_same (l.getD i z55) (hB _ (getD_mem _ (by omega)))
        cases q with
        | true =>
          refine Ev.step1 q1 ih (fun k hk => ?_)
          simp only [spec_l15Sheets.l0, hrd, hk, Option.bind_some]; rw [if_pos (by omega), if_pos (by omega)]; simp only [if_true]; rw [wsucc (by omega)]
        | false =>
          refine Ev.step1 q1 (Ev.now _) (fun k hk => ?_)
          simp only [spec_l15Sheets.l0, hrd, hk, Option.bind_some]; rw [if_pos (by omega), if_pos (by omega)]; rfl
    have hf : Ev (fun k => spec_l15Ok.f k [⟨l, xs⟩]) false := by
      unfold spec_l15Ok.f
      simp only [hp, List.length_singleton, if_pos (show (0 : Int) < ((1 : Nat) : Int) by omega)]
      exact Ev.bind hs (Ev.now _)
    obtain ⟨K, e1⟩ := h
    obtain ⟨K', e2⟩ := hf
    have a1 := e1 (max K K') (by omega)
    have a2 := e2 (max K K') (by omega)
    rw [a1] at a2
    cases a2
theorem both (l : List S55) (hl : l.length ≤ 1048576) (hB : ∀ x ∈ l, -9223372036854775808 ≤ x.f1 ∧ x.f1 ≤ 9223372036854775807) (hS : ∀ x ∈ l, x.f0.size ≤ 1048576) (xs : List Int) (hx : xs.length ≤ 1048576) :
    ∃ r, Ev (fun k => spec_PacketText.f k l xs) r ∧ Ev (fun k => impl_PacketText.f k l xs) r := by
  obtain ⟨r, e1, e2, e3⟩ := packet_same l hl hB xs hx
  have hp : rd_T37 [⟨l, xs⟩] 0 = ⟨l, xs⟩ := rfl
  have hrd : ∀ i : Nat, rd_T55 l (i : Int) = l.getD i z55 := fun i => by unfold rd_T55; simp
  unfold spec_PacketText.f impl_PacketText.f
  cases r with
  | false => exact ⟨(⟨#[]⟩ : ByteArray), Ev.bind e1 (Ev.now _), Ev.bind e2 (Ev.now _)⟩
  | true =>
    obtain ⟨⟨l1, l8⟩, x24, hr⟩ := e3 rfl
    have hv := sheets_ok l hl hB xs e1
    obtain ⟨t, t1, t2, t3⟩ := list_both xs (by omega) (fun j hj => by have := hr j hj; omega)
    have hd := down (n := l.length) (Q := fun i => ∀ out : ByteArray, out.size ≤ 2000 + 1048800 * i → ∃ r, Ev (fun k => spec_l15Text.l0 k [⟨l, xs⟩] out (i : Int)) r ∧ Ev (fun k => impl_PacketText.l0 k out l (l.length : Int) (i : Int)) r) ?_ ?_
    · obtain ⟨r, r1, r2⟩ := hd t (by omega)
      refine ⟨r, Ev.bind e1 ?_, Ev.bind e2 ?_⟩
      · simp only [if_true]
        refine Ev.bind (a := r) ?_ (Ev.now _)
        unfold spec_l15Text.f
        simp only [hp, List.length_singleton, if_pos (show (0 : Int) < ((1 : Nat) : Int) by omega)]
        exact Ev.bind t1 r1
      · simp only [if_true]; exact Ev.bind t2 r2
    · intro out ho
      refine ⟨out, Ev.some_eq fun k => ?_, Ev.some_eq fun k => ?_⟩
      · simp only [spec_l15Text.l0, hp, List.length_singleton]; rw [if_pos (by omega), if_neg (by omega)]
      · simp only [impl_PacketText.l0]; rw [if_neg (by omega)]
    · intro i hi ih out ho
      have hm := getD_mem z55 hi
      obtain ⟨u, u1, u2, u3⟩ := ven_text (l.getD i z55) (hS _ hm) (hB _ hm) (hv i hi)
      have h47 : (⟨#[47]⟩ : ByteArray).size = 1 := rfl
      have z1 : out.size + ((⟨#[47]⟩ : ByteArray) ++ u).size ≤ 9223372036854775807 := by rw [ByteArray.size_append]; omega
      obtain ⟨r, r1, r2⟩ := ih (out ++ ((⟨#[47]⟩ : ByteArray) ++ u)) (by rw [ByteArray.size_append, ByteArray.size_append]; omega)
      refine ⟨r, Ev.step1 u1 r1 (fun k hk => ?_), Ev.step (fun k => ?_) r2⟩
      · simp only [spec_l15Text.l0, hp, hrd, hk, Option.bind_some, List.length_singleton]; rw [if_pos (by omega), if_pos (by omega), if_pos (by omega), if_pos (by omega), if_pos z1, wsucc (by omega)]
      · simp only [impl_PacketText.l0, hrd, u2, Option.bind_some]; rw [if_pos (by omega), if_pos (by omega), if_pos (by omega), if_pos (by omega), if_pos z1, wsucc (by omega)]
/-- What is measured bounds each text. -/
theorem szV_each (l : List S65) (hB : ∀ x ∈ l, x.f0.size ≤ 9223372036854775807) (hl : l.length ≤ 1048576) : ∀ (b r : Int), 0 ≤ b → b ≤ 1048576 → Ev (fun k => laws_szVeneerS.l0 k l b 0) r → 0 ≤ r → ∀ j, j < l.length → (l.getD j z65).f0.size ≤ 1048576 := by
  intro b r b0 b1 he hr j hj
  have hrd : ∀ i : Nat, rd_T65 l (i : Int) = l.getD i z65 := fun i => by unfold rd_T65; simp
  refine Classical.byContradiction fun hn => ?_
  have hd := down (n := j) (Q := fun i => ∀ b : Int, b ≤ 1048576 → 0 ≤ b → Ev (fun k => laws_szVeneerS.l0 k l b (i : Int)) (-1)) ?_ ?_
  · have h2 := hd b b1 b0
    obtain ⟨K, e1⟩ := he
    obtain ⟨K', e2⟩ := h2
    have a1 := e1 (max K K') (by omega)
    have a2 := e2 (max K K') (by omega)
    have a3 : some r = some (-1) := a1.symm.trans a2
    have := Option.some.inj a3
    omega
  · intro b b1 b0
    have hz := hB _ (getD_mem z65 hj)
    refine Ev.some_eq fun k => ?_
    simp only [laws_szVeneerS.l0, laws_szVeneer.f, hrd]
    rw [if_pos (by omega), if_pos (by omega), if_pos (by rw [w64 (by omega) (by omega)]; omega)]; rfl
  · intro i hi ih b b1 b0
    have hz := hB _ (getD_mem z65 (show i < l.length by omega))
    by_cases hc : wrap64 (b - ((l.getD i z65).f0.size : Int)) < 0
    · refine Ev.some_eq fun k => ?_
      simp only [laws_szVeneerS.l0, laws_szVeneer.f, hrd]
      rw [if_pos (by omega), if_pos (by omega), if_pos hc]; rfl
    · have hw : wrap64 (b - ((l.getD i z65).f0.size : Int)) = b - ((l.getD i z65).f0.size : Int) := w64 (by omega) (by omega)
      refine Ev.step (fun k => ?_) (ih (wrap64 (b - ((l.getD i z65).f0.size : Int))) (by omega) (by omega))
      simp only [laws_szVeneerS.l0, laws_szVeneer.f, hrd]
      rw [if_pos (by omega), if_pos (by omega), if_neg hc]; simp only [Option.bind_some]
      rw [if_neg hc, wsucc (by omega)]
theorem FnExactPacketText : laws_FnExactPacketText.Pure := by
  intro l xs hB
  obtain ⟨⟨b1, b2⟩, b3, _⟩ := hB
  obtain ⟨hB1, _⟩ := ven_B l b2
  suffices h : Ev (fun k => laws_FnExactPacketText.f k l xs) true from h.rounds
  unfold laws_FnExactPacketText.f
  obtain ⟨n, hn, hn1, _⟩ := szP_le l hB1 b1 xs b3 1048576 (by omega) (by omega)
  refine Ev.bind hn (Ev.cond (fun _ => Ev.now _) (fun h0 => ?_))
  obtain ⟨hl, hx⟩ := hn1 (by omega)
  have hS : ∀ x ∈ l.map cvVen, x.f0.size ≤ 1048576 := by
    intro x hm
    obtain ⟨y, hy, rfl⟩ := List.mem_map.1 hm
    obtain ⟨j, hj, rfl⟩ := List.getElem_of_mem hy
    obtain ⟨q, q1, q2, _⟩ := szVenS_le l hB1 b1 1048576 (by omega) (by omega)
    have hq : 0 ≤ q := by
      refine Classical.byContradiction fun hq => ?_
      have hneg : Ev (fun k => laws_szPacket.f k l xs 1048576) (-1) := by
        unfold laws_szPacket.f
        refine Ev.bind q1 ?_
        simp only [if_pos (show q < 0 by omega)]; exact Ev.now _
      obtain ⟨K, e1⟩ := hn
      obtain ⟨K', e2⟩ := hneg
      have a3 : some n = some (-1) := (e1 (max K K') (by omega)).symm.trans (e2 (max K K') (by omega))
      have := Option.some.inj a3
      omega
    have hw : wrap64 (1048576 - (l.length : Int)) = 1048576 - (l.length : Int) := w64 (by omega) (by omega)
    have h2 := szV_each l hB1 hl (1048576 - (l.length : Int)) q (by omega) (by omega) (by
      have := q1
      unfold laws_szVeneerS.f at this
      simp only [hw, if_neg (show ¬ 1048576 - (l.length : Int) < 0 by omega)] at this
      exact this) hq j hj
    rw [List.getD_eq_getElem?_getD, List.getElem?_eq_getElem hj] at h2
    exact h2
  have ht := toP_eq l hl xs hx
  obtain ⟨r, e1, e2⟩ := both (l.map cvVen) (by simpa using hl) (ven_wf l b2) hS xs hx
  refine Ev.bind ht (Ev.bind e1 (Ev.bind ht (Ev.bind e2 ?_)))
  simp only [if_true]
  refine Ev.bind ht (Ev.bind (eqP_same _ (by simpa using hl) xs hx) ?_)
  simp only [if_true]; exact Ev.now _

end Go.Proofs.YtgcfokcmjgoeeaaDoor.Pure

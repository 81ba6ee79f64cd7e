/- For every text the printed law FnExactReadPacket answers true: the program's ReadPacket and the reference's agree, and what comes back is the call's own. -/
import Derived.Test.YtedakffelgmmnaaDoorPFnExactReadPacketx0
namespace Go.Proofs.YtedakffelgmmnaaDoor.Pure
open Go Go.RowKit Go.Proofs.YtedakffelgmmnaaDoor.PFnExactReadPacket Go.Proofs.YtedakffelgmmnaaDoorM Go.Proofs.YtedakffelgmmnaaDoor.LibW
set_option linter.unusedVariables false
set_option linter.unusedSimpArgs false
set_option linter.unnecessarySimpa false

theorem w64 {x : Int} (h0 : -9223372036854775808 ≤ x) (h1 : x ≤ 9223372036854775807) : wrap64 x = x := by unfold wrap64; omega
theorem wf64 {x : Int} (h : (Lit.int .i64 x).wf = true) : -9223372036854775808 ≤ x ∧ x ≤ 9223372036854775807 := by
  simp only [Lit.wf, IntKind.has, Bool.and_eq_true, decide_eq_true_eq] at h
  exact h
theorem maxLen_eq : maxLen = 9223372036854775807 := rfl
theorem Ev.cond {α : Type} {c : Prop} [Decidable c] {g f : Nat → Option α} {r : α} (h : c → Ev g r) (h' : ¬ c → Ev f r) : Ev (fun k => if c then g k else f k) r := by
  by_cases hc : c
  · simp only [if_pos hc]; exact h hc
  · simp only [if_neg hc]; exact h' hc
theorem down {n : Nat} {Q : Nat → Prop} (he : Q n) (hs : ∀ i, i < n → Q (i + 1) → Q i) : Q 0 := by
  have h : ∀ d i, i + d = n → Q i := by
    intro d
    induction d with
    | zero =>
      intro i hi
      have : i = n := by omega
      subst this; exact he
    | succ d ih => intro i hi; exact hs i (by omega) (ih (i + 1) (by omega))
  exact h n 0 (by omega)
theorem wsucc {i : Nat} (h : i < 9223372036854775807) : wrap64 ((i : Int) + 1) = ((i + 1 : Nat) : Int) := by rw [w64 (by omega) (by omega)]; omega
theorem getD_mem {α : Type} {xs : List α} {i : Nat} (z : α) (h : i < xs.length) : xs.getD i z ∈ xs := by
  rw [List.getD_eq_getElem?_getD, List.getElem?_eq_getElem h]; exact List.getElem_mem h
theorem getD_map {α β : Type} {xs : List α} {i : Nat} (c : α → β) (z : α) (z' : β) (h : i < xs.length) : (xs.map c).getD i z' = c (xs.getD i z) := by
  rw [List.getD_eq_getElem?_getD, List.getD_eq_getElem?_getD, List.getElem?_eq_getElem h, List.getElem?_eq_getElem (by simpa using h)]; simp
theorem Ev.some_eq {α : Type} {g : Nat → Option α} {r : α} (h : ∀ k, g (k + 1) = some r) : Ev g r := Ev.step (f := fun _ => some r) h (Ev.now r)
/-- A row made full of one value and filled from the left. -/
theorem ev_fill {α β : Type} (xs : List α) (z : α) (c : α → β) (L : Nat → List β → Int → Option (List β))
    (he : ∀ ys : List β, ys.length = xs.length → Ev (fun k => L k ys (xs.length : Int)) ys)
    (hs : ∀ (ys r : List β) (i : Nat), i < xs.length → ys.length = xs.length → Ev (fun k => L k (ys.set i (c (xs.getD i z))) ((i + 1 : Nat) : Int)) r → Ev (fun k => L k ys (i : Int)) r) :
    ∀ ys : List β, ys.length = xs.length → Ev (fun k => L k ys 0) (xs.map c) := by
  have h : ∀ d (i : Nat) (ys : List β), i + d = xs.length → ys.length = xs.length → Ev (fun k => L k ys (i : Int)) (ys.take i ++ (xs.drop i).map c) := by
    intro d
    induction d with
    | zero =>
      intro i ys hi hy
      have e : i = xs.length := by omega
      subst e
      rw [List.drop_of_length_le (Nat.le_refl _), List.map_nil, List.append_nil, List.take_of_length_le (by omega)]
      exact he ys hy
    | succ d ih =>
      intro i ys hi hy
      have hlt : i < xs.length := by omega
      refine hs ys _ i hlt hy ?_
      have h2 := ih (i + 1) (ys.set i (c (xs.getD i z))) (by omega) (by rw [List.length_set]; exact hy)
      have e2 : (ys.set i (c (xs.getD i z))).take (i + 1) = ys.take i ++ [c (xs.getD i z)] := by
        rw [List.take_succ_eq_append_getElem (by rw [List.length_set]; omega), List.getElem_set_self, List.take_set_of_le (by omega)]
      have e3 : xs.drop i = xs.getD i z :: xs.drop (i + 1) := by
        rw [List.drop_eq_getElem_cons hlt, List.getD_eq_getElem?_getD, List.getElem?_eq_getElem hlt]; rfl
      rw [e2] at h2
      rw [e3, List.map_cons]
      simpa using h2
  intro ys hy
  have := h xs.length 0 ys (by omega) hy
  simpa using this
/-- One round of a loop, which leans on what a call answers. -/
theorem Ev.step1 {α β : Type} {g f : Nat → Option α} {u : Nat → Option β} {b : β} {r : α} (e : Ev u b) (k : Ev f r) (h : ∀ k, u k = some b → g (k + 1) = f k) : Ev g r := by
  obtain ⟨K, e⟩ := e
  obtain ⟨K', k⟩ := k
  refine ⟨max K K' + 1, fun n hn => ?_⟩
  obtain ⟨m, rfl⟩ : ∃ m, n = m + 1 := ⟨n - 1, by omega⟩
  rw [h m (e m (by omega))]
  exact k m (by omega)
theorem Ev.step2 {α β γ : Type} {g f : Nat → Option α} {u : Nat → Option β} {v : Nat → Option γ} {b : β} {c : γ} {r : α} (e : Ev u b) (e' : Ev v c) (k : Ev f r) (h : ∀ k, u k = some b → v k = some c → g (k + 1) = f k) : Ev g r := by
  obtain ⟨K, e⟩ := e
  obtain ⟨K2, e'⟩ := e'
  obtain ⟨K', k⟩ := k
  refine ⟨max (max K K2) K' + 1, fun n hn => ?_⟩
  obtain ⟨m, rfl⟩ : ∃ m, n = m + 1 := ⟨n - 1, by omega⟩
  rw [h m (e m (by omega)) (e' m (by omega))]
  exact k m (by omega)

theorem in_eq (n lo hi : Int) : spec_l00In.f n lo hi = some (decide (lo ≤ n ∧ n ≤ hi)) := by
  unfold spec_l00In.f
  by_cases h : n ≥ lo
  · rw [if_pos h]; simp [show lo ≤ n from h]
  · rw [if_neg h]; simp; omega

theorem within_eq (n lo hi : Int) : impl_within.f n lo hi = some (decide (lo ≤ n ∧ n ≤ hi)) := by
  unfold impl_within.f
  by_cases h : n ≥ lo
  · rw [if_pos h]; simp [show lo ≤ n from h]
  · rw [if_neg h]; simp; omega

theorem eqS_tail (xs : List Int) (hl : xs.length ≤ 9223372036854775807) (d : Nat) : ∀ (i : Int), 0 ≤ i → (xs.length : Int) - i = d → Ev (fun k => laws_eqInt64S.l0 k xs xs i) true := by
  induction d with
  | zero =>
    intro i h0 hd
    refine Ev.step (f := fun _ => some true) (fun k => ?_) (Ev.now _)
    simp only [laws_eqInt64S.l0]; rw [if_neg (by omega)]
  | succ d ih =>
    intro i h0 hd
    refine Ev.step (f := fun k => laws_eqInt64S.l0 k xs xs (i + 1)) (fun k => ?_) (ih (i + 1) (by omega) (by omega))
    simp only [laws_eqInt64S.l0]; rw [if_pos (by omega), if_pos h0, if_pos (by omega), if_pos trivial, w64 (by omega) (by omega)]
theorem eqS_same (xs : List Int) (hl : xs.length ≤ 9223372036854775807) : Ev (fun k => laws_eqInt64S.f k xs xs) true := by
  unfold laws_eqInt64S.f
  simp only [if_true]
  exact eqS_tail xs hl xs.length 0 (by omega) (by omega)

theorem rd_nat (xs : List Int) (i : Nat) : rd2 xs (i : Int) = xs.getD i 0 := by show xs.getD (i : Int).toNat 0 = _; rw [Int.toNat_natCast]

/-- A search for the first place where p holds. -/
theorem index_gen (n : Nat) (hn : n ≤ 9223372036854775807) (L : Nat → Int → Option Int) (u : Nat → Nat → Option Bool) (p : Nat → Bool) (hu : ∀ i, i < n → Ev (fun k => u k i) (p i))
    (he : ∀ k, L (k + 1) (n : Int) = some (-1)) (ht : ∀ k i, i < n → u k i = some true → L (k + 1) (i : Int) = some (i : Int)) (hf : ∀ k i, i < n → u k i = some false → L (k + 1) (i : Int) = L k ((i + 1 : Nat) : Int)) :
    ∃ r : Int, Ev (fun k => L k 0) r ∧ (r ≥ 0 ↔ ∃ i, i < n ∧ p i = true) := by
  have h := down (n := n) (Q := fun i => ∃ r : Int, Ev (fun k => L k (i : Int)) r ∧ (r ≥ 0 ↔ ∃ j, i ≤ j ∧ j < n ∧ p j = true)) ?_ ?_
  · obtain ⟨r, h1, h2⟩ := h
    exact ⟨r, h1, h2.trans ⟨fun ⟨j, _, q⟩ => ⟨j, q⟩, fun ⟨j, q⟩ => ⟨j, Nat.zero_le _, q⟩⟩⟩
  · exact ⟨-1, Ev.some_eq he, ⟨fun h => by omega, fun ⟨j, q1, q2, _⟩ => by omega⟩⟩
  · intro i hi ⟨r, h1, h2⟩
    have e := hu i hi
    cases hp : p i with
    | true =>
      rw [hp] at e
      exact ⟨i, Ev.step1 e (Ev.now _) (fun k hk => ht k i hi hk), ⟨fun _ => ⟨i, Nat.le_refl _, hi, hp⟩, fun _ => by omega⟩⟩
    | false =>
      rw [hp] at e
      refine ⟨r, Ev.step1 e h1 (fun k hk => hf k i hi hk), h2.trans ⟨fun ⟨j, q1, q2⟩ => ⟨j, by omega, q2⟩, fun ⟨j, q1, q2, q3⟩ => ?_⟩⟩
      rcases Nat.eq_or_lt_of_le q1 with rfl | hlt
      · rw [hp] at q3; exact absurd q3 (by simp)
      · exact ⟨j, hlt, q2, q3⟩

def nmL : List ByteArray := [(⟨#[97, 115, 104]⟩ : ByteArray), (⟨#[98, 101, 101, 99, 104]⟩ : ByteArray), (⟨#[98, 105, 114, 99, 104]⟩ : ByteArray), (⟨#[99, 104, 101, 114, 114, 121]⟩ : ByteArray), (⟨#[101, 98, 111, 110, 121]⟩ : ByteArray), (⟨#[104, 111, 108, 108, 121]⟩ : ByteArray), (⟨#[109, 97, 112, 108, 101]⟩ : ByteArray), (⟨#[111, 97, 107]⟩ : ByteArray), (⟨#[114, 111, 115, 101, 119, 111, 111, 100]⟩ : ByteArray), (⟨#[119, 97, 108, 110, 117, 116]⟩ : ByteArray)]
theorem names_eq : spec_l07Names.f = some nmL := rfl
theorem nm0 : (rd9 nmL 0).toList = (⟨#[97, 115, 104]⟩ : ByteArray).toList := rfl
theorem nm1 : (rd9 nmL 1).toList = (⟨#[98, 101, 101, 99, 104]⟩ : ByteArray).toList := rfl
theorem nm2 : (rd9 nmL 2).toList = (⟨#[98, 105, 114, 99, 104]⟩ : ByteArray).toList := rfl
theorem nm3 : (rd9 nmL 3).toList = (⟨#[99, 104, 101, 114, 114, 121]⟩ : ByteArray).toList := rfl
theorem nm4 : (rd9 nmL 4).toList = (⟨#[101, 98, 111, 110, 121]⟩ : ByteArray).toList := rfl
theorem nm5 : (rd9 nmL 5).toList = (⟨#[104, 111, 108, 108, 121]⟩ : ByteArray).toList := rfl
theorem nm6 : (rd9 nmL 6).toList = (⟨#[109, 97, 112, 108, 101]⟩ : ByteArray).toList := rfl
theorem nm7 : (rd9 nmL 7).toList = (⟨#[111, 97, 107]⟩ : ByteArray).toList := rfl
theorem nm8 : (rd9 nmL 8).toList = (⟨#[114, 111, 115, 101, 119, 111, 111, 100]⟩ : ByteArray).toList := rfl
theorem nm9 : (rd9 nmL 9).toList = (⟨#[119, 97, 108, 110, 117, 116]⟩ : ByteArray).toList := rfl
theorem nm_hit (s : ByteArray) (i : Nat) (hi : i < 10) (h : (rd9 nmL (i : Int)).toList = s.toList) : Ev (fun k => spec_l07Find.l0 k s nmL (i : Int)) (i : Int) := by
  refine Ev.some_eq fun k => ?_
  simp only [spec_l07Find.l0, show nmL.length = 10 from rfl]; rw [if_pos (by omega), if_pos (by omega), if_pos h]
theorem nm_miss (s : ByteArray) (i : Nat) (hi : i < 10) (r : Int) (h : ¬ (rd9 nmL (i : Int)).toList = s.toList) (hr : Ev (fun k => spec_l07Find.l0 k s nmL ((i + 1 : Nat) : Int)) r) : Ev (fun k => spec_l07Find.l0 k s nmL (i : Int)) r := by
  refine Ev.step (fun k => ?_) hr
  simp only [spec_l07Find.l0, show nmL.length = 10 from rfl]; rw [if_pos (by omega), if_pos (by omega), if_neg h, wsucc (by omega)]
/-- The shades of the kinds of wood. -/
def shL : List Int := [20, 35, 15, 50, 95, 5, 10, 40, 80, 70]
theorem sh_row (i : Nat) (hi : i < 10) : ∃ t, spec_l07Table.f = some t ∧ (t.length : Int) = 10 ∧ ((rd23 t (i : Int)).length : Int) = 3 ∧ rd2 (rd23 t (i : Int)) 0 = shL.getD i 0 := by
  refine ⟨_, rfl, rfl, ?_, ?_⟩
  · have : i = 0 ∨ i = 1 ∨ i = 2 ∨ i = 3 ∨ i = 4 ∨ i = 5 ∨ i = 6 ∨ i = 7 ∨ i = 8 ∨ i = 9 := by omega
    rcases this with rfl | rfl | rfl | rfl | rfl | rfl | rfl | rfl | rfl | rfl <;> rfl
  · have : i = 0 ∨ i = 1 ∨ i = 2 ∨ i = 3 ∨ i = 4 ∨ i = 5 ∨ i = 6 ∨ i = 7 ∨ i = 8 ∨ i = 9 := by omega
    rcases this with rfl | rfl | rfl | rfl | rfl | rfl | rfl | rfl | rfl | rfl <;> rfl
theorem sh_range (i : Nat) (hi : i < 10) : 0 ≤ shL.getD i 0 ∧ shL.getD i 0 ≤ 100 := by
  have : i = 0 ∨ i = 1 ∨ i = 2 ∨ i = 3 ∨ i = 4 ∨ i = 5 ∨ i = 6 ∨ i = 7 ∨ i = 8 ∨ i = 9 := by omega
  rcases this with rfl | rfl | rfl | rfl | rfl | rfl | rfl | rfl | rfl | rfl <;> decide
theorem species (s : ByteArray) : (∃ i : Nat, i < 10 ∧ Ev (fun k => spec_l07Find.f k s) (i : Int) ∧ impl_speciesShade.f s = some (shL.getD i 0, true)) ∨ (Ev (fun k => spec_l07Find.f k s) (-1) ∧ impl_speciesShade.f s = some (0, false)) := by
  unfold spec_l07Find.f impl_speciesShade.f
  simp only [names_eq, Option.bind_some]
  by_cases h0 : s.toList = (⟨#[97, 115, 104]⟩ : ByteArray).toList
  · refine .inl ⟨0, by omega, ?_, ?_⟩
    · exact nm_hit s 0 (by omega) (by rw [h0]; exact nm0)
    · unfold impl_SpeciesData.f; rw [if_pos h0]; rfl
  by_cases h1 : s.toList = (⟨#[98, 101, 101, 99, 104]⟩ : ByteArray).toList
  · refine .inl ⟨1, by omega, ?_, ?_⟩
    · exact nm_miss s 0 (by omega) _ (fun e => h0 (by rw [← e]; exact nm0)) (nm_hit s 1 (by omega) (by rw [h1]; exact nm1))
    · unfold impl_SpeciesData.f; rw [if_neg h0, if_pos h1]; rfl
  by_cases h2 : s.toList = (⟨#[98, 105, 114, 99, 104]⟩ : ByteArray).toList
  · refine .inl ⟨2, by omega, ?_, ?_⟩
    · exact nm_miss s 0 (by omega) _ (fun e => h0 (by rw [← e]; exact nm0)) (nm_miss s 1 (by omega) _ (fun e => h1 (by rw [← e]; exact nm1)) (nm_hit s 2 (by omega) (by rw [h2]; exact nm2)))
    · unfold impl_SpeciesData.f; rw [if_neg h0, if_neg h1, if_pos h2]; rfl
  by_cases h3 : s.toList = (⟨#[99, 104, 101, 114, 114, 121]⟩ : ByteArray).toList
  · refine .inl ⟨3, by omega, ?_, ?_⟩
    · exact nm_miss s 0 (by omega) _ (fun e => h0 (by rw [← e]; exact nm0)) (nm_miss s 1 (by omega) _ (fun e => h1 (by rw [← e]; exact nm1)) (nm_miss s 2 (by omega) _ (fun e => h2 (by rw [← e]; exact nm2)) (nm_hit s 3 (by omega) (by rw [h3]; exact nm3))))
    · unfold impl_SpeciesData.f; rw [if_neg h0, if_neg h1, if_neg h2, if_pos h3]; rfl
  by_cases h4 : s.toList = (⟨#[101, 98, 111, 110, 121]⟩ : ByteArray).toList
  · refine .inl ⟨4, by omega, ?_, ?_⟩
    · exact nm_miss s 0 (by omega) _ (fun e => h0 (by rw [← e]; exact nm0)) (nm_miss s 1 (by omega) _ (fun e => h1 (by rw [← e]; exact nm1)) (nm_miss s 2 (by omega) _ (fun e => h2 (by rw [← e]; exact nm2)) (nm_miss s 3 (by omega) _ (fun e => h3 (by rw [← e]; exact nm3)) (nm_hit s 4 (by omega) (by rw [h4]; exact nm4)))))
    · unfold impl_SpeciesData.f; rw [if_neg h0, if_neg h1, if_neg h2, if_neg h3, if_pos h4]; rfl
  by_cases h5 : s.toList = (⟨#[104, 111, 108, 108, 121]⟩ : ByteArray).toList
  · refine .inl ⟨5, by omega, ?_, ?_⟩
    · exact nm_miss s 0 (by omega) _ (fun e => h0 (by rw [← e]; exact nm0)) (nm_miss s 1 (by omega) _ (fun e => h1 (by rw [← e]; exact nm1)) (nm_miss s 2 (by omega) _ (fun e => h2 (by rw [← e]; exact nm2)) (nm_miss s 3 (by omega) _ (fun e => h3 (by rw [← e]; exact nm3)) (nm_miss s 4 (by omega) _ (fun e => h4 (by rw [← e]; exact nm4)) (nm_hit s 5 (by omega) (by rw [h5]; exact nm5))))))
    · unfold impl_SpeciesData.f; rw [if_neg h0, if_neg h1, if_neg h2, if_neg h3, if_neg h4, if_pos h5]; rfl
  by_cases h6 : s.toList = (⟨#[109, 97, 112, 108, 101]⟩ : ByteArray).toList
  · refine .inl ⟨6, by omega, ?_, ?_⟩
    · exact nm_miss s 0 (by omega) _ (fun e => h0 (by rw [← e]; exact nm0)) (nm_miss s 1 (by omega) _ (fun e => h1 (by rw [← e]; exact nm1)) (nm_miss s 2 (by omega) _ (fun e => h2 (by rw [← e]; exact nm2)) (nm_miss s 3 (by omega) _ (fun e => h3 (by rw [← e]; exact nm3)) (nm_miss s 4 (by omega) _ (fun e => h4 (by rw [← e]; exact nm4)) (nm_miss s 5 (by omega) _ (fun e => h5 (by rw [← e]; exact nm5)) (nm_hit s 6 (by omega) (by rw [h6]; exact nm6)))))))
    · unfold impl_SpeciesData.f; rw [if_neg h0, if_neg h1, if_neg h2, if_neg h3, if_neg h4, if_neg h5, if_pos h6]; rfl
  by_cases h7 : s.toList = (⟨#[111, 97, 107]⟩ : ByteArray).toList
  · refine .inl ⟨7, by omega, ?_, ?_⟩
    · exact nm_miss s 0 (by omega) _ (fun e => h0 (by rw [← e]; exact nm0)) (nm_miss s 1 (by omega) _ (fun e => h1 (by rw [← e]; exact nm1)) (nm_miss s 2 (by omega) _ (fun e => h2 (by rw [← e]; exact nm2)) (nm_miss s 3 (by omega) _ (fun e => h3 (by rw [← e]; exact nm3)) (nm_miss s 4 (by omega) _ (fun e => h4 (by rw [← e]; exact nm4)) (nm_miss s 5 (by omega) _ (fun e => h5 (by rw [← e]; exact nm5)) (nm_miss s 6 (by omega) _ (fun e => h6 (by rw [← e]; exact nm6)) (nm_hit s 7 (by omega) (by rw [h7]; exact nm7))))))))
    · unfold impl_SpeciesData.f; rw [if_neg h0, if_neg h1, if_neg h2, if_neg h3, if_neg h4, if_neg h5, if_neg h6, if_pos h7]; rfl
  by_cases h8 : s.toList = (⟨#[114, 111, 115, 101, 119, 111, 111, 100]⟩ : ByteArray).toList
  · refine .inl ⟨8, by omega, ?_, ?_⟩
    · exact nm_miss s 0 (by omega) _ (fun e => h0 (by rw [← e]; exact nm0)) (nm_miss s 1 (by omega) _ (fun e => h1 (by rw [← e]; exact nm1)) (nm_miss s 2 (by omega) _ (fun e => h2 (by rw [← e]; exact nm2)) (nm_miss s 3 (by omega) _ (fun e => h3 (by rw [← e]; exact nm3)) (nm_miss s 4 (by omega) _ (fun e => h4 (by rw [← e]; exact nm4)) (nm_miss s 5 (by omega) _ (fun e => h5 (by rw [← e]; exact nm5)) (nm_miss s 6 (by omega) _ (fun e => h6 (by rw [← e]; exact nm6)) (nm_miss s 7 (by omega) _ (fun e => h7 (by rw [← e]; exact nm7)) (nm_hit s 8 (by omega) (by rw [h8]; exact nm8)))))))))
    · unfold impl_SpeciesData.f; rw [if_neg h0, if_neg h1, if_neg h2, if_neg h3, if_neg h4, if_neg h5, if_neg h6, if_neg h7, if_pos h8]; rfl
  by_cases h9 : s.toList = (⟨#[119, 97, 108, 110, 117, 116]⟩ : ByteArray).toList
  · refine .inl ⟨9, by omega, ?_, ?_⟩
    · exact nm_miss s 0 (by omega) _ (fun e => h0 (by rw [← e]; exact nm0)) (nm_miss s 1 (by omega) _ (fun e => h1 (by rw [← e]; exact nm1)) (nm_miss s 2 (by omega) _ (fun e => h2 (by rw [← e]; exact nm2)) (nm_miss s 3 (by omega) _ (fun e => h3 (by rw [← e]; exact nm3)) (nm_miss s 4 (by omega) _ (fun e => h4 (by rw [← e]; exact nm4)) (nm_miss s 5 (by omega) _ (fun e => h5 (by rw [← e]; exact nm5)) (nm_miss s 6 (by omega) _ (fun e => h6 (by rw [← e]; exact nm6)) (nm_miss s 7 (by omega) _ (fun e => h7 (by rw [← e]; exact nm7)) (nm_miss s 8 (by omega) _ (fun e => h8 (by rw [← e]; exact nm8)) (nm_hit s 9 (by omega) (by rw [h9]; exact nm9))))))))))
    · unfold impl_SpeciesData.f; rw [if_neg h0, if_neg h1, if_neg h2, if_neg h3, if_neg h4, if_neg h5, if_neg h6, if_neg h7, if_neg h8, if_pos h9]; rfl
  refine .inr ⟨?_, ?_⟩
  · exact nm_miss s 0 (by omega) _ (fun e => h0 (by rw [← e]; exact nm0)) (nm_miss s 1 (by omega) _ (fun e => h1 (by rw [← e]; exact nm1)) (nm_miss s 2 (by omega) _ (fun e => h2 (by rw [← e]; exact nm2)) (nm_miss s 3 (by omega) _ (fun e => h3 (by rw [← e]; exact nm3)) (nm_miss s 4 (by omega) _ (fun e => h4 (by rw [← e]; exact nm4)) (nm_miss s 5 (by omega) _ (fun e => h5 (by rw [← e]; exact nm5)) (nm_miss s 6 (by omega) _ (fun e => h6 (by rw [← e]; exact nm6)) (nm_miss s 7 (by omega) _ (fun e => h7 (by rw [← e]; exact nm7)) (nm_miss s 8 (by omega) _ (fun e => h8 (by rw [← e]; exact nm8)) (nm_miss s 9 (by omega) _ (fun e => h9 (by rw [← e]; exact nm9)) (Ev.some_eq fun k => by simp only [spec_l07Find.l0, show nmL.length = 10 from rfl]; rw [if_neg (by omega)]))))))))))
  · unfold impl_SpeciesData.f; rw [if_neg h0, if_neg h1, if_neg h2, if_neg h3, if_neg h4, if_neg h5, if_neg h6, if_neg h7, if_neg h8, if_neg h9]; rfl
/-- Is a veneer good? Both sides agree. -/
theorem ven_same (x : S35) (h1 : -9223372036854775808 ≤ x.f1 ∧ x.f1 ≤ 9223372036854775807) : ∃ r, Ev (fun k => spec_l07Ok.f k x.f0 x.f1 x.f2) r ∧ impl_ValidVeneer.f x.f0 x.f1 x.f2 = some r := by
  have s0 : ∀ t, Ev (fun k => spec_l07Ok.j0 k x.f1 x.f2 t true) false := fun t => Ev.some_eq fun k => by simp only [spec_l07Ok.j0]; rfl
  unfold spec_l07Ok.f impl_ValidVeneer.f
  rcases species x.f0 with ⟨i, hi, e1, e2⟩ | ⟨e1, e2⟩
  · have hr := sh_range i hi
    obtain ⟨t, t1, t2, t3, t4⟩ := sh_row i hi
    refine ⟨decide (0 ≤ x.f1 ∧ x.f1 ≤ 100) && decide (-15 ≤ x.f1 - shL.getD i 0 ∧ x.f1 - shL.getD i 0 ≤ 15) && decide (0 ≤ x.f2 ∧ x.f2 ≤ 179), Ev.bind e1 ?_, ?_⟩
    · simp only [if_neg (show ¬ (i : Int) < 0 by omega), in_eq, Option.bind_some]
      by_cases ha : 0 ≤ x.f1 ∧ x.f1 ≤ 100
      · simp only [ha, and_self, decide_true, Bool.not_true, Bool.true_and]
        refine Ev.some_eq fun k => ?_
        simp only [spec_l07Ok.j0, t1, Option.bind_some, t4, in_eq, spec_l07Grain.f]
        rw [if_neg Bool.false_ne_true, if_pos (by omega), if_pos (by omega), if_pos (by omega), w64 (x := shL.getD i 0 - 15) (by omega) (by omega), w64 (x := shL.getD i 0 + 15) (by omega) (by omega)]
        by_cases hb : -15 ≤ x.f1 - shL.getD i 0 ∧ x.f1 - shL.getD i 0 ≤ 15
        · rw [if_pos (decide_eq_true (by omega)), decide_eq_true hb]; simp
        · rw [if_neg (by simp only [decide_eq_true_eq]; omega), decide_eq_false hb]; simp
      · rw [decide_eq_false ha]; exact s0 _
    · simp only [e2, Option.bind_some, within_eq, if_true]
      by_cases ha : 0 ≤ x.f1 ∧ x.f1 ≤ 100
      · rw [if_pos (decide_eq_true ha), w64 (x := x.f1 - shL.getD i 0) (by omega) (by omega), decide_eq_true ha]
        by_cases hb : -15 ≤ x.f1 - shL.getD i 0 ∧ x.f1 - shL.getD i 0 ≤ 15
        · rw [if_pos (decide_eq_true hb), decide_eq_true hb]; simp
        · rw [if_neg (by simpa using hb), decide_eq_false hb]; simp
      · rw [if_neg (by simpa using ha), decide_eq_false ha]; simp
  · refine ⟨false, Ev.bind e1 ?_, ?_⟩
    · simp only [if_pos (show (-1 : Int) < 0 by omega)]; exact s0 _
    · simp only [e2, Option.bind_some]; rfl

/-- Are all sheets good? -/
theorem sheets_same (l : List S35) (hl : l.length ≤ 1048576) (hB : ∀ x ∈ l, -9223372036854775808 ≤ x.f1 ∧ x.f1 ≤ 9223372036854775807) :
    ∃ r, Ev (fun k => spec_l15Sheets.f k l) r ∧ Ev (fun k => impl_validSheets.f k l) r ∧ (r = true → (1 ≤ l.length ∧ l.length ≤ 8) ∧ ∀ i, i < l.length → impl_ValidVeneer.f (l.getD i z35).f0 (l.getD i z35).f1 (l.getD i z35).f2 = some true) := by
  obtain ⟨p, hp⟩ : ∃ p : Nat → Bool, ∀ i, i < l.length → Ev (fun k => spec_l07Ok.f k (l.getD i z35).f0 (l.getD i z35).f1 (l.getD i z35).f2) (p i) ∧ impl_ValidVeneer.f (l.getD i z35).f0 (l.getD i z35).f1 (l.getD i z35).f2 = some (p i) := by
    refine ⟨fun i => if h : i < l.length then (ven_same (l.getD i z35) (hB _ (getD_mem _ h))).choose else false, fun i hi => ?_⟩
    simp only [dif_pos hi]
    exact (ven_same (l.getD i z35) (hB _ (getD_mem _ hi))).choose_spec
  have hrd : ∀ i : Nat, rd35 l (i : Int) = l.getD i z35 := fun i => by unfold rd35; simp
  obtain ⟨r, e1, e2⟩ := index_gen l.length (by omega) (fun k i => slices_IndexFunc_impl_Veneer__impl_validVeneers_1.l0 k l (l.length : Int) i) (fun _ i => some (!(p i))) (fun i => !(p i)) (fun i _ => Ev.now _)
    (fun k => by simp only [slices_IndexFunc_impl_Veneer__impl_validVeneers_1.l0]; rw [if_neg (by omega)])
    (fun k i hi hk => by
      simp only [slices_IndexFunc_impl_Veneer__impl_validVeneers_1.l0, impl_validVeneers_1.f, hrd, (hp i hi).2, hk, Option.bind_some]; rw [if_pos (by omega), if_pos (by omega), if_pos (by omega), if_pos (by simpa using hk)])
    (fun k i hi hk => by
      simp only [slices_IndexFunc_impl_Veneer__impl_validVeneers_1.l0, impl_validVeneers_1.f, hrd, (hp i hi).2, hk, Option.bind_some]; rw [if_pos (by omega), if_pos (by omega), if_pos (by omega), if_neg (by simpa using hk), wsucc (by omega)])
  have hv : Ev (fun k => impl_validVeneers.f k l) (!(decide (r ≥ 0))) := by
    unfold impl_validVeneers.f slices_ContainsFunc_impl_Veneer__impl_validVeneers_1.f slices_IndexFunc_impl_Veneer__impl_validVeneers_1.f
    exact Ev.bind (Ev.bind e1 (Ev.now _)) (Ev.now _)
  have hs := down (n := l.length) (Q := fun i => ∃ q, Ev (fun k => spec_l15Sheets.l0 k l (i : Int)) q ∧ (q = true ↔ (∀ j, i ≤ j → j < l.length → p j = true) ∧ 1 ≤ l.length ∧ l.length ≤ 8)) ?_ ?_
  · obtain ⟨q, q1, q2⟩ := hs
    refine ⟨q, q1, ?_, fun h => ⟨(q2.1 h).2, fun i hi => by rw [(hp i hi).2, (q2.1 h).1 i (Nat.zero_le _) hi]⟩⟩
    unfold impl_validSheets.f
    simp only [within_eq, Option.bind_some]
    by_cases hb : 1 ≤ (l.length : Int) ∧ (l.length : Int) ≤ 8
    · simp only [hb, and_self, decide_true, if_true]
      have : q = !(decide (r ≥ 0)) := by
        rw [Bool.eq_iff_iff, q2, Bool.not_eq_true', decide_eq_false_iff_not, e2]
        refine ⟨fun h ⟨i, hi, hpi⟩ => by rw [h.1 i (Nat.zero_le _) hi] at hpi; exact absurd hpi (by simp), fun h => ⟨fun j _ hj => ?_, by omega, by omega⟩⟩
        cases hpj : p j with
        | true => rfl
        | false => exact absurd ⟨j, hj, by rw [hpj]; rfl⟩ h
      rw [this]; exact Ev.bind hv (Ev.now _)
    · have : q = false := by
        cases q with
        | false => rfl
        | true => exact absurd (q2.1 rfl).2 (by omega)
      rw [this]; simp only [if_neg (show ¬ decide (1 ≤ (l.length : Int) ∧ (l.length : Int) ≤ 8) = true by simpa using hb)]; exact Ev.now _
  · refine ⟨decide (1 ≤ (l.length : Int) ∧ (l.length : Int) ≤ 8), Ev.some_eq fun k => ?_, ?_⟩
    · simp only [spec_l15Sheets.l0]; rw [if_neg (by omega)]
      by_cases h1 : (l.length : Int) ≥ 1
      · rw [if_pos h1]; simp [show 1 ≤ (l.length : Int) from h1]
      · rw [if_neg h1, decide_eq_false (by omega)]
    · rw [decide_eq_true_eq]; exact ⟨fun h => ⟨fun j h1 h2 => by omega, by omega, by omega⟩, fun h => by omega⟩
  · intro i hi ⟨q, q1, q2⟩
    obtain ⟨h1, _⟩ := hp i hi
    cases hpi : p i with
    | true =>
      rw [hpi] at h1
      refine ⟨q, Ev.step1 h1 q1 (fun k hk => ?_), q2.trans ⟨fun h => ⟨fun j a b => ?_, h.2⟩, fun h => ⟨fun j a b => h.1 j (by omega) b, h.2⟩⟩⟩
      · simp only [spec_l15Sheets.l0, hrd, hk, Option.bind_some]; (repeat (first | rw [if_pos (by omega)] | rw [if_neg (by omega)] | rw [if_pos (rfl : true = true)] | rw [if_neg Bool.false_ne_true] | rw [if_pos trivial])); rw [wsucc (by omega)]
      · rcases Nat.eq_or_lt_of_le a with rfl | hlt
        · exact hpi
        · exact h.1 j hlt b
    | false =>
      rw [hpi] at h1
      refine ⟨false, Ev.step1 h1 (Ev.now _) (fun k hk => ?_), by simp; intro h; have := h i (Nat.le_refl _) hi; rw [hpi] at this; exact absurd this (by simp)⟩
      simp only [spec_l15Sheets.l0, hrd, hk, Option.bind_some]; rw [if_pos (by omega), if_pos (by omega)]; rfl
theorem packet_same (l : List S35) (hl : l.length ≤ 1048576) (hB : ∀ x ∈ l, -9223372036854775808 ≤ x.f1 ∧ x.f1 ≤ 9223372036854775807) (xs : List Int) (hx : xs.length ≤ 1048576) :
    ∃ r, Ev (fun k => spec_l15Ok.f k l xs) r ∧ Ev (fun k => impl_ValidPacket.f k l xs) r ∧ (r = true → (1 ≤ l.length ∧ l.length ≤ 8) ∧ xs.length ≤ 24 ∧ (∀ j, j < xs.length → 0 ≤ xs.getD j 0 ∧ xs.getD j 0 ≤ (l.length : Int) - 1) ∧ ∀ i, i < l.length → impl_ValidVeneer.f (l.getD i z35).f0 (l.getD i z35).f1 (l.getD i z35).f2 = some true) := by
  obtain ⟨r, e1, e2, e3⟩ := sheets_same l hl hB
  unfold spec_l15Ok.f impl_ValidPacket.f
  cases r with
  | false => exact ⟨false, Ev.bind e1 (Ev.now _), Ev.bind e2 (Ev.now _), by simp⟩
  | true =>
    obtain ⟨⟨l1, l8⟩, hgv⟩ := e3 rfl
    have hw : wrap64 ((l.length : Int) - 1) = (l.length : Int) - 1 := w64 (by omega) (by omega)
    obtain ⟨q, f1, f2⟩ := index_gen xs.length (by omega) (fun k i => slices_IndexFunc_int64_int64__impl_ValidPacket_1.l0 k xs l xs (xs.length : Int) i) (fun _ i => some (!(decide (0 ≤ xs.getD i 0 ∧ xs.getD i 0 ≤ (l.length : Int) - 1)))) (fun i => !(decide (0 ≤ xs.getD i 0 ∧ xs.getD i 0 ≤ (l.length : Int) - 1))) (fun i _ => Ev.now _)
      (fun k => by simp only [slices_IndexFunc_int64_int64__impl_ValidPacket_1.l0]; rw [if_neg (by omega)])
      (fun k i hi hk => by
        simp only [slices_IndexFunc_int64_int64__impl_ValidPacket_1.l0, impl_ValidPacket_1.f, rd_nat, within_eq, hw, Option.bind_some]; rw [if_pos (by omega), if_pos (by omega), if_pos (by omega)]; rw [if_pos (by simpa using hk)])
      (fun k i hi hk => by
        simp only [slices_IndexFunc_int64_int64__impl_ValidPacket_1.l0, impl_ValidPacket_1.f, rd_nat, within_eq, hw, Option.bind_some]; rw [if_pos (by omega), if_pos (by omega), if_pos (by omega)]; rw [if_neg (by simpa using hk), wsucc (by omega)])
    have hc : Ev (fun k => slices_ContainsFunc_int64_int64__impl_ValidPacket_1.f k xs l xs) (decide (q ≥ 0)) := by
      unfold slices_ContainsFunc_int64_int64__impl_ValidPacket_1.f slices_IndexFunc_int64_int64__impl_ValidPacket_1.f
      exact Ev.bind f1 (Ev.now _)
    have hs := down (n := xs.length) (Q := fun i => ∃ t, Ev (fun k => spec_l15Shifts.l0 k xs (l.length : Int) (i : Int)) t ∧ (t = true ↔ (∀ j, i ≤ j → j < xs.length → 0 ≤ xs.getD j 0 ∧ xs.getD j 0 ≤ (l.length : Int) - 1) ∧ xs.length ≤ 24)) ?_ ?_
    · obtain ⟨t, t1, t2⟩ := hs
      refine ⟨t, Ev.bind e1 ?_, Ev.bind e2 ?_, fun h => ⟨⟨l1, l8⟩, (t2.1 h).2, fun j hj => (t2.1 h).1 j (Nat.zero_le _) hj, hgv⟩⟩
      · simp only [if_true]; exact Ev.bind (show Ev (fun k => spec_l15Shifts.f k xs (l.length : Int)) t from t1) (Ev.now _)
      · simp only [if_true]
        by_cases hg : (xs.length : Int) > 24
        · have : t = false := by
            cases t with
            | false => rfl
            | true => exact absurd (t2.1 rfl).2 (by omega)
          rw [this]; simp only [if_pos hg]; exact Ev.now _
        · simp only [if_neg hg]
          have : t = !(decide (q ≥ 0)) := by
            rw [Bool.eq_iff_iff, t2, Bool.not_eq_true', decide_eq_false_iff_not, f2]
            refine ⟨fun h ⟨i, hi, hpi⟩ => absurd (h.1 i (Nat.zero_le _) hi) (of_decide_eq_false (by rw [Bool.not_eq_true'] at hpi; exact hpi)), fun h => ⟨fun j _ hj => ?_, by omega⟩⟩
            by_cases hq : 0 ≤ xs.getD j 0 ∧ xs.getD j 0 ≤ (l.length : Int) - 1
            · exact hq
            · exact absurd ⟨j, hj, by rw [decide_eq_false hq]; rfl⟩ h
          rw [this]; exact Ev.bind hc (Ev.now _)
    · refine ⟨decide ((xs.length : Int) ≤ 24), Ev.some_eq fun k => ?_, ?_⟩
      · simp only [spec_l15Shifts.l0]; rw [if_neg (by omega)]
      · rw [decide_eq_true_eq]; exact ⟨fun h => ⟨fun j h1 h2 => by omega, by omega⟩, fun h => by omega⟩
    · intro i hi ⟨t, t1, t2⟩
      by_cases hg : 0 ≤ xs.getD i 0 ∧ xs.getD i 0 ≤ (l.length : Int) - 1
      · refine ⟨t, Ev.step (fun k => ?_) t1, t2.trans ⟨fun h => ⟨fun j a b => ?_, h.2⟩, fun h => ⟨fun j a b => h.1 j (by omega) b, h.2⟩⟩⟩
        · simp only [spec_l15Shifts.l0, rd_nat, in_eq, hw, Option.bind_some, decide_eq_true_eq]; rw [if_pos (by omega), if_pos (by omega), if_pos hg, wsucc (by omega)]
        · rcases Nat.eq_or_lt_of_le a with rfl | hlt
          · exact hg
          · exact h.1 j hlt b
      · refine ⟨false, Ev.some_eq fun k => ?_, by simp; intro h; exact absurd (h i (Nat.le_refl _) hi) (by simpa using hg)⟩
        simp only [spec_l15Shifts.l0, rd_nat, in_eq, hw, Option.bind_some, decide_eq_true_eq]; rw [if_pos (by omega), if_pos (by omega), if_neg hg]

theorem eqVenS_same (l : List S35) (hl : l.length ≤ 1048576) : Ev (fun k => laws_eqVeneerS.f k l l) true := by
  unfold laws_eqVeneerS.f
  simp only [if_true]
  refine down (n := l.length) (Q := fun i => Ev (fun k => laws_eqVeneerS.l0 k l l (i : Int)) true) ?_ ?_
  · exact Ev.some_eq fun k => by simp only [laws_eqVeneerS.l0]; rw [if_neg (by omega)]
  · intro i hi ih
    refine Ev.step (fun k => ?_) ih
    simp only [laws_eqVeneerS.l0, laws_eqVeneer.f, if_true]
    rw [if_pos (by omega), if_pos (by omega), if_pos (by omega)]
    simp only [Option.bind_some, if_true]
    rw [wsucc (by omega)]
theorem eqP_same (l : List S35) (hl : l.length ≤ 1048576) (xs : List Int) (hx : xs.length ≤ 1048576) : Ev (fun k => laws_eqPacket.f k l xs l xs) true := by
  unfold laws_eqPacket.f
  refine Ev.bind (eqVenS_same l hl) ?_
  simp only [if_true]
  refine Ev.bind (eqS_same xs (by omega)) ?_
  simp only [if_true]
  exact Ev.now _

theorem rev_ind {α : Type} {Q : List α → Prop} (h0 : Q []) (h1 : ∀ l b, Q l → Q (l ++ [b])) : ∀ l, Q l := by
  have h : ∀ l : List α, Q l.reverse := by
    intro l
    induction l with
    | nil => exact h0
    | cons b l ih => rw [List.reverse_cons]; exact h1 _ _ ih
  intro l
  have := h l.reverse
  rwa [List.reverse_reverse] at this
/-- Digits, and what they say. -/
def dgt (b : UInt8) : Prop := 48 ≤ b.toNat ∧ b.toNat ≤ 57
instance (b : UInt8) : Decidable (dgt b) := by unfold dgt; infer_instance
def vl (a : Nat) : List UInt8 → Nat
  | [] => a
  | b :: l => vl (10 * a + (b.toNat - 48)) l
theorem vl_app (b : UInt8) : ∀ (l : List UInt8) (a : Nat), vl a (l ++ [b]) = 10 * vl a l + (b.toNat - 48)
  | [], _ => rfl
  | x :: l, a => by show vl (10 * a + (x.toNat - 48)) (l ++ [b]) = _; rw [vl_app b l]; rfl
theorem vl_lt : ∀ l : List UInt8, (∀ b ∈ l, dgt b) → vl 0 l < 10 ^ l.length := by
  refine rev_ind (fun _ => by show 0 < 1; omega) (fun l b ih h => ?_)
  have h1 := ih (fun x hx => h x (List.mem_append_left _ hx))
  have h2 := h b (by simp)
  unfold dgt at h2
  rw [vl_app, List.length_append, List.length_singleton, Nat.pow_succ]
  omega
theorem vl_pos : ∀ l : List UInt8, (∀ b ∈ l, dgt b) → ∀ x t, l = x :: t → x ≠ 48 → 1 ≤ vl 0 l := by
  refine rev_ind (fun _ x t h => by cases h) (fun l b ih h x t hl hx => ?_)
  rw [vl_app]
  cases l with
  | nil =>
    have hb := h b (by simp)
    unfold dgt at hb
    have he : b = x := by simpa using (List.cons.inj hl).1
    subst he
    have : b.toNat ≠ 48 := fun e => hx (UInt8.toNat.inj e)
    show 1 ≤ 10 * 0 + _
    omega
  | cons y l =>
    have he : y = x := by simpa using (List.cons.inj hl).1
    subst he
    have := ih (fun z hz => h z (List.mem_append_left _ hz)) y l rfl hx
    omega
theorem dig_of (b : UInt8) (h : dgt b) : UInt8.ofNat (48 + (b.toNat - 48)) = b := by
  unfold dgt at h
  rw [show 48 + (b.toNat - 48) = b.toNat by omega]
  exact UInt8.ofNat_toNat
/-- Digits without a zero ahead are the digits of what they say. -/
theorem dec_vl : ∀ l : List UInt8, (∀ b ∈ l, dgt b) → ∀ x t, l = x :: t → (x ≠ 48 ∨ t = []) → Go.Lib.decDigits (vl 0 l) = l := by
  refine rev_ind (fun _ x t h => by cases h) (fun l b ih h x t hl hx => ?_)
  have hb := h b (by simp)
  have hb2 := hb
  unfold dgt at hb2
  rw [vl_app, Go.Lib.decDigits]
  cases l with
  | nil =>
    rw [dif_pos (by show 10 * 0 + (b.toNat - 48) < 10; omega)]
    show [UInt8.ofNat (48 + (10 * 0 + (b.toNat - 48)))] = [b]
    rw [Nat.mul_zero, Nat.zero_add, dig_of b hb]
  | cons y l =>
    have hq := List.cons.inj (show y :: (l ++ [b]) = x :: t from hl)
    have hx' : x ≠ 48 := by
      rcases hx with hx | hx
      · exact hx
      · rw [hx] at hq; exact absurd hq.2 (by simp)
    have hy : y ≠ 48 := by rw [hq.1]; exact hx'
    have hall := fun z (hz : z ∈ y :: l) => h z (List.mem_append_left _ hz)
    have h1 := ih hall y l rfl (.inl hy)
    have h2 := vl_pos (y :: l) hall y l rfl hy
    rw [dif_neg (by omega), show (10 * vl 0 (y :: l) + (b.toNat - 48)) / 10 = vl 0 (y :: l) by omega, h1, show (10 * vl 0 (y :: l) + (b.toNat - 48)) % 10 = b.toNat - 48 by omega, dig_of b hb]
/-- A number's digits begin with no zero. -/
theorem dec_head : ∀ u : Nat, 1 ≤ u → ∃ b t, Go.Lib.decDigits u = b :: t ∧ b ≠ 48 := by
  intro u
  induction u using Nat.strongRecOn with
  | ind u ih =>
    intro hu
    rw [Go.Lib.decDigits]
    by_cases h : u < 10
    · rw [dif_pos h]
      refine ⟨_, _, rfl, fun he => ?_⟩
      have := congrArg UInt8.toNat he
      rw [UInt8.toNat_ofNat_of_lt' (by show 48 + u < 256; omega)] at this
      have h48 : (48 : UInt8).toNat = 48 := rfl
      omega
    · rw [dif_neg h]
      obtain ⟨b, t, e, hb⟩ := ih (u / 10) (by omega) (by omega)
      exact ⟨b, t ++ [UInt8.ofNat (48 + u % 10)], by rw [e]; rfl, hb⟩
theorem dec_zero : Go.Lib.decDigits 0 = [48] := by rw [Go.Lib.decDigits, dif_pos (by omega)]; rfl
/-- Does a number's text give the digits back? -/
theorem itoa_pos (x : UInt8) (t : List UInt8) (h : ∀ b ∈ x :: t, dgt b) : Go.Lib.itoa ((vl 0 (x :: t) : Nat) : Int) = x :: t ↔ ¬ (x = 48 ∧ t ≠ []) := by
  unfold Go.Lib.itoa
  rw [if_neg (by omega), Int.toNat_natCast]
  constructor
  · rintro he ⟨hx, ht⟩
    by_cases h0 : vl 0 (x :: t) = 0
    · rw [h0, dec_zero] at he
      exact ht (by injection he with _ he; exact he.symm)
    · obtain ⟨b, t', e, hb⟩ := dec_head (vl 0 (x :: t)) (by omega)
      rw [e] at he
      injection he with he
      exact hb (he.trans hx)
  · intro hn
    refine dec_vl (x :: t) h x t rfl ?_
    by_cases hx : x = 48
    · exact .inr (Classical.byContradiction fun ht => hn ⟨hx, ht⟩)
    · exact .inl hx
theorem itoa_negd (x : UInt8) (t : List UInt8) (h : ∀ b ∈ x :: t, dgt b) : Go.Lib.itoa (-((vl 0 (x :: t) : Nat) : Int)) = 45 :: x :: t ↔ ¬ x = 48 := by
  constructor
  · intro he hx
    by_cases h0 : vl 0 (x :: t) = 0
    · rw [h0] at he
      have : Go.Lib.itoa (-((0 : Nat) : Int)) = [48] := by unfold Go.Lib.itoa; rw [if_neg (by omega)]; exact dec_zero
      rw [this] at he
      injection he with he
      exact absurd he (by decide)
    · obtain ⟨b, t', e, hb⟩ := dec_head (vl 0 (x :: t)) (by omega)
      unfold Go.Lib.itoa at he
      rw [if_pos (by omega), Int.natAbs_neg, Int.natAbs_natCast, e] at he
      injection he with _ he
      injection he with he
      exact hb (he.trans hx)
  · intro hx
    have h1 := vl_pos (x :: t) h x t rfl hx
    unfold Go.Lib.itoa
    rw [if_pos (by omega), Int.natAbs_neg, Int.natAbs_natCast, dec_vl (x :: t) h x t rfl (.inl hx)]
/-- What a text of a number says. -/
def numD (l : List UInt8) : List UInt8 := if l.head? = some 45 then l.drop 1 else l
def numOk (l : List UInt8) : Prop := 1 ≤ (numD l).length ∧ (numD l).length ≤ 18 ∧ ¬ ((numD l).head? = some 48 ∧ 1 < l.length) ∧ ∀ b ∈ numD l, dgt b
instance (l : List UInt8) : Decidable (numOk l) := by unfold numOk; infer_instance
def numV (l : List UInt8) : Int := if l.head? = some 45 then -((vl 0 (numD l) : Nat) : Int) else ((vl 0 (numD l) : Nat) : Int)
def numS (l : List UInt8) : Int × Bool := if numOk l then (numV l, true) else (0, false)
theorem num_bd (l : List UInt8) : -1000000000000000000 ≤ (numS l).1 ∧ (numS l).1 ≤ 1000000000000000000 := by
  unfold numS
  by_cases h : numOk l
  · rw [if_pos h]
    obtain ⟨h1, h2, _, h4⟩ := h
    have h5 := vl_lt (numD l) h4
    have h6 : 10 ^ (numD l).length ≤ 10 ^ 18 := Nat.pow_le_pow_right (by omega) h2
    have h7 : (10 : Nat) ^ 18 = 1000000000000000000 := by decide
    unfold numV
    split <;> (show _ ∧ _; simp only; omega)
  · rw [if_neg h]; decide

/-- A text cut at a byte. -/
def pcs (c : UInt8) : List UInt8 → List (List UInt8)
  | [] => [[]]
  | b :: l => if b = c then [] :: pcs c l else match pcs c l with
    | p :: r => (b :: p) :: r
    | [] => [[b]]
theorem pcs_ne (c : UInt8) : ∀ l, ∃ p r, pcs c l = p :: r
  | [] => ⟨_, _, rfl⟩
  | b :: l => by
    obtain ⟨p, r, h⟩ := pcs_ne c l
    unfold pcs
    split
    · exact ⟨_, _, rfl⟩
    · rw [h]; exact ⟨_, _, rfl⟩
theorem split_pcs (c : UInt8) : ∀ l : List UInt8, Go.Lib.split l [c] = pcs c l
  | [] => by
    have h : Go.Lib.index [] [c] = -1 := rfl
    unfold Go.Lib.split
    rw [Go.Lib.count_miss h]; rfl
  | b :: l => by
    have ih := split_pcs c l
    unfold Go.Lib.split at ih ⊢
    by_cases h : b = c
    · subst h
      have hix : Go.Lib.index (b :: l) [b] = ((0 : Nat) : Int) := by rw [Go.Lib.index]; simp [List.isPrefixOf]
      rw [Go.Lib.count_cons_eq, Nat.add_comm]
      unfold Go.Lib.splitK pcs
      rw [hix, if_neg (by decide), if_pos rfl]
      simp only [Int.toNat_natCast, Nat.zero_add, Nat.add_zero, List.take_zero, List.length_singleton, List.drop_succ_cons, List.drop_zero]
      rw [ih]
    · have hp : ([c] : List UInt8).isPrefixOf (b :: l) = false := by simp [List.isPrefixOf, Ne.symm h]
      have hix : Go.Lib.index (b :: l) [c] = if Go.Lib.index l [c] == -1 then -1 else Go.Lib.index l [c] + 1 := by rw [Go.Lib.index, hp]; simp
      rw [Go.Lib.count_cons_ne b c l h]
      unfold pcs
      rw [if_neg h, ← ih]
      by_cases hm : Go.Lib.index l [c] = -1
      · rw [Go.Lib.count_miss hm]; rfl
      · have hge := Go.Lib.index_ge l [c]
        obtain ⟨j, hj⟩ : ∃ j : Nat, Go.Lib.index l [c] = j := ⟨(Go.Lib.index l [c]).toNat, by omega⟩
        rw [Go.Lib.count_hit (by simp) hj]
        generalize hm2 : Go.Lib.count _ [c] = m
        rw [Nat.add_comm]
        unfold Go.Lib.splitK
        rw [hix, hj]
        have e1 : ¬ ((j : Int) == -1) = true := fun e => by have := beq_iff_eq.1 e; omega
        rw [if_neg e1]
        have e2 : ¬ ((j : Int) + 1 == -1) = true := fun e => by have := beq_iff_eq.1 e; omega
        rw [if_neg e2, if_neg e1]
        have e3 : ((j : Int) + 1).toNat = j + 1 := by omega
        simp only [e3, Int.toNat_natCast, Nat.add_zero, List.length_singleton, List.take_succ_cons, List.drop_succ_cons]
def dl (s : ByteArray) : List UInt8 := s.data.toList
theorem splitL_dl (s : ByteArray) (c : UInt8) : (splitL s ⟨#[c]⟩).map dl = pcs c (dl s) := by
  rw [← split_pcs]
  exact Go.Lib.splitB_data ⟨#[c]⟩ 0 _ s
theorem dl_inj {a b : List ByteArray} (h : a.map dl = b.map dl) : a = b := by
  induction a generalizing b with
  | nil => cases b with
    | nil => rfl
    | cons y b => simp at h
  | cons x a ih => cases b with
    | nil => simp at h
    | cons y b =>
      simp only [List.map_cons, List.cons.injEq] at h
      rw [ih h.2]
      congr 1
      exact Go.WideShapes.bytes_inj h.1
theorem dl_size (s : ByteArray) : s.size = (dl s).length := by unfold dl; rw [Array.length_toList]; rfl
theorem bt_dl (s : ByteArray) (i : Nat) (h : i < (dl s).length) : bt s (i : Int) = (((dl s).getD i 0).toNat : Int) := by
  unfold bt
  have hs : (i : Int).toNat < s.size := by rw [dl_size]; omega
  rw [dif_pos hs, List.getD_eq_getElem?_getD, List.getElem?_eq_getElem h]
  rfl
theorem dl_extract (s : ByteArray) (a b : Nat) : dl (s.extract a b) = ((dl s).drop a).take (b - a) := Go.Lib.extract_data s a b
theorem pcs_len (c : UInt8) : ∀ l, (pcs c l).length ≤ l.length + 1
  | [] => Nat.le_refl _
  | b :: l => by
    have ih := pcs_len c l
    obtain ⟨p, r, h⟩ := pcs_ne c l
    unfold pcs
    split
    · simp only [List.length_cons]; omega
    · rw [h] at ih ⊢
      simp only [List.length_cons] at ih ⊢
      omega
theorem splitL_len (s : ByteArray) (c : UInt8) : (splitL s ⟨#[c]⟩).length ≤ s.size + 1 := by
  have h := congrArg List.length (splitL_dl s c)
  rw [List.length_map] at h
  rw [h, dl_size]
  exact pcs_len c _
theorem splitL_pos (s : ByteArray) (c : UInt8) : 1 ≤ (splitL s ⟨#[c]⟩).length := by
  have h := congrArg List.length (splitL_dl s c)
  rw [List.length_map] at h
  obtain ⟨p, r, e⟩ := pcs_ne c (dl s)
  rw [h, e, List.length_cons]; omega
/-- The reference's split. -/
theorem specsplit (s : ByteArray) (c : UInt8) (hs : s.size ≤ 1048576) : Ev (fun k => spec_l01Split.f k s (c.toNat : Int)) (splitL s ⟨#[c]⟩) := by
  have hn := dl_size s
  have hq := down (n := (dl s).length) (Q := fun i => ∀ (out : List ByteArray) (from_ : Nat), from_ ≤ i → out.length ≤ i → ∃ R : List ByteArray, Ev (fun k => spec_l01Split.l0 k s (c.toNat : Int) out (from_ : Int) (i : Int)) R ∧ ∃ p r, pcs c ((dl s).drop i) = p :: r ∧ R.map dl = out.map dl ++ ((((dl s).drop from_).take (i - from_)) ++ p) :: r) ?_ ?_
  · obtain ⟨R, r1, p, r, r2, r3⟩ := hq [] 0 (Nat.le_refl _) (Nat.le_refl _)
    have : R = splitL s ⟨#[c]⟩ := dl_inj (by rw [r3, splitL_dl]; rw [List.drop_zero] at r2; rw [r2]; rfl)
    rw [← this]
    exact r1
  · intro out f hf ho
    refine ⟨out ++ [s.extract f s.size], Ev.some_eq fun k => ?_, [], [], by rw [List.drop_length]; rfl, ?_⟩
    · simp only [spec_l01Split.l0]
      rw [if_neg (by omega), if_pos (by omega), if_pos (by omega), if_pos (by omega), Int.toNat_natCast]
    · rw [List.map_append, List.append_nil]
      congr 1
      show [dl (s.extract f s.size)] = _
      rw [dl_extract, hn]
  · intro i hi ih out f hf ho
    have hb := bt_dl s i hi
    have hd : (dl s).drop i = (dl s).getD i 0 :: (dl s).drop (i + 1) := by rw [List.drop_eq_getElem_cons hi, List.getD_eq_getElem?_getD, List.getElem?_eq_getElem hi]; rfl
    by_cases hc : (dl s).getD i 0 = c
    · obtain ⟨R, r1, p, r, r2, r3⟩ := ih (out ++ [s.extract f i]) (i + 1) (Nat.le_refl _) (by rw [List.length_append, List.length_singleton]; omega)
      refine ⟨R, Ev.step (fun k => ?_) r1, [], p :: r, ?_, ?_⟩
      · simp only [spec_l01Split.l0, hb]
        rw [if_pos (by omega), if_pos (by omega), if_pos (by rw [hc]), if_pos (by omega), if_pos (by omega), if_pos (by omega), if_pos (by omega), wsucc (by omega), Int.toNat_natCast, Int.toNat_natCast]
      · rw [hd]; unfold pcs; rw [if_pos hc, r2]
      · rw [r3, List.map_append, List.append_nil, Nat.sub_self, List.take_zero, List.nil_append, List.append_assoc]
        congr 1
        show dl (s.extract f i) :: p :: r = _
        rw [dl_extract]
    · obtain ⟨R, r1, p, r, r2, r3⟩ := ih out f (by omega) (by omega)
      refine ⟨R, Ev.step (fun k => ?_) r1, (dl s).getD i 0 :: p, r, ?_, ?_⟩
      · simp only [spec_l01Split.l0, hb]
        rw [if_pos (by omega), if_pos (by omega), if_neg (fun he => hc (UInt8.toNat.inj (by omega))), wsucc (by omega)]
      · rw [hd]; unfold pcs; rw [if_neg hc, r2]
      · rw [r3]
        congr 2
        have e : i + 1 - f = (i - f) + 1 := by omega
        rw [e, List.take_succ_eq_append_getElem (by rw [List.length_drop]; omega), List.append_assoc]
        congr 1
        have hj : ∀ j (hj : j < (dl s).length), j = i → (dl s)[j] = (dl s)[i] := by rintro j hj rfl; rfl
        rw [List.getElem_drop, hj _ _ (by omega), List.getD_eq_getElem?_getD, List.getElem?_eq_getElem hi]
        rfl

theorem pow17 : (10 : Nat) ^ 17 = 100000000000000000 := by decide
theorem take_succ_getD (D : List UInt8) (i : Nat) (h : i < D.length) : D.take (i + 1) = D.take i ++ [D.getD i 0] := by
  rw [List.take_succ_eq_append_getElem h, List.getD_eq_getElem?_getD, List.getElem?_eq_getElem h]; rfl
theorem dgtS (x : Int) : spec_l01Digit.f x = some (decide (48 ≤ x ∧ x ≤ 57)) := by
  unfold spec_l01Digit.f
  by_cases h : x ≥ 48
  · rw [if_pos h]; congr 1; exact decide_eq_decide.2 (by omega)
  · rw [if_neg h, decide_eq_false (by omega)]
/-- One digit more. -/
theorem val_step (D : List UInt8) (i : Nat) (hi : i < D.length) (hl : D.length ≤ 18) (hd : ∀ b ∈ D.take i, dgt b) (hb : dgt (D.getD i 0)) :
    vl 0 (D.take (i + 1)) = 10 * vl 0 (D.take i) + ((D.getD i 0).toNat - 48) ∧ vl 0 (D.take i) ≤ 100000000000000000 ∧ (48 ≤ (D.getD i 0).toNat ∧ (D.getD i 0).toNat ≤ 57) ∧ ∀ b ∈ D.take (i + 1), dgt b := by
  have h1 := vl_lt (D.take i) hd
  have h2 : 10 ^ (D.take i).length ≤ 10 ^ 17 := Nat.pow_le_pow_right (by omega) (by rw [List.length_take]; omega)
  rw [pow17] at h2
  refine ⟨by rw [take_succ_getD D i hi, vl_app], by omega, hb, fun b hm => ?_⟩
  rw [take_succ_getD D i hi, List.mem_append, List.mem_singleton] at hm
  rcases hm with hm | rfl
  · exact hd b hm
  · exact hb
theorem mem_getD8 (D : List UInt8) (i : Nat) (h : i < D.length) : D.getD i 0 ∈ D := getD_mem 0 h
theorem spec_loop (s : ByteArray) (hs : s.size ≤ 1048576) (at_ : Nat) (D : List UInt8) (hD : D = (dl s).drop at_) (hl : D.length ≤ 18) (ha : at_ ≤ (dl s).length) (hle : at_ ≤ 1) :
    Ev (fun k => spec_l01Number.l0 k s (at_ : Int) 0 (at_ : Int)) (if ∀ b ∈ D, dgt b then (if at_ = 1 then -((vl 0 D : Nat) : Int) else ((vl 0 D : Nat) : Int), true) else (0, false)) := by
  have hn := dl_size s
  have hDl : D.length = (dl s).length - at_ := by rw [hD, List.length_drop]
  have hget : ∀ i, i < D.length → bt s ((at_ + i : Nat) : Int) = ((D.getD i 0).toNat : Int) := fun i hi => by
    rw [bt_dl s (at_ + i) (by omega), hD, List.getD_eq_getElem?_getD, List.getD_eq_getElem?_getD, List.getElem?_drop]
  have hq := down (n := D.length) (Q := fun i => (∀ b ∈ D.take i, dgt b) → Ev (fun k => spec_l01Number.l0 k s (at_ : Int) ((vl 0 (D.take i) : Nat) : Int) ((at_ + i : Nat) : Int)) (if ∀ b ∈ D, dgt b then (if at_ = 1 then -((vl 0 D : Nat) : Int) else ((vl 0 D : Nat) : Int), true) else (0, false))) ?_ ?_
  · exact hq (fun b hb => by simp at hb)
  · intro hd
    rw [List.take_length] at hd
    have h1 := vl_lt D hd
    have h2 : 10 ^ D.length ≤ 10 ^ 18 := Nat.pow_le_pow_right (by omega) hl
    have h3 : (10 : Nat) ^ 18 = 1000000000000000000 := by decide
    rw [if_pos hd]
    refine Ev.some_eq fun k => ?_
    simp only [spec_l01Number.l0, List.take_length]
    rw [if_neg (by omega)]
    by_cases h : at_ = 1
    · rw [if_pos (by omega), if_pos h, w64 (by omega) (by omega), Int.zero_sub]
    · rw [if_neg (by omega), if_neg h]
  · intro i hi ih hd
    by_cases hb : dgt (D.getD i 0)
    · obtain ⟨v1, v2, v3, v4⟩ := val_step D i hi hl hd hb
      refine Ev.step (fun k => ?_) (ih v4)
      simp only [spec_l01Number.l0, hget i hi, dgtS, Option.bind_some]
      rw [if_pos (by omega), if_pos (by omega), if_pos (decide_eq_true (by omega)), wsucc (by omega), v1, w64 (x := 10 * _) (by omega) (by omega), w64 (x := (_ - 48) % 256) (by omega) (by omega), w64 (by omega) (by omega)]
      congr 1
      omega
    · rw [if_neg (fun h => hb (h _ (mem_getD8 D i hi)))]
      refine Ev.some_eq fun k => ?_
      unfold dgt at hb
      simp only [spec_l01Number.l0, hget i hi, dgtS, Option.bind_some]
      rw [if_pos (by omega), if_pos (by omega), if_neg (by rw [decide_eq_true_eq]; omega)]
theorem spec_num (s : ByteArray) (hs : s.size ≤ 1048576) : Ev (fun k => spec_l01Number.f k s) (numS (dl s)) := by
  have hn := dl_size s
  obtain ⟨at_, hat⟩ : ∃ at_ : Nat, at_ = if (dl s).head? = some 45 then 1 else 0 := ⟨_, rfl⟩
  have hat1 : at_ ≤ 1 := by rw [hat]; split <;> omega
  have hD : numD (dl s) = (dl s).drop at_ := by
    unfold numD
    rw [hat]
    split <;> simp
  have hj1 : Ev (fun k => spec_l01Number.j1 k s (at_ : Int)) (numS (dl s)) := by
    have j2t : Ev (fun k => spec_l01Number.j2 k s (at_ : Int) true) (0, false) := Ev.some_eq fun k => by simp only [spec_l01Number.j2]; rfl
    have hal : at_ ≤ (dl s).length := by
      rw [hat]
      split
      · rename_i h
        cases hl : dl s with
        | nil => rw [hl] at h; cases h
        | cons x t => simp
      · omega
    have hlen : (numD (dl s)).length = (dl s).length - at_ := by rw [hD, List.length_drop]
    by_cases c1 : (s.size : Int) = (at_ : Int)
    · have : numS (dl s) = (0, false) := by unfold numS; rw [if_neg (fun h : numOk (dl s) => by have := h.1; omega)]
      rw [this]
      exact Ev.step (fun k => by simp only [spec_l01Number.j1]; rw [if_pos c1]) j2t
    by_cases c2 : (s.size : Int) - (at_ : Int) > 18
    · have : numS (dl s) = (0, false) := by unfold numS; rw [if_neg (fun h : numOk (dl s) => by have := h.2.1; omega)]
      rw [this]
      exact Ev.step (fun k => by simp only [spec_l01Number.j1]; rw [if_neg c1, w64 (by omega) (by omega), if_pos c2]) j2t
    obtain ⟨x, t, hx⟩ : ∃ x t, numD (dl s) = x :: t := by
      cases hl : numD (dl s) with
      | nil => rw [hl] at hlen; simp at hlen; omega
      | cons x t => exact ⟨x, t, rfl⟩
    have hb : bt s (at_ : Int) = (x.toNat : Int) := by
      rw [bt_dl s at_ (by omega)]
      have : (dl s).getD at_ 0 = x := by
        rw [hD] at hx
        have := congrArg (fun l => l[0]?) hx
        simp only [List.getElem?_drop, Nat.add_zero, List.getElem?_cons_zero] at this
        rw [List.getD_eq_getElem?_getD, this]; rfl
      rw [this]
    have hloop := spec_loop s hs at_ (numD (dl s)) hD (by omega) hal hat1
    by_cases c3 : x = 48 ∧ 1 < (dl s).length
    · have : numS (dl s) = (0, false) := by unfold numS; rw [if_neg (fun h : numOk (dl s) => h.2.2.1 ⟨by rw [hx, c3.1]; rfl, c3.2⟩)]
      rw [this]
      refine Ev.step (fun k => ?_) j2t
      simp only [spec_l01Number.j1, hb]
      rw [if_neg c1, w64 (by omega) (by omega), if_neg c2, if_pos (by omega), if_pos (by omega), if_pos (by rw [c3.1]; rfl), decide_eq_true (by omega)]
    · have hres : numS (dl s) = if ∀ b ∈ numD (dl s), dgt b then (if at_ = 1 then -((vl 0 (numD (dl s)) : Nat) : Int) else ((vl 0 (numD (dl s)) : Nat) : Int), true) else (0, false) := by
        unfold numS
        by_cases hd : ∀ b ∈ numD (dl s), dgt b
        · rw [if_pos hd, if_pos ⟨by omega, by omega, fun h => c3 ⟨by rw [hx] at h; simpa using h.1, h.2⟩, hd⟩]
          unfold numV
          rw [hat]
          by_cases h45 : (dl s).head? = some 45
          · rw [if_pos h45, if_pos h45, if_pos rfl]
          · rw [if_neg h45, if_neg h45, if_neg (by decide)]
        · rw [if_neg hd, if_neg (fun h : numOk (dl s) => hd h.2.2.2)]
      rw [hres]
      refine Ev.step (f := fun k => spec_l01Number.j2 k s (at_ : Int) false) (fun k => ?_) (Ev.step (fun k => ?_) hloop)
      · simp only [spec_l01Number.j1, hb]
        rw [if_neg c1, w64 (by omega) (by omega), if_neg c2, if_pos (by omega), if_pos (by omega)]
        by_cases h48 : (x.toNat : Int) = 48
        · have hx48 : x = 48 := UInt8.toNat.inj (by have : (48 : UInt8).toNat = 48 := rfl; omega)
          rw [if_pos h48, decide_eq_false (by have : ¬ 1 < (dl s).length := fun h => c3 ⟨hx48, h⟩; omega)]
        · rw [if_neg h48]
      · simp only [spec_l01Number.j2]; rw [if_neg Bool.false_ne_true]
  unfold spec_l01Number.f
  cases hl : dl s with
  | nil =>
    have h0 : s.size = 0 := by rw [hn, hl]; rfl
    rw [← hl]
    have ha0 : at_ = 0 := by rw [hat, hl]; rfl
    rw [ha0] at hj1
    simp only [if_neg (show ¬ (s.size : Int) > 0 by omega)]
    exact Ev.step (fun k => by simp only [spec_l01Number.j0]; rw [if_neg Bool.false_ne_true]; rfl) hj1
  | cons x t =>
    have h0 : 0 < s.size := by rw [hn, hl]; simp
    rw [← hl]
    have hb : bt s 0 = (x.toNat : Int) := by
      have := bt_dl s 0 (by omega)
      rw [hl] at this
      exact this
    simp only [if_pos (show (s.size : Int) > 0 by omega), if_pos (show (0 : Int) < (s.size : Int) by omega), hb]
    by_cases h45 : x = 45
    · have ha0 : at_ = 1 := by rw [hat, hl, h45]; rfl
      rw [ha0] at hj1
      refine Ev.step (fun k => ?_) hj1
      simp only [spec_l01Number.j0]
      rw [h45, if_pos (by rfl)]; rfl
    · have ha0 : at_ = 0 := by rw [hat, hl, if_neg (fun h => h45 (by simpa using h))]
      rw [ha0] at hj1
      refine Ev.step (fun k => ?_) hj1
      simp only [spec_l01Number.j0]
      rw [if_neg (fun h => h45 (UInt8.toNat.inj (by have h1 := beq_iff_eq.1 h; have : (45 : UInt8).toNat = 45 := rfl; omega)))]; rfl
theorem dec_eq (n : Int) (h0 : -9223372036854775808 ≤ n) (h1 : n ≤ 9223372036854775807) : impl_Decimal.f n = some ⟨(Go.Lib.itoa n).toArray⟩ := by
  unfold impl_Decimal.f strconv_FormatInt.f
  rw [if_pos rfl, if_pos h0, if_pos h1]; rfl
theorem impl_loop (s d : ByteArray) (hs : s.size ≤ 1048576) (hl : (dl d).length ≤ 18) (hds : d.size ≤ s.size) :
    Ev (fun k => impl_ReadDecimal.l0 k s d 0 0) (if ∀ b ∈ dl d, dgt b then (if d.size < s.size then (if Go.Lib.itoa (-((vl 0 (dl d) : Nat) : Int)) = dl s then (-((vl 0 (dl d) : Nat) : Int), true) else (0, false)) else (if Go.Lib.itoa ((vl 0 (dl d) : Nat) : Int) = dl s then (((vl 0 (dl d) : Nat) : Int), true) else (0, false))) else (0, false)) := by
  have hn := dl_size d
  obtain ⟨D, hD⟩ : ∃ D, D = dl d := ⟨_, rfl⟩
  have hget : ∀ i, i < D.length → bt d (i : Int) = ((D.getD i 0).toNat : Int) := fun i hi => by rw [hD]; exact bt_dl d i (by rw [← hD]; exact hi)
  rw [← hD] at hl hn ⊢
  obtain ⟨R, hR⟩ : ∃ R : Int × Bool, R = if ∀ b ∈ D, dgt b then (if d.size < s.size then (if Go.Lib.itoa (-((vl 0 D : Nat) : Int)) = dl s then (-((vl 0 D : Nat) : Int), true) else (0, false)) else (if Go.Lib.itoa ((vl 0 D : Nat) : Int) = dl s then (((vl 0 D : Nat) : Int), true) else (0, false))) else (0, false) := ⟨_, rfl⟩
  rw [← hR]
  have hq := down (n := D.length) (Q := fun i => (∀ b ∈ D.take i, dgt b) → Ev (fun k => impl_ReadDecimal.l0 k s d ((vl 0 (D.take i) : Nat) : Int) (i : Int)) R) ?_ ?_
  · exact hq (fun b hb => by simp at hb)
  · intro hd
    rw [List.take_length] at hd
    have h1 := vl_lt D hd
    have h2 : 10 ^ D.length ≤ 10 ^ 18 := Nat.pow_le_pow_right (by omega) hl
    have h3 : (10 : Nat) ^ 18 = 1000000000000000000 := by decide
    have htl : ∀ x : List UInt8, ((⟨x.toArray⟩ : ByteArray).toList = s.toList) ↔ x = dl s := fun x => by rw [ByteArray.toList_eq, ByteArray.toList_eq]; exact Iff.rfl
    rw [hR, if_pos hd]
    refine Ev.some_eq fun k => ?_
    simp only [impl_ReadDecimal.l0, List.take_length]
    rw [if_neg (by omega), w64 (x := 0 - _) (by omega) (by omega), Int.zero_sub]
    by_cases hc : d.size < s.size
    · rw [if_pos (by omega), if_pos hc, dec_eq _ (by omega) (by omega)]
      simp only [Option.bind_some, htl]
      split <;> rfl
    · rw [if_neg (by omega), if_neg hc, dec_eq _ (by omega) (by omega)]
      simp only [Option.bind_some, htl]
      split <;> rfl
  · intro i hi ih hd
    by_cases hb : dgt (D.getD i 0)
    · obtain ⟨v1, v2, v3, v4⟩ := val_step D i hi hl hd hb
      refine Ev.step (fun k => ?_) (ih v4)
      simp only [impl_ReadDecimal.l0, hget i hi]
      rw [if_pos (by omega), if_pos (by omega), if_neg (by omega), if_neg (by omega), wsucc (by omega), v1, w64 (x := _ * 10) (by omega) (by omega), w64 (x := (_ - 48) % 256) (by omega) (by omega), w64 (by omega) (by omega)]
      congr 1
      omega
    · rw [hR, if_neg (fun h => hb (h _ (mem_getD8 D i hi)))]
      refine Ev.some_eq fun k => ?_
      unfold dgt at hb
      simp only [impl_ReadDecimal.l0, hget i hi]
      rw [if_pos (by omega), if_pos (by omega)]
      by_cases h48 : (((D.getD i 0).toNat : Nat) : Int) < 48
      · rw [if_pos h48]
      · rw [if_neg h48, if_pos (by omega)]
theorem hp_eq (s : ByteArray) : strings_HasPrefix.f s ⟨#[45]⟩ = some (decide ((dl s).head? = some 45)) := by
  have hn := dl_size s
  unfold strings_HasPrefix.f stringslite_HasPrefix.f
  have h1 : ((⟨#[45]⟩ : ByteArray).size : Int) = 1 := rfl
  rw [h1]
  by_cases h : (s.size : Int) ≥ 1
  · rw [if_pos h, if_pos (by omega), if_pos (by omega)]
    simp only [Option.bind_some]
    congr 1
    rw [Bool.eq_iff_iff, beq_iff_eq, decide_eq_true_eq, ByteArray.toList_eq, ByteArray.toList_eq]
    have he : (s.extract 0 ((1 : Int).toNat)).data.toList = (dl s).take 1 := dl_extract s 0 1
    rw [he]
    cases hl : dl s with
    | nil => rw [hl, List.length_nil] at hn; omega
    | cons x t =>
      show [x] = [45] ↔ some x = some 45
      simp
  · rw [if_neg h]
    simp only [Option.bind_some]
    rw [decide_eq_false]
    cases hl : dl s with
    | nil => simp
    | cons x t => rw [hl, List.length_cons] at hn; exact fun _ => by omega
theorem impl_num (s : ByteArray) (hs : s.size ≤ 1048576) : Ev (fun k => impl_ReadDecimal.f k s) (numS (dl s)) := by
  have hn := dl_size s
  have core : ∀ d : ByteArray, dl d = numD (dl s) → d.size ≤ s.size → (d.size < s.size ↔ (dl s).head? = some 45) → Ev (fun k => impl_ReadDecimal.j0 k s d) (numS (dl s)) := by
    intro d hd hds hlt
    have hdn := dl_size d
    have j1t : Ev (fun k => impl_ReadDecimal.j1 k s d true) (0, false) := Ev.some_eq fun k => by simp only [impl_ReadDecimal.j1]; rfl
    by_cases c1 : (d.size : Int) < 1
    · have : numS (dl s) = (0, false) := by unfold numS; rw [if_neg (fun h : numOk (dl s) => by have := h.1; rw [← hd] at this; omega)]
      rw [this]
      exact Ev.step (fun k => by simp only [impl_ReadDecimal.j0]; rw [if_pos c1]) j1t
    by_cases c2 : (d.size : Int) > 18
    · have : numS (dl s) = (0, false) := by unfold numS; rw [if_neg (fun h : numOk (dl s) => by have := h.2.1; rw [← hd] at this; omega)]
      rw [this]
      exact Ev.step (fun k => by simp only [impl_ReadDecimal.j0]; rw [if_neg c1, decide_eq_true c2]) j1t
    have hloop := impl_loop s d hs (by omega) hds
    obtain ⟨x, t, hx⟩ : ∃ x t, dl d = x :: t := by
      cases hl : dl d with
      | nil => rw [hl, List.length_nil] at hdn; omega
      | cons x t => exact ⟨x, t, rfl⟩
    have hres : numS (dl s) = if ∀ b ∈ dl d, dgt b then (if d.size < s.size then (if Go.Lib.itoa (-((vl 0 (dl d) : Nat) : Int)) = dl s then (-((vl 0 (dl d) : Nat) : Int), true) else (0, false)) else (if Go.Lib.itoa ((vl 0 (dl d) : Nat) : Int) = dl s then (((vl 0 (dl d) : Nat) : Int), true) else (0, false))) else (0, false) := by
      unfold numS
      by_cases hdg : ∀ b ∈ dl d, dgt b
      · rw [if_pos hdg]
        by_cases h45 : (dl s).head? = some 45
        · rw [if_pos (hlt.2 h45)]
          have hsd : dl s = 45 :: x :: t := by
            have h2 : numD (dl s) = (dl s).drop 1 := by unfold numD; rw [if_pos h45]
            rw [h2] at hd
            cases hl : dl s with
            | nil => rw [hl] at h45; cases h45
            | cons y u =>
              rw [hl] at h45 hd
              have : y = 45 := by simpa using h45
              rw [this, ← hx, hd]; rfl
          rw [hsd, hx]
          have hiff := itoa_negd x t (by rw [← hx]; exact hdg)
          by_cases h48 : x = 48
          · rw [if_neg (fun h => hiff.1 h h48), if_neg (fun h : numOk (45 :: x :: t) => h.2.2.1 ⟨by rw [← hsd, ← hd, hx, h48]; rfl, by simp⟩)]
          · rw [if_pos (hiff.2 h48), if_pos ⟨by rw [← hsd, ← hd]; omega, by rw [← hsd, ← hd]; omega, fun h => h48 (by rw [← hsd, ← hd, hx] at h; simpa using h.1), by rw [← hsd, ← hd]; exact hdg⟩]
            unfold numV
            rw [if_pos (show (45 :: x :: t).head? = some 45 from rfl), ← hsd, ← hd, hx]
        · rw [if_neg (fun h => h45 (hlt.1 h))]
          have hsd : dl s = x :: t := by
            have h2 : numD (dl s) = dl s := by unfold numD; rw [if_neg h45]
            rw [← hx, hd, h2]
          have hiff := itoa_pos x t (by rw [← hx]; exact hdg)
          have hnd : numD (x :: t) = x :: t := by rw [← hsd, ← hd, hx, hsd]
          have hx45 : ¬ (x :: t).head? = some 45 := by rw [← hsd]; exact h45
          rw [hsd, hx]
          by_cases h48 : x = 48 ∧ t ≠ []
          · rw [if_neg (fun h => hiff.1 h h48), if_neg (fun h : numOk (x :: t) => h.2.2.1 ⟨by rw [hnd, h48.1]; rfl, by
              cases t with
              | nil => exact absurd rfl h48.2
              | cons y t => simp⟩)]
          · have hlen : (x :: t).length = d.size := by rw [hdn, hx]
            rw [if_pos (hiff.2 h48), if_pos ⟨by rw [hnd]; omega, by rw [hnd]; omega, fun h => h48 ⟨by rw [hnd] at h; simpa using h.1, fun ht => by rw [ht] at h; simp at h⟩, by rw [hnd, ← hx]; exact hdg⟩]
            unfold numV
            rw [if_neg hx45, hnd]
      · rw [if_neg hdg, if_neg (fun h : numOk (dl s) => hdg (by rw [hd]; exact h.2.2.2))]
    rw [hres]
    refine Ev.step (f := fun k => impl_ReadDecimal.j1 k s d false) (fun k => ?_) (Ev.step (fun k => ?_) hloop)
    · simp only [impl_ReadDecimal.j0]; rw [if_neg c1, decide_eq_false c2]
    · simp only [impl_ReadDecimal.j1]; rw [if_neg Bool.false_ne_true]
  unfold impl_ReadDecimal.f
  simp only [hp_eq, Option.bind_some]
  by_cases h45 : (dl s).head? = some 45
  · have hpos : 1 ≤ s.size := by
      cases hl : dl s with
      | nil => rw [hl] at h45; cases h45
      | cons x t => rw [hn, hl]; simp
    simp only [decide_eq_true h45, if_true, if_pos (show (1 : Int) ≤ (s.size : Int) by omega)]
    have hde : dl (s.extract 1 s.size) = (dl s).drop 1 := by
      rw [dl_extract, List.take_of_length_le (by rw [List.length_drop]; omega)]
    have hsz : (s.extract 1 s.size).size = s.size - 1 := by rw [dl_size, hde, List.length_drop, hn]
    exact core _ (by rw [hde]; unfold numD; rw [if_pos h45]) (by omega) ⟨fun _ => h45, fun _ => by omega⟩
  · simp only [decide_eq_false h45, if_neg Bool.false_ne_true]
    exact core s (by unfold numD; rw [if_neg h45]) (Nat.le_refl _) ⟨fun h => absurd h (Nat.lt_irrefl _), fun h => absurd h h45⟩

def mk : Nat → Int → List Int
  | 0, _ => []
  | n + 1, a => a :: mk n (a + 1)
theorem mk_length (n : Nat) : ∀ a, (mk n a).length = n := by
  induction n with
  | zero => intro a; rfl
  | succ n ih => intro a; simp [mk, ih]
theorem mk_at (n : Nat) : ∀ (a : Int) (j : Nat), j < n → (mk n a).getD j 0 = a + j := by
  induction n with
  | zero => intro a j h; omega
  | succ n ih =>
    intro a j h
    cases j with
    | zero => simp [mk]
    | succ j => simp only [mk, List.getD_cons_succ]; rw [ih (a + 1) j (by omega)]; omega
theorem mark_tail (d : Nat) : ∀ (xs : List Int) (a i : Int), 0 ≤ i → (xs.length : Int) - i = d → xs.length ≤ 4611686018427387903 → 0 ≤ a → a + d ≤ 9223372036854775807 →
    Ev (fun k => laws_markInt64S.l0 k xs a i) (a + d, xs.take i.toNat ++ mk d a) := by
  induction d with
  | zero =>
    intro xs a i h0 hd hl ha hb
    refine Ev.step (f := fun _ => some (a, xs)) (fun k => ?_) ?_
    · simp only [laws_markInt64S.l0]; rw [if_neg (by omega)]
    · rw [show xs.take i.toNat = xs from List.take_of_length_le (by omega)]
      simp [mk]; exact Ev.now _
  | succ d ih =>
    intro xs a i h0 hd hl ha hb
    have h := ih (xs.set i.toNat a) (a + 1) (i + 1) (by omega) (by rw [List.length_set]; omega) (by rw [List.length_set]; omega) (by omega) (by omega)
    refine Ev.step (f := fun k => laws_markInt64S.l0 k (xs.set i.toNat a) (a + 1) (i + 1)) (fun k => ?_) ?_
    · simp only [laws_markInt64S.l0]; rw [if_pos (by omega), if_pos h0, w64 (x := a + 1) (by omega) (by omega), w64 (x := i + 1) (by omega) (by omega)]
    · have e1 : (i + 1).toNat = i.toNat + 1 := by omega
      have e2 : (xs.set i.toNat a).take (i.toNat + 1) = xs.take i.toNat ++ [a] := by
        rw [List.take_succ_eq_append_getElem (by rw [List.length_set]; omega), List.getElem_set_self, List.take_set_of_le (by omega)]
      rw [e1, e2] at h
      rw [show a + ((d + 1 : Nat) : Int) = a + 1 + d by omega]
      simpa [mk] using h

theorem held_tail (n : Nat) (b : Int) (hn : n ≤ 4611686018427387903) (hb0 : 0 ≤ b) (hb : b + n ≤ 9223372036854775807) (d : Nat) : ∀ (i : Int), 0 ≤ i → (n : Int) - i = d →
    Ev (fun k => laws_heldInt64S.l0 k (mk n b) (b + i) i) (b + n) := by
  induction d with
  | zero =>
    intro i h0 hd
    refine Ev.step (f := fun _ => some (b + n)) (fun k => ?_) (Ev.now _)
    simp only [laws_heldInt64S.l0]; rw [if_neg (by rw [mk_length]; omega), show b + i = b + n by omega]
  | succ d ih =>
    intro i h0 hd
    have h := ih (i + 1) (by omega) (by omega)
    refine Ev.step (f := fun k => laws_heldInt64S.l0 k (mk n b) (b + (i + 1)) (i + 1)) (fun k => ?_) h
    simp only [laws_heldInt64S.l0]
    rw [if_pos (by rw [mk_length]; omega), if_pos h0, if_pos (by unfold rd2; rw [mk_at n b i.toNat (by omega)]; omega), w64 (x := b + i + 1) (by omega) (by omega), w64 (x := i + 1) (by omega) (by omega), show b + i + 1 = b + (i + 1) by omega]
theorem mark_held (xs : List Int) (hl : xs.length ≤ 1000000000) : Ev (fun k => laws_markInt64S.f k xs 1) (1 + (xs.length : Int), mk xs.length 1) ∧ Ev (fun k => laws_heldInt64S.f k (mk xs.length 1) 1) (1 + (xs.length : Int)) := by
  constructor
  · have h := mark_tail xs.length xs 1 0 (by omega) (by omega) (by omega) (by omega) (by omega)
    simpa [laws_markInt64S.f] using h
  · have h := held_tail xs.length 1 (by omega) (by omega) (by omega) xs.length 0 (by omega) (by omega)
    simpa [laws_heldInt64S.f] using h

theorem strNum_size (v : Int) : (bs [v]).size = 1 := rfl
theorem m109_size : (⟨#[109]⟩ : ByteArray).size = 1 := rfl
theorem markText_loop : ∀ (n : Nat) (t : ByteArray), t.size + n ≤ 4000000000000000000 → ∃ s, Ev (fun k => laws_markText.l0 k (n : Int) t) s := by
  intro n
  induction n using Nat.strongRecOn with
  | ind n ih =>
    intro t ht
    rcases Nat.eq_zero_or_pos n with rfl | hn
    · refine ⟨(⟨#[109]⟩ : ByteArray) ++ t, Ev.some_eq fun k => ?_⟩
      simp only [laws_markText.l0]; rw [if_neg (by omega), if_pos (by rw [m109_size]; omega)]
    · have hd : Int.tdiv (n : Int) 10 = ((n / 10 : Nat) : Int) := by rw [Int.tdiv_eq_ediv_of_nonneg (by omega)]; omega
      obtain ⟨s, e⟩ := ih (n / 10) (by omega) (bs [(wrap64 (48 + (Int.tmod (n : Int) 10))) % 256] ++ t) (by rw [ByteArray.size_append, strNum_size]; omega)
      refine ⟨s, Ev.step (fun k => ?_) e⟩
      simp only [laws_markText.l0, Option.bind_some, hd]
      rw [if_pos (by omega), if_pos (by rw [strNum_size]; omega), w64 (by omega) (by omega)]
theorem markText_ex (a : Int) (h0 : 0 ≤ a) (h1 : a ≤ 2000000000000000000) : ∃ s, Ev (fun k => laws_markText.f k a) s := by
  unfold laws_markText.f
  by_cases h : a ≤ 0
  · simp only [if_pos h]; exact ⟨_, Ev.now _⟩
  · simp only [if_neg h]
    obtain ⟨s, e⟩ := markText_loop a.toNat (⟨#[]⟩ : ByteArray) (by show 0 + a.toNat ≤ _; omega)
    rw [Int.toNat_of_nonneg h0] at e
    exact ⟨s, e⟩

/-- The marks that a law leaves in veneers. -/
theorem mkv_txt : ∃ f : Int → ByteArray, ∀ a, 0 ≤ a → a ≤ 1000000000 → Ev (fun k => laws_markText.f k a) (f a) := by
  refine ⟨fun a => if h : 0 ≤ a ∧ a ≤ 1000000000 then (markText_ex a h.1 (by omega)).choose else ⟨#[]⟩, fun a h0 h1 => ?_⟩
  simp only [dif_pos (And.intro h0 h1)]
  exact (markText_ex a h0 (by omega)).choose_spec
def mkv (f : Int → ByteArray) : Nat → Int → List S35
  | 0, _ => []
  | n + 1, a => ⟨f a, a + 1, a + 2⟩ :: mkv f n (a + 3)
theorem mkv_length (f : Int → ByteArray) (n : Nat) : ∀ a, (mkv f n a).length = n := by
  induction n with
  | zero => intro a; rfl
  | succ n ih => intro a; simp [mkv, ih]
theorem mkv_at (f : Int → ByteArray) (n : Nat) : ∀ (a : Int) (j : Nat), j < n → (mkv f n a).getD j z35 = ⟨f (a + 3 * j), a + 3 * j + 1, a + 3 * j + 2⟩ := by
  induction n with
  | zero => intro a j h; omega
  | succ n ih =>
    intro a j h
    cases j with
    | zero => simp [mkv]
    | succ j => simp only [mkv, List.getD_cons_succ]; rw [ih (a + 3) j (by omega)]; rw [show a + 3 + 3 * (j : Int) = a + 3 * ((j + 1 : Nat) : Int) by omega]
theorem mkv_rd (l : List S35) (i : Nat) : rd35 l (i : Int) = l.getD i z35 := by unfold rd35; simp
theorem mkv_set (l : List S35) (i : Nat) (v : S35) (h : i < l.length) : (l.set i v).getD i z35 = v := by
  rw [List.getD_eq_getElem?_getD, List.getElem?_set_self h]; rfl
theorem mkv_mark (f : Int → ByteArray) (hf : ∀ a, 0 ≤ a → a ≤ 1000000000 → Ev (fun k => laws_markText.f k a) (f a)) (d : Nat) : ∀ (l : List S35) (a : Int) (i : Nat), i + d = l.length → l.length ≤ 1048576 → 1 ≤ a → a + 3 * d ≤ 100000000 →
    Ev (fun k => laws_markVeneerS.l0 k l a (i : Int)) (a + 3 * d, l.take i ++ mkv f d a) := by
  induction d with
  | zero =>
    intro l a i hi hl ha hb
    rw [show l.take i = l from List.take_of_length_le (by omega)]
    simp only [mkv, List.append_nil, Int.natCast_zero, Int.mul_zero, Int.add_zero]
    refine Ev.some_eq fun k => ?_
    simp only [laws_markVeneerS.l0]; rw [if_neg (by omega)]
  | succ d ih =>
    intro l a i hi hl ha hb
    have hlt : i < l.length := by omega
    have h := ih (l.set i ⟨f a, a + 1, a + 2⟩) (a + 3) (i + 1) (by rw [List.length_set]; omega) (by rw [List.length_set]; omega) (by omega) (by omega)
    have e2 : (l.set i (⟨f a, a + 1, a + 2⟩ : S35)).take (i + 1) = l.take i ++ [⟨f a, a + 1, a + 2⟩] := by
      rw [List.take_succ_eq_append_getElem (by rw [List.length_set]; omega), List.getElem_set_self, List.take_set_of_le (by omega)]
    rw [e2] at h
    have e3 : (a + 3 * ((d + 1 : Nat) : Int), l.take i ++ mkv f (d + 1) a) = (a + 3 + 3 * (d : Int), l.take i ++ [(⟨f a, a + 1, a + 2⟩ : S35)] ++ mkv f d (a + 3)) := by
      rw [show a + 3 * ((d + 1 : Nat) : Int) = a + 3 + 3 * (d : Int) by omega]; simp [mkv]
    rw [e3]
    refine Ev.step1 (hf a (by omega) (by omega)) h (fun k hk => ?_)
    simp only [laws_markVeneerS.l0, hk, Option.bind_some, Int.toNat_natCast, mkv_rd]
    rw [if_pos (by omega), if_pos (by omega), w64 (x := a + 1) (by omega) (by omega), w64 (x := a + 1 + 1) (by omega) (by omega), w64 (x := a + 1 + 1 + 1) (by omega) (by omega), wsucc (by omega)]
    have hs : ∀ v : S35, (l.set i v).getD i z35 = v := fun v => mkv_set l i v hlt
    simp only [hs, List.set_set]
    rw [show a + 1 + 1 + 1 = a + 3 by omega, show a + 1 + 1 = a + 2 by omega]
theorem mkv_mark1 (l : List S35) (hl : l.length ≤ 1048576) : ∃ (a : Int) (m : List S35), Ev (fun k => laws_markVeneerS.f k l 1) (a, m) ∧ 1 ≤ a ∧ a ≤ 10000000 := by
  obtain ⟨f, hf⟩ := mkv_txt
  have h1 := mkv_mark f hf l.length l 1 0 (by omega) hl (by omega) (by omega)
  refine ⟨1 + 3 * (l.length : Int), mkv f l.length 1, ?_, by omega, by omega⟩
  simpa [laws_markVeneerS.f] using h1

theorem mkv_held (f : Int → ByteArray) (hf : ∀ a, 0 ≤ a → a ≤ 1000000000 → Ev (fun k => laws_markText.f k a) (f a)) (n : Nat) (hn : n ≤ 1048576) : ∀ (d i : Nat), i + d = n → Ev (fun k => laws_heldVeneerS.l0 k (mkv f n 1) (1 + 3 * (i : Int)) (i : Int)) (1 + 3 * (n : Int)) := by
  intro d
  induction d with
  | zero =>
    intro i hi
    have hl := mkv_length f n 1
    obtain rfl : i = n := by omega
    exact Ev.some_eq fun k => by simp only [laws_heldVeneerS.l0]; rw [if_neg (by omega)]
  | succ d ih =>
    intro i hi
    have hl := mkv_length f n 1
    have h := ih (i + 1) (by omega)
    refine Ev.step1 (hf (1 + 3 * (i : Int)) (by omega) (by omega)) h (fun k hk => ?_)
    simp only [laws_heldVeneerS.l0, hk, Option.bind_some, mkv_rd, mkv_at f n 1 i (by omega)]
    rw [if_pos (by omega), if_pos (by omega), if_pos trivial, w64 (x := 1 + 3 * (i : Int) + 1) (by omega) (by omega), if_pos rfl, w64 (x := 1 + 3 * (i : Int) + 1 + 1) (by omega) (by omega), if_pos (by omega), w64 (by omega) (by omega), wsucc (by omega), show 1 + 3 * (i : Int) + 1 + 1 + 1 = 1 + 3 * ((i + 1 : Nat) : Int) by omega]
theorem mkv_both (l : List S35) (hl : l.length ≤ 1048576) : ∃ (a : Int) (m : List S35), Ev (fun k => laws_markVeneerS.f k l 1) (a, m) ∧ Ev (fun k => laws_heldVeneerS.f k m 1) a ∧ 1 ≤ a ∧ a ≤ 10000000 := by
  obtain ⟨f, hf⟩ := mkv_txt
  have h1 := mkv_mark f hf l.length l 1 0 (by omega) hl (by omega) (by omega)
  have h2 := mkv_held f hf l.length hl l.length 0 (by omega)
  refine ⟨1 + 3 * (l.length : Int), mkv f l.length 1, ?_, ?_, by omega, by omega⟩
  · simpa [laws_markVeneerS.f] using h1
  · simpa [laws_heldVeneerS.f] using h2

/-- A packet marked, and held. -/
theorem markPacket_both (l : List S35) (hl : l.length ≤ 1048576) (xs : List Int) (hx : xs.length ≤ 1048576) : ∃ (a : Int) (m : List S35) (ys : List Int), Ev (fun k => laws_markPacket.f k l xs 1) (a, m, ys) ∧ Ev (fun k => laws_heldPacket.f k m ys 1) a ∧ 1 ≤ a := by
  obtain ⟨a, m, e1, e2, h1, h2⟩ := mkv_both l hl
  have t := mark_tail xs.length xs a 0 (by omega) (by omega) (by omega) (by omega) (by omega)
  have hh := held_tail xs.length a (by omega) (by omega) (by omega) xs.length 0 (by omega) (by omega)
  refine ⟨a + (xs.length : Int), m, xs.take (0 : Int).toNat ++ mk xs.length a, ?_, ?_, by omega⟩
  · unfold laws_markPacket.f
    exact Ev.bind e1 (Ev.bind (show Ev (fun k => laws_markInt64S.f k xs a) _ from t) (Ev.now _))
  · unfold laws_heldPacket.f
    refine Ev.bind e2 ?_
    simp only [if_neg (show ¬ a < 0 by omega)]
    have h3 : Ev (fun k => laws_heldInt64S.f k (xs.take (0 : Int).toNat ++ mk xs.length a) a) (a + (xs.length : Int)) := by
      rw [show xs.take (0 : Int).toNat ++ mk xs.length a = mk xs.length a from by simp]
      unfold laws_heldInt64S.f
      simpa using hh
    refine Ev.bind h3 ?_
    simp only [if_neg (show ¬ a + (xs.length : Int) < 0 by omega)]
    exact Ev.now _

theorem rdS (l : List ByteArray) (i : Nat) : rd9 l (i : Int) = l.getD i ⟨#[]⟩ := by
  show l.getD (i : Int).toNat _ = _
  rw [Int.toNat_natCast]
theorem byte47 : (47 : Int) = ((47 : UInt8).toNat : Int) := rfl
theorem byte44 : (44 : Int) = ((44 : UInt8).toNat : Int) := rfl
theorem byte32 : (32 : Int) = ((32 : UInt8).toNat : Int) := rfl
theorem split_eq (s : ByteArray) (c : UInt8) (hs : s.size ≤ 1048576) : strings_Split.f s ⟨#[c]⟩ = some (splitL s ⟨#[c]⟩) := by
  unfold strings_Split.f
  rw [if_pos (by omega), if_pos (show 1 ≤ (⟨#[c]⟩ : ByteArray).size from Nat.le_refl 1)]
/-- A piece of a text is no longer. -/
theorem pcs_le (c : UInt8) : ∀ (l p : List UInt8), p ∈ pcs c l → p.length ≤ l.length
  | [], p, h => by
    have : p = [] := by simpa [pcs] using h
    rw [this]; exact Nat.le_refl _
  | b :: l, p, h => by
    unfold pcs at h
    split at h
    · rcases List.mem_cons.1 h with rfl | h
      · exact Nat.zero_le _
      · exact Nat.le_succ_of_le (pcs_le c l p h)
    · obtain ⟨q, r, e⟩ := pcs_ne c l
      rw [e] at h
      rcases List.mem_cons.1 h with rfl | h
      · have := pcs_le c l q (by rw [e]; exact List.mem_cons_self ..)
        simp only [List.length_cons]; omega
      · exact Nat.le_succ_of_le (pcs_le c l p (by rw [e]; exact List.mem_cons_of_mem _ h))
theorem piece_le (s : ByteArray) (c : UInt8) (i : Nat) (hi : i < (splitL s ⟨#[c]⟩).length) : ((splitL s ⟨#[c]⟩).getD i ⟨#[]⟩).size ≤ s.size := by
  have h := getD_mem (⟨#[]⟩ : ByteArray) hi
  have h2 : dl ((splitL s ⟨#[c]⟩).getD i ⟨#[]⟩) ∈ (splitL s ⟨#[c]⟩).map dl := List.mem_map.2 ⟨_, h, rfl⟩
  rw [splitL_dl] at h2
  have := pcs_le c _ _ h2
  rw [dl_size, dl_size]
  exact this
/-- A list of numbers, read: both sides agree. -/
theorem list_same (s : ByteArray) (hs : s.size ≤ 1048576) : ∃ r : List Int × Bool, Ev (fun k => spec_ReadList.f k s) r ∧ Ev (fun k => impl_ReadList.f k s) r ∧ r.1.length ≤ 64 := by
  unfold spec_ReadList.f impl_ReadList.f
  by_cases hd : s.toList = (⟨#[45]⟩ : ByteArray).toList
  · simp only [if_pos hd]
    exact ⟨([], true), Ev.now _, Ev.now _, Nat.zero_le _⟩
  simp only [if_neg hd]
  have hsp := specsplit s 44 hs
  have him := split_eq s 44 hs
  have hle := splitL_len s 44
  have hpc := piece_le s 44
  generalize splitL s ⟨#[44]⟩ = P at hsp him hle hpc
  -- what the program makes of the pieces, and the reference, if there are few
  have hq := down (n := P.length) (Q := fun i => ∀ acc : List Int, acc.length = i → ∃ r : List Int × Bool, Ev (fun k => impl_ReadList.l0 k acc P (P.length : Int) (i : Int)) r ∧ (P.length ≤ 64 → Ev (fun k => spec_ReadList.l0 k P acc (i : Int)) r) ∧ (64 < P.length → r = ([], false)) ∧ r.1.length ≤ 64) ?_ ?_
  · obtain ⟨r, r1, r2, r3, r4⟩ := hq [] rfl
    by_cases hc : (P.length : Int) > 64
    · have := r3 (by omega)
      subst this
      exact ⟨([], false), Ev.bind hsp (by simp only [if_pos hc]; exact Ev.now _), by simp only [him, Option.bind_some]; exact r1, Nat.zero_le _⟩
    · exact ⟨r, Ev.bind hsp (by simp only [if_neg hc]; exact r2 (by omega)), by simp only [him, Option.bind_some]; exact r1, r4⟩
  · intro acc ha
    by_cases hc : (acc.length : Int) > 64
    · refine ⟨([], false), Ev.some_eq fun k => ?_, fun h => by omega, fun _ => rfl, Nat.zero_le _⟩
      simp only [impl_ReadList.l0]; rw [if_neg (by omega), if_pos hc]
    · refine ⟨(acc, true), Ev.some_eq fun k => ?_, fun h => Ev.some_eq fun k => ?_, fun h => by omega, by show acc.length ≤ 64; omega⟩
      · simp only [impl_ReadList.l0]; rw [if_neg (by omega), if_neg hc]
      · simp only [spec_ReadList.l0]; rw [if_neg (by omega)]
  · intro i hi ih acc ha
    have hsz := hpc i hi
    have n1 := spec_num (P.getD i ⟨#[]⟩) (by omega)
    have n2 := impl_num (P.getD i ⟨#[]⟩) (by omega)
    generalize numS (dl (P.getD i ⟨#[]⟩)) = v at n1 n2
    by_cases hv : v.2 = true ∧ (-1000000000000 ≤ v.1 ∧ v.1 ≤ 1000000000000)
    · obtain ⟨r, r1, r2, r3, r4⟩ := ih (acc ++ [v.1]) (by rw [List.length_append, ha]; rfl)
      refine ⟨r, Ev.step1 n2 r1 (fun k hk => ?_), fun h => Ev.step1 n1 (r2 h) (fun k hk => ?_), r3, r4⟩
      · simp only [impl_ReadList.l0, rdS, hk, Option.bind_some, within_eq]
        rw [if_pos (by omega), if_pos (by omega), if_pos (by omega), if_pos hv.1, if_pos (decide_eq_true hv.2), if_pos (by omega), wsucc (by omega)]
      · simp only [spec_ReadList.l0, rdS, hk, Option.bind_some, in_eq]
        rw [if_pos (by omega), if_pos (by omega), if_pos hv.1, if_pos (decide_eq_true hv.2), if_pos (by omega), wsucc (by omega)]
    · refine ⟨([], false), Ev.step1 n2 (Ev.now _) (fun k hk => ?_), fun h => Ev.step1 n1 (Ev.now _) (fun k hk => ?_), fun _ => rfl, Nat.zero_le _⟩
      · simp only [impl_ReadList.l0, rdS, hk, Option.bind_some, within_eq]
        rw [if_pos (by omega), if_pos (by omega), if_pos (by omega)]
        by_cases h2 : v.2 = true
        · rw [if_pos h2, if_neg (by rw [decide_eq_true_eq]; exact fun h => hv ⟨h2, h⟩)]
        · rw [if_neg h2]
      · simp only [spec_ReadList.l0, rdS, hk, Option.bind_some, in_eq]
        rw [if_pos (by omega), if_pos (by omega)]
        by_cases h2 : v.2 = true
        · rw [if_pos h2, if_neg (by rw [decide_eq_true_eq]; exact fun h => hv ⟨h2, h⟩)]
        · rw [if_neg h2]
/-- A veneer, read: both sides agree. -/
theorem ven_read (s : ByteArray) (hs : s.size ≤ 1048576) : ∃ r : ByteArray × Int × Int × Bool, Ev (fun k => spec_l07Read.f k s) r ∧ Ev (fun k => impl_ReadVeneer.f k s) r ∧ -9223372036854775808 ≤ r.2.1 ∧ r.2.1 ≤ 9223372036854775807 := by
  unfold spec_l07Read.f impl_ReadVeneer.f
  have hsp := specsplit s 32 hs
  have him := split_eq s 32 hs
  have hpc := piece_le s 32
  generalize splitL s ⟨#[32]⟩ = P at hsp him hpc
  by_cases h3 : (P.length : Int) = 3
  case neg => exact ⟨(⟨#[]⟩, 0, 0, false), Ev.bind hsp (by simp only [if_neg h3]; exact Ev.now _), by simp only [him, Option.bind_some, if_neg h3]; exact Ev.now _, by decide, by decide⟩
  case pos =>
  have r0 : rd9 P 0 = P.getD 0 ⟨#[]⟩ := rdS P 0
  have r1 : rd9 P 1 = P.getD 1 ⟨#[]⟩ := rdS P 1
  have r2 : rd9 P 2 = P.getD 2 ⟨#[]⟩ := rdS P 2
  have z1 := hpc 1 (by omega)
  have z2 := hpc 2 (by omega)
  have a1 := spec_num (P.getD 1 ⟨#[]⟩) (by omega)
  have a2 := impl_num (P.getD 1 ⟨#[]⟩) (by omega)
  have b1 := spec_num (P.getD 2 ⟨#[]⟩) (by omega)
  have b2 := impl_num (P.getD 2 ⟨#[]⟩) (by omega)
  have av := num_bd (dl (P.getD 1 ⟨#[]⟩))
  generalize numS (dl (P.getD 1 ⟨#[]⟩)) = a at a1 a2 av
  generalize numS (dl (P.getD 2 ⟨#[]⟩)) = b at b1 b2
  obtain ⟨v, v1, v2⟩ := ven_same (⟨P.getD 0 ⟨#[]⟩, a.1, b.1⟩ : S35) (by show -9223372036854775808 ≤ a.1 ∧ a.1 ≤ 9223372036854775807; omega)
  have v1' : Ev (fun k => spec_l07Ok.f k (P.getD 0 ⟨#[]⟩) a.1 b.1) v := v1
  have v2' : impl_ValidVeneer.f (P.getD 0 ⟨#[]⟩) a.1 b.1 = some v := v2
  simp only [him, Option.bind_some, if_pos h3, if_pos (show (1 : Int) < (P.length : Int) by omega), if_pos (show (2 : Int) < (P.length : Int) by omega), if_pos (show (0 : Int) < (P.length : Int) by omega), r0, r1, r2]
  by_cases ha : a.2 = true
  case neg =>
    refine ⟨(⟨#[]⟩, 0, 0, false), Ev.bind hsp ?_, Ev.bind a2 (Ev.bind b2 (by simp only [if_neg ha]; exact Ev.now _)), by decide, by decide⟩
    simp only [if_pos h3, if_pos (show (1 : Int) < (P.length : Int) by omega), if_pos (show (2 : Int) < (P.length : Int) by omega), if_pos (show (0 : Int) < (P.length : Int) by omega), r0, r1, r2]
    exact Ev.bind a1 (Ev.bind b1 (by simp only [if_neg ha]; exact Ev.now _))
  case pos =>
  by_cases hb : b.2 = true
  case neg =>
    refine ⟨(⟨#[]⟩, 0, 0, false), Ev.bind hsp ?_, Ev.bind a2 (Ev.bind b2 (by simp only [if_pos ha, if_neg hb]; exact Ev.now _)), by decide, by decide⟩
    simp only [if_pos h3, if_pos (show (1 : Int) < (P.length : Int) by omega), if_pos (show (2 : Int) < (P.length : Int) by omega), if_pos (show (0 : Int) < (P.length : Int) by omega), r0, r1, r2]
    exact Ev.bind a1 (Ev.bind b1 (by simp only [if_pos ha, if_neg hb]; exact Ev.now _))
  case pos =>
  refine ⟨if v = true then (P.getD 0 ⟨#[]⟩, a.1, b.1, true) else (⟨#[]⟩, 0, 0, false), Ev.bind hsp ?_, Ev.bind a2 (Ev.bind b2 ?_), ?_⟩
  · simp only [if_pos h3, if_pos (show (1 : Int) < (P.length : Int) by omega), if_pos (show (2 : Int) < (P.length : Int) by omega), if_pos (show (0 : Int) < (P.length : Int) by omega), r0, r1, r2]
    refine Ev.bind a1 (Ev.bind b1 ?_)
    simp only [if_pos ha, if_pos hb]
    refine Ev.bind v1' ?_
    cases v <;> exact Ev.now _
  · simp only [if_pos ha, if_pos hb, v2', Option.bind_some]
    cases v <;> exact Ev.now _
  · cases v
    · show -9223372036854775808 ≤ (0 : Int) ∧ (0 : Int) ≤ 9223372036854775807
      decide
    · show -9223372036854775808 ≤ a.1 ∧ a.1 ≤ 9223372036854775807
      omega
/-- The reference, when a piece was bad: it comes to nothing. -/
theorem spec_bad (P : List ByteArray) (hP : P.length ≤ 1048577) (hpc : ∀ i, i < P.length → (P.getD i ⟨#[]⟩).size ≤ 1048576) (xs : List Int) : ∀ i : Nat, i ≤ P.length → ∀ V : List S35, V.length ≤ i → Ev (fun k => spec_ReadPacket.l0 k P false V xs (i : Int)) ([], [], false) := by
  have h : ∀ d i : Nat, i + d = P.length → ∀ V : List S35, V.length ≤ i → Ev (fun k => spec_ReadPacket.l0 k P false V xs (i : Int)) ([], [], false) := by
    intro d
    induction d with
    | zero =>
      intro i hi V hV
      exact Ev.some_eq fun k => by simp only [spec_ReadPacket.l0]; rw [if_neg (by omega), if_neg Bool.false_ne_true]
    | succ d ih =>
      intro i hi V hV
      obtain ⟨r, r1, _⟩ := ven_read (P.getD i ⟨#[]⟩) (hpc i (by omega))
      refine Ev.step1 r1 (ih (i + 1) (by omega) (V ++ [⟨r.1, r.2.1, r.2.2.1⟩]) (by rw [List.length_append, List.length_singleton]; omega)) (fun k hk => ?_)
      simp only [spec_ReadPacket.l0, rdS, hk, Option.bind_some]
      rw [if_pos (by omega), if_pos (by omega), if_neg Bool.false_ne_true, if_pos (by omega), wsucc (by omega)]
  exact fun i hi => h (P.length - i) i (by omega)
theorem both (s : ByteArray) (hs : s.size ≤ 1048576) : ∃ r : List S35 × List Int × Bool, Ev (fun k => spec_ReadPacket.f k s) r ∧ Ev (fun k => impl_ReadPacket.f k s) r ∧ r.1.length ≤ 1048576 ∧ r.2.1.length ≤ 1048576 := by
  unfold spec_ReadPacket.f impl_ReadPacket.f
  have hsp := specsplit s 47 hs
  have him := split_eq s 47 hs
  have hle := splitL_len s 47
  have hp1 := splitL_pos s 47
  have hpc0 := piece_le s 47
  generalize splitL s ⟨#[47]⟩ = P at hsp him hle hp1 hpc0
  have hpc : ∀ i, i < P.length → (P.getD i ⟨#[]⟩).size ≤ 1048576 := fun i hi => Nat.le_trans (hpc0 i hi) hs
  have r0 : rd9 P 0 = P.getD 0 ⟨#[]⟩ := rdS P 0
  obtain ⟨n, n1, n2, n3⟩ := list_same (P.getD 0 ⟨#[]⟩) (hpc 0 (by omega))
  simp only [him, Option.bind_some, if_pos (show (0 : Int) < (P.length : Int) by omega), if_pos (show (1 : Int) ≤ (P.length : Int) by omega), r0]
  have hS : ∀ r : List S35 × List Int × Bool, Ev (fun k => spec_ReadPacket.l0 k P n.2 [] n.1 1) r → Ev (fun k => (spec_l01Split.f k s 47).bind fun t1 => if 0 < (t1.length : Int) then (spec_ReadList.f k (rd9 t1 0)).bind fun bt4 => spec_ReadPacket.l0 k t1 bt4.2 [] bt4.1 1 else none) r := fun r hr => by
    refine Ev.bind hsp ?_
    simp only [if_pos (show (0 : Int) < (P.length : Int) by omega), r0]
    exact Ev.bind n1 hr
  by_cases hok : n.2 = true
  case neg =>
    have hf : n.2 = false := by simpa using hok
    refine ⟨([], [], false), hS _ ?_, Ev.bind n2 (by simp only [if_neg hok]; exact Ev.now _), Nat.zero_le _, Nat.zero_le _⟩
    rw [hf]
    exact spec_bad P (by omega) hpc n.1 1 hp1 [] (Nat.zero_le _)
  case pos =>
  -- the pieces behind the first
  have hq := down (n := P.length - 1) (Q := fun i => ∀ V : List S35, V.length = i → (∀ x ∈ V, -9223372036854775808 ≤ x.f1 ∧ x.f1 ≤ 9223372036854775807) → ∃ r : List S35 × List Int × Bool, Ev (fun k => spec_ReadPacket.l0 k P true V n.1 ((i + 1 : Nat) : Int)) r ∧ Ev (fun k => impl_ReadPacket.l0 k V n.1 P 1 (P.length - 1) ((P.length - 1 : Nat) : Int) (i : Int)) r ∧ r.1.length ≤ 1048576 ∧ r.2.1.length ≤ 1048576) ?_ ?_
  · obtain ⟨r, r1, r2, r3⟩ := hq [] rfl (fun x hx => by cases hx)
    refine ⟨r, hS r ?_, Ev.bind n2 (by simp only [if_pos hok]; exact r2), r3⟩
    rw [hok]
    exact r1
  · intro V hV hB
    obtain ⟨u, u1, u2, u3⟩ := packet_same V (by omega) hB n.1 (by omega)
    cases u with
    | true =>
      refine ⟨(V, n.1, true), Ev.step1 u1 (Ev.now _) (fun k hk => ?_), Ev.step1 u2 (Ev.now _) (fun k hk => ?_), by show V.length ≤ _; omega, by show n.1.length ≤ _; omega⟩
      · simp only [spec_ReadPacket.l0, hk, Option.bind_some, if_true]; rw [if_neg (by omega)]
      · simp only [impl_ReadPacket.l0, hk, Option.bind_some, if_true]; rw [if_neg (by omega)]
    | false =>
      refine ⟨([], [], false), Ev.step1 u1 (Ev.now _) (fun k hk => ?_), Ev.step1 u2 (Ev.now _) (fun k hk => ?_), Nat.zero_le _, Nat.zero_le _⟩
      · simp only [spec_ReadPacket.l0, hk, Option.bind_some, if_true, if_neg Bool.false_ne_true]; rw [if_neg (by omega)]
      · simp only [impl_ReadPacket.l0, hk, Option.bind_some, if_neg Bool.false_ne_true]; rw [if_neg (by omega)]
  · intro i hi ih V hV hB
    obtain ⟨v, v1, v2, v3⟩ := ven_read (P.getD (i + 1) ⟨#[]⟩) (hpc (i + 1) (by omega))
    have hrd : rd9 P (((1 : Nat) : Int) + (i : Int)) = P.getD (i + 1) ⟨#[]⟩ := by rw [show ((1 : Nat) : Int) + (i : Int) = ((i + 1 : Nat) : Int) by omega, rdS]
    by_cases hv : v.2.2.2 = true
    · obtain ⟨r, r1, r2, r3⟩ := ih (V ++ [⟨v.1, v.2.1, v.2.2.1⟩]) (by rw [List.length_append, hV]; rfl) (fun x hx => by
        rcases List.mem_append.1 hx with hx | hx
        · exact hB x hx
        · rw [List.mem_singleton] at hx; subst hx; exact v3)
      refine ⟨r, Ev.step1 v1 r1 (fun k hk => ?_), Ev.step1 v2 r2 (fun k hk => ?_), r3⟩
      · simp only [spec_ReadPacket.l0, rdS, hk, Option.bind_some, if_true, hv]
        rw [if_pos (by omega), if_pos (by omega), if_pos (by omega), wsucc (by omega)]
      · simp only [impl_ReadPacket.l0, hrd, hk, Option.bind_some]
        rw [if_pos (by omega), if_pos (by omega), if_pos (by omega), if_pos (by omega), if_pos hv, if_pos (by omega), wsucc (by omega)]
    · have hf : v.2.2.2 = false := by simpa using hv
      refine ⟨([], [], false), Ev.step1 v1 (spec_bad P (by omega) hpc n.1 (i + 2) (by omega) (V ++ [⟨v.1, v.2.1, v.2.2.1⟩]) (by rw [List.length_append, List.length_singleton]; omega)) (fun k hk => ?_), Ev.step1 v2 (Ev.now _) (fun k hk => ?_), Nat.zero_le _, Nat.zero_le _⟩
      · simp only [spec_ReadPacket.l0, rdS, hk, Option.bind_some, if_true, hf]
        rw [if_pos (by omega), if_pos (by omega), if_pos (by omega), wsucc (by omega)]
      · simp only [impl_ReadPacket.l0, hrd, hk, Option.bind_some]
        rw [if_pos (by omega), if_pos (by omega), if_pos (by omega), if_pos (by omega), if_neg hv]
theorem FnExactReadPacket : laws_FnExactReadPacket.Pure := by
  intro s hB
  suffices h : Ev (fun k => laws_FnExactReadPacket.f k s) true from h.rounds
  unfold laws_FnExactReadPacket.f
  refine Ev.cond (fun _ => Ev.now _) (fun h0 => ?_)
  obtain ⟨r, e1, e2, h1, h2⟩ := both s (by omega)
  have he := eqP_same r.1 h1 r.2.1 h2
  obtain ⟨b, m, zs, mk1, mk2, mk3⟩ := markPacket_both r.1 h1 r.2.1 h2
  have hj1 : Ev (fun k => laws_FnExactReadPacket.j1 k m zs b false) true := by
    refine Ev.step (fun k => by simp only [laws_FnExactReadPacket.j1]; rfl) (Ev.bind mk2 ?_)
    simp only [if_neg (show ¬ b < 0 by omega), if_true]; exact Ev.now _
  refine Ev.bind e1 (Ev.bind e2 (Ev.bind he ?_))
  simp only [if_true, beq_self_eq_true, Bool.not_true]
  refine Ev.step (fun k => by simp only [laws_FnExactReadPacket.j0]; rfl) (Ev.bind mk1 (Ev.bind mk2 ?_))
  simp only [if_neg (show ¬ b < 0 by omega), if_true]
  refine Ev.bind e2 (Ev.bind he ?_)
  simp only [if_true, beq_self_eq_true, Bool.not_true]
  exact hj1

end Go.Proofs.YtedakffelgmmnaaDoor.Pure

/- For every blade the printed law FnExactBladeText answers true: the program's BladeText and the reference's agree. -/
import Derived.Test.YtgcfokcmjgoeeaaDoorPFnExactBladeTextx4
namespace Go.Proofs.YtgcfokcmjgoeeaaDoor.Pure
open Go.RowKit Go.Proofs.YtgcfokcmjgoeeaaDoor.PFnExactBladeText Go.Proofs.YtgcfokcmjgoeeaaDoorW.PrintWords Go.Proofs.YtgcfokcmjgoeeaaDoorW.PrintLast
set_option linter.unusedVariables false
set_option linter.unusedSimpArgs false
set_option linter.unnecessarySimpa false

theorem w64 {x : Int} (h0 : -9223372036854775808 ≤ x) (h1 : x ≤ 9223372036854775807) : wrap64 x = x := by unfold wrap64; omega
theorem wf64 {x : Int} (h : (Lit.int .i64 x).wf = true) : -9223372036854775808 ≤ x ∧ x ≤ 9223372036854775807 := by
  simp only [Lit.wf, IntKind.has, Bool.and_eq_true, decide_eq_true_eq] at h
  exact h
theorem maxLen_eq : maxLen = 9223372036854775807 := rfl
theorem Ev.cond {α : Type} {c : Prop} [Decidable c] {g f : Nat → Option α} {r : α} (h : c → Ev g r) (h' : ¬ c → Ev f r) : Ev (fun k => if c then g k else f k) r := by
  by_cases hc : c
  · simp only [if_pos hc]; exact h hc
  · simp only [if_neg hc]; exact h' hc
theorem down {n : Nat} {Q : Nat → Prop} (he : Q n) (hs : ∀ i, i < n → Q (i + 1) → Q i) : Q 0 := by
  have h : ∀ d i, i + d = n → Q i := by
    intro d
    induction d with
    | zero => intro i hi; have : i = n := by omega
              subst this; exact he
    | succ d ih => intro i hi; exact hs i (by omega) (ih (i + 1) (by omega))
  exact h n 0 (by omega)
theorem wsucc {i : Nat} (h : i < 9223372036854775807) : wrap64 ((i : Int) + 1) = ((i + 1 : Nat) : Int) := by rw [w64 (by omega) (by omega)]; omega
theorem getD_mem {α : Type} {xs : List α} {i : Nat} (z : α) (h : i < xs.length) : xs.getD i z ∈ xs := by
  rw [List.getD_eq_getElem?_getD, List.getElem?_eq_getElem h]; exact List.getElem_mem h
theorem getD_map {α β : Type} {xs : List α} {i : Nat} (c : α → β) (z : α) (z' : β) (h : i < xs.length) : (xs.map c).getD i z' = c (xs.getD i z) := by
  rw [List.getD_eq_getElem?_getD, List.getD_eq_getElem?_getD, List.getElem?_eq_getElem h, List.getElem?_eq_getElem (by simpa using h)]; simp
theorem Ev.some_eq {α : Type} {g : Nat → Option α} {r : α} (h : ∀ k, g (k + 1) = some r) : Ev g r := Ev.step (f := fun _ => some r) h (Ev.now r)
/-- A row made full of one value and filled from the left. -/
theorem ev_fill {α β : Type} (xs : List α) (z : α) (c : α → β) (L : Nat → List β → Int → Option (List β))
    (he : ∀ ys : List β, ys.length = xs.length → Ev (fun k => L k ys (xs.length : Int)) ys)
    (hs : ∀ (ys r : List β) (i : Nat), i < xs.length → ys.length = xs.length → Ev (fun k => L k (ys.set i (c (xs.getD i z))) ((i + 1 : Nat) : Int)) r → Ev (fun k => L k ys (i : Int)) r) :
    ∀ ys : List β, ys.length = xs.length → Ev (fun k => L k ys 0) (xs.map c) := by
  have h : ∀ d (i : Nat) (ys : List β), i + d = xs.length → ys.length = xs.length → Ev (fun k => L k ys (i : Int)) (ys.take i ++ (xs.drop i).map c) := by
    intro d
    induction d with
    | zero =>
      intro i ys hi hy
      have e : i = xs.length := by omega
      subst e
      rw [List.drop_of_length_le (Nat.le_refl _), List.map_nil, List.append_nil, List.take_of_length_le (by omega)]
      exact he ys hy
    | succ d ih =>
      intro i ys hi hy
      have hlt : i < xs.length := by omega
      refine hs ys _ i hlt hy ?_
      have h2 := ih (i + 1) (ys.set i (c (xs.getD i z))) (by omega) (by rw [List.length_set]; exact hy)
      have e2 : (ys.set i (c (xs.getD i z))).take (i + 1) = ys.take i ++ [c (xs.getD i z)] := by
        rw [List.take_succ_eq_append_getElem (by rw [List.length_set]; omega), List.getElem_set_self, List.take_set_of_le (by omega)]
      have e3 : xs.drop i = xs.getD i z :: xs.drop (i + 1) := by
        rw [List.drop_eq_getElem_cons hlt, List.getD_eq_getElem?_getD, List.getElem?_eq_getElem hlt]; rfl
      rw [e2] at h2
      rw [e3, List.map_cons]
      simpa using h2
  intro ys hy
  have := h xs.length 0 ys (by omega) hy
  simpa using this
/-- One round of a loop, which leans on what a call answers. -/
theorem Ev.step1 {α β : Type} {g f : Nat → Option α} {u : Nat → Option β} {b : β} {r : α} (e : Ev u b) (k : Ev f r) (h : ∀ k, u k = some b → g (k + 1) = f k) : Ev g r := by
  obtain ⟨K, e⟩ := e
  obtain ⟨K', k⟩ := k
  refine ⟨max K K' + 1, fun n hn => ?_⟩
  obtain ⟨m, rfl⟩ : ∃ m, n = m + 1 := ⟨n - 1, by omega⟩
  rw [h m (e m (by omega))]
  exact k m (by omega)
theorem Ev.step2 {α β γ : Type} {g f : Nat → Option α} {u : Nat → Option β} {v : Nat → Option γ} {b : β} {c : γ} {r : α} (e : Ev u b) (e' : Ev v c) (k : Ev f r) (h : ∀ k, u k = some b → v k = some c → g (k + 1) = f k) : Ev g r := by
  obtain ⟨K, e⟩ := e
  obtain ⟨K2, e'⟩ := e'
  obtain ⟨K', k⟩ := k
  refine ⟨max (max K K2) K' + 1, fun n hn => ?_⟩
  obtain ⟨m, rfl⟩ : ∃ m, n = m + 1 := ⟨n - 1, by omega⟩
  rw [h m (e m (by omega)) (e' m (by omega))]
  exact k m (by omega)

theorem in_eq (n lo hi : Int) : spec_l00In.f n lo hi = some (decide (lo ≤ n ∧ n ≤ hi)) := by
  unfold spec_l00In.f
  by_cases h : n ≥ lo
  · rw [if_pos h]; simp [show lo ≤ n from h]
  · rw [if_neg h]; simp; omega

theorem within_eq (n lo hi : Int) : impl_within.f n lo hi = some (decide (lo ≤ n ∧ n ≤ hi)) := by
  unfold impl_within.f
  by_cases h : n ≥ lo
  · rw [if_pos h]; simp [show lo ≤ n from h]
  · rw [if_neg h]; simp; omega

theorem small_eq (c : Int) : spec_l01Small.f c = some (decide (97 ≤ c ∧ c ≤ 122)) := by
  unfold spec_l01Small.f
  by_cases h : c ≥ 97
  · rw [if_pos h]; simp [show 97 ≤ c from h]
  · rw [if_neg h]; simp; omega
theorem digit_eq (c : Int) : spec_l01Digit.f c = some (decide (48 ≤ c ∧ c ≤ 57)) := by
  unfold spec_l01Digit.f
  by_cases h : c ≥ 48
  · rw [if_pos h]; simp [show 48 ≤ c from h]
  · rw [if_neg h]; simp; omega
theorem name_tail (s : ByteArray) (hs : s.size ≤ 9223372036854775807) (d : Nat) : ∀ (i : Int), 0 ≤ i → (s.size : Int) - i = d →
    ∃ b, Ev (fun k => impl_IsName.l0 k s i) b ∧ Ev (fun k => spec_l01Name.l0 k s i) b := by
  induction d with
  | zero =>
    intro i h0 hd
    refine ⟨true, Ev.step (f := fun _ => some true) (fun k => ?_) (Ev.now _), Ev.step (f := fun _ => some true) (fun k => ?_) (Ev.now _)⟩
    · simp only [impl_IsName.l0]; rw [if_neg (by omega)]
    · simp only [spec_l01Name.l0]; rw [if_neg (by omega)]
  | succ d ih =>
    intro i h0 hd
    have hlt : i < (s.size : Int) := by omega
    have hw : wrap64 (i + 1) = i + 1 := w64 (by omega) (by omega)
    by_cases hg : (97 ≤ bt s i ∧ bt s i ≤ 122) ∨ (48 ≤ bt s i ∧ bt s i ≤ 57)
    · obtain ⟨b, h1, h2⟩ := ih (i + 1) (by omega) (by omega)
      refine ⟨b, Ev.step (f := fun k => impl_IsName.l0 k s (i + 1)) (fun k => ?_) h1, Ev.step (f := fun k => spec_l01Name.l0 k s (i + 1)) (fun k => ?_) h2⟩
      · simp only [impl_IsName.l0]; rw [if_pos hlt, if_pos h0, hw]
        rcases hg with hg | hg
        · rw [if_neg (by omega), if_neg (by omega)]
        · rw [if_pos (by omega), if_neg (by omega), if_neg (by omega)]
      · simp only [spec_l01Name.l0, small_eq, digit_eq, Option.bind_some]; rw [if_pos hlt, if_pos h0, hw]
        by_cases hq : 97 ≤ bt s i ∧ bt s i ≤ 122
        · rw [if_pos (by simpa using hq)]
        · have hq2 : 48 ≤ bt s i ∧ bt s i ≤ 57 := by omega
          rw [if_neg (by simpa using hq), if_pos (by simpa using hq2)]
    · refine ⟨false, Ev.step (f := fun _ => some false) (fun k => ?_) (Ev.now _), Ev.step (f := fun _ => some false) (fun k => ?_) (Ev.now _)⟩
      · simp only [impl_IsName.l0]; rw [if_pos hlt, if_pos h0]
        by_cases h1 : bt s i < 97
        · rw [if_pos h1]
          by_cases h2 : bt s i < 48
          · rw [if_pos h2]
          · rw [if_neg h2, if_pos (by omega)]
        · rw [if_neg h1, if_pos (by omega)]
          by_cases h2 : bt s i < 48
          · rw [if_pos h2]
          · rw [if_neg h2, if_pos (by omega)]
      · simp only [spec_l01Name.l0, small_eq, digit_eq, Option.bind_some]; rw [if_pos hlt, if_pos h0]
        have h1 : ¬ (97 ≤ bt s i ∧ bt s i ≤ 122) := fun h => hg (.inl h)
        have h2 : ¬ (48 ≤ bt s i ∧ bt s i ≤ 57) := fun h => hg (.inr h)
        rw [if_neg (by simpa using h1), if_neg (by simpa using h2)]
theorem name_same (s : ByteArray) (hs : s.size ≤ 9223372036854775807) : ∃ b, Ev (fun k => impl_IsName.f k s) b ∧ Ev (fun k => spec_l01Name.f k s) b ∧ (b = true → s.size ≤ 10) := by
  have he : (s.toList = ([] : List UInt8)) ↔ s.size = 0 := by
    rw [ByteArray.toList_eq]
    constructor
    · intro h; have := data_length s; rw [h] at this; simpa using this.symm
    · intro h; have := data_length s; rw [h] at this; exact List.eq_nil_of_length_eq_zero this
  have f1 : Ev (fun k => impl_IsName.j0 k s true) false := Ev.step (f := fun _ => some false) (fun k => by simp only [impl_IsName.j0]; rfl) (Ev.now _)
  have f2 : Ev (fun k => spec_l01Name.j0 k s true) false := Ev.step (f := fun _ => some false) (fun k => by simp only [spec_l01Name.j0]; rfl) (Ev.now _)
  unfold impl_IsName.f spec_l01Name.f
  by_cases h0 : s.size = 0
  · refine ⟨false, ?_, ?_, by simp⟩
    · simp only [if_pos (show (s.size : Int) < 1 by omega)]; exact f1
    · simp only [if_pos (he.2 h0)]; exact f2
  · have hn : ¬ (s.toList = ([] : List UInt8)) := fun h => h0 (he.1 h)
    simp only [if_neg hn, if_neg (show ¬ (s.size : Int) < 1 by omega)]
    by_cases h1 : (s.size : Int) > 10
    · simp only [if_pos h1]; exact ⟨false, f1, f2, by simp⟩
    · simp only [if_neg h1, if_pos (show (0 : Int) < (s.size : Int) by omega), small_eq, Option.bind_some]
      by_cases h2 : 97 ≤ bt s 0 ∧ bt s 0 ≤ 122
      · obtain ⟨b, e1, e2⟩ := name_tail s hs s.size 0 (by omega) (by omega)
        refine ⟨b, ?_, ?_, fun _ => by omega⟩
        · simp only [if_neg (show ¬ bt s 0 < 97 by omega), show decide (bt s 0 > 122) = false from decide_eq_false (by omega)]
          exact Ev.step (f := fun k => impl_IsName.l0 k s 0) (fun k => by simp only [impl_IsName.j0]; rw [if_neg (by simp)]) e1
        · simp only [show (!decide (97 ≤ bt s 0 ∧ bt s 0 ≤ 122)) = false by simpa using h2]
          exact Ev.step (f := fun k => spec_l01Name.l0 k s 0) (fun k => by simp only [spec_l01Name.j0]; rw [if_neg (by simp)]) e2
      · refine ⟨false, ?_, ?_, by simp⟩
        · by_cases h3 : bt s 0 < 97
          · simp only [if_pos h3]; exact f1
          · simp only [if_neg h3, show decide (bt s 0 > 122) = true from decide_eq_true (by omega)]; exact f1
        · simp only [show (!decide (97 ≤ bt s 0 ∧ bt s 0 ≤ 122)) = true by simp; omega]; exact f2

theorem blade_same (s : ByteArray) (a b c : Int) (hs : s.size ≤ 9223372036854775807) : ∃ r, Ev (fun k => impl_ValidBlade.f k s a b c) r ∧ Ev (fun k => spec_l16Ok.f k [⟨s, a, b, c⟩]) r ∧
    (r = true → (1 ≤ a ∧ a ≤ 1000000) ∧ (0 ≤ b ∧ b ≤ 1000000) ∧ (1 ≤ c ∧ c ≤ 10000)) := by
  obtain ⟨t, h1, h2, _⟩ := name_same s hs
  refine ⟨t && decide (1 ≤ a ∧ a ≤ 1000000) && decide (0 ≤ b ∧ b ≤ 1000000) && decide (1 ≤ c ∧ c ≤ 10000), ?_, ?_, fun h => ?_⟩
  · unfold impl_ValidBlade.f
    refine Ev.bind h1 ?_
    simp only [within_eq, Option.bind_some]
    generalize decide (1 ≤ a ∧ a ≤ 1000000) = p
    generalize decide (0 ≤ b ∧ b ≤ 1000000) = q
    cases t <;> cases p <;> cases q <;> exact Ev.now _
  · unfold spec_l16Ok.f
    refine Ev.bind h2 ?_
    simp only [show ∀ x, rd_T26 [x] 0 = x from fun _ => rfl, in_eq, Option.bind_some]
    generalize decide (1 ≤ a ∧ a ≤ 1000000) = p
    generalize decide (0 ≤ b ∧ b ≤ 1000000) = q
    cases t <;> cases p <;> cases q <;> exact Ev.now _
  · simp only [Bool.and_eq_true, decide_eq_true_eq] at h
    exact ⟨h.1.1.2, h.1.2, h.2⟩

theorem rdz (xs : List Int) (i : Nat) : rd xs (i : Int) = xs.getD i 0 := by show xs.getD (i : Int).toNat 0 = _; rw [Int.toNat_natCast]

/-- Numbers in decimal. -/
theorem ba_ext {a b : ByteArray} (h : a.data.toList = b.data.toList) : a = b := by
  cases a; cases b; simp at h; simpa using h
theorem ba_app (a b : ByteArray) : (a ++ b).data.toList = a.data.toList ++ b.data.toList := by
  rw [ByteArray.data_append]; simp
theorem ba_size (a : ByteArray) : a.size = a.data.toList.length := by rw [Array.length_toList]; rfl
def txt (n : Int) : ByteArray := ⟨(Go.Lib.itoa n).toArray⟩
theorem txt_data (n : Int) : (txt n).data.toList = Go.Lib.itoa n := rfl
def lows (u : Nat) : List Int := if h : u = 0 then [] else (48 + ((u % 10 : Nat) : Int)) :: lows (u / 10)
termination_by u
decreasing_by omega
theorem lows_zero : lows 0 = [] := by rw [lows, dif_pos rfl]
theorem lows_pos {u : Nat} (h : u ≠ 0) : lows u = (48 + ((u % 10 : Nat) : Int)) :: lows (u / 10) := by rw [lows, dif_neg h]
theorem lows_len : ∀ (k u : Nat), u < 10 ^ k → (lows u).length ≤ k := by
  intro k
  induction k with
  | zero => intro u h; obtain rfl : u = 0 := by simpa using h
            rw [lows_zero]; exact Nat.le_refl _
  | succ k ih =>
    intro u h
    by_cases h0 : u = 0
    · subst h0; rw [lows_zero]; exact Nat.zero_le _
    · rw [lows_pos h0, List.length_cons]
      have := ih (u / 10) (by rw [Nat.pow_succ] at h; omega)
      omega
theorem lows_dec (u : Nat) (h : u ≠ 0) : ((lows u).reverse.map fun n => UInt8.ofNat n.toNat) = Go.Lib.decDigits u := by
  induction u using Nat.strongRecOn with
  | ind u ih =>
    have e : UInt8.ofNat (48 + ((u % 10 : Nat) : Int)).toNat = UInt8.ofNat (48 + u % 10) := by congr 1
    rw [lows_pos h, List.reverse_cons, List.map_append, Go.Lib.decDigits]
    by_cases h10 : u < 10
    · rw [dif_pos h10, show u / 10 = 0 by omega, lows_zero]
      simp only [List.reverse_nil, List.map_nil, List.nil_append, List.map_cons]
      rw [e, Nat.mod_eq_of_lt h10]
    · rw [dif_neg h10, ih (u / 10) (by omega) (by omega)]
      simp only [List.map_cons, List.map_nil]
      rw [e]
theorem dec_rev (ds : List Int) (hl : ds.length ≤ 1000000) : ∀ (j : Nat) (out : List Int), j ≤ ds.length → out.length + j ≤ 1000000 → Ev (fun k => spec_l01Dec.l1 k ds out ((j : Int) - 1)) (strOfNums (out ++ (ds.take j).reverse)) := by
  intro j
  induction j with
  | zero =>
    intro out hj ho
    refine Ev.some_eq fun k => ?_
    simp only [spec_l01Dec.l1, List.take_zero, List.reverse_nil, List.append_nil]; rw [if_neg (by omega)]
  | succ j ih =>
    intro out hj ho
    have h := ih (out ++ [ds.getD j 0]) (by omega) (by rw [List.length_append, List.length_singleton]; omega)
    have e : out ++ (ds.take (j + 1)).reverse = out ++ [ds.getD j 0] ++ (ds.take j).reverse := by
      rw [List.take_succ_eq_append_getElem (by omega), List.reverse_append, List.getD_eq_getElem?_getD, List.getElem?_eq_getElem (by omega)]
      simp
    rw [e]
    refine Ev.step (fun k => ?_) h
    have hr : rd ds (((j + 1 : Nat) : Int) - 1) = ds.getD j 0 := by show ds.getD (((j + 1 : Nat) : Int) - 1).toNat 0 = _; rw [show (((j + 1 : Nat) : Int) - 1).toNat = j by omega]
    simp only [spec_l01Dec.l1, hr]; rw [if_pos (by omega), if_pos (by omega), if_pos (by omega), if_pos (by omega), w64 (by omega) (by omega), show ((j + 1 : Nat) : Int) - 1 - 1 = (j : Int) - 1 by omega]
theorem dec_digits (n : Int) (r : ByteArray) : ∀ (u : Nat) (m : Int) (acc : List Int), m.natAbs = u → u ≤ 1000000000000 → acc.length + u ≤ 10000000000000 → Ev (fun k => spec_l01Dec.l0 k n (acc ++ lows u) 0) r → Ev (fun k => spec_l01Dec.l0 k n acc m) r := by
  intro u
  induction u using Nat.strongRecOn with
  | ind u ih =>
    intro m acc hm hu ha hr
    by_cases h0 : u = 0
    · subst h0
      obtain rfl : m = 0 := by omega
      rw [lows_zero, List.append_nil] at hr; exact hr
    · rw [lows_pos h0] at hr
      have hr' : Ev (fun k => spec_l01Dec.l0 k n ((acc ++ [48 + ((u % 10 : Nat) : Int)]) ++ lows (u / 10)) 0) r := by rw [List.append_assoc]; exact hr
      have hq : (Int.tdiv m 10).natAbs = u / 10 := by rw [Int.natAbs_tdiv, hm]; rfl
      have hd0 : -1000000000000 ≤ Int.tdiv m 10 ∧ Int.tdiv m 10 ≤ 1000000000000 := by omega
      have h := ih (u / 10) (by omega) (Int.tdiv m 10) (acc ++ [48 + ((u % 10 : Nat) : Int)]) hq (by omega) (by rw [List.length_append, List.length_singleton]; omega) hr'
      have ht : (Int.tmod m 10).natAbs = u % 10 := by rw [Int.natAbs_tmod, hm]; rfl
      refine Ev.step (fun k => ?_) h
      simp only [spec_l01Dec.l0]
      rw [if_neg (by omega), w64 (x := Int.tdiv m 10) (by omega) (by omega)]
      by_cases hs : Int.tmod m 10 < 0
      · rw [if_pos hs, if_pos (by omega), w64 (x := -(Int.tmod m 10)) (by omega) (by omega), w64 (x := 48 + -(Int.tmod m 10)) (by omega) (by omega), show (48 + -(Int.tmod m 10)) % 256 = 48 + ((u % 10 : Nat) : Int) by omega]
      · rw [if_neg hs, if_pos (by omega), w64 (x := 48 + Int.tmod m 10) (by omega) (by omega), show (48 + Int.tmod m 10) % 256 = 48 + ((u % 10 : Nat) : Int) by omega]
theorem txt_len (n : Int) (h : -1000000000000 ≤ n ∧ n ≤ 1000000000000) : (Go.Lib.itoa n).length ≤ 20 := by
  have hd : ∀ u : Nat, u < 10 ^ 13 → (Go.Lib.decDigits u).length ≤ 13 := fun u hu => by
    by_cases h0 : u = 0
    · subst h0; rw [Go.Lib.decDigits, dif_pos (by omega)]; decide
    · rw [← lows_dec u h0]; simp only [List.length_map, List.length_reverse]; exact lows_len 13 u hu
  unfold Go.Lib.itoa
  split
  · have := hd n.natAbs (by omega); rw [List.length_cons]; omega
  · have := hd n.toNat (by omega); omega
theorem dec_ev (n : Int) (h : -1000000000000 ≤ n ∧ n ≤ 1000000000000) : Ev (fun k => spec_l01Dec.f k n) (txt n) := by
  unfold spec_l01Dec.f
  by_cases h0 : n = 0
  · subst h0
    have e : txt 0 = (⟨#[48]⟩ : ByteArray) := ba_ext (by rw [txt_data]; unfold Go.Lib.itoa; rw [if_neg (by omega), Go.Lib.decDigits, dif_pos (by decide)]; rfl)
    rw [e]; simp only [if_true]; exact Ev.now _
  · simp only [if_neg h0]
    have hl : (lows n.natAbs).length ≤ 13 := lows_len 13 _ (by omega)
    refine dec_digits n (txt n) n.natAbs n [] rfl (by omega) (by simp; omega) ?_
    rw [List.nil_append]
    have hj : ∀ ds : List Int, ds.length ≤ 14 → strOfNums ds.reverse = txt n → Ev (fun k => spec_l01Dec.j1 k ds) (txt n) := fun ds hd he => by
      have := dec_rev ds (by omega) ds.length [] (Nat.le_refl _) (by simp; omega)
      rw [List.take_of_length_le (Nat.le_refl _), List.nil_append, he] at this
      refine Ev.step (fun k => ?_) this
      simp only [spec_l01Dec.j1]; rw [w64 (by omega) (by omega)]
    by_cases hn : n < 0
    · refine Ev.step (fun k => ?_) (hj (lows n.natAbs ++ [45]) (by rw [List.length_append, List.length_singleton]; omega) (ba_ext ?_))
      · simp only [spec_l01Dec.l0]; rw [if_pos trivial, if_pos hn, if_pos (by omega)]
      · rw [strOfNums_data, txt_data, List.reverse_append, List.map_append, lows_dec _ (by omega)]
        unfold Go.Lib.itoa; rw [if_pos hn]; rfl
    · refine Ev.step (fun k => ?_) (hj (lows n.natAbs) (by omega) (ba_ext ?_))
      · simp only [spec_l01Dec.l0]; rw [if_pos trivial, if_neg hn]
      · rw [strOfNums_data, txt_data, lows_dec _ (by omega)]
        unfold Go.Lib.itoa; rw [if_neg hn, show n.natAbs = n.toNat by omega]
theorem decimal_eq (n : Int) (h : -1000000000000 ≤ n ∧ n ≤ 1000000000000) : impl_Decimal.f n = some (txt n) := by
  unfold impl_Decimal.f strconv_FormatInt_48.f
  rw [if_pos rfl, if_pos (by omega), if_pos (by omega)]; rfl
/-- Lists of numbers as text. -/
theorem tail_len (xs : List Int) (h : ∀ x ∈ xs, -1000000000000 ≤ x ∧ x ≤ 1000000000000) : (Go.Lib.joinTail [44] (xs.map Go.Lib.itoa)).length ≤ 21 * xs.length := by
  induction xs with
  | nil => simp [Go.Lib.joinTail]
  | cons x xs ih =>
    have h1 := txt_len x (h x (List.mem_cons_self))
    have h2 := ih (fun y hy => h y (List.mem_cons_of_mem _ hy))
    simp only [Go.Lib.joinTail, List.map_cons, List.flatten_cons, List.length_append, List.length_cons, List.length_nil] at h2 ⊢
    omega
theorem drop_map (xs : List Int) (i : Nat) (hi : i < xs.length) : Go.Lib.joinTail [44] ((xs.drop i).map Go.Lib.itoa) = [44] ++ Go.Lib.itoa (xs.getD i 0) ++ Go.Lib.joinTail [44] ((xs.drop (i + 1)).map Go.Lib.itoa) := by
  rw [List.drop_eq_getElem_cons hi, List.getD_eq_getElem?_getD, List.getElem?_eq_getElem hi, List.map_cons]
  unfold Go.Lib.joinTail
  rw [List.map_cons, List.flatten_cons]
  rfl
theorem spec_tail (xs : List Int) (hl : xs.length ≤ 64) (hb : ∀ j, j < xs.length → -1000000000000 ≤ xs.getD j 0 ∧ xs.getD j 0 ≤ 1000000000000) :
    ∀ (d i : Nat) (out : ByteArray), i + d = xs.length → 1 ≤ i → out.size ≤ 30 * i → Ev (fun k => spec_l01List.l0 k xs out (i : Int)) (out ++ ⟨(Go.Lib.joinTail [44] ((xs.drop i).map Go.Lib.itoa)).toArray⟩) := by
  intro d
  induction d with
  | zero =>
    intro i out hi h1 ho
    have e : out ++ (⟨(Go.Lib.joinTail [44] ((xs.drop i).map Go.Lib.itoa)).toArray⟩ : ByteArray) = out := ba_ext (by rw [ba_app, List.drop_of_length_le (by omega)]; simp [Go.Lib.joinTail])
    rw [e]
    refine Ev.some_eq fun k => ?_
    simp only [spec_l01List.l0]; rw [if_neg (by omega)]
  | succ d ih =>
    intro i out hi h1 ho
    have hx := hb i (by omega)
    have hs : (txt (xs.getD i 0)).size ≤ 20 := by rw [ba_size, txt_data]; exact txt_len _ hx
    have hs1 : (⟨#[44]⟩ : ByteArray).size = 1 := rfl
    have h := ih (i + 1) ((out ++ (⟨#[44]⟩ : ByteArray)) ++ txt (xs.getD i 0)) (by omega) (by omega) (by rw [ByteArray.size_append, ByteArray.size_append]; omega)
    have e : out ++ (⟨(Go.Lib.joinTail [44] ((xs.drop i).map Go.Lib.itoa)).toArray⟩ : ByteArray) = (out ++ (⟨#[44]⟩ : ByteArray)) ++ txt (xs.getD i 0) ++ (⟨(Go.Lib.joinTail [44] ((xs.drop (i + 1)).map Go.Lib.itoa)).toArray⟩ : ByteArray) := ba_ext (by
      rw [ba_app, ba_app, ba_app, ba_app, drop_map xs i (by omega), txt_data]; simp)
    rw [e]
    refine Ev.step1 (dec_ev _ hx) h (fun k hk => ?_)
    simp only [spec_l01List.l0, rdz, hk, Option.bind_some]; rw [if_pos (by omega), if_pos (by omega), if_pos (by omega), if_pos (by omega), if_pos (by rw [ByteArray.size_append]; omega), wsucc (by omega)]
def lst (xs : List Int) : ByteArray := ⟨(Go.Lib.join (xs.map Go.Lib.itoa) [44]).toArray⟩
theorem lst_data (xs : List Int) : (lst xs).data.toList = Go.Lib.join (xs.map Go.Lib.itoa) [44] := rfl
theorem lst_len (xs : List Int) (h : ∀ x ∈ xs, -1000000000000 ≤ x ∧ x ≤ 1000000000000) : (Go.Lib.join (xs.map Go.Lib.itoa) [44]).length ≤ 21 * xs.length := by
  cases xs with
  | nil => simp [Go.Lib.join_nil]
  | cons x xs =>
    have h1 := txt_len x (h x (List.mem_cons_self))
    have h2 := tail_len xs (fun y hy => h y (List.mem_cons_of_mem _ hy))
    rw [List.map_cons, Go.Lib.join_cons, List.length_append, List.length_cons]
    omega
theorem list_both (xs : List Int) (hl : xs.length ≤ 64) (hb : ∀ j, j < xs.length → -1000000000000 ≤ xs.getD j 0 ∧ xs.getD j 0 ≤ 1000000000000) : ∃ s, Ev (fun k => spec_l01List.f k xs) s ∧ Ev (fun k => impl_ListText.f k xs) s ∧ s.size ≤ 2000 := by
  have hm : ∀ x ∈ xs, -1000000000000 ≤ x ∧ x ≤ 1000000000000 := fun x hx => by
    obtain ⟨j, hj, rfl⟩ := List.getElem_of_mem hx
    have := hb j hj
    rwa [List.getD_eq_getElem?_getD, List.getElem?_eq_getElem hj] at this
  have hlen := lst_len xs hm
  unfold spec_l01List.f impl_ListText.f
  have hfst : ∀ s, Ev (fun k => impl_ListText.l0 k xs xs (xs.length : Int) (xs.length : Int)) s → Ev (fun k => impl_ListText.l0 k xs xs (xs.length : Int) 0) s := by
    intro s h
    refine down (n := xs.length) (Q := fun i => Ev (fun k => impl_ListText.l0 k xs xs (xs.length : Int) (i : Int)) s) h (fun i hi ih => Ev.step (fun k => ?_) ih)
    simp only [impl_ListText.l0, rdz, within_eq, decide_eq_true (hb i hi), Option.bind_some]; rw [if_pos (by omega), if_pos (by omega), if_pos (by omega), if_pos trivial, wsucc (by omega)]
  simp only [if_neg (show ¬ (xs.length : Int) > 64 by omega)]
  by_cases h0 : (xs.length : Int) = 0
  · simp only [if_pos h0]
    refine ⟨(⟨#[45]⟩ : ByteArray), Ev.now _, hfst _ (Ev.some_eq fun k => ?_), by decide⟩
    simp only [impl_ListText.l0]; rw [if_neg (by omega), if_pos h0]
  · simp only [if_neg h0]
    have hx0 := hb 0 (by omega)
    refine ⟨lst xs, ?_, hfst _ ?_, by rw [ba_size, lst_data]; omega⟩
    · have hs : (txt (xs.getD 0 0)).size ≤ 20 := by rw [ba_size, txt_data]; exact txt_len _ hx0
      have e0 : (⟨#[]⟩ : ByteArray) ++ txt (xs.getD 0 0) = txt (xs.getD 0 0) := ba_ext (by rw [ba_app]; rfl)
      have h := spec_tail xs hl hb (xs.length - 1) 1 (txt (xs.getD 0 0)) (by omega) (Nat.le_refl _) (by omega)
      have e : lst xs = txt (xs.getD 0 0) ++ (⟨(Go.Lib.joinTail [44] ((xs.drop 1).map Go.Lib.itoa)).toArray⟩ : ByteArray) := ba_ext (by
        rw [ba_app, lst_data, txt_data]
        cases xs with
        | nil => simp at h0
        | cons x xs => rw [List.map_cons, Go.Lib.join_cons]; rfl)
      rw [e]
      refine Ev.step1 (dec_ev _ hx0) h (fun k hk => ?_)
      have hr : rd xs 0 = xs.getD 0 0 := rfl
      simp only [spec_l01List.l0, hr, hk, Option.bind_some]; rw [if_pos (by omega), if_neg (by omega), if_pos (by omega), if_pos (by show (⟨#[]⟩ : ByteArray).size + _ ≤ _; rw [show (⟨#[]⟩ : ByteArray).size = 0 from rfl]; omega), e0, w64 (by omega) (by omega)]; rfl
    · have hp := down (n := xs.length) (Q := fun i => ∀ acc : List ByteArray, acc = (xs.take i).map txt → Ev (fun k => impl_ListText.l1 k acc xs (xs.length : Int) (i : Int)) (lst xs)) ?_ ?_
      · refine Ev.step (fun k => ?_) (hp [] (by simp))
        simp only [impl_ListText.l0]; rw [if_neg (by omega), if_neg h0]; rfl
      · intro acc hacc
        rw [List.take_of_length_le (Nat.le_refl _)] at hacc
        have ej : (acc.map (·.data.toList)) = xs.map Go.Lib.itoa := by rw [hacc, List.map_map]; rfl
        refine Ev.some_eq fun k => ?_
        simp only [impl_ListText.l1, strings_Join.f, ej]
        rw [if_neg (by omega), if_pos (by rw [hacc, List.length_map]; omega), if_pos (by show (Go.Lib.join (xs.map Go.Lib.itoa) [44]).length ≤ _; omega)]; rfl
      · intro i hi ih acc hacc
        have hal : acc.length = i := by rw [hacc, List.length_map, List.length_take]; omega
        refine Ev.step (fun k => ?_) (ih (acc ++ [txt (xs.getD i 0)]) (by
          rw [hacc, List.take_succ_eq_append_getElem hi, List.map_append, List.getD_eq_getElem?_getD, List.getElem?_eq_getElem hi]; rfl))
        simp only [impl_ListText.l1, rdz, decimal_eq _ (hb i hi), Option.bind_some]; rw [if_pos (by omega), if_pos (by omega), if_pos (by omega), if_pos (by omega), wsucc (by omega)]

theorem both (s : ByteArray) (a b c : Int) (hs : s.size ≤ 1048576) : ∃ r, Ev (fun k => spec_BladeText.f k s a b c) r ∧ Ev (fun k => impl_BladeText.f k s a b c) r := by
  obtain ⟨r, h1, h2, h3⟩ := blade_same s a b c (by omega)
  unfold spec_BladeText.f impl_BladeText.f
  cases r with
  | false => exact ⟨(⟨#[]⟩ : ByteArray), Ev.bind h2 (Ev.now _), Ev.bind h1 (Ev.now _)⟩
  | true =>
    obtain ⟨ha, hb, hc⟩ := h3 rfl
    obtain ⟨t, t1, t2, t3⟩ := list_both [a, b, c] (by simp) (fun j hj => by
      match j, hj with
      | 0, _ => show -1000000000000 ≤ a ∧ a ≤ 1000000000000; omega
      | 1, _ => show -1000000000000 ≤ b ∧ b ≤ 1000000000000; omega
      | 2, _ => show -1000000000000 ≤ c ∧ c ≤ 1000000000000; omega
      | (j + 3), hj => exact absurd hj (by simp only [List.length_cons, List.length_nil]; omega))
    have h32 : (⟨#[32]⟩ : ByteArray).size = 1 := rfl
    have hsz : (s ++ (⟨#[32]⟩ : ByteArray)).size + t.size ≤ 9223372036854775807 := by rw [ByteArray.size_append]; omega
    have hp : rd_T26 [⟨s, a, b, c⟩] 0 = ⟨s, a, b, c⟩ := rfl
    refine ⟨(s ++ (⟨#[32]⟩ : ByteArray)) ++ t, Ev.bind h2 ?_, Ev.bind h1 ?_⟩
    · simp only [if_true]
      refine Ev.bind (a := (s ++ (⟨#[32]⟩ : ByteArray)) ++ t) ?_ (Ev.now _)
      unfold spec_l16Text.f
      simp only [hp, List.length_singleton, if_pos (show (0 : Int) < ((1 : Nat) : Int) by omega), if_pos (show s.size + 1 ≤ 9223372036854775807 by omega)]
      refine Ev.bind t1 ?_
      simp only [if_pos hsz]; exact Ev.now _
    · simp only [if_true, if_pos (show s.size + 1 ≤ 9223372036854775807 by omega)]
      refine Ev.bind t2 ?_
      simp only [if_pos hsz]; exact Ev.now _
theorem FnExactBladeText : laws_FnExactBladeText.Pure := by
  intro s a b c hB
  have hs : s.size ≤ 9223372036854775807 := hB.1
  suffices h : Ev (fun k => laws_FnExactBladeText.f k s a b c) true from h.rounds
  unfold laws_FnExactBladeText.f laws_szBlade.f laws_toBlade.f
  by_cases hz : wrap64 (1048576 - (s.size : Int)) < 0
  · simp only [if_pos hz, Option.bind_some]; exact Ev.now _
  · simp only [if_neg hz, Option.bind_some]
    have hw : wrap64 (1048576 - (s.size : Int)) = 1048576 - (s.size : Int) := w64 (by omega) (by omega)
    obtain ⟨r, e1, e2⟩ := both s a b c (by omega)
    refine Ev.bind e1 (Ev.bind e2 ?_)
    simp only [if_true]; exact Ev.now _

end Go.Proofs.YtgcfokcmjgoeeaaDoor.Pure

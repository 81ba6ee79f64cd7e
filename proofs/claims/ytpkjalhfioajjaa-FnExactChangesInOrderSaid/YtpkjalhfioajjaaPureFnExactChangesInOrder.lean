/- For every blade, list of cuttings and order the printed law FnExactChangesInOrder answers true: the program's ChangesInOrder and the reference's agree, and the arguments stay as they were. -/
import Derived.Test.YtpkjalhfioajjaaPFnExactChangesInOrderx9
namespace Go.Proofs.Ytpkjalhfioajjaa.Pure
open Go.RowKit Go.Proofs.Ytpkjalhfioajjaa.PFnExactChangesInOrder Go.Proofs.YtpkjalhfioajjaaW.PrintWords Go.Proofs.YtpkjalhfioajjaaW.PrintLast
set_option linter.unusedVariables false
set_option linter.unusedSimpArgs false
set_option linter.unnecessarySimpa false

theorem w64 {x : Int} (h0 : -9223372036854775808 ≤ x) (h1 : x ≤ 9223372036854775807) : wrap64 x = x := by unfold wrap64; omega
theorem wf64 {x : Int} (h : (Lit.int .i64 x).wf = true) : -9223372036854775808 ≤ x ∧ x ≤ 9223372036854775807 := by
  simp only [Lit.wf, IntKind.has, Bool.and_eq_true, decide_eq_true_eq] at h
  exact h
theorem maxLen_eq : maxLen = 9223372036854775807 := rfl
theorem Ev.cond {α : Type} {c : Prop} [Decidable c] {g f : Nat → Option α} {r : α} (h : c → Ev g r) (h' : ¬ c → Ev f r) : Ev (fun k => if c then g k else f k) r := by
  by_cases hc : c
  · simp only [if_pos hc]; exact h hc
  · simp only [if_neg hc]; exact h' hc
theorem down {n : Nat} {Q : Nat → Prop} (he : Q n) (hs : ∀ i, i < n → Q (i + 1) → Q i) : Q 0 := by
  have h : ∀ d i, i + d = n → Q i := by
    intro d
    induction d with
    | zero => intro i hi; have : i = n := by omega
              subst this; exact he
    | succ d ih => intro i hi; exact hs i (by omega) (ih (i + 1) (by omega))
  exact h n 0 (by omega)
theorem wsucc {i : Nat} (h : i < 9223372036854775807) : wrap64 ((i : Int) + 1) = ((i + 1 : Nat) : Int) := by rw [w64 (by omega) (by omega)]; omega
theorem getD_mem {α : Type} {xs : List α} {i : Nat} (z : α) (h : i < xs.length) : xs.getD i z ∈ xs := by
  rw [List.getD_eq_getElem?_getD, List.getElem?_eq_getElem h]; exact List.getElem_mem h
theorem getD_map {α β : Type} {xs : List α} {i : Nat} (c : α → β) (z : α) (z' : β) (h : i < xs.length) : (xs.map c).getD i z' = c (xs.getD i z) := by
  rw [List.getD_eq_getElem?_getD, List.getD_eq_getElem?_getD, List.getElem?_eq_getElem h, List.getElem?_eq_getElem (by simpa using h)]; simp
theorem Ev.some_eq {α : Type} {g : Nat → Option α} {r : α} (h : ∀ k, g (k + 1) = some r) : Ev g r := Ev.step (f := fun _ => some r) h (Ev.now r)
/-- A row made full of one value and filled from the left. -/
theorem ev_fill {α β : Type} (xs : List α) (z : α) (c : α → β) (L : Nat → List β → Int → Option (List β))
    (he : ∀ ys : List β, ys.length = xs.length → Ev (fun k => L k ys (xs.length : Int)) ys)
    (hs : ∀ (ys r : List β) (i : Nat), i < xs.length → ys.length = xs.length → Ev (fun k => L k (ys.set i (c (xs.getD i z))) ((i + 1 : Nat) : Int)) r → Ev (fun k => L k ys (i : Int)) r) :
    ∀ ys : List β, ys.length = xs.length → Ev (fun k => L k ys 0) (xs.map c) := by
  have h : ∀ d (i : Nat) (ys : List β), i + d = xs.length → ys.length = xs.length → Ev (fun k => L k ys (i : Int)) (ys.take i ++ (xs.drop i).map c) := by
    intro d
    induction d with
    | zero =>
      intro i ys hi hy
      have e : i = xs.length := by omega
      subst e
      rw [List.drop_of_length_le (Nat.le_refl _), List.map_nil, List.append_nil, List.take_of_length_le (by omega)]
      exact he ys hy
    | succ d ih =>
      intro i ys hi hy
      have hlt : i < xs.length := by omega
      refine hs ys _ i hlt hy ?_
      have h2 := ih (i + 1) (ys.set i (c (xs.getD i z))) (by omega) (by rw [List.length_set]; exact hy)
      have e2 : (ys.set i (c (xs.getD i z))).take (i + 1) = ys.take i ++ [c (xs.getD i z)] := by
        rw [List.take_succ_eq_append_getElem (by rw [List.length_set]; omega), List.getElem_set_self, List.take_set_of_le (by omega)]
      have e3 : xs.drop i = xs.getD i z :: xs.drop (i + 1) := by
        rw [List.drop_eq_getElem_cons hlt, List.getD_eq_getElem?_getD, List.getElem?_eq_getElem hlt]; rfl
      rw [e2] at h2
      rw [e3, List.map_cons]
      simpa using h2
  intro ys hy
  have := h xs.length 0 ys (by omega) hy
  simpa using this
/-- One round of a loop, which leans on what a call answers. -/
theorem Ev.step1 {α β : Type} {g f : Nat → Option α} {u : Nat → Option β} {b : β} {r : α} (e : Ev u b) (k : Ev f r) (h : ∀ k, u k = some b → g (k + 1) = f k) : Ev g r := by
  obtain ⟨K, e⟩ := e
  obtain ⟨K', k⟩ := k
  refine ⟨max K K' + 1, fun n hn => ?_⟩
  obtain ⟨m, rfl⟩ : ∃ m, n = m + 1 := ⟨n - 1, by omega⟩
  rw [h m (e m (by omega))]
  exact k m (by omega)
theorem Ev.step2 {α β γ : Type} {g f : Nat → Option α} {u : Nat → Option β} {v : Nat → Option γ} {b : β} {c : γ} {r : α} (e : Ev u b) (e' : Ev v c) (k : Ev f r) (h : ∀ k, u k = some b → v k = some c → g (k + 1) = f k) : Ev g r := by
  obtain ⟨K, e⟩ := e
  obtain ⟨K2, e'⟩ := e'
  obtain ⟨K', k⟩ := k
  refine ⟨max (max K K2) K' + 1, fun n hn => ?_⟩
  obtain ⟨m, rfl⟩ : ∃ m, n = m + 1 := ⟨n - 1, by omega⟩
  rw [h m (e m (by omega)) (e' m (by omega))]
  exact k m (by omega)

theorem in_eq (n lo hi : Int) : spec_l00In.f n lo hi = some (decide (lo ≤ n ∧ n ≤ hi)) := by
  unfold spec_l00In.f
  by_cases h : n ≥ lo
  · rw [if_pos h]; simp [show lo ≤ n from h]
  · rw [if_neg h]; simp; omega

theorem within_eq (n lo hi : Int) : impl_within.f n lo hi = some (decide (lo ≤ n ∧ n ≤ hi)) := by
  unfold impl_within.f
  by_cases h : n ≥ lo
  · rw [if_pos h]; simp [show lo ≤ n from h]
  · rw [if_neg h]; simp; omega

theorem small_eq (c : Int) : spec_l01Small.f c = some (decide (97 ≤ c ∧ c ≤ 122)) := by
  unfold spec_l01Small.f
  by_cases h : c ≥ 97
  · rw [if_pos h]; simp [show 97 ≤ c from h]
  · rw [if_neg h]; simp; omega
theorem digit_eq (c : Int) : spec_l01Digit.f c = some (decide (48 ≤ c ∧ c ≤ 57)) := by
  unfold spec_l01Digit.f
  by_cases h : c ≥ 48
  · rw [if_pos h]; simp [show 48 ≤ c from h]
  · rw [if_neg h]; simp; omega
theorem name_tail (s : ByteArray) (hs : s.size ≤ 9223372036854775807) (d : Nat) : ∀ (i : Int), 0 ≤ i → (s.size : Int) - i = d →
    ∃ b, Ev (fun k => impl_IsName.l0 k s i) b ∧ Ev (fun k => spec_l01Name.l0 k s i) b := by
  induction d with
  | zero =>
    intro i h0 hd
    refine ⟨true, Ev.step (f := fun _ => some true) (fun k => ?_) (Ev.now _), Ev.step (f := fun _ => some true) (fun k => ?_) (Ev.now _)⟩
    · simp only [impl_IsName.l0]; rw [if_neg (by omega)]
    · simp only [spec_l01Name.l0]; rw [if_neg (by omega)]
  | succ d ih =>
    intro i h0 hd
    have hlt : i < (s.size : Int) := by omega
    have hw : wrap64 (i + 1) = i + 1 := w64 (by omega) (by omega)
    by_cases hg : (97 ≤ bt s i ∧ bt s i ≤ 122) ∨ (48 ≤ bt s i ∧ bt s i ≤ 57)
    · obtain ⟨b, h1, h2⟩ := ih (i + 1) (by omega) (by omega)
      refine ⟨b, Ev.step (f := fun k => impl_IsName.l0 k s (i + 1)) (fun k => ?_) h1, Ev.step (f := fun k => spec_l01Name.l0 k s (i + 1)) (fun k => ?_) h2⟩
      · simp only [impl_IsName.l0]; rw [if_pos hlt, if_pos h0, hw]
        rcases hg with hg | hg
        · rw [if_neg (by omega), if_neg (by omega)]
        · rw [if_pos (by omega), if_neg (by omega), if_neg (by omega)]
      · simp only [spec_l01Name.l0, small_eq, digit_eq, Option.bind_some]; rw [if_pos hlt, if_pos h0, hw]
        by_cases hq : 97 ≤ bt s i ∧ bt s i ≤ 122
        · rw [if_pos (by simpa using hq)]
        · have hq2 : 48 ≤ bt s i ∧ bt s i ≤ 57 := by omega
          rw [if_neg (by simpa using hq), if_pos (by simpa using hq2)]
    · refine ⟨false, Ev.step (f := fun _ => some false) (fun k => ?_) (Ev.now _), Ev.step (f := fun _ => some false) (fun k => ?_) (Ev.now _)⟩
      · simp only [impl_IsName.l0]; rw [if_pos hlt, if_pos h0]
        by_cases h1 : bt s i < 97
        · rw [if_pos h1]
          by_cases h2 : bt s i < 48
          · rw [if_pos h2]
          · rw [if_neg h2, if_pos (by omega)]
        · rw [if_neg h1, if_pos (by omega)]
          by_cases h2 : bt s i < 48
          · rw [if_pos h2]
          · rw [if_neg h2, if_pos (by omega)]
      · simp only [spec_l01Name.l0, small_eq, digit_eq, Option.bind_some]; rw [if_pos hlt, if_pos h0]
        have h1 : ¬ (97 ≤ bt s i ∧ bt s i ≤ 122) := fun h => hg (.inl h)
        have h2 : ¬ (48 ≤ bt s i ∧ bt s i ≤ 57) := fun h => hg (.inr h)
        rw [if_neg (by simpa using h1), if_neg (by simpa using h2)]
theorem name_same (s : ByteArray) (hs : s.size ≤ 9223372036854775807) : ∃ b, Ev (fun k => impl_IsName.f k s) b ∧ Ev (fun k => spec_l01Name.f k s) b ∧ (b = true → s.size ≤ 10) := by
  have he : (s.toList = ([] : List UInt8)) ↔ s.size = 0 := by
    rw [ByteArray.toList_eq]
    constructor
    · intro h; have := data_length s; rw [h] at this; simpa using this.symm
    · intro h; have := data_length s; rw [h] at this; exact List.eq_nil_of_length_eq_zero this
  have f1 : Ev (fun k => impl_IsName.j0 k s true) false := Ev.step (f := fun _ => some false) (fun k => by simp only [impl_IsName.j0]; rfl) (Ev.now _)
  have f2 : Ev (fun k => spec_l01Name.j0 k s true) false := Ev.step (f := fun _ => some false) (fun k => by simp only [spec_l01Name.j0]; rfl) (Ev.now _)
  unfold impl_IsName.f spec_l01Name.f
  by_cases h0 : s.size = 0
  · refine ⟨false, ?_, ?_, by simp⟩
    · simp only [if_pos (show (s.size : Int) < 1 by omega)]; exact f1
    · simp only [if_pos (he.2 h0)]; exact f2
  · have hn : ¬ (s.toList = ([] : List UInt8)) := fun h => h0 (he.1 h)
    simp only [if_neg hn, if_neg (show ¬ (s.size : Int) < 1 by omega)]
    by_cases h1 : (s.size : Int) > 10
    · simp only [if_pos h1]; exact ⟨false, f1, f2, by simp⟩
    · simp only [if_neg h1, if_pos (show (0 : Int) < (s.size : Int) by omega), small_eq, Option.bind_some]
      by_cases h2 : 97 ≤ bt s 0 ∧ bt s 0 ≤ 122
      · obtain ⟨b, e1, e2⟩ := name_tail s hs s.size 0 (by omega) (by omega)
        refine ⟨b, ?_, ?_, fun _ => by omega⟩
        · simp only [if_neg (show ¬ bt s 0 < 97 by omega), show decide (bt s 0 > 122) = false from decide_eq_false (by omega)]
          exact Ev.step (f := fun k => impl_IsName.l0 k s 0) (fun k => by simp only [impl_IsName.j0]; rw [if_neg (by simp)]) e1
        · simp only [show (!decide (97 ≤ bt s 0 ∧ bt s 0 ≤ 122)) = false by simpa using h2]
          exact Ev.step (f := fun k => spec_l01Name.l0 k s 0) (fun k => by simp only [spec_l01Name.j0]; rw [if_neg (by simp)]) e2
      · refine ⟨false, ?_, ?_, by simp⟩
        · by_cases h3 : bt s 0 < 97
          · simp only [if_pos h3]; exact f1
          · simp only [if_neg h3, show decide (bt s 0 > 122) = true from decide_eq_true (by omega)]; exact f1
        · simp only [show (!decide (97 ≤ bt s 0 ∧ bt s 0 ≤ 122)) = true by simp; omega]; exact f2

theorem cutting_same (s : ByteArray) (a b : Int) (hs : s.size ≤ 9223372036854775807) : ∃ r, Ev (fun k => impl_validCutting.f k s a b) r ∧ Ev (fun k => spec_l16One.f k [⟨s, a, b⟩]) r ∧
    (r = true → (1 ≤ a ∧ a ≤ 1000000) ∧ (1 ≤ b ∧ b ≤ 100)) := by
  obtain ⟨t, h1, h2, _⟩ := name_same s hs
  refine ⟨t && decide (1 ≤ a ∧ a ≤ 1000000) && decide (1 ≤ b ∧ b ≤ 100), ?_, ?_, fun h => ?_⟩
  · unfold impl_validCutting.f
    refine Ev.bind h1 ?_
    simp only [within_eq, Option.bind_some]
    generalize decide (1 ≤ a ∧ a ≤ 1000000) = p
    cases t <;> cases p <;> exact Ev.now _
  · unfold spec_l16One.f
    refine Ev.bind h2 ?_
    simp only [show ∀ x, rd_T116 [x] 0 = x from fun _ => rfl, in_eq, Option.bind_some]
    generalize decide (1 ≤ a ∧ a ≤ 1000000) = p
    cases t <;> cases p <;> exact Ev.now _
  · simp only [Bool.and_eq_true, decide_eq_true_eq] at h
    exact ⟨h.1.2, h.2⟩

def cvCut (x : S115) : S116 := ⟨x.f0, x.f1, x.f2⟩
theorem szCut_le (l : List S115) (hB : ∀ x ∈ l, x.f0.size ≤ 9223372036854775807) (hl : l.length ≤ 9223372036854775807) (a : Int) (h0 : 0 ≤ a) (h1 : a ≤ 1048576) :
    ∃ r, Ev (fun k => laws_szCuttingS.f k l a) r ∧ (0 ≤ r → (l.length : Int) ≤ a) ∧ r ≤ 1048576 := by
  unfold laws_szCuttingS.f
  by_cases hc : wrap64 (a - (l.length : Int)) < 0
  · simp only [if_pos hc]; exact ⟨-1, Ev.now _, by omega, by omega⟩
  · simp only [if_neg hc]
    rw [w64 (by omega) (by omega)] at hc ⊢
    have h : ∀ b, 0 ≤ b → b ≤ 1048576 → ∃ r, Ev (fun k => laws_szCuttingS.l0 k l b ((0 : Nat) : Int)) r ∧ r ≤ 1048576 := by
      refine down (n := l.length) (Q := fun i => ∀ b, 0 ≤ b → b ≤ 1048576 → ∃ r, Ev (fun k => laws_szCuttingS.l0 k l b (i : Int)) r ∧ r ≤ 1048576) ?_ ?_
      · intro b _ _
        exact ⟨b, Ev.some_eq fun k => by simp only [laws_szCuttingS.l0]; rw [if_neg (by omega)], by omega⟩
      · intro i hi ih b hb0 hb1
        have hz := hB _ (getD_mem z115 hi)
        by_cases hd : wrap64 (b - ((rd_T115 l (i : Int)).f0.size : Int)) < 0
        · exact ⟨-1, Ev.some_eq fun k => by simp only [laws_szCuttingS.l0, laws_szCutting.f]; rw [if_pos (by omega), if_pos (by omega), if_pos hd]; rfl, by omega⟩
        · have hz2 : ((rd_T115 l (i : Int)).f0.size : Int) ≤ 9223372036854775807 := by unfold rd_T115; rw [Int.toNat_natCast]; omega
          have hd2 : wrap64 (b - ((rd_T115 l (i : Int)).f0.size : Int)) = b - ((rd_T115 l (i : Int)).f0.size : Int) := w64 (by omega) (by omega)
          obtain ⟨r, hr, hr1⟩ := ih (wrap64 (b - ((rd_T115 l (i : Int)).f0.size : Int))) (by omega) (by omega)
          refine ⟨r, Ev.step (fun k => ?_) hr, hr1⟩
          simp only [laws_szCuttingS.l0, laws_szCutting.f]
          rw [if_pos (by omega), if_pos (by omega), if_neg hd]
          simp only [Option.bind_some]
          rw [if_neg hd, wsucc (by omega)]
    obtain ⟨r, h2, h3⟩ := h (a - (l.length : Int)) (by omega) (by omega)
    exact ⟨r, h2, by omega, h3⟩
theorem toCut_eq (l : List S115) (hl : l.length ≤ 1048576) : Ev (fun k => laws_toCuttingS.f k l) (l.map cvCut) := by
  unfold laws_toCuttingS.f
  simp only [if_pos (show (0 : Int) ≤ (l.length : Int) by omega), if_pos (show ((l.length : Int) : Int).toNat ≤ 8796093022208 by omega)]
  refine ev_fill l z115 cvCut (fun k ys i => laws_toCuttingS.l0 k l ys i) ?_ ?_ _ (by simp)
  · intro ys hy
    exact Ev.some_eq fun k => by simp only [laws_toCuttingS.l0]; rw [if_neg (by omega)]
  · intro ys r i hi hy h
    refine Ev.step (fun k => ?_) h
    simp only [laws_toCuttingS.l0, laws_toCutting.f]
    rw [if_pos (by omega), if_pos (by omega)]
    simp only [Option.bind_some]
    rw [if_pos (by omega), wsucc (by omega)]
    rfl
theorem eqCut_same (l : List S116) (hl : l.length ≤ 1048576) : Ev (fun k => laws_eqCuttingS.f k l l) true := by
  unfold laws_eqCuttingS.f
  simp only [if_true]
  refine down (n := l.length) (Q := fun i => Ev (fun k => laws_eqCuttingS.l0 k l l (i : Int)) true) ?_ ?_
  · exact Ev.some_eq fun k => by simp only [laws_eqCuttingS.l0]; rw [if_neg (by omega)]
  · intro i hi ih
    refine Ev.step (fun k => ?_) ih
    simp only [laws_eqCuttingS.l0, laws_eqCutting.f, if_true]
    rw [if_pos (by omega), if_pos (by omega), if_pos (by omega)]
    simp only [Option.bind_some, if_true]
    rw [wsucc (by omega)]
/-- What holds of valid cuttings. -/
def okCut (l : List S116) : Prop := l.length ≤ 16 ∧ ∀ x ∈ l, (1 ≤ x.f1 ∧ x.f1 ≤ 1000000) ∧ (1 ≤ x.f2 ∧ x.f2 ≤ 100)
theorem cuts_same (l : List S116) (hB : ∀ x ∈ l, x.f0.size ≤ 9223372036854775807) (hl : l.length ≤ 1048576) :
    ∃ r, Ev (fun k => impl_ValidCuttings.f k l) r ∧ Ev (fun k => spec_l16List.f k l) r ∧ (r = true → okCut l) := by
  unfold impl_ValidCuttings.f spec_l16List.f
  have h := down (n := l.length) (Q := fun i => ∃ r, Ev (fun k => impl_ValidCuttings.l0 k l l (l.length : Int) (i : Int)) r ∧ Ev (fun k => spec_l16List.l0 k l (i : Int)) r ∧
    (r = true → l.length ≤ 16 ∧ ∀ j, i ≤ j → j < l.length → (1 ≤ (l.getD j z116).f1 ∧ (l.getD j z116).f1 ≤ 1000000) ∧ (1 ≤ (l.getD j z116).f2 ∧ (l.getD j z116).f2 ≤ 100))) ?_ ?_
  · obtain ⟨r, h1, h2, h3⟩ := h
    refine ⟨r, h1, h2, fun hr => ⟨(h3 hr).1, fun x hx => ?_⟩⟩
    obtain ⟨j, hj, rfl⟩ := List.getElem_of_mem hx
    have := (h3 hr).2 j (Nat.zero_le _) hj
    rwa [List.getD_eq_getElem?_getD, List.getElem?_eq_getElem hj] at this
  · refine ⟨decide ((l.length : Int) ≤ 16), Ev.some_eq fun k => ?_, Ev.some_eq fun k => ?_, fun h => ⟨by have := of_decide_eq_true h; omega, fun j h1 h2 => by omega⟩⟩
    · simp only [impl_ValidCuttings.l0]; rw [if_neg (by omega)]
    · simp only [spec_l16List.l0]; rw [if_neg (by omega)]
  · intro i hi ih
    have hm := getD_mem z116 hi
    obtain ⟨t, e1, e2, e3⟩ := cutting_same (l.getD i z116).f0 (l.getD i z116).f1 (l.getD i z116).f2 (hB _ hm)
    have hrd : rd_T116 l (i : Int) = l.getD i z116 := by unfold rd_T116; simp
    rw [← hrd] at e1 e2 e3
    cases t with
    | false =>
      refine ⟨false, Ev.step1 e1 (Ev.now false) (fun k hk => ?_), Ev.step1 e2 (Ev.now false) (fun k hk => ?_), by simp⟩
      · simp only [impl_ValidCuttings.l0]; rw [if_pos (by omega), if_pos (by omega), if_pos (by omega), hk]; rfl
      · simp only [spec_l16List.l0]; rw [if_pos (by omega), if_pos (by omega), hk]; rfl
    | true =>
      obtain ⟨r, h1, h2, h3⟩ := ih
      have hv := e3 rfl
      rw [hrd] at hv
      have h4 : ∀ j, i ≤ j → j < l.length → (r = true) → (1 ≤ (l.getD j z116).f1 ∧ (l.getD j z116).f1 ≤ 1000000) ∧ (1 ≤ (l.getD j z116).f2 ∧ (l.getD j z116).f2 ≤ 100) := by
        intro j hj hj2 hr
        rcases Nat.eq_or_lt_of_le hj with rfl | hlt
        · exact hv
        · exact (h3 hr).2 j hlt hj2
      by_cases hi0 : i = 0
      · subst hi0
        refine ⟨r, Ev.step1 e1 h1 (fun k hk => ?_), Ev.step1 e2 h2 (fun k hk => ?_), fun hr => ⟨(h3 hr).1, fun j hj hj2 => h4 j hj hj2 hr⟩⟩
        · simp only [impl_ValidCuttings.l0]; rw [if_pos (by omega), if_pos (by omega), if_pos (by omega), hk]; simp only [Option.bind_some, if_true]; rw [if_neg (by omega), wsucc (by omega)]
        · simp only [spec_l16List.l0]; rw [if_pos (by omega), if_pos (by omega), hk]; simp only [Option.bind_some, if_true]; rw [if_neg (by omega), wsucc (by omega)]
      · have hw : wrap64 ((i : Int) - 1) = (i : Int) - 1 := w64 (by omega) (by omega)
        by_cases hb : (Op.bytesLess (((rd_T116 l ((i : Int) - 1)).f0).toList) (((rd_T116 l (i : Int)).f0).toList)) = true
        · refine ⟨r, Ev.step1 e1 h1 (fun k hk => ?_), Ev.step1 e2 h2 (fun k hk => ?_), fun hr => ⟨(h3 hr).1, fun j hj hj2 => h4 j hj hj2 hr⟩⟩
          · simp only [impl_ValidCuttings.l0]; rw [if_pos (by omega), if_pos (by omega), if_pos (by omega), hk]; simp only [Option.bind_some, if_true]; rw [hw, if_pos (by omega), if_pos (by omega), if_pos (by omega), if_pos hb, wsucc (by omega)]
          · simp only [spec_l16List.l0]; rw [if_pos (by omega), if_pos (by omega), hk]; simp only [Option.bind_some, if_true]; rw [hw, if_pos (by omega), if_pos (by omega), if_pos (by omega), if_pos hb, wsucc (by omega)]
        · refine ⟨false, Ev.step1 e1 (Ev.now false) (fun k hk => ?_), Ev.step1 e2 (Ev.now false) (fun k hk => ?_), by simp⟩
          · simp only [impl_ValidCuttings.l0]; rw [if_pos (by omega), if_pos (by omega), if_pos (by omega), hk]; simp only [Option.bind_some, if_true]; rw [hw, if_pos (by omega), if_pos (by omega), if_pos (by omega), if_neg hb]
          · simp only [spec_l16List.l0]; rw [if_pos (by omega), if_pos (by omega), hk]; simp only [Option.bind_some, if_true]; rw [hw, if_pos (by omega), if_pos (by omega), if_pos (by omega), if_neg hb]
theorem cuts_B (l : List S115) (hB : ∀ x ∈ l, B115 x) : (∀ x ∈ l, x.f0.size ≤ 9223372036854775807) ∧ ∀ x ∈ l.map cvCut, x.f0.size ≤ 9223372036854775807 := by
  refine ⟨fun x hx => (hB x hx).1, fun x hx => ?_⟩
  obtain ⟨y, hy, rfl⟩ := List.mem_map.1 hx
  exact (hB y hy).1

theorem blade_same (s : ByteArray) (a b c : Int) (hs : s.size ≤ 9223372036854775807) : ∃ r, Ev (fun k => impl_ValidBlade.f k s a b c) r ∧ Ev (fun k => spec_l16Ok.f k [⟨s, a, b, c⟩]) r ∧
    (r = true → (1 ≤ a ∧ a ≤ 1000000) ∧ (0 ≤ b ∧ b ≤ 1000000) ∧ (1 ≤ c ∧ c ≤ 10000)) := by
  obtain ⟨t, h1, h2, _⟩ := name_same s hs
  refine ⟨t && decide (1 ≤ a ∧ a ≤ 1000000) && decide (0 ≤ b ∧ b ≤ 1000000) && decide (1 ≤ c ∧ c ≤ 10000), ?_, ?_, fun h => ?_⟩
  · unfold impl_ValidBlade.f
    refine Ev.bind h1 ?_
    simp only [within_eq, Option.bind_some]
    generalize decide (1 ≤ a ∧ a ≤ 1000000) = p
    generalize decide (0 ≤ b ∧ b ≤ 1000000) = q
    cases t <;> cases p <;> cases q <;> exact Ev.now _
  · unfold spec_l16Ok.f
    refine Ev.bind h2 ?_
    simp only [show ∀ x, rd_T55 [x] 0 = x from fun _ => rfl, in_eq, Option.bind_some]
    generalize decide (1 ≤ a ∧ a ≤ 1000000) = p
    generalize decide (0 ≤ b ∧ b ≤ 1000000) = q
    cases t <;> cases p <;> cases q <;> exact Ev.now _
  · simp only [Bool.and_eq_true, decide_eq_true_eq] at h
    exact ⟨h.1.1.2, h.1.2, h.2⟩

def cvBlade (x : S50) : S55 := ⟨x.f0, x.f1, x.f2, x.f3⟩
theorem szBlade_le (s : ByteArray) (a b c n : Int) (hs : s.size ≤ 9223372036854775807) (h0 : 0 ≤ n) (h1 : n ≤ 1048576) : ∃ r, laws_szBlade.f s a b c n = some r ∧ (0 ≤ r → r ≤ 1048576 ∧ (s.size : Int) ≤ n) ∧ (r < 0 ∨ 0 ≤ r) := by
  unfold laws_szBlade.f
  have hw : wrap64 (n - (s.size : Int)) = n - (s.size : Int) := w64 (by omega) (by omega)
  by_cases h : wrap64 (n - (s.size : Int)) < 0
  · rw [if_pos h]; exact ⟨-1, rfl, by omega, by omega⟩
  · rw [if_neg h]; exact ⟨_, rfl, by omega, by omega⟩

theorem updiv_eq (a b : Int) (ha : 0 ≤ a) (ha2 : a ≤ 4611686018427387903) (hb : 1 ≤ b) (hb2 : b ≤ 4611686018427387903) : impl_upDiv.f a b = some ((a + b - 1) / b) := by
  unfold impl_upDiv.f
  rw [if_neg (by omega), w64 (x := a + b) (by omega) (by omega), w64 (x := a + b - 1) (by omega) (by omega), Int.tdiv_eq_ediv_of_nonneg (by omega)]
  have h1 : 0 ≤ (a + b - 1) / b := Int.ediv_nonneg (by omega) (by omega)
  have h2 : (a + b - 1) / b ≤ a + b - 1 := Int.ediv_le_self b (by omega)
  rw [w64 (by omega) (by omega)]
theorem prod_le (a b A B : Int) (ha : 0 ≤ a) (ha2 : a ≤ A) (hb : 0 ≤ b) (hb2 : b ≤ B) : 0 ≤ a * b ∧ a * b ≤ A * B :=
  ⟨Int.mul_nonneg ha hb, Int.mul_le_mul ha2 hb2 hb (by omega)⟩
theorem wear_eq (s : ByteArray) (a b : Int) (ha : 1 ≤ a ∧ a ≤ 1000000) (hb : 1 ≤ b ∧ b ≤ 100) : impl_wear.f s a b = some ((a * b + 39) / 40) ∧ spec_l16Wear.f [⟨s, a, b⟩] = some ((a * b + 39) / 40) := by
  have hp := prod_le a b 1000000 100 (by omega) ha.2 (by omega) hb.2
  have hw : wrap64 (a * b) = a * b := w64 (by omega) (by omega)
  constructor
  · unfold impl_wear.f
    rw [hw, updiv_eq _ _ hp.1 (by omega) (by omega) (by omega)]
    simp only [Option.bind_some]
    rw [show a * b + 40 - 1 = a * b + 39 by omega]
  · unfold spec_l16Wear.f
    rw [if_pos (by simp)]
    simp only [show ∀ x, rd_T116 [x] 0 = x from fun _ => rfl]
    rw [hw, w64 (x := a * b + 39) (by omega) (by omega), Int.tdiv_eq_ediv_of_nonneg (by omega)]
    rw [w64 (by omega) (by omega)]
theorem wear_le (a b : Int) (ha : 1 ≤ a ∧ a ≤ 1000000) (hb : 1 ≤ b ∧ b ≤ 100) : 1 ≤ (a * b + 39) / 40 ∧ (a * b + 39) / 40 ≤ 2500000 := by
  have hp := prod_le a b 1000000 100 (by omega) ha.2 (by omega) hb.2
  have : 1 ≤ a * b := by have := Int.mul_le_mul ha.1 hb.1 (by omega) (by omega : (0:Int) ≤ a); omega
  omega

/-- The wear of one cutting. -/
def wr (x : S116) : Int := (x.f1 * x.f2 + 39) / 40
theorem wr_eq (x : S116) (h : (1 ≤ x.f1 ∧ x.f1 ≤ 1000000) ∧ (1 ≤ x.f2 ∧ x.f2 ≤ 100)) : impl_wear.f x.f0 x.f1 x.f2 = some (wr x) ∧ spec_l16Wear.f [x] = some (wr x) ∧ 1 ≤ wr x ∧ wr x ≤ 2500000 :=
  ⟨(wear_eq x.f0 x.f1 x.f2 h.1 h.2).1, (wear_eq x.f0 x.f1 x.f2 h.1 h.2).2, wear_le x.f1 x.f2 h.1 h.2⟩
theorem wears_loop (l : List S116) (hok : okCut l) (s : ByteArray) (a b c : Int) :
    ∃ m : Bool, Ev (fun k => spec_l16Ask.l0 k [⟨s, a, b, c⟩] l 0) (if m then 6 else 0) ∧ Ev (fun k => impl_wears.l0 k ([] : List Int) l (l.length : Int) 0 s a b c) (if m then ([], 6) else (l.map wr, 0)) ∧ (m = false → ∀ j, j < l.length → wr (l.getD j z116) ≤ a) := by
  have hl := hok.1
  have h := down (n := l.length) (Q := fun i => ∀ acc : List Int, acc.length = i → ∃ m : Bool, Ev (fun k => spec_l16Ask.l0 k [⟨s, a, b, c⟩] l (i : Int)) (if m then 6 else 0) ∧ Ev (fun k => impl_wears.l0 k acc l (l.length : Int) (i : Int) s a b c) (if m then ([], 6) else (acc ++ (l.drop i).map wr, 0)) ∧ (m = false → ∀ j, i ≤ j → j < l.length → wr (l.getD j z116) ≤ a)) ?_ ?_
  · obtain ⟨m, h1, h2, h3⟩ := h [] rfl
    exact ⟨m, h1, h2, fun hm j hj => h3 hm j (Nat.zero_le _) hj⟩
  · intro acc ha
    refine ⟨false, Ev.some_eq fun k => ?_, Ev.some_eq fun k => ?_, fun _ j h1 h2 => by omega⟩
    · simp only [spec_l16Ask.l0]; (repeat (first | rw [if_pos (by omega)] | rw [if_neg (by omega)] | rw [if_pos (rfl : true = true)] | rw [if_neg Bool.false_ne_true] | rw [if_pos trivial]))
    · simp only [impl_wears.l0]; (repeat (first | rw [if_pos (by omega)] | rw [if_neg (by omega)] | rw [if_pos (rfl : true = true)] | rw [if_neg Bool.false_ne_true] | rw [if_pos trivial])); simp
  · intro i hi ih acc ha
    have hm := hok.2 _ (getD_mem z116 hi)
    have hrd : rd_T116 l (i : Int) = l.getD i z116 := by unfold rd_T116; simp
    have hd : l.drop i = l.getD i z116 :: l.drop (i + 1) := by
      rw [List.drop_eq_getElem_cons hi, List.getD_eq_getElem?_getD, List.getElem?_eq_getElem hi]; rfl
    rw [hd, ← hrd]
    rw [← hrd] at hm
    obtain ⟨w1, w2, w3, w4⟩ := wr_eq _ hm
    by_cases hgt : wr (rd_T116 l (i : Int)) > a
    · refine ⟨true, Ev.some_eq fun k => ?_, Ev.some_eq fun k => ?_, by simp⟩
      · simp only [spec_l16Ask.l0, w2, Option.bind_some, List.length_singleton, show rd_T55 [⟨s, a, b, c⟩] 0 = ⟨s, a, b, c⟩ from rfl]; (repeat (first | rw [if_pos (by omega)] | rw [if_neg (by omega)] | rw [if_pos (rfl : true = true)] | rw [if_neg Bool.false_ne_true] | rw [if_pos trivial]))
      · simp only [impl_wears.l0, w1, Option.bind_some]; (repeat (first | rw [if_pos (by omega)] | rw [if_neg (by omega)] | rw [if_pos (rfl : true = true)] | rw [if_neg Bool.false_ne_true] | rw [if_pos trivial]))
    · obtain ⟨m, h1, h2, h3⟩ := ih (acc ++ [wr (rd_T116 l (i : Int))]) (by simp [ha])
      rw [List.append_assoc] at h2
      refine ⟨m, Ev.step (fun k => ?_) h1, Ev.step (fun k => ?_) h2, fun hm j hj hj2 => ?_⟩
      · simp only [spec_l16Ask.l0, w2, Option.bind_some, List.length_singleton, show rd_T55 [⟨s, a, b, c⟩] 0 = ⟨s, a, b, c⟩ from rfl]; (repeat (first | rw [if_pos (by omega)] | rw [if_neg (by omega)] | rw [if_pos (rfl : true = true)] | rw [if_neg Bool.false_ne_true] | rw [if_pos trivial])); rw [wsucc (by omega)]
      · simp only [impl_wears.l0, w1, Option.bind_some]; (repeat (first | rw [if_pos (by omega)] | rw [if_neg (by omega)] | rw [if_pos (rfl : true = true)] | rw [if_neg Bool.false_ne_true] | rw [if_pos trivial])); rw [wsucc (by omega)]
      · rcases Nat.eq_or_lt_of_le hj with rfl | hlt
        · rw [← hrd]; omega
        · exact h3 hm j hlt hj2
theorem ask_same (l : List S116) (hB : ∀ x ∈ l, x.f0.size ≤ 9223372036854775807) (hl : l.length ≤ 1048576) (s : ByteArray) (hs : s.size ≤ 9223372036854775807) (a b c : Int) :
    ∃ (ws : List Int) (code : Int), Ev (fun k => spec_l16Ask.f k [⟨s, a, b, c⟩] l) code ∧ Ev (fun k => impl_wears.f k s a b c l) (ws, code) ∧
      (code = 0 → ws = l.map wr ∧ okCut l ∧ ((1 ≤ a ∧ a ≤ 1000000) ∧ (0 ≤ b ∧ b ≤ 1000000) ∧ (1 ≤ c ∧ c ≤ 10000)) ∧ ∀ j, j < l.length → wr (l.getD j z116) ≤ a) ∧ (code ≠ 0 → ws = []) := by
  obtain ⟨r, h1, h2, h3⟩ := cuts_same l hB hl
  obtain ⟨q, b1, b2, b3⟩ := blade_same s a b c hs
  unfold spec_l16Ask.f impl_wears.f
  cases q with
  | false =>
    refine ⟨[], 1, Ev.bind b2 ?_, Ev.bind b1 ?_, by omega, fun _ => rfl⟩
    · simp only [Bool.false_eq_true, if_false]; exact Ev.some_eq fun k => by simp only [spec_l16Ask.j0]; rfl
    · simp only [Bool.false_eq_true, if_false]; exact Ev.some_eq fun k => by simp only [impl_wears.j0]; rfl
  | true =>
    cases r with
    | false =>
      refine ⟨[], 1, Ev.bind b2 (Ev.bind h2 ?_), Ev.bind b1 (Ev.bind h1 ?_), by omega, fun _ => rfl⟩
      · exact Ev.some_eq fun k => by simp only [spec_l16Ask.j0]; rfl
      · exact Ev.some_eq fun k => by simp only [impl_wears.j0]; rfl
    | true =>
      obtain ⟨m, e1, e2, e3⟩ := wears_loop l (h3 rfl) s a b c
      cases m with
      | true =>
        refine ⟨[], 6, Ev.bind b2 (Ev.bind h2 ?_), Ev.bind b1 (Ev.bind h1 ?_), by omega, fun _ => rfl⟩
        · exact Ev.step (fun k => by simp only [spec_l16Ask.j0]; rfl) e1
        · exact Ev.step (fun k => by simp only [impl_wears.j0]; rfl) e2
      | false =>
        refine ⟨l.map wr, 0, Ev.bind b2 (Ev.bind h2 ?_), Ev.bind b1 (Ev.bind h1 ?_), fun _ => ⟨rfl, h3 rfl, b3 rfl, e3 rfl⟩, fun h => absurd rfl h⟩
        · exact Ev.step (fun k => by simp only [spec_l16Ask.j0]; rfl) e1
        · exact Ev.step (fun k => by simp only [impl_wears.j0]; rfl) e2

theorem eqS_tail (xs : List Int) (hl : xs.length ≤ 9223372036854775807) (d : Nat) : ∀ (i : Int), 0 ≤ i → (xs.length : Int) - i = d → Ev (fun k => laws_eqInt64S.l0 k xs xs i) true := by
  induction d with
  | zero =>
    intro i h0 hd
    refine Ev.step (f := fun _ => some true) (fun k => ?_) (Ev.now _)
    simp only [laws_eqInt64S.l0]; rw [if_neg (by omega)]
  | succ d ih =>
    intro i h0 hd
    refine Ev.step (f := fun k => laws_eqInt64S.l0 k xs xs (i + 1)) (fun k => ?_) (ih (i + 1) (by omega) (by omega))
    simp only [laws_eqInt64S.l0]; rw [if_pos (by omega), if_pos h0, if_pos (by omega), if_pos trivial, w64 (by omega) (by omega)]
theorem eqS_same (xs : List Int) (hl : xs.length ≤ 9223372036854775807) : Ev (fun k => laws_eqInt64S.f k xs xs) true := by
  unfold laws_eqInt64S.f
  simp only [if_true]
  exact eqS_tail xs hl xs.length 0 (by omega) (by omega)

theorem rd_nat (xs : List Int) (i : Nat) : rd xs (i : Int) = xs.getD i 0 := by show xs.getD (i : Int).toNat 0 = _; rw [Int.toNat_natCast]
theorem toS_eq (l : List Int) (hl : l.length ≤ 1048576) : Ev (fun k => laws_toInt64S.f k l) l := by
  unfold laws_toInt64S.f
  simp only [if_pos (show (0 : Int) ≤ (l.length : Int) by omega), if_pos (show ((l.length : Int) : Int).toNat ≤ 35184372088832 by omega)]
  have h := ev_fill l 0 id (fun k ys i => laws_toInt64S.l0 k l ys i) ?_ ?_ (List.replicate ((l.length : Int)).toNat 0) (by simp)
  · simpa using h
  · intro ys hy
    exact Ev.some_eq fun k => by simp only [laws_toInt64S.l0]; rw [if_neg (by omega)]
  · intro ys r i hi hy h
    refine Ev.step (fun k => ?_) h
    simp only [laws_toInt64S.l0, rd_nat]; (repeat (first | rw [if_pos (by omega)] | rw [if_neg (by omega)] | rw [if_pos (rfl : true = true)] | rw [if_neg Bool.false_ne_true] | rw [if_pos trivial])); rw [wsucc (by omega)]; rfl

theorem order_loop (a : Int) (ha : 0 ≤ a ∧ a ≤ 1000000) (xs : List Int) (hl : (xs.length : Int) = a) : ∀ d i (bs : List Bool), i + d = xs.length → (bs.length : Int) = a →
    ∃ r, Ev (fun k => spec_l14Is.l0 k xs a bs (i : Int)) r ∧ Ev (fun k => impl_isOrder.l0 k a bs xs (xs.length : Int) (i : Int)) r ∧ (r = true → ∀ j, i ≤ j → j < xs.length → 0 ≤ xs.getD j 0 ∧ xs.getD j 0 < a) := by
  intro d
  induction d with
  | zero =>
    intro i bs hi hb
    refine ⟨true, Ev.some_eq fun k => ?_, Ev.some_eq fun k => ?_, fun _ j h1 h2 => by omega⟩
    · simp only [spec_l14Is.l0]; rw [if_neg (by omega)]
    · simp only [impl_isOrder.l0]; rw [if_neg (by omega)]
  | succ d ih =>
    intro i bs hi hb
    have hw : wrap64 (a - 1) = a - 1 := w64 (by omega) (by omega)
    by_cases hg : 0 ≤ xs.getD i 0 ∧ xs.getD i 0 ≤ a - 1
    · by_cases hm : rdOf false bs (xs.getD i 0) = true
      · refine ⟨false, Ev.some_eq fun k => ?_, Ev.some_eq fun k => ?_, by simp⟩
        · simp only [spec_l14Is.l0, rd_nat, in_eq, Option.bind_some, hw, decide_eq_true_eq]; rw [if_pos (by omega), if_pos (by omega), if_pos (by omega), if_pos hg, if_pos hg.1, if_pos (by omega), if_pos hm]
        · simp only [impl_isOrder.l0, rd_nat, within_eq, Option.bind_some, hw, decide_eq_true_eq]; rw [if_pos (by omega), if_pos (by omega), if_pos (by omega), if_pos hg, if_pos hg.1, if_pos (by omega), if_pos hm]
      · obtain ⟨r, r1, r2, r3⟩ := ih (i + 1) (bs.set (xs.getD i 0).toNat true) (by omega) (by rw [List.length_set]; exact hb)
        refine ⟨r, Ev.step (fun k => ?_) r1, Ev.step (fun k => ?_) r2, fun hr j h1 h2 => ?_⟩
        · simp only [spec_l14Is.l0, rd_nat, in_eq, Option.bind_some, hw, decide_eq_true_eq]; rw [if_pos (by omega), if_pos (by omega), if_pos (by omega), if_pos hg, if_pos hg.1, if_pos (by omega), if_neg hm, wsucc (by omega)]
        · simp only [impl_isOrder.l0, rd_nat, within_eq, Option.bind_some, hw, decide_eq_true_eq]; rw [if_pos (by omega), if_pos (by omega), if_pos (by omega), if_pos hg, if_pos hg.1, if_pos (by omega), if_neg hm, wsucc (by omega)]
        · rcases Nat.eq_or_lt_of_le h1 with rfl | hlt
          · omega
          · exact r3 hr j hlt h2
    · refine ⟨false, Ev.some_eq fun k => ?_, Ev.some_eq fun k => ?_, by simp⟩
      · simp only [spec_l14Is.l0, rd_nat, in_eq, Option.bind_some, hw, decide_eq_true_eq]; rw [if_pos (by omega), if_pos (by omega), if_pos (by omega), if_neg hg]
      · simp only [impl_isOrder.l0, rd_nat, within_eq, Option.bind_some, hw, decide_eq_true_eq]; rw [if_pos (by omega), if_pos (by omega), if_pos (by omega), if_neg hg]
/-- The two tests of an order agree. -/
theorem order_same (a : Int) (ha : 0 ≤ a ∧ a ≤ 1000000) (xs : List Int) : ∃ r, Ev (fun k => spec_l14Is.f k xs a) r ∧ Ev (fun k => impl_isOrder.f k xs a) r ∧ (r = true → (xs.length : Int) = a ∧ ∀ j, j < xs.length → 0 ≤ xs.getD j 0 ∧ xs.getD j 0 < a) := by
  unfold spec_l14Is.f impl_isOrder.f
  by_cases hl : (xs.length : Int) = a
  · simp only [if_pos hl, if_pos ha.1, if_pos (show a.toNat ≤ 281474976710656 by omega)]
    obtain ⟨r, r1, r2, r3⟩ := order_loop a ha xs hl xs.length 0 (List.replicate a.toNat false) (by omega) (by simp; omega)
    exact ⟨r, r1, r2, fun hr => ⟨hl, fun j hj => r3 hr j (Nat.zero_le _) hj⟩⟩
  · simp only [if_neg hl]; exact ⟨false, Ev.now _, Ev.now _, by simp⟩
theorem changes_loop (l : List S116) (hok : okCut l) (s : ByteArray) (a b c : Int) (ha : 1 ≤ a ∧ a ≤ 1000000) (hw : ∀ j, j < l.length → wr (l.getD j z116) ≤ a) (xs : List Int) (hl : xs.length = l.length) (hx : ∀ j, j < xs.length → 0 ≤ xs.getD j 0 ∧ xs.getD j 0 < (l.length : Int)) :
    ∃ r : List Int, Ev (fun k => spec_l16Changes.f k [⟨s, a, b, c⟩] l xs) r ∧ Ev (fun k => impl_ChangesInOrder.l0 k (l.map wr) ([] : List Int) 0 xs (xs.length : Int) 0 s a b c) (r, 0) ∧ r.length ≤ 16 := by
  have hll := hok.1
  have h : ∀ d i (acc : List Int) (rest : Int), i + d = xs.length → acc.length ≤ i → 0 ≤ rest → rest ≤ 1000000 → (i = 0 → rest = 0) →
      ∃ r : List Int, Ev (fun k => spec_l16Changes.l0 k [⟨s, a, b, c⟩] l xs acc rest (i : Int)) r ∧ Ev (fun k => impl_ChangesInOrder.l0 k (l.map wr) acc rest xs (xs.length : Int) (i : Int) s a b c) (r, 0) ∧ r.length ≤ 16 := by
    intro d
    induction d with
    | zero =>
      intro i acc rest hi ha h0 h1 _
      refine ⟨acc, Ev.some_eq fun k => ?_, Ev.some_eq fun k => ?_, by omega⟩
      · simp only [spec_l16Changes.l0]; rw [if_neg (by omega)]
      · simp only [impl_ChangesInOrder.l0]; rw [if_neg (by omega)]
    | succ d ih =>
      intro i acc rest hi hacc h0 h1 hz
      obtain ⟨x0, x1⟩ := hx i (by omega)
      obtain ⟨n, hn⟩ : ∃ n : Nat, xs.getD i 0 = n := ⟨(xs.getD i 0).toNat, by omega⟩
      have hnl : n < l.length := by omega
      have hm := hok.2 _ (getD_mem z116 hnl)
      obtain ⟨w1, w2, w3, w4⟩ := wr_eq _ hm
      have hwa := hw n hnl
      have hrd : rd_T116 l (n : Int) = l.getD n z116 := by unfold rd_T116; simp
      have hr2 : rd (l.map wr) (n : Int) = wr (l.getD n z116) := by rw [rd_nat]; exact getD_map wr _ _ hnl
      by_cases hgt : wr (l.getD n z116) > rest
      · obtain ⟨r, r1, r2, r3⟩ := ih (i + 1) (acc ++ [(i : Int)]) (a - wr (l.getD n z116)) (by omega) (by simp; omega) (by omega) (by omega) (by omega)
        refine ⟨r, Ev.step (fun k => ?_) r1, Ev.step (fun k => ?_) r2, r3⟩
        · simp only [spec_l16Changes.l0, rd_nat, hn, hrd, w2, Option.bind_some, show rd_T55 [⟨s, a, b, c⟩] 0 = ⟨s, a, b, c⟩ from rfl, List.length_singleton]
          rw [if_pos (by omega), if_pos (by omega), if_pos (by omega), if_pos (by omega), if_pos hgt, if_pos (by omega), if_pos (by omega), w64 (x := a - wr (l.getD n z116)) (by omega) (by omega), wsucc (by omega)]
        · simp only [impl_ChangesInOrder.l0, rd_nat, hn, hr2, List.length_map]
          rw [if_pos (by omega), if_pos (by omega), if_pos (by omega), w64 (x := a - wr (l.getD n z116)) (by omega) (by omega), wsucc (by omega)]
          by_cases hi0 : (i : Int) = 0
          · rw [if_pos hi0, if_pos (by omega), if_pos (by omega), if_pos (by omega)]
          · rw [if_neg hi0, if_pos (by omega), if_pos (by omega), if_pos hgt, if_pos (by omega)]
      · obtain ⟨r, r1, r2, r3⟩ := ih (i + 1) acc (rest - wr (l.getD n z116)) (by omega) (by omega) (by omega) (by omega) (by omega)
        have hi0 : ¬ (i : Int) = 0 := fun e => by have := hz (by omega); omega
        refine ⟨r, Ev.step (fun k => ?_) r1, Ev.step (fun k => ?_) r2, r3⟩
        · simp only [spec_l16Changes.l0, rd_nat, hn, hrd, w2, Option.bind_some]
          rw [if_pos (by omega), if_pos (by omega), if_pos (by omega), if_pos (by omega), if_neg hgt, w64 (x := rest - wr (l.getD n z116)) (by omega) (by omega), wsucc (by omega)]
        · simp only [impl_ChangesInOrder.l0, rd_nat, hn, hr2, List.length_map]
          rw [if_pos (by omega), if_pos (by omega), if_pos (by omega), if_neg hi0, if_pos (by omega), if_pos (by omega), if_neg hgt, w64 (x := rest - wr (l.getD n z116)) (by omega) (by omega), wsucc (by omega)]
  obtain ⟨r, r1, r2, r3⟩ := h xs.length 0 [] 0 (by omega) (by simp) (by omega) (by omega) (fun _ => rfl)
  exact ⟨r, r1, r2, r3⟩
/-- The two lists of changes agree. -/
theorem changes_same (l : List S116) (hB : ∀ x ∈ l, x.f0.size ≤ 9223372036854775807) (hl : l.length ≤ 1048576) (s : ByteArray) (hs : s.size ≤ 9223372036854775807) (a b c : Int) (xs : List Int) :
    ∃ (r : List Int) (code : Int), Ev (fun k => spec_ChangesInOrder.f k s a b c l xs) (r, code) ∧ Ev (fun k => impl_ChangesInOrder.f k s a b c l xs) (r, code) ∧ r.length ≤ 16 := by
  obtain ⟨ws, code, h1, h2, h3, h4⟩ := ask_same l hB hl s hs a b c
  unfold spec_ChangesInOrder.f impl_ChangesInOrder.f
  by_cases hc : code = 0
  · obtain ⟨rfl, hok, hbl, hw⟩ := h3 hc
    subst hc
    have hll := hok.1
    obtain ⟨q, q1, q2, q3⟩ := order_same (l.length : Int) ⟨by omega, by omega⟩ xs
    cases q with
    | false =>
      refine ⟨[], 2, Ev.bind h1 ?_, Ev.bind h2 ?_, by simp⟩
      · simp only [if_true]; exact Ev.bind q1 (Ev.some_eq fun k => by simp only [spec_ChangesInOrder.j0]; rfl)
      · simp only [if_true]
        refine Ev.bind q2 (Ev.step (f := fun k => impl_ChangesInOrder.j1 k xs (l.map wr) 2 s a b c) (fun k => by simp only [impl_ChangesInOrder.j0]; rfl) (Ev.some_eq fun k => ?_))
        simp only [impl_ChangesInOrder.j1]; rw [if_neg (by omega)]
    | true =>
      obtain ⟨o1, o2⟩ := q3 rfl
      obtain ⟨r, r1, r2, r3⟩ := changes_loop l hok s a b c hbl.1 hw xs (by omega) o2
      refine ⟨r, 0, Ev.bind h1 ?_, Ev.bind h2 ?_, r3⟩
      · simp only [if_true]
        refine Ev.bind q1 (Ev.step (f := fun k => (spec_l16Changes.f k [⟨s, a, b, c⟩] l xs).bind fun t => some (t, 0)) (fun k => by simp only [spec_ChangesInOrder.j0]; rfl) (Ev.bind r1 (Ev.now _)))
      · simp only [if_true]
        refine Ev.bind q2 (Ev.step (f := fun k => impl_ChangesInOrder.j1 k xs (l.map wr) 0 s a b c) (fun k => by simp only [impl_ChangesInOrder.j0]; rfl) (Ev.step (fun k => ?_) r2))
        simp only [impl_ChangesInOrder.j1]; rfl
  · refine ⟨[], code, Ev.bind h1 ?_, Ev.bind h2 ?_, by simp⟩
    · simp only [if_neg hc]
      exact Ev.some_eq fun k => by simp only [spec_ChangesInOrder.j0]; rw [if_neg Bool.false_ne_true, if_neg hc]
    · simp only [if_neg hc]
      refine Ev.step (f := fun k => impl_ChangesInOrder.j1 k xs ws code s a b c) (fun k => by simp only [impl_ChangesInOrder.j0]; rfl) (Ev.some_eq fun k => ?_)
      simp only [impl_ChangesInOrder.j1]; rw [if_neg hc]

def mk : Nat → Int → List Int
  | 0, _ => []
  | n + 1, a => a :: mk n (a + 1)
theorem mk_length (n : Nat) : ∀ a, (mk n a).length = n := by
  induction n with
  | zero => intro a; rfl
  | succ n ih => intro a; simp [mk, ih]
theorem mk_at (n : Nat) : ∀ (a : Int) (j : Nat), j < n → (mk n a).getD j 0 = a + j := by
  induction n with
  | zero => intro a j h; omega
  | succ n ih =>
    intro a j h
    cases j with
    | zero => simp [mk]
    | succ j => simp only [mk, List.getD_cons_succ]; rw [ih (a + 1) j (by omega)]; omega
theorem mark_tail (d : Nat) : ∀ (xs : List Int) (a i : Int), 0 ≤ i → (xs.length : Int) - i = d → xs.length ≤ 4611686018427387903 → 0 ≤ a → a + d ≤ 9223372036854775807 →
    Ev (fun k => laws_markInt64S.l0 k xs a i) (a + d, xs.take i.toNat ++ mk d a) := by
  induction d with
  | zero =>
    intro xs a i h0 hd hl ha hb
    refine Ev.step (f := fun _ => some (a, xs)) (fun k => ?_) ?_
    · simp only [laws_markInt64S.l0]; rw [if_neg (by omega)]
    · rw [show xs.take i.toNat = xs from List.take_of_length_le (by omega)]
      simp [mk]; exact Ev.now _
  | succ d ih =>
    intro xs a i h0 hd hl ha hb
    have h := ih (xs.set i.toNat a) (a + 1) (i + 1) (by omega) (by rw [List.length_set]; omega) (by rw [List.length_set]; omega) (by omega) (by omega)
    refine Ev.step (f := fun k => laws_markInt64S.l0 k (xs.set i.toNat a) (a + 1) (i + 1)) (fun k => ?_) ?_
    · simp only [laws_markInt64S.l0]; rw [if_pos (by omega), if_pos h0, w64 (x := a + 1) (by omega) (by omega), w64 (x := i + 1) (by omega) (by omega)]
    · have e1 : (i + 1).toNat = i.toNat + 1 := by omega
      have e2 : (xs.set i.toNat a).take (i.toNat + 1) = xs.take i.toNat ++ [a] := by
        rw [List.take_succ_eq_append_getElem (by rw [List.length_set]; omega), List.getElem_set_self, List.take_set_of_le (by omega)]
      rw [e1, e2] at h
      rw [show a + ((d + 1 : Nat) : Int) = a + 1 + d by omega]
      simpa [mk] using h
theorem held_tail (n : Nat) (b : Int) (hn : n ≤ 4611686018427387903) (hb0 : 0 ≤ b) (hb : b + n ≤ 9223372036854775807) (d : Nat) : ∀ (i : Int), 0 ≤ i → (n : Int) - i = d →
    Ev (fun k => laws_heldInt64S.l0 k (mk n b) (b + i) i) (b + n) := by
  induction d with
  | zero =>
    intro i h0 hd
    refine Ev.step (f := fun _ => some (b + n)) (fun k => ?_) (Ev.now _)
    simp only [laws_heldInt64S.l0]; rw [if_neg (by rw [mk_length]; omega), show b + i = b + n by omega]
  | succ d ih =>
    intro i h0 hd
    have h := ih (i + 1) (by omega) (by omega)
    refine Ev.step (f := fun k => laws_heldInt64S.l0 k (mk n b) (b + (i + 1)) (i + 1)) (fun k => ?_) h
    simp only [laws_heldInt64S.l0]
    rw [if_pos (by rw [mk_length]; omega), if_pos h0, if_pos (by unfold rd; rw [mk_at n b i.toNat (by omega)]; omega), w64 (x := b + i + 1) (by omega) (by omega), w64 (x := i + 1) (by omega) (by omega), show b + i + 1 = b + (i + 1) by omega]
theorem mark_held (xs : List Int) (hl : xs.length ≤ 1000000000) : Ev (fun k => laws_markInt64S.f k xs 1) (1 + (xs.length : Int), mk xs.length 1) ∧ Ev (fun k => laws_heldInt64S.f k (mk xs.length 1) 1) (1 + (xs.length : Int)) := by
  constructor
  · have h := mark_tail xs.length xs 1 0 (by omega) (by omega) (by omega) (by omega) (by omega)
    simpa [laws_markInt64S.f] using h
  · have h := held_tail xs.length 1 (by omega) (by omega) (by omega) xs.length 0 (by omega) (by omega)
    simpa [laws_heldInt64S.f] using h

theorem strNum_size (v : Int) : (strOfNums [v]).size = 1 := rfl
theorem markText_loop : ∀ (n : Nat) (t : ByteArray), t.size + n ≤ 2000000000 → ∃ s, Ev (fun k => laws_markText.l0 k (n : Int) t) s := by
  intro n
  induction n using Nat.strongRecOn with
  | ind n ih =>
    intro t ht
    rcases Nat.eq_zero_or_pos n with rfl | hn
    · refine ⟨(⟨#[109]⟩ : ByteArray) ++ t, Ev.some_eq fun k => ?_⟩
      simp only [laws_markText.l0]; rw [if_neg (by omega), if_pos (by omega)]
    · have hd : Int.tdiv (n : Int) 10 = ((n / 10 : Nat) : Int) := by rw [Int.tdiv_eq_ediv_of_nonneg (by omega)]; omega
      obtain ⟨s, e⟩ := ih (n / 10) (by omega) (strOfNums [(wrap64 (48 + (Int.tmod (n : Int) 10))) % 256] ++ t) (by rw [ByteArray.size_append, strNum_size]; omega)
      refine ⟨s, Ev.step (fun k => ?_) e⟩
      simp only [laws_markText.l0, Option.bind_some, hd]
      rw [if_pos (by omega), if_pos (by rw [strNum_size]; omega), w64 (by omega) (by omega)]
theorem markText_ex (a : Int) (h0 : 0 ≤ a) (h1 : a ≤ 1000000000) : ∃ s, Ev (fun k => laws_markText.f k a) s := by
  unfold laws_markText.f
  by_cases h : a ≤ 0
  · simp only [if_pos h]; exact ⟨_, Ev.now _⟩
  · simp only [if_neg h]
    obtain ⟨s, e⟩ := markText_loop a.toNat (⟨#[]⟩ : ByteArray) (by show 0 + a.toNat ≤ _; omega)
    rw [Int.toNat_of_nonneg h0] at e
    exact ⟨s, e⟩
theorem markCut_ex (l : List S116) (hl : l.length ≤ 1048576) : ∃ (a : Int) (m : List S116), Ev (fun k => laws_markCuttingS.f k l 1) (a, m) ∧ 1 ≤ a ∧ a ≤ 10000000 := by
  have h : ∀ d (i : Nat) (l : List S116) (x1 : Int), i + d = l.length → l.length ≤ 1048576 → 1 ≤ x1 → x1 ≤ 1 + 3 * i → ∃ (a : Int) (m : List S116), Ev (fun k => laws_markCuttingS.l0 k l x1 (i : Int)) (a, m) ∧ 1 ≤ a ∧ a ≤ 10000000 := by
    intro d
    induction d with
    | zero =>
      intro i l x1 hi hl h0 h1
      refine ⟨x1, l, Ev.some_eq fun k => ?_, h0, by omega⟩
      simp only [laws_markCuttingS.l0]; rw [if_neg (by omega)]
    | succ d ih =>
      intro i l x1 hi hl h0 h1
      obtain ⟨s, e⟩ := markText_ex x1 (by omega) (by omega)
      obtain ⟨y1, hy1⟩ : ∃ y, y = l.set (i : Int).toNat (⟨s, (rd_T116 l (i : Int)).f1, (rd_T116 l (i : Int)).f2⟩ : S116) := ⟨_, rfl⟩
      obtain ⟨y2, hy2⟩ : ∃ y, y = y1.set (i : Int).toNat (⟨(rd_T116 y1 (i : Int)).f0, wrap64 (x1 + 1), (rd_T116 y1 (i : Int)).f2⟩ : S116) := ⟨_, rfl⟩
      obtain ⟨y3, hy3⟩ : ∃ y, y = y2.set (i : Int).toNat (⟨(rd_T116 y2 (i : Int)).f0, (rd_T116 y2 (i : Int)).f1, wrap64 ((wrap64 (x1 + 1)) + 1)⟩ : S116) := ⟨_, rfl⟩
      have hl3 : y3.length = l.length := by rw [hy3, List.length_set, hy2, List.length_set, hy1, List.length_set]
      obtain ⟨a, m, q1, q2⟩ := ih (i + 1) y3 (x1 + 3) (by omega) (by omega) (by omega) (by omega)
      refine ⟨a, m, Ev.step1 e q1 (fun k hk => ?_), q2⟩
      simp only [laws_markCuttingS.l0, hk, Option.bind_some]
      rw [if_pos (by omega), if_pos (by omega), ← hy1, ← hy2, ← hy3, w64 (x := x1 + 1) (by omega) (by omega), w64 (x := x1 + 1 + 1) (by omega) (by omega), w64 (x := x1 + 1 + 1 + 1) (by omega) (by omega), wsucc (by omega), show x1 + 1 + 1 + 1 = x1 + 3 by omega]
  exact h l.length 0 l 1 (by omega) hl (by omega) (by omega)

theorem FnExactChangesInOrder : laws_FnExactChangesInOrder.Pure := by
  intro s a b c l xs hB hBl hBx
  obtain ⟨hB1, hB2⟩ := cuts_B l hBl.2
  have hs : s.size ≤ 9223372036854775807 := hB.1
  obtain ⟨n, hn, hn1, _⟩ := szBlade_le s a b c 1048576 hs (by omega) (by omega)
  suffices h : Ev (fun k => laws_FnExactChangesInOrder.f k s a b c l xs) true from h.rounds
  unfold laws_FnExactChangesInOrder.f laws_toBlade.f
  simp only [hn, Option.bind_some]
  refine Ev.cond (fun _ => Ev.now _) (fun hx0 => Ev.cond (fun _ => Ev.now _) (fun h0 => ?_))
  obtain ⟨z, hz, hz2, _⟩ := szCut_le l hB1 hBl.1 n (by omega) (by have := hn1 (by omega); omega)
  refine Ev.bind hz (Ev.cond (fun _ => Ev.now _) (fun hn => ?_))
  have hl : l.length ≤ 1048576 := by have := hz2 (by omega); have := hn1 (by omega); omega
  have ht := toCut_eq l hl
  have hx := toS_eq xs (by omega)
  obtain ⟨r, code, e1, e2, hr⟩ := changes_same (l.map cvCut) hB2 (by simpa using hl) s hs a b c xs
  have he := eqS_same r (by omega)
  obtain ⟨hm, hd⟩ := mark_held r (by omega)
  obtain ⟨mc, ml, c1, c2, c3⟩ := markCut_ex (l.map cvCut) (by simpa using hl)
  have hmx := mark_tail xs.length xs mc 0 (by omega) (by omega) (by omega) (by omega) (by omega)
  have hj2 : Ev (fun k => laws_FnExactChangesInOrder.j2 k (mk r.length 1) (1 + (r.length : Int)) false) true := by
    refine Ev.step (fun k => by simp only [laws_FnExactChangesInOrder.j2]; rfl) (Ev.bind hd ?_)
    simp only [if_neg (show ¬ (1 + (r.length : Int)) < 0 by omega), if_true]; exact Ev.now _
  have hj1 : Ev (fun k => laws_FnExactChangesInOrder.j1 k l xs r code r false s a b c) true := by
    refine Ev.step (fun k => by simp only [laws_FnExactChangesInOrder.j1, laws_toBlade.f, Option.bind_some]; rfl) (Ev.bind hm (Ev.bind hd ?_))
    simp only [if_neg (show ¬ (1 + (r.length : Int)) < 0 by omega), if_true]
    refine Ev.bind ht (Ev.bind hx (Ev.bind e2 (Ev.bind he ?_)))
    simp only [if_true, bne_self_eq_false]; exact hj2
  refine Ev.bind ht (Ev.bind hx (Ev.bind e1 (Ev.bind ht (Ev.bind hx (Ev.bind e2 (Ev.bind he ?_))))))
  simp only [if_true, bne_self_eq_false]
  refine Ev.step (fun k => by simp only [laws_FnExactChangesInOrder.j0]; rfl) ?_
  refine Ev.bind ht (Ev.bind (eqCut_same _ (by simpa using hl)) ?_)
  simp only [if_true]
  refine Ev.bind hx (Ev.bind (eqS_same xs (by omega)) ?_)
  simp only [if_true]
  refine Ev.bind c1 (Ev.bind (show Ev (fun k => laws_markInt64S.f k xs mc) _ from hmx) ?_)
  simp only [if_neg (show ¬ (mc + ((xs.length : Nat) : Int)) < 0 by omega)]
  refine Ev.bind he ?_
  simp only [if_true, bne_self_eq_false]; exact hj1

end Go.Proofs.Ytpkjalhfioajjaa.Pure

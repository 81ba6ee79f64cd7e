/- For every list of blades and of cuttings the printed law FnExactCheapestBlade answers true: the program's CheapestBlade and the reference's agree, and the arguments stay as they were. -/
import Derived.Test.YtpkjalhfioajjaaPFnExactCheapestBladex9
namespace Go.Proofs.Ytpkjalhfioajjaa.Pure
open Go.RowKit Go.Proofs.Ytpkjalhfioajjaa.PFnExactCheapestBlade Go.Proofs.YtpkjalhfioajjaaW.PrintWords Go.Proofs.YtpkjalhfioajjaaW.PrintLast
set_option linter.unusedVariables false
set_option linter.unusedSimpArgs false
set_option linter.unnecessarySimpa false

theorem w64 {x : Int} (h0 : -9223372036854775808 ≤ x) (h1 : x ≤ 9223372036854775807) : wrap64 x = x := by unfold wrap64; omega
theorem wf64 {x : Int} (h : (Lit.int .i64 x).wf = true) : -9223372036854775808 ≤ x ∧ x ≤ 9223372036854775807 := by
  simp only [Lit.wf, IntKind.has, Bool.and_eq_true, decide_eq_true_eq] at h
  exact h
theorem maxLen_eq : maxLen = 9223372036854775807 := rfl
theorem Ev.cond {α : Type} {c : Prop} [Decidable c] {g f : Nat → Option α} {r : α} (h : c → Ev g r) (h' : ¬ c → Ev f r) : Ev (fun k => if c then g k else f k) r := by
  by_cases hc : c
  · simp only [if_pos hc]; exact h hc
  · simp only [if_neg hc]; exact h' hc
theorem down {n : Nat} {Q : Nat → Prop} (he : Q n) (hs : ∀ i, i < n → Q (i + 1) → Q i) : Q 0 := by
  have h : ∀ d i, i + d = n → Q i := by
    intro d
    induction d with
    | zero => intro i hi; have : i = n := by omega
              subst this; exact he
    | succ d ih => intro i hi; exact hs i (by omega) (ih (i + 1) (by omega))
  exact h n 0 (by omega)
theorem wsucc {i : Nat} (h : i < 9223372036854775807) : wrap64 ((i : Int) + 1) = ((i + 1 : Nat) : Int) := by rw [w64 (by omega) (by omega)]; omega
theorem getD_mem {α : Type} {xs : List α} {i : Nat} (z : α) (h : i < xs.length) : xs.getD i z ∈ xs := by
  rw [List.getD_eq_getElem?_getD, List.getElem?_eq_getElem h]; exact List.getElem_mem h
theorem getD_map {α β : Type} {xs : List α} {i : Nat} (c : α → β) (z : α) (z' : β) (h : i < xs.length) : (xs.map c).getD i z' = c (xs.getD i z) := by
  rw [List.getD_eq_getElem?_getD, List.getD_eq_getElem?_getD, List.getElem?_eq_getElem h, List.getElem?_eq_getElem (by simpa using h)]; simp
theorem Ev.some_eq {α : Type} {g : Nat → Option α} {r : α} (h : ∀ k, g (k + 1) = some r) : Ev g r := Ev.step (f := fun _ => some r) h (Ev.now r)
/-- A row made full of one value and filled from the left. -/
theorem ev_fill {α β : Type} (xs : List α) (z : α) (c : α → β) (L : Nat → List β → Int → Option (List β))
    (he : ∀ ys : List β, ys.length = xs.length → Ev (fun k => L k ys (xs.length : Int)) ys)
    (hs : ∀ (ys r : List β) (i : Nat), i < xs.length → ys.length = xs.length → Ev (fun k => L k (ys.set i (c (xs.getD i z))) ((i + 1 : Nat) : Int)) r → Ev (fun k => L k ys (i : Int)) r) :
    ∀ ys : List β, ys.length = xs.length → Ev (fun k => L k ys 0) (xs.map c) := by
  have h : ∀ d (i : Nat) (ys : List β), i + d = xs.length → ys.length = xs.length → Ev (fun k => L k ys (i : Int)) (ys.take i ++ (xs.drop i).map c) := by
    intro d
    induction d with
    | zero =>
      intro i ys hi hy
      have e : i = xs.length := by omega
      subst e
      rw [List.drop_of_length_le (Nat.le_refl _), List.map_nil, List.append_nil, List.take_of_length_le (by omega)]
      exact he ys hy
    | succ d ih =>
      intro i ys hi hy
      have hlt : i < xs.length := by omega
      refine hs ys _ i hlt hy ?_
      have h2 := ih (i + 1) (ys.set i (c (xs.getD i z))) (by omega) (by rw [List.length_set]; exact hy)
      have e2 : (ys.set i (c (xs.getD i z))).take (i + 1) = ys.take i ++ [c (xs.getD i z)] := by
        rw [List.take_succ_eq_append_getElem (by rw [List.length_set]; omega), List.getElem_set_self, List.take_set_of_le (by omega)]
      have e3 : xs.drop i = xs.getD i z :: xs.drop (i + 1) := by
        rw [List.drop_eq_getElem_cons hlt, List.getD_eq_getElem?_getD, List.getElem?_eq_getElem hlt]; rfl
      rw [e2] at h2
      rw [e3, List.map_cons]
      simpa using h2
  intro ys hy
  have := h xs.length 0 ys (by omega) hy
  simpa using this
/-- One round of a loop, which leans on what a call answers. -/
theorem Ev.step1 {α β : Type} {g f : Nat → Option α} {u : Nat → Option β} {b : β} {r : α} (e : Ev u b) (k : Ev f r) (h : ∀ k, u k = some b → g (k + 1) = f k) : Ev g r := by
  obtain ⟨K, e⟩ := e
  obtain ⟨K', k⟩ := k
  refine ⟨max K K' + 1, fun n hn => ?_⟩
  obtain ⟨m, rfl⟩ : ∃ m, n = m + 1 := ⟨n - 1, by omega⟩
  rw [h m (e m (by omega))]
  exact k m (by omega)
theorem Ev.step2 {α β γ : Type} {g f : Nat → Option α} {u : Nat → Option β} {v : Nat → Option γ} {b : β} {c : γ} {r : α} (e : Ev u b) (e' : Ev v c) (k : Ev f r) (h : ∀ k, u k = some b → v k = some c → g (k + 1) = f k) : Ev g r := by
  obtain ⟨K, e⟩ := e
  obtain ⟨K2, e'⟩ := e'
  obtain ⟨K', k⟩ := k
  refine ⟨max (max K K2) K' + 1, fun n hn => ?_⟩
  obtain ⟨m, rfl⟩ : ∃ m, n = m + 1 := ⟨n - 1, by omega⟩
  rw [h m (e m (by omega)) (e' m (by omega))]
  exact k m (by omega)

theorem in_eq (n lo hi : Int) : spec_l00In.f n lo hi = some (decide (lo ≤ n ∧ n ≤ hi)) := by
  unfold spec_l00In.f
  by_cases h : n ≥ lo
  · rw [if_pos h]; simp [show lo ≤ n from h]
  · rw [if_neg h]; simp; omega

theorem within_eq (n lo hi : Int) : impl_within.f n lo hi = some (decide (lo ≤ n ∧ n ≤ hi)) := by
  unfold impl_within.f
  by_cases h : n ≥ lo
  · rw [if_pos h]; simp [show lo ≤ n from h]
  · rw [if_neg h]; simp; omega

theorem small_eq (c : Int) : spec_l01Small.f c = some (decide (97 ≤ c ∧ c ≤ 122)) := by
  unfold spec_l01Small.f
  by_cases h : c ≥ 97
  · rw [if_pos h]; simp [show 97 ≤ c from h]
  · rw [if_neg h]; simp; omega
theorem digit_eq (c : Int) : spec_l01Digit.f c = some (decide (48 ≤ c ∧ c ≤ 57)) := by
  unfold spec_l01Digit.f
  by_cases h : c ≥ 48
  · rw [if_pos h]; simp [show 48 ≤ c from h]
  · rw [if_neg h]; simp; omega
theorem name_tail (s : ByteArray) (hs : s.size ≤ 9223372036854775807) (d : Nat) : ∀ (i : Int), 0 ≤ i → (s.size : Int) - i = d →
    ∃ b, Ev (fun k => impl_IsName.l0 k s i) b ∧ Ev (fun k => spec_l01Name.l0 k s i) b := by
  induction d with
  | zero =>
    intro i h0 hd
    refine ⟨true, Ev.step (f := fun _ => some true) (fun k => ?_) (Ev.now _), Ev.step (f := fun _ => some true) (fun k => ?_) (Ev.now _)⟩
    · simp only [impl_IsName.l0]; rw [if_neg (by omega)]
    · simp only [spec_l01Name.l0]; rw [if_neg (by omega)]
  | succ d ih =>
    intro i h0 hd
    have hlt : i < (s.size : Int) := by omega
    have hw : wrap64 (i + 1) = i + 1 := w64 (by omega) (by omega)
    by_cases hg : (97 ≤ bt s i ∧ bt s i ≤ 122) ∨ (48 ≤ bt s i ∧ bt s i ≤ 57)
    · obtain ⟨b, h1, h2⟩ := ih (i + 1) (by omega) (by omega)
      refine ⟨b, Ev.step (f := fun k => impl_IsName.l0 k s (i + 1)) (fun k => ?_) h1, Ev.step (f := fun k => spec_l01Name.l0 k s (i + 1)) (fun k => ?_) h2⟩
      · simp only [impl_IsName.l0]; rw [if_pos hlt, if_pos h0, hw]
        rcases hg with hg | hg
        · rw [if_neg (by omega), if_neg (by omega)]
        · rw [if_pos (by omega), if_neg (by omega), if_neg (by omega)]
      · simp only [spec_l01Name.l0, small_eq, digit_eq, Option.bind_some]; rw [if_pos hlt, if_pos h0, hw]
        by_cases hq : 97 ≤ bt s i ∧ bt s i ≤ 122
        · rw [if_pos (by simpa using hq)]
        · have hq2 : 48 ≤ bt s i ∧ bt s i ≤ 57 := by omega
          rw [if_neg (by simpa using hq), if_pos (by simpa using hq2)]
    · refine ⟨false, Ev.step (f := fun _ => some false) (fun k => ?_) (Ev.now _), Ev.step (f := fun _ => some false) (fun k => ?_) (Ev.now _)⟩
      · simp only [impl_IsName.l0]; rw [if_pos hlt, if_pos h0]
        by_cases h1 : bt s i < 97
        · rw [if_pos h1]
          by_cases h2 : bt s i < 48
          · rw [if_pos h2]
          · rw [if_neg h2, if_pos (by omega)]
        · rw [if_neg h1, if_pos (by omega)]
          by_cases h2 : bt s i < 48
          · rw [if_pos h2]
          · rw [if_neg h2, if_pos (by omega)]
      · simp only [spec_l01Name.l0, small_eq, digit_eq, Option.bind_some]; rw [if_pos hlt, if_pos h0]
        have h1 : ¬ (97 ≤ bt s i ∧ bt s i ≤ 122) := fun h => hg (.inl h)
        have h2 : ¬ (48 ≤ bt s i ∧ bt s i ≤ 57) := fun h => hg (.inr h)
        rw [if_neg (by simpa using h1), if_neg (by simpa using h2)]
theorem name_same (s : ByteArray) (hs : s.size ≤ 9223372036854775807) : ∃ b, Ev (fun k => impl_IsName.f k s) b ∧ Ev (fun k => spec_l01Name.f k s) b ∧ (b = true → s.size ≤ 10) := by
  have he : (s.toList = ([] : List UInt8)) ↔ s.size = 0 := by
    rw [ByteArray.toList_eq]
    constructor
    · intro h; have := data_length s; rw [h] at this; simpa using this.symm
    · intro h; have := data_length s; rw [h] at this; exact List.eq_nil_of_length_eq_zero this
  have f1 : Ev (fun k => impl_IsName.j0 k s true) false := Ev.step (f := fun _ => some false) (fun k => by simp only [impl_IsName.j0]; rfl) (Ev.now _)
  have f2 : Ev (fun k => spec_l01Name.j0 k s true) false := Ev.step (f := fun _ => some false) (fun k => by simp only [spec_l01Name.j0]; rfl) (Ev.now _)
  unfold impl_IsName.f spec_l01Name.f
  by_cases h0 : s.size = 0
  · refine ⟨false, ?_, ?_, by simp⟩
    · simp only [if_pos (show (s.size : Int) < 1 by omega)]; exact f1
    · simp only [if_pos (he.2 h0)]; exact f2
  · have hn : ¬ (s.toList = ([] : List UInt8)) := fun h => h0 (he.1 h)
    simp only [if_neg hn, if_neg (show ¬ (s.size : Int) < 1 by omega)]
    by_cases h1 : (s.size : Int) > 10
    · simp only [if_pos h1]; exact ⟨false, f1, f2, by simp⟩
    · simp only [if_neg h1, if_pos (show (0 : Int) < (s.size : Int) by omega), small_eq, Option.bind_some]
      by_cases h2 : 97 ≤ bt s 0 ∧ bt s 0 ≤ 122
      · obtain ⟨b, e1, e2⟩ := name_tail s hs s.size 0 (by omega) (by omega)
        refine ⟨b, ?_, ?_, fun _ => by omega⟩
        · simp only [if_neg (show ¬ bt s 0 < 97 by omega), show decide (bt s 0 > 122) = false from decide_eq_false (by omega)]
          exact Ev.step (f := fun k => impl_IsName.l0 k s 0) (fun k => by simp only [impl_IsName.j0]; rw [if_neg (by simp)]) e1
        · simp only [show (!decide (97 ≤ bt s 0 ∧ bt s 0 ≤ 122)) = false by simpa using h2]
          exact Ev.step (f := fun k => spec_l01Name.l0 k s 0) (fun k => by simp only [spec_l01Name.j0]; rw [if_neg (by simp)]) e2
      · refine ⟨false, ?_, ?_, by simp⟩
        · by_cases h3 : bt s 0 < 97
          · simp only [if_pos h3]; exact f1
          · simp only [if_neg h3, show decide (bt s 0 > 122) = true from decide_eq_true (by omega)]; exact f1
        · simp only [show (!decide (97 ≤ bt s 0 ∧ bt s 0 ≤ 122)) = true by simp; omega]; exact f2

theorem cutting_same (s : ByteArray) (a b : Int) (hs : s.size ≤ 9223372036854775807) : ∃ r, Ev (fun k => impl_validCutting.f k s a b) r ∧ Ev (fun k => spec_l16One.f k [⟨s, a, b⟩]) r ∧
    (r = true → (1 ≤ a ∧ a ≤ 1000000) ∧ (1 ≤ b ∧ b ≤ 100)) := by
  obtain ⟨t, h1, h2, _⟩ := name_same s hs
  refine ⟨t && decide (1 ≤ a ∧ a ≤ 1000000) && decide (1 ≤ b ∧ b ≤ 100), ?_, ?_, fun h => ?_⟩
  · unfold impl_validCutting.f
    refine Ev.bind h1 ?_
    simp only [within_eq, Option.bind_some]
    generalize decide (1 ≤ a ∧ a ≤ 1000000) = p
    cases t <;> cases p <;> exact Ev.now _
  · unfold spec_l16One.f
    refine Ev.bind h2 ?_
    simp only [show ∀ x, rd_T116 [x] 0 = x from fun _ => rfl, in_eq, Option.bind_some]
    generalize decide (1 ≤ a ∧ a ≤ 1000000) = p
    cases t <;> cases p <;> exact Ev.now _
  · simp only [Bool.and_eq_true, decide_eq_true_eq] at h
    exact ⟨h.1.2, h.2⟩

def cvCut (x : S115) : S116 := ⟨x.f0, x.f1, x.f2⟩
theorem szCut_le (l : List S115) (hB : ∀ x ∈ l, x.f0.size ≤ 9223372036854775807) (hl : l.length ≤ 9223372036854775807) (a : Int) (h0 : 0 ≤ a) (h1 : a ≤ 1048576) :
    ∃ r, Ev (fun k => laws_szCuttingS.f k l a) r ∧ (0 ≤ r → (l.length : Int) ≤ a) ∧ r ≤ 1048576 := by
  unfold laws_szCuttingS.f
  by_cases hc : wrap64 (a - (l.length : Int)) < 0
  · simp only [if_pos hc]; exact ⟨-1, Ev.now _, by omega, by omega⟩
  · simp only [if_neg hc]
    rw [w64 (by omega) (by omega)] at hc ⊢
    have h : ∀ b, 0 ≤ b → b ≤ 1048576 → ∃ r, Ev (fun k => laws_szCuttingS.l0 k l b ((0 : Nat) : Int)) r ∧ r ≤ 1048576 := by
      refine down (n := l.length) (Q := fun i => ∀ b, 0 ≤ b → b ≤ 1048576 → ∃ r, Ev (fun k => laws_szCuttingS.l0 k l b (i : Int)) r ∧ r ≤ 1048576) ?_ ?_
      · intro b _ _
        exact ⟨b, Ev.some_eq fun k => by simp only [laws_szCuttingS.l0]; rw [if_neg (by omega)], by omega⟩
      · intro i hi ih b hb0 hb1
        have hz := hB _ (getD_mem z115 hi)
        by_cases hd : wrap64 (b - ((rd_T115 l (i : Int)).f0.size : Int)) < 0
        · exact ⟨-1, Ev.some_eq fun k => by simp only [laws_szCuttingS.l0, laws_szCutting.f]; rw [if_pos (by omega), if_pos (by omega), if_pos hd]; rfl, by omega⟩
        · have hz2 : ((rd_T115 l (i : Int)).f0.size : Int) ≤ 9223372036854775807 := by unfold rd_T115; rw [Int.toNat_natCast]; omega
          have hd2 : wrap64 (b - ((rd_T115 l (i : Int)).f0.size : Int)) = b - ((rd_T115 l (i : Int)).f0.size : Int) := w64 (by omega) (by omega)
          obtain ⟨r, hr, hr1⟩ := ih (wrap64 (b - ((rd_T115 l (i : Int)).f0.size : Int))) (by omega) (by omega)
          refine ⟨r, Ev.step (fun k => ?_) hr, hr1⟩
          simp only [laws_szCuttingS.l0, laws_szCutting.f]
          rw [if_pos (by omega), if_pos (by omega), if_neg hd]
          simp only [Option.bind_some]
          rw [if_neg hd, wsucc (by omega)]
    obtain ⟨r, h2, h3⟩ := h (a - (l.length : Int)) (by omega) (by omega)
    exact ⟨r, h2, by omega, h3⟩
theorem toCut_eq (l : List S115) (hl : l.length ≤ 1048576) : Ev (fun k => laws_toCuttingS.f k l) (l.map cvCut) := by
  unfold laws_toCuttingS.f
  simp only [if_pos (show (0 : Int) ≤ (l.length : Int) by omega), if_pos (show ((l.length : Int) : Int).toNat ≤ 8796093022208 by omega)]
  refine ev_fill l z115 cvCut (fun k ys i => laws_toCuttingS.l0 k l ys i) ?_ ?_ _ (by simp)
  · intro ys hy
    exact Ev.some_eq fun k => by simp only [laws_toCuttingS.l0]; rw [if_neg (by omega)]
  · intro ys r i hi hy h
    refine Ev.step (fun k => ?_) h
    simp only [laws_toCuttingS.l0, laws_toCutting.f]
    rw [if_pos (by omega), if_pos (by omega)]
    simp only [Option.bind_some]
    rw [if_pos (by omega), wsucc (by omega)]
    rfl
theorem eqCut_same (l : List S116) (hl : l.length ≤ 1048576) : Ev (fun k => laws_eqCuttingS.f k l l) true := by
  unfold laws_eqCuttingS.f
  simp only [if_true]
  refine down (n := l.length) (Q := fun i => Ev (fun k => laws_eqCuttingS.l0 k l l (i : Int)) true) ?_ ?_
  · exact Ev.some_eq fun k => by simp only [laws_eqCuttingS.l0]; rw [if_neg (by omega)]
  · intro i hi ih
    refine Ev.step (fun k => ?_) ih
    simp only [laws_eqCuttingS.l0, laws_eqCutting.f, if_true]
    rw [if_pos (by omega), if_pos (by omega), if_pos (by omega)]
    simp only [Option.bind_some, if_true]
    rw [wsucc (by omega)]
/-- What holds of valid cuttings. -/
def okCut (l : List S116) : Prop := l.length ≤ 16 ∧ ∀ x ∈ l, (1 ≤ x.f1 ∧ x.f1 ≤ 1000000) ∧ (1 ≤ x.f2 ∧ x.f2 ≤ 100)
theorem cuts_same (l : List S116) (hB : ∀ x ∈ l, x.f0.size ≤ 9223372036854775807) (hl : l.length ≤ 1048576) :
    ∃ r, Ev (fun k => impl_ValidCuttings.f k l) r ∧ Ev (fun k => spec_l16List.f k l) r ∧ (r = true → okCut l) := by
  unfold impl_ValidCuttings.f spec_l16List.f
  have h := down (n := l.length) (Q := fun i => ∃ r, Ev (fun k => impl_ValidCuttings.l0 k l l (l.length : Int) (i : Int)) r ∧ Ev (fun k => spec_l16List.l0 k l (i : Int)) r ∧
    (r = true → l.length ≤ 16 ∧ ∀ j, i ≤ j → j < l.length → (1 ≤ (l.getD j z116).f1 ∧ (l.getD j z116).f1 ≤ 1000000) ∧ (1 ≤ (l.getD j z116).f2 ∧ (l.getD j z116).f2 ≤ 100))) ?_ ?_
  · obtain ⟨r, h1, h2, h3⟩ := h
    refine ⟨r, h1, h2, fun hr => ⟨(h3 hr).1, fun x hx => ?_⟩⟩
    obtain ⟨j, hj, rfl⟩ := List.getElem_of_mem hx
    have := (h3 hr).2 j (Nat.zero_le _) hj
    rwa [List.getD_eq_getElem?_getD, List.getElem?_eq_getElem hj] at this
  · refine ⟨decide ((l.length : Int) ≤ 16), Ev.some_eq fun k => ?_, Ev.some_eq fun k => ?_, fun h => ⟨by have := of_decide_eq_true h; omega, fun j h1 h2 => by omega⟩⟩
    · simp only [impl_ValidCuttings.l0]; rw [if_neg (by omega)]
    · simp only [spec_l16List.l0]; rw [if_neg (by omega)]
  · intro i hi ih
    have hm := getD_mem z116 hi
    obtain ⟨t, e1, e2, e3⟩ := cutting_same (l.getD i z116).f0 (l.getD i z116).f1 (l.getD i z116).f2 (hB _ hm)
    have hrd : rd_T116 l (i : Int) = l.getD i z116 := by unfold rd_T116; simp
    rw [← hrd] at e1 e2 e3
    cases t with
    | false =>
      refine ⟨false, Ev.step1 e1 (Ev.now false) (fun k hk => ?_), Ev.step1 e2 (Ev.now false) (fun k hk => ?_), by simp⟩
      · simp only [impl_ValidCuttings.l0]; rw [if_pos (by omega), if_pos (by omega), if_pos (by omega), hk]; rfl
      · simp only [spec_l16List.l0]; rw [if_pos (by omega), if_pos (by omega), hk]; rfl
    | true =>
      obtain ⟨r, h1, h2, h3⟩ := ih
      have hv := e3 rfl
      rw [hrd] at hv
      have h4 : ∀ j, i ≤ j → j < l.length → (r = true) → (1 ≤ (l.getD j z116).f1 ∧ (l.getD j z116).f1 ≤ 1000000) ∧ (1 ≤ (l.getD j z116).f2 ∧ (l.getD j z116).f2 ≤ 100) := by
        intro j hj hj2 hr
        rcases Nat.eq_or_lt_of_le hj with rfl | hlt
        · exact hv
        · exact (h3 hr).2 j hlt hj2
      by_cases hi0 : i = 0
      · subst hi0
        refine ⟨r, Ev.step1 e1 h1 (fun k hk => ?_), Ev.step1 e2 h2 (fun k hk => ?_), fun hr => ⟨(h3 hr).1, fun j hj hj2 => h4 j hj hj2 hr⟩⟩
        · simp only [impl_ValidCuttings.l0]; rw [if_pos (by omega), if_pos (by omega), if_pos (by omega), hk]; simp only [Option.bind_some, if_true]; rw [if_neg (by omega), wsucc (by omega)]
        · simp only [spec_l16List.l0]; rw [if_pos (by omega), if_pos (by omega), hk]; simp only [Option.bind_some, if_true]; rw [if_neg (by omega), wsucc (by omega)]
      · have hw : wrap64 ((i : Int) - 1) = (i : Int) - 1 := w64 (by omega) (by omega)
        by_cases hb : (Op.bytesLess (((rd_T116 l ((i : Int) - 1)).f0).toList) (((rd_T116 l (i : Int)).f0).toList)) = true
        · refine ⟨r, Ev.step1 e1 h1 (fun k hk => ?_), Ev.step1 e2 h2 (fun k hk => ?_), fun hr => ⟨(h3 hr).1, fun j hj hj2 => h4 j hj hj2 hr⟩⟩
          · simp only [impl_ValidCuttings.l0]; rw [if_pos (by omega), if_pos (by omega), if_pos (by omega), hk]; simp only [Option.bind_some, if_true]; rw [hw, if_pos (by omega), if_pos (by omega), if_pos (by omega), if_pos hb, wsucc (by omega)]
          · simp only [spec_l16List.l0]; rw [if_pos (by omega), if_pos (by omega), hk]; simp only [Option.bind_some, if_true]; rw [hw, if_pos (by omega), if_pos (by omega), if_pos (by omega), if_pos hb, wsucc (by omega)]
        · refine ⟨false, Ev.step1 e1 (Ev.now false) (fun k hk => ?_), Ev.step1 e2 (Ev.now false) (fun k hk => ?_), by simp⟩
          · simp only [impl_ValidCuttings.l0]; rw [if_pos (by omega), if_pos (by omega), if_pos (by omega), hk]; simp only [Option.bind_some, if_true]; rw [hw, if_pos (by omega), if_pos (by omega), if_pos (by omega), if_neg hb]
          · simp only [spec_l16List.l0]; rw [if_pos (by omega), if_pos (by omega), hk]; simp only [Option.bind_some, if_true]; rw [hw, if_pos (by omega), if_pos (by omega), if_pos (by omega), if_neg hb]
theorem cuts_B (l : List S115) (hB : ∀ x ∈ l, B115 x) : (∀ x ∈ l, x.f0.size ≤ 9223372036854775807) ∧ ∀ x ∈ l.map cvCut, x.f0.size ≤ 9223372036854775807 := by
  refine ⟨fun x hx => (hB x hx).1, fun x hx => ?_⟩
  obtain ⟨y, hy, rfl⟩ := List.mem_map.1 hx
  exact (hB y hy).1

theorem blade_same (s : ByteArray) (a b c : Int) (hs : s.size ≤ 9223372036854775807) : ∃ r, Ev (fun k => impl_ValidBlade.f k s a b c) r ∧ Ev (fun k => spec_l16Ok.f k [⟨s, a, b, c⟩]) r ∧
    (r = true → (1 ≤ a ∧ a ≤ 1000000) ∧ (0 ≤ b ∧ b ≤ 1000000) ∧ (1 ≤ c ∧ c ≤ 10000)) := by
  obtain ⟨t, h1, h2, _⟩ := name_same s hs
  refine ⟨t && decide (1 ≤ a ∧ a ≤ 1000000) && decide (0 ≤ b ∧ b ≤ 1000000) && decide (1 ≤ c ∧ c ≤ 10000), ?_, ?_, fun h => ?_⟩
  · unfold impl_ValidBlade.f
    refine Ev.bind h1 ?_
    simp only [within_eq, Option.bind_some]
    generalize decide (1 ≤ a ∧ a ≤ 1000000) = p
    generalize decide (0 ≤ b ∧ b ≤ 1000000) = q
    cases t <;> cases p <;> cases q <;> exact Ev.now _
  · unfold spec_l16Ok.f
    refine Ev.bind h2 ?_
    simp only [show ∀ x, rd_T55 [x] 0 = x from fun _ => rfl, in_eq, Option.bind_some]
    generalize decide (1 ≤ a ∧ a ≤ 1000000) = p
    generalize decide (0 ≤ b ∧ b ≤ 1000000) = q
    cases t <;> cases p <;> cases q <;> exact Ev.now _
  · simp only [Bool.and_eq_true, decide_eq_true_eq] at h
    exact ⟨h.1.1.2, h.1.2, h.2⟩

def cvBlade (x : S50) : S55 := ⟨x.f0, x.f1, x.f2, x.f3⟩
theorem szBlade_le (s : ByteArray) (a b c n : Int) (hs : s.size ≤ 9223372036854775807) (h0 : 0 ≤ n) (h1 : n ≤ 1048576) : ∃ r, laws_szBlade.f s a b c n = some r ∧ (0 ≤ r → r ≤ 1048576 ∧ (s.size : Int) ≤ n) ∧ (r < 0 ∨ 0 ≤ r) := by
  unfold laws_szBlade.f
  have hw : wrap64 (n - (s.size : Int)) = n - (s.size : Int) := w64 (by omega) (by omega)
  by_cases h : wrap64 (n - (s.size : Int)) < 0
  · rw [if_pos h]; exact ⟨-1, rfl, by omega, by omega⟩
  · rw [if_neg h]; exact ⟨_, rfl, by omega, by omega⟩

theorem szBlS_le (l : List S50) (hB : ∀ x ∈ l, x.f0.size ≤ 9223372036854775807) (hl : l.length ≤ 9223372036854775807) (a : Int) (h0 : 0 ≤ a) (h1 : a ≤ 1048576) :
    ∃ r, Ev (fun k => laws_szBladeS.f k l a) r ∧ (0 ≤ r → (l.length : Int) ≤ a) ∧ r ≤ 1048576 := by
  unfold laws_szBladeS.f
  by_cases hc : wrap64 (a - (l.length : Int)) < 0
  · simp only [if_pos hc]; exact ⟨-1, Ev.now _, by omega, by omega⟩
  · simp only [if_neg hc]
    rw [w64 (by omega) (by omega)] at hc ⊢
    have h : ∀ b, 0 ≤ b → b ≤ 1048576 → ∃ r, Ev (fun k => laws_szBladeS.l0 k l b ((0 : Nat) : Int)) r ∧ r ≤ 1048576 := by
      refine down (n := l.length) (Q := fun i => ∀ b, 0 ≤ b → b ≤ 1048576 → ∃ r, Ev (fun k => laws_szBladeS.l0 k l b (i : Int)) r ∧ r ≤ 1048576) ?_ ?_
      · intro b _ _
        exact ⟨b, Ev.some_eq fun k => by simp only [laws_szBladeS.l0]; rw [if_neg (by omega)], by omega⟩
      · intro i hi ih b hb0 hb1
        have hz := hB _ (getD_mem z50 hi)
        by_cases hd : wrap64 (b - ((rd_T50 l (i : Int)).f0.size : Int)) < 0
        · exact ⟨-1, Ev.some_eq fun k => by simp only [laws_szBladeS.l0, laws_szBlade.f]; rw [if_pos (by omega), if_pos (by omega), if_pos hd]; rfl, by omega⟩
        · have hz2 : ((rd_T50 l (i : Int)).f0.size : Int) ≤ 9223372036854775807 := by unfold rd_T50; rw [Int.toNat_natCast]; omega
          have hd2 : wrap64 (b - ((rd_T50 l (i : Int)).f0.size : Int)) = b - ((rd_T50 l (i : Int)).f0.size : Int) := w64 (by omega) (by omega)
          obtain ⟨r, hr, hr1⟩ := ih (wrap64 (b - ((rd_T50 l (i : Int)).f0.size : Int))) (by omega) (by omega)
          refine ⟨r, Ev.step (fun k => ?_) hr, hr1⟩
          simp only [laws_szBladeS.l0, laws_szBlade.f]
          rw [if_pos (by omega), if_pos (by omega), if_neg hd]
          simp only [Option.bind_some]
          rw [if_neg hd, wsucc (by omega)]
    obtain ⟨r, h2, h3⟩ := h (a - (l.length : Int)) (by omega) (by omega)
    exact ⟨r, h2, by omega, h3⟩
theorem toBlS_eq (l : List S50) (hl : l.length ≤ 1048576) : Ev (fun k => laws_toBladeS.f k l) (l.map cvBlade) := by
  unfold laws_toBladeS.f
  simp only [if_pos (show (0 : Int) ≤ (l.length : Int) by omega), if_pos (show ((l.length : Int) : Int).toNat ≤ 7036874417766 by omega)]
  refine ev_fill l z50 cvBlade (fun k ys i => laws_toBladeS.l0 k l ys i) ?_ ?_ _ (by simp)
  · intro ys hy
    exact Ev.some_eq fun k => by simp only [laws_toBladeS.l0]; rw [if_neg (by omega)]
  · intro ys r i hi hy h
    refine Ev.step (fun k => ?_) h
    simp only [laws_toBladeS.l0, laws_toBlade.f]
    rw [if_pos (by omega), if_pos (by omega)]
    simp only [Option.bind_some]
    rw [if_pos (by omega), wsucc (by omega)]
    rfl
theorem eqBlS_same (l : List S55) (hl : l.length ≤ 1048576) : Ev (fun k => laws_eqBladeS.f k l l) true := by
  unfold laws_eqBladeS.f
  simp only [if_true]
  refine down (n := l.length) (Q := fun i => Ev (fun k => laws_eqBladeS.l0 k l l (i : Int)) true) ?_ ?_
  · exact Ev.some_eq fun k => by simp only [laws_eqBladeS.l0]; rw [if_neg (by omega)]
  · intro i hi ih
    refine Ev.step (fun k => ?_) ih
    simp only [laws_eqBladeS.l0, laws_eqBlade.f, if_true]
    rw [if_pos (by omega), if_pos (by omega), if_pos (by omega)]
    simp only [Option.bind_some, if_true]
    rw [wsucc (by omega)]
theorem bl_B (l : List S50) (hB : ∀ x ∈ l, B50 x) : (∀ x ∈ l, x.f0.size ≤ 9223372036854775807) ∧ ∀ x ∈ l.map cvBlade, x.f0.size ≤ 9223372036854775807 := by
  refine ⟨fun x hx => (hB x hx).1, fun x hx => ?_⟩
  obtain ⟨y, hy, rfl⟩ := List.mem_map.1 hx
  exact (hB y hy).1

theorem updiv_eq (a b : Int) (ha : 0 ≤ a) (ha2 : a ≤ 4611686018427387903) (hb : 1 ≤ b) (hb2 : b ≤ 4611686018427387903) : impl_upDiv.f a b = some ((a + b - 1) / b) := by
  unfold impl_upDiv.f
  rw [if_neg (by omega), w64 (x := a + b) (by omega) (by omega), w64 (x := a + b - 1) (by omega) (by omega), Int.tdiv_eq_ediv_of_nonneg (by omega)]
  have h1 : 0 ≤ (a + b - 1) / b := Int.ediv_nonneg (by omega) (by omega)
  have h2 : (a + b - 1) / b ≤ a + b - 1 := Int.ediv_le_self b (by omega)
  rw [w64 (by omega) (by omega)]
theorem prod_le (a b A B : Int) (ha : 0 ≤ a) (ha2 : a ≤ A) (hb : 0 ≤ b) (hb2 : b ≤ B) : 0 ≤ a * b ∧ a * b ≤ A * B :=
  ⟨Int.mul_nonneg ha hb, Int.mul_le_mul ha2 hb2 hb (by omega)⟩
theorem wear_eq (s : ByteArray) (a b : Int) (ha : 1 ≤ a ∧ a ≤ 1000000) (hb : 1 ≤ b ∧ b ≤ 100) : impl_wear.f s a b = some ((a * b + 39) / 40) ∧ spec_l16Wear.f [⟨s, a, b⟩] = some ((a * b + 39) / 40) := by
  have hp := prod_le a b 1000000 100 (by omega) ha.2 (by omega) hb.2
  have hw : wrap64 (a * b) = a * b := w64 (by omega) (by omega)
  constructor
  · unfold impl_wear.f
    rw [hw, updiv_eq _ _ hp.1 (by omega) (by omega) (by omega)]
    simp only [Option.bind_some]
    rw [show a * b + 40 - 1 = a * b + 39 by omega]
  · unfold spec_l16Wear.f
    rw [if_pos (by simp)]
    simp only [show ∀ x, rd_T116 [x] 0 = x from fun _ => rfl]
    rw [hw, w64 (x := a * b + 39) (by omega) (by omega), Int.tdiv_eq_ediv_of_nonneg (by omega)]
    rw [w64 (by omega) (by omega)]
theorem wear_le (a b : Int) (ha : 1 ≤ a ∧ a ≤ 1000000) (hb : 1 ≤ b ∧ b ≤ 100) : 1 ≤ (a * b + 39) / 40 ∧ (a * b + 39) / 40 ≤ 2500000 := by
  have hp := prod_le a b 1000000 100 (by omega) ha.2 (by omega) hb.2
  have : 1 ≤ a * b := by have := Int.mul_le_mul ha.1 hb.1 (by omega) (by omega : (0:Int) ≤ a); omega
  omega

/-- The wear of one cutting. -/
def wr (x : S116) : Int := (x.f1 * x.f2 + 39) / 40
theorem wr_eq (x : S116) (h : (1 ≤ x.f1 ∧ x.f1 ≤ 1000000) ∧ (1 ≤ x.f2 ∧ x.f2 ≤ 100)) : impl_wear.f x.f0 x.f1 x.f2 = some (wr x) ∧ spec_l16Wear.f [x] = some (wr x) ∧ 1 ≤ wr x ∧ wr x ≤ 2500000 :=
  ⟨(wear_eq x.f0 x.f1 x.f2 h.1 h.2).1, (wear_eq x.f0 x.f1 x.f2 h.1 h.2).2, wear_le x.f1 x.f2 h.1 h.2⟩
theorem wears_loop (l : List S116) (hok : okCut l) (s : ByteArray) (a b c : Int) :
    ∃ m : Bool, Ev (fun k => spec_l16Ask.l0 k [⟨s, a, b, c⟩] l 0) (if m then 6 else 0) ∧ Ev (fun k => impl_wears.l0 k ([] : List Int) l (l.length : Int) 0 s a b c) (if m then ([], 6) else (l.map wr, 0)) ∧ (m = false → ∀ j, j < l.length → wr (l.getD j z116) ≤ a) := by
  have hl := hok.1
  have h := down (n := l.length) (Q := fun i => ∀ acc : List Int, acc.length = i → ∃ m : Bool, Ev (fun k => spec_l16Ask.l0 k [⟨s, a, b, c⟩] l (i : Int)) (if m then 6 else 0) ∧ Ev (fun k => impl_wears.l0 k acc l (l.length : Int) (i : Int) s a b c) (if m then ([], 6) else (acc ++ (l.drop i).map wr, 0)) ∧ (m = false → ∀ j, i ≤ j → j < l.length → wr (l.getD j z116) ≤ a)) ?_ ?_
  · obtain ⟨m, h1, h2, h3⟩ := h [] rfl
    exact ⟨m, h1, h2, fun hm j hj => h3 hm j (Nat.zero_le _) hj⟩
  · intro acc ha
    refine ⟨false, Ev.some_eq fun k => ?_, Ev.some_eq fun k => ?_, fun _ j h1 h2 => by omega⟩
    · simp only [spec_l16Ask.l0]; (repeat (first | rw [if_pos (by omega)] | rw [if_neg (by omega)] | rw [if_pos (rfl : true = true)] | rw [if_neg Bool.false_ne_true] | rw [if_pos trivial]))
    · simp only [impl_wears.l0]; (repeat (first | rw [if_pos (by omega)] | rw [if_neg (by omega)] | rw [if_pos (rfl : true = true)] | rw [if_neg Bool.false_ne_true] | rw [if_pos trivial])); simp
  · intro i hi ih acc ha
    have hm := hok.2 _ (getD_mem z116 hi)
    have hrd : rd_T116 l (i : Int) = l.getD i z116 := by unfold rd_T116; simp
    have hd : l.drop i = l.getD i z116 :: l.drop (i + 1) := by
      rw [List.drop_eq_getElem_cons hi, List.getD_eq_getElem?_getD, List.getElem?_eq_getElem hi]; rfl
    rw [hd, ← hrd]
    rw [← hrd] at hm
    obtain ⟨w1, w2, w3, w4⟩ := wr_eq _ hm
    by_cases hgt : wr (rd_T116 l (i : Int)) > a
    · refine ⟨true, Ev.some_eq fun k => ?_, Ev.some_eq fun k => ?_, by simp⟩
      · simp only [spec_l16Ask.l0, w2, Option.bind_some, List.length_singleton, show rd_T55 [⟨s, a, b, c⟩] 0 = ⟨s, a, b, c⟩ from rfl]; (repeat (first | rw [if_pos (by omega)] | rw [if_neg (by omega)] | rw [if_pos (rfl : true = true)] | rw [if_neg Bool.false_ne_true] | rw [if_pos trivial]))
      · simp only [impl_wears.l0, w1, Option.bind_some]; (repeat (first | rw [if_pos (by omega)] | rw [if_neg (by omega)] | rw [if_pos (rfl : true = true)] | rw [if_neg Bool.false_ne_true] | rw [if_pos trivial]))
    · obtain ⟨m, h1, h2, h3⟩ := ih (acc ++ [wr (rd_T116 l (i : Int))]) (by simp [ha])
      rw [List.append_assoc] at h2
      refine ⟨m, Ev.step (fun k => ?_) h1, Ev.step (fun k => ?_) h2, fun hm j hj hj2 => ?_⟩
      · simp only [spec_l16Ask.l0, w2, Option.bind_some, List.length_singleton, show rd_T55 [⟨s, a, b, c⟩] 0 = ⟨s, a, b, c⟩ from rfl]; (repeat (first | rw [if_pos (by omega)] | rw [if_neg (by omega)] | rw [if_pos (rfl : true = true)] | rw [if_neg Bool.false_ne_true] | rw [if_pos trivial])); rw [wsucc (by omega)]
      · simp only [impl_wears.l0, w1, Option.bind_some]; (repeat (first | rw [if_pos (by omega)] | rw [if_neg (by omega)] | rw [if_pos (rfl : true = true)] | rw [if_neg Bool.false_ne_true] | rw [if_pos trivial])); rw [wsucc (by omega)]
      · rcases Nat.eq_or_lt_of_le hj with rfl | hlt
        · rw [← hrd]; omega
        · exact h3 hm j hlt hj2
theorem ask_same (l : List S116) (hB : ∀ x ∈ l, x.f0.size ≤ 9223372036854775807) (hl : l.length ≤ 1048576) (s : ByteArray) (hs : s.size ≤ 9223372036854775807) (a b c : Int) :
    ∃ (ws : List Int) (code : Int), Ev (fun k => spec_l16Ask.f k [⟨s, a, b, c⟩] l) code ∧ Ev (fun k => impl_wears.f k s a b c l) (ws, code) ∧
      (code = 0 → ws = l.map wr ∧ okCut l ∧ ((1 ≤ a ∧ a ≤ 1000000) ∧ (0 ≤ b ∧ b ≤ 1000000) ∧ (1 ≤ c ∧ c ≤ 10000)) ∧ ∀ j, j < l.length → wr (l.getD j z116) ≤ a) ∧ (code ≠ 0 → ws = []) := by
  obtain ⟨r, h1, h2, h3⟩ := cuts_same l hB hl
  obtain ⟨q, b1, b2, b3⟩ := blade_same s a b c hs
  unfold spec_l16Ask.f impl_wears.f
  cases q with
  | false =>
    refine ⟨[], 1, Ev.bind b2 ?_, Ev.bind b1 ?_, by omega, fun _ => rfl⟩
    · simp only [Bool.false_eq_true, if_false]; exact Ev.some_eq fun k => by simp only [spec_l16Ask.j0]; rfl
    · simp only [Bool.false_eq_true, if_false]; exact Ev.some_eq fun k => by simp only [impl_wears.j0]; rfl
  | true =>
    cases r with
    | false =>
      refine ⟨[], 1, Ev.bind b2 (Ev.bind h2 ?_), Ev.bind b1 (Ev.bind h1 ?_), by omega, fun _ => rfl⟩
      · exact Ev.some_eq fun k => by simp only [spec_l16Ask.j0]; rfl
      · exact Ev.some_eq fun k => by simp only [impl_wears.j0]; rfl
    | true =>
      obtain ⟨m, e1, e2, e3⟩ := wears_loop l (h3 rfl) s a b c
      cases m with
      | true =>
        refine ⟨[], 6, Ev.bind b2 (Ev.bind h2 ?_), Ev.bind b1 (Ev.bind h1 ?_), by omega, fun _ => rfl⟩
        · exact Ev.step (fun k => by simp only [spec_l16Ask.j0]; rfl) e1
        · exact Ev.step (fun k => by simp only [impl_wears.j0]; rfl) e2
      | false =>
        refine ⟨l.map wr, 0, Ev.bind b2 (Ev.bind h2 ?_), Ev.bind b1 (Ev.bind h1 ?_), fun _ => ⟨rfl, h3 rfl, b3 rfl, e3 rfl⟩, fun h => absurd rfl h⟩
        · exact Ev.step (fun k => by simp only [spec_l16Ask.j0]; rfl) e1
        · exact Ev.step (fun k => by simp only [impl_wears.j0]; rfl) e2

theorem bupdiv_eq (a b : Int) (hb : 1 ≤ b) : impl_upDiv.f a b = some (wrap64 (Int.tdiv (wrap64 ((wrap64 (a + b)) - 1)) b)) := by
  unfold impl_upDiv.f
  rw [if_neg (by omega)]
theorem sum_loop (l : List S116) (hok : okCut l) (a : Int) (ha : 1 ≤ a) :
    ∃ s, Ev (fun k => impl_sumOf.f k (l.map wr)) s ∧ Ev (fun k => spec_l16Bound.f k a l) (wrap64 (Int.tdiv (wrap64 ((wrap64 (s + a)) - 1)) a)) := by
  have hl := hok.1
  unfold impl_sumOf.f spec_l16Bound.f
  rw [List.length_map]
  have h := down (n := l.length) (Q := fun i => ∀ acc : Int, 0 ≤ acc → acc ≤ i * 2500000 → ∃ s, Ev (fun k => impl_sumOf.l0 k acc (l.map wr) (l.length : Int) (i : Int)) s ∧ Ev (fun k => spec_l16Bound.l0 k a l acc (i : Int)) (wrap64 (Int.tdiv (wrap64 ((wrap64 (s + a)) - 1)) a))) ?_ ?_
  · exact h 0 (by omega) (by omega)
  · intro acc h0 h1
    refine ⟨acc, Ev.some_eq fun k => ?_, Ev.some_eq fun k => ?_⟩
    · simp only [impl_sumOf.l0]; (repeat (first | rw [if_pos (by omega)] | rw [if_neg (by omega)] | rw [if_pos (rfl : true = true)] | rw [if_neg Bool.false_ne_true] | rw [if_pos trivial]))
    · simp only [spec_l16Bound.l0]; (repeat (first | rw [if_pos (by omega)] | rw [if_neg (by omega)] | rw [if_pos (rfl : true = true)] | rw [if_neg Bool.false_ne_true] | rw [if_pos trivial]))
  · intro i hi ih acc h0 h1
    have hm := hok.2 _ (getD_mem z116 hi)
    have hrd : rd_T116 l (i : Int) = l.getD i z116 := by unfold rd_T116; simp
    rw [← hrd] at hm
    have hr2 : rd (l.map wr) (i : Int) = wr (rd_T116 l (i : Int)) := by
      rw [hrd]; show (l.map wr).getD (i : Int).toNat 0 = _; rw [Int.toNat_natCast]; exact getD_map wr _ _ hi
    obtain ⟨w1, w2, w3, w4⟩ := wr_eq _ hm
    have hw : wrap64 (acc + wr (rd_T116 l (i : Int))) = acc + wr (rd_T116 l (i : Int)) := w64 (by omega) (by omega)
    obtain ⟨s, h1, h2⟩ := ih (acc + wr (rd_T116 l (i : Int))) (by omega) (by omega)
    refine ⟨s, Ev.step (fun k => ?_) h1, Ev.step (fun k => ?_) h2⟩
    · simp only [impl_sumOf.l0, List.length_map]; (repeat (first | rw [if_pos (by omega)] | rw [if_neg (by omega)] | rw [if_pos (rfl : true = true)] | rw [if_neg Bool.false_ne_true] | rw [if_pos trivial])); rw [hr2, hw, wsucc (by omega)]
    · simp only [spec_l16Bound.l0, w2, Option.bind_some]; (repeat (first | rw [if_pos (by omega)] | rw [if_neg (by omega)] | rw [if_pos (rfl : true = true)] | rw [if_neg Bool.false_ne_true] | rw [if_pos trivial])); rw [hw, wsucc (by omega)]
theorem bound_same (l : List S116) (hB : ∀ x ∈ l, x.f0.size ≤ 9223372036854775807) (hl : l.length ≤ 1048576) (s : ByteArray) (hs : s.size ≤ 9223372036854775807) (a b c : Int) :
    ∃ v code, Ev (fun k => spec_l16Ask.f k [⟨s, a, b, c⟩] l) code ∧ (code = 0 → Ev (fun k => spec_l16Bound.f k a l) v) ∧ Ev (fun k => impl_BladesBound.f k s a b c l) (v, code) := by
  obtain ⟨ws, code, h1, h2, h3, _⟩ := ask_same l hB hl s hs a b c
  unfold impl_BladesBound.f
  by_cases hc : code = 0
  · obtain ⟨rfl, hok, hbl, _⟩ := h3 hc
    obtain ⟨t, e1, e2⟩ := sum_loop l hok a hbl.1.1
    refine ⟨wrap64 (Int.tdiv (wrap64 ((wrap64 (t + a)) - 1)) a), 0, by rw [hc] at h1; exact h1, fun _ => e2, Ev.bind h2 ?_⟩
    simp only [if_pos hc]; refine Ev.bind e1 ?_
    simp only [bupdiv_eq t a hbl.1.1, Option.bind_some]; exact Ev.now _
  · refine ⟨0, code, h1, fun h => absurd h hc, Ev.bind h2 ?_⟩
    simp only [if_neg hc]; exact Ev.now _

/-- Are all blades good? Both sides agree. -/
theorem blades_same (l : List S55) (hB : ∀ x ∈ l, x.f0.size ≤ 9223372036854775807) (hl : l.length ≤ 1048576) (x1 : List S116) :
    (Ev (fun k => slices_ContainsFunc_impl_Blade__impl_CheapestBlade_1.f k l) true ∧ Ev (fun k => spec_CheapestBlade.l0 k l x1 0) (0, 0, 1)) ∨
    (Ev (fun k => slices_ContainsFunc_impl_Blade__impl_CheapestBlade_1.f k l) false ∧ ∀ R, Ev (fun k => spec_CheapestBlade.l0 k l x1 (l.length : Int)) R → Ev (fun k => spec_CheapestBlade.l0 k l x1 0) R) := by
  have h := down (n := l.length) (Q := fun i => (∃ r : Int, r ≥ 0 ∧ Ev (fun k => slices_IndexFunc_impl_Blade__impl_CheapestBlade_1.l0 k l (l.length : Int) (i : Int)) r ∧ Ev (fun k => spec_CheapestBlade.l0 k l x1 (i : Int)) (0, 0, 1)) ∨
    (Ev (fun k => slices_IndexFunc_impl_Blade__impl_CheapestBlade_1.l0 k l (l.length : Int) (i : Int)) (-1) ∧ ∀ R, Ev (fun k => spec_CheapestBlade.l0 k l x1 (l.length : Int)) R → Ev (fun k => spec_CheapestBlade.l0 k l x1 (i : Int)) R)) ?_ ?_
  · rcases h with ⟨r, hr, e1, e2⟩ | ⟨e1, e2⟩
    · refine .inl ⟨?_, e2⟩
      unfold slices_ContainsFunc_impl_Blade__impl_CheapestBlade_1.f slices_IndexFunc_impl_Blade__impl_CheapestBlade_1.f
      refine Ev.bind e1 ?_
      rw [decide_eq_true hr]; exact Ev.now _
    · refine .inr ⟨?_, e2⟩
      unfold slices_ContainsFunc_impl_Blade__impl_CheapestBlade_1.f slices_IndexFunc_impl_Blade__impl_CheapestBlade_1.f
      exact Ev.bind e1 (Ev.now _)
  · refine .inr ⟨Ev.some_eq fun k => ?_, fun R hR => hR⟩
    simp only [slices_IndexFunc_impl_Blade__impl_CheapestBlade_1.l0]; rw [if_neg (by omega)]
  · intro i hi ih
    have hm := getD_mem z55 hi
    have hrd : rd_T55 l (i : Int) = l.getD i z55 := by unfold rd_T55; simp
    obtain ⟨t, e1, e2, _⟩ := blade_same (l.getD i z55).f0 (l.getD i z55).f1 (l.getD i z55).f2 (l.getD i z55).f3 (hB _ hm)
    have e1' : Ev (fun k => impl_CheapestBlade_1.f k (l.getD i z55).f0 (l.getD i z55).f1 (l.getD i z55).f2 (l.getD i z55).f3) (!t) := Ev.bind e1 (Ev.now _)
    have e2' : Ev (fun k => spec_l16Ok.f k [l.getD i z55]) t := e2
    cases t with
    | false =>
      refine .inl ⟨i, by omega, Ev.step1 e1' (Ev.now _) (fun k hk => ?_), Ev.step1 e2' (Ev.now _) (fun k hk => ?_)⟩
      · simp only [slices_IndexFunc_impl_Blade__impl_CheapestBlade_1.l0, hrd, hk, Option.bind_some]; rw [if_pos (by omega), if_pos (by omega), if_pos (by omega)]; rfl
      · simp only [spec_CheapestBlade.l0, hrd, hk, Option.bind_some]; rw [if_pos (by omega), if_pos (by omega)]; rfl
    | true =>
      have s1 : ∀ r, Ev (fun k => slices_IndexFunc_impl_Blade__impl_CheapestBlade_1.l0 k l (l.length : Int) ((i + 1 : Nat) : Int)) r → Ev (fun k => slices_IndexFunc_impl_Blade__impl_CheapestBlade_1.l0 k l (l.length : Int) (i : Int)) r := fun r hr => by
        refine Ev.step1 e1' hr (fun k hk => ?_)
        simp only [slices_IndexFunc_impl_Blade__impl_CheapestBlade_1.l0, hrd, hk, Option.bind_some]; rw [if_pos (by omega), if_pos (by omega), if_pos (by omega), wsucc (by omega)]; rfl
      have s2 : ∀ R, Ev (fun k => spec_CheapestBlade.l0 k l x1 ((i + 1 : Nat) : Int)) R → Ev (fun k => spec_CheapestBlade.l0 k l x1 (i : Int)) R := fun R hR => by
        refine Ev.step1 e2' hR (fun k hk => ?_)
        simp only [spec_CheapestBlade.l0, hrd, hk, Option.bind_some]; rw [if_pos (by omega), if_pos (by omega), wsucc (by omega)]; rfl
      rcases ih with ⟨r, hr, q1, q2⟩ | ⟨q1, q2⟩
      · exact .inl ⟨r, hr, s1 r q1, s2 _ q2⟩
      · exact .inr ⟨s1 _ q1, fun R hR => s2 R (q2 R hR)⟩
theorem cheap_loop (l : List S55) (hB : ∀ x ∈ l, x.f0.size ≤ 9223372036854775807) (hl : l.length ≤ 1048576) (x1 : List S116) (hB1 : ∀ x ∈ x1, x.f0.size ≤ 9223372036854775807) (hl1 : x1.length ≤ 1048576) :
    ∃ R, Ev (fun k => spec_CheapestBlade.l1 k l x1 (-1) 0 0) R ∧ Ev (fun k => impl_CheapestBlade.l0 k x1 (-1) 0 l (l.length : Int) 0) R := by
  have h := down (n := l.length) (Q := fun i => ∀ best price : Int, ∃ R, Ev (fun k => spec_CheapestBlade.l1 k l x1 best price (i : Int)) R ∧ Ev (fun k => impl_CheapestBlade.l0 k x1 best price l (l.length : Int) (i : Int)) R) ?_ ?_
  · exact h (-1) 0
  · intro best price
    refine ⟨if best < 0 then (0, 0, 3) else (best, price, 0), Ev.some_eq fun k => ?_, Ev.some_eq fun k => ?_⟩
    · simp only [spec_CheapestBlade.l1]; rw [if_neg (by omega)]; split <;> rfl
    · simp only [impl_CheapestBlade.l0]; rw [if_neg (by omega)]; split <;> rfl
  · intro i hi ih best price
    have hm := getD_mem z55 hi
    have hrd : rd_T55 l (i : Int) = l.getD i z55 := by unfold rd_T55; simp
    obtain ⟨v, code, e1, e2, e3⟩ := bound_same x1 hB1 hl1 (l.getD i z55).f0 (hB _ hm) (l.getD i z55).f1 (l.getD i z55).f2 (l.getD i z55).f3
    have e1' : Ev (fun k => spec_l16Ask.f k [l.getD i z55] x1) code := e1
    by_cases hc : code = 0
    · have e2' := e2 hc
      by_cases hb : best < 0 ∨ wrap64 (v * (l.getD i z55).f2) < price
      · obtain ⟨R, r1, r2⟩ := ih i (wrap64 (v * (l.getD i z55).f2))
        refine ⟨R, Ev.step2 e1' e2' r1 (fun k hk hk2 => ?_), Ev.step1 e3 r2 (fun k hk => ?_)⟩
        · simp only [spec_CheapestBlade.l1, hrd, hk, hk2, Option.bind_some]; rw [if_pos (by omega), if_pos (by omega), if_pos hc, wsucc (by omega)]
          by_cases h1 : best < 0
          · rw [if_pos h1]
          · rw [if_neg h1, if_pos (hb.resolve_left h1)]
        · simp only [impl_CheapestBlade.l0, hrd, hk, Option.bind_some]; rw [if_pos (by omega), if_pos (by omega), if_pos (by omega), if_pos hc, wsucc (by omega)]
          by_cases h1 : best < 0
          · rw [if_pos h1]
          · rw [if_neg h1, if_pos (hb.resolve_left h1)]
      · obtain ⟨R, r1, r2⟩ := ih best price
        refine ⟨R, Ev.step2 e1' e2' r1 (fun k hk hk2 => ?_), Ev.step1 e3 r2 (fun k hk => ?_)⟩
        · simp only [spec_CheapestBlade.l1, hrd, hk, hk2, Option.bind_some]; rw [if_pos (by omega), if_pos (by omega), if_pos hc, if_neg (fun h => hb (.inl h)), if_neg (fun h => hb (.inr h)), wsucc (by omega)]
        · simp only [impl_CheapestBlade.l0, hrd, hk, Option.bind_some]; rw [if_pos (by omega), if_pos (by omega), if_pos (by omega), if_pos hc, if_neg (fun h => hb (.inl h)), if_neg (fun h => hb (.inr h)), wsucc (by omega)]
    · obtain ⟨R, r1, r2⟩ := ih best price
      refine ⟨R, Ev.step1 e1' r1 (fun k hk => ?_), Ev.step1 e3 r2 (fun k hk => ?_)⟩
      · simp only [spec_CheapestBlade.l1, hrd, hk, Option.bind_some]; rw [if_pos (by omega), if_pos (by omega), if_neg hc, wsucc (by omega)]
      · simp only [impl_CheapestBlade.l0, hrd, hk, Option.bind_some]; rw [if_pos (by omega), if_pos (by omega), if_pos (by omega), if_neg hc, wsucc (by omega)]
theorem cheap_same (l : List S55) (hB : ∀ x ∈ l, x.f0.size ≤ 9223372036854775807) (hl : l.length ≤ 1048576) (x1 : List S116) (hB1 : ∀ x ∈ x1, x.f0.size ≤ 9223372036854775807) (hl1 : x1.length ≤ 1048576) :
    ∃ a b c : Int, Ev (fun k => spec_CheapestBlade.f k l x1) (a, b, c) ∧ Ev (fun k => impl_CheapestBlade.f k l x1) (a, b, c) := by
  obtain ⟨r, h1, h2, _⟩ := cuts_same x1 hB1 hl1
  have i1 : Ev (fun k => impl_CheapestBlade.j0 k l x1 true) (0, 0, 1) := Ev.some_eq fun k => by simp only [impl_CheapestBlade.j0]; rfl
  unfold spec_CheapestBlade.f impl_CheapestBlade.f
  rcases blades_same l hB hl x1 with ⟨c1, c2⟩ | ⟨c1, c2⟩
  · refine ⟨0, 0, 1, c2, Ev.bind h1 ?_⟩
    cases r with
    | false => simp only [Bool.false_eq_true, if_false]; exact i1
    | true => simp only [if_true]; exact Ev.bind c1 i1
  · cases r with
    | false =>
      refine ⟨0, 0, 1, c2 _ (Ev.step1 h2 (Ev.now _) (fun k hk => ?_)), Ev.bind h1 ?_⟩
      · simp only [spec_CheapestBlade.l0, hk, Option.bind_some]; rw [if_neg (by omega)]; rfl
      · simp only [Bool.false_eq_true, if_false]; exact i1
    | true =>
      have sj : ∀ (q : Bool) (R : Int × Int × Int), Ev (fun k => spec_CheapestBlade.j1 k l x1 q) R → q = decide (¬ (1 ≤ (l.length : Int) ∧ (l.length : Int) ≤ 8)) → Ev (fun k => spec_CheapestBlade.l0 k l x1 0) R := fun q R hR hq => by
        refine c2 _ (Ev.step1 h2 hR (fun k hk => ?_))
        simp only [spec_CheapestBlade.l0, hk, Option.bind_some, if_true]; rw [if_neg (by omega), hq]
        by_cases hlt : (l.length : Int) < 1
        · rw [if_pos hlt, decide_eq_true (by omega)]
        · rw [if_neg hlt]
          by_cases hgt : (l.length : Int) > 8
          · rw [decide_eq_true hgt, decide_eq_true (by omega)]
          · rw [decide_eq_false hgt, decide_eq_false (by omega)]
      by_cases hb : 1 ≤ (l.length : Int) ∧ (l.length : Int) ≤ 8
      · obtain ⟨⟨a, b, c⟩, r1, r2⟩ := cheap_loop l hB hl x1 hB1 hl1
        refine ⟨a, b, c, sj false _ (Ev.step (fun k => by simp only [spec_CheapestBlade.j1]; rfl) r1) (by rw [decide_eq_false (fun h => h hb)]), Ev.bind h1 ?_⟩
        simp only [if_true]
        refine Ev.bind c1 (Ev.step (fun k => ?_) r2)
        simp only [impl_CheapestBlade.j0, within_eq, Option.bind_some]; rw [if_neg Bool.false_ne_true, if_pos (decide_eq_true hb)]
      · refine ⟨0, 0, 2, sj true _ (Ev.some_eq fun k => by simp only [spec_CheapestBlade.j1]; rfl) (by rw [decide_eq_true hb]), Ev.bind h1 ?_⟩
        simp only [if_true]
        refine Ev.bind c1 (Ev.some_eq fun k => ?_)
        simp only [impl_CheapestBlade.j0, within_eq, Option.bind_some]; rw [if_neg Bool.false_ne_true, if_neg (by simpa using hb)]
theorem FnExactCheapestBlade : laws_FnExactCheapestBlade.Pure := by
  intro l x1 hBb hBl
  obtain ⟨hB1, hB2⟩ := cuts_B x1 hBl.2
  obtain ⟨hC1, hC2⟩ := bl_B l hBb.2
  suffices h : Ev (fun k => laws_FnExactCheapestBlade.f k l x1) true from h.rounds
  unfold laws_FnExactCheapestBlade.f
  obtain ⟨n, hn, hn1, hn2⟩ := szBlS_le l hC1 hBb.1 1048576 (by omega) (by omega)
  refine Ev.bind hn (Ev.cond (fun _ => Ev.now _) (fun h0 => ?_))
  obtain ⟨z, hz, hz2, _⟩ := szCut_le x1 hB1 hBl.1 n (by omega) (by omega)
  refine Ev.bind hz (Ev.cond (fun _ => Ev.now _) (fun h1 => ?_))
  have hl : l.length ≤ 1048576 := by have := hn1 (by omega); omega
  have hl1 : x1.length ≤ 1048576 := by have := hz2 (by omega); omega
  have ht := toCut_eq x1 hl1
  have hb := toBlS_eq l hl
  obtain ⟨a, b, c, e1, e2⟩ := cheap_same (l.map cvBlade) hC2 (by simpa using hl) (x1.map cvCut) hB2 (by simpa using hl1)
  refine Ev.bind hb (Ev.bind ht (Ev.bind e1 (Ev.bind hb (Ev.bind ht (Ev.bind e2 ?_)))))
  simp only [if_true, bne_self_eq_false]
  refine Ev.step (fun k => by simp only [laws_FnExactCheapestBlade.j0]; rfl) ?_
  refine Ev.bind hb (Ev.bind (eqBlS_same _ (by simpa using hl)) ?_)
  simp only [if_true]
  exact Ev.bind ht (Ev.bind (eqCut_same _ (by simpa using hl1)) (Ev.now _))

end Go.Proofs.Ytpkjalhfioajjaa.Pure

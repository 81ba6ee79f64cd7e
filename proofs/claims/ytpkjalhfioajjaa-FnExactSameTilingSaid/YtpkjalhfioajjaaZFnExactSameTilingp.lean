/- For every two tilings the printed law FnExactSameTiling answers true: the program's SameTiling and the reference's agree, and the arguments stay as they were. -/
import Derived.Test.YtpkjalhfioajjaaZFnExactSameTiling12
namespace Go.Proofs.Ytpkjalhfioajjaa.Pure
open Go.RowKit Go.Proofs.Ytpkjalhfioajjaa.PFnExactSameTiling Go.Proofs.YtpkjalhfioajjaaW.PrintWords Go.Proofs.YtpkjalhfioajjaaW.PrintLast
set_option linter.unusedVariables false
set_option linter.unusedSimpArgs false
set_option linter.unnecessarySimpa false
theorem w64 {x : Int} (h0 : -9223372036854775808 ≤ x) (h1 : x ≤ 9223372036854775807) : wrap64 x = x := by unfold wrap64; omega
theorem wf64 {x : Int} (h : (Lit.int .i64 x).wf = true) : -9223372036854775808 ≤ x ∧ x ≤ 9223372036854775807 := by
  simp only [Lit.wf, IntKind.has, Bool.and_eq_true, decide_eq_true_eq] at h
  exact h
theorem maxLen_eq : maxLen = 9223372036854775807 := rfl
theorem Ev.cond {α : Type} {c : Prop} [Decidable c] {g f : Nat → Option α} {r : α} (h : c → Ev g r) (h' : ¬ c → Ev f r) : Ev (fun k => if c then g k else f k) r := by
  by_cases hc : c
  · simp only [if_pos hc]; exact h hc
  · simp only [if_neg hc]; exact h' hc
theorem down {n : Nat} {Q : Nat → Prop} (he : Q n) (hs : ∀ i, i < n → Q (i + 1) → Q i) : Q 0 := by
  have h : ∀ d i, i + d = n → Q i := by
    intro d
    induction d with
    | zero => intro i hi; have : i = n := by omega
              subst this; exact he
    | succ d ih => intro i hi; exact hs i (by omega) (ih (i + 1) (by omega))
  exact h n 0 (by omega)
theorem wsucc {i : Nat} (h : i < 9223372036854775807) : wrap64 ((i : Int) + 1) = ((i + 1 : Nat) : Int) := by rw [w64 (by omega) (by omega)]; omega
theorem getD_mem {α : Type} {xs : List α} {i : Nat} (z : α) (h : i < xs.length) : xs.getD i z ∈ xs := by
  rw [List.getD_eq_getElem?_getD, List.getElem?_eq_getElem h]; exact List.getElem_mem h
theorem getD_map {α β : Type} {xs : List α} {i : Nat} (c : α → β) (z : α) (z' : β) (h : i < xs.length) : (xs.map c).getD i z' = c (xs.getD i z) := by
  rw [List.getD_eq_getElem?_getD, List.getD_eq_getElem?_getD, List.getElem?_eq_getElem h, List.getElem?_eq_getElem (by simpa using h)]; simp
theorem Ev.some_eq {α : Type} {g : Nat → Option α} {r : α} (h : ∀ k, g (k + 1) = some r) : Ev g r := Ev.step (f := fun _ => some r) h (Ev.now r)
theorem ev_fill {α β : Type} (xs : List α) (z : α) (c : α → β) (L : Nat → List β → Int → Option (List β))
    (he : ∀ ys : List β, ys.length = xs.length → Ev (fun k => L k ys (xs.length : Int)) ys)
    (hs : ∀ (ys r : List β) (i : Nat), i < xs.length → ys.length = xs.length → Ev (fun k => L k (ys.set i (c (xs.getD i z))) ((i + 1 : Nat) : Int)) r → Ev (fun k => L k ys (i : Int)) r) :
    ∀ ys : List β, ys.length = xs.length → Ev (fun k => L k ys 0) (xs.map c) := by
  have h : ∀ d (i : Nat) (ys : List β), i + d = xs.length → ys.length = xs.length → Ev (fun k => L k ys (i : Int)) (ys.take i ++ (xs.drop i).map c) := by
    intro d
    induction d with
    | zero =>
      intro i ys hi hy
      have e : i = xs.length := by omega
      subst e
      rw [List.drop_of_length_le (Nat.le_refl _), List.map_nil, List.append_nil, List.take_of_length_le (by omega)]
      exact he ys hy
    | succ d ih =>
      intro i ys hi hy
      have hlt : i < xs.length := by omega
      refine hs ys _ i hlt hy ?_
      have h2 := ih (i + 1) (ys.set i (c (xs.getD i z))) (by omega) (by rw [List.length_set]; exact hy)
      have e2 : (ys.set i (c (xs.getD i z))).take (i + 1) = ys.take i ++ [c (xs.getD i z)] := by
        rw [List.take_succ_eq_append_getElem (by rw [List.length_set]; omega), List.getElem_set_self, List.take_set_of_le (by omega)]
      have e3 : xs.drop i = xs.getD i z :: xs.drop (i + 1) := by
        rw [List.drop_eq_getElem_cons hlt, List.getD_eq_getElem?_getD, List.getElem?_eq_getElem hlt]; rfl
      rw [e2] at h2
      rw [e3, List.map_cons]
      simpa using h2
  intro ys hy
  have := h xs.length 0 ys (by omega) hy
  simpa using this
theorem Ev.step1 {α β : Type} {g f : Nat → Option α} {u : Nat → Option β} {b : β} {r : α} (e : Ev u b) (k : Ev f r) (h : ∀ k, u k = some b → g (k + 1) = f k) : Ev g r := by
  obtain ⟨K, e⟩ := e
  obtain ⟨K', k⟩ := k
  refine ⟨max K K' + 1, fun n hn => ?_⟩
  obtain ⟨m, rfl⟩ : ∃ m, n = m + 1 := ⟨n - 1, by omega⟩
  rw [h m (e m (by omega))]
  exact k m (by omega)
theorem Ev.step2 {α β γ : Type} {g f : Nat → Option α} {u : Nat → Option β} {v : Nat → Option γ} {b : β} {c : γ} {r : α} (e : Ev u b) (e' : Ev v c) (k : Ev f r) (h : ∀ k, u k = some b → v k = some c → g (k + 1) = f k) : Ev g r := by
  obtain ⟨K, e⟩ := e
  obtain ⟨K2, e'⟩ := e'
  obtain ⟨K', k⟩ := k
  refine ⟨max (max K K2) K' + 1, fun n hn => ?_⟩
  obtain ⟨m, rfl⟩ : ∃ m, n = m + 1 := ⟨n - 1, by omega⟩
  rw [h m (e m (by omega)) (e' m (by omega))]
  exact k m (by omega)
theorem in_eq (n lo hi : Int) : spec_l00In.f n lo hi = some (decide (lo ≤ n ∧ n ≤ hi)) := by
  unfold spec_l00In.f
  by_cases h : n ≥ lo
  · rw [if_pos h]; simp [show lo ≤ n from h]
  · rw [if_neg h]; simp; omega
theorem within_eq (n lo hi : Int) : impl_within.f n lo hi = some (decide (lo ≤ n ∧ n ≤ hi)) := by
  unfold impl_within.f
  by_cases h : n ≥ lo
  · rw [if_pos h]; simp [show lo ≤ n from h]
  · rw [if_neg h]; simp; omega
theorem eqS_tail (xs : List Int) (hl : xs.length ≤ 9223372036854775807) (d : Nat) : ∀ (i : Int), 0 ≤ i → (xs.length : Int) - i = d → Ev (fun k => laws_eqInt64S.l0 k xs xs i) true := by
  induction d with
  | zero =>
    intro i h0 hd
    refine Ev.step (f := fun _ => some true) (fun k => ?_) (Ev.now _)
    simp only [laws_eqInt64S.l0]; rw [if_neg (by omega)]
  | succ d ih =>
    intro i h0 hd
    refine Ev.step (f := fun k => laws_eqInt64S.l0 k xs xs (i + 1)) (fun k => ?_) (ih (i + 1) (by omega) (by omega))
    simp only [laws_eqInt64S.l0]; rw [if_pos (by omega), if_pos h0, if_pos (by omega), if_pos trivial, w64 (by omega) (by omega)]
theorem eqS_same (xs : List Int) (hl : xs.length ≤ 9223372036854775807) : Ev (fun k => laws_eqInt64S.f k xs xs) true := by
  unfold laws_eqInt64S.f
  simp only [if_true]
  exact eqS_tail xs hl xs.length 0 (by omega) (by omega)
theorem rd_nat (xs : List Int) (i : Nat) : rd xs (i : Int) = xs.getD i 0 := by show xs.getD (i : Int).toNat 0 = _; rw [Int.toNat_natCast]
theorem toS_eq (l : List Int) (hl : l.length ≤ 1048576) : Ev (fun k => laws_toInt64S.f k l) l := by
  unfold laws_toInt64S.f
  simp only [if_pos (show (0 : Int) ≤ (l.length : Int) by omega), if_pos (show ((l.length : Int) : Int).toNat ≤ 35184372088832 by omega)]
  have h := ev_fill l 0 id (fun k ys i => laws_toInt64S.l0 k l ys i) ?_ ?_ (List.replicate ((l.length : Int)).toNat 0) (by simp)
  · simpa using h
  · intro ys hy
    exact Ev.some_eq fun k => by simp only [laws_toInt64S.l0]; rw [if_neg (by omega)]
  · intro ys r i hi hy h
    refine Ev.step (fun k => ?_) h
    simp only [laws_toInt64S.l0, rd_nat]; (repeat (first | rw [if_pos (by omega)] | rw [if_neg (by omega)] | rw [if_pos (rfl : true = true)] | rw [if_neg Bool.false_ne_true] | rw [if_pos trivial])); rw [wsucc (by omega)]; rfl
theorem drop_cons {α : Type} (xs : List α) (z : α) {i : Nat} (h : i < xs.length) : xs.drop i = xs.getD i z :: xs.drop (i + 1) := by
  rw [List.drop_eq_getElem_cons h, List.getD_eq_getElem?_getD, List.getElem?_eq_getElem h]; rfl
theorem has_eq (xs : List Int) (v : Int) (hl : xs.length ≤ 1048576) : Ev (fun k => spec_l00Has.f k xs v) (decide (v ∈ xs)) := by
  unfold spec_l00Has.f
  have h := down (n := xs.length) (Q := fun i => Ev (fun k => spec_l00Has.l0 k xs v (i : Int)) (decide (v ∈ xs.drop i))) ?_ ?_
  · simpa using h
  · refine Ev.some_eq fun k => ?_
    simp only [spec_l00Has.l0]; rw [if_neg (by omega)]; simp
  · intro i hi ih
    by_cases hv : xs.getD i 0 = v
    · rw [drop_cons xs 0 hi, hv]
      refine Ev.some_eq fun k => ?_
      simp only [spec_l00Has.l0, rd_nat]; rw [if_pos (by omega), if_pos (by omega), if_pos hv]; simp
    · rw [drop_cons xs 0 hi, show decide (v ∈ xs.getD i 0 :: xs.drop (i + 1)) = decide (v ∈ xs.drop (i + 1)) from decide_eq_decide.2 ⟨fun h => (List.mem_cons.1 h).resolve_left (Ne.symm hv), List.mem_cons_of_mem _⟩]
      refine Ev.step (fun k => ?_) ih
      simp only [spec_l00Has.l0, rd_nat]; rw [if_pos (by omega), if_pos (by omega), if_neg hv, wsucc (by omega)]
theorem nodup_le {α : Type} [DecidableEq α] : ∀ (A B : List α), A.Nodup → (∀ x ∈ A, x ∈ B) → A.length ≤ B.length
  | [], B, _, _ => Nat.zero_le _
  | a :: t, B, hn, hs => by
    have ha := hs a (by simp)
    have hn' := List.nodup_cons.1 hn
    have h1 := nodup_le t (B.erase a) hn'.2 (fun x hx => (List.mem_erase_of_ne (fun e : x = a => hn'.1 (by rw [← e]; exact hx))).2 (hs x (List.mem_cons_of_mem _ hx)))
    have h2 := List.length_erase_of_mem ha
    have h3 : 0 < B.length := List.length_pos_of_mem ha
    rw [List.length_cons]; omega
theorem nodup_bound (Q : List Int) (N : Nat) (hn : Q.Nodup) (h : ∀ c ∈ Q, 0 ≤ c ∧ c < (N : Int)) : Q.length ≤ N := by
  have := nodup_le Q ((List.range N).map (fun n : Nat => (n : Int))) hn (fun c hc => by
    obtain ⟨h0, h1⟩ := h c hc
    exact List.mem_map.2 ⟨c.toNat, List.mem_range.2 (by omega), by omega⟩)
  simpa using this
def inT (w h : Int) : Prop := (1 ≤ w ∧ w ≤ 12) ∧ (1 ≤ h ∧ h ≤ 12)
def md (a b : Int) : Int := Int.tmod (Int.tmod a b + b) b
theorem tmod_range (a b : Int) (hb : 0 < b) : -b < Int.tmod a b ∧ Int.tmod a b < b := by
  refine ⟨?_, Int.tmod_lt_of_pos a hb⟩
  rcases Int.lt_or_le a 0 with h | h
  · have h1 := Int.tmod_lt_of_pos (-a) hb
    rw [Int.neg_tmod] at h1; omega
  · have := Int.tmod_nonneg b h; omega
theorem md_range (a b : Int) (hb : 0 < b) : 0 ≤ md a b ∧ md a b < b := by
  have h := tmod_range a b hb
  exact ⟨Int.tmod_nonneg b (by omega), Int.tmod_lt_of_pos _ hb⟩
def ix (w h x y : Int) : Int := md y h * w + md x w
theorem ix_range (w h x y : Int) (ht : inT w h) : 0 ≤ ix w h x y ∧ ix w h x y < w * h := by
  obtain ⟨⟨w1, w2⟩, h1, h2⟩ := ht
  have a := md_range y h (by omega)
  have b := md_range x w (by omega)
  unfold ix
  have c := Int.mul_nonneg a.1 (by omega : (0 : Int) ≤ w)
  have d := Int.mul_le_mul_of_nonneg_right (show md y h ≤ h - 1 by omega) (by omega : (0 : Int) ≤ w)
  rw [Int.sub_mul, Int.one_mul, Int.mul_comm h w] at d
  omega
theorem wh_le (w h : Int) (ht : inT w h) : 1 ≤ w * h ∧ w * h ≤ 144 := by
  obtain ⟨⟨w1, w2⟩, h1, h2⟩ := ht
  have a := Int.mul_le_mul w2 h2 (by omega) (by omega : (0 : Int) ≤ 12)
  have b := Int.mul_le_mul w1 h1 (by omega) (by omega : (0 : Int) ≤ w)
  omega
theorem index_eq (w h : Int) (cs : List Int) (x y : Int) (ht : inT w h) : spec_l17Index.f [⟨w, h, cs⟩] x y = some (ix w h x y) := by
  have hr := ix_range w h x y ht
  have hw := wh_le w h ht
  obtain ⟨⟨w1, w2⟩, h1, h2⟩ := ht
  have a := tmod_range y h (by omega)
  have b := tmod_range x w (by omega)
  have c := md_range y h (by omega)
  have c2 := md_range x w (by omega)
  have d := Int.mul_nonneg c.1 (by omega : (0 : Int) ≤ w)
  unfold ix at hr ⊢
  unfold spec_l17Index.f
  simp only [show rd_T28 [⟨w, h, cs⟩] 0 = ⟨w, h, cs⟩ from rfl, List.length_singleton]
  rw [if_pos (by omega), if_neg (by omega), if_neg (by omega), w64 (x := Int.tmod y h + h) (by omega) (by omega), w64 (x := Int.tmod x w + w) (by omega) (by omega)]
  show some (wrap64 (wrap64 (md y h * w) + md x w)) = _
  rw [w64 (x := md y h * w) (by omega) (by omega), w64 (by omega) (by omega)]
theorem rest_eq (a b : Int) (hb : 1 ≤ b ∧ b ≤ 12) : impl_rest.f a b = some (md a b) := by
  have h := tmod_range a b (by omega)
  unfold impl_rest.f
  rw [if_neg (by omega), w64 (by omega) (by omega)]; rfl
theorem touch1_eq (w h : Int) (cs : List Int) (x y : Int) (ht : inT w h) : impl_touchingCells_1.f x y [⟨w, h, cs⟩] = some (ix w h x y) := by
  have hr := ix_range w h x y ht
  have hw := wh_le w h ht
  have c := md_range y h (by have := ht.2.1; omega)
  have c2 := md_range x w (by have := ht.1.1; omega)
  have d := Int.mul_nonneg c.1 (by have := ht.1.1; omega : (0 : Int) ≤ w)
  unfold ix at hr ⊢
  unfold impl_touchingCells_1.f
  simp only [show rd_T28 [⟨w, h, cs⟩] 0 = ⟨w, h, cs⟩ from rfl, List.length_singleton, rest_eq y h ht.2, rest_eq x w ht.1, Option.bind_some]
  rw [if_pos (by omega), w64 (x := md y h * w) (by omega) (by omega), w64 (by omega) (by omega)]
def n1 (w h i : Int) : Int := ix w h (i % w + 1) (i / w)
def n2 (w h i : Int) : Int := ix w h (i % w) (i / w + 1)
def n3 (w h i : Int) : Int := ix w h (i % w - 1) (i / w)
def n4 (w h i : Int) : Int := ix w h (i % w) (i / w - 1)
theorem around_eq (w h : Int) (cs : List Int) (i : Int) (ht : inT w h) (h0 : 0 ≤ i) (h1 : i < 144) : spec_l17Around.f [⟨w, h, cs⟩] i = some [n1 w h i, n2 w h i, n3 w h i, n4 w h i] := by
  have a0 := ht.1.1
  have a1 := ht.1.2
  have r1 := Int.emod_nonneg i (by omega : w ≠ 0)
  have r2 := Int.emod_lt_of_pos i (by omega : 0 < w)
  have d1 := Int.ediv_nonneg h0 (by omega : 0 ≤ w)
  have d2 := Int.ediv_le_self w h0
  unfold spec_l17Around.f
  simp only [show rd_T28 [⟨w, h, cs⟩] 0 = ⟨w, h, cs⟩ from rfl, List.length_singleton, index_eq w h cs _ _ ht, Option.bind_some]
  rw [if_pos (by omega), if_neg (by omega), Int.tmod_eq_emod_of_nonneg h0, Int.tdiv_eq_ediv_of_nonneg h0, w64 (x := i % w + 1) (by omega) (by omega), w64 (x := i / w) (by omega) (by omega), w64 (x := i / w + 1) (by omega) (by omega), w64 (x := i % w - 1) (by omega) (by omega), w64 (x := i / w - 1) (by omega) (by omega)]
  rfl
theorem touch_eq (w h : Int) (cs : List Int) (i : Int) (ht : inT w h) (h0 : 0 ≤ i) (h1 : i < 144) : impl_touchingCells.f w h cs i = some (n1 w h i, n3 w h i, n2 w h i, n4 w h i) := by
  have a0 := ht.1.1
  have a1 := ht.1.2
  have r1 := Int.emod_nonneg i (by omega : w ≠ 0)
  have r2 := Int.emod_lt_of_pos i (by omega : 0 < w)
  have d1 := Int.ediv_nonneg h0 (by omega : 0 ≤ w)
  have d2 := Int.ediv_le_self w h0
  unfold impl_touchingCells.f
  simp only [touch1_eq w h cs _ _ ht, Option.bind_some]
  rw [if_neg (by omega), Int.tmod_eq_emod_of_nonneg h0, Int.tdiv_eq_ediv_of_nonneg h0, w64 (x := i % w + 1) (by omega) (by omega), w64 (x := i / w) (by omega) (by omega), w64 (x := i / w + 1) (by omega) (by omega), w64 (x := i % w - 1) (by omega) (by omega), w64 (x := i / w - 1) (by omega) (by omega)]
  rfl
theorem nb_range (w h i n : Int) (ht : inT w h) (hn : n ∈ [n1 w h i, n2 w h i, n3 w h i, n4 w h i]) : 0 ≤ n ∧ n < w * h := by
  simp only [List.mem_cons, List.not_mem_nil, or_false] at hn
  rcases hn with rfl | rfl | rfl | rfl <;> exact ix_range w h _ _ ht
theorem nb_perm (a b c d n : Int) : n ∈ [a, c, b, d] ↔ n ∈ [a, b, c, d] := by
  simp only [List.mem_cons, List.not_mem_nil, or_false]
  constructor <;> (rintro (h | h | h | h) <;> simp [h])
def ins (cs : List Int) (k : Int) (Q : List Int) (n : Int) : List Int := if rd cs n = k ∧ n ∉ Q then Q ++ [n] else Q
theorem fold_ind {cs : List Int} {k : Int} (Pr : List Int → Prop) : ∀ (ns Q : List Int), (∀ Q n, n ∈ ns → Pr Q → Pr (ins cs k Q n)) → Pr Q → Pr (ns.foldl (ins cs k) Q)
  | [], _, _, h => h
  | n :: t, Q, hs, h => fold_ind Pr t (ins cs k Q n) (fun Q m hm => hs Q m (List.mem_cons_of_mem _ hm)) (hs Q n (by simp) h)
theorem ins_sub {cs : List Int} {k : Int} {Q : List Int} {n c : Int} (h : c ∈ Q) : c ∈ ins cs k Q n := by
  unfold ins; split
  · exact List.mem_append.2 (.inl h)
  · exact h
theorem fold_mem {cs : List Int} {k : Int} : ∀ (ns Q : List Int) (n : Int), n ∈ ns → rd cs n = k → n ∈ ns.foldl (ins cs k) Q
  | m :: t, Q, n, hn, hk => by
    rw [List.foldl_cons]
    rcases List.mem_cons.1 hn with rfl | ht
    · refine fold_ind (fun Q => n ∈ Q) t _ (fun Q m _ h => ins_sub h) ?_
      unfold ins
      by_cases hm : n ∈ Q
      · rw [if_neg (fun h => h.2 hm)]; exact hm
      · rw [if_pos ⟨hk, hm⟩]; simp
    · exact fold_mem t _ n ht hk
theorem fold_pre {cs : List Int} {k : Int} (ns Q : List Int) : ∃ t, ns.foldl (ins cs k) Q = Q ++ t ∧ t.length ≤ ns.length := by
  induction ns generalizing Q with
  | nil => exact ⟨[], by simp, Nat.le_refl _⟩
  | cons n ns ih =>
    obtain ⟨t, ht, hl⟩ := ih (ins cs k Q n)
    rw [List.foldl_cons, ht]
    unfold ins
    split
    · exact ⟨[n] ++ t, by rw [List.append_assoc], by simp; omega⟩
    · exact ⟨t, rfl, by simp; omega⟩
structure Met (cs : List Int) (k : Int) (nb : Int → List Int) (s : Int) (pos : Nat) (Q : List Int) : Prop where
  nodup : Q.Nodup
  good : ∀ c ∈ Q, (0 ≤ c ∧ c < (cs.length : Int)) ∧ rd cs c = k
  start : s ∈ Q
  least : ∀ P : Int → Prop, P s → (∀ c, P c → ∀ n ∈ nb c, rd cs n = k → P n) → ∀ c ∈ Q, P c
  done : ∀ j, j < pos → j < Q.length → ∀ n ∈ nb (Q.getD j 0), rd cs n = k → n ∈ Q
theorem Met.step {cs : List Int} {k : Int} {nb : Int → List Int} {s : Int} {pos : Nat} {Q : List Int} (m : Met cs k nb s pos Q) (hp : pos < Q.length) (ns : List Int) (hns : ∀ n, n ∈ ns ↔ n ∈ nb (Q.getD pos 0))
    (hr : ∀ n ∈ ns, 0 ≤ n ∧ n < (cs.length : Int)) : Met cs k nb s (pos + 1) (ns.foldl (ins cs k) Q) := by
  have hc : Q.getD pos 0 ∈ Q := getD_mem 0 hp
  refine ⟨?_, ?_, ?_, fun P hP hcl => ?_, fun j hj hjl n hn hk => ?_⟩
  · refine fold_ind (fun Q => Q.Nodup) ns Q (fun Q n _ h => ?_) m.nodup
    unfold ins; split
    · rename_i hh
      refine List.nodup_append.2 ⟨h, by simp, fun a ha b hb e => ?_⟩
      rw [List.mem_singleton] at hb; exact hh.2 (hb ▸ e ▸ ha)
    · exact h
  · refine fold_ind (fun Q => ∀ c ∈ Q, (0 ≤ c ∧ c < (cs.length : Int)) ∧ rd cs c = k) ns Q (fun Q n hn h c hc => ?_) m.good
    unfold ins at hc; split at hc
    · rename_i hh
      rcases List.mem_append.1 hc with h1 | h1
      · exact h c h1
      · rw [List.mem_singleton] at h1; subst h1; exact ⟨hr c hn, hh.1⟩
    · exact h c hc
  · exact fold_ind (fun Q => s ∈ Q) ns Q (fun Q n _ h => ins_sub h) m.start
  · refine fold_ind (fun Q => ∀ c ∈ Q, P c) ns Q (fun Q' n hn h c hc' => ?_) (m.least P hP hcl)
    unfold ins at hc'; split at hc'
    · rename_i hh
      rcases List.mem_append.1 hc' with h1 | h1
      · exact h c h1
      · rw [List.mem_singleton] at h1; subst h1; exact hcl _ (m.least P hP hcl _ hc) c ((hns c).1 hn) hh.1
    · exact h c hc'
  · obtain ⟨t, ht, _⟩ := fold_pre (cs := cs) (k := k) ns Q
    have hget : ∀ j, j < Q.length → (ns.foldl (ins cs k) Q).getD j 0 = Q.getD j 0 := fun j hj => by
      rw [ht, List.getD_eq_getElem?_getD, List.getElem?_append_left hj, ← List.getD_eq_getElem?_getD]
    rw [hget j (by omega)] at hn
    rcases Nat.lt_or_ge j pos with h1 | h1
    · exact fold_ind (fun Q => n ∈ Q) ns Q (fun Q m _ h => ins_sub h) (m.done j h1 (by omega) n hn hk)
    · obtain rfl : j = pos := by omega
      exact fold_mem ns Q n ((hns n).2 hn) hk
theorem Met.same {cs : List Int} {k : Int} {nb : Int → List Int} {s : Int} {Q Q' : List Int} (m : Met cs k nb s Q.length Q) (m' : Met cs k nb s Q'.length Q') : Q.length = Q'.length := by
  have h : ∀ {Q Q' : List Int}, Met cs k nb s Q.length Q → Met cs k nb s Q'.length Q' → Q.length ≤ Q'.length := fun {Q Q'} a b => by
    refine nodup_le Q Q' a.nodup (fun c hc => a.least (fun c => c ∈ Q') b.start (fun c hc n hn hk => ?_) c hc)
    obtain ⟨j, hj, rfl⟩ := List.getElem_of_mem hc
    exact b.done j hj hj n (by rwa [List.getD_eq_getElem?_getD, List.getElem?_eq_getElem hj]) hk
  exact Nat.le_antisymm (h m m') (h m' m)
theorem Met.len {cs : List Int} {k : Int} {nb : Int → List Int} {s : Int} {pos : Nat} {Q : List Int} (m : Met cs k nb s pos Q) : Q.length ≤ cs.length := nodup_bound Q cs.length m.nodup (fun c hc => (m.good c hc).1)
theorem Met.init {cs : List Int} {k : Int} {nb : Int → List Int} {s : Int} (h : 0 ≤ s ∧ s < (cs.length : Int)) (hk : rd cs s = k) : Met cs k nb s 0 [s] :=
  ⟨by simp, fun c hc => by rw [List.mem_singleton] at hc; subst hc; exact ⟨h, hk⟩, by simp, fun P hP _ c hc => by rw [List.mem_singleton] at hc; subst hc; exact hP, fun j hj => by omega⟩
theorem spec_l2 (t : S28) (k x6 : Int) (pos : Nat) (hpos : pos < 1000000) (ns : List Int) (hns : ∀ n ∈ ns, 0 ≤ n ∧ n < (t.f2.length : Int)) (hl : ns.length ≤ 4) (R : Bool) : ∀ d j (Q : List Int), j + d = ns.length → Q.length + d ≤ 1000000 →
    Ev (fun f => spec_l17Joined.l1 f [t] k x6 ((ns.drop j).foldl (ins t.f2 k) Q) ((pos + 1 : Nat) : Int)) R → Ev (fun f => spec_l17Joined.l2 f [t] k x6 Q (pos : Int) ns (j : Int)) R := by
  intro d
  induction d with
  | zero =>
    intro j Q hj hQ h
    have e : j = ns.length := by omega
    rw [e, List.drop_length] at h
    rw [e]
    refine Ev.step (fun f => ?_) h
    simp only [spec_l17Joined.l2]; rw [if_neg (by omega), wsucc (by omega)]; rfl
  | succ d ih =>
    intro j Q hj hQ h
    have hlt : j < ns.length := by omega
    have hn := hns _ (getD_mem 0 hlt)
    rw [drop_cons ns 0 hlt, List.foldl_cons] at h
    by_cases hk : rd t.f2 (ns.getD j 0) = k
    · have hh := has_eq Q (ns.getD j 0) (by omega)
      by_cases hm : ns.getD j 0 ∈ Q
      · rw [show ins t.f2 k Q (ns.getD j 0) = Q by unfold ins; rw [if_neg (fun h => h.2 hm)]] at h
        refine Ev.step1 hh (ih (j + 1) Q (by omega) (by omega) h) (fun f hf => ?_)
        simp only [spec_l17Joined.l2, rd_nat, hf, Option.bind_some, show rd_T28 [t] 0 = t from rfl, List.length_singleton, hk, hm, decide_true]; (repeat (first | rw [if_pos (by omega)] | rw [if_neg (by omega)] | rw [if_pos (rfl : true = true)] | rw [if_neg Bool.false_ne_true] | rw [if_pos trivial])); rw [wsucc (by omega)]
      · rw [show ins t.f2 k Q (ns.getD j 0) = Q ++ [ns.getD j 0] by unfold ins; rw [if_pos ⟨hk, hm⟩]] at h
        refine Ev.step1 hh (ih (j + 1) _ (by omega) (by simp; omega) h) (fun f hf => ?_)
        simp only [spec_l17Joined.l2, rd_nat, hf, Option.bind_some, show rd_T28 [t] 0 = t from rfl, List.length_singleton, hk, hm, decide_false]; (repeat (first | rw [if_pos (by omega)] | rw [if_neg (by omega)] | rw [if_pos (rfl : true = true)] | rw [if_neg Bool.false_ne_true] | rw [if_pos trivial])); rw [wsucc (by omega)]
    · rw [show ins t.f2 k Q (ns.getD j 0) = Q by unfold ins; rw [if_neg (fun h => hk h.1)]] at h
      refine Ev.step (fun f => ?_) (ih (j + 1) Q (by omega) (by omega) h)
      simp only [spec_l17Joined.l2, rd_nat, show rd_T28 [t] 0 = t from rfl, List.length_singleton]; rw [if_pos (by omega), if_pos (by omega), if_pos (by omega), if_pos hn.1, if_pos hn.2, if_neg hk, wsucc (by omega)]
theorem spec_l1 (w h : Int) (ht : inT w h) (cs : List Int) (hcs : (cs.length : Int) = w * h) (k x6 : Int) (s : Int) : ∀ d (pos : Nat) (Q : List Int), pos + d = cs.length → pos ≤ Q.length → Met cs k (fun i => [n1 w h i, n2 w h i, n3 w h i, n4 w h i]) s pos Q →
    ∃ Q', Met cs k (fun i => [n1 w h i, n2 w h i, n3 w h i, n4 w h i]) s Q'.length Q' ∧ Ev (fun f => spec_l17Joined.l1 f [⟨w, h, cs⟩] k x6 Q (pos : Int)) ((Q'.length : Int) == x6) := by
  have hb := wh_le w h ht
  have stop : ∀ (Q : List Int), Met cs k (fun i => [n1 w h i, n2 w h i, n3 w h i, n4 w h i]) s Q.length Q → Ev (fun f => spec_l17Joined.l1 f [⟨w, h, cs⟩] k x6 Q (Q.length : Int)) ((Q.length : Int) == x6) := fun Q _ =>
    Ev.some_eq fun f => by simp only [spec_l17Joined.l1]; rw [if_neg (by omega)]
  intro d
  induction d with
  | zero =>
    intro pos Q hp hpl m
    have := m.len
    obtain rfl : pos = Q.length := by omega
    exact ⟨Q, m, stop Q m⟩
  | succ d ih =>
    intro pos Q hp hpl m
    have hm := m.len
    rcases Nat.eq_or_lt_of_le hpl with rfl | hlt
    · exact ⟨Q, m, stop Q m⟩
    · have hc := (m.good _ (getD_mem 0 hlt)).1
      have m2 := m.step hlt [n1 w h (Q.getD pos 0), n2 w h (Q.getD pos 0), n3 w h (Q.getD pos 0), n4 w h (Q.getD pos 0)] (fun n => Iff.rfl) (fun n hn => by rw [hcs]; exact nb_range w h _ n ht hn)
      obtain ⟨t, hq, htl⟩ := fold_pre (cs := cs) (k := k) [n1 w h (Q.getD pos 0), n2 w h (Q.getD pos 0), n3 w h (Q.getD pos 0), n4 w h (Q.getD pos 0)] Q
      obtain ⟨Q', f1, f2⟩ := ih (pos + 1) _ (by omega) (by rw [hq, List.length_append]; omega) m2
      refine ⟨Q', f1, ?_⟩
      have e := spec_l2 ⟨w, h, cs⟩ k x6 pos (by omega) [n1 w h (Q.getD pos 0), n2 w h (Q.getD pos 0), n3 w h (Q.getD pos 0), n4 w h (Q.getD pos 0)] (fun n hn => by rw [show (S28.mk w h cs).f2 = cs from rfl, hcs]; exact nb_range w h _ n ht hn) (by simp) _ 4 0 Q rfl (by omega) f2
      refine Ev.step (fun f => ?_) e
      simp only [spec_l17Joined.l1, rd_nat, around_eq w h cs _ ht hc.1 (by omega), Option.bind_some]; rw [if_pos (by omega), if_pos (by omega)]; rfl
theorem impl_l2 (w h : Int) (cs : List Int) (k x8 M1 : Int) (pos : Nat) (hpos : pos < 1000000) (a b c e : Int) (hns : ∀ n ∈ [a, b, c, e], 0 ≤ n ∧ n < (cs.length : Int)) (R : Bool) : ∀ d j (Q : List Int) (met : List Bool), j + d = 4 → Q.length + d ≤ 1000000 →
    met.length = cs.length → (∀ n, 0 ≤ n → n < (cs.length : Int) → (met.getD n.toNat false = true ↔ n ∈ Q)) →
    (∀ met' : List Bool, met'.length = cs.length → (∀ n, 0 ≤ n → n < (cs.length : Int) → (met'.getD n.toNat false = true ↔ n ∈ ([a, b, c, e].drop j).foldl (ins cs k) Q)) →
      Ev (fun f => impl_ValidTiling.l1 f k met' (([a, b, c, e].drop j).foldl (ins cs k) Q) x8 ((pos + 1 : Nat) : Int) M1 k w h cs) R) →
    Ev (fun f => impl_ValidTiling.l2 f k met Q x8 (pos : Int) M1 k (j : Int) w h cs a b c e) R := by
  intro d
  induction d with
  | zero =>
    intro j Q met hj hQ hl hr hh
    obtain rfl : j = 4 := by omega
    have h2 := hh met hl hr
    refine Ev.step (fun f => ?_) h2
    simp only [impl_ValidTiling.l2]; rw [if_neg (by omega), wsucc (by omega)]; rfl
  | succ d ih =>
    intro j Q met hj hQ hl hr hh
    have hlt : j < [a, b, c, e].length := by simp; omega
    have hn := hns _ (getD_mem 0 hlt)
    rw [drop_cons [a, b, c, e] 0 hlt, List.foldl_cons] at hh
    have hrd : rdOf false met ([a, b, c, e].getD j 0) = met.getD ([a, b, c, e].getD j 0).toNat false := rfl
    have hml : ([a, b, c, e].getD j 0) < (met.length : Int) := by rw [hl]; exact hn.2
    by_cases hk : rd cs ([a, b, c, e].getD j 0) = k
    · by_cases hm : [a, b, c, e].getD j 0 ∈ Q
      · rw [show ins cs k Q ([a, b, c, e].getD j 0) = Q by unfold ins; rw [if_neg (fun h => h.2 hm)]] at hh
        have hb := (hr _ hn.1 hn.2).2 hm
        refine Ev.step (fun f => ?_) (ih (j + 1) Q met (by omega) (by omega) hl hr hh)
        simp only [impl_ValidTiling.l2, rd_nat]; rw [if_pos (by omega), if_pos (by omega), if_pos hn.1, if_pos hn.2, if_pos hk, if_pos hml, hrd, if_pos hb, wsucc (by omega)]
      · rw [show ins cs k Q ([a, b, c, e].getD j 0) = Q ++ [[a, b, c, e].getD j 0] by unfold ins; rw [if_pos ⟨hk, hm⟩]] at hh
        have hb : ¬ met.getD ([a, b, c, e].getD j 0).toNat false = true := fun h => hm ((hr _ hn.1 hn.2).1 h)
        refine Ev.step (fun f => ?_) (ih (j + 1) (Q ++ [[a, b, c, e].getD j 0]) (met.set ([a, b, c, e].getD j 0).toNat true) (by omega) (by simp; omega) (by rw [List.length_set]; exact hl) (fun n h0 h1 => ?_) hh)
        · simp only [impl_ValidTiling.l2, rd_nat]; rw [if_pos (by omega), if_pos (by omega), if_pos hn.1, if_pos hn.2, if_pos hk, if_pos hml, hrd, if_neg hb, if_pos (by omega), wsucc (by omega)]
        · rw [List.mem_append, List.mem_singleton, List.getD_eq_getElem?_getD, List.getElem?_set]
          by_cases he : n = [a, b, c, e].getD j 0
          · rw [he, if_pos rfl, if_pos (by omega)]; simp
          · rw [if_neg (by omega), ← List.getD_eq_getElem?_getD, hr n h0 h1]
            exact ⟨fun h => .inl h, fun h => h.resolve_right he⟩
    · rw [show ins cs k Q ([a, b, c, e].getD j 0) = Q by unfold ins; rw [if_neg (fun h => hk h.1)]] at hh
      refine Ev.step (fun f => ?_) (ih (j + 1) Q met (by omega) (by omega) hl hr hh)
      simp only [impl_ValidTiling.l2, rd_nat]; rw [if_pos (by omega), if_pos (by omega), if_pos hn.1, if_pos hn.2, if_neg hk, wsucc (by omega)]
theorem impl_l1 (w h : Int) (ht : inT w h) (cs : List Int) (hcs : (cs.length : Int) = w * h) (k M1 : Int) (s : Int) : ∀ d (pos : Nat) (Q : List Int) (met : List Bool), pos + d = cs.length → pos ≤ Q.length → Met cs k (fun i => [n1 w h i, n2 w h i, n3 w h i, n4 w h i]) s pos Q →
    met.length = cs.length → (∀ n, 0 ≤ n → n < (cs.length : Int) → (met.getD n.toNat false = true ↔ n ∈ Q)) →
    ∃ Q', Met cs k (fun i => [n1 w h i, n2 w h i, n3 w h i, n4 w h i]) s Q'.length Q' ∧ ∀ R, Ev (fun f => impl_ValidTiling.l3 f k (Q'.length : Int) M1 k cs (cs.length : Int) 0 w h cs) R → Ev (fun f => impl_ValidTiling.l1 f k met Q (pos : Int) (pos : Int) M1 k w h cs) R := by
  have hb := wh_le w h ht
  have stop : ∀ (Q : List Int) (met : List Bool) (R : Bool), Ev (fun f => impl_ValidTiling.l3 f k (Q.length : Int) M1 k cs (cs.length : Int) 0 w h cs) R → Ev (fun f => impl_ValidTiling.l1 f k met Q (Q.length : Int) (Q.length : Int) M1 k w h cs) R := fun Q met R hR =>
    Ev.step (fun f => by simp only [impl_ValidTiling.l1]; rw [if_neg (by omega)]) hR
  intro d
  induction d with
  | zero =>
    intro pos Q met hp hpl m _ _
    have := m.len
    obtain rfl : pos = Q.length := by omega
    exact ⟨Q, m, stop Q met⟩
  | succ d ih =>
    intro pos Q met hp hpl m hl hr
    have hm := m.len
    rcases Nat.eq_or_lt_of_le hpl with rfl | hlt
    · exact ⟨Q, m, stop Q met⟩
    · have hc := (m.good _ (getD_mem 0 hlt)).1
      have m2 := m.step hlt [n1 w h (Q.getD pos 0), n3 w h (Q.getD pos 0), n2 w h (Q.getD pos 0), n4 w h (Q.getD pos 0)] (fun n => nb_perm _ _ _ _ n) (fun n hn => by rw [hcs]; exact nb_range w h _ n ht ((nb_perm _ _ _ _ n).1 hn))
      obtain ⟨t, hq, htl⟩ := fold_pre (cs := cs) (k := k) [n1 w h (Q.getD pos 0), n3 w h (Q.getD pos 0), n2 w h (Q.getD pos 0), n4 w h (Q.getD pos 0)] Q
      have hex : ∃ met' : List Bool, met'.length = cs.length ∧ ∀ n, 0 ≤ n → n < (cs.length : Int) → (met'.getD n.toNat false = true ↔ n ∈ [n1 w h (Q.getD pos 0), n3 w h (Q.getD pos 0), n2 w h (Q.getD pos 0), n4 w h (Q.getD pos 0)].foldl (ins cs k) Q) :=
        ⟨(List.range cs.length).map (fun n : Nat => decide ((n : Int) ∈ [n1 w h (Q.getD pos 0), n3 w h (Q.getD pos 0), n2 w h (Q.getD pos 0), n4 w h (Q.getD pos 0)].foldl (ins cs k) Q)), by simp, fun n h0 h1 => by
          rw [List.getD_eq_getElem?_getD, List.getElem?_map, List.getElem?_range (by omega)]
          simp only [Option.map_some, Option.getD_some, decide_eq_true_eq, Int.toNat_of_nonneg h0]⟩
      have hall : ∀ met' : List Bool, met'.length = cs.length → (∀ n, 0 ≤ n → n < (cs.length : Int) → (met'.getD n.toNat false = true ↔ n ∈ [n1 w h (Q.getD pos 0), n3 w h (Q.getD pos 0), n2 w h (Q.getD pos 0), n4 w h (Q.getD pos 0)].foldl (ins cs k) Q)) → met' = hex.choose := fun met' hl' hr' => by
        obtain ⟨hl2, hr2⟩ := hex.choose_spec
        refine List.ext_getElem (by omega) (fun i h1 h2 => ?_)
        have a1 := hr' (i : Int) (by omega) (by omega)
        have a2 := hr2 (i : Int) (by omega) (by omega)
        rw [Int.toNat_natCast, List.getD_eq_getElem?_getD, List.getElem?_eq_getElem h1] at a1
        rw [Int.toNat_natCast, List.getD_eq_getElem?_getD, List.getElem?_eq_getElem h2] at a2
        simp only [Option.getD_some] at a1 a2
        exact Bool.eq_iff_iff.2 (a1.trans a2.symm)
      obtain ⟨Q', f1, f2⟩ := ih (pos + 1) _ hex.choose (by omega) (by rw [hq, List.length_append]; omega) m2 hex.choose_spec.1 hex.choose_spec.2
      refine ⟨Q', f1, fun R hR => ?_⟩
      have e := impl_l2 w h cs k ((pos + 1 : Nat) : Int) M1 pos (by omega) (n1 w h (Q.getD pos 0)) (n3 w h (Q.getD pos 0)) (n2 w h (Q.getD pos 0)) (n4 w h (Q.getD pos 0)) (fun n hn => by rw [hcs]; exact nb_range w h _ n ht ((nb_perm _ _ _ _ n).1 hn)) R 4 0 Q met rfl (by omega) hl hr
        (fun met' hl' hr' => by rw [hall met' hl' hr']; exact f2 R hR)
      refine Ev.step (fun f => ?_) e
      simp only [impl_ValidTiling.l1, rd_nat, touch_eq w h cs _ ht hc.1 (by omega), Option.bind_some]; rw [if_pos (by omega), if_pos (by omega), wsucc (by omega)]; rfl
def cnt (k : Int) : List Int → Int
  | [] => 0
  | x :: t => if x = k then 1 + cnt k t else cnt k t
theorem cnt_range (k : Int) : ∀ l : List Int, 0 ≤ cnt k l ∧ cnt k l ≤ l.length
  | [] => ⟨Int.le_refl _, Int.le_refl _⟩
  | x :: t => by
    have := cnt_range k t
    rw [cnt, List.length_cons]; split <;> omega
theorem impl_l3 (w h : Int) (cs : List Int) (hl : cs.length ≤ 1000000) (k M1 : Int) (hk : 0 ≤ k ∧ k ≤ 1000) (R : Bool) : ∀ d i (x8 : Int), i + d = cs.length → -1000000 ≤ x8 - cnt k (cs.drop i) → x8 ≤ 1000000 →
    (x8 - cnt k (cs.drop i) = 0 → Ev (fun f => impl_ValidTiling.l0 f M1 (k + 1) w h cs) R) → (x8 - cnt k (cs.drop i) ≠ 0 → R = false) →
    Ev (fun f => impl_ValidTiling.l3 f k x8 M1 k cs (cs.length : Int) (i : Int) w h cs) R := by
  intro d
  induction d with
  | zero =>
    intro i x8 hi h1 h2 h3 h4
    have e : i = cs.length := by omega
    rw [e, List.drop_length, show cnt k [] = 0 from rfl] at h1 h3 h4
    rw [e]
    by_cases hz : x8 = 0
    · refine Ev.step (fun f => ?_) (h3 (by omega))
      simp only [impl_ValidTiling.l3]; rw [if_neg (by omega), if_pos hz, w64 (by omega) (by omega)]
    · rw [h4 (by omega)]
      refine Ev.some_eq fun f => ?_
      simp only [impl_ValidTiling.l3]; rw [if_neg (by omega), if_neg hz]
  | succ d ih =>
    intro i x8 hi h1 h2 h3 h4
    have hlt : i < cs.length := by omega
    have hr := cnt_range k (cs.drop (i + 1))
    rw [drop_cons cs 0 hlt, cnt] at h1 h3 h4
    by_cases hq : cs.getD i 0 = k
    · rw [if_pos hq] at h1 h3 h4
      refine Ev.step (fun f => ?_) (ih (i + 1) (x8 - 1) (by omega) (by omega) (by omega) (fun e => h3 (by omega)) (fun e => h4 (by omega)))
      simp only [impl_ValidTiling.l3, rd_nat]; rw [if_pos (by omega), if_pos (by omega), if_pos (by omega), if_pos hq, w64 (x := x8 - 1) (by omega) (by omega), wsucc (by omega)]
    · rw [if_neg hq] at h1 h3 h4
      refine Ev.step (fun f => ?_) (ih (i + 1) x8 (by omega) (by omega) (by omega) h3 h4)
      simp only [impl_ValidTiling.l3, rd_nat]; rw [if_pos (by omega), if_pos (by omega), if_pos (by omega), if_neg hq, wsucc (by omega)]
def Fst (cs : List Int) (k : Int) (i : Nat) : Prop := i < cs.length ∧ cs.getD i 0 = k ∧ ∀ j, j < i → cs.getD j 0 ≠ k
theorem index_of (cs : List Int) (hl : cs.length ≤ 1048576) (k : Int) : ∃ r : Int, Ev (fun f => slices_Index_int64_int64.f f cs k) r ∧ ((r = -1 ∧ k ∉ cs) ∨ ∃ i : Nat, r = i ∧ Fst cs k i) := by
  have h : ∀ d i, i + d = cs.length → (∀ j, j < i → cs.getD j 0 ≠ k) → ∃ r : Int, Ev (fun f => slices_Index_int64_int64.l0 f cs k (cs.length : Int) (i : Int)) r ∧ ((r = -1 ∧ k ∉ cs) ∨ ∃ i : Nat, r = i ∧ Fst cs k i) := by
    intro d
    induction d with
    | zero =>
      intro i hi hj
      refine ⟨-1, Ev.some_eq fun f => ?_, .inl ⟨rfl, fun hm => ?_⟩⟩
      · simp only [slices_Index_int64_int64.l0]; rw [if_neg (by omega)]
      · obtain ⟨j, hjl, rfl⟩ := List.getElem_of_mem hm
        exact hj j (by omega) (by rw [List.getD_eq_getElem?_getD, List.getElem?_eq_getElem hjl]; rfl)
    | succ d ih =>
      intro i hi hj
      by_cases hq : cs.getD i 0 = k
      · refine ⟨i, Ev.some_eq fun f => ?_, .inr ⟨i, rfl, by omega, hq, hj⟩⟩
        simp only [slices_Index_int64_int64.l0, rd_nat]; rw [if_pos (by omega), if_pos (by omega), if_pos (by omega), if_pos hq.symm]
      · obtain ⟨r, h1, h2⟩ := ih (i + 1) (by omega) (fun j hji => by
          rcases Nat.lt_or_ge j i with h | h
          · exact hj j h
          · obtain rfl : j = i := by omega
            exact hq)
        refine ⟨r, Ev.step (fun f => ?_) h1, h2⟩
        simp only [slices_Index_int64_int64.l0, rd_nat]; rw [if_pos (by omega), if_pos (by omega), if_pos (by omega), if_neg (fun e => hq e.symm), wsucc (by omega)]
  exact h cs.length 0 (by omega) (fun j hj => by omega)
theorem spec_j0 (w h : Int) (cs : List Int) (hl : cs.length ≤ 1000000) (k : Int) (i0 : Nat) (hf : Fst cs k i0) (R : Bool) (hR : Ev (fun f => spec_l17Joined.l1 f [⟨w, h, cs⟩] k (cnt k cs) [(i0 : Int)] 0) R) :
    Ev (fun f => spec_l17Joined.f f [⟨w, h, cs⟩] k) R := by
  have hcr := cnt_range k cs
  have h2 : ∀ d i (x6 : Int), i + d = cs.length → 0 ≤ x6 → x6 + cnt k (cs.drop i) = cnt k cs → Ev (fun f => spec_l17Joined.l0 f [⟨w, h, cs⟩] k (if i ≤ i0 then -1 else (i0 : Int)) x6 (i : Int)) R := by
    intro d
    induction d with
    | zero =>
      intro i x6 hi h0 hx
      have e : i = cs.length := by omega
      rw [e, List.drop_length, show cnt k [] = 0 from rfl] at hx
      rw [e, if_neg (by have := hf.1; omega), show x6 = cnt k cs by omega]
      refine Ev.step (fun f => ?_) hR
      simp only [spec_l17Joined.l0, show rd_T28 [⟨w, h, cs⟩] 0 = ⟨w, h, cs⟩ from rfl, List.length_singleton]; rw [if_pos (by omega), if_neg (by omega)]
    | succ d ih =>
      intro i x6 hi h0 hx
      have hlt : i < cs.length := by omega
      have hr := cnt_range k (cs.drop (i + 1))
      rw [drop_cons cs 0 hlt, cnt] at hx
      by_cases hq : cs.getD i 0 = k
      · rw [if_pos hq] at hx
        have hge : i0 ≤ i := by
          rcases Nat.lt_or_ge i i0 with h | h
          · exact absurd hq (hf.2.2 i h)
          · exact h
        have h3 := ih (i + 1) (x6 + 1) (by omega) (by omega) (by omega)
        rw [if_neg (by omega)] at h3
        refine Ev.step (fun f => ?_) h3
        simp only [spec_l17Joined.l0, show rd_T28 [⟨w, h, cs⟩] 0 = ⟨w, h, cs⟩ from rfl, List.length_singleton, rd_nat]
        rw [if_pos (by omega), if_pos (by omega), if_pos (by omega), if_pos hq, w64 (x := x6 + 1) (by omega) (by omega), wsucc (by omega)]
        by_cases he : i ≤ i0
        · obtain rfl : i = i0 := by omega
          rw [if_pos he, if_pos (by omega)]
        · rw [if_neg he, if_neg (by omega)]
      · rw [if_neg hq] at hx
        have hne : i ≠ i0 := fun e => hq (e ▸ hf.2.1)
        have h3 := ih (i + 1) x6 (by omega) h0 hx
        have heq : (if i + 1 ≤ i0 then -1 else (i0 : Int)) = (if i ≤ i0 then -1 else (i0 : Int)) := by
          by_cases h : i ≤ i0
          · rw [if_pos (by omega), if_pos h]
          · rw [if_neg (by omega), if_neg h]
        rw [heq] at h3
        refine Ev.step (fun f => ?_) h3
        simp only [spec_l17Joined.l0, show rd_T28 [⟨w, h, cs⟩] 0 = ⟨w, h, cs⟩ from rfl, List.length_singleton, rd_nat]
        rw [if_pos (by omega), if_pos (by omega), if_pos (by omega), if_neg hq, wsucc (by omega)]
  have h3 := h2 cs.length 0 0 (by omega) (by omega) (by rw [List.drop_zero]; omega)
  rw [if_pos (Nat.zero_le _)] at h3
  unfold spec_l17Joined.f
  exact h3
theorem joined_same (w h : Int) (ht : inT w h) (cs : List Int) (hcs : (cs.length : Int) = w * h) (M1 k : Int) (hk : 0 ≤ k ∧ k ≤ 35) (hkM : k < M1) (hm : k ∈ cs) :
    ∃ b : Bool, Ev (fun f => spec_l17Joined.f f [⟨w, h, cs⟩] k) b ∧ (b = true → ∀ R, Ev (fun f => impl_ValidTiling.l0 f M1 (k + 1) w h cs) R → Ev (fun f => impl_ValidTiling.l0 f M1 k w h cs) R) ∧ (b = false → Ev (fun f => impl_ValidTiling.l0 f M1 k w h cs) false) := by
  have hwh := wh_le w h ht
  obtain ⟨r, e1, e2⟩ := index_of cs (by omega) k
  rcases e2 with ⟨_, hn⟩ | ⟨i0, rfl, hf⟩
  · exact absurd hm hn
  · have hi := hf.1
    have m0 : Met cs k (fun i => [n1 w h i, n2 w h i, n3 w h i, n4 w h i]) (i0 : Int) 0 [(i0 : Int)] := Met.init ⟨by omega, by omega⟩ (by rw [rd_nat]; exact hf.2.1)
    obtain ⟨Q, q1, q2⟩ := spec_l1 w h ht cs hcs k (cnt k cs) i0 cs.length 0 [(i0 : Int)] (by omega) (by simp) m0
    have hmet : ∀ n : Int, 0 ≤ n → n < (cs.length : Int) → (((List.replicate cs.length false).set i0 true).getD n.toNat false = true ↔ n ∈ [(i0 : Int)]) := fun n h0 h1 => by
      rw [List.mem_singleton, List.getD_eq_getElem?_getD, List.getElem?_set]
      by_cases he : n = i0
      · rw [he, if_pos (by omega), if_pos (by simp; omega)]; simp
      · rw [if_neg (by omega), List.getElem?_replicate, if_pos (by omega)]; simp [he]
    obtain ⟨Q', p1, p2⟩ := impl_l1 w h ht cs hcs k M1 i0 cs.length 0 [(i0 : Int)] ((List.replicate cs.length false).set i0 true) (by omega) (by simp) m0 (by simp) hmet
    have hlen := q1.same p1
    have hql := q1.len
    have hcr := cnt_range k cs
    have head : ∀ R, Ev (fun f => impl_ValidTiling.l1 f k ((List.replicate cs.length false).set i0 true) [(i0 : Int)] 0 0 M1 k w h cs) R → Ev (fun f => impl_ValidTiling.l0 f M1 k w h cs) R := fun R hR => by
      refine Ev.step1 e1 hR (fun f hf2 => ?_)
      simp only [impl_ValidTiling.l0, hf2, Option.bind_some]
      rw [if_pos hkM, if_neg (by omega), if_pos (by omega), if_pos (by omega), if_pos (by omega), if_pos (by simp; omega), Int.toNat_natCast, Int.toNat_natCast]
    refine ⟨(Q.length : Int) == cnt k cs, spec_j0 w h cs (by omega) k i0 hf _ q2, fun hb R hR => ?_, fun hb => ?_⟩
    · have hb' : (Q.length : Int) = cnt k cs := by simpa using hb
      refine head R (p2 R ?_)
      exact impl_l3 w h cs (by omega) k M1 ⟨hk.1, by omega⟩ R cs.length 0 _ (by omega) (by rw [List.drop_zero]; omega) (by omega) (fun _ => hR) (fun hne => absurd (by rw [List.drop_zero]; omega) hne)
    · have hb' : ¬ (Q.length : Int) = cnt k cs := by simpa using hb
      refine head false (p2 false ?_)
      exact impl_l3 w h cs (by omega) k M1 ⟨hk.1, by omega⟩ false cs.length 0 _ (by omega) (by rw [List.drop_zero]; omega) (by omega) (fun he => absurd (by rw [List.drop_zero] at he; omega) hb') (fun _ => rfl)
theorem max_eq (cs : List Int) (h0 : 0 < cs.length) (hl : cs.length ≤ 1048576) : ∃ m, Ev (fun f => slices_Max_int64_int64.f f cs) m ∧ m ∈ cs ∧ ∀ c ∈ cs, c ≤ m := by
  have h : ∀ d i (m : Int), i + d = cs.length → 1 ≤ i → m ∈ cs → (∀ j, j < i → cs.getD j 0 ≤ m) → ∃ r, Ev (fun f => slices_Max_int64_int64.l0 f cs m (i : Int)) r ∧ r ∈ cs ∧ ∀ c ∈ cs, c ≤ r := by
    intro d
    induction d with
    | zero =>
      intro i m hi h1 hm hj
      refine ⟨m, Ev.some_eq fun f => ?_, hm, fun c hc => ?_⟩
      · simp only [slices_Max_int64_int64.l0]; rw [if_neg (by omega)]
      · obtain ⟨j, hjl, rfl⟩ := List.getElem_of_mem hc
        have := hj j (by omega)
        rwa [List.getD_eq_getElem?_getD, List.getElem?_eq_getElem hjl] at this
    | succ d ih =>
      intro i m hi h1 hm hj
      have hlt : i < cs.length := by omega
      have hmx : mx m (cs.getD i 0) = m ∨ mx m (cs.getD i 0) = cs.getD i 0 := by unfold mx; split <;> simp
      have hge : m ≤ mx m (cs.getD i 0) ∧ cs.getD i 0 ≤ mx m (cs.getD i 0) := by unfold mx; split <;> omega
      obtain ⟨r, e1, e2⟩ := ih (i + 1) (mx m (cs.getD i 0)) (by omega) (by omega) (by rcases hmx with h | h <;> rw [h] <;> first | exact hm | exact getD_mem 0 hlt) (fun j hji => by
        rcases Nat.lt_or_ge j i with h | h
        · have := hj j h; omega
        · obtain rfl : j = i := by omega
          exact hge.2)
      refine ⟨r, Ev.step (fun f => ?_) e1, e2⟩
      simp only [slices_Max_int64_int64.l0, rd_nat]; rw [if_pos (by omega), if_pos (by omega), wsucc (by omega)]
  have hz := getD_mem 0 h0
  obtain ⟨r, e1, e2⟩ := h (cs.length - 1) 1 (cs.getD 0 0) (by omega) (by omega) hz (fun j hj => by
    have e : j = 0 := by omega
    rw [e]; exact Int.le_refl _)
  refine ⟨r, ?_, e2⟩
  unfold slices_Max_int64_int64.f
  simp only [if_neg (show ¬ (cs.length : Int) < 1 by omega), if_pos (show (0 : Int) < (cs.length : Int) by omega)]
  exact e1
theorem min_eq (cs : List Int) (h0 : 0 < cs.length) (hl : cs.length ≤ 1048576) : ∃ m, Ev (fun f => slices_Min_int64_int64.f f cs) m ∧ m ∈ cs ∧ ∀ c ∈ cs, m ≤ c := by
  have h : ∀ d i (m : Int), i + d = cs.length → 1 ≤ i → m ∈ cs → (∀ j, j < i → m ≤ cs.getD j 0) → ∃ r, Ev (fun f => slices_Min_int64_int64.l0 f cs m (i : Int)) r ∧ r ∈ cs ∧ ∀ c ∈ cs, r ≤ c := by
    intro d
    induction d with
    | zero =>
      intro i m hi h1 hm hj
      refine ⟨m, Ev.some_eq fun f => ?_, hm, fun c hc => ?_⟩
      · simp only [slices_Min_int64_int64.l0]; rw [if_neg (by omega)]
      · obtain ⟨j, hjl, rfl⟩ := List.getElem_of_mem hc
        have := hj j (by omega)
        rwa [List.getD_eq_getElem?_getD, List.getElem?_eq_getElem hjl] at this
    | succ d ih =>
      intro i m hi h1 hm hj
      have hlt : i < cs.length := by omega
      have hmx : mn m (cs.getD i 0) = m ∨ mn m (cs.getD i 0) = cs.getD i 0 := by unfold mn; split <;> simp
      have hge : mn m (cs.getD i 0) ≤ m ∧ mn m (cs.getD i 0) ≤ cs.getD i 0 := by unfold mn; split <;> omega
      obtain ⟨r, e1, e2⟩ := ih (i + 1) (mn m (cs.getD i 0)) (by omega) (by omega) (by rcases hmx with h | h <;> rw [h] <;> first | exact hm | exact getD_mem 0 hlt) (fun j hji => by
        rcases Nat.lt_or_ge j i with h | h
        · have := hj j h; omega
        · obtain rfl : j = i := by omega
          exact hge.2)
      refine ⟨r, Ev.step (fun f => ?_) e1, e2⟩
      simp only [slices_Min_int64_int64.l0, rd_nat]; rw [if_pos (by omega), if_pos (by omega), wsucc (by omega)]
  have hz := getD_mem 0 h0
  obtain ⟨r, e1, e2⟩ := h (cs.length - 1) 1 (cs.getD 0 0) (by omega) (by omega) hz (fun j hj => by
    have e : j = 0 := by omega
    rw [e]; exact Int.le_refl _)
  refine ⟨r, ?_, e2⟩
  unfold slices_Min_int64_int64.f
  simp only [if_neg (show ¬ (cs.length : Int) < 1 by omega), if_pos (show (0 : Int) < (cs.length : Int) by omega)]
  exact e1
theorem max2_eq (a b : Int) : spec_l00Max.f a b = some (if a > b then a else b) := by unfold spec_l00Max.f; split <;> rfl
theorem most_l0 (w h : Int) (cs : List Int) (hl : cs.length ≤ 1000000) : ∀ d i (m : Int), i + d = cs.length → -1 ≤ m → (∀ j, j < i → cs.getD j 0 ≤ m) → (m = -1 ∨ m ∈ cs) →
    ((∀ j, i ≤ j → j < cs.length → 0 ≤ cs.getD j 0 ∧ cs.getD j 0 ≤ 35) → ∃ M, (∀ c ∈ cs, c ≤ M) ∧ (M = -1 ∨ M ∈ cs) ∧ ∀ R, Ev (fun f => spec_l17Most.l1 f [⟨w, h, cs⟩] M 0) R → Ev (fun f => spec_l17Most.l0 f [⟨w, h, cs⟩] m (i : Int)) R) ∧
    (¬ (∀ j, i ≤ j → j < cs.length → 0 ≤ cs.getD j 0 ∧ cs.getD j 0 ≤ 35) → Ev (fun f => spec_l17Most.l0 f [⟨w, h, cs⟩] m (i : Int)) (-1)) := by
  intro d
  induction d with
  | zero =>
    intro i m hi h1 hm hj
    have e : i = cs.length := by omega
    refine ⟨fun _ => ⟨m, fun c hc => ?_, hj, fun R hR => Ev.step (fun f => ?_) hR⟩, fun h => absurd (fun j h1 h2 => by omega) h⟩
    · obtain ⟨j, hjl, rfl⟩ := List.getElem_of_mem hc
      have := hm j (by omega)
      rwa [List.getD_eq_getElem?_getD, List.getElem?_eq_getElem hjl] at this
    · simp only [spec_l17Most.l0, show rd_T28 [⟨w, h, cs⟩] 0 = ⟨w, h, cs⟩ from rfl, List.length_singleton]; rw [if_pos (by omega), if_neg (by omega)]
  | succ d ih =>
    intro i m hi h1 hm hj
    have hlt : i < cs.length := by omega
    by_cases hg : 0 ≤ cs.getD i 0 ∧ cs.getD i 0 ≤ 35
    · have hstep : ∀ R, Ev (fun f => spec_l17Most.l0 f [⟨w, h, cs⟩] (if m > cs.getD i 0 then m else cs.getD i 0) ((i + 1 : Nat) : Int)) R → Ev (fun f => spec_l17Most.l0 f [⟨w, h, cs⟩] m (i : Int)) R := fun R hR => by
        refine Ev.step (fun f => ?_) hR
        simp only [spec_l17Most.l0, show rd_T28 [⟨w, h, cs⟩] 0 = ⟨w, h, cs⟩ from rfl, List.length_singleton, rd_nat, in_eq, max2_eq, Option.bind_some, decide_eq_true_eq]
        rw [if_pos (by omega), if_pos (by omega), if_pos (by omega), if_pos hg, wsucc (by omega)]
      obtain ⟨i1, i2⟩ := ih (i + 1) (if m > cs.getD i 0 then m else cs.getD i 0) (by omega) (by split <;> omega) (fun j hji => by
        rcases Nat.lt_or_ge j i with h | h
        · have := hm j h; split <;> omega
        · obtain rfl : j = i := by omega
          split <;> omega) (by
        by_cases hc : m > cs.getD i 0
        · rw [if_pos hc]; exact hj
        · rw [if_neg hc]; exact .inr (getD_mem 0 hlt))
      refine ⟨fun hall => ?_, fun hn => hstep _ (i2 (fun h => hn (fun j h1 h2 => ?_)))⟩
      · obtain ⟨M, m1, m2, m3⟩ := i1 (fun j h1 h2 => hall j (by omega) h2)
        exact ⟨M, m1, m2, fun R hR => hstep R (m3 R hR)⟩
      · rcases Nat.eq_or_lt_of_le h1 with rfl | hlt2
        · exact hg
        · exact h j hlt2 h2
    · refine ⟨fun hall => absurd (hall i (Nat.le_refl _) hlt) hg, fun _ => Ev.some_eq fun f => ?_⟩
      simp only [spec_l17Most.l0, show rd_T28 [⟨w, h, cs⟩] 0 = ⟨w, h, cs⟩ from rfl, List.length_singleton, rd_nat, in_eq, Option.bind_some, decide_eq_true_eq]
      rw [if_pos (by omega), if_pos (by omega), if_pos (by omega), if_neg hg]
theorem most_l1 (w h : Int) (cs : List Int) (hl : cs.length ≤ 1000000) (M : Int) (hM : 0 ≤ M ∧ M ≤ 35) : ∀ d i : Nat, (i : Int) + d = M + 1 →
    ((∀ j : Nat, i ≤ j → (j : Int) ≤ M → (j : Int) ∈ cs) → Ev (fun f => spec_l17Most.l1 f [⟨w, h, cs⟩] M (i : Int)) (M + 1)) ∧ (¬ (∀ j : Nat, i ≤ j → (j : Int) ≤ M → (j : Int) ∈ cs) → Ev (fun f => spec_l17Most.l1 f [⟨w, h, cs⟩] M (i : Int)) (-1)) := by
  intro d
  induction d with
  | zero =>
    intro i hi
    refine ⟨fun _ => Ev.some_eq fun f => ?_, fun h => absurd (fun j h1 h2 => by omega) h⟩
    simp only [spec_l17Most.l1]; rw [if_neg (by omega), w64 (by omega) (by omega)]
  | succ d ih =>
    intro i hi
    obtain ⟨i1, i2⟩ := ih (i + 1) (by omega)
    have hh := has_eq cs (i : Int) (by omega)
    by_cases hm : (i : Int) ∈ cs
    · rw [decide_eq_true hm] at hh
      refine ⟨fun hall => Ev.step1 hh (i1 (fun j h1 h2 => hall j (by omega) h2)) (fun f hf => ?_), fun hn => Ev.step1 hh (i2 (fun h => hn (fun j h1 h2 => ?_))) (fun f hf => ?_)⟩
      · simp only [spec_l17Most.l1, show rd_T28 [⟨w, h, cs⟩] 0 = ⟨w, h, cs⟩ from rfl, List.length_singleton, hf, Option.bind_some]; (repeat (first | rw [if_pos (by omega)] | rw [if_neg (by omega)] | rw [if_pos (rfl : true = true)] | rw [if_neg Bool.false_ne_true] | rw [if_pos trivial])); rw [wsucc (by omega)]
      · rcases Nat.eq_or_lt_of_le h1 with rfl | hlt2
        · exact hm
        · exact h j hlt2 h2
      · simp only [spec_l17Most.l1, show rd_T28 [⟨w, h, cs⟩] 0 = ⟨w, h, cs⟩ from rfl, List.length_singleton, hf, Option.bind_some]; (repeat (first | rw [if_pos (by omega)] | rw [if_neg (by omega)] | rw [if_pos (rfl : true = true)] | rw [if_neg Bool.false_ne_true] | rw [if_pos trivial])); rw [wsucc (by omega)]
    · rw [decide_eq_false hm] at hh
      refine ⟨fun hall => absurd (hall i (Nat.le_refl _) (by omega)) hm, fun _ => Ev.step1 hh (Ev.now (-1)) (fun f hf => ?_)⟩
      simp only [spec_l17Most.l1, show rd_T28 [⟨w, h, cs⟩] 0 = ⟨w, h, cs⟩ from rfl, List.length_singleton, hf, Option.bind_some]; (repeat (first | rw [if_pos (by omega)] | rw [if_neg (by omega)] | rw [if_pos (rfl : true = true)] | rw [if_neg Bool.false_ne_true] | rw [if_pos trivial]))
theorem loops_same (w h : Int) (ht : inT w h) (cs : List Int) (hcs : (cs.length : Int) = w * h) (M : Int) (hM : 0 ≤ M ∧ M ≤ 35) (hall : ∀ j : Nat, (j : Int) ≤ M → (j : Int) ∈ cs) : ∀ d i : Nat, (i : Int) + d = M + 1 →
    ∃ R, Ev (fun f => spec_l17Ok.l0 f [⟨w, h, cs⟩] (M + 1) (i : Int)) R ∧ Ev (fun f => impl_ValidTiling.l0 f (M + 1) (i : Int) w h cs) R := by
  intro d
  induction d with
  | zero =>
    intro i hi
    refine ⟨true, Ev.some_eq fun f => ?_, Ev.some_eq fun f => ?_⟩
    · simp only [spec_l17Ok.l0]; rw [if_neg (by omega), decide_eq_true (by omega)]
    · simp only [impl_ValidTiling.l0]; rw [if_neg (by omega)]
  | succ d ih =>
    intro i hi
    obtain ⟨R, r1, r2⟩ := ih (i + 1) (by omega)
    obtain ⟨b, b1, b2, b3⟩ := joined_same w h ht cs hcs (M + 1) i ⟨by omega, by omega⟩ (by omega) (hall i (by omega))
    cases b with
    | true =>
      refine ⟨R, Ev.step1 b1 r1 (fun f hf => ?_), b2 rfl R r2⟩
      simp only [spec_l17Ok.l0, hf, Option.bind_some]; (repeat (first | rw [if_pos (by omega)] | rw [if_neg (by omega)] | rw [if_pos (rfl : true = true)] | rw [if_neg Bool.false_ne_true] | rw [if_pos trivial])); rw [wsucc (by omega)]
    | false =>
      refine ⟨false, Ev.step1 b1 (Ev.now false) (fun f hf => ?_), b3 rfl⟩
      simp only [spec_l17Ok.l0, hf, Option.bind_some]; (repeat (first | rw [if_pos (by omega)] | rw [if_neg (by omega)] | rw [if_pos (rfl : true = true)] | rw [if_neg Bool.false_ne_true] | rw [if_pos trivial]))
theorem loops_miss (w h : Int) (ht : inT w h) (cs : List Int) (hcs : (cs.length : Int) = w * h) (M : Int) (hM : 0 ≤ M ∧ M ≤ 35) : ∀ d i : Nat, (i : Int) + d = M + 1 → ¬ (∀ j : Nat, i ≤ j → (j : Int) ≤ M → (j : Int) ∈ cs) →
    Ev (fun f => impl_ValidTiling.l0 f (M + 1) (i : Int) w h cs) false := by
  have hwh := wh_le w h ht
  intro d
  induction d with
  | zero => intro i hi hn; exact absurd (fun j h1 h2 => by omega) hn
  | succ d ih =>
    intro i hi hn
    by_cases hm : (i : Int) ∈ cs
    · obtain ⟨b, b1, b2, b3⟩ := joined_same w h ht cs hcs (M + 1) i ⟨by omega, by omega⟩ (by omega) hm
      cases b with
      | true =>
        refine b2 rfl false (ih (i + 1) (by omega) (fun h => hn (fun j h1 h2 => ?_)))
        rcases Nat.eq_or_lt_of_le h1 with rfl | hlt
        · exact hm
        · exact h j hlt h2
      | false => exact b3 rfl
    · obtain ⟨r, e1, e2⟩ := index_of cs (by omega) i
      rcases e2 with ⟨rfl, _⟩ | ⟨i0, rfl, hf⟩
      · refine Ev.step1 e1 (Ev.now false) (fun f hf => ?_)
        simp only [impl_ValidTiling.l0, hf, Option.bind_some]; rw [if_pos (by omega)]; rfl
      · exact absurd (by rw [← hf.2.1]; exact getD_mem 0 hf.1) hm
theorem tiling_same (w h : Int) (cs : List Int) (hl : cs.length ≤ 1048576) : ∃ r, Ev (fun f => spec_l17Ok.f f [⟨w, h, cs⟩]) r ∧ Ev (fun f => impl_ValidTiling.f f w h cs) r ∧
    (r = true → inT w h ∧ (cs.length : Int) = w * h ∧ (∀ c ∈ cs, 0 ≤ c ∧ c ≤ 35) ∧ ∃ M, (0 ≤ M ∧ M ≤ 35) ∧ M ∈ cs ∧ (∀ c ∈ cs, c ≤ M) ∧ Ev (fun f => spec_l17Most.f f [⟨w, h, cs⟩]) (M + 1) ∧ Ev (fun f => impl_tiles.f f w h cs) (M + 1)) := by
  have s1 : Ev (fun f => spec_l17Ok.j0 f [⟨w, h, cs⟩] true) false := Ev.some_eq fun f => by simp only [spec_l17Ok.j0]; rfl
  have i1 : Ev (fun f => impl_ValidTiling.j0 f true w h cs) false := Ev.some_eq fun f => by simp only [impl_ValidTiling.j0]; rfl
  unfold spec_l17Ok.f impl_ValidTiling.f
  simp only [show rd_T28 [⟨w, h, cs⟩] 0 = ⟨w, h, cs⟩ from rfl, List.length_singleton, in_eq, within_eq, Option.bind_some, decide_eq_true_eq, if_pos (show (0 : Int) < ((1 : Nat) : Int) by omega)]
  by_cases h1 : 1 ≤ w ∧ w ≤ 12
  · simp only [if_pos h1]
    by_cases h2 : 1 ≤ h ∧ h ≤ 12
    · simp only [if_pos h2]
      have ht : inT w h := ⟨h1, h2⟩
      have hwh := wh_le w h ht
      rw [w64 (x := w * h) (by omega) (by omega)]
      by_cases h3 : (cs.length : Int) = w * h
      · simp only [show ((cs.length : Int) != w * h) = false by simp [h3]]
        have j1 : Ev (fun f => impl_ValidTiling.j1 f true w h cs) false := Ev.some_eq fun f => by simp only [impl_ValidTiling.j1]; rfl
        obtain ⟨mi, a1, a2, a3⟩ := min_eq cs (by omega) hl
        obtain ⟨ma, b1, b2, b3⟩ := max_eq cs (by omega) hl
        obtain ⟨o1, o2⟩ := most_l0 w h cs (by omega) cs.length 0 (-1) (by omega) (by omega) (fun j hj => by omega) (.inl rfl)
        have sfail : Ev (fun f => spec_l17Most.l0 f [⟨w, h, cs⟩] (-1) 0) (-1) → Ev (fun f => spec_l17Ok.j0 f [⟨w, h, cs⟩] false) false := fun e => by
          have e2 : Ev (fun f => spec_l17Most.f f [⟨w, h, cs⟩]) (-1) := e
          have e3 : Ev (fun f => spec_l17Ok.l0 f [⟨w, h, cs⟩] (-1) 0) false := Ev.some_eq fun f => by simp only [spec_l17Ok.l0]; rw [if_neg (by omega)]; rfl
          refine Ev.step1 e2 e3 (fun f hf => ?_)
          simp only [spec_l17Ok.j0, hf, Option.bind_some]; rfl
        by_cases hall : ∀ j, j < cs.length → 0 ≤ cs.getD j 0 ∧ cs.getD j 0 ≤ 35
        · have hmem : ∀ c ∈ cs, 0 ≤ c ∧ c ≤ 35 := fun c hc => by
            obtain ⟨j, hj, rfl⟩ := List.getElem_of_mem hc
            have := hall j hj
            rwa [List.getD_eq_getElem?_getD, List.getElem?_eq_getElem hj] at this
          obtain ⟨M, m1, m2, m3⟩ := o1 (fun j _ hj => hall j hj)
          have hM : M = ma := by
            rcases m2 with rfl | m2
            · have := hmem _ b2; have := m1 _ b2; omega
            · have := m1 _ b2; have := b3 _ m2; omega
          subst hM
          have hMr := hmem _ b2
          have hmi := hmem _ a2
          have ti : Ev (fun f => impl_tiles.f f w h cs) (M + 1) := by
            unfold impl_tiles.f
            refine Ev.bind b1 ?_
            rw [w64 (x := M + 1) (by omega) (by omega)]; exact Ev.now _
          have ij : ∀ R, Ev (fun f => impl_ValidTiling.l0 f (M + 1) 0 w h cs) R → Ev (fun f => impl_ValidTiling.j0 f false w h cs) R := fun R hR => by
            have k1 : Ev (fun f => impl_ValidTiling.j1 f false w h cs) R := Ev.step1 ti hR (fun f hf => by simp only [impl_ValidTiling.j1, hf, Option.bind_some]; rfl)
            refine Ev.step2 a1 b1 k1 (fun f hf hg => ?_)
            simp only [impl_ValidTiling.j0, hf, hg, Option.bind_some]; rw [if_neg Bool.false_ne_true, if_neg (by omega), decide_eq_false (by omega)]
          obtain ⟨p1, p2⟩ := most_l1 w h cs (by omega) M hMr (M + 1).toNat 0 (by omega)
          by_cases hp : ∀ j : Nat, 0 ≤ j → (j : Int) ≤ M → (j : Int) ∈ cs
          · obtain ⟨R, r1, r2⟩ := loops_same w h ht cs h3 M hMr (fun j hj => hp j (Nat.zero_le _) hj) (M + 1).toNat 0 (by omega)
            have e2 : Ev (fun f => spec_l17Most.f f [⟨w, h, cs⟩]) (M + 1) := m3 _ (p1 hp)
            refine ⟨R, Ev.step1 e2 r1 (fun f hf => ?_), ij R r2, fun _ => ⟨ht, h3, hmem, M, hMr, b2, b3, e2, ti⟩⟩
            simp only [spec_l17Ok.j0, hf, Option.bind_some]; rfl
          · have r2 := loops_miss w h ht cs h3 M hMr (M + 1).toNat 0 (by omega) hp
            exact ⟨false, sfail (m3 _ (p2 hp)), ij false r2, by simp⟩
        · refine ⟨false, sfail (o2 (fun h => hall (fun j hj => h j (Nat.zero_le _) hj))), ?_, by simp⟩
          by_cases hmi : mi < 0
          · refine Ev.step1 a1 j1 (fun f hf => ?_)
            simp only [impl_ValidTiling.j0, hf, Option.bind_some]; rw [if_neg Bool.false_ne_true, if_pos hmi]
          · have hma : ma ≥ 36 := by
              rcases Int.lt_or_le ma 36 with hlt | hge
              · exact absurd (fun j hj => by
                  have q1 := a3 _ (getD_mem 0 hj)
                  have q2 := b3 _ (getD_mem 0 hj)
                  omega) hall
              · exact hge
            refine Ev.step2 a1 b1 j1 (fun f hf hg => ?_)
            simp only [impl_ValidTiling.j0, hf, hg, Option.bind_some]; rw [if_neg Bool.false_ne_true, if_neg hmi, decide_eq_true hma]
      · simp only [show ((cs.length : Int) != w * h) = true by simp [h3]]; exact ⟨false, s1, i1, by simp⟩
    · simp only [if_neg h2]; exact ⟨false, s1, i1, by simp⟩
  · simp only [if_neg h1]; exact ⟨false, s1, i1, by simp⟩
theorem szT_le (w h : Int) (cs : List Int) (hl : cs.length ≤ 9223372036854775807) (a : Int) (h0 : 0 ≤ a) (h1 : a ≤ 1048576) : ∃ r, laws_szTiling.f w h cs a = some r ∧ (0 ≤ r → (cs.length : Int) ≤ a) ∧ r ≤ 1048576 := by
  unfold laws_szTiling.f laws_szInt64S.f
  have hw : wrap64 (a - (cs.length : Int)) = a - (cs.length : Int) := w64 (by omega) (by omega)
  by_cases h : wrap64 (a - (cs.length : Int)) < 0
  · rw [if_pos h]; exact ⟨-1, rfl, by omega, by omega⟩
  · rw [if_neg h]; simp only [Option.bind_some]; rw [if_neg h]; exact ⟨_, rfl, by omega, by omega⟩
theorem toT_eq (w h : Int) (cs : List Int) (hl : cs.length ≤ 1048576) : Ev (fun k => laws_toTiling.f k w h cs) (w, h, cs) := by
  unfold laws_toTiling.f
  exact Ev.bind (toS_eq cs hl) (Ev.now _)
theorem eqT_same (w h : Int) (cs : List Int) (hl : cs.length ≤ 1048576) : Ev (fun k => laws_eqTiling.f k w h cs w h cs) true := by
  unfold laws_eqTiling.f
  simp only [if_true]
  exact Ev.bind (eqS_same cs (by omega)) (Ev.now _)
def Inj (s : List Int) : Prop := ∀ j k, j < s.length → k < s.length → s.getD j 0 = s.getD k 0 → j = k
theorem mem_at {s : List Int} {c : Int} (h : c ∈ s) : ∃ p, p < s.length ∧ s.getD p 0 = c := by
  obtain ⟨p, hp, rfl⟩ := List.getElem_of_mem h
  exact ⟨p, hp, by rw [List.getD_eq_getElem?_getD, List.getElem?_eq_getElem hp]; rfl⟩
theorem app_l (s : List Int) (c : Int) (j : Nat) (h : j < s.length) : (s ++ [c]).getD j 0 = s.getD j 0 := by
  rw [List.getD_eq_getElem?_getD, List.getD_eq_getElem?_getD, List.getElem?_append_left h]
theorem app_r (s : List Int) (c : Int) : (s ++ [c]).getD s.length 0 = c := by
  rw [List.getD_eq_getElem?_getD, List.getElem?_concat_length]; rfl
theorem set_same (s : List Int) (i : Nat) (v : Int) (h : i < s.length) : (s.set i v).getD i 0 = v := by
  rw [List.getD_eq_getElem?_getD, List.getElem?_set_self h]; rfl
theorem set_other (s : List Int) (i j : Nat) (v : Int) (h : i ≠ j) : (s.set i v).getD j 0 = s.getD j 0 := by
  rw [List.getD_eq_getElem?_getD, List.getD_eq_getElem?_getD, List.getElem?_set_ne h]
theorem inner (cs seen out : List Int) (i p : Nat) (hs : Inj seen) (hl : seen.length ≤ 1000000) (ho : out.length ≤ 1000000) (hi : i < cs.length) (hcl : cs.length ≤ 1000000) (hp : p < seen.length) (hpc : seen.getD p 0 = cs.getD i 0) (r : List Int)
    (hr : Ev (fun k => spec_l17Normal.l0 k cs seen (out ++ [(p : Int)]) ((i + 1 : Nat) : Int)) r) : Ev (fun k => spec_l17Normal.l1 k cs seen out (i : Int) 0) r := by
  have h := down (n := seen.length) (Q := fun j => (j ≤ p → Ev (fun k => spec_l17Normal.l1 k cs seen out (i : Int) (j : Int)) r) ∧ (p < j → Ev (fun k => spec_l17Normal.l1 k cs seen (out ++ [(p : Int)]) (i : Int) (j : Int)) r)) ?_ ?_
  · exact h.1 (Nat.zero_le _)
  · refine ⟨fun h => by omega, fun _ => Ev.step (fun k => ?_) hr⟩
    simp only [spec_l17Normal.l1]; rw [if_neg (by omega), wsucc (by omega)]
  · intro j hj ⟨ih1, ih2⟩
    constructor
    · intro hjp
      by_cases e : j = p
      · subst e
        refine Ev.step (fun k => ?_) (ih2 (by omega))
        simp only [spec_l17Normal.l1, rd_nat]; rw [if_pos (by omega), if_pos (by omega), if_pos (by omega), if_pos (by omega), if_pos hpc, if_pos (by omega), wsucc (by omega)]
      · refine Ev.step (fun k => ?_) (ih1 (by omega))
        simp only [spec_l17Normal.l1, rd_nat]; rw [if_pos (by omega), if_pos (by omega), if_pos (by omega), if_pos (by omega), if_neg (fun h => e (hs j p hj hp (h.trans hpc.symm))), wsucc (by omega)]
    · intro hjp
      refine Ev.step (fun k => ?_) (ih2 (by omega))
      simp only [spec_l17Normal.l1, rd_nat]; rw [if_pos (by omega), if_pos (by omega), if_pos (by omega), if_pos (by omega), if_neg (fun h => absurd (hs j p hj hp (h.trans hpc.symm)) (by omega)), wsucc (by omega)]
theorem normal_same (w h : Int) (cs : List Int) (hl : cs.length ≤ 1000000) (M : Int) (hM : 0 ≤ M ∧ M ≤ 35) (hc : ∀ c ∈ cs, 0 ≤ c ∧ c ≤ M) :
    ∃ r : List Int, Ev (fun k => spec_l17Normal.f k cs) r ∧ Ev (fun k => impl_normal.l0 k (List.replicate (M + 1).toNat 0) 0 cs (cs.length : Int) 0 w h []) (w, h, r) ∧ r.length ≤ cs.length := by
  have hh := down (n := cs.length) (Q := fun i => ∀ seen out tab : List Int, tab.length = (M + 1).toNat → out.length = i → seen.length ≤ i → Inj seen →
      (∀ c, 0 ≤ c → c ≤ M → (c ∉ seen → tab.getD c.toNat 0 = 0) ∧ (∀ p, p < seen.length → seen.getD p 0 = c → tab.getD c.toNat 0 = (p : Int) + 1)) →
      ∃ r : List Int, Ev (fun k => spec_l17Normal.l0 k cs seen out (i : Int)) r ∧ Ev (fun k => impl_normal.l0 k tab (seen.length : Int) cs (cs.length : Int) (i : Int) w h out) (w, h, r) ∧ r.length ≤ cs.length) ?_ ?_
  · refine hh [] [] _ (by simp) rfl (Nat.le_refl _) (fun j k hj => absurd hj (by simp)) (fun c c0 c1 => ⟨fun _ => ?_, fun p hp => absurd hp (by simp)⟩)
    rw [List.getD_eq_getElem?_getD, List.getElem?_replicate, if_pos (by omega)]; rfl
  · intro seen out tab ht ho hs hinj hv
    refine ⟨out, Ev.some_eq fun k => ?_, Ev.some_eq fun k => ?_, by omega⟩
    · simp only [spec_l17Normal.l0]; rw [if_neg (by omega)]
    · simp only [impl_normal.l0]; rw [if_neg (by omega)]
  · intro i hi ih seen out tab ht ho hs hinj hv
    obtain ⟨c, hcd⟩ : ∃ c, c = cs.getD i 0 := ⟨_, rfl⟩
    have hcm := hc _ (getD_mem 0 hi)
    rw [← hcd] at hcm
    have hlt : c.toNat < tab.length := by omega
    by_cases hmem : c ∈ seen
    · obtain ⟨p, hp, hpc⟩ := mem_at hmem
      have htv := (hv c hcm.1 hcm.2).2 p hp hpc
      obtain ⟨r, r1, r2, r3⟩ := ih seen (out ++ [(p : Int)]) tab ht (by rw [List.length_append, List.length_singleton]; omega) (by omega) hinj hv
      have hin := inner cs seen out i p hinj (by omega) (by omega) hi hl hp (hpc.trans hcd) r r1
      have hj : Ev (fun k => spec_l17Normal.j1 k cs seen out (i : Int)) r := Ev.step (fun k => by simp only [spec_l17Normal.j1]) hin
      refine ⟨r, Ev.step1 (has_eq seen c (by omega)) hj (fun k hk => ?_), Ev.step (fun k => ?_) r2, r3⟩
      · simp only [spec_l17Normal.l0, rd_nat, ← hcd, hk, Option.bind_some]; rw [if_pos (by omega), if_pos (by omega), if_pos (decide_eq_true hmem)]
      · simp only [impl_normal.l0, rd_nat, ← hcd]
        rw [show rd tab c = (p : Int) + 1 from htv, if_pos (by omega), if_pos (by omega), if_pos (by omega), if_pos hcm.1, if_pos (by omega), if_neg (by omega), if_pos (by omega), w64 (x := (p : Int) + 1 - 1) (by omega) (by omega), show (p : Int) + 1 - 1 = p by omega, wsucc (by omega)]
    · have htv := (hv c hcm.1 hcm.2).1 hmem
      have hinj' : Inj (seen ++ [c]) := by
        intro j k hj hk he
        rw [List.length_append, List.length_singleton] at hj hk
        by_cases h1 : j < seen.length
        · by_cases h2 : k < seen.length
          · rw [app_l _ _ _ h1, app_l _ _ _ h2] at he; exact hinj j k h1 h2 he
          · obtain rfl : k = seen.length := by omega
            rw [app_l _ _ _ h1, app_r] at he
            exact absurd (he ▸ getD_mem 0 h1) hmem
        · obtain rfl : j = seen.length := by omega
          by_cases h2 : k < seen.length
          · rw [app_r, app_l _ _ _ h2] at he
            exact absurd (he ▸ getD_mem 0 h2) hmem
          · omega
      obtain ⟨r, r1, r2, r3⟩ := ih (seen ++ [c]) (out ++ [(seen.length : Int)]) (tab.set c.toNat ((seen.length : Int) + 1)) (by rw [List.length_set]; exact ht) (by rw [List.length_append, List.length_singleton]; omega) (by rw [List.length_append, List.length_singleton]; omega) hinj' (fun d d0 d1 => by
        by_cases hdc : d = c
        · subst hdc
          refine ⟨fun hn => absurd (List.mem_append_right _ (List.mem_singleton.2 rfl)) hn, fun p hp hpd => ?_⟩
          rw [set_same _ _ _ hlt]
          rw [List.length_append, List.length_singleton] at hp
          by_cases h1 : p < seen.length
          · rw [app_l _ _ _ h1] at hpd; exact absurd (hpd ▸ getD_mem 0 h1) hmem
          · obtain rfl : p = seen.length := by omega
            rfl
        · rw [set_other _ _ _ _ (by omega)]
          refine ⟨fun hn => (hv d d0 d1).1 (fun hm => hn (List.mem_append_left _ hm)), fun p hp hpd => ?_⟩
          rw [List.length_append, List.length_singleton] at hp
          by_cases h1 : p < seen.length
          · rw [app_l _ _ _ h1] at hpd; exact (hv d d0 d1).2 p h1 hpd
          · obtain rfl : p = seen.length := by omega
            rw [app_r] at hpd; exact absurd hpd.symm hdc)
      have hin := inner cs (seen ++ [c]) out i seen.length hinj' (by rw [List.length_append, List.length_singleton]; omega) (by omega) hi hl (by rw [List.length_append, List.length_singleton]; omega) ((app_r seen c).trans hcd) r r1
      have hj : Ev (fun k => spec_l17Normal.j1 k cs (seen ++ [c]) out (i : Int)) r := Ev.step (fun k => by simp only [spec_l17Normal.j1]) hin
      refine ⟨r, Ev.step1 (has_eq seen c (by omega)) hj (fun k hk => ?_), Ev.step (fun k => ?_) r2, r3⟩
      · simp only [spec_l17Normal.l0, rd_nat, ← hcd, hk, Option.bind_some]; rw [if_pos (by omega), if_pos (by omega), if_neg (by simpa using hmem), if_pos (by omega)]
      · simp only [impl_normal.l0, rd_nat, ← hcd, Option.bind_some]
        rw [show rd tab c = 0 from htv, if_pos (by omega), if_pos (by omega), if_pos (by omega), if_pos hcm.1, if_pos (by omega), if_pos rfl, if_pos (by omega), w64 (x := (seen.length : Int) + 1) (by omega) (by omega),
          show rd (tab.set c.toNat ((seen.length : Int) + 1)) c = (seen.length : Int) + 1 from set_same _ _ _ hlt, w64 (x := (seen.length : Int) + 1 - 1) (by omega) (by omega), show (seen.length : Int) + 1 - 1 = (seen.length : Int) by omega, wsucc (by omega), List.length_append, List.length_singleton]
        rfl
theorem normal_both (w h : Int) (cs : List Int) (hl : cs.length ≤ 1000000) (M : Int) (hM : 0 ≤ M ∧ M ≤ 35) (hc : ∀ c ∈ cs, 0 ≤ c ∧ c ≤ M) (ht : Ev (fun f => impl_tiles.f f w h cs) (M + 1)) :
    ∃ r : List Int, Ev (fun k => spec_l17Normal.f k cs) r ∧ Ev (fun k => impl_normal.f k w h cs) (w, h, r) ∧ r.length ≤ cs.length := by
  obtain ⟨r, r1, r2, r3⟩ := normal_same w h cs hl M hM hc
  refine ⟨r, r1, ?_, r3⟩
  unfold impl_normal.f
  refine Ev.bind ht ?_
  simp only [if_pos (show (0 : Int) ≤ M + 1 by omega), if_pos (show (M + 1).toNat ≤ 35184372088832 by omega)]
  exact r2
theorem ints_both (xs ys : List Int) (hx : xs.length ≤ 1048576) : ∃ r, Ev (fun k => spec_l00Same.f k xs ys) r ∧ Ev (fun k => slices_Equal_int64_int64.f k xs ys) r := by
  unfold spec_l00Same.f slices_Equal_int64_int64.f
  by_cases hl : (xs.length : Int) = (ys.length : Int)
  · simp only [if_pos hl]
    refine down (n := xs.length) (Q := fun i => ∃ r, Ev (fun k => spec_l00Same.l0 k xs ys (i : Int)) r ∧ Ev (fun k => slices_Equal_int64_int64.l0 k xs ys (xs.length : Int) (i : Int)) r) ?_ ?_
    · refine ⟨true, Ev.some_eq fun k => ?_, Ev.some_eq fun k => ?_⟩
      · simp only [spec_l00Same.l0]; rw [if_neg (by omega)]
      · simp only [slices_Equal_int64_int64.l0]; rw [if_neg (by omega)]
    · intro i hi ⟨r, r1, r2⟩
      by_cases he : rd xs (i : Int) = rd ys (i : Int)
      · refine ⟨r, Ev.step (fun k => ?_) r1, Ev.step (fun k => ?_) r2⟩
        · simp only [spec_l00Same.l0]; rw [if_pos (by omega), if_pos (by omega), if_pos (by omega), if_pos he, wsucc (by omega)]
        · simp only [slices_Equal_int64_int64.l0]; rw [if_pos (by omega), if_pos (by omega), if_pos (by omega), if_pos (by omega), if_pos he, wsucc (by omega)]
      · refine ⟨false, Ev.some_eq fun k => ?_, Ev.some_eq fun k => ?_⟩
        · simp only [spec_l00Same.l0]; rw [if_pos (by omega), if_pos (by omega), if_pos (by omega), if_neg he]
        · simp only [slices_Equal_int64_int64.l0]; rw [if_pos (by omega), if_pos (by omega), if_pos (by omega), if_pos (by omega), if_neg he]
  · simp only [if_neg hl]; exact ⟨false, Ev.now _, Ev.now _⟩
theorem both (w h : Int) (cs : List Int) (hl : cs.length ≤ 1048576) (w' h' : Int) (ds : List Int) (hl' : ds.length ≤ 1048576) : ∃ r, Ev (fun k => spec_SameTiling.f k w h cs w' h' ds) r ∧ Ev (fun k => impl_SameTiling.f k w h cs w' h' ds) r := by
  obtain ⟨r, e1, e2, e3⟩ := tiling_same w h cs hl
  obtain ⟨q, f1, f2, f3⟩ := tiling_same w' h' ds hl'
  unfold spec_SameTiling.f impl_SameTiling.f
  cases r with
  | false => exact ⟨false, Ev.bind e1 (Ev.now _), Ev.bind e2 (Ev.now _)⟩
  | true =>
    cases q with
    | false => exact ⟨false, Ev.bind e1 (Ev.bind f1 (Ev.now _)), Ev.bind e2 (Ev.bind f2 (Ev.now _))⟩
    | true =>
      obtain ⟨ht, hcs, hmem, M, hM, hMm, hMx, t1, t2⟩ := e3 rfl
      have hwh := wh_le w h ht
      obtain ⟨r, r1, r2, r3⟩ := normal_both w h cs (by omega) M hM (fun c hc => ⟨(hmem c hc).1, hMx c hc⟩) t2
      obtain ⟨ht', hcs', hmem', M', hM', hMm', hMx', t1', t2'⟩ := f3 rfl
      have hwh' := wh_le w' h' ht'
      obtain ⟨q, q1, q2, q3⟩ := normal_both w' h' ds (by omega) M' hM' (fun c hc => ⟨(hmem' c hc).1, hMx' c hc⟩) t2'
      obtain ⟨z, z1, z2⟩ := ints_both r q (by omega)
      by_cases hw : w = w'
      · by_cases hh : h = h'
        · refine ⟨z, Ev.bind e1 (Ev.bind f1 ?_), Ev.bind e2 (Ev.bind f2 ?_)⟩
          · simp only [if_true, if_pos hw, if_pos hh]; exact Ev.bind r1 (Ev.bind q1 (Ev.bind z1 (Ev.now _)))
          · simp only [if_true, if_pos hw, if_pos hh]; exact Ev.bind r2 (Ev.bind q2 (Ev.bind z2 (Ev.now _)))
        · refine ⟨false, Ev.bind e1 (Ev.bind f1 ?_), Ev.bind e2 (Ev.bind f2 ?_)⟩
          · simp only [if_true, if_pos hw, if_neg hh]; exact Ev.now _
          · simp only [if_true, if_pos hw, if_neg hh]; exact Ev.now _
      · refine ⟨false, Ev.bind e1 (Ev.bind f1 ?_), Ev.bind e2 (Ev.bind f2 ?_)⟩
        · simp only [if_true, if_neg hw]; exact Ev.now _
        · simp only [if_true, if_neg hw]; exact Ev.now _
theorem FnExactSameTiling : laws_FnExactSameTiling.Pure := by
  intro w h cs w' h' ds hB hC
  obtain ⟨n, hn, hn1, hn2⟩ := szT_le w h cs hB.2.2.1 1048576 (by omega) (by omega)
  suffices hh : Ev (fun k => laws_FnExactSameTiling.f k w h cs w' h' ds) true from hh.rounds
  unfold laws_FnExactSameTiling.f
  simp only [hn, Option.bind_some]
  refine Ev.cond (fun _ => Ev.now _) (fun h0 => ?_)
  obtain ⟨m, hm, hm1, _⟩ := szT_le w' h' ds hC.2.2.1 n (by omega) (by omega)
  simp only [hm, Option.bind_some]
  refine Ev.cond (fun _ => Ev.now _) (fun h0' => ?_)
  have hl : cs.length ≤ 1048576 := by have := hn1 (by omega); omega
  have hl' : ds.length ≤ 1048576 := by have := hm1 (by omega); omega
  have ht := toT_eq w h cs hl
  have ht' := toT_eq w' h' ds hl'
  obtain ⟨r, e1, e2⟩ := both w h cs hl w' h' ds hl'
  refine Ev.bind ht (Ev.bind ht' (Ev.bind e1 (Ev.bind ht (Ev.bind ht' (Ev.bind e2 ?_)))))
  simp only [bne_self_eq_false, Bool.false_eq_true, if_false]
  refine Ev.bind ht (Ev.bind (eqT_same w h cs hl) ?_)
  simp only [if_true]
  refine Ev.bind ht' (Ev.bind (eqT_same w' h' ds hl') ?_)
  simp only [if_true]; exact Ev.now _
end Go.Proofs.Ytpkjalhfioajjaa.Pure

/- An append to an element's row: the row is taken out of the element. No condition. -/
import Derived.Test.YtedakffelgmmnaaDoorAnI
set_option linter.unusedVariables false
set_option linter.unusedSimpArgs false
namespace Go.Proofs.YtedakffelgmmnaaDoorM
open Go Go.RowKit
section
variable {P : Program} {w : World} {ρ : Nat → Value} {F : Nat → Nat → Prop} {N : Nat} {w0 : World} {S : Fx} {s : St} {a : Act} {o : Oper}
theorem app_scal {F0 : Nat → Prop} {v : Value} {T ty e : TypeId} {z b : Nat} {zz : List Value} {g : Bool} {css css2 : List (List DV)} {y : Value} (hmem : Own P w F0 (.row e css) v) (hs : ∃ news : List Value, news.length = css2.length * P.cellsOf e ∧ (∀ cs ∈ css2, cs.length = P.cellsOf e) ∧ (∀ u ∈ news, u.oneCell' = true) ∧
    (∀ i j cs d u, css2[i]? = some cs → cs[j]? = some d → news[i * P.cellsOf e + j]? = some u → Own P w (fun _ => False) d u) ∧ ((y = .slice none 0 0 ∧ css2 = []) ∨ ∃ ad c, y = .slice (some ad) css2.length c ∧ ∀ j u, news[j]? = some u → w.cell? (ad.add j) = some u)) (hu : P.underlying T = some (.slice e)) (hti : tyi P e = some (z, b, zz, g)) (hzz : zz.length = z)
    (h63 : css.length + css2.length ≤ maxLen) (hb : (css.length + css2.length) * b ≤ 140737488355328) :
    ∃ v' w' Fκ, (Builtin.append_ #[T, T] ty #[v, y]).run P w = .ok v' w' ∧ Own P w' Fκ (.row e (css ++ css2)) v' ∧ Fr F0 w w' ∧ ∀ k, Fκ k → F0 k ∨ w.heap.size ≤ k := by
  have hltm := hmem.lt
  obtain ⟨fl, Fs, how, hlen, hcc, hdj, hbk, hrg, hF, hpos⟩ := Own.row_inv hmem
  obtain ⟨news, g1, g2, g3, g4, g8⟩ := hs
  obtain ⟨i, dd, v0, q1, q2, q3, q4, q5, q6, q7⟩ := tyi_some hti
  have hce : P.cellsOf e = z := cellsOf_tyi hti
  rcases g8 with ⟨rfl, rfl⟩ | ⟨ad, c, rfl, g8⟩
  · have := run_append_owned_none (P := P) (w := w) 0 T ty e i (P.cellsOf e) hu q1 v css.length fl how
    exact ⟨_, _, F0, this, by rw [List.append_nil]; exact hmem, Fr.refl _ _, fun k hk => .inl hk⟩
  · obtain ⟨v', w', r1, r2, r3, _, r5⟩ := run_append_own_at (P := P) w 0 T ty e i v0 (P.cellsOf e) b hu q1 q3 (by rw [q4, hce]) q5 (by rw [← Array.length_toList, q6, hzz, hce]) hpos v css.length fl how ad css2.length c news g1 g8 g3 h63 hb (Nat.zero_le _)
    have hold : ∀ k, k < w.heap.size → v.ownBlock ≠ some k → w'.heap[k]? = w.heap[k]? := fun k hk hne => (Fr.of_grown r3).block k hk hne
    have hv' : ∀ k, v'.ownBlock = some k → v.ownBlock = some k ∨ w.heap.size ≤ k := fun k hk => by
      rcases r5 with h | h
      · exact .inl (h ▸ hk)
      · rw [h] at hk; injection hk with hk; exact .inr (by omega)
    have hFs : ∀ i j k, Fs i j k → F0 k ∧ k < w.heap.size ∧ v.ownBlock ≠ some k := fun i j k h => ⟨(hF k).2 (.inr ⟨i, j, h⟩), hltm k ((hF k).2 (.inr ⟨i, j, h⟩)), hbk i j k h⟩
    refine ⟨v', w', fun k => v'.ownBlock = some k ∨ ∃ i j, (if i < css.length then Fs i j k else False), r1, ?_, (Fr.of_grown r3).mono (fun x hx _ => Own.head hmem hx), fun k hk => ?_⟩
    · refine .row _ e _ v' (fl ++ news) (fun i j k => if i < css.length then Fs i j k else False) (by rw [List.length_append]; exact r2) (fun cs hcs => ?_) (fun i j cs d u h1 h2 h3 => ?_) (fun i1 j1 i2 j2 k h1 h2 => ?_) (fun i1 j1 k h1 he => ?_) (fun i1 j1 k h1 => ?_) (fun k => Iff.rfl) hpos
      · rcases List.mem_append.1 hcs with h | h
        · exact hlen cs h
        · exact g2 cs h
      · have hmv : ∀ {G : Nat → Prop} {d : DV} {u : Value}, Own P w G d u → (∀ k, G k → k < w.heap.size ∧ v.ownBlock ≠ some k) → Own P w' G d u := fun ho hg => ho.move (fun k hk => hold k (hg k hk).1 (hg k hk).2)
        by_cases hi : i < css.length
        · simp only [if_pos hi]
          rw [List.getElem?_append_left hi] at h1
          have hj : j < P.cellsOf e := by rw [← hlen cs (List.mem_of_getElem? h1)]; exact (List.getElem?_eq_some_iff.1 h2).1
          have : i * P.cellsOf e + P.cellsOf e ≤ css.length * P.cellsOf e := by rw [← Nat.succ_mul]; exact Nat.mul_le_mul_right _ hi
          rw [List.getElem?_append_left (by rw [how.1]; omega)] at h3
          exact hmv (hcc i j cs d u h1 h2 h3) (fun k hk => (hFs i j k hk).2)
        · simp only [if_neg hi]
          rw [List.getElem?_append_right (by omega)] at h1
          have : i * P.cellsOf e = css.length * P.cellsOf e + (i - css.length) * P.cellsOf e := by rw [← Nat.add_mul]; congr 1; omega
          rw [List.getElem?_append_right (by rw [how.1]; omega), how.1, show i * P.cellsOf e + j - css.length * P.cellsOf e = (i - css.length) * P.cellsOf e + j from by omega] at h3
          exact hmv (g4 _ j cs d u h1 h2 h3) (fun k hk => hk.elim)
      · split at h1 <;> split at h2
        · exact hdj _ _ _ _ k h1 h2
        · exact h2.elim
        · exact h1.elim
        · exact h1.elim
      · have hb2 : k < w.heap.size ∧ v.ownBlock ≠ some k := by
          split at h1
          · exact (hFs _ _ k h1).2
          · exact h1.elim
        rcases hv' k he with h | h
        · exact hb2.2 h
        · omega
      · split at h1
        · rename_i hi
          obtain ⟨cs, p1, p2⟩ := hrg _ _ k h1
          exact ⟨cs, by rw [List.getElem?_append_left hi]; exact p1, p2⟩
        · exact h1.elim
    · rcases hk with hk | ⟨i1, j1, hk⟩
      · rcases hv' k hk with h | h
        · exact .inl (Own.head hmem h)
        · exact .inr h
      · split at hk
        · exact .inl (hFs _ _ k hk).1
        · exact hk.elim

theorem s_appU {x y : Operand} {T e e1 : TypeId} {z b : Nat} {zz : List Value} {g : Bool} {κ κ2 κ3 i j n n2 d : Nat} {css css1 css2 : List (List DV)} {cs : List DV} (ho : o.op = .call { callee := .builtin .append, args := #[x, y], argTypes := #[T, T] }) (hx : s.ev x = .c (.sub κ i j n)) (hy : s.ev y = .c (.own κ2 n2)) (hm : s.m κ = some (.row e css)) (hi : css[i]? = some cs) (hj : cs[j]? = some (.row e1 css1)) (hm2 : s.m κ2 = some (.row e1 css2)) (hne : κ2 ≠ κ)
    (hv2 : ∀ cs ∈ css2, cs.all isV = true) (h3 : s.m κ3 = none) (hbig : 100 ≤ κ3) (hu : P.underlying T = some (.slice e1)) (hti : tyi P e1 = some (z, b, zz, g)) (hzz : zz.length = z) (h63 : css1.length + css2.length ≤ maxLen) (hb : (css1.length + css2.length) * b ≤ 140737488355328) (hd : o.dst = some d) (hN : d < N) :
    SoundOp P N w0 S o s ⟨putT (killT s.t [] [κ]) (some (d, .c (.own κ3 (css1 ++ css2).length))), putK (killK s.m [] [κ]) [(κ3, .row e1 (css1 ++ css2))] [(κ, some (.row e (css.set i (cs.set j .any))))]⟩ := by
  rintro a w ⟨ρ, F, hr⟩
  have hx1 := hr.ev x
  have hy1 := hr.ev y
  rw [hx] at hx1
  rw [hy] at hy1
  obtain ⟨_, hy2, _⟩ := rel_own hy1
  cases hx1 with
  | c hx1 =>
  have hx2 : SubRel P w s.m ρ κ i j n (a.eval x) := hx1
  have hmem := hr.mem κ _ hm
  obtain ⟨u0, F0, k1, k2, k3, k4⟩ := Own.inner hmem hi hj
  have hux : a.eval x = u0 := by
    obtain ⟨e', css', cs', e2, css3, g', n', c', h1, h2, h3, h4, h5, h6, h7⟩ := hx2
    rw [hm] at h1
    injection h1 with h1
    injection h1 with h1 h1'
    subst h1 h1'
    have := k3 g' n' c' h5
    rw [h6] at this
    exact Option.some.inj this
  obtain ⟨fl2, Fs2, how2, hlen2, hcc2, _, _, _, _, hpos2⟩ := Own.row_inv (hr.mem κ2 _ hm2)
  have hisv : ∀ i j cs d u, css2[i]? = some cs → cs[j]? = some d → fl2[i * P.cellsOf e1 + j]? = some u → Own P w (fun _ => False) d u ∧ u.oneCell' = true := fun i' j' cs' d' u' h1 h2 h3 => by
    have hv := List.all_eq_true.1 (hv2 cs' (List.mem_of_getElem? h1)) d' (List.mem_of_getElem? h2)
    have ho2 := hcc2 i' j' cs' d' u' h1 h2 h3
    cases d' with
    | v x' =>
      obtain ⟨rfl, hone, _⟩ := ho2.v_inv
      exact ⟨.v _ hone, hone⟩
    | row => cases hv
    | ro => cases hv
    | fn => cases hv
    | any => cases hv
  have hsrc : ∃ news : List Value, news.length = css2.length * P.cellsOf e1 ∧ (∀ cs ∈ css2, cs.length = P.cellsOf e1) ∧ (∀ u ∈ news, u.oneCell' = true) ∧
      (∀ i j cs d u, css2[i]? = some cs → cs[j]? = some d → news[i * P.cellsOf e1 + j]? = some u → Own P w (fun _ => False) d u) ∧ ((ρ κ2 = .slice none 0 0 ∧ css2 = []) ∨ ∃ ad c, ρ κ2 = .slice (some ad) css2.length c ∧ ∀ j u, fl2[j]? = some u → w.cell? (ad.add j) = some u) := by
    refine ⟨fl2, how2.1, hlen2, fun u hu => ?_, fun i' j' cs' d' u' h1 h2 h3 => (hisv i' j' cs' d' u' h1 h2 h3).1, ?_⟩
    · obtain ⟨q, hq, rfl⟩ := List.mem_iff_getElem.1 hu
      have hq2 : q < css2.length * P.cellsOf e1 := by rw [← how2.1]; exact hq
      have hi2 : q / P.cellsOf e1 < css2.length := (Nat.div_lt_iff_lt_mul hpos2).2 hq2
      have hj2 : q % P.cellsOf e1 < P.cellsOf e1 := Nat.mod_lt _ hpos2
      have hl2 := hlen2 _ (List.getElem_mem hi2)
      have he : q / P.cellsOf e1 * P.cellsOf e1 + q % P.cellsOf e1 = q := by rw [Nat.mul_comm]; exact Nat.div_add_mod q _
      exact (hisv _ _ _ _ fl2[q] (List.getElem?_eq_getElem hi2) (List.getElem?_eq_getElem (by rw [hl2]; exact hj2)) (by rw [he]; exact List.getElem?_eq_getElem hq)).2
    · rcases how2.2 with ⟨q1, q2⟩ | ⟨g2, cap, cur, q1, _⟩
      · exact .inl ⟨q1, List.length_eq_zero_iff.1 q2⟩
      · exact .inr ⟨⟨g2, 0, none⟩, cap, q1, fun j' u' hu => how2.cells (g := g2) (by rw [q1]; rfl) j' u' hu⟩
  obtain ⟨news, hs1, hs2, hs3, hs4, hs5⟩ := hsrc
  obtain ⟨v', w', Fκ, r1, r2, r3, r4⟩ := app_scal (ty := o.type) (css2 := css2) k1 ⟨fl2, hs1 ▸ how2.1, hs2, fun u hu => by
      obtain ⟨q, hq, rfl⟩ := List.mem_iff_getElem.1 hu
      have hq2 : q < css2.length * P.cellsOf e1 := by rw [← how2.1]; exact hq
      have hi2 : q / P.cellsOf e1 < css2.length := (Nat.div_lt_iff_lt_mul hpos2).2 hq2
      have hj2 : q % P.cellsOf e1 < P.cellsOf e1 := Nat.mod_lt _ hpos2
      have hl2 := hlen2 _ (List.getElem_mem hi2)
      have he : q / P.cellsOf e1 * P.cellsOf e1 + q % P.cellsOf e1 = q := by rw [Nat.mul_comm]; exact Nat.div_add_mod q _
      exact (hisv _ _ _ _ fl2[q] (List.getElem?_eq_getElem hi2) (List.getElem?_eq_getElem (by rw [hl2]; exact hj2)) (by rw [he]; exact List.getElem?_eq_getElem hq)).2,
    fun i' j' cs' d' u' h1 h2 h3 => (hisv i' j' cs' d' u' h1 h2 h3).1, hs5⟩ hu hti hzz h63 hb
  have hκ3 : κ3 ≠ κ := fun he => by rw [he, hm] at h3; cases h3
  have hhole := k4 w' (fun _ => False) .any (fun k hk hn => r3.block k hk hn) (.any _ k1.one) (fun k hk => hk.elim)
  have hrows : Rows P w' [(κ, .row e (css.set i (cs.set j .any))), (κ3, .row e1 (css1 ++ css2))] (upd ρ κ3 v') (upd (upd F κ (fun k => (F κ k ∧ ¬ F0 k) ∨ False)) κ3 Fκ) := by
    have hlk : ∀ κ' c, lk [(κ, Cont.row e (css.set i (cs.set j .any))), (κ3, Cont.row e1 (css1 ++ css2))] κ' = some c → (κ' = κ ∧ c = .row e (css.set i (cs.set j .any))) ∨ (κ' = κ3 ∧ c = .row e1 (css1 ++ css2)) := fun κ' c hc => by
      have hc2 : cond (Nat.beq κ κ') (some (Cont.row e (css.set i (cs.set j .any)))) (cond (Nat.beq κ3 κ') (some (Cont.row e1 (css1 ++ css2))) none) = some c := hc
      by_cases h1 : κ = κ'
      · subst h1; rw [Nat.beq_refl] at hc2; injection hc2 with hc2; exact .inl ⟨rfl, hc2.symm⟩
      · rw [nb_ne h1] at hc2
        by_cases h2 : κ3 = κ'
        · subst h2
          have hc3 : cond (Nat.beq κ3 κ3) (some (Cont.row e1 (css1 ++ css2))) none = some c := hc2
          rw [Nat.beq_refl] at hc3; injection hc3 with hc3; exact .inr ⟨rfl, hc3.symm⟩
        · have hc3 : cond (Nat.beq κ3 κ') (some (Cont.row e1 (css1 ++ css2))) none = some c := hc2
          rw [nb_ne h2] at hc3; cases hc3
    have hdis : ∀ k, (F κ k ∧ ¬ F0 k) ∨ False → Fκ k → False := fun k h1 h2 => by
      rcases h1 with ⟨h1, h1'⟩ | h1
      · rcases r4 k h2 with h4 | h4
        · exact h1' h4
        · have := hmem.lt k h1; omega
      · exact h1
    refine ⟨fun κ' c hc => ?_, fun κ' κ'' k q1 q2 q3 q4 => ?_⟩
    · rcases hlk κ' c hc with ⟨rfl, rfl⟩ | ⟨rfl, rfl⟩
      · show Own P w' _ _ _
        rw [upd_ne _ _ (Ne.symm hκ3), upd_ne _ _ (Ne.symm hκ3), upd_same]
        exact hhole
      · show Own P w' _ _ _
        rw [upd_same, upd_same]
        exact r2
    · obtain ⟨c1, hc1⟩ := Option.ne_none_iff_exists'.1 q1
      obtain ⟨c2, hc2⟩ := Option.ne_none_iff_exists'.1 q2
      rcases hlk _ _ hc1 with ⟨rfl, _⟩ | ⟨rfl, _⟩ <;> rcases hlk _ _ hc2 with ⟨rfl, _⟩ | ⟨rfl, _⟩
      · rfl
      · rw [upd_ne _ _ (Ne.symm hκ3), upd_same] at q3
        rw [upd_same] at q4
        exact (hdis k q3 q4).elim
      · rw [upd_same] at q3
        rw [upd_ne _ _ (Ne.symm hκ3), upd_same] at q4
        exact (hdis k q4 q3).elim
      · rfl
  have hone : ∀ κ', lk [(κ, Cont.row e (css.set i (cs.set j .any)))] κ' ≠ none → κ' = κ := fun κ' h => by simpa using lk_key h
  have hlκ : lk [(κ, Cont.row e (css.set i (cs.set j .any)))] κ ≠ none := by
    have : lk [(κ, Cont.row e (css.set i (cs.set j .any)))] κ = some (.row e (css.set i (cs.set j .any))) := by show cond (Nat.beq κ κ) _ _ = _; rw [Nat.beq_refl]; rfl
    rw [this]; simp
  obtain ⟨ρ1, F1, hrel, hρ1⟩ := hr.turned (w1 := w') (ms := [(κ, .row e (css.set i (cs.set j .any))), (κ3, .row e1 (css1 ++ css2))]) (nk := [(κ3, .row e1 (css1 ++ css2))]) (ck := [(κ, .row e (css.set i (cs.set j .any)))]) id
    (r3.mono (fun k hk _ => ⟨κ, hlκ, k2 k hk⟩)) hrows (fun κ' k h1 h2 => by
      by_cases hκ' : κ' = κ3
      · subst hκ'
        rw [upd_same] at h2
        rcases r4 k h2 with h4 | h4
        · exact .inr ⟨κ, hlκ, k2 k h4⟩
        · exact .inl h4
      · rw [upd_ne _ _ hκ'] at h2
        by_cases hκ'' : κ' = κ
        · subst hκ''
          rw [upd_same] at h2
          exact .inr ⟨κ', hlκ, h2.elim (fun h => h.1) (fun h => h.elim)⟩
        · exfalso
          have := lk_key h1
          simp at this
          rcases this with h | h
          · exact hκ'' h
          · exact hκ' h) (fun κ' c hc => by
      obtain ⟨rfl, rfl⟩ := lk_one hc
      exact ⟨e, css, _, rfl, hm⟩) (fun κ' h => by
      obtain rfl := hone κ' h
      exact upd_ne _ _ (Ne.symm hκ3)) ⟨h3, True.intro⟩ ⟨by
      show cond (Nat.beq κ κ3) _ (cond (Nat.beq κ3 κ3) _ none) = _
      rw [nb_ne (Ne.symm hκ3), Nat.beq_refl]; rfl, True.intro⟩ ⟨by
      show cond (Nat.beq κ κ) _ _ = _
      rw [Nat.beq_refl]; rfl, True.intro⟩ (fun _ _ _ _ h => h) (fun κ' c hc => by
      obtain ⟨rfl, rfl⟩ := lk_one hc
      exact ⟨rfl, hbig⟩)
  unfold Oper.wp execOp
  have hx3 : a.eval x = u0 := hux
  simp only [ho, resolve, invoke, builtin, Sem.run_bind, Sem.run_pure, Result.andThen_ok, List.map_toArray, List.map_cons, List.map_nil, hx3, hy2, r1]
  show Rel P N w0 S _ (a.put o.dst _) _
  rw [hd, putT_upd]
  have hlk3 : lk [(κ3, Cont.row e1 (css1 ++ css2))] κ3 ≠ none := by
    have : lk [(κ3, Cont.row e1 (css1 ++ css2))] κ3 = some (.row e1 (css1 ++ css2)) := by show cond (Nat.beq κ3 κ3) _ _ = _; rw [Nat.beq_refl]; rfl
    rw [this]; simp
  have hv := hρ1 κ3 hlk3
  rw [show id κ3 = κ3 from rfl, upd_same] at hv
  exact ⟨ρ1, F1, hrel.put hN (.c ⟨⟨e1, _, by
    show putK _ [(κ3, Cont.row e1 (css1 ++ css2))] _ κ3 = _
    unfold putK
    have : lk [(κ3, Cont.row e1 (css1 ++ css2))] κ3 = some (.row e1 (css1 ++ css2)) := by show cond (Nat.beq κ3 κ3) _ _ = _; rw [Nat.beq_refl]; rfl
    rw [this], rfl⟩, hv.symm, r2.one⟩)⟩
end
section
variable {P : Program} {N : Nat} {w0 : World} {S : Fx} {o : Oper} {ops : Array Oper} {draw : Bool} {pre : List (Oper × Eff)} {rest : List Oper} {t : Nat → AV} {m : Nat → Option Cont} {K : St → Prop} {G : List (Operand × AV)} {d : Nat}
theorem a_appU {x y : Operand} {T e e1 : TypeId} {z b : Nat} {zz : List Value} {g : Bool} {κ κ2 i j n n2 n' : Nat} {css css1 css2 css' cssH : List (List DV)} {cs : List DV} (κ3 : Nat) (k : RM P N w0 S draw ops pre rest t m K o G [(x, .c (.sub κ i j n)), (y, .c (.own κ2 n2))] [(κ, .row e css), (κ2, .row e1 css2)] (some (d, .c (.own κ3 n'))) [(κ3, .row e1 css')] [(κ, some (.row e cssH))] [] [κ]) (hi : css[i]? = some cs) (hti : tyi P e1 = some (z, b, zz, g)) (h63 : n' ≤ maxLen) (hb : n' * b ≤ 140737488355328) (hv2 : ∀ cs ∈ css2, cs.all isV = true) (hu : P.underlying T = some (.slice e1)) (hc : css1 ++ css2 = css') (hn : css'.length = n') (ho : o.op = .call { callee := .builtin .append, args := #[x, y], argTypes := #[T, T] } := by rfl) (hd : o.dst = some d := by rfl) (hN : Nat.blt d N = true := by rfl)
    (hx : St.ev ⟨t, m⟩ x = .c (.sub κ i j n) := by rfl) (hy : St.ev ⟨t, m⟩ y = .c (.own κ2 n2) := by rfl) (hm : m κ = some (.row e css) := by rfl) (hj : cs[j]? = some (.row e1 css1) := by rfl) (hm2 : m κ2 = some (.row e1 css2) := by rfl) (hh : css.set i (cs.set j .any) = cssH := by rfl) (h3 : m κ3 = none := by rfl) (hbig : Nat.ble 100 κ3 = true := by rfl) (hne : κ2 ≠ κ := by decide) (hzz : zz.length = z := by rfl) (hg : Gs ops o ⟨t, m⟩ G := by exact Gs.no rfl) : RA P N w0 S draw ops pre (o :: rest) ⟨t, m⟩ K :=
  RA.mem hg k ⟨hx, hy, True.intro⟩ ⟨hm, hm2, True.intro⟩ ⟨h3, True.intro⟩ (fun s hs hk hnn => by
    subst hc hn hh
    rw [List.length_append] at h63 hb
    exact s_appU ho hs.1 hs.2.1 hk.1 hi hj hk.2.1 hne hv2 hnn.1 (ble hbig) hu hti hzz h63 hb hd (dlt hd hN _ hd))
theorem hole_at {css : List (List DV)} {i : Nat} {cs x : List DV} (h : css[i]? = some cs) : (css.set i x)[i]? = some x :=
  List.getElem?_set_self (List.getElem?_eq_some_iff.1 h).1
theorem hole_map {α : Type} {c : α → List DV} {l : List α} {i j off : Nat} {a b : α} {ds : List DV} (h : putL ((c a).set j .any) off ds = c b) : ((l.map c).set i ((c a).set j .any)).set i (putL ((c a).set j .any) off ds) = (l.set i b).map c := by
  rw [h, List.set_set, List.map_set]
end
end Go.Proofs.YtedakffelgmmnaaDoorM

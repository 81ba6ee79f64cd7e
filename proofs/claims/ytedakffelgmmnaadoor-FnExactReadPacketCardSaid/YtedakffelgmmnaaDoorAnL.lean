/- A call of a literal where it stands. No condition. -/
import Derived.Test.YtedakffelgmmnaaDoorAnK
set_option linter.unusedVariables false
set_option linter.unusedSimpArgs false
namespace Go.Proofs.YtedakffelgmmnaaDoorM
open Go Go.RowKit
section
variable {P : Program} {w : World} {ρ : Nat → Value} {F : Nat → Nat → Prop} {N : Nat} {w0 : World} {S : Fx} {s : St} {a : Act} {o : Oper} {ops : Array Oper} {draw : Bool} {pre : List (Oper × Eff)} {rest : List Oper} {t : Nat → AV} {m : Nat → Option Cont} {K : St → Prop} {G : List (Operand × AV)} {d : Nat}
theorem rF4 {L : List (Nat × Cont)} {f : FuncId} {κ κ' κ2 κ3 : Nat} {d d' d2 d3 : DV} (h : Rd L (.ptr κ 0) d) (h' : Rd L (.ptr κ' 0) d') (h2 : Rd L (.ptr κ2 0) d2) (h3 : Rd L (.ptr κ3 0) d3) : Rd L (.fnc f [κ, κ', κ2, κ3]) (.fn f [d, d', d2, d3]) := rF (fC h (fC h' (fC h2 (fC h3 f0))))
/-- A call of a literal where it stands, by what its variables hold. -/
theorem s_callN {f : FuncId} {caps : List DV} {x : Operand} {xs : Array Operand} {tys : Array TypeId} {as bs : List AV} {res v : AV} {ms L nk : List (Nat × Cont)} {s0 : St} {d : Nat} (ho : o.op = .call { callee := .value x, args := xs, argTypes := tys }) (hxe : s.ev x = s0.ev x) (hcx : All2 (AVRd L) [s0.ev x] [.c (.d (.fn f caps))]) (hc : OkF P f bs [] res ms) (hbs : bs = as ++ caps.map fun d => AV.c (.d d)) (he : ∀ x ∈ xs.toList, s.ev x = s0.ev x) (ha : All2 (AVRd L) (xs.toList.map s0.ev) as) (hL : preK s L) (hn : preN s nk)
    (σ : Nat → Nat) (hnk : nkOk ms σ nk) (hk : okNew σ v nk = true) (hv : v.mapK σ = res) (hd : o.dst = some d) (hN : d < N) : SoundOp P N w0 S o s ⟨putT (killT s.t [] []) (some (d, v)), putK (killK s.m [] []) nk []⟩ := by
  rintro a w ⟨ρ, F, hr⟩
  subst hbs
  obtain ⟨fn, q1, q2, q3⟩ := hc.fn
  have hargs := args_rel (F0 := fun _ _ => False) (ρ0 := fun _ => default) hr hL he ha
  have hx1 := args_rel (F0 := fun _ _ => False) (ρ0 := fun _ => default) (xs := [x]) hr hL (fun y hy => by rw [List.mem_singleton.1 hy]; exact hxe) hcx
  obtain ⟨us, hus, hcap⟩ : ∃ us : List Value, a.eval x = .func (.func f) #[] us.toArray ∧ All2 (Deep P w (okm (lk []) fun _ _ => False)) caps us := by
    cases hx1 with
    | cons h1 _ => exact fn_vals h1
  have hcap2 : All2 (AVRel P w (okm (lk []) fun _ _ => False) (lk []) fun _ => default) (caps.map fun d => AV.c (.d d)) us := hcap.map_left _ (fun d u h => .c h)
  have hcall := hc.run w (xs.toList.map a.eval ++ us) (fun _ => default) (fun _ _ => False) (hargs.append hcap2) ⟨fun κ c hc => (by cases hc), fun κ κ' k h => absurd rfl h⟩
  unfold Oper.wp
  rw [run_callW ho hus q1 q2 q3]
  have harr : (xs.toList.map a.eval ++ us).toArray = xs.map a.eval ++ us.toArray := by
    apply Array.ext'
    simp
  rw [harr] at hcall
  refine Calls.mono hcall (fun e' w' he => ?_)
  obtain ⟨u, ρ', F', rfl, hfr, hu, hrows, _, hnew⟩ := he
  have hno : ∀ k, ¬ blocks [] (fun _ _ => False) k := fun k hb => by obtain ⟨_, h, _⟩ := hb; exact h rfl
  subst hv
  obtain ⟨ρ1, F1, h1, h2⟩ := hr.made σ (hfr.mono (fun k hk _ => (hno k hk).elim)) hrows (fun κ k h3 h4 => (hnew κ k h3 h4).resolve_right (hno k)) hn hnk hk hu
  show Rel P N w0 S _ (a.put o.dst u) w'
  rw [hd, putT_upd]
  exact ⟨ρ1, F1, h1.put hN h2⟩
theorem a_callN {f : FuncId} {caps : List DV} {x : Operand} {xs : Array Operand} {tys : Array TypeId} {as bs : List AV} {res v : AV} {ms L nk : List (Nat × Cont)} (k : RM P N w0 S draw ops pre rest t m K o G (rdO ⟨t, m⟩ (x :: xs.toList)) L (some (d, v)) nk [] [] []) (ho : o.op = .call { callee := .value x, args := xs, argTypes := tys }) (hcx : All2 (AVRd L) [St.ev ⟨t, m⟩ x] [.c (.d (.fn f caps))]) (hc : OkF P f bs [] res ms) (σ : Nat → Nat) (ha : All2 (AVRd L) (xs.toList.map (St.ev ⟨t, m⟩)) as) (hbs : bs = as ++ caps.map fun d => AV.c (.d d)) (hL : preK ⟨t, m⟩ L) (hn : preN ⟨t, m⟩ nk) (hnk : nkOk ms σ nk) (hk : okNew σ v nk = true)
    (hv : v.mapK σ = res := by rfl) (hd : o.dst = some d := by rfl) (hN : Nat.blt d N = true := by rfl) (hg : Gs ops o ⟨t, m⟩ G := by exact Gs.no rfl) : RA P N w0 S draw ops pre (o :: rest) ⟨t, m⟩ K :=
  RA.mem hg k (preT_rdO _ _) hL hn (fun s hs hk' hn' => by
    have he := rdO_ev hs
    exact s_callN (s0 := ⟨t, m⟩) ho (he x List.mem_cons_self) hcx hc hbs (fun y hy => he y (List.mem_cons_of_mem _ hy)) ha hk' hn' σ hnk hk hv hd (blt hN))
theorem boxE {s : St} {κ κ' a b : Nat} {ty : TypeId} (h : s.m κ = some (.box ty [.own κ' a])) (hab : a = b) : s.m κ = some (.box ty [.own κ' b]) := by rw [h, hab]
theorem set_in {α β : Type} {c : α → List DV} {c1 : β → List DV} {l : List α} {i j p : Nat} {b : α} {a1 d1 : List DV} {e1 : TypeId} {l1 : List β} {v : β} (h1 : d1 = c1 v) (h2 : a1.set j (.row e1 ((l1.set p v).map c1)) = c b) : (l.set i b).map c = (l.map c).set i (a1.set j (.row e1 ((l1.map c1).set p d1))) := by
  subst h1
  have h3 : (l1.map c1).set p (c1 v) = (l1.set p v).map c1 := List.map_set.symm
  rw [h3, h2]
  exact List.map_set
theorem own_vv {G : Nat → Prop} {d : DV} {u : Value} (h : Own P w G d u) (hd : isV d = true) : d = .v u ∧ u.oneCell' = true := by
  cases d with
  | v x =>
    cases h with
    | v x' h => exact ⟨rfl, h⟩
  | _ => cases hd
theorem put_scal {F0 : Nat → Prop} {v u : Value} {e : TypeId} {css : List (List DV)} (hmem : Own P w F0 (.row e css) v) (hf : ∀ cs ∈ css, cs.all isV = true) {l off : Nat} {cs : List DV} (hl : css[l]? = some cs) (hb : off < cs.length) (hu : u.oneCell' = true) {g n' c' : Nat} (hv : v = .slice (some ⟨g, 0, none⟩) n' c') :
    ∃ cur : Array Value, w.heap[g]? = some (.cells cur e (0, 0)) ∧ l * P.cellsOf e + off + 1 ≤ cur.size ∧ Own P (w.setRow g (putL cur.toList (l * P.cellsOf e + off) [u]).toArray) (fun k => v.ownBlock = some k) (.row e (css.set l (cs.set off (.v u)))) v := by
  obtain ⟨fl, Fs, how, hlen, hcc, hdj, hbk, hrg, hF, hpos⟩ := Own.row_inv hmem
  have hsz := hlen cs (List.mem_of_getElem? hl)
  have hx : ∀ {i j : Nat} {cs : List DV} {d : DV} {u : Value}, css[i]? = some cs → cs[j]? = some d → fl[i * P.cellsOf e + j]? = some u → d = .v u ∧ u.oneCell' = true := fun hi hj hu =>
    own_vv (hcc _ _ _ _ _ hi hj hu) (List.all_eq_true.1 (hf _ (List.mem_of_getElem? hi)) _ (List.mem_of_getElem? hj))
  obtain ⟨hfl, hown⟩ := how
  rw [hv] at hown
  rcases hown with ⟨h0, _⟩ | ⟨g2, cap, cur, h0, _, hh, hnc, hmx, hcs, htk⟩
  · cases h0
  injection h0 with h0 h0' h0''
  injection h0 with h0
  injection h0 with h0
  subst h0 h0' h0''
  have hiz : l * P.cellsOf e + P.cellsOf e ≤ css.length * P.cellsOf e := by
    rw [← Nat.succ_mul]; exact Nat.mul_le_mul_right _ (List.getElem?_eq_some_iff.1 hl).1
  have hcap : css.length * P.cellsOf e ≤ c' * P.cellsOf e := Nat.mul_le_mul_right _ hnc
  have hfit : l * P.cellsOf e + off + 1 ≤ cur.size := by omega
  have hll : l < css.length := (List.getElem?_eq_some_iff.1 hl).1
  refine ⟨cur, hh, hfit, ?_⟩
  refine .row _ e _ _ (putL fl (l * P.cellsOf e + off) [u]) (fun _ _ _ => False) ⟨?_, .inr ⟨g, c', (putL cur.toList (l * P.cellsOf e + off) [u]).toArray, ?_, Nat.zero_le _, setRow_heap w g _ _ e (0, 0) hh, ?_, hmx, ?_, ?_⟩⟩ (fun cs' hcs' => ?_) (fun i' j' cs' d u' h1 h2 h3 => ?_) (fun _ _ _ _ _ h => h.elim) (fun _ _ _ h => h.elim) (fun _ _ _ h => h.elim) (fun k => ⟨fun h => .inl h, fun h => ?_⟩) hpos
  · rw [putL_len _ _ _ (by rw [List.length_singleton]; omega), hfl, List.length_set]
  · rw [hv, List.length_set]
  · rw [List.length_set]; exact hnc
  · rw [List.size_toArray, putL_len _ _ _ (by show l * P.cellsOf e + off + 1 ≤ cur.toList.length; rw [Array.length_toList]; omega), Array.length_toList, hcs]
  · rw [List.length_set]
    apply List.ext_getElem?
    intro q
    rw [List.getElem?_take]
    have hq0 : ∀ q, q < css.length * P.cellsOf e → fl[q]? = cur.toList[q]? := fun q hq => by rw [← htk, List.getElem?_take, if_pos hq]
    by_cases hq : q < css.length * P.cellsOf e
    · rw [if_pos hq, putL_get cur.toList _ _ (by show l * P.cellsOf e + off + 1 ≤ cur.toList.length; rw [Array.length_toList]; omega), putL_get fl _ _ (by rw [List.length_singleton]; omega)]
      split
      · rfl
      · exact (hq0 q hq).symm
    · rw [if_neg hq, List.getElem?_eq_none (by rw [putL_len _ _ _ (by rw [List.length_singleton]; omega)]; omega)]
  · rcases List.mem_or_eq_of_mem_set hcs' with h | h
    · exact hlen cs' h
    · rw [h, List.length_set]; exact hsz
  · rw [putL_get fl _ _ (by rw [List.length_singleton]; omega), List.length_singleton] at h3
    have same : ∀ {cs'' : List DV}, css[i']? = some cs'' → cs''[j']? = some d → fl[i' * P.cellsOf e + j']? = some u' → Own P (w.setRow g (putL cur.toList (l * P.cellsOf e + off) [u]).toArray) (fun _ => False) d u' := fun q1 q2 q3 => by
      obtain ⟨rfl, h⟩ := hx q1 q2 q3
      exact .v _ h
    rw [List.getElem?_set] at h1
    by_cases hli : l = i'
    · subst hli
      rw [if_pos rfl, if_pos hll] at h1
      injection h1 with h1
      subst h1
      have hj : j' < P.cellsOf e := by rw [← hsz, ← List.length_set (as := cs) (i := off) (a := DV.v u)]; exact (List.getElem?_eq_some_iff.1 h2).1
      rw [List.getElem?_set] at h2
      by_cases hoj : off = j'
      · subst hoj
        rw [if_pos rfl, if_pos hb] at h2
        injection h2 with h2
        subst h2
        rw [if_pos (by omega), Nat.sub_self] at h3
        injection h3 with h3
        subst h3
        exact .v _ hu
      · rw [if_neg hoj] at h2
        rw [if_neg (by omega)] at h3
        exact same hl h2 h3
    · rw [if_neg hli] at h1
      have hil : i' < css.length := (List.getElem?_eq_some_iff.1 h1).1
      have hj : j' < P.cellsOf e := by rw [← hlen cs' (List.mem_of_getElem? h1)]; exact (List.getElem?_eq_some_iff.1 h2).1
      rw [if_neg (by
        intro hin
        rcases Nat.lt_or_ge i' l with hlt | hge
        · have : i' * P.cellsOf e + P.cellsOf e ≤ l * P.cellsOf e := by rw [← Nat.succ_mul]; exact Nat.mul_le_mul_right _ hlt
          omega
        · have : l * P.cellsOf e + P.cellsOf e ≤ i' * P.cellsOf e := by rw [← Nat.succ_mul]; exact Nat.mul_le_mul_right _ (by omega)
          omega)] at h3
      exact same h1 h2 h3
  · rcases h with h | ⟨_, _, h⟩
    · exact h
    · exact h.elim
theorem s_stS {e e0 e1 : TypeId} {p x : Operand} {b z1 b1 : Nat} {zz zz1 : List Value} {g g1 : Bool} {κ i j n l off q : Nat} {css css1 css2 : List (List DV)} {cs cs2 : List DV} {u : Value} (ho : o.op = .store e p x) (hti : tyi P e = some (1, b, zz, g)) (hte : tyi P e1 = some (z1, b1, zz1, g1)) (hp : s.ev p = .c (.sptr κ i j n q)) (hm : s.m κ = some (.row e0 css)) (hi : css[i]? = some cs) (hj : cs[j]? = some (.row e1 css1)) (hl : css1[l]? = some cs2) (hf : ∀ cs ∈ css1, cs.all isV = true) (hb : off < cs2.length) (hq : l * z1 + off = q)
    (hx : s.ev x = gV u) (hu : u.oneCell' = true) (hcss : css2 = css.set i (cs.set j (.row e1 (css1.set l (cs2.set off (.v u)))))) (hdst : o.dst = none) :
    SoundOp P N w0 S o s ⟨killT s.t [] [κ], putK (killK s.m [] [κ]) [] (someL [(κ, .row e0 css2)])⟩ := by
  rintro a w ⟨ρ, F, hr⟩
  have h1 := hr.ev p
  rw [hp] at h1
  have h2 := hr.ev x
  rw [hx] at h2
  have hxe : a.eval x = u := rel_v h2
  cases h1 with
  | c h1 =>
    obtain ⟨g2, n2, c2, hs, h5⟩ := h1
    obtain ⟨u0, F0, hown0, hF0, hu0, hback⟩ := Own.inner (hr.mem κ _ hm) hi hj
    obtain ⟨e', css', cs', e3, css3, g', n', c', q1, q2, q3, q4, q5, q6, q7⟩ := hs
    rw [hm] at q1
    injection q1 with q1
    injection q1 with q1 q1'
    subst q1 q1'
    have hh := hu0 _ _ _ q5
    rw [hi] at q2
    injection q2 with q2
    subst q2
    rw [q6] at hh
    injection hh with hh
    subst hh
    obtain ⟨cur, r1, r2, r3⟩ := put_scal hown0 hf hl hb hu rfl
    have hst := run_storeCells_at P g2 (l * P.cellsOf e1 + off) e1 [u] 0 cur w r1 (by rw [List.length_singleton]; omega) (fun y hy => by rw [List.mem_singleton.1 hy]; exact hu)
    have hz : P.cellsOf e1 = z1 := cellsOf_tyi hte
    have hcells : (a.eval x).cells = #[u] := by rw [hxe]; exact one_cells hu
    have hrun : (execOp a.eval o).run P w = .ok .skip (w.setRow g2 (putL cur.toList (l * P.cellsOf e1 + off) [u]).toArray) := by
      unfold execOp
      rw [ho]
      simp only [Instr.storeAt, h5, Instr.sureAddr, storeVar, Sem.run_bind, Sem.run_pure, Result.andThen_ok, run_sizeOf_tyi hti, hcells, ← hq, ← hz]
      simp only [List.size_toArray, List.length_singleton, ne_eq, not_true_eq_false, if_false, hst, Result.andThen_ok]
      rfl
    unfold Oper.wp
    rw [hrun]
    show Rel P N w0 S _ (a.put o.dst undef) _
    rw [hdst]
    show Rel P N w0 S _ a _
    have hin : F0 g2 := Own.head hown0 rfl
    have hfull := hback (w.setRow g2 (putL cur.toList (l * P.cellsOf e1 + off) [u]).toArray) _ _ (fun k _ h => setRow_other _ _ _ _ (fun he => h (by rw [he]; exact hin))) r3 (fun k hk => .inr (Own.head hown0 hk))
    rw [← hcss] at hfull
    have hfr : Fr F0 w (w.setRow g2 (putL cur.toList (l * P.cellsOf e1 + off) [u]).toArray) :=
      ⟨rfl, rfl, rfl, by simp [World.setRow], fun k _ hn => setRow_other _ _ _ _ (fun he => hn (by rw [he]; exact hin))⟩
    obtain ⟨ρ1, F1, h1, _⟩ := hr.turned (ms := [(0, .row e0 css2)]) (nk := []) (ck := [(κ, .row e0 css2)]) (ρ' := fun _ => ρ κ) (F' := fun _ k => (F κ k ∧ ¬ F0 k) ∨ Value.ownBlock (.slice (some ⟨g2, 0, none⟩) n2 c2) = some k) (fun _ => 0) (hfr.mono (fun k hk _ => ⟨κ, by rw [lk_self]; simp, hF0 k hk⟩)) ⟨fun κ' c h => by
        obtain ⟨rfl, rfl⟩ := lk_one h
        exact hfull, fun κ1 κ2 k h1 h2 _ _ => (lk_oneN h1).trans (lk_oneN h2).symm⟩ (fun κ' k _ h => by
        rcases h with ⟨h, _⟩ | h
        · exact .inr ⟨κ, by rw [lk_self]; simp, h⟩
        · exact .inr ⟨κ, by rw [lk_self]; simp, hF0 k (Own.head hown0 h)⟩) (fun κ' c h => by
        obtain ⟨rfl, rfl⟩ := lk_one h
        exact ⟨e0, css, css2, rfl, hm⟩) (fun κ' h => by rw [lk_oneN h]) trivial trivial ⟨lk_self _ _, trivial⟩ (fun κ1 κ2 h1 h2 _ => (lk_oneN (h1.resolve_right (fun h => h rfl))).trans (lk_oneN (h2.resolve_right (fun h => h rfl))).symm) (fun κ' c h => by cases h)
    exact ⟨ρ1, F1, h1⟩
/-- A store into a row inside a row. -/
theorem a_stS {e e0 e1 : TypeId} {p x : Operand} {b z1 b1 : Nat} {zz zz1 : List Value} {g g1 : Bool} {κ i j n l off q : Nat} {css css1 css2 : List (List DV)} {cs cs2 : List DV} {u : Value} (k : RM P N w0 S draw ops pre rest t m K o G [(p, .c (.sptr κ i j n q)), (x, gV u)] [(κ, .row e0 css)] none [] (someL [(κ, .row e0 css2)]) [] [κ]) (hi : css[i]? = some cs) (hl : css1[l]? = some cs2) (hf : ∀ cs ∈ css1, cs.all isV = true) (hti : tyi P e = some (1, b, zz, g)) (hte : tyi P e1 = some (z1, b1, zz1, g1)) (hcss : css2 = css.set i (cs.set j (.row e1 (css1.set l (cs2.set off (.v u)))))) (hq : l * z1 + off = q) (hj : cs[j]? = some (.row e1 css1) := by rfl) (ho : o.op = .store e p x := by rfl) (hd : o.dst = none := by rfl) (hp : St.ev ⟨t, m⟩ p = .c (.sptr κ i j n q) := by rfl) (hm : m κ = some (.row e0 css) := by rfl) (hx : St.ev ⟨t, m⟩ x = gV u := by rfl) (hu : u.oneCell' = true := by rfl) (hb : Nat.blt off cs2.length = true := by rfl) (hg : Gs ops o ⟨t, m⟩ G := by exact Gs.no rfl) : RA P N w0 S draw ops pre (o :: rest) ⟨t, m⟩ K :=
  RA.mem hg k ⟨hp, hx, True.intro⟩ ⟨hm, True.intro⟩ True.intro (fun s hs hk _ => s_stS ho hti hte hs.1 hk.1 hi hj hl hf (blt hb) hq hs.2.1 hu hcss hd)
end
end Go.Proofs.YtedakffelgmmnaaDoorM

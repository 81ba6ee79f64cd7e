/- An element's row read: its elements' places, their loads. No condition. -/
import Derived.Test.YtedakffelgmmnaaDoorAnH
set_option linter.unusedVariables false
set_option linter.unusedSimpArgs false
namespace Go.Proofs.YtedakffelgmmnaaDoorM
open Go Go.RowKit
section
variable {P : Program} {w : World} {ρ : Nat → Value} {F : Nat → Nat → Prop} {N : Nat} {w0 : World} {S : Fx} {s : St} {a : Act} {o : Oper}
/-- What is known of an element's row: its header, its cells. -/
theorem sub_inv (hr : RelE P N w0 S s a w ρ F) {κ i j n : Nat} {e e1 : TypeId} {css css1 : List (List DV)} {cs : List DV} {u : Value} (hm : s.m κ = some (.row e css)) (hi : css[i]? = some cs) (hj : cs[j]? = some (.row e1 css1)) (h : SubRel P w s.m ρ κ i j n u) :
    n = css1.length ∧ ∃ G, Own P w G (.row e1 css1) u := by
  obtain ⟨e', css', cs', e2, css2, g, n', c', h1, h2, h3, h4, h5, h6, h7⟩ := h
  rw [hm] at h1
  injection h1 with h1
  injection h1 with h1 h1'
  subst h1 h1'
  rw [hi] at h2
  injection h2 with h2
  subst h2
  rw [hj] at h3
  injection h3 with h3
  injection h3 with h3 h3'
  subst h3 h3'
  obtain ⟨fl, Fs, how, hlen, hcc, _⟩ := Own.row_inv (hr.mem κ _ hm)
  obtain ⟨h8, _⟩ := flat_at how.1 hlen hi hj
  have h9 := hcc i j cs _ _ hi hj (List.getElem?_eq_getElem h8)
  have h10 : w.cell? ⟨g, i * P.cellsOf e + j, none⟩ = some fl[i * P.cellsOf e + j] := by
    have := how.cells (g := g) (by rw [h5]; rfl) _ _ (List.getElem?_eq_getElem h8)
    rwa [add_at, Nat.zero_add] at this
  have h11 : u = fl[i * P.cellsOf e + j] := Option.some.inj (h6.symm.trans h10)
  exact ⟨h4.symm, _, by rw [h11]; exact h9⟩
theorem s_ixS {x ix : Operand} {ty e e1 : TypeId} {k : IntKind} {iv : Int} {sz b : Nat} {z : List Value} {g : Bool} {κ i j n : Nat} {css css1 : List (List DV)} {cs : List DV} (ho : o.op = .indexAddr ty x ix) (hty : P.underlying ty = some (.slice e1)) (hti : tyi P e1 = some (sz, b, z, g)) (hx : s.ev x = .c (.sub κ i j n)) (hix : s.ev ix = .c (.d (.v (.int k iv))))
    (hm : s.m κ = some (.row e css)) (hi : css[i]? = some cs) (hj : cs[j]? = some (.row e1 css1)) (hb : 0 ≤ iv ∧ iv < (css1.length : Int)) (hd : ∀ n, o.dst = some n → n < N) :
    SoundOp P N w0 S o s ⟨updO s.t o.dst (.c (.sptr κ i j n (iv.toNat * sz))), s.m⟩ := by
  refine sound_val hd fun a w ρ F hr => ?_
  have h1 := hr.ev x
  have h2 := hr.ev ix
  rw [hx] at h1
  rw [hix] at h2
  cases h1 with
  | c h1 =>
    have h1' : SubRel P w s.m ρ κ i j n (a.eval x) := h1
    obtain ⟨hn, G, hown⟩ := sub_inv hr hm hi hj h1'
    obtain ⟨fl, Fs, how, _⟩ := Own.row_inv hown
    rcases how.2 with ⟨_, h0⟩ | ⟨g2, cap, cur, h5, _⟩
    · omega
    · refine ⟨.pointer (some ⟨g2, iv.toNat * sz, none⟩), ?_, .c ⟨g2, css1.length, cap, by rw [← h5]; exact h1', rfl⟩⟩
      unfold execOp
      rw [ho]
      simp only [h5, rel_v h2]
      simp [Instr.indexAt, asIntOf, run_underlying hty, hb.1, hb.2, run_sizeOf_tyi hti]
      rw [add_at, Nat.zero_add]
theorem s_ldS {e e0 e1 : TypeId} {x : Operand} {z b z1 b1 : Nat} {zz zz1 : List Value} {g g1 : Bool} {κ i j n l off q : Nat} {css css1 : List (List DV)} {cs cs2 : List DV} (ho : o.op = .load e x) (hti : tyi P e = some (z, b, zz, g)) (hte : tyi P e1 = some (z1, b1, zz1, g1)) (hx : s.ev x = .c (.sptr κ i j n q)) (hm : s.m κ = some (.row e0 css)) (hi : css[i]? = some cs) (hj : cs[j]? = some (.row e1 css1)) (hl : css1[l]? = some cs2) (hq : q = l * z1 + off)
    (hp : off + z ≤ cs2.length ∧ (g = false → z = 1)) (hv : ((cs2.drop off).take z).all isV = true) (hd : ∀ n, o.dst = some n → n < N) : SoundOp P N w0 S o s ⟨updO s.t o.dst (mkAV g (((cs2.drop off).take z).map .d)), s.m⟩ := by
  refine sound_val hd fun a w ρ F hr => ?_
  have h1 := hr.ev x
  rw [hx] at h1
  cases h1 with
  | c h1 =>
    obtain ⟨g2, n2, c2, hs, h5⟩ := h1
    obtain ⟨hn, G, hown⟩ := sub_inv hr hm hi hj hs
    obtain ⟨fl, Fs, how, hlen, hcc, _⟩ := Own.row_inv hown
    rw [cellsOf_tyi hte] at how hlen hcc
    have hsz := hlen cs2 (List.mem_of_getElem? hl)
    have hfit : l * z1 + z1 ≤ fl.length := by
      rw [how.1, ← Nat.succ_mul]; exact Nat.mul_le_mul_right _ (List.getElem?_eq_some_iff.1 hl).1
    have hul : ((fl.drop (l * z1 + off)).take z).length = z := by rw [List.length_take, List.length_drop]; have := hp.1; omega
    have hget : ∀ (j : Nat) y, ((fl.drop (l * z1 + off)).take z)[j]? = some y → j < z ∧ fl[l * z1 + (off + j)]? = some y := fun j y hj => by
      rw [List.getElem?_take] at hj
      split at hj
      · rename_i hjz
        rw [List.getElem?_drop, Nat.add_assoc] at hj
        exact ⟨hjz, hj⟩
      · cases hj
    have hcell : ∀ (q : Nat) y, fl[q]? = some y → w.cell? ⟨g2, q, none⟩ = some y := fun q y hq => by
      have := how.cells (g := g2) rfl q y hq
      rwa [add_at, Nat.zero_add] at this
    have hall : All2 (CellRel P w (okm s.m F) s.m ρ) (((cs2.drop off).take z).map .d) ((fl.drop (l * z1 + off)).take z) := by
      refine All2.of_get ?_ (fun j c u hc hu => ?_)
      · rw [List.length_map, hul, List.length_take, List.length_drop]; have := hp.1; omega
      · obtain ⟨hjz, hu⟩ := hget j u hu
        rw [List.getElem?_map] at hc
        obtain ⟨d, hd1, rfl⟩ := Option.map_eq_some_iff.1 hc
        have hdv := List.all_eq_true.1 hv d (List.mem_of_getElem? hd1)
        rw [List.getElem?_take, if_pos hjz, List.getElem?_drop] at hd1
        have hown2 := hcc l (off + j) cs2 d u hl hd1 hu
        cases d with
        | v x' =>
          obtain ⟨rfl, _, _⟩ := hown2.v_inv
          exact Deep.v _
        | row e' css' => cases hdv
        | ro cells => cases hdv
        | fn f caps => cases hdv
        | any => cases hdv
    obtain ⟨u, h10, h11, h12⟩ := mkAV_rel (z := z) hall (g := g) (fun hg => by rw [hall.len, hul, hp.2 hg])
    refine ⟨u, ?_, h10⟩
    have := run_loadVar (w := w) (ad := ⟨g2, l * z1 + off, none⟩) hti ((fl.drop (l * z1 + off)).take z) hul hp.2 h11 h12 (fun j y hj => by
      rw [add_at, Nat.add_assoc]
      exact hcell _ _ (hget j y hj).2)
    subst hq
    unfold execOp
    rw [ho]
    simp [h5, Instr.loadAt, Instr.sureAddr, this]
end
section
variable {P : Program} {N : Nat} {w0 : World} {S : Fx} {o : Oper} {ops : Array Oper} {draw : Bool} {pre : List (Oper × Eff)} {rest : List Oper} {t : Nat → AV} {m : Nat → Option Cont} {K : St → Prop} {G : List (Operand × AV)} {d : Nat}
theorem a_ixS {x ix : Operand} {ty e e1 : TypeId} {k1 : IntKind} {iv : Int} {sz b : Nat} {z : List Value} {g : Bool} {κ i j n q : Nat} {css css1 : List (List DV)} {cs : List DV} (k : RV P N w0 S draw ops pre rest t m K o G [(x, .c (.sub κ i j n)), (ix, gV (.int k1 iv))] [(κ, .row e css)] d (.c (.sptr κ i j n q))) (hb : 0 ≤ iv ∧ iv < (css1.length : Int)) (hi : css[i]? = some cs) (hti : tyi P e1 = some (sz, b, z, g)) (hu : P.underlying ty = some (.slice e1)) (ho : o.op = .indexAddr ty x ix := by rfl) (hd : o.dst = some d := by rfl) (hN : Nat.blt d N = true := by rfl) (h1 : St.ev ⟨t, m⟩ x = .c (.sub κ i j n) := by rfl) (h2 : St.ev ⟨t, m⟩ ix = gV (.int k1 iv) := by rfl) (hm : m κ = some (.row e css) := by rfl) (hj : cs[j]? = some (.row e1 css1) := by rfl) (hq : iv.toNat * sz = q := by rfl) (hg : Gs ops o ⟨t, m⟩ G := by exact Gs.no rfl) : RA P N w0 S draw ops pre (o :: rest) ⟨t, m⟩ K :=
  RA.val hd hg k ⟨h1, h2, True.intro⟩ ⟨hm, True.intro⟩ (fun s hs hk => by
    have := s_ixS (P := P) (N := N) (w0 := w0) (S := S) (s := s) ho hu hti hs.1 hs.2.1 hk.1 hi hj hb (dlt hd hN)
    rw [hq] at this
    exact this)
theorem a_ldS {e e0 e1 : TypeId} {x : Operand} {z b z1 b1 : Nat} {zz zz1 : List Value} {g g1 : Bool} {κ i j n l off q : Nat} {css css1 : List (List DV)} {cs cs2 : List DV} {v : AV} (k : RV P N w0 S draw ops pre rest t m K o G [(x, .c (.sptr κ i j n q))] [(κ, .row e0 css)] d v) (hi : css[i]? = some cs) (hl : css1[l]? = some cs2) (hti : tyi P e = some (z, b, zz, g)) (hte : tyi P e1 = some (z1, b1, zz1, g1)) (hqq : q = l * z1 + off) (ho : o.op = .load e x := by rfl) (hd : o.dst = some d := by rfl) (hN : Nat.blt d N = true := by rfl) (h1 : St.ev ⟨t, m⟩ x = .c (.sptr κ i j n q) := by rfl) (hm : m κ = some (.row e0 css) := by rfl) (hj : cs[j]? = some (.row e1 css1) := by rfl) (hv : mkAV g (((cs2.drop off).take z).map .d) = v := by rfl) (hq : fitB off z cs2.length g = true := by rfl) (hvv : ((cs2.drop off).take z).all isV = true := by rfl) (hg : Gs ops o ⟨t, m⟩ G := by exact Gs.no rfl) : RA P N w0 S draw ops pre (o :: rest) ⟨t, m⟩ K :=
  RA.val hd hg k ⟨h1, True.intro⟩ ⟨hm, True.intro⟩ (fun s hs hk => by
    have := s_ldS (P := P) (N := N) (w0 := w0) (S := S) (s := s) ho hti hte hs.1 hk.1 hi hj hl hqq (fitB_spec hq) hvv (dlt hd hN)
    rw [← hv]
    exact this)
end
end Go.Proofs.YtedakffelgmmnaaDoorM

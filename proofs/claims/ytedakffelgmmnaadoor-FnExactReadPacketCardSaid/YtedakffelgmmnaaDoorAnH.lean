/- Arrays: their elements' places, literals. No condition. -/
import Derived.Test.YtedakffelgmmnaaDoorAnF
set_option linter.unusedVariables false
set_option linter.unusedSimpArgs false
namespace Go.Proofs.YtedakffelgmmnaaDoorM
open Go Go.RowKit
section
variable {P : Program} {N : Nat} {w0 : World} {S : Fx} {o : Oper} {s : St}
theorem s_ixA {ty e : TypeId} {n sz b : Nat} {zz : List Value} {g : Bool} {k : IntKind} {iv : Int} {x i : Operand} (ho : o.op = .indexAddr ty x i) (hty : P.underlying ty = some (.array n e)) (hti : tyi P e = some (sz, b, zz, g)) (hi : s.ev i = .c (.d (.v (.int k iv)))) (hb : 0 ≤ iv ∧ iv < (n : Int))
    (hp : (faA (iv.toNat * sz) sz (s.ev x)).pre) (hd : ∀ n, o.dst = some n → n < N) :
    SoundOp P N w0 S o s ⟨updO s.t o.dst (faA (iv.toNat * sz) sz (s.ev x)).v, s.m⟩ := by
  refine sound_val hd fun a w ρ F hr => ?_
  have hx := hr.ev x
  have hix := hr.ev i
  rw [hi] at hix
  have hrun : ∀ ad, a.eval x = .pointer (some ad) → sz ≠ 0 → (execOp a.eval o).run P w = .ok (.value (.pointer (some (ad.add (iv.toNat * sz))))) w := by
    intro ad he hz
    unfold execOp
    rw [ho]
    simp only [he, rel_v hix]
    simp [Instr.indexAt, asIntOf, run_underlying hty, hb.1, hb.2, run_sizeOf_tyi hti, Instr.sureAddr]
  generalize iv.toNat * sz = p at hp hrun ⊢
  generalize s.ev x = v at hp hx ⊢
  unfold faA at hp ⊢
  split at hp
  · rename_i κ off
    cases hx with
    | c hx =>
      obtain ⟨ty, cs, g', h1, h2, h3⟩ := hx
      refine ⟨_, hrun _ h3 hp, .c ⟨ty, cs, g', h1, h2, ?_⟩⟩
      rw [add_at]
  · rename_i κ i off
    cases hx with
    | c hx =>
      obtain ⟨e, css, g', n', c', h1, h2, h3, h4⟩ := hx
      refine ⟨_, hrun _ h4 hp, .c ⟨e, css, g', n', c', h1, h2, h3, ?_⟩⟩
      rw [add_at, Nat.add_assoc]
  · rename_i cells
    cases hx with
    | c hx =>
      generalize hu : a.eval x = u at hx
      generalize hdv : DV.ro cells = dv at hx
      cases hx with
      | ro cells' ad vals hne hok hcell hdd =>
        injection hdv with hdv
        subst hdv
        refine ⟨_, hrun _ hu hp.1, .c (Deep.ro _ _ (fun j => vals (p + j)) ?_ (by rw [add_block]; exact hok) ?_ ?_)⟩
        · intro h0
          have := hp.2
          rw [List.drop_eq_nil_iff] at h0
          omega
        · intro j d hj
          rw [add_add]
          exact hcell _ d (by simpa using hj)
        · intro j d hj
          exact hdd _ d (by simpa using hj)
      | _ => cases hdv
  · exact hp.elim
theorem s_buildA {t e : TypeId} {n : Nat} {parts : Array (Nat × Operand)} {z b z1 b1 : Nat} {zz zz1 : List Value} {g g1 : Bool} {cs : List Cell} (ho : o.op = .build t parts) (hti : tyi P t = some (z, b, zz, g)) (hty : P.underlying t = some (.array n e)) (hte : tyi P e = some (z1, b1, zz1, g1))
    (hf : fillA (plA z1) s.ev parts.toList (cvs zz) = some cs) (hd : ∀ n, o.dst = some n → n < N) : SoundOp P N w0 S o s ⟨updO s.t o.dst (.agg cs), s.m⟩ := by
  refine sound_val hd fun a w ρ F hr => ?_
  obtain ⟨i, d, v, h1, h2, h3, h4, h5, h6, h7⟩ := tyi_some hti
  obtain ⟨us', h8, h9, _⟩ := run_fill hr (plA z1) (fun i => some (i * z1, z1)) (fun i p z' hp => hp) parts.toList (cvs zz) cs v.cells hf (by rw [h6]; exact all2_map_v)
  refine ⟨.agg us', ?_, ?_⟩
  · unfold execOp
    rw [ho]
    have h10 : (zeroValue t).run P w = .ok v w := by simp [zeroValue, typeInfo, h1, h3]
    have h11 : (parts.map fun (i, x) => (i, a.eval x)).toList = parts.toList.map fun (i, x) => (i, a.eval x) := by simp
    simp only [Instr.build, Sem.run_bind, h10, Result.andThen_ok, run_underlying hty, run_sizeOf_tyi hte, h11, h8, Sem.run_pure]
  · have := AVRel.agg h9
    simpa using this
theorem s_binB {op : BinOp} {t t' : TypeId} {x y : Operand} {p q b : Bool} (ho : o.op = .binOp op t x y t') (ht : P.underlying t = some .bool) (hop : (op = .eql ∧ b = (p == q)) ∨ (op = .neq ∧ b = !(p == q))) (h1 : s.ev x = vB p) (h2 : s.ev y = vB q) (hd : ∀ n, o.dst = some n → n < N) :
    SoundOp P N w0 S o s ⟨updO s.t o.dst (vB b), s.m⟩ := by
  refine sound_val hd fun a w ρ F hr => ?_
  have hx := hr.ev x
  have hy := hr.ev y
  rw [h1] at hx
  rw [h2] at hy
  refine ⟨_, ?_, .c (Deep.v _)⟩
  unfold execOp
  rw [ho]
  simp only [rel_v hx, rel_v hy]
  have hg : (eqGuard op t x y (.bool p) (.bool q)).run P w = .ok () w := by
    unfold eqGuard
    rcases hop with ⟨rfl, _⟩ | ⟨rfl, _⟩ <;> rfl
  rcases hop with ⟨rfl, rfl⟩ | ⟨rfl, rfl⟩
  · simp [hg, binOp, run_equal_bool _ _ _ _ ht]
  · simp [hg, binOp, run_equal_bool _ _ _ _ ht, bne]
end
section
variable {P : Program} {N : Nat} {w0 : World} {S : Fx} {o : Oper} {ops : Array Oper} {draw : Bool} {pre : List (Oper × Eff)} {rest : List Oper} {t : Nat → AV} {m : Nat → Option Cont} {K : St → Prop} {G : List (Operand × AV)} {d : Nat}
theorem a_binB {op : BinOp} {T T' : TypeId} {x y : Operand} {p q b : Bool} (k : RV P N w0 S draw ops pre rest t m K o G [(x, vB p), (y, vB q)] [] d (vB b)) (ht : P.underlying T = some .bool) (hop : (op = .eql ∧ b = (p == q)) ∨ (op = .neq ∧ b = !(p == q))) (ho : o.op = .binOp op T x y T' := by rfl) (hd : o.dst = some d := by rfl) (hN : Nat.blt d N = true := by rfl) (h1 : St.ev ⟨t, m⟩ x = vB p := by rfl) (h2 : St.ev ⟨t, m⟩ y = vB q := by rfl) (hg : Gs ops o ⟨t, m⟩ G := by exact Gs.no rfl) : RA P N w0 S draw ops pre (o :: rest) ⟨t, m⟩ K :=
  RA.val hd hg k ⟨h1, h2, True.intro⟩ True.intro (fun s hs _ => s_binB (P := P) (N := N) (w0 := w0) (S := S) (s := s) ho ht hop hs.1 hs.2.1 (dlt hd hN))
theorem a_ixa {ty e : TypeId} {n sz b : Nat} {zz : List Value} {g : Bool} {k1 : IntKind} {iv : Int} {x i : Operand} {v v' : AV} {Q : Prop} (k : RV P N w0 S draw ops pre rest t m K o G [(x, v), (i, gV (.int k1 iv))] [] d v') (hb : 0 ≤ iv ∧ iv < (n : Int)) (hti : tyi P e = some (sz, b, zz, g)) (hu : P.underlying ty = some (.array n e)) (hq : Q) (ho : o.op = .indexAddr ty x i := by rfl) (hd : o.dst = some d := by rfl) (hN : Nat.blt d N = true := by rfl) (h1 : St.ev ⟨t, m⟩ x = v := by rfl) (h2 : St.ev ⟨t, m⟩ i = gV (.int k1 iv) := by rfl) (hv : faA (iv.toNat * sz) sz v = .val Q v' := by rfl) (hg : Gs ops o ⟨t, m⟩ G := by exact Gs.no rfl) : RA P N w0 S draw ops pre (o :: rest) ⟨t, m⟩ K :=
  RA.val hd hg k ⟨h1, h2, True.intro⟩ True.intro (fun s hs _ => by
    have hx : faA (iv.toNat * sz) sz (s.ev x) = .val Q v' := by rw [hs.1]; exact hv
    have := s_ixA (P := P) (N := N) (w0 := w0) (S := S) (s := s) ho hu hti hs.2.1 hb (by rw [hx]; exact hq) (dlt hd hN)
    rw [hx] at this
    exact this)
theorem a_ixaB {ty e : TypeId} {n sz b : Nat} {zz : List Value} {g : Bool} {k1 : IntKind} {iv : Int} {x i : Operand} {κ off q : Nat} (k : RV P N w0 S draw ops pre rest t m K o G [(x, .c (.ptr κ off)), (i, gV (.int k1 iv))] [] d (.c (.ptr κ q))) (hb : 0 ≤ iv ∧ iv < (n : Int)) (hti : tyi P e = some (sz, b, zz, g)) (hu : P.underlying ty = some (.array n e)) (ho : o.op = .indexAddr ty x i := by rfl) (hd : o.dst = some d := by rfl) (hN : Nat.blt d N = true := by rfl) (h1 : St.ev ⟨t, m⟩ x = .c (.ptr κ off) := by rfl) (h2 : St.ev ⟨t, m⟩ i = gV (.int k1 iv) := by rfl) (hp : off + iv.toNat * sz = q := by rfl) (hz : Nat.blt 0 sz = true := by rfl) (hg : Gs ops o ⟨t, m⟩ G := by exact Gs.no rfl) : RA P N w0 S draw ops pre (o :: rest) ⟨t, m⟩ K :=
  a_ixa (Q := sz ≠ 0) (k := k) (hb := hb) (hti := hti) (hu := hu) (h1 := h1) (h2 := h2) (hv := (by rw [← hp]; rfl)) (hq := (by have := blt hz; omega)) (ho := ho) (hd := hd) (hN := hN) (hg := hg)
theorem a_ixaR {ty e : TypeId} {n sz b : Nat} {zz : List Value} {g : Bool} {k1 : IntKind} {iv : Int} {x i : Operand} {cells cells' : List DV} (k : RV P N w0 S draw ops pre rest t m K o G [(x, vO cells), (i, gV (.int k1 iv))] [] d (vO cells')) (hb : 0 ≤ iv ∧ iv < (n : Int)) (hti : tyi P e = some (sz, b, zz, g)) (hu : P.underlying ty = some (.array n e)) (ho : o.op = .indexAddr ty x i := by rfl) (hd : o.dst = some d := by rfl) (hN : Nat.blt d N = true := by rfl) (h1 : St.ev ⟨t, m⟩ x = vO cells := by rfl) (h2 : St.ev ⟨t, m⟩ i = gV (.int k1 iv) := by rfl) (hp : cells.drop (iv.toNat * sz) = cells' := by rfl) (hl : Nat.blt (iv.toNat * sz) cells.length = true := by rfl) (hz : Nat.blt 0 sz = true := by rfl) (hg : Gs ops o ⟨t, m⟩ G := by exact Gs.no rfl) : RA P N w0 S draw ops pre (o :: rest) ⟨t, m⟩ K :=
  a_ixa (Q := sz ≠ 0 ∧ iv.toNat * sz < cells.length) (k := k) (hb := hb) (hti := hti) (hu := hu) (h1 := h1) (h2 := h2) (hv := (by rw [← hp]; rfl)) (hq := ⟨by have := blt hz; omega, blt hl⟩) (ho := ho) (hd := hd) (hN := hN) (hg := hg)
theorem a_ixaE {ty e : TypeId} {n sz b : Nat} {zz : List Value} {g : Bool} {k1 : IntKind} {iv : Int} {x i : Operand} {κ off q : Nat} {j : Nat} (k : RV P N w0 S draw ops pre rest t m K o G [(x, .c (.eptr κ j off)), (i, gV (.int k1 iv))] [] d (.c (.eptr κ j q))) (hb : 0 ≤ iv ∧ iv < (n : Int)) (hti : tyi P e = some (sz, b, zz, g)) (hu : P.underlying ty = some (.array n e)) (ho : o.op = .indexAddr ty x i := by rfl) (hd : o.dst = some d := by rfl) (hN : Nat.blt d N = true := by rfl) (h1 : St.ev ⟨t, m⟩ x = .c (.eptr κ j off) := by rfl) (h2 : St.ev ⟨t, m⟩ i = gV (.int k1 iv) := by rfl) (hp : off + iv.toNat * sz = q := by rfl) (hz : Nat.blt 0 sz = true := by rfl) (hg : Gs ops o ⟨t, m⟩ G := by exact Gs.no rfl) : RA P N w0 S draw ops pre (o :: rest) ⟨t, m⟩ K :=
  a_ixa (Q := sz ≠ 0) (k := k) (hb := hb) (hti := hti) (hu := hu) (h1 := h1) (h2 := h2) (hv := (by rw [← hp]; rfl)) (hq := (by have := blt hz; omega)) (ho := ho) (hd := hd) (hN := hN) (hg := hg)
theorem a_buildA {T e : TypeId} {n : Nat} {parts : Array (Nat × Operand)} {z b z1 b1 : Nat} {zz zz1 : List Value} {g g1 : Bool} {cs : List Cell} (k : RV P N w0 S draw ops pre rest t m K o G (rds ⟨t, m⟩ parts.toList) [] d (.agg cs)) (hti : tyi P T = some (z, b, zz, g)) (hu : P.underlying T = some (.array n e)) (hte : tyi P e = some (z1, b1, zz1, g1)) (hf : fillA (plA z1) (St.ev ⟨t, m⟩) parts.toList (cvs zz) = some cs := by rfl) (ho : o.op = .build T parts := by rfl) (hd : o.dst = some d := by rfl) (hN : Nat.blt d N = true := by rfl) (hg : Gs ops o ⟨t, m⟩ G := by exact Gs.no rfl) : RA P N w0 S draw ops pre (o :: rest) ⟨t, m⟩ K :=
  RA.val hd hg k (preT_rds _ _) True.intro (fun s hs _ => s_buildA (P := P) (N := N) (w0 := w0) (S := S) (s := s) ho hti hu hte (by rw [fillA_congr (rds_ev hs)]; exact hf) (dlt hd hN))
end
theorem run_equalIn_arr2 {P : Program} {t e : TypeId} {k : IntKind} (d : Nat) (w : World) (x0 x1 y0 y1 : Int) (ht : P.underlying t = some (.array 2 e)) (he : P.underlying e = some (.int k)) (hs : ∀ w, (sizeOf e).run P w = .ok 1 w) (ha : ∀ w, (isAgg e).run P w = .ok false w) :
    (Op.equalIn (d + 1 + 1) t (.agg #[.int k x0, .int k x1]) (.agg #[.int k y0, .int k y1])).run P w = .ok (x0 == y0 && x1 == y1) w := by
  rw [Op.equalIn]
  simp only [Sem.run_bind, run_underlying ht, Result.andThen_ok, hs]
  simp [part, List.range', ha, hs]
  simp only [run_equalIn_int _ _ _ _ _ _ _ he, Result.andThen_ok]
  cases x0 == y0 <;> cases x1 == y1 <;> simp
end Go.Proofs.YtedakffelgmmnaaDoorM

/- The abstract machine: a literal of rows that are only read, itself only read. No condition. -/
import Derived.Test.YtadjbffiomkljaaGreatAnL
set_option linter.unusedVariables false
set_option linter.unusedSimpArgs false
namespace Go.Proofs.YtadjbffiomkljaaGreatM
open Go Go.RowKit
section
variable {P : Program} {N : Nat} {w0 : World} {S : Fx} {s : St} {o : Oper} {d : Nat}
theorem s_litD {t e : TypeId} {n : Nat} {parts : Array (Nat × Operand)} {z b : Nat} {zz : List Value} {g : Bool} {ds : List DV} (ho : o.op = .buildSlice t n parts) (ht : eln P t = some e) (hti : tyi P e = some (z, b, zz, g))
  (hf : fillA (plA z) s.ev parts.toList (cvs (List.replicate n zz).flatten) = some (ds.map Cell.d)) (hz : 0 < z) (hzz : zz.length = z) (hn : n * z ≤ 16777216) (hn0 : 0 < n) (hl : ds.length = n * z) (hdst : o.dst = some d) (hd : d < N) :
  SoundOp P N w0 S o s ⟨putT s.t (some (d, vR e (chunkN z n ds))), s.m⟩ := by
 rintro a w ⟨ρ, F, hr⟩
 obtain ⟨i, dd, v, h1, h2, h3, h4, h5, h6, h7⟩ := tyi_some hti
 have hcs : v.cells.size = z := by rw [← Array.length_toList, h6, hzz]
 have hzero : ((Array.range (n * z)).map (v.cells[· % v.cells.size]!)).toList = (List.replicate n zz).flatten := by
  apply List.ext_getElem?
  intro j
  by_cases hj : j < n * z
  ·have h8 : j % z < z := Nat.mod_lt _ hz
   have h9 := rep_flat (n := n) hz hzz hj
   rw [h9]
   have h10 : v.cells[j % z]! = zz[j % z]'(by omega) := by
    rw [getElem!_pos v.cells (j % z) (by omega)]
    simp only [← h6, Array.getElem_toList]
   simp [hj, hcs, h10]
  ·rw [List.getElem?_eq_none (by simp; omega), List.getElem?_eq_none (by simp [hzz]; omega)]
 obtain ⟨us', h8, h9, h10⟩ := run_fill hr (plA z) (fun i => some (i * z, z)) (fun i p z' hp => hp) parts.toList _ (ds.map Cell.d) ((Array.range (n * z)).map (v.cells[· % v.cells.size]!)) hf (by rw [hzero]; exact all2_map_v)
 have hlen : us'.size = n * z := by rw [h10]; simp
 have hpz : 0 < n * z := Nat.mul_pos hn0 hz
 have hrun : (execOp a.eval o).run P w = .ok (.value (.slice (some ⟨w.heap.size, 0, none⟩) n n)) (w.alloc (.cells us' e)) := by
  unfold execOp
  rw [ho]
  have h11 : (zeroValue e).run P w = .ok v w := by simp [zeroValue, typeInfo, h1, h3]
  have h12 : (parts.map fun (i, x) => (i, a.eval x)).toList = parts.toList.map fun (i, x) => (i, a.eval x) := by simp
  simp only [Instr.buildSlice, Sem.run_bind, run_underlying (eln_some ht), Result.andThen_ok, run_sizeOf_tyi hti]
  rw [if_neg (by omega), if_neg (by omega)]
  simp only [Sem.run_bind, Sem.run_pure, Result.andThen_ok, h11, h12, h8, newRow, run_newObj_alloc]
 have hrow : (w.alloc (.cells us' e)).ownsRow 0 e z (.slice (some ⟨w.heap.size, 0, none⟩) n n) n us'.toList :=
  World.ownsRow_lit w us' n (Nat.zero_le _) (by simp only [maxLen]; have := Nat.le_mul_of_pos_right n hz; omega) hlen
 have hfs := hr.fresh (m1 := s.m) (ρ1 := ρ) (F1 := F) (fun _ => false) (Fr.alloc w (.cells us' e) _) (fun κ _ => by
  rw [uses_no]
  cases s.m κ with
  | none => rfl
  | some c => simp [Cont_kill_no]) (fun _ _ => rfl) (fun _ _ => rfl) (fun κ k h => (by cases h)) (fun _ κ c h => (by cases h)) (fun κ κ' k h => (by cases h)) (fun κ h => (by cases h))
 have hs : (⟨fun n => (s.t n).kill (Cell.uses fun _ => false), s.m⟩ : St) = s := by
  have : (fun n => (s.t n).kill (Cell.uses fun _ => false)) = s.t := by
   funext n
   rw [uses_no]
   exact AV_kill_no _
  rw [this]
 rw [hs] at hfs
 unfold Oper.wp
 rw [hrun]
 show Rel P N w0 S _ (a.put o.dst _) _
 rw [hdst, putT_upd]
 refine ⟨ρ, F, hfs.1.put hd (.c ?_)⟩
 show Deep P (w.alloc (.cells us' e)) (okm s.m F) (.row e (chunkN z n ds)) (.slice (some ⟨w.heap.size, 0, none⟩) n n)
 have hat : ∀ {i j : Nat} {c : List DV} {d : DV}, (chunkN z n ds)[i]? = some c → c[j]? = some d → i < n ∧ j < z ∧ ds[i * z + j]? = some d := by
  intro i j c d h1 h2
  have hi : i < n := by have := (List.getElem?_eq_some_iff.1 h1).1; rwa [chunkN_len] at this
  rw [chunkN_get z n ds i hi] at h1
  injection h1 with h1
  subst h1
  rw [List.getElem?_take] at h2
  split at h2
  ·rename_i hj
   rw [List.getElem?_drop] at h2
   exact ⟨hi, hj, h2⟩
  ·cases h2
 have hval : ∀ (k : Nat) (d : DV), ds[k]? = some d → ∃ u, us'.toList[k]? = some u ∧ Deep P w (okm s.m F) d u := by
  intro k d hk
  obtain ⟨u, hu, hc⟩ := h9.getL (show (ds.map Cell.d)[k]? = some (Cell.d d) by rw [List.getElem?_map, hk]; rfl)
  exact ⟨u, hu, hc⟩
 refine .row e _ ⟨w.heap.size, 0, none⟩ n n z (fun i j => us'.toList[i * z + j]?.getD undef) (chunkN_len _ _ _).symm (Nat.le_refl _) (cellsOf_tyi hti).symm hz (fun h0 => ?_) (fun κ hκ hF => ?_) (fun c hc => ?_) (fun i c j d a1 a2 => ?_) (fun i c j d a1 a2 => ?_)
 ·have := chunkN_len z n ds
  rw [h0] at this
  simp at this
  omega
 ·have := hr.lt hκ hF
  exact Nat.lt_irrefl _ this
 ·obtain ⟨i, hi, rfl⟩ := List.mem_iff_getElem.1 hc
  have hi' : i < n := by rwa [chunkN_len] at hi
  have h11 := chunkN_get z n ds i hi'
  rw [List.getElem?_eq_getElem hi] at h11
  injection h11 with h11
  rw [h11, List.length_take, List.length_drop, hl]
  have : i * z + z ≤ n * z := by rw [← Nat.succ_mul]; exact Nat.mul_le_mul_right _ hi'
  omega
 ·obtain ⟨_, _, h11⟩ := hat a1 a2
  obtain ⟨u, hu, _⟩ := hval _ _ h11
  rw [hu]
  exact hrow.cells (g := w.heap.size) rfl _ _ hu
 ·obtain ⟨_, _, h11⟩ := hat a1 a2
  obtain ⟨u, hu, hD⟩ := hval _ _ h11
  rw [hu]
  exact hfs.2 (.d d) u rfl hD
variable {ops : Array Oper} {draw : Bool} {pre : List (Oper × Eff)} {rest : List Oper} {t : Nat → AV} {m : Nat → Option Cont} {K : St → Prop} {G : List (Operand × AV)}
theorem a_litD {T e : TypeId} {n : Nat} {parts : Array (Nat × Operand)} {z b : Nat} {zz : List Value} {g : Bool} {ds : List DV} {css : List (List DV)} (k : RV P N w0 S draw ops pre rest t m K o G (rds ⟨t, m⟩ parts.toList) [] d (vR e css)) (ht : eln P T = some e) (hti : tyi P e = some (z, b, zz, g)) (ho : o.op = .buildSlice T n parts := by rfl) (hd : o.dst = some d := by rfl) (hN : Nat.blt d N = true := by rfl) (hf : fillA (plA z) (St.ev ⟨t, m⟩) parts.toList (cvs (List.replicate n zz).flatten) = some (ds.map Cell.d) := by rfl) (hcss : chunkN z n ds = css := by rfl) (hz : 0 < z := by decide) (hzz : zz.length = z := by rfl) (hn : n * z ≤ 16777216 := by decide) (hn0 : 0 < n := by decide) (hl : ds.length = n * z := by rfl) (hg : Gs ops o ⟨t, m⟩ G := by exact Gs.no rfl) : RA P N w0 S draw ops pre (o :: rest) ⟨t, m⟩ K :=
 RA.val hd hg k (preT_rds _ _) True.intro (fun s hs hk => by
  have := s_litD (P := P) (N := N) (w0 := w0) (S := S) (s := s) (ds := ds) ho ht hti (by rw [fillA_congr (rds_ev hs)]; exact hf) hz hzz hn hn0 hl hd (blt hN)
  rw [hcss, putT_upd] at this
  rw [hd]
  exact this)
end
end Go.Proofs.YtadjbffiomkljaaGreatM

/- Clone of whole numbers by the shelf's contract, told over the abstract machine. No condition. -/
import Derived.Test.YtadjbffiomkljaaGreatAnF
import Derived.Test.YtadjbffiomkljaaGreatProg
import Derived.WalkKit
import Derived.ProofKit
import Derived.Shelf.SlicesG.Clone
import Derived.Shelf.Lay
import Derived.Ground.SlgnProg
set_option linter.unusedVariables false
set_option linter.unusedSimpArgs false
namespace Go.Proofs
open Go.Shelf
shelf_lay_g SlLaysN.n41 Slgn 41 at Tryz 130 as Tryz.cloneInts
end Go.Proofs
namespace Go.Proofs.YtadjbffiomkljaaGreat.CloneI
open Go Go.RowKit Go.Lib Go.Shelf Go.Proofs.YtadjbffiomkljaaGreatM
set_option maxHeartbeats 2000000 in
set_option maxRecDepth 100000 in
theorem clone_at {P : Program} {ρ : Ren} (L : SlLaysN.n41 P ρ) (ad : Addr) (n c : Nat) (zs : List Int) (w : World) (hz : n = zs.length) (hbig : n * 8 ≤ 140737488355328) (hc : ∀ j, j < zs.length → w.cell? (ad.add j) = some (.int .i64 (zs.getD j 0))) :
    Calls P (ρ.f 41) #[.slice (some ad) n c] w fun e w' => ∃ v', e = .returned v' ∧ w'.ownsRow w.heap.size (ρ.t 23) 1 v' n (zs.map (Value.int .i64)) ∧ Below w.heap.size w w' := by
  have mixed := L.mixed; have t4 := L.t4; have a4 := L.a4; have z4 := L.z4; have v4 := L.v4; have t22 := L.t22; have a22 := L.a22; have z22 := L.z22; have v22 := L.v22; have t23 := L.t23; have a23 := L.a23; have z23 := L.z23; have v23 := L.v23
  obtain ⟨i0, hi, hz0, hz1, hz2⟩ := info_parts L.i23
  have q22 : ∀ (w : World) (a : Option Addr) (n c n' c' : Nat), (binOp .eql (ρ.t 22) (.slice a n c) (.slice none n' c')).run P w = .ok (.bool a.isNone) w := fun w a n c n' c' => run_eql_slice_nil w _ _ a n c n' c' L.t22
  have u22 : ∀ w, Sem.run P (underlying (ρ.t 22)) w = .ok (TypeDesc.slice (ρ.t 23)) w := run_underlying t22
  have A : Aside (∀ j, j < zs.length → w.cell? (ad.add j) = some (.int .i64 (zs.getD j 0))) := hc
  clear hc
  obtain ⟨_, _, FG⟩ := L.f41
  go_enter FG, SlBodyN.n41_ntmps ρ
  go_wp2_with (at_builtin; refine wpList_append_own _ rfl _ _ (ρ.t 22) rfl w.heap.size (ρ.t 23) i0 (.int .i64 0) 1 8 t22 hi hz0 hz1 hz2 rfl (by decide) _ _ _ rfl (World.ownsRow_made w #[] 0 (Nat.le_refl _) (Nat.zero_le _) rfl) ad n c (zs.map (Value.int .i64)) rfl ?qc1 ?qc2 ?qc3 ?qc4 ?qc5 ?qc6 ?_)
  case qc1 => rw [List.length_map, hz, Nat.mul_one]
  case qc2 =>
    intro j u hj
    rw [List.getElem?_map] at hj
    obtain ⟨x, hx, rfl⟩ := Option.map_eq_some_iff.1 hj
    have hlt := (List.getElem?_eq_some_iff.1 hx).1
    refine cell?_alloc_some _ ?_
    rw [A.out j hlt, List.getD_eq_getElem?_getD, hx]
    rfl
  case qc3 => intro u hu; obtain ⟨x, _, rfl⟩ := List.mem_map.1 hu; rfl
  case qc4 => unfold maxLen; omega
  case qc5 => omega
  case qc6 => simp
  intro v' w1 hown hgrow hnil
  go_wp2
  go_ret
  exact ⟨v', rfl, by subst hz; simpa using hown, ((Below.refl _ w).alloc (Nat.le_refl _) _).grown hgrow (by simp) (by intro k hk; simp [Value.ownBlock] at hk; omega)⟩
theorem clone_okF {P : Program} {ρ : Ren} (L : SlLaysN.n41 P ρ) (hcl : P.cellsOf (ρ.t 23) = 1) (hfn : ∃ fn : Func, P.funcs[ρ.f 41]? = some fn ∧ (fn.name == "runtime.NumGoroutine") = false ∧ fn.body.isNone = false) (l : List Int) (h : l.length * 8 ≤ 140737488355328) :
    OkF P (ρ.f 41) [.c (.d (.row (ρ.t 23) (l.map fun x => [.v (.int .i64 x)])))] [] (.c (.own 100 l.length)) [(100, .row (ρ.t 23) (l.map fun x => [.v (.int .i64 x)]))] := by
  refine ⟨hfn, fun w vals ρ0 F hv hrows => ?_⟩
  obtain ⟨v0, rfl, ok, hd⟩ : ∃ v0, vals = [v0] ∧ ∃ ok, Deep P w ok (.row (ρ.t 23) (l.map fun x => [.v (.int .i64 x)])) v0 := by
    cases hv with
    | cons h1 h2 =>
      cases h2
      cases h1 with
      | c h1 => exact ⟨_, rfl, _, h1⟩
  have hend : ∀ (e' : Ending) (w' : World), (∃ v', e' = .returned v' ∧ w'.ownsRow w.heap.size (ρ.t 23) 1 v' l.length (l.map (Value.int .i64)) ∧ Below w.heap.size w w') →
      ∃ u ρ' F', e' = .returned u ∧ Fr (blocks [] F) w w' ∧ AVRel P w' (okm (lk [(100, Cont.row (ρ.t 23) (l.map fun x => [.v (.int .i64 x)]))]) F') (lk [(100, Cont.row (ρ.t 23) (l.map fun x => [.v (.int .i64 x)]))]) ρ' (.c (.own 100 l.length)) u ∧ Go.Proofs.YtadjbffiomkljaaGreatM.Rows P w' [(100, Cont.row (ρ.t 23) (l.map fun x => [.v (.int .i64 x)]))] ρ' F' ∧
      (∀ κ, κ < 100 → lk [(100, Cont.row (ρ.t 23) (l.map fun x => [DV.v (.int .i64 x)]))] κ ≠ none → ρ' κ = ρ0 κ) ∧ ∀ κ k, lk [(100, Cont.row (ρ.t 23) (l.map fun x => [DV.v (.int .i64 x)]))] κ ≠ none → F' κ k → w.heap.size ≤ k ∨ blocks [] F k := by
    rintro e' w' ⟨v', rfl, hown, hbel⟩
    have hOne : ∀ κ, lk [(100, Cont.row (ρ.t 23) (l.map fun x => [DV.v (.int .i64 x)]))] κ ≠ none → κ = 100 := fun κ h => by simpa using lk_key h
    refine ⟨v', fun _ => v', fun _ k => v'.ownBlock = some k, rfl, Fr.of_below hbel _, .c ⟨⟨_, _, rfl, List.length_map _⟩, rfl, ownsRow_own hown⟩, ⟨fun κ ct hκ => ?_, fun κ κ' k h1 h2 _ _ => (hOne κ h1).trans (hOne κ' h2).symm⟩, fun κ hlt h1 => by have := hOne κ h1; omega, fun κ k _ hk => .inl (hown.lt k hk).1⟩
    obtain rfl := hOne κ (by rw [hκ]; simp)
    obtain ⟨_, rfl⟩ := lk_one hκ
    refine .row (fun k => v'.ownBlock = some k) (ρ.t 23) (l.map fun x => [.v (.int .i64 x)]) v' (l.map (Value.int .i64)) (fun _ _ _ => False) (by rw [List.length_map, hcl]; exact ownsRow_lower hown (Nat.zero_le _)) (fun cs hm => ?_) (fun i j cs d u a1 a2 a3 => ?_) (fun _ _ _ _ _ h => h.elim) (fun _ _ _ h => h.elim) (fun _ _ _ h => h.elim) (fun k => ⟨.inl, fun h => h.elim id (fun ⟨_, _, h⟩ => h.elim)⟩) (by rw [hcl]; decide)
    · obtain ⟨x, _, rfl⟩ := List.mem_map.1 hm
      rw [hcl]; rfl
    · rw [List.getElem?_map] at a1
      obtain ⟨x, hx, rfl⟩ := Option.map_eq_some_iff.1 a1
      cases j with
      | succ j => simp at a2
      | zero =>
        obtain rfl : DV.v (.int .i64 x) = d := by simpa using a2
        rw [hcl, Nat.mul_one, Nat.add_zero, List.getElem?_map, hx] at a3
        obtain rfl : Value.int .i64 x = u := by simpa using a3
        exact .v _ rfl
  by_cases hl : l = []
  · subst hl
    obtain ⟨A, c, rfl⟩ : ∃ A c, v0 = .slice A 0 c := by
      generalize hq : DV.row (ρ.t 23) (List.map (fun x => [DV.v (.int .i64 x)]) ([] : List Int)) = q at hd
      cases hd with
      | row0 e A c h0 => exact ⟨A, c, rfl⟩
      | row e css ad n c sz vals hn hc hsz hpos hne => injection hq with _ hq; exact absurd hq.symm hne
      | _ => cases hq
    cases A with
    | none => exact Calls.mono (AnyG.slices_Clone_int_nil L 0 c w) (fun e' w' ⟨h1, h2⟩ => hend e' w' ⟨_, h1, by subst h2; exact World.ownsRow_nil _ _ _ _, by subst h2; exact Below.refl _ _⟩)
    | some a => exact Calls.mono (AnyG.slices_Clone_int_zero L a c w) (fun e' w' ⟨v', h1, h2, _, h3⟩ => hend e' w' ⟨v', h1, h2, h3⟩)
  · obtain ⟨ad, c, rfl, hcell⟩ : ∃ ad c, v0 = .slice (some ad) l.length c ∧ ∀ j, j < l.length → w.cell? (ad.add j) = some (.int .i64 (l.getD j 0)) := by
      generalize hq : DV.row (ρ.t 23) (List.map (fun x => [DV.v (.int .i64 x)]) l) = q at hd
      cases hd with
      | row0 e A c h0 => injection hq with _ hq; exact absurd (List.map_eq_nil_iff.1 hq) hl
      | row e css ad n c sz vals hn hc hsz hpos hne hok hlen hcell hd =>
        injection hq with hq1 hq
        subst hq1 hq
        rw [List.length_map] at hn
        subst hn
        refine ⟨ad, c, rfl, fun j hj => ?_⟩
        have e1 : (l.map fun x => [DV.v (.int .i64 x)])[j]? = some [DV.v (.int .i64 (l.getD j 0))] := by
          rw [List.getElem?_map, List.getElem?_eq_getElem hj, List.getD_eq_getElem?_getD, List.getElem?_eq_getElem hj]; rfl
        have h1 := hcell j _ 0 _ e1 rfl
        have h2 := hd j _ 0 _ e1 rfl
        rw [hsz, hcl, Nat.mul_one, Nat.add_zero] at h1
        rw [h1]
        congr 1
        exact deep_v h2
      | _ => cases hq
    exact Calls.mono (clone_at L ad l.length c l w rfl h hcell) (fun e' w' h => hend e' w' h)
theorem cloneInts (l : List Int) (h : l.length * 8 ≤ 140737488355328) : OkF Tryz.prog 130 [.c (.d (.row 2 (l.map fun x => [.v (.int .i64 x)])))] [] (.c (.own 100 l.length)) [(100, .row 2 (l.map fun x => [.v (.int .i64 x)]))] :=
  clone_okF Tryz.cloneInts (by kernel_rfl) ⟨Tryz.f130, Tryz.func130, by kernel_rfl, by kernel_rfl⟩ l h
end Go.Proofs.YtadjbffiomkljaaGreat.CloneI

/- The abstract machine: contracts under a condition on the world (what package-level variables hold). No condition. -/
import Derived.Test.YtedakffelgmmnaaDoorAnL
import Derived.Test.YtedakffelgmmnaaDoorAnF
import Derived.Test.YtedakffelgmmnaaDoorAnD
import Derived.Test.YtedakffelgmmnaaDoorAnB
set_option linter.unusedVariables false
set_option linter.unusedSimpArgs false
namespace Go.Proofs.YtedakffelgmmnaaDoorM
open Go Go.RowKit
/-- A contract where a condition on the world holds. -/
structure OkW (P : Program) (B : World → Prop) (f : FuncId) (as : List AV) (res : AV) (m1 : List (Nat × Cont)) : Prop where
  fn : ∃ fn : Func, P.funcs[f]? = some fn ∧ (fn.name == "runtime.NumGoroutine") = false ∧ fn.body.isNone = false
  run : ∀ (w : World) (vals : List Value) (ρ : Nat → Value) (F : Nat → Nat → Prop), B w → All2 (AVRel P w (okm (lk []) F) (lk []) ρ) as vals → Rows P w [] ρ F →
    Calls P f vals.toArray w (fun e w' => ∃ u ρ' F', e = .returned u ∧ Fr (blocks [] F) w w' ∧ AVRel P w' (okm (lk m1) F') (lk m1) ρ' res u ∧ Rows P w' m1 ρ' F' ∧
      (∀ κ, κ < 100 → lk m1 κ ≠ none → ρ' κ = ρ κ) ∧ ∀ κ k, lk m1 κ ≠ none → F' κ k → w.heap.size ≤ k ∨ blocks [] F k)
section
variable {P : Program} {N : Nat} {w0 : World} {S : Fx} {s : St} {Q : Exit → St → Prop} {x y c : Code} {w : World} {a : Act} {ok ok1 : Nat → Prop} {m m1 : Nat → Option Cont} {ρ : Nat → Value} {F : Nat → Nat → Prop} {σ : Nat → Nat} {o : Oper}
/-- A function's contract from its body: what it leaves, read in whatever way. -/
theorem OkW.ofG {f : FuncId} {fn : Func} {B : World → Prop} {as : List AV} {m1 : List (Nat × Cont)} {avs : List AV} {rs : List Tmp} {res : AV} (hf : P.funcs[f]? = some fn) (hb : fn.body = some c) (hN : fn.ntmps = N) {R : St → Prop} (hR : ∀ w0 S s a w, Rel P N w0 S s a w → R s → ∃ a2 s2, Rel P N w0 S s2 a2 w ∧ RetP rs avs m1 s2 ∧ (results fn a.tmps).run P w = .ok (resV rs a2.tmps) w) (hnm : (fn.name == "runtime.NumGoroutine") = false)
    (hle : Nat.ble as.length N = true) (hlen : rs.length = avs.length) (hres : resOf avs = res) (hk : avs.all noTup = true) (h : ∀ w0 S, B w0 → (∀ k, ¬ S.S k) → AG P N w0 S c (retQ R) (St.of (ix 0 as) [])) : OkW P B f as res m1 := by
  refine ⟨⟨fn, hf, hnm, by rw [hb]; rfl⟩, fun w vals ρ F hBw hv hrows => ?_⟩
  have hvl := hv.len
  refine calls_of_wp hf hb ?_
  have hrel : Rel P N w ⟨blocks [] F, ρ⟩ (St.of (ix 0 as) []) { tmps := vals.toArray ++ Array.replicate (fn.ntmps - vals.toArray.size) undef, defers := [] } w := by
    have hle' := ble hle
    refine ⟨ρ, F, rfl, by simp [hN]; omega, fun n => ?_, hrows.mem, hrows.apart, fun κ k h1 h2 => .inr ⟨κ, h1, h2⟩, Fr.refl _ _, fun κ _ _ => rfl⟩
    show AVRel P w _ _ _ ((lk (ix 0 as) n).getD (.c .dead)) _
    rw [lk_ix, if_pos (Nat.zero_le _), Nat.sub_zero]
    have h1 := hv.getD_rel n (.c .dead) undef (.c True.intro)
    have h2 : (vals.toArray ++ Array.replicate (fn.ntmps - vals.toArray.size) undef).getD n undef = vals[n]?.getD undef := by
      rw [Array.getD_eq_getD_getElem?, Array.getElem?_append]
      split
      · simp
      · rename_i hlt
        rw [List.getElem?_eq_none (by simpa using hlt)]
        cases h3 : (Array.replicate (fn.ntmps - vals.toArray.size) undef)[n - vals.toArray.size]? with
        | none => rfl
        | some v =>
          have := Array.getElem?_eq_some_iff.1 h3
          obtain ⟨h4, h5⟩ := this
          simp at h5
          simp [h5]
    rw [h2]
    exact h1
  refine wp_mono ((h w ⟨blocks [] F, ρ⟩ hBw (fun k hb => by obtain ⟨_, hb, _⟩ := hb; exact hb rfl)).run _ _ hrel) (fun e a' w' he => ?_)
  obtain ⟨s', hq, hr'⟩ := he
  have key : R s' → a'.defers = [] ∧ ∃ v, (results fn a'.tmps).run P w' = .ok v w' ∧ ∃ u ρ' F', Ending.returned v = .returned u ∧ Fr (blocks [] F) w w' ∧ AVRel P w' (okm (lk m1) F') (lk m1) ρ' res u ∧ Rows P w' m1 ρ' F' ∧ (∀ κ, κ < 100 → lk m1 κ ≠ none → ρ' κ = ρ κ) ∧ ∀ κ k, lk m1 κ ≠ none → F' κ k → w.heap.size ≤ k ∨ blocks [] F k := by
    intro hRs
    obtain ⟨a2, s2, hr2, ⟨σ, ht, hm, hck⟩, hrun⟩ := hR _ _ _ _ _ hr' hRs
    obtain ⟨ρ', F', hc, hall⟩ := hr2.canonE σ ht hm hck
    have hdf : a'.defers = [] := by obtain ⟨_, _, h⟩ := hr'; exact h.defers
    refine ⟨hdf, _, hrun, _, ρ', F', rfl, hc.frame, ?_, ⟨hc.mem, hc.apart⟩, hc.pin, hc.base⟩
    have hA := ret_all (R := fun v t => AVRel P w' (okm (lk m1) F') (lk m1) ρ' v (a2.tmps.getD t undef)) hlen hall
    have htup := ret_el (g := fun t => a2.tmps.getD t undef) hk hA
    subst hres
    cases hA with
    | nil => exact .tup htup
    | cons h1 h2 =>
      cases h2 with
      | nil => exact h1
      | cons h3 h4 => exact .tup htup
  cases e with
  | normal => exact key hq
  | ret => exact key hq
  | _ => exact hq.elim
/-- A function's contract from its body. -/
theorem OkW.of {f : FuncId} {fn : Func} {B : World → Prop} {as : List AV} {m1 : List (Nat × Cont)} {avs : List AV} {rs : List Tmp} {res : AV} (hf : P.funcs[f]? = some fn) (hb : fn.body = some c) (hN : fn.ntmps = N) (hr : ∀ tmps w, (results fn tmps).run P w = .ok (resV rs tmps) w) (hnm : (fn.name == "runtime.NumGoroutine") = false)
    (hle : Nat.ble as.length N = true) (hlen : rs.length = avs.length) (hres : resOf avs = res) (hk : avs.all noTup = true) (h : ∀ w0 S, B w0 → (∀ k, ¬ S.S k) → AG P N w0 S c (retQ (RetP rs avs m1)) (St.of (ix 0 as) [])) : OkW P B f as res m1 :=
  OkW.ofG hf hb hN (fun w0 S s a w hrel hR => ⟨a, s, hrel, hR, hr _ _⟩) hnm hle hlen hres hk h
theorem OkW.ofB {f : FuncId} {fn : Func} {B : World → Prop} {as : List AV} {m1 : List (Nat × Cont)} {av : AV} {t : Tmp} {ty : TypeId} (hf : P.funcs[f]? = some fn) (hb : fn.body = some c) (hN : fn.ntmps = N) (hr : fn.results = #[.cell t ty]) (ht : Nat.blt t N = true) (hnm : (fn.name == "runtime.NumGoroutine") = false)
    (hle : Nat.ble as.length N = true) (hk : noTup av = true) (h : ∀ w0 S, B w0 → (∀ k, ¬ S.S k) → AG P N w0 S c (retQ (RetB P t ty av m1)) (St.of (ix 0 as) [])) : OkW P B f as av m1 :=
  OkW.ofG (rs := [t]) (avs := [av]) hf hb hN (fun w0 S s a w hrel hR => by
    obtain ⟨hti, h1, h2, hq, hp⟩ := hR
    rename_i z b zz g κ bt cs
    obtain ⟨ρ, F, hr'⟩ := hrel
    have hx := hr'.tmps t
    rw [h1] at hx
    cases hx with
    | c hx =>
      obtain ⟨ty', cs', g', q2, q3, q4⟩ := hx
      obtain ⟨g2, us, q5, q6, q7, q8, q9⟩ := hr'.mem κ _ h2
      rw [q3] at q5
      injection q5 with q5
      injection q5 with q5
      injection q5 with q5
      subst q5
      have hp2 := fitB_spec hq
      have hl := q7.len
      have hall := (q7.drop 0).take z
      have hlen : ((cs.drop 0).take z).length = z := by rw [List.length_take, List.length_drop]; omega
      obtain ⟨u, h10, h11, h12⟩ := mkAV_rel (z := z) hall (g := g) (fun hg => by rw [hlen, hp2.2 hg])
      have hload := run_loadVar (w := w) (ad := ⟨g', 0, none⟩) hti ((us.drop 0).take z) (by rw [← hall.len, hlen]) hp2.2 h11 h12 (fun j y hj => by
        rw [add_at, box_cell q6]
        rw [List.getElem?_take] at hj
        split at hj
        · rwa [List.getElem?_drop] at hj
        · cases hj)
      have hput := hr'.put (d := t) (blt ht) h10
      have hres : (results fn a.tmps).run P w = .ok u w := by
        have q4' := q4
        rw [Array.getD_eq_getD_getElem?] at q4'
        simp [results, hr, q4', hload, asAddr]
      have hu : (a.put (some t) u).tmps.getD t undef = u := by
        simp [Act.put, Array.getElem?_setIfInBounds, hr'.size, blt ht]
      refine ⟨a.put (some t) u, _, ⟨ρ, F, ?_⟩, hp, ?_⟩
      · rw [putT_upd]; exact hput
      · rw [hres]; show _ = Result.ok ((a.put (some t) u).tmps.getD t undef) w; rw [hu]) hnm hle rfl rfl (by simpa using hk) h
theorem OkW.ofC {f : FuncId} {fn : Func} {B : World → Prop} {as : List AV} {m1 : List (Nat × Cont)} {avs : List AV} {rs : List Tmp} {res : AV} (cells : List (Tmp × TypeId)) (hf : P.funcs[f]? = some fn) (hb : fn.body = some c) (hN : fn.ntmps = N) (hr : ∀ tmps tmps2 w, (∀ p ∈ cells, ∃ ad, tmps.getD p.1 undef = .pointer (some ad) ∧ (loadVar p.2 ad).run P w = .ok (tmps2.getD p.1 undef) w) → (∀ t, t ∉ cells.map (·.1) → tmps2.getD t undef = tmps.getD t undef) → (results fn tmps).run P w = .ok (resV rs tmps2) w)
    (hnd : (cells.map (·.1)).Nodup) (hlt : cells.all (fun p => Nat.blt p.1 N) = true) (hnm : (fn.name == "runtime.NumGoroutine") = false)
    (hle : Nat.ble as.length N = true) (hlen : rs.length = avs.length) (hres : resOf avs = res) (hk : avs.all noTup = true) (h : ∀ w0 S, B w0 → (∀ k, ¬ S.S k) → AG P N w0 S c (retQ (RetL P rs avs m1 cells)) (St.of (ix 0 as) [])) : OkW P B f as res m1 :=
  OkW.ofG hf hb hN (fun w0 S s a w hrel hR => by
    obtain ⟨a2, s2, r1, r2, r3, r4⟩ := retL_run hnd (fun p hp => blt (List.all_eq_true.1 hlt p hp)) hrel hR
    exact ⟨a2, s2, r1, r2, hr _ _ _ r3 r4⟩) hnm hle hlen hres hk h
theorem s_callG {f : FuncId} {xs : Array Operand} {tys : Array TypeId} {as : List AV} {res v : AV} {ms L nk : List (Nat × Cont)} {s0 : St} {d : Nat} (ho : o.op = .call { callee := .value (.func f), args := xs, argTypes := tys }) {B : World → Prop} (hc : OkW P B f as res ms) (hB : ∀ w, Fr S.S w0 w → B w) (he : ∀ x ∈ xs.toList, s.ev x = s0.ev x) (ha : All2 (AVRd L) (xs.toList.map s0.ev) as) (hL : preK s L) (hn : preN s nk)
    (σ : Nat → Nat) (hnk : nkOk ms σ nk) (hk : okNew σ v nk = true) (hv : v.mapK σ = res) (hd : o.dst = some d) (hN : d < N) : SoundOp P N w0 S o s ⟨putT (killT s.t [] []) (some (d, v)), putK (killK s.m [] []) nk []⟩ := by
  rintro a w ⟨ρ, F, hr⟩
  obtain ⟨fn, q1, q2, q3⟩ := hc.fn
  have hargs := args_rel (F0 := fun _ _ => False) (ρ0 := fun _ => default) hr hL he ha
  have hcall := hc.run w (xs.toList.map a.eval) (fun _ => default) (fun _ _ => False) (hB w hr.frame) hargs ⟨fun κ c hc => (by cases hc), fun κ κ' k h => absurd rfl h⟩
  unfold Oper.wp
  rw [run_call ho q1 q2 q3]
  have harr : (xs.toList.map a.eval).toArray = xs.map a.eval := by
    apply Array.ext'
    simp
  rw [harr] at hcall
  refine Calls.mono hcall (fun e w' he => ?_)
  obtain ⟨u, ρ', F', rfl, hfr, hu, hrows, _, hnew⟩ := he
  have hno : ∀ k, ¬ blocks [] (fun _ _ => False) k := fun k hb => by obtain ⟨_, h, _⟩ := hb; exact h rfl
  subst hv
  obtain ⟨ρ1, F1, h1, h2⟩ := hr.made σ (hfr.mono (fun k hk _ => (hno k hk).elim)) hrows (fun κ k h3 h4 => (hnew κ k h3 h4).resolve_right (hno k)) hn hnk hk hu
  show Rel P N w0 S _ (a.put o.dst u) w'
  rw [hd, putT_upd]
  exact ⟨ρ1, F1, h1.put hN h2⟩
variable {ops : Array Oper} {draw : Bool} {pre : List (Oper × Eff)} {rest : List Oper} {t : Nat → AV} {m : Nat → Option Cont} {K : St → Prop} {G : List (Operand × AV)} {d : Nat}
theorem a_callG {f : FuncId} {xs : Array Operand} {tys : Array TypeId} {as : List AV} {res v : AV} {ms L nk : List (Nat × Cont)} (k : RM P N w0 S draw ops pre rest t m K o G (rdO ⟨t, m⟩ xs.toList) L (some (d, v)) nk [] [] []) (ho : o.op = .call { callee := .value (.func f), args := xs, argTypes := tys }) {B : World → Prop} (hB : ∀ w, Fr S.S w0 w → B w) (hc : OkW P B f as res ms) (σ : Nat → Nat) (ha : All2 (AVRd L) (xs.toList.map (St.ev ⟨t, m⟩)) as) (hL : preK ⟨t, m⟩ L) (hn : preN ⟨t, m⟩ nk) (hnk : nkOk ms σ nk) (hk : okNew σ v nk = true) (hd : o.dst = some d := by rfl) (hN : Nat.blt d N = true := by rfl) (hv : v.mapK σ = res := by rfl) (hg : Gs ops o ⟨t, m⟩ G := by exact Gs.no rfl) : RA P N w0 S draw ops pre (o :: rest) ⟨t, m⟩ K :=
  RA.mem hg k (preT_rdO _ _) hL hn (fun s hs hk' hn' => s_callG ho hc hB (rdO_ev hs) ha hk' hn' σ hnk hk hv hd (blt hN))
theorem s_callGF {f : FuncId} {xs : Array Operand} {tys : Array TypeId} {as : List AV} {L : List (Nat × Cont)} {e : TypeId} {css : List (List DV)} {n : Nat} {s0 : St} {d : Nat} (ho : o.op = .call { callee := .value (.func f), args := xs, argTypes := tys }) {B : World → Prop} (hc : OkW P B f as (.c (.own 100 n)) [(100, .row e css)]) (hB : ∀ w, Fr S.S w0 w → B w) (he : ∀ x ∈ xs.toList, s.ev x = s0.ev x) (ha : All2 (AVRd L) (xs.toList.map s0.ev) as) (hL : preK s L)
    (hd : o.dst = some d) (hN : d < N) : SoundOp P N w0 S o s ⟨putT s.t (some (d, vR e css)), s.m⟩ := by
  rintro a w ⟨ρ, F, hr⟩
  obtain ⟨fn, q1, q2, q3⟩ := hc.fn
  have hargs := args_rel (F0 := fun _ _ => False) (ρ0 := fun _ => default) hr hL he ha
  have hcall := hc.run w (xs.toList.map a.eval) (fun _ => default) (fun _ _ => False) (hB w hr.frame) hargs ⟨fun κ c hc => (by cases hc), fun κ κ' k h => absurd rfl h⟩
  unfold Oper.wp
  rw [run_call ho q1 q2 q3]
  have harr : (xs.toList.map a.eval).toArray = xs.map a.eval := by
    apply Array.ext'
    simp
  rw [harr] at hcall
  refine Calls.mono hcall (fun e' w' he => ?_)
  obtain ⟨u, ρ', F', rfl, hfr, hu, hrows, _, hnew⟩ := he
  have hno : ∀ k, ¬ blocks [] (fun _ _ => False) k := fun k hb => by obtain ⟨_, h, _⟩ := hb; exact h rfl
  have hfr' : Fr (fun _ => False) w w' := hfr.mono (fun k hk _ => (hno k hk).elim)
  have hf := hr.fresh (m1 := s.m) (ρ1 := ρ) (F1 := F) (fun _ => false) hfr' (fun κ _ => by
    rw [uses_no]
    cases s.m κ with
    | none => rfl
    | some c => simp [Cont_kill_no]) (fun _ _ => rfl) (fun _ _ => rfl) (fun κ k h => (by cases h)) (fun _ κ c h => (by cases h)) (fun κ κ' k h => (by cases h)) (fun κ h => (by cases h))
  have hs : (⟨fun n => (s.t n).kill (Cell.uses fun _ => false), s.m⟩ : St) = s := by
    have : (fun n => (s.t n).kill (Cell.uses fun _ => false)) = s.t := by
      funext n
      rw [uses_no]
      exact AV_kill_no _
    rw [this]
  rw [hs] at hf
  obtain ⟨_, hu2, _⟩ := rel_own hu
  have hown : Own P w' (F' 100) (.row e css) (ρ' 100) := hrows.mem 100 _ rfl
  show Rel P N w0 S _ (a.put o.dst u) w'
  rw [hd, putT_upd]
  refine ⟨ρ, F, hf.1.put hN (.c ?_)⟩
  show Deep P w' (okm s.m F) (.row e css) u
  rw [hu2]
  refine hown.deep (fun k hk κ hn hF => ?_)
  have h1 := (hnew 100 k (by simp [lk]) hk).resolve_right (hno k)
  have h2 := hr.lt hn hF
  omega
theorem a_callGF {f : FuncId} {xs : Array Operand} {tys : Array TypeId} {as : List AV} {L : List (Nat × Cont)} {e : TypeId} {css : List (List DV)} {n : Nat} (k : RV P N w0 S draw ops pre rest t m K o G (rdO ⟨t, m⟩ xs.toList) L d (vR e css)) (ho : o.op = .call { callee := .value (.func f), args := xs, argTypes := tys }) {B : World → Prop} (hB : ∀ w, Fr S.S w0 w → B w) (hc : OkW P B f as (.c (.own 100 n)) [(100, .row e css)])
    (ha : All2 (AVRd L) (xs.toList.map (St.ev ⟨t, m⟩)) as) (hL : preK ⟨t, m⟩ L) (hd : o.dst = some d := by rfl) (hN : Nat.blt d N = true := by rfl) (hg : Gs ops o ⟨t, m⟩ G := by exact Gs.no rfl) : RA P N w0 S draw ops pre (o :: rest) ⟨t, m⟩ K :=
  RA.val hd hg k (preT_rdO _ _) hL (fun s hs hk => by
    have := s_callGF (P := P) (N := N) (w0 := w0) (S := S) (s := s) ho hc hB (rdO_ev hs) ha hk hd (blt hN)
    rw [putT_upd] at this
    rw [hd]
    exact this)
theorem OkW.closed {B : World → Prop} {f : FuncId} {as : List AV} {x : Value} (hc : OkW P B f as (.c (.d (.v x))) []) (hB : B w) {vals : List Value} (ha : All2 (ArgR P w) as vals) : Calls P f vals.toArray w (fun e w' => e = .returned x ∧ Below w.heap.size w w') := by
  refine Calls.mono (hc.run w vals (fun _ => default) (fun _ _ => False) hB ha ⟨fun κ c hc => (by cases hc), fun κ κ' k h => absurd rfl h⟩) (fun e w' he => ?_)
  obtain ⟨u, ρ', F', rfl, hfr, hu, _⟩ := he
  refine ⟨by rw [rel_v hu], (hfr.mono (fun k hk _ => ?_)).below⟩
  obtain ⟨_, h, _⟩ := hk
  exact h rfl
/-- A nil among a variable's cells that is to grow: a row of the call's own. -/
theorem Rel.nilBox {κ κ2 j : Nat} {ty e : TypeId} {cs : List Cell} (hm : s.m κ = some (.box ty cs)) (hj : cs[j]? = some (.d (.v (.slice none 0 0)))) (hκ : s.m κ2 = none) (hbig : 100 ≤ κ2) (hpos : 0 < P.cellsOf e) (h : Rel P N w0 S s a w) :
    Rel P N w0 S ⟨s.t, putK s.m [(κ2, .row e [])] [(κ, some (.box ty (cs.set j (.own κ2 0))))]⟩ a w := by
  obtain ⟨ρ, F, hr⟩ := h
  have hown : Own P w (fun _ => False) (.row e []) (.slice none 0 0) := by
    refine .row _ e [] _ [] (fun _ _ _ => False) ⟨by simp, .inl ⟨rfl, rfl⟩⟩ (fun cs hcs => (by cases hcs)) (fun i j cs d u hi => (by simp at hi)) (fun _ _ _ _ _ h => h.elim) (fun _ _ _ h => h.elim) (fun _ _ _ h => h.elim) (fun k => ⟨fun h => h.elim, fun h => ?_⟩) hpos
    rcases h with h | ⟨_, _, h⟩
    · simp [Value.ownBlock] at h
    · exact h
  have hrel := fresh_row (D := []) hr κ2 (Fr.refl _ w) (fun k hk => hk.elim) hown hbig
  have e1 : s.killed κ2 [] = s.t := killT_eq hr [] [] (inK_fresh hr hκ [])
  have e2 : newMD s κ2 [] (.row e []) = putK s.m [(κ2, .row e [])] [] := newMD_eq hr hκ [] _
  rw [e1, e2] at hrel
  have hne : κ ≠ κ2 := fun he => by rw [he, hκ] at hm; cases hm
  have hself : putK s.m [(κ2, Cont.row e [])] [] κ2 = some (.row e []) := by unfold putK; simp [lk, show Nat.beq κ2 κ2 = true from Nat.beq_refl κ2]
  have hm1 : putK s.m [(κ2, Cont.row e [])] [] κ = some (.box ty cs) := by
    unfold putK
    simp [lk, nb_ne (Ne.symm hne), hm]
  have hmE : putK s.m [(κ2, .row e [])] [(κ, some (.box ty (cs.set j (.own κ2 0))))] = upd (putK s.m [(κ2, Cont.row e [])] []) κ (some (.box ty (cs.set j (.own κ2 0)))) := by
    funext k
    by_cases hk : k = κ
    · subst hk
      rw [upd_same]
      unfold putK
      simp [lk, nb_ne (Ne.symm hne), show Nat.beq k k = true from Nat.beq_refl k]
    · rw [upd_ne _ _ hk]
      unfold putK
      simp [lk, nb_ne (Ne.symm hk)]
  rw [hmE]
  obtain ⟨g', us, q3, q6, q7, q8, q9⟩ := hrel.mem κ _ hm1
  have hw := hrel.write κ hm1 (fun _ => false) rfl (fun _ => false) (fun c hc => by rw [uses_no] at hc; cases hc) (m1 := upd (putK s.m [(κ2, Cont.row e [])] []) κ (some (.box ty (cs.set j (.own κ2 0))))) (c1 := .box ty (cs.set j (.own κ2 0))) (v1 := upd ρ κ2 (.slice none 0 0) κ) (Fκ := upd F κ2 (fun _ => False) κ) (Fr.refl _ w) (fun k hk => .inl hk) (fun _ => rfl)
    (fun κ' hne' => by
      rw [upd_ne _ _ hne']
      simp only [Bool.false_eq_true, if_false]
      cases putK s.m [(κ2, Cont.row e [])] [] κ' with
      | none => rfl
      | some c => simp [Cont_kill_no]) (upd_same _ _ _) (fun c u _ hu hc => ?_) (fun hall => ?_)
  · have he : (⟨fun n => (s.t n).kill (fun _ => false), upd (putK s.m [(κ2, Cont.row e [])] []) κ (some (.box ty (cs.set j (.own κ2 0))))⟩ : St) = ⟨s.t, upd (putK s.m [(κ2, Cont.row e [])] []) κ (some (.box ty (cs.set j (.own κ2 0))))⟩ := by
      congr 1
      exact funext fun n => AV_kill_no _
    have hw' : RelE P N w0 S ⟨fun n => (s.t n).kill (fun _ => false), upd (putK s.m [(κ2, Cont.row e [])] []) κ (some (.box ty (cs.set j (.own κ2 0))))⟩ a w _ _ := hw
    rw [he] at hw'
    exact ⟨_, _, hw'⟩
  · cases c with
    | ptr κ' off' =>
      obtain ⟨ty2, cs2, g3, r1, r2, r3⟩ := hc
      obtain rfl : κ' = κ := by simpa [Cell.uses] using hu
      exact ⟨ty, _, g3, upd_same _ _ _, by rw [upd_same]; exact r2, r3⟩
    | fnc f κs =>
      obtain ⟨q1, q2⟩ := hc
      refine ⟨fun κ' hk' => ?_, ?_⟩
      · by_cases hne' : κ' = κ
        · subst hne'
          exact ⟨ty, _, upd_same _ _ _⟩
        · obtain ⟨ty2, cs2, q3⟩ := q1 κ' hk'
          exact ⟨ty2, cs2, by rw [upd_ne _ _ hne']; exact q3⟩
      · rw [q2, List.map_congr_left (fun κ' _ => show upd ρ κ2 (.slice none 0 0) κ' = upd (upd ρ κ2 (.slice none 0 0)) κ (upd ρ κ2 (.slice none 0 0) κ) κ' from by
          by_cases hne' : κ' = κ
          · subst hne'; rw [upd_same]
          · rw [upd_ne _ _ hne'])]
    | own κ' n =>
      obtain ⟨⟨e', css, q1, _⟩, _⟩ := hc
      obtain rfl : κ' = κ := by simpa [Cell.uses] using hu
      have qq := hm1.symm.trans q1; injection qq with qq; cases qq
    | sub κ' i j n =>
      obtain ⟨e', css, _, _, _, _, _, _, q1, _⟩ := hc
      obtain rfl : κ' = κ := by simpa [Cell.uses] using hu
      have qq := hm1.symm.trans q1; injection qq with qq; cases qq
    | sptr κ' i j n q =>
      obtain ⟨g2, n2, c2, ⟨e', css, _, _, _, _, _, _, q1, _⟩, rfl⟩ := hc
      obtain rfl : κ' = κ := by simpa [Cell.uses] using hu
      have qq := hm1.symm.trans q1; injection qq with qq; cases qq
    | cut κ' lo n =>
      obtain ⟨e', css, _, _, q1, _⟩ := hc
      obtain rfl : κ' = κ := by simpa [Cell.uses] using hu
      have qq := hm1.symm.trans q1; injection qq with qq; cases qq
    | eptr κ' i off' =>
      obtain ⟨e', css, _, _, _, q1, _⟩ := hc
      obtain rfl : κ' = κ := by simpa [Cell.uses] using hu
      have qq := hm1.symm.trans q1; injection qq with qq; cases qq
    | d x => simp [Cell.uses] at hu
    | dead => simp [Cell.uses] at hu
  · obtain ⟨u, hu, hrelu⟩ := q7.getL hj
    have hu0 := deep_v hrelu
    have h2 : All2 (CellRel P w (okm (upd (putK s.m [(κ2, Cont.row e [])] []) κ (some (.box ty (cs.set j (.own κ2 0))))) (upd (upd F κ2 fun _ => False) κ (upd F κ2 (fun _ => False) κ))) (upd (putK s.m [(κ2, Cont.row e [])] []) κ (some (.box ty (cs.set j (.own κ2 0))))) (upd (upd ρ κ2 (.slice none 0 0)) κ (upd ρ κ2 (.slice none 0 0) κ))) (cs.set j (.own κ2 0)) (us.set j u) :=
      by
        refine All2.set (q7.imp (fun c u hc => hall c u rfl hc)) ?_ j
        exact ⟨⟨e, [], by rw [upd_ne _ _ (Ne.symm hne)]; exact hself, rfl⟩, by rw [upd_ne _ _ (Ne.symm hne), upd_same]; exact hu0, by rw [hu0]; rfl⟩
    have h3 : us.set j u = us := by
      apply List.ext_getElem?
      intro i
      by_cases hi : i = j
      · subst hi
        rw [List.getElem?_set_self (List.getElem?_eq_some_iff.1 hu).1, hu]
      · rw [List.getElem?_set_ne (Ne.symm hi)]
    rw [h3] at h2
    exact ⟨g', us, by rw [upd_same]; exact q3, q6, h2, q8, fun k => by rw [upd_same]; exact q9 k⟩
theorem AG.nilBox (κ κ2 j : Nat) {ty e : TypeId} {z b : Nat} {zz : List Value} {g : Bool} {cs cs' : List Cell} (k : AG P N w0 S c Q ⟨s.t, putK s.m [(κ2, .row e [])] [(κ, some (.box ty cs'))]⟩) (hti : tyi P e = some (z, b, zz, g)) (hm : s.m κ = some (.box ty cs) := by rfl) (hj : cs[j]? = some (.d (.v (.slice none 0 0))) := by rfl) (hcs : cs.set j (.own κ2 0) = cs' := by rfl) (hκ : s.m κ2 = none := by rfl) (hbig : Nat.ble 100 κ2 = true := by rfl) (hz : 0 < z := by decide) : AG P N w0 S c Q s :=
  ⟨fun a w hr => k.run a w (hcs ▸ hr.nilBox hm hj hκ (ble hbig) (by rw [cellsOf_tyi hti]; exact hz))⟩
end
end Go.Proofs.YtedakffelgmmnaaDoorM

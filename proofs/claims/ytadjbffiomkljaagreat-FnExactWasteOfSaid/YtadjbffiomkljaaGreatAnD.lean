/- The abstract machine: results in variables, cuts read and written. No condition. -/
import Derived.Test.YtadjbffiomkljaaGreatAnC
set_option linter.unusedVariables false
set_option linter.unusedSimpArgs false
namespace Go.Proofs.YtadjbffiomkljaaGreatM
open Go Go.RowKit
section
variable {P : Program} {N : Nat} {w0 : World} {S : Fx} {s : St} {w : World} {a : Act} {c : Code}
/-- What a call leaves, some of whose results lie in variables. -/
inductive RetL (P : Program) (rs : List Tmp) (avs : List AV) (m1 : List (Nat × Cont)) : List (Tmp × TypeId) → St → Prop
  | nil {s : St} (h : RetP rs avs m1 s) : RetL P rs avs m1 [] s
  | cell {s : St} {t : Tmp} {ty : TypeId} {rest : List (Tmp × TypeId)} {z b : Nat} {zz : List Value} {g : Bool} {κ : Nat} {bt : TypeId} {cs : List Cell} (hti : tyi P ty = some (z, b, zz, g)) (h1 : s.t t = .c (.ptr κ 0)) (h2 : s.m κ = some (.box bt cs)) (hq : fitB 0 z cs.length g = true) (h : RetL P rs avs m1 rest ⟨putT s.t (some (t, mkAV g ((cs.drop 0).take z))), s.m⟩) : RetL P rs avs m1 ((t, ty) :: rest) s
variable {o : Oper}
variable {ops : Array Oper} {draw : Bool} {pre : List (Oper × Eff)} {rest : List Oper} {t : Nat → AV} {m : Nat → Option Cont} {K : St → Prop} {G : List (Operand × AV)} {d : Nat}
/-- A store into an element that leads nowhere: nothing else dies. -/
theorem sub_flat {ok : Nat → Prop} {m : Nat → Option Cont} {ρ : Nat → Value} {κ : Nat} {e0 : TypeId} {css : List (List DV)} (hm : m κ = some (.row e0 css)) (hv : ∀ cs ∈ css, cs.all isV = true) {c : Cell} {u : Value} (h : CellRel P w ok m ρ c u) (hd : c ≠ .dead) : inK [] [κ] c = inK [] [] c := by
  rw [inK_nil]
  cases c with
  | sub κ' i j n =>
    by_cases hk : κ' = κ
    · subst hk
      obtain ⟨e, css1, cs, e', css', g, n', c', h1, h2, h3, _⟩ := h
      rw [hm] at h1
      injection h1 with h1
      injection h1 with h1 h1'
      subst h1 h1'
      have := List.all_eq_true.1 (hv cs (List.mem_of_getElem? h2)) _ (List.mem_of_getElem? h3)
      cases this
    · unfold inK subIn
      simp [Cell.uses, hk]
  | sptr κ' i j n q =>
    by_cases hk : κ' = κ
    · subst hk
      obtain ⟨_, _, _, ⟨e, css1, cs, e', css', g, n', c', h1, h2, h3, _⟩, _⟩ := h
      rw [hm] at h1
      injection h1 with h1
      injection h1 with h1 h1'
      subst h1 h1'
      have := List.all_eq_true.1 (hv cs (List.mem_of_getElem? h2)) _ (List.mem_of_getElem? h3)
      cases this
    · unfold inK subIn
      simp [Cell.uses, hk]
  | dead => exact absurd rfl hd
  | _ => simp [inK, subIn, Cell.uses]
theorem flat_map {α : Type} {c : α → List DV} {l : List α} (h : ∀ x, (c x).all isV = true) : ∀ cs ∈ l.map c, cs.all isV = true := fun cs hcs => by
  obtain ⟨x, _, rfl⟩ := List.mem_map.1 hcs
  exact h x
theorem a_stF {e e0 : TypeId} {p x : Operand} {z b : Nat} {zz : List Value} {g : Bool} {κ i off : Nat} {css css' : List (List DV)} {cs ds : List DV} {xs : List Cell} {v : AV} (k : RM P N w0 S draw ops pre rest t m K o G [(p, .c (.eptr κ i off)), (x, v)] [(κ, .row e0 css)] none [] [(κ, some (.row e0 css'))] [] []) (hv : ∀ cs ∈ css, cs.all isV = true) (hi : css[i]? = some cs) (hti : tyi P e = some (z, b, zz, g)) (ho : o.op = .store e p x := by rfl) (hd : o.dst = none := by rfl) (hp : St.ev ⟨t, m⟩ p = .c (.eptr κ i off) := by rfl) (hm : m κ = some (.row e0 css) := by rfl) (hx : St.ev ⟨t, m⟩ x = v := by rfl) (hxs : v.cells = some xs := by rfl) (hds : cellsDV (fun _ => none) xs = some ds := by rfl) (hD : ownKeys xs = [] := by rfl) (hcss : css.set i (putL cs off ds) = css' := by rfl) (hok : xs.all Cell.okc = true := by rfl) (hl : xs.length = z := by rfl) (hb : Nat.ble (off + z) cs.length = true := by rfl) (hg : Gs ops o ⟨t, m⟩ G := by exact Gs.no rfl) : RA P N w0 S draw ops pre (o :: rest) ⟨t, m⟩ K :=
  RA.mem hg k ⟨hp, hx, True.intro⟩ ⟨hm, True.intro⟩ True.intro (fun s hs hk _ => by
    have := s_storeElt (P := P) (N := N) (w0 := w0) (S := S) (s := s) (xs := xs) (ds := ds) ho hti hs.1 hk.1 hi (by rw [hs.2.1]; exact hxs) hok (cellsDV_congr hds (fun κ' hκ' => by rw [hD] at hκ'; cases hκ')) (by rw [hD]; exact .nil) (by rw [hD]; simp) hl (ble hb) hd
    rw [hcss, hD] at this
    refine this.conv (fun a w ρ F hr => ?_)
    have hsub : ∀ c u, CellRel P w (okm s.m F) s.m ρ c u → c ≠ .dead → inK [] [κ] c = inK [] [] c := fun c u hc hd => sub_flat hk.1 hv hc hd
    have e1 : killT s.t [] [κ] = killT s.t [] [] := by
      rw [← killT_eq hr [] [] hsub]
      rfl
    have e2 : killK s.m [] [κ] = killK s.m [] [] := by
      funext κ'
      rw [← killK_eq hr [] [] hsub κ']
      rfl
    rw [e1, e2]
    rfl)
/-- The first cells of what a pointer leads to. -/
theorem rT {L : List (Nat × Cont)} {c : Cell} {ds' : List DV} (ds r : List DV) (h : Rd L c (.ro ds')) (hd : ds' = ds ++ r := by rfl) (hne : ds.isEmpty = false := by rfl) : Rd L c (.ro ds) := by
  subst hd
  exact .pre c ds r (by rintro rfl; cases hne) h
theorem rF1 {L : List (Nat × Cont)} {f : FuncId} {κ : Nat} {d : DV} (h : Rd L (.ptr κ 0) d) : Rd L (.fnc f [κ]) (.fn f [d]) := rF (fC h f0)
theorem rQ {L : List (Nat × Cont)} {x : DV} : Rd L (.d x) x := .d x
variable {L : List (Nat × Cont)} {τ : Nat → Nat} {as bs : List AV}
end
end Go.Proofs.YtadjbffiomkljaaGreatM

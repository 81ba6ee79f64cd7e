/- What each function that a law reaches comes to, and the proof that its walk comes to it; laid by a program of this session. No condition. -/
import Derived.Test.YtilhbndccmhagaaProg
import Derived.Below
import Derived.Deep.Draws
import Derived.Deep.AppendLies
import Derived.Maps.AppendAt
import Derived.OwnWalk
import Derived.Laws.BytesArg
import Derived.Laws.MakeOwn
import Derived.Laws.OwnMore
import Derived.Deep.OwnRows
import Derived.Tactics
import Derived.Lib.ConvBytes
import Derived.Laws.Slices
import Derived.WalkKit
import Derived.KernelRfl
import Derived.RowKit3
import Derived.Deep.LoopGhost
import Derived.Deep.QuietTactic
import Derived.BigQuiet
import Derived.WideLaws
import Derived.Deep.DeepCutAuto
import Derived.Deep.CutBlock
import Derived.Deep.RegionHeld3
import Derived.Laws.Rows
import Derived.Lib.AppendStr
import Derived.ArgAppend
import Derived.Laws.IdiomCopy
import Derived.OrdersHeld
import Derived.Laws.BitsLemmas
import Derived.RowKit
import Derived.Deep.Slices
import Derived.WalkLawsBesides
import Derived.Test.YtilhbndccmhagaaShelf
import Derived.Test.YtilhbndccmhagaaWWords
import Derived.Test.YtilhbndccmhagaaWLast
import Derived.Test.YtilhbndccmhagaaWTab
import Derived.Test.YtilhbndccmhagaaWFour
import Derived.Test.YtilhbndccmhagaaWQPut
import Derived.Test.YtilhbndccmhagaaWApart
import Derived.Test.YtilhbndccmhagaaWArr
import Derived.Test.YtilhbndccmhagaaWZeros
import Derived.Test.YtilhbndccmhagaaWFoot
import Derived.Test.YtilhbndccmhagaaWKept
import Derived.Test.YtilhbndccmhagaaWShare
import Derived.Test.YtilhbndccmhagaaWN
import Derived.Test.YtilhbndccmhagaaWFootNe
import Derived.Test.YtilhbndccmhagaaWAt
import Derived.Test.YtilhbndccmhagaaWEqStruct
import Derived.Test.YtilhbndccmhagaaWRepsOne
import Derived.Test.YtilhbndccmhagaaWInv
import Derived.Test.YtilhbndccmhagaaWInvWords
import Derived.Test.YtilhbndccmhagaaWGuard
import Derived.Test.YtilhbndccmhagaaWNEv
import Derived.Test.YtilhbndccmhagaaWMore
namespace Go.Proofs.Ytilhbndccmhagaa.PFnExactAreaBound
open Go.RowKit Go.Proofs.YtilhbndccmhagaaW.PrintWords Go.Proofs.YtilhbndccmhagaaW.PrintLast Go.Proofs.YtilhbndccmhagaaW.PrintMore
attribute [local go_sem] max2_int min2_int max_two min_two max_three min_three max_four min_four   -- for this text's walks alone
set_option linter.unusedVariables false
set_option linter.unusedSimpArgs false



def errW : Option Int → Value
  | none => .nilIface
  | some c => .iface 0 (.int .i64 c)
theorem errW_none : errW none = .nilIface := rfl
theorem errW_some (c : Int) : errW (some c) = .iface 0 (.int .i64 c) := rfl
/-- What is laid at the head of a row: the row's cells. -/
theorem hw_putCells {α : Type} [Inhabited α] (enc : α → Value) (off : Nat) (d : Array α) (c : Array Value) (m : Nat) (hm : off + d.size ≤ m) (hc : m ≤ c.size) :
    (Go.Sort.putCells enc off d c).toList.take m = (c.toList.take m).take off ++ (d.toList.map enc ++ (c.toList.take m).drop (off + d.size)) := by
  apply List.ext_getElem?
  intro j
  unfold Go.Sort.putCells
  rcases Nat.lt_or_ge j m with hj | hj
  · rw [List.getElem?_take_of_lt hj, Array.getElem?_toList, Array.getElem?_mapIdx, Array.getElem?_eq_getElem (show j < c.size by omega), Option.map_some]
    rcases Nat.lt_or_ge j off with h1 | h1
    · rw [if_neg (by omega), List.getElem?_append_left (by simp; omega), List.getElem?_take_of_lt h1, List.getElem?_take_of_lt hj, Array.getElem?_toList, Array.getElem?_eq_getElem]
    · rw [List.getElem?_append_right (by simp; omega)]
      have hl : ((c.toList.take m).take off).length = off := by simp; omega
      rw [hl]
      rcases Nat.lt_or_ge j (off + d.size) with h2 | h2
      · rw [if_pos ⟨h1, h2⟩, List.getElem?_append_left (by simp; omega), List.getElem?_map, Array.getElem?_toList, Array.getElem?_eq_getElem (show j - off < d.size by omega), Option.map_some, getElem!_pos d (j - off) (by omega)]
      · rw [if_neg (by omega), List.getElem?_append_right (by simp; omega), List.length_map, Array.length_toList, List.getElem?_drop, show off + d.size + (j - off - d.size) = j by omega, List.getElem?_take_of_lt hj, Array.getElem?_toList, Array.getElem?_eq_getElem]
  · rw [List.getElem?_take_eq_none hj, List.getElem?_eq_none]
    simp
    omega
theorem hw_size_putCells {α : Type} [Inhabited α] (enc : α → Value) (off : Nat) (d : Array α) (c : Array Value) : (Go.Sort.putCells enc off d c).size = c.size := by simp [Go.Sort.putCells]
/-- A row of one's own, written over from a place on. -/
theorem hw_own_put {α : Type} [Inhabited α] (enc : α → Value) {w : World} {base g n cap e size off : Nat} {xs : List Value} {d : Array α} (h : w.ownsRow base e size (.slice (some ⟨g, 0, none⟩) n cap) n xs) (hd : off + d.size ≤ xs.length) (m : Nat) (os : Array Obj) :
    (Go.Sort.grow (Go.Sort.putRow enc (Go.Sort.ahead w m) g off d) os).ownsRow base e size (.slice (some ⟨g, 0, none⟩) n cap) n (xs.take off ++ (d.toList.map enc ++ xs.drop (off + d.size)))
      ∧ Below base w (Go.Sort.grow (Go.Sort.putRow enc (Go.Sort.ahead w m) g off d) os)
      ∧ Kept w (Go.Sort.grow (Go.Sort.putRow enc (Go.Sort.ahead w m) g off d) os) (fun k => k = g) := by
  obtain ⟨hl, h2⟩ := h
  rcases h2 with ⟨h2, _⟩ | ⟨g', cap', cur, h2, hb, hh, hnc, hcm, hcs, ht⟩
  · cases h2
  · obtain ⟨rfl, rfl⟩ : g' = g ∧ cap' = cap := by
      injection h2 with h2 _ h3; injection h2 with h2; injection h2 with h2; exact ⟨h2.symm, h3.symm⟩
    have hnn : n * size ≤ cur.size := by rw [hcs]; exact Nat.mul_le_mul_right _ hnc
    have hgs : g' < w.heap.size := (Array.getElem?_eq_some_iff.1 hh).1
    have hheap : ∀ i, i < w.heap.size → i ≠ g' → (Go.Sort.grow (Go.Sort.putRow enc (Go.Sort.ahead w m) g' off d) os).heap[i]? = w.heap[i]? := by
      intro i hi hne
      rw [Go.Sort.heap_grow_old _ _ (by simp [Go.Sort.putRow, Go.Sort.mapBlock, Go.Sort.ahead]; exact hi)]
      simp [Go.Sort.putRow, Go.Sort.mapBlock, Go.Sort.ahead, Array.getElem?_modify, Ne.symm hne]
    have hat : (Go.Sort.grow (Go.Sort.putRow enc (Go.Sort.ahead w m) g' off d) os).heap[g']? = some (.cells (Go.Sort.putCells enc off d cur) e (0, 0)) := by
      rw [Go.Sort.heap_grow_old _ _ (by simp [Go.Sort.putRow, Go.Sort.mapBlock, Go.Sort.ahead]; exact hgs)]
      simp [Go.Sort.putRow, Go.Sort.mapBlock, Go.Sort.ahead, Array.getElem?_modify, hh, Go.Sort.onCells]
    have hsz : w.heap.size ≤ (Go.Sort.grow (Go.Sort.putRow enc (Go.Sort.ahead w m) g' off d) os).heap.size := by
      simp [Go.Sort.putRow, Go.Sort.mapBlock, Go.Sort.ahead]
    refine ⟨⟨?_, .inr ⟨g', cap', Go.Sort.putCells enc off d cur, rfl, hb, hat, hnc, hcm, by rw [hw_size_putCells]; exact hcs, ?_⟩⟩, ⟨rfl, rfl, rfl, hsz, fun i hi => hheap i (by omega) (by omega)⟩, hsz, fun i hi hn => hheap i hi hn⟩
    · simp; omega
    · rw [hw_putCells enc off d cur (n * size) (by omega) hnn, ht]
/-- What a row of one's own holds from a place on. -/
theorem hw_own_holds {α : Type} [Inhabited α] (enc : α → Value) {w : World} {base g n cap e size off : Nat} {xs : List Value} {d : Array α} (h : w.ownsRow base e size (.slice (some ⟨g, 0, none⟩) n cap) n xs) (hd : xs.drop off = d.toList.map enc) : Go.Sort.Holds enc w g off d := by
  intro j hj
  have hx : xs[off + j]? = some (enc d[j]!) := by
    have := congrArg (·[j]?) hd
    simp only [List.getElem?_drop, List.getElem?_map, Array.getElem?_toList, Array.getElem?_eq_getElem hj, Option.map_some] at this
    rw [this, getElem!_pos d j hj]
  constructor
  · have := h.cells (g := g) rfl (off + j) _ hx
    rw [WideShapes.add_plain, Nat.zero_add] at this
    exact this
  · rcases h.2 with ⟨h', _⟩ | ⟨g', cap', cur, h', _, hh, _⟩
    · cases h'
    · have : g = g' := by injection h' with h'; injection h' with h'; injection h' with h'
      subst this
      simp [World.frozen?, hh]

theorem C_cells {α : Type} {d : Kd α} {w : World} {ad : Addr} {x : α} {cs : List Value} (hK : d.K w x cs) (hc : ∀ i u, cs[i]? = some u → w.cell? (ad.add i) = some u) : Kd.C d w (some ad) 1 [x] :=
  ⟨rfl, by decide, fun _ => ⟨ad, rfl, fun j p hj => by
    cases j with
    | zero =>
      have hp : x = p := by simpa using hj
      subst hp
      exact ⟨cs, d.K_len hK, hK, fun i u hu => by rw [Nat.zero_mul, Nat.zero_add]; exact hc i u hu⟩
    | succ j => simp at hj⟩⟩
theorem C_box {α : Type} {d : Kd α} {w : World} {g t : Nat} {cs : Array Value} {x : α} (hb : w.heap[g]? = some (.cells cs t (0, 0))) (hK : d.K w x cs.toList) : Kd.C d w (some ⟨g, 0, none⟩) 1 [x] :=
  C_cells hK (fun i u hu => by rw [add_plain]; exact (blk_cell hb i).trans (by rw [← Array.getElem?_toList]; exact hu))
theorem C_el {α : Type} {d : Kd α} {w : World} {ad : Addr} {n : Nat} {xs : List α} (z : α) (h : Kd.C d w (some ad) n xs) (i : Int) (h0 : 0 ≤ i) (h1 : i < n) : Kd.C d w (some (ad.add (i.toNat * d.sz))) 1 [xs.getD i.toNat z] := by
  obtain ⟨ad', c, e, hl, hK, hc⟩ := Kd.C_get h z i h0 h1
  obtain rfl : ad = ad' := by injection e
  exact C_cells hK (fun j u hu => by rw [add_add]; exact hc j u hu)
theorem C_three {α : Type} {d : Kd α} {w : World} {a : Addr} {x : α} {c0 c1 c2 : Value} (hK : d.K w x [c0, c1, c2]) (h0 : w.cell? a = some c0) (h1 : w.cell? ⟨a.block, a.off + 1, none⟩ = some c1) (h2 : w.cell? ⟨a.block, a.off + 2, none⟩ = some c2) : Kd.C d w (some a) 1 [x] :=
  C_cells hK (fun i u hu => by
    match i, hu with
    | 0, hu => rw [Addr.add_zero']; exact h0.trans hu
    | 1, hu => exact (show w.cell? ⟨a.block, a.off + 1, none⟩ = some u from h1.trans hu)
    | 2, hu => exact (show w.cell? ⟨a.block, a.off + 2, none⟩ = some u from h2.trans hu)
    | (i + 3), hu => simp at hu)
/-- Whatever is read as data at type t is of kind d, and B holds of it. -/
def Opens {α : Type} (P : Program) (t : TypeId) (d : Kd α) (B : α → Prop) : Prop :=
  ∀ (H : Type) (enc : TypeId × Value → H) (w : World) (base : Nat) (spare : Nat → Bool) (held : Bool) (fuel : Nat) (cs : List Value) (x : DataW H × List MemPlace),
    DataW.trod enc P w base spare held fuel t cs = some x → ∃ z, d.K w z cs ∧ B z
theorem opens_int {P : Program} {t : TypeId} {k : IntKind} (ht : P.underlying t = some (.int k)) : Opens P t (Kd.int k) (fun z => (Lit.int k z).wf = true) := by
  intro H enc w base spare held fuel cs x h
  obtain ⟨n, rfl, _, hw⟩ := DataW.trod_int ht h
  exact ⟨n, rfl, hw⟩
theorem opens_bool {P : Program} {t : TypeId} (ht : P.underlying t = some .bool) : Opens P t Kd.bool (fun _ => True) := by
  intro H enc w base spare held fuel cs x h
  obtain ⟨n, rfl, _⟩ := DataW.trod_bool ht h
  exact ⟨n, rfl, trivial⟩
theorem opens_string {P : Program} {t : TypeId} (ht : P.underlying t = some .string) : Opens P t Kd.string (fun z => z.size ≤ maxLen) := by
  intro H enc w base spare held fuel cs x h
  obtain ⟨s, rfl, _, hs⟩ := DataW.trod_string ht h
  exact ⟨s, rfl, hs⟩
theorem list_of {α : Type} {n : Nat} {Q : Nat → α → Prop} (h : ∀ i, i < n → ∃ z, Q i z) : ∃ zs : List α, zs.length = n ∧ ∀ (j : Nat) (p : α), zs[j]? = some p → Q j p := by
  induction n with
  | zero => exact ⟨[], rfl, fun j p hj => by simp at hj⟩
  | succ n ih =>
    obtain ⟨zs, hl, hz⟩ := ih (fun i hi => h i (by omega))
    obtain ⟨z, hq⟩ := h n (by omega)
    refine ⟨zs ++ [z], by simp [hl], fun j p hj => ?_⟩
    rcases Nat.lt_or_ge j zs.length with hlt | hge
    · rw [List.getElem?_append_left hlt] at hj
      exact hz j p hj
    · have hj2 : j = n := by
        have := (List.getElem?_eq_some_iff.1 hj).1
        rw [List.length_append, List.length_singleton] at this
        omega
      subst hj2
      rw [← hl, List.getElem?_concat_length] at hj
      obtain rfl : z = p := by simpa using hj
      exact hq
theorem opens_slice {α : Type} {P : Program} {t e : TypeId} {d : Kd α} {B : α → Prop} (ht : P.underlying t = some (.slice e)) (hc : P.cellsOf e = d.sz) (he : Opens P e d B) :
    Opens P t (Kd.slice e d) (fun l => l.length ≤ maxLen ∧ ∀ x ∈ l, B x) := by
  intro H enc w base spare held fuel cs x h
  rcases Deep.open_slice ht h with ⟨rfl, _⟩ | ⟨a, len, cap, m, n, D, Pl, rfl, hb, hl, hm, hmm, _, hi⟩
  · exact ⟨[], ⟨none, 0, rfl, Nat.le_refl _, rfl, Nat.zero_le _, fun h0 => absurd h0 (by simp)⟩, Nat.zero_le _, by simp⟩
  · have hlm : len ≤ m := by rw [hmm]; split <;> omega
    have hz : ∀ i, i < len → ∃ z : α, B z ∧ ∃ c, c.length = d.sz ∧ d.K w z c ∧ ∀ j u, c[j]? = some u → w.cell? (a.add (i * d.sz + j)) = some u := by
      intro i hil
      obtain ⟨cs', h1, h2⟩ := hi i (by omega)
      obtain ⟨_, hcl, hat⟩ := World.cells?_some h1
      obtain ⟨z, hK, hB⟩ := he H enc w base spare held n cs' _ h2
      rw [hc] at hcl hat
      refine ⟨z, hB, cs', hcl, hK, fun j u hu => ?_⟩
      have hj : j < d.sz := by rw [← hcl]; exact (List.getElem?_eq_some_iff.1 hu).1
      rw [← Deep.add_add, hat j hj]
      exact hu
    obtain ⟨zs, hzl, hzs⟩ := list_of hz
    have hm' : len ≤ 9223372036854775807 := by unfold maxLen at hm; omega
    refine ⟨zs, ⟨some a, cap, by rw [hzl], by omega, rfl, by omega, fun _ => ⟨a, rfl, fun j p hj => (hzs j p hj).2⟩⟩, by unfold maxLen; omega, fun x hx => ?_⟩
    obtain ⟨j, hj⟩ := List.mem_iff_getElem?.1 hx
    exact (hzs j x hj).1
theorem K_pair {α β : Type} {a : Kd α} {b : Kd β} {w : World} {x : α} {y : β} {cs : List Value} (o : Nat) (h1 : a.K w x ((cs.drop o).take a.sz)) (h2 : b.K w y (cs.drop (o + a.sz))) : (Kd.pair a b).K w (x, y) (cs.drop o) :=
  ⟨_, _, by rw [← List.drop_drop]; exact (List.take_append_drop a.sz (cs.drop o)).symm, h1, h2⟩
theorem K_last {β : Type} {b : Kd β} {w : World} {y : β} {cs : List Value} (o : Nat) (hl : cs.length = o + b.sz) (h : b.K w y ((cs.drop o).take b.sz)) : b.K w y (cs.drop o) := by
  rwa [List.take_of_length_le (by rw [List.length_drop]; omega)] at h

theorem info2 : (Try.prog.info? 2).map (fun i => (i.zero, i.size, i.bytes)) = some (some (.int .i64 0), 1, 8) := by kernel_rfl
theorem info22 : (Try.prog.info? 22).map (fun i => (i.zero, i.size, i.bytes)) = some (some (.slice none 0 0), 1, 24) := by kernel_rfl
-- the values' own types
def rd_L1 (xs : List (List Int)) (i : Int) : (List Int) := xs.getD i.toNat ([] : List Int)
theorem at_L1 {w : World} {A : Option Addr} {n : Nat} {xs : List (List Int)} (h : Kd.C (Kd.slice 2 (Kd.int .i64)) w A n xs) (i : Int) (h0 : 0 ≤ i) (h1 : i < n) : ∃ ad A0 c0, A = some ad ∧ w.cell? (ad.add i.toNat) = some (.slice A0 (rd_L1 xs i).length c0) ∧ (rd_L1 xs i).length ≤ c0 ∧ (Kd.int .i64).C w A0 (rd_L1 xs i).length (rd_L1 xs i) := by
  obtain ⟨ad, c, e, _, hK, hc0⟩ := Kd.C_get h ([] : List Int) i h0 h1
  have hc : ∀ j u, c[j]? = some u → w.cell? (ad.add (i.toNat * 1 + j)) = some u := hc0
  obtain ⟨A0, c0, rfl, l0, g0⟩ := hK
  exact ⟨ad, A0, c0, e, by have hq := hc 0 _ rfl; rwa [Nat.mul_one, Nat.add_zero] at hq, l0, g0⟩

end Go.Proofs.Ytilhbndccmhagaa.PFnExactAreaBound

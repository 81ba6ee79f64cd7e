/- Words that a contract of the shelf's sorts needs, to be told over the abstract machine: a row of a caller's put in order where it lies. No condition. -/
import Derived.Test.YtadjbffiomkljaaGreatAnF
import Derived.Shelf.GgSortFunc.InsertionK
set_option linter.unusedVariables false
namespace Go.Proofs.YtadjbffiomkljaaGreatM
open Go Go.RowKit Go.Sort
variable {P : Program}
theorem putCells_id_size (off : Nat) (d c : Array Value) : (putCells id off d c).size = c.size := by simp [putCells]
theorem putCells_take (d c : Array Value) (h : d.size ≤ c.size) : (putCells id 0 d c).toList.take d.size = d.toList := by
 apply List.ext_getElem
 ·simp [putCells]; omega
 ·intro i h1 h2
  have h3 : i < d.size := by simpa using h2
  simp only [List.getElem_take, Array.getElem_toList, putCells, Array.getElem_mapIdx, id, Nat.zero_add, Nat.sub_zero]
  rw [if_pos ⟨Nat.zero_le _, h3⟩, getElem!_pos d i h3]
theorem heap_sorted {w : World} {blk n : Nat} {d cur : Array Value} {os : Array Obj} {e : TypeId} {z : Nat × Nat} (h : w.heap[blk]? = some (.cells cur e z)) :
  (grow (putRow id (Sort.ahead w n) blk 0 d) os).heap[blk]? = some (.cells (putCells id 0 d cur) e z) := by
 have hlt := (Array.getElem?_eq_some_iff.1 h).1
 show ((w.heap.modify blk (onCells (putCells id 0 d))) ++ os)[blk]? = _
 rw [Array.getElem?_append_left (by rw [Array.size_modify]; exact hlt), Array.getElem?_modify, if_pos rfl, h]
 rfl
theorem fr_sorted {w : World} {blk n : Nat} {d : Array Value} {os : Array Obj} {S : Nat → Prop} (hS : S blk) : Fr S w (grow (putRow id (Sort.ahead w n) blk 0 d) os) := by
 refine ⟨rfl, rfl, rfl, ?_, fun k hk hn => ?_⟩
 ·rw [size_grow, size_putRow]; exact Nat.le_add_right _ _
 ·show ((w.heap.modify blk (onCells (putCells id 0 d))) ++ os)[k]? = _
  rw [Array.getElem?_append_left (by rw [Array.size_modify]; exact hk), Array.getElem?_modify, if_neg (fun (he : blk = k) => hn (he ▸ hS))]
theorem owns_sorted {w : World} {blk m n cap size : Nat} {d : Array Value} {os : Array Obj} {e : TypeId} {xs : List Value} (h : w.ownsRow 0 e size (.slice (some ⟨blk, 0, none⟩) n cap) n xs) (hd : d.size = n * size) :
  (grow (putRow id (Sort.ahead w m) blk 0 d) os).ownsRow 0 e size (.slice (some ⟨blk, 0, none⟩) n cap) n d.toList := by
 obtain ⟨h1, h2⟩ := h
 refine ⟨by simpa using hd, .inr ?_⟩
 rcases h2 with ⟨h2, _⟩ | ⟨g, cap', cur, hv, hg, hh, hnc, hm, hsz, htk⟩
 ·cases h2
 ·injection hv with hv1 hv2 hv3
  injection hv1 with hv1
  injection hv1 with hv1
  subst hv1 hv3
  refine ⟨blk, cap, putCells id 0 d cur, rfl, hg, heap_sorted hh, hnc, hm, by rw [putCells_id_size]; exact hsz, ?_⟩
  rw [← hd]
  exact putCells_take d cur (by rw [hsz, hd]; exact Nat.mul_le_mul_right _ hnc)
section
variable {α : Type} [Inhabited α]
theorem flatK_at (enc : α → List Value) (k : Nat) (hk : ∀ x, (enc x).length = k) (l : List α) {i j : Nat} {x : α} (hi : l[i]? = some x) (hj : j < k) : (flatK enc k l.toArray)[i * k + j]! = (enc x)[j]! := by
 have hlt := (List.getElem?_eq_some_iff.1 hi).1
 have hb : i * k + j < l.length * k := by
  have : i * k + k ≤ l.length * k := by rw [← Nat.succ_mul]; exact Nat.mul_le_mul_right _ hlt
  omega
 have hpos : 0 < k := by omega
 rw [get_flatK enc k l.toArray _ (by simpa using hb), Nat.mul_comm i k, Nat.mul_add_div hpos, Nat.div_eq_of_lt hj, Nat.add_zero, Nat.mul_add_mod, Nat.mod_eq_of_lt hj]
 congr 1
 rw [getElem!_pos l.toArray i (by simpa using hlt)]
 have := (List.getElem?_eq_some_iff.1 hi).2
 simpa using congrArg enc this
theorem sort_okF {f : FuncId} {e : TypeId} {k : Nat} (enc : α → List Value) (c : α → List DV) (hc : ∀ x, c x = (enc x).map DV.v) (hcl : P.cellsOf e = k) (hpos : 0 < k) (hk : ∀ x, (enc x).length = k) (h1 : ∀ x, ∀ v ∈ enc x, v.oneCell' = true)
  (hfn : ∃ fn : Func, P.funcs[f]? = some fn ∧ (fn.name == "runtime.NumGoroutine") = false ∧ fn.body.isNone = false) (xs : List AV) (vs : List Value)
  (has : ∀ w ok m ρ us, All2 (AVRel P w ok m ρ) xs us → us = vs) (l l' : List α) (hl' : l'.length = l.length)
  (hn : l = [] → ∀ p cap w, Calls P f (.slice p 0 cap :: vs).toArray w fun e w' => e = .returned (.tuple #[]) ∧ w' = w)
  (hs : ∀ blk cap w, HoldsK enc k w blk 0 l.toArray → blk < w.heap.size → Calls P f (.slice (some ⟨blk, 0, none⟩) l.length cap :: vs).toArray w fun e w' => e = .returned (.tuple #[]) ∧ ∃ n os, w' = grow (putRow id (Sort.ahead w n) blk 0 (flatK enc k l'.toArray)) os) :
  OkF P f (.c (.own 0 l.length)   :: xs) [(0, .row e (l.map c))] (.tup []) [(0, .row e (l'.map c))] := by
 refine ⟨hfn, fun w vals ρ F hv hrows => ?_⟩
 obtain ⟨v0, us, rfl⟩ : ∃ v0 us, vals = v0 :: us := by cases hv with | cons h1 h2 => exact ⟨_, _, rfl⟩
 obtain ⟨hv0, hvs⟩ : AVRel P w (okm (lk [(0, .row e (l.map c))]) F) (lk [(0, .row e (l.map c))]) ρ (.c (.own 0 l.length)) v0 ∧ All2 (AVRel P w (okm (lk [(0, .row e (l.map c))]) F) (lk [(0, .row e (l.map c))]) ρ) xs us := by cases hv with | cons h1 h2 => exact ⟨h1, h2⟩
 obtain rfl := has _ _ _ _ _ hvs
 have hu : v0 = ρ 0 := by
  cases hv0 with
  | c h => exact h.2.1
 subst hu
 have hown : Own P w (F 0) (.row e (l.map c)) (ρ 0) := hrows.mem 0 _ rfl
 obtain ⟨fl, Fs, ho, hlen, hcs, hd, hb, hr, hF, hp0⟩ := hown.row_inv
 have hlm : (l.map c).length = l.length := List.length_map _
 rw [hlm, hcl] at ho
 have hOne : ∀ κ, lk [(0, Cont.row e (l'.map c))] κ ≠ none → κ = 0 := fun κ h => by simpa using lk_key h
 have hB : ∀ g, (ρ 0).ownBlock = some g → blocks [(0, Cont.row e (l.map c))] F g := fun g hg => ⟨0, by simp [lk], hown.head hg⟩
 -- what is handed back, whatever the world is like behind it
 have hend : ∀ (w' : World), Fr (blocks [(0, Cont.row e (l.map c))] F) w w' → (∃ fl', w'.ownsRow 0 e k (ρ 0) l.length fl' ∧ ∀ i j x, l'[i]? = some x → j < k → fl'[i * k + j]? = some ((enc x)[j]!)) →
   ∃ u ρ' F', Ending.returned (.tuple #[]) = Ending.returned u ∧ Fr (blocks [(0, Cont.row e (l.map c))] F) w w' ∧ AVRel P w' (okm (lk [(0, Cont.row e (l'.map c))]) F') (lk [(0, Cont.row e (l'.map c))]) ρ' (.tup []) u ∧ Rows P w' [(0, Cont.row e (l'.map c))] ρ' F' ∧
   (∀ κ, κ < 100 → lk [(0, Cont.row e (l'.map c))] κ ≠ none → ρ' κ = ρ κ) ∧ ∀ κ k, lk [(0, Cont.row e (l'.map c))] κ ≠ none → F' κ k → w.heap.size ≤ k ∨ blocks [(0, Cont.row e (l.map c))] F k := by
  intro w' hfr ⟨fl', ho', hat⟩
  refine ⟨_, ρ, fun _ k => (ρ 0).ownBlock = some k, rfl, hfr, .tup .nil, ⟨fun κ ct hκ => ?_, fun κ κ' k h1 h2 _ _ => (hOne κ h1).trans (hOne κ' h2).symm⟩, fun _ _ _ => rfl, fun κ k _ hk2 => .inr (hB k hk2)⟩
  obtain rfl := hOne κ (by rw [hκ]; simp)
  obtain ⟨_, rfl⟩ := lk_one hκ
  refine .row (fun k => (ρ 0).ownBlock = some k) e (l'.map c) (ρ 0) fl' (fun _ _ _ => False) (by rw [List.length_map, hl', hcl]; exact ho') (fun cs hm => ?_) (fun i j cs d u a1 a2 a3 => ?_) (fun _ _ _ _ _ h => h.elim) (fun _ _ _ h => h.elim) (fun _ _ _ h => h.elim) (fun k => ⟨.inl, fun h => h.elim id (fun ⟨_, _, h⟩ => h.elim)⟩) hp0
  ·obtain ⟨x, _, rfl⟩ := List.mem_map.1 hm
   rw [hc, List.length_map, hk, hcl]
  ·rw [List.getElem?_map] at a1
   obtain ⟨x, hx, rfl⟩ := Option.map_eq_some_iff.1 a1
   rw [hc, List.getElem?_map] at a2
   obtain ⟨v, hv2, rfl⟩ := Option.map_eq_some_iff.1 a2
   have hj : j < k := by rw [← hk x]; exact (List.getElem?_eq_some_iff.1 hv2).1
   rw [hcl, hat i j x hx hj] at a3
   have hv3 : (enc x)[j]! = v := by
    rw [getElem!_pos (enc x) j (by rw [hk]; exact hj)]
    exact (List.getElem?_eq_some_iff.1 hv2).2
   obtain rfl : v = u := by rw [← hv3]; simpa using a3
   exact .v _ (h1 x v (List.mem_of_getElem? hv2))
 by_cases hne : l = []
 ·subst hne
  obtain rfl : l' = [] := List.length_eq_zero_iff.1 hl'
  have hsl : ∃ p cap, ρ 0 = .slice p 0 cap := by
   rcases ho.2 with ⟨h, _⟩ | ⟨g, cap, cur, h, _⟩
   ·exact ⟨none, 0, h⟩
   ·exact ⟨some ⟨g, 0, none⟩, cap, h⟩
  obtain ⟨p, cap, hsl⟩ := hsl
  refine Calls.mono (by rw [hsl]; exact hn rfl p cap w) (fun e2 w' he => ?_)
  obtain ⟨rfl, rfl⟩ := he
  exact hend _ (Fr.refl _ _) ⟨fl, ho, fun i j x hx => by simp at hx⟩
 ·have hpl : 0 < l.length := by
   cases l with
   | nil => exact absurd rfl hne
   | cons x l => exact Nat.succ_pos _
  have ho2 := ho
  rcases ho.2 with ⟨_, h⟩ | ⟨g, cap, cur, hv, hg, hh, hnc, hm, hsz, htk⟩
  ·omega
  rw [hv] at ho2
  have hlt : g < w.heap.size := (Array.getElem?_eq_some_iff.1 hh).1
  have hH : HoldsK enc k w g 0 l.toArray := by
   intro t ht
   have ht2 : t < l.length * k := by simpa using ht
   have hi : t / k < l.length := (Nat.div_lt_iff_lt_mul hpos).2 ht2
   have hj : t % k < k := Nat.mod_lt _ hpos
   have hte : t = t / k * k + t % k := by rw [Nat.mul_comm]; exact (Nat.div_add_mod t k).symm
   obtain ⟨x, hx⟩ : ∃ x, l[t / k]? = some x := ⟨_, List.getElem?_eq_getElem hi⟩
   have hfl : fl.length = l.length * k := ho.1
   obtain ⟨u, hu⟩ : ∃ u, fl[t / k * k + t % k]? = some u := ⟨_, List.getElem?_eq_getElem (by omega)⟩
   have hcx : (l.map c)[t / k]? = some (c x) := by rw [List.getElem?_map, hx]; rfl
   have hdx : (c x)[t % k]? = some (DV.v ((enc x)[t % k]!)) := by
    rw [hc, List.getElem?_map, List.getElem?_eq_getElem (by rw [hk]; exact hj), getElem!_pos (enc x) (t % k) (by rw [hk]; exact hj)]
    rfl
   have hO := hcs _ _ _ _ u hcx hdx (by rw [hcl]; exact hu)
   obtain rfl : (enc x)[t % k]! = u := by
    generalize hq : DV.v ((enc x)[t % k]!) = q at hO
    generalize Fs (t / k) (t % k) = FF at hO
    cases hO with
    | v y _ => injection hq
    | any => cases hq
    | row => cases hq
   refine ⟨?_, ?_⟩
   ·have h2 := ho.cells (g := g) (by rw [hv]; rfl) (t / k * k + t % k) _ hu
    rw [← hte] at h2
    rw [show flatK enc k l.toArray = flatK enc k l.toArray from rfl]
    have h3 := flatK_at enc k hk l hx hj
    rw [← hte] at h3
    rw [h3]
    have ha : (⟨g, 0, none⟩ : Addr).add t = ⟨g, 0 + t, none⟩ := by
     unfold Addr.add
     by_cases h0 : t = 0
     ·subst h0; rfl
     ·simp [h0]
    rw [ha] at h2
    simpa using h2
   ·unfold World.frozen?
    simp [hh]
  refine Calls.mono (by rw [hv]; exact hs g cap w hH hlt) (fun e2 w' he => ?_)
  obtain ⟨rfl, n, os, rfl⟩ := he
  have hsz' : (flatK enc k l'.toArray).size = l.length * k := by rw [size_flatK]; simp [hl']
  refine hend _ (fr_sorted (hB g (by rw [hv]; rfl))) ⟨(flatK enc k l'.toArray).toList, by rw [hv]; exact owns_sorted ho2 hsz', fun i j x hx hj => ?_⟩
  have hi := (List.getElem?_eq_some_iff.1 hx).1
  have hb2 : i * k + j < (flatK enc k l'.toArray).size := by
   rw [hsz', ← hl']
   have : i * k + k ≤ l'.length * k := by rw [← Nat.succ_mul]; exact Nat.mul_le_mul_right _ hi
   omega
  rw [← flatK_at enc k hk l' hx hj, getElem!_pos (flatK enc k l'.toArray) (i * k + j) hb2, Array.getElem?_toList, Array.getElem?_eq_getElem hb2]
theorem flat1 (f : α → Value) (d : Array α) : flatK (fun x => [f x]) 1 d = d.map f := by
 apply Array.ext
 ·simp
 ·intro i h1 h2
  have h3 : i < d.size := by simpa using h2
  have e1 : (flatK (fun x => [f x]) 1 d)[i] = (flatK (fun x => [f x]) 1 d)[i]! := (getElem!_pos _ i h1).symm
  rw [e1, get_flatK _ _ _ _ (by omega), Nat.div_one, Nat.mod_one, Array.getElem_map, getElem!_pos d i h3]
  rfl
theorem put1 (f : α → Value) (w : World) (blk off : Nat) (d : Array α) : putRow id w blk off (d.map f) = putRow f w blk off d := by
 unfold putRow
 congr 1
 funext c
 unfold putCells
 rw [Array.size_map]
 congr 1
 funext k x
 by_cases h : off ≤ k ∧ k < off + d.size
 ·rw [if_pos h, if_pos h, getElem!_pos (d.map f) (k - off) (by rw [Array.size_map]; omega), getElem!_pos d (k - off) (by omega), Array.getElem_map]
  rfl
 ·rw [if_neg h, if_neg h]
theorem holds1 (f : α → Value) (w : World) (blk off : Nat) (d : Array α) (h : HoldsK (fun x => [f x]) 1 w blk off d) : Holds f w blk off d := by
 intro j hj
 have := h j (by rw [size_flatK]; omega)
 rw [flat1, getElem!_pos (d.map f) j (by rw [Array.size_map]; exact hj), Array.getElem_map] at this
 rw [getElem!_pos d j hj]
 exact this
end
end Go.Proofs.YtadjbffiomkljaaGreatM

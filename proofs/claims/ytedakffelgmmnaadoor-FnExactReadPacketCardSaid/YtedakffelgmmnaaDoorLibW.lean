/- strings.Split and strconv.FormatInt by the shelf's contracts, told over the abstract machine, where the variables they read hold what is laid. No condition. -/
import Derived.Test.YtedakffelgmmnaaDoorAnO
import Derived.Test.YtedakffelgmmnaaDoorProg
import Derived.WalkKit
import Derived.ProofKit
import Derived.KernelRfl
import Derived.Shelf.LaysM
import Derived.Shelf.Strings.SplitShaped
import Derived.Shelf.Strconv.Itoa4
import Derived.Shelf.Lay
import Derived.Ground.NamesProg
set_option linter.unusedVariables false
set_option linter.unusedSimpArgs false
namespace Go.Proofs
open Go.Shelf
shelf_lay LaysM.n146 Nm 146 at Tryd as Tryd.laysSplit
shelf_lay LaysM.n173 Nm 173 at Tryd as Tryd.laysFmt
end Go.Proofs
namespace Go.Proofs.YtedakffelgmmnaaDoor.LibW
open Go Go.RowKit Go.Proofs.YtedakffelgmmnaaDoorM
/-- What the package-level variables hold that the library's functions read. -/
def V (w : World) : Prop := (∃ m, w.cell? ⟨0, 0, none⟩ = some (.int .i64 m)) ∧ Go.Lib.TabIs Tryd.prog w "internal/strconv.uint64pow10" .u64 Go.Lib.pow10Tab
theorem V_below {w0 w : World} (h : V w0) (hb : Below w0.heap.size w0 w) : V w := by
  obtain ⟨⟨m, hm⟩, ht⟩ := h
  refine ⟨⟨m, ?_⟩, ?_⟩
  · have hlt := World.block_lt_of_cell? w0 _ hm
    unfold World.cell? at hm ⊢
    rw [hb.block _ hlt]
    exact hm
  · unfold Go.Lib.TabIs World.var? at ht ⊢
    rw [show Tryd.prog.globalNamed "internal/strconv.uint64pow10" = some 3 by kernel_rfl] at ht ⊢
    simp only [Option.bind_some] at ht ⊢
    have hlt : 3 < w0.heap.size := by
      cases hh : w0.heap[3]? with
      | none => rw [hh] at ht; cases ht
      | some o => exact (Array.getElem?_eq_some_iff.1 hh).1
    rw [hb.block _ hlt]
    exact ht
theorem V_fr {S : Nat → Prop} {w0 w : World} (h : V w0) (hS : ∀ k, ¬ S k) (hf : Fr S w0 w) : V w := V_below h (hf.mono (S1 := fun _ => False) (fun k hk _ => hS k hk)).below
/-- A new row. -/
theorem fresh_row_okW {α : Type} {P : Program} {B : World → Prop} {f : FuncId} {e : TypeId} (enc : α → Value) (h1 : ∀ x, (enc x).oneCell' = true) (hcl : P.cellsOf e = 1) (hfn : ∃ fn : Func, P.funcs[f]? = some fn ∧ (fn.name == "runtime.NumGoroutine") = false ∧ fn.body.isNone = false) (xs : List AV) (vs : List Value) (l : List α)
    (has : ∀ w ok m ρ us, All2 (AVRel P w ok m ρ) xs us → us = vs) (hc : ∀ w, B w → Calls P f vs.toArray w fun e' w' => ∃ v', e' = .returned v' ∧ w'.ownsRow w.heap.size e 1 v' l.length (l.map enc) ∧ Below w.heap.size w w') :
    OkW P B f xs (.c (.own 100 l.length)) [(100, .row e (l.map fun x => [.v (enc x)]))] := by
  refine ⟨hfn, fun w vals ρ0 F hB hv hrows => ?_⟩
  obtain rfl := has _ _ _ _ _ hv
  refine Calls.mono (hc w hB) (fun e' w' he => ?_)
  obtain ⟨v', rfl, hown, hbel⟩ := he
  have hOne : ∀ κ, lk [(100, Cont.row e (l.map fun x => [DV.v (enc x)]))] κ ≠ none → κ = 100 := fun κ h => by simpa using lk_key h
  refine ⟨v', fun _ => v', fun _ k => v'.ownBlock = some k, rfl, Fr.of_below hbel _, .c ⟨⟨_, _, rfl, List.length_map _⟩, rfl, ownsRow_own hown⟩, ⟨fun κ ct hκ => ?_, fun κ κ' k h1 h2 _ _ => (hOne κ h1).trans (hOne κ' h2).symm⟩, fun κ hlt h1 => by have := hOne κ h1; omega, fun κ k _ hk => .inl (hown.lt k hk).1⟩
  obtain rfl := hOne κ (by rw [hκ]; simp)
  obtain ⟨_, rfl⟩ := lk_one hκ
  refine .row (fun k => v'.ownBlock = some k) e (l.map fun x => [.v (enc x)]) v' (l.map enc) (fun _ _ _ => False) (by rw [List.length_map, hcl]; exact ownsRow_lower hown (Nat.zero_le _)) (fun cs hm => ?_) (fun i j cs d u a1 a2 a3 => ?_) (fun _ _ _ _ _ h => h.elim) (fun _ _ _ h => h.elim) (fun _ _ _ h => h.elim) (fun k => ⟨.inl, fun h => h.elim id (fun ⟨_, _, h⟩ => h.elim)⟩) (by rw [hcl]; decide)
  · obtain ⟨x, _, rfl⟩ := List.mem_map.1 hm
    rw [hcl]; rfl
  · rw [List.getElem?_map] at a1
    obtain ⟨x, hx, rfl⟩ := Option.map_eq_some_iff.1 a1
    cases j with
    | succ j => simp at a2
    | zero =>
      obtain rfl : DV.v (enc x) = d := by simpa using a2
      rw [hcl, Nat.mul_one, Nat.add_zero, List.getElem?_map, hx] at a3
      obtain rfl : enc x = u := by simpa using a3
      exact .v _ (h1 x)
/-- A text at each place of a text of one byte. -/
def splitL (s sep : ByteArray) : List ByteArray := Go.Lib.splitB sep 0 (Go.Lib.countB s sep) s
theorem split_okW (s sep : ByteArray) (hs : s.size < 4294967281) (h1 : 1 ≤ sep.size) : OkW Tryd.prog V 13 [.c (.d (.v (.string s))), .c (.d (.v (.string sep)))] (.c (.own 100 (splitL s sep).length)) [(100, .row 9 ((splitL s sep).map fun x => [.v (.string x)]))] := by
  refine fresh_row_okW (fun x : ByteArray => Value.string x) (fun _ => rfl) (by kernel_rfl) ⟨Tryd.f13, Tryd.func13, by kernel_rfl, by kernel_rfl⟩ _ [.string s, .string sep] (splitL s sep) (fun w ok m ρ us hu => ?_) (fun w hB => ?_)
  · cases hu with
    | cons a1 a2 =>
      cases a2 with
      | cons a3 a4 =>
        cases a4
        cases a1 with
        | c a1 =>
          cases a3 with
          | c a3 => rw [deep_v a1, deep_v a3]
  · obtain ⟨⟨m, hm⟩, _⟩ := hB
    have hlen : (splitL s sep).length = Go.Lib.countB s sep + 1 := Go.Lib.splitB_all sep h1 0 _ s rfl
    refine Calls.mono (Any.strings_Split { Tryd.laysSplit with } Tryd.laysSplit.i9 s sep m w hs hm h1) (fun e' w' he => ?_)
    obtain ⟨rfl, rfl⟩ := he
    refine ⟨_, rfl, ?_, (Below.refl _ w).alloc (Nat.le_refl _) _⟩
    have hle := Go.Lib.countB_le sep h1 s.size s (Nat.le_refl _)
    have h := World.ownsRow_lit (base := w.heap.size) (e := 9) (size := 1) w ((splitL s sep).map Value.string).toArray (splitL s sep).length (Nat.le_refl _) (by simp only [maxLen]; omega) (by simp)
    rw [hlen] at h ⊢
    exact h
theorem fmt_okW (n : Int) (h0 : -9223372036854775808 ≤ n) (h1 : n ≤ 9223372036854775807) : OkW Tryd.prog V 55 [.c (.d (.v (.int .i64 n))), .c (.d (.v (.int .i64 10)))] (.c (.d (.v (.string ⟨(Go.Lib.itoa n).toArray⟩)))) [] := by
  refine ⟨⟨Tryd.f55, Tryd.func55, by kernel_rfl, by kernel_rfl⟩, fun w vals ρ0 F hB hv hrows => ?_⟩
  obtain rfl : vals = [.int .i64 n, .int .i64 10] := by
    cases hv with
    | cons a1 a2 =>
      cases a2 with
      | cons a3 a4 =>
        cases a4
        cases a1 with
        | c a1 =>
          cases a3 with
          | c a3 => rw [deep_v a1, deep_v a3]
  refine Calls.mono (Any.strconv_FormatInt_10 Tryd.laysFmt n h0 h1 w hB.2) (fun e' w' he => ?_)
  obtain ⟨rfl, k, os, rfl⟩ := he
  refine ⟨_, ρ0, F, rfl, ⟨rfl, rfl, rfl, by show w.heap.size ≤ (w.heap ++ os).size; rw [Array.size_append]; omega, fun i hi _ => ?_⟩, .c (Deep.v _), ⟨fun κ c hc => (by cases hc), fun κ κ' k h => absurd rfl h⟩, fun κ _ h => absurd rfl h, fun κ k h => absurd rfl h⟩
  show (w.heap ++ os)[i]? = _
  rw [Array.getElem?_append_left hi]
end Go.Proofs.YtedakffelgmmnaaDoor.LibW

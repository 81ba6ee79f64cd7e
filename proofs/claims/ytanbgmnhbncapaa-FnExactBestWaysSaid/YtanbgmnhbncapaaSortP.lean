/- The sort of pairs by the shelf's contract, told over the abstract machine. No condition. -/
import Derived.Test.YtanbgmnhbncapaaAnG
import Derived.Test.YtanbgmnhbncapaaProg
import Derived.WalkKit
import Derived.ProofKit
import Derived.Deep.RegionHeld3
import Derived.Shelf.SlSortCmp.NoneTotal
import Derived.Shelf.Lay
import Derived.Ground.SlsfProg
set_option linter.unusedVariables false
set_option linter.unusedSimpArgs false
namespace Go.Proofs.Ytanbgmnhbncapaa.SortP
open Go Go.RowKit Go.Sort
set_option maxHeartbeats 8000000 in
set_option maxRecDepth 100000 in
theorem nan (a : Int) (w : World) : Calls Try.prog 142 #[.int .i64 a] w fun e w' => e = .returned (.bool false) ∧ w' = w := by
  go_enter Try.func142, Try.ntmps142
  go_wp2
  go_ret
  exact ⟨by simp, rfl⟩
def cmpI (a b : Int) : Int := if a < b then -1 else if b < a then 1 else 0
set_option maxHeartbeats 8000000 in
set_option maxRecDepth 100000 in
theorem cmp (a b : Int) (w : World) : Calls Try.prog 130 #[.int .i64 a, .int .i64 b] w fun e w' => e = .returned (.int .i64 (cmpI a b)) ∧ w' = w := by
  have h1 := nan a
  have h2 := nan b
  unfold cmpI
  by_cases c1 : a < b
  · have c1b : decide (a < b) = true := decide_eq_true c1
    rw [if_pos c1]
    clear c1
    go_enter Try.func130, Try.ntmps130
    go_wp2_with (first | (go_at_call 142; refine (h1 _).mono ?_; rintro e w' ⟨rfl, rfl⟩) | (go_at_call 142; refine (h2 _).mono ?_; rintro e w' ⟨rfl, rfl⟩))
    go_ret
    exact ⟨rfl, rfl⟩
  · rw [if_neg c1]
    have c1b : decide (a < b) = false := decide_eq_false c1
    clear c1
    by_cases c2 : b < a
    · rw [if_pos c2]
      have c2b : decide (b < a) = true := decide_eq_true c2
      clear c2
      go_enter Try.func130, Try.ntmps130
      go_wp2_with (first | (go_at_call 142; refine (h1 _).mono ?_; rintro e w' ⟨rfl, rfl⟩) | (go_at_call 142; refine (h2 _).mono ?_; rintro e w' ⟨rfl, rfl⟩))
      go_ret
      exact ⟨rfl, rfl⟩
    · rw [if_neg c2]
      have c2b : decide (b < a) = false := decide_eq_false c2
      clear c2
      go_enter Try.func130, Try.ntmps130
      go_wp2_with (first | (go_at_call 142; refine (h1 _).mono ?_; rintro e w' ⟨rfl, rfl⟩) | (go_at_call 142; refine (h2 _).mono ?_; rintro e w' ⟨rfl, rfl⟩))
      go_ret
      exact ⟨rfl, rfl⟩

set_option maxHeartbeats 8000000 in
set_option maxRecDepth 100000 in
theorem compare2 (b1 b2 : Nat) (c d : Nat) (x0 x1 y0 y1 : Int) (w : World) (h0 : w.cell? ⟨b1, 0, none⟩ = some (.int .i64 x0)) (h1 : w.cell? ⟨b1, 1, none⟩ = some (.int .i64 x1)) (k0 : w.cell? ⟨b2, 0, none⟩ = some (.int .i64 y0)) (k1 : w.cell? ⟨b2, 1, none⟩ = some (.int .i64 y1)) :
    Calls Try.prog 105 #[.slice (some ⟨b1, 0, none⟩) 2 c, .slice (some ⟨b2, 0, none⟩) 2 d] w fun e w' => e = .returned (.int .i64 (if cmpI x0 y0 = 0 then cmpI x1 y1 else cmpI x0 y0)) ∧ w' = w := by
  have e1 := cmp x0 y0
  have e2 := cmp x1 y1
  generalize cmpI x0 y0 = r0 at e1 ⊢
  generalize cmpI x1 y1 = r1 at e2 ⊢
  by_cases c1 : r0 = 0
  · rw [if_pos c1]
    subst c1
    by_cases c2 : r1 = 0
    · subst c2
      go_enter Try.func105, Try.ntmps105
      go_wp2
      refine wp_loop_rounds 3 ?_
      rw [rounds_succ]
      go_wp2_with (first | (go_at_call 130; refine (e1 _).mono ?_; rintro e w' ⟨rfl, rfl⟩))
      rw [rounds_succ]
      go_wp2_with (first | (go_at_call 130; refine (e2 _).mono ?_; rintro e w' ⟨rfl, rfl⟩))
      rw [rounds_succ]
      go_wp2
      go_ret
      exact ⟨rfl, rfl⟩
    · have c2b : decide (r1 = 0) = false := decide_eq_false c2
      go_enter Try.func105, Try.ntmps105
      go_wp2
      refine wp_loop_rounds 3 ?_
      rw [rounds_succ]
      go_wp2_with (first | (go_at_call 130; refine (e1 _).mono ?_; rintro e w' ⟨rfl, rfl⟩))
      rw [rounds_succ]
      go_wp2_with (first | (go_at_call 130; refine (e2 _).mono ?_; rintro e w' ⟨rfl, rfl⟩))
      go_ret
      exact ⟨rfl, rfl⟩
  · rw [if_neg c1]
    have c1b : decide (r0 = 0) = false := decide_eq_false c1
    go_enter Try.func105, Try.ntmps105
    go_wp2
    refine wp_loop_rounds 3 ?_
    rw [rounds_succ]
    go_wp2_with (first | (go_at_call 130; refine (e1 _).mono ?_; rintro e w' ⟨rfl, rfl⟩))
    go_ret
    exact ⟨rfl, rfl⟩
theorem new0 (h : Array Obj) (a b : Obj) : ((h.push a).push b)[h.size]? = some a := by
  rw [Array.getElem?_push, if_neg (by simp), Array.getElem?_push, if_pos rfl]
theorem new1 (h : Array Obj) (a b : Obj) : ((h.push a).push b)[h.size + 1]? = some b := by
  rw [Array.getElem?_push, if_pos (by simp)]
def cmp2 (x y : Int × Int) : Int := if cmpI x.1 y.1 = 0 then cmpI x.2 y.2 else cmpI x.1 y.1
set_option maxHeartbeats 8000000 in
set_option maxRecDepth 100000 in
theorem pairs (x y : Int × Int) (w : World) : Calls Try.prog 80 #[.agg #[.int .i64 x.1, .int .i64 x.2], .agg #[.int .i64 y.1, .int .i64 y.2]] w fun e w' => e = .returned (.int .i64 (cmp2 x y)) ∧ ∃ q os', w' = grow (w.drewN q) os' := by
  unfold cmp2
  have hc := fun b1 b2 c d w h0 h1 k0 k1 => compare2 b1 b2 c d x.1 x.2 y.1 y.2 w h0 h1 k0 k1
  generalize (if cmpI x.1 y.1 = 0 then cmpI x.2 y.2 else cmpI x.1 y.1) = r at hc ⊢
  have hW := hc w.heap.size (w.heap.size + 1) 2 2 ((w.alloc (Obj.cells #[Value.int IntKind.i64 x.fst, Value.int IntKind.i64 x.snd] 88)).alloc (Obj.cells #[Value.int IntKind.i64 y.fst, Value.int IntKind.i64 y.snd] 88)).drew ?_ ?_ ?_ ?_
  · have hG : ∃ q os', ((w.alloc (Obj.cells #[Value.int IntKind.i64 x.fst, Value.int IntKind.i64 x.snd] 88)).alloc (Obj.cells #[Value.int IntKind.i64 y.fst, Value.int IntKind.i64 y.snd] 88)).drew = grow (w.drewN q) os' := ⟨1, _, by rw [alloc_eq_grow, alloc_eq_grow, grow_grow]; rfl⟩
    go_enter Try.func80, Try.ntmps80
    go_wp2
    generalize hWd : ((w.alloc (Obj.cells #[Value.int IntKind.i64 x.fst, Value.int IntKind.i64 x.snd] 88)).alloc (Obj.cells #[Value.int IntKind.i64 y.fst, Value.int IntKind.i64 y.snd] 88)) = W at hW hG ⊢
    go_region_held3 (fun w' => w' = W.drew) (first | rfl | assumption | go_keep) (first | (go_at_call 105; refine hW.mono ?_; rintro e w' ⟨rfl, rfl⟩))
    go_wp2
    go_ret
    exact ⟨rfl, hG⟩
  · show (match ((w.heap.push _).push _)[w.heap.size]? with | some (.cells cs _ _) => cs[0]? | _ => none) = _
    rw [new0]; rfl
  · show (match ((w.heap.push _).push _)[w.heap.size]? with | some (.cells cs _ _) => cs[1]? | _ => none) = _
    rw [new0]; rfl
  · show (match ((w.heap.push _).push _)[w.heap.size + 1]? with | some (.cells cs _ _) => cs[0]? | _ => none) = _
    rw [new1]; rfl
  · show (match ((w.heap.push _).push _)[w.heap.size + 1]? with | some (.cells cs _ _) => cs[1]? | _ => none) = _
    rw [new1]; rfl

end Go.Proofs.Ytanbgmnhbncapaa.SortP
namespace Go.Proofs
open Go.Shelf
shelf_lay_g SlLaysF0.n6 Slsf 6 at Try 79 as Try.sortPairs
end Go.Proofs
namespace Go.Proofs.Ytanbgmnhbncapaa.SortP
open Go Go.RowKit Go.Sort Go.Proofs.YtanbgmnhbncapaaM
def encP (x : Int × Int) : List Value := [.int .i64 x.1, .int .i64 x.2]
def cP (x : Int × Int) : List DV := [.v (.int .i64 x.1), .v (.int .i64 x.2)]
def leP (x y : Int × Int) : Bool := decide (x.1 < y.1 ∨ (x.1 = y.1 ∧ x.2 ≤ y.2))
def sortP (l : List (Int × Int)) : List (Int × Int) := l.mergeSort leP
theorem lt_pairs (x y : Int × Int) : ltOf cmp2 x y = decide (x.1 < y.1 ∨ (x.1 = y.1 ∧ x.2 < y.2)) := by
  unfold ltOf
  apply decide_eq_decide.2
  unfold cmp2 cmpI
  by_cases h1 : x.1 < y.1
  · simp [h1]
  · by_cases h2 : y.1 < x.1
    · simp [h1, h2]; omega
    · have h3 : x.1 = y.1 := by omega
      simp only [h1, h2, if_false, if_true, false_or]
      by_cases h4 : x.2 < y.2
      · simp [h4, h3]
      · by_cases h5 : y.2 < x.2
        · simp [h4, h5]
        · simp [h4, h5]
theorem swo : SWO (ltOf cmp2) where
  irrefl x := by rw [lt_pairs]; simp
  trans x y z h1 h2 := by rw [lt_pairs] at *; simp only [decide_eq_true_eq] at *; omega
  ntrans x y z h1 h2 := by rw [lt_pairs] at *; simp only [decide_eq_false_iff_not] at *; omega
theorem sortPairs (l : List (Int × Int)) (h : l.length < 4611686018427387904) : OkF Try.prog 79 [.c (.own 0 l.length), .c (.d (.fn 80 []))] [(0, .row 88 (l.map cP))] (.tup []) [(0, .row 88 ((sortP l).map cP))] := by
  have eg : ∀ args w, (callFunc 80 args).run Try.prog w = .ok (.enter 80 args) w := enters_of Try.func80 (by kernel_rfl) rfl
  refine sort_okF (k := 2) encP cP (fun _ => rfl) (by kernel_rfl) (by decide) (fun _ => rfl) (fun x v hv => by simp [encP] at hv; rcases hv with rfl | rfl <;> rfl) ⟨Try.f79, Try.func79, by kernel_rfl, by kernel_rfl⟩ [.c (.d (.fn 80 []))] [.func (.func 80) #[] #[]] (fun w ok m ρ us hu => ?_) l (sortP l) (List.length_mergeSort l) (fun _ p cap w => ?_) (fun blk cap w hH hlt => ?_)
  · cases hu with
    | cons h1 h2 =>
      cases h2
      cases h1 with
      | c h1 => cases h1 with | fn f caps vals hd => rfl
  · have := AnyF.slices_SortFunc_none { Try.sortPairs with } p cap (.func (.func 80) #[] #[]) w
    exact this
  · have hcon := AnyQ.slices_SortFunc_total Try.sortPairs 2 Try.isAgg88 Try.sizeOf88 encP (fun _ => rfl) (fun x v hv => by simp [encP] at hv; rcases hv with rfl | rfl <;> rfl) cmp2 swo 80 #[] blk 0 cap l.toArray w eg (fun m os dk hdk x y => pairs x y _) hH hlt h (fun x y h1 h2 => by
      rw [lt_pairs] at h1 h2
      simp only [decide_eq_false_iff_not] at h1 h2
      have : x.1 = y.1 ∧ x.2 = y.2 := by omega
      exact Prod.ext this.1 this.2)
    have hle : (fun x y : Int × Int => !(ltOf cmp2) y x) = leP := by
      funext x y
      rw [lt_pairs]
      unfold leP
      rw [← decide_not]
      exact decide_eq_decide.2 (by omega)
    rw [hle] at hcon
    exact hcon
end Go.Proofs.Ytanbgmnhbncapaa.SortP

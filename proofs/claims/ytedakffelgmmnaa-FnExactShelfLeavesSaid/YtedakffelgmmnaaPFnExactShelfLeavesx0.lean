/- What each function that the law FnExactShelfLeaves reaches comes to, and the proof that its walk comes to it; laid by a program of this session. No condition. -/
import Derived.Test.YtedakffelgmmnaaAnE
import Derived.KernelRfl
import Derived.OwnWalk
import Derived.Test.YtedakffelgmmnaaProg
import Derived.Test.YtedakffelgmmnaaAnL
set_option linter.unusedVariables false
set_option linter.unusedSimpArgs false
namespace Go.Proofs.Ytedakffelgmmnaa.PFnExactShelfLeaves
open Go Go.RowKit Go.Proofs.YtedakffelgmmnaaM Go.Proofs
theorem HM : Try.prog.follows .mixedOrders = true := by kernel_rfl
def c2 (x : Int) : List DV := [.v (.int .i64 x)]
def rd2 (l : List Int) (i : Int) : Int := l.getD i.toNat 0
theorem R2 {l : List Int} {i : Int} {z : List DV} (h0 : 0 ≤ i) (h1 : i < (l.length : Int)) : (l.map c2).getD i.toNat z = c2 (rd2 l i) := by
 have : i.toNat < l.length := by omega
 simp [rd2, List.getD_eq_getElem?_getD, this]
theorem G2 {l : List Int} {i : Int} (h0 : 0 ≤ i) (h1 : i < (l.length : Int)) : (l.map c2)[i.toNat]? = some (c2 (rd2 l i)) := by
 have : i.toNat < l.length := by omega
 simp [rd2, List.getD_eq_getElem?_getD, this]
def c36 (x : List Int) : List DV := [.row 2 (x.map c2)]
def rd36 (l : List (List Int)) (i : Int) : List Int := l.getD i.toNat []
theorem R36 {l : List (List Int)} {i : Int} {z : List DV} (h0 : 0 ≤ i) (h1 : i < (l.length : Int)) : (l.map c36).getD i.toNat z = c36 (rd36 l i) := by
 have : i.toNat < l.length := by omega
 simp [rd36, List.getD_eq_getElem?_getD, this]
theorem G36 {l : List (List Int)} {i : Int} (h0 : 0 ≤ i) (h1 : i < (l.length : Int)) : (l.map c36)[i.toNat]? = some (c36 (rd36 l i)) := by
 have : i.toNat < l.length := by omega
 simp [rd36, List.getD_eq_getElem?_getD, this]
def c3 (x : Int) : List DV := [.v (.int .i64 x)]
def rd3 (l : List Int) (i : Int) : Int := l.getD i.toNat 0
theorem R3 {l : List Int} {i : Int} {z : List DV} (h0 : 0 ≤ i) (h1 : i < (l.length : Int)) : (l.map c3).getD i.toNat z = c3 (rd3 l i) := by
 have : i.toNat < l.length := by omega
 simp [rd3, List.getD_eq_getElem?_getD, this]
theorem G3 {l : List Int} {i : Int} (h0 : 0 ≤ i) (h1 : i < (l.length : Int)) : (l.map c3)[i.toNat]? = some (c3 (rd3 l i)) := by
 have : i.toNat < l.length := by omega
 simp [rd3, List.getD_eq_getElem?_getD, this]
def c22 (x : List (List Int)) : List DV := [.row 36 (x.map c36)]
def rd22 (l : List (List (List Int))) (i : Int) : List (List Int) := l.getD i.toNat []
theorem R22 {l : List (List (List Int))} {i : Int} {z : List DV} (h0 : 0 ≤ i) (h1 : i < (l.length : Int)) : (l.map c22).getD i.toNat z = c22 (rd22 l i) := by
 have : i.toNat < l.length := by omega
 simp [rd22, List.getD_eq_getElem?_getD, this]
theorem G22 {l : List (List (List Int))} {i : Int} (h0 : 0 ≤ i) (h1 : i < (l.length : Int)) : (l.map c22)[i.toNat]? = some (c22 (rd22 l i)) := by
 have : i.toNat < l.length := by omega
 simp [rd22, List.getD_eq_getElem?_getD, this]
theorem T36 : tyi Try.prog 36 = some (1, 24, [.slice none 0 0], false) := by kernel_rfl
theorem T2 : tyi Try.prog 2 = some (1, 8, [.int .i64 0], false) := by kernel_rfl
theorem T22 : tyi Try.prog 22 = some (1, 24, [.slice none 0 0], false) := by kernel_rfl
theorem T3 : tyi Try.prog 3 = some (1, 8, [.int .i64 0], false) := by kernel_rfl
theorem N36 : eln Try.prog 36 = some 2 := by kernel_rfl
theorem N22 : eln Try.prog 22 = some 36 := by kernel_rfl
theorem N50 : eln Try.prog 50 = some 3 := by kernel_rfl
/-! ### laws_szInt64S: function 26 -/
def laws_szInt64S.f (l0 : List Int) (a1 : Int) : Option (Int) := if (wrap64 (a1 - (l0.length : Int))) < 0 then (some (-1)) else (some (wrap64 (a1 - (l0.length : Int))))
set_option maxRecDepth 100000 in
theorem laws_szInt64S.ok {l0 : List Int} {a1 : Int} {r : Int} (H : laws_szInt64S.f l0 a1 = some r) : OkF Try.prog 26 [vR 2 (l0.map c2), vI a1] [] (.c (.d (.v (.int .i64 r)))) [] := by
 unfold laws_szInt64S.f at H
 refine OkF.of (N := 12) (rs := [4]) (avs := [.c (.d (.v (.int .i64 r)))]) Try.func26 rfl rfl (fun _ _ => results_tmp rfl _ _ _) (by decide) rfl rfl rfl rfl (fun w0 S => ?_)
 refine AG.seq ?_
 refine AG.region HM ?_
 refine a_move (v := vI _) ?_
 refine RA.nil nofun ?_
 refine AG.seq ?_
 refine AG.region HM ?_
 refine a_move (v := vI _) ?_
 refine a_move (v := vR _ _) ?_
 refine a_lenR ?_ Try.underlying36
 refine a_int (u := .int .i64 (wrap64 (a1 - (l0.length : Int)))) ?_
 refine a_move (v := vI _) ?_
 refine RA.nil nofun ?_
 refine AG.seq ?_
 refine AG.seq ?_
 refine AG.region HM ?_
 refine a_move (v := vI _) ?_
 refine a_int (u := .bool (decide ((wrap64 (a1 - (l0.length : Int))) < 0))) ?_
 refine RA.nil nofun ?_
 by_cases hc1 : (wrap64 (a1 - (l0.length : Int))) < 0
 ·rw [if_pos hc1] at H
  refine AG.yes rfl (decide_eq_true hc1) ?_
  refine AG.seq ?_
  refine AG.region HM ?_
  refine a_move (v := vI _) ?_
  refine RA.nil nofun ?_
  refine AG.ret ?_
  obtain rfl := Option.some.inj H
  exact RetP.mk id ⟨rfl, trivial⟩ trivial rfl
 ·rw [if_neg hc1] at H
  refine AG.no rfl (decide_eq_false hc1) ?_
  refine AG.skip ?_
  refine AG.seq ?_
  refine AG.region HM ?_
  refine a_move (v := vI _) ?_
  refine a_move (v := vI _) ?_
  refine RA.nil nofun ?_
  refine AG.ret ?_
  obtain rfl := Option.some.inj H
  exact RetP.mk id ⟨rfl, trivial⟩ trivial rfl
/-! ### laws_szInt64SS: function 6 -/
def laws_szInt64SS.l0 : Nat → List (List Int) → Int → Int → Option (Int)
 | 0, _, _, _ => none
 | k + 1, x0, x1, x5 => if x5 < (x0.length : Int) then (if 0 ≤ x5 then ((laws_szInt64S.f (rd36 x0 x5) x1).bind fun t4 => (if t4 < 0 then (some (-1)) else (laws_szInt64SS.l0 k x0 t4 (wrap64 (x5 + 1))))) else (none)) else (some x1)
def laws_szInt64SS.f (k : Nat) (l0 : List (List Int)) (a1 : Int) : Option (Int) := if (wrap64 (a1 - (l0.length : Int))) < 0 then (some (-1)) else (laws_szInt64SS.l0 k l0 (wrap64 (a1 - (l0.length : Int))) 0)
set_option maxRecDepth 100000 in
theorem laws_szInt64SS.ok {k : Nat} {l0 : List (List Int)} {a1 : Int} {r : Int} (H : laws_szInt64SS.f k l0 a1 = some r) : OkF Try.prog 6 [vR 36 (l0.map c36), vI a1] [] (.c (.d (.v (.int .i64 r)))) [] := by
 unfold laws_szInt64SS.f at H
 refine OkF.of (N := 27) (rs := [4]) (avs := [.c (.d (.v (.int .i64 r)))]) Try.func6 rfl rfl (fun _ _ => results_tmp rfl _ _ _) (by decide) rfl rfl rfl rfl (fun w0 S => ?_)
 refine AG.seq ?_
 refine AG.region HM ?_
 refine a_move (v := vI _) ?_
 refine RA.nil nofun ?_
 refine AG.seq ?_
 refine AG.region HM ?_
 refine a_move (v := vI _) ?_
 refine a_move (v := vR _ _) ?_
 refine a_lenR ?_ Try.underlying22
 refine a_int (u := .int .i64 (wrap64 (a1 - (l0.length : Int)))) ?_
 refine a_move (v := vI _) ?_
 refine RA.nil nofun ?_
 refine AG.seq ?_
 refine AG.seq ?_
 refine AG.region HM ?_
 refine a_move (v := vI _) ?_
 refine a_int (u := .bool (decide ((wrap64 (a1 - (l0.length : Int))) < 0))) ?_
 refine RA.nil nofun ?_
 by_cases hc1 : (wrap64 (a1 - (l0.length : Int))) < 0
 ·rw [if_pos hc1] at H
  refine AG.yes rfl (decide_eq_true hc1) ?_
  refine AG.seq ?_
  refine AG.region HM ?_
  refine a_move (v := vI _) ?_
  refine RA.nil nofun ?_
  refine AG.ret ?_
  obtain rfl := Option.some.inj H
  exact RetP.mk id ⟨rfl, trivial⟩ trivial rfl
 ·rw [if_neg hc1] at H
  refine AG.no rfl (decide_eq_false hc1) ?_
  refine AG.skip ?_
  refine AG.seq ?_
  refine AG.seq ?_
  refine AG.region HM ?_
  refine a_move (v := vI _) ?_
  refine RA.nil nofun ?_
  refine AG.block ?_
  refine AG.loop ?_
  obtain ⟨K0, hK0, gK0⟩ : ∃ K, k ≤ K ∧ K ≤ k := ⟨k, Nat.le_refl k, Nat.le_refl k⟩
  refine AGr.canon id (AGr.loopI (n := k) (fun k s => k ≤ K0 ∧ ∃ (x0 : List (List Int)) (x1 : Int) (x5 : Int), laws_szInt64SS.l0 k x0 x1 x5 = some r ∧ s = St.of [(0, vR 36 (x0.map c36)), (1, vI x1), (5, vI x5)] []) ⟨hK0, _, _, _, H, rfl⟩ ?_ ?_) ⟨rfl, rfl, rfl, trivial⟩ trivial rfl
  ·rintro _ ⟨_, _, _, _, H, _⟩
   cases H
  ·clear H hK0
   rintro k ih0 _ ⟨hK0, x0, x1, x5, H, rfl⟩
   unfold laws_szInt64SS.l0 at H
   refine AG.seq ?_
   refine AG.seq ?_
   refine AG.region HM ?_
   refine a_move (v := vI _) ?_
   refine a_move (v := vR _ _) ?_
   refine a_lenR ?_ Try.underlying22
   refine a_int (u := .bool (decide (x5 < (x0.length : Int)))) ?_
   refine RA.nil nofun ?_
   by_cases hc2 : x5 < (x0.length : Int)
   ·rw [if_pos hc2] at H
    refine AG.yes rfl (decide_eq_true hc2) ?_
    refine AG.skip ?_
    refine AG.seq ?_
    refine AG.block ?_
    refine AG.seq ?_
    refine AG.region HM ?_
    refine a_move (v := vR _ _) ?_
    refine a_move (v := vI _) ?_
    by_cases hc3 : 0 ≤ x5
    ·rw [if_pos hc3] at H
     refine a_ixR (el := c36 (rd36 x0 x5)) ?_ ⟨hc3, hc2⟩ T36 Try.underlying22 (hel := R36 hc3 hc2)
     refine a_ldR (v := vR _ _) ?_ T36
     refine a_move (v := vI _) ?_
     obtain ⟨t4, e5, H⟩ := bindO H
     refine a_call (v := vI t4) (nk := []) (L := []) ?_ rfl (laws_szInt64S.ok e5) id (qd (qd qn)) trivial trivial trivial rfl
     refine a_move (v := vI _) ?_
     refine RA.nil nofun ?_
     refine AG.seq ?_
     refine AG.region HM ?_
     refine a_move (v := vI _) ?_
     refine a_int (u := .bool (decide (t4 < 0))) ?_
     refine RA.nil nofun ?_
     by_cases hc6 : t4 < 0
     ·rw [if_pos hc6] at H
      refine AG.yes rfl (decide_eq_true hc6) ?_
      refine AG.seq ?_
      refine AG.region HM ?_
      refine a_move (v := vI _) ?_
      refine RA.nil nofun ?_
      refine AG.ret ?_
      obtain rfl := Option.some.inj H
      exact RetP.mk id ⟨rfl, trivial⟩ trivial rfl
     ·rw [if_neg hc6] at H
      refine AG.no rfl (decide_eq_false hc6) ?_
      refine AG.skip ?_
      refine AG.region HM ?_
      refine a_move (v := vI _) ?_
      refine a_int (u := .int .i64 (wrap64 (x5 + 1))) ?_
      refine a_move (v := vI _) ?_
      refine RA.nil nofun ?_
      exact AGr.canon id (ih0 _ (by omega) _ ⟨by omega, _, _, _, H, rfl⟩) ⟨rfl, rfl, rfl, trivial⟩ trivial rfl
    ·rw [if_neg hc3] at H
     cases H
   ·rw [if_neg hc2] at H
    refine AG.no rfl (decide_eq_false hc2) ?_
    refine AG.exit ?_
    refine AG.seq ?_
    refine AG.region HM ?_
    refine a_move (v := vI _) ?_
    refine a_move (v := vI _) ?_
    refine RA.nil nofun ?_
    refine AG.ret ?_
    obtain rfl := Option.some.inj H
    exact RetP.mk id ⟨rfl, trivial⟩ trivial rfl
/-! ### laws_toInt64S: function 29 -/
def laws_toInt64S.l0 : Nat → List Int → List Int → Int → Option ((List Int))
 | 0, _, _, _ => none
 | k + 1, x0, x3, x4 => if x4 < (x0.length : Int) then (if 0 ≤ x4 then (if x4 < (x3.length : Int) then (laws_toInt64S.l0 k x0 (x3.set (x4 : Int).toNat (rd2 x0 x4)) (wrap64 (x4 + 1))) else (none)) else (none)) else (some x3)
def laws_toInt64S.f (k : Nat) (l0 : List Int) : Option ((List Int)) := if 0 ≤ (l0.length : Int) then (if ((l0.length : Int) : Int).toNat ≤ 35184372088832 then (laws_toInt64S.l0 k l0 (List.replicate (((l0.length : Int) : Int).toNat) 0) 0) else (none)) else (none)
set_option maxRecDepth 100000 in
theorem laws_toInt64S.ok {k : Nat} {l0 : List Int} {r : List Int} (H : laws_toInt64S.f k l0 = some r) : OkF Try.prog 29 [vR 2 (l0.map c2)] [] (.c (.own 100 r.length)) [(100, .row 2 (r.map c2))] := by
 unfold laws_toInt64S.f at H
 refine OkF.of (N := 22) (rs := [2]) (avs := [.c (.own 100 r.length)]) Try.func29 rfl rfl (fun _ _ => results_tmp rfl _ _ _) (by decide) rfl rfl rfl rfl (fun w0 S => ?_)
 refine AG.seq ?_
 refine AG.region HM ?_
 refine a_nilO (e := 2) 200 ?_ T2
 refine RA.nil nofun ?_
 refine AG.seq ?_
 refine AG.region HM ?_
 refine a_move (v := vR _ _) ?_
 refine a_lenR ?_ Try.underlying36
 by_cases hc1 : 0 ≤ (l0.length : Int)
 ·rw [if_pos hc1] at H
  by_cases hc2 : ((l0.length : Int) : Int).toNat ≤ 35184372088832
  ·rw [if_pos hc2] at H
   refine a_make (n := (l0.length : Int)) (css := (List.replicate (((l0.length : Int) : Int).toNat) 0).map c2) 201 ?_ N36 T2 (zV zN) hc1 (by omega) (by omega) (hcss := by exact rep_map rfl)
   refine a_move (v := .c (.own _ _)) ?_
   refine RA.nil nofun ?_
   refine AG.seq ?_
   refine AG.seq ?_
   refine AG.region HM ?_
   refine a_move (v := vI _) ?_
   refine RA.nil nofun ?_
   refine AG.block ?_
   refine AG.loop ?_
   obtain ⟨K0, hK0, gK0⟩ : ∃ K, k ≤ K ∧ K ≤ k := ⟨k, Nat.le_refl k, Nat.le_refl k⟩
   refine AGr.canon (fun κ => cond (Nat.beq κ 202) 201 (κ)) (AGr.loopI (n := k) (fun k s => k ≤ K0 ∧ ∃ (x0 : List Int) (x3 : List Int) (x4 : Int), laws_toInt64S.l0 k x0 x3 x4 = some r ∧ s = St.of [(0, vR 2 (x0.map c2)), (3, .c (.own 202 x3.length)), (4, vI x4)] [(202, .row 2 (x3.map c2))]) ⟨hK0, _, _, _, H, rfl⟩ ?_ ?_) ⟨rfl, (ownE rfl (by simp)), rfl, trivial⟩ ⟨rfl, trivial⟩ rfl
   ·rintro _ ⟨_, _, _, _, H, _⟩
    cases H
   ·clear H hK0
    rintro k ih0 _ ⟨hK0, x0, x3, x4, H, rfl⟩
    unfold laws_toInt64S.l0 at H
    refine AG.seq ?_
    refine AG.seq ?_
    refine AG.region HM ?_
    refine a_move (v := vI _) ?_
    refine a_move (v := vR _ _) ?_
    refine a_lenR ?_ Try.underlying36
    refine a_int (u := .bool (decide (x4 < (x0.length : Int)))) ?_
    refine RA.nil nofun ?_
    by_cases hc4 : x4 < (x0.length : Int)
    ·rw [if_pos hc4] at H
     refine AG.yes rfl (decide_eq_true hc4) ?_
     refine AG.skip ?_
     refine AG.seq ?_
     refine AG.block ?_
     refine AG.region HM ?_
     refine a_move (v := .c (.own _ _)) ?_
     refine a_move (v := vI _) ?_
     refine a_move (v := vR _ _) ?_
     refine a_move (v := vI _) ?_
     by_cases hc5 : 0 ≤ x4
     ·rw [if_pos hc5] at H
      refine a_ixR (el := c2 (rd2 x0 x4)) ?_ ⟨hc5, hc4⟩ T2 Try.underlying36 (hel := R2 hc5 hc4)
      refine a_ldR (v := vI _) ?_ T2
      by_cases hc6 : x4 < (x3.length : Int)
      ·rw [if_pos hc6] at H
       refine a_ixO ?_ ⟨hc5, hc6⟩ T2 Try.underlying36
       refine a_stF (css' := (x3.set (x4 : Int).toNat (rd2 x0 x4)).map c2) ?_ (flat_map (fun _ => rfl)) (G2 hc5 hc6) T2 (hcss := by exact set_map rfl)
       refine RA.nil nofun ?_
       refine AG.region HM ?_
       refine a_move (v := vI _) ?_
       refine a_int (u := .int .i64 (wrap64 (x4 + 1))) ?_
       refine a_move (v := vI _) ?_
       refine RA.nil nofun ?_
       exact AGr.canon id (ih0 _ (by omega) _ ⟨by omega, _, _, _, H, rfl⟩) ⟨rfl, (ownE rfl (by simp)), rfl, trivial⟩ ⟨rfl, trivial⟩ rfl
      ·rw [if_neg hc6] at H
       cases H
     ·rw [if_neg hc5] at H
      cases H
    ·rw [if_neg hc4] at H
     refine AG.no rfl (decide_eq_false hc4) ?_
     refine AG.exit ?_
     refine AG.seq ?_
     refine AG.region HM ?_
     refine a_move (v := .c (.own _ _)) ?_
     refine a_move (v := .c (.own _ _)) ?_
     refine RA.nil nofun ?_
     refine AG.ret ?_
     obtain rfl := Option.some.inj H
     exact RetP.mk (fun κ => cond (Nat.beq κ 100) 202 (κ)) ⟨rfl, trivial⟩ ⟨rfl, trivial⟩ rfl
  ·rw [if_neg hc2] at H
   cases H
 ·rw [if_neg hc1] at H
  cases H
/-! ### laws_toInt64SS: function 8 -/
def laws_toInt64SS.l0 : Nat → List (List Int) → List (List Int) → Int → Option ((List (List Int)))
 | 0, _, _, _ => none
 | k + 1, x0, x3, x4 => if x4 < (x0.length : Int) then (if 0 ≤ x4 then ((laws_toInt64S.f k (rd36 x0 x4)).bind fun t6 => (if x4 < (x3.length : Int) then (laws_toInt64SS.l0 k x0 (x3.set (x4 : Int).toNat t6) (wrap64 (x4 + 1))) else (none))) else (none)) else (some x3)
def laws_toInt64SS.f (k : Nat) (l0 : List (List Int)) : Option ((List (List Int))) := if 0 ≤ (l0.length : Int) then (if ((l0.length : Int) : Int).toNat ≤ 11728124029610 then (laws_toInt64SS.l0 k l0 (List.replicate (((l0.length : Int) : Int).toNat) []) 0) else (none)) else (none)
set_option maxRecDepth 100000 in
theorem laws_toInt64SS.ok {k : Nat} {l0 : List (List Int)} {r : List (List Int)} (H : laws_toInt64SS.f k l0 = some r) : OkF Try.prog 8 [vR 36 (l0.map c36)] [] (.c (.own 100 r.length)) [(100, .row 36 (r.map c36))] := by
 unfold laws_toInt64SS.f at H
 refine OkF.of (N := 23) (rs := [2]) (avs := [.c (.own 100 r.length)]) Try.func8 rfl rfl (fun _ _ => results_tmp rfl _ _ _) (by decide) rfl rfl rfl rfl (fun w0 S => ?_)
 refine AG.seq ?_
 refine AG.region HM ?_
 refine a_nilO (e := 36) 200 ?_ T36
 refine RA.nil nofun ?_
 refine AG.seq ?_
 refine AG.region HM ?_
 refine a_move (v := vR _ _) ?_
 refine a_lenR ?_ Try.underlying22
 by_cases hc1 : 0 ≤ (l0.length : Int)
 ·rw [if_pos hc1] at H
  by_cases hc2 : ((l0.length : Int) : Int).toNat ≤ 11728124029610
  ·rw [if_pos hc2] at H
   refine a_make (n := (l0.length : Int)) (css := (List.replicate (((l0.length : Int) : Int).toNat) []).map c36) 201 ?_ N22 T36 (zR T2 zN) hc1 (by omega) (by omega) (hcss := by exact rep_map rfl)
   refine a_move (v := .c (.own _ _)) ?_
   refine RA.nil nofun ?_
   refine AG.seq ?_
   refine AG.seq ?_
   refine AG.region HM ?_
   refine a_move (v := vI _) ?_
   refine RA.nil nofun ?_
   refine AG.block ?_
   refine AG.loop ?_
   obtain ⟨K0, hK0, gK0⟩ : ∃ K, k ≤ K ∧ K ≤ k := ⟨k, Nat.le_refl k, Nat.le_refl k⟩
   refine AGr.canon (fun κ => cond (Nat.beq κ 202) 201 (κ)) (AGr.loopI (n := k) (fun k s => k ≤ K0 ∧ ∃ (x0 : List (List Int)) (x3 : List (List Int)) (x4 : Int), laws_toInt64SS.l0 k x0 x3 x4 = some r ∧ s = St.of [(0, vR 36 (x0.map c36)), (3, .c (.own 202 x3.length)), (4, vI x4)] [(202, .row 36 (x3.map c36))]) ⟨hK0, _, _, _, H, rfl⟩ ?_ ?_) ⟨rfl, (ownE rfl (by simp)), rfl, trivial⟩ ⟨rfl, trivial⟩ rfl
   ·rintro _ ⟨_, _, _, _, H, _⟩
    cases H
   ·clear H hK0
    rintro k ih0 _ ⟨hK0, x0, x3, x4, H, rfl⟩
    unfold laws_toInt64SS.l0 at H
    refine AG.seq ?_
    refine AG.seq ?_
    refine AG.region HM ?_
    refine a_move (v := vI _) ?_
    refine a_move (v := vR _ _) ?_
    refine a_lenR ?_ Try.underlying22
    refine a_int (u := .bool (decide (x4 < (x0.length : Int)))) ?_
    refine RA.nil nofun ?_
    by_cases hc4 : x4 < (x0.length : Int)
    ·rw [if_pos hc4] at H
     refine AG.yes rfl (decide_eq_true hc4) ?_
     refine AG.skip ?_
     refine AG.seq ?_
     refine AG.block ?_
     refine AG.region HM ?_
     refine a_move (v := .c (.own _ _)) ?_
     refine a_move (v := vI _) ?_
     refine a_move (v := vR _ _) ?_
     refine a_move (v := vI _) ?_
     by_cases hc5 : 0 ≤ x4
     ·rw [if_pos hc5] at H
      refine a_ixR (el := c36 (rd36 x0 x4)) ?_ ⟨hc5, hc4⟩ T36 Try.underlying22 (hel := R36 hc5 hc4)
      refine a_ldR (v := vR _ _) ?_ T36
      obtain ⟨t6, e7, H⟩ := bindO H
      refine a_call (v := .c (.own 203 t6.length)) (nk := [(203, .row 2 (t6.map c2))]) (L := []) ?_ rfl (laws_toInt64S.ok e7) (fun κ => cond (Nat.beq κ 203) 100 (κ)) (qd qn) trivial ⟨rfl, trivial⟩ ⟨rfl, trivial⟩ rfl
      by_cases hc8 : x4 < (x3.length : Int)
      ·rw [if_pos hc8] at H
       refine a_ixO ?_ ⟨hc5, hc8⟩ T36 Try.underlying22
       refine a_stE (D := [203]) (css' := (x3.set (x4 : Int).toNat t6).map c36) ?_ (G36 hc5 hc8) T36 (hcss := by exact set_map rfl)
       refine RA.nil nofun ?_
       refine AG.region HM ?_
       refine a_move (v := vI _) ?_
       refine a_int (u := .int .i64 (wrap64 (x4 + 1))) ?_
       refine a_move (v := vI _) ?_
       refine RA.nil nofun ?_
       exact AGr.canon id (ih0 _ (by omega) _ ⟨by omega, _, _, _, H, rfl⟩) ⟨rfl, (ownE rfl (by simp)), rfl, trivial⟩ ⟨rfl, trivial⟩ rfl
      ·rw [if_neg hc8] at H
       cases H
     ·rw [if_neg hc5] at H
      cases H
    ·rw [if_neg hc4] at H
     refine AG.no rfl (decide_eq_false hc4) ?_
     refine AG.exit ?_
     refine AG.seq ?_
     refine AG.region HM ?_
     refine a_move (v := .c (.own _ _)) ?_
     refine a_move (v := .c (.own _ _)) ?_
     refine RA.nil nofun ?_
     refine AG.ret ?_
     obtain rfl := Option.some.inj H
     exact RetP.mk (fun κ => cond (Nat.beq κ 100) 202 (κ)) ⟨rfl, trivial⟩ ⟨rfl, trivial⟩ rfl
  ·rw [if_neg hc2] at H
   cases H
 ·rw [if_neg hc1] at H
  cases H
/-! ### laws_eqInt64S: function 21 -/
def laws_eqInt64S.l0 : Nat → List Int → List Int → Int → Option (Bool)
 | 0, _, _, _ => none
 | k + 1, x0, x1, x5 => if x5 < (x0.length : Int) then (if 0 ≤ x5 then (if x5 < (x1.length : Int) then (if (rd2 x0 x5) = (rd2 x1 x5) then (laws_eqInt64S.l0 k x0 x1 (wrap64 (x5 + 1))) else (some false)) else (none)) else (none)) else (some true)
def laws_eqInt64S.f (k : Nat) (l0 : List Int) (l1 : List Int) : Option (Bool) := if (l0.length : Int) = (l1.length : Int) then (laws_eqInt64S.l0 k l0 l1 0) else (some false)
set_option maxRecDepth 100000 in
theorem laws_eqInt64S.ok {k : Nat} {l0 : List Int} {l1 : List Int} {r : Bool} (H : laws_eqInt64S.f k l0 l1 = some r) : OkF Try.prog 21 [vR 2 (l0.map c2), vR 2 (l1.map c2)] [] (.c (.d (.v (.bool r)))) [] := by
 unfold laws_eqInt64S.f at H
 refine OkF.of (N := 26) (rs := [4]) (avs := [.c (.d (.v (.bool r)))]) Try.func21 rfl rfl (fun _ _ => results_tmp rfl _ _ _) (by decide) rfl rfl rfl rfl (fun w0 S => ?_)
 refine AG.seq ?_
 refine AG.region HM ?_
 refine a_move (v := vB _) ?_
 refine RA.nil nofun ?_
 refine AG.seq ?_
 refine AG.seq ?_
 refine AG.region HM ?_
 refine a_move (v := vR _ _) ?_
 refine a_lenR ?_ Try.underlying36
 refine a_move (v := vR _ _) ?_
 refine a_lenR ?_ Try.underlying36
 refine a_int (u := .bool (((l0.length : Int) != (l1.length : Int)))) ?_
 refine RA.nil nofun ?_
 by_cases hc1 : (l0.length : Int) = (l1.length : Int)
 ·rw [if_pos hc1] at H
  refine AG.no rfl (bne_eq_false_iff_eq.2 hc1) ?_
  refine AG.skip ?_
  refine AG.seq ?_
  refine AG.seq ?_
  refine AG.region HM ?_
  refine a_move (v := vI _) ?_
  refine RA.nil nofun ?_
  refine AG.block ?_
  refine AG.loop ?_
  obtain ⟨K0, hK0, gK0⟩ : ∃ K, k ≤ K ∧ K ≤ k := ⟨k, Nat.le_refl k, Nat.le_refl k⟩
  refine AGr.canon id (AGr.loopI (n := k) (fun k s => k ≤ K0 ∧ ∃ (x0 : List Int) (x1 : List Int) (x5 : Int), laws_eqInt64S.l0 k x0 x1 x5 = some r ∧ s = St.of [(0, vR 2 (x0.map c2)), (1, vR 2 (x1.map c2)), (5, vI x5)] []) ⟨hK0, _, _, _, H, rfl⟩ ?_ ?_) ⟨rfl, rfl, rfl, trivial⟩ trivial rfl
  ·rintro _ ⟨_, _, _, _, H, _⟩
   cases H
  ·clear H hK0
   rintro k ih0 _ ⟨hK0, x0, x1, x5, H, rfl⟩
   unfold laws_eqInt64S.l0 at H
   refine AG.seq ?_
   refine AG.seq ?_
   refine AG.region HM ?_
   refine a_move (v := vI _) ?_
   refine a_move (v := vR _ _) ?_
   refine a_lenR ?_ Try.underlying36
   refine a_int (u := .bool (decide (x5 < (x0.length : Int)))) ?_
   refine RA.nil nofun ?_
   by_cases hc2 : x5 < (x0.length : Int)
   ·rw [if_pos hc2] at H
    refine AG.yes rfl (decide_eq_true hc2) ?_
    refine AG.skip ?_
    refine AG.seq ?_
    refine AG.block ?_
    refine AG.seq ?_
    refine AG.region HM ?_
    refine a_move (v := vR _ _) ?_
    refine a_move (v := vI _) ?_
    by_cases hc3 : 0 ≤ x5
    ·rw [if_pos hc3] at H
     refine a_ixR (el := c2 (rd2 x0 x5)) ?_ ⟨hc3, hc2⟩ T2 Try.underlying36 (hel := R2 hc3 hc2)
     refine a_ldR (v := vI _) ?_ T2
     refine a_move (v := vR _ _) ?_
     refine a_move (v := vI _) ?_
     by_cases hc4 : x5 < (x1.length : Int)
     ·rw [if_pos hc4] at H
      refine a_ixR (el := c2 (rd2 x1 x5)) ?_ ⟨hc3, hc4⟩ T2 Try.underlying36 (hel := R2 hc3 hc4)
      refine a_ldR (v := vI _) ?_ T2
      refine a_int (u := .bool (((rd2 x0 x5) != (rd2 x1 x5)))) ?_
      refine RA.nil (fun _ => by kernel_rfl) ?_
      by_cases hc5 : (rd2 x0 x5) = (rd2 x1 x5)
      ·rw [if_pos hc5] at H
       refine AG.no rfl (bne_eq_false_iff_eq.2 hc5) ?_
       refine AG.skip ?_
       refine AG.region HM ?_
       refine a_move (v := vI _) ?_
       refine a_int (u := .int .i64 (wrap64 (x5 + 1))) ?_
       refine a_move (v := vI _) ?_
       refine RA.nil nofun ?_
       exact AGr.canon id (ih0 _ (by omega) _ ⟨by omega, _, _, _, H, rfl⟩) ⟨rfl, rfl, rfl, trivial⟩ trivial rfl
      ·rw [if_neg hc5] at H
       refine AG.yes rfl (bne_iff_ne.2 hc5) ?_
       refine AG.seq ?_
       refine AG.region HM ?_
       refine a_move (v := vB _) ?_
       refine RA.nil nofun ?_
       refine AG.ret ?_
       obtain rfl := Option.some.inj H
       exact RetP.mk id ⟨rfl, trivial⟩ trivial rfl
     ·rw [if_neg hc4] at H
      cases H
    ·rw [if_neg hc3] at H
     cases H
   ·rw [if_neg hc2] at H
    refine AG.no rfl (decide_eq_false hc2) ?_
    refine AG.exit ?_
    refine AG.seq ?_
    refine AG.region HM ?_
    refine a_move (v := vB _) ?_
    refine RA.nil nofun ?_
    refine AG.ret ?_
    obtain rfl := Option.some.inj H
    exact RetP.mk id ⟨rfl, trivial⟩ trivial rfl
 ·rw [if_neg hc1] at H
  refine AG.yes rfl (bne_iff_ne.2 hc1) ?_
  refine AG.seq ?_
  refine AG.region HM ?_
  refine a_move (v := vB _) ?_
  refine RA.nil nofun ?_
  refine AG.ret ?_
  obtain rfl := Option.some.inj H
  exact RetP.mk id ⟨rfl, trivial⟩ trivial rfl
/-! ### laws_eqInt64SS: function 10 -/
def laws_eqInt64SS.l0 : Nat → List (List Int) → List (List Int) → Int → Option (Bool)
 | 0, _, _, _ => none
 | k + 1, x0, x1, x5 => if x5 < (x0.length : Int) then (if 0 ≤ x5 then (if x5 < (x1.length : Int) then ((laws_eqInt64S.f k (rd36 x0 x5) (rd36 x1 x5)).bind fun t5 => (if t5 = true then (laws_eqInt64SS.l0 k x0 x1 (wrap64 (x5 + 1))) else (some false))) else (none)) else (none)) else (some true)
def laws_eqInt64SS.f (k : Nat) (l0 : List (List Int)) (l1 : List (List Int)) : Option (Bool) := if (l0.length : Int) = (l1.length : Int) then (laws_eqInt64SS.l0 k l0 l1 0) else (some false)
set_option maxRecDepth 100000 in
theorem laws_eqInt64SS.ok {k : Nat} {l0 : List (List Int)} {l1 : List (List Int)} {r : Bool} (H : laws_eqInt64SS.f k l0 l1 = some r) : OkF Try.prog 10 [vR 36 (l0.map c36), vR 36 (l1.map c36)] [] (.c (.d (.v (.bool r)))) [] := by
 unfold laws_eqInt64SS.f at H
 refine OkF.of (N := 27) (rs := [4]) (avs := [.c (.d (.v (.bool r)))]) Try.func10 rfl rfl (fun _ _ => results_tmp rfl _ _ _) (by decide) rfl rfl rfl rfl (fun w0 S => ?_)
 refine AG.seq ?_
 refine AG.region HM ?_
 refine a_move (v := vB _) ?_
 refine RA.nil nofun ?_
 refine AG.seq ?_
 refine AG.seq ?_
 refine AG.region HM ?_
 refine a_move (v := vR _ _) ?_
 refine a_lenR ?_ Try.underlying22
 refine a_move (v := vR _ _) ?_
 refine a_lenR ?_ Try.underlying22
 refine a_int (u := .bool (((l0.length : Int) != (l1.length : Int)))) ?_
 refine RA.nil nofun ?_
 by_cases hc1 : (l0.length : Int) = (l1.length : Int)
 ·rw [if_pos hc1] at H
  refine AG.no rfl (bne_eq_false_iff_eq.2 hc1) ?_
  refine AG.skip ?_
  refine AG.seq ?_
  refine AG.seq ?_
  refine AG.region HM ?_
  refine a_move (v := vI _) ?_
  refine RA.nil nofun ?_
  refine AG.block ?_
  refine AG.loop ?_
  obtain ⟨K0, hK0, gK0⟩ : ∃ K, k ≤ K ∧ K ≤ k := ⟨k, Nat.le_refl k, Nat.le_refl k⟩
  refine AGr.canon id (AGr.loopI (n := k) (fun k s => k ≤ K0 ∧ ∃ (x0 : List (List Int)) (x1 : List (List Int)) (x5 : Int), laws_eqInt64SS.l0 k x0 x1 x5 = some r ∧ s = St.of [(0, vR 36 (x0.map c36)), (1, vR 36 (x1.map c36)), (5, vI x5)] []) ⟨hK0, _, _, _, H, rfl⟩ ?_ ?_) ⟨rfl, rfl, rfl, trivial⟩ trivial rfl
  ·rintro _ ⟨_, _, _, _, H, _⟩
   cases H
  ·clear H hK0
   rintro k ih0 _ ⟨hK0, x0, x1, x5, H, rfl⟩
   unfold laws_eqInt64SS.l0 at H
   refine AG.seq ?_
   refine AG.seq ?_
   refine AG.region HM ?_
   refine a_move (v := vI _) ?_
   refine a_move (v := vR _ _) ?_
   refine a_lenR ?_ Try.underlying22
   refine a_int (u := .bool (decide (x5 < (x0.length : Int)))) ?_
   refine RA.nil nofun ?_
   by_cases hc2 : x5 < (x0.length : Int)
   ·rw [if_pos hc2] at H
    refine AG.yes rfl (decide_eq_true hc2) ?_
    refine AG.skip ?_
    refine AG.seq ?_
    refine AG.block ?_
    refine AG.seq ?_
    refine AG.region HM ?_
    refine a_move (v := vR _ _) ?_
    refine a_move (v := vI _) ?_
    by_cases hc3 : 0 ≤ x5
    ·rw [if_pos hc3] at H
     refine a_ixR (el := c36 (rd36 x0 x5)) ?_ ⟨hc3, hc2⟩ T36 Try.underlying22 (hel := R36 hc3 hc2)
     refine a_ldR (v := vR _ _) ?_ T36
     refine a_move (v := vR _ _) ?_
     refine a_move (v := vI _) ?_
     by_cases hc4 : x5 < (x1.length : Int)
     ·rw [if_pos hc4] at H
      refine a_ixR (el := c36 (rd36 x1 x5)) ?_ ⟨hc3, hc4⟩ T36 Try.underlying22 (hel := R36 hc3 hc4)
      refine a_ldR (v := vR _ _) ?_ T36
      obtain ⟨t5, e6, H⟩ := bindO H
      refine a_call (v := vB t5) (nk := []) (L := []) ?_ rfl (laws_eqInt64S.ok e6) id (qd (qd qn)) trivial trivial trivial rfl
      refine a_un (u := .bool (!t5)) ?_
      refine RA.nil (fun _ => by kernel_rfl) ?_
      by_cases hc7 : t5 = true
      ·rw [if_pos hc7] at H
       refine AG.no rfl (congrArg Bool.not hc7) ?_
       refine AG.skip ?_
       refine AG.region HM ?_
       refine a_move (v := vI _) ?_
       refine a_int (u := .int .i64 (wrap64 (x5 + 1))) ?_
       refine a_move (v := vI _) ?_
       refine RA.nil nofun ?_
       exact AGr.canon id (ih0 _ (by omega) _ ⟨by omega, _, _, _, H, rfl⟩) ⟨rfl, rfl, rfl, trivial⟩ trivial rfl
      ·rw [if_neg hc7] at H
       refine AG.yes rfl (congrArg Bool.not (Bool.eq_false_iff.2 hc7)) ?_
       refine AG.seq ?_
       refine AG.region HM ?_
       refine a_move (v := vB _) ?_
       refine RA.nil nofun ?_
       refine AG.ret ?_
       obtain rfl := Option.some.inj H
       exact RetP.mk id ⟨rfl, trivial⟩ trivial rfl
     ·rw [if_neg hc4] at H
      cases H
    ·rw [if_neg hc3] at H
     cases H
   ·rw [if_neg hc2] at H
    refine AG.no rfl (decide_eq_false hc2) ?_
    refine AG.exit ?_
    refine AG.seq ?_
    refine AG.region HM ?_
    refine a_move (v := vB _) ?_
    refine RA.nil nofun ?_
    refine AG.ret ?_
    obtain rfl := Option.some.inj H
    exact RetP.mk id ⟨rfl, trivial⟩ trivial rfl
 ·rw [if_neg hc1] at H
  refine AG.yes rfl (bne_iff_ne.2 hc1) ?_
  refine AG.seq ?_
  refine AG.region HM ?_
  refine a_move (v := vB _) ?_
  refine RA.nil nofun ?_
  refine AG.ret ?_
  obtain rfl := Option.some.inj H
  exact RetP.mk id ⟨rfl, trivial⟩ trivial rfl
/-! ### spec_l00In: function 54 -/
def spec_l00In.f (a0 : Int) (a1 : Int) (a2 : Int) : Option (Bool) := if a0 ≥ a1 then (some (decide (a0 ≤ a2))) else (some false)
set_option maxRecDepth 100000 in
theorem spec_l00In.ok {a0 : Int} {a1 : Int} {a2 : Int} {r : Bool} (H : spec_l00In.f a0 a1 a2 = some r) : OkF Try.prog 54 [vI a0, vI a1, vI a2] [] (.c (.d (.v (.bool r)))) [] := by
 unfold spec_l00In.f at H
 refine OkF.of (N := 15) (rs := [6]) (avs := [.c (.d (.v (.bool r)))]) Try.func54 rfl rfl (fun _ _ => results_tmp rfl _ _ _) (by decide) rfl rfl rfl rfl (fun w0 S => ?_)
 refine AG.seq ?_
 refine AG.region HM ?_
 refine a_move (v := vB _) ?_
 refine RA.nil nofun ?_
 refine AG.seq ?_
 refine AG.region HM ?_
 refine a_move (v := vI _) ?_
 refine a_move (v := vI _) ?_
 refine a_int (u := .bool (decide (a0 ≥ a1))) ?_
 refine a_move (v := vB _) ?_
 by_cases hc1 : a0 ≥ a1
 ·rw [if_pos hc1] at H
  refine a_move (v := vI _) ?_ (hg := Gs.yes rfl rfl rfl (decide_eq_true hc1))
  refine a_move (v := vI _) ?_ (hg := Gs.yes rfl rfl rfl (decide_eq_true hc1))
  refine a_int (u := .bool (decide (a0 ≤ a2))) ?_ (hg := Gs.yes rfl rfl rfl (decide_eq_true hc1))
  refine a_pick (b := true) (v := vB _) ?_ (decide_eq_true hc1)
  refine a_move (v := vB _) ?_
  refine RA.nil nofun ?_
  refine AG.ret ?_
  obtain rfl := Option.some.inj H
  exact RetP.mk id ⟨rfl, trivial⟩ trivial rfl
 ·rw [if_neg hc1] at H
  refine RA.skip rfl rfl rfl rfl rfl (decide_eq_false hc1) (by decide) ?_
  refine RA.skip rfl rfl rfl rfl rfl (decide_eq_false hc1) (by decide) ?_
  refine RA.skip rfl rfl rfl rfl rfl (decide_eq_false hc1) (by decide) ?_
  refine a_pick (b := false) (v := vB _) ?_ (decide_eq_false hc1)
  refine a_move (v := vB _) ?_
  refine RA.nil nofun ?_
  refine AG.ret ?_
  obtain rfl := Option.some.inj H
  exact RetP.mk id ⟨rfl, trivial⟩ trivial rfl
/-! ### spec_l12Size: function 44 -/
def spec_l12Size.f (a0 : Int) : Option (Bool) := (spec_l00In.f a0 1 20000).bind fun t1 => (some t1)
set_option maxRecDepth 100000 in
theorem spec_l12Size.ok {a0 : Int} {r : Bool} (H : spec_l12Size.f a0 = some r) : OkF Try.prog 44 [vI a0] [] (.c (.d (.v (.bool r)))) [] := by
 unfold spec_l12Size.f at H
 refine OkF.of (N := 5) (rs := [2]) (avs := [.c (.d (.v (.bool r)))]) Try.func44 rfl rfl (fun _ _ => results_tmp rfl _ _ _) (by decide) rfl rfl rfl rfl (fun w0 S => ?_)
 refine AG.seq ?_
 refine AG.region HM ?_
 refine a_move (v := vB _) ?_
 refine RA.nil nofun ?_
 refine AG.seq ?_
 refine AG.region HM ?_
 refine a_move (v := vI _) ?_
 obtain ⟨t1, e2, H⟩ := bindO H
 refine a_call (v := vB t1) (nk := []) (L := []) ?_ rfl (spec_l00In.ok e2) id (qd (qd (qd qn))) trivial trivial trivial rfl
 refine a_move (v := vB _) ?_
 refine RA.nil nofun ?_
 refine AG.ret ?_
 obtain rfl := Option.some.inj H
 exact RetP.mk id ⟨rfl, trivial⟩ trivial rfl
/-! ### spec_l12Ask: function 27 -/
mutual
def spec_l12Ask.j0 : Nat → List (List Int) → Int → Int → Bool → Option (Int)
 | 0, _, _, _, _ => none
 | k + 1, x0, x1, x2, x21 => if x21 = true then (some 2) else (spec_l12Ask.l0 k x0 x1 x2 0)
def spec_l12Ask.j1 : Nat → List (List Int) → Int → Int → Option (Int)
 | 0, _, _, _ => none
 | k + 1, x0, x1, x2 => spec_l12Ask.l1 k x0 x1 x2 0
def spec_l12Ask.l0 : Nat → List (List Int) → Int → Int → Int → Option (Int)
 | 0, _, _, _, _ => none
 | k + 1, x0, x1, x2, x7 => if x7 < (x0.length : Int) then (if 0 ≤ x7 then (if ((rd36 x0 x7).length : Int) = 2 then (if 0 < ((rd36 x0 x7).length : Int) then ((spec_l12Size.f (rd2 (rd36 x0 x7) 0)).bind fun t12 => (if t12 = true then (if 1 < ((rd36 x0 x7).length : Int) then ((spec_l12Size.f (rd2 (rd36 x0 x7) 1)).bind fun t16 => (if t16 = true then (spec_l12Ask.l0 k x0 x1 x2 (wrap64 (x7 + 1))) else (some 2))) else (none)) else (some 2))) else (none)) else (some 2)) else (none)) else (spec_l12Ask.j1 k x0 x1 x2)
def spec_l12Ask.l1 : Nat → List (List Int) → Int → Int → Int → Option (Int)
 | 0, _, _, _, _ => none
 | k + 1, x0, x1, x2, x8 => if x8 < (x0.length : Int) then (if 0 ≤ x8 then (if 0 < ((rd36 x0 x8).length : Int) then (if (rd2 (rd36 x0 x8) 0) > x1 then (some 6) else (if 1 < ((rd36 x0 x8).length : Int) then (if (rd2 (rd36 x0 x8) 1) > x2 then (some 6) else (spec_l12Ask.l1 k x0 x1 x2 (wrap64 (x8 + 1)))) else (none))) else (none)) else (none)) else (some 0)
end
def spec_l12Ask.f (k : Nat) (l0 : List (List Int)) (a1 : Int) (a2 : Int) : Option (Int) := if (l0.length : Int) > 24 then (spec_l12Ask.j0 k l0 a1 a2 true) else ((spec_l12Size.f a1).bind fun t2 => (if t2 = true then ((spec_l12Size.f a2).bind fun t5 => (spec_l12Ask.j0 k l0 a1 a2 (!t5))) else (spec_l12Ask.j0 k l0 a1 a2 true)))
set_option maxRecDepth 100000 in
theorem spec_l12Ask.ok {k : Nat} {l0 : List (List Int)} {a1 : Int} {a2 : Int} {r : Int} (H : spec_l12Ask.f k l0 a1 a2 = some r) : OkF Try.prog 27 [vR 36 (l0.map c36), vI a1, vI a2] [] (.c (.d (.v (.int .i64 r)))) [] := by
 unfold spec_l12Ask.f at H
 refine OkF.of (N := 78) (rs := [6]) (avs := [.c (.d (.v (.int .i64 r)))]) Try.func27 rfl rfl (fun _ _ => results_tmp rfl _ _ _) (by decide) rfl rfl rfl rfl (fun w0 S => ?_)
 refine AG.seq ?_
 refine AG.region HM ?_
 refine a_move (v := vI _) ?_
 refine RA.nil nofun ?_
 refine AG.seq ?_
 refine AG.seq ?_
 refine AG.joinR (fun s => ∃ q, q ≤ k ∧ ∃ (x0 : List (List Int)) (x1 : Int) (x2 : Int) (x21 : Bool), spec_l12Ask.j0 q x0 x1 x2 x21 = some r ∧ s = St.of [(0, vR 36 (x0.map c36)), (1, vI x1), (2, vI x2), (21, vB x21)] []) ?_ ?_
 ·skip
  refine AG.region HM ?_
  refine a_move (v := vR _ _) ?_
  refine a_lenR ?_ Try.underlying22
  refine a_int (u := .bool (decide ((l0.length : Int) > 24))) ?_
  refine a_move (v := vB _) ?_
  by_cases hc1 : (l0.length : Int) > 24
  ·rw [if_pos hc1] at H
   refine RA.skip rfl rfl rfl rfl rfl (decide_eq_true hc1) (by decide) ?_
   refine RA.skip rfl rfl rfl rfl rfl (decide_eq_true hc1) (by decide) ?_
   refine RA.skip rfl rfl rfl rfl rfl (decide_eq_true hc1) (by decide) ?_
   refine a_pick (b := true) (v := vB _) ?_ (decide_eq_true hc1)
   refine a_move (v := vB _) ?_
   refine RA.skip rfl rfl rfl rfl rfl rfl (by decide) ?_
   refine RA.skip rfl rfl rfl rfl rfl rfl (by decide) ?_
   refine RA.skip rfl rfl rfl rfl rfl rfl (by decide) ?_
   refine a_pick (b := true) (v := vB _) ?_ rfl
   refine RA.nil nofun ?_
   exact CanR.mk id ⟨_, (by omega), _, _, _, _, H, rfl⟩ ⟨rfl, rfl, rfl, rfl, trivial⟩ trivial rfl
  ·rw [if_neg hc1] at H
   refine a_move (v := vI _) ?_ (hg := Gs.yes rfl rfl rfl (decide_eq_false hc1))
   obtain ⟨t2, e3, H⟩ := bindO H
   refine a_call (v := vB t2) (nk := []) (L := []) ?_ rfl (spec_l12Size.ok e3) id (qd qn) trivial trivial trivial rfl (hg := Gs.yes rfl rfl rfl (decide_eq_false hc1))
   refine a_un (u := .bool (!t2)) ?_ (hg := Gs.yes rfl rfl rfl (decide_eq_false hc1))
   refine a_pick (b := false) (v := vB _) ?_ (decide_eq_false hc1)
   refine a_move (v := vB _) ?_
   by_cases hc4 : t2 = true
   ·rw [if_pos hc4] at H
    refine a_move (v := vI _) ?_ (hg := Gs.yes rfl rfl rfl (congrArg Bool.not hc4))
    obtain ⟨t5, e6, H⟩ := bindO H
    refine a_call (v := vB t5) (nk := []) (L := []) ?_ rfl (spec_l12Size.ok e6) id (qd qn) trivial trivial trivial rfl (hg := Gs.yes rfl rfl rfl (congrArg Bool.not hc4))
    refine a_un (u := .bool (!t5)) ?_ (hg := Gs.yes rfl rfl rfl (congrArg Bool.not hc4))
    refine a_pick (b := false) (v := vB _) ?_ (congrArg Bool.not hc4)
    refine RA.nil nofun ?_
    exact CanR.mk id ⟨_, (by omega), _, _, _, _, H, rfl⟩ ⟨rfl, rfl, rfl, rfl, trivial⟩ trivial rfl
   ·rw [if_neg hc4] at H
    refine RA.skip rfl rfl rfl rfl rfl (congrArg Bool.not (Bool.eq_false_iff.2 hc4)) (by decide) ?_
    refine RA.skip rfl rfl rfl rfl rfl (congrArg Bool.not (Bool.eq_false_iff.2 hc4)) (by decide) ?_
    refine RA.skip rfl rfl rfl rfl rfl (congrArg Bool.not (Bool.eq_false_iff.2 hc4)) (by decide) ?_
    refine a_pick (b := true) (v := vB _) ?_ (congrArg Bool.not (Bool.eq_false_iff.2 hc4))
    refine RA.nil nofun ?_
    exact CanR.mk id ⟨_, (by omega), _, _, _, _, H, rfl⟩ ⟨rfl, rfl, rfl, rfl, trivial⟩ trivial rfl
 ·clear H
  rintro _ ⟨k, hj0, x0, x1, x2, x21, H, rfl⟩
  cases k with
  | zero => cases H
  | succ k =>
   rw [spec_l12Ask.j0] at H
   by_cases hc7 : x21 = true
   ·rw [if_pos hc7] at H
    refine AG.yes rfl hc7 ?_
    refine AG.seq ?_
    refine AG.region HM ?_
    refine a_move (v := vI _) ?_
    refine RA.nil nofun ?_
    refine AG.ret ?_
    obtain rfl := Option.some.inj H
    exact RetP.mk id ⟨rfl, trivial⟩ trivial rfl
   ·rw [if_neg hc7] at H
    refine AG.no rfl (Bool.eq_false_iff.2 hc7) ?_
    refine AG.skip ?_
    refine AG.seq ?_
    refine AG.seq ?_
    refine AG.region HM ?_
    refine a_move (v := vI _) ?_
    refine RA.nil nofun ?_
    refine AG.joinR (fun s => ∃ q, q ≤ k ∧ ∃ (x0 : List (List Int)) (x1 : Int) (x2 : Int), spec_l12Ask.j1 q x0 x1 x2 = some r ∧ s = St.of [(0, vR 36 (x0.map c36)), (1, vI x1), (2, vI x2)] []) ?_ ?_
    ·skip
     refine AG.block ?_
     refine AG.loop ?_
     obtain ⟨K0, hK0, gK0⟩ : ∃ K, k ≤ K ∧ K ≤ k := ⟨k, Nat.le_refl k, Nat.le_refl k⟩
     refine AGr.canon id (AGr.loopI (n := k) (fun k s => k ≤ K0 ∧ ∃ (x0 : List (List Int)) (x1 : Int) (x2 : Int) (x7 : Int), spec_l12Ask.l0 k x0 x1 x2 x7 = some r ∧ s = St.of [(0, vR 36 (x0.map c36)), (1, vI x1), (2, vI x2), (7, vI x7)] []) ⟨hK0, _, _, _, _, H, rfl⟩ ?_ ?_) ⟨rfl, rfl, rfl, rfl, trivial⟩ trivial rfl
     ·rintro _ ⟨_, _, _, _, _, H, _⟩
      cases H
     ·clear H hK0
      rintro k ih0 _ ⟨hK0, x0, x1, x2, x7, H, rfl⟩
      unfold spec_l12Ask.l0 at H
      refine AG.seq ?_
      refine AG.seq ?_
      refine AG.region HM ?_
      refine a_move (v := vI _) ?_
      refine a_move (v := vR _ _) ?_
      refine a_lenR ?_ Try.underlying22
      refine a_int (u := .bool (decide (x7 < (x0.length : Int)))) ?_
      refine RA.nil nofun ?_
      by_cases hc8 : x7 < (x0.length : Int)
      ·rw [if_pos hc8] at H
       refine AG.yes rfl (decide_eq_true hc8) ?_
       refine AG.skip ?_
       refine AG.seq ?_
       refine AG.block ?_
       refine AG.seq ?_
       refine AG.region HM ?_
       refine a_move (v := vR _ _) ?_
       refine a_move (v := vI _) ?_
       by_cases hc9 : 0 ≤ x7
       ·rw [if_pos hc9] at H
        refine a_ixR (el := c36 (rd36 x0 x7)) ?_ ⟨hc9, hc8⟩ T36 Try.underlying22 (hel := R36 hc9 hc8)
        refine a_ldR (v := vR _ _) ?_ T36
        refine a_lenR ?_ Try.underlying36
        refine a_int (u := .bool ((((rd36 x0 x7).length : Int) != 2))) ?_
        refine a_move (v := vB _) ?_
        by_cases hc10 : ((rd36 x0 x7).length : Int) = 2
        ·rw [if_pos hc10] at H
         refine a_move (v := vR _ _) ?_ (hg := Gs.yes rfl rfl rfl (bne_eq_false_iff_eq.2 hc10))
         refine a_move (v := vI _) ?_ (hg := Gs.yes rfl rfl rfl (bne_eq_false_iff_eq.2 hc10))
         refine a_ixR (el := c36 (rd36 x0 x7)) ?_ ⟨hc9, hc8⟩ T36 Try.underlying22 (hel := R36 hc9 hc8) (hg := Gs.yes rfl rfl rfl (bne_eq_false_iff_eq.2 hc10))
         refine a_ldR (v := vR _ _) ?_ T36 (hg := Gs.yes rfl rfl rfl (bne_eq_false_iff_eq.2 hc10))
         by_cases hc11 : 0 < ((rd36 x0 x7).length : Int)
         ·rw [if_pos hc11] at H
          refine a_ixR (el := c2 (rd2 (rd36 x0 x7) 0)) ?_ ⟨(by decide), hc11⟩ T2 Try.underlying36 (hel := R2 (by decide) hc11) (hg := Gs.yes rfl rfl rfl (bne_eq_false_iff_eq.2 hc10))
          refine a_ldR (v := vI _) ?_ T2 (hg := Gs.yes rfl rfl rfl (bne_eq_false_iff_eq.2 hc10))
          obtain ⟨t12, e13, H⟩ := bindO H
          refine a_call (v := vB t12) (nk := []) (L := []) ?_ rfl (spec_l12Size.ok e13) id (qd qn) trivial trivial trivial rfl (hg := Gs.yes rfl rfl rfl (bne_eq_false_iff_eq.2 hc10))
          refine a_un (u := .bool (!t12)) ?_ (hg := Gs.yes rfl rfl rfl (bne_eq_false_iff_eq.2 hc10))
          refine a_pick (b := false) (v := vB _) ?_ (bne_eq_false_iff_eq.2 hc10)
          refine a_move (v := vB _) ?_
          by_cases hc14 : t12 = true
          ·rw [if_pos hc14] at H
           refine a_move (v := vR _ _) ?_ (hg := Gs.yes rfl rfl rfl (congrArg Bool.not hc14))
           refine a_move (v := vI _) ?_ (hg := Gs.yes rfl rfl rfl (congrArg Bool.not hc14))
           refine a_ixR (el := c36 (rd36 x0 x7)) ?_ ⟨hc9, hc8⟩ T36 Try.underlying22 (hel := R36 hc9 hc8) (hg := Gs.yes rfl rfl rfl (congrArg Bool.not hc14))
           refine a_ldR (v := vR _ _) ?_ T36 (hg := Gs.yes rfl rfl rfl (congrArg Bool.not hc14))
           by_cases hc15 : 1 < ((rd36 x0 x7).length : Int)
           ·rw [if_pos hc15] at H
            refine a_ixR (el := c2 (rd2 (rd36 x0 x7) 1)) ?_ ⟨(by decide), hc15⟩ T2 Try.underlying36 (hel := R2 (by decide) hc15) (hg := Gs.yes rfl rfl rfl (congrArg Bool.not hc14))
            refine a_ldR (v := vI _) ?_ T2 (hg := Gs.yes rfl rfl rfl (congrArg Bool.not hc14))
            obtain ⟨t16, e17, H⟩ := bindO H
            refine a_call (v := vB t16) (nk := []) (L := []) ?_ rfl (spec_l12Size.ok e17) id (qd qn) trivial trivial trivial rfl (hg := Gs.yes rfl rfl rfl (congrArg Bool.not hc14))
            refine a_un (u := .bool (!t16)) ?_ (hg := Gs.yes rfl rfl rfl (congrArg Bool.not hc14))
            refine a_pick (b := false) (v := vB _) ?_ (congrArg Bool.not hc14)
            refine RA.nil nofun ?_
            by_cases hc18 : t16 = true
            ·rw [if_pos hc18] at H
             refine AG.no rfl (congrArg Bool.not hc18) ?_
             refine AG.skip ?_
             refine AG.region HM ?_
             refine a_move (v := vI _) ?_
             refine a_int (u := .int .i64 (wrap64 (x7 + 1))) ?_
             refine a_move (v := vI _) ?_
             refine RA.nil nofun ?_
             exact AGr.canon id (ih0 _ (by omega) _ ⟨by omega, _, _, _, _, H, rfl⟩) ⟨rfl, rfl, rfl, rfl, trivial⟩ trivial rfl
            ·rw [if_neg hc18] at H
             refine AG.yes rfl (congrArg Bool.not (Bool.eq_false_iff.2 hc18)) ?_
             refine AG.seq ?_
             refine AG.region HM ?_
             refine a_move (v := vI _) ?_
             refine RA.nil nofun ?_
             refine AG.ret ?_
             obtain rfl := Option.some.inj H
             exact RetP.mk id ⟨rfl, trivial⟩ trivial rfl
           ·rw [if_neg hc15] at H
            cases H
          ·rw [if_neg hc14] at H
           refine RA.skip rfl rfl rfl rfl rfl (congrArg Bool.not (Bool.eq_false_iff.2 hc14)) (by decide) ?_
           refine RA.skip rfl rfl rfl rfl rfl (congrArg Bool.not (Bool.eq_false_iff.2 hc14)) (by decide) ?_
           refine RA.skip rfl rfl rfl rfl rfl (congrArg Bool.not (Bool.eq_false_iff.2 hc14)) (by decide) ?_
           refine RA.skip rfl rfl rfl rfl rfl (congrArg Bool.not (Bool.eq_false_iff.2 hc14)) (by decide) ?_
           refine RA.skip rfl rfl rfl rfl rfl (congrArg Bool.not (Bool.eq_false_iff.2 hc14)) (by decide) ?_
           refine RA.skip rfl rfl rfl rfl rfl (congrArg Bool.not (Bool.eq_false_iff.2 hc14)) (by decide) ?_
           refine RA.skip rfl rfl rfl rfl rfl (congrArg Bool.not (Bool.eq_false_iff.2 hc14)) (by decide) ?_
           refine RA.skip rfl rfl rfl rfl rfl (congrArg Bool.not (Bool.eq_false_iff.2 hc14)) (by decide) ?_
           refine a_pick (b := true) (v := vB _) ?_ (congrArg Bool.not (Bool.eq_false_iff.2 hc14))
           refine RA.nil nofun ?_
           refine AG.yes rfl rfl ?_
           refine AG.seq ?_
           refine AG.region HM ?_
           refine a_move (v := vI _) ?_
           refine RA.nil nofun ?_
           refine AG.ret ?_
           obtain rfl := Option.some.inj H
           exact RetP.mk id ⟨rfl, trivial⟩ trivial rfl
         ·rw [if_neg hc11] at H
          cases H
        ·rw [if_neg hc10] at H
         refine RA.skip rfl rfl rfl rfl rfl (bne_iff_ne.2 hc10) (by decide) ?_
         refine RA.skip rfl rfl rfl rfl rfl (bne_iff_ne.2 hc10) (by decide) ?_
         refine RA.skip rfl rfl rfl rfl rfl (bne_iff_ne.2 hc10) (by decide) ?_
         refine RA.skip rfl rfl rfl rfl rfl (bne_iff_ne.2 hc10) (by decide) ?_
         refine RA.skip rfl rfl rfl rfl rfl (bne_iff_ne.2 hc10) (by decide) ?_
         refine RA.skip rfl rfl rfl rfl rfl (bne_iff_ne.2 hc10) (by decide) ?_
         refine RA.skip rfl rfl rfl rfl rfl (bne_iff_ne.2 hc10) (by decide) ?_
         refine RA.skip rfl rfl rfl rfl rfl (bne_iff_ne.2 hc10) (by decide) ?_
         refine a_pick (b := true) (v := vB _) ?_ (bne_iff_ne.2 hc10)
         refine a_move (v := vB _) ?_
         refine RA.skip rfl rfl rfl rfl rfl rfl (by decide) ?_
         refine RA.skip rfl rfl rfl rfl rfl rfl (by decide) ?_
         refine RA.skip rfl rfl rfl rfl rfl rfl (by decide) ?_
         refine RA.skip rfl rfl rfl rfl rfl rfl (by decide) ?_
         refine RA.skip rfl rfl rfl rfl rfl rfl (by decide) ?_
         refine RA.skip rfl rfl rfl rfl rfl rfl (by decide) ?_
         refine RA.skip rfl rfl rfl rfl rfl rfl (by decide) ?_
         refine RA.skip rfl rfl rfl rfl rfl rfl (by decide) ?_
         refine a_pick (b := true) (v := vB _) ?_ rfl
         refine RA.nil nofun ?_
         refine AG.yes rfl rfl ?_
         refine AG.seq ?_
         refine AG.region HM ?_
         refine a_move (v := vI _) ?_
         refine RA.nil nofun ?_
         refine AG.ret ?_
         obtain rfl := Option.some.inj H
         exact RetP.mk id ⟨rfl, trivial⟩ trivial rfl
       ·rw [if_neg hc9] at H
        cases H
      ·rw [if_neg hc8] at H
       refine AG.no rfl (decide_eq_false hc8) ?_
       refine AG.exit ?_
       exact CanR.mk id ⟨_, (by omega), _, _, _, H, rfl⟩ ⟨rfl, rfl, rfl, trivial⟩ trivial rfl
    ·clear H
     rintro _ ⟨k, hj1, x0, x1, x2, H, rfl⟩
     cases k with
     | zero => cases H
     | succ k =>
      rw [spec_l12Ask.j1] at H
      refine AG.seq ?_
      refine AG.seq ?_
      refine AG.region HM ?_
      refine a_move (v := vI _) ?_
      refine RA.nil nofun ?_
      refine AG.block ?_
      refine AG.loop ?_
      obtain ⟨K1, hK1, gK1⟩ : ∃ K, k ≤ K ∧ K ≤ k := ⟨k, Nat.le_refl k, Nat.le_refl k⟩
      refine AGr.canon id (AGr.loopI (n := k) (fun k s => k ≤ K1 ∧ ∃ (x0 : List (List Int)) (x1 : Int) (x2 : Int) (x8 : Int), spec_l12Ask.l1 k x0 x1 x2 x8 = some r ∧ s = St.of [(0, vR 36 (x0.map c36)), (1, vI x1), (2, vI x2), (8, vI x8)] []) ⟨hK1, _, _, _, _, H, rfl⟩ ?_ ?_) ⟨rfl, rfl, rfl, rfl, trivial⟩ trivial rfl
      ·rintro _ ⟨_, _, _, _, _, H, _⟩
       cases H
      ·clear H hK1
       rintro k ih1 _ ⟨hK1, x0, x1, x2, x8, H, rfl⟩
       unfold spec_l12Ask.l1 at H
       refine AG.seq ?_
       refine AG.seq ?_
       refine AG.region HM ?_
       refine a_move (v := vI _) ?_
       refine a_move (v := vR _ _) ?_
       refine a_lenR ?_ Try.underlying22
       refine a_int (u := .bool (decide (x8 < (x0.length : Int)))) ?_
       refine RA.nil nofun ?_
       by_cases hc19 : x8 < (x0.length : Int)
       ·rw [if_pos hc19] at H
        refine AG.yes rfl (decide_eq_true hc19) ?_
        refine AG.skip ?_
        refine AG.seq ?_
        refine AG.block ?_
        refine AG.seq ?_
        refine AG.region HM ?_
        refine a_move (v := vR _ _) ?_
        refine a_move (v := vI _) ?_
        by_cases hc20 : 0 ≤ x8
        ·rw [if_pos hc20] at H
         refine a_ixR (el := c36 (rd36 x0 x8)) ?_ ⟨hc20, hc19⟩ T36 Try.underlying22 (hel := R36 hc20 hc19)
         refine a_ldR (v := vR _ _) ?_ T36
         by_cases hc21 : 0 < ((rd36 x0 x8).length : Int)
         ·rw [if_pos hc21] at H
          refine a_ixR (el := c2 (rd2 (rd36 x0 x8) 0)) ?_ ⟨(by decide), hc21⟩ T2 Try.underlying36 (hel := R2 (by decide) hc21)
          refine a_ldR (v := vI _) ?_ T2
          refine a_move (v := vI _) ?_
          refine a_int (u := .bool (decide ((rd2 (rd36 x0 x8) 0) > x1))) ?_
          refine a_move (v := vB _) ?_
          by_cases hc22 : (rd2 (rd36 x0 x8) 0) > x1
          ·rw [if_pos hc22] at H
           refine RA.skip rfl rfl rfl rfl rfl (decide_eq_true hc22) (by decide) ?_
           refine RA.skip rfl rfl rfl rfl rfl (decide_eq_true hc22) (by decide) ?_
           refine RA.skip rfl rfl rfl rfl rfl (decide_eq_true hc22) (by decide) ?_
           refine RA.skip rfl rfl rfl rfl rfl (decide_eq_true hc22) (by decide) ?_
           refine RA.skip rfl rfl rfl rfl rfl (decide_eq_true hc22) (by decide) ?_
           refine RA.skip rfl rfl rfl rfl rfl (decide_eq_true hc22) (by decide) ?_
           refine RA.skip rfl rfl rfl rfl rfl (decide_eq_true hc22) (by decide) ?_
           refine RA.skip rfl rfl rfl rfl rfl (decide_eq_true hc22) (by decide) ?_
           refine a_pick (b := true) (v := vB _) ?_ (decide_eq_true hc22)
           refine RA.nil nofun ?_
           refine AG.yes rfl rfl ?_
           refine AG.seq ?_
           refine AG.region HM ?_
           refine a_move (v := vI _) ?_
           refine RA.nil nofun ?_
           refine AG.ret ?_
           obtain rfl := Option.some.inj H
           exact RetP.mk id ⟨rfl, trivial⟩ trivial rfl
          ·rw [if_neg hc22] at H
           refine a_move (v := vR _ _) ?_ (hg := Gs.yes rfl rfl rfl (decide_eq_false hc22))
           refine a_move (v := vI _) ?_ (hg := Gs.yes rfl rfl rfl (decide_eq_false hc22))
           refine a_ixR (el := c36 (rd36 x0 x8)) ?_ ⟨hc20, hc19⟩ T36 Try.underlying22 (hel := R36 hc20 hc19) (hg := Gs.yes rfl rfl rfl (decide_eq_false hc22))
           refine a_ldR (v := vR _ _) ?_ T36 (hg := Gs.yes rfl rfl rfl (decide_eq_false hc22))
           by_cases hc23 : 1 < ((rd36 x0 x8).length : Int)
           ·rw [if_pos hc23] at H
            refine a_ixR (el := c2 (rd2 (rd36 x0 x8) 1)) ?_ ⟨(by decide), hc23⟩ T2 Try.underlying36 (hel := R2 (by decide) hc23) (hg := Gs.yes rfl rfl rfl (decide_eq_false hc22))
            refine a_ldR (v := vI _) ?_ T2 (hg := Gs.yes rfl rfl rfl (decide_eq_false hc22))
            refine a_move (v := vI _) ?_ (hg := Gs.yes rfl rfl rfl (decide_eq_false hc22))
            refine a_int (u := .bool (decide ((rd2 (rd36 x0 x8) 1) > x2))) ?_ (hg := Gs.yes rfl rfl rfl (decide_eq_false hc22))
            refine a_pick (b := false) (v := vB _) ?_ (decide_eq_false hc22)
            refine RA.nil nofun ?_
            by_cases hc24 : (rd2 (rd36 x0 x8) 1) > x2
            ·rw [if_pos hc24] at H
             refine AG.yes rfl (decide_eq_true hc24) ?_
             refine AG.seq ?_
             refine AG.region HM ?_
             refine a_move (v := vI _) ?_
             refine RA.nil nofun ?_
             refine AG.ret ?_
             obtain rfl := Option.some.inj H
             exact RetP.mk id ⟨rfl, trivial⟩ trivial rfl
            ·rw [if_neg hc24] at H
             refine AG.no rfl (decide_eq_false hc24) ?_
             refine AG.skip ?_
             refine AG.region HM ?_
             refine a_move (v := vI _) ?_
             refine a_int (u := .int .i64 (wrap64 (x8 + 1))) ?_
             refine a_move (v := vI _) ?_
             refine RA.nil nofun ?_
             exact AGr.canon id (ih1 _ (by omega) _ ⟨by omega, _, _, _, _, H, rfl⟩) ⟨rfl, rfl, rfl, rfl, trivial⟩ trivial rfl
           ·rw [if_neg hc23] at H
            cases H
         ·rw [if_neg hc21] at H
          cases H
        ·rw [if_neg hc20] at H
         cases H
       ·rw [if_neg hc19] at H
        refine AG.no rfl (decide_eq_false hc19) ?_
        refine AG.exit ?_
        refine AG.seq ?_
        refine AG.region HM ?_
        refine a_move (v := vI _) ?_
        refine RA.nil nofun ?_
        refine AG.ret ?_
        obtain rfl := Option.some.inj H
        exact RetP.mk id ⟨rfl, trivial⟩ trivial rfl
/-! ### spec_l00Own: function 45 -/
def spec_l00Own.f (l0 : List Int) : Option ((List Int)) := if ([] : List Int).length + l0.length < 17592186044416 then (some (([] : List Int) ++ l0)) else (none)
set_option maxRecDepth 100000 in
theorem spec_l00Own.ok {l0 : List Int} {r : List Int} (H : spec_l00Own.f l0 = some r) : OkF Try.prog 45 [vR 2 (l0.map c2)] [] (.c (.own 100 r.length)) [(100, .row 2 (r.map c2))] := by
 unfold spec_l00Own.f at H
 refine OkF.of (N := 6) (rs := [2]) (avs := [.c (.own 100 r.length)]) Try.func45 rfl rfl (fun _ _ => results_tmp rfl _ _ _) (by decide) rfl rfl rfl rfl (fun w0 S => ?_)
 refine AG.seq ?_
 refine AG.region HM ?_
 refine a_nilO (e := 2) 200 ?_ T2
 refine RA.nil nofun ?_
 refine AG.seq ?_
 refine AG.region HM ?_
 refine a_lit (cs := []) (D := []) (css := (([] : List Int)).map c2) 201 ?_ N36 T2
 refine a_move (v := vR _ _) ?_
 by_cases hc1 : ([] : List Int).length + l0.length < 17592186044416
 ·rw [if_pos hc1] at H
  refine a_appR (css2 := l0.map c2) (css' := (([] : List Int) ++ l0).map c2) (n' := (([] : List Int) ++ l0).length) ?_ (by simp [c2, isV, Value.oneCell']) T2 (by simp [maxLen]; omega) (by simp; omega) Try.underlying36 (hc := by exact List.map_append.symm) (hn := by exact List.length_map _)
  refine a_move (v := .c (.own _ _)) ?_
  refine RA.nil nofun ?_
  refine AG.ret ?_
  obtain rfl := Option.some.inj H
  exact RetP.mk (fun κ => cond (Nat.beq κ 100) 201 (κ)) ⟨rfl, trivial⟩ ⟨rfl, trivial⟩ rfl
 ·rw [if_neg hc1] at H
  cases H
/-! ### spec_l12Shelves: function 28 -/
mutual
def spec_l12Shelves.j0 : Nat → List (List Int) → Int → Int → List Int → Option ((List (List Int)) × Int)
 | 0, _, _, _, _ => none
 | k + 1, x0, x1, x2, x8 => if 0 ≤ (x0.length : Int) then (if ((x0.length : Int) : Int).toNat ≤ 11728124029610 then (spec_l12Shelves.l2 k x0 x1 x2 x8 (List.replicate (((x0.length : Int) : Int).toNat) []) (-1) 0 0 x2 0) else (none)) else (none)
def spec_l12Shelves.l0 : Nat → List (List Int) → Int → Int → List Int → Int → Option ((List (List Int)) × Int)
 | 0, _, _, _, _, _ => none
 | k + 1, x0, x1, x2, x8, x9 => if x9 < (x0.length : Int) then (spec_l12Shelves.l1 k x0 x1 x2 x8 x9 (x8.length : Int)) else (spec_l12Shelves.j0 k x0 x1 x2 x8)
def spec_l12Shelves.l1 : Nat → List (List Int) → Int → Int → List Int → Int → Int → Option ((List (List Int)) × Int)
 | 0, _, _, _, _, _, _ => none
 | k + 1, x0, x1, x2, x8, x9, x10 => if x10 > 0 then (if 0 ≤ (wrap64 (x10 - 1)) then (if (wrap64 (x10 - 1)) < (x8.length : Int) then (if 0 ≤ (rd2 x8 (wrap64 (x10 - 1))) then (if (rd2 x8 (wrap64 (x10 - 1))) < (x0.length : Int) then (if 1 < ((rd36 x0 (rd2 x8 (wrap64 (x10 - 1)))).length : Int) then (if 0 ≤ x9 then (if x9 < (x0.length : Int) then (if 1 < ((rd36 x0 x9).length : Int) then (if (rd2 (rd36 x0 (rd2 x8 (wrap64 (x10 - 1)))) 1) < (rd2 (rd36 x0 x9) 1) then (spec_l12Shelves.l1 k x0 x1 x2 x8 x9 (wrap64 (x10 - 1))) else (if 0 ≤ x10 then (if x10 ≤ (x8.length : Int) then ((spec_l00Own.f (x8.take ((x10 : Int).toNat))).bind fun t15 => (if t15.length < 17592186044416 then ((some (t15 ++ [x9] : List Int)).bind fun y18 => (if y18.length + (x8.length - (x10 : Int).toNat) < 17592186044416 then (spec_l12Shelves.l0 k x0 x1 x2 (y18 ++ (x8.drop ((x10 : Int).toNat)).take (x8.length - (x10 : Int).toNat)) (wrap64 (x9 + 1))) else (none))) else (none))) else (none)) else (none))) else (none)) else (none)) else (none)) else (none)) else (none)) else (none)) else (none)) else (none)) else (if 0 ≤ x10 then (if x10 ≤ (x8.length : Int) then ((spec_l00Own.f (x8.take ((x10 : Int).toNat))).bind fun t23 => (if t23.length < 17592186044416 then ((some (t23 ++ [x9] : List Int)).bind fun y26 => (if y26.length + (x8.length - (x10 : Int).toNat) < 17592186044416 then (spec_l12Shelves.l0 k x0 x1 x2 (y26 ++ (x8.drop ((x10 : Int).toNat)).take (x8.length - (x10 : Int).toNat)) (wrap64 (x9 + 1))) else (none))) else (none))) else (none)) else (none))
def spec_l12Shelves.l2 : Nat → List (List Int) → Int → Int → List Int → List (List Int) → Int → Int → Int → Int → Int → Option ((List (List Int)) × Int)
 | 0, _, _, _, _, _, _, _, _, _, _ => none
 | k + 1, x0, x1, x2, x8, x12, x13, x14, x15, x16, x17 => if x17 < (x8.length : Int) then (if 0 ≤ x17 then (if 0 ≤ (rd2 x8 x17) then (if (rd2 x8 x17) < (x0.length : Int) then (if x13 < 0 then (spec_l12Shelves.j1 k x0 x1 x2 x8 x12 x13 x14 x15 x16 x17 (rd36 x0 (rd2 x8 x17)) true) else (if 0 < ((rd36 x0 (rd2 x8 x17)).length : Int) then (spec_l12Shelves.j1 k x0 x1 x2 x8 x12 x13 x14 x15 x16 x17 (rd36 x0 (rd2 x8 x17)) (decide ((wrap64 (x14 + (rd2 (rd36 x0 (rd2 x8 x17)) 0))) > x1))) else (none))) else (none)) else (none)) else (none)) else (some (x12, wrap64 (x13 + 1)))
def spec_l12Shelves.j1 : Nat → List (List Int) → Int → Int → List Int → List (List Int) → Int → Int → Int → Int → Int → List Int → Bool → Option ((List (List Int)) × Int)
 | 0, _, _, _, _, _, _, _, _, _, _, _, _ => none
 | k + 1, x0, x1, x2, x8, x12, x13, x14, x15, x16, x17, x18, x91 => if x91 = true then (if 1 < (x18.length : Int) then (if (wrap64 (x16 + (rd2 x18 1))) > x2 then (if 0 ≤ x17 then (if x17 < (x8.length : Int) then (if 0 ≤ (rd2 x8 x17) then (if (rd2 x8 x17) < (x12.length : Int) then (if 0 < (x18.length : Int) then (spec_l12Shelves.l2 k x0 x1 x2 x8 (x12.set ((rd2 x8 x17) : Int).toNat ([wrap64 (x13 + 1), 0, 0])) (wrap64 (x13 + 1)) (wrap64 (0 + (rd2 x18 0))) 0 (wrap64 (0 + (rd2 x18 1))) (wrap64 (x17 + 1))) else (none)) else (none)) else (none)) else (none)) else (none)) else (if 0 ≤ x17 then (if x17 < (x8.length : Int) then (if 0 ≤ (rd2 x8 x17) then (if (rd2 x8 x17) < (x12.length : Int) then (if 0 < (x18.length : Int) then (spec_l12Shelves.l2 k x0 x1 x2 x8 (x12.set ((rd2 x8 x17) : Int).toNat ([x13, 0, x16])) x13 (wrap64 (0 + (rd2 x18 0))) x16 (wrap64 (x16 + (rd2 x18 1))) (wrap64 (x17 + 1))) else (none)) else (none)) else (none)) else (none)) else (none))) else (none)) else (if 0 ≤ x17 then (if x17 < (x8.length : Int) then (if 0 ≤ (rd2 x8 x17) then (if (rd2 x8 x17) < (x12.length : Int) then (if 0 < (x18.length : Int) then (spec_l12Shelves.l2 k x0 x1 x2 x8 (x12.set ((rd2 x8 x17) : Int).toNat ([x13, x14, x15])) x13 (wrap64 (x14 + (rd2 x18 0))) x15 x16 (wrap64 (x17 + 1))) else (none)) else (none)) else (none)) else (none)) else (none))
end
def spec_l12Shelves.f (k : Nat) (l0 : List (List Int)) (a1 : Int) (a2 : Int) : Option ((List (List Int)) × Int) := spec_l12Shelves.l0 k l0 a1 a2 (([] : List Int) : List Int) 0
set_option maxRecDepth 100000 in
theorem spec_l12Shelves.ok {k : Nat} {l0 : List (List Int)} {a1 : Int} {a2 : Int} {r0 : List (List Int)} {r1 : Int} (H : spec_l12Shelves.f k l0 a1 a2 = some (r0, r1)) : OkF Try.prog 28 [vR 36 (l0.map c36), vI a1, vI a2] [] (.tup [.c (.own 100 r0.length), .c (.d (.v (.int .i64 r1)))]) [(100, .row 36 (r0.map c36))] := by
 unfold spec_l12Shelves.f at H
 refine OkF.of (N := 125) (rs := [6, 7]) (avs := [.c (.own 100 r0.length), .c (.d (.v (.int .i64 r1)))]) Try.func28 rfl rfl (fun _ _ => results_tmp2 rfl _ _ _) (by decide) rfl rfl rfl rfl (fun w0 S => ?_)
 refine AG.seq ?_
 refine AG.region HM ?_
 refine a_nilO (e := 36) 200 ?_ T36
 refine a_move (v := vI _) ?_
 refine RA.nil nofun ?_
 refine AG.seq ?_
 refine AG.region HM ?_
 refine a_lit (cs := []) (D := []) (css := (([] : List Int) : List Int).map c2) 201 ?_ N36 T2 (hcss := by rfl)
 refine a_move (v := .c (.own _ _)) ?_
 refine RA.nil nofun ?_
 refine AG.seq ?_
 refine AG.seq ?_
 refine AG.region HM ?_
 refine a_move (v := vI _) ?_
 refine RA.nil nofun ?_
 refine AG.joinR (fun s => ∃ q, q ≤ k ∧ ∃ (x0 : List (List Int)) (x1 : Int) (x2 : Int) (x8 : List Int), spec_l12Shelves.j0 q x0 x1 x2 x8 = some (r0, r1) ∧ s = St.of [(0, vR 36 (x0.map c36)), (1, vI x1), (2, vI x2), (8, .c (.own 206 x8.length))] [(206, .row 2 (x8.map c2))]) ?_ ?_
 ·skip
  refine AG.block ?_
  refine AG.loop ?_
  obtain ⟨K0, hK0, gK0⟩ : ∃ K, k ≤ K ∧ K ≤ k := ⟨k, Nat.le_refl k, Nat.le_refl k⟩
  refine AGr.canon (fun κ => cond (Nat.beq κ 202) 201 (κ)) (AGr.loopI (n := k) (fun k s => k ≤ K0 ∧ ∃ (x0 : List (List Int)) (x1 : Int) (x2 : Int) (x8 : List Int) (x9 : Int), spec_l12Shelves.l0 k x0 x1 x2 x8 x9 = some (r0, r1) ∧ s = St.of [(0, vR 36 (x0.map c36)), (1, vI x1), (2, vI x2), (8, .c (.own 202 x8.length)), (9, vI x9)] [(202, .row 2 (x8.map c2))]) ⟨hK0, _, _, _, _, _, H, rfl⟩ ?_ ?_) ⟨rfl, rfl, rfl, (ownE rfl (by simp)), rfl, trivial⟩ ⟨rfl, trivial⟩ rfl
  ·rintro _ ⟨_, _, _, _, _, _, H, _⟩
   cases H
  ·clear H hK0
   rintro k ih0 _ ⟨hK0, x0, x1, x2, x8, x9, H, rfl⟩
   unfold spec_l12Shelves.l0 at H
   refine AG.seq ?_
   refine AG.seq ?_
   refine AG.region HM ?_
   refine a_move (v := vI _) ?_
   refine a_move (v := vR _ _) ?_
   refine a_lenR ?_ Try.underlying22
   refine a_int (u := .bool (decide (x9 < (x0.length : Int)))) ?_
   refine RA.nil nofun ?_
   by_cases hc2 : x9 < (x0.length : Int)
   ·rw [if_pos hc2] at H
    refine AG.yes rfl (decide_eq_true hc2) ?_
    refine AG.skip ?_
    refine AG.seq ?_
    refine AG.block ?_
    refine AG.seq ?_
    refine AG.region HM ?_
    refine a_move (v := .c (.own _ _)) ?_
    refine a_lenO ?_ Try.underlying36
    refine a_move (v := vI _) ?_
    refine RA.nil nofun ?_
    refine AG.seq ?_
    refine AG.block ?_
    refine AG.loop ?_
    obtain ⟨K1, hK1, gK1⟩ : ∃ K, k ≤ K ∧ K ≤ k := ⟨k, Nat.le_refl k, Nat.le_refl k⟩
    refine AGr.canon (fun κ => cond (Nat.beq κ 203) 202 (κ)) (AGr.loopI (n := k) (fun k s => k ≤ K1 ∧ ∃ (x0 : List (List Int)) (x1 : Int) (x2 : Int) (x8 : List Int) (x9 : Int) (x10 : Int), spec_l12Shelves.l1 k x0 x1 x2 x8 x9 x10 = some (r0, r1) ∧ s = St.of [(0, vR 36 (x0.map c36)), (1, vI x1), (2, vI x2), (8, .c (.own 203 x8.length)), (9, vI x9), (10, vI x10)] [(203, .row 2 (x8.map c2))]) ⟨hK1, _, _, _, _, _, _, H, rfl⟩ ?_ ?_) ⟨rfl, rfl, rfl, rfl, rfl, rfl, trivial⟩ ⟨rfl, trivial⟩ rfl
    ·rintro _ ⟨_, _, _, _, _, _, _, H, _⟩
     cases H
    ·clear H hK1
     rintro k ih1 _ ⟨hK1, x0, x1, x2, x8, x9, x10, H, rfl⟩
     unfold spec_l12Shelves.l1 at H
     refine AG.seq ?_
     refine AG.seq ?_
     refine AG.region HM ?_
     refine a_move (v := vI _) ?_
     refine a_int (u := .bool (decide (x10 > 0))) ?_
     refine a_move (v := vB _) ?_
     by_cases hc3 : x10 > 0
     ·rw [if_pos hc3] at H
      refine a_move (v := vR _ _) ?_ (hg := Gs.yes rfl rfl rfl (decide_eq_true hc3))
      refine a_move (v := .c (.own _ _)) ?_ (hg := Gs.yes rfl rfl rfl (decide_eq_true hc3))
      refine a_move (v := vI _) ?_ (hg := Gs.yes rfl rfl rfl (decide_eq_true hc3))
      refine a_int (u := .int .i64 (wrap64 (x10 - 1))) ?_ (hg := Gs.yes rfl rfl rfl (decide_eq_true hc3))
      by_cases hc4 : 0 ≤ (wrap64 (x10 - 1))
      ·rw [if_pos hc4] at H
       by_cases hc5 : (wrap64 (x10 - 1)) < (x8.length : Int)
       ·rw [if_pos hc5] at H
        refine a_ixO ?_ ⟨hc4, hc5⟩ T2 Try.underlying36 (hg := Gs.yes rfl rfl rfl (decide_eq_true hc3))
        refine a_ldE (v := vI _) ?_ (G2 hc4 hc5) T2 (hg := Gs.yes rfl rfl rfl (decide_eq_true hc3))
        by_cases hc6 : 0 ≤ (rd2 x8 (wrap64 (x10 - 1)))
        ·rw [if_pos hc6] at H
         by_cases hc7 : (rd2 x8 (wrap64 (x10 - 1))) < (x0.length : Int)
         ·rw [if_pos hc7] at H
          refine a_ixR (el := c36 (rd36 x0 (rd2 x8 (wrap64 (x10 - 1))))) ?_ ⟨hc6, hc7⟩ T36 Try.underlying22 (hel := R36 hc6 hc7) (hg := Gs.yes rfl rfl rfl (decide_eq_true hc3))
          refine a_ldR (v := vR _ _) ?_ T36 (hg := Gs.yes rfl rfl rfl (decide_eq_true hc3))
          by_cases hc8 : 1 < ((rd36 x0 (rd2 x8 (wrap64 (x10 - 1)))).length : Int)
          ·rw [if_pos hc8] at H
           refine a_ixR (el := c2 (rd2 (rd36 x0 (rd2 x8 (wrap64 (x10 - 1)))) 1)) ?_ ⟨(by decide), hc8⟩ T2 Try.underlying36 (hel := R2 (by decide) hc8) (hg := Gs.yes rfl rfl rfl (decide_eq_true hc3))
           refine a_ldR (v := vI _) ?_ T2 (hg := Gs.yes rfl rfl rfl (decide_eq_true hc3))
           refine a_move (v := vR _ _) ?_ (hg := Gs.yes rfl rfl rfl (decide_eq_true hc3))
           refine a_move (v := vI _) ?_ (hg := Gs.yes rfl rfl rfl (decide_eq_true hc3))
           by_cases hc9 : 0 ≤ x9
           ·rw [if_pos hc9] at H
            by_cases hc10 : x9 < (x0.length : Int)
            ·rw [if_pos hc10] at H
             refine a_ixR (el := c36 (rd36 x0 x9)) ?_ ⟨hc9, hc10⟩ T36 Try.underlying22 (hel := R36 hc9 hc10) (hg := Gs.yes rfl rfl rfl (decide_eq_true hc3))
             refine a_ldR (v := vR _ _) ?_ T36 (hg := Gs.yes rfl rfl rfl (decide_eq_true hc3))
             by_cases hc11 : 1 < ((rd36 x0 x9).length : Int)
             ·rw [if_pos hc11] at H
              refine a_ixR (el := c2 (rd2 (rd36 x0 x9) 1)) ?_ ⟨(by decide), hc11⟩ T2 Try.underlying36 (hel := R2 (by decide) hc11) (hg := Gs.yes rfl rfl rfl (decide_eq_true hc3))
              refine a_ldR (v := vI _) ?_ T2 (hg := Gs.yes rfl rfl rfl (decide_eq_true hc3))
              refine a_int (u := .bool (decide ((rd2 (rd36 x0 (rd2 x8 (wrap64 (x10 - 1)))) 1) < (rd2 (rd36 x0 x9) 1)))) ?_ (hg := Gs.yes rfl rfl rfl (decide_eq_true hc3))
              refine a_pick (b := true) (v := vB _) ?_ (decide_eq_true hc3)
              refine RA.nil (fun _ => by kernel_rfl) ?_
              by_cases hc12 : (rd2 (rd36 x0 (rd2 x8 (wrap64 (x10 - 1)))) 1) < (rd2 (rd36 x0 x9) 1)
              ·rw [if_pos hc12] at H
               refine AG.yes rfl (decide_eq_true hc12) ?_
               refine AG.skip ?_
               refine AG.block ?_
               refine AG.region HM ?_
               refine a_move (v := vI _) ?_
               refine a_int (u := .int .i64 (wrap64 (x10 - 1))) ?_
               refine a_move (v := vI _) ?_
               refine RA.nil nofun ?_
               exact AGr.canon id (ih1 _ (by omega) _ ⟨by omega, _, _, _, _, _, _, H, rfl⟩) ⟨rfl, rfl, rfl, rfl, rfl, rfl, trivial⟩ ⟨rfl, trivial⟩ rfl
              ·rw [if_neg hc12] at H
               refine AG.no rfl (decide_eq_false hc12) ?_
               refine AG.exit ?_
               refine AG.seq ?_
               refine AG.region HM ?_
               refine a_move (v := .c (.own _ _)) ?_
               refine a_move (v := vI _) ?_
               by_cases hc13 : 0 ≤ x10
               ·rw [if_pos hc13] at H
                by_cases hc14 : x10 ≤ (x8.length : Int)
                ·rw [if_pos hc14] at H
                 refine a_slO (l := none) (h := some x10) ?_ Try.underlying36 T2 ⟨(Int.le_refl 0), hc13, hc14⟩
                 obtain ⟨t15, e16, H⟩ := bindO H
                 refine a_call (v := .c (.own 204 t15.length)) (nk := [(204, .row 2 (t15.map c2))]) (L := [(203, _)]) ?_ rfl (spec_l00Own.ok e16) (fun κ => cond (Nat.beq κ 204) 100 (κ)) (qc (rC (map_drop_take _ _ _ _)) qn) ⟨rfl, trivial⟩ ⟨rfl, trivial⟩ ⟨rfl, trivial⟩ rfl
                 refine a_move (v := .c (.own _ _)) ?_
                 refine RA.nil nofun ?_
                 refine AG.seq ?_
                 refine AG.region HM ?_
                 refine a_move (v := .c (.own _ _)) ?_
                 refine a_move (v := vI _) ?_
                 refine a_lit (cs := [_]) (D := []) (css := ([x9]).map c2) 205 ?_ N36 T2
                 by_cases hc17 : t15.length < 17592186044416
                 ·rw [if_pos hc17] at H
                  obtain ⟨y18, ey18, H⟩ := bindO H
                  have ey18 := Option.some.inj ey18
                  refine a_appO (css' := y18.map c2) (n' := y18.length) ?_ T2 (by rw [← ey18]; simp [maxLen]; omega) (by rw [← ey18]; simp; omega) Try.underlying36 (hc := by rw [← ey18]; exact List.map_append.symm) (hn := by exact List.length_map _)
                  refine a_move (v := .c (.own _ _)) ?_
                  refine RA.nil nofun ?_
                  refine AG.region HM ?_
                  refine a_move (v := .c (.own _ _)) ?_
                  refine a_move (v := .c (.own _ _)) ?_
                  refine a_move (v := vI _) ?_
                  refine a_slO (l := some x10) (h := none) ?_ Try.underlying36 T2 ⟨hc13, hc14, (Int.le_refl _)⟩
                  by_cases hc19 : y18.length + (x8.length - (x10 : Int).toNat) < 17592186044416
                  ·rw [if_pos hc19] at H
                   refine a_appC (css2 := x8.map c2) (css' := (y18 ++ (x8.drop ((x10 : Int).toNat)).take (x8.length - (x10 : Int).toNat)).map c2) (n' := (y18 ++ (x8.drop ((x10 : Int).toNat)).take (x8.length - (x10 : Int).toNat)).length) ?_ (by simp [c2, isV, Value.oneCell']) T2 (by simp [maxLen]; omega) (by simp; omega) (by rw [List.map_append, List.map_take, List.map_drop]) (by exact List.length_map _) Try.underlying36
                   refine a_move (v := .c (.own _ _)) ?_
                   refine RA.nil nofun ?_
                   refine AG.region HM ?_
                   refine a_move (v := vI _) ?_
                   refine a_int (u := .int .i64 (wrap64 (x9 + 1))) ?_
                   refine a_move (v := vI _) ?_
                   refine RA.nil nofun ?_
                   exact AGr.canon (fun κ => cond (Nat.beq κ 202) 204 (κ)) (ih0 _ (by omega) _ ⟨by omega, _, _, _, _, _, H, rfl⟩) ⟨rfl, rfl, rfl, rfl, rfl, trivial⟩ ⟨rfl, trivial⟩ rfl
                  ·rw [if_neg hc19] at H
                   cases H
                 ·rw [if_neg hc17] at H
                  cases H
                ·rw [if_neg hc14] at H
                 cases H
               ·rw [if_neg hc13] at H
                cases H
             ·rw [if_neg hc11] at H
              cases H
            ·rw [if_neg hc10] at H
             cases H
           ·rw [if_neg hc9] at H
            cases H
          ·rw [if_neg hc8] at H
           cases H
         ·rw [if_neg hc7] at H
          cases H
        ·rw [if_neg hc6] at H
         cases H
       ·rw [if_neg hc5] at H
        cases H
      ·rw [if_neg hc4] at H
       cases H
     ·rw [if_neg hc3] at H
      refine RA.skip rfl rfl rfl rfl rfl (decide_eq_false hc3) (by decide) ?_
      refine RA.skip rfl rfl rfl rfl rfl (decide_eq_false hc3) (by decide) ?_
      refine RA.skip rfl rfl rfl rfl rfl (decide_eq_false hc3) (by decide) ?_
      refine RA.skip rfl rfl rfl rfl rfl (decide_eq_false hc3) (by decide) ?_
      refine RA.skip rfl rfl rfl rfl rfl (decide_eq_false hc3) (by decide) ?_
      refine RA.skip rfl rfl rfl rfl rfl (decide_eq_false hc3) (by decide) ?_
      refine RA.skip rfl rfl rfl rfl rfl (decide_eq_false hc3) (by decide) ?_
      refine RA.skip rfl rfl rfl rfl rfl (decide_eq_false hc3) (by decide) ?_
      refine RA.skip rfl rfl rfl rfl rfl (decide_eq_false hc3) (by decide) ?_
      refine RA.skip rfl rfl rfl rfl rfl (decide_eq_false hc3) (by decide) ?_
      refine RA.skip rfl rfl rfl rfl rfl (decide_eq_false hc3) (by decide) ?_
      refine RA.skip rfl rfl rfl rfl rfl (decide_eq_false hc3) (by decide) ?_
      refine RA.skip rfl rfl rfl rfl rfl (decide_eq_false hc3) (by decide) ?_
      refine RA.skip rfl rfl rfl rfl rfl (decide_eq_false hc3) (by decide) ?_
      refine RA.skip rfl rfl rfl rfl rfl (decide_eq_false hc3) (by decide) ?_
      refine RA.skip rfl rfl rfl rfl rfl (decide_eq_false hc3) (by decide) ?_
      refine RA.skip rfl rfl rfl rfl rfl (decide_eq_false hc3) (by decide) ?_
      refine a_pick (b := false) (v := vB _) ?_ (decide_eq_false hc3)
      refine RA.nil (fun _ => by kernel_rfl) ?_
      refine AG.no rfl rfl ?_
      refine AG.exit ?_
      refine AG.seq ?_
      refine AG.region HM ?_
      refine a_move (v := .c (.own _ _)) ?_
      refine a_move (v := vI _) ?_
      by_cases hc21 : 0 ≤ x10
      ·rw [if_pos hc21] at H
       by_cases hc22 : x10 ≤ (x8.length : Int)
       ·rw [if_pos hc22] at H
        refine a_slO (l := none) (h := some x10) ?_ Try.underlying36 T2 ⟨(Int.le_refl 0), hc21, hc22⟩
        obtain ⟨t23, e24, H⟩ := bindO H
        refine a_call (v := .c (.own 204 t23.length)) (nk := [(204, .row 2 (t23.map c2))]) (L := [(203, _)]) ?_ rfl (spec_l00Own.ok e24) (fun κ => cond (Nat.beq κ 204) 100 (κ)) (qc (rC (map_drop_take _ _ _ _)) qn) ⟨rfl, trivial⟩ ⟨rfl, trivial⟩ ⟨rfl, trivial⟩ rfl
        refine a_move (v := .c (.own _ _)) ?_
        refine RA.nil nofun ?_
        refine AG.seq ?_
        refine AG.region HM ?_
        refine a_move (v := .c (.own _ _)) ?_
        refine a_move (v := vI _) ?_
        refine a_lit (cs := [_]) (D := []) (css := ([x9]).map c2) 205 ?_ N36 T2
        by_cases hc25 : t23.length < 17592186044416
        ·rw [if_pos hc25] at H
         obtain ⟨y26, ey26, H⟩ := bindO H
         have ey26 := Option.some.inj ey26
         refine a_appO (css' := y26.map c2) (n' := y26.length) ?_ T2 (by rw [← ey26]; simp [maxLen]; omega) (by rw [← ey26]; simp; omega) Try.underlying36 (hc := by rw [← ey26]; exact List.map_append.symm) (hn := by exact List.length_map _)
         refine a_move (v := .c (.own _ _)) ?_
         refine RA.nil nofun ?_
         refine AG.region HM ?_
         refine a_move (v := .c (.own _ _)) ?_
         refine a_move (v := .c (.own _ _)) ?_
         refine a_move (v := vI _) ?_
         refine a_slO (l := some x10) (h := none) ?_ Try.underlying36 T2 ⟨hc21, hc22, (Int.le_refl _)⟩
         by_cases hc27 : y26.length + (x8.length - (x10 : Int).toNat) < 17592186044416
         ·rw [if_pos hc27] at H
          refine a_appC (css2 := x8.map c2) (css' := (y26 ++ (x8.drop ((x10 : Int).toNat)).take (x8.length - (x10 : Int).toNat)).map c2) (n' := (y26 ++ (x8.drop ((x10 : Int).toNat)).take (x8.length - (x10 : Int).toNat)).length) ?_ (by simp [c2, isV, Value.oneCell']) T2 (by simp [maxLen]; omega) (by simp; omega) (by rw [List.map_append, List.map_take, List.map_drop]) (by exact List.length_map _) Try.underlying36
          refine a_move (v := .c (.own _ _)) ?_
          refine RA.nil nofun ?_
          refine AG.region HM ?_
          refine a_move (v := vI _) ?_
          refine a_int (u := .int .i64 (wrap64 (x9 + 1))) ?_
          refine a_move (v := vI _) ?_
          refine RA.nil nofun ?_
          exact AGr.canon (fun κ => cond (Nat.beq κ 202) 204 (κ)) (ih0 _ (by omega) _ ⟨by omega, _, _, _, _, _, H, rfl⟩) ⟨rfl, rfl, rfl, rfl, rfl, trivial⟩ ⟨rfl, trivial⟩ rfl
         ·rw [if_neg hc27] at H
          cases H
        ·rw [if_neg hc25] at H
         cases H
       ·rw [if_neg hc22] at H
        cases H
      ·rw [if_neg hc21] at H
       cases H
   ·rw [if_neg hc2] at H
    refine AG.no rfl (decide_eq_false hc2) ?_
    refine AG.exit ?_
    exact CanR.mk (fun κ => cond (Nat.beq κ 206) 202 (κ)) ⟨_, (by omega), _, _, _, _, H, rfl⟩ ⟨rfl, rfl, rfl, rfl, trivial⟩ ⟨rfl, trivial⟩ rfl
 ·clear H
  rintro _ ⟨k, hj0, x0, x1, x2, x8, H, rfl⟩
  cases k with
  | zero => cases H
  | succ k =>
   rw [spec_l12Shelves.j0] at H
   refine AG.seq ?_
   refine AG.region HM ?_
   refine a_move (v := vR _ _) ?_
   refine a_lenR ?_ Try.underlying22
   by_cases hc29 : 0 ≤ (x0.length : Int)
   ·rw [if_pos hc29] at H
    by_cases hc30 : ((x0.length : Int) : Int).toNat ≤ 11728124029610
    ·rw [if_pos hc30] at H
     refine a_make (n := (x0.length : Int)) (css := (List.replicate (((x0.length : Int) : Int).toNat) []).map c36) 207 ?_ N22 T36 (zR T2 zN) hc29 (by omega) (by omega) (hcss := by exact rep_map rfl)
     refine a_move (v := .c (.own _ _)) ?_
     refine RA.nil nofun ?_
     refine AG.seq ?_
     refine AG.region HM ?_
     refine a_move (v := vI _) ?_
     refine RA.nil nofun ?_
     refine AG.seq ?_
     refine AG.region HM ?_
     refine a_move (v := vI _) ?_
     refine RA.nil nofun ?_
     refine AG.seq ?_
     refine AG.region HM ?_
     refine a_move (v := vI _) ?_
     refine RA.nil nofun ?_
     refine AG.seq ?_
     refine AG.region HM ?_
     refine a_move (v := vI _) ?_
     refine a_move (v := vI _) ?_
     refine RA.nil nofun ?_
     refine AG.seq ?_
     refine AG.seq ?_
     refine AG.region HM ?_
     refine a_move (v := vI _) ?_
     refine RA.nil nofun ?_
     refine AG.block ?_
     refine AG.loop ?_
     obtain ⟨K2, hK2, gK2⟩ : ∃ K, k ≤ K ∧ K ≤ k := ⟨k, Nat.le_refl k, Nat.le_refl k⟩
     refine AGr.canon (fun κ => cond (Nat.beq κ 208) 206 (cond (Nat.beq κ 209) 207 (κ))) (AGr.loopI (n := k) (fun k s => k ≤ K2 ∧ ∃ (x0 : List (List Int)) (x1 : Int) (x2 : Int) (x8 : List Int) (x12 : List (List Int)) (x13 : Int) (x14 : Int) (x15 : Int) (x16 : Int) (x17 : Int), spec_l12Shelves.l2 k x0 x1 x2 x8 x12 x13 x14 x15 x16 x17 = some (r0, r1) ∧ s = St.of [(0, vR 36 (x0.map c36)), (1, vI x1), (2, vI x2), (8, .c (.own 208 x8.length)), (12, .c (.own 209 x12.length)), (13, vI x13), (14, vI x14), (15, vI x15), (16, vI x16), (17, vI x17)] [(208, .row 2 (x8.map c2)), (209, .row 36 (x12.map c36))]) ⟨hK2, _, _, _, _, _, _, _, _, _, _, H, rfl⟩ ?_ ?_) ⟨rfl, rfl, rfl, rfl, (ownE rfl (by simp)), rfl, rfl, rfl, rfl, rfl, trivial⟩ ⟨rfl, rfl, trivial⟩ rfl
     ·rintro _ ⟨_, _, _, _, _, _, _, _, _, _, _, H, _⟩
      cases H
     ·clear H hK2
      rintro k ih2 _ ⟨hK2, x0, x1, x2, x8, x12, x13, x14, x15, x16, x17, H, rfl⟩
      unfold spec_l12Shelves.l2 at H
      refine AG.seq ?_
      refine AG.seq ?_
      refine AG.region HM ?_
      refine a_move (v := vI _) ?_
      refine a_move (v := .c (.own _ _)) ?_
      refine a_lenO ?_ Try.underlying36
      refine a_int (u := .bool (decide (x17 < (x8.length : Int)))) ?_
      refine RA.nil nofun ?_
      by_cases hc32 : x17 < (x8.length : Int)
      ·rw [if_pos hc32] at H
       refine AG.yes rfl (decide_eq_true hc32) ?_
       refine AG.skip ?_
       refine AG.seq ?_
       refine AG.block ?_
       refine AG.seq ?_
       refine AG.region HM ?_
       refine a_move (v := vR _ _) ?_
       refine a_move (v := .c (.own _ _)) ?_
       refine a_move (v := vI _) ?_
       by_cases hc33 : 0 ≤ x17
       ·rw [if_pos hc33] at H
        refine a_ixO ?_ ⟨hc33, hc32⟩ T2 Try.underlying36
        refine a_ldE (v := vI _) ?_ (G2 hc33 hc32) T2
        by_cases hc34 : 0 ≤ (rd2 x8 x17)
        ·rw [if_pos hc34] at H
         by_cases hc35 : (rd2 x8 x17) < (x0.length : Int)
         ·rw [if_pos hc35] at H
          refine a_ixR (el := c36 (rd36 x0 (rd2 x8 x17))) ?_ ⟨hc34, hc35⟩ T36 Try.underlying22 (hel := R36 hc34 hc35)
          refine a_ldR (v := vR _ _) ?_ T36
          refine a_move (v := vR _ _) ?_
          refine RA.nil nofun ?_
          refine AG.seq ?_
          refine AG.seq ?_
          refine AG.joinR (fun s => ∃ q, q ≤ k ∧ ∃ (x0 : List (List Int)) (x1 : Int) (x2 : Int) (x8 : List Int) (x12 : List (List Int)) (x13 : Int) (x14 : Int) (x15 : Int) (x16 : Int) (x17 : Int) (x18 : List Int) (x91 : Bool), spec_l12Shelves.j1 q x0 x1 x2 x8 x12 x13 x14 x15 x16 x17 x18 x91 = some (r0, r1) ∧ s = St.of [(0, vR 36 (x0.map c36)), (1, vI x1), (2, vI x2), (8, .c (.own 210 x8.length)), (12, .c (.own 211 x12.length)), (13, vI x13), (14, vI x14), (15, vI x15), (16, vI x16), (17, vI x17), (18, vR 2 (x18.map c2)), (91, vB x91)] [(210, .row 2 (x8.map c2)), (211, .row 36 (x12.map c36))]) ?_ ?_
          ·skip
           refine AG.region HM ?_
           refine a_move (v := vI _) ?_
           refine a_int (u := .bool (decide (x13 < 0))) ?_
           refine a_move (v := vB _) ?_
           by_cases hc36 : x13 < 0
           ·rw [if_pos hc36] at H
            refine RA.skip rfl rfl rfl rfl rfl (decide_eq_true hc36) (by decide) ?_
            refine RA.skip rfl rfl rfl rfl rfl (decide_eq_true hc36) (by decide) ?_
            refine RA.skip rfl rfl rfl rfl rfl (decide_eq_true hc36) (by decide) ?_
            refine RA.skip rfl rfl rfl rfl rfl (decide_eq_true hc36) (by decide) ?_
            refine RA.skip rfl rfl rfl rfl rfl (decide_eq_true hc36) (by decide) ?_
            refine RA.skip rfl rfl rfl rfl rfl (decide_eq_true hc36) (by decide) ?_
            refine RA.skip rfl rfl rfl rfl rfl (decide_eq_true hc36) (by decide) ?_
            refine a_pick (b := true) (v := vB _) ?_ (decide_eq_true hc36)
            refine RA.nil nofun ?_
            exact CanR.mk (fun κ => cond (Nat.beq κ 210) 208 (cond (Nat.beq κ 211) 209 (κ))) ⟨_, (by omega), _, _, _, _, _, _, _, _, _, _, _, _, H, rfl⟩ ⟨rfl, rfl, rfl, rfl, rfl, rfl, rfl, rfl, rfl, rfl, rfl, rfl, trivial⟩ ⟨rfl, rfl, trivial⟩ rfl
           ·rw [if_neg hc36] at H
            refine a_move (v := vI _) ?_ (hg := Gs.yes rfl rfl rfl (decide_eq_false hc36))
            refine a_move (v := vR _ _) ?_ (hg := Gs.yes rfl rfl rfl (decide_eq_false hc36))
            by_cases hc37 : 0 < ((rd36 x0 (rd2 x8 x17)).length : Int)
            ·rw [if_pos hc37] at H
             refine a_ixR (el := c2 (rd2 (rd36 x0 (rd2 x8 x17)) 0)) ?_ ⟨(by decide), hc37⟩ T2 Try.underlying36 (hel := R2 (by decide) hc37) (hg := Gs.yes rfl rfl rfl (decide_eq_false hc36))
             refine a_ldR (v := vI _) ?_ T2 (hg := Gs.yes rfl rfl rfl (decide_eq_false hc36))
             refine a_int (u := .int .i64 (wrap64 (x14 + (rd2 (rd36 x0 (rd2 x8 x17)) 0)))) ?_ (hg := Gs.yes rfl rfl rfl (decide_eq_false hc36))
             refine a_move (v := vI _) ?_ (hg := Gs.yes rfl rfl rfl (decide_eq_false hc36))
             refine a_int (u := .bool (decide ((wrap64 (x14 + (rd2 (rd36 x0 (rd2 x8 x17)) 0))) > x1))) ?_ (hg := Gs.yes rfl rfl rfl (decide_eq_false hc36))
             refine a_pick (b := false) (v := vB _) ?_ (decide_eq_false hc36)
             refine RA.nil nofun ?_
             exact CanR.mk (fun κ => cond (Nat.beq κ 210) 208 (cond (Nat.beq κ 211) 209 (κ))) ⟨_, (by omega), _, _, _, _, _, _, _, _, _, _, _, _, H, rfl⟩ ⟨rfl, rfl, rfl, rfl, rfl, rfl, rfl, rfl, rfl, rfl, rfl, rfl, trivial⟩ ⟨rfl, rfl, trivial⟩ rfl
            ·rw [if_neg hc37] at H
             cases H
          ·clear H
           rintro _ ⟨k, hj1, x0, x1, x2, x8, x12, x13, x14, x15, x16, x17, x18, x91, H, rfl⟩
           cases k with
           | zero => cases H
           | succ k =>
            rw [spec_l12Shelves.j1] at H
            by_cases hc38 : x91 = true
            ·rw [if_pos hc38] at H
             refine AG.yes rfl hc38 ?_
             refine AG.seq ?_
             refine AG.region HM ?_
             refine a_move (v := vI _) ?_
             refine RA.nil nofun ?_
             refine AG.seq ?_
             refine AG.region HM ?_
             refine a_move (v := vI _) ?_
             refine a_move (v := vI _) ?_
             refine RA.nil nofun ?_
             refine AG.seq ?_
             refine AG.seq ?_
             refine AG.region HM ?_
             refine a_move (v := vI _) ?_
             refine a_move (v := vR _ _) ?_
             by_cases hc39 : 1 < (x18.length : Int)
             ·rw [if_pos hc39] at H
              refine a_ixR (el := c2 (rd2 x18 1)) ?_ ⟨(by decide), hc39⟩ T2 Try.underlying36 (hel := R2 (by decide) hc39)
              refine a_ldR (v := vI _) ?_ T2
              refine a_int (u := .int .i64 (wrap64 (x16 + (rd2 x18 1)))) ?_
              refine a_move (v := vI _) ?_
              refine a_int (u := .bool (decide ((wrap64 (x16 + (rd2 x18 1))) > x2))) ?_
              refine RA.nil nofun ?_
              by_cases hc40 : (wrap64 (x16 + (rd2 x18 1))) > x2
              ·rw [if_pos hc40] at H
               refine AG.yes rfl (decide_eq_true hc40) ?_
               refine AG.seq ?_
               refine AG.region HM ?_
               refine a_move (v := vI _) ?_
               refine a_int (u := .int .i64 (wrap64 (x13 + 1))) ?_
               refine a_move (v := vI _) ?_
               refine RA.nil nofun ?_
               refine AG.region HM ?_
               refine a_move (v := vI _) ?_
               refine RA.nil nofun ?_
               refine AG.region HM ?_
               refine a_move (v := vI _) ?_
               refine a_move (v := vR _ _) ?_
               refine a_ixR (el := c2 (rd2 x18 1)) ?_ ⟨(by decide), hc39⟩ T2 Try.underlying36 (hel := R2 (by decide) hc39)
               refine a_ldR (v := vI _) ?_ T2
               refine a_int (u := .int .i64 (wrap64 (0 + (rd2 x18 1)))) ?_
               refine a_move (v := vI _) ?_
               refine RA.nil nofun ?_
               refine AG.seq ?_
               refine AG.region HM ?_
               refine a_move (v := .c (.own _ _)) ?_
               refine a_move (v := .c (.own _ _)) ?_
               refine a_move (v := vI _) ?_
               by_cases hc41 : 0 ≤ x17
               ·rw [if_pos hc41] at H
                by_cases hc42 : x17 < (x8.length : Int)
                ·rw [if_pos hc42] at H
                 refine a_ixO ?_ ⟨hc41, hc42⟩ T2 Try.underlying36
                 refine a_ldE (v := vI _) ?_ (G2 hc41 hc42) T2
                 refine a_move (v := vI _) ?_
                 refine a_move (v := vI _) ?_
                 refine a_move (v := vI _) ?_
                 refine a_lit (cs := [_, _, _]) (D := []) (css := ([wrap64 (x13 + 1), 0, 0]).map c2) 212 ?_ N36 T2 (hcss := by rfl)
                 by_cases hc44 : 0 ≤ (rd2 x8 x17)
                 ·rw [if_pos hc44] at H
                  by_cases hc45 : (rd2 x8 x17) < (x12.length : Int)
                  ·rw [if_pos hc45] at H
                   refine a_ixO ?_ ⟨hc44, hc45⟩ T36 Try.underlying22
                   refine a_stE (D := [212]) (css' := (x12.set ((rd2 x8 x17) : Int).toNat ([wrap64 (x13 + 1), 0, 0])).map c36) ?_ (G36 hc44 hc45) T36 (hcss := by exact set_map rfl)
                   refine RA.nil nofun ?_
                   refine AG.region HM ?_
                   refine a_move (v := vI _) ?_
                   refine a_move (v := vR _ _) ?_
                   by_cases hc47 : 0 < (x18.length : Int)
                   ·rw [if_pos hc47] at H
                    refine a_ixR (el := c2 (rd2 x18 0)) ?_ ⟨(by decide), hc47⟩ T2 Try.underlying36 (hel := R2 (by decide) hc47)
                    refine a_ldR (v := vI _) ?_ T2
                    refine a_int (u := .int .i64 (wrap64 (0 + (rd2 x18 0)))) ?_
                    refine a_move (v := vI _) ?_
                    refine RA.nil nofun ?_
                    refine AG.region HM ?_
                    refine a_move (v := vI _) ?_
                    refine a_int (u := .int .i64 (wrap64 (x17 + 1))) ?_
                    refine a_move (v := vI _) ?_
                    refine RA.nil nofun ?_
                    exact AGr.canon (fun κ => cond (Nat.beq κ 208) 210 (cond (Nat.beq κ 209) 211 (κ))) (ih2 _ (by omega) _ ⟨by omega, _, _, _, _, _, _, _, _, _, _, H, rfl⟩) ⟨rfl, rfl, rfl, rfl, (ownE rfl (by simp)), rfl, rfl, rfl, rfl, rfl, trivial⟩ ⟨rfl, rfl, trivial⟩ rfl
                   ·rw [if_neg hc47] at H
                    cases H
                  ·rw [if_neg hc45] at H
                   cases H
                 ·rw [if_neg hc44] at H
                  cases H
                ·rw [if_neg hc42] at H
                 cases H
               ·rw [if_neg hc41] at H
                cases H
              ·rw [if_neg hc40] at H
               refine AG.no rfl (decide_eq_false hc40) ?_
               refine AG.skip ?_
               refine AG.region HM ?_
               refine a_move (v := vI _) ?_
               refine a_move (v := vR _ _) ?_
               refine a_ixR (el := c2 (rd2 x18 1)) ?_ ⟨(by decide), hc39⟩ T2 Try.underlying36 (hel := R2 (by decide) hc39)
               refine a_ldR (v := vI _) ?_ T2
               refine a_int (u := .int .i64 (wrap64 (x16 + (rd2 x18 1)))) ?_
               refine a_move (v := vI _) ?_
               refine RA.nil nofun ?_
               refine AG.seq ?_
               refine AG.region HM ?_
               refine a_move (v := .c (.own _ _)) ?_
               refine a_move (v := .c (.own _ _)) ?_
               refine a_move (v := vI _) ?_
               by_cases hc48 : 0 ≤ x17
               ·rw [if_pos hc48] at H
                by_cases hc49 : x17 < (x8.length : Int)
                ·rw [if_pos hc49] at H
                 refine a_ixO ?_ ⟨hc48, hc49⟩ T2 Try.underlying36
                 refine a_ldE (v := vI _) ?_ (G2 hc48 hc49) T2
                 refine a_move (v := vI _) ?_
                 refine a_move (v := vI _) ?_
                 refine a_move (v := vI _) ?_
                 refine a_lit (cs := [_, _, _]) (D := []) (css := ([x13, 0, x16]).map c2) 212 ?_ N36 T2 (hcss := by rfl)
                 by_cases hc51 : 0 ≤ (rd2 x8 x17)
                 ·rw [if_pos hc51] at H
                  by_cases hc52 : (rd2 x8 x17) < (x12.length : Int)
                  ·rw [if_pos hc52] at H
                   refine a_ixO ?_ ⟨hc51, hc52⟩ T36 Try.underlying22
                   refine a_stE (D := [212]) (css' := (x12.set ((rd2 x8 x17) : Int).toNat ([x13, 0, x16])).map c36) ?_ (G36 hc51 hc52) T36 (hcss := by exact set_map rfl)
                   refine RA.nil nofun ?_
                   refine AG.region HM ?_
                   refine a_move (v := vI _) ?_
                   refine a_move (v := vR _ _) ?_
                   by_cases hc54 : 0 < (x18.length : Int)
                   ·rw [if_pos hc54] at H
                    refine a_ixR (el := c2 (rd2 x18 0)) ?_ ⟨(by decide), hc54⟩ T2 Try.underlying36 (hel := R2 (by decide) hc54)
                    refine a_ldR (v := vI _) ?_ T2
                    refine a_int (u := .int .i64 (wrap64 (0 + (rd2 x18 0)))) ?_
                    refine a_move (v := vI _) ?_
                    refine RA.nil nofun ?_
                    refine AG.region HM ?_
                    refine a_move (v := vI _) ?_
                    refine a_int (u := .int .i64 (wrap64 (x17 + 1))) ?_
                    refine a_move (v := vI _) ?_
                    refine RA.nil nofun ?_
                    exact AGr.canon (fun κ => cond (Nat.beq κ 208) 210 (cond (Nat.beq κ 209) 211 (κ))) (ih2 _ (by omega) _ ⟨by omega, _, _, _, _, _, _, _, _, _, _, H, rfl⟩) ⟨rfl, rfl, rfl, rfl, (ownE rfl (by simp)), rfl, rfl, rfl, rfl, rfl, trivial⟩ ⟨rfl, rfl, trivial⟩ rfl
                   ·rw [if_neg hc54] at H
                    cases H
                  ·rw [if_neg hc52] at H
                   cases H
                 ·rw [if_neg hc51] at H
                  cases H
                ·rw [if_neg hc49] at H
                 cases H
               ·rw [if_neg hc48] at H
                cases H
             ·rw [if_neg hc39] at H
              cases H
            ·rw [if_neg hc38] at H
             refine AG.no rfl (Bool.eq_false_iff.2 hc38) ?_
             refine AG.skip ?_
             refine AG.seq ?_
             refine AG.region HM ?_
             refine a_move (v := .c (.own _ _)) ?_
             refine a_move (v := .c (.own _ _)) ?_
             refine a_move (v := vI _) ?_
             by_cases hc55 : 0 ≤ x17
             ·rw [if_pos hc55] at H
              by_cases hc56 : x17 < (x8.length : Int)
              ·rw [if_pos hc56] at H
               refine a_ixO ?_ ⟨hc55, hc56⟩ T2 Try.underlying36
               refine a_ldE (v := vI _) ?_ (G2 hc55 hc56) T2
               refine a_move (v := vI _) ?_
               refine a_move (v := vI _) ?_
               refine a_move (v := vI _) ?_
               refine a_lit (cs := [_, _, _]) (D := []) (css := ([x13, x14, x15]).map c2) 212 ?_ N36 T2 (hcss := by rfl)
               by_cases hc58 : 0 ≤ (rd2 x8 x17)
               ·rw [if_pos hc58] at H
                by_cases hc59 : (rd2 x8 x17) < (x12.length : Int)
                ·rw [if_pos hc59] at H
                 refine a_ixO ?_ ⟨hc58, hc59⟩ T36 Try.underlying22
                 refine a_stE (D := [212]) (css' := (x12.set ((rd2 x8 x17) : Int).toNat ([x13, x14, x15])).map c36) ?_ (G36 hc58 hc59) T36 (hcss := by exact set_map rfl)
                 refine RA.nil nofun ?_
                 refine AG.region HM ?_
                 refine a_move (v := vI _) ?_
                 refine a_move (v := vR _ _) ?_
                 by_cases hc61 : 0 < (x18.length : Int)
                 ·rw [if_pos hc61] at H
                  refine a_ixR (el := c2 (rd2 x18 0)) ?_ ⟨(by decide), hc61⟩ T2 Try.underlying36 (hel := R2 (by decide) hc61)
                  refine a_ldR (v := vI _) ?_ T2
                  refine a_int (u := .int .i64 (wrap64 (x14 + (rd2 x18 0)))) ?_
                  refine a_move (v := vI _) ?_
                  refine RA.nil nofun ?_
                  refine AG.region HM ?_
                  refine a_move (v := vI _) ?_
                  refine a_int (u := .int .i64 (wrap64 (x17 + 1))) ?_
                  refine a_move (v := vI _) ?_
                  refine RA.nil nofun ?_
                  exact AGr.canon (fun κ => cond (Nat.beq κ 208) 210 (cond (Nat.beq κ 209) 211 (κ))) (ih2 _ (by omega) _ ⟨by omega, _, _, _, _, _, _, _, _, _, _, H, rfl⟩) ⟨rfl, rfl, rfl, rfl, (ownE rfl (by simp)), rfl, rfl, rfl, rfl, rfl, trivial⟩ ⟨rfl, rfl, trivial⟩ rfl
                 ·rw [if_neg hc61] at H
                  cases H
                ·rw [if_neg hc59] at H
                 cases H
               ·rw [if_neg hc58] at H
                cases H
              ·rw [if_neg hc56] at H
               cases H
             ·rw [if_neg hc55] at H
              cases H
         ·rw [if_neg hc35] at H
          cases H
        ·rw [if_neg hc34] at H
         cases H
       ·rw [if_neg hc33] at H
        cases H
      ·rw [if_neg hc32] at H
       refine AG.no rfl (decide_eq_false hc32) ?_
       refine AG.exit ?_
       refine AG.seq ?_
       refine AG.region HM ?_
       refine a_move (v := .c (.own _ _)) ?_
       refine a_move (v := vI _) ?_
       refine a_int (u := .int .i64 (wrap64 (x13 + 1))) ?_
       refine a_move (v := .c (.own _ _)) ?_
       refine a_move (v := vI _) ?_
       refine RA.nil nofun ?_
       refine AG.ret ?_
       simp only [Option.some.injEq, Prod.mk.injEq] at H
       obtain ⟨rfl, rfl⟩ := H
       exact RetP.mk (fun κ => cond (Nat.beq κ 100) 209 (κ)) ⟨rfl, rfl, trivial⟩ ⟨rfl, trivial⟩ rfl
    ·rw [if_neg hc30] at H
     cases H
   ·rw [if_neg hc29] at H
    cases H
/-! ### spec_ShelfLeaves: function 13 -/
def spec_ShelfLeaves.f (k : Nat) (l0 : List (List Int)) (a1 : Int) (a2 : Int) : Option (Int × Int) := (spec_l12Ask.f k l0 a1 a2).bind fun t1 => (if t1 = 0 then ((spec_l12Shelves.f k l0 a1 a2).bind fun bt4 => (some (bt4.2, 0))) else (some (0, t1)))
set_option maxRecDepth 100000 in
theorem spec_ShelfLeaves.ok {k : Nat} {l0 : List (List Int)} {a1 : Int} {a2 : Int} {r0 : Int} {r1 : Int} (H : spec_ShelfLeaves.f k l0 a1 a2 = some (r0, r1)) : OkF Try.prog 13 [vR 36 (l0.map c36), vI a1, vI a2] [] (.tup [.c (.d (.v (.int .i64 r0))), .c (.d (.v (.int .i64 r1)))]) [] := by
 unfold spec_ShelfLeaves.f at H
 refine OkF.of (N := 26) (rs := [6, 7]) (avs := [.c (.d (.v (.int .i64 r0))), .c (.d (.v (.int .i64 r1)))]) Try.func13 rfl rfl (fun _ _ => results_tmp2 rfl _ _ _) (by decide) rfl rfl rfl rfl (fun w0 S => ?_)
 refine AG.seq ?_
 refine AG.region HM ?_
 refine a_move (v := vI _) ?_
 refine a_move (v := vI _) ?_
 refine RA.nil nofun ?_
 refine AG.seq ?_
 refine AG.region HM ?_
 refine a_move (v := vR _ _) ?_
 refine a_move (v := vI _) ?_
 refine a_move (v := vI _) ?_
 obtain ⟨t1, e2, H⟩ := bindO H
 refine a_call (v := vI t1) (nk := []) (L := []) ?_ rfl (spec_l12Ask.ok e2) id (qd (qd (qd qn))) trivial trivial trivial rfl
 refine a_move (v := vI _) ?_
 refine RA.nil nofun ?_
 refine AG.seq ?_
 refine AG.seq ?_
 refine AG.region HM ?_
 refine a_move (v := vI _) ?_
 refine a_int (u := .bool ((t1 != 0))) ?_
 refine RA.nil nofun ?_
 by_cases hc3 : t1 = 0
 ·rw [if_pos hc3] at H
  refine AG.no rfl (bne_eq_false_iff_eq.2 hc3) ?_
  refine AG.skip ?_
  refine AG.seq ?_
  refine AG.region HM ?_
  refine a_move (v := vR _ _) ?_
  refine a_move (v := vI _) ?_
  refine a_move (v := vI _) ?_
  obtain ⟨⟨t4, t5⟩, e6, H⟩ := bindO H
  refine a_call (v := .tup [.c (.own 201 t4.length), .c (.d (.v (.int .i64 t5)))]) (nk := [(201, .row 36 (t4.map c36))]) (L := []) ?_ rfl (spec_l12Shelves.ok e6) (fun κ => cond (Nat.beq κ 201) 100 (κ)) (qd (qd (qd qn))) trivial ⟨rfl, trivial⟩ ⟨rfl, trivial⟩ rfl
  refine a_move (v := .tup [_, _]) ?_
  refine a_ext (v := .c (.own _ _)) ?_
  refine a_ext (v := vI _) ?_
  refine a_move (v := .c (.own _ _)) ?_
  refine a_move (v := vI _) ?_
  refine RA.nil nofun ?_
  refine AG.seq ?_
  refine AG.freeze 201 ?_
  refine AG.region HM ?_
  refine a_move (v := vI _) ?_
  refine a_move (v := vI _) ?_
  refine a_move (v := vI _) ?_
  refine RA.nil nofun ?_
  refine AG.ret ?_
  simp only [Option.some.injEq, Prod.mk.injEq] at H
  obtain ⟨rfl, rfl⟩ := H
  exact RetP.mk id ⟨rfl, rfl, trivial⟩ trivial rfl
 ·rw [if_neg hc3] at H
  refine AG.yes rfl (bne_iff_ne.2 hc3) ?_
  refine AG.seq ?_
  refine AG.region HM ?_
  refine a_move (v := vI _) ?_
  refine a_move (v := vI _) ?_
  refine a_move (v := vI _) ?_
  refine RA.nil nofun ?_
  refine AG.ret ?_
  simp only [Option.some.injEq, Prod.mk.injEq] at H
  obtain ⟨rfl, rfl⟩ := H
  exact RetP.mk id ⟨rfl, rfl, trivial⟩ trivial rfl
/-! ### impl_within: function 46 -/
def impl_within.f (a0 : Int) (a1 : Int) (a2 : Int) : Option (Bool) := if a0 ≥ a1 then (some (decide (a0 ≤ a2))) else (some false)
set_option maxRecDepth 100000 in
theorem impl_within.ok {a0 : Int} {a1 : Int} {a2 : Int} {r : Bool} (H : impl_within.f a0 a1 a2 = some r) : OkF Try.prog 46 [vI a0, vI a1, vI a2] [] (.c (.d (.v (.bool r)))) [] := by
 unfold impl_within.f at H
 refine OkF.of (N := 15) (rs := [6]) (avs := [.c (.d (.v (.bool r)))]) Try.func46 rfl rfl (fun _ _ => results_tmp rfl _ _ _) (by decide) rfl rfl rfl rfl (fun w0 S => ?_)
 refine AG.seq ?_
 refine AG.region HM ?_
 refine a_move (v := vB _) ?_
 refine RA.nil nofun ?_
 refine AG.seq ?_
 refine AG.region HM ?_
 refine a_move (v := vI _) ?_
 refine a_move (v := vI _) ?_
 refine a_int (u := .bool (decide (a0 ≥ a1))) ?_
 refine a_move (v := vB _) ?_
 by_cases hc1 : a0 ≥ a1
 ·rw [if_pos hc1] at H
  refine a_move (v := vI _) ?_ (hg := Gs.yes rfl rfl rfl (decide_eq_true hc1))
  refine a_move (v := vI _) ?_ (hg := Gs.yes rfl rfl rfl (decide_eq_true hc1))
  refine a_int (u := .bool (decide (a0 ≤ a2))) ?_ (hg := Gs.yes rfl rfl rfl (decide_eq_true hc1))
  refine a_pick (b := true) (v := vB _) ?_ (decide_eq_true hc1)
  refine a_move (v := vB _) ?_
  refine RA.nil nofun ?_
  refine AG.ret ?_
  obtain rfl := Option.some.inj H
  exact RetP.mk id ⟨rfl, trivial⟩ trivial rfl
 ·rw [if_neg hc1] at H
  refine RA.skip rfl rfl rfl rfl rfl (decide_eq_false hc1) (by decide) ?_
  refine RA.skip rfl rfl rfl rfl rfl (decide_eq_false hc1) (by decide) ?_
  refine RA.skip rfl rfl rfl rfl rfl (decide_eq_false hc1) (by decide) ?_
  refine a_pick (b := false) (v := vB _) ?_ (decide_eq_false hc1)
  refine a_move (v := vB _) ?_
  refine RA.nil nofun ?_
  refine AG.ret ?_
  obtain rfl := Option.some.inj H
  exact RetP.mk id ⟨rfl, trivial⟩ trivial rfl
/-! ### impl_sizesCode: function 30 -/
mutual
def impl_sizesCode.j0 : Nat → List (List Int) → Int → Int → Bool → Option (Int)
 | 0, _, _, _, _ => none
 | k + 1, x0, x1, x2, x22 => if x22 = true then (some 2) else (impl_sizesCode.l0 k x1 x2 0 x0 (x0.length : Int) 0)
def impl_sizesCode.l0 : Nat → Int → Int → Int → List (List Int) → Int → Int → Option (Int)
 | 0, _, _, _, _, _, _ => none
 | k + 1, x1, x2, x7, x23, x24, x25 => if x25 < x24 then (if 0 ≤ x25 then (if x25 < (x23.length : Int) then (if ((rd36 x23 x25).length : Int) = 2 then (if 0 < ((rd36 x23 x25).length : Int) then ((impl_within.f (rd2 (rd36 x23 x25) 0) 1 20000).bind fun t13 => (if t13 = true then (if 1 < ((rd36 x23 x25).length : Int) then ((impl_within.f (rd2 (rd36 x23 x25) 1) 1 20000).bind fun t17 => (impl_sizesCode.j1 k x1 x2 x7 (rd36 x23 x25) x23 x24 x25 (!t17))) else (none)) else (impl_sizesCode.j1 k x1 x2 x7 (rd36 x23 x25) x23 x24 x25 true))) else (none)) else (impl_sizesCode.j1 k x1 x2 x7 (rd36 x23 x25) x23 x24 x25 true)) else (none)) else (none)) else (some x7)
def impl_sizesCode.j1 : Nat → Int → Int → Int → List Int → List (List Int) → Int → Int → Bool → Option (Int)
 | 0, _, _, _, _, _, _, _, _ => none
 | k + 1, x1, x2, x7, x9, x23, x24, x25, x45 => if x45 = true then (some 2) else (if 0 < (x9.length : Int) then (if (rd2 x9 0) > x1 then (impl_sizesCode.l0 k x1 x2 6 x23 x24 (wrap64 (x25 + 1))) else (if 1 < (x9.length : Int) then (if (rd2 x9 1) > x2 then (impl_sizesCode.l0 k x1 x2 6 x23 x24 (wrap64 (x25 + 1))) else (impl_sizesCode.l0 k x1 x2 x7 x23 x24 (wrap64 (x25 + 1)))) else (none))) else (none))
end
def impl_sizesCode.f (k : Nat) (l0 : List (List Int)) (a1 : Int) (a2 : Int) : Option (Int) := if (l0.length : Int) > 24 then (impl_sizesCode.j0 k l0 a1 a2 true) else ((impl_within.f a1 1 20000).bind fun t2 => (if t2 = true then ((impl_within.f a2 1 20000).bind fun t5 => (impl_sizesCode.j0 k l0 a1 a2 (!t5))) else (impl_sizesCode.j0 k l0 a1 a2 true)))
set_option maxRecDepth 100000 in
theorem impl_sizesCode.ok {k : Nat} {l0 : List (List Int)} {a1 : Int} {a2 : Int} {r : Int} (H : impl_sizesCode.f k l0 a1 a2 = some r) : OkF Try.prog 30 [vR 36 (l0.map c36), vI a1, vI a2] [] (.c (.d (.v (.int .i64 r)))) [] := by
 unfold impl_sizesCode.f at H
 refine OkF.of (N := 60) (rs := [6]) (avs := [.c (.d (.v (.int .i64 r)))]) Try.func30 rfl rfl (fun _ _ => results_tmp rfl _ _ _) (by decide) rfl rfl rfl rfl (fun w0 S => ?_)
 refine AG.seq ?_
 refine AG.region HM ?_
 refine a_move (v := vI _) ?_
 refine RA.nil nofun ?_
 refine AG.seq ?_
 refine AG.seq ?_
 refine AG.joinR (fun s => ∃ q, q ≤ k ∧ ∃ (x0 : List (List Int)) (x1 : Int) (x2 : Int) (x22 : Bool), impl_sizesCode.j0 q x0 x1 x2 x22 = some r ∧ s = St.of [(0, vR 36 (x0.map c36)), (1, vI x1), (2, vI x2), (22, vB x22)] []) ?_ ?_
 ·skip
  refine AG.region HM ?_
  refine a_move (v := vR _ _) ?_
  refine a_lenR ?_ Try.underlying22
  refine a_int (u := .bool (decide ((l0.length : Int) > 24))) ?_
  refine a_move (v := vB _) ?_
  by_cases hc1 : (l0.length : Int) > 24
  ·rw [if_pos hc1] at H
   refine RA.skip rfl rfl rfl rfl rfl (decide_eq_true hc1) (by decide) ?_
   refine RA.skip rfl rfl rfl rfl rfl (decide_eq_true hc1) (by decide) ?_
   refine RA.skip rfl rfl rfl rfl rfl (decide_eq_true hc1) (by decide) ?_
   refine a_pick (b := true) (v := vB _) ?_ (decide_eq_true hc1)
   refine a_move (v := vB _) ?_
   refine RA.skip rfl rfl rfl rfl rfl rfl (by decide) ?_
   refine RA.skip rfl rfl rfl rfl rfl rfl (by decide) ?_
   refine RA.skip rfl rfl rfl rfl rfl rfl (by decide) ?_
   refine a_pick (b := true) (v := vB _) ?_ rfl
   refine RA.nil nofun ?_
   exact CanR.mk id ⟨_, (by omega), _, _, _, _, H, rfl⟩ ⟨rfl, rfl, rfl, rfl, trivial⟩ trivial rfl
  ·rw [if_neg hc1] at H
   refine a_move (v := vI _) ?_ (hg := Gs.yes rfl rfl rfl (decide_eq_false hc1))
   obtain ⟨t2, e3, H⟩ := bindO H
   refine a_call (v := vB t2) (nk := []) (L := []) ?_ rfl (impl_within.ok e3) id (qd (qd (qd qn))) trivial trivial trivial rfl (hg := Gs.yes rfl rfl rfl (decide_eq_false hc1))
   refine a_un (u := .bool (!t2)) ?_ (hg := Gs.yes rfl rfl rfl (decide_eq_false hc1))
   refine a_pick (b := false) (v := vB _) ?_ (decide_eq_false hc1)
   refine a_move (v := vB _) ?_
   by_cases hc4 : t2 = true
   ·rw [if_pos hc4] at H
    refine a_move (v := vI _) ?_ (hg := Gs.yes rfl rfl rfl (congrArg Bool.not hc4))
    obtain ⟨t5, e6, H⟩ := bindO H
    refine a_call (v := vB t5) (nk := []) (L := []) ?_ rfl (impl_within.ok e6) id (qd (qd (qd qn))) trivial trivial trivial rfl (hg := Gs.yes rfl rfl rfl (congrArg Bool.not hc4))
    refine a_un (u := .bool (!t5)) ?_ (hg := Gs.yes rfl rfl rfl (congrArg Bool.not hc4))
    refine a_pick (b := false) (v := vB _) ?_ (congrArg Bool.not hc4)
    refine RA.nil nofun ?_
    exact CanR.mk id ⟨_, (by omega), _, _, _, _, H, rfl⟩ ⟨rfl, rfl, rfl, rfl, trivial⟩ trivial rfl
   ·rw [if_neg hc4] at H
    refine RA.skip rfl rfl rfl rfl rfl (congrArg Bool.not (Bool.eq_false_iff.2 hc4)) (by decide) ?_
    refine RA.skip rfl rfl rfl rfl rfl (congrArg Bool.not (Bool.eq_false_iff.2 hc4)) (by decide) ?_
    refine RA.skip rfl rfl rfl rfl rfl (congrArg Bool.not (Bool.eq_false_iff.2 hc4)) (by decide) ?_
    refine a_pick (b := true) (v := vB _) ?_ (congrArg Bool.not (Bool.eq_false_iff.2 hc4))
    refine RA.nil nofun ?_
    exact CanR.mk id ⟨_, (by omega), _, _, _, _, H, rfl⟩ ⟨rfl, rfl, rfl, rfl, trivial⟩ trivial rfl
 ·clear H
  rintro _ ⟨k, hj0, x0, x1, x2, x22, H, rfl⟩
  cases k with
  | zero => cases H
  | succ k =>
   rw [impl_sizesCode.j0] at H
   by_cases hc7 : x22 = true
   ·rw [if_pos hc7] at H
    refine AG.yes rfl hc7 ?_
    refine AG.seq ?_
    refine AG.region HM ?_
    refine a_move (v := vI _) ?_
    refine RA.nil nofun ?_
    refine AG.ret ?_
    obtain rfl := Option.some.inj H
    exact RetP.mk id ⟨rfl, trivial⟩ trivial rfl
   ·rw [if_neg hc7] at H
    refine AG.no rfl (Bool.eq_false_iff.2 hc7) ?_
    refine AG.skip ?_
    refine AG.seq ?_
    refine AG.region HM ?_
    refine a_move (v := vI _) ?_
    refine RA.nil nofun ?_
    refine AG.seq ?_
    refine AG.seq ?_
    refine AG.region HM ?_
    refine a_move (v := vR _ _) ?_
    refine a_lenR ?_ Try.underlying22
    refine a_move (v := vI _) ?_
    refine RA.nil nofun ?_
    refine AG.block ?_
    refine AG.loop ?_
    obtain ⟨K0, hK0, gK0⟩ : ∃ K, k ≤ K ∧ K ≤ k := ⟨k, Nat.le_refl k, Nat.le_refl k⟩
    refine AGr.canon id (AGr.loopI (n := k) (fun k s => k ≤ K0 ∧ ∃ (x1 : Int) (x2 : Int) (x7 : Int) (x23 : List (List Int)) (x24 : Int) (x25 : Int), impl_sizesCode.l0 k x1 x2 x7 x23 x24 x25 = some r ∧ s = St.of [(1, vI x1), (2, vI x2), (7, vI x7), (23, vR 36 (x23.map c36)), (24, vI x24), (25, vI x25)] []) ⟨hK0, _, _, _, _, _, _, H, rfl⟩ ?_ ?_) ⟨rfl, rfl, rfl, rfl, rfl, rfl, trivial⟩ trivial rfl
    ·rintro _ ⟨_, _, _, _, _, _, _, H, _⟩
     cases H
    ·clear H hK0
     rintro k ih0 _ ⟨hK0, x1, x2, x7, x23, x24, x25, H, rfl⟩
     unfold impl_sizesCode.l0 at H
     refine AG.seq ?_
     refine AG.region HM ?_
     refine a_int (u := .bool (decide (x25 < x24))) ?_
     refine RA.nil nofun ?_
     refine AG.seq ?_
     by_cases hc8 : x25 < x24
     ·rw [if_pos hc8] at H
      refine AG.yes rfl (decide_eq_true hc8) ?_
      refine AG.skip ?_
      refine AG.seq ?_
      refine AG.block ?_
      refine AG.seq ?_
      refine AG.region HM ?_
      by_cases hc9 : 0 ≤ x25
      ·rw [if_pos hc9] at H
       by_cases hc10 : x25 < (x23.length : Int)
       ·rw [if_pos hc10] at H
        refine a_ixR (el := c36 (rd36 x23 x25)) ?_ ⟨hc9, hc10⟩ T36 Try.underlying22 (hel := R36 hc9 hc10)
        refine a_ldR (v := vR _ _) ?_ T36
        refine a_move (v := vR _ _) ?_
        refine RA.nil nofun ?_
        refine AG.seq ?_
        refine AG.seq ?_
        refine AG.joinR (fun s => ∃ q, q ≤ k ∧ ∃ (x1 : Int) (x2 : Int) (x7 : Int) (x9 : List Int) (x23 : List (List Int)) (x24 : Int) (x25 : Int) (x45 : Bool), impl_sizesCode.j1 q x1 x2 x7 x9 x23 x24 x25 x45 = some r ∧ s = St.of [(1, vI x1), (2, vI x2), (7, vI x7), (9, vR 2 (x9.map c2)), (23, vR 36 (x23.map c36)), (24, vI x24), (25, vI x25), (45, vB x45)] []) ?_ ?_
        ·skip
         refine AG.region HM ?_
         refine a_move (v := vR _ _) ?_
         refine a_lenR ?_ Try.underlying36
         refine a_int (u := .bool ((((rd36 x23 x25).length : Int) != 2))) ?_
         refine a_move (v := vB _) ?_
         by_cases hc11 : ((rd36 x23 x25).length : Int) = 2
         ·rw [if_pos hc11] at H
          refine a_move (v := vR _ _) ?_ (hg := Gs.yes rfl rfl rfl (bne_eq_false_iff_eq.2 hc11))
          by_cases hc12 : 0 < ((rd36 x23 x25).length : Int)
          ·rw [if_pos hc12] at H
           refine a_ixR (el := c2 (rd2 (rd36 x23 x25) 0)) ?_ ⟨(by decide), hc12⟩ T2 Try.underlying36 (hel := R2 (by decide) hc12) (hg := Gs.yes rfl rfl rfl (bne_eq_false_iff_eq.2 hc11))
           refine a_ldR (v := vI _) ?_ T2 (hg := Gs.yes rfl rfl rfl (bne_eq_false_iff_eq.2 hc11))
           obtain ⟨t13, e14, H⟩ := bindO H
           refine a_call (v := vB t13) (nk := []) (L := []) ?_ rfl (impl_within.ok e14) id (qd (qd (qd qn))) trivial trivial trivial rfl (hg := Gs.yes rfl rfl rfl (bne_eq_false_iff_eq.2 hc11))
           refine a_un (u := .bool (!t13)) ?_ (hg := Gs.yes rfl rfl rfl (bne_eq_false_iff_eq.2 hc11))
           refine a_pick (b := false) (v := vB _) ?_ (bne_eq_false_iff_eq.2 hc11)
           refine a_move (v := vB _) ?_
           by_cases hc15 : t13 = true
           ·rw [if_pos hc15] at H
            refine a_move (v := vR _ _) ?_ (hg := Gs.yes rfl rfl rfl (congrArg Bool.not hc15))
            by_cases hc16 : 1 < ((rd36 x23 x25).length : Int)
            ·rw [if_pos hc16] at H
             refine a_ixR (el := c2 (rd2 (rd36 x23 x25) 1)) ?_ ⟨(by decide), hc16⟩ T2 Try.underlying36 (hel := R2 (by decide) hc16) (hg := Gs.yes rfl rfl rfl (congrArg Bool.not hc15))
             refine a_ldR (v := vI _) ?_ T2 (hg := Gs.yes rfl rfl rfl (congrArg Bool.not hc15))
             obtain ⟨t17, e18, H⟩ := bindO H
             refine a_call (v := vB t17) (nk := []) (L := []) ?_ rfl (impl_within.ok e18) id (qd (qd (qd qn))) trivial trivial trivial rfl (hg := Gs.yes rfl rfl rfl (congrArg Bool.not hc15))
             refine a_un (u := .bool (!t17)) ?_ (hg := Gs.yes rfl rfl rfl (congrArg Bool.not hc15))
             refine a_pick (b := false) (v := vB _) ?_ (congrArg Bool.not hc15)
             refine RA.nil nofun ?_
             exact CanR.mk id ⟨_, (by omega), _, _, _, _, _, _, _, _, H, rfl⟩ ⟨rfl, rfl, rfl, rfl, rfl, rfl, rfl, rfl, trivial⟩ trivial rfl
            ·rw [if_neg hc16] at H
             cases H
           ·rw [if_neg hc15] at H
            refine RA.skip rfl rfl rfl rfl rfl (congrArg Bool.not (Bool.eq_false_iff.2 hc15)) (by decide) ?_
            refine RA.skip rfl rfl rfl rfl rfl (congrArg Bool.not (Bool.eq_false_iff.2 hc15)) (by decide) ?_
            refine RA.skip rfl rfl rfl rfl rfl (congrArg Bool.not (Bool.eq_false_iff.2 hc15)) (by decide) ?_
            refine RA.skip rfl rfl rfl rfl rfl (congrArg Bool.not (Bool.eq_false_iff.2 hc15)) (by decide) ?_
            refine RA.skip rfl rfl rfl rfl rfl (congrArg Bool.not (Bool.eq_false_iff.2 hc15)) (by decide) ?_
            refine a_pick (b := true) (v := vB _) ?_ (congrArg Bool.not (Bool.eq_false_iff.2 hc15))
            refine RA.nil nofun ?_
            exact CanR.mk id ⟨_, (by omega), _, _, _, _, _, _, _, _, H, rfl⟩ ⟨rfl, rfl, rfl, rfl, rfl, rfl, rfl, rfl, trivial⟩ trivial rfl
          ·rw [if_neg hc12] at H
           cases H
         ·rw [if_neg hc11] at H
          refine RA.skip rfl rfl rfl rfl rfl (bne_iff_ne.2 hc11) (by decide) ?_
          refine RA.skip rfl rfl rfl rfl rfl (bne_iff_ne.2 hc11) (by decide) ?_
          refine RA.skip rfl rfl rfl rfl rfl (bne_iff_ne.2 hc11) (by decide) ?_
          refine RA.skip rfl rfl rfl rfl rfl (bne_iff_ne.2 hc11) (by decide) ?_
          refine RA.skip rfl rfl rfl rfl rfl (bne_iff_ne.2 hc11) (by decide) ?_
          refine a_pick (b := true) (v := vB _) ?_ (bne_iff_ne.2 hc11)
          refine a_move (v := vB _) ?_
          refine RA.skip rfl rfl rfl rfl rfl rfl (by decide) ?_
          refine RA.skip rfl rfl rfl rfl rfl rfl (by decide) ?_
          refine RA.skip rfl rfl rfl rfl rfl rfl (by decide) ?_
          refine RA.skip rfl rfl rfl rfl rfl rfl (by decide) ?_
          refine RA.skip rfl rfl rfl rfl rfl rfl (by decide) ?_
          refine a_pick (b := true) (v := vB _) ?_ rfl
          refine RA.nil nofun ?_
          exact CanR.mk id ⟨_, (by omega), _, _, _, _, _, _, _, _, H, rfl⟩ ⟨rfl, rfl, rfl, rfl, rfl, rfl, rfl, rfl, trivial⟩ trivial rfl
        ·clear H
         rintro _ ⟨k, hj1, x1, x2, x7, x9, x23, x24, x25, x45, H, rfl⟩
         cases k with
         | zero => cases H
         | succ k =>
          rw [impl_sizesCode.j1] at H
          by_cases hc19 : x45 = true
          ·rw [if_pos hc19] at H
           refine AG.yes rfl hc19 ?_
           refine AG.seq ?_
           refine AG.region HM ?_
           refine a_move (v := vI _) ?_
           refine RA.nil nofun ?_
           refine AG.ret ?_
           obtain rfl := Option.some.inj H
           exact RetP.mk id ⟨rfl, trivial⟩ trivial rfl
          ·rw [if_neg hc19] at H
           refine AG.no rfl (Bool.eq_false_iff.2 hc19) ?_
           refine AG.skip ?_
           refine AG.seq ?_
           refine AG.region HM ?_
           refine a_move (v := vR _ _) ?_
           by_cases hc20 : 0 < (x9.length : Int)
           ·rw [if_pos hc20] at H
            refine a_ixR (el := c2 (rd2 x9 0)) ?_ ⟨(by decide), hc20⟩ T2 Try.underlying36 (hel := R2 (by decide) hc20)
            refine a_ldR (v := vI _) ?_ T2
            refine a_move (v := vI _) ?_
            refine a_int (u := .bool (decide ((rd2 x9 0) > x1))) ?_
            refine a_move (v := vB _) ?_
            by_cases hc21 : (rd2 x9 0) > x1
            ·rw [if_pos hc21] at H
             refine RA.skip rfl rfl rfl rfl rfl (decide_eq_true hc21) (by decide) ?_
             refine RA.skip rfl rfl rfl rfl rfl (decide_eq_true hc21) (by decide) ?_
             refine RA.skip rfl rfl rfl rfl rfl (decide_eq_true hc21) (by decide) ?_
             refine RA.skip rfl rfl rfl rfl rfl (decide_eq_true hc21) (by decide) ?_
             refine RA.skip rfl rfl rfl rfl rfl (decide_eq_true hc21) (by decide) ?_
             refine a_pick (b := true) (v := vB _) ?_ (decide_eq_true hc21)
             refine RA.nil nofun ?_
             refine AG.yes rfl rfl ?_
             refine AG.region HM ?_
             refine a_move (v := vI _) ?_
             refine RA.nil nofun ?_
             refine AG.region HM ?_
             refine a_int (u := .int .i64 (wrap64 (x25 + 1))) ?_
             refine a_move (v := vI _) ?_
             refine RA.nil nofun ?_
             exact AGr.canon id (ih0 _ (by omega) _ ⟨by omega, _, _, _, _, _, _, H, rfl⟩) ⟨rfl, rfl, rfl, rfl, rfl, rfl, trivial⟩ trivial rfl
            ·rw [if_neg hc21] at H
             refine a_move (v := vR _ _) ?_ (hg := Gs.yes rfl rfl rfl (decide_eq_false hc21))
             by_cases hc22 : 1 < (x9.length : Int)
             ·rw [if_pos hc22] at H
              refine a_ixR (el := c2 (rd2 x9 1)) ?_ ⟨(by decide), hc22⟩ T2 Try.underlying36 (hel := R2 (by decide) hc22) (hg := Gs.yes rfl rfl rfl (decide_eq_false hc21))
              refine a_ldR (v := vI _) ?_ T2 (hg := Gs.yes rfl rfl rfl (decide_eq_false hc21))
              refine a_move (v := vI _) ?_ (hg := Gs.yes rfl rfl rfl (decide_eq_false hc21))
              refine a_int (u := .bool (decide ((rd2 x9 1) > x2))) ?_ (hg := Gs.yes rfl rfl rfl (decide_eq_false hc21))
              refine a_pick (b := false) (v := vB _) ?_ (decide_eq_false hc21)
              refine RA.nil nofun ?_
              by_cases hc23 : (rd2 x9 1) > x2
              ·rw [if_pos hc23] at H
               refine AG.yes rfl (decide_eq_true hc23) ?_
               refine AG.region HM ?_
               refine a_move (v := vI _) ?_
               refine RA.nil nofun ?_
               refine AG.region HM ?_
               refine a_int (u := .int .i64 (wrap64 (x25 + 1))) ?_
               refine a_move (v := vI _) ?_
               refine RA.nil nofun ?_
               exact AGr.canon id (ih0 _ (by omega) _ ⟨by omega, _, _, _, _, _, _, H, rfl⟩) ⟨rfl, rfl, rfl, rfl, rfl, rfl, trivial⟩ trivial rfl
              ·rw [if_neg hc23] at H
               refine AG.no rfl (decide_eq_false hc23) ?_
               refine AG.skip ?_
               refine AG.region HM ?_
               refine a_int (u := .int .i64 (wrap64 (x25 + 1))) ?_
               refine a_move (v := vI _) ?_
               refine RA.nil nofun ?_
               exact AGr.canon id (ih0 _ (by omega) _ ⟨by omega, _, _, _, _, _, _, H, rfl⟩) ⟨rfl, rfl, rfl, rfl, rfl, rfl, trivial⟩ trivial rfl
             ·rw [if_neg hc22] at H
              cases H
           ·rw [if_neg hc20] at H
            cases H
       ·rw [if_neg hc10] at H
        cases H
      ·rw [if_neg hc9] at H
       cases H
     ·rw [if_neg hc8] at H
      refine AG.no rfl (decide_eq_false hc8) ?_
      refine AG.exit ?_
      refine AG.seq ?_
      refine AG.region HM ?_
      refine a_move (v := vI _) ?_
      refine a_move (v := vI _) ?_
      refine RA.nil nofun ?_
      refine AG.ret ?_
      obtain rfl := Option.some.inj H
      exact RetP.mk id ⟨rfl, trivial⟩ trivial rfl
/-! ### impl_ShelfPlan_1: function 32 -/
def impl_ShelfPlan_1.f (a0 : Int) (a1 : Int) (v_0_0 : List (List Int)) : Option (Int) := if 0 ≤ a1 then (if a1 < (v_0_0.length : Int) then (if 1 < ((rd36 v_0_0 a1).length : Int) then (if 0 ≤ a0 then (if a0 < (v_0_0.length : Int) then (if 1 < ((rd36 v_0_0 a0).length : Int) then (some (wrap64 ((rd2 (rd36 v_0_0 a1) 1) - (rd2 (rd36 v_0_0 a0) 1)))) else (none)) else (none)) else (none)) else (none)) else (none)) else (none)
set_option maxRecDepth 100000 in
theorem impl_ShelfPlan_1.ok {a0 : Int} {a1 : Int} {v_0_0 : List (List Int)} {r : Int} (H : impl_ShelfPlan_1.f a0 a1 v_0_0 = some r) : OkF Try.prog 32 [vI a0, vI a1, .c (.d (.ro [.row 36 (v_0_0.map c36)]))] [] (.c (.d (.v (.int .i64 r)))) [] := by
 unfold impl_ShelfPlan_1.f at H
 refine OkF.of (N := 19) (rs := [5]) (avs := [.c (.d (.v (.int .i64 r)))]) Try.func32 rfl rfl (fun _ _ => results_tmp rfl _ _ _) (by decide) rfl rfl rfl rfl (fun w0 S => ?_)
 refine AG.seq ?_
 refine AG.region HM ?_
 refine a_move (v := vI _) ?_
 refine RA.nil nofun ?_
 refine AG.seq ?_
 refine AG.region HM ?_
 refine a_ldR (v := vR _ _) ?_ T22
 refine a_move (v := vI _) ?_
 by_cases hc1 : 0 ≤ a1
 ·rw [if_pos hc1] at H
  by_cases hc2 : a1 < (v_0_0.length : Int)
  ·rw [if_pos hc2] at H
   refine a_ixR (el := c36 (rd36 v_0_0 a1)) ?_ ⟨hc1, hc2⟩ T36 Try.underlying22 (hel := R36 hc1 hc2)
   refine a_ldR (v := vR _ _) ?_ T36
   by_cases hc3 : 1 < ((rd36 v_0_0 a1).length : Int)
   ·rw [if_pos hc3] at H
    refine a_ixR (el := c2 (rd2 (rd36 v_0_0 a1) 1)) ?_ ⟨(by decide), hc3⟩ T2 Try.underlying36 (hel := R2 (by decide) hc3)
    refine a_ldR (v := vI _) ?_ T2
    refine a_ldR (v := vR _ _) ?_ T22
    refine a_move (v := vI _) ?_
    by_cases hc4 : 0 ≤ a0
    ·rw [if_pos hc4] at H
     by_cases hc5 : a0 < (v_0_0.length : Int)
     ·rw [if_pos hc5] at H
      refine a_ixR (el := c36 (rd36 v_0_0 a0)) ?_ ⟨hc4, hc5⟩ T36 Try.underlying22 (hel := R36 hc4 hc5)
      refine a_ldR (v := vR _ _) ?_ T36
      by_cases hc6 : 1 < ((rd36 v_0_0 a0).length : Int)
      ·rw [if_pos hc6] at H
       refine a_ixR (el := c2 (rd2 (rd36 v_0_0 a0) 1)) ?_ ⟨(by decide), hc6⟩ T2 Try.underlying36 (hel := R2 (by decide) hc6)
       refine a_ldR (v := vI _) ?_ T2
       refine a_int (u := .int .i64 (wrap64 ((rd2 (rd36 v_0_0 a1) 1) - (rd2 (rd36 v_0_0 a0) 1)))) ?_
       refine a_move (v := vI _) ?_
       refine RA.nil (fun _ => by kernel_rfl) ?_
       refine AG.ret ?_
       obtain rfl := Option.some.inj H
       exact RetP.mk id ⟨rfl, trivial⟩ trivial rfl
      ·rw [if_neg hc6] at H
       cases H
     ·rw [if_neg hc5] at H
      cases H
    ·rw [if_neg hc4] at H
     cases H
   ·rw [if_neg hc3] at H
    cases H
  ·rw [if_neg hc2] at H
   cases H
 ·rw [if_neg hc1] at H
  cases H
/-! ### slices_insertionSortCmpFunc_int__impl_ShelfPlan_1: function 55 -/
mutual
def slices_insertionSortCmpFunc_int__impl_ShelfPlan_1.l0 : Nat → List Int → Int → Int → List (List Int) → Int → Option ((List Int))
 | 0, _, _, _, _, _ => none
 | k + 1, x0, x1, x2, x3_0_0, x8 => if x8 < x2 then (slices_insertionSortCmpFunc_int__impl_ShelfPlan_1.l1 k x0 x1 x2 x3_0_0 x8 x8) else (some x0)
def slices_insertionSortCmpFunc_int__impl_ShelfPlan_1.l1 : Nat → List Int → Int → Int → List (List Int) → Int → Int → Option ((List Int))
 | 0, _, _, _, _, _, _ => none
 | k + 1, x0, x1, x2, x3_0_0, x8, x9 => if x9 > x1 then (if 0 ≤ x9 then (if x9 < (x0.length : Int) then (if 0 ≤ (wrap64 (x9 - 1)) then (if (wrap64 (x9 - 1)) < (x0.length : Int) then ((impl_ShelfPlan_1.f (rd3 x0 x9) (rd3 x0 (wrap64 (x9 - 1))) x3_0_0).bind fun t7 => (if t7 < 0 then (slices_insertionSortCmpFunc_int__impl_ShelfPlan_1.l1 k ((x0.set (x9 : Int).toNat (rd3 x0 (wrap64 (x9 - 1)))).set ((wrap64 (x9 - 1)) : Int).toNat (rd3 x0 x9)) x1 x2 x3_0_0 x8 (wrap64 (x9 - 1))) else (slices_insertionSortCmpFunc_int__impl_ShelfPlan_1.l0 k x0 x1 x2 x3_0_0 (wrap64 (x8 + 1))))) else (none)) else (none)) else (none)) else (none)) else (slices_insertionSortCmpFunc_int__impl_ShelfPlan_1.l0 k x0 x1 x2 x3_0_0 (wrap64 (x8 + 1)))
end
def slices_insertionSortCmpFunc_int__impl_ShelfPlan_1.f (k : Nat) (l0 : List Int) (a1 : Int) (a2 : Int) (v3_0_0 : List (List Int)) : Option ((List Int)) := slices_insertionSortCmpFunc_int__impl_ShelfPlan_1.l0 k l0 a1 a2 v3_0_0 (wrap64 (a1 + 1))
set_option maxRecDepth 100000 in
theorem slices_insertionSortCmpFunc_int__impl_ShelfPlan_1.ok {k : Nat} {l0 : List Int} {a1 : Int} {a2 : Int} {v3_0_0 : List (List Int)} {r : List Int} (H : slices_insertionSortCmpFunc_int__impl_ShelfPlan_1.f k l0 a1 a2 v3_0_0 = some r) : OkF Try.prog 55 [.c (.own 0 l0.length), vI a1, vI a2, .c (.d (.fn 32 [.ro [.row 36 (v3_0_0.map c36)]]))] [(0, .row 3 (l0.map c3))] (.tup []) [(0, .row 3 (r.map c3))] := by
 unfold slices_insertionSortCmpFunc_int__impl_ShelfPlan_1.f at H
 refine OkF.of (N := 53) (rs := []) (avs := []) Try.func55 rfl rfl (fun _ _ => results_none rfl _ _ _) (by decide) rfl rfl rfl rfl (fun w0 S => ?_)
 refine AG.seq ?_
 refine AG.region HM ?_
 refine a_move (v := vI _) ?_
 refine a_int (u := .int .i64 (wrap64 (a1 + 1))) ?_
 refine a_move (v := vI _) ?_
 refine RA.nil nofun ?_
 refine AG.block ?_
 refine AG.loop ?_
 obtain ⟨K0, hK0, gK0⟩ : ∃ K, k ≤ K ∧ K ≤ k := ⟨k, Nat.le_refl k, Nat.le_refl k⟩
 refine AGr.canon id (AGr.loopI (n := k) (fun k s => k ≤ K0 ∧ ∃ (x0 : List Int) (x1 : Int) (x2 : Int) (x3_0_0 : List (List Int)) (x8 : Int), slices_insertionSortCmpFunc_int__impl_ShelfPlan_1.l0 k x0 x1 x2 x3_0_0 x8 = some r ∧ s = St.of [(0, .c (.own 0 x0.length)), (1, vI x1), (2, vI x2), (3, .c (.d (.fn 32 [.ro [.row 36 (x3_0_0.map c36)]]))), (8, vI x8)] [(0, .row 3 (x0.map c3))]) ⟨hK0, _, _, _, _, _, H, rfl⟩ ?_ ?_) ⟨rfl, rfl, rfl, rfl, rfl, trivial⟩ ⟨rfl, trivial⟩ rfl
 ·rintro _ ⟨_, _, _, _, _, _, H, _⟩
  cases H
 ·clear H hK0
  rintro k ih0 _ ⟨hK0, x0, x1, x2, x3_0_0, x8, H, rfl⟩
  unfold slices_insertionSortCmpFunc_int__impl_ShelfPlan_1.l0 at H
  refine AG.seq ?_
  refine AG.seq ?_
  refine AG.region HM ?_
  refine a_move (v := vI _) ?_
  refine a_move (v := vI _) ?_
  refine a_int (u := .bool (decide (x8 < x2))) ?_
  refine RA.nil nofun ?_
  by_cases hc1 : x8 < x2
  ·rw [if_pos hc1] at H
   refine AG.yes rfl (decide_eq_true hc1) ?_
   refine AG.skip ?_
   refine AG.seq ?_
   refine AG.block ?_
   refine AG.seq ?_
   refine AG.region HM ?_
   refine a_move (v := vI _) ?_
   refine a_move (v := vI _) ?_
   refine RA.nil nofun ?_
   refine AG.block ?_
   refine AG.loop ?_
   obtain ⟨K1, hK1, gK1⟩ : ∃ K, k ≤ K ∧ K ≤ k := ⟨k, Nat.le_refl k, Nat.le_refl k⟩
   refine AGr.canon id (AGr.loopI (n := k) (fun k s => k ≤ K1 ∧ ∃ (x0 : List Int) (x1 : Int) (x2 : Int) (x3_0_0 : List (List Int)) (x8 : Int) (x9 : Int), slices_insertionSortCmpFunc_int__impl_ShelfPlan_1.l1 k x0 x1 x2 x3_0_0 x8 x9 = some r ∧ s = St.of [(0, .c (.own 0 x0.length)), (1, vI x1), (2, vI x2), (3, .c (.d (.fn 32 [.ro [.row 36 (x3_0_0.map c36)]]))), (8, vI x8), (9, vI x9)] [(0, .row 3 (x0.map c3))]) ⟨hK1, _, _, _, _, _, _, H, rfl⟩ ?_ ?_) ⟨rfl, rfl, rfl, rfl, rfl, rfl, trivial⟩ ⟨rfl, trivial⟩ rfl
   ·rintro _ ⟨_, _, _, _, _, _, _, H, _⟩
    cases H
   ·clear H hK1
    rintro k ih1 _ ⟨hK1, x0, x1, x2, x3_0_0, x8, x9, H, rfl⟩
    unfold slices_insertionSortCmpFunc_int__impl_ShelfPlan_1.l1 at H
    refine AG.seq ?_
    refine AG.seq ?_
    refine AG.region HM ?_
    refine a_move (v := vI _) ?_
    refine a_move (v := vI _) ?_
    refine a_int (u := .bool (decide (x9 > x1))) ?_
    refine a_move (v := vB _) ?_
    by_cases hc2 : x9 > x1
    ·rw [if_pos hc2] at H
     refine a_move (v := .c (.d (.fn _ _))) ?_ (hg := Gs.yes rfl rfl rfl (decide_eq_true hc2))
     refine a_move (v := .c (.own _ _)) ?_ (hg := Gs.yes rfl rfl rfl (decide_eq_true hc2))
     refine a_move (v := vI _) ?_ (hg := Gs.yes rfl rfl rfl (decide_eq_true hc2))
     by_cases hc3 : 0 ≤ x9
     ·rw [if_pos hc3] at H
      by_cases hc4 : x9 < (x0.length : Int)
      ·rw [if_pos hc4] at H
       refine a_ixO ?_ ⟨hc3, hc4⟩ T3 Try.underlying50 (hg := Gs.yes rfl rfl rfl (decide_eq_true hc2))
       refine a_ldE (v := vI _) ?_ (G3 hc3 hc4) T3 (hg := Gs.yes rfl rfl rfl (decide_eq_true hc2))
       refine a_move (v := .c (.own _ _)) ?_ (hg := Gs.yes rfl rfl rfl (decide_eq_true hc2))
       refine a_move (v := vI _) ?_ (hg := Gs.yes rfl rfl rfl (decide_eq_true hc2))
       refine a_int (u := .int .i64 (wrap64 (x9 - 1))) ?_ (hg := Gs.yes rfl rfl rfl (decide_eq_true hc2))
       by_cases hc5 : 0 ≤ (wrap64 (x9 - 1))
       ·rw [if_pos hc5] at H
        by_cases hc6 : (wrap64 (x9 - 1)) < (x0.length : Int)
        ·rw [if_pos hc6] at H
         refine a_ixO ?_ ⟨hc5, hc6⟩ T3 Try.underlying50 (hg := Gs.yes rfl rfl rfl (decide_eq_true hc2))
         refine a_ldE (v := vI _) ?_ (G3 hc5 hc6) T3 (hg := Gs.yes rfl rfl rfl (decide_eq_true hc2))
         obtain ⟨t7, e8, H⟩ := bindO H
         refine a_callW (v := vI t7) (nk := []) (L := []) ?_ rfl rfl (impl_ShelfPlan_1.ok e8) id (qd (qd qn)) rfl trivial trivial trivial rfl (hg := Gs.yes rfl rfl rfl (decide_eq_true hc2))
         refine a_int (u := .bool (decide (t7 < 0))) ?_ (hg := Gs.yes rfl rfl rfl (decide_eq_true hc2))
         refine a_pick (b := true) (v := vB _) ?_ (decide_eq_true hc2)
         refine RA.nil (fun _ => by kernel_rfl) ?_
         by_cases hc9 : t7 < 0
         ·rw [if_pos hc9] at H
          refine AG.yes rfl (decide_eq_true hc9) ?_
          refine AG.skip ?_
          refine AG.seq ?_
          refine AG.block ?_
          refine AG.region HM ?_
          refine a_move (v := .c (.own _ _)) ?_
          refine a_move (v := vI _) ?_
          refine a_move (v := .c (.own _ _)) ?_
          refine a_move (v := vI _) ?_
          refine a_int (u := .int .i64 (wrap64 (x9 - 1))) ?_
          refine a_move (v := .c (.own _ _)) ?_
          refine a_move (v := vI _) ?_
          refine a_int (u := .int .i64 (wrap64 (x9 - 1))) ?_
          refine a_ixO ?_ ⟨hc5, hc6⟩ T3 Try.underlying50
          refine a_ldE (v := vI _) ?_ (G3 hc5 hc6) T3
          refine a_move (v := .c (.own _ _)) ?_
          refine a_move (v := vI _) ?_
          refine a_ixO ?_ ⟨hc3, hc4⟩ T3 Try.underlying50
          refine a_ldE (v := vI _) ?_ (G3 hc3 hc4) T3
          refine a_ixO ?_ ⟨hc3, hc4⟩ T3 Try.underlying50
          refine a_stF (css' := (x0.set (x9 : Int).toNat (rd3 x0 (wrap64 (x9 - 1)))).map c3) ?_ (flat_map (fun _ => rfl)) (G3 hc3 hc4) T3 (hcss := by exact set_map rfl)
          refine a_ixO ?_ ⟨hc5, hc6⟩ T3 Try.underlying50
          refine a_stF (css' := ((x0.set (x9 : Int).toNat (rd3 x0 (wrap64 (x9 - 1)))).set ((wrap64 (x9 - 1)) : Int).toNat (rd3 x0 x9)).map c3) ?_ (flat_map (fun _ => rfl)) (G3 (l := (x0.set (x9 : Int).toNat (rd3 x0 (wrap64 (x9 - 1))))) (i := (wrap64 (x9 - 1))) hc5 (by simpa using hc6)) T3 (hcss := by exact set_map rfl)
          refine RA.nil (fun _ => by kernel_rfl) ?_
          refine AG.region HM ?_
          refine a_move (v := vI _) ?_
          refine a_int (u := .int .i64 (wrap64 (x9 - 1))) ?_
          refine a_move (v := vI _) ?_
          refine RA.nil nofun ?_
          exact AGr.canon id (ih1 _ (by omega) _ ⟨by omega, _, _, _, _, _, _, H, rfl⟩) ⟨(ownE rfl (by simp)), rfl, rfl, rfl, rfl, rfl, trivial⟩ ⟨rfl, trivial⟩ rfl
         ·rw [if_neg hc9] at H
          refine AG.no rfl (decide_eq_false hc9) ?_
          refine AG.exit ?_
          refine AG.region HM ?_
          refine a_move (v := vI _) ?_
          refine a_int (u := .int .i64 (wrap64 (x8 + 1))) ?_
          refine a_move (v := vI _) ?_
          refine RA.nil nofun ?_
          exact AGr.canon id (ih0 _ (by omega) _ ⟨by omega, _, _, _, _, _, H, rfl⟩) ⟨rfl, rfl, rfl, rfl, rfl, trivial⟩ ⟨rfl, trivial⟩ rfl
        ·rw [if_neg hc6] at H
         cases H
       ·rw [if_neg hc5] at H
        cases H
      ·rw [if_neg hc4] at H
       cases H
     ·rw [if_neg hc3] at H
      cases H
    ·rw [if_neg hc2] at H
     refine RA.skip rfl rfl rfl rfl rfl (decide_eq_false hc2) (by decide) ?_
     refine RA.skip rfl rfl rfl rfl rfl (decide_eq_false hc2) (by decide) ?_
     refine RA.skip rfl rfl rfl rfl rfl (decide_eq_false hc2) (by decide) ?_
     refine RA.skip rfl rfl rfl rfl rfl (decide_eq_false hc2) (by decide) ?_
     refine RA.skip rfl rfl rfl rfl rfl (decide_eq_false hc2) (by decide) ?_
     refine RA.skip rfl rfl rfl rfl rfl (decide_eq_false hc2) (by decide) ?_
     refine RA.skip rfl rfl rfl rfl rfl (decide_eq_false hc2) (by decide) ?_
     refine RA.skip rfl rfl rfl rfl rfl (decide_eq_false hc2) (by decide) ?_
     refine RA.skip rfl rfl rfl rfl rfl (decide_eq_false hc2) (by decide) ?_
     refine RA.skip rfl rfl rfl rfl rfl (decide_eq_false hc2) (by decide) ?_
     refine RA.skip rfl rfl rfl rfl rfl (decide_eq_false hc2) (by decide) ?_
     refine RA.skip rfl rfl rfl rfl rfl (decide_eq_false hc2) (by decide) ?_
     refine a_pick (b := false) (v := vB _) ?_ (decide_eq_false hc2)
     refine RA.nil (fun _ => by kernel_rfl) ?_
     refine AG.no rfl rfl ?_
     refine AG.exit ?_
     refine AG.region HM ?_
     refine a_move (v := vI _) ?_
     refine a_int (u := .int .i64 (wrap64 (x8 + 1))) ?_
     refine a_move (v := vI _) ?_
     refine RA.nil nofun ?_
     exact AGr.canon id (ih0 _ (by omega) _ ⟨by omega, _, _, _, _, _, H, rfl⟩) ⟨rfl, rfl, rfl, rfl, rfl, trivial⟩ ⟨rfl, trivial⟩ rfl
  ·rw [if_neg hc1] at H
   refine AG.no rfl (decide_eq_false hc1) ?_
   refine AG.exit ?_
   obtain rfl := Option.some.inj H
   exact RetP.mk (fun κ => cond (Nat.beq κ 0) 0 (κ)) trivial ⟨rfl, trivial⟩ rfl
/-! ### slices_swapRangeCmpFunc_int__impl_ShelfPlan_1: function 65 -/
def slices_swapRangeCmpFunc_int__impl_ShelfPlan_1.l0 : Nat → List Int → Int → Int → Int → Int → Option ((List Int))
 | 0, _, _, _, _, _ => none
 | k + 1, x0, x1, x2, x3, x10 => if x10 < x3 then (if 0 ≤ (wrap64 (x2 + x10)) then (if (wrap64 (x2 + x10)) < (x0.length : Int) then (if 0 ≤ (wrap64 (x1 + x10)) then (if (wrap64 (x1 + x10)) < (x0.length : Int) then (slices_swapRangeCmpFunc_int__impl_ShelfPlan_1.l0 k ((x0.set ((wrap64 (x1 + x10)) : Int).toNat (rd3 x0 (wrap64 (x2 + x10)))).set ((wrap64 (x2 + x10)) : Int).toNat (rd3 x0 (wrap64 (x1 + x10)))) x1 x2 x3 (wrap64 (x10 + 1))) else (none)) else (none)) else (none)) else (none)) else (some x0)
def slices_swapRangeCmpFunc_int__impl_ShelfPlan_1.f (k : Nat) (l0 : List Int) (a1 : Int) (a2 : Int) (a3 : Int) (v4_0_0 : List (List Int)) : Option ((List Int)) := slices_swapRangeCmpFunc_int__impl_ShelfPlan_1.l0 k l0 a1 a2 a3 0
set_option maxRecDepth 100000 in
theorem slices_swapRangeCmpFunc_int__impl_ShelfPlan_1.ok {k : Nat} {l0 : List Int} {a1 : Int} {a2 : Int} {a3 : Int} {v4_0_0 : List (List Int)} {r : List Int} (H : slices_swapRangeCmpFunc_int__impl_ShelfPlan_1.f k l0 a1 a2 a3 v4_0_0 = some r) : OkF Try.prog 65 [.c (.own 0 l0.length), vI a1, vI a2, vI a3, .c (.d (.fn 32 [.ro [.row 36 (v4_0_0.map c36)]]))] [(0, .row 3 (l0.map c3))] (.tup []) [(0, .row 3 (r.map c3))] := by
 unfold slices_swapRangeCmpFunc_int__impl_ShelfPlan_1.f at H
 refine OkF.of (N := 38) (rs := []) (avs := []) Try.func65 rfl rfl (fun _ _ => results_none rfl _ _ _) (by decide) rfl rfl rfl rfl (fun w0 S => ?_)
 refine AG.seq ?_
 refine AG.region HM ?_
 refine a_move (v := vI _) ?_
 refine RA.nil nofun ?_
 refine AG.block ?_
 refine AG.loop ?_
 obtain ⟨K0, hK0, gK0⟩ : ∃ K, k ≤ K ∧ K ≤ k := ⟨k, Nat.le_refl k, Nat.le_refl k⟩
 refine AGr.canon id (AGr.loopI (n := k) (fun k s => k ≤ K0 ∧ ∃ (x0 : List Int) (x1 : Int) (x2 : Int) (x3 : Int) (x10 : Int), slices_swapRangeCmpFunc_int__impl_ShelfPlan_1.l0 k x0 x1 x2 x3 x10 = some r ∧ s = St.of [(0, .c (.own 0 x0.length)), (1, vI x1), (2, vI x2), (3, vI x3), (10, vI x10)] [(0, .row 3 (x0.map c3))]) ⟨hK0, _, _, _, _, _, H, rfl⟩ ?_ ?_) ⟨rfl, rfl, rfl, rfl, rfl, trivial⟩ ⟨rfl, trivial⟩ rfl
 ·rintro _ ⟨_, _, _, _, _, _, H, _⟩
  cases H
 ·clear H hK0
  rintro k ih0 _ ⟨hK0, x0, x1, x2, x3, x10, H, rfl⟩
  unfold slices_swapRangeCmpFunc_int__impl_ShelfPlan_1.l0 at H
  refine AG.seq ?_
  refine AG.seq ?_
  refine AG.region HM ?_
  refine a_move (v := vI _) ?_
  refine a_move (v := vI _) ?_
  refine a_int (u := .bool (decide (x10 < x3))) ?_
  refine RA.nil nofun ?_
  by_cases hc1 : x10 < x3
  ·rw [if_pos hc1] at H
   refine AG.yes rfl (decide_eq_true hc1) ?_
   refine AG.skip ?_
   refine AG.seq ?_
   refine AG.block ?_
   refine AG.region HM ?_
   refine a_move (v := .c (.own _ _)) ?_
   refine a_move (v := vI _) ?_
   refine a_move (v := vI _) ?_
   refine a_int (u := .int .i64 (wrap64 (x1 + x10))) ?_
   refine a_move (v := .c (.own _ _)) ?_
   refine a_move (v := vI _) ?_
   refine a_move (v := vI _) ?_
   refine a_int (u := .int .i64 (wrap64 (x2 + x10))) ?_
   refine a_move (v := .c (.own _ _)) ?_
   refine a_move (v := vI _) ?_
   refine a_move (v := vI _) ?_
   refine a_int (u := .int .i64 (wrap64 (x2 + x10))) ?_
   by_cases hc2 : 0 ≤ (wrap64 (x2 + x10))
   ·rw [if_pos hc2] at H
    by_cases hc3 : (wrap64 (x2 + x10)) < (x0.length : Int)
    ·rw [if_pos hc3] at H
     refine a_ixO ?_ ⟨hc2, hc3⟩ T3 Try.underlying50
     refine a_ldE (v := vI _) ?_ (G3 hc2 hc3) T3
     refine a_move (v := .c (.own _ _)) ?_
     refine a_move (v := vI _) ?_
     refine a_move (v := vI _) ?_
     refine a_int (u := .int .i64 (wrap64 (x1 + x10))) ?_
     by_cases hc4 : 0 ≤ (wrap64 (x1 + x10))
     ·rw [if_pos hc4] at H
      by_cases hc5 : (wrap64 (x1 + x10)) < (x0.length : Int)
      ·rw [if_pos hc5] at H
       refine a_ixO ?_ ⟨hc4, hc5⟩ T3 Try.underlying50
       refine a_ldE (v := vI _) ?_ (G3 hc4 hc5) T3
       refine a_ixO ?_ ⟨hc4, hc5⟩ T3 Try.underlying50
       refine a_stF (css' := (x0.set ((wrap64 (x1 + x10)) : Int).toNat (rd3 x0 (wrap64 (x2 + x10)))).map c3) ?_ (flat_map (fun _ => rfl)) (G3 hc4 hc5) T3 (hcss := by exact set_map rfl)
       refine a_ixO ?_ ⟨hc2, hc3⟩ T3 Try.underlying50
       refine a_stF (css' := ((x0.set ((wrap64 (x1 + x10)) : Int).toNat (rd3 x0 (wrap64 (x2 + x10)))).set ((wrap64 (x2 + x10)) : Int).toNat (rd3 x0 (wrap64 (x1 + x10)))).map c3) ?_ (flat_map (fun _ => rfl)) (G3 (l := (x0.set ((wrap64 (x1 + x10)) : Int).toNat (rd3 x0 (wrap64 (x2 + x10))))) (i := (wrap64 (x2 + x10))) hc2 (by simpa using hc3)) T3 (hcss := by exact set_map rfl)
       refine RA.nil (fun _ => by kernel_rfl) ?_
       refine AG.region HM ?_
       refine a_move (v := vI _) ?_
       refine a_int (u := .int .i64 (wrap64 (x10 + 1))) ?_
       refine a_move (v := vI _) ?_
       refine RA.nil nofun ?_
       exact AGr.canon id (ih0 _ (by omega) _ ⟨by omega, _, _, _, _, _, H, rfl⟩) ⟨(ownE rfl (by simp)), rfl, rfl, rfl, rfl, trivial⟩ ⟨rfl, trivial⟩ rfl
      ·rw [if_neg hc5] at H
       cases H
     ·rw [if_neg hc4] at H
      cases H
    ·rw [if_neg hc3] at H
     cases H
   ·rw [if_neg hc2] at H
    cases H
  ·rw [if_neg hc1] at H
   refine AG.no rfl (decide_eq_false hc1) ?_
   refine AG.exit ?_
   obtain rfl := Option.some.inj H
   exact RetP.mk (fun κ => cond (Nat.beq κ 0) 0 (κ)) trivial ⟨rfl, trivial⟩ rfl
/-! ### slices_rotateCmpFunc_int__impl_ShelfPlan_1: function 62 -/
def slices_rotateCmpFunc_int__impl_ShelfPlan_1.l0 : Nat → List Int → Int → List (List Int) → Int → Int → Option ((List Int))
 | 0, _, _, _, _, _ => none
 | k + 1, x0, x2, x4_0_0, x10, x11 => if x10 = x11 then ((slices_swapRangeCmpFunc_int__impl_ShelfPlan_1.f k x0 (wrap64 (x2 - x10)) x2 x10 x4_0_0).bind fun t2 => (some t2)) else (if x10 > x11 then ((slices_swapRangeCmpFunc_int__impl_ShelfPlan_1.f k x0 (wrap64 (x2 - x10)) x2 x11 x4_0_0).bind fun t5 => (slices_rotateCmpFunc_int__impl_ShelfPlan_1.l0 k t5 x2 x4_0_0 (wrap64 (x10 - x11)) x11)) else ((slices_swapRangeCmpFunc_int__impl_ShelfPlan_1.f k x0 (wrap64 (x2 - x10)) (wrap64 ((wrap64 (x2 + x11)) - x10)) x10 x4_0_0).bind fun t7 => (slices_rotateCmpFunc_int__impl_ShelfPlan_1.l0 k t7 x2 x4_0_0 x10 (wrap64 (x11 - x10)))))
def slices_rotateCmpFunc_int__impl_ShelfPlan_1.f (k : Nat) (l0 : List Int) (a1 : Int) (a2 : Int) (a3 : Int) (v4_0_0 : List (List Int)) : Option ((List Int)) := slices_rotateCmpFunc_int__impl_ShelfPlan_1.l0 k l0 a2 v4_0_0 (wrap64 (a2 - a1)) (wrap64 (a3 - a2))
set_option maxRecDepth 100000 in
theorem slices_rotateCmpFunc_int__impl_ShelfPlan_1.ok {k : Nat} {l0 : List Int} {a1 : Int} {a2 : Int} {a3 : Int} {v4_0_0 : List (List Int)} {r : List Int} (H : slices_rotateCmpFunc_int__impl_ShelfPlan_1.f k l0 a1 a2 a3 v4_0_0 = some r) : OkF Try.prog 62 [.c (.own 0 l0.length), vI a1, vI a2, vI a3, .c (.d (.fn 32 [.ro [.row 36 (v4_0_0.map c36)]]))] [(0, .row 3 (l0.map c3))] (.tup []) [(0, .row 3 (r.map c3))] := by
 unfold slices_rotateCmpFunc_int__impl_ShelfPlan_1.f at H
 refine OkF.of (N := 58) (rs := []) (avs := []) Try.func62 rfl rfl (fun _ _ => results_none rfl _ _ _) (by decide) rfl rfl rfl rfl (fun w0 S => ?_)
 refine AG.seq ?_
 refine AG.region HM ?_
 refine a_move (v := vI _) ?_
 refine a_move (v := vI _) ?_
 refine a_int (u := .int .i64 (wrap64 (a2 - a1))) ?_
 refine a_move (v := vI _) ?_
 refine RA.nil nofun ?_
 refine AG.seq ?_
 refine AG.region HM ?_
 refine a_move (v := vI _) ?_
 refine a_move (v := vI _) ?_
 refine a_int (u := .int .i64 (wrap64 (a3 - a2))) ?_
 refine a_move (v := vI _) ?_
 refine RA.nil nofun ?_
 refine AG.seq ?_
 refine AG.block ?_
 refine AG.loop ?_
 obtain ⟨K0, hK0, gK0⟩ : ∃ K, k ≤ K ∧ K ≤ k := ⟨k, Nat.le_refl k, Nat.le_refl k⟩
 refine AGr.canon id (AGr.loopI (n := k) (fun k s => k ≤ K0 ∧ ∃ (x0 : List Int) (x2 : Int) (x4_0_0 : List (List Int)) (x10 : Int) (x11 : Int), slices_rotateCmpFunc_int__impl_ShelfPlan_1.l0 k x0 x2 x4_0_0 x10 x11 = some r ∧ s = St.of [(0, .c (.own 0 x0.length)), (2, vI x2), (4, .c (.d (.fn 32 [.ro [.row 36 (x4_0_0.map c36)]]))), (10, vI x10), (11, vI x11)] [(0, .row 3 (x0.map c3))]) ⟨hK0, _, _, _, _, _, H, rfl⟩ ?_ ?_) ⟨rfl, rfl, rfl, rfl, rfl, trivial⟩ ⟨rfl, trivial⟩ rfl
 ·rintro _ ⟨_, _, _, _, _, _, H, _⟩
  cases H
 ·clear H hK0
  rintro k ih0 _ ⟨hK0, x0, x2, x4_0_0, x10, x11, H, rfl⟩
  unfold slices_rotateCmpFunc_int__impl_ShelfPlan_1.l0 at H
  refine AG.seq ?_
  refine AG.seq ?_
  refine AG.region HM ?_
  refine a_move (v := vI _) ?_
  refine a_move (v := vI _) ?_
  refine a_int (u := .bool ((x10 != x11))) ?_
  refine RA.nil nofun ?_
  by_cases hc1 : x10 = x11
  ·rw [if_pos hc1] at H
   refine AG.no rfl (bne_eq_false_iff_eq.2 hc1) ?_
   refine AG.exit ?_
   refine AG.region HM ?_
   refine a_move (v := .c (.own _ _)) ?_
   refine a_move (v := vI _) ?_
   refine a_move (v := vI _) ?_
   refine a_int (u := .int .i64 (wrap64 (x2 - x10))) ?_
   refine a_move (v := vI _) ?_
   refine a_move (v := vI _) ?_
   refine a_move (v := .c (.d (.fn _ _))) ?_
   obtain ⟨t2, e3, H⟩ := bindO H
   refine a_callM (v := .tup []) (nk := []) (L := []) (Mk := [(0, _)]) (ck := [(0, .row 3 (t2.map c3))]) ?_ rfl (slices_swapRangeCmpFunc_int__impl_ShelfPlan_1.ok e3) id id (mcO (mcD (mcD (mcD (mcD m0))))) trivial ⟨rfl, trivial⟩ trivial ⟨rfl, trivial⟩ trivial ⟨rfl, trivial⟩ rfl rfl rfl
   refine RA.nil nofun ?_
   obtain rfl := Option.some.inj H
   exact RetP.mk (fun κ => cond (Nat.beq κ 0) 0 (κ)) trivial ⟨rfl, trivial⟩ rfl
  ·rw [if_neg hc1] at H
   refine AG.yes rfl (bne_iff_ne.2 hc1) ?_
   refine AG.skip ?_
   refine AG.block ?_
   refine AG.seq ?_
   refine AG.region HM ?_
   refine a_move (v := vI _) ?_
   refine a_move (v := vI _) ?_
   refine a_int (u := .bool (decide (x10 > x11))) ?_
   refine RA.nil nofun ?_
   by_cases hc4 : x10 > x11
   ·rw [if_pos hc4] at H
    refine AG.yes rfl (decide_eq_true hc4) ?_
    refine AG.seq ?_
    refine AG.region HM ?_
    refine a_move (v := .c (.own _ _)) ?_
    refine a_move (v := vI _) ?_
    refine a_move (v := vI _) ?_
    refine a_int (u := .int .i64 (wrap64 (x2 - x10))) ?_
    refine a_move (v := vI _) ?_
    refine a_move (v := vI _) ?_
    refine a_move (v := .c (.d (.fn _ _))) ?_
    obtain ⟨t5, e6, H⟩ := bindO H
    refine a_callM (v := .tup []) (nk := []) (L := []) (Mk := [(0, _)]) (ck := [(0, .row 3 (t5.map c3))]) ?_ rfl (slices_swapRangeCmpFunc_int__impl_ShelfPlan_1.ok e6) id id (mcO (mcD (mcD (mcD (mcD m0))))) trivial ⟨rfl, trivial⟩ trivial ⟨rfl, trivial⟩ trivial ⟨rfl, trivial⟩ rfl rfl rfl
    refine RA.nil nofun ?_
    refine AG.relen 0 t5.length ?_
    refine AG.region HM ?_
    refine a_move (v := vI _) ?_
    refine a_move (v := vI _) ?_
    refine a_int (u := .int .i64 (wrap64 (x10 - x11))) ?_
    refine a_move (v := vI _) ?_
    refine RA.nil nofun ?_
    exact AGr.canon id (ih0 _ (by omega) _ ⟨by omega, _, _, _, _, _, H, rfl⟩) ⟨rfl, rfl, rfl, rfl, rfl, trivial⟩ ⟨rfl, trivial⟩ rfl
   ·rw [if_neg hc4] at H
    refine AG.no rfl (decide_eq_false hc4) ?_
    refine AG.seq ?_
    refine AG.region HM ?_
    refine a_move (v := .c (.own _ _)) ?_
    refine a_move (v := vI _) ?_
    refine a_move (v := vI _) ?_
    refine a_int (u := .int .i64 (wrap64 (x2 - x10))) ?_
    refine a_move (v := vI _) ?_
    refine a_move (v := vI _) ?_
    refine a_int (u := .int .i64 (wrap64 (x2 + x11))) ?_
    refine a_move (v := vI _) ?_
    refine a_int (u := .int .i64 (wrap64 ((wrap64 (x2 + x11)) - x10))) ?_
    refine a_move (v := vI _) ?_
    refine a_move (v := .c (.d (.fn _ _))) ?_
    obtain ⟨t7, e8, H⟩ := bindO H
    refine a_callM (v := .tup []) (nk := []) (L := []) (Mk := [(0, _)]) (ck := [(0, .row 3 (t7.map c3))]) ?_ rfl (slices_swapRangeCmpFunc_int__impl_ShelfPlan_1.ok e8) id id (mcO (mcD (mcD (mcD (mcD m0))))) trivial ⟨rfl, trivial⟩ trivial ⟨rfl, trivial⟩ trivial ⟨rfl, trivial⟩ rfl rfl rfl
    refine RA.nil nofun ?_
    refine AG.relen 0 t7.length ?_
    refine AG.region HM ?_
    refine a_move (v := vI _) ?_
    refine a_move (v := vI _) ?_
    refine a_int (u := .int .i64 (wrap64 (x11 - x10))) ?_
    refine a_move (v := vI _) ?_
    refine RA.nil nofun ?_
    exact AGr.canon id (ih0 _ (by omega) _ ⟨by omega, _, _, _, _, _, H, rfl⟩) ⟨rfl, rfl, rfl, rfl, rfl, trivial⟩ ⟨rfl, trivial⟩ rfl
/-! ### slices_symMergeCmpFunc_int__impl_ShelfPlan_1: function 56 -/
mutual
def slices_symMergeCmpFunc_int__impl_ShelfPlan_1.l0 (F : (List Int) → Int → Int → Int → (List (List Int)) → Option ((List Int))) : Nat → List Int → Int → List (List Int) → Int → Int → Option ((List Int))
 | 0, _, _, _, _, _ => none
 | k + 1, x0, x1, x4_0_0, x10, x11 => if x10 < x11 then (if 0 ≤ (wrap64 (Int.fdiv ((wrap64 (x10 + x11)) % 18446744073709551616) 2)) then (if (wrap64 (Int.fdiv ((wrap64 (x10 + x11)) % 18446744073709551616) 2)) < (x0.length : Int) then (if 0 ≤ x1 then (if x1 < (x0.length : Int) then ((impl_ShelfPlan_1.f (rd3 x0 (wrap64 (Int.fdiv ((wrap64 (x10 + x11)) % 18446744073709551616) 2))) (rd3 x0 x1) x4_0_0).bind fun t7 => (if t7 < 0 then (slices_symMergeCmpFunc_int__impl_ShelfPlan_1.l0 F k x0 x1 x4_0_0 (wrap64 ((wrap64 (Int.fdiv ((wrap64 (x10 + x11)) % 18446744073709551616) 2)) + 1)) x11) else (slices_symMergeCmpFunc_int__impl_ShelfPlan_1.l0 F k x0 x1 x4_0_0 x10 (wrap64 (Int.fdiv ((wrap64 (x10 + x11)) % 18446744073709551616) 2))))) else (none)) else (none)) else (none)) else (none)) else (slices_symMergeCmpFunc_int__impl_ShelfPlan_1.l1 F k x0 x10 x1)
def slices_symMergeCmpFunc_int__impl_ShelfPlan_1.l1 (F : (List Int) → Int → Int → Int → (List (List Int)) → Option ((List Int))) : Nat → List Int → Int → Int → Option ((List Int))
 | 0, _, _, _ => none
 | k + 1, x0, x10, x13 => if x13 < (wrap64 (x10 - 1)) then (if 0 ≤ (wrap64 (x13 + 1)) then (if (wrap64 (x13 + 1)) < (x0.length : Int) then (if 0 ≤ x13 then (if x13 < (x0.length : Int) then (slices_symMergeCmpFunc_int__impl_ShelfPlan_1.l1 F k ((x0.set (x13 : Int).toNat (rd3 x0 (wrap64 (x13 + 1)))).set ((wrap64 (x13 + 1)) : Int).toNat (rd3 x0 x13)) x10 (wrap64 (x13 + 1))) else (none)) else (none)) else (none)) else (none)) else (some x0)
def slices_symMergeCmpFunc_int__impl_ShelfPlan_1.l2 (F : (List Int) → Int → Int → Int → (List (List Int)) → Option ((List Int))) : Nat → List Int → Int → List (List Int) → Int → Int → Option ((List Int))
 | 0, _, _, _, _, _ => none
 | k + 1, x0, x2, x4_0_0, x14, x15 => if x14 < x15 then (if 0 ≤ x2 then (if x2 < (x0.length : Int) then (if 0 ≤ (wrap64 (Int.fdiv ((wrap64 (x14 + x15)) % 18446744073709551616) 2)) then (if (wrap64 (Int.fdiv ((wrap64 (x14 + x15)) % 18446744073709551616) 2)) < (x0.length : Int) then ((impl_ShelfPlan_1.f (rd3 x0 x2) (rd3 x0 (wrap64 (Int.fdiv ((wrap64 (x14 + x15)) % 18446744073709551616) 2))) x4_0_0).bind fun t23 => (if t23 < 0 then (slices_symMergeCmpFunc_int__impl_ShelfPlan_1.l2 F k x0 x2 x4_0_0 x14 (wrap64 (Int.fdiv ((wrap64 (x14 + x15)) % 18446744073709551616) 2))) else (slices_symMergeCmpFunc_int__impl_ShelfPlan_1.l2 F k x0 x2 x4_0_0 (wrap64 ((wrap64 (Int.fdiv ((wrap64 (x14 + x15)) % 18446744073709551616) 2)) + 1)) x15))) else (none)) else (none)) else (none)) else (none)) else (slices_symMergeCmpFunc_int__impl_ShelfPlan_1.l3 F k x0 x14 x2)
def slices_symMergeCmpFunc_int__impl_ShelfPlan_1.l3 (F : (List Int) → Int → Int → Int → (List (List Int)) → Option ((List Int))) : Nat → List Int → Int → Int → Option ((List Int))
 | 0, _, _, _ => none
 | k + 1, x0, x14, x17 => if x17 > x14 then (if 0 ≤ (wrap64 (x17 - 1)) then (if (wrap64 (x17 - 1)) < (x0.length : Int) then (if 0 ≤ x17 then (if x17 < (x0.length : Int) then (slices_symMergeCmpFunc_int__impl_ShelfPlan_1.l3 F k ((x0.set (x17 : Int).toNat (rd3 x0 (wrap64 (x17 - 1)))).set ((wrap64 (x17 - 1)) : Int).toNat (rd3 x0 x17)) x14 (wrap64 (x17 - 1))) else (none)) else (none)) else (none)) else (none)) else (some x0)
def slices_symMergeCmpFunc_int__impl_ShelfPlan_1.j0 (F : (List Int) → Int → Int → Int → (List (List Int)) → Option ((List Int))) : Nat → List Int → Int → Int → Int → List (List Int) → Int → Int → Int → Int → Option ((List Int))
 | 0, _, _, _, _, _, _, _, _, _ => none
 | k + 1, x0, x1, x2, x3, x4_0_0, x18, x19, x20, x21 => slices_symMergeCmpFunc_int__impl_ShelfPlan_1.l4 F k x0 x1 x2 x3 x4_0_0 x18 x19 x20 x21 (wrap64 (x19 - 1))
def slices_symMergeCmpFunc_int__impl_ShelfPlan_1.l4 (F : (List Int) → Int → Int → Int → (List (List Int)) → Option ((List Int))) : Nat → List Int → Int → Int → Int → List (List Int) → Int → Int → Int → Int → Int → Option ((List Int))
 | 0, _, _, _, _, _, _, _, _, _, _ => none
 | k + 1, x0, x1, x2, x3, x4_0_0, x18, x19, x20, x21, x22 => if x20 < x21 then (if 0 ≤ (wrap64 (x22 - (wrap64 (Int.fdiv ((wrap64 (x20 + x21)) % 18446744073709551616) 2)))) then (if (wrap64 (x22 - (wrap64 (Int.fdiv ((wrap64 (x20 + x21)) % 18446744073709551616) 2)))) < (x0.length : Int) then (if 0 ≤ (wrap64 (Int.fdiv ((wrap64 (x20 + x21)) % 18446744073709551616) 2)) then (if (wrap64 (Int.fdiv ((wrap64 (x20 + x21)) % 18446744073709551616) 2)) < (x0.length : Int) then ((impl_ShelfPlan_1.f (rd3 x0 (wrap64 (x22 - (wrap64 (Int.fdiv ((wrap64 (x20 + x21)) % 18446744073709551616) 2))))) (rd3 x0 (wrap64 (Int.fdiv ((wrap64 (x20 + x21)) % 18446744073709551616) 2))) x4_0_0).bind fun t39 => (if t39 < 0 then (slices_symMergeCmpFunc_int__impl_ShelfPlan_1.l4 F k x0 x1 x2 x3 x4_0_0 x18 x19 x20 (wrap64 (Int.fdiv ((wrap64 (x20 + x21)) % 18446744073709551616) 2)) x22) else (slices_symMergeCmpFunc_int__impl_ShelfPlan_1.l4 F k x0 x1 x2 x3 x4_0_0 x18 x19 (wrap64 ((wrap64 (Int.fdiv ((wrap64 (x20 + x21)) % 18446744073709551616) 2)) + 1)) x21 x22))) else (none)) else (none)) else (none)) else (none)) else (if x20 < x2 then (slices_symMergeCmpFunc_int__impl_ShelfPlan_1.j1 F k x0 x1 x2 x3 x4_0_0 x18 x20 (wrap64 (x19 - x20)) (decide (x2 < (wrap64 (x19 - x20))))) else (slices_symMergeCmpFunc_int__impl_ShelfPlan_1.j1 F k x0 x1 x2 x3 x4_0_0 x18 x20 (wrap64 (x19 - x20)) false))
def slices_symMergeCmpFunc_int__impl_ShelfPlan_1.j1 (F : (List Int) → Int → Int → Int → (List (List Int)) → Option ((List Int))) : Nat → List Int → Int → Int → Int → List (List Int) → Int → Int → Int → Bool → Option ((List Int))
 | 0, _, _, _, _, _, _, _, _, _ => none
 | k + 1, x0, x1, x2, x3, x4_0_0, x18, x20, x24, x185 => if x185 = true then ((slices_rotateCmpFunc_int__impl_ShelfPlan_1.f k x0 x20 x2 x24 x4_0_0).bind fun t44 => (slices_symMergeCmpFunc_int__impl_ShelfPlan_1.j2 F k t44 x1 x3 x4_0_0 x18 x20 x24)) else (slices_symMergeCmpFunc_int__impl_ShelfPlan_1.j2 F k x0 x1 x3 x4_0_0 x18 x20 x24)
def slices_symMergeCmpFunc_int__impl_ShelfPlan_1.j2 (F : (List Int) → Int → Int → Int → (List (List Int)) → Option ((List Int))) : Nat → List Int → Int → Int → List (List Int) → Int → Int → Int → Option ((List Int))
 | 0, _, _, _, _, _, _, _ => none
 | k + 1, x0, x1, x3, x4_0_0, x18, x20, x24 => if x1 < x20 then (slices_symMergeCmpFunc_int__impl_ShelfPlan_1.j3 F k x0 x1 x3 x4_0_0 x18 x20 x24 (decide (x20 < x18))) else (slices_symMergeCmpFunc_int__impl_ShelfPlan_1.j3 F k x0 x1 x3 x4_0_0 x18 x20 x24 false)
def slices_symMergeCmpFunc_int__impl_ShelfPlan_1.j3 (F : (List Int) → Int → Int → Int → (List (List Int)) → Option ((List Int))) : Nat → List Int → Int → Int → List (List Int) → Int → Int → Int → Bool → Option ((List Int))
 | 0, _, _, _, _, _, _, _, _ => none
 | k + 1, x0, x1, x3, x4_0_0, x18, x20, x24, x199 => if x199 = true then ((F x0 x1 x20 x18 x4_0_0).bind fun t48 => (if x18 < x24 then (if x24 < x3 then ((F t48 x18 x24 x3 x4_0_0).bind fun t52 => (some t52)) else (some t48)) else (some t48))) else (if x18 < x24 then (if x24 < x3 then ((F x0 x18 x24 x3 x4_0_0).bind fun t56 => (some t56)) else (some x0)) else (some x0))
end
def slices_symMergeCmpFunc_int__impl_ShelfPlan_1.g (F : (List Int) → Int → Int → Int → (List (List Int)) → Option ((List Int))) (k : Nat) (l0 : List Int) (a1 : Int) (a2 : Int) (a3 : Int) (v4_0_0 : List (List Int)) : Option ((List Int)) := if (wrap64 (a2 - a1)) = 1 then (slices_symMergeCmpFunc_int__impl_ShelfPlan_1.l0 F k l0 a1 v4_0_0 a2 a3) else (if (wrap64 (a3 - a2)) = 1 then (slices_symMergeCmpFunc_int__impl_ShelfPlan_1.l2 F k l0 a2 v4_0_0 a1 a2) else (if a2 > (wrap64 (Int.fdiv ((wrap64 (a1 + a3)) % 18446744073709551616) 2)) then (slices_symMergeCmpFunc_int__impl_ShelfPlan_1.j0 F k l0 a1 a2 a3 v4_0_0 (wrap64 (Int.fdiv ((wrap64 (a1 + a3)) % 18446744073709551616) 2)) (wrap64 ((wrap64 (Int.fdiv ((wrap64 (a1 + a3)) % 18446744073709551616) 2)) + a2)) (wrap64 ((wrap64 ((wrap64 (Int.fdiv ((wrap64 (a1 + a3)) % 18446744073709551616) 2)) + a2)) - a3)) (wrap64 (Int.fdiv ((wrap64 (a1 + a3)) % 18446744073709551616) 2))) else (slices_symMergeCmpFunc_int__impl_ShelfPlan_1.j0 F k l0 a1 a2 a3 v4_0_0 (wrap64 (Int.fdiv ((wrap64 (a1 + a3)) % 18446744073709551616) 2)) (wrap64 ((wrap64 (Int.fdiv ((wrap64 (a1 + a3)) % 18446744073709551616) 2)) + a2)) a1 a2)))
def slices_symMergeCmpFunc_int__impl_ShelfPlan_1.r : Nat → (List Int) → Int → Int → Int → (List (List Int)) → Option ((List Int))
 | 0, _, _, _, _, _ => none
 | k + 1, l0, a1, a2, a3, v4_0_0 => slices_symMergeCmpFunc_int__impl_ShelfPlan_1.g (slices_symMergeCmpFunc_int__impl_ShelfPlan_1.r k) k l0 a1 a2 a3 v4_0_0
def slices_symMergeCmpFunc_int__impl_ShelfPlan_1.f (k : Nat) (l0 : List Int) (a1 : Int) (a2 : Int) (a3 : Int) (v4_0_0 : List (List Int)) : Option ((List Int)) := slices_symMergeCmpFunc_int__impl_ShelfPlan_1.r k l0 a1 a2 a3 v4_0_0
set_option maxRecDepth 100000 in
theorem slices_symMergeCmpFunc_int__impl_ShelfPlan_1.gok {F : (List Int) → Int → Int → Int → (List (List Int)) → Option ((List Int))} (hF : ∀ {l0 : List Int} {a1 : Int} {a2 : Int} {a3 : Int} {v4_0_0 : List (List Int)} {r : List Int}, F l0 a1 a2 a3 v4_0_0 = some r → OkF Try.prog 56 [.c (.own 0 l0.length), vI a1, vI a2, vI a3, .c (.d (.fn 32 [.ro [.row 36 (v4_0_0.map c36)]]))] [(0, .row 3 (l0.map c3))] (.tup []) [(0, .row 3 (r.map c3))]) {k : Nat} {l0 : List Int} {a1 : Int} {a2 : Int} {a3 : Int} {v4_0_0 : List (List Int)} {r : List Int} (H : slices_symMergeCmpFunc_int__impl_ShelfPlan_1.g F k l0 a1 a2 a3 v4_0_0 = some r) : OkF Try.prog 56 [.c (.own 0 l0.length), vI a1, vI a2, vI a3, .c (.d (.fn 32 [.ro [.row 36 (v4_0_0.map c36)]]))] [(0, .row 3 (l0.map c3))] (.tup []) [(0, .row 3 (r.map c3))] := by
 unfold slices_symMergeCmpFunc_int__impl_ShelfPlan_1.g at H
 refine OkF.of (N := 220) (rs := []) (avs := []) Try.func56 rfl rfl (fun _ _ => results_none rfl _ _ _) (by decide) rfl rfl rfl rfl (fun w0 S => ?_)
 refine AG.seq ?_
 refine AG.seq ?_
 refine AG.region HM ?_
 refine a_move (v := vI _) ?_
 refine a_move (v := vI _) ?_
 refine a_int (u := .int .i64 (wrap64 (a2 - a1))) ?_
 refine a_int (u := .bool (((wrap64 (a2 - a1)) == 1))) ?_
 refine RA.nil nofun ?_
 by_cases hc1 : (wrap64 (a2 - a1)) = 1
 ·rw [if_pos hc1] at H
  refine AG.yes rfl (beq_iff_eq.2 hc1) ?_
  refine AG.seq ?_
  refine AG.region HM ?_
  refine a_move (v := vI _) ?_
  refine a_move (v := vI _) ?_
  refine RA.nil nofun ?_
  refine AG.seq ?_
  refine AG.region HM ?_
  refine a_move (v := vI _) ?_
  refine a_move (v := vI _) ?_
  refine RA.nil nofun ?_
  refine AG.seq ?_
  refine AG.block ?_
  refine AG.loop ?_
  obtain ⟨K0, hK0, gK0⟩ : ∃ K, k ≤ K ∧ K ≤ k := ⟨k, Nat.le_refl k, Nat.le_refl k⟩
  refine AGr.canon id (AGr.loopI (n := k) (fun k s => k ≤ K0 ∧ ∃ (x0 : List Int) (x1 : Int) (x4_0_0 : List (List Int)) (x10 : Int) (x11 : Int), slices_symMergeCmpFunc_int__impl_ShelfPlan_1.l0 F k x0 x1 x4_0_0 x10 x11 = some r ∧ s = St.of [(0, .c (.own 0 x0.length)), (1, vI x1), (4, .c (.d (.fn 32 [.ro [.row 36 (x4_0_0.map c36)]]))), (10, vI x10), (11, vI x11)] [(0, .row 3 (x0.map c3))]) ⟨hK0, _, _, _, _, _, H, rfl⟩ ?_ ?_) ⟨rfl, rfl, rfl, rfl, rfl, trivial⟩ ⟨rfl, trivial⟩ rfl
  ·rintro _ ⟨_, _, _, _, _, _, H, _⟩
   cases H
  ·clear H hK0
   rintro k ih0 _ ⟨hK0, x0, x1, x4_0_0, x10, x11, H, rfl⟩
   unfold slices_symMergeCmpFunc_int__impl_ShelfPlan_1.l0 at H
   refine AG.seq ?_
   refine AG.seq ?_
   refine AG.region HM ?_
   refine a_move (v := vI _) ?_
   refine a_move (v := vI _) ?_
   refine a_int (u := .bool (decide (x10 < x11))) ?_
   refine RA.nil nofun ?_
   by_cases hc2 : x10 < x11
   ·rw [if_pos hc2] at H
    refine AG.yes rfl (decide_eq_true hc2) ?_
    refine AG.skip ?_
    refine AG.block ?_
    refine AG.seq ?_
    refine AG.region HM ?_
    refine a_move (v := vI _) ?_
    refine a_move (v := vI _) ?_
    refine a_int (u := .int .i64 (wrap64 (x10 + x11))) ?_
    refine a_conv (j := (wrap64 (x10 + x11)) % 18446744073709551616) ?_ Try.underlying3 Try.underlying82
    refine a_bin (u := .int .u64 (Int.fdiv ((wrap64 (x10 + x11)) % 18446744073709551616) 2)) ?_ (hp := by exact rfl)
    refine a_conv (j := wrap64 (Int.fdiv ((wrap64 (x10 + x11)) % 18446744073709551616) 2)) ?_ Try.underlying82 Try.underlying3
    refine a_move (v := vI _) ?_
    refine RA.nil nofun ?_
    refine AG.seq ?_
    refine AG.region HM ?_
    refine a_move (v := .c (.d (.fn _ _))) ?_
    refine a_move (v := .c (.own _ _)) ?_
    refine a_move (v := vI _) ?_
    by_cases hc3 : 0 ≤ (wrap64 (Int.fdiv ((wrap64 (x10 + x11)) % 18446744073709551616) 2))
    ·rw [if_pos hc3] at H
     by_cases hc4 : (wrap64 (Int.fdiv ((wrap64 (x10 + x11)) % 18446744073709551616) 2)) < (x0.length : Int)
     ·rw [if_pos hc4] at H
      refine a_ixO ?_ ⟨hc3, hc4⟩ T3 Try.underlying50
      refine a_ldE (v := vI _) ?_ (G3 hc3 hc4) T3
      refine a_move (v := .c (.own _ _)) ?_
      refine a_move (v := vI _) ?_
      by_cases hc5 : 0 ≤ x1
      ·rw [if_pos hc5] at H
       by_cases hc6 : x1 < (x0.length : Int)
       ·rw [if_pos hc6] at H
        refine a_ixO ?_ ⟨hc5, hc6⟩ T3 Try.underlying50
        refine a_ldE (v := vI _) ?_ (G3 hc5 hc6) T3
        obtain ⟨t7, e8, H⟩ := bindO H
        refine a_callW (v := vI t7) (nk := []) (L := []) ?_ rfl rfl (impl_ShelfPlan_1.ok e8) id (qd (qd qn)) rfl trivial trivial trivial rfl
        refine a_int (u := .bool (decide (t7 < 0))) ?_
        refine RA.nil (fun _ => by kernel_rfl) ?_
        by_cases hc9 : t7 < 0
        ·rw [if_pos hc9] at H
         refine AG.yes rfl (decide_eq_true hc9) ?_
         refine AG.region HM ?_
         refine a_move (v := vI _) ?_
         refine a_int (u := .int .i64 (wrap64 ((wrap64 (Int.fdiv ((wrap64 (x10 + x11)) % 18446744073709551616) 2)) + 1))) ?_
         refine a_move (v := vI _) ?_
         refine RA.nil nofun ?_
         exact AGr.canon id (ih0 _ (by omega) _ ⟨by omega, _, _, _, _, _, H, rfl⟩) ⟨rfl, rfl, rfl, rfl, rfl, trivial⟩ ⟨rfl, trivial⟩ rfl
        ·rw [if_neg hc9] at H
         refine AG.no rfl (decide_eq_false hc9) ?_
         refine AG.region HM ?_
         refine a_move (v := vI _) ?_
         refine a_move (v := vI _) ?_
         refine RA.nil nofun ?_
         exact AGr.canon id (ih0 _ (by omega) _ ⟨by omega, _, _, _, _, _, H, rfl⟩) ⟨rfl, rfl, rfl, rfl, rfl, trivial⟩ ⟨rfl, trivial⟩ rfl
       ·rw [if_neg hc6] at H
        cases H
      ·rw [if_neg hc5] at H
       cases H
     ·rw [if_neg hc4] at H
      cases H
    ·rw [if_neg hc3] at H
     cases H
   ·rw [if_neg hc2] at H
    refine AG.no rfl (decide_eq_false hc2) ?_
    refine AG.exit ?_
    refine AG.seq ?_
    refine AG.seq ?_
    refine AG.region HM ?_
    refine a_move (v := vI _) ?_
    refine a_move (v := vI _) ?_
    refine RA.nil nofun ?_
    refine AG.block ?_
    refine AG.loop ?_
    obtain ⟨K1, hK1, gK1⟩ : ∃ K, k ≤ K ∧ K ≤ k := ⟨k, Nat.le_refl k, Nat.le_refl k⟩
    refine AGr.canon id (AGr.loopI (n := k) (fun k s => k ≤ K1 ∧ ∃ (x0 : List Int) (x10 : Int) (x13 : Int), slices_symMergeCmpFunc_int__impl_ShelfPlan_1.l1 F k x0 x10 x13 = some r ∧ s = St.of [(0, .c (.own 0 x0.length)), (10, vI x10), (13, vI x13)] [(0, .row 3 (x0.map c3))]) ⟨hK1, _, _, _, H, rfl⟩ ?_ ?_) ⟨rfl, rfl, rfl, trivial⟩ ⟨rfl, trivial⟩ rfl
    ·rintro _ ⟨_, _, _, _, H, _⟩
     cases H
    ·clear H hK1
     rintro k ih1 _ ⟨hK1, x0, x10, x13, H, rfl⟩
     unfold slices_symMergeCmpFunc_int__impl_ShelfPlan_1.l1 at H
     refine AG.seq ?_
     refine AG.seq ?_
     refine AG.region HM ?_
     refine a_move (v := vI _) ?_
     refine a_move (v := vI _) ?_
     refine a_int (u := .int .i64 (wrap64 (x10 - 1))) ?_
     refine a_int (u := .bool (decide (x13 < (wrap64 (x10 - 1))))) ?_
     refine RA.nil nofun ?_
     by_cases hc10 : x13 < (wrap64 (x10 - 1))
     ·rw [if_pos hc10] at H
      refine AG.yes rfl (decide_eq_true hc10) ?_
      refine AG.skip ?_
      refine AG.seq ?_
      refine AG.block ?_
      refine AG.region HM ?_
      refine a_move (v := .c (.own _ _)) ?_
      refine a_move (v := vI _) ?_
      refine a_move (v := .c (.own _ _)) ?_
      refine a_move (v := vI _) ?_
      refine a_int (u := .int .i64 (wrap64 (x13 + 1))) ?_
      refine a_move (v := .c (.own _ _)) ?_
      refine a_move (v := vI _) ?_
      refine a_int (u := .int .i64 (wrap64 (x13 + 1))) ?_
      by_cases hc11 : 0 ≤ (wrap64 (x13 + 1))
      ·rw [if_pos hc11] at H
       by_cases hc12 : (wrap64 (x13 + 1)) < (x0.length : Int)
       ·rw [if_pos hc12] at H
        refine a_ixO ?_ ⟨hc11, hc12⟩ T3 Try.underlying50
        refine a_ldE (v := vI _) ?_ (G3 hc11 hc12) T3
        refine a_move (v := .c (.own _ _)) ?_
        refine a_move (v := vI _) ?_
        by_cases hc13 : 0 ≤ x13
        ·rw [if_pos hc13] at H
         by_cases hc14 : x13 < (x0.length : Int)
         ·rw [if_pos hc14] at H
          refine a_ixO ?_ ⟨hc13, hc14⟩ T3 Try.underlying50
          refine a_ldE (v := vI _) ?_ (G3 hc13 hc14) T3
          refine a_ixO ?_ ⟨hc13, hc14⟩ T3 Try.underlying50
          refine a_stF (css' := (x0.set (x13 : Int).toNat (rd3 x0 (wrap64 (x13 + 1)))).map c3) ?_ (flat_map (fun _ => rfl)) (G3 hc13 hc14) T3 (hcss := by exact set_map rfl)
          refine a_ixO ?_ ⟨hc11, hc12⟩ T3 Try.underlying50
          refine a_stF (css' := ((x0.set (x13 : Int).toNat (rd3 x0 (wrap64 (x13 + 1)))).set ((wrap64 (x13 + 1)) : Int).toNat (rd3 x0 x13)).map c3) ?_ (flat_map (fun _ => rfl)) (G3 (l := (x0.set (x13 : Int).toNat (rd3 x0 (wrap64 (x13 + 1))))) (i := (wrap64 (x13 + 1))) hc11 (by simpa using hc12)) T3 (hcss := by exact set_map rfl)
          refine RA.nil (fun _ => by kernel_rfl) ?_
          refine AG.region HM ?_
          refine a_move (v := vI _) ?_
          refine a_int (u := .int .i64 (wrap64 (x13 + 1))) ?_
          refine a_move (v := vI _) ?_
          refine RA.nil nofun ?_
          exact AGr.canon id (ih1 _ (by omega) _ ⟨by omega, _, _, _, H, rfl⟩) ⟨(ownE rfl (by simp)), rfl, rfl, trivial⟩ ⟨rfl, trivial⟩ rfl
         ·rw [if_neg hc14] at H
          cases H
        ·rw [if_neg hc13] at H
         cases H
       ·rw [if_neg hc12] at H
        cases H
      ·rw [if_neg hc11] at H
       cases H
     ·rw [if_neg hc10] at H
      refine AG.no rfl (decide_eq_false hc10) ?_
      refine AG.exit ?_
      refine AG.ret ?_
      obtain rfl := Option.some.inj H
      exact RetP.mk (fun κ => cond (Nat.beq κ 0) 0 (κ)) trivial ⟨rfl, trivial⟩ rfl
 ·rw [if_neg hc1] at H
  refine AG.no rfl (beq_eq_false_iff_ne.2 hc1) ?_
  refine AG.skip ?_
  refine AG.seq ?_
  refine AG.seq ?_
  refine AG.region HM ?_
  refine a_move (v := vI _) ?_
  refine a_move (v := vI _) ?_
  refine a_int (u := .int .i64 (wrap64 (a3 - a2))) ?_
  refine a_int (u := .bool (((wrap64 (a3 - a2)) == 1))) ?_
  refine RA.nil nofun ?_
  by_cases hc17 : (wrap64 (a3 - a2)) = 1
  ·rw [if_pos hc17] at H
   refine AG.yes rfl (beq_iff_eq.2 hc17) ?_
   refine AG.seq ?_
   refine AG.region HM ?_
   refine a_move (v := vI _) ?_
   refine a_move (v := vI _) ?_
   refine RA.nil nofun ?_
   refine AG.seq ?_
   refine AG.region HM ?_
   refine a_move (v := vI _) ?_
   refine a_move (v := vI _) ?_
   refine RA.nil nofun ?_
   refine AG.seq ?_
   refine AG.block ?_
   refine AG.loop ?_
   obtain ⟨K2, hK2, gK2⟩ : ∃ K, k ≤ K ∧ K ≤ k := ⟨k, Nat.le_refl k, Nat.le_refl k⟩
   refine AGr.canon id (AGr.loopI (n := k) (fun k s => k ≤ K2 ∧ ∃ (x0 : List Int) (x2 : Int) (x4_0_0 : List (List Int)) (x14 : Int) (x15 : Int), slices_symMergeCmpFunc_int__impl_ShelfPlan_1.l2 F k x0 x2 x4_0_0 x14 x15 = some r ∧ s = St.of [(0, .c (.own 0 x0.length)), (2, vI x2), (4, .c (.d (.fn 32 [.ro [.row 36 (x4_0_0.map c36)]]))), (14, vI x14), (15, vI x15)] [(0, .row 3 (x0.map c3))]) ⟨hK2, _, _, _, _, _, H, rfl⟩ ?_ ?_) ⟨rfl, rfl, rfl, rfl, rfl, trivial⟩ ⟨rfl, trivial⟩ rfl
   ·rintro _ ⟨_, _, _, _, _, _, H, _⟩
    cases H
   ·clear H hK2
    rintro k ih2 _ ⟨hK2, x0, x2, x4_0_0, x14, x15, H, rfl⟩
    unfold slices_symMergeCmpFunc_int__impl_ShelfPlan_1.l2 at H
    refine AG.seq ?_
    refine AG.seq ?_
    refine AG.region HM ?_
    refine a_move (v := vI _) ?_
    refine a_move (v := vI _) ?_
    refine a_int (u := .bool (decide (x14 < x15))) ?_
    refine RA.nil nofun ?_
    by_cases hc18 : x14 < x15
    ·rw [if_pos hc18] at H
     refine AG.yes rfl (decide_eq_true hc18) ?_
     refine AG.skip ?_
     refine AG.block ?_
     refine AG.seq ?_
     refine AG.region HM ?_
     refine a_move (v := vI _) ?_
     refine a_move (v := vI _) ?_
     refine a_int (u := .int .i64 (wrap64 (x14 + x15))) ?_
     refine a_conv (j := (wrap64 (x14 + x15)) % 18446744073709551616) ?_ Try.underlying3 Try.underlying82
     refine a_bin (u := .int .u64 (Int.fdiv ((wrap64 (x14 + x15)) % 18446744073709551616) 2)) ?_ (hp := by exact rfl)
     refine a_conv (j := wrap64 (Int.fdiv ((wrap64 (x14 + x15)) % 18446744073709551616) 2)) ?_ Try.underlying82 Try.underlying3
     refine a_move (v := vI _) ?_
     refine RA.nil nofun ?_
     refine AG.seq ?_
     refine AG.region HM ?_
     refine a_move (v := .c (.d (.fn _ _))) ?_
     refine a_move (v := .c (.own _ _)) ?_
     refine a_move (v := vI _) ?_
     by_cases hc19 : 0 ≤ x2
     ·rw [if_pos hc19] at H
      by_cases hc20 : x2 < (x0.length : Int)
      ·rw [if_pos hc20] at H
       refine a_ixO ?_ ⟨hc19, hc20⟩ T3 Try.underlying50
       refine a_ldE (v := vI _) ?_ (G3 hc19 hc20) T3
       refine a_move (v := .c (.own _ _)) ?_
       refine a_move (v := vI _) ?_
       by_cases hc21 : 0 ≤ (wrap64 (Int.fdiv ((wrap64 (x14 + x15)) % 18446744073709551616) 2))
       ·rw [if_pos hc21] at H
        by_cases hc22 : (wrap64 (Int.fdiv ((wrap64 (x14 + x15)) % 18446744073709551616) 2)) < (x0.length : Int)
        ·rw [if_pos hc22] at H
         refine a_ixO ?_ ⟨hc21, hc22⟩ T3 Try.underlying50
         refine a_ldE (v := vI _) ?_ (G3 hc21 hc22) T3
         obtain ⟨t23, e24, H⟩ := bindO H
         refine a_callW (v := vI t23) (nk := []) (L := []) ?_ rfl rfl (impl_ShelfPlan_1.ok e24) id (qd (qd qn)) rfl trivial trivial trivial rfl
         refine a_int (u := .bool (decide (t23 < 0))) ?_
         refine a_un (u := .bool (!(decide (t23 < 0)))) ?_
         refine RA.nil (fun _ => by kernel_rfl) ?_
         by_cases hc25 : t23 < 0
         ·rw [if_pos hc25] at H
          refine AG.no rfl (congrArg Bool.not (decide_eq_true hc25)) ?_
          refine AG.region HM ?_
          refine a_move (v := vI _) ?_
          refine a_move (v := vI _) ?_
          refine RA.nil nofun ?_
          exact AGr.canon id (ih2 _ (by omega) _ ⟨by omega, _, _, _, _, _, H, rfl⟩) ⟨rfl, rfl, rfl, rfl, rfl, trivial⟩ ⟨rfl, trivial⟩ rfl
         ·rw [if_neg hc25] at H
          refine AG.yes rfl (congrArg Bool.not (decide_eq_false hc25)) ?_
          refine AG.region HM ?_
          refine a_move (v := vI _) ?_
          refine a_int (u := .int .i64 (wrap64 ((wrap64 (Int.fdiv ((wrap64 (x14 + x15)) % 18446744073709551616) 2)) + 1))) ?_
          refine a_move (v := vI _) ?_
          refine RA.nil nofun ?_
          exact AGr.canon id (ih2 _ (by omega) _ ⟨by omega, _, _, _, _, _, H, rfl⟩) ⟨rfl, rfl, rfl, rfl, rfl, trivial⟩ ⟨rfl, trivial⟩ rfl
        ·rw [if_neg hc22] at H
         cases H
       ·rw [if_neg hc21] at H
        cases H
      ·rw [if_neg hc20] at H
       cases H
     ·rw [if_neg hc19] at H
      cases H
    ·rw [if_neg hc18] at H
     refine AG.no rfl (decide_eq_false hc18) ?_
     refine AG.exit ?_
     refine AG.seq ?_
     refine AG.seq ?_
     refine AG.region HM ?_
     refine a_move (v := vI _) ?_
     refine a_move (v := vI _) ?_
     refine RA.nil nofun ?_
     refine AG.block ?_
     refine AG.loop ?_
     obtain ⟨K3, hK3, gK3⟩ : ∃ K, k ≤ K ∧ K ≤ k := ⟨k, Nat.le_refl k, Nat.le_refl k⟩
     refine AGr.canon id (AGr.loopI (n := k) (fun k s => k ≤ K3 ∧ ∃ (x0 : List Int) (x14 : Int) (x17 : Int), slices_symMergeCmpFunc_int__impl_ShelfPlan_1.l3 F k x0 x14 x17 = some r ∧ s = St.of [(0, .c (.own 0 x0.length)), (14, vI x14), (17, vI x17)] [(0, .row 3 (x0.map c3))]) ⟨hK3, _, _, _, H, rfl⟩ ?_ ?_) ⟨rfl, rfl, rfl, trivial⟩ ⟨rfl, trivial⟩ rfl
     ·rintro _ ⟨_, _, _, _, H, _⟩
      cases H
     ·clear H hK3
      rintro k ih3 _ ⟨hK3, x0, x14, x17, H, rfl⟩
      unfold slices_symMergeCmpFunc_int__impl_ShelfPlan_1.l3 at H
      refine AG.seq ?_
      refine AG.seq ?_
      refine AG.region HM ?_
      refine a_move (v := vI _) ?_
      refine a_move (v := vI _) ?_
      refine a_int (u := .bool (decide (x17 > x14))) ?_
      refine RA.nil nofun ?_
      by_cases hc26 : x17 > x14
      ·rw [if_pos hc26] at H
       refine AG.yes rfl (decide_eq_true hc26) ?_
       refine AG.skip ?_
       refine AG.seq ?_
       refine AG.block ?_
       refine AG.region HM ?_
       refine a_move (v := .c (.own _ _)) ?_
       refine a_move (v := vI _) ?_
       refine a_move (v := .c (.own _ _)) ?_
       refine a_move (v := vI _) ?_
       refine a_int (u := .int .i64 (wrap64 (x17 - 1))) ?_
       refine a_move (v := .c (.own _ _)) ?_
       refine a_move (v := vI _) ?_
       refine a_int (u := .int .i64 (wrap64 (x17 - 1))) ?_
       by_cases hc27 : 0 ≤ (wrap64 (x17 - 1))
       ·rw [if_pos hc27] at H
        by_cases hc28 : (wrap64 (x17 - 1)) < (x0.length : Int)
        ·rw [if_pos hc28] at H
         refine a_ixO ?_ ⟨hc27, hc28⟩ T3 Try.underlying50
         refine a_ldE (v := vI _) ?_ (G3 hc27 hc28) T3
         refine a_move (v := .c (.own _ _)) ?_
         refine a_move (v := vI _) ?_
         by_cases hc29 : 0 ≤ x17
         ·rw [if_pos hc29] at H
          by_cases hc30 : x17 < (x0.length : Int)
          ·rw [if_pos hc30] at H
           refine a_ixO ?_ ⟨hc29, hc30⟩ T3 Try.underlying50
           refine a_ldE (v := vI _) ?_ (G3 hc29 hc30) T3
           refine a_ixO ?_ ⟨hc29, hc30⟩ T3 Try.underlying50
           refine a_stF (css' := (x0.set (x17 : Int).toNat (rd3 x0 (wrap64 (x17 - 1)))).map c3) ?_ (flat_map (fun _ => rfl)) (G3 hc29 hc30) T3 (hcss := by exact set_map rfl)
           refine a_ixO ?_ ⟨hc27, hc28⟩ T3 Try.underlying50
           refine a_stF (css' := ((x0.set (x17 : Int).toNat (rd3 x0 (wrap64 (x17 - 1)))).set ((wrap64 (x17 - 1)) : Int).toNat (rd3 x0 x17)).map c3) ?_ (flat_map (fun _ => rfl)) (G3 (l := (x0.set (x17 : Int).toNat (rd3 x0 (wrap64 (x17 - 1))))) (i := (wrap64 (x17 - 1))) hc27 (by simpa using hc28)) T3 (hcss := by exact set_map rfl)
           refine RA.nil (fun _ => by kernel_rfl) ?_
           refine AG.region HM ?_
           refine a_move (v := vI _) ?_
           refine a_int (u := .int .i64 (wrap64 (x17 - 1))) ?_
           refine a_move (v := vI _) ?_
           refine RA.nil nofun ?_
           exact AGr.canon id (ih3 _ (by omega) _ ⟨by omega, _, _, _, H, rfl⟩) ⟨(ownE rfl (by simp)), rfl, rfl, trivial⟩ ⟨rfl, trivial⟩ rfl
          ·rw [if_neg hc30] at H
           cases H
         ·rw [if_neg hc29] at H
          cases H
        ·rw [if_neg hc28] at H
         cases H
       ·rw [if_neg hc27] at H
        cases H
      ·rw [if_neg hc26] at H
       refine AG.no rfl (decide_eq_false hc26) ?_
       refine AG.exit ?_
       refine AG.ret ?_
       obtain rfl := Option.some.inj H
       exact RetP.mk (fun κ => cond (Nat.beq κ 0) 0 (κ)) trivial ⟨rfl, trivial⟩ rfl
  ·rw [if_neg hc17] at H
   refine AG.no rfl (beq_eq_false_iff_ne.2 hc17) ?_
   refine AG.skip ?_
   refine AG.seq ?_
   refine AG.region HM ?_
   refine a_move (v := vI _) ?_
   refine a_move (v := vI _) ?_
   refine a_int (u := .int .i64 (wrap64 (a1 + a3))) ?_
   refine a_conv (j := (wrap64 (a1 + a3)) % 18446744073709551616) ?_ Try.underlying3 Try.underlying82
   refine a_bin (u := .int .u64 (Int.fdiv ((wrap64 (a1 + a3)) % 18446744073709551616) 2)) ?_ (hp := by exact rfl)
   refine a_conv (j := wrap64 (Int.fdiv ((wrap64 (a1 + a3)) % 18446744073709551616) 2)) ?_ Try.underlying82 Try.underlying3
   refine a_move (v := vI _) ?_
   refine RA.nil nofun ?_
   refine AG.seq ?_
   refine AG.region HM ?_
   refine a_move (v := vI _) ?_
   refine a_move (v := vI _) ?_
   refine a_int (u := .int .i64 (wrap64 ((wrap64 (Int.fdiv ((wrap64 (a1 + a3)) % 18446744073709551616) 2)) + a2))) ?_
   refine a_move (v := vI _) ?_
   refine RA.nil nofun ?_
   refine AG.seq ?_
   refine AG.region HM ?_
   refine a_move (v := vI _) ?_
   refine a_move (v := vI _) ?_
   refine RA.nil nofun ?_
   refine AG.seq ?_
   refine AG.seq ?_
   refine AG.region HM ?_
   refine a_move (v := vI _) ?_
   refine a_move (v := vI _) ?_
   refine a_int (u := .bool (decide (a2 > (wrap64 (Int.fdiv ((wrap64 (a1 + a3)) % 18446744073709551616) 2))))) ?_
   refine RA.nil nofun ?_
   refine AG.joinR (fun s => ∃ q, q ≤ k ∧ ∃ (x0 : List Int) (x1 : Int) (x2 : Int) (x3 : Int) (x4_0_0 : List (List Int)) (x18 : Int) (x19 : Int) (x20 : Int) (x21 : Int), slices_symMergeCmpFunc_int__impl_ShelfPlan_1.j0 F q x0 x1 x2 x3 x4_0_0 x18 x19 x20 x21 = some r ∧ s = St.of [(0, .c (.own 0 x0.length)), (1, vI x1), (2, vI x2), (3, vI x3), (4, .c (.d (.fn 32 [.ro [.row 36 (x4_0_0.map c36)]]))), (18, vI x18), (19, vI x19), (20, vI x20), (21, vI x21)] [(0, .row 3 (x0.map c3))]) ?_ ?_
   ·skip
    by_cases hc33 : a2 > (wrap64 (Int.fdiv ((wrap64 (a1 + a3)) % 18446744073709551616) 2))
    ·rw [if_pos hc33] at H
     refine AG.yes rfl (decide_eq_true hc33) ?_
     refine AG.seq ?_
     refine AG.region HM ?_
     refine a_move (v := vI _) ?_
     refine a_move (v := vI _) ?_
     refine a_int (u := .int .i64 (wrap64 ((wrap64 ((wrap64 (Int.fdiv ((wrap64 (a1 + a3)) % 18446744073709551616) 2)) + a2)) - a3))) ?_
     refine a_move (v := vI _) ?_
     refine RA.nil nofun ?_
     refine AG.region HM ?_
     refine a_move (v := vI _) ?_
     refine a_move (v := vI _) ?_
     refine RA.nil nofun ?_
     exact CanR.mk id ⟨_, (by omega), _, _, _, _, _, _, _, _, _, H, rfl⟩ ⟨rfl, rfl, rfl, rfl, rfl, rfl, rfl, rfl, rfl, trivial⟩ ⟨rfl, trivial⟩ rfl
    ·rw [if_neg hc33] at H
     refine AG.no rfl (decide_eq_false hc33) ?_
     refine AG.seq ?_
     refine AG.region HM ?_
     refine a_move (v := vI _) ?_
     refine a_move (v := vI _) ?_
     refine RA.nil nofun ?_
     refine AG.region HM ?_
     refine a_move (v := vI _) ?_
     refine a_move (v := vI _) ?_
     refine RA.nil nofun ?_
     exact CanR.mk id ⟨_, (by omega), _, _, _, _, _, _, _, _, _, H, rfl⟩ ⟨rfl, rfl, rfl, rfl, rfl, rfl, rfl, rfl, rfl, trivial⟩ ⟨rfl, trivial⟩ rfl
   ·clear H
    rintro _ ⟨k, hj0, x0, x1, x2, x3, x4_0_0, x18, x19, x20, x21, H, rfl⟩
    cases k with
    | zero => cases H
    | succ k =>
     rw [slices_symMergeCmpFunc_int__impl_ShelfPlan_1.j0] at H
     refine AG.seq ?_
     refine AG.region HM ?_
     refine a_move (v := vI _) ?_
     refine a_int (u := .int .i64 (wrap64 (x19 - 1))) ?_
     refine a_move (v := vI _) ?_
     refine RA.nil nofun ?_
     refine AG.seq ?_
     refine AG.block ?_
     refine AG.loop ?_
     obtain ⟨K4, hK4, gK4⟩ : ∃ K, k ≤ K ∧ K ≤ k := ⟨k, Nat.le_refl k, Nat.le_refl k⟩
     refine AGr.canon id (AGr.loopI (n := k) (fun k s => k ≤ K4 ∧ ∃ (x0 : List Int) (x1 : Int) (x2 : Int) (x3 : Int) (x4_0_0 : List (List Int)) (x18 : Int) (x19 : Int) (x20 : Int) (x21 : Int) (x22 : Int), slices_symMergeCmpFunc_int__impl_ShelfPlan_1.l4 F k x0 x1 x2 x3 x4_0_0 x18 x19 x20 x21 x22 = some r ∧ s = St.of [(0, .c (.own 0 x0.length)), (1, vI x1), (2, vI x2), (3, vI x3), (4, .c (.d (.fn 32 [.ro [.row 36 (x4_0_0.map c36)]]))), (18, vI x18), (19, vI x19), (20, vI x20), (21, vI x21), (22, vI x22)] [(0, .row 3 (x0.map c3))]) ⟨hK4, _, _, _, _, _, _, _, _, _, _, H, rfl⟩ ?_ ?_) ⟨rfl, rfl, rfl, rfl, rfl, rfl, rfl, rfl, rfl, rfl, trivial⟩ ⟨rfl, trivial⟩ rfl
     ·rintro _ ⟨_, _, _, _, _, _, _, _, _, _, _, H, _⟩
      cases H
     ·clear H hK4
      rintro k ih4 _ ⟨hK4, x0, x1, x2, x3, x4_0_0, x18, x19, x20, x21, x22, H, rfl⟩
      unfold slices_symMergeCmpFunc_int__impl_ShelfPlan_1.l4 at H
      refine AG.seq ?_
      refine AG.seq ?_
      refine AG.region HM ?_
      refine a_move (v := vI _) ?_
      refine a_move (v := vI _) ?_
      refine a_int (u := .bool (decide (x20 < x21))) ?_
      refine RA.nil nofun ?_
      by_cases hc34 : x20 < x21
      ·rw [if_pos hc34] at H
       refine AG.yes rfl (decide_eq_true hc34) ?_
       refine AG.skip ?_
       refine AG.block ?_
       refine AG.seq ?_
       refine AG.region HM ?_
       refine a_move (v := vI _) ?_
       refine a_move (v := vI _) ?_
       refine a_int (u := .int .i64 (wrap64 (x20 + x21))) ?_
       refine a_conv (j := (wrap64 (x20 + x21)) % 18446744073709551616) ?_ Try.underlying3 Try.underlying82
       refine a_bin (u := .int .u64 (Int.fdiv ((wrap64 (x20 + x21)) % 18446744073709551616) 2)) ?_ (hp := by exact rfl)
       refine a_conv (j := wrap64 (Int.fdiv ((wrap64 (x20 + x21)) % 18446744073709551616) 2)) ?_ Try.underlying82 Try.underlying3
       refine a_move (v := vI _) ?_
       refine RA.nil nofun ?_
       refine AG.seq ?_
       refine AG.region HM ?_
       refine a_move (v := .c (.d (.fn _ _))) ?_
       refine a_move (v := .c (.own _ _)) ?_
       refine a_move (v := vI _) ?_
       refine a_move (v := vI _) ?_
       refine a_int (u := .int .i64 (wrap64 (x22 - (wrap64 (Int.fdiv ((wrap64 (x20 + x21)) % 18446744073709551616) 2))))) ?_
       by_cases hc35 : 0 ≤ (wrap64 (x22 - (wrap64 (Int.fdiv ((wrap64 (x20 + x21)) % 18446744073709551616) 2))))
       ·rw [if_pos hc35] at H
        by_cases hc36 : (wrap64 (x22 - (wrap64 (Int.fdiv ((wrap64 (x20 + x21)) % 18446744073709551616) 2)))) < (x0.length : Int)
        ·rw [if_pos hc36] at H
         refine a_ixO ?_ ⟨hc35, hc36⟩ T3 Try.underlying50
         refine a_ldE (v := vI _) ?_ (G3 hc35 hc36) T3
         refine a_move (v := .c (.own _ _)) ?_
         refine a_move (v := vI _) ?_
         by_cases hc37 : 0 ≤ (wrap64 (Int.fdiv ((wrap64 (x20 + x21)) % 18446744073709551616) 2))
         ·rw [if_pos hc37] at H
          by_cases hc38 : (wrap64 (Int.fdiv ((wrap64 (x20 + x21)) % 18446744073709551616) 2)) < (x0.length : Int)
          ·rw [if_pos hc38] at H
           refine a_ixO ?_ ⟨hc37, hc38⟩ T3 Try.underlying50
           refine a_ldE (v := vI _) ?_ (G3 hc37 hc38) T3
           obtain ⟨t39, e40, H⟩ := bindO H
           refine a_callW (v := vI t39) (nk := []) (L := []) ?_ rfl rfl (impl_ShelfPlan_1.ok e40) id (qd (qd qn)) rfl trivial trivial trivial rfl
           refine a_int (u := .bool (decide (t39 < 0))) ?_
           refine a_un (u := .bool (!(decide (t39 < 0)))) ?_
           refine RA.nil (fun _ => by kernel_rfl) ?_
           by_cases hc41 : t39 < 0
           ·rw [if_pos hc41] at H
            refine AG.no rfl (congrArg Bool.not (decide_eq_true hc41)) ?_
            refine AG.region HM ?_
            refine a_move (v := vI _) ?_
            refine a_move (v := vI _) ?_
            refine RA.nil nofun ?_
            exact AGr.canon id (ih4 _ (by omega) _ ⟨by omega, _, _, _, _, _, _, _, _, _, _, H, rfl⟩) ⟨rfl, rfl, rfl, rfl, rfl, rfl, rfl, rfl, rfl, rfl, trivial⟩ ⟨rfl, trivial⟩ rfl
           ·rw [if_neg hc41] at H
            refine AG.yes rfl (congrArg Bool.not (decide_eq_false hc41)) ?_
            refine AG.region HM ?_
            refine a_move (v := vI _) ?_
            refine a_int (u := .int .i64 (wrap64 ((wrap64 (Int.fdiv ((wrap64 (x20 + x21)) % 18446744073709551616) 2)) + 1))) ?_
            refine a_move (v := vI _) ?_
            refine RA.nil nofun ?_
            exact AGr.canon id (ih4 _ (by omega) _ ⟨by omega, _, _, _, _, _, _, _, _, _, _, H, rfl⟩) ⟨rfl, rfl, rfl, rfl, rfl, rfl, rfl, rfl, rfl, rfl, trivial⟩ ⟨rfl, trivial⟩ rfl
          ·rw [if_neg hc38] at H
           cases H
         ·rw [if_neg hc37] at H
          cases H
        ·rw [if_neg hc36] at H
         cases H
       ·rw [if_neg hc35] at H
        cases H
      ·rw [if_neg hc34] at H
       refine AG.no rfl (decide_eq_false hc34) ?_
       refine AG.exit ?_
       refine AG.seq ?_
       refine AG.region HM ?_
       refine a_move (v := vI _) ?_
       refine a_move (v := vI _) ?_
       refine a_int (u := .int .i64 (wrap64 (x19 - x20))) ?_
       refine a_move (v := vI _) ?_
       refine RA.nil nofun ?_
       refine AG.seq ?_
       refine AG.seq ?_
       refine AG.joinR (fun s => ∃ q, q ≤ k ∧ ∃ (x0 : List Int) (x1 : Int) (x2 : Int) (x3 : Int) (x4_0_0 : List (List Int)) (x18 : Int) (x20 : Int) (x24 : Int) (x185 : Bool), slices_symMergeCmpFunc_int__impl_ShelfPlan_1.j1 F q x0 x1 x2 x3 x4_0_0 x18 x20 x24 x185 = some r ∧ s = St.of [(0, .c (.own 0 x0.length)), (1, vI x1), (2, vI x2), (3, vI x3), (4, .c (.d (.fn 32 [.ro [.row 36 (x4_0_0.map c36)]]))), (18, vI x18), (20, vI x20), (24, vI x24), (185, vB x185)] [(0, .row 3 (x0.map c3))]) ?_ ?_
       ·skip
        refine AG.region HM ?_
        refine a_move (v := vI _) ?_
        refine a_move (v := vI _) ?_
        refine a_int (u := .bool (decide (x20 < x2))) ?_
        refine a_move (v := vB _) ?_
        by_cases hc42 : x20 < x2
        ·rw [if_pos hc42] at H
         refine a_move (v := vI _) ?_ (hg := Gs.yes rfl rfl rfl (decide_eq_true hc42))
         refine a_move (v := vI _) ?_ (hg := Gs.yes rfl rfl rfl (decide_eq_true hc42))
         refine a_int (u := .bool (decide (x2 < (wrap64 (x19 - x20))))) ?_ (hg := Gs.yes rfl rfl rfl (decide_eq_true hc42))
         refine a_pick (b := true) (v := vB _) ?_ (decide_eq_true hc42)
         refine RA.nil nofun ?_
         exact CanR.mk id ⟨_, (by omega), _, _, _, _, _, _, _, _, _, H, rfl⟩ ⟨rfl, rfl, rfl, rfl, rfl, rfl, rfl, rfl, rfl, trivial⟩ ⟨rfl, trivial⟩ rfl
        ·rw [if_neg hc42] at H
         refine RA.skip rfl rfl rfl rfl rfl (decide_eq_false hc42) (by decide) ?_
         refine RA.skip rfl rfl rfl rfl rfl (decide_eq_false hc42) (by decide) ?_
         refine RA.skip rfl rfl rfl rfl rfl (decide_eq_false hc42) (by decide) ?_
         refine a_pick (b := false) (v := vB _) ?_ (decide_eq_false hc42)
         refine RA.nil nofun ?_
         exact CanR.mk id ⟨_, (by omega), _, _, _, _, _, _, _, _, _, H, rfl⟩ ⟨rfl, rfl, rfl, rfl, rfl, rfl, rfl, rfl, rfl, trivial⟩ ⟨rfl, trivial⟩ rfl
       ·clear H
        rintro _ ⟨k, hj1, x0, x1, x2, x3, x4_0_0, x18, x20, x24, x185, H, rfl⟩
        cases k with
        | zero => cases H
        | succ k =>
         rw [slices_symMergeCmpFunc_int__impl_ShelfPlan_1.j1] at H
         refine AG.joinR (fun s => ∃ q, q ≤ k ∧ ∃ (x0 : List Int) (x1 : Int) (x3 : Int) (x4_0_0 : List (List Int)) (x18 : Int) (x20 : Int) (x24 : Int), slices_symMergeCmpFunc_int__impl_ShelfPlan_1.j2 F q x0 x1 x3 x4_0_0 x18 x20 x24 = some r ∧ s = St.of [(0, .c (.own 0 x0.length)), (1, vI x1), (3, vI x3), (4, .c (.d (.fn 32 [.ro [.row 36 (x4_0_0.map c36)]]))), (18, vI x18), (20, vI x20), (24, vI x24)] [(0, .row 3 (x0.map c3))]) ?_ ?_
         ·skip
          by_cases hc43 : x185 = true
          ·rw [if_pos hc43] at H
           refine AG.yes rfl hc43 ?_
           refine AG.region HM ?_
           refine a_move (v := .c (.own _ _)) ?_
           refine a_move (v := vI _) ?_
           refine a_move (v := vI _) ?_
           refine a_move (v := vI _) ?_
           refine a_move (v := .c (.d (.fn _ _))) ?_
           obtain ⟨t44, e45, H⟩ := bindO H
           refine a_callM (v := .tup []) (nk := []) (L := []) (Mk := [(0, _)]) (ck := [(0, .row 3 (t44.map c3))]) ?_ rfl (slices_rotateCmpFunc_int__impl_ShelfPlan_1.ok e45) id id (mcO (mcD (mcD (mcD (mcD m0))))) trivial ⟨rfl, trivial⟩ trivial ⟨rfl, trivial⟩ trivial ⟨rfl, trivial⟩ rfl rfl rfl
           refine RA.nil nofun ?_
           refine CanR.rl 0 t44.length ?_
           exact CanR.mk id ⟨_, (by omega), _, _, _, _, _, _, _, H, rfl⟩ ⟨rfl, rfl, rfl, rfl, rfl, rfl, rfl, trivial⟩ ⟨rfl, trivial⟩ rfl
          ·rw [if_neg hc43] at H
           refine AG.no rfl (Bool.eq_false_iff.2 hc43) ?_
           refine AG.skip ?_
           exact CanR.mk id ⟨_, (by omega), _, _, _, _, _, _, _, H, rfl⟩ ⟨rfl, rfl, rfl, rfl, rfl, rfl, rfl, trivial⟩ ⟨rfl, trivial⟩ rfl
         ·clear H
          rintro _ ⟨k, hj2, x0, x1, x3, x4_0_0, x18, x20, x24, H, rfl⟩
          cases k with
          | zero => cases H
          | succ k =>
           rw [slices_symMergeCmpFunc_int__impl_ShelfPlan_1.j2] at H
           refine AG.seq ?_
           refine AG.seq ?_
           refine AG.joinR (fun s => ∃ q, q ≤ k ∧ ∃ (x0 : List Int) (x1 : Int) (x3 : Int) (x4_0_0 : List (List Int)) (x18 : Int) (x20 : Int) (x24 : Int) (x199 : Bool), slices_symMergeCmpFunc_int__impl_ShelfPlan_1.j3 F q x0 x1 x3 x4_0_0 x18 x20 x24 x199 = some r ∧ s = St.of [(0, .c (.own 0 x0.length)), (1, vI x1), (3, vI x3), (4, .c (.d (.fn 32 [.ro [.row 36 (x4_0_0.map c36)]]))), (18, vI x18), (20, vI x20), (24, vI x24), (199, vB x199)] [(0, .row 3 (x0.map c3))]) ?_ ?_
           ·skip
            refine AG.region HM ?_
            refine a_move (v := vI _) ?_
            refine a_move (v := vI _) ?_
            refine a_int (u := .bool (decide (x1 < x20))) ?_
            refine a_move (v := vB _) ?_
            by_cases hc46 : x1 < x20
            ·rw [if_pos hc46] at H
             refine a_move (v := vI _) ?_ (hg := Gs.yes rfl rfl rfl (decide_eq_true hc46))
             refine a_move (v := vI _) ?_ (hg := Gs.yes rfl rfl rfl (decide_eq_true hc46))
             refine a_int (u := .bool (decide (x20 < x18))) ?_ (hg := Gs.yes rfl rfl rfl (decide_eq_true hc46))
             refine a_pick (b := true) (v := vB _) ?_ (decide_eq_true hc46)
             refine RA.nil nofun ?_
             exact CanR.mk id ⟨_, (by omega), _, _, _, _, _, _, _, _, H, rfl⟩ ⟨rfl, rfl, rfl, rfl, rfl, rfl, rfl, rfl, trivial⟩ ⟨rfl, trivial⟩ rfl
            ·rw [if_neg hc46] at H
             refine RA.skip rfl rfl rfl rfl rfl (decide_eq_false hc46) (by decide) ?_
             refine RA.skip rfl rfl rfl rfl rfl (decide_eq_false hc46) (by decide) ?_
             refine RA.skip rfl rfl rfl rfl rfl (decide_eq_false hc46) (by decide) ?_
             refine a_pick (b := false) (v := vB _) ?_ (decide_eq_false hc46)
             refine RA.nil nofun ?_
             exact CanR.mk id ⟨_, (by omega), _, _, _, _, _, _, _, _, H, rfl⟩ ⟨rfl, rfl, rfl, rfl, rfl, rfl, rfl, rfl, trivial⟩ ⟨rfl, trivial⟩ rfl
           ·clear H
            rintro _ ⟨k, hj3, x0, x1, x3, x4_0_0, x18, x20, x24, x199, H, rfl⟩
            cases k with
            | zero => cases H
            | succ k =>
             rw [slices_symMergeCmpFunc_int__impl_ShelfPlan_1.j3] at H
             by_cases hc47 : x199 = true
             ·rw [if_pos hc47] at H
              refine AG.yes rfl hc47 ?_
              refine AG.region HM ?_
              refine a_move (v := .c (.own _ _)) ?_
              refine a_move (v := vI _) ?_
              refine a_move (v := vI _) ?_
              refine a_move (v := vI _) ?_
              refine a_move (v := .c (.d (.fn _ _))) ?_
              obtain ⟨t48, e49, H⟩ := bindO H
              refine a_callM (v := .tup []) (nk := []) (L := []) (Mk := [(0, _)]) (ck := [(0, .row 3 (t48.map c3))]) ?_ rfl (hF e49) id id (mcO (mcD (mcD (mcD (mcD m0))))) trivial ⟨rfl, trivial⟩ trivial ⟨rfl, trivial⟩ trivial ⟨rfl, trivial⟩ rfl rfl rfl
              refine RA.nil nofun ?_
              refine AG.relen 0 t48.length ?_
              refine AG.seq ?_
              refine AG.region HM ?_
              refine a_move (v := vI _) ?_
              refine a_move (v := vI _) ?_
              refine a_int (u := .bool (decide (x18 < x24))) ?_
              refine a_move (v := vB _) ?_
              by_cases hc50 : x18 < x24
              ·rw [if_pos hc50] at H
               refine a_move (v := vI _) ?_ (hg := Gs.yes rfl rfl rfl (decide_eq_true hc50))
               refine a_move (v := vI _) ?_ (hg := Gs.yes rfl rfl rfl (decide_eq_true hc50))
               refine a_int (u := .bool (decide (x24 < x3))) ?_ (hg := Gs.yes rfl rfl rfl (decide_eq_true hc50))
               refine a_pick (b := true) (v := vB _) ?_ (decide_eq_true hc50)
               refine RA.nil nofun ?_
               by_cases hc51 : x24 < x3
               ·rw [if_pos hc51] at H
                refine AG.yes rfl (decide_eq_true hc51) ?_
                refine AG.region HM ?_
                refine a_move (v := .c (.own _ _)) ?_
                refine a_move (v := vI _) ?_
                refine a_move (v := vI _) ?_
                refine a_move (v := vI _) ?_
                refine a_move (v := .c (.d (.fn _ _))) ?_
                obtain ⟨t52, e53, H⟩ := bindO H
                refine a_callM (v := .tup []) (nk := []) (L := []) (Mk := [(0, _)]) (ck := [(0, .row 3 (t52.map c3))]) ?_ rfl (hF e53) id id (mcO (mcD (mcD (mcD (mcD m0))))) trivial ⟨rfl, trivial⟩ trivial ⟨rfl, trivial⟩ trivial ⟨rfl, trivial⟩ rfl rfl rfl
                refine RA.nil nofun ?_
                obtain rfl := Option.some.inj H
                exact RetP.mk (fun κ => cond (Nat.beq κ 0) 0 (κ)) trivial ⟨rfl, trivial⟩ rfl
               ·rw [if_neg hc51] at H
                refine AG.no rfl (decide_eq_false hc51) ?_
                refine AG.skip ?_
                obtain rfl := Option.some.inj H
                exact RetP.mk (fun κ => cond (Nat.beq κ 0) 0 (κ)) trivial ⟨rfl, trivial⟩ rfl
              ·rw [if_neg hc50] at H
               refine RA.skip rfl rfl rfl rfl rfl (decide_eq_false hc50) (by decide) ?_
               refine RA.skip rfl rfl rfl rfl rfl (decide_eq_false hc50) (by decide) ?_
               refine RA.skip rfl rfl rfl rfl rfl (decide_eq_false hc50) (by decide) ?_
               refine a_pick (b := false) (v := vB _) ?_ (decide_eq_false hc50)
               refine RA.nil nofun ?_
               refine AG.no rfl rfl ?_
               refine AG.skip ?_
               obtain rfl := Option.some.inj H
               exact RetP.mk (fun κ => cond (Nat.beq κ 0) 0 (κ)) trivial ⟨rfl, trivial⟩ rfl
             ·rw [if_neg hc47] at H
              refine AG.no rfl (Bool.eq_false_iff.2 hc47) ?_
              refine AG.skip ?_
              refine AG.seq ?_
              refine AG.region HM ?_
              refine a_move (v := vI _) ?_
              refine a_move (v := vI _) ?_
              refine a_int (u := .bool (decide (x18 < x24))) ?_
              refine a_move (v := vB _) ?_
              by_cases hc54 : x18 < x24
              ·rw [if_pos hc54] at H
               refine a_move (v := vI _) ?_ (hg := Gs.yes rfl rfl rfl (decide_eq_true hc54))
               refine a_move (v := vI _) ?_ (hg := Gs.yes rfl rfl rfl (decide_eq_true hc54))
               refine a_int (u := .bool (decide (x24 < x3))) ?_ (hg := Gs.yes rfl rfl rfl (decide_eq_true hc54))
               refine a_pick (b := true) (v := vB _) ?_ (decide_eq_true hc54)
               refine RA.nil nofun ?_
               by_cases hc55 : x24 < x3
               ·rw [if_pos hc55] at H
                refine AG.yes rfl (decide_eq_true hc55) ?_
                refine AG.region HM ?_
                refine a_move (v := .c (.own _ _)) ?_
                refine a_move (v := vI _) ?_
                refine a_move (v := vI _) ?_
                refine a_move (v := vI _) ?_
                refine a_move (v := .c (.d (.fn _ _))) ?_
                obtain ⟨t56, e57, H⟩ := bindO H
                refine a_callM (v := .tup []) (nk := []) (L := []) (Mk := [(0, _)]) (ck := [(0, .row 3 (t56.map c3))]) ?_ rfl (hF e57) id id (mcO (mcD (mcD (mcD (mcD m0))))) trivial ⟨rfl, trivial⟩ trivial ⟨rfl, trivial⟩ trivial ⟨rfl, trivial⟩ rfl rfl rfl
                refine RA.nil nofun ?_
                obtain rfl := Option.some.inj H
                exact RetP.mk (fun κ => cond (Nat.beq κ 0) 0 (κ)) trivial ⟨rfl, trivial⟩ rfl
               ·rw [if_neg hc55] at H
                refine AG.no rfl (decide_eq_false hc55) ?_
                refine AG.skip ?_
                obtain rfl := Option.some.inj H
                exact RetP.mk (fun κ => cond (Nat.beq κ 0) 0 (κ)) trivial ⟨rfl, trivial⟩ rfl
              ·rw [if_neg hc54] at H
               refine RA.skip rfl rfl rfl rfl rfl (decide_eq_false hc54) (by decide) ?_
               refine RA.skip rfl rfl rfl rfl rfl (decide_eq_false hc54) (by decide) ?_
               refine RA.skip rfl rfl rfl rfl rfl (decide_eq_false hc54) (by decide) ?_
               refine a_pick (b := false) (v := vB _) ?_ (decide_eq_false hc54)
               refine RA.nil nofun ?_
               refine AG.no rfl rfl ?_
               refine AG.skip ?_
               obtain rfl := Option.some.inj H
               exact RetP.mk (fun κ => cond (Nat.beq κ 0) 0 (κ)) trivial ⟨rfl, trivial⟩ rfl
theorem slices_symMergeCmpFunc_int__impl_ShelfPlan_1.rok : ∀ (k : Nat) {l0 : List Int} {a1 : Int} {a2 : Int} {a3 : Int} {v4_0_0 : List (List Int)} {r : List Int}, slices_symMergeCmpFunc_int__impl_ShelfPlan_1.r k l0 a1 a2 a3 v4_0_0 = some r → OkF Try.prog 56 [.c (.own 0 l0.length), vI a1, vI a2, vI a3, .c (.d (.fn 32 [.ro [.row 36 (v4_0_0.map c36)]]))] [(0, .row 3 (l0.map c3))] (.tup []) [(0, .row 3 (r.map c3))]
 | 0, _, _, _, _, _, _, H => by simp [slices_symMergeCmpFunc_int__impl_ShelfPlan_1.r] at H
 | k + 1, _, _, _, _, _, _, H => slices_symMergeCmpFunc_int__impl_ShelfPlan_1.gok (fun h => slices_symMergeCmpFunc_int__impl_ShelfPlan_1.rok k h) (by rw [slices_symMergeCmpFunc_int__impl_ShelfPlan_1.r] at H; exact H)
theorem slices_symMergeCmpFunc_int__impl_ShelfPlan_1.ok {k : Nat} {l0 : List Int} {a1 : Int} {a2 : Int} {a3 : Int} {v4_0_0 : List (List Int)} {r : List Int} (H : slices_symMergeCmpFunc_int__impl_ShelfPlan_1.f k l0 a1 a2 a3 v4_0_0 = some r) : OkF Try.prog 56 [.c (.own 0 l0.length), vI a1, vI a2, vI a3, .c (.d (.fn 32 [.ro [.row 36 (v4_0_0.map c36)]]))] [(0, .row 3 (l0.map c3))] (.tup []) [(0, .row 3 (r.map c3))] := slices_symMergeCmpFunc_int__impl_ShelfPlan_1.rok k H
/-! ### slices_stableCmpFunc_int__impl_ShelfPlan_1: function 47 -/
mutual
def slices_stableCmpFunc_int__impl_ShelfPlan_1.l0 : Nat → List Int → Int → List (List Int) → Int → Int → Int → Option ((List Int))
 | 0, _, _, _, _, _, _ => none
 | k + 1, x0, x1, x2_0_0, x6, x7, x8 => if x8 ≤ x1 then ((slices_insertionSortCmpFunc_int__impl_ShelfPlan_1.f k x0 x7 x8 x2_0_0).bind fun t2 => (slices_stableCmpFunc_int__impl_ShelfPlan_1.l0 k t2 x1 x2_0_0 x6 x8 (wrap64 (x8 + x6)))) else ((slices_insertionSortCmpFunc_int__impl_ShelfPlan_1.f k x0 x7 x1 x2_0_0).bind fun t4 => (slices_stableCmpFunc_int__impl_ShelfPlan_1.l1 k t4 x1 x2_0_0 x6))
def slices_stableCmpFunc_int__impl_ShelfPlan_1.l1 : Nat → List Int → Int → List (List Int) → Int → Option ((List Int))
 | 0, _, _, _, _ => none
 | k + 1, x0, x1, x2_0_0, x6 => if x6 < x1 then (slices_stableCmpFunc_int__impl_ShelfPlan_1.l2 k x0 x1 x2_0_0 x6 0 (wrap64 (2 * x6))) else (some x0)
def slices_stableCmpFunc_int__impl_ShelfPlan_1.l2 : Nat → List Int → Int → List (List Int) → Int → Int → Int → Option ((List Int))
 | 0, _, _, _, _, _, _ => none
 | k + 1, x0, x1, x2_0_0, x6, x7, x8 => if x8 ≤ x1 then ((slices_symMergeCmpFunc_int__impl_ShelfPlan_1.f k x0 x7 (wrap64 (x7 + x6)) x8 x2_0_0).bind fun t8 => (slices_stableCmpFunc_int__impl_ShelfPlan_1.l2 k t8 x1 x2_0_0 x6 x8 (wrap64 (x8 + (wrap64 (2 * x6)))))) else (if (wrap64 (x7 + x6)) < x1 then ((slices_symMergeCmpFunc_int__impl_ShelfPlan_1.f k x0 x7 (wrap64 (x7 + x6)) x1 x2_0_0).bind fun t11 => (slices_stableCmpFunc_int__impl_ShelfPlan_1.l1 k t11 x1 x2_0_0 (wrap64 (x6 * 2)))) else (slices_stableCmpFunc_int__impl_ShelfPlan_1.l1 k x0 x1 x2_0_0 (wrap64 (x6 * 2))))
end
def slices_stableCmpFunc_int__impl_ShelfPlan_1.f (k : Nat) (l0 : List Int) (a1 : Int) (v2_0_0 : List (List Int)) : Option ((List Int)) := slices_stableCmpFunc_int__impl_ShelfPlan_1.l0 k l0 a1 v2_0_0 20 0 20
set_option maxRecDepth 100000 in
theorem slices_stableCmpFunc_int__impl_ShelfPlan_1.ok {k : Nat} {l0 : List Int} {a1 : Int} {v2_0_0 : List (List Int)} {r : List Int} (H : slices_stableCmpFunc_int__impl_ShelfPlan_1.f k l0 a1 v2_0_0 = some r) : OkF Try.prog 47 [.c (.own 0 l0.length), vI a1, .c (.d (.fn 32 [.ro [.row 36 (v2_0_0.map c36)]]))] [(0, .row 3 (l0.map c3))] (.tup []) [(0, .row 3 (r.map c3))] := by
 unfold slices_stableCmpFunc_int__impl_ShelfPlan_1.f at H
 refine OkF.of (N := 63) (rs := []) (avs := []) Try.func47 rfl rfl (fun _ _ => results_none rfl _ _ _) (by decide) rfl rfl rfl rfl (fun w0 S => ?_)
 refine AG.seq ?_
 refine AG.region HM ?_
 refine a_move (v := vI _) ?_
 refine RA.nil nofun ?_
 refine AG.seq ?_
 refine AG.region HM ?_
 refine a_move (v := vI _) ?_
 refine a_move (v := vI _) ?_
 refine a_move (v := vI _) ?_
 refine RA.nil nofun ?_
 refine AG.seq ?_
 refine AG.block ?_
 refine AG.loop ?_
 obtain ⟨K0, hK0, gK0⟩ : ∃ K, k ≤ K ∧ K ≤ k := ⟨k, Nat.le_refl k, Nat.le_refl k⟩
 refine AGr.canon id (AGr.loopI (n := k) (fun k s => k ≤ K0 ∧ ∃ (x0 : List Int) (x1 : Int) (x2_0_0 : List (List Int)) (x6 : Int) (x7 : Int) (x8 : Int), slices_stableCmpFunc_int__impl_ShelfPlan_1.l0 k x0 x1 x2_0_0 x6 x7 x8 = some r ∧ s = St.of [(0, .c (.own 0 x0.length)), (1, vI x1), (2, .c (.d (.fn 32 [.ro [.row 36 (x2_0_0.map c36)]]))), (6, vI x6), (7, vI x7), (8, vI x8)] [(0, .row 3 (x0.map c3))]) ⟨hK0, _, _, _, _, _, _, H, rfl⟩ ?_ ?_) ⟨rfl, rfl, rfl, rfl, rfl, rfl, trivial⟩ ⟨rfl, trivial⟩ rfl
 ·rintro _ ⟨_, _, _, _, _, _, _, H, _⟩
  cases H
 ·clear H hK0
  rintro k ih0 _ ⟨hK0, x0, x1, x2_0_0, x6, x7, x8, H, rfl⟩
  unfold slices_stableCmpFunc_int__impl_ShelfPlan_1.l0 at H
  refine AG.seq ?_
  refine AG.seq ?_
  refine AG.region HM ?_
  refine a_move (v := vI _) ?_
  refine a_move (v := vI _) ?_
  refine a_int (u := .bool (decide (x8 ≤ x1))) ?_
  refine RA.nil nofun ?_
  by_cases hc1 : x8 ≤ x1
  ·rw [if_pos hc1] at H
   refine AG.yes rfl (decide_eq_true hc1) ?_
   refine AG.skip ?_
   refine AG.block ?_
   refine AG.seq ?_
   refine AG.region HM ?_
   refine a_move (v := .c (.own _ _)) ?_
   refine a_move (v := vI _) ?_
   refine a_move (v := vI _) ?_
   refine a_move (v := .c (.d (.fn _ _))) ?_
   obtain ⟨t2, e3, H⟩ := bindO H
   refine a_callM (v := .tup []) (nk := []) (L := []) (Mk := [(0, _)]) (ck := [(0, .row 3 (t2.map c3))]) ?_ rfl (slices_insertionSortCmpFunc_int__impl_ShelfPlan_1.ok e3) id id (mcO (mcD (mcD (mcD m0)))) trivial ⟨rfl, trivial⟩ trivial ⟨rfl, trivial⟩ trivial ⟨rfl, trivial⟩ rfl rfl rfl
   refine RA.nil nofun ?_
   refine AG.relen 0 t2.length ?_
   refine AG.seq ?_
   refine AG.region HM ?_
   refine a_move (v := vI _) ?_
   refine a_move (v := vI _) ?_
   refine RA.nil nofun ?_
   refine AG.region HM ?_
   refine a_move (v := vI _) ?_
   refine a_move (v := vI _) ?_
   refine a_int (u := .int .i64 (wrap64 (x8 + x6))) ?_
   refine a_move (v := vI _) ?_
   refine RA.nil nofun ?_
   exact AGr.canon id (ih0 _ (by omega) _ ⟨by omega, _, _, _, _, _, _, H, rfl⟩) ⟨rfl, rfl, rfl, rfl, rfl, rfl, trivial⟩ ⟨rfl, trivial⟩ rfl
  ·rw [if_neg hc1] at H
   refine AG.no rfl (decide_eq_false hc1) ?_
   refine AG.exit ?_
   refine AG.seq ?_
   refine AG.region HM ?_
   refine a_move (v := .c (.own _ _)) ?_
   refine a_move (v := vI _) ?_
   refine a_move (v := vI _) ?_
   refine a_move (v := .c (.d (.fn _ _))) ?_
   obtain ⟨t4, e5, H⟩ := bindO H
   refine a_callM (v := .tup []) (nk := []) (L := []) (Mk := [(0, _)]) (ck := [(0, .row 3 (t4.map c3))]) ?_ rfl (slices_insertionSortCmpFunc_int__impl_ShelfPlan_1.ok e5) id id (mcO (mcD (mcD (mcD m0)))) trivial ⟨rfl, trivial⟩ trivial ⟨rfl, trivial⟩ trivial ⟨rfl, trivial⟩ rfl rfl rfl
   refine RA.nil nofun ?_
   refine AG.relen 0 t4.length ?_
   refine AG.block ?_
   refine AG.loop ?_
   obtain ⟨K1, hK1, gK1⟩ : ∃ K, k ≤ K ∧ K ≤ k := ⟨k, Nat.le_refl k, Nat.le_refl k⟩
   refine AGr.canon id (AGr.loopI (n := k) (fun k s => k ≤ K1 ∧ ∃ (x0 : List Int) (x1 : Int) (x2_0_0 : List (List Int)) (x6 : Int), slices_stableCmpFunc_int__impl_ShelfPlan_1.l1 k x0 x1 x2_0_0 x6 = some r ∧ s = St.of [(0, .c (.own 0 x0.length)), (1, vI x1), (2, .c (.d (.fn 32 [.ro [.row 36 (x2_0_0.map c36)]]))), (6, vI x6)] [(0, .row 3 (x0.map c3))]) ⟨hK1, _, _, _, _, H, rfl⟩ ?_ ?_) ⟨rfl, rfl, rfl, rfl, trivial⟩ ⟨rfl, trivial⟩ rfl
   ·rintro _ ⟨_, _, _, _, _, H, _⟩
    cases H
   ·clear H hK1
    rintro k ih1 _ ⟨hK1, x0, x1, x2_0_0, x6, H, rfl⟩
    unfold slices_stableCmpFunc_int__impl_ShelfPlan_1.l1 at H
    refine AG.seq ?_
    refine AG.seq ?_
    refine AG.region HM ?_
    refine a_move (v := vI _) ?_
    refine a_move (v := vI _) ?_
    refine a_int (u := .bool (decide (x6 < x1))) ?_
    refine RA.nil nofun ?_
    by_cases hc6 : x6 < x1
    ·rw [if_pos hc6] at H
     refine AG.yes rfl (decide_eq_true hc6) ?_
     refine AG.skip ?_
     refine AG.block ?_
     refine AG.seq ?_
     refine AG.region HM ?_
     refine a_move (v := vI _) ?_
     refine a_int (u := .int .i64 (wrap64 (2 * x6))) ?_
     refine a_move (v := vI _) ?_
     refine a_move (v := vI _) ?_
     refine RA.nil nofun ?_
     refine AG.seq ?_
     refine AG.block ?_
     refine AG.loop ?_
     obtain ⟨K2, hK2, gK2⟩ : ∃ K, k ≤ K ∧ K ≤ k := ⟨k, Nat.le_refl k, Nat.le_refl k⟩
     refine AGr.canon id (AGr.loopI (n := k) (fun k s => k ≤ K2 ∧ ∃ (x0 : List Int) (x1 : Int) (x2_0_0 : List (List Int)) (x6 : Int) (x7 : Int) (x8 : Int), slices_stableCmpFunc_int__impl_ShelfPlan_1.l2 k x0 x1 x2_0_0 x6 x7 x8 = some r ∧ s = St.of [(0, .c (.own 0 x0.length)), (1, vI x1), (2, .c (.d (.fn 32 [.ro [.row 36 (x2_0_0.map c36)]]))), (6, vI x6), (7, vI x7), (8, vI x8)] [(0, .row 3 (x0.map c3))]) ⟨hK2, _, _, _, _, _, _, H, rfl⟩ ?_ ?_) ⟨rfl, rfl, rfl, rfl, rfl, rfl, trivial⟩ ⟨rfl, trivial⟩ rfl
     ·rintro _ ⟨_, _, _, _, _, _, _, H, _⟩
      cases H
     ·clear H hK2
      rintro k ih2 _ ⟨hK2, x0, x1, x2_0_0, x6, x7, x8, H, rfl⟩
      unfold slices_stableCmpFunc_int__impl_ShelfPlan_1.l2 at H
      refine AG.seq ?_
      refine AG.seq ?_
      refine AG.region HM ?_
      refine a_move (v := vI _) ?_
      refine a_move (v := vI _) ?_
      refine a_int (u := .bool (decide (x8 ≤ x1))) ?_
      refine RA.nil nofun ?_
      by_cases hc7 : x8 ≤ x1
      ·rw [if_pos hc7] at H
       refine AG.yes rfl (decide_eq_true hc7) ?_
       refine AG.skip ?_
       refine AG.block ?_
       refine AG.seq ?_
       refine AG.region HM ?_
       refine a_move (v := .c (.own _ _)) ?_
       refine a_move (v := vI _) ?_
       refine a_move (v := vI _) ?_
       refine a_move (v := vI _) ?_
       refine a_int (u := .int .i64 (wrap64 (x7 + x6))) ?_
       refine a_move (v := vI _) ?_
       refine a_move (v := .c (.d (.fn _ _))) ?_
       obtain ⟨t8, e9, H⟩ := bindO H
       refine a_callM (v := .tup []) (nk := []) (L := []) (Mk := [(0, _)]) (ck := [(0, .row 3 (t8.map c3))]) ?_ rfl (slices_symMergeCmpFunc_int__impl_ShelfPlan_1.ok e9) id id (mcO (mcD (mcD (mcD (mcD m0))))) trivial ⟨rfl, trivial⟩ trivial ⟨rfl, trivial⟩ trivial ⟨rfl, trivial⟩ rfl rfl rfl
       refine RA.nil nofun ?_
       refine AG.relen 0 t8.length ?_
       refine AG.seq ?_
       refine AG.region HM ?_
       refine a_move (v := vI _) ?_
       refine a_move (v := vI _) ?_
       refine RA.nil nofun ?_
       refine AG.region HM ?_
       refine a_move (v := vI _) ?_
       refine a_move (v := vI _) ?_
       refine a_int (u := .int .i64 (wrap64 (2 * x6))) ?_
       refine a_int (u := .int .i64 (wrap64 (x8 + (wrap64 (2 * x6))))) ?_
       refine a_move (v := vI _) ?_
       refine RA.nil nofun ?_
       exact AGr.canon id (ih2 _ (by omega) _ ⟨by omega, _, _, _, _, _, _, H, rfl⟩) ⟨rfl, rfl, rfl, rfl, rfl, rfl, trivial⟩ ⟨rfl, trivial⟩ rfl
      ·rw [if_neg hc7] at H
       refine AG.no rfl (decide_eq_false hc7) ?_
       refine AG.exit ?_
       refine AG.seq ?_
       refine AG.seq ?_
       refine AG.region HM ?_
       refine a_move (v := vI _) ?_
       refine a_move (v := vI _) ?_
       refine a_int (u := .int .i64 (wrap64 (x7 + x6))) ?_
       refine a_move (v := vI _) ?_
       refine RA.nil nofun ?_
       refine AG.seq ?_
       refine AG.region HM ?_
       refine a_move (v := vI _) ?_
       refine a_move (v := vI _) ?_
       refine a_int (u := .bool (decide ((wrap64 (x7 + x6)) < x1))) ?_
       refine RA.nil nofun ?_
       by_cases hc10 : (wrap64 (x7 + x6)) < x1
       ·rw [if_pos hc10] at H
        refine AG.yes rfl (decide_eq_true hc10) ?_
        refine AG.region HM ?_
        refine a_move (v := .c (.own _ _)) ?_
        refine a_move (v := vI _) ?_
        refine a_move (v := vI _) ?_
        refine a_move (v := vI _) ?_
        refine a_move (v := .c (.d (.fn _ _))) ?_
        obtain ⟨t11, e12, H⟩ := bindO H
        refine a_callM (v := .tup []) (nk := []) (L := []) (Mk := [(0, _)]) (ck := [(0, .row 3 (t11.map c3))]) ?_ rfl (slices_symMergeCmpFunc_int__impl_ShelfPlan_1.ok e12) id id (mcO (mcD (mcD (mcD (mcD m0))))) trivial ⟨rfl, trivial⟩ trivial ⟨rfl, trivial⟩ trivial ⟨rfl, trivial⟩ rfl rfl rfl
        refine RA.nil nofun ?_
        refine AG.relen 0 t11.length ?_
        refine AG.region HM ?_
        refine a_move (v := vI _) ?_
        refine a_int (u := .int .i64 (wrap64 (x6 * 2))) ?_
        refine a_move (v := vI _) ?_
        refine RA.nil nofun ?_
        exact AGr.canon id (ih1 _ (by omega) _ ⟨by omega, _, _, _, _, H, rfl⟩) ⟨rfl, rfl, rfl, rfl, trivial⟩ ⟨rfl, trivial⟩ rfl
       ·rw [if_neg hc10] at H
        refine AG.no rfl (decide_eq_false hc10) ?_
        refine AG.skip ?_
        refine AG.region HM ?_
        refine a_move (v := vI _) ?_
        refine a_int (u := .int .i64 (wrap64 (x6 * 2))) ?_
        refine a_move (v := vI _) ?_
        refine RA.nil nofun ?_
        exact AGr.canon id (ih1 _ (by omega) _ ⟨by omega, _, _, _, _, H, rfl⟩) ⟨rfl, rfl, rfl, rfl, trivial⟩ ⟨rfl, trivial⟩ rfl
    ·rw [if_neg hc6] at H
     refine AG.no rfl (decide_eq_false hc6) ?_
     refine AG.exit ?_
     obtain rfl := Option.some.inj H
     exact RetP.mk (fun κ => cond (Nat.beq κ 0) 0 (κ)) trivial ⟨rfl, trivial⟩ rfl
/-! ### slices_SortStableFunc_int_int__impl_ShelfPlan_1: function 31 -/
def slices_SortStableFunc_int_int__impl_ShelfPlan_1.f (k : Nat) (l0 : List Int) (v1_0_0 : List (List Int)) : Option ((List Int)) := (slices_stableCmpFunc_int__impl_ShelfPlan_1.f k l0 (l0.length : Int) v1_0_0).bind fun t1 => (some t1)
set_option maxRecDepth 100000 in
theorem slices_SortStableFunc_int_int__impl_ShelfPlan_1.ok {k : Nat} {l0 : List Int} {v1_0_0 : List (List Int)} {r : List Int} (H : slices_SortStableFunc_int_int__impl_ShelfPlan_1.f k l0 v1_0_0 = some r) : OkF Try.prog 31 [.c (.own 0 l0.length), .c (.d (.fn 32 [.ro [.row 36 (v1_0_0.map c36)]]))] [(0, .row 3 (l0.map c3))] (.tup []) [(0, .row 3 (r.map c3))] := by
 unfold slices_SortStableFunc_int_int__impl_ShelfPlan_1.f at H
 refine OkF.of (N := 9) (rs := []) (avs := []) Try.func31 rfl rfl (fun _ _ => results_none rfl _ _ _) (by decide) rfl rfl rfl rfl (fun w0 S => ?_)
 refine AG.region HM ?_
 refine a_move (v := .c (.own _ _)) ?_
 refine a_move (v := .c (.own _ _)) ?_
 refine a_lenO ?_ Try.underlying50
 refine a_move (v := .c (.d (.fn _ _))) ?_
 obtain ⟨t1, e2, H⟩ := bindO H
 refine a_callM (v := .tup []) (nk := []) (L := []) (Mk := [(0, _)]) (ck := [(0, .row 3 (t1.map c3))]) ?_ rfl (slices_stableCmpFunc_int__impl_ShelfPlan_1.ok e2) id id (mcO (mcD (mcD m0))) trivial ⟨rfl, trivial⟩ trivial ⟨rfl, trivial⟩ trivial ⟨rfl, trivial⟩ rfl rfl rfl
 refine RA.nil nofun ?_
 obtain rfl := Option.some.inj H
 exact RetP.mk (fun κ => cond (Nat.beq κ 0) 0 (κ)) trivial ⟨rfl, trivial⟩ rfl
/-! ### impl_ShelfPlan: function 9 -/
mutual
def impl_ShelfPlan.l0 : Nat → Int → Int → List (List Int) → List Int → Int → Int → Option ((List (List Int)) × Int)
 | 0, _, _, _, _, _, _ => none
 | k + 1, x1, x2, y205_0, x9, x28, x29 => if x29 < x28 then (if x9.length < 17592186044416 then (impl_ShelfPlan.l0 k x1 x2 y205_0 (x9 ++ [x29]) x28 (wrap64 (x29 + 1))) else (none)) else ((slices_SortStableFunc_int_int__impl_ShelfPlan_1.f k x9 y205_0).bind fun t8 => (if 0 ≤ (y205_0.length : Int) then (if ((y205_0.length : Int) : Int).toNat ≤ 11728124029610 then (impl_ShelfPlan.l1 k x1 x2 y205_0 (List.replicate (((y205_0.length : Int) : Int).toNat) []) (-1) 0 0 0 t8 (t8.length : Int) 0) else (none)) else (none)))
def impl_ShelfPlan.l1 : Nat → Int → Int → List (List Int) → List (List Int) → Int → Int → Int → Int → List Int → Int → Int → Option ((List (List Int)) × Int)
 | 0, _, _, _, _, _, _, _, _, _, _, _ => none
 | k + 1, x1, x2, y210_0, x11, x12, x13, x14, x15, x43, x44, x45 => if x45 < x44 then (if 0 ≤ x45 then (if x45 < (x43.length : Int) then (if 0 ≤ (rd3 x43 x45) then (if (rd3 x43 x45) < (y210_0.length : Int) then (if x12 < 0 then (impl_ShelfPlan.j0 k x1 x2 y210_0 x11 x12 x13 x14 x15 (rd3 x43 x45) (rd36 y210_0 (rd3 x43 x45)) x43 x44 x45 true) else (if 0 < ((rd36 y210_0 (rd3 x43 x45)).length : Int) then (if (wrap64 (x13 + (rd2 (rd36 y210_0 (rd3 x43 x45)) 0))) > x1 then (if 1 < ((rd36 y210_0 (rd3 x43 x45)).length : Int) then (impl_ShelfPlan.j0 k x1 x2 y210_0 x11 x12 x13 x14 x15 (rd3 x43 x45) (rd36 y210_0 (rd3 x43 x45)) x43 x44 x45 (decide ((wrap64 ((wrap64 (x14 + x15)) + (rd2 (rd36 y210_0 (rd3 x43 x45)) 1))) > x2))) else (none)) else (impl_ShelfPlan.j0 k x1 x2 y210_0 x11 x12 x13 x14 x15 (rd3 x43 x45) (rd36 y210_0 (rd3 x43 x45)) x43 x44 x45 false)) else (none))) else (none)) else (none)) else (none)) else (none)) else (some (x11, 0))
def impl_ShelfPlan.j0 : Nat → Int → Int → List (List Int) → List (List Int) → Int → Int → Int → Int → Int → List Int → List Int → Int → Int → Bool → Option ((List (List Int)) × Int)
 | 0, _, _, _, _, _, _, _, _, _, _, _, _, _, _ => none
 | k + 1, x1, x2, y213_0, x11, x12, x13, x14, x15, x17, x18, x43, x44, x45, x53 => if x53 = true then (if 1 < (x18.length : Int) then (if 0 ≤ x17 then (if x17 < (x11.length : Int) then (if 0 < (x18.length : Int) then (impl_ShelfPlan.l1 k x1 x2 y213_0 (x11.set (x17 : Int).toNat ([wrap64 (x12 + 1), 0, 0])) (wrap64 (x12 + 1)) (wrap64 (0 + (rd2 x18 0))) 0 (rd2 x18 1) x43 x44 (wrap64 (x45 + 1))) else (none)) else (none)) else (none)) else (none)) else (if 0 < (x18.length : Int) then (if (wrap64 (x13 + (rd2 x18 0))) > x1 then (if 1 < (x18.length : Int) then (if 0 ≤ x17 then (if x17 < (x11.length : Int) then (impl_ShelfPlan.l1 k x1 x2 y213_0 (x11.set (x17 : Int).toNat ([x12, 0, wrap64 (x14 + x15)])) x12 (wrap64 (0 + (rd2 x18 0))) (wrap64 (x14 + x15)) (rd2 x18 1) x43 x44 (wrap64 (x45 + 1))) else (none)) else (none)) else (none)) else (if 0 ≤ x17 then (if x17 < (x11.length : Int) then (impl_ShelfPlan.l1 k x1 x2 y213_0 (x11.set (x17 : Int).toNat ([x12, x13, x14])) x12 (wrap64 (x13 + (rd2 x18 0))) x14 x15 x43 x44 (wrap64 (x45 + 1))) else (none)) else (none))) else (none))
end
def impl_ShelfPlan.f (k : Nat) (l0 : List (List Int)) (a1 : Int) (a2 : Int) : Option ((List (List Int)) × Int) := (impl_sizesCode.f k l0 a1 a2).bind fun t1 => (if t1 = 0 then (impl_ShelfPlan.l0 k a1 a2 l0 (([] : List Int) : List Int) (l0.length : Int) 0) else (some (([] : List (List Int)), t1)))
set_option maxRecDepth 100000 in
theorem impl_ShelfPlan.ok {k : Nat} {l0 : List (List Int)} {a1 : Int} {a2 : Int} {r0 : List (List Int)} {r1 : Int} (H : impl_ShelfPlan.f k l0 a1 a2 = some (r0, r1)) : OkF Try.prog 9 [vR 36 (l0.map c36), vI a1, vI a2] [] (.tup [.c (.own 100 r0.length), .c (.d (.v (.int .i64 r1)))]) [(100, .row 36 (r0.map c36))] := by
 unfold impl_ShelfPlan.f at H
 refine OkF.of (N := 109) (rs := [6, 7]) (avs := [.c (.own 100 r0.length), .c (.d (.v (.int .i64 r1)))]) Try.func9 rfl rfl (fun _ _ => results_tmp2 rfl _ _ _) (by decide) rfl rfl rfl rfl (fun w0 S => ?_)
 refine AG.seq ?_
 refine AG.region HM ?_
 refine a_box 200 ?_
 refine a_nilO (e := 36) 201 ?_ T36
 refine a_move (v := vI _) ?_
 refine RA.nil nofun ?_
 refine AG.seq ?_
 refine AG.seq ?_
 refine AG.region HM ?_
 refine a_ldB (v := vR _ _) ?_ T22
 refine a_move (v := vI _) ?_
 refine a_move (v := vI _) ?_
 obtain ⟨t1, e2, H⟩ := bindO H
 refine a_call (v := vI t1) (nk := []) (L := []) ?_ rfl (impl_sizesCode.ok e2) id (qd (qd (qd qn))) trivial trivial trivial rfl
 refine a_move (v := vI _) ?_
 refine RA.nil nofun ?_
 refine AG.seq ?_
 refine AG.region HM ?_
 refine a_move (v := vI _) ?_
 refine a_int (u := .bool ((t1 != 0))) ?_
 refine RA.nil nofun ?_
 by_cases hc3 : t1 = 0
 ·rw [if_pos hc3] at H
  refine AG.no rfl (bne_eq_false_iff_eq.2 hc3) ?_
  refine AG.skip ?_
  refine AG.seq ?_
  refine AG.region HM ?_
  refine a_lit (cs := []) (D := []) (css := (([] : List Int) : List Int).map c3) 204 ?_ N50 T3 (hcss := by rfl)
  refine a_move (v := .c (.own _ _)) ?_
  refine RA.nil nofun ?_
  refine AG.seq ?_
  refine AG.seq ?_
  refine AG.region HM ?_
  refine a_ldB (v := vR _ _) ?_ T22
  refine a_lenR ?_ Try.underlying22
  refine a_move (v := vI _) ?_
  refine RA.nil nofun ?_
  refine AG.block ?_
  refine AG.loop ?_
  obtain ⟨K0, hK0, gK0⟩ : ∃ K, k ≤ K ∧ K ≤ k := ⟨k, Nat.le_refl k, Nat.le_refl k⟩
  refine AGr.canon (fun κ => cond (Nat.beq κ 205) 200 (cond (Nat.beq κ 206) 204 (κ))) (AGr.loopI (n := k) (fun k s => k ≤ K0 ∧ ∃ (x1 : Int) (x2 : Int) (y205_0 : List (List Int)) (x9 : List Int) (x28 : Int) (x29 : Int), impl_ShelfPlan.l0 k x1 x2 y205_0 x9 x28 x29 = some (r0, r1) ∧ s = St.of [(1, vI x1), (2, vI x2), (3, .c (.ptr 205 0)), (9, .c (.own 206 x9.length)), (28, vI x28), (29, vI x29)] [(205, .box 22 [.d (.row 36 (y205_0.map c36))]), (206, .row 3 (x9.map c3))]) ⟨hK0, _, _, _, _, _, _, H, rfl⟩ ?_ ?_) ⟨rfl, rfl, rfl, (ownE rfl (by simp)), rfl, rfl, trivial⟩ ⟨rfl, rfl, trivial⟩ rfl
  ·rintro _ ⟨_, _, _, _, _, _, _, H, _⟩
   cases H
  ·clear H hK0
   rintro k ih0 _ ⟨hK0, x1, x2, y205_0, x9, x28, x29, H, rfl⟩
   unfold impl_ShelfPlan.l0 at H
   refine AG.seq ?_
   refine AG.region HM ?_
   refine a_int (u := .bool (decide (x29 < x28))) ?_
   refine RA.nil nofun ?_
   refine AG.seq ?_
   by_cases hc5 : x29 < x28
   ·rw [if_pos hc5] at H
    refine AG.yes rfl (decide_eq_true hc5) ?_
    refine AG.skip ?_
    refine AG.seq ?_
    refine AG.block ?_
    refine AG.seq ?_
    refine AG.region HM ?_
    refine a_move (v := vI _) ?_
    refine a_move (v := vI _) ?_
    refine RA.nil nofun ?_
    refine AG.region HM ?_
    refine a_move (v := .c (.own _ _)) ?_
    refine a_move (v := vI _) ?_
    refine a_lit (cs := [_]) (D := []) (css := ([x29]).map c3) 207 ?_ N50 T3
    by_cases hc6 : x9.length < 17592186044416
    ·rw [if_pos hc6] at H
     refine a_appO (css' := (x9 ++ [x29]).map c3) (n' := (x9 ++ [x29]).length) ?_ T3 (by simp [maxLen]; omega) (by simp; omega) Try.underlying50 (hc := by exact List.map_append.symm) (hn := by exact List.length_map _)
     refine a_move (v := .c (.own _ _)) ?_
     refine RA.nil nofun ?_
     refine AG.region HM ?_
     refine a_int (u := .int .i64 (wrap64 (x29 + 1))) ?_
     refine a_move (v := vI _) ?_
     refine RA.nil nofun ?_
     exact AGr.canon id (ih0 _ (by omega) _ ⟨by omega, _, _, _, _, _, _, H, rfl⟩) ⟨rfl, rfl, rfl, rfl, rfl, rfl, trivial⟩ ⟨rfl, rfl, trivial⟩ rfl
    ·rw [if_neg hc6] at H
     cases H
   ·rw [if_neg hc5] at H
    refine AG.no rfl (decide_eq_false hc5) ?_
    refine AG.exit ?_
    refine AG.seq ?_
    refine AG.region HM ?_
    refine a_move (v := .c (.own _ _)) ?_
    refine a_fnc (ks := [205]) ?_
    obtain ⟨t8, e9, H⟩ := bindO H
    refine a_callM (v := .tup []) (nk := []) (L := [(205, _)]) (Mk := [(206, _)]) (ck := [(206, .row 3 (t8.map c3))]) ?_ rfl (slices_SortStableFunc_int_int__impl_ShelfPlan_1.ok e9) (fun κ => cond (Nat.beq κ 0) 206 (κ)) (fun κ => cond (Nat.beq κ 206) 0 (κ)) (mcO (mcC (rF1 (rP (pD p0))) m0)) ⟨rfl, trivial⟩ ⟨rfl, trivial⟩ trivial ⟨rfl, trivial⟩ trivial ⟨rfl, trivial⟩ rfl rfl rfl
    refine RA.nil nofun ?_
    refine AG.relen 206 t8.length ?_
    refine AG.seq ?_
    refine AG.region HM ?_
    refine a_ldB (v := vR _ _) ?_ T22
    refine a_lenR ?_ Try.underlying22
    by_cases hc10 : 0 ≤ (y205_0.length : Int)
    ·rw [if_pos hc10] at H
     by_cases hc11 : ((y205_0.length : Int) : Int).toNat ≤ 11728124029610
     ·rw [if_pos hc11] at H
      refine a_make (n := (y205_0.length : Int)) (css := (List.replicate (((y205_0.length : Int) : Int).toNat) []).map c36) 209 ?_ N22 T36 (zR T2 zN) hc10 (by omega) (by omega) (hcss := by exact rep_map rfl)
      refine a_move (v := .c (.own _ _)) ?_
      refine RA.nil nofun ?_
      refine AG.seq ?_
      refine AG.region HM ?_
      refine a_move (v := vI _) ?_
      refine a_move (v := vI _) ?_
      refine a_move (v := vI _) ?_
      refine a_move (v := vI _) ?_
      refine RA.nil nofun ?_
      refine AG.seq ?_
      refine AG.seq ?_
      refine AG.region HM ?_
      refine a_move (v := .c (.own _ _)) ?_
      refine a_lenO ?_ Try.underlying50
      refine a_move (v := vI _) ?_
      refine RA.nil nofun ?_
      refine AG.block ?_
      refine AG.loop ?_
      obtain ⟨K1, hK1, gK1⟩ : ∃ K, k ≤ K ∧ K ≤ k := ⟨k, Nat.le_refl k, Nat.le_refl k⟩
      refine AGr.canon (fun κ => cond (Nat.beq κ 210) 205 (cond (Nat.beq κ 211) 209 (cond (Nat.beq κ 212) 206 (κ)))) (AGr.loopI (n := k) (fun k s => k ≤ K1 ∧ ∃ (x1 : Int) (x2 : Int) (y210_0 : List (List Int)) (x11 : List (List Int)) (x12 : Int) (x13 : Int) (x14 : Int) (x15 : Int) (x43 : List Int) (x44 : Int) (x45 : Int), impl_ShelfPlan.l1 k x1 x2 y210_0 x11 x12 x13 x14 x15 x43 x44 x45 = some (r0, r1) ∧ s = St.of [(1, vI x1), (2, vI x2), (3, .c (.ptr 210 0)), (11, .c (.own 211 x11.length)), (12, vI x12), (13, vI x13), (14, vI x14), (15, vI x15), (43, .c (.own 212 x43.length)), (44, vI x44), (45, vI x45)] [(210, .box 22 [.d (.row 36 (y210_0.map c36))]), (211, .row 36 (x11.map c36)), (212, .row 3 (x43.map c3))]) ⟨hK1, _, _, _, _, _, _, _, _, _, _, _, H, rfl⟩ ?_ ?_) ⟨rfl, rfl, rfl, (ownE rfl (by simp)), rfl, rfl, rfl, rfl, rfl, rfl, rfl, trivial⟩ ⟨rfl, rfl, rfl, trivial⟩ rfl
      ·rintro _ ⟨_, _, _, _, _, _, _, _, _, _, _, _, H, _⟩
       cases H
      ·clear H hK1
       rintro k ih1 _ ⟨hK1, x1, x2, y210_0, x11, x12, x13, x14, x15, x43, x44, x45, H, rfl⟩
       unfold impl_ShelfPlan.l1 at H
       refine AG.seq ?_
       refine AG.region HM ?_
       refine a_int (u := .bool (decide (x45 < x44))) ?_
       refine RA.nil nofun ?_
       refine AG.seq ?_
       by_cases hc13 : x45 < x44
       ·rw [if_pos hc13] at H
        refine AG.yes rfl (decide_eq_true hc13) ?_
        refine AG.skip ?_
        refine AG.seq ?_
        refine AG.block ?_
        refine AG.seq ?_
        refine AG.region HM ?_
        by_cases hc14 : 0 ≤ x45
        ·rw [if_pos hc14] at H
         by_cases hc15 : x45 < (x43.length : Int)
         ·rw [if_pos hc15] at H
          refine a_ixO ?_ ⟨hc14, hc15⟩ T3 Try.underlying50
          refine a_ldE (v := vI _) ?_ (G3 hc14 hc15) T3
          refine a_move (v := vI _) ?_
          refine RA.nil nofun ?_
          refine AG.seq ?_
          refine AG.region HM ?_
          refine a_ldB (v := vR _ _) ?_ T22
          refine a_move (v := vI _) ?_
          by_cases hc16 : 0 ≤ (rd3 x43 x45)
          ·rw [if_pos hc16] at H
           by_cases hc17 : (rd3 x43 x45) < (y210_0.length : Int)
           ·rw [if_pos hc17] at H
            refine a_ixR (el := c36 (rd36 y210_0 (rd3 x43 x45))) ?_ ⟨hc16, hc17⟩ T36 Try.underlying22 (hel := R36 hc16 hc17)
            refine a_ldR (v := vR _ _) ?_ T36
            refine a_move (v := vR _ _) ?_
            refine RA.nil nofun ?_
            refine AG.seq ?_
            refine AG.block ?_
            refine AG.seq ?_
            refine AG.joinR (fun s => ∃ q, q ≤ k ∧ ∃ (x1 : Int) (x2 : Int) (y213_0 : List (List Int)) (x11 : List (List Int)) (x12 : Int) (x13 : Int) (x14 : Int) (x15 : Int) (x17 : Int) (x18 : List Int) (x43 : List Int) (x44 : Int) (x45 : Int) (x53 : Bool), impl_ShelfPlan.j0 q x1 x2 y213_0 x11 x12 x13 x14 x15 x17 x18 x43 x44 x45 x53 = some (r0, r1) ∧ s = St.of [(1, vI x1), (2, vI x2), (3, .c (.ptr 213 0)), (11, .c (.own 214 x11.length)), (12, vI x12), (13, vI x13), (14, vI x14), (15, vI x15), (17, vI x17), (18, vR 2 (x18.map c2)), (43, .c (.own 215 x43.length)), (44, vI x44), (45, vI x45), (53, vB x53)] [(213, .box 22 [.d (.row 36 (y213_0.map c36))]), (214, .row 36 (x11.map c36)), (215, .row 3 (x43.map c3))]) ?_ ?_
            ·skip
             refine AG.region HM ?_
             refine a_move (v := vI _) ?_
             refine a_int (u := .bool (decide (x12 < 0))) ?_
             refine a_move (v := vB _) ?_
             by_cases hc18 : x12 < 0
             ·rw [if_pos hc18] at H
              refine RA.skip rfl rfl rfl rfl rfl (decide_eq_true hc18) (by decide) ?_
              refine RA.skip rfl rfl rfl rfl rfl (decide_eq_true hc18) (by decide) ?_
              refine RA.skip rfl rfl rfl rfl rfl (decide_eq_true hc18) (by decide) ?_
              refine RA.skip rfl rfl rfl rfl rfl (decide_eq_true hc18) (by decide) ?_
              refine RA.skip rfl rfl rfl rfl rfl (decide_eq_true hc18) (by decide) ?_
              refine RA.skip rfl rfl rfl rfl rfl (decide_eq_true hc18) (by decide) ?_
              refine RA.skip rfl rfl rfl rfl rfl (decide_eq_true hc18) (by decide) ?_
              refine RA.skip rfl rfl rfl rfl rfl (decide_eq_true hc18) (by decide) ?_
              refine RA.skip0 rfl rfl rfl rfl rfl ?_
              refine RA.skip0 rfl rfl rfl rfl rfl ?_
              refine RA.skip0 rfl rfl rfl rfl rfl ?_
              refine RA.skip0 rfl rfl rfl rfl rfl ?_
              refine RA.skip0 rfl rfl rfl rfl rfl ?_
              refine RA.skip0 rfl rfl rfl rfl rfl ?_
              refine RA.skip0 rfl rfl rfl rfl rfl ?_
              refine RA.skip0 rfl rfl rfl rfl rfl ?_
              refine RA.skip0 rfl rfl rfl rfl rfl ?_
              refine RA.skip rfl rfl rfl rfl rfl (decide_eq_true hc18) (by decide) ?_
              refine a_pick (b := true) (v := vB _) ?_ (decide_eq_true hc18)
              refine a_move (v := vB _) ?_
              refine RA.nil nofun ?_
              exact CanR.mk (fun κ => cond (Nat.beq κ 213) 210 (cond (Nat.beq κ 214) 211 (cond (Nat.beq κ 215) 212 (κ)))) ⟨_, (by omega), _, _, _, _, _, _, _, _, _, _, _, _, _, _, H, rfl⟩ ⟨rfl, rfl, rfl, rfl, rfl, rfl, rfl, rfl, rfl, rfl, rfl, rfl, rfl, rfl, trivial⟩ ⟨rfl, rfl, rfl, trivial⟩ rfl
             ·rw [if_neg hc18] at H
              refine a_move (v := vI _) ?_ (hg := Gs.yes rfl rfl rfl (decide_eq_false hc18))
              refine a_move (v := vR _ _) ?_ (hg := Gs.yes rfl rfl rfl (decide_eq_false hc18))
              by_cases hc19 : 0 < ((rd36 y210_0 (rd3 x43 x45)).length : Int)
              ·rw [if_pos hc19] at H
               refine a_ixR (el := c2 (rd2 (rd36 y210_0 (rd3 x43 x45)) 0)) ?_ ⟨(by decide), hc19⟩ T2 Try.underlying36 (hel := R2 (by decide) hc19) (hg := Gs.yes rfl rfl rfl (decide_eq_false hc18))
               refine a_ldR (v := vI _) ?_ T2 (hg := Gs.yes rfl rfl rfl (decide_eq_false hc18))
               refine a_int (u := .int .i64 (wrap64 (x13 + (rd2 (rd36 y210_0 (rd3 x43 x45)) 0)))) ?_ (hg := Gs.yes rfl rfl rfl (decide_eq_false hc18))
               refine a_move (v := vI _) ?_ (hg := Gs.yes rfl rfl rfl (decide_eq_false hc18))
               refine a_int (u := .bool (decide ((wrap64 (x13 + (rd2 (rd36 y210_0 (rd3 x43 x45)) 0))) > x1))) ?_ (hg := Gs.yes rfl rfl rfl (decide_eq_false hc18))
               refine a_move (v := vB _) ?_ (hg := Gs.yes rfl rfl rfl (decide_eq_false hc18))
               by_cases hc20 : (wrap64 (x13 + (rd2 (rd36 y210_0 (rd3 x43 x45)) 0))) > x1
               ·rw [if_pos hc20] at H
                refine a_move (v := vI _) ?_ (hg := Gs.yes rfl rfl rfl (decide_eq_true hc20))
                refine a_move (v := vI _) ?_ (hg := Gs.yes rfl rfl rfl (decide_eq_true hc20))
                refine a_int (u := .int .i64 (wrap64 (x14 + x15))) ?_ (hg := Gs.yes rfl rfl rfl (decide_eq_true hc20))
                refine a_move (v := vR _ _) ?_ (hg := Gs.yes rfl rfl rfl (decide_eq_true hc20))
                by_cases hc21 : 1 < ((rd36 y210_0 (rd3 x43 x45)).length : Int)
                ·rw [if_pos hc21] at H
                 refine a_ixR (el := c2 (rd2 (rd36 y210_0 (rd3 x43 x45)) 1)) ?_ ⟨(by decide), hc21⟩ T2 Try.underlying36 (hel := R2 (by decide) hc21) (hg := Gs.yes rfl rfl rfl (decide_eq_true hc20))
                 refine a_ldR (v := vI _) ?_ T2 (hg := Gs.yes rfl rfl rfl (decide_eq_true hc20))
                 refine a_int (u := .int .i64 (wrap64 ((wrap64 (x14 + x15)) + (rd2 (rd36 y210_0 (rd3 x43 x45)) 1)))) ?_ (hg := Gs.yes rfl rfl rfl (decide_eq_true hc20))
                 refine a_move (v := vI _) ?_ (hg := Gs.yes rfl rfl rfl (decide_eq_true hc20))
                 refine a_int (u := .bool (decide ((wrap64 ((wrap64 (x14 + x15)) + (rd2 (rd36 y210_0 (rd3 x43 x45)) 1))) > x2))) ?_ (hg := Gs.yes rfl rfl rfl (decide_eq_true hc20))
                 refine a_pick (b := true) (v := vB _) ?_ (decide_eq_true hc20) (hg := Gs.yes rfl rfl rfl (decide_eq_false hc18))
                 refine a_pick (b := false) (v := vB _) ?_ (decide_eq_false hc18)
                 refine a_move (v := vB _) ?_
                 refine RA.nil nofun ?_
                 exact CanR.mk (fun κ => cond (Nat.beq κ 213) 210 (cond (Nat.beq κ 214) 211 (cond (Nat.beq κ 215) 212 (κ)))) ⟨_, (by omega), _, _, _, _, _, _, _, _, _, _, _, _, _, _, H, rfl⟩ ⟨rfl, rfl, rfl, rfl, rfl, rfl, rfl, rfl, rfl, rfl, rfl, rfl, rfl, rfl, trivial⟩ ⟨rfl, rfl, rfl, trivial⟩ rfl
                ·rw [if_neg hc21] at H
                 cases H
               ·rw [if_neg hc20] at H
                refine RA.skip rfl rfl rfl rfl rfl (decide_eq_false hc20) (by decide) ?_
                refine RA.skip rfl rfl rfl rfl rfl (decide_eq_false hc20) (by decide) ?_
                refine RA.skip rfl rfl rfl rfl rfl (decide_eq_false hc20) (by decide) ?_
                refine RA.skip rfl rfl rfl rfl rfl (decide_eq_false hc20) (by decide) ?_
                refine RA.skip rfl rfl rfl rfl rfl (decide_eq_false hc20) (by decide) ?_
                refine RA.skip rfl rfl rfl rfl rfl (decide_eq_false hc20) (by decide) ?_
                refine RA.skip rfl rfl rfl rfl rfl (decide_eq_false hc20) (by decide) ?_
                refine RA.skip rfl rfl rfl rfl rfl (decide_eq_false hc20) (by decide) ?_
                refine RA.skip rfl rfl rfl rfl rfl (decide_eq_false hc20) (by decide) ?_
                refine a_pick (b := false) (v := vB _) ?_ (decide_eq_false hc20) (hg := Gs.yes rfl rfl rfl (decide_eq_false hc18))
                refine a_pick (b := false) (v := vB _) ?_ (decide_eq_false hc18)
                refine a_move (v := vB _) ?_
                refine RA.nil nofun ?_
                exact CanR.mk (fun κ => cond (Nat.beq κ 213) 210 (cond (Nat.beq κ 214) 211 (cond (Nat.beq κ 215) 212 (κ)))) ⟨_, (by omega), _, _, _, _, _, _, _, _, _, _, _, _, _, _, H, rfl⟩ ⟨rfl, rfl, rfl, rfl, rfl, rfl, rfl, rfl, rfl, rfl, rfl, rfl, rfl, rfl, trivial⟩ ⟨rfl, rfl, rfl, trivial⟩ rfl
              ·rw [if_neg hc19] at H
               cases H
            ·clear H
             rintro _ ⟨k, hj0, x1, x2, y213_0, x11, x12, x13, x14, x15, x17, x18, x43, x44, x45, x53, H, rfl⟩
             cases k with
             | zero => cases H
             | succ k =>
              rw [impl_ShelfPlan.j0] at H
              by_cases hc22 : x53 = true
              ·rw [if_pos hc22] at H
               refine AG.yes rfl hc22 ?_
               refine AG.seq ?_
               refine AG.region HM ?_
               refine a_move (v := vI _) ?_
               refine a_int (u := .int .i64 (wrap64 (x12 + 1))) ?_
               refine a_move (v := vI _) ?_
               refine RA.nil nofun ?_
               refine AG.region HM ?_
               refine a_move (v := vR _ _) ?_
               by_cases hc23 : 1 < (x18.length : Int)
               ·rw [if_pos hc23] at H
                refine a_ixR (el := c2 (rd2 x18 1)) ?_ ⟨(by decide), hc23⟩ T2 Try.underlying36 (hel := R2 (by decide) hc23)
                refine a_ldR (v := vI _) ?_ T2
                refine a_move (v := vI _) ?_
                refine a_move (v := vI _) ?_
                refine a_move (v := vI _) ?_
                refine RA.nil (fun _ => by kernel_rfl) ?_
                refine AG.seq ?_
                refine AG.region HM ?_
                refine a_move (v := .c (.own _ _)) ?_
                refine a_move (v := vI _) ?_
                refine a_move (v := vI _) ?_
                refine a_move (v := vI _) ?_
                refine a_move (v := vI _) ?_
                refine a_lit (cs := [_, _, _]) (D := []) (css := ([wrap64 (x12 + 1), 0, 0]).map c2) 216 ?_ N36 T2 (hcss := by rfl)
                by_cases hc25 : 0 ≤ x17
                ·rw [if_pos hc25] at H
                 by_cases hc26 : x17 < (x11.length : Int)
                 ·rw [if_pos hc26] at H
                  refine a_ixO ?_ ⟨hc25, hc26⟩ T36 Try.underlying22
                  refine a_stE (D := [216]) (css' := (x11.set (x17 : Int).toNat ([wrap64 (x12 + 1), 0, 0])).map c36) ?_ (G36 hc25 hc26) T36 (hcss := by exact set_map rfl)
                  refine RA.nil nofun ?_
                  refine AG.region HM ?_
                  refine a_move (v := vI _) ?_
                  refine a_move (v := vR _ _) ?_
                  by_cases hc28 : 0 < (x18.length : Int)
                  ·rw [if_pos hc28] at H
                   refine a_ixR (el := c2 (rd2 x18 0)) ?_ ⟨(by decide), hc28⟩ T2 Try.underlying36 (hel := R2 (by decide) hc28)
                   refine a_ldR (v := vI _) ?_ T2
                   refine a_int (u := .int .i64 (wrap64 (0 + (rd2 x18 0)))) ?_
                   refine a_move (v := vI _) ?_
                   refine RA.nil nofun ?_
                   refine AG.region HM ?_
                   refine a_int (u := .int .i64 (wrap64 (x45 + 1))) ?_
                   refine a_move (v := vI _) ?_
                   refine RA.nil nofun ?_
                   exact AGr.canon (fun κ => cond (Nat.beq κ 210) 213 (cond (Nat.beq κ 211) 214 (cond (Nat.beq κ 212) 215 (κ)))) (ih1 _ (by omega) _ ⟨by omega, _, _, _, _, _, _, _, _, _, _, _, H, rfl⟩) ⟨rfl, rfl, rfl, (ownE rfl (by simp)), rfl, rfl, rfl, rfl, rfl, rfl, rfl, trivial⟩ ⟨rfl, rfl, rfl, trivial⟩ rfl
                  ·rw [if_neg hc28] at H
                   cases H
                 ·rw [if_neg hc26] at H
                  cases H
                ·rw [if_neg hc25] at H
                 cases H
               ·rw [if_neg hc23] at H
                cases H
              ·rw [if_neg hc22] at H
               refine AG.no rfl (Bool.eq_false_iff.2 hc22) ?_
               refine AG.seq ?_
               refine AG.region HM ?_
               refine a_move (v := vI _) ?_
               refine a_move (v := vR _ _) ?_
               by_cases hc29 : 0 < (x18.length : Int)
               ·rw [if_pos hc29] at H
                refine a_ixR (el := c2 (rd2 x18 0)) ?_ ⟨(by decide), hc29⟩ T2 Try.underlying36 (hel := R2 (by decide) hc29)
                refine a_ldR (v := vI _) ?_ T2
                refine a_int (u := .int .i64 (wrap64 (x13 + (rd2 x18 0)))) ?_
                refine a_move (v := vI _) ?_
                refine a_int (u := .bool (decide ((wrap64 (x13 + (rd2 x18 0))) > x1))) ?_
                refine a_move (v := vB _) ?_
                refine RA.nil nofun ?_
                by_cases hc30 : (wrap64 (x13 + (rd2 x18 0))) > x1
                ·rw [if_pos hc30] at H
                 refine AG.yes rfl (decide_eq_true hc30) ?_
                 refine AG.region HM ?_
                 refine a_move (v := vI _) ?_
                 refine a_move (v := vI _) ?_
                 refine a_int (u := .int .i64 (wrap64 (x14 + x15))) ?_
                 refine a_move (v := vR _ _) ?_
                 by_cases hc31 : 1 < (x18.length : Int)
                 ·rw [if_pos hc31] at H
                  refine a_ixR (el := c2 (rd2 x18 1)) ?_ ⟨(by decide), hc31⟩ T2 Try.underlying36 (hel := R2 (by decide) hc31)
                  refine a_ldR (v := vI _) ?_ T2
                  refine a_move (v := vI _) ?_
                  refine a_move (v := vI _) ?_
                  refine a_move (v := vI _) ?_
                  refine RA.nil (fun _ => by kernel_rfl) ?_
                  refine AG.seq ?_
                  refine AG.region HM ?_
                  refine a_move (v := .c (.own _ _)) ?_
                  refine a_move (v := vI _) ?_
                  refine a_move (v := vI _) ?_
                  refine a_move (v := vI _) ?_
                  refine a_move (v := vI _) ?_
                  refine a_lit (cs := [_, _, _]) (D := []) (css := ([x12, 0, wrap64 (x14 + x15)]).map c2) 216 ?_ N36 T2 (hcss := by rfl)
                  by_cases hc33 : 0 ≤ x17
                  ·rw [if_pos hc33] at H
                   by_cases hc34 : x17 < (x11.length : Int)
                   ·rw [if_pos hc34] at H
                    refine a_ixO ?_ ⟨hc33, hc34⟩ T36 Try.underlying22
                    refine a_stE (D := [216]) (css' := (x11.set (x17 : Int).toNat ([x12, 0, wrap64 (x14 + x15)])).map c36) ?_ (G36 hc33 hc34) T36 (hcss := by exact set_map rfl)
                    refine RA.nil nofun ?_
                    refine AG.region HM ?_
                    refine a_move (v := vI _) ?_
                    refine a_move (v := vR _ _) ?_
                    refine a_ixR (el := c2 (rd2 x18 0)) ?_ ⟨(by decide), hc29⟩ T2 Try.underlying36 (hel := R2 (by decide) hc29)
                    refine a_ldR (v := vI _) ?_ T2
                    refine a_int (u := .int .i64 (wrap64 (0 + (rd2 x18 0)))) ?_
                    refine a_move (v := vI _) ?_
                    refine RA.nil nofun ?_
                    refine AG.region HM ?_
                    refine a_int (u := .int .i64 (wrap64 (x45 + 1))) ?_
                    refine a_move (v := vI _) ?_
                    refine RA.nil nofun ?_
                    exact AGr.canon (fun κ => cond (Nat.beq κ 210) 213 (cond (Nat.beq κ 211) 214 (cond (Nat.beq κ 212) 215 (κ)))) (ih1 _ (by omega) _ ⟨by omega, _, _, _, _, _, _, _, _, _, _, _, H, rfl⟩) ⟨rfl, rfl, rfl, (ownE rfl (by simp)), rfl, rfl, rfl, rfl, rfl, rfl, rfl, trivial⟩ ⟨rfl, rfl, rfl, trivial⟩ rfl
                   ·rw [if_neg hc34] at H
                    cases H
                  ·rw [if_neg hc33] at H
                   cases H
                 ·rw [if_neg hc31] at H
                  cases H
                ·rw [if_neg hc30] at H
                 refine AG.no rfl (decide_eq_false hc30) ?_
                 refine AG.skip ?_
                 refine AG.seq ?_
                 refine AG.region HM ?_
                 refine a_move (v := .c (.own _ _)) ?_
                 refine a_move (v := vI _) ?_
                 refine a_move (v := vI _) ?_
                 refine a_move (v := vI _) ?_
                 refine a_move (v := vI _) ?_
                 refine a_lit (cs := [_, _, _]) (D := []) (css := ([x12, x13, x14]).map c2) 216 ?_ N36 T2 (hcss := by rfl)
                 by_cases hc37 : 0 ≤ x17
                 ·rw [if_pos hc37] at H
                  by_cases hc38 : x17 < (x11.length : Int)
                  ·rw [if_pos hc38] at H
                   refine a_ixO ?_ ⟨hc37, hc38⟩ T36 Try.underlying22
                   refine a_stE (D := [216]) (css' := (x11.set (x17 : Int).toNat ([x12, x13, x14])).map c36) ?_ (G36 hc37 hc38) T36 (hcss := by exact set_map rfl)
                   refine RA.nil nofun ?_
                   refine AG.region HM ?_
                   refine a_move (v := vI _) ?_
                   refine a_move (v := vR _ _) ?_
                   refine a_ixR (el := c2 (rd2 x18 0)) ?_ ⟨(by decide), hc29⟩ T2 Try.underlying36 (hel := R2 (by decide) hc29)
                   refine a_ldR (v := vI _) ?_ T2
                   refine a_int (u := .int .i64 (wrap64 (x13 + (rd2 x18 0)))) ?_
                   refine a_move (v := vI _) ?_
                   refine RA.nil nofun ?_
                   refine AG.region HM ?_
                   refine a_int (u := .int .i64 (wrap64 (x45 + 1))) ?_
                   refine a_move (v := vI _) ?_
                   refine RA.nil nofun ?_
                   exact AGr.canon (fun κ => cond (Nat.beq κ 210) 213 (cond (Nat.beq κ 211) 214 (cond (Nat.beq κ 212) 215 (κ)))) (ih1 _ (by omega) _ ⟨by omega, _, _, _, _, _, _, _, _, _, _, _, H, rfl⟩) ⟨rfl, rfl, rfl, (ownE rfl (by simp)), rfl, rfl, rfl, rfl, rfl, rfl, rfl, trivial⟩ ⟨rfl, rfl, rfl, trivial⟩ rfl
                  ·rw [if_neg hc38] at H
                   cases H
                 ·rw [if_neg hc37] at H
                  cases H
               ·rw [if_neg hc29] at H
                cases H
           ·rw [if_neg hc17] at H
            cases H
          ·rw [if_neg hc16] at H
           cases H
         ·rw [if_neg hc15] at H
          cases H
        ·rw [if_neg hc14] at H
         cases H
       ·rw [if_neg hc13] at H
        refine AG.no rfl (decide_eq_false hc13) ?_
        refine AG.exit ?_
        refine AG.seq ?_
        refine AG.region HM ?_
        refine a_move (v := .c (.own _ _)) ?_
        refine a_move (v := .c (.own _ _)) ?_
        refine a_move (v := vI _) ?_
        refine RA.nil nofun ?_
        refine AG.ret ?_
        simp only [Option.some.injEq, Prod.mk.injEq] at H
        obtain ⟨rfl, rfl⟩ := H
        exact RetP.mk (fun κ => cond (Nat.beq κ 100) 211 (κ)) ⟨rfl, rfl, trivial⟩ ⟨rfl, trivial⟩ rfl
     ·rw [if_neg hc11] at H
      cases H
    ·rw [if_neg hc10] at H
     cases H
 ·rw [if_neg hc3] at H
  refine AG.yes rfl (bne_iff_ne.2 hc3) ?_
  refine AG.seq ?_
  refine AG.region HM ?_
  refine a_move (v := vI _) ?_
  refine a_nilO (e := 36) 203 ?_ T36
  refine a_move (v := vI _) ?_
  refine RA.nil nofun ?_
  refine AG.ret ?_
  simp only [Option.some.injEq, Prod.mk.injEq] at H
  obtain ⟨rfl, rfl⟩ := H
  exact RetP.mk (fun κ => cond (Nat.beq κ 100) 203 (κ)) ⟨(ownE rfl (by simp)), rfl, trivial⟩ ⟨rfl, trivial⟩ rfl
/-! ### impl_ShelfLeaves: function 14 -/
def impl_ShelfLeaves.l0 : Nat → Int → Int → List (List Int) → Int → Int → Option (Int × Int)
 | 0, _, _, _, _, _ => none
 | k + 1, x9, x10, x20, x21, x22 => if x22 < x21 then (if 0 ≤ x22 then (if x22 < (x20.length : Int) then (if 0 < ((rd36 x20 x22).length : Int) then (impl_ShelfLeaves.l0 k x9 (mx x10 (wrap64 ((rd2 (rd36 x20 x22) 0) + 1))) x20 x21 (wrap64 (x22 + 1))) else (none)) else (none)) else (none)) else (some (x10, x9))
def impl_ShelfLeaves.f (k : Nat) (l0 : List (List Int)) (a1 : Int) (a2 : Int) : Option (Int × Int) := (impl_ShelfPlan.f k l0 a1 a2).bind fun bt1 => (impl_ShelfLeaves.l0 k bt1.2 0 bt1.1 (bt1.1.length : Int) 0)
set_option maxRecDepth 100000 in
theorem impl_ShelfLeaves.ok {k : Nat} {l0 : List (List Int)} {a1 : Int} {a2 : Int} {r0 : Int} {r1 : Int} (H : impl_ShelfLeaves.f k l0 a1 a2 = some (r0, r1)) : OkF Try.prog 14 [vR 36 (l0.map c36), vI a1, vI a2] [] (.tup [.c (.d (.v (.int .i64 r0))), .c (.d (.v (.int .i64 r1)))]) [] := by
 unfold impl_ShelfLeaves.f at H
 refine OkF.of (N := 35) (rs := [6, 7]) (avs := [.c (.d (.v (.int .i64 r0))), .c (.d (.v (.int .i64 r1)))]) Try.func14 rfl rfl (fun _ _ => results_tmp2 rfl _ _ _) (by decide) rfl rfl rfl rfl (fun w0 S => ?_)
 refine AG.seq ?_
 refine AG.region HM ?_
 refine a_move (v := vI _) ?_
 refine a_move (v := vI _) ?_
 refine RA.nil nofun ?_
 refine AG.seq ?_
 refine AG.region HM ?_
 refine a_move (v := vR _ _) ?_
 refine a_move (v := vI _) ?_
 refine a_move (v := vI _) ?_
 obtain ⟨⟨t1, t2⟩, e3, H⟩ := bindO H
 refine a_call (v := .tup [.c (.own 200 t1.length), .c (.d (.v (.int .i64 t2)))]) (nk := [(200, .row 36 (t1.map c36))]) (L := []) ?_ rfl (impl_ShelfPlan.ok e3) (fun κ => cond (Nat.beq κ 200) 100 (κ)) (qd (qd (qd qn))) trivial ⟨rfl, trivial⟩ ⟨rfl, trivial⟩ rfl
 refine a_move (v := .tup [_, _]) ?_
 refine a_ext (v := .c (.own _ _)) ?_
 refine a_ext (v := vI _) ?_
 refine a_move (v := .c (.own _ _)) ?_
 refine a_move (v := vI _) ?_
 refine RA.nil nofun ?_
 refine AG.seq ?_
 refine AG.freeze 200 ?_
 refine AG.region HM ?_
 refine a_move (v := vI _) ?_
 refine RA.nil nofun ?_
 refine AG.seq ?_
 refine AG.seq ?_
 refine AG.region HM ?_
 refine a_move (v := vR _ _) ?_
 refine a_lenR ?_ Try.underlying22
 refine a_move (v := vI _) ?_
 refine RA.nil nofun ?_
 refine AG.block ?_
 refine AG.loop ?_
 obtain ⟨K0, hK0, gK0⟩ : ∃ K, k ≤ K ∧ K ≤ k := ⟨k, Nat.le_refl k, Nat.le_refl k⟩
 refine AGr.canon id (AGr.loopI (n := k) (fun k s => k ≤ K0 ∧ ∃ (x9 : Int) (x10 : Int) (x20 : List (List Int)) (x21 : Int) (x22 : Int), impl_ShelfLeaves.l0 k x9 x10 x20 x21 x22 = some (r0, r1) ∧ s = St.of [(9, vI x9), (10, vI x10), (20, vR 36 (x20.map c36)), (21, vI x21), (22, vI x22)] []) ⟨hK0, _, _, _, _, _, H, rfl⟩ ?_ ?_) ⟨rfl, rfl, rfl, rfl, rfl, trivial⟩ trivial rfl
 ·rintro _ ⟨_, _, _, _, _, _, H, _⟩
  cases H
 ·clear H hK0
  rintro k ih0 _ ⟨hK0, x9, x10, x20, x21, x22, H, rfl⟩
  unfold impl_ShelfLeaves.l0 at H
  refine AG.seq ?_
  refine AG.region HM ?_
  refine a_int (u := .bool (decide (x22 < x21))) ?_
  refine RA.nil nofun ?_
  refine AG.seq ?_
  by_cases hc4 : x22 < x21
  ·rw [if_pos hc4] at H
   refine AG.yes rfl (decide_eq_true hc4) ?_
   refine AG.skip ?_
   refine AG.seq ?_
   refine AG.block ?_
   refine AG.seq ?_
   refine AG.region HM ?_
   by_cases hc5 : 0 ≤ x22
   ·rw [if_pos hc5] at H
    by_cases hc6 : x22 < (x20.length : Int)
    ·rw [if_pos hc6] at H
     refine a_ixR (el := c36 (rd36 x20 x22)) ?_ ⟨hc5, hc6⟩ T36 Try.underlying22 (hel := R36 hc5 hc6)
     refine a_ldR (v := vR _ _) ?_ T36
     refine a_move (v := vR _ _) ?_
     refine RA.nil nofun ?_
     refine AG.region HM ?_
     refine a_move (v := vI _) ?_
     refine a_move (v := vR _ _) ?_
     by_cases hc7 : 0 < ((rd36 x20 x22).length : Int)
     ·rw [if_pos hc7] at H
      refine a_ixR (el := c2 (rd2 (rd36 x20 x22) 0)) ?_ ⟨(by decide), hc7⟩ T2 Try.underlying36 (hel := R2 (by decide) hc7)
      refine a_ldR (v := vI _) ?_ T2
      refine a_int (u := .int .i64 (wrap64 ((rd2 (rd36 x20 x22) 0) + 1))) ?_
      refine a_minmax (mx := true) (r := mx x10 (wrap64 ((rd2 (rd36 x20 x22) 0) + 1))) ?_
      refine a_move (v := vI _) ?_
      refine RA.nil nofun ?_
      refine AG.region HM ?_
      refine a_int (u := .int .i64 (wrap64 (x22 + 1))) ?_
      refine a_move (v := vI _) ?_
      refine RA.nil nofun ?_
      exact AGr.canon id (ih0 _ (by omega) _ ⟨by omega, _, _, _, _, _, H, rfl⟩) ⟨rfl, rfl, rfl, rfl, rfl, trivial⟩ trivial rfl
     ·rw [if_neg hc7] at H
      cases H
    ·rw [if_neg hc6] at H
     cases H
   ·rw [if_neg hc5] at H
    cases H
  ·rw [if_neg hc4] at H
   refine AG.no rfl (decide_eq_false hc4) ?_
   refine AG.exit ?_
   refine AG.seq ?_
   refine AG.region HM ?_
   refine a_move (v := vI _) ?_
   refine a_move (v := vI _) ?_
   refine a_move (v := vI _) ?_
   refine a_move (v := vI _) ?_
   refine RA.nil nofun ?_
   refine AG.ret ?_
   simp only [Option.some.injEq, Prod.mk.injEq] at H
   obtain ⟨rfl, rfl⟩ := H
   exact RetP.mk id ⟨rfl, rfl, trivial⟩ trivial rfl
/-! ### laws_FnExactShelfLeaves: function 4 -/
def laws_FnExactShelfLeaves.j0 : Nat → List (List Int) → List (List Int) → Bool → Option (Bool)
 | 0, _, _, _ => none
 | k + 1, x0, x10, x42 => if x42 = true then (some false) else ((laws_toInt64SS.f k x0).bind fun t14 => ((laws_eqInt64SS.f k x10 t14).bind fun t15 => (if t15 = true then (some true) else (some false))))
def laws_FnExactShelfLeaves.f (k : Nat) (l0 : List (List Int)) (a1 : Int) (a2 : Int) : Option (Bool) := (laws_szInt64SS.f k l0 1048576).bind fun t1 => (if t1 < 0 then (some true) else ((laws_toInt64SS.f k l0).bind fun t4 => ((spec_ShelfLeaves.f k t4 a1 a2).bind fun bt5 => ((laws_toInt64SS.f k l0).bind fun t8 => ((impl_ShelfLeaves.f k t8 a1 a2).bind fun bt9 => (if bt9.1 = bt5.1 then (laws_FnExactShelfLeaves.j0 k l0 t8 (bt9.2 != bt5.2)) else (laws_FnExactShelfLeaves.j0 k l0 t8 true)))))))
set_option maxRecDepth 100000 in
theorem laws_FnExactShelfLeaves.ok {k : Nat} {l0 : List (List Int)} {a1 : Int} {a2 : Int} {r : Bool} (H : laws_FnExactShelfLeaves.f k l0 a1 a2 = some r) : OkF Try.prog 4 [vR 36 (l0.map c36), vI a1, vI a2] [] (.c (.d (.v (.bool r)))) [] := by
 unfold laws_FnExactShelfLeaves.f at H
 refine OkF.of (N := 48) (rs := [6]) (avs := [.c (.d (.v (.bool r)))]) Try.func4 rfl rfl (fun _ _ => results_tmp rfl _ _ _) (by decide) rfl rfl rfl rfl (fun w0 S => ?_)
 refine AG.seq ?_
 refine AG.region HM ?_
 refine a_move (v := vB _) ?_
 refine RA.nil nofun ?_
 refine AG.seq ?_
 refine AG.region HM ?_
 refine a_move (v := vI _) ?_
 refine RA.nil nofun ?_
 refine AG.seq ?_
 refine AG.region HM ?_
 refine a_move (v := vR _ _) ?_
 refine a_move (v := vI _) ?_
 obtain ⟨t1, e2, H⟩ := bindO H
 refine a_call (v := vI t1) (nk := []) (L := []) ?_ rfl (laws_szInt64SS.ok e2) id (qd (qd qn)) trivial trivial trivial rfl
 refine a_move (v := vI _) ?_
 refine RA.nil nofun ?_
 refine AG.seq ?_
 refine AG.seq ?_
 refine AG.region HM ?_
 refine a_move (v := vI _) ?_
 refine a_int (u := .bool (decide (t1 < 0))) ?_
 refine RA.nil nofun ?_
 by_cases hc3 : t1 < 0
 ·rw [if_pos hc3] at H
  refine AG.yes rfl (decide_eq_true hc3) ?_
  refine AG.seq ?_
  refine AG.region HM ?_
  refine a_move (v := vB _) ?_
  refine RA.nil nofun ?_
  refine AG.ret ?_
  obtain rfl := Option.some.inj H
  exact RetP.mk id ⟨rfl, trivial⟩ trivial rfl
 ·rw [if_neg hc3] at H
  refine AG.no rfl (decide_eq_false hc3) ?_
  refine AG.skip ?_
  refine AG.seq ?_
  refine AG.region HM ?_
  refine a_move (v := vR _ _) ?_
  obtain ⟨t4, et4, H⟩ := bindO H
  refine a_callF (L := []) ?_ rfl (laws_toInt64SS.ok et4) (qd qn) trivial
  refine a_move (v := vI _) ?_
  refine a_move (v := vI _) ?_
  obtain ⟨⟨t5, t6⟩, e7, H⟩ := bindO H
  refine a_call (v := .tup [.c (.d (.v (.int .i64 t5))), .c (.d (.v (.int .i64 t6)))]) (nk := []) (L := []) ?_ rfl (spec_ShelfLeaves.ok e7) id (qd (qd (qd qn))) trivial trivial trivial rfl
  refine a_move (v := .tup [_, _]) ?_
  refine a_ext (v := vI _) ?_
  refine a_ext (v := vI _) ?_
  refine a_move (v := vI _) ?_
  refine a_move (v := vI _) ?_
  refine RA.nil nofun ?_
  refine AG.seq ?_
  refine AG.region HM ?_
  refine a_move (v := vR _ _) ?_
  obtain ⟨t8, et8, H⟩ := bindO H
  refine a_callF (L := []) ?_ rfl (laws_toInt64SS.ok et8) (qd qn) trivial
  refine a_move (v := vR _ _) ?_
  refine RA.nil nofun ?_
  refine AG.seq ?_
  refine AG.region HM ?_
  refine a_move (v := vR _ _) ?_
  refine a_move (v := vI _) ?_
  refine a_move (v := vI _) ?_
  obtain ⟨⟨t9, t10⟩, e11, H⟩ := bindO H
  refine a_call (v := .tup [.c (.d (.v (.int .i64 t9))), .c (.d (.v (.int .i64 t10)))]) (nk := []) (L := []) ?_ rfl (impl_ShelfLeaves.ok e11) id (qd (qd (qd qn))) trivial trivial trivial rfl
  refine a_move (v := .tup [_, _]) ?_
  refine a_ext (v := vI _) ?_
  refine a_ext (v := vI _) ?_
  refine a_move (v := vI _) ?_
  refine a_move (v := vI _) ?_
  refine RA.nil nofun ?_
  refine AG.seq ?_
  refine AG.seq ?_
  refine AG.joinR (fun s => ∃ q, q ≤ k ∧ ∃ (x0 : List (List Int)) (x10 : List (List Int)) (x42 : Bool), laws_FnExactShelfLeaves.j0 q x0 x10 x42 = some r ∧ s = St.of [(0, vR 36 (x0.map c36)), (10, vR 36 (x10.map c36)), (42, vB x42)] []) ?_ ?_
  ·skip
   refine AG.region HM ?_
   refine a_move (v := vI _) ?_
   refine a_move (v := vI _) ?_
   refine a_int (u := .bool ((t9 != t5))) ?_
   refine a_move (v := vB _) ?_
   by_cases hc12 : t9 = t5
   ·rw [if_pos hc12] at H
    refine a_move (v := vI _) ?_ (hg := Gs.yes rfl rfl rfl (bne_eq_false_iff_eq.2 hc12))
    refine a_move (v := vI _) ?_ (hg := Gs.yes rfl rfl rfl (bne_eq_false_iff_eq.2 hc12))
    refine a_int (u := .bool ((t10 != t6))) ?_ (hg := Gs.yes rfl rfl rfl (bne_eq_false_iff_eq.2 hc12))
    refine a_pick (b := false) (v := vB _) ?_ (bne_eq_false_iff_eq.2 hc12)
    refine RA.nil nofun ?_
    exact CanR.mk id ⟨_, (by omega), _, _, _, H, rfl⟩ ⟨rfl, rfl, rfl, trivial⟩ trivial rfl
   ·rw [if_neg hc12] at H
    refine RA.skip rfl rfl rfl rfl rfl (bne_iff_ne.2 hc12) (by decide) ?_
    refine RA.skip rfl rfl rfl rfl rfl (bne_iff_ne.2 hc12) (by decide) ?_
    refine RA.skip rfl rfl rfl rfl rfl (bne_iff_ne.2 hc12) (by decide) ?_
    refine a_pick (b := true) (v := vB _) ?_ (bne_iff_ne.2 hc12)
    refine RA.nil nofun ?_
    exact CanR.mk id ⟨_, (by omega), _, _, _, H, rfl⟩ ⟨rfl, rfl, rfl, trivial⟩ trivial rfl
  ·clear H
   rintro _ ⟨k, hj0, x0, x10, x42, H, rfl⟩
   cases k with
   | zero => cases H
   | succ k =>
    rw [laws_FnExactShelfLeaves.j0] at H
    by_cases hc13 : x42 = true
    ·rw [if_pos hc13] at H
     refine AG.yes rfl hc13 ?_
     refine AG.seq ?_
     refine AG.region HM ?_
     refine a_move (v := vB _) ?_
     refine RA.nil nofun ?_
     refine AG.ret ?_
     obtain rfl := Option.some.inj H
     exact RetP.mk id ⟨rfl, trivial⟩ trivial rfl
    ·rw [if_neg hc13] at H
     refine AG.no rfl (Bool.eq_false_iff.2 hc13) ?_
     refine AG.skip ?_
     refine AG.seq ?_
     refine AG.seq ?_
     refine AG.region HM ?_
     refine a_move (v := vR _ _) ?_
     refine a_move (v := vR _ _) ?_
     obtain ⟨t14, et14, H⟩ := bindO H
     refine a_callF (L := []) ?_ rfl (laws_toInt64SS.ok et14) (qd qn) trivial
     obtain ⟨t15, e16, H⟩ := bindO H
     refine a_call (v := vB t15) (nk := []) (L := []) ?_ rfl (laws_eqInt64SS.ok e16) id (qd (qd qn)) trivial trivial trivial rfl
     refine a_un (u := .bool (!t15)) ?_
     refine RA.nil nofun ?_
     by_cases hc17 : t15 = true
     ·rw [if_pos hc17] at H
      refine AG.no rfl (congrArg Bool.not hc17) ?_
      refine AG.skip ?_
      refine AG.seq ?_
      refine AG.region HM ?_
      refine a_move (v := vB _) ?_
      refine RA.nil nofun ?_
      refine AG.ret ?_
      obtain rfl := Option.some.inj H
      exact RetP.mk id ⟨rfl, trivial⟩ trivial rfl
     ·rw [if_neg hc17] at H
      refine AG.yes rfl (congrArg Bool.not (Bool.eq_false_iff.2 hc17)) ?_
      refine AG.seq ?_
      refine AG.region HM ?_
      refine a_move (v := vB _) ?_
      refine RA.nil nofun ?_
      refine AG.ret ?_
      obtain rfl := Option.some.inj H
      exact RetP.mk id ⟨rfl, trivial⟩ trivial rfl
/-- The one plain statement of laws_FnExactShelfLeaves. -/
def laws_FnExactShelfLeaves.Pure : Prop := ∀ (l0 : List (List Int)) (a1 : Int) (a2 : Int), (l0.length ≤ maxLen ∧ ∀ x_ ∈ l0, (x_.length ≤ maxLen ∧ ∀ y_ ∈ x_, (Lit.int .i64 y_).wf = true)) → (Lit.int .i64 a1).wf = true → (Lit.int .i64 a2).wf = true → ∃ k, laws_FnExactShelfLeaves.f k l0 a1 a2 = some true
end Go.Proofs.Ytedakffelgmmnaa.PFnExactShelfLeaves

/- What each function that the law FnExactDistributionOf reaches comes to, and the proof that its walk comes to it; laid by a program of this session. No condition. -/
import Derived.Test.YtadjbffiomkljaaAnE
import Derived.KernelRfl
import Derived.OwnWalk
import Derived.Test.YtadjbffiomkljaaProg
set_option linter.unusedVariables false
set_option linter.unusedSimpArgs false
namespace Go.Proofs.Ytadjbffiomkljaa.PFnExactDistributionOf
open Go Go.RowKit Go.Proofs.YtadjbffiomkljaaM Go.Proofs
theorem HM : Try.prog.follows .mixedOrders = true := by kernel_rfl
structure S86 where
  f0 : ByteArray
  f1 : Int
  f2 : Int
def z86 : S86 := ⟨(⟨#[]⟩ : ByteArray), 0, 0⟩
structure S24 where
  f0 : List S86
  f1 : List Int
def z24 : S24 := ⟨[], []⟩
structure S31 where
  f0 : List S86
  f1 : List Int
def z31 : S31 := ⟨[], []⟩
def c86 (x : S86) : List DV := [.v (.string x.f0), .v (.int .i64 x.f1), .v (.int .i64 x.f2)]
def rd86 (l : List S86) (i : Int) : S86 := l.getD i.toNat z86
theorem R86 {l : List S86} {i : Int} {z : List DV} (h0 : 0 ≤ i) (h1 : i < (l.length : Int)) : (l.map c86).getD i.toNat z = c86 (rd86 l i) := by
  have : i.toNat < l.length := by omega
  simp [rd86, List.getD_eq_getElem?_getD, this]
theorem G86 {l : List S86} {i : Int} (h0 : 0 ≤ i) (h1 : i < (l.length : Int)) : (l.map c86)[i.toNat]? = some (c86 (rd86 l i)) := by
  have : i.toNat < l.length := by omega
  simp [rd86, List.getD_eq_getElem?_getD, this]
def c2 (x : Int) : List DV := [.v (.int .i64 x)]
def rd2 (l : List Int) (i : Int) : Int := l.getD i.toNat 0
theorem R2 {l : List Int} {i : Int} {z : List DV} (h0 : 0 ≤ i) (h1 : i < (l.length : Int)) : (l.map c2).getD i.toNat z = c2 (rd2 l i) := by
  have : i.toNat < l.length := by omega
  simp [rd2, List.getD_eq_getElem?_getD, this]
theorem G2 {l : List Int} {i : Int} (h0 : 0 ≤ i) (h1 : i < (l.length : Int)) : (l.map c2)[i.toNat]? = some (c2 (rd2 l i)) := by
  have : i.toNat < l.length := by omega
  simp [rd2, List.getD_eq_getElem?_getD, this]
def c9 (x : ByteArray) : List DV := [.v (.string x)]
def rd9 (l : List ByteArray) (i : Int) : ByteArray := l.getD i.toNat (⟨#[]⟩ : ByteArray)
theorem R9 {l : List ByteArray} {i : Int} {z : List DV} (h0 : 0 ≤ i) (h1 : i < (l.length : Int)) : (l.map c9).getD i.toNat z = c9 (rd9 l i) := by
  have : i.toNat < l.length := by omega
  simp [rd9, List.getD_eq_getElem?_getD, this]
theorem G9 {l : List ByteArray} {i : Int} (h0 : 0 ≤ i) (h1 : i < (l.length : Int)) : (l.map c9)[i.toNat]? = some (c9 (rd9 l i)) := by
  have : i.toNat < l.length := by omega
  simp [rd9, List.getD_eq_getElem?_getD, this]
def c23 (x : List Int) : List DV := [.row 2 (x.map c2)]
def rd23 (l : List (List Int)) (i : Int) : List Int := l.getD i.toNat []
theorem R23 {l : List (List Int)} {i : Int} {z : List DV} (h0 : 0 ≤ i) (h1 : i < (l.length : Int)) : (l.map c23).getD i.toNat z = c23 (rd23 l i) := by
  have : i.toNat < l.length := by omega
  simp [rd23, List.getD_eq_getElem?_getD, this]
theorem G23 {l : List (List Int)} {i : Int} (h0 : 0 ≤ i) (h1 : i < (l.length : Int)) : (l.map c23)[i.toNat]? = some (c23 (rd23 l i)) := by
  have : i.toNat < l.length := by omega
  simp [rd23, List.getD_eq_getElem?_getD, this]
def c5 (x : Int) : List DV := [.v (.int .u8 x)]
def rd5 (l : List Int) (i : Int) : Int := l.getD i.toNat 0
theorem R5 {l : List Int} {i : Int} {z : List DV} (h0 : 0 ≤ i) (h1 : i < (l.length : Int)) : (l.map c5).getD i.toNat z = c5 (rd5 l i) := by
  have : i.toNat < l.length := by omega
  simp [rd5, List.getD_eq_getElem?_getD, this]
theorem G5 {l : List Int} {i : Int} (h0 : 0 ≤ i) (h1 : i < (l.length : Int)) : (l.map c5)[i.toNat]? = some (c5 (rd5 l i)) := by
  have : i.toNat < l.length := by omega
  simp [rd5, List.getD_eq_getElem?_getD, this]
def c24 (x : S24) : List DV := [.row 87 (x.f0.map c86), .row 2 (x.f1.map c2)]
def rd24 (l : List S24) (i : Int) : S24 := l.getD i.toNat z24
theorem R24 {l : List S24} {i : Int} {z : List DV} (h0 : 0 ≤ i) (h1 : i < (l.length : Int)) : (l.map c24).getD i.toNat z = c24 (rd24 l i) := by
  have : i.toNat < l.length := by omega
  simp [rd24, List.getD_eq_getElem?_getD, this]
theorem G24 {l : List S24} {i : Int} (h0 : 0 ≤ i) (h1 : i < (l.length : Int)) : (l.map c24)[i.toNat]? = some (c24 (rd24 l i)) := by
  have : i.toNat < l.length := by omega
  simp [rd24, List.getD_eq_getElem?_getD, this]
theorem T9 : tyi Try.prog 9 = some (1, 16, [.string ⟨#[]⟩], false) := by kernel_rfl
theorem T87 : tyi Try.prog 87 = some (3, 32, [.string ⟨#[]⟩, .int .i64 0, .int .i64 0], true) := by kernel_rfl
theorem T22 : tyi Try.prog 22 = some (1, 24, [.slice none 0 0], false) := by kernel_rfl
theorem T23 : tyi Try.prog 23 = some (1, 24, [.slice none 0 0], false) := by kernel_rfl
theorem T2 : tyi Try.prog 2 = some (1, 8, [.int .i64 0], false) := by kernel_rfl
theorem T90 : tyi Try.prog 90 = some (3, 32, [.string ⟨#[]⟩, .int .i64 0, .int .i64 0], true) := by kernel_rfl
theorem T30 : tyi Try.prog 30 = some (1, 24, [.slice none 0 0], false) := by kernel_rfl
theorem T32 : tyi Try.prog 32 = some (2, 48, [.slice none 0 0, .slice none 0 0], true) := by kernel_rfl
theorem T5 : tyi Try.prog 5 = some (1, 1, [.int .u8 0], false) := by kernel_rfl
theorem T25 : tyi Try.prog 25 = some (2, 48, [.slice none 0 0, .slice none 0 0], true) := by kernel_rfl
theorem N147 : eln Try.prog 147 = some 9 := by kernel_rfl
theorem N23 : eln Try.prog 23 = some 2 := by kernel_rfl
theorem N27 : eln Try.prog 27 = some 23 := by kernel_rfl
theorem N30 : eln Try.prog 30 = some 90 := by kernel_rfl
theorem N130 : eln Try.prog 130 = some 5 := by kernel_rfl
theorem D87_0 : fld Try.prog 87 0 = some (0, 1, false) := by kernel_rfl
theorem D25_0 : fld Try.prog 25 0 = some (0, 1, false) := by kernel_rfl
theorem D25_1 : fld Try.prog 25 1 = some (1, 1, false) := by kernel_rfl
theorem D90_0 : fld Try.prog 90 0 = some (0, 1, false) := by kernel_rfl
theorem D90_1 : fld Try.prog 90 1 = some (1, 1, false) := by kernel_rfl
theorem D90_2 : fld Try.prog 90 2 = some (2, 1, false) := by kernel_rfl
theorem D32_0 : fld Try.prog 32 0 = some (0, 1, false) := by kernel_rfl
theorem D32_1 : fld Try.prog 32 1 = some (1, 1, false) := by kernel_rfl
theorem D87_1 : fld Try.prog 87 1 = some (1, 1, false) := by kernel_rfl
theorem D87_2 : fld Try.prog 87 2 = some (2, 1, false) := by kernel_rfl
/-! ### laws_szVeneer: function 51 -/
def laws_szVeneer.f (a0_0 : ByteArray) (a0_1 : Int) (a0_2 : Int) (a1 : Int) : Option (Int) := if (wrap64 (a1 - (a0_0.size : Int))) < 0 then (some (-1)) else (some (wrap64 (a1 - (a0_0.size : Int))))
set_option maxRecDepth 100000 in
theorem laws_szVeneer.ok {a0_0 : ByteArray} {a0_1 : Int} {a0_2 : Int} {a1 : Int} {r : Int} (H : laws_szVeneer.f a0_0 a0_1 a0_2 a1 = some r) : OkF Try.prog 51 [.agg [.d (.v (.string a0_0)), .d (.v (.int .i64 a0_1)), .d (.v (.int .i64 a0_2))], vI a1] [] (.c (.d (.v (.int .i64 r)))) [] := by
  unfold laws_szVeneer.f at H
  refine OkF.of (N := 13) (rs := [4]) (avs := [.c (.d (.v (.int .i64 r)))]) Try.func51 rfl rfl (fun _ _ => results_tmp rfl _ _ _) (by decide) rfl rfl rfl rfl (fun w0 S => ?_)
  refine AG.seq ?_
  refine AG.region HM ?_
  refine a_box 200 ?_
  refine a_move (v := vI _) ?_
  refine RA.nil nofun ?_
  refine AG.seq ?_
  refine AG.region HM ?_
  refine a_move (v := vI _) ?_
  refine a_faB (q := 0) ?_ D87_0
  refine a_ldB (v := vS _) ?_ T9
  refine a_lenS ?_ Try.underlying9
  refine a_int (u := .int .i64 (wrap64 (a1 - (a0_0.size : Int)))) ?_
  refine a_move (v := vI _) ?_
  refine RA.nil nofun ?_
  refine AG.seq ?_
  refine AG.seq ?_
  refine AG.region HM ?_
  refine a_move (v := vI _) ?_
  refine a_int (u := .bool (decide ((wrap64 (a1 - (a0_0.size : Int))) < 0))) ?_
  refine RA.nil nofun ?_
  by_cases hc1 : (wrap64 (a1 - (a0_0.size : Int))) < 0
  · rw [if_pos hc1] at H
    refine AG.yes rfl (decide_eq_true hc1) ?_
    refine AG.seq ?_
    refine AG.region HM ?_
    refine a_move (v := vI _) ?_
    refine RA.nil nofun ?_
    refine AG.ret ?_
    obtain rfl := Option.some.inj H
    exact RetP.mk id ⟨rfl, trivial⟩ trivial rfl
  · rw [if_neg hc1] at H
    refine AG.no rfl (decide_eq_false hc1) ?_
    refine AG.skip ?_
    refine AG.seq ?_
    refine AG.region HM ?_
    refine a_move (v := vI _) ?_
    refine a_move (v := vI _) ?_
    refine RA.nil nofun ?_
    refine AG.ret ?_
    obtain rfl := Option.some.inj H
    exact RetP.mk id ⟨rfl, trivial⟩ trivial rfl
/-! ### laws_szVeneerS: function 26 -/
def laws_szVeneerS.l0 : Nat → List S86 → Int → Int → Option (Int)
  | 0, _, _, _ => none
  | k + 1, x0, x1, x5 => if x5 < (x0.length : Int) then (if 0 ≤ x5 then ((laws_szVeneer.f ((rd86 x0 x5).f0) ((rd86 x0 x5).f1) ((rd86 x0 x5).f2) x1).bind fun t4 => (if t4 < 0 then (some (-1)) else (laws_szVeneerS.l0 k x0 t4 (wrap64 (x5 + 1))))) else (none)) else (some x1)
def laws_szVeneerS.f (k : Nat) (l0 : List S86) (a1 : Int) : Option (Int) := if (wrap64 (a1 - (l0.length : Int))) < 0 then (some (-1)) else (laws_szVeneerS.l0 k l0 (wrap64 (a1 - (l0.length : Int))) 0)
set_option maxRecDepth 100000 in
theorem laws_szVeneerS.ok {k : Nat} {l0 : List S86} {a1 : Int} {r : Int} (H : laws_szVeneerS.f k l0 a1 = some r) : OkF Try.prog 26 [vR 87 (l0.map c86), vI a1] [] (.c (.d (.v (.int .i64 r)))) [] := by
  unfold laws_szVeneerS.f at H
  refine OkF.of (N := 27) (rs := [4]) (avs := [.c (.d (.v (.int .i64 r)))]) Try.func26 rfl rfl (fun _ _ => results_tmp rfl _ _ _) (by decide) rfl rfl rfl rfl (fun w0 S => ?_)
  refine AG.seq ?_
  refine AG.region HM ?_
  refine a_move (v := vI _) ?_
  refine RA.nil nofun ?_
  refine AG.seq ?_
  refine AG.region HM ?_
  refine a_move (v := vI _) ?_
  refine a_move (v := vR _ _) ?_
  refine a_lenR ?_ Try.underlying22
  refine a_int (u := .int .i64 (wrap64 (a1 - (l0.length : Int)))) ?_
  refine a_move (v := vI _) ?_
  refine RA.nil nofun ?_
  refine AG.seq ?_
  refine AG.seq ?_
  refine AG.region HM ?_
  refine a_move (v := vI _) ?_
  refine a_int (u := .bool (decide ((wrap64 (a1 - (l0.length : Int))) < 0))) ?_
  refine RA.nil nofun ?_
  by_cases hc1 : (wrap64 (a1 - (l0.length : Int))) < 0
  · rw [if_pos hc1] at H
    refine AG.yes rfl (decide_eq_true hc1) ?_
    refine AG.seq ?_
    refine AG.region HM ?_
    refine a_move (v := vI _) ?_
    refine RA.nil nofun ?_
    refine AG.ret ?_
    obtain rfl := Option.some.inj H
    exact RetP.mk id ⟨rfl, trivial⟩ trivial rfl
  · rw [if_neg hc1] at H
    refine AG.no rfl (decide_eq_false hc1) ?_
    refine AG.skip ?_
    refine AG.seq ?_
    refine AG.seq ?_
    refine AG.region HM ?_
    refine a_move (v := vI _) ?_
    refine RA.nil nofun ?_
    refine AG.block ?_
    refine AG.loop ?_
    obtain ⟨K0, hK0, gK0⟩ : ∃ K, k ≤ K ∧ K ≤ k := ⟨k, Nat.le_refl k, Nat.le_refl k⟩
    refine AGr.canon id (AGr.loopI (n := k) (fun k s => k ≤ K0 ∧ ∃ (x0 : List S86) (x1 : Int) (x5 : Int), laws_szVeneerS.l0 k x0 x1 x5 = some r ∧ s = St.of [(0, vR 87 (x0.map c86)), (1, vI x1), (5, vI x5)] []) ⟨hK0, _, _, _, H, rfl⟩ ?_ ?_) ⟨rfl, rfl, rfl, trivial⟩ trivial rfl
    · rintro _ ⟨_, _, _, _, H, _⟩
      cases H
    · clear H hK0
      rintro k ih0 _ ⟨hK0, x0, x1, x5, H, rfl⟩
      unfold laws_szVeneerS.l0 at H
      refine AG.seq ?_
      refine AG.seq ?_
      refine AG.region HM ?_
      refine a_move (v := vI _) ?_
      refine a_move (v := vR _ _) ?_
      refine a_lenR ?_ Try.underlying22
      refine a_int (u := .bool (decide (x5 < (x0.length : Int)))) ?_
      refine RA.nil nofun ?_
      by_cases hc2 : x5 < (x0.length : Int)
      · rw [if_pos hc2] at H
        refine AG.yes rfl (decide_eq_true hc2) ?_
        refine AG.skip ?_
        refine AG.seq ?_
        refine AG.block ?_
        refine AG.seq ?_
        refine AG.region HM ?_
        refine a_move (v := vR _ _) ?_
        refine a_move (v := vI _) ?_
        by_cases hc3 : 0 ≤ x5
        · rw [if_pos hc3] at H
          refine a_ixR (el := c86 (rd86 x0 x5)) ?_ ⟨hc3, hc2⟩ T87 Try.underlying22 (hel := R86 hc3 hc2)
          refine a_ldR (v := .agg [_, _, _]) ?_ T87
          refine a_move (v := vI _) ?_
          obtain ⟨t4, e5, H⟩ := bindO H
          refine a_call (v := vI t4) (nk := []) (L := []) ?_ rfl (laws_szVeneer.ok e5) id (qg (qd qn)) trivial trivial trivial rfl
          refine a_move (v := vI _) ?_
          refine RA.nil nofun ?_
          refine AG.seq ?_
          refine AG.region HM ?_
          refine a_move (v := vI _) ?_
          refine a_int (u := .bool (decide (t4 < 0))) ?_
          refine RA.nil nofun ?_
          by_cases hc6 : t4 < 0
          · rw [if_pos hc6] at H
            refine AG.yes rfl (decide_eq_true hc6) ?_
            refine AG.seq ?_
            refine AG.region HM ?_
            refine a_move (v := vI _) ?_
            refine RA.nil nofun ?_
            refine AG.ret ?_
            obtain rfl := Option.some.inj H
            exact RetP.mk id ⟨rfl, trivial⟩ trivial rfl
          · rw [if_neg hc6] at H
            refine AG.no rfl (decide_eq_false hc6) ?_
            refine AG.skip ?_
            refine AG.region HM ?_
            refine a_move (v := vI _) ?_
            refine a_int (u := .int .i64 (wrap64 (x5 + 1))) ?_
            refine a_move (v := vI _) ?_
            refine RA.nil nofun ?_
            exact AGr.canon id (ih0 _ (by omega) _ ⟨by omega, _, _, _, H, rfl⟩) ⟨rfl, rfl, rfl, trivial⟩ trivial rfl
        · rw [if_neg hc3] at H
          cases H
      · rw [if_neg hc2] at H
        refine AG.no rfl (decide_eq_false hc2) ?_
        refine AG.exit ?_
        refine AG.seq ?_
        refine AG.region HM ?_
        refine a_move (v := vI _) ?_
        refine a_move (v := vI _) ?_
        refine RA.nil nofun ?_
        refine AG.ret ?_
        obtain rfl := Option.some.inj H
        exact RetP.mk id ⟨rfl, trivial⟩ trivial rfl
/-! ### laws_szInt64S: function 27 -/
def laws_szInt64S.f (l0 : List Int) (a1 : Int) : Option (Int) := if (wrap64 (a1 - (l0.length : Int))) < 0 then (some (-1)) else (some (wrap64 (a1 - (l0.length : Int))))
set_option maxRecDepth 100000 in
theorem laws_szInt64S.ok {l0 : List Int} {a1 : Int} {r : Int} (H : laws_szInt64S.f l0 a1 = some r) : OkF Try.prog 27 [vR 2 (l0.map c2), vI a1] [] (.c (.d (.v (.int .i64 r)))) [] := by
  unfold laws_szInt64S.f at H
  refine OkF.of (N := 12) (rs := [4]) (avs := [.c (.d (.v (.int .i64 r)))]) Try.func27 rfl rfl (fun _ _ => results_tmp rfl _ _ _) (by decide) rfl rfl rfl rfl (fun w0 S => ?_)
  refine AG.seq ?_
  refine AG.region HM ?_
  refine a_move (v := vI _) ?_
  refine RA.nil nofun ?_
  refine AG.seq ?_
  refine AG.region HM ?_
  refine a_move (v := vI _) ?_
  refine a_move (v := vR _ _) ?_
  refine a_lenR ?_ Try.underlying23
  refine a_int (u := .int .i64 (wrap64 (a1 - (l0.length : Int)))) ?_
  refine a_move (v := vI _) ?_
  refine RA.nil nofun ?_
  refine AG.seq ?_
  refine AG.seq ?_
  refine AG.region HM ?_
  refine a_move (v := vI _) ?_
  refine a_int (u := .bool (decide ((wrap64 (a1 - (l0.length : Int))) < 0))) ?_
  refine RA.nil nofun ?_
  by_cases hc1 : (wrap64 (a1 - (l0.length : Int))) < 0
  · rw [if_pos hc1] at H
    refine AG.yes rfl (decide_eq_true hc1) ?_
    refine AG.seq ?_
    refine AG.region HM ?_
    refine a_move (v := vI _) ?_
    refine RA.nil nofun ?_
    refine AG.ret ?_
    obtain rfl := Option.some.inj H
    exact RetP.mk id ⟨rfl, trivial⟩ trivial rfl
  · rw [if_neg hc1] at H
    refine AG.no rfl (decide_eq_false hc1) ?_
    refine AG.skip ?_
    refine AG.seq ?_
    refine AG.region HM ?_
    refine a_move (v := vI _) ?_
    refine a_move (v := vI _) ?_
    refine RA.nil nofun ?_
    refine AG.ret ?_
    obtain rfl := Option.some.inj H
    exact RetP.mk id ⟨rfl, trivial⟩ trivial rfl
/-! ### laws_szPacket: function 6 -/
def laws_szPacket.f (k : Nat) (l0_0 : List S86) (l0_1 : List Int) (a1 : Int) : Option (Int) := (laws_szVeneerS.f k l0_0 a1).bind fun t1 => (if t1 < 0 then (some (-1)) else ((laws_szInt64S.f l0_1 t1).bind fun t4 => (if t4 < 0 then (some (-1)) else (some t4))))
set_option maxRecDepth 100000 in
theorem laws_szPacket.ok {k : Nat} {l0_0 : List S86} {l0_1 : List Int} {a1 : Int} {r : Int} (H : laws_szPacket.f k l0_0 l0_1 a1 = some r) : OkF Try.prog 6 [.agg [.d (.row 87 (l0_0.map c86)), .d (.row 2 (l0_1.map c2))], vI a1] [] (.c (.d (.v (.int .i64 r)))) [] := by
  unfold laws_szPacket.f at H
  refine OkF.of (N := 18) (rs := [4]) (avs := [.c (.d (.v (.int .i64 r)))]) Try.func6 rfl rfl (fun _ _ => results_tmp rfl _ _ _) (by decide) rfl rfl rfl rfl (fun w0 S => ?_)
  refine AG.seq ?_
  refine AG.region HM ?_
  refine a_box 200 ?_
  refine a_move (v := vI _) ?_
  refine RA.nil nofun ?_
  refine AG.seq ?_
  refine AG.region HM ?_
  refine a_faB (q := 0) ?_ D25_0
  refine a_ldB (v := vR _ _) ?_ T22
  refine a_move (v := vI _) ?_
  obtain ⟨t1, e2, H⟩ := bindO H
  refine a_call (v := vI t1) (nk := []) (L := []) ?_ rfl (laws_szVeneerS.ok e2) id (qd (qd qn)) trivial trivial trivial rfl
  refine a_move (v := vI _) ?_
  refine RA.nil nofun ?_
  refine AG.seq ?_
  refine AG.seq ?_
  refine AG.region HM ?_
  refine a_move (v := vI _) ?_
  refine a_int (u := .bool (decide (t1 < 0))) ?_
  refine RA.nil nofun ?_
  by_cases hc3 : t1 < 0
  · rw [if_pos hc3] at H
    refine AG.yes rfl (decide_eq_true hc3) ?_
    refine AG.seq ?_
    refine AG.region HM ?_
    refine a_move (v := vI _) ?_
    refine RA.nil nofun ?_
    refine AG.ret ?_
    obtain rfl := Option.some.inj H
    exact RetP.mk id ⟨rfl, trivial⟩ trivial rfl
  · rw [if_neg hc3] at H
    refine AG.no rfl (decide_eq_false hc3) ?_
    refine AG.skip ?_
    refine AG.seq ?_
    refine AG.region HM ?_
    refine a_faB (q := 1) ?_ D25_1
    refine a_ldB (v := vR _ _) ?_ T23
    refine a_move (v := vI _) ?_
    obtain ⟨t4, e5, H⟩ := bindO H
    refine a_call (v := vI t4) (nk := []) (L := []) ?_ rfl (laws_szInt64S.ok e5) id (qd (qd qn)) trivial trivial trivial rfl
    refine a_move (v := vI _) ?_
    refine RA.nil nofun ?_
    refine AG.seq ?_
    refine AG.seq ?_
    refine AG.region HM ?_
    refine a_move (v := vI _) ?_
    refine a_int (u := .bool (decide (t4 < 0))) ?_
    refine RA.nil nofun ?_
    by_cases hc6 : t4 < 0
    · rw [if_pos hc6] at H
      refine AG.yes rfl (decide_eq_true hc6) ?_
      refine AG.seq ?_
      refine AG.region HM ?_
      refine a_move (v := vI _) ?_
      refine RA.nil nofun ?_
      refine AG.ret ?_
      obtain rfl := Option.some.inj H
      exact RetP.mk id ⟨rfl, trivial⟩ trivial rfl
    · rw [if_neg hc6] at H
      refine AG.no rfl (decide_eq_false hc6) ?_
      refine AG.skip ?_
      refine AG.seq ?_
      refine AG.region HM ?_
      refine a_move (v := vI _) ?_
      refine a_move (v := vI _) ?_
      refine RA.nil nofun ?_
      refine AG.ret ?_
      obtain rfl := Option.some.inj H
      exact RetP.mk id ⟨rfl, trivial⟩ trivial rfl
/-! ### spec_l00In: function 62 -/
def spec_l00In.f (a0 : Int) (a1 : Int) (a2 : Int) : Option (Bool) := if a0 ≥ a1 then (some (decide (a0 ≤ a2))) else (some false)
set_option maxRecDepth 100000 in
theorem spec_l00In.ok {a0 : Int} {a1 : Int} {a2 : Int} {r : Bool} (H : spec_l00In.f a0 a1 a2 = some r) : OkF Try.prog 62 [vI a0, vI a1, vI a2] [] (.c (.d (.v (.bool r)))) [] := by
  unfold spec_l00In.f at H
  refine OkF.of (N := 15) (rs := [6]) (avs := [.c (.d (.v (.bool r)))]) Try.func62 rfl rfl (fun _ _ => results_tmp rfl _ _ _) (by decide) rfl rfl rfl rfl (fun w0 S => ?_)
  refine AG.seq ?_
  refine AG.region HM ?_
  refine a_move (v := vB _) ?_
  refine RA.nil nofun ?_
  refine AG.seq ?_
  refine AG.region HM ?_
  refine a_move (v := vI _) ?_
  refine a_move (v := vI _) ?_
  refine a_int (u := .bool (decide (a0 ≥ a1))) ?_
  refine a_move (v := vB _) ?_
  by_cases hc1 : a0 ≥ a1
  · rw [if_pos hc1] at H
    refine a_move (v := vI _) ?_ (hg := Gs.yes rfl rfl rfl (decide_eq_true hc1))
    refine a_move (v := vI _) ?_ (hg := Gs.yes rfl rfl rfl (decide_eq_true hc1))
    refine a_int (u := .bool (decide (a0 ≤ a2))) ?_ (hg := Gs.yes rfl rfl rfl (decide_eq_true hc1))
    refine a_pick (b := true) (v := vB _) ?_ (decide_eq_true hc1)
    refine a_move (v := vB _) ?_
    refine RA.nil nofun ?_
    refine AG.ret ?_
    obtain rfl := Option.some.inj H
    exact RetP.mk id ⟨rfl, trivial⟩ trivial rfl
  · rw [if_neg hc1] at H
    refine RA.skip rfl rfl rfl rfl rfl (decide_eq_false hc1) (by decide) ?_
    refine RA.skip rfl rfl rfl rfl rfl (decide_eq_false hc1) (by decide) ?_
    refine RA.skip rfl rfl rfl rfl rfl (decide_eq_false hc1) (by decide) ?_
    refine a_pick (b := false) (v := vB _) ?_ (decide_eq_false hc1)
    refine a_move (v := vB _) ?_
    refine RA.nil nofun ?_
    refine AG.ret ?_
    obtain rfl := Option.some.inj H
    exact RetP.mk id ⟨rfl, trivial⟩ trivial rfl
/-! ### spec_l07Names: function 116 -/
def spec_l07Names.f  : Option ((List ByteArray)) := some ([(⟨#[97, 115, 104]⟩ : ByteArray), (⟨#[98, 101, 101, 99, 104]⟩ : ByteArray), (⟨#[98, 105, 114, 99, 104]⟩ : ByteArray), (⟨#[99, 104, 101, 114, 114, 121]⟩ : ByteArray), (⟨#[101, 98, 111, 110, 121]⟩ : ByteArray), (⟨#[104, 111, 108, 108, 121]⟩ : ByteArray), (⟨#[109, 97, 112, 108, 101]⟩ : ByteArray), (⟨#[111, 97, 107]⟩ : ByteArray), (⟨#[114, 111, 115, 101, 119, 111, 111, 100]⟩ : ByteArray), (⟨#[119, 97, 108, 110, 117, 116]⟩ : ByteArray)])
set_option maxRecDepth 100000 in
theorem spec_l07Names.ok {r : List ByteArray} (H : spec_l07Names.f  = some r) : OkF Try.prog 116 [] [] (.c (.own 100 r.length)) [(100, .row 9 (r.map c9))] := by
  unfold spec_l07Names.f at H
  refine OkF.of (N := 2) (rs := [0]) (avs := [.c (.own 100 r.length)]) Try.func116 rfl rfl (fun _ _ => results_tmp rfl _ _ _) (by decide) rfl rfl rfl rfl (fun w0 S => ?_)
  refine AG.seq ?_
  refine AG.region HM ?_
  refine a_nilO (e := 9) 200 ?_ T9
  refine RA.nil nofun ?_
  refine AG.seq ?_
  refine AG.region HM ?_
  refine a_lit (cs := [_, _, _, _, _, _, _, _, _, _]) (D := []) (css := ([(⟨#[97, 115, 104]⟩ : ByteArray), (⟨#[98, 101, 101, 99, 104]⟩ : ByteArray), (⟨#[98, 105, 114, 99, 104]⟩ : ByteArray), (⟨#[99, 104, 101, 114, 114, 121]⟩ : ByteArray), (⟨#[101, 98, 111, 110, 121]⟩ : ByteArray), (⟨#[104, 111, 108, 108, 121]⟩ : ByteArray), (⟨#[109, 97, 112, 108, 101]⟩ : ByteArray), (⟨#[111, 97, 107]⟩ : ByteArray), (⟨#[114, 111, 115, 101, 119, 111, 111, 100]⟩ : ByteArray), (⟨#[119, 97, 108, 110, 117, 116]⟩ : ByteArray)]).map c9) 201 ?_ N147 T9 (hcss := by rfl)
  refine a_move (v := .c (.own _ _)) ?_
  refine RA.nil nofun ?_
  refine AG.ret ?_
  obtain rfl := Option.some.inj H
  exact RetP.mk (fun κ => cond (Nat.beq κ 100) 201 (κ)) ⟨(ownE rfl (by simp)), trivial⟩ ⟨rfl, trivial⟩ rfl
/-! ### spec_l07Find: function 104 -/
def spec_l07Find.l0 : Nat → ByteArray → List ByteArray → Int → Option (Int)
  | 0, _, _, _ => none
  | k + 1, x0, x3, x4 => if x4 < (x3.length : Int) then (if 0 ≤ x4 then (if (rd9 x3 x4).toList = x0.toList then (some x4) else (spec_l07Find.l0 k x0 x3 (wrap64 (x4 + 1)))) else (none)) else (some (-1))
def spec_l07Find.f (k : Nat) (a0 : ByteArray) : Option (Int) := (spec_l07Names.f).bind fun t1 => (spec_l07Find.l0 k a0 t1 0)
set_option maxRecDepth 100000 in
theorem spec_l07Find.ok {k : Nat} {a0 : ByteArray} {r : Int} (H : spec_l07Find.f k a0 = some r) : OkF Try.prog 104 [vS a0] [] (.c (.d (.v (.int .i64 r)))) [] := by
  unfold spec_l07Find.f at H
  refine OkF.of (N := 19) (rs := [2]) (avs := [.c (.d (.v (.int .i64 r)))]) Try.func104 rfl rfl (fun _ _ => results_tmp rfl _ _ _) (by decide) rfl rfl rfl rfl (fun w0 S => ?_)
  refine AG.seq ?_
  refine AG.region HM ?_
  refine a_move (v := vI _) ?_
  refine RA.nil nofun ?_
  refine AG.seq ?_
  refine AG.region HM ?_
  obtain ⟨t1, e2, H⟩ := bindO H
  refine a_call (v := .c (.own 200 t1.length)) (nk := [(200, .row 9 (t1.map c9))]) (L := []) ?_ rfl (spec_l07Names.ok e2) (fun κ => cond (Nat.beq κ 200) 100 (κ)) qn trivial ⟨rfl, trivial⟩ ⟨rfl, trivial⟩ rfl
  refine a_move (v := .c (.own _ _)) ?_
  refine RA.nil nofun ?_
  refine AG.seq ?_
  refine AG.seq ?_
  refine AG.region HM ?_
  refine a_move (v := vI _) ?_
  refine RA.nil nofun ?_
  refine AG.block ?_
  refine AG.loop ?_
  obtain ⟨K0, hK0, gK0⟩ : ∃ K, k ≤ K ∧ K ≤ k := ⟨k, Nat.le_refl k, Nat.le_refl k⟩
  refine AGr.canon (fun κ => cond (Nat.beq κ 201) 200 (κ)) (AGr.loopI (n := k) (fun k s => k ≤ K0 ∧ ∃ (x0 : ByteArray) (x3 : List ByteArray) (x4 : Int), spec_l07Find.l0 k x0 x3 x4 = some r ∧ s = St.of [(0, vS x0), (3, .c (.own 201 x3.length)), (4, vI x4)] [(201, .row 9 (x3.map c9))]) ⟨hK0, _, _, _, H, rfl⟩ ?_ ?_) ⟨rfl, rfl, rfl, trivial⟩ ⟨rfl, trivial⟩ rfl
  · rintro _ ⟨_, _, _, _, H, _⟩
    cases H
  · clear H hK0
    rintro k ih0 _ ⟨hK0, x0, x3, x4, H, rfl⟩
    unfold spec_l07Find.l0 at H
    refine AG.seq ?_
    refine AG.seq ?_
    refine AG.region HM ?_
    refine a_move (v := vI _) ?_
    refine a_move (v := .c (.own _ _)) ?_
    refine a_lenO ?_ Try.underlying147
    refine a_int (u := .bool (decide (x4 < (x3.length : Int)))) ?_
    refine RA.nil nofun ?_
    by_cases hc3 : x4 < (x3.length : Int)
    · rw [if_pos hc3] at H
      refine AG.yes rfl (decide_eq_true hc3) ?_
      refine AG.skip ?_
      refine AG.seq ?_
      refine AG.block ?_
      refine AG.seq ?_
      refine AG.region HM ?_
      refine a_move (v := .c (.own _ _)) ?_
      refine a_move (v := vI _) ?_
      by_cases hc4 : 0 ≤ x4
      · rw [if_pos hc4] at H
        refine a_ixO ?_ ⟨hc4, hc3⟩ T9 Try.underlying147
        refine a_ldE (v := vS _) ?_ (G9 hc4 hc3) T9
        refine a_move (v := vS _) ?_
        refine a_bin (u := .bool ((rd9 x3 x4).toList == x0.toList)) ?_
        refine RA.nil nofun ?_
        by_cases hc5 : (rd9 x3 x4).toList = x0.toList
        · rw [if_pos hc5] at H
          refine AG.yes rfl (beq_iff_eq.2 hc5) ?_
          refine AG.seq ?_
          refine AG.region HM ?_
          refine a_move (v := vI _) ?_
          refine a_move (v := vI _) ?_
          refine RA.nil nofun ?_
          refine AG.ret ?_
          obtain rfl := Option.some.inj H
          exact RetP.mk id ⟨rfl, trivial⟩ trivial rfl
        · rw [if_neg hc5] at H
          refine AG.no rfl (beq_eq_false_iff_ne.2 hc5) ?_
          refine AG.skip ?_
          refine AG.region HM ?_
          refine a_move (v := vI _) ?_
          refine a_int (u := .int .i64 (wrap64 (x4 + 1))) ?_
          refine a_move (v := vI _) ?_
          refine RA.nil nofun ?_
          exact AGr.canon id (ih0 _ (by omega) _ ⟨by omega, _, _, _, H, rfl⟩) ⟨rfl, rfl, rfl, trivial⟩ ⟨rfl, trivial⟩ rfl
      · rw [if_neg hc4] at H
        cases H
    · rw [if_neg hc3] at H
      refine AG.no rfl (decide_eq_false hc3) ?_
      refine AG.exit ?_
      refine AG.seq ?_
      refine AG.region HM ?_
      refine a_move (v := vI _) ?_
      refine RA.nil nofun ?_
      refine AG.ret ?_
      obtain rfl := Option.some.inj H
      exact RetP.mk id ⟨rfl, trivial⟩ trivial rfl
/-! ### spec_l07Table: function 105 -/
def spec_l07Table.f  : Option ((List (List Int))) := some ([([20, 40, 310]), ([35, 45, 410]), ([15, 33, 280]), ([50, 36, 240]), ([95, 85, 270]), ([5, 35, 370]), ([10, 42, 290]), ([40, 40, 330]), ([80, 60, 220]), ([70, 38, 260])])
set_option maxRecDepth 100000 in
theorem spec_l07Table.ok {r : List (List Int)} (H : spec_l07Table.f  = some r) : OkF Try.prog 105 [] [] (.c (.own 100 r.length)) [(100, .row 23 (r.map c23))] := by
  unfold spec_l07Table.f at H
  refine OkF.of (N := 12) (rs := [0]) (avs := [.c (.own 100 r.length)]) Try.func105 rfl rfl (fun _ _ => results_tmp rfl _ _ _) (by decide) rfl rfl rfl rfl (fun w0 S => ?_)
  refine AG.seq ?_
  refine AG.region HM ?_
  refine a_nilO (e := 23) 200 ?_ T23
  refine RA.nil nofun ?_
  refine AG.seq ?_
  refine AG.region HM ?_
  refine a_lit (cs := [_, _, _]) (D := []) (css := ([20, 40, 310]).map c2) 201 ?_ N23 T2 (hcss := by rfl)
  refine a_lit (cs := [_, _, _]) (D := []) (css := ([35, 45, 410]).map c2) 202 ?_ N23 T2 (hcss := by rfl)
  refine a_lit (cs := [_, _, _]) (D := []) (css := ([15, 33, 280]).map c2) 203 ?_ N23 T2 (hcss := by rfl)
  refine a_lit (cs := [_, _, _]) (D := []) (css := ([50, 36, 240]).map c2) 204 ?_ N23 T2 (hcss := by rfl)
  refine a_lit (cs := [_, _, _]) (D := []) (css := ([95, 85, 270]).map c2) 205 ?_ N23 T2 (hcss := by rfl)
  refine a_lit (cs := [_, _, _]) (D := []) (css := ([5, 35, 370]).map c2) 206 ?_ N23 T2 (hcss := by rfl)
  refine a_lit (cs := [_, _, _]) (D := []) (css := ([10, 42, 290]).map c2) 207 ?_ N23 T2 (hcss := by rfl)
  refine a_lit (cs := [_, _, _]) (D := []) (css := ([40, 40, 330]).map c2) 208 ?_ N23 T2 (hcss := by rfl)
  refine a_lit (cs := [_, _, _]) (D := []) (css := ([80, 60, 220]).map c2) 209 ?_ N23 T2 (hcss := by rfl)
  refine a_lit (cs := [_, _, _]) (D := []) (css := ([70, 38, 260]).map c2) 210 ?_ N23 T2 (hcss := by rfl)
  refine a_lit (cs := [_, _, _, _, _, _, _, _, _, _]) (D := [201, 202, 203, 204, 205, 206, 207, 208, 209, 210]) (css := ([([20, 40, 310]), ([35, 45, 410]), ([15, 33, 280]), ([50, 36, 240]), ([95, 85, 270]), ([5, 35, 370]), ([10, 42, 290]), ([40, 40, 330]), ([80, 60, 220]), ([70, 38, 260])]).map c23) 211 ?_ N27 T23 (hcss := by rfl)
  refine a_move (v := .c (.own _ _)) ?_
  refine RA.nil nofun ?_
  refine AG.ret ?_
  obtain rfl := Option.some.inj H
  exact RetP.mk (fun κ => cond (Nat.beq κ 100) 211 (κ)) ⟨(ownE rfl (by simp)), trivial⟩ ⟨rfl, trivial⟩ rfl
/-! ### spec_l07Grain: function 106 -/
def spec_l07Grain.f (a0 : Int) : Option (Bool) := (spec_l00In.f a0 0 179).bind fun t1 => (some t1)
set_option maxRecDepth 100000 in
theorem spec_l07Grain.ok {a0 : Int} {r : Bool} (H : spec_l07Grain.f a0 = some r) : OkF Try.prog 106 [vI a0] [] (.c (.d (.v (.bool r)))) [] := by
  unfold spec_l07Grain.f at H
  refine OkF.of (N := 5) (rs := [2]) (avs := [.c (.d (.v (.bool r)))]) Try.func106 rfl rfl (fun _ _ => results_tmp rfl _ _ _) (by decide) rfl rfl rfl rfl (fun w0 S => ?_)
  refine AG.seq ?_
  refine AG.region HM ?_
  refine a_move (v := vB _) ?_
  refine RA.nil nofun ?_
  refine AG.seq ?_
  refine AG.region HM ?_
  refine a_move (v := vI _) ?_
  obtain ⟨t1, e2, H⟩ := bindO H
  refine a_call (v := vB t1) (nk := []) (L := []) ?_ rfl (spec_l00In.ok e2) id (qd (qd (qd qn))) trivial trivial trivial rfl
  refine a_move (v := vB _) ?_
  refine RA.nil nofun ?_
  refine AG.ret ?_
  obtain rfl := Option.some.inj H
  exact RetP.mk id ⟨rfl, trivial⟩ trivial rfl
/-! ### spec_l07Ok: function 86 -/
def spec_l07Ok.j0 : Nat → Int → Int → Int → Bool → Option (Bool)
  | 0, _, _, _, _ => none
  | k + 1, x0_1, x0_2, x3, x19 => if x19 = true then (some false) else ((spec_l07Table.f).bind fun t7 => (if 0 ≤ x3 then (if x3 < (t7.length : Int) then (if 0 < ((rd23 t7 x3).length : Int) then ((spec_l00In.f x0_1 (wrap64 ((rd2 (rd23 t7 x3) 0) - 15)) (wrap64 ((rd2 (rd23 t7 x3) 0) + 15))).bind fun t11 => (if t11 = true then ((spec_l07Grain.f x0_2).bind fun t14 => (some t14)) else (some false))) else (none)) else (none)) else (none)))
def spec_l07Ok.f (k : Nat) (a0_0 : ByteArray) (a0_1 : Int) (a0_2 : Int) : Option (Bool) := (spec_l07Find.f k a0_0).bind fun t1 => (if t1 < 0 then (spec_l07Ok.j0 k a0_1 a0_2 t1 true) else ((spec_l00In.f a0_1 0 100).bind fun t4 => (spec_l07Ok.j0 k a0_1 a0_2 t1 (!t4))))
set_option maxRecDepth 100000 in
theorem spec_l07Ok.ok {k : Nat} {a0_0 : ByteArray} {a0_1 : Int} {a0_2 : Int} {r : Bool} (H : spec_l07Ok.f k a0_0 a0_1 a0_2 = some r) : OkF Try.prog 86 [.c (.d (.ro [.v (.string a0_0), .v (.int .i64 a0_1), .v (.int .i64 a0_2)]))] [] (.c (.d (.v (.bool r)))) [] := by
  unfold spec_l07Ok.f at H
  refine OkF.of (N := 42) (rs := [2]) (avs := [.c (.d (.v (.bool r)))]) Try.func86 rfl rfl (fun _ _ => results_tmp rfl _ _ _) (by decide) rfl rfl rfl rfl (fun w0 S => ?_)
  refine AG.seq ?_
  refine AG.region HM ?_
  refine a_move (v := vB _) ?_
  refine RA.nil nofun ?_
  refine AG.seq ?_
  refine AG.region HM ?_
  refine a_move (v := vO [_, _, _]) ?_
  refine a_nil (v := vO [_, _, _]) ?_
  refine a_faR (cells' := [_, _, _]) ?_ D90_0
  refine a_ldR (v := vS _) ?_ T9
  obtain ⟨t1, e2, H⟩ := bindO H
  refine a_call (v := vI t1) (nk := []) (L := []) ?_ rfl (spec_l07Find.ok e2) id (qd qn) trivial trivial trivial rfl
  refine a_move (v := vI _) ?_
  refine RA.nil nofun ?_
  refine AG.seq ?_
  refine AG.seq ?_
  refine AG.join (fun s => ∃ (x0_0 : ByteArray) (x0_1 : Int) (x0_2 : Int) (x3 : Int) (x19 : Bool), spec_l07Ok.j0 k x0_1 x0_2 x3 x19 = some r ∧ s = St.of [(0, .c (.d (.ro [.v (.string x0_0), .v (.int .i64 x0_1), .v (.int .i64 x0_2)]))), (3, vI x3), (19, vB x19)] []) ?_ ?_
  · skip
    refine AG.region HM ?_
    refine a_move (v := vI _) ?_
    refine a_int (u := .bool (decide (t1 < 0))) ?_
    refine a_move (v := vB _) ?_
    by_cases hc3 : t1 < 0
    · rw [if_pos hc3] at H
      refine RA.skip rfl rfl rfl rfl rfl (decide_eq_true hc3) (by decide) ?_
      refine RA.skip rfl rfl rfl rfl rfl (decide_eq_true hc3) (by decide) ?_
      refine RA.skip rfl rfl rfl rfl rfl (decide_eq_true hc3) (by decide) ?_
      refine RA.skip rfl rfl rfl rfl rfl (decide_eq_true hc3) (by decide) ?_
      refine RA.skip rfl rfl rfl rfl rfl (decide_eq_true hc3) (by decide) ?_
      refine RA.skip rfl rfl rfl rfl rfl (decide_eq_true hc3) (by decide) ?_
      refine a_pick (b := true) (v := vB _) ?_ (decide_eq_true hc3)
      refine RA.nil nofun ?_
      exact Can.mk id ⟨_, _, _, _, _, H, rfl⟩ ⟨rfl, rfl, rfl, trivial⟩ trivial rfl
    · rw [if_neg hc3] at H
      refine a_move (v := vO [_, _, _]) ?_ (hg := Gs.yes rfl rfl rfl (decide_eq_false hc3))
      refine a_nil (v := vO [_, _, _]) ?_ (hg := Gs.yes rfl rfl rfl (decide_eq_false hc3))
      refine a_faR (cells' := [_, _]) ?_ D90_1 (hg := Gs.yes rfl rfl rfl (decide_eq_false hc3))
      refine a_ldR (v := vI _) ?_ T2 (hg := Gs.yes rfl rfl rfl (decide_eq_false hc3))
      obtain ⟨t4, e5, H⟩ := bindO H
      refine a_call (v := vB t4) (nk := []) (L := []) ?_ rfl (spec_l00In.ok e5) id (qd (qd (qd qn))) trivial trivial trivial rfl (hg := Gs.yes rfl rfl rfl (decide_eq_false hc3))
      refine a_un (u := .bool (!t4)) ?_ (hg := Gs.yes rfl rfl rfl (decide_eq_false hc3))
      refine a_pick (b := false) (v := vB _) ?_ (decide_eq_false hc3)
      refine RA.nil nofun ?_
      exact Can.mk id ⟨_, _, _, _, _, H, rfl⟩ ⟨rfl, rfl, rfl, trivial⟩ trivial rfl
  · clear H
    rintro _ ⟨x0_0, x0_1, x0_2, x3, x19, H, rfl⟩
    cases k with
    | zero => cases H
    | succ k =>
      rw [spec_l07Ok.j0] at H
      by_cases hc6 : x19 = true
      · rw [if_pos hc6] at H
        refine AG.yes rfl hc6 ?_
        refine AG.seq ?_
        refine AG.region HM ?_
        refine a_move (v := vB _) ?_
        refine RA.nil nofun ?_
        refine AG.ret ?_
        obtain rfl := Option.some.inj H
        exact RetP.mk id ⟨rfl, trivial⟩ trivial rfl
      · rw [if_neg hc6] at H
        refine AG.no rfl (Bool.eq_false_iff.2 hc6) ?_
        refine AG.skip ?_
        refine AG.seq ?_
        refine AG.region HM ?_
        obtain ⟨t7, et7, H⟩ := bindO H
        refine a_callF (L := []) ?_ rfl (spec_l07Table.ok et7) qn trivial
        refine a_move (v := vI _) ?_
        by_cases hc8 : 0 ≤ x3
        · rw [if_pos hc8] at H
          by_cases hc9 : x3 < (t7.length : Int)
          · rw [if_pos hc9] at H
            refine a_ixR (el := c23 (rd23 t7 x3)) ?_ ⟨hc8, hc9⟩ T23 Try.underlying27 (hel := R23 hc8 hc9)
            refine a_ldR (v := vR _ _) ?_ T23
            by_cases hc10 : 0 < ((rd23 t7 x3).length : Int)
            · rw [if_pos hc10] at H
              refine a_ixR (el := c2 (rd2 (rd23 t7 x3) 0)) ?_ ⟨(by decide), hc10⟩ T2 Try.underlying23 (hel := R2 (by decide) hc10)
              refine a_ldR (v := vI _) ?_ T2
              refine a_move (v := vI _) ?_
              refine RA.nil nofun ?_
              refine AG.seq ?_
              refine AG.region HM ?_
              refine a_move (v := vO [_, _, _]) ?_
              refine a_nil (v := vO [_, _, _]) ?_
              refine a_faR (cells' := [_, _]) ?_ D90_1
              refine a_ldR (v := vI _) ?_ T2
              refine a_move (v := vI _) ?_
              refine a_int (u := .int .i64 (wrap64 ((rd2 (rd23 t7 x3) 0) - 15))) ?_
              refine a_move (v := vI _) ?_
              refine a_int (u := .int .i64 (wrap64 ((rd2 (rd23 t7 x3) 0) + 15))) ?_
              obtain ⟨t11, e12, H⟩ := bindO H
              refine a_call (v := vB t11) (nk := []) (L := []) ?_ rfl (spec_l00In.ok e12) id (qd (qd (qd qn))) trivial trivial trivial rfl
              refine a_move (v := vB _) ?_
              by_cases hc13 : t11 = true
              · rw [if_pos hc13] at H
                refine a_move (v := vO [_, _, _]) ?_ (hg := Gs.yes rfl rfl rfl hc13)
                refine a_nil (v := vO [_, _, _]) ?_ (hg := Gs.yes rfl rfl rfl hc13)
                refine a_faR (cells' := [_]) ?_ D90_2 (hg := Gs.yes rfl rfl rfl hc13)
                refine a_ldR (v := vI _) ?_ T2 (hg := Gs.yes rfl rfl rfl hc13)
                obtain ⟨t14, e15, H⟩ := bindO H
                refine a_call (v := vB t14) (nk := []) (L := []) ?_ rfl (spec_l07Grain.ok e15) id (qd qn) trivial trivial trivial rfl (hg := Gs.yes rfl rfl rfl hc13)
                refine a_pick (b := true) (v := vB _) ?_ hc13
                refine a_move (v := vB _) ?_
                refine RA.nil nofun ?_
                refine AG.ret ?_
                obtain rfl := Option.some.inj H
                exact RetP.mk id ⟨rfl, trivial⟩ trivial rfl
              · rw [if_neg hc13] at H
                refine RA.skip rfl rfl rfl rfl rfl (Bool.eq_false_iff.2 hc13) (by decide) ?_
                refine RA.skip rfl rfl rfl rfl rfl (Bool.eq_false_iff.2 hc13) (by decide) ?_
                refine RA.skip rfl rfl rfl rfl rfl (Bool.eq_false_iff.2 hc13) (by decide) ?_
                refine RA.skip rfl rfl rfl rfl rfl (Bool.eq_false_iff.2 hc13) (by decide) ?_
                refine RA.skip rfl rfl rfl rfl rfl (Bool.eq_false_iff.2 hc13) (by decide) ?_
                refine a_pick (b := false) (v := vB _) ?_ (Bool.eq_false_iff.2 hc13)
                refine a_move (v := vB _) ?_
                refine RA.nil nofun ?_
                refine AG.ret ?_
                obtain rfl := Option.some.inj H
                exact RetP.mk id ⟨rfl, trivial⟩ trivial rfl
            · rw [if_neg hc10] at H
              cases H
          · rw [if_neg hc9] at H
            cases H
        · rw [if_neg hc8] at H
          cases H
/-! ### spec_l15Sheets: function 52 -/
def spec_l15Sheets.l0 : Nat → List S86 → Int → Option (Bool)
  | 0, _, _ => none
  | k + 1, x0, x3 => if x3 < (x0.length : Int) then (if 0 ≤ x3 then ((spec_l07Ok.f k ((rd86 x0 x3).f0) ((rd86 x0 x3).f1) ((rd86 x0 x3).f2)).bind fun t3 => (if t3 = true then (spec_l15Sheets.l0 k x0 (wrap64 (x3 + 1))) else (some false))) else (none)) else (if (x0.length : Int) ≥ 1 then (some (decide ((x0.length : Int) ≤ 8))) else (some false))
def spec_l15Sheets.f (k : Nat) (l0 : List S86) : Option (Bool) := spec_l15Sheets.l0 k l0 0
set_option maxRecDepth 100000 in
theorem spec_l15Sheets.ok {k : Nat} {l0 : List S86} {r : Bool} (H : spec_l15Sheets.f k l0 = some r) : OkF Try.prog 52 [vR 90 (l0.map c86)] [] (.c (.d (.v (.bool r)))) [] := by
  unfold spec_l15Sheets.f at H
  refine OkF.of (N := 23) (rs := [2]) (avs := [.c (.d (.v (.bool r)))]) Try.func52 rfl rfl (fun _ _ => results_tmp rfl _ _ _) (by decide) rfl rfl rfl rfl (fun w0 S => ?_)
  refine AG.seq ?_
  refine AG.region HM ?_
  refine a_move (v := vB _) ?_
  refine RA.nil nofun ?_
  refine AG.seq ?_
  refine AG.seq ?_
  refine AG.region HM ?_
  refine a_move (v := vI _) ?_
  refine RA.nil nofun ?_
  refine AG.block ?_
  refine AG.loop ?_
  obtain ⟨K0, hK0, gK0⟩ : ∃ K, k ≤ K ∧ K ≤ k := ⟨k, Nat.le_refl k, Nat.le_refl k⟩
  refine AGr.canon id (AGr.loopI (n := k) (fun k s => k ≤ K0 ∧ ∃ (x0 : List S86) (x3 : Int), spec_l15Sheets.l0 k x0 x3 = some r ∧ s = St.of [(0, vR 90 (x0.map c86)), (3, vI x3)] []) ⟨hK0, _, _, H, rfl⟩ ?_ ?_) ⟨rfl, rfl, trivial⟩ trivial rfl
  · rintro _ ⟨_, _, _, H, _⟩
    cases H
  · clear H hK0
    rintro k ih0 _ ⟨hK0, x0, x3, H, rfl⟩
    unfold spec_l15Sheets.l0 at H
    refine AG.seq ?_
    refine AG.seq ?_
    refine AG.region HM ?_
    refine a_move (v := vI _) ?_
    refine a_move (v := vR _ _) ?_
    refine a_lenR ?_ Try.underlying30
    refine a_int (u := .bool (decide (x3 < (x0.length : Int)))) ?_
    refine RA.nil nofun ?_
    by_cases hc1 : x3 < (x0.length : Int)
    · rw [if_pos hc1] at H
      refine AG.yes rfl (decide_eq_true hc1) ?_
      refine AG.skip ?_
      refine AG.seq ?_
      refine AG.block ?_
      refine AG.seq ?_
      refine AG.region HM ?_
      refine a_move (v := vR _ _) ?_
      refine a_move (v := vI _) ?_
      by_cases hc2 : 0 ≤ x3
      · rw [if_pos hc2] at H
        refine a_ixR (el := c86 (rd86 x0 x3)) ?_ ⟨hc2, hc1⟩ T90 Try.underlying30 (hel := R86 hc2 hc1)
        obtain ⟨t3, e4, H⟩ := bindO H
        refine a_call (v := vB t3) (nk := []) (L := []) ?_ rfl (spec_l07Ok.ok e4) id (qd qn) trivial trivial trivial rfl
        refine a_un (u := .bool (!t3)) ?_
        refine RA.nil nofun ?_
        by_cases hc5 : t3 = true
        · rw [if_pos hc5] at H
          refine AG.no rfl (congrArg Bool.not hc5) ?_
          refine AG.skip ?_
          refine AG.region HM ?_
          refine a_move (v := vI _) ?_
          refine a_int (u := .int .i64 (wrap64 (x3 + 1))) ?_
          refine a_move (v := vI _) ?_
          refine RA.nil nofun ?_
          exact AGr.canon id (ih0 _ (by omega) _ ⟨by omega, _, _, H, rfl⟩) ⟨rfl, rfl, trivial⟩ trivial rfl
        · rw [if_neg hc5] at H
          refine AG.yes rfl (congrArg Bool.not (Bool.eq_false_iff.2 hc5)) ?_
          refine AG.seq ?_
          refine AG.region HM ?_
          refine a_move (v := vB _) ?_
          refine RA.nil nofun ?_
          refine AG.ret ?_
          obtain rfl := Option.some.inj H
          exact RetP.mk id ⟨rfl, trivial⟩ trivial rfl
      · rw [if_neg hc2] at H
        cases H
    · rw [if_neg hc1] at H
      refine AG.no rfl (decide_eq_false hc1) ?_
      refine AG.exit ?_
      refine AG.seq ?_
      refine AG.region HM ?_
      refine a_move (v := vR _ _) ?_
      refine a_lenR ?_ Try.underlying30
      refine a_int (u := .bool (decide ((x0.length : Int) ≥ 1))) ?_
      refine a_move (v := vB _) ?_
      by_cases hc6 : (x0.length : Int) ≥ 1
      · rw [if_pos hc6] at H
        refine a_move (v := vR _ _) ?_ (hg := Gs.yes rfl rfl rfl (decide_eq_true hc6))
        refine a_lenR ?_ Try.underlying30 (hg := Gs.yes rfl rfl rfl (decide_eq_true hc6))
        refine a_int (u := .bool (decide ((x0.length : Int) ≤ 8))) ?_ (hg := Gs.yes rfl rfl rfl (decide_eq_true hc6))
        refine a_pick (b := true) (v := vB _) ?_ (decide_eq_true hc6)
        refine a_move (v := vB _) ?_
        refine RA.nil nofun ?_
        refine AG.ret ?_
        obtain rfl := Option.some.inj H
        exact RetP.mk id ⟨rfl, trivial⟩ trivial rfl
      · rw [if_neg hc6] at H
        refine RA.skip rfl rfl rfl rfl rfl (decide_eq_false hc6) (by decide) ?_
        refine RA.skip rfl rfl rfl rfl rfl (decide_eq_false hc6) (by decide) ?_
        refine RA.skip rfl rfl rfl rfl rfl (decide_eq_false hc6) (by decide) ?_
        refine a_pick (b := false) (v := vB _) ?_ (decide_eq_false hc6)
        refine a_move (v := vB _) ?_
        refine RA.nil nofun ?_
        refine AG.ret ?_
        obtain rfl := Option.some.inj H
        exact RetP.mk id ⟨rfl, trivial⟩ trivial rfl
/-! ### spec_l15Shifts: function 53 -/
def spec_l15Shifts.l0 : Nat → List Int → Int → Int → Option (Bool)
  | 0, _, _, _ => none
  | k + 1, x0, x1, x5 => if x5 < (x0.length : Int) then (if 0 ≤ x5 then ((spec_l00In.f (rd2 x0 x5) 0 (wrap64 (x1 - 1))).bind fun t3 => (if t3 = true then (spec_l15Shifts.l0 k x0 x1 (wrap64 (x5 + 1))) else (some false))) else (none)) else (some (decide ((x0.length : Int) ≤ 24)))
def spec_l15Shifts.f (k : Nat) (l0 : List Int) (a1 : Int) : Option (Bool) := spec_l15Shifts.l0 k l0 a1 0
set_option maxRecDepth 100000 in
theorem spec_l15Shifts.ok {k : Nat} {l0 : List Int} {a1 : Int} {r : Bool} (H : spec_l15Shifts.f k l0 a1 = some r) : OkF Try.prog 53 [vR 2 (l0.map c2), vI a1] [] (.c (.d (.v (.bool r)))) [] := by
  unfold spec_l15Shifts.f at H
  refine OkF.of (N := 23) (rs := [4]) (avs := [.c (.d (.v (.bool r)))]) Try.func53 rfl rfl (fun _ _ => results_tmp rfl _ _ _) (by decide) rfl rfl rfl rfl (fun w0 S => ?_)
  refine AG.seq ?_
  refine AG.region HM ?_
  refine a_move (v := vB _) ?_
  refine RA.nil nofun ?_
  refine AG.seq ?_
  refine AG.seq ?_
  refine AG.region HM ?_
  refine a_move (v := vI _) ?_
  refine RA.nil nofun ?_
  refine AG.block ?_
  refine AG.loop ?_
  obtain ⟨K0, hK0, gK0⟩ : ∃ K, k ≤ K ∧ K ≤ k := ⟨k, Nat.le_refl k, Nat.le_refl k⟩
  refine AGr.canon id (AGr.loopI (n := k) (fun k s => k ≤ K0 ∧ ∃ (x0 : List Int) (x1 : Int) (x5 : Int), spec_l15Shifts.l0 k x0 x1 x5 = some r ∧ s = St.of [(0, vR 2 (x0.map c2)), (1, vI x1), (5, vI x5)] []) ⟨hK0, _, _, _, H, rfl⟩ ?_ ?_) ⟨rfl, rfl, rfl, trivial⟩ trivial rfl
  · rintro _ ⟨_, _, _, _, H, _⟩
    cases H
  · clear H hK0
    rintro k ih0 _ ⟨hK0, x0, x1, x5, H, rfl⟩
    unfold spec_l15Shifts.l0 at H
    refine AG.seq ?_
    refine AG.seq ?_
    refine AG.region HM ?_
    refine a_move (v := vI _) ?_
    refine a_move (v := vR _ _) ?_
    refine a_lenR ?_ Try.underlying23
    refine a_int (u := .bool (decide (x5 < (x0.length : Int)))) ?_
    refine RA.nil nofun ?_
    by_cases hc1 : x5 < (x0.length : Int)
    · rw [if_pos hc1] at H
      refine AG.yes rfl (decide_eq_true hc1) ?_
      refine AG.skip ?_
      refine AG.seq ?_
      refine AG.block ?_
      refine AG.seq ?_
      refine AG.region HM ?_
      refine a_move (v := vR _ _) ?_
      refine a_move (v := vI _) ?_
      by_cases hc2 : 0 ≤ x5
      · rw [if_pos hc2] at H
        refine a_ixR (el := c2 (rd2 x0 x5)) ?_ ⟨hc2, hc1⟩ T2 Try.underlying23 (hel := R2 hc2 hc1)
        refine a_ldR (v := vI _) ?_ T2
        refine a_move (v := vI _) ?_
        refine a_int (u := .int .i64 (wrap64 (x1 - 1))) ?_
        obtain ⟨t3, e4, H⟩ := bindO H
        refine a_call (v := vB t3) (nk := []) (L := []) ?_ rfl (spec_l00In.ok e4) id (qd (qd (qd qn))) trivial trivial trivial rfl
        refine a_un (u := .bool (!t3)) ?_
        refine RA.nil nofun ?_
        by_cases hc5 : t3 = true
        · rw [if_pos hc5] at H
          refine AG.no rfl (congrArg Bool.not hc5) ?_
          refine AG.skip ?_
          refine AG.region HM ?_
          refine a_move (v := vI _) ?_
          refine a_int (u := .int .i64 (wrap64 (x5 + 1))) ?_
          refine a_move (v := vI _) ?_
          refine RA.nil nofun ?_
          exact AGr.canon id (ih0 _ (by omega) _ ⟨by omega, _, _, _, H, rfl⟩) ⟨rfl, rfl, rfl, trivial⟩ trivial rfl
        · rw [if_neg hc5] at H
          refine AG.yes rfl (congrArg Bool.not (Bool.eq_false_iff.2 hc5)) ?_
          refine AG.seq ?_
          refine AG.region HM ?_
          refine a_move (v := vB _) ?_
          refine RA.nil nofun ?_
          refine AG.ret ?_
          obtain rfl := Option.some.inj H
          exact RetP.mk id ⟨rfl, trivial⟩ trivial rfl
      · rw [if_neg hc2] at H
        cases H
    · rw [if_neg hc1] at H
      refine AG.no rfl (decide_eq_false hc1) ?_
      refine AG.exit ?_
      refine AG.seq ?_
      refine AG.region HM ?_
      refine a_move (v := vR _ _) ?_
      refine a_lenR ?_ Try.underlying23
      refine a_int (u := .bool (decide ((x0.length : Int) ≤ 24))) ?_
      refine a_move (v := vB _) ?_
      refine RA.nil nofun ?_
      refine AG.ret ?_
      obtain rfl := Option.some.inj H
      exact RetP.mk id ⟨rfl, trivial⟩ trivial rfl
/-! ### spec_l15Ok: function 28 -/
def spec_l15Ok.f (k : Nat) (l0_0 : List S86) (l0_1 : List Int) : Option (Bool) := (spec_l15Sheets.f k l0_0).bind fun t1 => (if t1 = true then ((spec_l15Shifts.f k l0_1 (l0_0.length : Int)).bind fun t4 => (some t4)) else (some false))
set_option maxRecDepth 100000 in
theorem spec_l15Ok.ok {k : Nat} {l0_0 : List S86} {l0_1 : List Int} {r : Bool} (H : spec_l15Ok.f k l0_0 l0_1 = some r) : OkF Try.prog 28 [.c (.d (.ro [.row 90 (l0_0.map c86), .row 2 (l0_1.map c2)]))] [] (.c (.d (.v (.bool r)))) [] := by
  unfold spec_l15Ok.f at H
  refine OkF.of (N := 20) (rs := [2]) (avs := [.c (.d (.v (.bool r)))]) Try.func28 rfl rfl (fun _ _ => results_tmp rfl _ _ _) (by decide) rfl rfl rfl rfl (fun w0 S => ?_)
  refine AG.seq ?_
  refine AG.region HM ?_
  refine a_move (v := vB _) ?_
  refine RA.nil nofun ?_
  refine AG.seq ?_
  refine AG.region HM ?_
  refine a_move (v := vO [_, _]) ?_
  refine a_nil (v := vO [_, _]) ?_
  refine a_faR (cells' := [_, _]) ?_ D32_0
  refine a_ldR (v := vR _ _) ?_ T30
  obtain ⟨t1, e2, H⟩ := bindO H
  refine a_call (v := vB t1) (nk := []) (L := []) ?_ rfl (spec_l15Sheets.ok e2) id (qd qn) trivial trivial trivial rfl
  refine a_move (v := vB _) ?_
  by_cases hc3 : t1 = true
  · rw [if_pos hc3] at H
    refine a_move (v := vO [_, _]) ?_ (hg := Gs.yes rfl rfl rfl hc3)
    refine a_nil (v := vO [_, _]) ?_ (hg := Gs.yes rfl rfl rfl hc3)
    refine a_faR (cells' := [_]) ?_ D32_1 (hg := Gs.yes rfl rfl rfl hc3)
    refine a_ldR (v := vR _ _) ?_ T23 (hg := Gs.yes rfl rfl rfl hc3)
    refine a_move (v := vO [_, _]) ?_ (hg := Gs.yes rfl rfl rfl hc3)
    refine a_nil (v := vO [_, _]) ?_ (hg := Gs.yes rfl rfl rfl hc3)
    refine a_faR (cells' := [_, _]) ?_ D32_0 (hg := Gs.yes rfl rfl rfl hc3)
    refine a_ldR (v := vR _ _) ?_ T30 (hg := Gs.yes rfl rfl rfl hc3)
    refine a_lenR ?_ Try.underlying30 (hg := Gs.yes rfl rfl rfl hc3)
    obtain ⟨t4, e5, H⟩ := bindO H
    refine a_call (v := vB t4) (nk := []) (L := []) ?_ rfl (spec_l15Shifts.ok e5) id (qd (qd qn)) trivial trivial trivial rfl (hg := Gs.yes rfl rfl rfl hc3)
    refine a_pick (b := true) (v := vB _) ?_ hc3
    refine a_move (v := vB _) ?_
    refine RA.nil (fun _ => by kernel_rfl) ?_
    refine AG.ret ?_
    obtain rfl := Option.some.inj H
    exact RetP.mk id ⟨rfl, trivial⟩ trivial rfl
  · rw [if_neg hc3] at H
    refine RA.skip rfl rfl rfl rfl rfl (Bool.eq_false_iff.2 hc3) (by decide) ?_
    refine RA.skip rfl rfl rfl rfl rfl (Bool.eq_false_iff.2 hc3) (by decide) ?_
    refine RA.skip rfl rfl rfl rfl rfl (Bool.eq_false_iff.2 hc3) (by decide) ?_
    refine RA.skip rfl rfl rfl rfl rfl (Bool.eq_false_iff.2 hc3) (by decide) ?_
    refine RA.skip rfl rfl rfl rfl rfl (Bool.eq_false_iff.2 hc3) (by decide) ?_
    refine RA.skip rfl rfl rfl rfl rfl (Bool.eq_false_iff.2 hc3) (by decide) ?_
    refine RA.skip rfl rfl rfl rfl rfl (Bool.eq_false_iff.2 hc3) (by decide) ?_
    refine RA.skip rfl rfl rfl rfl rfl (Bool.eq_false_iff.2 hc3) (by decide) ?_
    refine RA.skip rfl rfl rfl rfl rfl (Bool.eq_false_iff.2 hc3) (by decide) ?_
    refine RA.skip rfl rfl rfl rfl rfl (Bool.eq_false_iff.2 hc3) (by decide) ?_
    refine a_pick (b := false) (v := vB _) ?_ (Bool.eq_false_iff.2 hc3)
    refine a_move (v := vB _) ?_
    refine RA.nil (fun _ => by kernel_rfl) ?_
    refine AG.ret ?_
    obtain rfl := Option.some.inj H
    exact RetP.mk id ⟨rfl, trivial⟩ trivial rfl
/-! ### spec_l15Sheet: function 29 -/
def spec_l15Sheet.f (l0_0 : List S86) (l0_1 : List Int) (a1 : Int) (a2 : Int) : Option (Int) := if 0 ≤ a2 then (if a2 < (l0_1.length : Int) then (if (l0_0.length : Int) = 0 then (none) else (some (Int.tmod (wrap64 (a1 + (rd2 l0_1 a2))) (l0_0.length : Int)))) else (none)) else (none)
set_option maxRecDepth 100000 in
theorem spec_l15Sheet.ok {l0_0 : List S86} {l0_1 : List Int} {a1 : Int} {a2 : Int} {r : Int} (H : spec_l15Sheet.f l0_0 l0_1 a1 a2 = some r) : OkF Try.prog 29 [.c (.d (.ro [.row 90 (l0_0.map c86), .row 2 (l0_1.map c2)])), vI a1, vI a2] [] (.c (.d (.v (.int .i64 r)))) [] := by
  unfold spec_l15Sheet.f at H
  refine OkF.of (N := 22) (rs := [6]) (avs := [.c (.d (.v (.int .i64 r)))]) Try.func29 rfl rfl (fun _ _ => results_tmp rfl _ _ _) (by decide) rfl rfl rfl rfl (fun w0 S => ?_)
  refine AG.seq ?_
  refine AG.region HM ?_
  refine a_move (v := vI _) ?_
  refine RA.nil nofun ?_
  refine AG.seq ?_
  refine AG.region HM ?_
  refine a_move (v := vI _) ?_
  refine a_move (v := vO [_, _]) ?_
  refine a_nil (v := vO [_, _]) ?_
  refine a_faR (cells' := [_]) ?_ D32_1
  refine a_ldR (v := vR _ _) ?_ T23
  refine a_move (v := vI _) ?_
  by_cases hc1 : 0 ≤ a2
  · rw [if_pos hc1] at H
    by_cases hc2 : a2 < (l0_1.length : Int)
    · rw [if_pos hc2] at H
      refine a_ixR (el := c2 (rd2 l0_1 a2)) ?_ ⟨hc1, hc2⟩ T2 Try.underlying23 (hel := R2 hc1 hc2)
      refine a_ldR (v := vI _) ?_ T2
      refine a_int (u := .int .i64 (wrap64 (a1 + (rd2 l0_1 a2)))) ?_
      refine a_move (v := vO [_, _]) ?_
      refine a_nil (v := vO [_, _]) ?_
      refine a_faR (cells' := [_, _]) ?_ D32_0
      refine a_ldR (v := vR _ _) ?_ T30
      refine a_lenR ?_ Try.underlying30
      by_cases hc3 : (l0_0.length : Int) = 0
      · rw [if_pos hc3] at H
        cases H
      · rw [if_neg hc3] at H
        refine a_rem (r := Int.tmod (wrap64 (a1 + (rd2 l0_1 a2))) (l0_0.length : Int)) ?_ hc3
        refine a_move (v := vI _) ?_
        refine RA.nil (fun _ => by kernel_rfl) ?_
        refine AG.ret ?_
        obtain rfl := Option.some.inj H
        exact RetP.mk id ⟨rfl, trivial⟩ trivial rfl
    · rw [if_neg hc2] at H
      cases H
  · rw [if_neg hc1] at H
    cases H
/-! ### spec_DistributionOf: function 7 -/
mutual
def spec_DistributionOf.l0 : Nat → List S86 → List Int → List (List Int) → Int → Option ((List (List Int)) × Int)
  | 0, _, _, _, _ => none
  | k + 1, y205_0, y205_1, x4, x5 => if x5 < (y205_0.length : Int) then (spec_DistributionOf.l1 k y205_0 y205_1 x4 x5 ([] : List Int) 0) else (some (x4, 0))
def spec_DistributionOf.l1 : Nat → List S86 → List Int → List (List Int) → Int → List Int → Int → Option ((List (List Int)) × Int)
  | 0, _, _, _, _, _, _ => none
  | k + 1, y208_0, y208_1, x4, x5, x6, x7 => if x7 < (y208_1.length : Int) then ((spec_l15Sheet.f y208_0 y208_1 x5 x7).bind fun t8 => (if x6.length < 17592186044416 then (spec_DistributionOf.l1 k y208_0 y208_1 x4 x5 (x6 ++ [t8]) (wrap64 (x7 + 1))) else (none))) else (if x4.length < 5864062014805 then (spec_DistributionOf.l0 k y208_0 y208_1 (x4 ++ [x6]) (wrap64 (x5 + 1))) else (none))
end
def spec_DistributionOf.f (k : Nat) (l0_0 : List S86) (l0_1 : List Int) : Option ((List (List Int)) × Int) := (spec_l15Ok.f k l0_0 l0_1).bind fun t1 => (if t1 = true then (spec_DistributionOf.l0 k l0_0 l0_1 ([] : List (List Int)) 0) else (some (([] : List (List Int)), 1)))
set_option maxRecDepth 100000 in
theorem spec_DistributionOf.ok {k : Nat} {l0_0 : List S86} {l0_1 : List Int} {r0 : List (List Int)} {r1 : Int} (H : spec_DistributionOf.f k l0_0 l0_1 = some (r0, r1)) : OkF Try.prog 7 [.agg [.d (.row 90 (l0_0.map c86)), .d (.row 2 (l0_1.map c2))]] [] (.tup [.c (.own 100 r0.length), .c (.d (.v (.int .i64 r1)))]) [(100, .row 23 (r0.map c23))] := by
  unfold spec_DistributionOf.f at H
  refine OkF.of (N := 37) (rs := [2, 3]) (avs := [.c (.own 100 r0.length), .c (.d (.v (.int .i64 r1)))]) Try.func7 rfl rfl (fun _ _ => results_tmp2 rfl _ _ _) (by decide) rfl rfl rfl rfl (fun w0 S => ?_)
  refine AG.seq ?_
  refine AG.region HM ?_
  refine a_box 200 ?_
  refine a_nilO (e := 23) 201 ?_ T23
  refine a_move (v := vI _) ?_
  refine RA.nil nofun ?_
  refine AG.seq ?_
  refine AG.seq ?_
  refine AG.region HM ?_
  obtain ⟨t1, e2, H⟩ := bindO H
  refine a_call (v := vB t1) (nk := []) (L := [(200, _)]) ?_ rfl (spec_l15Ok.ok e2) id (qc (rP (pD (pD p0))) qn) ⟨rfl, trivial⟩ trivial trivial rfl
  refine a_un (u := .bool (!t1)) ?_
  refine RA.nil nofun ?_
  by_cases hc3 : t1 = true
  · rw [if_pos hc3] at H
    refine AG.no rfl (congrArg Bool.not hc3) ?_
    refine AG.skip ?_
    refine AG.seq ?_
    refine AG.region HM ?_
    refine a_lit (cs := []) (D := []) (css := ([] : List (List Int)).map c23) 204 ?_ N27 T23 (hcss := by rfl)
    refine a_move (v := .c (.own _ _)) ?_
    refine RA.nil nofun ?_
    refine AG.seq ?_
    refine AG.seq ?_
    refine AG.region HM ?_
    refine a_move (v := vI _) ?_
    refine RA.nil nofun ?_
    refine AG.block ?_
    refine AG.loop ?_
    obtain ⟨K0, hK0, gK0⟩ : ∃ K, k ≤ K ∧ K ≤ k := ⟨k, Nat.le_refl k, Nat.le_refl k⟩
    refine AGr.canon (fun κ => cond (Nat.beq κ 205) 200 (cond (Nat.beq κ 206) 204 (κ))) (AGr.loopI (n := k) (fun k s => k ≤ K0 ∧ ∃ (y205_0 : List S86) (y205_1 : List Int) (x4 : List (List Int)) (x5 : Int), spec_DistributionOf.l0 k y205_0 y205_1 x4 x5 = some (r0, r1) ∧ s = St.of [(1, .c (.ptr 205 0)), (4, .c (.own 206 x4.length)), (5, vI x5)] [(205, .box 32 [.d (.row 90 (y205_0.map c86)), .d (.row 2 (y205_1.map c2))]), (206, .row 23 (x4.map c23))]) ⟨hK0, _, _, _, _, H, rfl⟩ ?_ ?_) ⟨rfl, (ownE rfl (by simp)), rfl, trivial⟩ ⟨rfl, rfl, trivial⟩ rfl
    · rintro _ ⟨_, _, _, _, _, H, _⟩
      cases H
    · clear H hK0
      rintro k ih0 _ ⟨hK0, y205_0, y205_1, x4, x5, H, rfl⟩
      unfold spec_DistributionOf.l0 at H
      refine AG.seq ?_
      refine AG.seq ?_
      refine AG.region HM ?_
      refine a_move (v := vI _) ?_
      refine a_faB (q := 0) ?_ D32_0
      refine a_ldB (v := vR _ _) ?_ T30
      refine a_lenR ?_ Try.underlying30
      refine a_int (u := .bool (decide (x5 < (y205_0.length : Int)))) ?_
      refine RA.nil nofun ?_
      by_cases hc5 : x5 < (y205_0.length : Int)
      · rw [if_pos hc5] at H
        refine AG.yes rfl (decide_eq_true hc5) ?_
        refine AG.skip ?_
        refine AG.seq ?_
        refine AG.block ?_
        refine AG.seq ?_
        refine AG.region HM ?_
        refine a_lit (cs := []) (D := []) (css := ([] : List Int).map c2) 207 ?_ N23 T2 (hcss := by rfl)
        refine a_move (v := .c (.own _ _)) ?_
        refine RA.nil nofun ?_
        refine AG.seq ?_
        refine AG.seq ?_
        refine AG.region HM ?_
        refine a_move (v := vI _) ?_
        refine RA.nil nofun ?_
        refine AG.block ?_
        refine AG.loop ?_
        obtain ⟨K1, hK1, gK1⟩ : ∃ K, k ≤ K ∧ K ≤ k := ⟨k, Nat.le_refl k, Nat.le_refl k⟩
        refine AGr.canon (fun κ => cond (Nat.beq κ 208) 205 (cond (Nat.beq κ 209) 206 (cond (Nat.beq κ 210) 207 (κ)))) (AGr.loopI (n := k) (fun k s => k ≤ K1 ∧ ∃ (y208_0 : List S86) (y208_1 : List Int) (x4 : List (List Int)) (x5 : Int) (x6 : List Int) (x7 : Int), spec_DistributionOf.l1 k y208_0 y208_1 x4 x5 x6 x7 = some (r0, r1) ∧ s = St.of [(1, .c (.ptr 208 0)), (4, .c (.own 209 x4.length)), (5, vI x5), (6, .c (.own 210 x6.length)), (7, vI x7)] [(208, .box 32 [.d (.row 90 (y208_0.map c86)), .d (.row 2 (y208_1.map c2))]), (209, .row 23 (x4.map c23)), (210, .row 2 (x6.map c2))]) ⟨hK1, _, _, _, _, _, _, H, rfl⟩ ?_ ?_) ⟨rfl, rfl, rfl, (ownE rfl (by simp)), rfl, trivial⟩ ⟨rfl, rfl, rfl, trivial⟩ rfl
        · rintro _ ⟨_, _, _, _, _, _, _, H, _⟩
          cases H
        · clear H hK1
          rintro k ih1 _ ⟨hK1, y208_0, y208_1, x4, x5, x6, x7, H, rfl⟩
          unfold spec_DistributionOf.l1 at H
          refine AG.seq ?_
          refine AG.seq ?_
          refine AG.region HM ?_
          refine a_move (v := vI _) ?_
          refine a_faB (q := 1) ?_ D32_1
          refine a_ldB (v := vR _ _) ?_ T23
          refine a_lenR ?_ Try.underlying23
          refine a_int (u := .bool (decide (x7 < (y208_1.length : Int)))) ?_
          refine RA.nil nofun ?_
          by_cases hc7 : x7 < (y208_1.length : Int)
          · rw [if_pos hc7] at H
            refine AG.yes rfl (decide_eq_true hc7) ?_
            refine AG.skip ?_
            refine AG.seq ?_
            refine AG.block ?_
            refine AG.region HM ?_
            refine a_move (v := .c (.own _ _)) ?_
            refine a_move (v := vI _) ?_
            refine a_move (v := vI _) ?_
            obtain ⟨t8, e9, H⟩ := bindO H
            refine a_call (v := vI t8) (nk := []) (L := [(208, _)]) ?_ rfl (spec_l15Sheet.ok e9) id (qc (rP (pD (pD p0))) (qd (qd qn))) ⟨rfl, trivial⟩ trivial trivial rfl
            refine a_lit (cs := [_]) (D := []) (css := ([t8]).map c2) 212 ?_ N23 T2
            by_cases hc10 : x6.length < 17592186044416
            · rw [if_pos hc10] at H
              refine a_appO (css' := (x6 ++ [t8]).map c2) (n' := (x6 ++ [t8]).length) ?_ T2 (by simp [maxLen]; omega) (by simp; omega) Try.underlying23 (hc := by exact List.map_append.symm) (hn := by exact List.length_map _)
              refine a_move (v := .c (.own _ _)) ?_
              refine RA.nil nofun ?_
              refine AG.region HM ?_
              refine a_move (v := vI _) ?_
              refine a_int (u := .int .i64 (wrap64 (x7 + 1))) ?_
              refine a_move (v := vI _) ?_
              refine RA.nil nofun ?_
              exact AGr.canon id (ih1 _ (by omega) _ ⟨by omega, _, _, _, _, _, _, H, rfl⟩) ⟨rfl, rfl, rfl, rfl, rfl, trivial⟩ ⟨rfl, rfl, rfl, trivial⟩ rfl
            · rw [if_neg hc10] at H
              cases H
          · rw [if_neg hc7] at H
            refine AG.no rfl (decide_eq_false hc7) ?_
            refine AG.exit ?_
            refine AG.region HM ?_
            refine a_move (v := .c (.own _ _)) ?_
            refine a_move (v := .c (.own _ _)) ?_
            refine a_lit (cs := [_]) (D := [210]) (css := ([x6]).map c23) 213 ?_ N27 T23
            by_cases hc12 : x4.length < 5864062014805
            · rw [if_pos hc12] at H
              refine a_appO (css' := (x4 ++ [x6]).map c23) (n' := (x4 ++ [x6]).length) ?_ T23 (by simp [maxLen]; omega) (by simp; omega) Try.underlying27 (hc := by exact List.map_append.symm) (hn := by exact List.length_map _)
              refine a_move (v := .c (.own _ _)) ?_
              refine RA.nil nofun ?_
              refine AG.region HM ?_
              refine a_move (v := vI _) ?_
              refine a_int (u := .int .i64 (wrap64 (x5 + 1))) ?_
              refine a_move (v := vI _) ?_
              refine RA.nil nofun ?_
              exact AGr.canon (fun κ => cond (Nat.beq κ 205) 208 (cond (Nat.beq κ 206) 209 (κ))) (ih0 _ (by omega) _ ⟨by omega, _, _, _, _, H, rfl⟩) ⟨rfl, rfl, rfl, trivial⟩ ⟨rfl, rfl, trivial⟩ rfl
            · rw [if_neg hc12] at H
              cases H
      · rw [if_neg hc5] at H
        refine AG.no rfl (decide_eq_false hc5) ?_
        refine AG.exit ?_
        refine AG.seq ?_
        refine AG.region HM ?_
        refine a_move (v := .c (.own _ _)) ?_
        refine a_move (v := .c (.own _ _)) ?_
        refine a_move (v := vI _) ?_
        refine RA.nil nofun ?_
        refine AG.ret ?_
        simp only [Option.some.injEq, Prod.mk.injEq] at H
        obtain ⟨rfl, rfl⟩ := H
        exact RetP.mk (fun κ => cond (Nat.beq κ 100) 206 (κ)) ⟨rfl, rfl, trivial⟩ ⟨rfl, trivial⟩ rfl
  · rw [if_neg hc3] at H
    refine AG.yes rfl (congrArg Bool.not (Bool.eq_false_iff.2 hc3)) ?_
    refine AG.seq ?_
    refine AG.region HM ?_
    refine a_nilO (e := 23) 203 ?_ T23
    refine a_move (v := vI _) ?_
    refine RA.nil nofun ?_
    refine AG.ret ?_
    simp only [Option.some.injEq, Prod.mk.injEq] at H
    obtain ⟨rfl, rfl⟩ := H
    exact RetP.mk (fun κ => cond (Nat.beq κ 100) 203 (κ)) ⟨(ownE rfl (by simp)), rfl, trivial⟩ ⟨rfl, trivial⟩ rfl
/-! ### laws_toVeneer: function 54 -/
def laws_toVeneer.f (a0_0 : ByteArray) (a0_1 : Int) (a0_2 : Int) : Option (ByteArray × Int × Int) := some (a0_0, a0_1, a0_2)
set_option maxRecDepth 100000 in
theorem laws_toVeneer.ok {a0_0 : ByteArray} {a0_1 : Int} {a0_2 : Int} {r0 : ByteArray} {r1 : Int} {r2 : Int} (H : laws_toVeneer.f a0_0 a0_1 a0_2 = some (r0, r1, r2)) : OkF Try.prog 54 [.agg [.d (.v (.string a0_0)), .d (.v (.int .i64 a0_1)), .d (.v (.int .i64 a0_2))]] [] (.agg [.d (.v (.string r0)), .d (.v (.int .i64 r1)), .d (.v (.int .i64 r2))]) [] := by
  unfold laws_toVeneer.f at H
  refine OkF.ofB (N := 14) (t := 2) (ty := 90) (av := .agg [.d (.v (.string r0)), .d (.v (.int .i64 r1)), .d (.v (.int .i64 r2))]) Try.func54 rfl rfl rfl rfl (by decide) rfl rfl (fun w0 S => ?_)
  refine AG.seq ?_
  refine AG.region HM ?_
  refine a_box 200 ?_
  refine a_alloc (cs := [_, _, _]) 201 ?_ T90
  refine RA.nil nofun ?_
  refine AG.seq ?_
  refine AG.region HM ?_
  refine a_alloc (cs := [_, _, _]) 202 ?_ T90
  refine RA.nil nofun ?_
  refine AG.seq ?_
  refine AG.region HM ?_
  refine a_faB (q := 0) ?_ D87_0
  refine a_ldB (v := vS _) ?_ T9
  refine a_faB (q := 0) ?_ D90_0
  refine a_stB (cs' := [_, _, _]) ?_ T9
  refine RA.nil nofun ?_
  refine AG.seq ?_
  refine AG.region HM ?_
  refine a_faB (q := 1) ?_ D87_1
  refine a_ldB (v := vI _) ?_ T2
  refine a_faB (q := 1) ?_ D90_1
  refine a_stB (cs' := [_, _, _]) ?_ T2
  refine RA.nil nofun ?_
  refine AG.seq ?_
  refine AG.region HM ?_
  refine a_faB (q := 2) ?_ D87_2
  refine a_ldB (v := vI _) ?_ T2
  refine a_faB (q := 2) ?_ D90_2
  refine a_stB (cs' := [_, _, _]) ?_ T2
  refine RA.nil nofun ?_
  refine AG.seq ?_
  refine AG.region HM ?_
  refine a_ldB (v := .agg [_, _, _]) ?_ T90
  refine a_stB (cs' := [_, _, _]) ?_ T90
  refine RA.nil nofun ?_
  refine AG.ret ?_
  simp only [Option.some.injEq, Prod.mk.injEq] at H
  obtain ⟨rfl, rfl, rfl⟩ := H
  exact RetB.mk T90 rfl rfl rfl (RetP.mk id ⟨rfl, trivial⟩ trivial rfl)
/-! ### laws_toVeneerS: function 30 -/
def laws_toVeneerS.l0 : Nat → List S86 → List S86 → Int → Option ((List S86))
  | 0, _, _, _ => none
  | k + 1, x0, x3, x4 => if x4 < (x0.length : Int) then (if 0 ≤ x4 then ((laws_toVeneer.f ((rd86 x0 x4).f0) ((rd86 x0 x4).f1) ((rd86 x0 x4).f2)).bind fun bt6 => (if x4 < (x3.length : Int) then (laws_toVeneerS.l0 k x0 (x3.set (x4 : Int).toNat (⟨bt6.1, bt6.2.1, bt6.2.2⟩ : S86)) (wrap64 (x4 + 1))) else (none))) else (none)) else (some x3)
def laws_toVeneerS.f (k : Nat) (l0 : List S86) : Option ((List S86)) := if 0 ≤ (l0.length : Int) then (if ((l0.length : Int) : Int).toNat ≤ 8796093022208 then (laws_toVeneerS.l0 k l0 (List.replicate (((l0.length : Int) : Int).toNat) z86) 0) else (none)) else (none)
set_option maxRecDepth 100000 in
theorem laws_toVeneerS.ok {k : Nat} {l0 : List S86} {r : List S86} (H : laws_toVeneerS.f k l0 = some r) : OkF Try.prog 30 [vR 87 (l0.map c86)] [] (.c (.own 100 r.length)) [(100, .row 90 (r.map c86))] := by
  unfold laws_toVeneerS.f at H
  refine OkF.of (N := 23) (rs := [2]) (avs := [.c (.own 100 r.length)]) Try.func30 rfl rfl (fun _ _ => results_tmp rfl _ _ _) (by decide) rfl rfl rfl rfl (fun w0 S => ?_)
  refine AG.seq ?_
  refine AG.region HM ?_
  refine a_nilO (e := 90) 200 ?_ T90
  refine RA.nil nofun ?_
  refine AG.seq ?_
  refine AG.region HM ?_
  refine a_move (v := vR _ _) ?_
  refine a_lenR ?_ Try.underlying22
  by_cases hc1 : 0 ≤ (l0.length : Int)
  · rw [if_pos hc1] at H
    by_cases hc2 : ((l0.length : Int) : Int).toNat ≤ 8796093022208
    · rw [if_pos hc2] at H
      refine a_make (n := (l0.length : Int)) (css := (List.replicate (((l0.length : Int) : Int).toNat) z86).map c86) 201 ?_ N30 T90 hc1 (by omega) (by omega) (hcss := by exact rep_map rfl)
      refine a_move (v := .c (.own _ _)) ?_
      refine RA.nil nofun ?_
      refine AG.seq ?_
      refine AG.seq ?_
      refine AG.region HM ?_
      refine a_move (v := vI _) ?_
      refine RA.nil nofun ?_
      refine AG.block ?_
      refine AG.loop ?_
      obtain ⟨K0, hK0, gK0⟩ : ∃ K, k ≤ K ∧ K ≤ k := ⟨k, Nat.le_refl k, Nat.le_refl k⟩
      refine AGr.canon (fun κ => cond (Nat.beq κ 202) 201 (κ)) (AGr.loopI (n := k) (fun k s => k ≤ K0 ∧ ∃ (x0 : List S86) (x3 : List S86) (x4 : Int), laws_toVeneerS.l0 k x0 x3 x4 = some r ∧ s = St.of [(0, vR 87 (x0.map c86)), (3, .c (.own 202 x3.length)), (4, vI x4)] [(202, .row 90 (x3.map c86))]) ⟨hK0, _, _, _, H, rfl⟩ ?_ ?_) ⟨rfl, (ownE rfl (by simp)), rfl, trivial⟩ ⟨rfl, trivial⟩ rfl
      · rintro _ ⟨_, _, _, _, H, _⟩
        cases H
      · clear H hK0
        rintro k ih0 _ ⟨hK0, x0, x3, x4, H, rfl⟩
        unfold laws_toVeneerS.l0 at H
        refine AG.seq ?_
        refine AG.seq ?_
        refine AG.region HM ?_
        refine a_move (v := vI _) ?_
        refine a_move (v := vR _ _) ?_
        refine a_lenR ?_ Try.underlying22
        refine a_int (u := .bool (decide (x4 < (x0.length : Int)))) ?_
        refine RA.nil nofun ?_
        by_cases hc4 : x4 < (x0.length : Int)
        · rw [if_pos hc4] at H
          refine AG.yes rfl (decide_eq_true hc4) ?_
          refine AG.skip ?_
          refine AG.seq ?_
          refine AG.block ?_
          refine AG.region HM ?_
          refine a_move (v := .c (.own _ _)) ?_
          refine a_move (v := vI _) ?_
          refine a_move (v := vR _ _) ?_
          refine a_move (v := vI _) ?_
          by_cases hc5 : 0 ≤ x4
          · rw [if_pos hc5] at H
            refine a_ixR (el := c86 (rd86 x0 x4)) ?_ ⟨hc5, hc4⟩ T87 Try.underlying22 (hel := R86 hc5 hc4)
            refine a_ldR (v := .agg [_, _, _]) ?_ T87
            obtain ⟨⟨t6, t7, t8⟩, e9, H⟩ := bindO H
            refine a_call (v := .agg [.d (.v (.string t6)), .d (.v (.int .i64 t7)), .d (.v (.int .i64 t8))]) (nk := []) (L := []) ?_ rfl (laws_toVeneer.ok e9) id (qg qn) trivial trivial trivial rfl
            by_cases hc10 : x4 < (x3.length : Int)
            · rw [if_pos hc10] at H
              refine a_ixO ?_ ⟨hc5, hc10⟩ T90 Try.underlying30
              refine a_stE (D := []) (css' := (x3.set (x4 : Int).toNat (⟨t6, t7, t8⟩ : S86)).map c86) ?_ (G86 hc5 hc10) T90 (hcss := by exact set_map rfl)
              refine RA.nil nofun ?_
              refine AG.region HM ?_
              refine a_move (v := vI _) ?_
              refine a_int (u := .int .i64 (wrap64 (x4 + 1))) ?_
              refine a_move (v := vI _) ?_
              refine RA.nil nofun ?_
              exact AGr.canon id (ih0 _ (by omega) _ ⟨by omega, _, _, _, H, rfl⟩) ⟨rfl, (ownE rfl (by simp)), rfl, trivial⟩ ⟨rfl, trivial⟩ rfl
            · rw [if_neg hc10] at H
              cases H
          · rw [if_neg hc5] at H
            cases H
        · rw [if_neg hc4] at H
          refine AG.no rfl (decide_eq_false hc4) ?_
          refine AG.exit ?_
          refine AG.seq ?_
          refine AG.region HM ?_
          refine a_move (v := .c (.own _ _)) ?_
          refine a_move (v := .c (.own _ _)) ?_
          refine RA.nil nofun ?_
          refine AG.ret ?_
          obtain rfl := Option.some.inj H
          exact RetP.mk (fun κ => cond (Nat.beq κ 100) 202 (κ)) ⟨rfl, trivial⟩ ⟨rfl, trivial⟩ rfl
    · rw [if_neg hc2] at H
      cases H
  · rw [if_neg hc1] at H
    cases H
/-! ### laws_toInt64S: function 31 -/
def laws_toInt64S.l0 : Nat → List Int → List Int → Int → Option ((List Int))
  | 0, _, _, _ => none
  | k + 1, x0, x3, x4 => if x4 < (x0.length : Int) then (if 0 ≤ x4 then (if x4 < (x3.length : Int) then (laws_toInt64S.l0 k x0 (x3.set (x4 : Int).toNat (rd2 x0 x4)) (wrap64 (x4 + 1))) else (none)) else (none)) else (some x3)
def laws_toInt64S.f (k : Nat) (l0 : List Int) : Option ((List Int)) := if 0 ≤ (l0.length : Int) then (if ((l0.length : Int) : Int).toNat ≤ 35184372088832 then (laws_toInt64S.l0 k l0 (List.replicate (((l0.length : Int) : Int).toNat) 0) 0) else (none)) else (none)
set_option maxRecDepth 100000 in
theorem laws_toInt64S.ok {k : Nat} {l0 : List Int} {r : List Int} (H : laws_toInt64S.f k l0 = some r) : OkF Try.prog 31 [vR 2 (l0.map c2)] [] (.c (.own 100 r.length)) [(100, .row 2 (r.map c2))] := by
  unfold laws_toInt64S.f at H
  refine OkF.of (N := 22) (rs := [2]) (avs := [.c (.own 100 r.length)]) Try.func31 rfl rfl (fun _ _ => results_tmp rfl _ _ _) (by decide) rfl rfl rfl rfl (fun w0 S => ?_)
  refine AG.seq ?_
  refine AG.region HM ?_
  refine a_nilO (e := 2) 200 ?_ T2
  refine RA.nil nofun ?_
  refine AG.seq ?_
  refine AG.region HM ?_
  refine a_move (v := vR _ _) ?_
  refine a_lenR ?_ Try.underlying23
  by_cases hc1 : 0 ≤ (l0.length : Int)
  · rw [if_pos hc1] at H
    by_cases hc2 : ((l0.length : Int) : Int).toNat ≤ 35184372088832
    · rw [if_pos hc2] at H
      refine a_make (n := (l0.length : Int)) (css := (List.replicate (((l0.length : Int) : Int).toNat) 0).map c2) 201 ?_ N23 T2 hc1 (by omega) (by omega) (hcss := by exact rep_map rfl)
      refine a_move (v := .c (.own _ _)) ?_
      refine RA.nil nofun ?_
      refine AG.seq ?_
      refine AG.seq ?_
      refine AG.region HM ?_
      refine a_move (v := vI _) ?_
      refine RA.nil nofun ?_
      refine AG.block ?_
      refine AG.loop ?_
      obtain ⟨K0, hK0, gK0⟩ : ∃ K, k ≤ K ∧ K ≤ k := ⟨k, Nat.le_refl k, Nat.le_refl k⟩
      refine AGr.canon (fun κ => cond (Nat.beq κ 202) 201 (κ)) (AGr.loopI (n := k) (fun k s => k ≤ K0 ∧ ∃ (x0 : List Int) (x3 : List Int) (x4 : Int), laws_toInt64S.l0 k x0 x3 x4 = some r ∧ s = St.of [(0, vR 2 (x0.map c2)), (3, .c (.own 202 x3.length)), (4, vI x4)] [(202, .row 2 (x3.map c2))]) ⟨hK0, _, _, _, H, rfl⟩ ?_ ?_) ⟨rfl, (ownE rfl (by simp)), rfl, trivial⟩ ⟨rfl, trivial⟩ rfl
      · rintro _ ⟨_, _, _, _, H, _⟩
        cases H
      · clear H hK0
        rintro k ih0 _ ⟨hK0, x0, x3, x4, H, rfl⟩
        unfold laws_toInt64S.l0 at H
        refine AG.seq ?_
        refine AG.seq ?_
        refine AG.region HM ?_
        refine a_move (v := vI _) ?_
        refine a_move (v := vR _ _) ?_
        refine a_lenR ?_ Try.underlying23
        refine a_int (u := .bool (decide (x4 < (x0.length : Int)))) ?_
        refine RA.nil nofun ?_
        by_cases hc4 : x4 < (x0.length : Int)
        · rw [if_pos hc4] at H
          refine AG.yes rfl (decide_eq_true hc4) ?_
          refine AG.skip ?_
          refine AG.seq ?_
          refine AG.block ?_
          refine AG.region HM ?_
          refine a_move (v := .c (.own _ _)) ?_
          refine a_move (v := vI _) ?_
          refine a_move (v := vR _ _) ?_
          refine a_move (v := vI _) ?_
          by_cases hc5 : 0 ≤ x4
          · rw [if_pos hc5] at H
            refine a_ixR (el := c2 (rd2 x0 x4)) ?_ ⟨hc5, hc4⟩ T2 Try.underlying23 (hel := R2 hc5 hc4)
            refine a_ldR (v := vI _) ?_ T2
            by_cases hc6 : x4 < (x3.length : Int)
            · rw [if_pos hc6] at H
              refine a_ixO ?_ ⟨hc5, hc6⟩ T2 Try.underlying23
              refine a_stE (D := []) (css' := (x3.set (x4 : Int).toNat (rd2 x0 x4)).map c2) ?_ (G2 hc5 hc6) T2 (hcss := by exact set_map rfl)
              refine RA.nil nofun ?_
              refine AG.region HM ?_
              refine a_move (v := vI _) ?_
              refine a_int (u := .int .i64 (wrap64 (x4 + 1))) ?_
              refine a_move (v := vI _) ?_
              refine RA.nil nofun ?_
              exact AGr.canon id (ih0 _ (by omega) _ ⟨by omega, _, _, _, H, rfl⟩) ⟨rfl, (ownE rfl (by simp)), rfl, trivial⟩ ⟨rfl, trivial⟩ rfl
            · rw [if_neg hc6] at H
              cases H
          · rw [if_neg hc5] at H
            cases H
        · rw [if_neg hc4] at H
          refine AG.no rfl (decide_eq_false hc4) ?_
          refine AG.exit ?_
          refine AG.seq ?_
          refine AG.region HM ?_
          refine a_move (v := .c (.own _ _)) ?_
          refine a_move (v := .c (.own _ _)) ?_
          refine RA.nil nofun ?_
          refine AG.ret ?_
          obtain rfl := Option.some.inj H
          exact RetP.mk (fun κ => cond (Nat.beq κ 100) 202 (κ)) ⟨rfl, trivial⟩ ⟨rfl, trivial⟩ rfl
    · rw [if_neg hc2] at H
      cases H
  · rw [if_neg hc1] at H
    cases H
/-! ### laws_toPacket: function 8 -/
def laws_toPacket.f (k : Nat) (l0_0 : List S86) (l0_1 : List Int) : Option ((List S86) × (List Int)) := (laws_toVeneerS.f k l0_0).bind fun t1 => ((laws_toInt64S.f k l0_1).bind fun t3 => (some (t1, t3)))
set_option maxRecDepth 100000 in
theorem laws_toPacket.ok {k : Nat} {l0_0 : List S86} {l0_1 : List Int} {r0 : List S86} {r1 : List Int} (H : laws_toPacket.f k l0_0 l0_1 = some (r0, r1)) : OkF Try.prog 8 [.agg [.d (.row 87 (l0_0.map c86)), .d (.row 2 (l0_1.map c2))]] [] (.agg [.own 100 r0.length, .own 101 r1.length]) [(100, .row 90 (r0.map c86)), (101, .row 2 (r1.map c2))] := by
  unfold laws_toPacket.f at H
  refine OkF.ofB (N := 13) (t := 2) (ty := 32) (av := .agg [.own 100 r0.length, .own 101 r1.length]) Try.func8 rfl rfl rfl rfl (by decide) rfl rfl (fun w0 S => ?_)
  refine AG.seq ?_
  refine AG.region HM ?_
  refine a_box 200 ?_
  refine a_alloc (cs := [_, _]) 201 ?_ T32
  refine RA.nil nofun ?_
  refine AG.seq ?_
  refine AG.region HM ?_
  refine a_alloc (cs := [_, _]) 202 ?_ T32
  refine RA.nil nofun ?_
  refine AG.seq ?_
  refine AG.region HM ?_
  refine a_faB (q := 0) ?_ D25_0
  refine a_ldB (v := vR _ _) ?_ T22
  obtain ⟨t1, e2, H⟩ := bindO H
  refine a_call (v := .c (.own 203 t1.length)) (nk := [(203, .row 90 (t1.map c86))]) (L := []) ?_ rfl (laws_toVeneerS.ok e2) (fun κ => cond (Nat.beq κ 203) 100 (κ)) (qd qn) trivial ⟨rfl, trivial⟩ ⟨rfl, trivial⟩ rfl
  refine a_faB (q := 0) ?_ D32_0
  refine a_stB (cs' := [_, _]) ?_ T30
  refine RA.nil nofun ?_
  refine AG.seq ?_
  refine AG.region HM ?_
  refine a_faB (q := 1) ?_ D25_1
  refine a_ldB (v := vR _ _) ?_ T23
  obtain ⟨t3, e4, H⟩ := bindO H
  refine a_call (v := .c (.own 204 t3.length)) (nk := [(204, .row 2 (t3.map c2))]) (L := []) ?_ rfl (laws_toInt64S.ok e4) (fun κ => cond (Nat.beq κ 204) 100 (κ)) (qd qn) trivial ⟨rfl, trivial⟩ ⟨rfl, trivial⟩ rfl
  refine a_faB (q := 1) ?_ D32_1
  refine a_stB (cs' := [_, _]) ?_ T23
  refine RA.nil nofun ?_
  refine AG.seq ?_
  refine AG.region HM ?_
  refine a_ldB (v := .agg [_, _]) ?_ T32
  refine a_stB (cs' := [_, _]) ?_ T32
  refine RA.nil nofun ?_
  refine AG.ret ?_
  simp only [Option.some.injEq, Prod.mk.injEq] at H
  obtain ⟨rfl, rfl⟩ := H
  exact RetB.mk T32 rfl rfl rfl (RetP.mk (fun κ => cond (Nat.beq κ 100) 203 (cond (Nat.beq κ 101) 204 (κ))) ⟨rfl, trivial⟩ ⟨rfl, rfl, trivial⟩ rfl)
/-! ### impl_within: function 58 -/
def impl_within.f (a0 : Int) (a1 : Int) (a2 : Int) : Option (Bool) := if a0 ≥ a1 then (some (decide (a0 ≤ a2))) else (some false)
set_option maxRecDepth 100000 in
theorem impl_within.ok {a0 : Int} {a1 : Int} {a2 : Int} {r : Bool} (H : impl_within.f a0 a1 a2 = some r) : OkF Try.prog 58 [vI a0, vI a1, vI a2] [] (.c (.d (.v (.bool r)))) [] := by
  unfold impl_within.f at H
  refine OkF.of (N := 15) (rs := [6]) (avs := [.c (.d (.v (.bool r)))]) Try.func58 rfl rfl (fun _ _ => results_tmp rfl _ _ _) (by decide) rfl rfl rfl rfl (fun w0 S => ?_)
  refine AG.seq ?_
  refine AG.region HM ?_
  refine a_move (v := vB _) ?_
  refine RA.nil nofun ?_
  refine AG.seq ?_
  refine AG.region HM ?_
  refine a_move (v := vI _) ?_
  refine a_move (v := vI _) ?_
  refine a_int (u := .bool (decide (a0 ≥ a1))) ?_
  refine a_move (v := vB _) ?_
  by_cases hc1 : a0 ≥ a1
  · rw [if_pos hc1] at H
    refine a_move (v := vI _) ?_ (hg := Gs.yes rfl rfl rfl (decide_eq_true hc1))
    refine a_move (v := vI _) ?_ (hg := Gs.yes rfl rfl rfl (decide_eq_true hc1))
    refine a_int (u := .bool (decide (a0 ≤ a2))) ?_ (hg := Gs.yes rfl rfl rfl (decide_eq_true hc1))
    refine a_pick (b := true) (v := vB _) ?_ (decide_eq_true hc1)
    refine a_move (v := vB _) ?_
    refine RA.nil nofun ?_
    refine AG.ret ?_
    obtain rfl := Option.some.inj H
    exact RetP.mk id ⟨rfl, trivial⟩ trivial rfl
  · rw [if_neg hc1] at H
    refine RA.skip rfl rfl rfl rfl rfl (decide_eq_false hc1) (by decide) ?_
    refine RA.skip rfl rfl rfl rfl rfl (decide_eq_false hc1) (by decide) ?_
    refine RA.skip rfl rfl rfl rfl rfl (decide_eq_false hc1) (by decide) ?_
    refine a_pick (b := false) (v := vB _) ?_ (decide_eq_false hc1)
    refine a_move (v := vB _) ?_
    refine RA.nil nofun ?_
    refine AG.ret ?_
    obtain rfl := Option.some.inj H
    exact RetP.mk id ⟨rfl, trivial⟩ trivial rfl
/-! ### impl_SpeciesData: function 120 -/
def impl_SpeciesData.f (a0 : ByteArray) : Option (Int × Int × Int × Int) := if a0.toList = (⟨#[97, 115, 104]⟩ : ByteArray).toList then (some (20, 40, 310, 0)) else (if a0.toList = (⟨#[98, 101, 101, 99, 104]⟩ : ByteArray).toList then (some (35, 45, 410, 0)) else (if a0.toList = (⟨#[98, 105, 114, 99, 104]⟩ : ByteArray).toList then (some (15, 33, 280, 0)) else (if a0.toList = (⟨#[99, 104, 101, 114, 114, 121]⟩ : ByteArray).toList then (some (50, 36, 240, 0)) else (if a0.toList = (⟨#[101, 98, 111, 110, 121]⟩ : ByteArray).toList then (some (95, 85, 270, 0)) else (if a0.toList = (⟨#[104, 111, 108, 108, 121]⟩ : ByteArray).toList then (some (5, 35, 370, 0)) else (if a0.toList = (⟨#[109, 97, 112, 108, 101]⟩ : ByteArray).toList then (some (10, 42, 290, 0)) else (if a0.toList = (⟨#[111, 97, 107]⟩ : ByteArray).toList then (some (40, 40, 330, 0)) else (if a0.toList = (⟨#[114, 111, 115, 101, 119, 111, 111, 100]⟩ : ByteArray).toList then (some (80, 60, 220, 0)) else (if a0.toList = (⟨#[119, 97, 108, 110, 117, 116]⟩ : ByteArray).toList then (some (70, 38, 260, 0)) else (some (0, 0, 0, 3)))))))))))
set_option maxRecDepth 100000 in
theorem impl_SpeciesData.ok {a0 : ByteArray} {r0 : Int} {r1 : Int} {r2 : Int} {r3 : Int} (H : impl_SpeciesData.f a0 = some (r0, r1, r2, r3)) : OkF Try.prog 120 [vS a0] [] (.tup [.c (.d (.v (.int .i64 r0))), .c (.d (.v (.int .i64 r1))), .c (.d (.v (.int .i64 r2))), .c (.d (.v (.int .i64 r3)))]) [] := by
  unfold impl_SpeciesData.f at H
  refine OkF.of (N := 27) (rs := [2, 3, 4, 5]) (avs := [.c (.d (.v (.int .i64 r0))), .c (.d (.v (.int .i64 r1))), .c (.d (.v (.int .i64 r2))), .c (.d (.v (.int .i64 r3)))]) Try.func120 rfl rfl (fun _ _ => results_tmp4 rfl _ _ _) (by decide) rfl rfl rfl rfl (fun w0 S => ?_)
  refine AG.seq ?_
  refine AG.region HM ?_
  refine a_move (v := vI _) ?_
  refine a_move (v := vI _) ?_
  refine a_move (v := vI _) ?_
  refine a_move (v := vI _) ?_
  refine RA.nil nofun ?_
  refine AG.seq ?_
  refine AG.seq ?_
  refine AG.region HM ?_
  refine a_move (v := vS _) ?_
  refine RA.nil nofun ?_
  refine AG.block ?_
  refine AG.seq ?_
  refine AG.region HM ?_
  refine a_bin (u := .bool (a0.toList == (⟨#[97, 115, 104]⟩ : ByteArray).toList)) ?_
  refine a_move (v := vB _) ?_
  refine RA.nil nofun ?_
  by_cases hc1 : a0.toList = (⟨#[97, 115, 104]⟩ : ByteArray).toList
  · rw [if_pos hc1] at H
    refine AG.yes rfl (beq_iff_eq.2 hc1) ?_
    refine AG.seq ?_
    refine AG.region HM ?_
    refine a_move (v := vI _) ?_
    refine a_move (v := vI _) ?_
    refine a_move (v := vI _) ?_
    refine a_move (v := vI _) ?_
    refine RA.nil nofun ?_
    refine AG.ret ?_
    simp only [Option.some.injEq, Prod.mk.injEq] at H
    obtain ⟨rfl, rfl, rfl, rfl⟩ := H
    exact RetP.mk id ⟨rfl, rfl, rfl, rfl, trivial⟩ trivial rfl
  · rw [if_neg hc1] at H
    refine AG.no rfl (beq_eq_false_iff_ne.2 hc1) ?_
    refine AG.seq ?_
    refine AG.region HM ?_
    refine a_bin (u := .bool (a0.toList == (⟨#[98, 101, 101, 99, 104]⟩ : ByteArray).toList)) ?_
    refine a_move (v := vB _) ?_
    refine RA.nil nofun ?_
    by_cases hc2 : a0.toList = (⟨#[98, 101, 101, 99, 104]⟩ : ByteArray).toList
    · rw [if_pos hc2] at H
      refine AG.yes rfl (beq_iff_eq.2 hc2) ?_
      refine AG.seq ?_
      refine AG.region HM ?_
      refine a_move (v := vI _) ?_
      refine a_move (v := vI _) ?_
      refine a_move (v := vI _) ?_
      refine a_move (v := vI _) ?_
      refine RA.nil nofun ?_
      refine AG.ret ?_
      simp only [Option.some.injEq, Prod.mk.injEq] at H
      obtain ⟨rfl, rfl, rfl, rfl⟩ := H
      exact RetP.mk id ⟨rfl, rfl, rfl, rfl, trivial⟩ trivial rfl
    · rw [if_neg hc2] at H
      refine AG.no rfl (beq_eq_false_iff_ne.2 hc2) ?_
      refine AG.seq ?_
      refine AG.region HM ?_
      refine a_bin (u := .bool (a0.toList == (⟨#[98, 105, 114, 99, 104]⟩ : ByteArray).toList)) ?_
      refine a_move (v := vB _) ?_
      refine RA.nil nofun ?_
      by_cases hc3 : a0.toList = (⟨#[98, 105, 114, 99, 104]⟩ : ByteArray).toList
      · rw [if_pos hc3] at H
        refine AG.yes rfl (beq_iff_eq.2 hc3) ?_
        refine AG.seq ?_
        refine AG.region HM ?_
        refine a_move (v := vI _) ?_
        refine a_move (v := vI _) ?_
        refine a_move (v := vI _) ?_
        refine a_move (v := vI _) ?_
        refine RA.nil nofun ?_
        refine AG.ret ?_
        simp only [Option.some.injEq, Prod.mk.injEq] at H
        obtain ⟨rfl, rfl, rfl, rfl⟩ := H
        exact RetP.mk id ⟨rfl, rfl, rfl, rfl, trivial⟩ trivial rfl
      · rw [if_neg hc3] at H
        refine AG.no rfl (beq_eq_false_iff_ne.2 hc3) ?_
        refine AG.seq ?_
        refine AG.region HM ?_
        refine a_bin (u := .bool (a0.toList == (⟨#[99, 104, 101, 114, 114, 121]⟩ : ByteArray).toList)) ?_
        refine a_move (v := vB _) ?_
        refine RA.nil nofun ?_
        by_cases hc4 : a0.toList = (⟨#[99, 104, 101, 114, 114, 121]⟩ : ByteArray).toList
        · rw [if_pos hc4] at H
          refine AG.yes rfl (beq_iff_eq.2 hc4) ?_
          refine AG.seq ?_
          refine AG.region HM ?_
          refine a_move (v := vI _) ?_
          refine a_move (v := vI _) ?_
          refine a_move (v := vI _) ?_
          refine a_move (v := vI _) ?_
          refine RA.nil nofun ?_
          refine AG.ret ?_
          simp only [Option.some.injEq, Prod.mk.injEq] at H
          obtain ⟨rfl, rfl, rfl, rfl⟩ := H
          exact RetP.mk id ⟨rfl, rfl, rfl, rfl, trivial⟩ trivial rfl
        · rw [if_neg hc4] at H
          refine AG.no rfl (beq_eq_false_iff_ne.2 hc4) ?_
          refine AG.seq ?_
          refine AG.region HM ?_
          refine a_bin (u := .bool (a0.toList == (⟨#[101, 98, 111, 110, 121]⟩ : ByteArray).toList)) ?_
          refine a_move (v := vB _) ?_
          refine RA.nil nofun ?_
          by_cases hc5 : a0.toList = (⟨#[101, 98, 111, 110, 121]⟩ : ByteArray).toList
          · rw [if_pos hc5] at H
            refine AG.yes rfl (beq_iff_eq.2 hc5) ?_
            refine AG.seq ?_
            refine AG.region HM ?_
            refine a_move (v := vI _) ?_
            refine a_move (v := vI _) ?_
            refine a_move (v := vI _) ?_
            refine a_move (v := vI _) ?_
            refine RA.nil nofun ?_
            refine AG.ret ?_
            simp only [Option.some.injEq, Prod.mk.injEq] at H
            obtain ⟨rfl, rfl, rfl, rfl⟩ := H
            exact RetP.mk id ⟨rfl, rfl, rfl, rfl, trivial⟩ trivial rfl
          · rw [if_neg hc5] at H
            refine AG.no rfl (beq_eq_false_iff_ne.2 hc5) ?_
            refine AG.seq ?_
            refine AG.region HM ?_
            refine a_bin (u := .bool (a0.toList == (⟨#[104, 111, 108, 108, 121]⟩ : ByteArray).toList)) ?_
            refine a_move (v := vB _) ?_
            refine RA.nil nofun ?_
            by_cases hc6 : a0.toList = (⟨#[104, 111, 108, 108, 121]⟩ : ByteArray).toList
            · rw [if_pos hc6] at H
              refine AG.yes rfl (beq_iff_eq.2 hc6) ?_
              refine AG.seq ?_
              refine AG.region HM ?_
              refine a_move (v := vI _) ?_
              refine a_move (v := vI _) ?_
              refine a_move (v := vI _) ?_
              refine a_move (v := vI _) ?_
              refine RA.nil nofun ?_
              refine AG.ret ?_
              simp only [Option.some.injEq, Prod.mk.injEq] at H
              obtain ⟨rfl, rfl, rfl, rfl⟩ := H
              exact RetP.mk id ⟨rfl, rfl, rfl, rfl, trivial⟩ trivial rfl
            · rw [if_neg hc6] at H
              refine AG.no rfl (beq_eq_false_iff_ne.2 hc6) ?_
              refine AG.seq ?_
              refine AG.region HM ?_
              refine a_bin (u := .bool (a0.toList == (⟨#[109, 97, 112, 108, 101]⟩ : ByteArray).toList)) ?_
              refine a_move (v := vB _) ?_
              refine RA.nil nofun ?_
              by_cases hc7 : a0.toList = (⟨#[109, 97, 112, 108, 101]⟩ : ByteArray).toList
              · rw [if_pos hc7] at H
                refine AG.yes rfl (beq_iff_eq.2 hc7) ?_
                refine AG.seq ?_
                refine AG.region HM ?_
                refine a_move (v := vI _) ?_
                refine a_move (v := vI _) ?_
                refine a_move (v := vI _) ?_
                refine a_move (v := vI _) ?_
                refine RA.nil nofun ?_
                refine AG.ret ?_
                simp only [Option.some.injEq, Prod.mk.injEq] at H
                obtain ⟨rfl, rfl, rfl, rfl⟩ := H
                exact RetP.mk id ⟨rfl, rfl, rfl, rfl, trivial⟩ trivial rfl
              · rw [if_neg hc7] at H
                refine AG.no rfl (beq_eq_false_iff_ne.2 hc7) ?_
                refine AG.seq ?_
                refine AG.region HM ?_
                refine a_bin (u := .bool (a0.toList == (⟨#[111, 97, 107]⟩ : ByteArray).toList)) ?_
                refine a_move (v := vB _) ?_
                refine RA.nil nofun ?_
                by_cases hc8 : a0.toList = (⟨#[111, 97, 107]⟩ : ByteArray).toList
                · rw [if_pos hc8] at H
                  refine AG.yes rfl (beq_iff_eq.2 hc8) ?_
                  refine AG.seq ?_
                  refine AG.region HM ?_
                  refine a_move (v := vI _) ?_
                  refine a_move (v := vI _) ?_
                  refine a_move (v := vI _) ?_
                  refine a_move (v := vI _) ?_
                  refine RA.nil nofun ?_
                  refine AG.ret ?_
                  simp only [Option.some.injEq, Prod.mk.injEq] at H
                  obtain ⟨rfl, rfl, rfl, rfl⟩ := H
                  exact RetP.mk id ⟨rfl, rfl, rfl, rfl, trivial⟩ trivial rfl
                · rw [if_neg hc8] at H
                  refine AG.no rfl (beq_eq_false_iff_ne.2 hc8) ?_
                  refine AG.seq ?_
                  refine AG.region HM ?_
                  refine a_bin (u := .bool (a0.toList == (⟨#[114, 111, 115, 101, 119, 111, 111, 100]⟩ : ByteArray).toList)) ?_
                  refine a_move (v := vB _) ?_
                  refine RA.nil nofun ?_
                  by_cases hc9 : a0.toList = (⟨#[114, 111, 115, 101, 119, 111, 111, 100]⟩ : ByteArray).toList
                  · rw [if_pos hc9] at H
                    refine AG.yes rfl (beq_iff_eq.2 hc9) ?_
                    refine AG.seq ?_
                    refine AG.region HM ?_
                    refine a_move (v := vI _) ?_
                    refine a_move (v := vI _) ?_
                    refine a_move (v := vI _) ?_
                    refine a_move (v := vI _) ?_
                    refine RA.nil nofun ?_
                    refine AG.ret ?_
                    simp only [Option.some.injEq, Prod.mk.injEq] at H
                    obtain ⟨rfl, rfl, rfl, rfl⟩ := H
                    exact RetP.mk id ⟨rfl, rfl, rfl, rfl, trivial⟩ trivial rfl
                  · rw [if_neg hc9] at H
                    refine AG.no rfl (beq_eq_false_iff_ne.2 hc9) ?_
                    refine AG.seq ?_
                    refine AG.region HM ?_
                    refine a_bin (u := .bool (a0.toList == (⟨#[119, 97, 108, 110, 117, 116]⟩ : ByteArray).toList)) ?_
                    refine a_move (v := vB _) ?_
                    refine RA.nil nofun ?_
                    by_cases hc10 : a0.toList = (⟨#[119, 97, 108, 110, 117, 116]⟩ : ByteArray).toList
                    · rw [if_pos hc10] at H
                      refine AG.yes rfl (beq_iff_eq.2 hc10) ?_
                      refine AG.seq ?_
                      refine AG.region HM ?_
                      refine a_move (v := vI _) ?_
                      refine a_move (v := vI _) ?_
                      refine a_move (v := vI _) ?_
                      refine a_move (v := vI _) ?_
                      refine RA.nil nofun ?_
                      refine AG.ret ?_
                      simp only [Option.some.injEq, Prod.mk.injEq] at H
                      obtain ⟨rfl, rfl, rfl, rfl⟩ := H
                      exact RetP.mk id ⟨rfl, rfl, rfl, rfl, trivial⟩ trivial rfl
                    · rw [if_neg hc10] at H
                      refine AG.no rfl (beq_eq_false_iff_ne.2 hc10) ?_
                      refine AG.skip ?_
                      refine AG.seq ?_
                      refine AG.region HM ?_
                      refine a_move (v := vI _) ?_
                      refine a_move (v := vI _) ?_
                      refine a_move (v := vI _) ?_
                      refine a_move (v := vI _) ?_
                      refine RA.nil nofun ?_
                      refine AG.ret ?_
                      simp only [Option.some.injEq, Prod.mk.injEq] at H
                      obtain ⟨rfl, rfl, rfl, rfl⟩ := H
                      exact RetP.mk id ⟨rfl, rfl, rfl, rfl, trivial⟩ trivial rfl
/-! ### impl_speciesShade: function 118 -/
def impl_speciesShade.f (a0 : ByteArray) : Option (Int × Bool) := (impl_SpeciesData.f a0).bind fun bt1 => (some (bt1.1, (bt1.2.2.2 == 0)))
set_option maxRecDepth 100000 in
theorem impl_speciesShade.ok {a0 : ByteArray} {r0 : Int} {r1 : Bool} (H : impl_speciesShade.f a0 = some (r0, r1)) : OkF Try.prog 118 [vS a0] [] (.tup [.c (.d (.v (.int .i64 r0))), .c (.d (.v (.bool r1)))]) [] := by
  unfold impl_speciesShade.f at H
  refine OkF.of (N := 18) (rs := [2, 3]) (avs := [.c (.d (.v (.int .i64 r0))), .c (.d (.v (.bool r1)))]) Try.func118 rfl rfl (fun _ _ => results_tmp2 rfl _ _ _) (by decide) rfl rfl rfl rfl (fun w0 S => ?_)
  refine AG.seq ?_
  refine AG.region HM ?_
  refine a_move (v := vI _) ?_
  refine a_move (v := vB _) ?_
  refine RA.nil nofun ?_
  refine AG.seq ?_
  refine AG.region HM ?_
  refine a_move (v := vS _) ?_
  obtain ⟨⟨t1, t2, t3, t4⟩, e5, H⟩ := bindO H
  refine a_call (v := .tup [.c (.d (.v (.int .i64 t1))), .c (.d (.v (.int .i64 t2))), .c (.d (.v (.int .i64 t3))), .c (.d (.v (.int .i64 t4)))]) (nk := []) (L := []) ?_ rfl (impl_SpeciesData.ok e5) id (qd qn) trivial trivial trivial rfl
  refine a_move (v := .tup [_, _, _, _]) ?_
  refine a_ext (v := vI _) ?_
  refine a_ext (v := vI _) ?_
  refine a_ext (v := vI _) ?_
  refine a_ext (v := vI _) ?_
  refine a_move (v := vI _) ?_
  refine a_move (v := vI _) ?_
  refine a_move (v := vI _) ?_
  refine a_move (v := vI _) ?_
  refine RA.nil nofun ?_
  refine AG.seq ?_
  refine AG.region HM ?_
  refine a_move (v := vI _) ?_
  refine a_move (v := vI _) ?_
  refine a_int (u := .bool ((t4 == 0))) ?_
  refine a_move (v := vI _) ?_
  refine a_move (v := vB _) ?_
  refine RA.nil nofun ?_
  refine AG.ret ?_
  simp only [Option.some.injEq, Prod.mk.injEq] at H
  obtain ⟨rfl, rfl⟩ := H
  exact RetP.mk id ⟨rfl, rfl, trivial⟩ trivial rfl
/-! ### impl_ValidVeneer: function 109 -/
def impl_ValidVeneer.f (a0_0 : ByteArray) (a0_1 : Int) (a0_2 : Int) : Option (Bool) := (impl_speciesShade.f a0_0).bind fun bt1 => (if bt1.2 = true then ((impl_within.f a0_1 0 100).bind fun t5 => (if t5 = true then ((impl_within.f (wrap64 (a0_1 - bt1.1)) (-15) 15).bind fun t8 => (if t8 = true then ((impl_within.f a0_2 0 179).bind fun t11 => (some t11)) else (some false))) else (some false))) else (some false))
set_option maxRecDepth 100000 in
theorem impl_ValidVeneer.ok {a0_0 : ByteArray} {a0_1 : Int} {a0_2 : Int} {r : Bool} (H : impl_ValidVeneer.f a0_0 a0_1 a0_2 = some r) : OkF Try.prog 109 [.agg [.d (.v (.string a0_0)), .d (.v (.int .i64 a0_1)), .d (.v (.int .i64 a0_2))]] [] (.c (.d (.v (.bool r)))) [] := by
  unfold impl_ValidVeneer.f at H
  refine OkF.of (N := 29) (rs := [2]) (avs := [.c (.d (.v (.bool r)))]) Try.func109 rfl rfl (fun _ _ => results_tmp rfl _ _ _) (by decide) rfl rfl rfl rfl (fun w0 S => ?_)
  refine AG.seq ?_
  refine AG.region HM ?_
  refine a_box 200 ?_
  refine a_move (v := vB _) ?_
  refine RA.nil nofun ?_
  refine AG.seq ?_
  refine AG.region HM ?_
  refine a_faB (q := 0) ?_ D90_0
  refine a_ldB (v := vS _) ?_ T9
  obtain ⟨⟨t1, t2⟩, e3, H⟩ := bindO H
  refine a_call (v := .tup [.c (.d (.v (.int .i64 t1))), .c (.d (.v (.bool t2)))]) (nk := []) (L := []) ?_ rfl (impl_speciesShade.ok e3) id (qd qn) trivial trivial trivial rfl
  refine a_move (v := .tup [_, _]) ?_
  refine a_ext (v := vI _) ?_
  refine a_ext (v := vB _) ?_
  refine a_move (v := vI _) ?_
  refine a_move (v := vB _) ?_
  refine RA.nil nofun ?_
  refine AG.seq ?_
  refine AG.region HM ?_
  refine a_move (v := vB _) ?_
  refine a_move (v := vB _) ?_
  by_cases hc4 : t2 = true
  · rw [if_pos hc4] at H
    refine a_faB (q := 1) ?_ D90_1 (hg := Gs.yes rfl rfl rfl hc4)
    refine a_ldB (v := vI _) ?_ T2 (hg := Gs.yes rfl rfl rfl hc4)
    obtain ⟨t5, e6, H⟩ := bindO H
    refine a_call (v := vB t5) (nk := []) (L := []) ?_ rfl (impl_within.ok e6) id (qd (qd (qd qn))) trivial trivial trivial rfl (hg := Gs.yes rfl rfl rfl hc4)
    refine a_pick (b := true) (v := vB _) ?_ hc4
    refine a_move (v := vB _) ?_
    by_cases hc7 : t5 = true
    · rw [if_pos hc7] at H
      refine a_faB (q := 1) ?_ D90_1 (hg := Gs.yes rfl rfl rfl hc7)
      refine a_ldB (v := vI _) ?_ T2 (hg := Gs.yes rfl rfl rfl hc7)
      refine a_move (v := vI _) ?_ (hg := Gs.yes rfl rfl rfl hc7)
      refine a_int (u := .int .i64 (wrap64 (a0_1 - t1))) ?_ (hg := Gs.yes rfl rfl rfl hc7)
      obtain ⟨t8, e9, H⟩ := bindO H
      refine a_call (v := vB t8) (nk := []) (L := []) ?_ rfl (impl_within.ok e9) id (qd (qd (qd qn))) trivial trivial trivial rfl (hg := Gs.yes rfl rfl rfl hc7)
      refine a_pick (b := true) (v := vB _) ?_ hc7
      refine a_move (v := vB _) ?_
      by_cases hc10 : t8 = true
      · rw [if_pos hc10] at H
        refine a_faB (q := 2) ?_ D90_2 (hg := Gs.yes rfl rfl rfl hc10)
        refine a_ldB (v := vI _) ?_ T2 (hg := Gs.yes rfl rfl rfl hc10)
        obtain ⟨t11, e12, H⟩ := bindO H
        refine a_call (v := vB t11) (nk := []) (L := []) ?_ rfl (impl_within.ok e12) id (qd (qd (qd qn))) trivial trivial trivial rfl (hg := Gs.yes rfl rfl rfl hc10)
        refine a_pick (b := true) (v := vB _) ?_ hc10
        refine a_move (v := vB _) ?_
        refine RA.nil nofun ?_
        refine AG.ret ?_
        obtain rfl := Option.some.inj H
        exact RetP.mk id ⟨rfl, trivial⟩ trivial rfl
      · rw [if_neg hc10] at H
        refine RA.skip rfl rfl rfl rfl rfl (Bool.eq_false_iff.2 hc10) (by decide) ?_
        refine RA.skip rfl rfl rfl rfl rfl (Bool.eq_false_iff.2 hc10) (by decide) ?_
        refine RA.skip rfl rfl rfl rfl rfl (Bool.eq_false_iff.2 hc10) (by decide) ?_
        refine a_pick (b := false) (v := vB _) ?_ (Bool.eq_false_iff.2 hc10)
        refine a_move (v := vB _) ?_
        refine RA.nil nofun ?_
        refine AG.ret ?_
        obtain rfl := Option.some.inj H
        exact RetP.mk id ⟨rfl, trivial⟩ trivial rfl
    · rw [if_neg hc7] at H
      refine RA.skip rfl rfl rfl rfl rfl (Bool.eq_false_iff.2 hc7) (by decide) ?_
      refine RA.skip rfl rfl rfl rfl rfl (Bool.eq_false_iff.2 hc7) (by decide) ?_
      refine RA.skip rfl rfl rfl rfl rfl (Bool.eq_false_iff.2 hc7) (by decide) ?_
      refine RA.skip rfl rfl rfl rfl rfl (Bool.eq_false_iff.2 hc7) (by decide) ?_
      refine RA.skip rfl rfl rfl rfl rfl (Bool.eq_false_iff.2 hc7) (by decide) ?_
      refine a_pick (b := false) (v := vB _) ?_ (Bool.eq_false_iff.2 hc7)
      refine a_move (v := vB _) ?_
      refine RA.skip rfl rfl rfl rfl rfl rfl (by decide) ?_
      refine RA.skip rfl rfl rfl rfl rfl rfl (by decide) ?_
      refine RA.skip rfl rfl rfl rfl rfl rfl (by decide) ?_
      refine a_pick (b := false) (v := vB _) ?_ rfl
      refine a_move (v := vB _) ?_
      refine RA.nil nofun ?_
      refine AG.ret ?_
      obtain rfl := Option.some.inj H
      exact RetP.mk id ⟨rfl, trivial⟩ trivial rfl
  · rw [if_neg hc4] at H
    refine RA.skip rfl rfl rfl rfl rfl (Bool.eq_false_iff.2 hc4) (by decide) ?_
    refine RA.skip rfl rfl rfl rfl rfl (Bool.eq_false_iff.2 hc4) (by decide) ?_
    refine RA.skip rfl rfl rfl rfl rfl (Bool.eq_false_iff.2 hc4) (by decide) ?_
    refine a_pick (b := false) (v := vB _) ?_ (Bool.eq_false_iff.2 hc4)
    refine a_move (v := vB _) ?_
    refine RA.skip rfl rfl rfl rfl rfl rfl (by decide) ?_
    refine RA.skip rfl rfl rfl rfl rfl rfl (by decide) ?_
    refine RA.skip rfl rfl rfl rfl rfl rfl (by decide) ?_
    refine RA.skip rfl rfl rfl rfl rfl rfl (by decide) ?_
    refine RA.skip rfl rfl rfl rfl rfl rfl (by decide) ?_
    refine a_pick (b := false) (v := vB _) ?_ rfl
    refine a_move (v := vB _) ?_
    refine RA.skip rfl rfl rfl rfl rfl rfl (by decide) ?_
    refine RA.skip rfl rfl rfl rfl rfl rfl (by decide) ?_
    refine RA.skip rfl rfl rfl rfl rfl rfl (by decide) ?_
    refine a_pick (b := false) (v := vB _) ?_ rfl
    refine a_move (v := vB _) ?_
    refine RA.nil nofun ?_
    refine AG.ret ?_
    obtain rfl := Option.some.inj H
    exact RetP.mk id ⟨rfl, trivial⟩ trivial rfl
/-! ### impl_validVeneers_1: function 108 -/
def impl_validVeneers_1.f (a0_0 : ByteArray) (a0_1 : Int) (a0_2 : Int) : Option (Bool) := (impl_ValidVeneer.f a0_0 a0_1 a0_2).bind fun t1 => (some (!t1))
set_option maxRecDepth 100000 in
theorem impl_validVeneers_1.ok {a0_0 : ByteArray} {a0_1 : Int} {a0_2 : Int} {r : Bool} (H : impl_validVeneers_1.f a0_0 a0_1 a0_2 = some r) : OkF Try.prog 108 [.agg [.d (.v (.string a0_0)), .d (.v (.int .i64 a0_1)), .d (.v (.int .i64 a0_2))]] [] (.c (.d (.v (.bool r)))) [] := by
  unfold impl_validVeneers_1.f at H
  refine OkF.of (N := 6) (rs := [2]) (avs := [.c (.d (.v (.bool r)))]) Try.func108 rfl rfl (fun _ _ => results_tmp rfl _ _ _) (by decide) rfl rfl rfl rfl (fun w0 S => ?_)
  refine AG.seq ?_
  refine AG.region HM ?_
  refine a_box 200 ?_
  refine a_move (v := vB _) ?_
  refine RA.nil nofun ?_
  refine AG.seq ?_
  refine AG.region HM ?_
  refine a_ldB (v := .agg [_, _, _]) ?_ T90
  obtain ⟨t1, e2, H⟩ := bindO H
  refine a_call (v := vB t1) (nk := []) (L := []) ?_ rfl (impl_ValidVeneer.ok e2) id (qg qn) trivial trivial trivial rfl
  refine a_un (u := .bool (!t1)) ?_
  refine a_move (v := vB _) ?_
  refine RA.nil nofun ?_
  refine AG.ret ?_
  obtain rfl := Option.some.inj H
  exact RetP.mk id ⟨rfl, trivial⟩ trivial rfl
/-! ### slices_IndexFunc_impl_Veneer__impl_validVeneers_1: function 117 -/
def slices_IndexFunc_impl_Veneer__impl_validVeneers_1.l0 : Nat → List S86 → Int → Int → Option (Int)
  | 0, _, _, _ => none
  | k + 1, x0, x7, x8 => if x8 < x7 then (if 0 ≤ x8 then (if x8 < (x0.length : Int) then ((impl_validVeneers_1.f ((rd86 x0 x8).f0) ((rd86 x0 x8).f1) ((rd86 x0 x8).f2)).bind fun t4 => (if t4 = true then (some x8) else (slices_IndexFunc_impl_Veneer__impl_validVeneers_1.l0 k x0 x7 (wrap64 (x8 + 1))))) else (none)) else (none)) else (some (-1))
def slices_IndexFunc_impl_Veneer__impl_validVeneers_1.f (k : Nat) (l0 : List S86) : Option (Int) := slices_IndexFunc_impl_Veneer__impl_validVeneers_1.l0 k l0 (l0.length : Int) 0
set_option maxRecDepth 100000 in
theorem slices_IndexFunc_impl_Veneer__impl_validVeneers_1.ok {k : Nat} {l0 : List S86} {r : Int} (H : slices_IndexFunc_impl_Veneer__impl_validVeneers_1.f k l0 = some r) : OkF Try.prog 117 [vR 90 (l0.map c86), .c (.d (.fn 108 []))] [] (.c (.d (.v (.int .i64 r)))) [] := by
  unfold slices_IndexFunc_impl_Veneer__impl_validVeneers_1.f at H
  refine OkF.of (N := 19) (rs := [4]) (avs := [.c (.d (.v (.int .i64 r)))]) Try.func117 rfl rfl (fun _ _ => results_tmp rfl _ _ _) (by decide) rfl rfl rfl rfl (fun w0 S => ?_)
  refine AG.seq ?_
  refine AG.region HM ?_
  refine a_move (v := vI _) ?_
  refine RA.nil nofun ?_
  refine AG.seq ?_
  refine AG.seq ?_
  refine AG.region HM ?_
  refine a_move (v := vR _ _) ?_
  refine a_lenR ?_ Try.underlying30
  refine a_move (v := vI _) ?_
  refine RA.nil nofun ?_
  refine AG.block ?_
  refine AG.loop ?_
  obtain ⟨K0, hK0, gK0⟩ : ∃ K, k ≤ K ∧ K ≤ k := ⟨k, Nat.le_refl k, Nat.le_refl k⟩
  refine AGr.canon id (AGr.loopI (n := k) (fun k s => k ≤ K0 ∧ ∃ (x0 : List S86) (x7 : Int) (x8 : Int), slices_IndexFunc_impl_Veneer__impl_validVeneers_1.l0 k x0 x7 x8 = some r ∧ s = St.of [(0, vR 90 (x0.map c86)), (1, .c (.d (.fn 108 []))), (7, vI x7), (8, vI x8)] []) ⟨hK0, _, _, _, H, rfl⟩ ?_ ?_) ⟨rfl, rfl, rfl, rfl, trivial⟩ trivial rfl
  · rintro _ ⟨_, _, _, _, H, _⟩
    cases H
  · clear H hK0
    rintro k ih0 _ ⟨hK0, x0, x7, x8, H, rfl⟩
    unfold slices_IndexFunc_impl_Veneer__impl_validVeneers_1.l0 at H
    refine AG.seq ?_
    refine AG.region HM ?_
    refine a_int (u := .bool (decide (x8 < x7))) ?_
    refine RA.nil nofun ?_
    refine AG.seq ?_
    by_cases hc1 : x8 < x7
    · rw [if_pos hc1] at H
      refine AG.yes rfl (decide_eq_true hc1) ?_
      refine AG.skip ?_
      refine AG.seq ?_
      refine AG.block ?_
      refine AG.seq ?_
      refine AG.region HM ?_
      refine a_move (v := vI _) ?_
      refine a_move (v := vI _) ?_
      refine RA.nil nofun ?_
      refine AG.seq ?_
      refine AG.region HM ?_
      refine a_move (v := .c (.d (.fn _ _))) ?_
      refine a_move (v := vR _ _) ?_
      refine a_move (v := vI _) ?_
      by_cases hc2 : 0 ≤ x8
      · rw [if_pos hc2] at H
        by_cases hc3 : x8 < (x0.length : Int)
        · rw [if_pos hc3] at H
          refine a_ixR (el := c86 (rd86 x0 x8)) ?_ ⟨hc2, hc3⟩ T90 Try.underlying30 (hel := R86 hc2 hc3)
          refine a_ldR (v := .agg [_, _, _]) ?_ T90
          obtain ⟨t4, e5, H⟩ := bindO H
          refine a_callV (v := vB t4) (nk := []) (L := []) ?_ rfl (impl_validVeneers_1.ok e5) id (qg qn) trivial trivial trivial rfl
          refine RA.nil nofun ?_
          by_cases hc6 : t4 = true
          · rw [if_pos hc6] at H
            refine AG.yes rfl hc6 ?_
            refine AG.seq ?_
            refine AG.region HM ?_
            refine a_move (v := vI _) ?_
            refine a_move (v := vI _) ?_
            refine RA.nil nofun ?_
            refine AG.ret ?_
            obtain rfl := Option.some.inj H
            exact RetP.mk id ⟨rfl, trivial⟩ trivial rfl
          · rw [if_neg hc6] at H
            refine AG.no rfl (Bool.eq_false_iff.2 hc6) ?_
            refine AG.skip ?_
            refine AG.region HM ?_
            refine a_int (u := .int .i64 (wrap64 (x8 + 1))) ?_
            refine a_move (v := vI _) ?_
            refine RA.nil nofun ?_
            exact AGr.canon id (ih0 _ (by omega) _ ⟨by omega, _, _, _, H, rfl⟩) ⟨rfl, rfl, rfl, rfl, trivial⟩ trivial rfl
        · rw [if_neg hc3] at H
          cases H
      · rw [if_neg hc2] at H
        cases H
    · rw [if_neg hc1] at H
      refine AG.no rfl (decide_eq_false hc1) ?_
      refine AG.exit ?_
      refine AG.seq ?_
      refine AG.region HM ?_
      refine a_move (v := vI _) ?_
      refine RA.nil nofun ?_
      refine AG.ret ?_
      obtain rfl := Option.some.inj H
      exact RetP.mk id ⟨rfl, trivial⟩ trivial rfl
/-! ### slices_ContainsFunc_impl_Veneer__impl_validVeneers_1: function 107 -/
def slices_ContainsFunc_impl_Veneer__impl_validVeneers_1.f (k : Nat) (l0 : List S86) : Option (Bool) := (slices_IndexFunc_impl_Veneer__impl_validVeneers_1.f k l0).bind fun t1 => (some (decide (t1 ≥ 0)))
set_option maxRecDepth 100000 in
theorem slices_ContainsFunc_impl_Veneer__impl_validVeneers_1.ok {k : Nat} {l0 : List S86} {r : Bool} (H : slices_ContainsFunc_impl_Veneer__impl_validVeneers_1.f k l0 = some r) : OkF Try.prog 107 [vR 90 (l0.map c86), .c (.d (.fn 108 []))] [] (.c (.d (.v (.bool r)))) [] := by
  unfold slices_ContainsFunc_impl_Veneer__impl_validVeneers_1.f at H
  refine OkF.of (N := 9) (rs := [4]) (avs := [.c (.d (.v (.bool r)))]) Try.func107 rfl rfl (fun _ _ => results_tmp rfl _ _ _) (by decide) rfl rfl rfl rfl (fun w0 S => ?_)
  refine AG.seq ?_
  refine AG.region HM ?_
  refine a_move (v := vB _) ?_
  refine RA.nil nofun ?_
  refine AG.seq ?_
  refine AG.region HM ?_
  refine a_move (v := vR _ _) ?_
  refine a_move (v := .c (.d (.fn _ _))) ?_
  obtain ⟨t1, e2, H⟩ := bindO H
  refine a_call (v := vI t1) (nk := []) (L := []) ?_ rfl (slices_IndexFunc_impl_Veneer__impl_validVeneers_1.ok e2) id (qd (qd qn)) trivial trivial trivial rfl
  refine a_int (u := .bool (decide (t1 ≥ 0))) ?_
  refine a_move (v := vB _) ?_
  refine RA.nil nofun ?_
  refine AG.ret ?_
  obtain rfl := Option.some.inj H
  exact RetP.mk id ⟨rfl, trivial⟩ trivial rfl
/-! ### impl_validVeneers: function 87 -/
def impl_validVeneers.f (k : Nat) (l0 : List S86) : Option (Bool) := (slices_ContainsFunc_impl_Veneer__impl_validVeneers_1.f k l0).bind fun t1 => (some (!t1))
set_option maxRecDepth 100000 in
theorem impl_validVeneers.ok {k : Nat} {l0 : List S86} {r : Bool} (H : impl_validVeneers.f k l0 = some r) : OkF Try.prog 87 [vR 90 (l0.map c86)] [] (.c (.d (.v (.bool r)))) [] := by
  unfold impl_validVeneers.f at H
  refine OkF.of (N := 6) (rs := [2]) (avs := [.c (.d (.v (.bool r)))]) Try.func87 rfl rfl (fun _ _ => results_tmp rfl _ _ _) (by decide) rfl rfl rfl rfl (fun w0 S => ?_)
  refine AG.seq ?_
  refine AG.region HM ?_
  refine a_move (v := vB _) ?_
  refine RA.nil nofun ?_
  refine AG.seq ?_
  refine AG.region HM ?_
  refine a_move (v := vR _ _) ?_
  obtain ⟨t1, e2, H⟩ := bindO H
  refine a_call (v := vB t1) (nk := []) (L := []) ?_ rfl (slices_ContainsFunc_impl_Veneer__impl_validVeneers_1.ok e2) id (qd (qd qn)) trivial trivial trivial rfl
  refine a_un (u := .bool (!t1)) ?_
  refine a_move (v := vB _) ?_
  refine RA.nil nofun ?_
  refine AG.ret ?_
  obtain rfl := Option.some.inj H
  exact RetP.mk id ⟨rfl, trivial⟩ trivial rfl
/-! ### impl_validSheets: function 55 -/
def impl_validSheets.f (k : Nat) (l0 : List S86) : Option (Bool) := (impl_within.f (l0.length : Int) 1 8).bind fun t1 => (if t1 = true then ((impl_validVeneers.f k l0).bind fun t4 => (some t4)) else (some false))
set_option maxRecDepth 100000 in
theorem impl_validSheets.ok {k : Nat} {l0 : List S86} {r : Bool} (H : impl_validSheets.f k l0 = some r) : OkF Try.prog 55 [vR 90 (l0.map c86)] [] (.c (.d (.v (.bool r)))) [] := by
  unfold impl_validSheets.f at H
  refine OkF.of (N := 10) (rs := [2]) (avs := [.c (.d (.v (.bool r)))]) Try.func55 rfl rfl (fun _ _ => results_tmp rfl _ _ _) (by decide) rfl rfl rfl rfl (fun w0 S => ?_)
  refine AG.seq ?_
  refine AG.region HM ?_
  refine a_move (v := vB _) ?_
  refine RA.nil nofun ?_
  refine AG.seq ?_
  refine AG.region HM ?_
  refine a_move (v := vR _ _) ?_
  refine a_lenR ?_ Try.underlying30
  obtain ⟨t1, e2, H⟩ := bindO H
  refine a_call (v := vB t1) (nk := []) (L := []) ?_ rfl (impl_within.ok e2) id (qd (qd (qd qn))) trivial trivial trivial rfl
  refine a_move (v := vB _) ?_
  by_cases hc3 : t1 = true
  · rw [if_pos hc3] at H
    refine a_move (v := vR _ _) ?_ (hg := Gs.yes rfl rfl rfl hc3)
    obtain ⟨t4, e5, H⟩ := bindO H
    refine a_call (v := vB t4) (nk := []) (L := []) ?_ rfl (impl_validVeneers.ok e5) id (qd qn) trivial trivial trivial rfl (hg := Gs.yes rfl rfl rfl hc3)
    refine a_pick (b := true) (v := vB _) ?_ hc3
    refine a_move (v := vB _) ?_
    refine RA.nil nofun ?_
    refine AG.ret ?_
    obtain rfl := Option.some.inj H
    exact RetP.mk id ⟨rfl, trivial⟩ trivial rfl
  · rw [if_neg hc3] at H
    refine RA.skip rfl rfl rfl rfl rfl (Bool.eq_false_iff.2 hc3) (by decide) ?_
    refine RA.skip rfl rfl rfl rfl rfl (Bool.eq_false_iff.2 hc3) (by decide) ?_
    refine a_pick (b := false) (v := vB _) ?_ (Bool.eq_false_iff.2 hc3)
    refine a_move (v := vB _) ?_
    refine RA.nil nofun ?_
    refine AG.ret ?_
    obtain rfl := Option.some.inj H
    exact RetP.mk id ⟨rfl, trivial⟩ trivial rfl
/-! ### impl_ValidPacket_1: function 57 -/
def impl_ValidPacket_1.f (a0 : Int) (v_0_0 : List S86) (v_0_1 : List Int) : Option (Bool) := (impl_within.f a0 0 (wrap64 ((v_0_0.length : Int) - 1))).bind fun t1 => (some (!t1))
set_option maxRecDepth 100000 in
theorem impl_ValidPacket_1.ok {a0 : Int} {v_0_0 : List S86} {v_0_1 : List Int} {r : Bool} (H : impl_ValidPacket_1.f a0 v_0_0 v_0_1 = some r) : OkF Try.prog 57 [vI a0, .c (.d (.ro [.row 90 (v_0_0.map c86), .row 2 (v_0_1.map c2)]))] [] (.c (.d (.v (.bool r)))) [] := by
  unfold impl_ValidPacket_1.f at H
  refine OkF.of (N := 11) (rs := [3]) (avs := [.c (.d (.v (.bool r)))]) Try.func57 rfl rfl (fun _ _ => results_tmp rfl _ _ _) (by decide) rfl rfl rfl rfl (fun w0 S => ?_)
  refine AG.seq ?_
  refine AG.region HM ?_
  refine a_move (v := vB _) ?_
  refine RA.nil nofun ?_
  refine AG.seq ?_
  refine AG.region HM ?_
  refine a_move (v := vI _) ?_
  refine a_faR (cells' := [_, _]) ?_ D32_0
  refine a_ldR (v := vR _ _) ?_ T30
  refine a_lenR ?_ Try.underlying30
  refine a_int (u := .int .i64 (wrap64 ((v_0_0.length : Int) - 1))) ?_
  obtain ⟨t1, e2, H⟩ := bindO H
  refine a_call (v := vB t1) (nk := []) (L := []) ?_ rfl (impl_within.ok e2) id (qd (qd (qd qn))) trivial trivial trivial rfl
  refine a_un (u := .bool (!t1)) ?_
  refine a_move (v := vB _) ?_
  refine RA.nil nofun ?_
  refine AG.ret ?_
  obtain rfl := Option.some.inj H
  exact RetP.mk id ⟨rfl, trivial⟩ trivial rfl
/-! ### slices_IndexFunc_int64_int64__impl_ValidPacket_1: function 88 -/
def slices_IndexFunc_int64_int64__impl_ValidPacket_1.l0 : Nat → List Int → List S86 → List Int → Int → Int → Option (Int)
  | 0, _, _, _, _, _ => none
  | k + 1, x0, x1_0_0, x1_0_1, x7, x8 => if x8 < x7 then (if 0 ≤ x8 then (if x8 < (x0.length : Int) then ((impl_ValidPacket_1.f (rd2 x0 x8) x1_0_0 x1_0_1).bind fun t4 => (if t4 = true then (some x8) else (slices_IndexFunc_int64_int64__impl_ValidPacket_1.l0 k x0 x1_0_0 x1_0_1 x7 (wrap64 (x8 + 1))))) else (none)) else (none)) else (some (-1))
def slices_IndexFunc_int64_int64__impl_ValidPacket_1.f (k : Nat) (l0 : List Int) (v1_0_0 : List S86) (v1_0_1 : List Int) : Option (Int) := slices_IndexFunc_int64_int64__impl_ValidPacket_1.l0 k l0 v1_0_0 v1_0_1 (l0.length : Int) 0
set_option maxRecDepth 100000 in
theorem slices_IndexFunc_int64_int64__impl_ValidPacket_1.ok {k : Nat} {l0 : List Int} {v1_0_0 : List S86} {v1_0_1 : List Int} {r : Int} (H : slices_IndexFunc_int64_int64__impl_ValidPacket_1.f k l0 v1_0_0 v1_0_1 = some r) : OkF Try.prog 88 [vR 2 (l0.map c2), .c (.d (.fn 57 [.ro [.row 90 (v1_0_0.map c86), .row 2 (v1_0_1.map c2)]]))] [] (.c (.d (.v (.int .i64 r)))) [] := by
  unfold slices_IndexFunc_int64_int64__impl_ValidPacket_1.f at H
  refine OkF.of (N := 19) (rs := [4]) (avs := [.c (.d (.v (.int .i64 r)))]) Try.func88 rfl rfl (fun _ _ => results_tmp rfl _ _ _) (by decide) rfl rfl rfl rfl (fun w0 S => ?_)
  refine AG.seq ?_
  refine AG.region HM ?_
  refine a_move (v := vI _) ?_
  refine RA.nil nofun ?_
  refine AG.seq ?_
  refine AG.seq ?_
  refine AG.region HM ?_
  refine a_move (v := vR _ _) ?_
  refine a_lenR ?_ Try.underlying23
  refine a_move (v := vI _) ?_
  refine RA.nil nofun ?_
  refine AG.block ?_
  refine AG.loop ?_
  obtain ⟨K0, hK0, gK0⟩ : ∃ K, k ≤ K ∧ K ≤ k := ⟨k, Nat.le_refl k, Nat.le_refl k⟩
  refine AGr.canon id (AGr.loopI (n := k) (fun k s => k ≤ K0 ∧ ∃ (x0 : List Int) (x1_0_0 : List S86) (x1_0_1 : List Int) (x7 : Int) (x8 : Int), slices_IndexFunc_int64_int64__impl_ValidPacket_1.l0 k x0 x1_0_0 x1_0_1 x7 x8 = some r ∧ s = St.of [(0, vR 2 (x0.map c2)), (1, .c (.d (.fn 57 [.ro [.row 90 (x1_0_0.map c86), .row 2 (x1_0_1.map c2)]]))), (7, vI x7), (8, vI x8)] []) ⟨hK0, _, _, _, _, _, H, rfl⟩ ?_ ?_) ⟨rfl, rfl, rfl, rfl, trivial⟩ trivial rfl
  · rintro _ ⟨_, _, _, _, _, _, H, _⟩
    cases H
  · clear H hK0
    rintro k ih0 _ ⟨hK0, x0, x1_0_0, x1_0_1, x7, x8, H, rfl⟩
    unfold slices_IndexFunc_int64_int64__impl_ValidPacket_1.l0 at H
    refine AG.seq ?_
    refine AG.region HM ?_
    refine a_int (u := .bool (decide (x8 < x7))) ?_
    refine RA.nil nofun ?_
    refine AG.seq ?_
    by_cases hc1 : x8 < x7
    · rw [if_pos hc1] at H
      refine AG.yes rfl (decide_eq_true hc1) ?_
      refine AG.skip ?_
      refine AG.seq ?_
      refine AG.block ?_
      refine AG.seq ?_
      refine AG.region HM ?_
      refine a_move (v := vI _) ?_
      refine a_move (v := vI _) ?_
      refine RA.nil nofun ?_
      refine AG.seq ?_
      refine AG.region HM ?_
      refine a_move (v := .c (.d (.fn _ _))) ?_
      refine a_move (v := vR _ _) ?_
      refine a_move (v := vI _) ?_
      by_cases hc2 : 0 ≤ x8
      · rw [if_pos hc2] at H
        by_cases hc3 : x8 < (x0.length : Int)
        · rw [if_pos hc3] at H
          refine a_ixR (el := c2 (rd2 x0 x8)) ?_ ⟨hc2, hc3⟩ T2 Try.underlying23 (hel := R2 hc2 hc3)
          refine a_ldR (v := vI _) ?_ T2
          obtain ⟨t4, e5, H⟩ := bindO H
          refine a_callW (v := vB t4) (nk := []) (L := []) ?_ rfl rfl (impl_ValidPacket_1.ok e5) id (qd qn) rfl trivial trivial trivial rfl
          refine RA.nil nofun ?_
          by_cases hc6 : t4 = true
          · rw [if_pos hc6] at H
            refine AG.yes rfl hc6 ?_
            refine AG.seq ?_
            refine AG.region HM ?_
            refine a_move (v := vI _) ?_
            refine a_move (v := vI _) ?_
            refine RA.nil nofun ?_
            refine AG.ret ?_
            obtain rfl := Option.some.inj H
            exact RetP.mk id ⟨rfl, trivial⟩ trivial rfl
          · rw [if_neg hc6] at H
            refine AG.no rfl (Bool.eq_false_iff.2 hc6) ?_
            refine AG.skip ?_
            refine AG.region HM ?_
            refine a_int (u := .int .i64 (wrap64 (x8 + 1))) ?_
            refine a_move (v := vI _) ?_
            refine RA.nil nofun ?_
            exact AGr.canon id (ih0 _ (by omega) _ ⟨by omega, _, _, _, _, _, H, rfl⟩) ⟨rfl, rfl, rfl, rfl, trivial⟩ trivial rfl
        · rw [if_neg hc3] at H
          cases H
      · rw [if_neg hc2] at H
        cases H
    · rw [if_neg hc1] at H
      refine AG.no rfl (decide_eq_false hc1) ?_
      refine AG.exit ?_
      refine AG.seq ?_
      refine AG.region HM ?_
      refine a_move (v := vI _) ?_
      refine RA.nil nofun ?_
      refine AG.ret ?_
      obtain rfl := Option.some.inj H
      exact RetP.mk id ⟨rfl, trivial⟩ trivial rfl
/-! ### slices_ContainsFunc_int64_int64__impl_ValidPacket_1: function 56 -/
def slices_ContainsFunc_int64_int64__impl_ValidPacket_1.f (k : Nat) (l0 : List Int) (v1_0_0 : List S86) (v1_0_1 : List Int) : Option (Bool) := (slices_IndexFunc_int64_int64__impl_ValidPacket_1.f k l0 v1_0_0 v1_0_1).bind fun t1 => (some (decide (t1 ≥ 0)))
set_option maxRecDepth 100000 in
theorem slices_ContainsFunc_int64_int64__impl_ValidPacket_1.ok {k : Nat} {l0 : List Int} {v1_0_0 : List S86} {v1_0_1 : List Int} {r : Bool} (H : slices_ContainsFunc_int64_int64__impl_ValidPacket_1.f k l0 v1_0_0 v1_0_1 = some r) : OkF Try.prog 56 [vR 2 (l0.map c2), .c (.d (.fn 57 [.ro [.row 90 (v1_0_0.map c86), .row 2 (v1_0_1.map c2)]]))] [] (.c (.d (.v (.bool r)))) [] := by
  unfold slices_ContainsFunc_int64_int64__impl_ValidPacket_1.f at H
  refine OkF.of (N := 9) (rs := [4]) (avs := [.c (.d (.v (.bool r)))]) Try.func56 rfl rfl (fun _ _ => results_tmp rfl _ _ _) (by decide) rfl rfl rfl rfl (fun w0 S => ?_)
  refine AG.seq ?_
  refine AG.region HM ?_
  refine a_move (v := vB _) ?_
  refine RA.nil nofun ?_
  refine AG.seq ?_
  refine AG.region HM ?_
  refine a_move (v := vR _ _) ?_
  refine a_move (v := .c (.d (.fn _ _))) ?_
  obtain ⟨t1, e2, H⟩ := bindO H
  refine a_call (v := vI t1) (nk := []) (L := []) ?_ rfl (slices_IndexFunc_int64_int64__impl_ValidPacket_1.ok e2) id (qd (qd qn)) trivial trivial trivial rfl
  refine a_int (u := .bool (decide (t1 ≥ 0))) ?_
  refine a_move (v := vB _) ?_
  refine RA.nil nofun ?_
  refine AG.ret ?_
  obtain rfl := Option.some.inj H
  exact RetP.mk id ⟨rfl, trivial⟩ trivial rfl
/-! ### impl_ValidPacket: function 32 -/
def impl_ValidPacket.f (k : Nat) (l0_0 : List S86) (l0_1 : List Int) : Option (Bool) := (impl_validSheets.f k l0_0).bind fun t1 => (if t1 = true then (if (l0_1.length : Int) > 24 then (some false) else ((slices_ContainsFunc_int64_int64__impl_ValidPacket_1.f k l0_1 l0_0 l0_1).bind fun t5 => (some (!t5)))) else (some false))
set_option maxRecDepth 100000 in
theorem impl_ValidPacket.ok {k : Nat} {l0_0 : List S86} {l0_1 : List Int} {r : Bool} (H : impl_ValidPacket.f k l0_0 l0_1 = some r) : OkF Try.prog 32 [.agg [.d (.row 90 (l0_0.map c86)), .d (.row 2 (l0_1.map c2))]] [] (.c (.d (.v (.bool r)))) [] := by
  unfold impl_ValidPacket.f at H
  refine OkF.of (N := 18) (rs := [2]) (avs := [.c (.d (.v (.bool r)))]) Try.func32 rfl rfl (fun _ _ => results_tmp rfl _ _ _) (by decide) rfl rfl rfl rfl (fun w0 S => ?_)
  refine AG.seq ?_
  refine AG.region HM ?_
  refine a_box 200 ?_
  refine a_move (v := vB _) ?_
  refine RA.nil nofun ?_
  refine AG.seq ?_
  refine AG.seq ?_
  refine AG.region HM ?_
  refine a_faB (q := 0) ?_ D32_0
  refine a_ldB (v := vR _ _) ?_ T30
  obtain ⟨t1, e2, H⟩ := bindO H
  refine a_call (v := vB t1) (nk := []) (L := []) ?_ rfl (impl_validSheets.ok e2) id (qd qn) trivial trivial trivial rfl
  refine a_un (u := .bool (!t1)) ?_
  refine a_move (v := vB _) ?_
  by_cases hc3 : t1 = true
  · rw [if_pos hc3] at H
    refine a_faB (q := 1) ?_ D32_1 (hg := Gs.yes rfl rfl rfl (congrArg Bool.not hc3))
    refine a_ldB (v := vR _ _) ?_ T23 (hg := Gs.yes rfl rfl rfl (congrArg Bool.not hc3))
    refine a_lenR ?_ Try.underlying23 (hg := Gs.yes rfl rfl rfl (congrArg Bool.not hc3))
    refine a_int (u := .bool (decide ((l0_1.length : Int) > 24))) ?_ (hg := Gs.yes rfl rfl rfl (congrArg Bool.not hc3))
    refine a_pick (b := false) (v := vB _) ?_ (congrArg Bool.not hc3)
    refine RA.nil nofun ?_
    by_cases hc4 : (l0_1.length : Int) > 24
    · rw [if_pos hc4] at H
      refine AG.yes rfl (decide_eq_true hc4) ?_
      refine AG.seq ?_
      refine AG.region HM ?_
      refine a_move (v := vB _) ?_
      refine RA.nil nofun ?_
      refine AG.ret ?_
      obtain rfl := Option.some.inj H
      exact RetP.mk id ⟨rfl, trivial⟩ trivial rfl
    · rw [if_neg hc4] at H
      refine AG.no rfl (decide_eq_false hc4) ?_
      refine AG.skip ?_
      refine AG.seq ?_
      refine AG.region HM ?_
      refine a_faB (q := 1) ?_ D32_1
      refine a_ldB (v := vR _ _) ?_ T23
      refine a_fnc (ks := [200]) ?_
      obtain ⟨t5, e6, H⟩ := bindO H
      refine a_call (v := vB t5) (nk := []) (L := [(200, _)]) ?_ rfl (slices_ContainsFunc_int64_int64__impl_ValidPacket_1.ok e6) id (qd (qc (rF (fC (rP (pD (pD p0))) f0)) qn)) ⟨rfl, trivial⟩ trivial trivial rfl
      refine a_un (u := .bool (!t5)) ?_
      refine a_move (v := vB _) ?_
      refine RA.nil nofun ?_
      refine AG.ret ?_
      obtain rfl := Option.some.inj H
      exact RetP.mk id ⟨rfl, trivial⟩ trivial rfl
  · rw [if_neg hc3] at H
    refine RA.skip rfl rfl rfl rfl rfl (congrArg Bool.not (Bool.eq_false_iff.2 hc3)) (by decide) ?_
    refine RA.skip rfl rfl rfl rfl rfl (congrArg Bool.not (Bool.eq_false_iff.2 hc3)) (by decide) ?_
    refine RA.skip rfl rfl rfl rfl rfl (congrArg Bool.not (Bool.eq_false_iff.2 hc3)) (by decide) ?_
    refine RA.skip rfl rfl rfl rfl rfl (congrArg Bool.not (Bool.eq_false_iff.2 hc3)) (by decide) ?_
    refine a_pick (b := true) (v := vB _) ?_ (congrArg Bool.not (Bool.eq_false_iff.2 hc3))
    refine RA.nil nofun ?_
    refine AG.yes rfl rfl ?_
    refine AG.seq ?_
    refine AG.region HM ?_
    refine a_move (v := vB _) ?_
    refine RA.nil nofun ?_
    refine AG.ret ?_
    obtain rfl := Option.some.inj H
    exact RetP.mk id ⟨rfl, trivial⟩ trivial rfl
/-! ### impl_DistributionOf: function 9 -/
mutual
def impl_DistributionOf.l0 : Nat → List S86 → List Int → List (List Int) → Int → Int → Option ((List (List Int)) × Int)
  | 0, _, _, _, _, _ => none
  | k + 1, y205_0, y205_1, x4, x15, x16 => if x16 < x15 then (impl_DistributionOf.l1 k y205_0 y205_1 x4 x16 ([] : List Int) x15 x16 y205_1 (y205_1.length : Int) 0) else (some (x4, 0))
def impl_DistributionOf.l1 : Nat → List S86 → List Int → List (List Int) → Int → List Int → Int → Int → List Int → Int → Int → Option ((List (List Int)) × Int)
  | 0, _, _, _, _, _, _, _, _, _, _ => none
  | k + 1, y208_0, y208_1, x4, x5, x6, x15, x16, x21, x22, x23 => if x23 < x22 then (if 0 ≤ x23 then (if x23 < (x21.length : Int) then (if (y208_0.length : Int) = 0 then (none) else (if x6.length < 17592186044416 then (impl_DistributionOf.l1 k y208_0 y208_1 x4 x5 (x6 ++ [Int.tmod (wrap64 (x5 + (rd2 x21 x23))) (y208_0.length : Int)]) x15 x16 x21 x22 (wrap64 (x23 + 1))) else (none))) else (none)) else (none)) else (if x4.length < 5864062014805 then (impl_DistributionOf.l0 k y208_0 y208_1 (x4 ++ [x6]) x15 (wrap64 (x16 + 1))) else (none))
end
def impl_DistributionOf.f (k : Nat) (l0_0 : List S86) (l0_1 : List Int) : Option ((List (List Int)) × Int) := (impl_ValidPacket.f k l0_0 l0_1).bind fun t1 => (if t1 = true then (impl_DistributionOf.l0 k l0_0 l0_1 ([] : List (List Int)) (l0_0.length : Int) 0) else (some (([] : List (List Int)), 1)))
set_option maxRecDepth 100000 in
theorem impl_DistributionOf.ok {k : Nat} {l0_0 : List S86} {l0_1 : List Int} {r0 : List (List Int)} {r1 : Int} (H : impl_DistributionOf.f k l0_0 l0_1 = some (r0, r1)) : OkF Try.prog 9 [.agg [.d (.row 90 (l0_0.map c86)), .d (.row 2 (l0_1.map c2))]] [] (.tup [.c (.own 100 r0.length), .c (.d (.v (.int .i64 r1)))]) [(100, .row 23 (r0.map c23))] := by
  unfold impl_DistributionOf.f at H
  refine OkF.of (N := 44) (rs := [2, 3]) (avs := [.c (.own 100 r0.length), .c (.d (.v (.int .i64 r1)))]) Try.func9 rfl rfl (fun _ _ => results_tmp2 rfl _ _ _) (by decide) rfl rfl rfl rfl (fun w0 S => ?_)
  refine AG.seq ?_
  refine AG.region HM ?_
  refine a_box 200 ?_
  refine a_nilO (e := 23) 201 ?_ T23
  refine a_move (v := vI _) ?_
  refine RA.nil nofun ?_
  refine AG.seq ?_
  refine AG.seq ?_
  refine AG.region HM ?_
  refine a_ldB (v := .agg [_, _]) ?_ T32
  obtain ⟨t1, e2, H⟩ := bindO H
  refine a_call (v := vB t1) (nk := []) (L := []) ?_ rfl (impl_ValidPacket.ok e2) id (qg qn) trivial trivial trivial rfl
  refine a_un (u := .bool (!t1)) ?_
  refine RA.nil nofun ?_
  by_cases hc3 : t1 = true
  · rw [if_pos hc3] at H
    refine AG.no rfl (congrArg Bool.not hc3) ?_
    refine AG.skip ?_
    refine AG.seq ?_
    refine AG.region HM ?_
    refine a_lit (cs := []) (D := []) (css := ([] : List (List Int)).map c23) 204 ?_ N27 T23 (hcss := by rfl)
    refine a_move (v := .c (.own _ _)) ?_
    refine RA.nil nofun ?_
    refine AG.seq ?_
    refine AG.seq ?_
    refine AG.region HM ?_
    refine a_faB (q := 0) ?_ D32_0
    refine a_ldB (v := vR _ _) ?_ T30
    refine a_lenR ?_ Try.underlying30
    refine a_move (v := vI _) ?_
    refine RA.nil nofun ?_
    refine AG.block ?_
    refine AG.loop ?_
    obtain ⟨K0, hK0, gK0⟩ : ∃ K, k ≤ K ∧ K ≤ k := ⟨k, Nat.le_refl k, Nat.le_refl k⟩
    refine AGr.canon (fun κ => cond (Nat.beq κ 205) 200 (cond (Nat.beq κ 206) 204 (κ))) (AGr.loopI (n := k) (fun k s => k ≤ K0 ∧ ∃ (y205_0 : List S86) (y205_1 : List Int) (x4 : List (List Int)) (x15 : Int) (x16 : Int), impl_DistributionOf.l0 k y205_0 y205_1 x4 x15 x16 = some (r0, r1) ∧ s = St.of [(1, .c (.ptr 205 0)), (4, .c (.own 206 x4.length)), (15, vI x15), (16, vI x16)] [(205, .box 32 [.d (.row 90 (y205_0.map c86)), .d (.row 2 (y205_1.map c2))]), (206, .row 23 (x4.map c23))]) ⟨hK0, _, _, _, _, _, H, rfl⟩ ?_ ?_) ⟨rfl, (ownE rfl (by simp)), rfl, rfl, trivial⟩ ⟨rfl, rfl, trivial⟩ rfl
    · rintro _ ⟨_, _, _, _, _, _, H, _⟩
      cases H
    · clear H hK0
      rintro k ih0 _ ⟨hK0, y205_0, y205_1, x4, x15, x16, H, rfl⟩
      unfold impl_DistributionOf.l0 at H
      refine AG.seq ?_
      refine AG.region HM ?_
      refine a_int (u := .bool (decide (x16 < x15))) ?_
      refine RA.nil nofun ?_
      refine AG.seq ?_
      by_cases hc5 : x16 < x15
      · rw [if_pos hc5] at H
        refine AG.yes rfl (decide_eq_true hc5) ?_
        refine AG.skip ?_
        refine AG.seq ?_
        refine AG.block ?_
        refine AG.seq ?_
        refine AG.region HM ?_
        refine a_move (v := vI _) ?_
        refine a_move (v := vI _) ?_
        refine RA.nil nofun ?_
        refine AG.seq ?_
        refine AG.region HM ?_
        refine a_lit (cs := []) (D := []) (css := ([] : List Int).map c2) 207 ?_ N23 T2 (hcss := by rfl)
        refine a_move (v := .c (.own _ _)) ?_
        refine RA.nil nofun ?_
        refine AG.seq ?_
        refine AG.seq ?_
        refine AG.region HM ?_
        refine a_faB (q := 1) ?_ D32_1
        refine a_ldB (v := vR _ _) ?_ T23
        refine a_lenR ?_ Try.underlying23
        refine a_move (v := vI _) ?_
        refine RA.nil nofun ?_
        refine AG.block ?_
        refine AG.loop ?_
        obtain ⟨K1, hK1, gK1⟩ : ∃ K, k ≤ K ∧ K ≤ k := ⟨k, Nat.le_refl k, Nat.le_refl k⟩
        refine AGr.canon (fun κ => cond (Nat.beq κ 208) 205 (cond (Nat.beq κ 209) 206 (cond (Nat.beq κ 210) 207 (κ)))) (AGr.loopI (n := k) (fun k s => k ≤ K1 ∧ ∃ (y208_0 : List S86) (y208_1 : List Int) (x4 : List (List Int)) (x5 : Int) (x6 : List Int) (x15 : Int) (x16 : Int) (x21 : List Int) (x22 : Int) (x23 : Int), impl_DistributionOf.l1 k y208_0 y208_1 x4 x5 x6 x15 x16 x21 x22 x23 = some (r0, r1) ∧ s = St.of [(1, .c (.ptr 208 0)), (4, .c (.own 209 x4.length)), (5, vI x5), (6, .c (.own 210 x6.length)), (15, vI x15), (16, vI x16), (21, vR 2 (x21.map c2)), (22, vI x22), (23, vI x23)] [(208, .box 32 [.d (.row 90 (y208_0.map c86)), .d (.row 2 (y208_1.map c2))]), (209, .row 23 (x4.map c23)), (210, .row 2 (x6.map c2))]) ⟨hK1, _, _, _, _, _, _, _, _, _, _, H, rfl⟩ ?_ ?_) ⟨rfl, rfl, rfl, (ownE rfl (by simp)), rfl, rfl, rfl, rfl, rfl, trivial⟩ ⟨rfl, rfl, rfl, trivial⟩ rfl
        · rintro _ ⟨_, _, _, _, _, _, _, _, _, _, _, H, _⟩
          cases H
        · clear H hK1
          rintro k ih1 _ ⟨hK1, y208_0, y208_1, x4, x5, x6, x15, x16, x21, x22, x23, H, rfl⟩
          unfold impl_DistributionOf.l1 at H
          refine AG.seq ?_
          refine AG.region HM ?_
          refine a_int (u := .bool (decide (x23 < x22))) ?_
          refine RA.nil nofun ?_
          refine AG.seq ?_
          by_cases hc7 : x23 < x22
          · rw [if_pos hc7] at H
            refine AG.yes rfl (decide_eq_true hc7) ?_
            refine AG.skip ?_
            refine AG.seq ?_
            refine AG.block ?_
            refine AG.seq ?_
            refine AG.region HM ?_
            by_cases hc8 : 0 ≤ x23
            · rw [if_pos hc8] at H
              by_cases hc9 : x23 < (x21.length : Int)
              · rw [if_pos hc9] at H
                refine a_ixR (el := c2 (rd2 x21 x23)) ?_ ⟨hc8, hc9⟩ T2 Try.underlying23 (hel := R2 hc8 hc9)
                refine a_ldR (v := vI _) ?_ T2
                refine a_move (v := vI _) ?_
                refine RA.nil nofun ?_
                refine AG.region HM ?_
                refine a_move (v := .c (.own _ _)) ?_
                refine a_move (v := vI _) ?_
                refine a_move (v := vI _) ?_
                refine a_int (u := .int .i64 (wrap64 (x5 + (rd2 x21 x23)))) ?_
                refine a_faB (q := 0) ?_ D32_0
                refine a_ldB (v := vR _ _) ?_ T30
                refine a_lenR ?_ Try.underlying30
                by_cases hc10 : (y208_0.length : Int) = 0
                · rw [if_pos hc10] at H
                  cases H
                · rw [if_neg hc10] at H
                  refine a_rem (r := Int.tmod (wrap64 (x5 + (rd2 x21 x23))) (y208_0.length : Int)) ?_ hc10
                  refine a_lit (cs := [_]) (D := []) (css := ([Int.tmod (wrap64 (x5 + (rd2 x21 x23))) (y208_0.length : Int)]).map c2) 211 ?_ N23 T2
                  by_cases hc11 : x6.length < 17592186044416
                  · rw [if_pos hc11] at H
                    refine a_appO (css' := (x6 ++ [Int.tmod (wrap64 (x5 + (rd2 x21 x23))) (y208_0.length : Int)]).map c2) (n' := (x6 ++ [Int.tmod (wrap64 (x5 + (rd2 x21 x23))) (y208_0.length : Int)]).length) ?_ T2 (by simp [maxLen]; omega) (by simp; omega) Try.underlying23 (hc := by exact List.map_append.symm) (hn := by exact List.length_map _)
                    refine a_move (v := .c (.own _ _)) ?_
                    refine RA.nil nofun ?_
                    refine AG.region HM ?_
                    refine a_int (u := .int .i64 (wrap64 (x23 + 1))) ?_
                    refine a_move (v := vI _) ?_
                    refine RA.nil nofun ?_
                    exact AGr.canon id (ih1 _ (by omega) _ ⟨by omega, _, _, _, _, _, _, _, _, _, _, H, rfl⟩) ⟨rfl, rfl, rfl, rfl, rfl, rfl, rfl, rfl, rfl, trivial⟩ ⟨rfl, rfl, rfl, trivial⟩ rfl
                  · rw [if_neg hc11] at H
                    cases H
              · rw [if_neg hc9] at H
                cases H
            · rw [if_neg hc8] at H
              cases H
          · rw [if_neg hc7] at H
            refine AG.no rfl (decide_eq_false hc7) ?_
            refine AG.exit ?_
            refine AG.region HM ?_
            refine a_move (v := .c (.own _ _)) ?_
            refine a_move (v := .c (.own _ _)) ?_
            refine a_lit (cs := [_]) (D := [210]) (css := ([x6]).map c23) 212 ?_ N27 T23
            by_cases hc13 : x4.length < 5864062014805
            · rw [if_pos hc13] at H
              refine a_appO (css' := (x4 ++ [x6]).map c23) (n' := (x4 ++ [x6]).length) ?_ T23 (by simp [maxLen]; omega) (by simp; omega) Try.underlying27 (hc := by exact List.map_append.symm) (hn := by exact List.length_map _)
              refine a_move (v := .c (.own _ _)) ?_
              refine RA.nil nofun ?_
              refine AG.region HM ?_
              refine a_int (u := .int .i64 (wrap64 (x16 + 1))) ?_
              refine a_move (v := vI _) ?_
              refine RA.nil nofun ?_
              exact AGr.canon (fun κ => cond (Nat.beq κ 205) 208 (cond (Nat.beq κ 206) 209 (κ))) (ih0 _ (by omega) _ ⟨by omega, _, _, _, _, _, H, rfl⟩) ⟨rfl, rfl, rfl, rfl, trivial⟩ ⟨rfl, rfl, trivial⟩ rfl
            · rw [if_neg hc13] at H
              cases H
      · rw [if_neg hc5] at H
        refine AG.no rfl (decide_eq_false hc5) ?_
        refine AG.exit ?_
        refine AG.seq ?_
        refine AG.region HM ?_
        refine a_move (v := .c (.own _ _)) ?_
        refine a_move (v := .c (.own _ _)) ?_
        refine a_move (v := vI _) ?_
        refine RA.nil nofun ?_
        refine AG.ret ?_
        simp only [Option.some.injEq, Prod.mk.injEq] at H
        obtain ⟨rfl, rfl⟩ := H
        exact RetP.mk (fun κ => cond (Nat.beq κ 100) 206 (κ)) ⟨rfl, rfl, trivial⟩ ⟨rfl, trivial⟩ rfl
  · rw [if_neg hc3] at H
    refine AG.yes rfl (congrArg Bool.not (Bool.eq_false_iff.2 hc3)) ?_
    refine AG.seq ?_
    refine AG.region HM ?_
    refine a_nilO (e := 23) 203 ?_ T23
    refine a_move (v := vI _) ?_
    refine RA.nil nofun ?_
    refine AG.ret ?_
    simp only [Option.some.injEq, Prod.mk.injEq] at H
    obtain ⟨rfl, rfl⟩ := H
    exact RetP.mk (fun κ => cond (Nat.beq κ 100) 203 (κ)) ⟨(ownE rfl (by simp)), rfl, trivial⟩ ⟨rfl, trivial⟩ rfl
/-! ### laws_eqInt64S: function 19 -/
def laws_eqInt64S.l0 : Nat → List Int → List Int → Int → Option (Bool)
  | 0, _, _, _ => none
  | k + 1, x0, x1, x5 => if x5 < (x0.length : Int) then (if 0 ≤ x5 then (if x5 < (x1.length : Int) then (if (rd2 x0 x5) = (rd2 x1 x5) then (laws_eqInt64S.l0 k x0 x1 (wrap64 (x5 + 1))) else (some false)) else (none)) else (none)) else (some true)
def laws_eqInt64S.f (k : Nat) (l0 : List Int) (l1 : List Int) : Option (Bool) := if (l0.length : Int) = (l1.length : Int) then (laws_eqInt64S.l0 k l0 l1 0) else (some false)
set_option maxRecDepth 100000 in
theorem laws_eqInt64S.ok {k : Nat} {l0 : List Int} {l1 : List Int} {r : Bool} (H : laws_eqInt64S.f k l0 l1 = some r) : OkF Try.prog 19 [vR 2 (l0.map c2), vR 2 (l1.map c2)] [] (.c (.d (.v (.bool r)))) [] := by
  unfold laws_eqInt64S.f at H
  refine OkF.of (N := 26) (rs := [4]) (avs := [.c (.d (.v (.bool r)))]) Try.func19 rfl rfl (fun _ _ => results_tmp rfl _ _ _) (by decide) rfl rfl rfl rfl (fun w0 S => ?_)
  refine AG.seq ?_
  refine AG.region HM ?_
  refine a_move (v := vB _) ?_
  refine RA.nil nofun ?_
  refine AG.seq ?_
  refine AG.seq ?_
  refine AG.region HM ?_
  refine a_move (v := vR _ _) ?_
  refine a_lenR ?_ Try.underlying23
  refine a_move (v := vR _ _) ?_
  refine a_lenR ?_ Try.underlying23
  refine a_int (u := .bool (((l0.length : Int) != (l1.length : Int)))) ?_
  refine RA.nil nofun ?_
  by_cases hc1 : (l0.length : Int) = (l1.length : Int)
  · rw [if_pos hc1] at H
    refine AG.no rfl (bne_eq_false_iff_eq.2 hc1) ?_
    refine AG.skip ?_
    refine AG.seq ?_
    refine AG.seq ?_
    refine AG.region HM ?_
    refine a_move (v := vI _) ?_
    refine RA.nil nofun ?_
    refine AG.block ?_
    refine AG.loop ?_
    obtain ⟨K0, hK0, gK0⟩ : ∃ K, k ≤ K ∧ K ≤ k := ⟨k, Nat.le_refl k, Nat.le_refl k⟩
    refine AGr.canon id (AGr.loopI (n := k) (fun k s => k ≤ K0 ∧ ∃ (x0 : List Int) (x1 : List Int) (x5 : Int), laws_eqInt64S.l0 k x0 x1 x5 = some r ∧ s = St.of [(0, vR 2 (x0.map c2)), (1, vR 2 (x1.map c2)), (5, vI x5)] []) ⟨hK0, _, _, _, H, rfl⟩ ?_ ?_) ⟨rfl, rfl, rfl, trivial⟩ trivial rfl
    · rintro _ ⟨_, _, _, _, H, _⟩
      cases H
    · clear H hK0
      rintro k ih0 _ ⟨hK0, x0, x1, x5, H, rfl⟩
      unfold laws_eqInt64S.l0 at H
      refine AG.seq ?_
      refine AG.seq ?_
      refine AG.region HM ?_
      refine a_move (v := vI _) ?_
      refine a_move (v := vR _ _) ?_
      refine a_lenR ?_ Try.underlying23
      refine a_int (u := .bool (decide (x5 < (x0.length : Int)))) ?_
      refine RA.nil nofun ?_
      by_cases hc2 : x5 < (x0.length : Int)
      · rw [if_pos hc2] at H
        refine AG.yes rfl (decide_eq_true hc2) ?_
        refine AG.skip ?_
        refine AG.seq ?_
        refine AG.block ?_
        refine AG.seq ?_
        refine AG.region HM ?_
        refine a_move (v := vR _ _) ?_
        refine a_move (v := vI _) ?_
        by_cases hc3 : 0 ≤ x5
        · rw [if_pos hc3] at H
          refine a_ixR (el := c2 (rd2 x0 x5)) ?_ ⟨hc3, hc2⟩ T2 Try.underlying23 (hel := R2 hc3 hc2)
          refine a_ldR (v := vI _) ?_ T2
          refine a_move (v := vR _ _) ?_
          refine a_move (v := vI _) ?_
          by_cases hc4 : x5 < (x1.length : Int)
          · rw [if_pos hc4] at H
            refine a_ixR (el := c2 (rd2 x1 x5)) ?_ ⟨hc3, hc4⟩ T2 Try.underlying23 (hel := R2 hc3 hc4)
            refine a_ldR (v := vI _) ?_ T2
            refine a_int (u := .bool (((rd2 x0 x5) != (rd2 x1 x5)))) ?_
            refine RA.nil (fun _ => by kernel_rfl) ?_
            by_cases hc5 : (rd2 x0 x5) = (rd2 x1 x5)
            · rw [if_pos hc5] at H
              refine AG.no rfl (bne_eq_false_iff_eq.2 hc5) ?_
              refine AG.skip ?_
              refine AG.region HM ?_
              refine a_move (v := vI _) ?_
              refine a_int (u := .int .i64 (wrap64 (x5 + 1))) ?_
              refine a_move (v := vI _) ?_
              refine RA.nil nofun ?_
              exact AGr.canon id (ih0 _ (by omega) _ ⟨by omega, _, _, _, H, rfl⟩) ⟨rfl, rfl, rfl, trivial⟩ trivial rfl
            · rw [if_neg hc5] at H
              refine AG.yes rfl (bne_iff_ne.2 hc5) ?_
              refine AG.seq ?_
              refine AG.region HM ?_
              refine a_move (v := vB _) ?_
              refine RA.nil nofun ?_
              refine AG.ret ?_
              obtain rfl := Option.some.inj H
              exact RetP.mk id ⟨rfl, trivial⟩ trivial rfl
          · rw [if_neg hc4] at H
            cases H
        · rw [if_neg hc3] at H
          cases H
      · rw [if_neg hc2] at H
        refine AG.no rfl (decide_eq_false hc2) ?_
        refine AG.exit ?_
        refine AG.seq ?_
        refine AG.region HM ?_
        refine a_move (v := vB _) ?_
        refine RA.nil nofun ?_
        refine AG.ret ?_
        obtain rfl := Option.some.inj H
        exact RetP.mk id ⟨rfl, trivial⟩ trivial rfl
  · rw [if_neg hc1] at H
    refine AG.yes rfl (bne_iff_ne.2 hc1) ?_
    refine AG.seq ?_
    refine AG.region HM ?_
    refine a_move (v := vB _) ?_
    refine RA.nil nofun ?_
    refine AG.ret ?_
    obtain rfl := Option.some.inj H
    exact RetP.mk id ⟨rfl, trivial⟩ trivial rfl
/-! ### laws_eqInt64SS: function 10 -/
def laws_eqInt64SS.l0 : Nat → List (List Int) → List (List Int) → Int → Option (Bool)
  | 0, _, _, _ => none
  | k + 1, x0, x1, x5 => if x5 < (x0.length : Int) then (if 0 ≤ x5 then (if x5 < (x1.length : Int) then ((laws_eqInt64S.f k (rd23 x0 x5) (rd23 x1 x5)).bind fun t5 => (if t5 = true then (laws_eqInt64SS.l0 k x0 x1 (wrap64 (x5 + 1))) else (some false))) else (none)) else (none)) else (some true)
def laws_eqInt64SS.f (k : Nat) (l0 : List (List Int)) (l1 : List (List Int)) : Option (Bool) := if (l0.length : Int) = (l1.length : Int) then (laws_eqInt64SS.l0 k l0 l1 0) else (some false)
set_option maxRecDepth 100000 in
theorem laws_eqInt64SS.ok {k : Nat} {l0 : List (List Int)} {l1 : List (List Int)} {r : Bool} (H : laws_eqInt64SS.f k l0 l1 = some r) : OkF Try.prog 10 [vR 23 (l0.map c23), vR 23 (l1.map c23)] [] (.c (.d (.v (.bool r)))) [] := by
  unfold laws_eqInt64SS.f at H
  refine OkF.of (N := 27) (rs := [4]) (avs := [.c (.d (.v (.bool r)))]) Try.func10 rfl rfl (fun _ _ => results_tmp rfl _ _ _) (by decide) rfl rfl rfl rfl (fun w0 S => ?_)
  refine AG.seq ?_
  refine AG.region HM ?_
  refine a_move (v := vB _) ?_
  refine RA.nil nofun ?_
  refine AG.seq ?_
  refine AG.seq ?_
  refine AG.region HM ?_
  refine a_move (v := vR _ _) ?_
  refine a_lenR ?_ Try.underlying27
  refine a_move (v := vR _ _) ?_
  refine a_lenR ?_ Try.underlying27
  refine a_int (u := .bool (((l0.length : Int) != (l1.length : Int)))) ?_
  refine RA.nil nofun ?_
  by_cases hc1 : (l0.length : Int) = (l1.length : Int)
  · rw [if_pos hc1] at H
    refine AG.no rfl (bne_eq_false_iff_eq.2 hc1) ?_
    refine AG.skip ?_
    refine AG.seq ?_
    refine AG.seq ?_
    refine AG.region HM ?_
    refine a_move (v := vI _) ?_
    refine RA.nil nofun ?_
    refine AG.block ?_
    refine AG.loop ?_
    obtain ⟨K0, hK0, gK0⟩ : ∃ K, k ≤ K ∧ K ≤ k := ⟨k, Nat.le_refl k, Nat.le_refl k⟩
    refine AGr.canon id (AGr.loopI (n := k) (fun k s => k ≤ K0 ∧ ∃ (x0 : List (List Int)) (x1 : List (List Int)) (x5 : Int), laws_eqInt64SS.l0 k x0 x1 x5 = some r ∧ s = St.of [(0, vR 23 (x0.map c23)), (1, vR 23 (x1.map c23)), (5, vI x5)] []) ⟨hK0, _, _, _, H, rfl⟩ ?_ ?_) ⟨rfl, rfl, rfl, trivial⟩ trivial rfl
    · rintro _ ⟨_, _, _, _, H, _⟩
      cases H
    · clear H hK0
      rintro k ih0 _ ⟨hK0, x0, x1, x5, H, rfl⟩
      unfold laws_eqInt64SS.l0 at H
      refine AG.seq ?_
      refine AG.seq ?_
      refine AG.region HM ?_
      refine a_move (v := vI _) ?_
      refine a_move (v := vR _ _) ?_
      refine a_lenR ?_ Try.underlying27
      refine a_int (u := .bool (decide (x5 < (x0.length : Int)))) ?_
      refine RA.nil nofun ?_
      by_cases hc2 : x5 < (x0.length : Int)
      · rw [if_pos hc2] at H
        refine AG.yes rfl (decide_eq_true hc2) ?_
        refine AG.skip ?_
        refine AG.seq ?_
        refine AG.block ?_
        refine AG.seq ?_
        refine AG.region HM ?_
        refine a_move (v := vR _ _) ?_
        refine a_move (v := vI _) ?_
        by_cases hc3 : 0 ≤ x5
        · rw [if_pos hc3] at H
          refine a_ixR (el := c23 (rd23 x0 x5)) ?_ ⟨hc3, hc2⟩ T23 Try.underlying27 (hel := R23 hc3 hc2)
          refine a_ldR (v := vR _ _) ?_ T23
          refine a_move (v := vR _ _) ?_
          refine a_move (v := vI _) ?_
          by_cases hc4 : x5 < (x1.length : Int)
          · rw [if_pos hc4] at H
            refine a_ixR (el := c23 (rd23 x1 x5)) ?_ ⟨hc3, hc4⟩ T23 Try.underlying27 (hel := R23 hc3 hc4)
            refine a_ldR (v := vR _ _) ?_ T23
            obtain ⟨t5, e6, H⟩ := bindO H
            refine a_call (v := vB t5) (nk := []) (L := []) ?_ rfl (laws_eqInt64S.ok e6) id (qd (qd qn)) trivial trivial trivial rfl
            refine a_un (u := .bool (!t5)) ?_
            refine RA.nil (fun _ => by kernel_rfl) ?_
            by_cases hc7 : t5 = true
            · rw [if_pos hc7] at H
              refine AG.no rfl (congrArg Bool.not hc7) ?_
              refine AG.skip ?_
              refine AG.region HM ?_
              refine a_move (v := vI _) ?_
              refine a_int (u := .int .i64 (wrap64 (x5 + 1))) ?_
              refine a_move (v := vI _) ?_
              refine RA.nil nofun ?_
              exact AGr.canon id (ih0 _ (by omega) _ ⟨by omega, _, _, _, H, rfl⟩) ⟨rfl, rfl, rfl, trivial⟩ trivial rfl
            · rw [if_neg hc7] at H
              refine AG.yes rfl (congrArg Bool.not (Bool.eq_false_iff.2 hc7)) ?_
              refine AG.seq ?_
              refine AG.region HM ?_
              refine a_move (v := vB _) ?_
              refine RA.nil nofun ?_
              refine AG.ret ?_
              obtain rfl := Option.some.inj H
              exact RetP.mk id ⟨rfl, trivial⟩ trivial rfl
          · rw [if_neg hc4] at H
            cases H
        · rw [if_neg hc3] at H
          cases H
      · rw [if_neg hc2] at H
        refine AG.no rfl (decide_eq_false hc2) ?_
        refine AG.exit ?_
        refine AG.seq ?_
        refine AG.region HM ?_
        refine a_move (v := vB _) ?_
        refine RA.nil nofun ?_
        refine AG.ret ?_
        obtain rfl := Option.some.inj H
        exact RetP.mk id ⟨rfl, trivial⟩ trivial rfl
  · rw [if_neg hc1] at H
    refine AG.yes rfl (bne_iff_ne.2 hc1) ?_
    refine AG.seq ?_
    refine AG.region HM ?_
    refine a_move (v := vB _) ?_
    refine RA.nil nofun ?_
    refine AG.ret ?_
    obtain rfl := Option.some.inj H
    exact RetP.mk id ⟨rfl, trivial⟩ trivial rfl
/-! ### laws_eqVeneer: function 59 -/
def laws_eqVeneer.f (a0_0 : ByteArray) (a0_1 : Int) (a0_2 : Int) (a1_0 : ByteArray) (a1_1 : Int) (a1_2 : Int) : Option (Bool) := if a0_0.toList = a1_0.toList then (if a0_1 = a1_1 then (if a0_2 = a1_2 then (some true) else (some false)) else (some false)) else (some false)
set_option maxRecDepth 100000 in
theorem laws_eqVeneer.ok {a0_0 : ByteArray} {a0_1 : Int} {a0_2 : Int} {a1_0 : ByteArray} {a1_1 : Int} {a1_2 : Int} {r : Bool} (H : laws_eqVeneer.f a0_0 a0_1 a0_2 a1_0 a1_1 a1_2 = some r) : OkF Try.prog 59 [.agg [.d (.v (.string a0_0)), .d (.v (.int .i64 a0_1)), .d (.v (.int .i64 a0_2))], .agg [.d (.v (.string a1_0)), .d (.v (.int .i64 a1_1)), .d (.v (.int .i64 a1_2))]] [] (.c (.d (.v (.bool r)))) [] := by
  unfold laws_eqVeneer.f at H
  refine OkF.of (N := 20) (rs := [4]) (avs := [.c (.d (.v (.bool r)))]) Try.func59 rfl rfl (fun _ _ => results_tmp rfl _ _ _) (by decide) rfl rfl rfl rfl (fun w0 S => ?_)
  refine AG.seq ?_
  refine AG.region HM ?_
  refine a_box 200 ?_
  refine a_box 201 ?_
  refine a_move (v := vB _) ?_
  refine RA.nil nofun ?_
  refine AG.seq ?_
  refine AG.seq ?_
  refine AG.region HM ?_
  refine a_faB (q := 0) ?_ D90_0
  refine a_ldB (v := vS _) ?_ T9
  refine a_faB (q := 0) ?_ D90_0
  refine a_ldB (v := vS _) ?_ T9
  refine a_bin (u := .bool (!(a0_0.toList == a1_0.toList))) ?_
  refine RA.nil nofun ?_
  by_cases hc1 : a0_0.toList = a1_0.toList
  · rw [if_pos hc1] at H
    refine AG.no rfl (by rw [beq_iff_eq.2 hc1]; rfl) ?_
    refine AG.skip ?_
    refine AG.seq ?_
    refine AG.seq ?_
    refine AG.region HM ?_
    refine a_faB (q := 1) ?_ D90_1
    refine a_ldB (v := vI _) ?_ T2
    refine a_faB (q := 1) ?_ D90_1
    refine a_ldB (v := vI _) ?_ T2
    refine a_int (u := .bool ((a0_1 != a1_1))) ?_
    refine RA.nil nofun ?_
    by_cases hc2 : a0_1 = a1_1
    · rw [if_pos hc2] at H
      refine AG.no rfl (bne_eq_false_iff_eq.2 hc2) ?_
      refine AG.skip ?_
      refine AG.seq ?_
      refine AG.seq ?_
      refine AG.region HM ?_
      refine a_faB (q := 2) ?_ D90_2
      refine a_ldB (v := vI _) ?_ T2
      refine a_faB (q := 2) ?_ D90_2
      refine a_ldB (v := vI _) ?_ T2
      refine a_int (u := .bool ((a0_2 != a1_2))) ?_
      refine RA.nil nofun ?_
      by_cases hc3 : a0_2 = a1_2
      · rw [if_pos hc3] at H
        refine AG.no rfl (bne_eq_false_iff_eq.2 hc3) ?_
        refine AG.skip ?_
        refine AG.seq ?_
        refine AG.region HM ?_
        refine a_move (v := vB _) ?_
        refine RA.nil nofun ?_
        refine AG.ret ?_
        obtain rfl := Option.some.inj H
        exact RetP.mk id ⟨rfl, trivial⟩ trivial rfl
      · rw [if_neg hc3] at H
        refine AG.yes rfl (bne_iff_ne.2 hc3) ?_
        refine AG.seq ?_
        refine AG.region HM ?_
        refine a_move (v := vB _) ?_
        refine RA.nil nofun ?_
        refine AG.ret ?_
        obtain rfl := Option.some.inj H
        exact RetP.mk id ⟨rfl, trivial⟩ trivial rfl
    · rw [if_neg hc2] at H
      refine AG.yes rfl (bne_iff_ne.2 hc2) ?_
      refine AG.seq ?_
      refine AG.region HM ?_
      refine a_move (v := vB _) ?_
      refine RA.nil nofun ?_
      refine AG.ret ?_
      obtain rfl := Option.some.inj H
      exact RetP.mk id ⟨rfl, trivial⟩ trivial rfl
  · rw [if_neg hc1] at H
    refine AG.yes rfl (by rw [beq_eq_false_iff_ne.2 hc1]; rfl) ?_
    refine AG.seq ?_
    refine AG.region HM ?_
    refine a_move (v := vB _) ?_
    refine RA.nil nofun ?_
    refine AG.ret ?_
    obtain rfl := Option.some.inj H
    exact RetP.mk id ⟨rfl, trivial⟩ trivial rfl
/-! ### laws_eqVeneerS: function 33 -/
def laws_eqVeneerS.l0 : Nat → List S86 → List S86 → Int → Option (Bool)
  | 0, _, _, _ => none
  | k + 1, x0, x1, x5 => if x5 < (x0.length : Int) then (if 0 ≤ x5 then (if x5 < (x1.length : Int) then ((laws_eqVeneer.f ((rd86 x0 x5).f0) ((rd86 x0 x5).f1) ((rd86 x0 x5).f2) ((rd86 x1 x5).f0) ((rd86 x1 x5).f1) ((rd86 x1 x5).f2)).bind fun t5 => (if t5 = true then (laws_eqVeneerS.l0 k x0 x1 (wrap64 (x5 + 1))) else (some false))) else (none)) else (none)) else (some true)
def laws_eqVeneerS.f (k : Nat) (l0 : List S86) (l1 : List S86) : Option (Bool) := if (l0.length : Int) = (l1.length : Int) then (laws_eqVeneerS.l0 k l0 l1 0) else (some false)
set_option maxRecDepth 100000 in
theorem laws_eqVeneerS.ok {k : Nat} {l0 : List S86} {l1 : List S86} {r : Bool} (H : laws_eqVeneerS.f k l0 l1 = some r) : OkF Try.prog 33 [vR 90 (l0.map c86), vR 90 (l1.map c86)] [] (.c (.d (.v (.bool r)))) [] := by
  unfold laws_eqVeneerS.f at H
  refine OkF.of (N := 27) (rs := [4]) (avs := [.c (.d (.v (.bool r)))]) Try.func33 rfl rfl (fun _ _ => results_tmp rfl _ _ _) (by decide) rfl rfl rfl rfl (fun w0 S => ?_)
  refine AG.seq ?_
  refine AG.region HM ?_
  refine a_move (v := vB _) ?_
  refine RA.nil nofun ?_
  refine AG.seq ?_
  refine AG.seq ?_
  refine AG.region HM ?_
  refine a_move (v := vR _ _) ?_
  refine a_lenR ?_ Try.underlying30
  refine a_move (v := vR _ _) ?_
  refine a_lenR ?_ Try.underlying30
  refine a_int (u := .bool (((l0.length : Int) != (l1.length : Int)))) ?_
  refine RA.nil nofun ?_
  by_cases hc1 : (l0.length : Int) = (l1.length : Int)
  · rw [if_pos hc1] at H
    refine AG.no rfl (bne_eq_false_iff_eq.2 hc1) ?_
    refine AG.skip ?_
    refine AG.seq ?_
    refine AG.seq ?_
    refine AG.region HM ?_
    refine a_move (v := vI _) ?_
    refine RA.nil nofun ?_
    refine AG.block ?_
    refine AG.loop ?_
    obtain ⟨K0, hK0, gK0⟩ : ∃ K, k ≤ K ∧ K ≤ k := ⟨k, Nat.le_refl k, Nat.le_refl k⟩
    refine AGr.canon id (AGr.loopI (n := k) (fun k s => k ≤ K0 ∧ ∃ (x0 : List S86) (x1 : List S86) (x5 : Int), laws_eqVeneerS.l0 k x0 x1 x5 = some r ∧ s = St.of [(0, vR 90 (x0.map c86)), (1, vR 90 (x1.map c86)), (5, vI x5)] []) ⟨hK0, _, _, _, H, rfl⟩ ?_ ?_) ⟨rfl, rfl, rfl, trivial⟩ trivial rfl
    · rintro _ ⟨_, _, _, _, H, _⟩
      cases H
    · clear H hK0
      rintro k ih0 _ ⟨hK0, x0, x1, x5, H, rfl⟩
      unfold laws_eqVeneerS.l0 at H
      refine AG.seq ?_
      refine AG.seq ?_
      refine AG.region HM ?_
      refine a_move (v := vI _) ?_
      refine a_move (v := vR _ _) ?_
      refine a_lenR ?_ Try.underlying30
      refine a_int (u := .bool (decide (x5 < (x0.length : Int)))) ?_
      refine RA.nil nofun ?_
      by_cases hc2 : x5 < (x0.length : Int)
      · rw [if_pos hc2] at H
        refine AG.yes rfl (decide_eq_true hc2) ?_
        refine AG.skip ?_
        refine AG.seq ?_
        refine AG.block ?_
        refine AG.seq ?_
        refine AG.region HM ?_
        refine a_move (v := vR _ _) ?_
        refine a_move (v := vI _) ?_
        by_cases hc3 : 0 ≤ x5
        · rw [if_pos hc3] at H
          refine a_ixR (el := c86 (rd86 x0 x5)) ?_ ⟨hc3, hc2⟩ T90 Try.underlying30 (hel := R86 hc3 hc2)
          refine a_ldR (v := .agg [_, _, _]) ?_ T90
          refine a_move (v := vR _ _) ?_
          refine a_move (v := vI _) ?_
          by_cases hc4 : x5 < (x1.length : Int)
          · rw [if_pos hc4] at H
            refine a_ixR (el := c86 (rd86 x1 x5)) ?_ ⟨hc3, hc4⟩ T90 Try.underlying30 (hel := R86 hc3 hc4)
            refine a_ldR (v := .agg [_, _, _]) ?_ T90
            obtain ⟨t5, e6, H⟩ := bindO H
            refine a_call (v := vB t5) (nk := []) (L := []) ?_ rfl (laws_eqVeneer.ok e6) id (qg (qg qn)) trivial trivial trivial rfl
            refine a_un (u := .bool (!t5)) ?_
            refine RA.nil (fun _ => by kernel_rfl) ?_
            by_cases hc7 : t5 = true
            · rw [if_pos hc7] at H
              refine AG.no rfl (congrArg Bool.not hc7) ?_
              refine AG.skip ?_
              refine AG.region HM ?_
              refine a_move (v := vI _) ?_
              refine a_int (u := .int .i64 (wrap64 (x5 + 1))) ?_
              refine a_move (v := vI _) ?_
              refine RA.nil nofun ?_
              exact AGr.canon id (ih0 _ (by omega) _ ⟨by omega, _, _, _, H, rfl⟩) ⟨rfl, rfl, rfl, trivial⟩ trivial rfl
            · rw [if_neg hc7] at H
              refine AG.yes rfl (congrArg Bool.not (Bool.eq_false_iff.2 hc7)) ?_
              refine AG.seq ?_
              refine AG.region HM ?_
              refine a_move (v := vB _) ?_
              refine RA.nil nofun ?_
              refine AG.ret ?_
              obtain rfl := Option.some.inj H
              exact RetP.mk id ⟨rfl, trivial⟩ trivial rfl
          · rw [if_neg hc4] at H
            cases H
        · rw [if_neg hc3] at H
          cases H
      · rw [if_neg hc2] at H
        refine AG.no rfl (decide_eq_false hc2) ?_
        refine AG.exit ?_
        refine AG.seq ?_
        refine AG.region HM ?_
        refine a_move (v := vB _) ?_
        refine RA.nil nofun ?_
        refine AG.ret ?_
        obtain rfl := Option.some.inj H
        exact RetP.mk id ⟨rfl, trivial⟩ trivial rfl
  · rw [if_neg hc1] at H
    refine AG.yes rfl (bne_iff_ne.2 hc1) ?_
    refine AG.seq ?_
    refine AG.region HM ?_
    refine a_move (v := vB _) ?_
    refine RA.nil nofun ?_
    refine AG.ret ?_
    obtain rfl := Option.some.inj H
    exact RetP.mk id ⟨rfl, trivial⟩ trivial rfl
/-! ### laws_eqPacket: function 11 -/
def laws_eqPacket.f (k : Nat) (l0_0 : List S86) (l0_1 : List Int) (l1_0 : List S86) (l1_1 : List Int) : Option (Bool) := (laws_eqVeneerS.f k l0_0 l1_0).bind fun t1 => (if t1 = true then ((laws_eqInt64S.f k l0_1 l1_1).bind fun t4 => (if t4 = true then (some true) else (some false))) else (some false))
set_option maxRecDepth 100000 in
theorem laws_eqPacket.ok {k : Nat} {l0_0 : List S86} {l0_1 : List Int} {l1_0 : List S86} {l1_1 : List Int} {r : Bool} (H : laws_eqPacket.f k l0_0 l0_1 l1_0 l1_1 = some r) : OkF Try.prog 11 [.agg [.d (.row 90 (l0_0.map c86)), .d (.row 2 (l0_1.map c2))], .agg [.d (.row 90 (l1_0.map c86)), .d (.row 2 (l1_1.map c2))]] [] (.c (.d (.v (.bool r)))) [] := by
  unfold laws_eqPacket.f at H
  refine OkF.of (N := 17) (rs := [4]) (avs := [.c (.d (.v (.bool r)))]) Try.func11 rfl rfl (fun _ _ => results_tmp rfl _ _ _) (by decide) rfl rfl rfl rfl (fun w0 S => ?_)
  refine AG.seq ?_
  refine AG.region HM ?_
  refine a_box 200 ?_
  refine a_box 201 ?_
  refine a_move (v := vB _) ?_
  refine RA.nil nofun ?_
  refine AG.seq ?_
  refine AG.seq ?_
  refine AG.region HM ?_
  refine a_faB (q := 0) ?_ D32_0
  refine a_ldB (v := vR _ _) ?_ T30
  refine a_faB (q := 0) ?_ D32_0
  refine a_ldB (v := vR _ _) ?_ T30
  obtain ⟨t1, e2, H⟩ := bindO H
  refine a_call (v := vB t1) (nk := []) (L := []) ?_ rfl (laws_eqVeneerS.ok e2) id (qd (qd qn)) trivial trivial trivial rfl
  refine a_un (u := .bool (!t1)) ?_
  refine RA.nil nofun ?_
  by_cases hc3 : t1 = true
  · rw [if_pos hc3] at H
    refine AG.no rfl (congrArg Bool.not hc3) ?_
    refine AG.skip ?_
    refine AG.seq ?_
    refine AG.seq ?_
    refine AG.region HM ?_
    refine a_faB (q := 1) ?_ D32_1
    refine a_ldB (v := vR _ _) ?_ T23
    refine a_faB (q := 1) ?_ D32_1
    refine a_ldB (v := vR _ _) ?_ T23
    obtain ⟨t4, e5, H⟩ := bindO H
    refine a_call (v := vB t4) (nk := []) (L := []) ?_ rfl (laws_eqInt64S.ok e5) id (qd (qd qn)) trivial trivial trivial rfl
    refine a_un (u := .bool (!t4)) ?_
    refine RA.nil nofun ?_
    by_cases hc6 : t4 = true
    · rw [if_pos hc6] at H
      refine AG.no rfl (congrArg Bool.not hc6) ?_
      refine AG.skip ?_
      refine AG.seq ?_
      refine AG.region HM ?_
      refine a_move (v := vB _) ?_
      refine RA.nil nofun ?_
      refine AG.ret ?_
      obtain rfl := Option.some.inj H
      exact RetP.mk id ⟨rfl, trivial⟩ trivial rfl
    · rw [if_neg hc6] at H
      refine AG.yes rfl (congrArg Bool.not (Bool.eq_false_iff.2 hc6)) ?_
      refine AG.seq ?_
      refine AG.region HM ?_
      refine a_move (v := vB _) ?_
      refine RA.nil nofun ?_
      refine AG.ret ?_
      obtain rfl := Option.some.inj H
      exact RetP.mk id ⟨rfl, trivial⟩ trivial rfl
  · rw [if_neg hc3] at H
    refine AG.yes rfl (congrArg Bool.not (Bool.eq_false_iff.2 hc3)) ?_
    refine AG.seq ?_
    refine AG.region HM ?_
    refine a_move (v := vB _) ?_
    refine RA.nil nofun ?_
    refine AG.ret ?_
    obtain rfl := Option.some.inj H
    exact RetP.mk id ⟨rfl, trivial⟩ trivial rfl
/-! ### laws_markInt64S: function 22 -/
def laws_markInt64S.l0 : Nat → List Int → Int → Int → Option (Int × (List Int))
  | 0, _, _, _ => none
  | k + 1, x0, x1, x5 => if x5 < (x0.length : Int) then (if 0 ≤ x5 then (laws_markInt64S.l0 k (x0.set (x5 : Int).toNat x1) (wrap64 (x1 + 1)) (wrap64 (x5 + 1))) else (none)) else (some (x1, x0))
def laws_markInt64S.f (k : Nat) (l0 : List Int) (a1 : Int) : Option (Int × (List Int)) := laws_markInt64S.l0 k l0 a1 0
set_option maxRecDepth 100000 in
theorem laws_markInt64S.ok {k : Nat} {l0 : List Int} {a1 : Int} {r0 : Int} {r1 : List Int} (H : laws_markInt64S.f k l0 a1 = some (r0, r1)) : OkF Try.prog 22 [.c (.own 0 l0.length), vI a1] [(0, .row 2 (l0.map c2))] (.c (.d (.v (.int .i64 r0)))) [(0, .row 2 (r1.map c2))] := by
  unfold laws_markInt64S.f at H
  refine OkF.of (N := 19) (rs := [4]) (avs := [.c (.d (.v (.int .i64 r0)))]) Try.func22 rfl rfl (fun _ _ => results_tmp rfl _ _ _) (by decide) rfl rfl rfl rfl (fun w0 S => ?_)
  refine AG.seq ?_
  refine AG.region HM ?_
  refine a_move (v := vI _) ?_
  refine RA.nil nofun ?_
  refine AG.seq ?_
  refine AG.seq ?_
  refine AG.region HM ?_
  refine a_move (v := vI _) ?_
  refine RA.nil nofun ?_
  refine AG.block ?_
  refine AG.loop ?_
  obtain ⟨K0, hK0, gK0⟩ : ∃ K, k ≤ K ∧ K ≤ k := ⟨k, Nat.le_refl k, Nat.le_refl k⟩
  refine AGr.canon id (AGr.loopI (n := k) (fun k s => k ≤ K0 ∧ ∃ (x0 : List Int) (x1 : Int) (x5 : Int), laws_markInt64S.l0 k x0 x1 x5 = some (r0, r1) ∧ s = St.of [(0, .c (.own 0 x0.length)), (1, vI x1), (5, vI x5)] [(0, .row 2 (x0.map c2))]) ⟨hK0, _, _, _, H, rfl⟩ ?_ ?_) ⟨rfl, rfl, rfl, trivial⟩ ⟨rfl, trivial⟩ rfl
  · rintro _ ⟨_, _, _, _, H, _⟩
    cases H
  · clear H hK0
    rintro k ih0 _ ⟨hK0, x0, x1, x5, H, rfl⟩
    unfold laws_markInt64S.l0 at H
    refine AG.seq ?_
    refine AG.seq ?_
    refine AG.region HM ?_
    refine a_move (v := vI _) ?_
    refine a_move (v := .c (.own _ _)) ?_
    refine a_lenO ?_ Try.underlying23
    refine a_int (u := .bool (decide (x5 < (x0.length : Int)))) ?_
    refine RA.nil nofun ?_
    by_cases hc1 : x5 < (x0.length : Int)
    · rw [if_pos hc1] at H
      refine AG.yes rfl (decide_eq_true hc1) ?_
      refine AG.skip ?_
      refine AG.seq ?_
      refine AG.block ?_
      refine AG.seq ?_
      refine AG.region HM ?_
      refine a_move (v := .c (.own _ _)) ?_
      refine a_move (v := vI _) ?_
      refine a_move (v := vI _) ?_
      by_cases hc2 : 0 ≤ x5
      · rw [if_pos hc2] at H
        refine a_ixO ?_ ⟨hc2, hc1⟩ T2 Try.underlying23
        refine a_stE (D := []) (css' := (x0.set (x5 : Int).toNat x1).map c2) ?_ (G2 hc2 hc1) T2 (hcss := by exact set_map rfl)
        refine RA.nil nofun ?_
        refine AG.region HM ?_
        refine a_move (v := vI _) ?_
        refine a_int (u := .int .i64 (wrap64 (x1 + 1))) ?_
        refine a_move (v := vI _) ?_
        refine RA.nil nofun ?_
        refine AG.region HM ?_
        refine a_move (v := vI _) ?_
        refine a_int (u := .int .i64 (wrap64 (x5 + 1))) ?_
        refine a_move (v := vI _) ?_
        refine RA.nil nofun ?_
        exact AGr.canon id (ih0 _ (by omega) _ ⟨by omega, _, _, _, H, rfl⟩) ⟨(ownE rfl (by simp)), rfl, rfl, trivial⟩ ⟨rfl, trivial⟩ rfl
      · rw [if_neg hc2] at H
        cases H
    · rw [if_neg hc1] at H
      refine AG.no rfl (decide_eq_false hc1) ?_
      refine AG.exit ?_
      refine AG.seq ?_
      refine AG.region HM ?_
      refine a_move (v := vI _) ?_
      refine a_move (v := vI _) ?_
      refine RA.nil nofun ?_
      refine AG.ret ?_
      simp only [Option.some.injEq, Prod.mk.injEq] at H
      obtain ⟨rfl, rfl⟩ := H
      exact RetP.mk (fun κ => cond (Nat.beq κ 0) 0 (κ)) ⟨rfl, trivial⟩ ⟨rfl, trivial⟩ rfl
/-! ### laws_markText: function 60 -/
def laws_markText.l0 : Nat → Int → ByteArray → Option (ByteArray)
  | 0, _, _ => none
  | k + 1, x0, x3 => if x0 > 0 then ((some ([(wrap64 (48 + (Int.tmod x0 10))) % 256] : List Int)).bind fun y3 => (if (bs y3).size + x3.size ≤ 9223372036854775807 then (laws_markText.l0 k (wrap64 (Int.tdiv x0 10)) ((bs y3) ++ x3)) else (none))) else (if (⟨#[109]⟩ : ByteArray).size + x3.size ≤ 9223372036854775807 then (some ((⟨#[109]⟩ : ByteArray) ++ x3)) else (none))
def laws_markText.f (k : Nat) (a0 : Int) : Option (ByteArray) := if a0 ≤ 0 then (some (⟨#[109, 48]⟩ : ByteArray)) else (laws_markText.l0 k a0 (⟨#[]⟩ : ByteArray))
set_option maxRecDepth 100000 in
theorem laws_markText.ok {k : Nat} {a0 : Int} {r : ByteArray} (H : laws_markText.f k a0 = some r) : OkF Try.prog 60 [vI a0] [] (.c (.d (.v (.string r)))) [] := by
  unfold laws_markText.f at H
  refine OkF.of (N := 20) (rs := [2]) (avs := [.c (.d (.v (.string r)))]) Try.func60 rfl rfl (fun _ _ => results_tmp rfl _ _ _) (by decide) rfl rfl rfl rfl (fun w0 S => ?_)
  refine AG.seq ?_
  refine AG.region HM ?_
  refine a_move (v := vS _) ?_
  refine RA.nil nofun ?_
  refine AG.seq ?_
  refine AG.seq ?_
  refine AG.region HM ?_
  refine a_move (v := vI _) ?_
  refine a_int (u := .bool (decide (a0 ≤ 0))) ?_
  refine RA.nil nofun ?_
  by_cases hc1 : a0 ≤ 0
  · rw [if_pos hc1] at H
    refine AG.yes rfl (decide_eq_true hc1) ?_
    refine AG.seq ?_
    refine AG.region HM ?_
    refine a_move (v := vS _) ?_
    refine RA.nil nofun ?_
    refine AG.ret ?_
    obtain rfl := Option.some.inj H
    exact RetP.mk id ⟨rfl, trivial⟩ trivial rfl
  · rw [if_neg hc1] at H
    refine AG.no rfl (decide_eq_false hc1) ?_
    refine AG.skip ?_
    refine AG.seq ?_
    refine AG.region HM ?_
    refine a_move (v := vS _) ?_
    refine RA.nil nofun ?_
    refine AG.seq ?_
    refine AG.block ?_
    refine AG.loop ?_
    obtain ⟨K0, hK0, gK0⟩ : ∃ K, k ≤ K ∧ K ≤ k := ⟨k, Nat.le_refl k, Nat.le_refl k⟩
    refine AGr.canon id (AGr.loopI (n := k) (fun k s => k ≤ K0 ∧ ∃ (x0 : Int) (x3 : ByteArray), laws_markText.l0 k x0 x3 = some r ∧ s = St.of [(0, vI x0), (3, vS x3)] []) ⟨hK0, _, _, H, rfl⟩ ?_ ?_) ⟨rfl, rfl, trivial⟩ trivial rfl
    · rintro _ ⟨_, _, _, H, _⟩
      cases H
    · clear H hK0
      rintro k ih0 _ ⟨hK0, x0, x3, H, rfl⟩
      unfold laws_markText.l0 at H
      refine AG.seq ?_
      refine AG.seq ?_
      refine AG.region HM ?_
      refine a_move (v := vI _) ?_
      refine a_int (u := .bool (decide (x0 > 0))) ?_
      refine RA.nil nofun ?_
      by_cases hc2 : x0 > 0
      · rw [if_pos hc2] at H
        refine AG.yes rfl (decide_eq_true hc2) ?_
        refine AG.skip ?_
        refine AG.block ?_
        refine AG.seq ?_
        refine AG.region HM ?_
        refine a_move (v := vI _) ?_
        refine a_rem (r := Int.tmod x0 10) ?_ (show ¬ (10 : Int) = 0 from by decide)
        refine a_int (u := .int .i64 (wrap64 (48 + (Int.tmod x0 10)))) ?_
        refine a_conv (j := (wrap64 (48 + (Int.tmod x0 10))) % 256) ?_ Try.underlying3 Try.underlying5
        obtain ⟨y3, ey3, H⟩ := bindO H
        have ey3 := Option.some.inj ey3
        refine a_lit (cs := [_]) (D := []) (css := y3.map c5) 200 ?_ N130 T5 (hcss := by rw [← ey3]; rfl)
        refine a_b2s y3 ?_ Try.underlying130 Try.underlying5 Try.underlying9
        refine a_move (v := vS _) ?_
        by_cases hc4 : (bs y3).size + x3.size ≤ 9223372036854775807
        · rw [if_pos hc4] at H
          refine a_bin (u := .string ((bs y3) ++ x3)) ?_ (hp := by exact hc4)
          refine a_move (v := vS _) ?_
          refine RA.nil nofun ?_
          refine AG.region HM ?_
          refine a_move (v := vI _) ?_
          refine a_quo (r := wrap64 (Int.tdiv x0 10)) ?_ (show ¬ (10 : Int) = 0 from by decide)
          refine a_move (v := vI _) ?_
          refine RA.nil nofun ?_
          exact AGr.canon id (ih0 _ (by omega) _ ⟨by omega, _, _, H, rfl⟩) ⟨rfl, rfl, trivial⟩ trivial rfl
        · rw [if_neg hc4] at H
          cases H
      · rw [if_neg hc2] at H
        refine AG.no rfl (decide_eq_false hc2) ?_
        refine AG.exit ?_
        refine AG.seq ?_
        refine AG.region HM ?_
        refine a_move (v := vS _) ?_
        by_cases hc5 : (⟨#[109]⟩ : ByteArray).size + x3.size ≤ 9223372036854775807
        · rw [if_pos hc5] at H
          refine a_bin (u := .string ((⟨#[109]⟩ : ByteArray) ++ x3)) ?_ (hp := by exact hc5)
          refine a_move (v := vS _) ?_
          refine RA.nil nofun ?_
          refine AG.ret ?_
          obtain rfl := Option.some.inj H
          exact RetP.mk id ⟨rfl, trivial⟩ trivial rfl
        · rw [if_neg hc5] at H
          cases H
/-! ### laws_markVeneerS: function 34 -/
def laws_markVeneerS.l0 : Nat → List S86 → Int → Int → Option (Int × (List S86))
  | 0, _, _, _ => none
  | k + 1, x0, x1, x5 => if x5 < (x0.length : Int) then ((laws_markText.f k x1).bind fun t2 => (if 0 ≤ x5 then ((some (x0.set (x5 : Int).toNat (⟨t2, (rd86 x0 x5).f1, (rd86 x0 x5).f2⟩ : S86) : List S86)).bind fun y5 => ((some (y5.set (x5 : Int).toNat (⟨(rd86 y5 x5).f0, wrap64 (x1 + 1), (rd86 y5 x5).f2⟩ : S86) : List S86)).bind fun y6 => (laws_markVeneerS.l0 k (y6.set (x5 : Int).toNat (⟨(rd86 y6 x5).f0, (rd86 y6 x5).f1, wrap64 ((wrap64 (x1 + 1)) + 1)⟩ : S86)) (wrap64 ((wrap64 ((wrap64 (x1 + 1)) + 1)) + 1)) (wrap64 (x5 + 1))))) else (none))) else (some (x1, x0))
def laws_markVeneerS.f (k : Nat) (l0 : List S86) (a1 : Int) : Option (Int × (List S86)) := laws_markVeneerS.l0 k l0 a1 0
set_option maxRecDepth 100000 in
theorem laws_markVeneerS.ok {k : Nat} {l0 : List S86} {a1 : Int} {r0 : Int} {r1 : List S86} (H : laws_markVeneerS.f k l0 a1 = some (r0, r1)) : OkF Try.prog 34 [.c (.own 0 l0.length), vI a1] [(0, .row 90 (l0.map c86))] (.c (.d (.v (.int .i64 r0)))) [(0, .row 90 (r1.map c86))] := by
  unfold laws_markVeneerS.f at H
  refine OkF.of (N := 35) (rs := [4]) (avs := [.c (.d (.v (.int .i64 r0)))]) Try.func34 rfl rfl (fun _ _ => results_tmp rfl _ _ _) (by decide) rfl rfl rfl rfl (fun w0 S => ?_)
  refine AG.seq ?_
  refine AG.region HM ?_
  refine a_move (v := vI _) ?_
  refine RA.nil nofun ?_
  refine AG.seq ?_
  refine AG.seq ?_
  refine AG.region HM ?_
  refine a_move (v := vI _) ?_
  refine RA.nil nofun ?_
  refine AG.block ?_
  refine AG.loop ?_
  obtain ⟨K0, hK0, gK0⟩ : ∃ K, k ≤ K ∧ K ≤ k := ⟨k, Nat.le_refl k, Nat.le_refl k⟩
  refine AGr.canon id (AGr.loopI (n := k) (fun k s => k ≤ K0 ∧ ∃ (x0 : List S86) (x1 : Int) (x5 : Int), laws_markVeneerS.l0 k x0 x1 x5 = some (r0, r1) ∧ s = St.of [(0, .c (.own 0 x0.length)), (1, vI x1), (5, vI x5)] [(0, .row 90 (x0.map c86))]) ⟨hK0, _, _, _, H, rfl⟩ ?_ ?_) ⟨rfl, rfl, rfl, trivial⟩ ⟨rfl, trivial⟩ rfl
  · rintro _ ⟨_, _, _, _, H, _⟩
    cases H
  · clear H hK0
    rintro k ih0 _ ⟨hK0, x0, x1, x5, H, rfl⟩
    unfold laws_markVeneerS.l0 at H
    refine AG.seq ?_
    refine AG.seq ?_
    refine AG.region HM ?_
    refine a_move (v := vI _) ?_
    refine a_move (v := .c (.own _ _)) ?_
    refine a_lenO ?_ Try.underlying30
    refine a_int (u := .bool (decide (x5 < (x0.length : Int)))) ?_
    refine RA.nil nofun ?_
    by_cases hc1 : x5 < (x0.length : Int)
    · rw [if_pos hc1] at H
      refine AG.yes rfl (decide_eq_true hc1) ?_
      refine AG.skip ?_
      refine AG.seq ?_
      refine AG.block ?_
      refine AG.seq ?_
      refine AG.region HM ?_
      refine a_move (v := .c (.own _ _)) ?_
      refine a_move (v := vI _) ?_
      refine a_move (v := vI _) ?_
      obtain ⟨t2, e3, H⟩ := bindO H
      refine a_call (v := vS t2) (nk := []) (L := []) ?_ rfl (laws_markText.ok e3) id (qd qn) trivial trivial trivial rfl
      by_cases hc4 : 0 ≤ x5
      · rw [if_pos hc4] at H
        refine a_ixO ?_ ⟨hc4, hc1⟩ T90 Try.underlying30
        refine a_faE (q := 0) ?_ D90_0
        obtain ⟨y5, ey5, H⟩ := bindO H
        have ey5 := Option.some.inj ey5
        refine a_stE (D := []) (css' := y5.map c86) ?_ (G86 hc4 hc1) T9 (hcss := by rw [← ey5]; exact set_map rfl)
        refine RA.nil nofun ?_
        refine AG.seq ?_
        refine AG.region HM ?_
        refine a_move (v := vI _) ?_
        refine a_int (u := .int .i64 (wrap64 (x1 + 1))) ?_
        refine a_move (v := vI _) ?_
        refine RA.nil nofun ?_
        refine AG.seq ?_
        refine AG.region HM ?_
        refine a_move (v := .c (.own _ _)) ?_
        refine a_move (v := vI _) ?_
        refine a_move (v := vI _) ?_
        refine a_ixO ?_ ⟨hc4, hc1⟩ T90 Try.underlying30
        refine a_faE (q := 1) ?_ D90_1
        obtain ⟨y6, ey6, H⟩ := bindO H
        have ey6 := Option.some.inj ey6
        refine a_stE (D := []) (css' := y6.map c86) ?_ (G86 (l := y5) hc4 (by rw [← ey5]; simpa using hc1)) T2 (hcss := by rw [← ey6]; exact set_map rfl)
        refine RA.nil nofun ?_
        refine AG.seq ?_
        refine AG.region HM ?_
        refine a_move (v := vI _) ?_
        refine a_int (u := .int .i64 (wrap64 ((wrap64 (x1 + 1)) + 1))) ?_
        refine a_move (v := vI _) ?_
        refine RA.nil nofun ?_
        refine AG.seq ?_
        refine AG.region HM ?_
        refine a_move (v := .c (.own _ _)) ?_
        refine a_move (v := vI _) ?_
        refine a_move (v := vI _) ?_
        refine a_ixO ?_ ⟨hc4, hc1⟩ T90 Try.underlying30
        refine a_faE (q := 2) ?_ D90_2
        refine a_stE (D := []) (css' := (y6.set (x5 : Int).toNat (⟨(rd86 y6 x5).f0, (rd86 y6 x5).f1, wrap64 ((wrap64 (x1 + 1)) + 1)⟩ : S86)).map c86) ?_ (G86 (l := y6) hc4 (by rw [← ey6]; rw [← ey5]; simpa using hc1)) T2 (hcss := by exact set_map rfl)
        refine RA.nil nofun ?_
        refine AG.region HM ?_
        refine a_move (v := vI _) ?_
        refine a_int (u := .int .i64 (wrap64 ((wrap64 ((wrap64 (x1 + 1)) + 1)) + 1))) ?_
        refine a_move (v := vI _) ?_
        refine RA.nil nofun ?_
        refine AG.region HM ?_
        refine a_move (v := vI _) ?_
        refine a_int (u := .int .i64 (wrap64 (x5 + 1))) ?_
        refine a_move (v := vI _) ?_
        refine RA.nil nofun ?_
        exact AGr.canon id (ih0 _ (by omega) _ ⟨by omega, _, _, _, H, rfl⟩) ⟨(ownE rfl (by rw [← ey6]; rw [← ey5]; simp)), rfl, rfl, trivial⟩ ⟨rfl, trivial⟩ rfl
      · rw [if_neg hc4] at H
        cases H
    · rw [if_neg hc1] at H
      refine AG.no rfl (decide_eq_false hc1) ?_
      refine AG.exit ?_
      refine AG.seq ?_
      refine AG.region HM ?_
      refine a_move (v := vI _) ?_
      refine a_move (v := vI _) ?_
      refine RA.nil nofun ?_
      refine AG.ret ?_
      simp only [Option.some.injEq, Prod.mk.injEq] at H
      obtain ⟨rfl, rfl⟩ := H
      exact RetP.mk (fun κ => cond (Nat.beq κ 0) 0 (κ)) ⟨rfl, trivial⟩ ⟨rfl, trivial⟩ rfl
/-! ### laws_markPacket: function 12 -/
def laws_markPacket.f (k : Nat) (l0_0 : List S86) (l0_1 : List Int) (a1 : Int) : Option (Int × (List S86) × (List Int)) := (laws_markVeneerS.f k l0_0 a1).bind fun bt1 => ((laws_markInt64S.f k l0_1 bt1.1).bind fun bt4 => (some (bt4.1, bt1.2, bt4.2)))
set_option maxRecDepth 100000 in
theorem laws_markPacket.ok {k : Nat} {l0_0 : List S86} {l0_1 : List Int} {a1 : Int} {r0 : Int} {r1 : List S86} {r2 : List Int} (H : laws_markPacket.f k l0_0 l0_1 a1 = some (r0, r1, r2)) : OkF Try.prog 12 [.agg [.own 0 l0_0.length, .own 1 l0_1.length], vI a1] [(0, .row 90 (l0_0.map c86)), (1, .row 2 (l0_1.map c2))] (.c (.d (.v (.int .i64 r0)))) [(0, .row 90 (r1.map c86)), (1, .row 2 (r2.map c2))] := by
  unfold laws_markPacket.f at H
  refine OkF.of (N := 14) (rs := [4]) (avs := [.c (.d (.v (.int .i64 r0)))]) Try.func12 rfl rfl (fun _ _ => results_tmp rfl _ _ _) (by decide) rfl rfl rfl rfl (fun w0 S => ?_)
  refine AG.seq ?_
  refine AG.region HM ?_
  refine a_box 200 ?_
  refine a_move (v := vI _) ?_
  refine RA.nil nofun ?_
  refine AG.seq ?_
  refine AG.region HM ?_
  refine a_faB (q := 0) ?_ D32_0
  refine a_ldB (v := .c (.own _ _)) ?_ T30
  refine a_move (v := vI _) ?_
  obtain ⟨⟨t1, t2⟩, e3, H⟩ := bindO H
  refine a_callM (v := vI t1) (nk := []) (L := []) (Mk := [(0, _)]) (ck := [(0, .row 90 (t2.map c86))]) ?_ rfl (laws_markVeneerS.ok e3) id id (mcO (mcD m0)) trivial ⟨rfl, trivial⟩ trivial ⟨rfl, trivial⟩ trivial ⟨rfl, trivial⟩ rfl rfl rfl
  refine a_move (v := vI _) ?_
  refine RA.nil nofun ?_
  refine AG.relen 0 t2.length ?_
  refine AG.seq ?_
  refine AG.region HM ?_
  refine a_faB (q := 1) ?_ D32_1
  refine a_ldB (v := .c (.own _ _)) ?_ T23
  refine a_move (v := vI _) ?_
  obtain ⟨⟨t4, t5⟩, e6, H⟩ := bindO H
  refine a_callM (v := vI t4) (nk := []) (L := []) (Mk := [(1, _)]) (ck := [(1, .row 2 (t5.map c2))]) ?_ rfl (laws_markInt64S.ok e6) (fun κ => cond (Nat.beq κ 0) 1 (κ)) (fun κ => cond (Nat.beq κ 1) 0 (κ)) (mcO (mcD m0)) trivial ⟨rfl, trivial⟩ trivial ⟨rfl, trivial⟩ trivial ⟨rfl, trivial⟩ rfl rfl rfl
  refine a_move (v := vI _) ?_
  refine RA.nil nofun ?_
  refine AG.relen 1 t5.length ?_
  refine AG.seq ?_
  refine AG.region HM ?_
  refine a_move (v := vI _) ?_
  refine a_move (v := vI _) ?_
  refine RA.nil nofun ?_
  refine AG.ret ?_
  simp only [Option.some.injEq, Prod.mk.injEq] at H
  obtain ⟨rfl, rfl, rfl⟩ := H
  exact RetP.mk (fun κ => cond (Nat.beq κ 0) 0 (cond (Nat.beq κ 1) 1 (κ))) ⟨rfl, trivial⟩ ⟨rfl, rfl, trivial⟩ rfl
/-! ### laws_markInt64SS: function 13 -/
def laws_markInt64SS.l0 : Nat → List (List Int) → Int → Int → Option (Int × (List (List Int)))
  | 0, _, _, _ => none
  | k + 1, x0, x1, x5 => if x5 < (x0.length : Int) then (if 0 ≤ x5 then ((laws_markInt64S.f k (rd23 x0 x5) x1).bind fun bt3 => (laws_markInt64SS.l0 k (x0.set (x5 : Int).toNat bt3.2) bt3.1 (wrap64 (x5 + 1)))) else (none)) else (some (x1, x0))
def laws_markInt64SS.f (k : Nat) (l0 : List (List Int)) (a1 : Int) : Option (Int × (List (List Int))) := laws_markInt64SS.l0 k l0 a1 0
set_option maxRecDepth 100000 in
theorem laws_markInt64SS.ok {k : Nat} {l0 : List (List Int)} {a1 : Int} {r0 : Int} {r1 : List (List Int)} (H : laws_markInt64SS.f k l0 a1 = some (r0, r1)) : OkF Try.prog 13 [.c (.own 0 l0.length), vI a1] [(0, .row 23 (l0.map c23))] (.c (.d (.v (.int .i64 r0)))) [(0, .row 23 (r1.map c23))] := by
  unfold laws_markInt64SS.f at H
  refine OkF.of (N := 19) (rs := [4]) (avs := [.c (.d (.v (.int .i64 r0)))]) Try.func13 rfl rfl (fun _ _ => results_tmp rfl _ _ _) (by decide) rfl rfl rfl rfl (fun w0 S => ?_)
  refine AG.seq ?_
  refine AG.region HM ?_
  refine a_move (v := vI _) ?_
  refine RA.nil nofun ?_
  refine AG.seq ?_
  refine AG.seq ?_
  refine AG.region HM ?_
  refine a_move (v := vI _) ?_
  refine RA.nil nofun ?_
  refine AG.block ?_
  refine AG.loop ?_
  obtain ⟨K0, hK0, gK0⟩ : ∃ K, k ≤ K ∧ K ≤ k := ⟨k, Nat.le_refl k, Nat.le_refl k⟩
  refine AGr.canon id (AGr.loopI (n := k) (fun k s => k ≤ K0 ∧ ∃ (x0 : List (List Int)) (x1 : Int) (x5 : Int), laws_markInt64SS.l0 k x0 x1 x5 = some (r0, r1) ∧ s = St.of [(0, .c (.own 0 x0.length)), (1, vI x1), (5, vI x5)] [(0, .row 23 (x0.map c23))]) ⟨hK0, _, _, _, H, rfl⟩ ?_ ?_) ⟨rfl, rfl, rfl, trivial⟩ ⟨rfl, trivial⟩ rfl
  · rintro _ ⟨_, _, _, _, H, _⟩
    cases H
  · clear H hK0
    rintro k ih0 _ ⟨hK0, x0, x1, x5, H, rfl⟩
    unfold laws_markInt64SS.l0 at H
    refine AG.seq ?_
    refine AG.seq ?_
    refine AG.region HM ?_
    refine a_move (v := vI _) ?_
    refine a_move (v := .c (.own _ _)) ?_
    refine a_lenO ?_ Try.underlying27
    refine a_int (u := .bool (decide (x5 < (x0.length : Int)))) ?_
    refine RA.nil nofun ?_
    by_cases hc1 : x5 < (x0.length : Int)
    · rw [if_pos hc1] at H
      refine AG.yes rfl (decide_eq_true hc1) ?_
      refine AG.skip ?_
      refine AG.seq ?_
      refine AG.block ?_
      refine AG.region HM ?_
      refine a_move (v := .c (.own _ _)) ?_
      refine a_move (v := vI _) ?_
      by_cases hc2 : 0 ≤ x5
      · rw [if_pos hc2] at H
        refine a_ixO ?_ ⟨hc2, hc1⟩ T23 Try.underlying27
        refine a_ldE (v := .c (.sub _ _ _ _)) ?_ (G23 hc2 hc1) T23
        refine a_move (v := vI _) ?_
        obtain ⟨⟨t3, t4⟩, e5, H⟩ := bindO H
        refine a_callU (κ := 0) (i := (x5 : Int).toNat) (j := 0) (μ := 0) (v := vI t3) (L := []) (css2 := (x0.set (x5 : Int).toNat t4).map c23) ?_ rfl (laws_markInt64S.ok e5) (uS (uD u0)) trivial (G23 hc2 hc1) rfl (by exact set_map2 rfl)
        refine a_move (v := vI _) ?_
        refine RA.nil nofun ?_
        refine AG.relen 0 (x0.set (x5 : Int).toNat t4).length ?_
        refine AG.region HM ?_
        refine a_move (v := vI _) ?_
        refine a_int (u := .int .i64 (wrap64 (x5 + 1))) ?_
        refine a_move (v := vI _) ?_
        refine RA.nil nofun ?_
        exact AGr.canon id (ih0 _ (by omega) _ ⟨by omega, _, _, _, H, rfl⟩) ⟨rfl, rfl, rfl, trivial⟩ ⟨rfl, trivial⟩ rfl
      · rw [if_neg hc2] at H
        cases H
    · rw [if_neg hc1] at H
      refine AG.no rfl (decide_eq_false hc1) ?_
      refine AG.exit ?_
      refine AG.seq ?_
      refine AG.region HM ?_
      refine a_move (v := vI _) ?_
      refine a_move (v := vI _) ?_
      refine RA.nil nofun ?_
      refine AG.ret ?_
      simp only [Option.some.injEq, Prod.mk.injEq] at H
      obtain ⟨rfl, rfl⟩ := H
      exact RetP.mk (fun κ => cond (Nat.beq κ 0) 0 (κ)) ⟨rfl, trivial⟩ ⟨rfl, trivial⟩ rfl
/-! ### laws_heldInt64S: function 23 -/
def laws_heldInt64S.l0 : Nat → List Int → Int → Int → Option (Int)
  | 0, _, _, _ => none
  | k + 1, x0, x1, x5 => if x5 < (x0.length : Int) then (if 0 ≤ x5 then (if (rd2 x0 x5) = x1 then (laws_heldInt64S.l0 k x0 (wrap64 (x1 + 1)) (wrap64 (x5 + 1))) else (some (-1))) else (none)) else (some x1)
def laws_heldInt64S.f (k : Nat) (l0 : List Int) (a1 : Int) : Option (Int) := laws_heldInt64S.l0 k l0 a1 0
set_option maxRecDepth 100000 in
theorem laws_heldInt64S.ok {k : Nat} {l0 : List Int} {a1 : Int} {r : Int} (H : laws_heldInt64S.f k l0 a1 = some r) : OkF Try.prog 23 [vR 2 (l0.map c2), vI a1] [] (.c (.d (.v (.int .i64 r)))) [] := by
  unfold laws_heldInt64S.f at H
  refine OkF.of (N := 21) (rs := [4]) (avs := [.c (.d (.v (.int .i64 r)))]) Try.func23 rfl rfl (fun _ _ => results_tmp rfl _ _ _) (by decide) rfl rfl rfl rfl (fun w0 S => ?_)
  refine AG.seq ?_
  refine AG.region HM ?_
  refine a_move (v := vI _) ?_
  refine RA.nil nofun ?_
  refine AG.seq ?_
  refine AG.seq ?_
  refine AG.region HM ?_
  refine a_move (v := vI _) ?_
  refine RA.nil nofun ?_
  refine AG.block ?_
  refine AG.loop ?_
  obtain ⟨K0, hK0, gK0⟩ : ∃ K, k ≤ K ∧ K ≤ k := ⟨k, Nat.le_refl k, Nat.le_refl k⟩
  refine AGr.canon id (AGr.loopI (n := k) (fun k s => k ≤ K0 ∧ ∃ (x0 : List Int) (x1 : Int) (x5 : Int), laws_heldInt64S.l0 k x0 x1 x5 = some r ∧ s = St.of [(0, vR 2 (x0.map c2)), (1, vI x1), (5, vI x5)] []) ⟨hK0, _, _, _, H, rfl⟩ ?_ ?_) ⟨rfl, rfl, rfl, trivial⟩ trivial rfl
  · rintro _ ⟨_, _, _, _, H, _⟩
    cases H
  · clear H hK0
    rintro k ih0 _ ⟨hK0, x0, x1, x5, H, rfl⟩
    unfold laws_heldInt64S.l0 at H
    refine AG.seq ?_
    refine AG.seq ?_
    refine AG.region HM ?_
    refine a_move (v := vI _) ?_
    refine a_move (v := vR _ _) ?_
    refine a_lenR ?_ Try.underlying23
    refine a_int (u := .bool (decide (x5 < (x0.length : Int)))) ?_
    refine RA.nil nofun ?_
    by_cases hc1 : x5 < (x0.length : Int)
    · rw [if_pos hc1] at H
      refine AG.yes rfl (decide_eq_true hc1) ?_
      refine AG.skip ?_
      refine AG.seq ?_
      refine AG.block ?_
      refine AG.seq ?_
      refine AG.seq ?_
      refine AG.region HM ?_
      refine a_move (v := vR _ _) ?_
      refine a_move (v := vI _) ?_
      by_cases hc2 : 0 ≤ x5
      · rw [if_pos hc2] at H
        refine a_ixR (el := c2 (rd2 x0 x5)) ?_ ⟨hc2, hc1⟩ T2 Try.underlying23 (hel := R2 hc2 hc1)
        refine a_ldR (v := vI _) ?_ T2
        refine a_move (v := vI _) ?_
        refine a_int (u := .bool (((rd2 x0 x5) != x1))) ?_
        refine RA.nil nofun ?_
        by_cases hc3 : (rd2 x0 x5) = x1
        · rw [if_pos hc3] at H
          refine AG.no rfl (bne_eq_false_iff_eq.2 hc3) ?_
          refine AG.skip ?_
          refine AG.region HM ?_
          refine a_move (v := vI _) ?_
          refine a_int (u := .int .i64 (wrap64 (x1 + 1))) ?_
          refine a_move (v := vI _) ?_
          refine RA.nil nofun ?_
          refine AG.region HM ?_
          refine a_move (v := vI _) ?_
          refine a_int (u := .int .i64 (wrap64 (x5 + 1))) ?_
          refine a_move (v := vI _) ?_
          refine RA.nil nofun ?_
          exact AGr.canon id (ih0 _ (by omega) _ ⟨by omega, _, _, _, H, rfl⟩) ⟨rfl, rfl, rfl, trivial⟩ trivial rfl
        · rw [if_neg hc3] at H
          refine AG.yes rfl (bne_iff_ne.2 hc3) ?_
          refine AG.seq ?_
          refine AG.region HM ?_
          refine a_move (v := vI _) ?_
          refine RA.nil nofun ?_
          refine AG.ret ?_
          obtain rfl := Option.some.inj H
          exact RetP.mk id ⟨rfl, trivial⟩ trivial rfl
      · rw [if_neg hc2] at H
        cases H
    · rw [if_neg hc1] at H
      refine AG.no rfl (decide_eq_false hc1) ?_
      refine AG.exit ?_
      refine AG.seq ?_
      refine AG.region HM ?_
      refine a_move (v := vI _) ?_
      refine a_move (v := vI _) ?_
      refine RA.nil nofun ?_
      refine AG.ret ?_
      obtain rfl := Option.some.inj H
      exact RetP.mk id ⟨rfl, trivial⟩ trivial rfl
/-! ### laws_heldInt64SS: function 14 -/
def laws_heldInt64SS.l0 : Nat → List (List Int) → Int → Int → Option (Int)
  | 0, _, _, _ => none
  | k + 1, x0, x1, x5 => if x5 < (x0.length : Int) then (if 0 ≤ x5 then ((laws_heldInt64S.f k (rd23 x0 x5) x1).bind fun t3 => (if t3 < 0 then (some (-1)) else (laws_heldInt64SS.l0 k x0 t3 (wrap64 (x5 + 1))))) else (none)) else (some x1)
def laws_heldInt64SS.f (k : Nat) (l0 : List (List Int)) (a1 : Int) : Option (Int) := laws_heldInt64SS.l0 k l0 a1 0
set_option maxRecDepth 100000 in
theorem laws_heldInt64SS.ok {k : Nat} {l0 : List (List Int)} {a1 : Int} {r : Int} (H : laws_heldInt64SS.f k l0 a1 = some r) : OkF Try.prog 14 [vR 23 (l0.map c23), vI a1] [] (.c (.d (.v (.int .i64 r)))) [] := by
  unfold laws_heldInt64SS.f at H
  refine OkF.of (N := 21) (rs := [4]) (avs := [.c (.d (.v (.int .i64 r)))]) Try.func14 rfl rfl (fun _ _ => results_tmp rfl _ _ _) (by decide) rfl rfl rfl rfl (fun w0 S => ?_)
  refine AG.seq ?_
  refine AG.region HM ?_
  refine a_move (v := vI _) ?_
  refine RA.nil nofun ?_
  refine AG.seq ?_
  refine AG.seq ?_
  refine AG.region HM ?_
  refine a_move (v := vI _) ?_
  refine RA.nil nofun ?_
  refine AG.block ?_
  refine AG.loop ?_
  obtain ⟨K0, hK0, gK0⟩ : ∃ K, k ≤ K ∧ K ≤ k := ⟨k, Nat.le_refl k, Nat.le_refl k⟩
  refine AGr.canon id (AGr.loopI (n := k) (fun k s => k ≤ K0 ∧ ∃ (x0 : List (List Int)) (x1 : Int) (x5 : Int), laws_heldInt64SS.l0 k x0 x1 x5 = some r ∧ s = St.of [(0, vR 23 (x0.map c23)), (1, vI x1), (5, vI x5)] []) ⟨hK0, _, _, _, H, rfl⟩ ?_ ?_) ⟨rfl, rfl, rfl, trivial⟩ trivial rfl
  · rintro _ ⟨_, _, _, _, H, _⟩
    cases H
  · clear H hK0
    rintro k ih0 _ ⟨hK0, x0, x1, x5, H, rfl⟩
    unfold laws_heldInt64SS.l0 at H
    refine AG.seq ?_
    refine AG.seq ?_
    refine AG.region HM ?_
    refine a_move (v := vI _) ?_
    refine a_move (v := vR _ _) ?_
    refine a_lenR ?_ Try.underlying27
    refine a_int (u := .bool (decide (x5 < (x0.length : Int)))) ?_
    refine RA.nil nofun ?_
    by_cases hc1 : x5 < (x0.length : Int)
    · rw [if_pos hc1] at H
      refine AG.yes rfl (decide_eq_true hc1) ?_
      refine AG.skip ?_
      refine AG.seq ?_
      refine AG.block ?_
      refine AG.seq ?_
      refine AG.region HM ?_
      refine a_move (v := vR _ _) ?_
      refine a_move (v := vI _) ?_
      by_cases hc2 : 0 ≤ x5
      · rw [if_pos hc2] at H
        refine a_ixR (el := c23 (rd23 x0 x5)) ?_ ⟨hc2, hc1⟩ T23 Try.underlying27 (hel := R23 hc2 hc1)
        refine a_ldR (v := vR _ _) ?_ T23
        refine a_move (v := vI _) ?_
        obtain ⟨t3, e4, H⟩ := bindO H
        refine a_call (v := vI t3) (nk := []) (L := []) ?_ rfl (laws_heldInt64S.ok e4) id (qd (qd qn)) trivial trivial trivial rfl
        refine a_move (v := vI _) ?_
        refine RA.nil nofun ?_
        refine AG.seq ?_
        refine AG.region HM ?_
        refine a_move (v := vI _) ?_
        refine a_int (u := .bool (decide (t3 < 0))) ?_
        refine RA.nil nofun ?_
        by_cases hc5 : t3 < 0
        · rw [if_pos hc5] at H
          refine AG.yes rfl (decide_eq_true hc5) ?_
          refine AG.seq ?_
          refine AG.region HM ?_
          refine a_move (v := vI _) ?_
          refine RA.nil nofun ?_
          refine AG.ret ?_
          obtain rfl := Option.some.inj H
          exact RetP.mk id ⟨rfl, trivial⟩ trivial rfl
        · rw [if_neg hc5] at H
          refine AG.no rfl (decide_eq_false hc5) ?_
          refine AG.skip ?_
          refine AG.region HM ?_
          refine a_move (v := vI _) ?_
          refine a_int (u := .int .i64 (wrap64 (x5 + 1))) ?_
          refine a_move (v := vI _) ?_
          refine RA.nil nofun ?_
          exact AGr.canon id (ih0 _ (by omega) _ ⟨by omega, _, _, _, H, rfl⟩) ⟨rfl, rfl, rfl, trivial⟩ trivial rfl
      · rw [if_neg hc2] at H
        cases H
    · rw [if_neg hc1] at H
      refine AG.no rfl (decide_eq_false hc1) ?_
      refine AG.exit ?_
      refine AG.seq ?_
      refine AG.region HM ?_
      refine a_move (v := vI _) ?_
      refine a_move (v := vI _) ?_
      refine RA.nil nofun ?_
      refine AG.ret ?_
      obtain rfl := Option.some.inj H
      exact RetP.mk id ⟨rfl, trivial⟩ trivial rfl
/-! ### laws_FnExactDistributionOf: function 3 -/
mutual
def laws_FnExactDistributionOf.j0 : Nat → List S86 → List Int → List (List Int) → Int → List S86 → List Int → List (List Int) → Int → Bool → Option (Bool)
  | 0, _, _, _, _, _, _, _, _, _ => none
  | k + 1, y210_0, y210_1, x4, x5, y212_0, y212_1, x7, x8, x40 => if x40 = true then (some false) else ((laws_toPacket.f k y210_0 y210_1).bind fun bt20 => ((laws_eqPacket.f k y212_0 y212_1 bt20.1 bt20.2).bind fun t23 => (if t23 = true then ((laws_markPacket.f k y212_0 y212_1 1).bind fun bt26 => (if bt26.1 < 0 then (laws_FnExactDistributionOf.j1 k y210_0 y210_1 x4 x5 x7 true) else ((laws_eqInt64SS.f k x7 x4).bind fun t31 => (if t31 = true then (laws_FnExactDistributionOf.j1 k y210_0 y210_1 x4 x5 x7 (x8 != x5)) else (laws_FnExactDistributionOf.j1 k y210_0 y210_1 x4 x5 x7 true))))) else (some false))))
def laws_FnExactDistributionOf.j1 : Nat → List S86 → List Int → List (List Int) → Int → List (List Int) → Bool → Option (Bool)
  | 0, _, _, _, _, _, _ => none
  | k + 1, y221_0, y221_1, x4, x5, x7, x61 => if x61 = true then (some false) else ((laws_markInt64SS.f k x7 1).bind fun bt35 => ((laws_heldInt64SS.f k bt35.2 1).bind fun t38 => (if t38 < 0 then (some false) else (if t38 = bt35.1 then ((laws_toPacket.f k y221_0 y221_1).bind fun bt42 => ((impl_DistributionOf.f k bt42.1 bt42.2).bind fun bt45 => ((laws_eqInt64SS.f k bt45.1 x4).bind fun t48 => (if t48 = true then (laws_FnExactDistributionOf.j2 k bt35.2 bt35.1 (bt45.2 != x5)) else (laws_FnExactDistributionOf.j2 k bt35.2 bt35.1 true))))) else (some false)))))
def laws_FnExactDistributionOf.j2 : Nat → List (List Int) → Int → Bool → Option (Bool)
  | 0, _, _, _ => none
  | k + 1, x7, x10, x87 => if x87 = true then (some false) else ((laws_heldInt64SS.f k x7 1).bind fun t52 => (if t52 < 0 then (some false) else (if t52 = x10 then (some true) else (some false))))
end
def laws_FnExactDistributionOf.f (k : Nat) (l0_0 : List S86) (l0_1 : List Int) : Option (Bool) := (laws_szPacket.f k l0_0 l0_1 1048576).bind fun t1 => (if t1 < 0 then (some true) else ((laws_toPacket.f k l0_0 l0_1).bind fun bt4 => ((spec_DistributionOf.f k bt4.1 bt4.2).bind fun bt7 => ((laws_toPacket.f k l0_0 l0_1).bind fun bt10 => ((impl_DistributionOf.f k bt10.1 bt10.2).bind fun bt13 => ((laws_eqInt64SS.f k bt13.1 bt7.1).bind fun t16 => (if t16 = true then (laws_FnExactDistributionOf.j0 k l0_0 l0_1 bt7.1 bt7.2 bt10.1 bt10.2 bt13.1 bt13.2 (bt13.2 != bt7.2)) else (laws_FnExactDistributionOf.j0 k l0_0 l0_1 bt7.1 bt7.2 bt10.1 bt10.2 bt13.1 bt13.2 true))))))))
set_option maxRecDepth 100000 in
theorem laws_FnExactDistributionOf.ok {k : Nat} {l0_0 : List S86} {l0_1 : List Int} {r : Bool} (H : laws_FnExactDistributionOf.f k l0_0 l0_1 = some r) : OkF Try.prog 3 [.agg [.d (.row 87 (l0_0.map c86)), .d (.row 2 (l0_1.map c2))]] [] (.c (.d (.v (.bool r)))) [] := by
  unfold laws_FnExactDistributionOf.f at H
  refine OkF.of (N := 96) (rs := [2]) (avs := [.c (.d (.v (.bool r)))]) Try.func3 rfl rfl (fun _ _ => results_tmp rfl _ _ _) (by decide) rfl rfl rfl rfl (fun w0 S => ?_)
  refine AG.seq ?_
  refine AG.region HM ?_
  refine a_box 200 ?_
  refine a_move (v := vB _) ?_
  refine RA.nil nofun ?_
  refine AG.seq ?_
  refine AG.region HM ?_
  refine a_move (v := vI _) ?_
  refine RA.nil nofun ?_
  refine AG.seq ?_
  refine AG.region HM ?_
  refine a_ldB (v := .agg [_, _]) ?_ T25
  refine a_move (v := vI _) ?_
  obtain ⟨t1, e2, H⟩ := bindO H
  refine a_call (v := vI t1) (nk := []) (L := []) ?_ rfl (laws_szPacket.ok e2) id (qg (qd qn)) trivial trivial trivial rfl
  refine a_move (v := vI _) ?_
  refine RA.nil nofun ?_
  refine AG.seq ?_
  refine AG.seq ?_
  refine AG.region HM ?_
  refine a_move (v := vI _) ?_
  refine a_int (u := .bool (decide (t1 < 0))) ?_
  refine RA.nil nofun ?_
  by_cases hc3 : t1 < 0
  · rw [if_pos hc3] at H
    refine AG.yes rfl (decide_eq_true hc3) ?_
    refine AG.seq ?_
    refine AG.region HM ?_
    refine a_move (v := vB _) ?_
    refine RA.nil nofun ?_
    refine AG.ret ?_
    obtain rfl := Option.some.inj H
    exact RetP.mk id ⟨rfl, trivial⟩ trivial rfl
  · rw [if_neg hc3] at H
    refine AG.no rfl (decide_eq_false hc3) ?_
    refine AG.skip ?_
    refine AG.seq ?_
    refine AG.region HM ?_
    refine a_ldB (v := .agg [_, _]) ?_ T25
    obtain ⟨⟨t4, t5⟩, e6, H⟩ := bindO H
    refine a_call (v := .agg [.own 202 t4.length, .own 203 t5.length]) (nk := [(202, .row 90 (t4.map c86)), (203, .row 2 (t5.map c2))]) (L := []) ?_ rfl (laws_toPacket.ok e6) (fun κ => cond (Nat.beq κ 202) 100 (cond (Nat.beq κ 203) 101 (κ))) (qg qn) trivial ⟨rfl, rfl, trivial⟩ ⟨rfl, rfl, trivial⟩ rfl
    obtain ⟨⟨t7, t8⟩, e9, H⟩ := bindO H
    refine a_call (v := .tup [.c (.own 204 t7.length), .c (.d (.v (.int .i64 t8)))]) (nk := [(204, .row 23 (t7.map c23))]) (L := [(202, _), (203, _)]) ?_ rfl (spec_DistributionOf.ok e9) (fun κ => cond (Nat.beq κ 204) 100 (κ)) (qm (eC rO (eC rO eN)) qn) ⟨rfl, rfl, trivial⟩ ⟨rfl, trivial⟩ ⟨rfl, trivial⟩ rfl
    refine a_move (v := .tup [_, _]) ?_
    refine a_ext (v := .c (.own _ _)) ?_
    refine a_ext (v := vI _) ?_
    refine a_move (v := .c (.own _ _)) ?_
    refine a_move (v := vI _) ?_
    refine RA.nil nofun ?_
    refine AG.seq ?_
    refine AG.region HM ?_
    refine a_ldB (v := .agg [_, _]) ?_ T25
    obtain ⟨⟨t10, t11⟩, e12, H⟩ := bindO H
    refine a_call (v := .agg [.own 205 t10.length, .own 206 t11.length]) (nk := [(205, .row 90 (t10.map c86)), (206, .row 2 (t11.map c2))]) (L := []) ?_ rfl (laws_toPacket.ok e12) (fun κ => cond (Nat.beq κ 205) 100 (cond (Nat.beq κ 206) 101 (κ))) (qg qn) trivial ⟨rfl, rfl, trivial⟩ ⟨rfl, rfl, trivial⟩ rfl
    refine a_alloc (cs := [_, _]) 207 ?_ T32
    refine a_stB (cs' := [_, _]) ?_ T32
    refine RA.nil nofun ?_
    refine AG.seq ?_
    refine AG.region HM ?_
    refine a_ldB (v := .agg [_, _]) ?_ T32
    obtain ⟨⟨t13, t14⟩, e15, H⟩ := bindO H
    refine a_call (v := .tup [.c (.own 208 t13.length), .c (.d (.v (.int .i64 t14)))]) (nk := [(208, .row 23 (t13.map c23))]) (L := [(205, _), (206, _)]) ?_ rfl (impl_DistributionOf.ok e15) (fun κ => cond (Nat.beq κ 208) 100 (κ)) (qm (eC rO (eC rO eN)) qn) ⟨rfl, rfl, trivial⟩ ⟨rfl, trivial⟩ ⟨rfl, trivial⟩ rfl
    refine a_move (v := .tup [_, _]) ?_
    refine a_ext (v := .c (.own _ _)) ?_
    refine a_ext (v := vI _) ?_
    refine a_move (v := .c (.own _ _)) ?_
    refine a_move (v := vI _) ?_
    refine RA.nil nofun ?_
    refine AG.seq ?_
    refine AG.seq ?_
    refine AG.join (fun s => ∃ (y210_0 : List S86) (y210_1 : List Int) (x4 : List (List Int)) (x5 : Int) (y212_0 : List S86) (y212_1 : List Int) (x7 : List (List Int)) (x8 : Int) (x40 : Bool), laws_FnExactDistributionOf.j0 k y210_0 y210_1 x4 x5 y212_0 y212_1 x7 x8 x40 = some r ∧ s = St.of [(1, .c (.ptr 210 0)), (4, .c (.own 211 x4.length)), (5, vI x5), (6, .c (.ptr 212 0)), (7, .c (.own 215 x7.length)), (8, vI x8), (40, vB x40)] [(210, .box 25 [.d (.row 87 (y210_0.map c86)), .d (.row 2 (y210_1.map c2))]), (211, .row 23 (x4.map c23)), (212, .box 32 [.own 213 y212_0.length, .own 214 y212_1.length]), (213, .row 90 (y212_0.map c86)), (214, .row 2 (y212_1.map c2)), (215, .row 23 (x7.map c23))]) ?_ ?_
    · skip
      refine AG.region HM ?_
      refine a_move (v := .c (.own _ _)) ?_
      refine a_move (v := .c (.own _ _)) ?_
      obtain ⟨t16, e17, H⟩ := bindO H
      refine a_call (v := vB t16) (nk := []) (L := [(208, _), (204, _)]) ?_ rfl (laws_eqInt64SS.ok e17) id (qc rO (qc rO qn)) ⟨rfl, rfl, trivial⟩ trivial trivial rfl
      refine a_un (u := .bool (!t16)) ?_
      refine a_move (v := vB _) ?_
      by_cases hc18 : t16 = true
      · rw [if_pos hc18] at H
        refine a_move (v := vI _) ?_ (hg := Gs.yes rfl rfl rfl (congrArg Bool.not hc18))
        refine a_move (v := vI _) ?_ (hg := Gs.yes rfl rfl rfl (congrArg Bool.not hc18))
        refine a_int (u := .bool ((t14 != t8))) ?_ (hg := Gs.yes rfl rfl rfl (congrArg Bool.not hc18))
        refine a_pick (b := false) (v := vB _) ?_ (congrArg Bool.not hc18)
        refine RA.nil nofun ?_
        exact Can.mk (fun κ => cond (Nat.beq κ 210) 200 (cond (Nat.beq κ 211) 204 (cond (Nat.beq κ 212) 207 (cond (Nat.beq κ 213) 205 (cond (Nat.beq κ 214) 206 (cond (Nat.beq κ 215) 208 (κ))))))) ⟨_, _, _, _, _, _, _, _, _, H, rfl⟩ ⟨rfl, rfl, rfl, rfl, rfl, rfl, rfl, trivial⟩ ⟨rfl, rfl, rfl, rfl, rfl, rfl, trivial⟩ rfl
      · rw [if_neg hc18] at H
        refine RA.skip rfl rfl rfl rfl rfl (congrArg Bool.not (Bool.eq_false_iff.2 hc18)) (by decide) ?_
        refine RA.skip rfl rfl rfl rfl rfl (congrArg Bool.not (Bool.eq_false_iff.2 hc18)) (by decide) ?_
        refine RA.skip rfl rfl rfl rfl rfl (congrArg Bool.not (Bool.eq_false_iff.2 hc18)) (by decide) ?_
        refine a_pick (b := true) (v := vB _) ?_ (congrArg Bool.not (Bool.eq_false_iff.2 hc18))
        refine RA.nil nofun ?_
        exact Can.mk (fun κ => cond (Nat.beq κ 210) 200 (cond (Nat.beq κ 211) 204 (cond (Nat.beq κ 212) 207 (cond (Nat.beq κ 213) 205 (cond (Nat.beq κ 214) 206 (cond (Nat.beq κ 215) 208 (κ))))))) ⟨_, _, _, _, _, _, _, _, _, H, rfl⟩ ⟨rfl, rfl, rfl, rfl, rfl, rfl, rfl, trivial⟩ ⟨rfl, rfl, rfl, rfl, rfl, rfl, trivial⟩ rfl
    · clear H
      rintro _ ⟨y210_0, y210_1, x4, x5, y212_0, y212_1, x7, x8, x40, H, rfl⟩
      cases k with
      | zero => cases H
      | succ k =>
        rw [laws_FnExactDistributionOf.j0] at H
        by_cases hc19 : x40 = true
        · rw [if_pos hc19] at H
          refine AG.yes rfl hc19 ?_
          refine AG.seq ?_
          refine AG.region HM ?_
          refine a_move (v := vB _) ?_
          refine RA.nil nofun ?_
          refine AG.ret ?_
          obtain rfl := Option.some.inj H
          exact RetP.mk id ⟨rfl, trivial⟩ trivial rfl
        · rw [if_neg hc19] at H
          refine AG.no rfl (Bool.eq_false_iff.2 hc19) ?_
          refine AG.skip ?_
          refine AG.seq ?_
          refine AG.seq ?_
          refine AG.region HM ?_
          refine a_ldB (v := .agg [_, _]) ?_ T32
          refine a_ldB (v := .agg [_, _]) ?_ T25
          obtain ⟨⟨t20, t21⟩, e22, H⟩ := bindO H
          refine a_call (v := .agg [.own 216 t20.length, .own 217 t21.length]) (nk := [(216, .row 90 (t20.map c86)), (217, .row 2 (t21.map c2))]) (L := []) ?_ rfl (laws_toPacket.ok e22) (fun κ => cond (Nat.beq κ 216) 100 (cond (Nat.beq κ 217) 101 (κ))) (qg qn) trivial ⟨rfl, rfl, trivial⟩ ⟨rfl, rfl, trivial⟩ rfl
          obtain ⟨t23, e24, H⟩ := bindO H
          refine a_call (v := vB t23) (nk := []) (L := [(213, _), (214, _), (216, _), (217, _)]) ?_ rfl (laws_eqPacket.ok e24) id (qm (eC rO (eC rO eN)) (qm (eC rO (eC rO eN)) qn)) ⟨rfl, rfl, rfl, rfl, trivial⟩ trivial trivial rfl
          refine a_un (u := .bool (!t23)) ?_
          refine RA.nil (fun _ => by kernel_rfl) ?_
          by_cases hc25 : t23 = true
          · rw [if_pos hc25] at H
            refine AG.no rfl (congrArg Bool.not hc25) ?_
            refine AG.skip ?_
            refine AG.seq ?_
            refine AG.region HM ?_
            refine a_move (v := vI _) ?_
            refine RA.nil nofun ?_
            refine AG.seq ?_
            refine AG.region HM ?_
            refine a_ldB (v := .agg [_, _]) ?_ T32
            refine a_move (v := vI _) ?_
            obtain ⟨⟨t26, t27, t28⟩, e29, H⟩ := bindO H
            refine a_callM (v := vI t26) (nk := []) (L := []) (Mk := [(213, _), (214, _)]) (ck := [(213, .row 90 (t27.map c86)), (214, .row 2 (t28.map c2))]) ?_ rfl (laws_markPacket.ok e29) (fun κ => cond (Nat.beq κ 0) 213 (cond (Nat.beq κ 1) 214 (κ))) (fun κ => cond (Nat.beq κ 213) 0 (cond (Nat.beq κ 214) 1 (κ))) (mcA (kO (kO k0)) (mcD m0)) trivial ⟨rfl, rfl, trivial⟩ trivial ⟨rfl, rfl, trivial⟩ trivial ⟨rfl, rfl, trivial⟩ rfl rfl rfl
            refine a_move (v := vI _) ?_
            refine RA.nil nofun ?_
            refine AG.relen 213 t27.length ?_
            refine AG.relen 214 t28.length ?_
            refine AG.seq ?_
            refine AG.seq ?_
            refine AG.join (fun s => ∃ (y221_0 : List S86) (y221_1 : List Int) (x4 : List (List Int)) (x5 : Int) (x7 : List (List Int)) (x61 : Bool), laws_FnExactDistributionOf.j1 k y221_0 y221_1 x4 x5 x7 x61 = some r ∧ s = St.of [(1, .c (.ptr 221 0)), (4, .c (.own 222 x4.length)), (5, vI x5), (7, .c (.own 223 x7.length)), (61, vB x61)] [(221, .box 25 [.d (.row 87 (y221_0.map c86)), .d (.row 2 (y221_1.map c2))]), (222, .row 23 (x4.map c23)), (223, .row 23 (x7.map c23))]) ?_ ?_
            · skip
              refine AG.region HM ?_
              refine a_move (v := vI _) ?_
              refine a_int (u := .bool (decide (t26 < 0))) ?_
              refine a_move (v := vB _) ?_
              by_cases hc30 : t26 < 0
              · rw [if_pos hc30] at H
                refine RA.skip rfl rfl rfl rfl rfl (decide_eq_true hc30) (by decide) ?_
                refine RA.skip rfl rfl rfl rfl rfl (decide_eq_true hc30) (by decide) ?_
                refine RA.skip rfl rfl rfl rfl rfl (decide_eq_true hc30) (by decide) ?_
                refine RA.skip rfl rfl rfl rfl rfl (decide_eq_true hc30) (by decide) ?_
                refine a_pick (b := true) (v := vB _) ?_ (decide_eq_true hc30)
                refine a_move (v := vB _) ?_
                refine RA.skip rfl rfl rfl rfl rfl rfl (by decide) ?_
                refine RA.skip rfl rfl rfl rfl rfl rfl (by decide) ?_
                refine RA.skip rfl rfl rfl rfl rfl rfl (by decide) ?_
                refine a_pick (b := true) (v := vB _) ?_ rfl
                refine RA.nil nofun ?_
                exact Can.mk (fun κ => cond (Nat.beq κ 221) 210 (cond (Nat.beq κ 222) 211 (cond (Nat.beq κ 223) 215 (κ)))) ⟨_, _, _, _, _, _, H, rfl⟩ ⟨rfl, rfl, rfl, rfl, rfl, trivial⟩ ⟨rfl, rfl, rfl, trivial⟩ rfl
              · rw [if_neg hc30] at H
                refine a_move (v := .c (.own _ _)) ?_ (hg := Gs.yes rfl rfl rfl (decide_eq_false hc30))
                refine a_move (v := .c (.own _ _)) ?_ (hg := Gs.yes rfl rfl rfl (decide_eq_false hc30))
                obtain ⟨t31, e32, H⟩ := bindO H
                refine a_call (v := vB t31) (nk := []) (L := [(215, _), (211, _)]) ?_ rfl (laws_eqInt64SS.ok e32) id (qc rO (qc rO qn)) ⟨rfl, rfl, trivial⟩ trivial trivial rfl (hg := Gs.yes rfl rfl rfl (decide_eq_false hc30))
                refine a_un (u := .bool (!t31)) ?_ (hg := Gs.yes rfl rfl rfl (decide_eq_false hc30))
                refine a_pick (b := false) (v := vB _) ?_ (decide_eq_false hc30)
                refine a_move (v := vB _) ?_
                by_cases hc33 : t31 = true
                · rw [if_pos hc33] at H
                  refine a_move (v := vI _) ?_ (hg := Gs.yes rfl rfl rfl (congrArg Bool.not hc33))
                  refine a_move (v := vI _) ?_ (hg := Gs.yes rfl rfl rfl (congrArg Bool.not hc33))
                  refine a_int (u := .bool ((x8 != x5))) ?_ (hg := Gs.yes rfl rfl rfl (congrArg Bool.not hc33))
                  refine a_pick (b := false) (v := vB _) ?_ (congrArg Bool.not hc33)
                  refine RA.nil nofun ?_
                  exact Can.mk (fun κ => cond (Nat.beq κ 221) 210 (cond (Nat.beq κ 222) 211 (cond (Nat.beq κ 223) 215 (κ)))) ⟨_, _, _, _, _, _, H, rfl⟩ ⟨rfl, rfl, rfl, rfl, rfl, trivial⟩ ⟨rfl, rfl, rfl, trivial⟩ rfl
                · rw [if_neg hc33] at H
                  refine RA.skip rfl rfl rfl rfl rfl (congrArg Bool.not (Bool.eq_false_iff.2 hc33)) (by decide) ?_
                  refine RA.skip rfl rfl rfl rfl rfl (congrArg Bool.not (Bool.eq_false_iff.2 hc33)) (by decide) ?_
                  refine RA.skip rfl rfl rfl rfl rfl (congrArg Bool.not (Bool.eq_false_iff.2 hc33)) (by decide) ?_
                  refine a_pick (b := true) (v := vB _) ?_ (congrArg Bool.not (Bool.eq_false_iff.2 hc33))
                  refine RA.nil nofun ?_
                  exact Can.mk (fun κ => cond (Nat.beq κ 221) 210 (cond (Nat.beq κ 222) 211 (cond (Nat.beq κ 223) 215 (κ)))) ⟨_, _, _, _, _, _, H, rfl⟩ ⟨rfl, rfl, rfl, rfl, rfl, trivial⟩ ⟨rfl, rfl, rfl, trivial⟩ rfl
            · clear H
              rintro _ ⟨y221_0, y221_1, x4, x5, x7, x61, H, rfl⟩
              cases k with
              | zero => cases H
              | succ k =>
                rw [laws_FnExactDistributionOf.j1] at H
                by_cases hc34 : x61 = true
                · rw [if_pos hc34] at H
                  refine AG.yes rfl hc34 ?_
                  refine AG.seq ?_
                  refine AG.region HM ?_
                  refine a_move (v := vB _) ?_
                  refine RA.nil nofun ?_
                  refine AG.ret ?_
                  obtain rfl := Option.some.inj H
                  exact RetP.mk id ⟨rfl, trivial⟩ trivial rfl
                · rw [if_neg hc34] at H
                  refine AG.no rfl (Bool.eq_false_iff.2 hc34) ?_
                  refine AG.skip ?_
                  refine AG.seq ?_
                  refine AG.region HM ?_
                  refine a_move (v := vI _) ?_
                  refine RA.nil nofun ?_
                  refine AG.seq ?_
                  refine AG.region HM ?_
                  refine a_move (v := .c (.own _ _)) ?_
                  refine a_move (v := vI _) ?_
                  obtain ⟨⟨t35, t36⟩, e37, H⟩ := bindO H
                  refine a_callM (v := vI t35) (nk := []) (L := []) (Mk := [(223, _)]) (ck := [(223, .row 23 (t36.map c23))]) ?_ rfl (laws_markInt64SS.ok e37) (fun κ => cond (Nat.beq κ 0) 223 (κ)) (fun κ => cond (Nat.beq κ 223) 0 (κ)) (mcO (mcD m0)) trivial ⟨rfl, trivial⟩ trivial ⟨rfl, trivial⟩ trivial ⟨rfl, trivial⟩ rfl rfl rfl
                  refine a_move (v := vI _) ?_
                  refine RA.nil nofun ?_
                  refine AG.relen 223 t36.length ?_
                  refine AG.seq ?_
                  refine AG.region HM ?_
                  refine a_move (v := vI _) ?_
                  refine RA.nil nofun ?_
                  refine AG.seq ?_
                  refine AG.region HM ?_
                  refine a_move (v := .c (.own _ _)) ?_
                  refine a_move (v := vI _) ?_
                  obtain ⟨t38, e39, H⟩ := bindO H
                  refine a_call (v := vI t38) (nk := []) (L := [(223, _)]) ?_ rfl (laws_heldInt64SS.ok e39) id (qc rO (qd qn)) ⟨rfl, trivial⟩ trivial trivial rfl
                  refine a_move (v := vI _) ?_
                  refine RA.nil nofun ?_
                  refine AG.seq ?_
                  refine AG.seq ?_
                  refine AG.region HM ?_
                  refine a_move (v := vI _) ?_
                  refine a_int (u := .bool (decide (t38 < 0))) ?_
                  refine RA.nil nofun ?_
                  by_cases hc40 : t38 < 0
                  · rw [if_pos hc40] at H
                    refine AG.yes rfl (decide_eq_true hc40) ?_
                    refine AG.seq ?_
                    refine AG.region HM ?_
                    refine a_move (v := vB _) ?_
                    refine RA.nil nofun ?_
                    refine AG.ret ?_
                    obtain rfl := Option.some.inj H
                    exact RetP.mk id ⟨rfl, trivial⟩ trivial rfl
                  · rw [if_neg hc40] at H
                    refine AG.no rfl (decide_eq_false hc40) ?_
                    refine AG.skip ?_
                    refine AG.seq ?_
                    refine AG.seq ?_
                    refine AG.region HM ?_
                    refine a_move (v := vI _) ?_
                    refine a_move (v := vI _) ?_
                    refine a_int (u := .bool ((t38 != t35))) ?_
                    refine RA.nil nofun ?_
                    by_cases hc41 : t38 = t35
                    · rw [if_pos hc41] at H
                      refine AG.no rfl (bne_eq_false_iff_eq.2 hc41) ?_
                      refine AG.skip ?_
                      refine AG.seq ?_
                      refine AG.region HM ?_
                      refine a_ldB (v := .agg [_, _]) ?_ T25
                      obtain ⟨⟨t42, t43⟩, e44, H⟩ := bindO H
                      refine a_call (v := .agg [.own 226 t42.length, .own 227 t43.length]) (nk := [(226, .row 90 (t42.map c86)), (227, .row 2 (t43.map c2))]) (L := []) ?_ rfl (laws_toPacket.ok e44) (fun κ => cond (Nat.beq κ 226) 100 (cond (Nat.beq κ 227) 101 (κ))) (qg qn) trivial ⟨rfl, rfl, trivial⟩ ⟨rfl, rfl, trivial⟩ rfl
                      obtain ⟨⟨t45, t46⟩, e47, H⟩ := bindO H
                      refine a_call (v := .tup [.c (.own 228 t45.length), .c (.d (.v (.int .i64 t46)))]) (nk := [(228, .row 23 (t45.map c23))]) (L := [(226, _), (227, _)]) ?_ rfl (impl_DistributionOf.ok e47) (fun κ => cond (Nat.beq κ 228) 100 (κ)) (qm (eC rO (eC rO eN)) qn) ⟨rfl, rfl, trivial⟩ ⟨rfl, trivial⟩ ⟨rfl, trivial⟩ rfl
                      refine a_move (v := .tup [_, _]) ?_
                      refine a_ext (v := .c (.own _ _)) ?_
                      refine a_ext (v := vI _) ?_
                      refine a_move (v := .c (.own _ _)) ?_
                      refine a_move (v := vI _) ?_
                      refine RA.nil nofun ?_
                      refine AG.seq ?_
                      refine AG.seq ?_
                      refine AG.join (fun s => ∃ (x7 : List (List Int)) (x10 : Int) (x87 : Bool), laws_FnExactDistributionOf.j2 k x7 x10 x87 = some r ∧ s = St.of [(7, .c (.own 230 x7.length)), (10, vI x10), (87, vB x87)] [(230, .row 23 (x7.map c23))]) ?_ ?_
                      · skip
                        refine AG.region HM ?_
                        refine a_move (v := .c (.own _ _)) ?_
                        refine a_move (v := .c (.own _ _)) ?_
                        obtain ⟨t48, e49, H⟩ := bindO H
                        refine a_call (v := vB t48) (nk := []) (L := [(228, _), (222, _)]) ?_ rfl (laws_eqInt64SS.ok e49) id (qc rO (qc rO qn)) ⟨rfl, rfl, trivial⟩ trivial trivial rfl
                        refine a_un (u := .bool (!t48)) ?_
                        refine a_move (v := vB _) ?_
                        by_cases hc50 : t48 = true
                        · rw [if_pos hc50] at H
                          refine a_move (v := vI _) ?_ (hg := Gs.yes rfl rfl rfl (congrArg Bool.not hc50))
                          refine a_move (v := vI _) ?_ (hg := Gs.yes rfl rfl rfl (congrArg Bool.not hc50))
                          refine a_int (u := .bool ((t46 != x5))) ?_ (hg := Gs.yes rfl rfl rfl (congrArg Bool.not hc50))
                          refine a_pick (b := false) (v := vB _) ?_ (congrArg Bool.not hc50)
                          refine RA.nil nofun ?_
                          exact Can.mk (fun κ => cond (Nat.beq κ 230) 223 (κ)) ⟨_, _, _, H, rfl⟩ ⟨rfl, rfl, rfl, trivial⟩ ⟨rfl, trivial⟩ rfl
                        · rw [if_neg hc50] at H
                          refine RA.skip rfl rfl rfl rfl rfl (congrArg Bool.not (Bool.eq_false_iff.2 hc50)) (by decide) ?_
                          refine RA.skip rfl rfl rfl rfl rfl (congrArg Bool.not (Bool.eq_false_iff.2 hc50)) (by decide) ?_
                          refine RA.skip rfl rfl rfl rfl rfl (congrArg Bool.not (Bool.eq_false_iff.2 hc50)) (by decide) ?_
                          refine a_pick (b := true) (v := vB _) ?_ (congrArg Bool.not (Bool.eq_false_iff.2 hc50))
                          refine RA.nil nofun ?_
                          exact Can.mk (fun κ => cond (Nat.beq κ 230) 223 (κ)) ⟨_, _, _, H, rfl⟩ ⟨rfl, rfl, rfl, trivial⟩ ⟨rfl, trivial⟩ rfl
                      · clear H
                        rintro _ ⟨x7, x10, x87, H, rfl⟩
                        cases k with
                        | zero => cases H
                        | succ k =>
                          rw [laws_FnExactDistributionOf.j2] at H
                          by_cases hc51 : x87 = true
                          · rw [if_pos hc51] at H
                            refine AG.yes rfl hc51 ?_
                            refine AG.seq ?_
                            refine AG.region HM ?_
                            refine a_move (v := vB _) ?_
                            refine RA.nil nofun ?_
                            refine AG.ret ?_
                            obtain rfl := Option.some.inj H
                            exact RetP.mk id ⟨rfl, trivial⟩ trivial rfl
                          · rw [if_neg hc51] at H
                            refine AG.no rfl (Bool.eq_false_iff.2 hc51) ?_
                            refine AG.skip ?_
                            refine AG.seq ?_
                            refine AG.region HM ?_
                            refine a_move (v := vI _) ?_
                            refine RA.nil nofun ?_
                            refine AG.seq ?_
                            refine AG.region HM ?_
                            refine a_move (v := .c (.own _ _)) ?_
                            refine a_move (v := vI _) ?_
                            obtain ⟨t52, e53, H⟩ := bindO H
                            refine a_call (v := vI t52) (nk := []) (L := [(230, _)]) ?_ rfl (laws_heldInt64SS.ok e53) id (qc rO (qd qn)) ⟨rfl, trivial⟩ trivial trivial rfl
                            refine a_move (v := vI _) ?_
                            refine RA.nil nofun ?_
                            refine AG.seq ?_
                            refine AG.seq ?_
                            refine AG.region HM ?_
                            refine a_move (v := vI _) ?_
                            refine a_int (u := .bool (decide (t52 < 0))) ?_
                            refine RA.nil nofun ?_
                            by_cases hc54 : t52 < 0
                            · rw [if_pos hc54] at H
                              refine AG.yes rfl (decide_eq_true hc54) ?_
                              refine AG.seq ?_
                              refine AG.region HM ?_
                              refine a_move (v := vB _) ?_
                              refine RA.nil nofun ?_
                              refine AG.ret ?_
                              obtain rfl := Option.some.inj H
                              exact RetP.mk id ⟨rfl, trivial⟩ trivial rfl
                            · rw [if_neg hc54] at H
                              refine AG.no rfl (decide_eq_false hc54) ?_
                              refine AG.skip ?_
                              refine AG.seq ?_
                              refine AG.seq ?_
                              refine AG.region HM ?_
                              refine a_move (v := vI _) ?_
                              refine a_move (v := vI _) ?_
                              refine a_int (u := .bool ((t52 != x10))) ?_
                              refine RA.nil nofun ?_
                              by_cases hc55 : t52 = x10
                              · rw [if_pos hc55] at H
                                refine AG.no rfl (bne_eq_false_iff_eq.2 hc55) ?_
                                refine AG.skip ?_
                                refine AG.seq ?_
                                refine AG.region HM ?_
                                refine a_move (v := vB _) ?_
                                refine RA.nil nofun ?_
                                refine AG.ret ?_
                                obtain rfl := Option.some.inj H
                                exact RetP.mk id ⟨rfl, trivial⟩ trivial rfl
                              · rw [if_neg hc55] at H
                                refine AG.yes rfl (bne_iff_ne.2 hc55) ?_
                                refine AG.seq ?_
                                refine AG.region HM ?_
                                refine a_move (v := vB _) ?_
                                refine RA.nil nofun ?_
                                refine AG.ret ?_
                                obtain rfl := Option.some.inj H
                                exact RetP.mk id ⟨rfl, trivial⟩ trivial rfl
                    · rw [if_neg hc41] at H
                      refine AG.yes rfl (bne_iff_ne.2 hc41) ?_
                      refine AG.seq ?_
                      refine AG.region HM ?_
                      refine a_move (v := vB _) ?_
                      refine RA.nil nofun ?_
                      refine AG.ret ?_
                      obtain rfl := Option.some.inj H
                      exact RetP.mk id ⟨rfl, trivial⟩ trivial rfl
          · rw [if_neg hc25] at H
            refine AG.yes rfl (congrArg Bool.not (Bool.eq_false_iff.2 hc25)) ?_
            refine AG.seq ?_
            refine AG.region HM ?_
            refine a_move (v := vB _) ?_
            refine RA.nil nofun ?_
            refine AG.ret ?_
            obtain rfl := Option.some.inj H
            exact RetP.mk id ⟨rfl, trivial⟩ trivial rfl
def B86 (x : S86) : Prop := x.f0.size ≤ maxLen ∧ (Lit.int .i64 x.f1).wf = true ∧ (Lit.int .i64 x.f2).wf = true
def B24 (x : S24) : Prop := (x.f0.length ≤ maxLen ∧ ∀ x_ ∈ x.f0, B86 x_) ∧ (x.f1.length ≤ maxLen ∧ ∀ x_ ∈ x.f1, (Lit.int .i64 x_).wf = true)
/-- The one plain statement of laws_FnExactDistributionOf. -/
def laws_FnExactDistributionOf.Pure : Prop := ∀ (l0_0 : List S86) (l0_1 : List Int), B24 (⟨l0_0, l0_1⟩ : S24) → ∃ k, laws_FnExactDistributionOf.f k l0_0 l0_1 = some true
end Go.Proofs.Ytadjbffiomkljaa.PFnExactDistributionOf

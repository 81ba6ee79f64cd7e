/- What each function that the law FnExactCutTime reaches comes to, and the proof that its walk comes to it; laid by a program of this session. No condition. -/
import Derived.Test.YtanbgmnhbncapaaPFnExactCutTimex1
import Derived.KernelRfl
import Derived.OwnWalk
import Derived.Test.YtanbgmnhbncapaaProg
set_option linter.unusedVariables false
set_option linter.unusedSimpArgs false
namespace Go.Proofs.Ytanbgmnhbncapaa.PFnExactCutTime
open Go Go.RowKit Go.Proofs.YtanbgmnhbncapaaM Go.Proofs Go.Proofs.Ytanbgmnhbncapaa.SortP
/-! ### laws_FnExactCutTime: function 7 -/
def laws_FnExactCutTime.j0 : Nat → List Int → List Int → Int → Int → List S60 → List S91 → Int → Int → List S60 → List S91 → List Int → List Int → Bool → Option (Bool)
  | 0, _, _, _, _, _, _, _, _, _, _, _, _, _ => none
  | k + 1, x1, x2, y213_0, y213_1, y213_2, y213_3, y214_0, y214_1, y214_2, y214_3, x15, x16, x64 => if x64 = true then (some false) else ((laws_toDrawing.f k y213_0 y213_1 y213_2 y213_3).bind fun bt32 => ((laws_eqDrawing.f k y214_0 y214_1 y214_2 y214_3 bt32.1 bt32.2.1 bt32.2.2.1 bt32.2.2.2).bind fun t37 => (if t37 = true then ((laws_toInt64S.f k x1).bind fun t40 => ((laws_eqInt64S.f k x15 t40).bind fun t42 => (if t42 = true then ((laws_toInt64S.f k x2).bind fun t45 => ((laws_eqInt64S.f k x16 t45).bind fun t47 => (if t47 = true then (some true) else (some false)))) else (some false)))) else (some false))))
def laws_FnExactCutTime.f (k : Nat) (a0_0 : Int) (a0_1 : Int) (l0_2 : List S60) (l0_3 : List S91) (l1 : List Int) (l2 : List Int) (a3 : Int) (a4 : Int) : Option (Bool) := if (l1.length : Int) > 1048576 then (some true) else (if (l2.length : Int) > 1048576 then (some true) else ((laws_szDrawing.f k a0_0 a0_1 l0_2 l0_3 1048576).bind fun t3 => (if t3 < 0 then (some true) else ((laws_toDrawing.f k a0_0 a0_1 l0_2 l0_3).bind fun bt6 => ((laws_toInt64S.f k l1).bind fun t11 => ((laws_toInt64S.f k l2).bind fun t13 => ((spec_CutTime.f k bt6.1 bt6.2.1 bt6.2.2.1 bt6.2.2.2 t11 t13 a3 a4).bind fun bt15 => ((laws_toDrawing.f k a0_0 a0_1 l0_2 l0_3).bind fun bt18 => ((laws_toInt64S.f k l1).bind fun t23 => ((laws_toInt64S.f k l2).bind fun t25 => ((impl_CutTime.f k bt18.1 bt18.2.1 bt18.2.2.1 bt18.2.2.2 t23 t25 a3 a4).bind fun bt27 => (if bt27.1 = bt15.1 then (laws_FnExactCutTime.j0 k l1 l2 a0_0 a0_1 l0_2 l0_3 bt18.1 bt18.2.1 bt18.2.2.1 bt18.2.2.2 t23 t25 (bt27.2 != bt15.2)) else (laws_FnExactCutTime.j0 k l1 l2 a0_0 a0_1 l0_2 l0_3 bt18.1 bt18.2.1 bt18.2.2.1 bt18.2.2.2 t23 t25 true)))))))))))))
set_option maxRecDepth 100000 in
theorem laws_FnExactCutTime.ok {k : Nat} {a0_0 : Int} {a0_1 : Int} {l0_2 : List S60} {l0_3 : List S91} {l1 : List Int} {l2 : List Int} {a3 : Int} {a4 : Int} {r : Bool} (H : laws_FnExactCutTime.f k a0_0 a0_1 l0_2 l0_3 l1 l2 a3 a4 = some r) : OkF Try.prog 7 [.agg [.d (.v (.int .i64 a0_0)), .d (.v (.int .i64 a0_1)), .d (.row 95 (l0_2.map c60)), .d (.row 92 (l0_3.map c91))], vR 2 (l1.map c2), vR 2 (l2.map c2), vI a3, vI a4] [] (.c (.d (.v (.bool r)))) [] := by
  unfold laws_FnExactCutTime.f at H
  refine OkF.of (N := 80) (rs := [10]) (avs := [.c (.d (.v (.bool r)))]) Try.func7 rfl rfl (fun _ _ => results_tmp rfl _ _ _) (by decide) rfl rfl rfl rfl (fun w0 S => ?_)
  refine AG.seq ?_
  refine AG.region HM ?_
  refine a_box 200 ?_
  refine a_move (v := vB _) ?_
  refine RA.nil nofun ?_
  refine AG.seq ?_
  refine AG.seq ?_
  refine AG.region HM ?_
  refine a_move (v := vR _ _) ?_
  refine a_lenR ?_ Try.underlying38
  refine a_int (u := .bool (decide ((l1.length : Int) > 1048576))) ?_
  refine RA.nil nofun ?_
  by_cases hc1 : (l1.length : Int) > 1048576
  · rw [if_pos hc1] at H
    refine AG.yes rfl (decide_eq_true hc1) ?_
    refine AG.seq ?_
    refine AG.region HM ?_
    refine a_move (v := vB _) ?_
    refine RA.nil nofun ?_
    refine AG.ret ?_
    obtain rfl := Option.some.inj H
    exact RetP.mk id ⟨rfl, trivial⟩ trivial rfl
  · rw [if_neg hc1] at H
    refine AG.no rfl (decide_eq_false hc1) ?_
    refine AG.skip ?_
    refine AG.seq ?_
    refine AG.seq ?_
    refine AG.region HM ?_
    refine a_move (v := vR _ _) ?_
    refine a_lenR ?_ Try.underlying38
    refine a_int (u := .bool (decide ((l2.length : Int) > 1048576))) ?_
    refine RA.nil nofun ?_
    by_cases hc2 : (l2.length : Int) > 1048576
    · rw [if_pos hc2] at H
      refine AG.yes rfl (decide_eq_true hc2) ?_
      refine AG.seq ?_
      refine AG.region HM ?_
      refine a_move (v := vB _) ?_
      refine RA.nil nofun ?_
      refine AG.ret ?_
      obtain rfl := Option.some.inj H
      exact RetP.mk id ⟨rfl, trivial⟩ trivial rfl
    · rw [if_neg hc2] at H
      refine AG.no rfl (decide_eq_false hc2) ?_
      refine AG.skip ?_
      refine AG.seq ?_
      refine AG.region HM ?_
      refine a_move (v := vI _) ?_
      refine RA.nil nofun ?_
      refine AG.seq ?_
      refine AG.region HM ?_
      refine a_ldB (v := .agg [_, _, _, _]) ?_ T25
      refine a_move (v := vI _) ?_
      obtain ⟨t3, e4, H⟩ := bindO H
      refine a_call (v := vI t3) (nk := []) (L := []) ?_ rfl (laws_szDrawing.ok e4) id (qg (qd qn)) trivial trivial trivial rfl
      refine a_move (v := vI _) ?_
      refine RA.nil nofun ?_
      refine AG.seq ?_
      refine AG.seq ?_
      refine AG.region HM ?_
      refine a_move (v := vI _) ?_
      refine a_int (u := .bool (decide (t3 < 0))) ?_
      refine RA.nil nofun ?_
      by_cases hc5 : t3 < 0
      · rw [if_pos hc5] at H
        refine AG.yes rfl (decide_eq_true hc5) ?_
        refine AG.seq ?_
        refine AG.region HM ?_
        refine a_move (v := vB _) ?_
        refine RA.nil nofun ?_
        refine AG.ret ?_
        obtain rfl := Option.some.inj H
        exact RetP.mk id ⟨rfl, trivial⟩ trivial rfl
      · rw [if_neg hc5] at H
        refine AG.no rfl (decide_eq_false hc5) ?_
        refine AG.skip ?_
        refine AG.seq ?_
        refine AG.region HM ?_
        refine a_ldB (v := .agg [_, _, _, _]) ?_ T25
        obtain ⟨⟨t6, t7, t8, t9⟩, e10, H⟩ := bindO H
        refine a_call (v := .agg [.d (.v (.int .i64 t6)), .d (.v (.int .i64 t7)), .own 202 t8.length, .own 203 t9.length]) (nk := [(202, .row 61 (t8.map c60)), (203, .row 96 (t9.map c91))]) (L := []) ?_ rfl (laws_toDrawing.ok e10) (fun κ => cond (Nat.beq κ 202) 100 (cond (Nat.beq κ 203) 101 (κ))) (qg qn) trivial ⟨rfl, rfl, trivial⟩ ⟨rfl, rfl, trivial⟩ rfl
        refine a_move (v := vR _ _) ?_
        obtain ⟨t11, e12, H⟩ := bindO H
        refine a_call (v := .c (.own 204 t11.length)) (nk := [(204, .row 2 (t11.map c2))]) (L := []) ?_ rfl (laws_toInt64S.ok e12) (fun κ => cond (Nat.beq κ 204) 100 (κ)) (qd qn) trivial ⟨rfl, trivial⟩ ⟨rfl, trivial⟩ rfl
        refine a_move (v := vR _ _) ?_
        obtain ⟨t13, e14, H⟩ := bindO H
        refine a_call (v := .c (.own 205 t13.length)) (nk := [(205, .row 2 (t13.map c2))]) (L := []) ?_ rfl (laws_toInt64S.ok e14) (fun κ => cond (Nat.beq κ 205) 100 (κ)) (qd qn) trivial ⟨rfl, trivial⟩ ⟨rfl, trivial⟩ rfl
        refine a_move (v := vI _) ?_
        refine a_move (v := vI _) ?_
        obtain ⟨⟨t15, t16⟩, e17, H⟩ := bindO H
        refine a_call (v := .tup [.c (.d (.v (.int .i64 t15))), .c (.d (.v (.int .i64 t16)))]) (nk := []) (L := [(202, _), (203, _), (204, _), (205, _)]) ?_ rfl (spec_CutTime.ok e17) id (qm (eD (eD (eC rO (eC rO eN)))) (qc rO (qc rO (qd (qd qn))))) ⟨rfl, rfl, rfl, rfl, trivial⟩ trivial trivial rfl
        refine a_move (v := .tup [_, _]) ?_
        refine a_ext (v := vI _) ?_
        refine a_ext (v := vI _) ?_
        refine a_move (v := vI _) ?_
        refine a_move (v := vI _) ?_
        refine RA.nil nofun ?_
        refine AG.seq ?_
        refine AG.freeze 203 ?_
        refine AG.region HM ?_
        refine a_ldB (v := .agg [_, _, _, _]) ?_ T25
        obtain ⟨⟨t18, t19, t20, t21⟩, e22, H⟩ := bindO H
        refine a_call (v := .agg [.d (.v (.int .i64 t18)), .d (.v (.int .i64 t19)), .own 207 t20.length, .own 208 t21.length]) (nk := [(207, .row 61 (t20.map c60)), (208, .row 96 (t21.map c91))]) (L := []) ?_ rfl (laws_toDrawing.ok e22) (fun κ => cond (Nat.beq κ 207) 100 (cond (Nat.beq κ 208) 101 (κ))) (qg qn) trivial ⟨rfl, rfl, trivial⟩ ⟨rfl, rfl, trivial⟩ rfl
        refine a_alloc (cs := [_, _, _, _]) 209 ?_ T32
        refine a_stB (cs' := [_, _, _, _]) ?_ T32
        refine RA.nil nofun ?_
        refine AG.seq ?_
        refine AG.freeze 208 ?_
        refine AG.region HM ?_
        refine a_move (v := vR _ _) ?_
        obtain ⟨t23, e24, H⟩ := bindO H
        refine a_call (v := .c (.own 210 t23.length)) (nk := [(210, .row 2 (t23.map c2))]) (L := []) ?_ rfl (laws_toInt64S.ok e24) (fun κ => cond (Nat.beq κ 210) 100 (κ)) (qd qn) trivial ⟨rfl, trivial⟩ ⟨rfl, trivial⟩ rfl
        refine a_move (v := .c (.own _ _)) ?_
        refine RA.nil nofun ?_
        refine AG.seq ?_
        refine AG.region HM ?_
        refine a_move (v := vR _ _) ?_
        obtain ⟨t25, e26, H⟩ := bindO H
        refine a_call (v := .c (.own 211 t25.length)) (nk := [(211, .row 2 (t25.map c2))]) (L := []) ?_ rfl (laws_toInt64S.ok e26) (fun κ => cond (Nat.beq κ 211) 100 (κ)) (qd qn) trivial ⟨rfl, trivial⟩ ⟨rfl, trivial⟩ rfl
        refine a_move (v := .c (.own _ _)) ?_
        refine RA.nil nofun ?_
        refine AG.seq ?_
        refine AG.region HM ?_
        refine a_ldB (v := .agg [_, _, _, _]) ?_ T32
        refine a_move (v := .c (.own _ _)) ?_
        refine a_move (v := .c (.own _ _)) ?_
        refine a_move (v := vI _) ?_
        refine a_move (v := vI _) ?_
        obtain ⟨⟨t27, t28⟩, e29, H⟩ := bindO H
        refine a_call (v := .tup [.c (.d (.v (.int .i64 t27))), .c (.d (.v (.int .i64 t28)))]) (nk := []) (L := [(207, _), (210, _), (211, _)]) ?_ rfl (impl_CutTime.ok e29) id (qm (eD (eD (eC rO (eD eN)))) (qc rO (qc rO (qd (qd qn))))) ⟨rfl, rfl, rfl, trivial⟩ trivial trivial rfl
        refine a_move (v := .tup [_, _]) ?_
        refine a_ext (v := vI _) ?_
        refine a_ext (v := vI _) ?_
        refine a_move (v := vI _) ?_
        refine a_move (v := vI _) ?_
        refine RA.nil nofun ?_
        refine AG.seq ?_
        refine AG.seq ?_
        refine AG.join (fun s => ∃ q, q ≤ k ∧ ∃ (x1 : List Int) (x2 : List Int) (y213_0 : Int) (y213_1 : Int) (y213_2 : List S60) (y213_3 : List S91) (y214_0 : Int) (y214_1 : Int) (y214_2 : List S60) (y214_3 : List S91) (x15 : List Int) (x16 : List Int) (x64 : Bool), laws_FnExactCutTime.j0 q x1 x2 y213_0 y213_1 y213_2 y213_3 y214_0 y214_1 y214_2 y214_3 x15 x16 x64 = some r ∧ s = St.of [(1, vR 2 (x1.map c2)), (2, vR 2 (x2.map c2)), (5, .c (.ptr 213 0)), (14, .c (.ptr 214 0)), (15, .c (.own 216 x15.length)), (16, .c (.own 217 x16.length)), (64, vB x64)] [(213, .box 25 [.d (.v (.int .i64 y213_0)), .d (.v (.int .i64 y213_1)), .d (.row 95 (y213_2.map c60)), .d (.row 92 (y213_3.map c91))]), (214, .box 32 [.d (.v (.int .i64 y214_0)), .d (.v (.int .i64 y214_1)), .own 215 y214_2.length, .d (.row 96 (y214_3.map c91))]), (215, .row 61 (y214_2.map c60)), (216, .row 2 (x15.map c2)), (217, .row 2 (x16.map c2))]) ?_ ?_
        · skip
          refine AG.region HM ?_
          refine a_move (v := vI _) ?_
          refine a_move (v := vI _) ?_
          refine a_int (u := .bool ((t27 != t15))) ?_
          refine a_move (v := vB _) ?_
          by_cases hc30 : t27 = t15
          · rw [if_pos hc30] at H
            refine a_move (v := vI _) ?_ (hg := Gs.yes rfl rfl rfl (bne_eq_false_iff_eq.2 hc30))
            refine a_move (v := vI _) ?_ (hg := Gs.yes rfl rfl rfl (bne_eq_false_iff_eq.2 hc30))
            refine a_int (u := .bool ((t28 != t16))) ?_ (hg := Gs.yes rfl rfl rfl (bne_eq_false_iff_eq.2 hc30))
            refine a_pick (b := false) (v := vB _) ?_ (bne_eq_false_iff_eq.2 hc30)
            refine RA.nil nofun ?_
            exact Can.mk (fun κ => cond (Nat.beq κ 213) 200 (cond (Nat.beq κ 214) 209 (cond (Nat.beq κ 215) 207 (cond (Nat.beq κ 216) 210 (cond (Nat.beq κ 217) 211 (κ)))))) ⟨_, (by omega), _, _, _, _, _, _, _, _, _, _, _, _, _, H, rfl⟩ ⟨rfl, rfl, rfl, rfl, rfl, rfl, rfl, trivial⟩ ⟨rfl, rfl, rfl, rfl, rfl, trivial⟩ rfl
          · rw [if_neg hc30] at H
            refine RA.skip rfl rfl rfl rfl rfl (bne_iff_ne.2 hc30) (by decide) ?_
            refine RA.skip rfl rfl rfl rfl rfl (bne_iff_ne.2 hc30) (by decide) ?_
            refine RA.skip rfl rfl rfl rfl rfl (bne_iff_ne.2 hc30) (by decide) ?_
            refine a_pick (b := true) (v := vB _) ?_ (bne_iff_ne.2 hc30)
            refine RA.nil nofun ?_
            exact Can.mk (fun κ => cond (Nat.beq κ 213) 200 (cond (Nat.beq κ 214) 209 (cond (Nat.beq κ 215) 207 (cond (Nat.beq κ 216) 210 (cond (Nat.beq κ 217) 211 (κ)))))) ⟨_, (by omega), _, _, _, _, _, _, _, _, _, _, _, _, _, H, rfl⟩ ⟨rfl, rfl, rfl, rfl, rfl, rfl, rfl, trivial⟩ ⟨rfl, rfl, rfl, rfl, rfl, trivial⟩ rfl
        · clear H
          rintro _ ⟨k, hj0, x1, x2, y213_0, y213_1, y213_2, y213_3, y214_0, y214_1, y214_2, y214_3, x15, x16, x64, H, rfl⟩
          cases k with
          | zero => cases H
          | succ k =>
            rw [laws_FnExactCutTime.j0] at H
            by_cases hc31 : x64 = true
            · rw [if_pos hc31] at H
              refine AG.yes rfl hc31 ?_
              refine AG.seq ?_
              refine AG.region HM ?_
              refine a_move (v := vB _) ?_
              refine RA.nil nofun ?_
              refine AG.ret ?_
              obtain rfl := Option.some.inj H
              exact RetP.mk id ⟨rfl, trivial⟩ trivial rfl
            · rw [if_neg hc31] at H
              refine AG.no rfl (Bool.eq_false_iff.2 hc31) ?_
              refine AG.skip ?_
              refine AG.seq ?_
              refine AG.seq ?_
              refine AG.region HM ?_
              refine a_ldB (v := .agg [_, _, _, _]) ?_ T32
              refine a_ldB (v := .agg [_, _, _, _]) ?_ T25
              obtain ⟨⟨t32, t33, t34, t35⟩, e36, H⟩ := bindO H
              refine a_call (v := .agg [.d (.v (.int .i64 t32)), .d (.v (.int .i64 t33)), .own 218 t34.length, .own 219 t35.length]) (nk := [(218, .row 61 (t34.map c60)), (219, .row 96 (t35.map c91))]) (L := []) ?_ rfl (laws_toDrawing.ok e36) (fun κ => cond (Nat.beq κ 218) 100 (cond (Nat.beq κ 219) 101 (κ))) (qg qn) trivial ⟨rfl, rfl, trivial⟩ ⟨rfl, rfl, trivial⟩ rfl
              obtain ⟨t37, e38, H⟩ := bindO H
              refine a_call (v := vB t37) (nk := []) (L := [(215, _), (218, _), (219, _)]) ?_ rfl (laws_eqDrawing.ok e38) id (qm (eD (eD (eC rO (eD eN)))) (qm (eD (eD (eC rO (eC rO eN)))) qn)) ⟨rfl, rfl, rfl, trivial⟩ trivial trivial rfl
              refine a_un (u := .bool (!t37)) ?_
              refine RA.nil (fun _ => by kernel_rfl) ?_
              by_cases hc39 : t37 = true
              · rw [if_pos hc39] at H
                refine AG.no rfl (congrArg Bool.not hc39) ?_
                refine AG.skip ?_
                refine AG.seq ?_
                refine AG.seq ?_
                refine AG.freeze 219 ?_
                refine AG.region HM ?_
                refine a_move (v := .c (.own _ _)) ?_
                refine a_move (v := vR _ _) ?_
                obtain ⟨t40, e41, H⟩ := bindO H
                refine a_call (v := .c (.own 221 t40.length)) (nk := [(221, .row 2 (t40.map c2))]) (L := []) ?_ rfl (laws_toInt64S.ok e41) (fun κ => cond (Nat.beq κ 221) 100 (κ)) (qd qn) trivial ⟨rfl, trivial⟩ ⟨rfl, trivial⟩ rfl
                obtain ⟨t42, e43, H⟩ := bindO H
                refine a_call (v := vB t42) (nk := []) (L := [(216, _), (221, _)]) ?_ rfl (laws_eqInt64S.ok e43) id (qc rO (qc rO qn)) ⟨rfl, rfl, trivial⟩ trivial trivial rfl
                refine a_un (u := .bool (!t42)) ?_
                refine RA.nil nofun ?_
                by_cases hc44 : t42 = true
                · rw [if_pos hc44] at H
                  refine AG.no rfl (congrArg Bool.not hc44) ?_
                  refine AG.skip ?_
                  refine AG.seq ?_
                  refine AG.seq ?_
                  refine AG.region HM ?_
                  refine a_move (v := .c (.own _ _)) ?_
                  refine a_move (v := vR _ _) ?_
                  obtain ⟨t45, e46, H⟩ := bindO H
                  refine a_call (v := .c (.own 223 t45.length)) (nk := [(223, .row 2 (t45.map c2))]) (L := []) ?_ rfl (laws_toInt64S.ok e46) (fun κ => cond (Nat.beq κ 223) 100 (κ)) (qd qn) trivial ⟨rfl, trivial⟩ ⟨rfl, trivial⟩ rfl
                  obtain ⟨t47, e48, H⟩ := bindO H
                  refine a_call (v := vB t47) (nk := []) (L := [(217, _), (223, _)]) ?_ rfl (laws_eqInt64S.ok e48) id (qc rO (qc rO qn)) ⟨rfl, rfl, trivial⟩ trivial trivial rfl
                  refine a_un (u := .bool (!t47)) ?_
                  refine RA.nil nofun ?_
                  by_cases hc49 : t47 = true
                  · rw [if_pos hc49] at H
                    refine AG.no rfl (congrArg Bool.not hc49) ?_
                    refine AG.skip ?_
                    refine AG.seq ?_
                    refine AG.region HM ?_
                    refine a_move (v := vB _) ?_
                    refine RA.nil nofun ?_
                    refine AG.ret ?_
                    obtain rfl := Option.some.inj H
                    exact RetP.mk id ⟨rfl, trivial⟩ trivial rfl
                  · rw [if_neg hc49] at H
                    refine AG.yes rfl (congrArg Bool.not (Bool.eq_false_iff.2 hc49)) ?_
                    refine AG.seq ?_
                    refine AG.region HM ?_
                    refine a_move (v := vB _) ?_
                    refine RA.nil nofun ?_
                    refine AG.ret ?_
                    obtain rfl := Option.some.inj H
                    exact RetP.mk id ⟨rfl, trivial⟩ trivial rfl
                · rw [if_neg hc44] at H
                  refine AG.yes rfl (congrArg Bool.not (Bool.eq_false_iff.2 hc44)) ?_
                  refine AG.seq ?_
                  refine AG.region HM ?_
                  refine a_move (v := vB _) ?_
                  refine RA.nil nofun ?_
                  refine AG.ret ?_
                  obtain rfl := Option.some.inj H
                  exact RetP.mk id ⟨rfl, trivial⟩ trivial rfl
              · rw [if_neg hc39] at H
                refine AG.yes rfl (congrArg Bool.not (Bool.eq_false_iff.2 hc39)) ?_
                refine AG.seq ?_
                refine AG.freeze 219 ?_
                refine AG.region HM ?_
                refine a_move (v := vB _) ?_
                refine RA.nil nofun ?_
                refine AG.ret ?_
                obtain rfl := Option.some.inj H
                exact RetP.mk id ⟨rfl, trivial⟩ trivial rfl
def B60 (x : S60) : Prop := (Lit.int .i64 x.f0).wf = true ∧ (Lit.int .i64 x.f1).wf = true
def B91 (x : S91) : Prop := x.f0.size ≤ maxLen ∧ (x.f1.length ≤ maxLen ∧ ∀ x_ ∈ x.f1, (Lit.int .i64 x_).wf = true)
def B24 (x : S24) : Prop := (Lit.int .i64 x.f0).wf = true ∧ (Lit.int .i64 x.f1).wf = true ∧ (x.f2.length ≤ maxLen ∧ ∀ x_ ∈ x.f2, B60 x_) ∧ (x.f3.length ≤ maxLen ∧ ∀ x_ ∈ x.f3, B91 x_)
/-- The one plain statement of laws_FnExactCutTime. -/
def laws_FnExactCutTime.Pure : Prop := ∀ (a0_0 : Int) (a0_1 : Int) (l0_2 : List S60) (l0_3 : List S91) (l1 : List Int) (l2 : List Int) (a3 : Int) (a4 : Int), B24 (⟨a0_0, a0_1, l0_2, l0_3⟩ : S24) → (l1.length ≤ maxLen ∧ ∀ x_ ∈ l1, (Lit.int .i64 x_).wf = true) → (l2.length ≤ maxLen ∧ ∀ x_ ∈ l2, (Lit.int .i64 x_).wf = true) → (Lit.int .i64 a3).wf = true → (Lit.int .i64 a4).wf = true → ∃ k, laws_FnExactCutTime.f k a0_0 a0_1 l0_2 l0_3 l1 l2 a3 a4 = some true
end Go.Proofs.Ytanbgmnhbncapaa.PFnExactCutTime

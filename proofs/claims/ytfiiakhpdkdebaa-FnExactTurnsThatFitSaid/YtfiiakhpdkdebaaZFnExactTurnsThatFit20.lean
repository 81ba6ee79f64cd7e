/- What each function that a law reaches comes to, and the proof that its walk comes to it; laid by a program of this session. No condition. -/
import Derived.Test.YtfiiakhpdkdebaaZFnExactTurnsThatFit0
import Derived.Test.YtfiiakhpdkdebaaZFnExactTurnsThatFit2
import Derived.Test.YtfiiakhpdkdebaaZFnExactTurnsThatFit3
import Derived.Test.YtfiiakhpdkdebaaZFnExactTurnsThatFit4
import Derived.Test.YtfiiakhpdkdebaaZFnExactTurnsThatFit12
import Derived.Test.YtfiiakhpdkdebaaZFnExactTurnsThatFit19
namespace Go.Proofs.Ytfiiakhpdkdebaa.PFnExactTurnsThatFit
open Go.RowKit Go.Proofs.YtfiiakhpdkdebaaW.PrintWords Go.Proofs.YtfiiakhpdkdebaaW.PrintLast Go.Proofs.YtfiiakhpdkdebaaW.PrintMore
attribute [local go_sem] max2_int min2_int max_two min_two max_three min_three max_four min_four
set_option linter.unusedVariables false
set_option linter.unusedSimpArgs false
mutual
def laws_FnExactTurnsThatFit.j0 : Nat → List (S93) → List Int → Int → List (S91) → List Int → Int → Bool → ByteArray → ByteArray → Int → ByteArray → Int → Int → Int → Int → List (S136) → ByteArray → ByteArray → Int → ByteArray → Int → Int → Int → Int → List (S103) → Option (Bool)
 | 0, _, _, _, _, _, _, _, _, _, _, _, _, _, _, _, _, _, _, _, _, _, _, _, _, _ => none
 | k + 1, x0, x6, x7, x8, x10, x11, x53, x488000, x488001, x488002, x488003, x488004, x488005, x488006, x488007, x488008, x523000, x523001, x523002, x523003, x523004, x523005, x523006, x523007, x523008 => if x53 = true then (some false) else ((laws_toPointS.f k x0).bind fun t528 => ((laws_eqPointS.f k x8 t528).bind fun t531 => (if t531 = true then ((laws_toLeaf.f k x488000 x488001 x488002 x488003 x488004 x488005 x488006 x488007 x488008).bind fun bt532 => ((laws_eqLeaf.f k x523000 x523001 x523002 x523003 x523004 x523005 x523006 x523007 x523008 bt532.1 bt532.2.1 bt532.2.2.1 bt532.2.2.2.1 bt532.2.2.2.2.1 bt532.2.2.2.2.2.1 bt532.2.2.2.2.2.2.1 bt532.2.2.2.2.2.2.2.1 bt532.2.2.2.2.2.2.2.2).bind fun t543 => (if t543 = true then ((laws_markPointS.f k x8 1).bind fun bt544 => ((laws_markLeaf.f k x523000 x523001 x523002 x523003 x523004 x523005 x523006 x523007 x523008 bt544.1).bind fun bt546 => (if bt546.1 < 0 then (laws_FnExactTurnsThatFit.j1 k x0 x6 x7 x10 true x488000 x488001 x488002 x488003 x488004 x488005 x488006 x488007 x488008) else ((laws_eqInt64S.f k x10 x6).bind fun t548 => (if t548 = true then (laws_FnExactTurnsThatFit.j1 k x0 x6 x7 x10 (x11 != x7) x488000 x488001 x488002 x488003 x488004 x488005 x488006 x488007 x488008) else (laws_FnExactTurnsThatFit.j1 k x0 x6 x7 x10 true x488000 x488001 x488002 x488003 x488004 x488005 x488006 x488007 x488008)))))) else (some false)))) else (some false))))
def laws_FnExactTurnsThatFit.j1 : Nat → List (S93) → List Int → Int → List Int → Bool → ByteArray → ByteArray → Int → ByteArray → Int → Int → Int → Int → List (S136) → Option (Bool)
 | 0, _, _, _, _, _, _, _, _, _, _, _, _, _, _ => none
 | k + 1, x0, x6, x7, x10, x82, x488000, x488001, x488002, x488003, x488004, x488005, x488006, x488007, x488008 => if x82 = true then (some false) else ((laws_markInt64S.f k x10 1).bind fun bt549 => ((laws_heldInt64S.f k bt549.2 1).bind fun t551 => (if t551 < 0 then (some false) else (if t551 = bt549.1 then ((laws_toPointS.f k x0).bind fun t552 => ((laws_toLeaf.f k x488000 x488001 x488002 x488003 x488004 x488005 x488006 x488007 x488008).bind fun bt555 => ((impl_TurnsThatFit.f k t552 bt555.1 bt555.2.1 bt555.2.2.1 bt555.2.2.2.1 bt555.2.2.2.2.1 bt555.2.2.2.2.2.1 bt555.2.2.2.2.2.2.1 bt555.2.2.2.2.2.2.2.1 bt555.2.2.2.2.2.2.2.2).bind fun bt566 => ((laws_eqInt64S.f k bt566.1 x6).bind fun t570 => (if t570 = true then (laws_FnExactTurnsThatFit.j2 k bt549.2 bt549.1 (bt566.2 != x7)) else (laws_FnExactTurnsThatFit.j2 k bt549.2 bt549.1 true)))))) else (some false)))))
def laws_FnExactTurnsThatFit.j2 : Nat → List Int → Int → Bool → Option (Bool)
 | 0, _, _, _ => none
 | k + 1, x10, x13, x110 => if x110 = true then (some false) else ((laws_heldInt64S.f k x10 1).bind fun t571 => (if t571 < 0 then (some false) else (if t571 = x13 then (some true) else (some false))))
end
def laws_FnExactTurnsThatFit.f (k : Nat) (l0 : List (S93)) (a1_0 : ByteArray) (a1_1 : ByteArray) (a1_2 : Int) (a1_3 : ByteArray) (a1_4 : Int) (a1_5 : Int) (a1_6 : Int) (a1_7 : Int) (l1_8 : List (S136)) : Option (Bool) := (laws_szPointS.f l0 1048576).bind fun t488 => (if t488 < 0 then (some true) else ((laws_szLeaf.f a1_0 a1_1 a1_2 a1_3 a1_4 a1_5 a1_6 a1_7 l1_8 t488).bind fun t489 => (if t489 < 0 then (some true) else ((laws_toPointS.f k l0).bind fun t490 => ((laws_toLeaf.f k a1_0 a1_1 a1_2 a1_3 a1_4 a1_5 a1_6 a1_7 l1_8).bind fun bt493 => ((spec_TurnsThatFit.f k t490 bt493.1 bt493.2.1 bt493.2.2.1 bt493.2.2.2.1 bt493.2.2.2.2.1 bt493.2.2.2.2.2.1 bt493.2.2.2.2.2.2.1 bt493.2.2.2.2.2.2.2.1 bt493.2.2.2.2.2.2.2.2).bind fun bt504 => ((laws_toPointS.f k l0).bind fun t508 => ((laws_toLeaf.f k a1_0 a1_1 a1_2 a1_3 a1_4 a1_5 a1_6 a1_7 l1_8).bind fun bt511 => ((impl_TurnsThatFit.f k t508 bt511.1 bt511.2.1 bt511.2.2.1 bt511.2.2.2.1 bt511.2.2.2.2.1 bt511.2.2.2.2.2.1 bt511.2.2.2.2.2.2.1 bt511.2.2.2.2.2.2.2.1 bt511.2.2.2.2.2.2.2.2).bind fun bt523 => ((laws_eqInt64S.f k bt523.1 bt504.1).bind fun t527 => (if t527 = true then (laws_FnExactTurnsThatFit.j0 k l0 bt504.1 bt504.2 t508 bt523.1 bt523.2 (bt523.2 != bt504.2) a1_0 a1_1 a1_2 a1_3 a1_4 a1_5 a1_6 a1_7 l1_8 bt511.1 bt511.2.1 bt511.2.2.1 bt511.2.2.2.1 bt511.2.2.2.2.1 bt511.2.2.2.2.2.1 bt511.2.2.2.2.2.2.1 bt511.2.2.2.2.2.2.2.1 bt511.2.2.2.2.2.2.2.2) else (laws_FnExactTurnsThatFit.j0 k l0 bt504.1 bt504.2 t508 bt523.1 bt523.2 true a1_0 a1_1 a1_2 a1_3 a1_4 a1_5 a1_6 a1_7 l1_8 bt511.1 bt511.2.1 bt511.2.2.1 bt511.2.2.2.1 bt511.2.2.2.2.1 bt511.2.2.2.2.2.1 bt511.2.2.2.2.2.2.1 bt511.2.2.2.2.2.2.2.1 bt511.2.2.2.2.2.2.2.2))))))))))))
theorem laws_FnExactTurnsThatFit.mono_l : ∀ k, (∀ y0 y1 y2 y3 y4 y5 y6 y7 y8 y9 y10 y11 y12 y13 y14 y15 y16 y17 y18 y19 y20 y21 y22 y23 y24, LeO (laws_FnExactTurnsThatFit.j0 k y0 y1 y2 y3 y4 y5 y6 y7 y8 y9 y10 y11 y12 y13 y14 y15 y16 y17 y18 y19 y20 y21 y22 y23 y24) (laws_FnExactTurnsThatFit.j0 (k + 1) y0 y1 y2 y3 y4 y5 y6 y7 y8 y9 y10 y11 y12 y13 y14 y15 y16 y17 y18 y19 y20 y21 y22 y23 y24)) ∧ (∀ y0 y1 y2 y3 y4 y5 y6 y7 y8 y9 y10 y11 y12 y13, LeO (laws_FnExactTurnsThatFit.j1 k y0 y1 y2 y3 y4 y5 y6 y7 y8 y9 y10 y11 y12 y13) (laws_FnExactTurnsThatFit.j1 (k + 1) y0 y1 y2 y3 y4 y5 y6 y7 y8 y9 y10 y11 y12 y13)) ∧ (∀ y0 y1 y2, LeO (laws_FnExactTurnsThatFit.j2 k y0 y1 y2) (laws_FnExactTurnsThatFit.j2 (k + 1) y0 y1 y2))
 | 0 => ⟨fun _ _ _ _ _ _ _ _ _ _ _ _ _ _ _ _ _ _ _ _ _ _ _ _ _ r h => by simp [laws_FnExactTurnsThatFit.j0] at h, fun _ _ _ _ _ _ _ _ _ _ _ _ _ _ r h => by simp [laws_FnExactTurnsThatFit.j1] at h, fun _ _ _ r h => by simp [laws_FnExactTurnsThatFit.j2] at h⟩
 | k + 1 => by
   obtain ⟨ih0, ih1, ih2⟩ := laws_FnExactTurnsThatFit.mono_l k
   refine ⟨?_, ?_, ?_⟩
   · intro y0 y1 y2 y3 y4 y5 y6 y7 y8 y9 y10 y11 y12 y13 y14 y15 y16 y17 y18 y19 y20 y21 y22 y23 y24
     unfold laws_FnExactTurnsThatFit.j0
     repeat' first
     | (with_reducible exact ih0 _ _ _ _ _ _ _ _ _ _ _ _ _ _ _ _ _ _ _ _ _ _ _ _ _)
     | (with_reducible exact ih1 _ _ _ _ _ _ _ _ _ _ _ _ _ _)
     | (with_reducible exact ih2 _ _ _)
     | (with_reducible exact impl_TurnsThatFit.mono _ _ _ _ _ _ _ _ _ _ _)
     | (with_reducible exact laws_eqInt64S.mono _ _ _)
     | (with_reducible exact laws_eqLeaf.mono _ _ _ _ _ _ _ _ _ _ _ _ _ _ _ _ _ _ _)
     | (with_reducible exact laws_eqPointS.mono _ _ _)
     | (with_reducible exact laws_heldInt64S.mono _ _ _)
     | (with_reducible exact laws_markInt64S.mono _ _ _)
     | (with_reducible exact laws_markLeaf.mono _ _ _ _ _ _ _ _ _ _ _)
     | (with_reducible exact laws_markPointS.mono _ _ _)
     | (with_reducible exact laws_toLeaf.mono _ _ _ _ _ _ _ _ _ _)
     | (with_reducible exact laws_toPointS.mono _ _)
     | (with_reducible exact spec_TurnsThatFit.mono _ _ _ _ _ _ _ _ _ _ _)
     | (with_reducible exact LeO.refl _)
     | (with_reducible exact LeO.none _)
     | (with_reducible refine LeO.ite ?_ ?_)
     | (with_reducible refine LeO.bind ?_ (fun _ => ?_))
     | exact ih0 _ _ _ _ _ _ _ _ _ _ _ _ _ _ _ _ _ _ _ _ _ _ _ _ _
     | exact ih1 _ _ _ _ _ _ _ _ _ _ _ _ _ _
     | exact ih2 _ _ _
     | exact impl_TurnsThatFit.mono _ _ _ _ _ _ _ _ _ _ _
     | exact laws_eqInt64S.mono _ _ _
     | exact laws_eqLeaf.mono _ _ _ _ _ _ _ _ _ _ _ _ _ _ _ _ _ _ _
     | exact laws_eqPointS.mono _ _ _
     | exact laws_heldInt64S.mono _ _ _
     | exact laws_markInt64S.mono _ _ _
     | exact laws_markLeaf.mono _ _ _ _ _ _ _ _ _ _ _
     | exact laws_markPointS.mono _ _ _
     | exact laws_toLeaf.mono _ _ _ _ _ _ _ _ _ _
     | exact laws_toPointS.mono _ _
     | exact spec_TurnsThatFit.mono _ _ _ _ _ _ _ _ _ _ _
     | exact LeO.none _
     | refine LeO.ite ?_ ?_
     | refine LeO.bind ?_ (fun _ => ?_)
   · intro y0 y1 y2 y3 y4 y5 y6 y7 y8 y9 y10 y11 y12 y13
     unfold laws_FnExactTurnsThatFit.j1
     repeat' first
     | (with_reducible exact ih0 _ _ _ _ _ _ _ _ _ _ _ _ _ _ _ _ _ _ _ _ _ _ _ _ _)
     | (with_reducible exact ih1 _ _ _ _ _ _ _ _ _ _ _ _ _ _)
     | (with_reducible exact ih2 _ _ _)
     | (with_reducible exact impl_TurnsThatFit.mono _ _ _ _ _ _ _ _ _ _ _)
     | (with_reducible exact laws_eqInt64S.mono _ _ _)
     | (with_reducible exact laws_eqLeaf.mono _ _ _ _ _ _ _ _ _ _ _ _ _ _ _ _ _ _ _)
     | (with_reducible exact laws_eqPointS.mono _ _ _)
     | (with_reducible exact laws_heldInt64S.mono _ _ _)
     | (with_reducible exact laws_markInt64S.mono _ _ _)
     | (with_reducible exact laws_markLeaf.mono _ _ _ _ _ _ _ _ _ _ _)
     | (with_reducible exact laws_markPointS.mono _ _ _)
     | (with_reducible exact laws_toLeaf.mono _ _ _ _ _ _ _ _ _ _)
     | (with_reducible exact laws_toPointS.mono _ _)
     | (with_reducible exact spec_TurnsThatFit.mono _ _ _ _ _ _ _ _ _ _ _)
     | (with_reducible exact LeO.refl _)
     | (with_reducible exact LeO.none _)
     | (with_reducible refine LeO.ite ?_ ?_)
     | (with_reducible refine LeO.bind ?_ (fun _ => ?_))
     | exact ih0 _ _ _ _ _ _ _ _ _ _ _ _ _ _ _ _ _ _ _ _ _ _ _ _ _
     | exact ih1 _ _ _ _ _ _ _ _ _ _ _ _ _ _
     | exact ih2 _ _ _
     | exact impl_TurnsThatFit.mono _ _ _ _ _ _ _ _ _ _ _
     | exact laws_eqInt64S.mono _ _ _
     | exact laws_eqLeaf.mono _ _ _ _ _ _ _ _ _ _ _ _ _ _ _ _ _ _ _
     | exact laws_eqPointS.mono _ _ _
     | exact laws_heldInt64S.mono _ _ _
     | exact laws_markInt64S.mono _ _ _
     | exact laws_markLeaf.mono _ _ _ _ _ _ _ _ _ _ _
     | exact laws_markPointS.mono _ _ _
     | exact laws_toLeaf.mono _ _ _ _ _ _ _ _ _ _
     | exact laws_toPointS.mono _ _
     | exact spec_TurnsThatFit.mono _ _ _ _ _ _ _ _ _ _ _
     | exact LeO.none _
     | refine LeO.ite ?_ ?_
     | refine LeO.bind ?_ (fun _ => ?_)
   · intro y0 y1 y2
     unfold laws_FnExactTurnsThatFit.j2
     repeat' first
     | (with_reducible exact ih0 _ _ _ _ _ _ _ _ _ _ _ _ _ _ _ _ _ _ _ _ _ _ _ _ _)
     | (with_reducible exact ih1 _ _ _ _ _ _ _ _ _ _ _ _ _ _)
     | (with_reducible exact ih2 _ _ _)
     | (with_reducible exact impl_TurnsThatFit.mono _ _ _ _ _ _ _ _ _ _ _)
     | (with_reducible exact laws_eqInt64S.mono _ _ _)
     | (with_reducible exact laws_eqLeaf.mono _ _ _ _ _ _ _ _ _ _ _ _ _ _ _ _ _ _ _)
     | (with_reducible exact laws_eqPointS.mono _ _ _)
     | (with_reducible exact laws_heldInt64S.mono _ _ _)
     | (with_reducible exact laws_markInt64S.mono _ _ _)
     | (with_reducible exact laws_markLeaf.mono _ _ _ _ _ _ _ _ _ _ _)
     | (with_reducible exact laws_markPointS.mono _ _ _)
     | (with_reducible exact laws_toLeaf.mono _ _ _ _ _ _ _ _ _ _)
     | (with_reducible exact laws_toPointS.mono _ _)
     | (with_reducible exact spec_TurnsThatFit.mono _ _ _ _ _ _ _ _ _ _ _)
     | (with_reducible exact LeO.refl _)
     | (with_reducible exact LeO.none _)
     | (with_reducible refine LeO.ite ?_ ?_)
     | (with_reducible refine LeO.bind ?_ (fun _ => ?_))
     | exact ih0 _ _ _ _ _ _ _ _ _ _ _ _ _ _ _ _ _ _ _ _ _ _ _ _ _
     | exact ih1 _ _ _ _ _ _ _ _ _ _ _ _ _ _
     | exact ih2 _ _ _
     | exact impl_TurnsThatFit.mono _ _ _ _ _ _ _ _ _ _ _
     | exact laws_eqInt64S.mono _ _ _
     | exact laws_eqLeaf.mono _ _ _ _ _ _ _ _ _ _ _ _ _ _ _ _ _ _ _
     | exact laws_eqPointS.mono _ _ _
     | exact laws_heldInt64S.mono _ _ _
     | exact laws_markInt64S.mono _ _ _
     | exact laws_markLeaf.mono _ _ _ _ _ _ _ _ _ _ _
     | exact laws_markPointS.mono _ _ _
     | exact laws_toLeaf.mono _ _ _ _ _ _ _ _ _ _
     | exact laws_toPointS.mono _ _
     | exact spec_TurnsThatFit.mono _ _ _ _ _ _ _ _ _ _ _
     | exact LeO.none _
     | refine LeO.ite ?_ ?_
     | refine LeO.bind ?_ (fun _ => ?_)
theorem laws_FnExactTurnsThatFit.mono : ∀ a0 a1 a2 a3 a4 a5 a6 a7 a8 a9 k, LeO (laws_FnExactTurnsThatFit.f k a0 a1 a2 a3 a4 a5 a6 a7 a8 a9) (laws_FnExactTurnsThatFit.f (k + 1) a0 a1 a2 a3 a4 a5 a6 a7 a8 a9) := by
 intro a0 a1 a2 a3 a4 a5 a6 a7 a8 a9 k
 obtain ⟨ih0, ih1, ih2⟩ := laws_FnExactTurnsThatFit.mono_l k
 unfold laws_FnExactTurnsThatFit.f
 repeat' first
  | (with_reducible exact ih0 _ _ _ _ _ _ _ _ _ _ _ _ _ _ _ _ _ _ _ _ _ _ _ _ _)
  | (with_reducible exact ih1 _ _ _ _ _ _ _ _ _ _ _ _ _ _)
  | (with_reducible exact ih2 _ _ _)
  | (with_reducible exact impl_TurnsThatFit.mono _ _ _ _ _ _ _ _ _ _ _)
  | (with_reducible exact laws_eqInt64S.mono _ _ _)
  | (with_reducible exact laws_eqLeaf.mono _ _ _ _ _ _ _ _ _ _ _ _ _ _ _ _ _ _ _)
  | (with_reducible exact laws_eqPointS.mono _ _ _)
  | (with_reducible exact laws_heldInt64S.mono _ _ _)
  | (with_reducible exact laws_markInt64S.mono _ _ _)
  | (with_reducible exact laws_markLeaf.mono _ _ _ _ _ _ _ _ _ _ _)
  | (with_reducible exact laws_markPointS.mono _ _ _)
  | (with_reducible exact laws_toLeaf.mono _ _ _ _ _ _ _ _ _ _)
  | (with_reducible exact laws_toPointS.mono _ _)
  | (with_reducible exact spec_TurnsThatFit.mono _ _ _ _ _ _ _ _ _ _ _)
  | (with_reducible exact LeO.refl _)
  | (with_reducible exact LeO.none _)
  | (with_reducible refine LeO.ite ?_ ?_)
  | (with_reducible refine LeO.bind ?_ (fun _ => ?_))
  | exact ih0 _ _ _ _ _ _ _ _ _ _ _ _ _ _ _ _ _ _ _ _ _ _ _ _ _
  | exact ih1 _ _ _ _ _ _ _ _ _ _ _ _ _ _
  | exact ih2 _ _ _
  | exact impl_TurnsThatFit.mono _ _ _ _ _ _ _ _ _ _ _
  | exact laws_eqInt64S.mono _ _ _
  | exact laws_eqLeaf.mono _ _ _ _ _ _ _ _ _ _ _ _ _ _ _ _ _ _ _
  | exact laws_eqPointS.mono _ _ _
  | exact laws_heldInt64S.mono _ _ _
  | exact laws_markInt64S.mono _ _ _
  | exact laws_markLeaf.mono _ _ _ _ _ _ _ _ _ _ _
  | exact laws_markPointS.mono _ _ _
  | exact laws_toLeaf.mono _ _ _ _ _ _ _ _ _ _
  | exact laws_toPointS.mono _ _
  | exact spec_TurnsThatFit.mono _ _ _ _ _ _ _ _ _ _ _
  | exact LeO.none _
  | refine LeO.ite ?_ ?_
  | refine LeO.bind ?_ (fun _ => ?_)
def laws_FnExactTurnsThatFit.T8 : Bool × List (List Nat × List Nat) := (true, [([], []), ([0], [0]), ([], []), ([2, 1], [2]), ([1, 3, 3], [1, 3]), ([4], [4]), ([5], [5]), ([5], [5]), ([6, 4, 0, 1, 2, 3, 4, 5, 6], [6]), ([7, 8, 0, 1, 2, 3, 4, 5, 6, 7, 8], [7])])
def laws_FnExactTurnsThatFit.B8 : List Nat := [0, 1, 0, 7, 15, 31, 63, 63, 127, 511]
theorem laws_FnExactTurnsThatFit.tab8 : rtab .any (opsOf Try.f4 8) = laws_FnExactTurnsThatFit.T8 := by kernel_rfl
theorem laws_FnExactTurnsThatFit.bits8 : waitsOk laws_FnExactTurnsThatFit.T8.2 laws_FnExactTurnsThatFit.B8 = true := by kernel_rfl
def laws_FnExactTurnsThatFit.T31 : Bool × List (List Nat × List Nat) := (true, [([], []), ([0], [0]), ([], []), ([2, 1], [2]), ([1, 3, 3], [1, 3]), ([4], [4]), ([5], [5]), ([5], [5]), ([6, 4, 0, 1, 2, 3, 4, 5, 6], [6]), ([7, 8, 0, 1, 2, 3, 4, 5, 6, 7, 8], [7])])
def laws_FnExactTurnsThatFit.B31 : List Nat := [0, 1, 0, 7, 15, 31, 63, 63, 127, 511]
theorem laws_FnExactTurnsThatFit.tab31 : rtab .any (opsOf Try.f4 31) = laws_FnExactTurnsThatFit.T31 := by kernel_rfl
theorem laws_FnExactTurnsThatFit.bits31 : waitsOk laws_FnExactTurnsThatFit.T31.2 laws_FnExactTurnsThatFit.B31 = true := by kernel_rfl
set_option maxHeartbeats 8000000 in
set_option maxRecDepth 100000 in
theorem laws_FnExactTurnsThatFit.calls (k : Nat) (A0 : Option Addr) (c0 : Nat) (l0 : List (S93)) (a1_0 : ByteArray) (a1_1 : ByteArray) (a1_2 : Int) (a1_3 : ByteArray) (a1_4 : Int) (a1_5 : Int) (a1_6 : Int) (a1_7 : Int) (A1_8 : Option Addr) (c1_8 : Nat) (l1_8 : List (S136)) (r : Bool) (w : World) (hr0 : Kd.C k93 w A0 l0.length l0) (hc0 : l0.length ≤ c0) (hr1_8 : Kd.C k136 w A1_8 l1_8.length l1_8) (hc1_8 : l1_8.length ≤ c1_8) (h : laws_FnExactTurnsThatFit.f k l0 a1_0 a1_1 a1_2 a1_3 a1_4 a1_5 a1_6 a1_7 l1_8 = some r) :
 Calls Try.prog 4 #[.slice A0 l0.length c0, .agg #[.string a1_0, .string a1_1, .int .i64 a1_2, .string a1_3, .int .i64 a1_4, .int .i64 a1_5, .int .i64 a1_6, .int .i64 a1_7, .slice A1_8 l1_8.length c1_8]] w fun e w' => e = .returned (.bool r) ∧ Below w.heap.size w w' := by
 have hu27 := Try.underlying27
 have hu36 := Try.underlying36
 have HR0 := Aside0.mk hr0
 have HC0 := Aside0.mk hc0
 clear hr0 hc0
 have HR1_8 := Aside0.mk hr1_8
 have HC1_8 := Aside0.mk hc1_8
 clear hr1_8 hc1_8
 have HB := Aside0.mk (Below.refl w.heap.size w)
 have H : ((laws_szPointS.f l0 1048576).bind fun t488 => (if t488 < 0 then (some true) else ((laws_szLeaf.f a1_0 a1_1 a1_2 a1_3 a1_4 a1_5 a1_6 a1_7 l1_8 t488).bind fun t489 => (if t489 < 0 then (some true) else ((laws_toPointS.f k l0).bind fun t490 => ((laws_toLeaf.f k a1_0 a1_1 a1_2 a1_3 a1_4 a1_5 a1_6 a1_7 l1_8).bind fun bt493 => ((spec_TurnsThatFit.f k t490 bt493.1 bt493.2.1 bt493.2.2.1 bt493.2.2.2.1 bt493.2.2.2.2.1 bt493.2.2.2.2.2.1 bt493.2.2.2.2.2.2.1 bt493.2.2.2.2.2.2.2.1 bt493.2.2.2.2.2.2.2.2).bind fun bt504 => ((laws_toPointS.f k l0).bind fun t508 => ((laws_toLeaf.f k a1_0 a1_1 a1_2 a1_3 a1_4 a1_5 a1_6 a1_7 l1_8).bind fun bt511 => ((impl_TurnsThatFit.f k t508 bt511.1 bt511.2.1 bt511.2.2.1 bt511.2.2.2.1 bt511.2.2.2.2.1 bt511.2.2.2.2.2.1 bt511.2.2.2.2.2.2.1 bt511.2.2.2.2.2.2.2.1 bt511.2.2.2.2.2.2.2.2).bind fun bt523 => ((laws_eqInt64S.f k bt523.1 bt504.1).bind fun t527 => (if t527 = true then (laws_FnExactTurnsThatFit.j0 k l0 bt504.1 bt504.2 t508 bt523.1 bt523.2 (bt523.2 != bt504.2) a1_0 a1_1 a1_2 a1_3 a1_4 a1_5 a1_6 a1_7 l1_8 bt511.1 bt511.2.1 bt511.2.2.1 bt511.2.2.2.1 bt511.2.2.2.2.1 bt511.2.2.2.2.2.1 bt511.2.2.2.2.2.2.1 bt511.2.2.2.2.2.2.2.1 bt511.2.2.2.2.2.2.2.2) else (laws_FnExactTurnsThatFit.j0 k l0 bt504.1 bt504.2 t508 bt523.1 bt523.2 true a1_0 a1_1 a1_2 a1_3 a1_4 a1_5 a1_6 a1_7 l1_8 bt511.1 bt511.2.1 bt511.2.2.1 bt511.2.2.2.1 bt511.2.2.2.2.1 bt511.2.2.2.2.2.1 bt511.2.2.2.2.2.2.1 bt511.2.2.2.2.2.2.2.1 bt511.2.2.2.2.2.2.2.2))))))))))))) = some r := h
 clear h
 replace H := Option.bind_eq_some_iff.mp H
 obtain ⟨t488, A30, H⟩ := H
 have A3 := Aside0.mk A30
 clear A30
 by_cases c4 : t488 < 0
 · rw [if_pos c4] at H
   have c4b0 := decide_eq_true c4
   clear c4
   obtain rfl := Option.some.inj H
   go_enter Try.func4, Try.ntmps4
   go_wp2_with (first | ((with_reducible refine gate_dst (N := 3) rfl ?_); refine zB 3 #[.string a1_0, .string a1_1, .int .i64 a1_2, .string a1_3, .int .i64 a1_4, .int .i64 a1_5, .int .i64 a1_6, .int .i64 a1_7, .slice A1_8 l1_8.length c1_8] 27 ?_; intro gb487 hg w5 hbox hb; have BK487 := Aside0.mk (hbox); have GW487 := zS (pB0 HB.out) hg; have GE487 := zS (pB0 HB.out) hg; replace HB := zW (pB0 HB.out) hb; clear hb hbox hg) | ((with_reducible refine gate_callee (f := 9) rfl ?_); refine goesL_ (some 19) rfl rfl Try.func9 (by kernel_rfl) rfl #[.slice A0 l0.length c0, .int .i64 1048576] rfl pA ?_; (with_reducible refine (laws_szPointS.calls _ _ l0 1048576 t488 _ ?side1 ?side2 A3.out).mono ?_); (case side1 => exact pC (Kd.C_below HR0.out HB.out)); (case side2 => exact HC0.out); rintro e w' ⟨rfl, ⟨nd, rfl⟩⟩; refine ⟨_, rfl, ?_⟩))
   go_ret
   exact ⟨zE, pB1 HB.out GE487.out⟩
 rw [if_neg c4] at H
 have c4b0 : decide (t488 < 0) = false := decide_eq_false c4
 clear c4
 replace H := Option.bind_eq_some_iff.mp H
 obtain ⟨t489, A60, H⟩ := H
 have A6 := Aside0.mk A60
 clear A60
 by_cases c7 : t489 < 0
 · rw [if_pos c7] at H
   have c7b0 := decide_eq_true c7
   clear c7
   obtain rfl := Option.some.inj H
   go_enter Try.func4, Try.ntmps4
   go_wp2_with (first | ((with_reducible refine gate_dst (N := 3) rfl ?_); refine zB 3 #[.string a1_0, .string a1_1, .int .i64 a1_2, .string a1_3, .int .i64 a1_4, .int .i64 a1_5, .int .i64 a1_6, .int .i64 a1_7, .slice A1_8 l1_8.length c1_8] 27 ?_; intro gb487 hg w8 hbox hb; have BK487 := Aside0.mk (hbox); have GW487 := zS (pB0 HB.out) hg; have GE487 := zS (pB0 HB.out) hg; replace HB := zW (pB0 HB.out) hb; clear hb hbox hg) | ((with_reducible refine gate_callee (f := 9) rfl ?_); refine goesL_ (some 19) rfl rfl Try.func9 (by kernel_rfl) rfl #[.slice A0 l0.length c0, .int .i64 1048576] rfl pA ?_; (with_reducible refine (laws_szPointS.calls _ _ l0 1048576 t488 _ ?side1 ?side2 A3.out).mono ?_); (case side1 => exact pC (Kd.C_below HR0.out HB.out)); (case side2 => exact HC0.out); rintro e w' ⟨rfl, ⟨nd, rfl⟩⟩; refine ⟨_, rfl, ?_⟩; obtain ⟨hcz9_0, hfz9_0, hcz9_1, hfz9_1, hcz9_2, hfz9_2, hcz9_3, hfz9_3, hcz9_4, hfz9_4, hcz9_5, hfz9_5, hcz9_6, hfz9_6, hcz9_7, hfz9_7, hcz9_8, hfz9_8⟩ := zw9 BK487) | ((with_reducible refine gate_callee (f := 10) rfl ?_); refine goesL_ (some 24) rfl rfl Try.func10 (by kernel_rfl) rfl #[.agg #[.string a1_0, .string a1_1, .int .i64 a1_2, .string a1_3, .int .i64 a1_4, .int .i64 a1_5, .int .i64 a1_6, .int .i64 a1_7, .slice A1_8 l1_8.length c1_8], .int .i64 t488] rfl pA ?_; (with_reducible refine (laws_szLeaf.calls a1_0 a1_1 a1_2 a1_3 a1_4 a1_5 a1_6 a1_7 _ _ l1_8 t488 t489 _ ?side1 ?side2 A6.out).mono ?_); (case side1 => exact pC (Kd.C_below HR1_8.out (pB1 HB.out GE487.out))); (case side2 => exact HC1_8.out); rintro e w10 ⟨rfl, hb⟩; refine ⟨_, rfl, ?_⟩; replace BK487 := zK BK487 hb; replace HB := zW (pB1 HB.out GE487.out) hb; (try clear hb); (try clear hb2); (try clear hk); (try clear hi)))
   go_ret
   exact ⟨zE, pB1 HB.out GE487.out⟩
 rw [if_neg c7] at H
 have c7b0 : decide (t489 < 0) = false := decide_eq_false c7
 clear c7
 replace H := Option.bind_eq_some_iff.mp H
 obtain ⟨t490, A110, H⟩ := H
 have A11 := Aside0.mk A110
 clear A110
 replace H := Option.bind_eq_some_iff.mp H
 obtain ⟨⟨t493, t494, t495, t496, t497, t498, t499, t500, t501⟩, A120, H⟩ := H
 replace H : ((spec_TurnsThatFit.f k t490 t493 t494 t495 t496 t497 t498 t499 t500 t501).bind fun bt504 => ((laws_toPointS.f k l0).bind fun t508 => ((laws_toLeaf.f k a1_0 a1_1 a1_2 a1_3 a1_4 a1_5 a1_6 a1_7 l1_8).bind fun bt511 => ((impl_TurnsThatFit.f k t508 bt511.1 bt511.2.1 bt511.2.2.1 bt511.2.2.2.1 bt511.2.2.2.2.1 bt511.2.2.2.2.2.1 bt511.2.2.2.2.2.2.1 bt511.2.2.2.2.2.2.2.1 bt511.2.2.2.2.2.2.2.2).bind fun bt523 => ((laws_eqInt64S.f k bt523.1 bt504.1).bind fun t527 => (if t527 = true then (laws_FnExactTurnsThatFit.j0 k l0 bt504.1 bt504.2 t508 bt523.1 bt523.2 (bt523.2 != bt504.2) a1_0 a1_1 a1_2 a1_3 a1_4 a1_5 a1_6 a1_7 l1_8 bt511.1 bt511.2.1 bt511.2.2.1 bt511.2.2.2.1 bt511.2.2.2.2.1 bt511.2.2.2.2.2.1 bt511.2.2.2.2.2.2.1 bt511.2.2.2.2.2.2.2.1 bt511.2.2.2.2.2.2.2.2) else (laws_FnExactTurnsThatFit.j0 k l0 bt504.1 bt504.2 t508 bt523.1 bt523.2 true a1_0 a1_1 a1_2 a1_3 a1_4 a1_5 a1_6 a1_7 l1_8 bt511.1 bt511.2.1 bt511.2.2.1 bt511.2.2.2.1 bt511.2.2.2.2.1 bt511.2.2.2.2.2.1 bt511.2.2.2.2.2.2.1 bt511.2.2.2.2.2.2.2.1 bt511.2.2.2.2.2.2.2.2))))))) = some r := H
 have A12 := Aside0.mk A120
 clear A120
 replace H := Option.bind_eq_some_iff.mp H
 obtain ⟨⟨t504, t507⟩, A130, H⟩ := H
 replace H : ((laws_toPointS.f k l0).bind fun t508 => ((laws_toLeaf.f k a1_0 a1_1 a1_2 a1_3 a1_4 a1_5 a1_6 a1_7 l1_8).bind fun bt511 => ((impl_TurnsThatFit.f k t508 bt511.1 bt511.2.1 bt511.2.2.1 bt511.2.2.2.1 bt511.2.2.2.2.1 bt511.2.2.2.2.2.1 bt511.2.2.2.2.2.2.1 bt511.2.2.2.2.2.2.2.1 bt511.2.2.2.2.2.2.2.2).bind fun bt523 => ((laws_eqInt64S.f k bt523.1 t504).bind fun t527 => (if t527 = true then (laws_FnExactTurnsThatFit.j0 k l0 t504 t507 t508 bt523.1 bt523.2 (bt523.2 != t507) a1_0 a1_1 a1_2 a1_3 a1_4 a1_5 a1_6 a1_7 l1_8 bt511.1 bt511.2.1 bt511.2.2.1 bt511.2.2.2.1 bt511.2.2.2.2.1 bt511.2.2.2.2.2.1 bt511.2.2.2.2.2.2.1 bt511.2.2.2.2.2.2.2.1 bt511.2.2.2.2.2.2.2.2) else (laws_FnExactTurnsThatFit.j0 k l0 t504 t507 t508 bt523.1 bt523.2 true a1_0 a1_1 a1_2 a1_3 a1_4 a1_5 a1_6 a1_7 l1_8 bt511.1 bt511.2.1 bt511.2.2.1 bt511.2.2.2.1 bt511.2.2.2.2.1 bt511.2.2.2.2.2.1 bt511.2.2.2.2.2.2.1 bt511.2.2.2.2.2.2.2.1 bt511.2.2.2.2.2.2.2.2)))))) = some r := H
 have A13 := Aside0.mk A130
 clear A130
 replace H := Option.bind_eq_some_iff.mp H
 obtain ⟨t508, A140, H⟩ := H
 have A14 := Aside0.mk A140
 clear A140
 replace H := Option.bind_eq_some_iff.mp H
 obtain ⟨⟨t511, t512, t513, t514, t515, t516, t517, t518, t519⟩, A150, H⟩ := H
 replace H : ((impl_TurnsThatFit.f k t508 t511 t512 t513 t514 t515 t516 t517 t518 t519).bind fun bt523 => ((laws_eqInt64S.f k bt523.1 t504).bind fun t527 => (if t527 = true then (laws_FnExactTurnsThatFit.j0 k l0 t504 t507 t508 bt523.1 bt523.2 (bt523.2 != t507) a1_0 a1_1 a1_2 a1_3 a1_4 a1_5 a1_6 a1_7 l1_8 t511 t512 t513 t514 t515 t516 t517 t518 t519) else (laws_FnExactTurnsThatFit.j0 k l0 t504 t507 t508 bt523.1 bt523.2 true a1_0 a1_1 a1_2 a1_3 a1_4 a1_5 a1_6 a1_7 l1_8 t511 t512 t513 t514 t515 t516 t517 t518 t519)))) = some r := H
 have A15 := Aside0.mk A150
 clear A150
 replace H := Option.bind_eq_some_iff.mp H
 obtain ⟨⟨t523, t526⟩, A160, H⟩ := H
 replace H : ((laws_eqInt64S.f k t523 t504).bind fun t527 => (if t527 = true then (laws_FnExactTurnsThatFit.j0 k l0 t504 t507 t508 t523 t526 (t526 != t507) a1_0 a1_1 a1_2 a1_3 a1_4 a1_5 a1_6 a1_7 l1_8 t511 t512 t513 t514 t515 t516 t517 t518 t519) else (laws_FnExactTurnsThatFit.j0 k l0 t504 t507 t508 t523 t526 true a1_0 a1_1 a1_2 a1_3 a1_4 a1_5 a1_6 a1_7 l1_8 t511 t512 t513 t514 t515 t516 t517 t518 t519))) = some r := H
 have A16 := Aside0.mk A160
 clear A160
 have HC17 := Aside0.mk H
 clear H
 go_enter Try.func4, Try.ntmps4
 try go_wp2_with (first | ((with_reducible refine gate_dst (N := 3) rfl ?_); refine zB 3 #[.string a1_0, .string a1_1, .int .i64 a1_2, .string a1_3, .int .i64 a1_4, .int .i64 a1_5, .int .i64 a1_6, .int .i64 a1_7, .slice A1_8 l1_8.length c1_8] 27 ?_; intro gb487 hg w18 hbox hb; have BK487 := Aside0.mk (hbox); have GW487 := zS (pB0 HB.out) hg; have GE487 := zS (pB0 HB.out) hg; replace HB := zW (pB0 HB.out) hb; clear hb hbox hg) | ((with_reducible refine gate_callee (f := 9) rfl ?_); refine goesL_ (some 19) rfl rfl Try.func9 (by kernel_rfl) rfl #[.slice A0 l0.length c0, .int .i64 1048576] rfl pA ?_; (with_reducible refine (laws_szPointS.calls _ _ l0 1048576 t488 _ ?side1 ?side2 A3.out).mono ?_); (case side1 => exact pC (Kd.C_below HR0.out HB.out)); (case side2 => exact HC0.out); rintro e w' ⟨rfl, ⟨nd, rfl⟩⟩; refine ⟨_, rfl, ?_⟩; (try (rw [drewN_self w18]; generalize hq_ : World.drewN w18 _ = w18; have n0_ : Aside0 (w18.heap[gb487]? = some (.cells #[.string a1_0, .string a1_1, .int .i64 a1_2, .string a1_3, .int .i64 a1_4, .int .i64 a1_5, .int .i64 a1_6, .int .i64 a1_7, .slice A1_8 l1_8.length c1_8] 27 (0, 0))) := ⟨by rw [← hq_]; exact (pK BK487.out)⟩; have n1_ : Aside0 (Below w.heap.size w w18) := ⟨by rw [← hq_]; exact (pB1 HB.out GE487.out)⟩; clear BK487 HB hq_; have BK487 := n0_; have HB := n1_; clear n0_ n1_)); (try (obtain ⟨hcq487_0, hfq487_0, hcq487_1, hfq487_1, hcq487_2, hfq487_2, hcq487_3, hfq487_3, hcq487_4, hfq487_4, hcq487_5, hfq487_5, hcq487_6, hfq487_6, hcq487_7, hfq487_7, hcq487_8, hfq487_8⟩ := zw9 BK487)); obtain ⟨hcz19_0, hfz19_0, hcz19_1, hfz19_1, hcz19_2, hfz19_2, hcz19_3, hfz19_3, hcz19_4, hfz19_4, hcz19_5, hfz19_5, hcz19_6, hfz19_6, hcz19_7, hfz19_7, hcz19_8, hfz19_8⟩ := zw9 BK487) | ((with_reducible refine gate_callee (f := 10) rfl ?_); refine goesL_ (some 24) rfl rfl Try.func10 (by kernel_rfl) rfl #[.agg #[.string a1_0, .string a1_1, .int .i64 a1_2, .string a1_3, .int .i64 a1_4, .int .i64 a1_5, .int .i64 a1_6, .int .i64 a1_7, .slice A1_8 l1_8.length c1_8], .int .i64 t488] rfl pA ?_; (with_reducible refine (laws_szLeaf.calls a1_0 a1_1 a1_2 a1_3 a1_4 a1_5 a1_6 a1_7 _ _ l1_8 t488 t489 _ ?side1 ?side2 A6.out).mono ?_); (case side1 => exact pC (Kd.C_below HR1_8.out HB.out)); (case side2 => exact HC1_8.out); rintro e w20 ⟨rfl, hb⟩; refine ⟨_, rfl, ?_⟩; replace BK487 := zK BK487 hb; replace HB := zW (pB1 HB.out GE487.out) hb; (try clear hb); (try clear hb2); (try clear hk); (try clear hi)))
 replace BK487 := Aside0.mk (blk_drew BK487.out)
 replace HB := Aside0.mk (below_drew1 HB.out)
 refine start_ (n := 10) (S := fun w' => w'.cell? ⟨gb487, 0, none⟩ = some (.string a1_0) ∧ w'.cell? ⟨gb487, 1, none⟩ = some (.string a1_1) ∧ w'.cell? ⟨gb487, 2, none⟩ = some (.int .i64 a1_2) ∧ w'.cell? ⟨gb487, 3, none⟩ = some (.string a1_3) ∧ w'.cell? ⟨gb487, 4, none⟩ = some (.int .i64 a1_4) ∧ w'.cell? ⟨gb487, 5, none⟩ = some (.int .i64 a1_5) ∧ w'.cell? ⟨gb487, 6, none⟩ = some (.int .i64 a1_6) ∧ w'.cell? ⟨gb487, 7, none⟩ = some (.int .i64 a1_7) ∧ w'.cell? ⟨gb487, 8, none⟩ = some (.slice A1_8 l1_8.length c1_8)) (ds := []) (Array.replicate 10 false) (by kernel_rfl) rfl rfl ⟨zQ BK487 0, zQ BK487 1, zQ BK487 2, zQ BK487 3, zQ BK487 4, zQ BK487 5, zQ BK487 6, zQ BK487 7, zQ BK487 8⟩ (fun hHeld => ?_); refine with_tabW laws_FnExactTurnsThatFit.tab8 laws_FnExactTurnsThatFit.bits8 (fun HT_ HW_ => ?_)
 generalize w20.drew = w21 at BK487 HB hHeld ⊢
 refine zP 0 (some 28) (zb 10 1) HT_ ?_
 refine zT9 2 (some 30) (zb 10 5) HT_ HW_ hHeld ?_
 refine one_ (i := 1) (N := some 29) (zb 10 7) rfl rfl (one_of HT_.out (by kernel_rfl)) (by decide) (fun K hK => ?_)
 refine goes_ Try.func12 (by kernel_rfl) rfl #[.slice A0 l0.length c0] (by rfl) rfl rfl pA ?_
 with_reducible refine (laws_toPointS.calls k _ _ l0 t490 _ ?side1 ?side2 A11.out).mono ?_
 (case side1 => exact pC (Kd.C_below HR0.out HB.out))
 (case side2 => exact HC0.out)
 rintro e w22 ⟨v491, rfl, ho0, hb⟩
 refine ⟨_, rfl, ?_⟩
 have HO492 := Aside0.mk (Kd.R_lower ho0 (below_size (pB1 HB.out GE487.out)))
 replace BK487 := zK BK487 hb
 replace HB := zW (pB1 HB.out GE487.out) hb
 (try clear hb)
 (try clear hb2)
 (try clear hk)
 (try clear hi)
 (try clear ho0)
 refine hK.out _ _ ⟨zQ BK487 0, zQ BK487 1, zQ BK487 2, zQ BK487 3, zQ BK487 4, zQ BK487 5, zQ BK487 6, zQ BK487 7, zQ BK487 8⟩ (fun hHeld => ?_)
 clear hK K
 refine zN ?_
 refine one_ (i := 3) (N := some 31) (zb 10 15) rfl rfl (one_of HT_.out (by kernel_rfl)) (by decide) (fun K hK => ?_)
 refine goes_ Try.func13 (by kernel_rfl) rfl #[.agg #[.string a1_0, .string a1_1, .int .i64 a1_2, .string a1_3, .int .i64 a1_4, .int .i64 a1_5, .int .i64 a1_6, .int .i64 a1_7, .slice A1_8 l1_8.length c1_8]] (by rfl) rfl rfl pA ?_
 with_reducible refine (laws_toLeaf.calls k a1_0 a1_1 a1_2 a1_3 a1_4 a1_5 a1_6 a1_7 _ _ l1_8 t493 t494 t495 t496 t497 t498 t499 t500 t501 _ ?side1 ?side2 A12.out).mono ?_
 (case side1 => exact pC (Kd.C_below HR1_8.out HB.out))
 (case side2 => exact HC1_8.out)
 rintro e w23 ⟨v502, rfl, ho0, hb⟩
 refine ⟨_, rfl, ?_⟩
 have HO503 := Aside0.mk (Kd.R_lower ho0 (below_size (pB1 HB.out GE487.out)))
 replace HO492 := Aside0.mk (Kd.R_below (pR HO492.out) hb)
 replace BK487 := zK BK487 hb
 replace HB := zW (pB1 HB.out GE487.out) hb
 (try clear hb)
 (try clear hb2)
 (try clear hk)
 (try clear hi)
 (try clear ho0)
 obtain ⟨Ao24, co24, eo24⟩ := Kd.R_slice HO492.out
 (first | subst eo24 | (injection eo24 with f1_ f2_ f3_; have f4_ := f1_.symm; have f5_ := f3_.symm; clear f1_ f2_ f3_; subst f4_; subst f5_))
 obtain ⟨Ao25, co25, eo25⟩ := Kd.R_slice HO503.out
 (first | subst eo25 | (injection eo25 with f1_ f2_ f3_; have f4_ := f1_.symm; have f5_ := f3_.symm; clear f1_ f2_ f3_; subst f4_; subst f5_))
 refine hK.out _ _ ⟨zQ BK487 0, zQ BK487 1, zQ BK487 2, zQ BK487 3, zQ BK487 4, zQ BK487 5, zQ BK487 6, zQ BK487 7, zQ BK487 8⟩ (fun hHeld => ?_)
 clear hK K
 refine zN ?_
 refine one_ (i := 4) (N := some 32) (zb 10 31) rfl rfl (one_of HT_.out (by kernel_rfl)) (by decide) (fun K hK => ?_)
 refine goes_ Try.func17 (by kernel_rfl) rfl #[.slice Ao24 t490.length co24, .agg #[.string t493, .string t494, .int .i64 t495, .string t496, .int .i64 t497, .int .i64 t498, .int .i64 t499, .int .i64 t500, .slice Ao25 t501.length co25]] (by rfl) rfl rfl pA ?_
 with_reducible refine (spec_TurnsThatFit.calls k _ _ t490 t493 t494 t495 t496 t497 t498 t499 t500 _ _ t501 t504 t507 _ ?side1 ?side2 ?side3 ?side4 A13.out).mono ?_
 (case side1 => exact pC ((Kd.R_reads' HO492.out).2.2))
 (case side2 => exact (Kd.R_reads' HO492.out).2.1)
 (case side3 => exact pC ((Kd.R_reads' HO503.out).2.2))
 (case side4 => exact (Kd.R_reads' HO503.out).2.1)
 rintro e w26 ⟨v505, rfl, ho0, hb⟩
 refine ⟨_, rfl, ?_⟩
 have HO506 := Aside0.mk (Kd.R_lower ho0 (below_size (pB1 HB.out GE487.out)))
 replace HO492 := Aside0.mk (Kd.R_below (pR HO492.out) hb)
 replace HO503 := Aside0.mk (Kd.R_below (pR HO503.out) hb)
 replace BK487 := zK BK487 hb
 replace HB := zW (pB1 HB.out GE487.out) hb
 (try clear hb)
 (try clear hb2)
 (try clear hk)
 (try clear hi)
 (try clear ho0)
 refine hK.out _ _ ⟨zQ BK487 0, zQ BK487 1, zQ BK487 2, zQ BK487 3, zQ BK487 4, zQ BK487 5, zQ BK487 6, zQ BK487 7, zQ BK487 8⟩ (fun hHeld => ?_)
 clear hK K
 refine zN ?_
 refine zP 5 (some 27) (zb 10 63) HT_ ?_
 refine zP 6 (some 33) (zb 10 127) HT_ ?_
 refine zP 7 (some 34) (zb 10 255) HT_ ?_
 refine zP 8 (some 6) (zb 10 511) HT_ ?_
 refine zP 9 (some 7) (zb 10 1023) HT_ ?_
 refine done_ (done_of HT_.out (by kernel_rfl)) ?_
 go_upto_region 12 with (first | ((with_reducible refine gate_callee (f := 12) rfl ?_); refine goesL_ (some 36) rfl rfl Try.func12 (by kernel_rfl) rfl #[.slice A0 l0.length c0] rfl pA ?_; (with_reducible refine (laws_toPointS.calls k _ _ l0 t508 _ ?side1 ?side2 A14.out).mono ?_); (case side1 => exact pC (Kd.C_below HR0.out HB.out)); (case side2 => exact HC0.out); rintro e w27 ⟨v509, rfl, ho0, hb⟩; refine ⟨_, rfl, ?_⟩; have HO510 := Aside0.mk (Kd.R_lower (Kd.R_new' ho0 (Kd.R_lt (pR HO492.out))) (below_size (pB1 HB.out GE487.out))); replace HO492 := Aside0.mk (Kd.R_elder' (pR HO492.out) (Kd.R_base ho0) hb); replace HO503 := Aside0.mk (Kd.R_below (pR HO503.out) hb); replace HO506 := Aside0.mk (Kd.R_below (pR HO506.out) hb); replace BK487 := zK BK487 hb; replace HB := zW (pB1 HB.out GE487.out) hb; (try clear hb); (try clear hb2); (try clear hk); (try clear hi); (try clear ho0); obtain ⟨hcz28_0, hfz28_0, hcz28_1, hfz28_1, hcz28_2, hfz28_2, hcz28_3, hfz28_3, hcz28_4, hfz28_4, hcz28_5, hfz28_5, hcz28_6, hfz28_6, hcz28_7, hfz28_7, hcz28_8, hfz28_8⟩ := zw9 BK487) | ((with_reducible refine gate_callee (f := 13) rfl ?_); refine goesL_ (some 38) rfl rfl Try.func13 (by kernel_rfl) rfl #[.agg #[.string a1_0, .string a1_1, .int .i64 a1_2, .string a1_3, .int .i64 a1_4, .int .i64 a1_5, .int .i64 a1_6, .int .i64 a1_7, .slice A1_8 l1_8.length c1_8]] rfl pA ?_; (with_reducible refine (laws_toLeaf.calls k a1_0 a1_1 a1_2 a1_3 a1_4 a1_5 a1_6 a1_7 _ _ l1_8 t511 t512 t513 t514 t515 t516 t517 t518 t519 _ ?side1 ?side2 A15.out).mono ?_); (case side1 => exact pC (Kd.C_below HR1_8.out HB.out)); (case side2 => exact HC1_8.out); rintro e w29 ⟨v520, rfl, ho0, hb⟩; refine ⟨_, rfl, ?_⟩; have HO521 := Aside0.mk (Kd.R_lower (Kd.R_new' ho0 (Kd.R_lt (pR HO503.out))) (below_size (pB1 HB.out GE487.out))); replace HO492 := Aside0.mk (Kd.R_below (pR HO492.out) hb); replace HO503 := Aside0.mk (Kd.R_elder' (pR HO503.out) (Kd.R_base ho0) hb); replace HO506 := Aside0.mk (Kd.R_below (pR HO506.out) hb); replace HO510 := Aside0.mk (Kd.R_below (pR HO510.out) hb); replace BK487 := zK BK487 hb; replace HB := zW (pB1 HB.out GE487.out) hb; (try clear hb); (try clear hb2); (try clear hk); (try clear hi); (try clear ho0)) | ((with_reducible refine gate_dst (N := 9) rfl ?_); refine zB 9 #[.string (⟨#[]⟩ : ByteArray), .string (⟨#[]⟩ : ByteArray), .int .i64 0, .string (⟨#[]⟩ : ByteArray), .int .i64 0, .int .i64 0, .int .i64 0, .int .i64 0, .slice none 0 0] 36 ?_; intro gb522 hg w30 hbox hb; have BK522 := Aside0.mk (hbox); have GW522 := zS (pB1 HB.out GE487.out) hg; have GE522 := zS (pB1 HB.out GE487.out) hg; have NB487_522 := zL BK487 hg; have NB522_487 := zM BK487 hg; replace HO492 := Aside0.mk (Kd.R_below (pR HO492.out) hb); replace HO503 := Aside0.mk (Kd.R_below (pR HO503.out) hb); replace HO506 := Aside0.mk (Kd.R_below (pR HO506.out) hb); replace HO510 := Aside0.mk (Kd.R_below (pR HO510.out) hb); replace HO521 := Aside0.mk (Kd.R_below (pR HO521.out) hb); replace BK487 := zK BK487 hb; replace HB := zW (pB1 HB.out GE487.out) hb; clear hb hbox hg; have hnb31 := NB522_487.out; have hnc31 := NB487_522.out; obtain ⟨hcz32_0, hfz32_0, hcz32_1, hfz32_1, hcz32_2, hfz32_2, hcz32_3, hfz32_3, hcz32_4, hfz32_4, hcz32_5, hfz32_5, hcz32_6, hfz32_6, hcz32_7, hfz32_7, hcz32_8, hfz32_8⟩ := zw9 BK522; obtain ⟨Ao33, co33, eo33⟩ := Kd.R_slice HO521.out; subst eo33; obtain ⟨Ao34, co34, eo34⟩ := Kd.R_slice HO510.out; subst eo34) | ((with_reducible refine gate_callee (f := 18) rfl ?_); refine goesL_ (some 42) rfl rfl Try.func18 (by kernel_rfl) rfl #[.slice Ao34 t508.length co34, .agg #[.string t511, .string t512, .int .i64 t513, .string t514, .int .i64 t515, .int .i64 t516, .int .i64 t517, .int .i64 t518, .slice Ao33 t519.length co33]] rfl pA ?_; (with_reducible refine (impl_TurnsThatFit.calls k _ _ t508 t511 t512 t513 t514 t515 t516 t517 t518 _ _ t519 t523 t526 _ ?side1 ?side2 ?side3 ?side4 A16.out).mono ?_); (case side1 => refine (Kd.R_reads' (e := 91) (base := w.heap.size) (ok := fun k_ => (True ∧ some k_ ≠ (.slice Ao24 t490.length co24 : Value).ownBlock)) (n := t508.length) (c := co34) ?_).2.2; exact (by (with_reducible repeat (first | apply Kd.R_alloc | apply Kd.R_drewN | apply Kd.R_drew)); exact (Kd.R_mono (Kd.R_far (p := ⟨gb522, 8, none⟩) (Kd.R_far (p := ⟨gb522, 7, none⟩) (Kd.R_far (p := ⟨gb522, 6, none⟩) (Kd.R_far (p := ⟨gb522, 5, none⟩) (Kd.R_far (p := ⟨gb522, 4, none⟩) (Kd.R_far (p := ⟨gb522, 3, none⟩) (Kd.R_far (p := ⟨gb522, 2, none⟩) (Kd.R_far (p := ⟨gb522, 1, none⟩) (Kd.R_far (p := ⟨gb522, 0, none⟩) (Kd.R_types HO510.out BK522.out (by decide)) (fun _ hk => hk.2) (.string t511)) (fun _ hk => hk.2) (.string t512)) (fun _ hk => hk.2) (.int .i64 t513)) (fun _ hk => hk.2) (.string t514)) (fun _ hk => hk.2) (.int .i64 t515)) (fun _ hk => hk.2) (.int .i64 t516)) (fun _ hk => hk.2) (.int .i64 t517)) (fun _ hk => hk.2) (.int .i64 t518)) (fun _ hk => hk.2) (.slice Ao33 t519.length co33)) (fun _ h_ => h_.1)))); (case side2 => exact (Kd.R_reads' HO510.out).2.1); (case side3 => refine (Kd.R_reads' (e := 103) (base := w.heap.size) (ok := fun k_ => (True ∧ some k_ ≠ (.slice Ao25 t501.length co25 : Value).ownBlock)) (n := t519.length) (c := co33) ?_).2.2; exact (by (with_reducible repeat (first | apply Kd.R_alloc | apply Kd.R_drewN | apply Kd.R_drew)); exact (Kd.R_mono (Kd.R_far (p := ⟨gb522, 8, none⟩) (Kd.R_far (p := ⟨gb522, 7, none⟩) (Kd.R_far (p := ⟨gb522, 6, none⟩) (Kd.R_far (p := ⟨gb522, 5, none⟩) (Kd.R_far (p := ⟨gb522, 4, none⟩) (Kd.R_far (p := ⟨gb522, 3, none⟩) (Kd.R_far (p := ⟨gb522, 2, none⟩) (Kd.R_far (p := ⟨gb522, 1, none⟩) (Kd.R_far (p := ⟨gb522, 0, none⟩) (Kd.R_types HO521.out BK522.out (by decide)) (fun _ hk => hk.2) (.string t511)) (fun _ hk => hk.2) (.string t512)) (fun _ hk => hk.2) (.int .i64 t513)) (fun _ hk => hk.2) (.string t514)) (fun _ hk => hk.2) (.int .i64 t515)) (fun _ hk => hk.2) (.int .i64 t516)) (fun _ hk => hk.2) (.int .i64 t517)) (fun _ hk => hk.2) (.int .i64 t518)) (fun _ hk => hk.2) (.slice Ao33 t519.length co33)) (fun _ h_ => h_.1)))); (case side4 => exact (Kd.R_reads' HO521.out).2.1); rintro e w35 ⟨v524, rfl, ho0, hb⟩; refine ⟨_, rfl, ?_⟩; have HO525 := Aside0.mk (Kd.R_lower (Kd.R_new' ho0 (Kd.R_lt (by (with_reducible repeat (first | apply Kd.R_alloc | apply Kd.R_drewN | apply Kd.R_drew)); exact (Kd.R_mono (Kd.R_far (p := ⟨gb522, 8, none⟩) (Kd.R_far (p := ⟨gb522, 7, none⟩) (Kd.R_far (p := ⟨gb522, 6, none⟩) (Kd.R_far (p := ⟨gb522, 5, none⟩) (Kd.R_far (p := ⟨gb522, 4, none⟩) (Kd.R_far (p := ⟨gb522, 3, none⟩) (Kd.R_far (p := ⟨gb522, 2, none⟩) (Kd.R_far (p := ⟨gb522, 1, none⟩) (Kd.R_far (p := ⟨gb522, 0, none⟩) (Kd.R_types HO506.out BK522.out (by decide)) (fun _ hk => hk.2) (.string t511)) (fun _ hk => hk.2) (.string t512)) (fun _ hk => hk.2) (.int .i64 t513)) (fun _ hk => hk.2) (.string t514)) (fun _ hk => hk.2) (.int .i64 t515)) (fun _ hk => hk.2) (.int .i64 t516)) (fun _ hk => hk.2) (.int .i64 t517)) (fun _ hk => hk.2) (.int .i64 t518)) (fun _ hk => hk.2) (.slice Ao33 t519.length co33)) (fun _ h_ => h_.1))))) (below_size (pB2 HB.out GE487.out GE522.out))); replace HO492 := Aside0.mk (Kd.R_below (by (with_reducible repeat (first | apply Kd.R_alloc | apply Kd.R_drewN | apply Kd.R_drew)); exact (Kd.R_mono (Kd.R_far (p := ⟨gb522, 8, none⟩) (Kd.R_far (p := ⟨gb522, 7, none⟩) (Kd.R_far (p := ⟨gb522, 6, none⟩) (Kd.R_far (p := ⟨gb522, 5, none⟩) (Kd.R_far (p := ⟨gb522, 4, none⟩) (Kd.R_far (p := ⟨gb522, 3, none⟩) (Kd.R_far (p := ⟨gb522, 2, none⟩) (Kd.R_far (p := ⟨gb522, 1, none⟩) (Kd.R_far (p := ⟨gb522, 0, none⟩) (Kd.R_types HO492.out BK522.out (by decide)) (fun _ hk => hk.2) (.string t511)) (fun _ hk => hk.2) (.string t512)) (fun _ hk => hk.2) (.int .i64 t513)) (fun _ hk => hk.2) (.string t514)) (fun _ hk => hk.2) (.int .i64 t515)) (fun _ hk => hk.2) (.int .i64 t516)) (fun _ hk => hk.2) (.int .i64 t517)) (fun _ hk => hk.2) (.int .i64 t518)) (fun _ hk => hk.2) (.slice Ao33 t519.length co33)) (fun _ h_ => h_.1))) hb); replace HO503 := Aside0.mk (Kd.R_below (by (with_reducible repeat (first | apply Kd.R_alloc | apply Kd.R_drewN | apply Kd.R_drew)); exact (Kd.R_mono (Kd.R_far (p := ⟨gb522, 8, none⟩) (Kd.R_far (p := ⟨gb522, 7, none⟩) (Kd.R_far (p := ⟨gb522, 6, none⟩) (Kd.R_far (p := ⟨gb522, 5, none⟩) (Kd.R_far (p := ⟨gb522, 4, none⟩) (Kd.R_far (p := ⟨gb522, 3, none⟩) (Kd.R_far (p := ⟨gb522, 2, none⟩) (Kd.R_far (p := ⟨gb522, 1, none⟩) (Kd.R_far (p := ⟨gb522, 0, none⟩) (Kd.R_types HO503.out BK522.out (by decide)) (fun _ hk => hk.2) (.string t511)) (fun _ hk => hk.2) (.string t512)) (fun _ hk => hk.2) (.int .i64 t513)) (fun _ hk => hk.2) (.string t514)) (fun _ hk => hk.2) (.int .i64 t515)) (fun _ hk => hk.2) (.int .i64 t516)) (fun _ hk => hk.2) (.int .i64 t517)) (fun _ hk => hk.2) (.int .i64 t518)) (fun _ hk => hk.2) (.slice Ao33 t519.length co33)) (fun _ h_ => h_.1))) hb); replace HO506 := Aside0.mk (Kd.R_elder' (by (with_reducible repeat (first | apply Kd.R_alloc | apply Kd.R_drewN | apply Kd.R_drew)); exact (Kd.R_mono (Kd.R_far (p := ⟨gb522, 8, none⟩) (Kd.R_far (p := ⟨gb522, 7, none⟩) (Kd.R_far (p := ⟨gb522, 6, none⟩) (Kd.R_far (p := ⟨gb522, 5, none⟩) (Kd.R_far (p := ⟨gb522, 4, none⟩) (Kd.R_far (p := ⟨gb522, 3, none⟩) (Kd.R_far (p := ⟨gb522, 2, none⟩) (Kd.R_far (p := ⟨gb522, 1, none⟩) (Kd.R_far (p := ⟨gb522, 0, none⟩) (Kd.R_types HO506.out BK522.out (by decide)) (fun _ hk => hk.2) (.string t511)) (fun _ hk => hk.2) (.string t512)) (fun _ hk => hk.2) (.int .i64 t513)) (fun _ hk => hk.2) (.string t514)) (fun _ hk => hk.2) (.int .i64 t515)) (fun _ hk => hk.2) (.int .i64 t516)) (fun _ hk => hk.2) (.int .i64 t517)) (fun _ hk => hk.2) (.int .i64 t518)) (fun _ hk => hk.2) (.slice Ao33 t519.length co33)) (fun _ h_ => h_.1))) (Kd.R_base ho0) hb); replace HO510 := Aside0.mk (Kd.R_below (by (with_reducible repeat (first | apply Kd.R_alloc | apply Kd.R_drewN | apply Kd.R_drew)); exact (Kd.R_mono (Kd.R_far (p := ⟨gb522, 8, none⟩) (Kd.R_far (p := ⟨gb522, 7, none⟩) (Kd.R_far (p := ⟨gb522, 6, none⟩) (Kd.R_far (p := ⟨gb522, 5, none⟩) (Kd.R_far (p := ⟨gb522, 4, none⟩) (Kd.R_far (p := ⟨gb522, 3, none⟩) (Kd.R_far (p := ⟨gb522, 2, none⟩) (Kd.R_far (p := ⟨gb522, 1, none⟩) (Kd.R_far (p := ⟨gb522, 0, none⟩) (Kd.R_types HO510.out BK522.out (by decide)) (fun _ hk => hk.2) (.string t511)) (fun _ hk => hk.2) (.string t512)) (fun _ hk => hk.2) (.int .i64 t513)) (fun _ hk => hk.2) (.string t514)) (fun _ hk => hk.2) (.int .i64 t515)) (fun _ hk => hk.2) (.int .i64 t516)) (fun _ hk => hk.2) (.int .i64 t517)) (fun _ hk => hk.2) (.int .i64 t518)) (fun _ hk => hk.2) (.slice Ao33 t519.length co33)) (fun _ h_ => h_.1))) hb); replace HO521 := Aside0.mk (Kd.R_below (by (with_reducible repeat (first | apply Kd.R_alloc | apply Kd.R_drewN | apply Kd.R_drew)); exact (Kd.R_mono (Kd.R_far (p := ⟨gb522, 8, none⟩) (Kd.R_far (p := ⟨gb522, 7, none⟩) (Kd.R_far (p := ⟨gb522, 6, none⟩) (Kd.R_far (p := ⟨gb522, 5, none⟩) (Kd.R_far (p := ⟨gb522, 4, none⟩) (Kd.R_far (p := ⟨gb522, 3, none⟩) (Kd.R_far (p := ⟨gb522, 2, none⟩) (Kd.R_far (p := ⟨gb522, 1, none⟩) (Kd.R_far (p := ⟨gb522, 0, none⟩) (Kd.R_types HO521.out BK522.out (by decide)) (fun _ hk => hk.2) (.string t511)) (fun _ hk => hk.2) (.string t512)) (fun _ hk => hk.2) (.int .i64 t513)) (fun _ hk => hk.2) (.string t514)) (fun _ hk => hk.2) (.int .i64 t515)) (fun _ hk => hk.2) (.int .i64 t516)) (fun _ hk => hk.2) (.int .i64 t517)) (fun _ hk => hk.2) (.int .i64 t518)) (fun _ hk => hk.2) (.slice Ao33 t519.length co33)) (fun _ h_ => h_.1))) hb); replace BK487 := Aside0.mk (blk_below (g := gb487) (o := .cells #[.string a1_0, .string a1_1, .int .i64 a1_2, .string a1_3, .int .i64 a1_4, .int .i64 a1_5, .int .i64 a1_6, .int .i64 a1_7, .slice A1_8 l1_8.length c1_8] 27 (0, 0)) (by refine zf ?_ NB487_522; refine zf ?_ NB487_522; refine zf ?_ NB487_522; refine zf ?_ NB487_522; refine zf ?_ NB487_522; refine zf ?_ NB487_522; refine zf ?_ NB487_522; refine zf ?_ NB487_522; refine zf ?_ NB487_522; exact pK BK487.out) hb); replace BK522 := Aside0.mk (blk_below (g := gb522) (o := .cells #[.string t511, .string t512, .int .i64 t513, .string t514, .int .i64 t515, .int .i64 t516, .int .i64 t517, .int .i64 t518, .slice Ao33 t519.length co33] 36 (0, 0)) (by refine zg #[.string t511, .string t512, .int .i64 t513, .string t514, .int .i64 t515, .int .i64 t516, .int .i64 t517, .int .i64 t518, .slice none 0 0] 8 ?_; refine zg #[.string t511, .string t512, .int .i64 t513, .string t514, .int .i64 t515, .int .i64 t516, .int .i64 t517, .int .i64 0, .slice none 0 0] 7 ?_; refine zg #[.string t511, .string t512, .int .i64 t513, .string t514, .int .i64 t515, .int .i64 t516, .int .i64 0, .int .i64 0, .slice none 0 0] 6 ?_; refine zg #[.string t511, .string t512, .int .i64 t513, .string t514, .int .i64 t515, .int .i64 0, .int .i64 0, .int .i64 0, .slice none 0 0] 5 ?_; refine zg #[.string t511, .string t512, .int .i64 t513, .string t514, .int .i64 0, .int .i64 0, .int .i64 0, .int .i64 0, .slice none 0 0] 4 ?_; refine zg #[.string t511, .string t512, .int .i64 t513, .string (⟨#[]⟩ : ByteArray), .int .i64 0, .int .i64 0, .int .i64 0, .int .i64 0, .slice none 0 0] 3 ?_; refine zg #[.string t511, .string t512, .int .i64 0, .string (⟨#[]⟩ : ByteArray), .int .i64 0, .int .i64 0, .int .i64 0, .int .i64 0, .slice none 0 0] 2 ?_; refine zg #[.string t511, .string (⟨#[]⟩ : ByteArray), .int .i64 0, .string (⟨#[]⟩ : ByteArray), .int .i64 0, .int .i64 0, .int .i64 0, .int .i64 0, .slice none 0 0] 1 ?_; refine zg #[.string (⟨#[]⟩ : ByteArray), .string (⟨#[]⟩ : ByteArray), .int .i64 0, .string (⟨#[]⟩ : ByteArray), .int .i64 0, .int .i64 0, .int .i64 0, .int .i64 0, .slice none 0 0] 0 ?_; exact pK BK522.out) hb); replace HB := zW (pB2 HB.out GE487.out GE522.out) hb; (try clear hb); (try clear hb2); (try clear hk); (try clear hi); (try clear ho0)))
 (try simp only [Act.put, List.setIfInBounds_toArray, List.set_cons_zero, List.set_cons_succ])
 go_cut [53] (fun v53 wc => ∃ (kq : Nat) (x53_16 : Bool), v53 = .bool x53_16 ∧ Aside0 (laws_FnExactTurnsThatFit.j0 kq l0 t504 t507 t508 t523 t526 x53_16 a1_0 a1_1 a1_2 a1_3 a1_4 a1_5 a1_6 a1_7 l1_8 t511 t512 t513 t514 t515 t516 t517 t518 t519 = some r) ∧ Aside0 (kq ≤ k) ∧ Aside0 (Kd.R (Kd.int .i64) 2 wc w.heap.size (fun k_ => some k_ ≠ (v524 : Value).ownBlock) v505 t504) ∧ Aside0 (Kd.R k91 91 wc w.heap.size (fun _ => True) (.slice Ao34 t508.length co34) t508) ∧ Aside0 (Kd.R (Kd.int .i64) 2 wc w.heap.size (fun k_ => some k_ ≠ (v505 : Value).ownBlock) v524 t523) ∧ Aside0 (Kd.R k103 103 wc w.heap.size (fun _ => True) (.slice Ao33 t519.length co33) t519) ∧ Aside0 (wc.heap[gb487]? = some (.cells #[.string a1_0, .string a1_1, .int .i64 a1_2, .string a1_3, .int .i64 a1_4, .int .i64 a1_5, .int .i64 a1_6, .int .i64 a1_7, (.slice A1_8 l1_8.length c1_8)] 27 (0, 0))) ∧ Aside0 (wc.heap[gb522]? = some (.cells #[.string t511, .string t512, .int .i64 t513, .string t514, .int .i64 t515, .int .i64 t516, .int .i64 t517, .int .i64 t518, (.slice Ao33 t519.length co33)] 36 (0, 0))) ∧ Aside0 (Below w.heap.size w wc))
 case first =>
  have H := HC17.out
  clear HC17
  replace H := Option.bind_eq_some_iff.mp H
  obtain ⟨t527, A360, H⟩ := H
  have A36 := Aside0.mk A360
  clear A360
  by_cases c37 : t527 = true
  · subst c37
    have H1 : (laws_FnExactTurnsThatFit.j0 k l0 t504 t507 t508 t523 t526 (t526 != t507) a1_0 a1_1 a1_2 a1_3 a1_4 a1_5 a1_6 a1_7 l1_8 t511 t512 t513 t514 t515 t516 t517 t518 t519) = some r := by rw [if_pos rfl] at H; exact H
    clear H
    have H := H1
    clear H1
    have H' := Aside0.mk H
    clear H
    obtain ⟨Ao38, co38, eo38⟩ := Kd.R_slice HO525.out
    subst eo38
    obtain ⟨Ao39, co39, eo39⟩ := Kd.R_slice HO506.out
    subst eo39
    go_wp2_with (first | ((with_reducible refine gate_callee (f := 19) rfl ?_); refine goesL_ (some 47) rfl rfl Try.func19 (by kernel_rfl) rfl #[.slice Ao38 t523.length co38, .slice Ao39 t504.length co39] rfl pA ?_; (with_reducible refine (laws_eqInt64S.calls k _ _ t523 _ _ t504 true _ ?side1 ?side2 ?side3 ?side4 A36.out).mono ?_); (case side1 => exact pC ((Kd.R_reads' HO525.out).2.2)); (case side2 => exact (Kd.R_reads' HO525.out).2.1); (case side3 => exact pC ((Kd.R_reads' HO506.out).2.2)); (case side4 => exact (Kd.R_reads' HO506.out).2.1); rintro e w' ⟨rfl, ⟨nd, rfl⟩⟩; refine ⟨_, rfl, ?_⟩))
    go_meet
    case rel => exact ⟨_, ((t526 != t507)), zR, H', ⟨by first | omega | exact Nat.le_refl _⟩, ⟨by (with_reducible repeat (first | apply Kd.R_alloc | apply Kd.R_drewN | apply Kd.R_drew)); exact Kd.R_mono HO506.out (fun _ hk => hk.2)⟩, ⟨by (with_reducible repeat (first | apply Kd.R_alloc | apply Kd.R_drewN | apply Kd.R_drew)); exact Kd.R_mono HO510.out (fun _ hk => trivial)⟩, ⟨by (with_reducible repeat (first | apply Kd.R_alloc | apply Kd.R_drewN | apply Kd.R_drew)); exact Kd.R_mono HO525.out (fun _ hk => hk.2)⟩, ⟨by (with_reducible repeat (first | apply Kd.R_alloc | apply Kd.R_drewN | apply Kd.R_drew)); exact Kd.R_mono HO521.out (fun _ hk => trivial)⟩, ⟨pK BK487.out⟩, ⟨pK BK522.out⟩, ⟨pB2 HB.out GE487.out GE522.out⟩⟩
  replace c37 := Bool.eq_false_iff.mpr c37
  subst c37
  have H1 : (laws_FnExactTurnsThatFit.j0 k l0 t504 t507 t508 t523 t526 true a1_0 a1_1 a1_2 a1_3 a1_4 a1_5 a1_6 a1_7 l1_8 t511 t512 t513 t514 t515 t516 t517 t518 t519) = some r := by rw [if_neg (show ¬ (false = true) by decide)] at H; exact H
  clear H
  have H := H1
  clear H1
  have H' := Aside0.mk H
  clear H
  obtain ⟨Ao40, co40, eo40⟩ := Kd.R_slice HO525.out
  subst eo40
  obtain ⟨Ao41, co41, eo41⟩ := Kd.R_slice HO506.out
  subst eo41
  go_wp2_with (first | ((with_reducible refine gate_callee (f := 19) rfl ?_); refine goesL_ (some 47) rfl rfl Try.func19 (by kernel_rfl) rfl #[.slice Ao40 t523.length co40, .slice Ao41 t504.length co41] rfl pA ?_; (with_reducible refine (laws_eqInt64S.calls k _ _ t523 _ _ t504 false _ ?side1 ?side2 ?side3 ?side4 A36.out).mono ?_); (case side1 => exact pC ((Kd.R_reads' HO525.out).2.2)); (case side2 => exact (Kd.R_reads' HO525.out).2.1); (case side3 => exact pC ((Kd.R_reads' HO506.out).2.2)); (case side4 => exact (Kd.R_reads' HO506.out).2.1); rintro e w' ⟨rfl, ⟨nd, rfl⟩⟩; refine ⟨_, rfl, ?_⟩))
  go_meet
  case rel => exact ⟨_, (true), zR, H', ⟨by first | omega | exact Nat.le_refl _⟩, ⟨by (with_reducible repeat (first | apply Kd.R_alloc | apply Kd.R_drewN | apply Kd.R_drew)); exact Kd.R_mono HO506.out (fun _ hk => hk.2)⟩, ⟨by (with_reducible repeat (first | apply Kd.R_alloc | apply Kd.R_drewN | apply Kd.R_drew)); exact Kd.R_mono HO510.out (fun _ hk => trivial)⟩, ⟨by (with_reducible repeat (first | apply Kd.R_alloc | apply Kd.R_drewN | apply Kd.R_drew)); exact Kd.R_mono HO525.out (fun _ hk => hk.2)⟩, ⟨by (with_reducible repeat (first | apply Kd.R_alloc | apply Kd.R_drewN | apply Kd.R_drew)); exact Kd.R_mono HO521.out (fun _ hk => trivial)⟩, ⟨pK BK487.out⟩, ⟨pK BK522.out⟩, ⟨pB2 HB.out GE487.out GE522.out⟩⟩
 case rest =>
  clear HC17
  try clear c1
  try clear p2
  try clear c3
  try clear c4
  try clear c4b0
  try clear q4
  try clear c7
  try clear c7b0
  try clear c9
  try clear c10
  try clear c12
  try clear c13
  try clear c17
  try clear c18
  try clear c19
  try clear c31
  try clear c37
  try clear hcz19_0
  try clear hcz19_1
  try clear hcz19_2
  try clear hcz19_3
  try clear hcz19_4
  try clear hcz19_5
  try clear hcz19_6
  try clear hcz19_7
  try clear hcz19_8
  try clear hcz28_0
  try clear hcz28_1
  try clear hcz28_2
  try clear hcz28_3
  try clear hcz28_4
  try clear hcz28_5
  try clear hcz28_6
  try clear hcz28_7
  try clear hcz28_8
  try clear hcz32_0
  try clear hcz32_1
  try clear hcz32_2
  try clear hcz32_3
  try clear hcz32_4
  try clear hcz32_5
  try clear hcz32_6
  try clear hcz32_7
  try clear hcz32_8
  try clear hcz9_0
  try clear hcz9_1
  try clear hcz9_2
  try clear hcz9_3
  try clear hcz9_4
  try clear hcz9_5
  try clear hcz9_6
  try clear hcz9_7
  try clear hcz9_8
  try clear hfz19_0
  try clear hfz19_1
  try clear hfz19_2
  try clear hfz19_3
  try clear hfz19_4
  try clear hfz19_5
  try clear hfz19_6
  try clear hfz19_7
  try clear hfz19_8
  try clear hfz28_0
  try clear hfz28_1
  try clear hfz28_2
  try clear hfz28_3
  try clear hfz28_4
  try clear hfz28_5
  try clear hfz28_6
  try clear hfz28_7
  try clear hfz28_8
  try clear hfz32_0
  try clear hfz32_1
  try clear hfz32_2
  try clear hfz32_3
  try clear hfz32_4
  try clear hfz32_5
  try clear hfz32_6
  try clear hfz32_7
  try clear hfz32_8
  try clear hfz9_0
  try clear hfz9_1
  try clear hfz9_2
  try clear hfz9_3
  try clear hfz9_4
  try clear hfz9_5
  try clear hfz9_6
  try clear hfz9_7
  try clear hfz9_8
  obtain ⟨kq, x53_16, rfl, HA, HJ16, HO_6, HO_8, HO_10, HO_523008, BK487, BK522, HB⟩ := hcut
  cases kq with
  | zero => exact absurd HA.out (by simp [laws_FnExactTurnsThatFit.j0])
  | succ kj16 =>
    have H := HA.out
    clear HA
    simp only [laws_FnExactTurnsThatFit.j0] at H
    by_cases c42 : x53_16 = true
    · subst c42
      have H1 : (some false) = some r := by rw [if_pos rfl] at H; exact H
      clear H
      have H := H1
      clear H1
      obtain rfl := Option.some.inj H
      go_wp2
      go_ret
      exact ⟨zE, pB2 HB.out GE487.out GE522.out⟩
    replace c42 := Bool.eq_false_iff.mpr c42
    subst c42
    have H1 : ((laws_toPointS.f kj16 l0).bind fun t528 => ((laws_eqPointS.f kj16 t508 t528).bind fun t531 => (if t531 = true then ((laws_toLeaf.f kj16 a1_0 a1_1 a1_2 a1_3 a1_4 a1_5 a1_6 a1_7 l1_8).bind fun bt532 => ((laws_eqLeaf.f kj16 t511 t512 t513 t514 t515 t516 t517 t518 t519 bt532.1 bt532.2.1 bt532.2.2.1 bt532.2.2.2.1 bt532.2.2.2.2.1 bt532.2.2.2.2.2.1 bt532.2.2.2.2.2.2.1 bt532.2.2.2.2.2.2.2.1 bt532.2.2.2.2.2.2.2.2).bind fun t543 => (if t543 = true then ((laws_markPointS.f kj16 t508 1).bind fun bt544 => ((laws_markLeaf.f kj16 t511 t512 t513 t514 t515 t516 t517 t518 t519 bt544.1).bind fun bt546 => (if bt546.1 < 0 then (laws_FnExactTurnsThatFit.j1 kj16 l0 t504 t507 t523 true a1_0 a1_1 a1_2 a1_3 a1_4 a1_5 a1_6 a1_7 l1_8) else ((laws_eqInt64S.f kj16 t523 t504).bind fun t548 => (if t548 = true then (laws_FnExactTurnsThatFit.j1 kj16 l0 t504 t507 t523 (t526 != t507) a1_0 a1_1 a1_2 a1_3 a1_4 a1_5 a1_6 a1_7 l1_8) else (laws_FnExactTurnsThatFit.j1 kj16 l0 t504 t507 t523 true a1_0 a1_1 a1_2 a1_3 a1_4 a1_5 a1_6 a1_7 l1_8)))))) else (some false)))) else (some false)))) = some r := by rw [if_neg (show ¬ (false = true) by decide)] at H; exact H
    clear H
    have H := H1
    clear H1
    replace H := Option.bind_eq_some_iff.mp H
    obtain ⟨t528, A430, H⟩ := H
    have A43 := Aside0.mk A430
    clear A430
    replace H := Option.bind_eq_some_iff.mp H
    obtain ⟨t531, A440, H⟩ := H
    have A44 := Aside0.mk A440
    clear A440
    by_cases c45 : t531 = true
    rotate_left
    · replace c45 := Bool.eq_false_iff.mpr c45
      subst c45
      have H1 : (some false) = some r := by rw [if_neg (show ¬ (false = true) by decide)] at H; exact H
      clear H
      have H := H1
      clear H1
      obtain rfl := Option.some.inj H
      go_wp2_with (first | ((with_reducible refine gate_callee (f := 12) rfl ?_); refine goesL_ (some 56) rfl rfl Try.func12 (by kernel_rfl) rfl #[.slice A0 l0.length c0] rfl pA ?_; (with_reducible refine (laws_toPointS.calls kj16 _ _ l0 t528 _ ?side1 ?side2 A43.out).mono ?_); (case side1 => exact pC (Kd.C_below HR0.out HB.out)); (case side2 => exact HC0.out); rintro e w108 ⟨v529, rfl, ho0, hb⟩; refine ⟨_, rfl, ?_⟩; have HO530 := Aside0.mk (Kd.R_lower (Kd.R_new' ho0 (Kd.R_lt (pR HO_8.out))) (below_size (pB2 HB.out GE487.out GE522.out))); replace HO_6 := Aside0.mk (Kd.R_below (pR HO_6.out) hb); replace HO_8 := Aside0.mk (Kd.R_elder' (pR HO_8.out) (Kd.R_base ho0) hb); replace HO_10 := Aside0.mk (Kd.R_below (pR HO_10.out) hb); replace HO_523008 := Aside0.mk (Kd.R_below (pR HO_523008.out) hb); replace BK487 := zK BK487 hb; replace BK522 := zK BK522 hb; replace HB := zW (pB2 HB.out GE487.out GE522.out) hb; (try clear hb); (try clear hb2); (try clear hk); (try clear hi); (try clear ho0); obtain ⟨Ao109, co109, eo109⟩ := Kd.R_slice HO530.out; subst eo109) | ((with_reducible refine gate_callee (f := 15) rfl ?_); refine goesL_ (some 57) rfl rfl Try.func15 (by kernel_rfl) rfl #[.slice Ao34 t508.length co34, .slice Ao109 t528.length co109] rfl pA ?_; (with_reducible refine (laws_eqPointS.calls kj16 _ _ t508 _ _ t528 false _ ?side1 ?side2 ?side3 ?side4 A44.out).mono ?_); (case side1 => exact pC ((Kd.R_reads' HO_8.out).2.2)); (case side2 => exact (Kd.R_reads' HO_8.out).2.1); (case side3 => exact pC ((Kd.R_reads' HO530.out).2.2)); (case side4 => exact (Kd.R_reads' HO530.out).2.1); rintro e w110 ⟨rfl, hb⟩; refine ⟨_, rfl, ?_⟩; replace HO_6 := Aside0.mk (Kd.R_below (pR HO_6.out) hb); replace HO_8 := Aside0.mk (Kd.R_below (pR HO_8.out) hb); replace HO_10 := Aside0.mk (Kd.R_below (pR HO_10.out) hb); replace HO_523008 := Aside0.mk (Kd.R_below (pR HO_523008.out) hb); replace HO530 := Aside0.mk (Kd.R_below (pR HO530.out) hb); replace BK487 := zK BK487 hb; replace BK522 := zK BK522 hb; replace HB := zW (pB2 HB.out GE487.out GE522.out) hb; (try clear hb); (try clear hb2); (try clear hk); (try clear hi)))
      go_ret
      exact ⟨zE, pB2 HB.out GE487.out GE522.out⟩
    subst c45
    have H1 : ((laws_toLeaf.f kj16 a1_0 a1_1 a1_2 a1_3 a1_4 a1_5 a1_6 a1_7 l1_8).bind fun bt532 => ((laws_eqLeaf.f kj16 t511 t512 t513 t514 t515 t516 t517 t518 t519 bt532.1 bt532.2.1 bt532.2.2.1 bt532.2.2.2.1 bt532.2.2.2.2.1 bt532.2.2.2.2.2.1 bt532.2.2.2.2.2.2.1 bt532.2.2.2.2.2.2.2.1 bt532.2.2.2.2.2.2.2.2).bind fun t543 => (if t543 = true then ((laws_markPointS.f kj16 t508 1).bind fun bt544 => ((laws_markLeaf.f kj16 t511 t512 t513 t514 t515 t516 t517 t518 t519 bt544.1).bind fun bt546 => (if bt546.1 < 0 then (laws_FnExactTurnsThatFit.j1 kj16 l0 t504 t507 t523 true a1_0 a1_1 a1_2 a1_3 a1_4 a1_5 a1_6 a1_7 l1_8) else ((laws_eqInt64S.f kj16 t523 t504).bind fun t548 => (if t548 = true then (laws_FnExactTurnsThatFit.j1 kj16 l0 t504 t507 t523 (t526 != t507) a1_0 a1_1 a1_2 a1_3 a1_4 a1_5 a1_6 a1_7 l1_8) else (laws_FnExactTurnsThatFit.j1 kj16 l0 t504 t507 t523 true a1_0 a1_1 a1_2 a1_3 a1_4 a1_5 a1_6 a1_7 l1_8)))))) else (some false)))) = some r := by rw [if_pos rfl] at H; exact H
    clear H
    have H := H1
    clear H1
    replace H := Option.bind_eq_some_iff.mp H
    obtain ⟨⟨t532, t533, t534, t535, t536, t537, t538, t539, t540⟩, A460, H⟩ := H
    replace H : ((laws_eqLeaf.f kj16 t511 t512 t513 t514 t515 t516 t517 t518 t519 t532 t533 t534 t535 t536 t537 t538 t539 t540).bind fun t543 => (if t543 = true then ((laws_markPointS.f kj16 t508 1).bind fun bt544 => ((laws_markLeaf.f kj16 t511 t512 t513 t514 t515 t516 t517 t518 t519 bt544.1).bind fun bt546 => (if bt546.1 < 0 then (laws_FnExactTurnsThatFit.j1 kj16 l0 t504 t507 t523 true a1_0 a1_1 a1_2 a1_3 a1_4 a1_5 a1_6 a1_7 l1_8) else ((laws_eqInt64S.f kj16 t523 t504).bind fun t548 => (if t548 = true then (laws_FnExactTurnsThatFit.j1 kj16 l0 t504 t507 t523 (t526 != t507) a1_0 a1_1 a1_2 a1_3 a1_4 a1_5 a1_6 a1_7 l1_8) else (laws_FnExactTurnsThatFit.j1 kj16 l0 t504 t507 t523 true a1_0 a1_1 a1_2 a1_3 a1_4 a1_5 a1_6 a1_7 l1_8)))))) else (some false))) = some r := H
    have A46 := Aside0.mk A460
    clear A460
    replace H := Option.bind_eq_some_iff.mp H
    obtain ⟨t543, A470, H⟩ := H
    have A47 := Aside0.mk A470
    clear A470
    by_cases c48 : t543 = true
    rotate_left
    · replace c48 := Bool.eq_false_iff.mpr c48
      subst c48
      have H1 : (some false) = some r := by rw [if_neg (show ¬ (false = true) by decide)] at H; exact H
      clear H
      have H := H1
      clear H1
      obtain rfl := Option.some.inj H
      try go_wp2_with (first | ((with_reducible refine gate_callee (f := 12) rfl ?_); refine goesL_ (some 56) rfl rfl Try.func12 (by kernel_rfl) rfl #[.slice A0 l0.length c0] rfl pA ?_; (with_reducible refine (laws_toPointS.calls kj16 _ _ l0 t528 _ ?side1 ?side2 A43.out).mono ?_); (case side1 => exact pC (Kd.C_below HR0.out HB.out)); (case side2 => exact HC0.out); rintro e w101 ⟨v529, rfl, ho0, hb⟩; refine ⟨_, rfl, ?_⟩; have HO530 := Aside0.mk (Kd.R_lower (Kd.R_new' ho0 (Kd.R_lt (pR HO_8.out))) (below_size (pB2 HB.out GE487.out GE522.out))); replace HO_6 := Aside0.mk (Kd.R_below (pR HO_6.out) hb); replace HO_8 := Aside0.mk (Kd.R_elder' (pR HO_8.out) (Kd.R_base ho0) hb); replace HO_10 := Aside0.mk (Kd.R_below (pR HO_10.out) hb); replace HO_523008 := Aside0.mk (Kd.R_below (pR HO_523008.out) hb); replace BK487 := zK BK487 hb; replace BK522 := zK BK522 hb; replace HB := zW (pB2 HB.out GE487.out GE522.out) hb; (try clear hb); (try clear hb2); (try clear hk); (try clear hi); (try clear ho0); obtain ⟨Ao102, co102, eo102⟩ := Kd.R_slice HO530.out; subst eo102) | ((with_reducible refine gate_callee (f := 15) rfl ?_); refine goesL_ (some 57) rfl rfl Try.func15 (by kernel_rfl) rfl #[.slice Ao34 t508.length co34, .slice Ao102 t528.length co102] rfl pA ?_; (with_reducible refine (laws_eqPointS.calls kj16 _ _ t508 _ _ t528 true _ ?side1 ?side2 ?side3 ?side4 A44.out).mono ?_); (case side1 => exact pC ((Kd.R_reads' HO_8.out).2.2)); (case side2 => exact (Kd.R_reads' HO_8.out).2.1); (case side3 => exact pC ((Kd.R_reads' HO530.out).2.2)); (case side4 => exact (Kd.R_reads' HO530.out).2.1); rintro e w103 ⟨rfl, hb⟩; refine ⟨_, rfl, ?_⟩; replace HO_6 := Aside0.mk (Kd.R_below (pR HO_6.out) hb); replace HO_8 := Aside0.mk (Kd.R_below (pR HO_8.out) hb); replace HO_10 := Aside0.mk (Kd.R_below (pR HO_10.out) hb); replace HO_523008 := Aside0.mk (Kd.R_below (pR HO_523008.out) hb); replace HO530 := Aside0.mk (Kd.R_below (pR HO530.out) hb); replace BK487 := zK BK487 hb; replace BK522 := zK BK522 hb; replace HB := zW (pB2 HB.out GE487.out GE522.out) hb; (try clear hb); (try clear hb2); (try clear hk); (try clear hi)))
      replace HO_6 := Aside0.mk (Kd.R_drew HO_6.out)
      replace HO_8 := Aside0.mk (Kd.R_drew HO_8.out)
      replace HO_10 := Aside0.mk (Kd.R_drew HO_10.out)
      replace HO_523008 := Aside0.mk (Kd.R_drew HO_523008.out)
      replace HO530 := Aside0.mk (Kd.R_drew HO530.out)
      replace BK487 := Aside0.mk (blk_drew BK487.out)
      replace BK522 := Aside0.mk (blk_drew BK522.out)
      replace HB := Aside0.mk (below_drew1 HB.out)
      refine start_ (n := 5) (S := fun w' => w'.cell? ⟨gb522, 0, none⟩ = some (.string t511) ∧ w'.cell? ⟨gb522, 1, none⟩ = some (.string t512) ∧ w'.cell? ⟨gb522, 2, none⟩ = some (.int .i64 t513) ∧ w'.cell? ⟨gb522, 3, none⟩ = some (.string t514) ∧ w'.cell? ⟨gb522, 4, none⟩ = some (.int .i64 t515) ∧ w'.cell? ⟨gb522, 5, none⟩ = some (.int .i64 t516) ∧ w'.cell? ⟨gb522, 6, none⟩ = some (.int .i64 t517) ∧ w'.cell? ⟨gb522, 7, none⟩ = some (.int .i64 t518) ∧ w'.cell? ⟨gb522, 8, none⟩ = some (.slice Ao33 t519.length co33) ∧ w'.cell? ⟨gb487, 0, none⟩ = some (.string a1_0) ∧ w'.cell? ⟨gb487, 1, none⟩ = some (.string a1_1) ∧ w'.cell? ⟨gb487, 2, none⟩ = some (.int .i64 a1_2) ∧ w'.cell? ⟨gb487, 3, none⟩ = some (.string a1_3) ∧ w'.cell? ⟨gb487, 4, none⟩ = some (.int .i64 a1_4) ∧ w'.cell? ⟨gb487, 5, none⟩ = some (.int .i64 a1_5) ∧ w'.cell? ⟨gb487, 6, none⟩ = some (.int .i64 a1_6) ∧ w'.cell? ⟨gb487, 7, none⟩ = some (.int .i64 a1_7) ∧ w'.cell? ⟨gb487, 8, none⟩ = some (.slice A1_8 l1_8.length c1_8)) (ds := []) (Array.replicate 5 false) (by kernel_rfl) rfl rfl ⟨zQ BK522 0, zQ BK522 1, zQ BK522 2, zQ BK522 3, zQ BK522 4, zQ BK522 5, zQ BK522 6, zQ BK522 7, zQ BK522 8, zQ BK487 0, zQ BK487 1, zQ BK487 2, zQ BK487 3, zQ BK487 4, zQ BK487 5, zQ BK487 6, zQ BK487 7, zQ BK487 8⟩ (fun hHeld => ?_)
      generalize w103.drew = w104 at HO_6 HO_8 HO_10 HO_523008 HO530 BK487 BK522 HB hHeld ⊢
      refine take_ (i := 0) (N := some 59) (v := ?_) (a' := ?_) #[true, false, false, false, false] rfl rfl (by kernel_rfl) (fun _ _ _ h => h) (Or.inl ⟨by rfl, ?_⟩) hHeld ?_ ?_
      rotate_left
      · rintro w' ⟨s0, s1, s2, s3, s4, s5, s6, s7, s8, s9, s10, s11, s12, s13, s14, s15, s16, s17⟩
        go_simp
        with_reducible rfl
      rotate_left
      · simp only [Act.put, List.setIfInBounds_toArray, List.set_cons_zero, List.set_cons_succ, i64_w, i32_w]
        rfl
      refine take_ (i := 1) (N := some 60) (v := ?_) (a' := ?_) #[true, true, false, false, false] rfl rfl (by kernel_rfl) (fun _ _ _ h => h) (Or.inl ⟨by rfl, ?_⟩) hHeld ?_ ?_
      rotate_left
      · rintro w' ⟨s0, s1, s2, s3, s4, s5, s6, s7, s8, s9, s10, s11, s12, s13, s14, s15, s16, s17⟩
        go_simp
        with_reducible rfl
      rotate_left
      · simp only [Act.put, List.setIfInBounds_toArray, List.set_cons_zero, List.set_cons_succ, i64_w, i32_w]
        rfl
      refine one_ (i := 2) (N := some 61) (zb 5 7) rfl rfl (by kernel_rfl) (by decide) (fun K hK => ?_)
      refine goes_ Try.func13 (by kernel_rfl) rfl #[.agg #[.string a1_0, .string a1_1, .int .i64 a1_2, .string a1_3, .int .i64 a1_4, .int .i64 a1_5, .int .i64 a1_6, .int .i64 a1_7, .slice A1_8 l1_8.length c1_8]] (by rfl) rfl rfl pA ?_
      with_reducible refine (laws_toLeaf.calls kj16 a1_0 a1_1 a1_2 a1_3 a1_4 a1_5 a1_6 a1_7 _ _ l1_8 t532 t533 t534 t535 t536 t537 t538 t539 t540 _ ?side1 ?side2 A46.out).mono ?_
      (case side1 => exact pC (Kd.C_below HR1_8.out HB.out))
      (case side2 => exact HC1_8.out)
      rintro e w105 ⟨v541, rfl, ho0, hb⟩
      refine ⟨_, rfl, ?_⟩
      have HO542 := Aside0.mk (Kd.R_lower (Kd.R_new' ho0 (Kd.R_lt (pR HO_523008.out))) (below_size (pB2 HB.out GE487.out GE522.out)))
      replace HO_6 := Aside0.mk (Kd.R_below (pR HO_6.out) hb)
      replace HO_8 := Aside0.mk (Kd.R_below (pR HO_8.out) hb)
      replace HO_10 := Aside0.mk (Kd.R_below (pR HO_10.out) hb)
      replace HO_523008 := Aside0.mk (Kd.R_elder' (pR HO_523008.out) (Kd.R_base ho0) hb)
      replace HO530 := Aside0.mk (Kd.R_below (pR HO530.out) hb)
      replace BK487 := zK BK487 hb
      replace BK522 := zK BK522 hb
      replace HB := zW (pB2 HB.out GE487.out GE522.out) hb
      (try clear hb)
      (try clear hb2)
      (try clear hk)
      (try clear hi)
      (try clear ho0)
      obtain ⟨Ao106, co106, eo106⟩ := Kd.R_slice HO542.out
      (first | subst eo106 | (injection eo106 with f1_ f2_ f3_; have f4_ := f1_.symm; have f5_ := f3_.symm; clear f1_ f2_ f3_; subst f4_; subst f5_))
      refine hK.out _ _ ⟨zQ BK522 0, zQ BK522 1, zQ BK522 2, zQ BK522 3, zQ BK522 4, zQ BK522 5, zQ BK522 6, zQ BK522 7, zQ BK522 8, zQ BK487 0, zQ BK487 1, zQ BK487 2, zQ BK487 3, zQ BK487 4, zQ BK487 5, zQ BK487 6, zQ BK487 7, zQ BK487 8⟩ (fun hHeld => ?_)
      clear hK K
      refine zN ?_
      refine one_ (i := 3) (N := some 62) (zb 5 15) rfl rfl (by kernel_rfl) (by decide) (fun K hK => ?_)
      refine goes_ Try.func16 (by kernel_rfl) rfl #[.agg #[.string t511, .string t512, .int .i64 t513, .string t514, .int .i64 t515, .int .i64 t516, .int .i64 t517, .int .i64 t518, .slice Ao33 t519.length co33], .agg #[.string t532, .string t533, .int .i64 t534, .string t535, .int .i64 t536, .int .i64 t537, .int .i64 t538, .int .i64 t539, .slice Ao106 t540.length co106]] (by rfl) rfl rfl pA ?_
      with_reducible refine (laws_eqLeaf.calls kj16 t511 t512 t513 t514 t515 t516 t517 t518 _ _ t519 t532 t533 t534 t535 t536 t537 t538 t539 _ _ t540 false _ ?side1 ?side2 ?side3 ?side4 A47.out).mono ?_
      (case side1 => exact pC ((Kd.R_reads' HO_523008.out).2.2))
      (case side2 => exact (Kd.R_reads' HO_523008.out).2.1)
      (case side3 => exact pC ((Kd.R_reads' HO542.out).2.2))
      (case side4 => exact (Kd.R_reads' HO542.out).2.1)
      rintro e w107 ⟨rfl, hb⟩
      refine ⟨_, rfl, ?_⟩
      replace HO_6 := Aside0.mk (Kd.R_below (pR HO_6.out) hb)
      replace HO_8 := Aside0.mk (Kd.R_below (pR HO_8.out) hb)
      replace HO_10 := Aside0.mk (Kd.R_below (pR HO_10.out) hb)
      replace HO_523008 := Aside0.mk (Kd.R_below (pR HO_523008.out) hb)
      replace HO530 := Aside0.mk (Kd.R_below (pR HO530.out) hb)
      replace HO542 := Aside0.mk (Kd.R_below (pR HO542.out) hb)
      replace BK487 := zK BK487 hb
      replace BK522 := zK BK522 hb
      replace HB := zW (pB2 HB.out GE487.out GE522.out) hb
      (try clear hb)
      (try clear hb2)
      (try clear hk)
      (try clear hi)
      refine hK.out _ _ ⟨zQ BK522 0, zQ BK522 1, zQ BK522 2, zQ BK522 3, zQ BK522 4, zQ BK522 5, zQ BK522 6, zQ BK522 7, zQ BK522 8, zQ BK487 0, zQ BK487 1, zQ BK487 2, zQ BK487 3, zQ BK487 4, zQ BK487 5, zQ BK487 6, zQ BK487 7, zQ BK487 8⟩ (fun hHeld => ?_)
      clear hK K
      refine zN ?_
      refine pure_ (i := 4) (N := some 63) (v := ?_) (a' := ?_) #[true, true, true, true, true] rfl rfl (by kernel_rfl) (fun _ _ _ h => h) (Or.inl ⟨by rfl, ?_⟩) ?_ ?_
      rotate_left
      · intro w'
        go_simp
        with_reducible rfl
      rotate_left
      · simp only [Act.put, List.setIfInBounds_toArray, List.set_cons_zero, List.set_cons_succ, i64_w, i32_w]
        rfl
      refine done_ (by kernel_rfl) ?_
      try go_wp2
      go_ret
      exact ⟨zE, pB2 HB.out GE487.out GE522.out⟩
    subst c48
    have H1 : ((laws_markPointS.f kj16 t508 1).bind fun bt544 => ((laws_markLeaf.f kj16 t511 t512 t513 t514 t515 t516 t517 t518 t519 bt544.1).bind fun bt546 => (if bt546.1 < 0 then (laws_FnExactTurnsThatFit.j1 kj16 l0 t504 t507 t523 true a1_0 a1_1 a1_2 a1_3 a1_4 a1_5 a1_6 a1_7 l1_8) else ((laws_eqInt64S.f kj16 t523 t504).bind fun t548 => (if t548 = true then (laws_FnExactTurnsThatFit.j1 kj16 l0 t504 t507 t523 (t526 != t507) a1_0 a1_1 a1_2 a1_3 a1_4 a1_5 a1_6 a1_7 l1_8) else (laws_FnExactTurnsThatFit.j1 kj16 l0 t504 t507 t523 true a1_0 a1_1 a1_2 a1_3 a1_4 a1_5 a1_6 a1_7 l1_8)))))) = some r := by rw [if_pos rfl] at H; exact H
    clear H
    have H := H1
    clear H1
    replace H := Option.bind_eq_some_iff.mp H
    obtain ⟨⟨t544, t545⟩, A490, H⟩ := H
    replace H : ((laws_markLeaf.f kj16 t511 t512 t513 t514 t515 t516 t517 t518 t519 t544).bind fun bt546 => (if bt546.1 < 0 then (laws_FnExactTurnsThatFit.j1 kj16 l0 t504 t507 t523 true a1_0 a1_1 a1_2 a1_3 a1_4 a1_5 a1_6 a1_7 l1_8) else ((laws_eqInt64S.f kj16 t523 t504).bind fun t548 => (if t548 = true then (laws_FnExactTurnsThatFit.j1 kj16 l0 t504 t507 t523 (t526 != t507) a1_0 a1_1 a1_2 a1_3 a1_4 a1_5 a1_6 a1_7 l1_8) else (laws_FnExactTurnsThatFit.j1 kj16 l0 t504 t507 t523 true a1_0 a1_1 a1_2 a1_3 a1_4 a1_5 a1_6 a1_7 l1_8))))) = some r := H
    have A49 := Aside0.mk A490
    clear A490
    replace H := Option.bind_eq_some_iff.mp H
    obtain ⟨⟨t546, t547⟩, A500, H⟩ := H
    replace H : (if t546 < 0 then (laws_FnExactTurnsThatFit.j1 kj16 l0 t504 t507 t523 true a1_0 a1_1 a1_2 a1_3 a1_4 a1_5 a1_6 a1_7 l1_8) else ((laws_eqInt64S.f kj16 t523 t504).bind fun t548 => (if t548 = true then (laws_FnExactTurnsThatFit.j1 kj16 l0 t504 t507 t523 (t526 != t507) a1_0 a1_1 a1_2 a1_3 a1_4 a1_5 a1_6 a1_7 l1_8) else (laws_FnExactTurnsThatFit.j1 kj16 l0 t504 t507 t523 true a1_0 a1_1 a1_2 a1_3 a1_4 a1_5 a1_6 a1_7 l1_8)))) = some r := H
    have A50 := Aside0.mk A500
    clear A500
    have HC51 := Aside0.mk H
    clear H
    try go_wp2_with (first | ((with_reducible refine gate_callee (f := 12) rfl ?_); refine goesL_ (some 56) rfl rfl Try.func12 (by kernel_rfl) rfl #[.slice A0 l0.length c0] rfl pA ?_; (with_reducible refine (laws_toPointS.calls kj16 _ _ l0 t528 _ ?side1 ?side2 A43.out).mono ?_); (case side1 => exact pC (Kd.C_below HR0.out HB.out)); (case side2 => exact HC0.out); rintro e w52 ⟨v529, rfl, ho0, hb⟩; refine ⟨_, rfl, ?_⟩; have HO530 := Aside0.mk (Kd.R_lower (Kd.R_new' ho0 (Kd.R_lt (pR HO_8.out))) (below_size (pB2 HB.out GE487.out GE522.out))); replace HO_6 := Aside0.mk (Kd.R_below (pR HO_6.out) hb); replace HO_8 := Aside0.mk (Kd.R_elder' (pR HO_8.out) (Kd.R_base ho0) hb); replace HO_10 := Aside0.mk (Kd.R_below (pR HO_10.out) hb); replace HO_523008 := Aside0.mk (Kd.R_below (pR HO_523008.out) hb); replace BK487 := zK BK487 hb; replace BK522 := zK BK522 hb; replace HB := zW (pB2 HB.out GE487.out GE522.out) hb; (try clear hb); (try clear hb2); (try clear hk); (try clear hi); (try clear ho0); obtain ⟨Ao53, co53, eo53⟩ := Kd.R_slice HO530.out; subst eo53) | ((with_reducible refine gate_callee (f := 15) rfl ?_); refine goesL_ (some 57) rfl rfl Try.func15 (by kernel_rfl) rfl #[.slice Ao34 t508.length co34, .slice Ao53 t528.length co53] rfl pA ?_; (with_reducible refine (laws_eqPointS.calls kj16 _ _ t508 _ _ t528 true _ ?side1 ?side2 ?side3 ?side4 A44.out).mono ?_); (case side1 => exact pC ((Kd.R_reads' HO_8.out).2.2)); (case side2 => exact (Kd.R_reads' HO_8.out).2.1); (case side3 => exact pC ((Kd.R_reads' HO530.out).2.2)); (case side4 => exact (Kd.R_reads' HO530.out).2.1); rintro e w54 ⟨rfl, hb⟩; refine ⟨_, rfl, ?_⟩; replace HO_6 := Aside0.mk (Kd.R_below (pR HO_6.out) hb); replace HO_8 := Aside0.mk (Kd.R_below (pR HO_8.out) hb); replace HO_10 := Aside0.mk (Kd.R_below (pR HO_10.out) hb); replace HO_523008 := Aside0.mk (Kd.R_below (pR HO_523008.out) hb); replace HO530 := Aside0.mk (Kd.R_below (pR HO530.out) hb); replace BK487 := zK BK487 hb; replace BK522 := zK BK522 hb; replace HB := zW (pB2 HB.out GE487.out GE522.out) hb; (try clear hb); (try clear hb2); (try clear hk); (try clear hi)))
    replace HO_6 := Aside0.mk (Kd.R_drew HO_6.out)
    replace HO_8 := Aside0.mk (Kd.R_drew HO_8.out)
    replace HO_10 := Aside0.mk (Kd.R_drew HO_10.out)
    replace HO_523008 := Aside0.mk (Kd.R_drew HO_523008.out)
    replace HO530 := Aside0.mk (Kd.R_drew HO530.out)
    replace BK487 := Aside0.mk (blk_drew BK487.out)
    replace BK522 := Aside0.mk (blk_drew BK522.out)
    replace HB := Aside0.mk (below_drew1 HB.out)
    refine start_ (n := 5) (S := fun w' => w'.cell? ⟨gb522, 0, none⟩ = some (.string t511) ∧ w'.cell? ⟨gb522, 1, none⟩ = some (.string t512) ∧ w'.cell? ⟨gb522, 2, none⟩ = some (.int .i64 t513) ∧ w'.cell? ⟨gb522, 3, none⟩ = some (.string t514) ∧ w'.cell? ⟨gb522, 4, none⟩ = some (.int .i64 t515) ∧ w'.cell? ⟨gb522, 5, none⟩ = some (.int .i64 t516) ∧ w'.cell? ⟨gb522, 6, none⟩ = some (.int .i64 t517) ∧ w'.cell? ⟨gb522, 7, none⟩ = some (.int .i64 t518) ∧ w'.cell? ⟨gb522, 8, none⟩ = some (.slice Ao33 t519.length co33) ∧ w'.cell? ⟨gb487, 0, none⟩ = some (.string a1_0) ∧ w'.cell? ⟨gb487, 1, none⟩ = some (.string a1_1) ∧ w'.cell? ⟨gb487, 2, none⟩ = some (.int .i64 a1_2) ∧ w'.cell? ⟨gb487, 3, none⟩ = some (.string a1_3) ∧ w'.cell? ⟨gb487, 4, none⟩ = some (.int .i64 a1_4) ∧ w'.cell? ⟨gb487, 5, none⟩ = some (.int .i64 a1_5) ∧ w'.cell? ⟨gb487, 6, none⟩ = some (.int .i64 a1_6) ∧ w'.cell? ⟨gb487, 7, none⟩ = some (.int .i64 a1_7) ∧ w'.cell? ⟨gb487, 8, none⟩ = some (.slice A1_8 l1_8.length c1_8)) (ds := []) (Array.replicate 5 false) (by kernel_rfl) rfl rfl ⟨zQ BK522 0, zQ BK522 1, zQ BK522 2, zQ BK522 3, zQ BK522 4, zQ BK522 5, zQ BK522 6, zQ BK522 7, zQ BK522 8, zQ BK487 0, zQ BK487 1, zQ BK487 2, zQ BK487 3, zQ BK487 4, zQ BK487 5, zQ BK487 6, zQ BK487 7, zQ BK487 8⟩ (fun hHeld => ?_)
    generalize w54.drew = w55 at HO_6 HO_8 HO_10 HO_523008 HO530 BK487 BK522 HB hHeld ⊢
    refine take_ (i := 0) (N := some 59) (v := ?_) (a' := ?_) #[true, false, false, false, false] rfl rfl (by kernel_rfl) (fun _ _ _ h => h) (Or.inl ⟨by rfl, ?_⟩) hHeld ?_ ?_
    rotate_left
    · rintro w' ⟨s0, s1, s2, s3, s4, s5, s6, s7, s8, s9, s10, s11, s12, s13, s14, s15, s16, s17⟩
      go_simp
      with_reducible rfl
    rotate_left
    · simp only [Act.put, List.setIfInBounds_toArray, List.set_cons_zero, List.set_cons_succ, i64_w, i32_w]
      rfl
    refine take_ (i := 1) (N := some 60) (v := ?_) (a' := ?_) #[true, true, false, false, false] rfl rfl (by kernel_rfl) (fun _ _ _ h => h) (Or.inl ⟨by rfl, ?_⟩) hHeld ?_ ?_
    rotate_left
    · rintro w' ⟨s0, s1, s2, s3, s4, s5, s6, s7, s8, s9, s10, s11, s12, s13, s14, s15, s16, s17⟩
      go_simp
      with_reducible rfl
    rotate_left
    · simp only [Act.put, List.setIfInBounds_toArray, List.set_cons_zero, List.set_cons_succ, i64_w, i32_w]
      rfl
    refine one_ (i := 2) (N := some 61) (zb 5 7) rfl rfl (by kernel_rfl) (by decide) (fun K hK => ?_)
    refine goes_ Try.func13 (by kernel_rfl) rfl #[.agg #[.string a1_0, .string a1_1, .int .i64 a1_2, .string a1_3, .int .i64 a1_4, .int .i64 a1_5, .int .i64 a1_6, .int .i64 a1_7, .slice A1_8 l1_8.length c1_8]] (by rfl) rfl rfl pA ?_
    with_reducible refine (laws_toLeaf.calls kj16 a1_0 a1_1 a1_2 a1_3 a1_4 a1_5 a1_6 a1_7 _ _ l1_8 t532 t533 t534 t535 t536 t537 t538 t539 t540 _ ?side1 ?side2 A46.out).mono ?_
    (case side1 => exact pC (Kd.C_below HR1_8.out HB.out))
    (case side2 => exact HC1_8.out)
    rintro e w56 ⟨v541, rfl, ho0, hb⟩
    refine ⟨_, rfl, ?_⟩
    have HO542 := Aside0.mk (Kd.R_lower (Kd.R_new' ho0 (Kd.R_lt (pR HO_523008.out))) (below_size (pB2 HB.out GE487.out GE522.out)))
    replace HO_6 := Aside0.mk (Kd.R_below (pR HO_6.out) hb)
    replace HO_8 := Aside0.mk (Kd.R_below (pR HO_8.out) hb)
    replace HO_10 := Aside0.mk (Kd.R_below (pR HO_10.out) hb)
    replace HO_523008 := Aside0.mk (Kd.R_elder' (pR HO_523008.out) (Kd.R_base ho0) hb)
    replace HO530 := Aside0.mk (Kd.R_below (pR HO530.out) hb)
    replace BK487 := zK BK487 hb
    replace BK522 := zK BK522 hb
    replace HB := zW (pB2 HB.out GE487.out GE522.out) hb
    (try clear hb)
    (try clear hb2)
    (try clear hk)
    (try clear hi)
    (try clear ho0)
    obtain ⟨Ao57, co57, eo57⟩ := Kd.R_slice HO542.out
    (first | subst eo57 | (injection eo57 with f1_ f2_ f3_; have f4_ := f1_.symm; have f5_ := f3_.symm; clear f1_ f2_ f3_; subst f4_; subst f5_))
    refine hK.out _ _ ⟨zQ BK522 0, zQ BK522 1, zQ BK522 2, zQ BK522 3, zQ BK522 4, zQ BK522 5, zQ BK522 6, zQ BK522 7, zQ BK522 8, zQ BK487 0, zQ BK487 1, zQ BK487 2, zQ BK487 3, zQ BK487 4, zQ BK487 5, zQ BK487 6, zQ BK487 7, zQ BK487 8⟩ (fun hHeld => ?_)
    clear hK K
    refine zN ?_
    refine one_ (i := 3) (N := some 62) (zb 5 15) rfl rfl (by kernel_rfl) (by decide) (fun K hK => ?_)
    refine goes_ Try.func16 (by kernel_rfl) rfl #[.agg #[.string t511, .string t512, .int .i64 t513, .string t514, .int .i64 t515, .int .i64 t516, .int .i64 t517, .int .i64 t518, .slice Ao33 t519.length co33], .agg #[.string t532, .string t533, .int .i64 t534, .string t535, .int .i64 t536, .int .i64 t537, .int .i64 t538, .int .i64 t539, .slice Ao57 t540.length co57]] (by rfl) rfl rfl pA ?_
    with_reducible refine (laws_eqLeaf.calls kj16 t511 t512 t513 t514 t515 t516 t517 t518 _ _ t519 t532 t533 t534 t535 t536 t537 t538 t539 _ _ t540 true _ ?side1 ?side2 ?side3 ?side4 A47.out).mono ?_
    (case side1 => exact pC ((Kd.R_reads' HO_523008.out).2.2))
    (case side2 => exact (Kd.R_reads' HO_523008.out).2.1)
    (case side3 => exact pC ((Kd.R_reads' HO542.out).2.2))
    (case side4 => exact (Kd.R_reads' HO542.out).2.1)
    rintro e w58 ⟨rfl, hb⟩
    refine ⟨_, rfl, ?_⟩
    replace HO_6 := Aside0.mk (Kd.R_below (pR HO_6.out) hb)
    replace HO_8 := Aside0.mk (Kd.R_below (pR HO_8.out) hb)
    replace HO_10 := Aside0.mk (Kd.R_below (pR HO_10.out) hb)
    replace HO_523008 := Aside0.mk (Kd.R_below (pR HO_523008.out) hb)
    replace HO530 := Aside0.mk (Kd.R_below (pR HO530.out) hb)
    replace HO542 := Aside0.mk (Kd.R_below (pR HO542.out) hb)
    replace BK487 := zK BK487 hb
    replace BK522 := zK BK522 hb
    replace HB := zW (pB2 HB.out GE487.out GE522.out) hb
    (try clear hb)
    (try clear hb2)
    (try clear hk)
    (try clear hi)
    refine hK.out _ _ ⟨zQ BK522 0, zQ BK522 1, zQ BK522 2, zQ BK522 3, zQ BK522 4, zQ BK522 5, zQ BK522 6, zQ BK522 7, zQ BK522 8, zQ BK487 0, zQ BK487 1, zQ BK487 2, zQ BK487 3, zQ BK487 4, zQ BK487 5, zQ BK487 6, zQ BK487 7, zQ BK487 8⟩ (fun hHeld => ?_)
    clear hK K
    refine zN ?_
    refine pure_ (i := 4) (N := some 63) (v := ?_) (a' := ?_) #[true, true, true, true, true] rfl rfl (by kernel_rfl) (fun _ _ _ h => h) (Or.inl ⟨by rfl, ?_⟩) ?_ ?_
    rotate_left
    · intro w'
      go_simp
      with_reducible rfl
    rotate_left
    · simp only [Act.put, List.setIfInBounds_toArray, List.set_cons_zero, List.set_cons_succ, i64_w, i32_w]
      rfl
    refine done_ (by kernel_rfl) ?_
    go_upto_region 21 with (first | ((with_reducible refine gate_callee (f := 20) rfl ?_); refine goesL_ (some 66) rfl rfl Try.func20 (by kernel_rfl) rfl #[.slice Ao34 t508.length co34, .int .i64 1] rfl pA ?_; (with_reducible refine (laws_markPointS.calls kj16 (fun k_ => some k_ = (.slice Ao34 t508.length co34 : Value).ownBlock) (.slice Ao34 t508.length co34) t508 1 t544 t545 w _ ?side1 ?side2 A49.out).mono ?_); (case side1 => repeat (first | (with_reducible first | exact HB.out | apply below_alloc | apply pw_below_drewN | apply below_drew1 | refine below_set ?_ GE487.out | refine below_set ?_ GE522.out) | exact HB.out)); (case side2 => exact Kd.R_tight rfl HO_8.out); rintro e w59 ⟨rfl, hy0, hb, hkp⟩; refine ⟨_, rfl, ?_⟩; replace HO_6 := Aside0.mk (Kd.R_mono (ok' := fun k_ => some k_ ≠ (v524 : Value).ownBlock) (Kd.R_keptB ((Kd.R_apart' HO_6.out (Kd.R_typed HO_8.out) (by decide))) hkp (fun k_ hk_ hs_ => (hk_.2) hs_)) (fun k_ hk_ => hk_.1.1)); replace HO_10 := Aside0.mk (Kd.R_mono (ok' := fun k_ => some k_ ≠ (v505 : Value).ownBlock) (Kd.R_keptB ((Kd.R_apart' HO_10.out (Kd.R_typed HO_8.out) (by decide))) hkp (fun k_ hk_ hs_ => (hk_.2) hs_)) (fun k_ hk_ => hk_.1.1)); replace HO_523008 := Aside0.mk (Kd.R_mono (ok' := fun k_ => some k_ ≠ (.slice Ao57 t540.length co57 : Value).ownBlock) (Kd.R_keptB ((Kd.R_apart' HO_523008.out (Kd.R_typed HO_8.out) (by decide))) hkp (fun k_ hk_ hs_ => (hk_.2) hs_)) (fun k_ hk_ => hk_.1.1.2)); replace BK487 := Aside0.mk (blk_kept (pK BK487.out) hkp (fun hs_ => (fun e_ => (Kd.R_ne HO_8.out BK487.out (by decide)) e_) hs_)); replace BK522 := Aside0.mk (blk_kept (pK BK522.out) hkp (fun hs_ => (fun e_ => (Kd.R_ne HO_8.out BK522.out (by decide)) e_) hs_)); replace HO530 := Aside0.mk (Kd.R_mono (ok' := fun k_ => some k_ ≠ (.slice Ao34 t508.length co34 : Value).ownBlock) (Kd.R_keptB (HO530.out) hkp (fun k_ hk_ hs_ => (hk_.2) hs_)) (fun k_ hk_ => hk_.1.2)); replace HO542 := Aside0.mk (Kd.R_mono (ok' := fun k_ => some k_ ≠ (.slice Ao33 t519.length co33 : Value).ownBlock) (Kd.R_keptB ((Kd.R_apart' HO542.out (Kd.R_typed HO_8.out) (by decide))) hkp (fun k_ hk_ hs_ => (hk_.2) hs_)) (fun k_ hk_ => hk_.1.1.2)); replace HO_8 := Aside0.mk (Kd.R_reok rfl hy0 (fun k_ e_ => HO_8.out.1 k_ e_)); replace HB := Aside0.mk (hb); (try clear hb); (try clear hkp); (try clear hy0); have hnb60 := NB522_487.out; have hnc60 := NB487_522.out; obtain ⟨hcz61_0, hfz61_0, hcz61_1, hfz61_1, hcz61_2, hfz61_2, hcz61_3, hfz61_3, hcz61_4, hfz61_4, hcz61_5, hfz61_5, hcz61_6, hfz61_6, hcz61_7, hfz61_7, hcz61_8, hfz61_8⟩ := zw9 BK522) | ((with_reducible refine gate_callee (f := 21) rfl ?_); refine goesL_ (some 69) rfl rfl Try.func21 (by kernel_rfl) rfl #[.agg #[.string t511, .string t512, .int .i64 t513, .string t514, .int .i64 t515, .int .i64 t516, .int .i64 t517, .int .i64 t518, .slice Ao33 t519.length co33], .int .i64 t544] rfl pA ?_; (with_reducible refine (laws_markLeaf.calls kj16 t511 t512 t513 t514 t515 t516 t517 t518 (fun k_ => some k_ = (.slice Ao33 t519.length co33 : Value).ownBlock) (.slice Ao33 t519.length co33) t519 t544 t546 t547 w _ ?side1 ?side2 A50.out).mono ?_); (case side1 => repeat (first | (with_reducible first | exact HB.out | apply below_alloc | apply pw_below_drewN | apply below_drew1 | refine below_set ?_ GE487.out | refine below_set ?_ GE522.out) | exact HB.out)); (case side2 => exact Kd.R_tight rfl HO_523008.out); rintro e w62 ⟨rfl, hy0, hb, hkp⟩; refine ⟨_, rfl, ?_⟩; replace HO_6 := Aside0.mk (Kd.R_mono (ok' := fun k_ => some k_ ≠ (v524 : Value).ownBlock) (Kd.R_keptB ((Kd.R_apart' HO_6.out (Kd.R_typed HO_523008.out) (by decide))) hkp (fun k_ hk_ hs_ => (hk_.2) hs_)) (fun k_ hk_ => hk_.1.1)); replace HO_8 := Aside0.mk (Kd.R_mono (ok' := fun k_ => some k_ ≠ (.slice Ao53 t528.length co53 : Value).ownBlock) (Kd.R_keptB ((Kd.R_apart' HO_8.out (Kd.R_typed HO_523008.out) (by decide))) hkp (fun k_ hk_ hs_ => (hk_.2) hs_)) (fun k_ hk_ => hk_.1.1.2)); replace HO_10 := Aside0.mk (Kd.R_mono (ok' := fun k_ => some k_ ≠ (v505 : Value).ownBlock) (Kd.R_keptB ((Kd.R_apart' HO_10.out (Kd.R_typed HO_523008.out) (by decide))) hkp (fun k_ hk_ hs_ => (hk_.2) hs_)) (fun k_ hk_ => hk_.1.1)); replace BK487 := Aside0.mk (blk_kept (pK BK487.out) hkp (fun hs_ => (fun e_ => (Kd.R_ne HO_523008.out BK487.out (by decide)) e_) hs_)); replace BK522 := Aside0.mk (blk_kept (pK BK522.out) hkp (fun hs_ => (fun e_ => (Kd.R_ne HO_523008.out BK522.out (by decide)) e_) hs_)); replace HO530 := Aside0.mk (Kd.R_mono (ok' := fun k_ => some k_ ≠ (.slice Ao34 t508.length co34 : Value).ownBlock) (Kd.R_keptB ((Kd.R_apart' HO530.out (Kd.R_typed HO_523008.out) (by decide))) hkp (fun k_ hk_ hs_ => (hk_.2) hs_)) (fun k_ hk_ => hk_.1.1)); replace HO_523008 := Aside0.mk (Kd.R_reok rfl hy0 (fun k_ e_ => HO_523008.out.1 k_ e_)); replace HO542 := Aside0.mk (Kd.R_mono (ok' := fun k_ => some k_ ≠ (.slice Ao33 t519.length co33 : Value).ownBlock) (Kd.R_keptB (HO542.out) hkp (fun k_ hk_ hs_ => (hk_) hs_)) (fun k_ hk_ => hk_.1)); replace HB := Aside0.mk (hb); (try clear hb); (try clear hkp); (try clear hy0)))
    (try simp only [Act.put, List.setIfInBounds_toArray, List.set_cons_zero, List.set_cons_succ])
    go_cut [82] (fun v82 wc => ∃ (kq : Nat) (x82_50 : Bool), v82 = .bool x82_50 ∧ Aside0 (laws_FnExactTurnsThatFit.j1 kq l0 t504 t507 t523 x82_50 a1_0 a1_1 a1_2 a1_3 a1_4 a1_5 a1_6 a1_7 l1_8 = some r) ∧ Aside0 (kq ≤ kj16) ∧ Aside0 (Kd.R (Kd.int .i64) 2 wc w.heap.size (fun k_ => some k_ ≠ (v524 : Value).ownBlock) v505 t504) ∧ Aside0 (Kd.R (Kd.int .i64) 2 wc w.heap.size (fun k_ => some k_ ≠ (v505 : Value).ownBlock) v524 t523) ∧ Aside0 (Kd.R k103 103 wc w.heap.size (fun _ => True) (.slice Ao33 t519.length co33) t547) ∧ Aside0 (wc.heap[gb487]? = some (.cells #[.string a1_0, .string a1_1, .int .i64 a1_2, .string a1_3, .int .i64 a1_4, .int .i64 a1_5, .int .i64 a1_6, .int .i64 a1_7, (.slice A1_8 l1_8.length c1_8)] 27 (0, 0))) ∧ Aside0 (wc.heap[gb522]? = some (.cells #[.string t511, .string t512, .int .i64 t513, .string t514, .int .i64 t515, .int .i64 t516, .int .i64 t517, .int .i64 t518, (.slice Ao33 t519.length co33)] 36 (0, 0))) ∧ Aside0 (Below w.heap.size w wc))
    case first =>
     have H := HC51.out
     clear HC51
     by_cases c63 : t546 < 0
     · rw [if_pos c63] at H
       have c63b0 := decide_eq_true c63
       clear c63
       (first | rw [c63b0] | (simp only [i64_w, i32_w]; rw [c63b0]) | skip)
       have H' := Aside0.mk H
       clear H
       go_wp2
       go_meet
       case rel => exact ⟨_, (true), zR, H', ⟨by have := HJ16.out; first | omega | exact Nat.le_refl _⟩, ⟨pR HO_6.out⟩, ⟨pR HO_10.out⟩, ⟨by (with_reducible repeat (first | apply Kd.R_alloc | apply Kd.R_drewN | apply Kd.R_drew)); exact Kd.R_mono HO_523008.out (fun _ hk => trivial)⟩, ⟨pK BK487.out⟩, ⟨pK BK522.out⟩, ⟨pB2 HB.out GE487.out GE522.out⟩⟩
     rw [if_neg c63] at H
     have c63b0 : decide (t546 < 0) = false := decide_eq_false c63
     clear c63
     (first | rw [c63b0] | (simp only [i64_w, i32_w]; rw [c63b0]) | skip)
     replace H := Option.bind_eq_some_iff.mp H
     obtain ⟨t548, A640, H⟩ := H
     have A64 := Aside0.mk A640
     clear A640
     by_cases c65 : t548 = true
     · subst c65
       have H1 : (laws_FnExactTurnsThatFit.j1 kj16 l0 t504 t507 t523 (t526 != t507) a1_0 a1_1 a1_2 a1_3 a1_4 a1_5 a1_6 a1_7 l1_8) = some r := by rw [if_pos rfl] at H; exact H
       clear H
       have H := H1
       clear H1
       have H' := Aside0.mk H
       clear H
       obtain ⟨Ao66, co66, eo66⟩ := Kd.R_slice HO_10.out
       subst eo66
       obtain ⟨Ao67, co67, eo67⟩ := Kd.R_slice HO_6.out
       subst eo67
       go_wp2_with (first | (go_at_call 19; (with_reducible refine (laws_eqInt64S.calls kj16 _ _ t523 _ _ t504 true _ ?side1 ?side2 ?side3 ?side4 A64.out).mono ?_); (case side1 => exact pC ((Kd.R_reads' HO_10.out).2.2)); (case side2 => exact (Kd.R_reads' HO_10.out).2.1); (case side3 => exact pC ((Kd.R_reads' HO_6.out).2.2)); (case side4 => exact (Kd.R_reads' HO_6.out).2.1); rintro e w' ⟨rfl, ⟨nd, rfl⟩⟩))
       go_meet
       case rel => exact ⟨_, ((t526 != t507)), zR, H', ⟨by have := HJ16.out; first | omega | exact Nat.le_refl _⟩, ⟨pR HO_6.out⟩, ⟨pR HO_10.out⟩, ⟨by (with_reducible repeat (first | apply Kd.R_alloc | apply Kd.R_drewN | apply Kd.R_drew)); exact Kd.R_mono HO_523008.out (fun _ hk => trivial)⟩, ⟨pK BK487.out⟩, ⟨pK BK522.out⟩, ⟨pB2 HB.out GE487.out GE522.out⟩⟩
     replace c65 := Bool.eq_false_iff.mpr c65
     subst c65
     have H1 : (laws_FnExactTurnsThatFit.j1 kj16 l0 t504 t507 t523 true a1_0 a1_1 a1_2 a1_3 a1_4 a1_5 a1_6 a1_7 l1_8) = some r := by rw [if_neg (show ¬ (false = true) by decide)] at H; exact H
     clear H
     have H := H1
     clear H1
     have H' := Aside0.mk H
     clear H
     obtain ⟨Ao68, co68, eo68⟩ := Kd.R_slice HO_10.out
     subst eo68
     obtain ⟨Ao69, co69, eo69⟩ := Kd.R_slice HO_6.out
     subst eo69
     go_wp2_with (first | (go_at_call 19; (with_reducible refine (laws_eqInt64S.calls kj16 _ _ t523 _ _ t504 false _ ?side1 ?side2 ?side3 ?side4 A64.out).mono ?_); (case side1 => exact pC ((Kd.R_reads' HO_10.out).2.2)); (case side2 => exact (Kd.R_reads' HO_10.out).2.1); (case side3 => exact pC ((Kd.R_reads' HO_6.out).2.2)); (case side4 => exact (Kd.R_reads' HO_6.out).2.1); rintro e w' ⟨rfl, ⟨nd, rfl⟩⟩))
     go_meet
     case rel => exact ⟨_, (true), zR, H', ⟨by have := HJ16.out; first | omega | exact Nat.le_refl _⟩, ⟨pR HO_6.out⟩, ⟨pR HO_10.out⟩, ⟨by (with_reducible repeat (first | apply Kd.R_alloc | apply Kd.R_drewN | apply Kd.R_drew)); exact Kd.R_mono HO_523008.out (fun _ hk => trivial)⟩, ⟨pK BK487.out⟩, ⟨pK BK522.out⟩, ⟨pB2 HB.out GE487.out GE522.out⟩⟩
    case rest =>
     clear HC51
     try clear c1
     try clear c2
     try clear p2
     try clear c3
     try clear c4
     try clear c4b0
     try clear q4
     try clear c6
     try clear c7
     try clear c7b0
     try clear c9
     try clear c10
     try clear c12
     try clear c13
     try clear c15
     try clear c16
     try clear c17
     try clear c18
     try clear c19
     try clear c20
     try clear c21
     try clear c31
     try clear c37
     try clear c42
     try clear c45
     try clear c48
     try clear q48
     try clear c60
     try clear c63
     try clear c63b0
     try clear c65
     try clear hcz19_0
     try clear hcz19_1
     try clear hcz19_2
     try clear hcz19_3
     try clear hcz19_4
     try clear hcz19_5
     try clear hcz19_6
     try clear hcz19_7
     try clear hcz19_8
     try clear hcz28_0
     try clear hcz28_1
     try clear hcz28_2
     try clear hcz28_3
     try clear hcz28_4
     try clear hcz28_5
     try clear hcz28_6
     try clear hcz28_7
     try clear hcz28_8
     try clear hcz32_0
     try clear hcz32_1
     try clear hcz32_2
     try clear hcz32_3
     try clear hcz32_4
     try clear hcz32_5
     try clear hcz32_6
     try clear hcz32_7
     try clear hcz32_8
     try clear hcz61_0
     try clear hcz61_1
     try clear hcz61_2
     try clear hcz61_3
     try clear hcz61_4
     try clear hcz61_5
     try clear hcz61_6
     try clear hcz61_7
     try clear hcz61_8
     try clear hcz9_0
     try clear hcz9_1
     try clear hcz9_2
     try clear hcz9_3
     try clear hcz9_4
     try clear hcz9_5
     try clear hcz9_6
     try clear hcz9_7
     try clear hcz9_8
     try clear hfz19_0
     try clear hfz19_1
     try clear hfz19_2
     try clear hfz19_3
     try clear hfz19_4
     try clear hfz19_5
     try clear hfz19_6
     try clear hfz19_7
     try clear hfz19_8
     try clear hfz28_0
     try clear hfz28_1
     try clear hfz28_2
     try clear hfz28_3
     try clear hfz28_4
     try clear hfz28_5
     try clear hfz28_6
     try clear hfz28_7
     try clear hfz28_8
     try clear hfz32_0
     try clear hfz32_1
     try clear hfz32_2
     try clear hfz32_3
     try clear hfz32_4
     try clear hfz32_5
     try clear hfz32_6
     try clear hfz32_7
     try clear hfz32_8
     try clear hfz61_0
     try clear hfz61_1
     try clear hfz61_2
     try clear hfz61_3
     try clear hfz61_4
     try clear hfz61_5
     try clear hfz61_6
     try clear hfz61_7
     try clear hfz61_8
     try clear hfz9_0
     try clear hfz9_1
     try clear hfz9_2
     try clear hfz9_3
     try clear hfz9_4
     try clear hfz9_5
     try clear hfz9_6
     try clear hfz9_7
     try clear hfz9_8
     try clear p2
     try clear q4
     obtain ⟨kq, x82_50, rfl, HA, HJ50, HO_6, HO_10, HO_523008, BK487, BK522, HB⟩ := hcut
     have hl523008_50 := (Kd.R_reads' HO_523008.out).1
     rw [hl523008_50] at HO_523008
     (try simp only [hl523008_50])
     (try simp only [hl523008_50] at BK487)
     (try simp only [hl523008_50] at BK522)
     (try simp only [hl523008_50] at HO_6)
     (try simp only [hl523008_50] at HO_10)
     cases kq with
     | zero => exact absurd HA.out (by simp [laws_FnExactTurnsThatFit.j1])
     | succ kj50 =>
       have H := HA.out
       clear HA
       simp only [laws_FnExactTurnsThatFit.j1] at H
       by_cases c70 : x82_50 = true
       · subst c70
         have H1 : (some false) = some r := by rw [if_pos rfl] at H; exact H
         clear H
         have H := H1
         clear H1
         obtain rfl := Option.some.inj H
         go_wp2
         go_ret
         exact ⟨zE, pB2 HB.out GE487.out GE522.out⟩
       replace c70 := Bool.eq_false_iff.mpr c70
       subst c70
       have H1 : ((laws_markInt64S.f kj50 t523 1).bind fun bt549 => ((laws_heldInt64S.f kj50 bt549.2 1).bind fun t551 => (if t551 < 0 then (some false) else (if t551 = bt549.1 then ((laws_toPointS.f kj50 l0).bind fun t552 => ((laws_toLeaf.f kj50 a1_0 a1_1 a1_2 a1_3 a1_4 a1_5 a1_6 a1_7 l1_8).bind fun bt555 => ((impl_TurnsThatFit.f kj50 t552 bt555.1 bt555.2.1 bt555.2.2.1 bt555.2.2.2.1 bt555.2.2.2.2.1 bt555.2.2.2.2.2.1 bt555.2.2.2.2.2.2.1 bt555.2.2.2.2.2.2.2.1 bt555.2.2.2.2.2.2.2.2).bind fun bt566 => ((laws_eqInt64S.f kj50 bt566.1 t504).bind fun t570 => (if t570 = true then (laws_FnExactTurnsThatFit.j2 kj50 bt549.2 bt549.1 (bt566.2 != t507)) else (laws_FnExactTurnsThatFit.j2 kj50 bt549.2 bt549.1 true)))))) else (some false))))) = some r := by rw [if_neg (show ¬ (false = true) by decide)] at H; exact H
       clear H
       have H := H1
       clear H1
       replace H := Option.bind_eq_some_iff.mp H
       obtain ⟨⟨t549, t550⟩, A710, H⟩ := H
       replace H : ((laws_heldInt64S.f kj50 t550 1).bind fun t551 => (if t551 < 0 then (some false) else (if t551 = t549 then ((laws_toPointS.f kj50 l0).bind fun t552 => ((laws_toLeaf.f kj50 a1_0 a1_1 a1_2 a1_3 a1_4 a1_5 a1_6 a1_7 l1_8).bind fun bt555 => ((impl_TurnsThatFit.f kj50 t552 bt555.1 bt555.2.1 bt555.2.2.1 bt555.2.2.2.1 bt555.2.2.2.2.1 bt555.2.2.2.2.2.1 bt555.2.2.2.2.2.2.1 bt555.2.2.2.2.2.2.2.1 bt555.2.2.2.2.2.2.2.2).bind fun bt566 => ((laws_eqInt64S.f kj50 bt566.1 t504).bind fun t570 => (if t570 = true then (laws_FnExactTurnsThatFit.j2 kj50 t550 t549 (bt566.2 != t507)) else (laws_FnExactTurnsThatFit.j2 kj50 t550 t549 true)))))) else (some false)))) = some r := H
       have A71 := Aside0.mk A710
       clear A710
       replace H := Option.bind_eq_some_iff.mp H
       obtain ⟨t551, A720, H⟩ := H
       have A72 := Aside0.mk A720
       clear A720
       by_cases c73 : t551 < 0
       · rw [if_pos c73] at H
         have c73b0 := decide_eq_true c73
         clear c73
         obtain rfl := Option.some.inj H
         obtain ⟨Ao74, co74, eo74⟩ := Kd.R_slice HO_10.out
         subst eo74
         go_wp2_with (first | ((with_reducible refine gate_callee (f := 22) rfl ?_); refine goesL_ (some 85) rfl rfl Try.func22 (by kernel_rfl) rfl #[.slice Ao74 t523.length co74, .int .i64 1] rfl pA ?_; (with_reducible refine (laws_markInt64S.calls kj50 (fun k_ => some k_ = (.slice Ao74 t523.length co74 : Value).ownBlock) (.slice Ao74 t523.length co74) t523 1 t549 t550 w _ ?side1 ?side2 A71.out).mono ?_); (case side1 => repeat (first | (with_reducible first | exact HB.out | apply below_alloc | apply pw_below_drewN | apply below_drew1 | refine below_set ?_ GE487.out | refine below_set ?_ GE522.out) | exact HB.out)); (case side2 => exact Kd.R_tight rfl HO_10.out); rintro e w75 ⟨rfl, hy0, hb, hkp⟩; refine ⟨_, rfl, ?_⟩; replace HO_6 := Aside0.mk (Kd.R_mono (ok' := fun k_ => some k_ ≠ (.slice Ao74 t523.length co74 : Value).ownBlock) (Kd.R_keptB (HO_6.out) hkp (fun k_ hk_ hs_ => (hk_) hs_)) (fun k_ hk_ => hk_.1)); replace HO_523008 := Aside0.mk (Kd.R_mono (ok' := fun k_ => True) (Kd.R_keptB ((Kd.R_apart' HO_523008.out (Kd.R_typed HO_10.out) (by decide))) hkp (fun k_ hk_ hs_ => (hk_.2) hs_)) (fun k_ hk_ => trivial)); replace BK487 := Aside0.mk (blk_kept (pK BK487.out) hkp (fun hs_ => (fun e_ => (Kd.R_ne HO_10.out BK487.out (by decide)) e_) hs_)); replace BK522 := Aside0.mk (blk_kept (pK BK522.out) hkp (fun hs_ => (fun e_ => (Kd.R_ne HO_10.out BK522.out (by decide)) e_) hs_)); replace HO_10 := Aside0.mk (Kd.R_reok rfl hy0 (fun k_ e_ => HO_10.out.1 k_ e_)); replace HB := Aside0.mk (hb); (try clear hb); (try clear hkp); (try clear hy0)) | ((with_reducible refine gate_callee (f := 23) rfl ?_); refine goesL_ (some 88) rfl rfl Try.func23 (by kernel_rfl) rfl #[.slice Ao74 t550.length co74, .int .i64 1] rfl (by (try simp only [List.map_toArray, List.map_cons, List.map_nil]); first | done | (rw [show t550.length = t523.length from (Kd.R_reads' HO_10.out).1.symm] <;> rfl) | rfl | (simp only [List.length_drop, List.length_take]; rfl)) ?_; (with_reducible refine (laws_heldInt64S.calls kj50 _ _ t550 1 t551 _ ?side1 ?side2 A72.out).mono ?_); (case side1 => exact pC ((Kd.R_reads' HO_10.out).2.2)); (case side2 => rw [show t550.length = t523.length from (Kd.R_reads' HO_10.out).1.symm]; exact (Kd.R_reads' HO_10.out).2.1); rintro e w' ⟨rfl, ⟨nd, rfl⟩⟩; refine ⟨_, rfl, ?_⟩))
         go_ret
         exact ⟨zE, pB2 HB.out GE487.out GE522.out⟩
       rw [if_neg c73] at H
       have c73b0 : decide (t551 < 0) = false := decide_eq_false c73
       clear c73
       by_cases c76 : t551 = t549
       rotate_left
       · rw [if_neg c76] at H
         have c76b0 : (t551 == t549) = false := beq_eq_false_iff_ne.mpr c76
         have c76b1 : (t551 != t549) = true := bne_iff_ne.mpr c76
         obtain rfl := Option.some.inj H
         obtain ⟨Ao99, co99, eo99⟩ := Kd.R_slice HO_10.out
         subst eo99
         go_wp2_with (first | ((with_reducible refine gate_callee (f := 22) rfl ?_); refine goesL_ (some 85) rfl rfl Try.func22 (by kernel_rfl) rfl #[.slice Ao99 t523.length co99, .int .i64 1] rfl pA ?_; (with_reducible refine (laws_markInt64S.calls kj50 (fun k_ => some k_ = (.slice Ao99 t523.length co99 : Value).ownBlock) (.slice Ao99 t523.length co99) t523 1 t549 t550 w _ ?side1 ?side2 A71.out).mono ?_); (case side1 => repeat (first | (with_reducible first | exact HB.out | apply below_alloc | apply pw_below_drewN | apply below_drew1 | refine below_set ?_ GE487.out | refine below_set ?_ GE522.out) | exact HB.out)); (case side2 => exact Kd.R_tight rfl HO_10.out); rintro e w100 ⟨rfl, hy0, hb, hkp⟩; refine ⟨_, rfl, ?_⟩; replace HO_6 := Aside0.mk (Kd.R_mono (ok' := fun k_ => some k_ ≠ (.slice Ao99 t523.length co99 : Value).ownBlock) (Kd.R_keptB (HO_6.out) hkp (fun k_ hk_ hs_ => (hk_) hs_)) (fun k_ hk_ => hk_.1)); replace HO_523008 := Aside0.mk (Kd.R_mono (ok' := fun k_ => True) (Kd.R_keptB ((Kd.R_apart' HO_523008.out (Kd.R_typed HO_10.out) (by decide))) hkp (fun k_ hk_ hs_ => (hk_.2) hs_)) (fun k_ hk_ => trivial)); replace BK487 := Aside0.mk (blk_kept (pK BK487.out) hkp (fun hs_ => (fun e_ => (Kd.R_ne HO_10.out BK487.out (by decide)) e_) hs_)); replace BK522 := Aside0.mk (blk_kept (pK BK522.out) hkp (fun hs_ => (fun e_ => (Kd.R_ne HO_10.out BK522.out (by decide)) e_) hs_)); replace HO_10 := Aside0.mk (Kd.R_reok rfl hy0 (fun k_ e_ => HO_10.out.1 k_ e_)); replace HB := Aside0.mk (hb); (try clear hb); (try clear hkp); (try clear hy0)) | ((with_reducible refine gate_callee (f := 23) rfl ?_); refine goesL_ (some 88) rfl rfl Try.func23 (by kernel_rfl) rfl #[.slice Ao99 t550.length co99, .int .i64 1] rfl (by (try simp only [List.map_toArray, List.map_cons, List.map_nil]); first | done | (rw [show t550.length = t523.length from (Kd.R_reads' HO_10.out).1.symm] <;> rfl) | rfl | (simp only [List.length_drop, List.length_take]; rfl)) ?_; (with_reducible refine (laws_heldInt64S.calls kj50 _ _ t550 1 t551 _ ?side1 ?side2 A72.out).mono ?_); (case side1 => exact pC ((Kd.R_reads' HO_10.out).2.2)); (case side2 => rw [show t550.length = t523.length from (Kd.R_reads' HO_10.out).1.symm]; exact (Kd.R_reads' HO_10.out).2.1); rintro e w' ⟨rfl, ⟨nd, rfl⟩⟩; refine ⟨_, rfl, ?_⟩))
         go_ret
         exact ⟨zE, pB2 HB.out GE487.out GE522.out⟩
       rw [if_pos c76] at H
       have c76b0 : (t551 == t549) = true := beq_iff_eq.mpr c76
       have c76b1 : (t551 != t549) = false := bne_eq_false_iff_eq.mpr c76
       clear c76
       replace H := Option.bind_eq_some_iff.mp H
       obtain ⟨t552, A770, H⟩ := H
       have A77 := Aside0.mk A770
       clear A770
       replace H := Option.bind_eq_some_iff.mp H
       obtain ⟨⟨t555, t556, t557, t558, t559, t560, t561, t562, t563⟩, A780, H⟩ := H
       replace H : ((impl_TurnsThatFit.f kj50 t552 t555 t556 t557 t558 t559 t560 t561 t562 t563).bind fun bt566 => ((laws_eqInt64S.f kj50 bt566.1 t504).bind fun t570 => (if t570 = true then (laws_FnExactTurnsThatFit.j2 kj50 t550 t549 (bt566.2 != t507)) else (laws_FnExactTurnsThatFit.j2 kj50 t550 t549 true)))) = some r := H
       have A78 := Aside0.mk A780
       clear A780
       replace H := Option.bind_eq_some_iff.mp H
       obtain ⟨⟨t566, t569⟩, A790, H⟩ := H
       replace H : ((laws_eqInt64S.f kj50 t566 t504).bind fun t570 => (if t570 = true then (laws_FnExactTurnsThatFit.j2 kj50 t550 t549 (t569 != t507)) else (laws_FnExactTurnsThatFit.j2 kj50 t550 t549 true))) = some r := H
       have A79 := Aside0.mk A790
       clear A790
       have HC80 := Aside0.mk H
       clear H
       obtain ⟨Ao81, co81, eo81⟩ := Kd.R_slice HO_10.out
       subst eo81
       try go_wp2_with (first | ((with_reducible refine gate_callee (f := 22) rfl ?_); refine goesL_ (some 85) rfl rfl Try.func22 (by kernel_rfl) rfl #[.slice Ao81 t523.length co81, .int .i64 1] rfl pA ?_; (with_reducible refine (laws_markInt64S.calls kj50 (fun k_ => some k_ = (.slice Ao81 t523.length co81 : Value).ownBlock) (.slice Ao81 t523.length co81) t523 1 t549 t550 w _ ?side1 ?side2 A71.out).mono ?_); (case side1 => repeat (first | (with_reducible first | exact HB.out | apply below_alloc | apply pw_below_drewN | apply below_drew1 | refine below_set ?_ GE487.out | refine below_set ?_ GE522.out) | exact HB.out)); (case side2 => exact Kd.R_tight rfl HO_10.out); rintro e w82 ⟨rfl, hy0, hb, hkp⟩; refine ⟨_, rfl, ?_⟩; replace HO_6 := Aside0.mk (Kd.R_mono (ok' := fun k_ => some k_ ≠ (.slice Ao81 t523.length co81 : Value).ownBlock) (Kd.R_keptB (HO_6.out) hkp (fun k_ hk_ hs_ => (hk_) hs_)) (fun k_ hk_ => hk_.1)); replace HO_523008 := Aside0.mk (Kd.R_mono (ok' := fun k_ => True) (Kd.R_keptB ((Kd.R_apart' HO_523008.out (Kd.R_typed HO_10.out) (by decide))) hkp (fun k_ hk_ hs_ => (hk_.2) hs_)) (fun k_ hk_ => trivial)); replace BK487 := Aside0.mk (blk_kept (pK BK487.out) hkp (fun hs_ => (fun e_ => (Kd.R_ne HO_10.out BK487.out (by decide)) e_) hs_)); replace BK522 := Aside0.mk (blk_kept (pK BK522.out) hkp (fun hs_ => (fun e_ => (Kd.R_ne HO_10.out BK522.out (by decide)) e_) hs_)); replace HO_10 := Aside0.mk (Kd.R_reok rfl hy0 (fun k_ e_ => HO_10.out.1 k_ e_)); replace HB := Aside0.mk (hb); (try clear hb); (try clear hkp); (try clear hy0)) | ((with_reducible refine gate_callee (f := 23) rfl ?_); refine goesL_ (some 88) rfl rfl Try.func23 (by kernel_rfl) rfl #[.slice Ao81 t550.length co81, .int .i64 1] rfl (by (try simp only [List.map_toArray, List.map_cons, List.map_nil]); first | done | (rw [show t550.length = t523.length from (Kd.R_reads' HO_10.out).1.symm] <;> rfl) | rfl | (simp only [List.length_drop, List.length_take]; rfl)) ?_; (with_reducible refine (laws_heldInt64S.calls kj50 _ _ t550 1 t551 _ ?side1 ?side2 A72.out).mono ?_); (case side1 => exact pC ((Kd.R_reads' HO_10.out).2.2)); (case side2 => rw [show t550.length = t523.length from (Kd.R_reads' HO_10.out).1.symm]; exact (Kd.R_reads' HO_10.out).2.1); rintro e w' ⟨rfl, ⟨nd, rfl⟩⟩; refine ⟨_, rfl, ?_⟩))
       (try (rw [drewN_self w82]; generalize hq_ : World.drewN w82 _ = w82; have n0_ : Aside0 (Kd.R (Kd.int .i64) 2 w82 w.heap.size (fun k_ => some k_ ≠ (v505 : Value).ownBlock) (.slice Ao81 t523.length co81) t550) := ⟨by rw [← hq_]; exact (pR HO_10.out)⟩; have n1_ : Aside0 (Kd.R k103 103 w82 w.heap.size (fun _ => True) (.slice Ao33 t547.length co33) t547) := ⟨by rw [← hq_]; exact (pR HO_523008.out)⟩; have n2_ : Aside0 (Kd.R (Kd.int .i64) 2 w82 w.heap.size (fun k_ => some k_ ≠ (.slice Ao81 t523.length co81 : Value).ownBlock) v505 t504) := ⟨by rw [← hq_]; exact (pR HO_6.out)⟩; have n3_ : Aside0 (w82.heap[gb487]? = some (.cells #[.string a1_0, .string a1_1, .int .i64 a1_2, .string a1_3, .int .i64 a1_4, .int .i64 a1_5, .int .i64 a1_6, .int .i64 a1_7, .slice A1_8 l1_8.length c1_8] 27 (0, 0))) := ⟨by rw [← hq_]; exact (pK BK487.out)⟩; have n4_ : Aside0 (w82.heap[gb522]? = some (.cells #[.string t511, .string t512, .int .i64 t513, .string t514, .int .i64 t515, .int .i64 t516, .int .i64 t517, .int .i64 t518, .slice Ao33 t547.length co33] 36 (0, 0))) := ⟨by rw [← hq_]; exact (pK BK522.out)⟩; have n5_ : Aside0 (Below w.heap.size w w82) := ⟨by rw [← hq_]; exact (pB2 HB.out GE487.out GE522.out)⟩; clear HO_10 HO_523008 HO_6 BK487 BK522 HB hq_; have HO_10 := n0_; have HO_523008 := n1_; have HO_6 := n2_; have BK487 := n3_; have BK522 := n4_; have HB := n5_; clear n0_ n1_ n2_ n3_ n4_ n5_))
       (try (obtain ⟨hcq487_0, hfq487_0, hcq487_1, hfq487_1, hcq487_2, hfq487_2, hcq487_3, hfq487_3, hcq487_4, hfq487_4, hcq487_5, hfq487_5, hcq487_6, hfq487_6, hcq487_7, hfq487_7, hcq487_8, hfq487_8⟩ := zw9 BK487; obtain ⟨hcq522_0, hfq522_0, hcq522_1, hfq522_1, hcq522_2, hfq522_2, hcq522_3, hfq522_3, hcq522_4, hfq522_4, hcq522_5, hfq522_5, hcq522_6, hfq522_6, hcq522_7, hfq522_7, hcq522_8, hfq522_8⟩ := zw9 BK522))
       replace HO_6 := Aside0.mk (Kd.R_drew HO_6.out)
       replace HO_10 := Aside0.mk (Kd.R_drew HO_10.out)
       replace HO_523008 := Aside0.mk (Kd.R_drew HO_523008.out)
       replace BK487 := Aside0.mk (blk_drew BK487.out)
       replace BK522 := Aside0.mk (blk_drew BK522.out)
       replace HB := Aside0.mk (below_drew1 HB.out)
       refine start_ (n := 10) (S := fun w' => w'.cell? ⟨gb487, 0, none⟩ = some (.string a1_0) ∧ w'.cell? ⟨gb487, 1, none⟩ = some (.string a1_1) ∧ w'.cell? ⟨gb487, 2, none⟩ = some (.int .i64 a1_2) ∧ w'.cell? ⟨gb487, 3, none⟩ = some (.string a1_3) ∧ w'.cell? ⟨gb487, 4, none⟩ = some (.int .i64 a1_4) ∧ w'.cell? ⟨gb487, 5, none⟩ = some (.int .i64 a1_5) ∧ w'.cell? ⟨gb487, 6, none⟩ = some (.int .i64 a1_6) ∧ w'.cell? ⟨gb487, 7, none⟩ = some (.int .i64 a1_7) ∧ w'.cell? ⟨gb487, 8, none⟩ = some (.slice A1_8 l1_8.length c1_8)) (ds := []) (Array.replicate 10 false) (by kernel_rfl) rfl rfl ⟨zQ BK487 0, zQ BK487 1, zQ BK487 2, zQ BK487 3, zQ BK487 4, zQ BK487 5, zQ BK487 6, zQ BK487 7, zQ BK487 8⟩ (fun hHeld => ?_); refine with_tabW laws_FnExactTurnsThatFit.tab31 laws_FnExactTurnsThatFit.bits31 (fun HT_ HW_ => ?_)
       generalize w82.drew = w83 at HO_6 HO_10 HO_523008 BK487 BK522 HB hHeld ⊢
       refine zP 0 (some 95) (zb 10 1) HT_ ?_
       refine zT9 2 (some 97) (zb 10 5) HT_ HW_ hHeld ?_
       refine one_ (i := 1) (N := some 96) (zb 10 7) rfl rfl (one_of HT_.out (by kernel_rfl)) (by decide) (fun K hK => ?_)
       refine goes_ Try.func12 (by kernel_rfl) rfl #[.slice A0 l0.length c0] (by rfl) rfl rfl pA ?_
       with_reducible refine (laws_toPointS.calls kj50 _ _ l0 t552 _ ?side1 ?side2 A77.out).mono ?_
       (case side1 => exact pC (Kd.C_below HR0.out HB.out))
       (case side2 => exact HC0.out)
       rintro e w84 ⟨v553, rfl, ho0, hb⟩
       refine ⟨_, rfl, ?_⟩
       have HO554 := Aside0.mk (Kd.R_lower ho0 (below_size (pB2 HB.out GE487.out GE522.out)))
       replace HO_6 := Aside0.mk (Kd.R_below (pR HO_6.out) hb)
       replace HO_10 := Aside0.mk (Kd.R_below (pR HO_10.out) hb)
       replace HO_523008 := Aside0.mk (Kd.R_below (pR HO_523008.out) hb)
       replace BK487 := zK BK487 hb
       replace BK522 := zK BK522 hb
       replace HB := zW (pB2 HB.out GE487.out GE522.out) hb
       (try clear hb)
       (try clear hb2)
       (try clear hk)
       (try clear hi)
       (try clear ho0)
       refine hK.out _ _ ⟨zQ BK487 0, zQ BK487 1, zQ BK487 2, zQ BK487 3, zQ BK487 4, zQ BK487 5, zQ BK487 6, zQ BK487 7, zQ BK487 8⟩ (fun hHeld => ?_)
       clear hK K
       refine zN ?_
       refine one_ (i := 3) (N := some 98) (zb 10 15) rfl rfl (one_of HT_.out (by kernel_rfl)) (by decide) (fun K hK => ?_)
       refine goes_ Try.func13 (by kernel_rfl) rfl #[.agg #[.string a1_0, .string a1_1, .int .i64 a1_2, .string a1_3, .int .i64 a1_4, .int .i64 a1_5, .int .i64 a1_6, .int .i64 a1_7, .slice A1_8 l1_8.length c1_8]] (by rfl) rfl rfl pA ?_
       with_reducible refine (laws_toLeaf.calls kj50 a1_0 a1_1 a1_2 a1_3 a1_4 a1_5 a1_6 a1_7 _ _ l1_8 t555 t556 t557 t558 t559 t560 t561 t562 t563 _ ?side1 ?side2 A78.out).mono ?_
       (case side1 => exact pC (Kd.C_below HR1_8.out HB.out))
       (case side2 => exact HC1_8.out)
       rintro e w85 ⟨v564, rfl, ho0, hb⟩
       refine ⟨_, rfl, ?_⟩
       have HO565 := Aside0.mk (Kd.R_lower (Kd.R_new' ho0 (Kd.R_lt (pR HO_523008.out))) (below_size (pB2 HB.out GE487.out GE522.out)))
       replace HO_6 := Aside0.mk (Kd.R_below (pR HO_6.out) hb)
       replace HO_10 := Aside0.mk (Kd.R_below (pR HO_10.out) hb)
       replace HO_523008 := Aside0.mk (Kd.R_elder' (pR HO_523008.out) (Kd.R_base ho0) hb)
       replace HO554 := Aside0.mk (Kd.R_below (pR HO554.out) hb)
       replace BK487 := zK BK487 hb
       replace BK522 := zK BK522 hb
       replace HB := zW (pB2 HB.out GE487.out GE522.out) hb
       (try clear hb)
       (try clear hb2)
       (try clear hk)
       (try clear hi)
       (try clear ho0)
       obtain ⟨Ao86, co86, eo86⟩ := Kd.R_slice HO554.out
       (first | subst eo86 | (injection eo86 with f1_ f2_ f3_; have f4_ := f1_.symm; have f5_ := f3_.symm; clear f1_ f2_ f3_; subst f4_; subst f5_))
       obtain ⟨Ao87, co87, eo87⟩ := Kd.R_slice HO565.out
       (first | subst eo87 | (injection eo87 with f1_ f2_ f3_; have f4_ := f1_.symm; have f5_ := f3_.symm; clear f1_ f2_ f3_; subst f4_; subst f5_))
       refine hK.out _ _ ⟨zQ BK487 0, zQ BK487 1, zQ BK487 2, zQ BK487 3, zQ BK487 4, zQ BK487 5, zQ BK487 6, zQ BK487 7, zQ BK487 8⟩ (fun hHeld => ?_)
       clear hK K
       refine zN ?_
       refine one_ (i := 4) (N := some 99) (zb 10 31) rfl rfl (one_of HT_.out (by kernel_rfl)) (by decide) (fun K hK => ?_)
       refine goes_ Try.func18 (by kernel_rfl) rfl #[.slice Ao86 t552.length co86, .agg #[.string t555, .string t556, .int .i64 t557, .string t558, .int .i64 t559, .int .i64 t560, .int .i64 t561, .int .i64 t562, .slice Ao87 t563.length co87]] (by rfl) rfl rfl pA ?_
       with_reducible refine (impl_TurnsThatFit.calls kj50 _ _ t552 t555 t556 t557 t558 t559 t560 t561 t562 _ _ t563 t566 t569 _ ?side1 ?side2 ?side3 ?side4 A79.out).mono ?_
       (case side1 => exact pC ((Kd.R_reads' HO554.out).2.2))
       (case side2 => exact (Kd.R_reads' HO554.out).2.1)
       (case side3 => exact pC ((Kd.R_reads' HO565.out).2.2))
       (case side4 => exact (Kd.R_reads' HO565.out).2.1)
       rintro e w88 ⟨v567, rfl, ho0, hb⟩
       refine ⟨_, rfl, ?_⟩
       have HO568 := Aside0.mk (Kd.R_lower (Kd.R_new' (Kd.R_new' ho0 (Kd.R_lt (pR HO_6.out))) (Kd.R_lt (pR HO_10.out))) (below_size (pB2 HB.out GE487.out GE522.out)))
       replace HO_6 := Aside0.mk (Kd.R_elder' (pR HO_6.out) (Kd.R_base ho0) hb)
       replace HO_10 := Aside0.mk (Kd.R_elder' (pR HO_10.out) (Kd.R_base ho0) hb)
       replace HO_523008 := Aside0.mk (Kd.R_below (pR HO_523008.out) hb)
       replace HO554 := Aside0.mk (Kd.R_below (pR HO554.out) hb)
       replace HO565 := Aside0.mk (Kd.R_below (pR HO565.out) hb)
       replace BK487 := zK BK487 hb
       replace BK522 := zK BK522 hb
       replace HB := zW (pB2 HB.out GE487.out GE522.out) hb
       (try clear hb)
       (try clear hb2)
       (try clear hk)
       (try clear hi)
       (try clear ho0)
       refine hK.out _ _ ⟨zQ BK487 0, zQ BK487 1, zQ BK487 2, zQ BK487 3, zQ BK487 4, zQ BK487 5, zQ BK487 6, zQ BK487 7, zQ BK487 8⟩ (fun hHeld => ?_)
       clear hK K
       refine zN ?_
       refine zP 5 (some 94) (zb 10 63) HT_ ?_
       refine zP 6 (some 100) (zb 10 127) HT_ ?_
       refine zP 7 (some 101) (zb 10 255) HT_ ?_
       refine zP 8 (some 15) (zb 10 511) HT_ ?_
       refine zP 9 (some 16) (zb 10 1023) HT_ ?_
       refine done_ (done_of HT_.out (by kernel_rfl)) ?_
       go_upto_region 32 with (fail)
       go_cut [110] (fun v110 wc => ∃ (kq : Nat) (x110_79 : Bool), v110 = .bool x110_79 ∧ Aside0 (laws_FnExactTurnsThatFit.j2 kq t550 t549 x110_79 = some r) ∧ Aside0 (kq ≤ kj50) ∧ Aside0 (Kd.R (Kd.int .i64) 2 wc w.heap.size (fun _ => True) (.slice Ao81 t523.length co81) t550) ∧ Aside0 (Kd.R k103 103 wc w.heap.size (fun _ => True) (.slice Ao33 t547.length co33) t547) ∧ Aside0 (wc.heap[gb487]? = some (.cells #[.string a1_0, .string a1_1, .int .i64 a1_2, .string a1_3, .int .i64 a1_4, .int .i64 a1_5, .int .i64 a1_6, .int .i64 a1_7, (.slice A1_8 l1_8.length c1_8)] 27 (0, 0))) ∧ Aside0 (wc.heap[gb522]? = some (.cells #[.string t511, .string t512, .int .i64 t513, .string t514, .int .i64 t515, .int .i64 t516, .int .i64 t517, .int .i64 t518, (.slice Ao33 t547.length co33)] 36 (0, 0))) ∧ Aside0 (Below w.heap.size w wc))
       case first =>
        have H := HC80.out
        clear HC80
        replace H := Option.bind_eq_some_iff.mp H
        obtain ⟨t570, A890, H⟩ := H
        have A89 := Aside0.mk A890
        clear A890
        by_cases c90 : t570 = true
        · subst c90
          have H1 : (laws_FnExactTurnsThatFit.j2 kj50 t550 t549 (t569 != t507)) = some r := by rw [if_pos rfl] at H; exact H
          clear H
          have H := H1
          clear H1
          have H' := Aside0.mk H
          clear H
          obtain ⟨Ao91, co91, eo91⟩ := Kd.R_slice HO568.out
          subst eo91
          obtain ⟨Ao92, co92, eo92⟩ := Kd.R_slice HO_6.out
          subst eo92
          go_wp2_with (first | ((with_reducible refine gate_callee (f := 19) rfl ?_); refine goesL_ (some 104) rfl rfl Try.func19 (by kernel_rfl) rfl #[.slice Ao91 t566.length co91, .slice Ao92 t504.length co92] rfl pA ?_; (with_reducible refine (laws_eqInt64S.calls kj50 _ _ t566 _ _ t504 true _ ?side1 ?side2 ?side3 ?side4 A89.out).mono ?_); (case side1 => exact pC ((Kd.R_reads' HO568.out).2.2)); (case side2 => exact (Kd.R_reads' HO568.out).2.1); (case side3 => exact pC ((Kd.R_reads' HO_6.out).2.2)); (case side4 => exact (Kd.R_reads' HO_6.out).2.1); rintro e w' ⟨rfl, ⟨nd, rfl⟩⟩; refine ⟨_, rfl, ?_⟩))
          go_meet
          case rel => exact ⟨_, ((t569 != t507)), zR, H', ⟨by have := HJ16.out; have := HJ50.out; first | omega | exact Nat.le_refl _⟩, ⟨by (try simp only [hl523008_50]); (with_reducible repeat (first | apply Kd.R_alloc | apply Kd.R_drewN | apply Kd.R_drew)); exact Kd.R_mono HO_10.out (fun _ hk => trivial)⟩, ⟨by (try simp only [hl523008_50]); (with_reducible repeat (first | apply Kd.R_alloc | apply Kd.R_drewN | apply Kd.R_drew)); exact Kd.R_mono HO_523008.out (fun _ hk => trivial)⟩, ⟨by (try simp only [hl523008_50]); exact pK BK487.out⟩, ⟨by (try simp only [hl523008_50]); exact pK BK522.out⟩, ⟨pB2 HB.out GE487.out GE522.out⟩⟩
        replace c90 := Bool.eq_false_iff.mpr c90
        subst c90
        have H1 : (laws_FnExactTurnsThatFit.j2 kj50 t550 t549 true) = some r := by rw [if_neg (show ¬ (false = true) by decide)] at H; exact H
        clear H
        have H := H1
        clear H1
        have H' := Aside0.mk H
        clear H
        obtain ⟨Ao93, co93, eo93⟩ := Kd.R_slice HO568.out
        subst eo93
        obtain ⟨Ao94, co94, eo94⟩ := Kd.R_slice HO_6.out
        subst eo94
        go_wp2_with (first | ((with_reducible refine gate_callee (f := 19) rfl ?_); refine goesL_ (some 104) rfl rfl Try.func19 (by kernel_rfl) rfl #[.slice Ao93 t566.length co93, .slice Ao94 t504.length co94] rfl pA ?_; (with_reducible refine (laws_eqInt64S.calls kj50 _ _ t566 _ _ t504 false _ ?side1 ?side2 ?side3 ?side4 A89.out).mono ?_); (case side1 => exact pC ((Kd.R_reads' HO568.out).2.2)); (case side2 => exact (Kd.R_reads' HO568.out).2.1); (case side3 => exact pC ((Kd.R_reads' HO_6.out).2.2)); (case side4 => exact (Kd.R_reads' HO_6.out).2.1); rintro e w' ⟨rfl, ⟨nd, rfl⟩⟩; refine ⟨_, rfl, ?_⟩))
        go_meet
        case rel => exact ⟨_, (true), zR, H', ⟨by have := HJ16.out; have := HJ50.out; first | omega | exact Nat.le_refl _⟩, ⟨by (try simp only [hl523008_50]); (with_reducible repeat (first | apply Kd.R_alloc | apply Kd.R_drewN | apply Kd.R_drew)); exact Kd.R_mono HO_10.out (fun _ hk => trivial)⟩, ⟨by (try simp only [hl523008_50]); (with_reducible repeat (first | apply Kd.R_alloc | apply Kd.R_drewN | apply Kd.R_drew)); exact Kd.R_mono HO_523008.out (fun _ hk => trivial)⟩, ⟨by (try simp only [hl523008_50]); exact pK BK487.out⟩, ⟨by (try simp only [hl523008_50]); exact pK BK522.out⟩, ⟨pB2 HB.out GE487.out GE522.out⟩⟩
       case rest =>
        clear HC80
        try clear c1
        try clear c2
        try clear p2
        try clear c3
        try clear c4
        try clear c4b0
        try clear q4
        try clear q5
        try clear c6
        try clear c7
        try clear c7b0
        try clear c9
        try clear c10
        try clear c12
        try clear c13
        try clear c15
        try clear c16
        try clear c17
        try clear c18
        try clear c19
        try clear c20
        try clear c21
        try clear c22
        try clear c23
        try clear c31
        try clear c37
        try clear c42
        try clear c45
        try clear c48
        try clear q48
        try clear q52
        try clear c60
        try clear c63
        try clear c63b0
        try clear c65
        try clear c70
        try clear c73
        try clear c73b0
        try clear c76
        try clear c76b0
        try clear c76b1
        try clear c90
        try clear hcz19_0
        try clear hcz19_1
        try clear hcz19_2
        try clear hcz19_3
        try clear hcz19_4
        try clear hcz19_5
        try clear hcz19_6
        try clear hcz19_7
        try clear hcz19_8
        try clear hcz28_0
        try clear hcz28_1
        try clear hcz28_2
        try clear hcz28_3
        try clear hcz28_4
        try clear hcz28_5
        try clear hcz28_6
        try clear hcz28_7
        try clear hcz28_8
        try clear hcz32_0
        try clear hcz32_1
        try clear hcz32_2
        try clear hcz32_3
        try clear hcz32_4
        try clear hcz32_5
        try clear hcz32_6
        try clear hcz32_7
        try clear hcz32_8
        try clear hcz61_0
        try clear hcz61_1
        try clear hcz61_2
        try clear hcz61_3
        try clear hcz61_4
        try clear hcz61_5
        try clear hcz61_6
        try clear hcz61_7
        try clear hcz61_8
        try clear hcz9_0
        try clear hcz9_1
        try clear hcz9_2
        try clear hcz9_3
        try clear hcz9_4
        try clear hcz9_5
        try clear hcz9_6
        try clear hcz9_7
        try clear hcz9_8
        try clear hfz19_0
        try clear hfz19_1
        try clear hfz19_2
        try clear hfz19_3
        try clear hfz19_4
        try clear hfz19_5
        try clear hfz19_6
        try clear hfz19_7
        try clear hfz19_8
        try clear hfz28_0
        try clear hfz28_1
        try clear hfz28_2
        try clear hfz28_3
        try clear hfz28_4
        try clear hfz28_5
        try clear hfz28_6
        try clear hfz28_7
        try clear hfz28_8
        try clear hfz32_0
        try clear hfz32_1
        try clear hfz32_2
        try clear hfz32_3
        try clear hfz32_4
        try clear hfz32_5
        try clear hfz32_6
        try clear hfz32_7
        try clear hfz32_8
        try clear hfz61_0
        try clear hfz61_1
        try clear hfz61_2
        try clear hfz61_3
        try clear hfz61_4
        try clear hfz61_5
        try clear hfz61_6
        try clear hfz61_7
        try clear hfz61_8
        try clear hfz9_0
        try clear hfz9_1
        try clear hfz9_2
        try clear hfz9_3
        try clear hfz9_4
        try clear hfz9_5
        try clear hfz9_6
        try clear hfz9_7
        try clear hfz9_8
        try clear p2
        try clear q4
        try clear q48
        obtain ⟨kq, x110_79, rfl, HA, HJ79, HO_10, HO_523008, BK487, BK522, HB⟩ := hcut
        have hl10_79 := (Kd.R_reads' HO_10.out).1
        rw [hl10_79] at HO_10
        (try simp only [hl10_79])
        (try simp only [hl10_79] at BK487)
        (try simp only [hl10_79] at BK522)
        (try simp only [hl10_79] at HO_523008)
        cases kq with
        | zero => exact absurd HA.out (by simp [laws_FnExactTurnsThatFit.j2])
        | succ kj79 =>
          have H := HA.out
          clear HA
          simp only [laws_FnExactTurnsThatFit.j2] at H
          by_cases c95 : x110_79 = true
          · subst c95
            have H1 : (some false) = some r := by rw [if_pos rfl] at H; exact H
            clear H
            have H := H1
            clear H1
            obtain rfl := Option.some.inj H
            go_wp2
            go_ret
            exact ⟨zE, pB2 HB.out GE487.out GE522.out⟩
          replace c95 := Bool.eq_false_iff.mpr c95
          subst c95
          have H1 : ((laws_heldInt64S.f kj79 t550 1).bind fun t571 => (if t571 < 0 then (some false) else (if t571 = t549 then (some true) else (some false)))) = some r := by rw [if_neg (show ¬ (false = true) by decide)] at H; exact H
          clear H
          have H := H1
          clear H1
          replace H := Option.bind_eq_some_iff.mp H
          obtain ⟨t571, A960, H⟩ := H
          have A96 := Aside0.mk A960
          clear A960
          by_cases c97 : t571 < 0
          · rw [if_pos c97] at H
            have c97b0 := decide_eq_true c97
            clear c97
            obtain rfl := Option.some.inj H
            go_wp2_with (first | ((with_reducible refine gate_callee (f := 23) rfl ?_); refine goesL_ (some 113) rfl rfl Try.func23 (by kernel_rfl) rfl #[.slice Ao81 t550.length co81, .int .i64 1] rfl pA ?_; (with_reducible refine (laws_heldInt64S.calls kj79 _ _ t550 1 t571 _ ?side1 ?side2 A96.out).mono ?_); (case side1 => exact pC ((Kd.R_reads' HO_10.out).2.2)); (case side2 => exact (Kd.R_reads' HO_10.out).2.1); rintro e w' ⟨rfl, ⟨nd, rfl⟩⟩; refine ⟨_, rfl, ?_⟩))
            go_ret
            exact ⟨zE, pB2 HB.out GE487.out GE522.out⟩
          rw [if_neg c97] at H
          have c97b0 : decide (t571 < 0) = false := decide_eq_false c97
          clear c97
          by_cases c98 : t571 = t549
          rotate_left
          · rw [if_neg c98] at H
            have c98b0 : (t571 == t549) = false := beq_eq_false_iff_ne.mpr c98
            have c98b1 : (t571 != t549) = true := bne_iff_ne.mpr c98
            obtain rfl := Option.some.inj H
            go_wp2_with (first | ((with_reducible refine gate_callee (f := 23) rfl ?_); refine goesL_ (some 113) rfl rfl Try.func23 (by kernel_rfl) rfl #[.slice Ao81 t550.length co81, .int .i64 1] rfl pA ?_; (with_reducible refine (laws_heldInt64S.calls kj79 _ _ t550 1 t571 _ ?side1 ?side2 A96.out).mono ?_); (case side1 => exact pC ((Kd.R_reads' HO_10.out).2.2)); (case side2 => exact (Kd.R_reads' HO_10.out).2.1); rintro e w' ⟨rfl, ⟨nd, rfl⟩⟩; refine ⟨_, rfl, ?_⟩))
            go_ret
            exact ⟨zE, pB2 HB.out GE487.out GE522.out⟩
          rw [if_pos c98] at H
          have c98b0 : (t571 == t549) = true := beq_iff_eq.mpr c98
          have c98b1 : (t571 != t549) = false := bne_eq_false_iff_eq.mpr c98
          clear c98
          obtain rfl := Option.some.inj H
          go_wp2_with (first | ((with_reducible refine gate_callee (f := 23) rfl ?_); refine goesL_ (some 113) rfl rfl Try.func23 (by kernel_rfl) rfl #[.slice Ao81 t550.length co81, .int .i64 1] rfl pA ?_; (with_reducible refine (laws_heldInt64S.calls kj79 _ _ t550 1 t571 _ ?side1 ?side2 A96.out).mono ?_); (case side1 => exact pC ((Kd.R_reads' HO_10.out).2.2)); (case side2 => exact (Kd.R_reads' HO_10.out).2.1); rintro e w' ⟨rfl, ⟨nd, rfl⟩⟩; refine ⟨_, rfl, ?_⟩))
          go_ret
          exact ⟨zE, pB2 HB.out GE487.out GE522.out⟩
def B93 (x : S93) : Prop := (Lit.int .i64 x.f0).wf = true ∧ (Lit.int .i64 x.f1).wf = true
def B24 (x : S24) : Prop := x.f0.size ≤ maxLen ∧ (Lit.int .i64 x.f1).wf = true ∧ (Lit.int .i64 x.f2).wf = true
def B136 (x : S136) : Prop := (Lit.int .i64 x.f0).wf = true ∧ (Lit.int .i64 x.f1).wf = true ∧ (Lit.int .i64 x.f2).wf = true ∧ (Lit.int .i64 x.f3).wf = true
def B27 (x : S27) : Prop := x.f0.size ≤ maxLen ∧ x.f1.size ≤ maxLen ∧ (Lit.int .i64 x.f2).wf = true ∧ B24 x.f3 ∧ (Lit.int .i64 x.f4).wf = true ∧ (Lit.int .i64 x.f5).wf = true ∧ (x.f6.length ≤ maxLen ∧ ∀ x_ ∈ x.f6, B136 x_)
def laws_FnExactTurnsThatFit.Pure : Prop := ∀ (l0 : List (S93)) (a1_0 : ByteArray) (a1_1 : ByteArray) (a1_2 : Int) (a1_3 : ByteArray) (a1_4 : Int) (a1_5 : Int) (a1_6 : Int) (a1_7 : Int) (l1_8 : List (S136)), (l0.length ≤ maxLen ∧ ∀ x_ ∈ l0, B93 x_) → B27 (⟨a1_0, a1_1, a1_2, (⟨a1_3, a1_4, a1_5⟩ : S24), a1_6, a1_7, l1_8⟩ : S27) → ∃ k, laws_FnExactTurnsThatFit.f k l0 a1_0 a1_1 a1_2 a1_3 a1_4 a1_5 a1_6 a1_7 l1_8 = some true
end Go.Proofs.Ytfiiakhpdkdebaa.PFnExactTurnsThatFit

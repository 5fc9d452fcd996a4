-- printed by a program of this session (wip/myprint.py), after the kit's print
import Derived.Test.YtonhjkghpkhioaaPAx0
namespace Go.Proofs.Ytonhjkghpkhioaa.PA
open Go.RowKit Go.Proofs.YtonhjkghpkhioaaW.PrintWords Go.Proofs.YtonhjkghpkhioaaW.PrintLast Go.Proofs.YtonhjkghpkhioaaW.PrintMore
attribute [local go_sem] max2_int min2_int max_two min_two max_three min_three max_four min_four   -- for this text's walks alone
set_option linter.unusedVariables false
set_option linter.unusedSimpArgs false
/-! ### palinoderef14_Level: function 22 -/
def palinoderef14_Level.l0 : Nat → Int → List (S48) → Int → List (S48) → List Int → Int → Option ((List (S48)))
 | 0, _, _, _, _, _, _ => none
 | k + 1, x1, x5, x6, x266000, x266001, x266002 => if x6 < (x266000.length : Int) then (if 0 ≤ x6 then (if ((rd_T48 x266000 x6).f1) = x1 then (if x5.length < 2513169434916 then (palinoderef14_Level.l0 k x1 (x5 ++ [(⟨(rd_T48 x266000 x6).f0, (rd_T48 x266000 x6).f1, (rd_T48 x266000 x6).f2, (rd_T48 x266000 x6).f3, (rd_T48 x266000 x6).f4⟩ : S48)]) (wrap64 (x6 + 1)) x266000 x266001 x266002) else (none)) else (palinoderef14_Level.l0 k x1 x5 (wrap64 (x6 + 1)) x266000 x266001 x266002)) else (none)) else (some x5)
def palinoderef14_Level.f (k : Nat) (l0_0 : List (S48)) (l0_1 : List Int) (a0_2 : Int) (a1 : Int) : Option ((List (S48))) := palinoderef14_Level.l0 k a1 ([] : List (S48)) 0 l0_0 l0_1 a0_2
theorem palinoderef14_Level.mono_l : ∀ k, (∀ y0 y1 y2 y3 y4 y5, LeO (palinoderef14_Level.l0 k y0 y1 y2 y3 y4 y5) (palinoderef14_Level.l0 (k + 1) y0 y1 y2 y3 y4 y5))
 | 0 => fun _ _ _ _ _ _ r h => by simp [palinoderef14_Level.l0] at h
 | k + 1 => by
  have ih0 := palinoderef14_Level.mono_l k
  ·intro y0 y1 y2 y3 y4 y5
   unfold palinoderef14_Level.l0
   repeat' first
   | (with_reducible exact ih0 _ _ _ _ _ _)
   | (with_reducible exact LeO.refl _)
   | (with_reducible exact LeO.none _)
   | (with_reducible refine LeO.ite ?_ ?_)
   | (with_reducible refine LeO.bind ?_ (fun _ => ?_))
   | exact ih0 _ _ _ _ _ _
   | exact LeO.none _
   | refine LeO.ite ?_ ?_
   | refine LeO.bind ?_ (fun _ => ?_)
theorem palinoderef14_Level.mono : ∀ a0 a1 a2 a3 k, LeO (palinoderef14_Level.f k a0 a1 a2 a3) (palinoderef14_Level.f (k + 1) a0 a1 a2 a3) := by
 intro a0 a1 a2 a3 k
 have ih0 := palinoderef14_Level.mono_l k
 unfold palinoderef14_Level.f
 repeat' first
   | (with_reducible exact ih0 _ _ _ _ _ _)
   | (with_reducible exact LeO.refl _)
   | (with_reducible exact LeO.none _)
   | (with_reducible refine LeO.ite ?_ ?_)
   | (with_reducible refine LeO.bind ?_ (fun _ => ?_))
   | exact ih0 _ _ _ _ _ _
   | exact LeO.none _
   | refine LeO.ite ?_ ?_
   | refine LeO.bind ?_ (fun _ => ?_)
/-! ### palinoderef16_meets: function 23 -/
def palinoderef16_meets.l0 : Nat → List (S48) → ByteArray → ByteArray → Int → Int → Int → ByteArray → ByteArray → Int → Option (Bool)
 | 0, _, _, _, _, _, _, _, _, _ => none
 | k + 1, x1, x5, x6, x7, x272000, x272001, x272002, x272003, x272004 => if x7 < (x1.length : Int) then (if 0 ≤ x7 then (palinoderef16_meets.l0 k x1 (smn x5 ((rd_T48 x1 x7).f2)) (smx x6 ((rd_T48 x1 x7).f3)) (wrap64 (x7 + 1)) x272000 x272001 x272002 x272003 x272004) else (none)) else (if ((Op.bytesLess x6.toList x272002.toList) = true) then (some false) else (some (!(Op.bytesLess x272003.toList x5.toList))))
def palinoderef16_meets.f (k : Nat) (a0_0 : Int) (a0_1 : Int) (a0_2 : ByteArray) (a0_3 : ByteArray) (a0_4 : Int) (l1 : List (S48)) : Option (Bool) := if (l1.length : Int) = 0 then (some false) else (if 0 < (l1.length : Int) then (palinoderef16_meets.l0 k l1 ((rd_T48 l1 0).f2) ((rd_T48 l1 0).f3) 0 a0_0 a0_1 a0_2 a0_3 a0_4) else (none))
theorem palinoderef16_meets.mono_l : ∀ k, (∀ y0 y1 y2 y3 y4 y5 y6 y7 y8, LeO (palinoderef16_meets.l0 k y0 y1 y2 y3 y4 y5 y6 y7 y8) (palinoderef16_meets.l0 (k + 1) y0 y1 y2 y3 y4 y5 y6 y7 y8))
 | 0 => fun _ _ _ _ _ _ _ _ _ r h => by simp [palinoderef16_meets.l0] at h
 | k + 1 => by
  have ih0 := palinoderef16_meets.mono_l k
  ·intro y0 y1 y2 y3 y4 y5 y6 y7 y8
   unfold palinoderef16_meets.l0
   repeat' first
   | (with_reducible exact ih0 _ _ _ _ _ _ _ _ _)
   | (with_reducible exact LeO.refl _)
   | (with_reducible exact LeO.none _)
   | (with_reducible refine LeO.ite ?_ ?_)
   | (with_reducible refine LeO.bind ?_ (fun _ => ?_))
   | exact ih0 _ _ _ _ _ _ _ _ _
   | exact LeO.none _
   | refine LeO.ite ?_ ?_
   | refine LeO.bind ?_ (fun _ => ?_)
theorem palinoderef16_meets.mono : ∀ a0 a1 a2 a3 a4 a5 k, LeO (palinoderef16_meets.f k a0 a1 a2 a3 a4 a5) (palinoderef16_meets.f (k + 1) a0 a1 a2 a3 a4 a5) := by
 intro a0 a1 a2 a3 a4 a5 k
 have ih0 := palinoderef16_meets.mono_l k
 unfold palinoderef16_meets.f
 repeat' first
   | (with_reducible exact ih0 _ _ _ _ _ _ _ _ _)
   | (with_reducible exact LeO.refl _)
   | (with_reducible exact LeO.none _)
   | (with_reducible refine LeO.ite ?_ ?_)
   | (with_reducible refine LeO.bind ?_ (fun _ => ?_))
   | exact ih0 _ _ _ _ _ _ _ _ _
   | exact LeO.none _
   | refine LeO.ite ?_ ?_
   | refine LeO.bind ?_ (fun _ => ?_)
end Go.Proofs.Ytonhjkghpkhioaa.PA

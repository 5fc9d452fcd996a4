-- printed by a program of this session (wip/myprint.py), after the kit's print
import Derived.Test.YtonhjkghpkhioaaPAx0
import Derived.Test.YtonhjkghpkhioaaPAx9
namespace Go.Proofs.Ytonhjkghpkhioaa.PA
open Go.RowKit Go.Proofs.YtonhjkghpkhioaaW.PrintWords Go.Proofs.YtonhjkghpkhioaaW.PrintLast Go.Proofs.YtonhjkghpkhioaaW.PrintMore
attribute [local go_sem] max2_int min2_int max_two min_two max_three min_three max_four min_four   -- for this text's walks alone
set_option linter.unusedVariables false
set_option linter.unusedSimpArgs false
/-! ### palinoderef14_Right: function 21 -/
mutual
def palinoderef14_Right.j0 : Nat → Bool → List (S48) → List Int → Int → Option (Bool)
 | 0, _, _, _, _ => none
 | k + 1, x27, x254000, x254001, x254002 => if x27 = true then (some false) else (palinoderef14_Right.l0 k 0 x254000 x254001 x254002)
def palinoderef14_Right.l0 : Nat → Int → List (S48) → List Int → Int → Option (Bool)
 | 0, _, _, _, _ => none
 | k + 1, x3, x254000, x254001, x254002 => if x3 < (x254001.length : Int) then (if 0 ≤ x3 then (if (rd x254001 x3) < 1 then (some false) else (if (rd x254001 x3) > 9007199254740991 then (some false) else (palinoderef14_Right.l0 k (wrap64 (x3 + 1)) x254000 x254001 x254002))) else (none)) else (palinoderef14_Right.l1 k 0 x254000 x254001 x254002)
def palinoderef14_Right.l1 : Nat → Int → List (S48) → List Int → Int → Option (Bool)
 | 0, _, _, _, _ => none
 | k + 1, x4, x254000, x254001, x254002 => if x4 < (x254000.length : Int) then (if 0 ≤ x4 then ((palinoderef14_meta.f ((rd_T48 x254000 x4).f0) ((rd_T48 x254000 x4).f1) ((rd_T48 x254000 x4).f2) ((rd_T48 x254000 x4).f3) ((rd_T48 x254000 x4).f4)).bind fun t262 => (if t262 = true then (if x4 = 0 then (palinoderef14_Right.l1 k (wrap64 (x4 + 1)) x254000 x254001 x254002) else (if 0 ≤ (wrap64 (x4 - 1)) then (if (wrap64 (x4 - 1)) < (x254000.length : Int) then (if ((rd_T48 x254000 (wrap64 (x4 - 1))).f1) > ((rd_T48 x254000 x4).f1) then (some false) else (if ((rd_T48 x254000 (wrap64 (x4 - 1))).f1) = ((rd_T48 x254000 x4).f1) then (if ((rd_T48 x254000 x4).f1) = 0 then (if ((rd_T48 x254000 (wrap64 (x4 - 1))).f0) ≥ ((rd_T48 x254000 x4).f0) then (some false) else (if ((rd_T48 x254000 x4).f1) > 0 then (if ((Op.bytesLess (((rd_T48 x254000 (wrap64 (x4 - 1))).f3).toList) (((rd_T48 x254000 x4).f2).toList)) = true) then (palinoderef14_Right.l1 k (wrap64 (x4 + 1)) x254000 x254001 x254002) else (some false)) else (palinoderef14_Right.l1 k (wrap64 (x4 + 1)) x254000 x254001 x254002))) else (if ((rd_T48 x254000 x4).f1) > 0 then (if ((Op.bytesLess (((rd_T48 x254000 (wrap64 (x4 - 1))).f3).toList) (((rd_T48 x254000 x4).f2).toList)) = true) then (palinoderef14_Right.l1 k (wrap64 (x4 + 1)) x254000 x254001 x254002) else (some false)) else (palinoderef14_Right.l1 k (wrap64 (x4 + 1)) x254000 x254001 x254002))) else (palinoderef14_Right.l1 k (wrap64 (x4 + 1)) x254000 x254001 x254002))) else (none)) else (none))) else (some false))) else (none)) else ((palinoderef14_ids.f k x254000 x254001 x254002).bind fun t256 => ((palinoderef14_twice.f k t256).bind fun t259 => (some (!t259))))
end
def palinoderef14_Right.f (k : Nat) (l0_0 : List (S48)) (l0_1 : List Int) (a0_2 : Int) : Option (Bool) := if (l0_0.length : Int) > 200 then (palinoderef14_Right.j0 k true l0_0 l0_1 a0_2) else (if (l0_1.length : Int) > 20 then (palinoderef14_Right.j0 k true l0_0 l0_1 a0_2) else (if a0_2 < 0 then (palinoderef14_Right.j0 k true l0_0 l0_1 a0_2) else (palinoderef14_Right.j0 k (decide (a0_2 > 9007199254740991)) l0_0 l0_1 a0_2)))
theorem palinoderef14_Right.mono_l : ∀ k, (∀ y0 y1 y2 y3, LeO (palinoderef14_Right.j0 k y0 y1 y2 y3) (palinoderef14_Right.j0 (k + 1) y0 y1 y2 y3)) ∧ (∀ y0 y1 y2 y3, LeO (palinoderef14_Right.l0 k y0 y1 y2 y3) (palinoderef14_Right.l0 (k + 1) y0 y1 y2 y3)) ∧ (∀ y0 y1 y2 y3, LeO (palinoderef14_Right.l1 k y0 y1 y2 y3) (palinoderef14_Right.l1 (k + 1) y0 y1 y2 y3))
 | 0 => ⟨fun _ _ _ _ r h => by simp [palinoderef14_Right.j0] at h, fun _ _ _ _ r h => by simp [palinoderef14_Right.l0] at h, fun _ _ _ _ r h => by simp [palinoderef14_Right.l1] at h⟩
 | k + 1 => by
  obtain ⟨ih0, ih1, ih2⟩ := palinoderef14_Right.mono_l k
  refine ⟨?_, ?_, ?_⟩
  ·intro y0 y1 y2 y3
   unfold palinoderef14_Right.j0
   repeat' first
   | (with_reducible exact ih0 _ _ _ _)
   | (with_reducible exact ih1 _ _ _ _)
   | (with_reducible exact ih2 _ _ _ _)
   | (with_reducible exact palinoderef14_ids.mono _ _ _ _)
   | (with_reducible exact palinoderef14_twice.mono _ _)
   | (with_reducible exact LeO.refl _)
   | (with_reducible exact LeO.none _)
   | (with_reducible refine LeO.ite ?_ ?_)
   | (with_reducible refine LeO.bind ?_ (fun _ => ?_))
   | exact ih0 _ _ _ _
   | exact ih1 _ _ _ _
   | exact ih2 _ _ _ _
   | exact palinoderef14_ids.mono _ _ _ _
   | exact palinoderef14_twice.mono _ _
   | exact LeO.none _
   | refine LeO.ite ?_ ?_
   | refine LeO.bind ?_ (fun _ => ?_)
  ·intro y0 y1 y2 y3
   unfold palinoderef14_Right.l0
   repeat' first
   | (with_reducible exact ih0 _ _ _ _)
   | (with_reducible exact ih1 _ _ _ _)
   | (with_reducible exact ih2 _ _ _ _)
   | (with_reducible exact palinoderef14_ids.mono _ _ _ _)
   | (with_reducible exact palinoderef14_twice.mono _ _)
   | (with_reducible exact LeO.refl _)
   | (with_reducible exact LeO.none _)
   | (with_reducible refine LeO.ite ?_ ?_)
   | (with_reducible refine LeO.bind ?_ (fun _ => ?_))
   | exact ih0 _ _ _ _
   | exact ih1 _ _ _ _
   | exact ih2 _ _ _ _
   | exact palinoderef14_ids.mono _ _ _ _
   | exact palinoderef14_twice.mono _ _
   | exact LeO.none _
   | refine LeO.ite ?_ ?_
   | refine LeO.bind ?_ (fun _ => ?_)
  ·intro y0 y1 y2 y3
   unfold palinoderef14_Right.l1
   repeat' first
   | (with_reducible exact ih0 _ _ _ _)
   | (with_reducible exact ih1 _ _ _ _)
   | (with_reducible exact ih2 _ _ _ _)
   | (with_reducible exact palinoderef14_ids.mono _ _ _ _)
   | (with_reducible exact palinoderef14_twice.mono _ _)
   | (with_reducible exact LeO.refl _)
   | (with_reducible exact LeO.none _)
   | (with_reducible refine LeO.ite ?_ ?_)
   | (with_reducible refine LeO.bind ?_ (fun _ => ?_))
   | exact ih0 _ _ _ _
   | exact ih1 _ _ _ _
   | exact ih2 _ _ _ _
   | exact palinoderef14_ids.mono _ _ _ _
   | exact palinoderef14_twice.mono _ _
   | exact LeO.none _
   | refine LeO.ite ?_ ?_
   | refine LeO.bind ?_ (fun _ => ?_)
theorem palinoderef14_Right.mono : ∀ a0 a1 a2 k, LeO (palinoderef14_Right.f k a0 a1 a2) (palinoderef14_Right.f (k + 1) a0 a1 a2) := by
 intro a0 a1 a2 k
 obtain ⟨ih0, ih1, ih2⟩ := palinoderef14_Right.mono_l k
 unfold palinoderef14_Right.f
 repeat' first
   | (with_reducible exact ih0 _ _ _ _)
   | (with_reducible exact ih1 _ _ _ _)
   | (with_reducible exact ih2 _ _ _ _)
   | (with_reducible exact palinoderef14_ids.mono _ _ _ _)
   | (with_reducible exact palinoderef14_twice.mono _ _)
   | (with_reducible exact LeO.refl _)
   | (with_reducible exact LeO.none _)
   | (with_reducible refine LeO.ite ?_ ?_)
   | (with_reducible refine LeO.bind ?_ (fun _ => ?_))
   | exact ih0 _ _ _ _
   | exact ih1 _ _ _ _
   | exact ih2 _ _ _ _
   | exact palinoderef14_ids.mono _ _ _ _
   | exact palinoderef14_twice.mono _ _
   | exact LeO.none _
   | refine LeO.ite ?_ ?_
   | refine LeO.bind ?_ (fun _ => ?_)
end Go.Proofs.Ytonhjkghpkhioaa.PA

-- printed by a program of this session (wip/myprint.py), after the kit's print
import Derived.Test.YtonhjkghpkhioaaPAx0
namespace Go.Proofs.Ytonhjkghpkhioaa.PA
open Go.RowKit Go.Proofs.YtonhjkghpkhioaaW.PrintWords Go.Proofs.YtonhjkghpkhioaaW.PrintLast Go.Proofs.YtonhjkghpkhioaaW.PrintMore
attribute [local go_sem] max2_int min2_int max_two min_two max_three min_three max_four min_four   -- for this text's walks alone
set_option linter.unusedVariables false
set_option linter.unusedSimpArgs false
/-! ### palinoderef16_Limit: function 10 -/
def palinoderef16_Limit.f (a0 : Int) : Option (Int) := if a0 = 1 then (some 4000) else (if a0 = 2 then (some 16000) else (some 0))
/-! ### palinoderef14_meta: function 32 -/
def palinoderef14_meta.f (a0_0 : Int) (a0_1 : Int) (a0_2 : ByteArray) (a0_3 : ByteArray) (a0_4 : Int) : Option (Bool) := if a0_0 ≥ 1 then (if a0_0 ≤ 9007199254740991 then (if a0_1 ≥ 0 then (if a0_1 < 4 then (if a0_2.toList = ([] : List UInt8) then (some false) else (if (a0_2.size : Int) ≤ 80 then (if a0_3.toList = ([] : List UInt8) then (some false) else (if (a0_3.size : Int) ≤ 80 then (if ((Op.bytesLess a0_3.toList a0_2.toList) = true) then (some false) else (if a0_4 ≥ 1 then (some (decide (a0_4 ≤ 1048576))) else (some false))) else (some false))) else (some false))) else (some false)) else (some false)) else (some false)) else (some false)
/-! ### palinoderef14_twice: function 33 -/
mutual
def palinoderef14_twice.l0 : Nat → List Int → Int → Option (Bool)
 | 0, _, _ => none
 | k + 1, x0, x3 => if x3 < (x0.length : Int) then (palinoderef14_twice.l1 k x0 x3 0) else (some false)
def palinoderef14_twice.l1 : Nat → List Int → Int → Int → Option (Bool)
 | 0, _, _, _ => none
 | k + 1, x0, x3, x4 => if x4 < x3 then (if 0 ≤ x3 then (if x3 < (x0.length : Int) then (if 0 ≤ x4 then (if x4 < (x0.length : Int) then (if (rd x0 x3) = (rd x0 x4) then (some true) else (palinoderef14_twice.l1 k x0 x3 (wrap64 (x4 + 1)))) else (none)) else (none)) else (none)) else (none)) else (palinoderef14_twice.l0 k x0 (wrap64 (x3 + 1)))
end
def palinoderef14_twice.f (k : Nat) (l0 : List Int) : Option (Bool) := palinoderef14_twice.l0 k l0 0
theorem palinoderef14_twice.mono_l : ∀ k, (∀ y0 y1, LeO (palinoderef14_twice.l0 k y0 y1) (palinoderef14_twice.l0 (k + 1) y0 y1)) ∧ (∀ y0 y1 y2, LeO (palinoderef14_twice.l1 k y0 y1 y2) (palinoderef14_twice.l1 (k + 1) y0 y1 y2))
 | 0 => ⟨fun _ _ r h => by simp [palinoderef14_twice.l0] at h, fun _ _ _ r h => by simp [palinoderef14_twice.l1] at h⟩
 | k + 1 => by
  obtain ⟨ih0, ih1⟩ := palinoderef14_twice.mono_l k
  refine ⟨?_, ?_⟩
  ·intro y0 y1
   unfold palinoderef14_twice.l0
   repeat' first
   | (with_reducible exact ih0 _ _)
   | (with_reducible exact ih1 _ _ _)
   | (with_reducible exact LeO.refl _)
   | (with_reducible exact LeO.none _)
   | (with_reducible refine LeO.ite ?_ ?_)
   | (with_reducible refine LeO.bind ?_ (fun _ => ?_))
   | exact ih0 _ _
   | exact ih1 _ _ _
   | exact LeO.none _
   | refine LeO.ite ?_ ?_
   | refine LeO.bind ?_ (fun _ => ?_)
  ·intro y0 y1 y2
   unfold palinoderef14_twice.l1
   repeat' first
   | (with_reducible exact ih0 _ _)
   | (with_reducible exact ih1 _ _ _)
   | (with_reducible exact LeO.refl _)
   | (with_reducible exact LeO.none _)
   | (with_reducible refine LeO.ite ?_ ?_)
   | (with_reducible refine LeO.bind ?_ (fun _ => ?_))
   | exact ih0 _ _
   | exact ih1 _ _ _
   | exact LeO.none _
   | refine LeO.ite ?_ ?_
   | refine LeO.bind ?_ (fun _ => ?_)
theorem palinoderef14_twice.mono : ∀ a0 k, LeO (palinoderef14_twice.f k a0) (palinoderef14_twice.f (k + 1) a0) := by
 intro a0 k
 obtain ⟨ih0, ih1⟩ := palinoderef14_twice.mono_l k
 unfold palinoderef14_twice.f
 repeat' first
   | (with_reducible exact ih0 _ _)
   | (with_reducible exact ih1 _ _ _)
   | (with_reducible exact LeO.refl _)
   | (with_reducible exact LeO.none _)
   | (with_reducible refine LeO.ite ?_ ?_)
   | (with_reducible refine LeO.bind ?_ (fun _ => ?_))
   | exact ih0 _ _
   | exact ih1 _ _ _
   | exact LeO.none _
   | refine LeO.ite ?_ ?_
   | refine LeO.bind ?_ (fun _ => ?_)
/-! ### palinoderef14_ids: function 34 -/
def palinoderef14_ids.l0 : Nat → List Int → Int → List (S48) → List Int → Int → Option (List Int)
 | 0, _, _, _, _, _ => none
 | k + 1, x3, x4, x246000, x246001, x246002 => if x4 < (x246000.length : Int) then (if 0 ≤ x4 then (if x3.length < 17592186044416 then (palinoderef14_ids.l0 k (x3 ++ [(rd_T48 x246000 x4).f0]) (wrap64 (x4 + 1)) x246000 x246001 x246002) else (none)) else (none)) else (if x3.length + x246001.length < 17592186044416 then (some (x3 ++ x246001)) else (none))
def palinoderef14_ids.f (k : Nat) (l0_0 : List (S48)) (l0_1 : List Int) (a0_2 : Int) : Option (List Int) := palinoderef14_ids.l0 k ([] : List Int) 0 l0_0 l0_1 a0_2
theorem palinoderef14_ids.mono_l : ∀ k, (∀ y0 y1 y2 y3 y4, LeO (palinoderef14_ids.l0 k y0 y1 y2 y3 y4) (palinoderef14_ids.l0 (k + 1) y0 y1 y2 y3 y4))
 | 0 => fun _ _ _ _ _ r h => by simp [palinoderef14_ids.l0] at h
 | k + 1 => by
  have ih0 := palinoderef14_ids.mono_l k
  ·intro y0 y1 y2 y3 y4
   unfold palinoderef14_ids.l0
   repeat' first
   | (with_reducible exact ih0 _ _ _ _ _)
   | (with_reducible exact LeO.refl _)
   | (with_reducible exact LeO.none _)
   | (with_reducible refine LeO.ite ?_ ?_)
   | (with_reducible refine LeO.bind ?_ (fun _ => ?_))
   | exact ih0 _ _ _ _ _
   | exact LeO.none _
   | refine LeO.ite ?_ ?_
   | refine LeO.bind ?_ (fun _ => ?_)
theorem palinoderef14_ids.mono : ∀ a0 a1 a2 k, LeO (palinoderef14_ids.f k a0 a1 a2) (palinoderef14_ids.f (k + 1) a0 a1 a2) := by
 intro a0 a1 a2 k
 have ih0 := palinoderef14_ids.mono_l k
 unfold palinoderef14_ids.f
 repeat' first
   | (with_reducible exact ih0 _ _ _ _ _)
   | (with_reducible exact LeO.refl _)
   | (with_reducible exact LeO.none _)
   | (with_reducible refine LeO.ite ?_ ?_)
   | (with_reducible refine LeO.bind ?_ (fun _ => ?_))
   | exact ih0 _ _ _ _ _
   | exact LeO.none _
   | refine LeO.ite ?_ ?_
   | refine LeO.bind ?_ (fun _ => ?_)
end Go.Proofs.Ytonhjkghpkhioaa.PA

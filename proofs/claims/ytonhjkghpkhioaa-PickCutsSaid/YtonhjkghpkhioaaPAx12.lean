-- printed by a program of this session (wip/myprint.py), after the kit's print
import Derived.Test.YtonhjkghpkhioaaPAx0
import Derived.Test.YtonhjkghpkhioaaPAx9
import Derived.Test.YtonhjkghpkhioaaPAx10
import Derived.Test.YtonhjkghpkhioaaPAx11
namespace Go.Proofs.Ytonhjkghpkhioaa.PA
open Go.RowKit Go.Proofs.YtonhjkghpkhioaaW.PrintWords Go.Proofs.YtonhjkghpkhioaaW.PrintLast Go.Proofs.YtonhjkghpkhioaaW.PrintMore
attribute [local go_sem] max2_int min2_int max_two min_two max_three min_three max_four min_four   -- for this text's walks alone
set_option linter.unusedVariables false
set_option linter.unusedSimpArgs false
/-! ### palinoderef16_Pick: function 7 -/
mutual
def palinoderef16_Pick.j0 : Nat → Int → List (S48) → List (S48) → List Int → Int → Option (Int × List Int × List Int × Bool × Bool)
 | 0, _, _, _, _, _ => none
 | k + 1, x5, x6, x277000, x277001, x277002 => palinoderef16_Pick.l0 k x5 x6 1 x277000 x277001 x277002
def palinoderef16_Pick.l0 : Nat → Int → List (S48) → Int → List (S48) → List Int → Int → Option (Int × List Int × List Int × Bool × Bool)
 | 0, _, _, _, _, _, _ => none
 | k + 1, x5, x6, x7, x277000, x277001, x277002 => if x7 < 3 then (palinoderef16_Pick.j2 k x5 x6 x7 (decide (x5 < 0)) x277000 x277001 x277002) else (palinoderef16_Pick.j2 k x5 x6 x7 false x277000 x277001 x277002)
def palinoderef16_Pick.j2 : Nat → Int → List (S48) → Int → Bool → List (S48) → List Int → Int → Option (Int × List Int × List Int × Bool × Bool)
 | 0, _, _, _, _, _, _, _ => none
 | k + 1, x5, x6, x7, x35, x277000, x277001, x277002 => if x35 = true then ((palinoderef14_Level.f k x277000 x277001 x277002 x7).bind fun t282 => (palinoderef16_Pick.l1 k x5 t282 x7 0 0 x277000 x277001 x277002)) else (if x5 < 0 then (some (0, ([] : List Int), ([] : List Int), false, false)) else (palinoderef16_Pick.l2 k x5 x6 ([] : List (S48)) 0 x277000 x277001 x277002 x5 ([] : List Int) true))
def palinoderef16_Pick.l1 : Nat → Int → List (S48) → Int → Int → Int → List (S48) → List Int → Int → Option (Int × List Int × List Int × Bool × Bool)
 | 0, _, _, _, _, _, _, _, _ => none
 | k + 1, x5, x6, x7, x8, x9, x277000, x277001, x277002 => if x9 < (x6.length : Int) then (if 0 ≤ x9 then (palinoderef16_Pick.l1 k x5 x6 x7 (wrap64 (x8 + ((rd_T48 x6 x9).f4))) (wrap64 (x9 + 1)) x277000 x277001 x277002) else (none)) else ((palinoderef16_Limit.f x7).bind fun t286 => (if x8 > t286 then (if 1 ≤ (x6.length : Int) then (palinoderef16_Pick.l0 k x7 (x6.take (1 : Int).toNat) (wrap64 (x7 + 1)) x277000 x277001 x277002) else (none)) else (palinoderef16_Pick.l0 k x5 x6 (wrap64 (x7 + 1)) x277000 x277001 x277002)))
def palinoderef16_Pick.l2 : Nat → Int → List (S48) → List (S48) → Int → List (S48) → List Int → Int → Int → List Int → Bool → Option (Int × List Int × List Int × Bool × Bool)
 | 0, _, _, _, _, _, _, _, _, _, _ => none
 | k + 1, x5, x6, x11, x12, x277000, x277001, x277002, x291000, x291001, x291003 => if x12 < (x6.length : Int) then (if 0 ≤ x12 then (if x291001.length < 17592186044416 then (if x11.length < 2513169434916 then (palinoderef16_Pick.l2 k x5 x6 (x11 ++ [(⟨(rd_T48 x6 x12).f0, (rd_T48 x6 x12).f1, (rd_T48 x6 x12).f2, (rd_T48 x6 x12).f3, (rd_T48 x6 x12).f4⟩ : S48)]) (wrap64 (x12 + 1)) x277000 x277001 x277002 x291000 (x291001 ++ [(rd_T48 x6 x12).f0]) x291003) else (none)) else (none)) else (none)) else ((palinoderef14_Level.f k x277000 x277001 x277002 (wrap64 (x5 + 1))).bind fun t299 => (palinoderef16_Pick.l3 k x5 x6 x11 t299 0 x277000 x277001 x277002 x291000 x291001 ([] : List Int) x291003))
def palinoderef16_Pick.l3 : Nat → Int → List (S48) → List (S48) → List (S48) → Int → List (S48) → List Int → Int → Int → List Int → List Int → Bool → Option (Int × List Int × List Int × Bool × Bool)
 | 0, _, _, _, _, _, _, _, _, _, _, _, _ => none
 | k + 1, x5, x6, x11, x13, x14, x277000, x277001, x277002, x291000, x291001, x291002, x291003 => if x14 < (x13.length : Int) then (if 0 ≤ x14 then ((palinoderef16_meets.f k ((rd_T48 x13 x14).f0) ((rd_T48 x13 x14).f1) ((rd_T48 x13 x14).f2) ((rd_T48 x13 x14).f3) ((rd_T48 x13 x14).f4) x6).bind fun t303 => (if t303 = true then (if x291002.length < 17592186044416 then (if x11.length < 2513169434916 then (palinoderef16_Pick.l3 k x5 x6 (x11 ++ [(⟨(rd_T48 x13 x14).f0, (rd_T48 x13 x14).f1, (rd_T48 x13 x14).f2, (rd_T48 x13 x14).f3, (rd_T48 x13 x14).f4⟩ : S48)]) x13 (wrap64 (x14 + 1)) x277000 x277001 x277002 x291000 x291001 (x291002 ++ [(rd_T48 x13 x14).f0]) x291003) else (none)) else (none)) else (palinoderef16_Pick.l3 k x5 x6 x11 x13 (wrap64 (x14 + 1)) x277000 x277001 x277002 x291000 x291001 x291002 x291003))) else (none)) else (palinoderef16_Pick.l4 k x11 (wrap64 (x5 + 2)) x277000 x277001 x277002 x291000 x291001 x291002 x291003)
def palinoderef16_Pick.l4 : Nat → List (S48) → Int → List (S48) → List Int → Int → Int → List Int → List Int → Bool → Option (Int × List Int × List Int × Bool × Bool)
 | 0, _, _, _, _, _, _, _, _, _ => none
 | k + 1, x11, x16, x277000, x277001, x277002, x291000, x291001, x291002, x291003 => if x16 < 4 then ((palinoderef14_Level.f k x277000 x277001 x277002 x16).bind fun t312 => (palinoderef16_Pick.l5 k x11 x16 t312 0 x277000 x277001 x277002 x291000 x291001 x291002 x291003)) else (some (x291000, x291001, x291002, x291003, true))
def palinoderef16_Pick.l5 : Nat → List (S48) → Int → List (S48) → Int → List (S48) → List Int → Int → Int → List Int → List Int → Bool → Option (Int × List Int × List Int × Bool × Bool)
 | 0, _, _, _, _, _, _, _, _, _, _, _ => none
 | k + 1, x11, x16, x17, x18, x277000, x277001, x277002, x291000, x291001, x291002, x291003 => if x18 < (x17.length : Int) then (if 0 ≤ x18 then ((palinoderef16_meets.f k ((rd_T48 x17 x18).f0) ((rd_T48 x17 x18).f1) ((rd_T48 x17 x18).f2) ((rd_T48 x17 x18).f3) ((rd_T48 x17 x18).f4) x11).bind fun t316 => (if x291003 = true then (palinoderef16_Pick.l5 k x11 x16 x17 (wrap64 (x18 + 1)) x277000 x277001 x277002 x291000 x291001 x291002 (!t316)) else (palinoderef16_Pick.l5 k x11 x16 x17 (wrap64 (x18 + 1)) x277000 x277001 x277002 x291000 x291001 x291002 false))) else (none)) else (palinoderef16_Pick.l4 k x11 (wrap64 (x16 + 1)) x277000 x277001 x277002 x291000 x291001 x291002 x291003)
end
def palinoderef16_Pick.f (k : Nat) (l0_0 : List (S48)) (l0_1 : List Int) (a0_2 : Int) : Option (Int × List Int × List Int × Bool × Bool) := (palinoderef14_Right.f k l0_0 l0_1 a0_2).bind fun t278 => (if t278 = true then ((palinoderef14_Level.f k l0_0 l0_1 a0_2 0).bind fun t279 => (if (t279.length : Int) ≥ 3 then (palinoderef16_Pick.j0 k 0 t279 l0_0 l0_1 a0_2) else (palinoderef16_Pick.j0 k (-1) t279 l0_0 l0_1 a0_2))) else (some (0, ([] : List Int), ([] : List Int), false, false)))
theorem palinoderef16_Pick.mono_l : ∀ k, (∀ y0 y1 y2 y3 y4, LeO (palinoderef16_Pick.j0 k y0 y1 y2 y3 y4) (palinoderef16_Pick.j0 (k + 1) y0 y1 y2 y3 y4)) ∧ (∀ y0 y1 y2 y3 y4 y5, LeO (palinoderef16_Pick.l0 k y0 y1 y2 y3 y4 y5) (palinoderef16_Pick.l0 (k + 1) y0 y1 y2 y3 y4 y5)) ∧ (∀ y0 y1 y2 y3 y4 y5 y6, LeO (palinoderef16_Pick.j2 k y0 y1 y2 y3 y4 y5 y6) (palinoderef16_Pick.j2 (k + 1) y0 y1 y2 y3 y4 y5 y6)) ∧ (∀ y0 y1 y2 y3 y4 y5 y6 y7, LeO (palinoderef16_Pick.l1 k y0 y1 y2 y3 y4 y5 y6 y7) (palinoderef16_Pick.l1 (k + 1) y0 y1 y2 y3 y4 y5 y6 y7)) ∧ (∀ y0 y1 y2 y3 y4 y5 y6 y7 y8 y9, LeO (palinoderef16_Pick.l2 k y0 y1 y2 y3 y4 y5 y6 y7 y8 y9) (palinoderef16_Pick.l2 (k + 1) y0 y1 y2 y3 y4 y5 y6 y7 y8 y9)) ∧ (∀ y0 y1 y2 y3 y4 y5 y6 y7 y8 y9 y10 y11, LeO (palinoderef16_Pick.l3 k y0 y1 y2 y3 y4 y5 y6 y7 y8 y9 y10 y11) (palinoderef16_Pick.l3 (k + 1) y0 y1 y2 y3 y4 y5 y6 y7 y8 y9 y10 y11)) ∧ (∀ y0 y1 y2 y3 y4 y5 y6 y7 y8, LeO (palinoderef16_Pick.l4 k y0 y1 y2 y3 y4 y5 y6 y7 y8) (palinoderef16_Pick.l4 (k + 1) y0 y1 y2 y3 y4 y5 y6 y7 y8)) ∧ (∀ y0 y1 y2 y3 y4 y5 y6 y7 y8 y9 y10, LeO (palinoderef16_Pick.l5 k y0 y1 y2 y3 y4 y5 y6 y7 y8 y9 y10) (palinoderef16_Pick.l5 (k + 1) y0 y1 y2 y3 y4 y5 y6 y7 y8 y9 y10))
 | 0 => ⟨fun _ _ _ _ _ r h => by simp [palinoderef16_Pick.j0] at h, fun _ _ _ _ _ _ r h => by simp [palinoderef16_Pick.l0] at h, fun _ _ _ _ _ _ _ r h => by simp [palinoderef16_Pick.j2] at h, fun _ _ _ _ _ _ _ _ r h => by simp [palinoderef16_Pick.l1] at h, fun _ _ _ _ _ _ _ _ _ _ r h => by simp [palinoderef16_Pick.l2] at h, fun _ _ _ _ _ _ _ _ _ _ _ _ r h => by simp [palinoderef16_Pick.l3] at h, fun _ _ _ _ _ _ _ _ _ r h => by simp [palinoderef16_Pick.l4] at h, fun _ _ _ _ _ _ _ _ _ _ _ r h => by simp [palinoderef16_Pick.l5] at h⟩
 | k + 1 => by
  obtain ⟨ih0, ih1, ih2, ih3, ih4, ih5, ih6, ih7⟩ := palinoderef16_Pick.mono_l k
  refine ⟨?_, ?_, ?_, ?_, ?_, ?_, ?_, ?_⟩
  ·intro y0 y1 y2 y3 y4
   unfold palinoderef16_Pick.j0
   repeat' first
   | (with_reducible exact ih0 _ _ _ _ _)
   | (with_reducible exact ih1 _ _ _ _ _ _)
   | (with_reducible exact ih2 _ _ _ _ _ _ _)
   | (with_reducible exact ih3 _ _ _ _ _ _ _ _)
   | (with_reducible exact ih4 _ _ _ _ _ _ _ _ _ _)
   | (with_reducible exact ih5 _ _ _ _ _ _ _ _ _ _ _ _)
   | (with_reducible exact ih6 _ _ _ _ _ _ _ _ _)
   | (with_reducible exact ih7 _ _ _ _ _ _ _ _ _ _ _)
   | (with_reducible exact palinoderef14_Level.mono _ _ _ _ _)
   | (with_reducible exact palinoderef14_Right.mono _ _ _ _)
   | (with_reducible exact palinoderef16_meets.mono _ _ _ _ _ _ _)
   | (with_reducible exact LeO.refl _)
   | (with_reducible exact LeO.none _)
   | (with_reducible refine LeO.ite ?_ ?_)
   | (with_reducible refine LeO.bind ?_ (fun _ => ?_))
   | exact ih0 _ _ _ _ _
   | exact ih1 _ _ _ _ _ _
   | exact ih2 _ _ _ _ _ _ _
   | exact ih3 _ _ _ _ _ _ _ _
   | exact ih4 _ _ _ _ _ _ _ _ _ _
   | exact ih5 _ _ _ _ _ _ _ _ _ _ _ _
   | exact ih6 _ _ _ _ _ _ _ _ _
   | exact ih7 _ _ _ _ _ _ _ _ _ _ _
   | exact palinoderef14_Level.mono _ _ _ _ _
   | exact palinoderef14_Right.mono _ _ _ _
   | exact palinoderef16_meets.mono _ _ _ _ _ _ _
   | exact LeO.none _
   | refine LeO.ite ?_ ?_
   | refine LeO.bind ?_ (fun _ => ?_)
  ·intro y0 y1 y2 y3 y4 y5
   unfold palinoderef16_Pick.l0
   repeat' first
   | (with_reducible exact ih0 _ _ _ _ _)
   | (with_reducible exact ih1 _ _ _ _ _ _)
   | (with_reducible exact ih2 _ _ _ _ _ _ _)
   | (with_reducible exact ih3 _ _ _ _ _ _ _ _)
   | (with_reducible exact ih4 _ _ _ _ _ _ _ _ _ _)
   | (with_reducible exact ih5 _ _ _ _ _ _ _ _ _ _ _ _)
   | (with_reducible exact ih6 _ _ _ _ _ _ _ _ _)
   | (with_reducible exact ih7 _ _ _ _ _ _ _ _ _ _ _)
   | (with_reducible exact palinoderef14_Level.mono _ _ _ _ _)
   | (with_reducible exact palinoderef14_Right.mono _ _ _ _)
   | (with_reducible exact palinoderef16_meets.mono _ _ _ _ _ _ _)
   | (with_reducible exact LeO.refl _)
   | (with_reducible exact LeO.none _)
   | (with_reducible refine LeO.ite ?_ ?_)
   | (with_reducible refine LeO.bind ?_ (fun _ => ?_))
   | exact ih0 _ _ _ _ _
   | exact ih1 _ _ _ _ _ _
   | exact ih2 _ _ _ _ _ _ _
   | exact ih3 _ _ _ _ _ _ _ _
   | exact ih4 _ _ _ _ _ _ _ _ _ _
   | exact ih5 _ _ _ _ _ _ _ _ _ _ _ _
   | exact ih6 _ _ _ _ _ _ _ _ _
   | exact ih7 _ _ _ _ _ _ _ _ _ _ _
   | exact palinoderef14_Level.mono _ _ _ _ _
   | exact palinoderef14_Right.mono _ _ _ _
   | exact palinoderef16_meets.mono _ _ _ _ _ _ _
   | exact LeO.none _
   | refine LeO.ite ?_ ?_
   | refine LeO.bind ?_ (fun _ => ?_)
  ·intro y0 y1 y2 y3 y4 y5 y6
   unfold palinoderef16_Pick.j2
   repeat' first
   | (with_reducible exact ih0 _ _ _ _ _)
   | (with_reducible exact ih1 _ _ _ _ _ _)
   | (with_reducible exact ih2 _ _ _ _ _ _ _)
   | (with_reducible exact ih3 _ _ _ _ _ _ _ _)
   | (with_reducible exact ih4 _ _ _ _ _ _ _ _ _ _)
   | (with_reducible exact ih5 _ _ _ _ _ _ _ _ _ _ _ _)
   | (with_reducible exact ih6 _ _ _ _ _ _ _ _ _)
   | (with_reducible exact ih7 _ _ _ _ _ _ _ _ _ _ _)
   | (with_reducible exact palinoderef14_Level.mono _ _ _ _ _)
   | (with_reducible exact palinoderef14_Right.mono _ _ _ _)
   | (with_reducible exact palinoderef16_meets.mono _ _ _ _ _ _ _)
   | (with_reducible exact LeO.refl _)
   | (with_reducible exact LeO.none _)
   | (with_reducible refine LeO.ite ?_ ?_)
   | (with_reducible refine LeO.bind ?_ (fun _ => ?_))
   | exact ih0 _ _ _ _ _
   | exact ih1 _ _ _ _ _ _
   | exact ih2 _ _ _ _ _ _ _
   | exact ih3 _ _ _ _ _ _ _ _
   | exact ih4 _ _ _ _ _ _ _ _ _ _
   | exact ih5 _ _ _ _ _ _ _ _ _ _ _ _
   | exact ih6 _ _ _ _ _ _ _ _ _
   | exact ih7 _ _ _ _ _ _ _ _ _ _ _
   | exact palinoderef14_Level.mono _ _ _ _ _
   | exact palinoderef14_Right.mono _ _ _ _
   | exact palinoderef16_meets.mono _ _ _ _ _ _ _
   | exact LeO.none _
   | refine LeO.ite ?_ ?_
   | refine LeO.bind ?_ (fun _ => ?_)
  ·intro y0 y1 y2 y3 y4 y5 y6 y7
   unfold palinoderef16_Pick.l1
   repeat' first
   | (with_reducible exact ih0 _ _ _ _ _)
   | (with_reducible exact ih1 _ _ _ _ _ _)
   | (with_reducible exact ih2 _ _ _ _ _ _ _)
   | (with_reducible exact ih3 _ _ _ _ _ _ _ _)
   | (with_reducible exact ih4 _ _ _ _ _ _ _ _ _ _)
   | (with_reducible exact ih5 _ _ _ _ _ _ _ _ _ _ _ _)
   | (with_reducible exact ih6 _ _ _ _ _ _ _ _ _)
   | (with_reducible exact ih7 _ _ _ _ _ _ _ _ _ _ _)
   | (with_reducible exact palinoderef14_Level.mono _ _ _ _ _)
   | (with_reducible exact palinoderef14_Right.mono _ _ _ _)
   | (with_reducible exact palinoderef16_meets.mono _ _ _ _ _ _ _)
   | (with_reducible exact LeO.refl _)
   | (with_reducible exact LeO.none _)
   | (with_reducible refine LeO.ite ?_ ?_)
   | (with_reducible refine LeO.bind ?_ (fun _ => ?_))
   | exact ih0 _ _ _ _ _
   | exact ih1 _ _ _ _ _ _
   | exact ih2 _ _ _ _ _ _ _
   | exact ih3 _ _ _ _ _ _ _ _
   | exact ih4 _ _ _ _ _ _ _ _ _ _
   | exact ih5 _ _ _ _ _ _ _ _ _ _ _ _
   | exact ih6 _ _ _ _ _ _ _ _ _
   | exact ih7 _ _ _ _ _ _ _ _ _ _ _
   | exact palinoderef14_Level.mono _ _ _ _ _
   | exact palinoderef14_Right.mono _ _ _ _
   | exact palinoderef16_meets.mono _ _ _ _ _ _ _
   | exact LeO.none _
   | refine LeO.ite ?_ ?_
   | refine LeO.bind ?_ (fun _ => ?_)
  ·intro y0 y1 y2 y3 y4 y5 y6 y7 y8 y9
   unfold palinoderef16_Pick.l2
   repeat' first
   | (with_reducible exact ih0 _ _ _ _ _)
   | (with_reducible exact ih1 _ _ _ _ _ _)
   | (with_reducible exact ih2 _ _ _ _ _ _ _)
   | (with_reducible exact ih3 _ _ _ _ _ _ _ _)
   | (with_reducible exact ih4 _ _ _ _ _ _ _ _ _ _)
   | (with_reducible exact ih5 _ _ _ _ _ _ _ _ _ _ _ _)
   | (with_reducible exact ih6 _ _ _ _ _ _ _ _ _)
   | (with_reducible exact ih7 _ _ _ _ _ _ _ _ _ _ _)
   | (with_reducible exact palinoderef14_Level.mono _ _ _ _ _)
   | (with_reducible exact palinoderef14_Right.mono _ _ _ _)
   | (with_reducible exact palinoderef16_meets.mono _ _ _ _ _ _ _)
   | (with_reducible exact LeO.refl _)
   | (with_reducible exact LeO.none _)
   | (with_reducible refine LeO.ite ?_ ?_)
   | (with_reducible refine LeO.bind ?_ (fun _ => ?_))
   | exact ih0 _ _ _ _ _
   | exact ih1 _ _ _ _ _ _
   | exact ih2 _ _ _ _ _ _ _
   | exact ih3 _ _ _ _ _ _ _ _
   | exact ih4 _ _ _ _ _ _ _ _ _ _
   | exact ih5 _ _ _ _ _ _ _ _ _ _ _ _
   | exact ih6 _ _ _ _ _ _ _ _ _
   | exact ih7 _ _ _ _ _ _ _ _ _ _ _
   | exact palinoderef14_Level.mono _ _ _ _ _
   | exact palinoderef14_Right.mono _ _ _ _
   | exact palinoderef16_meets.mono _ _ _ _ _ _ _
   | exact LeO.none _
   | refine LeO.ite ?_ ?_
   | refine LeO.bind ?_ (fun _ => ?_)
  ·intro y0 y1 y2 y3 y4 y5 y6 y7 y8 y9 y10 y11
   unfold palinoderef16_Pick.l3
   repeat' first
   | (with_reducible exact ih0 _ _ _ _ _)
   | (with_reducible exact ih1 _ _ _ _ _ _)
   | (with_reducible exact ih2 _ _ _ _ _ _ _)
   | (with_reducible exact ih3 _ _ _ _ _ _ _ _)
   | (with_reducible exact ih4 _ _ _ _ _ _ _ _ _ _)
   | (with_reducible exact ih5 _ _ _ _ _ _ _ _ _ _ _ _)
   | (with_reducible exact ih6 _ _ _ _ _ _ _ _ _)
   | (with_reducible exact ih7 _ _ _ _ _ _ _ _ _ _ _)
   | (with_reducible exact palinoderef14_Level.mono _ _ _ _ _)
   | (with_reducible exact palinoderef14_Right.mono _ _ _ _)
   | (with_reducible exact palinoderef16_meets.mono _ _ _ _ _ _ _)
   | (with_reducible exact LeO.refl _)
   | (with_reducible exact LeO.none _)
   | (with_reducible refine LeO.ite ?_ ?_)
   | (with_reducible refine LeO.bind ?_ (fun _ => ?_))
   | exact ih0 _ _ _ _ _
   | exact ih1 _ _ _ _ _ _
   | exact ih2 _ _ _ _ _ _ _
   | exact ih3 _ _ _ _ _ _ _ _
   | exact ih4 _ _ _ _ _ _ _ _ _ _
   | exact ih5 _ _ _ _ _ _ _ _ _ _ _ _
   | exact ih6 _ _ _ _ _ _ _ _ _
   | exact ih7 _ _ _ _ _ _ _ _ _ _ _
   | exact palinoderef14_Level.mono _ _ _ _ _
   | exact palinoderef14_Right.mono _ _ _ _
   | exact palinoderef16_meets.mono _ _ _ _ _ _ _
   | exact LeO.none _
   | refine LeO.ite ?_ ?_
   | refine LeO.bind ?_ (fun _ => ?_)
  ·intro y0 y1 y2 y3 y4 y5 y6 y7 y8
   unfold palinoderef16_Pick.l4
   repeat' first
   | (with_reducible exact ih0 _ _ _ _ _)
   | (with_reducible exact ih1 _ _ _ _ _ _)
   | (with_reducible exact ih2 _ _ _ _ _ _ _)
   | (with_reducible exact ih3 _ _ _ _ _ _ _ _)
   | (with_reducible exact ih4 _ _ _ _ _ _ _ _ _ _)
   | (with_reducible exact ih5 _ _ _ _ _ _ _ _ _ _ _ _)
   | (with_reducible exact ih6 _ _ _ _ _ _ _ _ _)
   | (with_reducible exact ih7 _ _ _ _ _ _ _ _ _ _ _)
   | (with_reducible exact palinoderef14_Level.mono _ _ _ _ _)
   | (with_reducible exact palinoderef14_Right.mono _ _ _ _)
   | (with_reducible exact palinoderef16_meets.mono _ _ _ _ _ _ _)
   | (with_reducible exact LeO.refl _)
   | (with_reducible exact LeO.none _)
   | (with_reducible refine LeO.ite ?_ ?_)
   | (with_reducible refine LeO.bind ?_ (fun _ => ?_))
   | exact ih0 _ _ _ _ _
   | exact ih1 _ _ _ _ _ _
   | exact ih2 _ _ _ _ _ _ _
   | exact ih3 _ _ _ _ _ _ _ _
   | exact ih4 _ _ _ _ _ _ _ _ _ _
   | exact ih5 _ _ _ _ _ _ _ _ _ _ _ _
   | exact ih6 _ _ _ _ _ _ _ _ _
   | exact ih7 _ _ _ _ _ _ _ _ _ _ _
   | exact palinoderef14_Level.mono _ _ _ _ _
   | exact palinoderef14_Right.mono _ _ _ _
   | exact palinoderef16_meets.mono _ _ _ _ _ _ _
   | exact LeO.none _
   | refine LeO.ite ?_ ?_
   | refine LeO.bind ?_ (fun _ => ?_)
  ·intro y0 y1 y2 y3 y4 y5 y6 y7 y8 y9 y10
   unfold palinoderef16_Pick.l5
   repeat' first
   | (with_reducible exact ih0 _ _ _ _ _)
   | (with_reducible exact ih1 _ _ _ _ _ _)
   | (with_reducible exact ih2 _ _ _ _ _ _ _)
   | (with_reducible exact ih3 _ _ _ _ _ _ _ _)
   | (with_reducible exact ih4 _ _ _ _ _ _ _ _ _ _)
   | (with_reducible exact ih5 _ _ _ _ _ _ _ _ _ _ _ _)
   | (with_reducible exact ih6 _ _ _ _ _ _ _ _ _)
   | (with_reducible exact ih7 _ _ _ _ _ _ _ _ _ _ _)
   | (with_reducible exact palinoderef14_Level.mono _ _ _ _ _)
   | (with_reducible exact palinoderef14_Right.mono _ _ _ _)
   | (with_reducible exact palinoderef16_meets.mono _ _ _ _ _ _ _)
   | (with_reducible exact LeO.refl _)
   | (with_reducible exact LeO.none _)
   | (with_reducible refine LeO.ite ?_ ?_)
   | (with_reducible refine LeO.bind ?_ (fun _ => ?_))
   | exact ih0 _ _ _ _ _
   | exact ih1 _ _ _ _ _ _
   | exact ih2 _ _ _ _ _ _ _
   | exact ih3 _ _ _ _ _ _ _ _
   | exact ih4 _ _ _ _ _ _ _ _ _ _
   | exact ih5 _ _ _ _ _ _ _ _ _ _ _ _
   | exact ih6 _ _ _ _ _ _ _ _ _
   | exact ih7 _ _ _ _ _ _ _ _ _ _ _
   | exact palinoderef14_Level.mono _ _ _ _ _
   | exact palinoderef14_Right.mono _ _ _ _
   | exact palinoderef16_meets.mono _ _ _ _ _ _ _
   | exact LeO.none _
   | refine LeO.ite ?_ ?_
   | refine LeO.bind ?_ (fun _ => ?_)
theorem palinoderef16_Pick.mono : ∀ a0 a1 a2 k, LeO (palinoderef16_Pick.f k a0 a1 a2) (palinoderef16_Pick.f (k + 1) a0 a1 a2) := by
 intro a0 a1 a2 k
 obtain ⟨ih0, ih1, ih2, ih3, ih4, ih5, ih6, ih7⟩ := palinoderef16_Pick.mono_l k
 unfold palinoderef16_Pick.f
 repeat' first
   | (with_reducible exact ih0 _ _ _ _ _)
   | (with_reducible exact ih1 _ _ _ _ _ _)
   | (with_reducible exact ih2 _ _ _ _ _ _ _)
   | (with_reducible exact ih3 _ _ _ _ _ _ _ _)
   | (with_reducible exact ih4 _ _ _ _ _ _ _ _ _ _)
   | (with_reducible exact ih5 _ _ _ _ _ _ _ _ _ _ _ _)
   | (with_reducible exact ih6 _ _ _ _ _ _ _ _ _)
   | (with_reducible exact ih7 _ _ _ _ _ _ _ _ _ _ _)
   | (with_reducible exact palinoderef14_Level.mono _ _ _ _ _)
   | (with_reducible exact palinoderef14_Right.mono _ _ _ _)
   | (with_reducible exact palinoderef16_meets.mono _ _ _ _ _ _ _)
   | (with_reducible exact LeO.refl _)
   | (with_reducible exact LeO.none _)
   | (with_reducible refine LeO.ite ?_ ?_)
   | (with_reducible refine LeO.bind ?_ (fun _ => ?_))
   | exact ih0 _ _ _ _ _
   | exact ih1 _ _ _ _ _ _
   | exact ih2 _ _ _ _ _ _ _
   | exact ih3 _ _ _ _ _ _ _ _
   | exact ih4 _ _ _ _ _ _ _ _ _ _
   | exact ih5 _ _ _ _ _ _ _ _ _ _ _ _
   | exact ih6 _ _ _ _ _ _ _ _ _
   | exact ih7 _ _ _ _ _ _ _ _ _ _ _
   | exact palinoderef14_Level.mono _ _ _ _ _
   | exact palinoderef14_Right.mono _ _ _ _
   | exact palinoderef16_meets.mono _ _ _ _ _ _ _
   | exact LeO.none _
   | refine LeO.ite ?_ ?_
   | refine LeO.bind ?_ (fun _ => ?_)
end Go.Proofs.Ytonhjkghpkhioaa.PA

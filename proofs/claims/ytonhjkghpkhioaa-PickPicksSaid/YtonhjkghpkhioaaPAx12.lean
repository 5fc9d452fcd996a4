-- printed by a program of this session (wip/myprint.py), after the kit's print
import Derived.Test.YtonhjkghpkhioaaPAx0
import Derived.Test.YtonhjkghpkhioaaPAx9
import Derived.Test.YtonhjkghpkhioaaPAx10
import Derived.Test.YtonhjkghpkhioaaPAx11
namespace Go.Proofs.Ytonhjkghpkhioaa.PA
open Go.RowKit Go.Proofs.YtonhjkghpkhioaaW.PrintWords Go.Proofs.YtonhjkghpkhioaaW.PrintLast Go.Proofs.YtonhjkghpkhioaaW.PrintMore
attribute [local go_sem] max2_int min2_int max_two min_two max_three min_three max_four min_four   -- for this text's walks alone
set_option linter.unusedVariables false
set_option linter.unusedSimpArgs false
/-! ### palinoderef16_Pick: function 7 -/
mutual
def palinoderef16_Pick.j0 : Nat → Int → List (S48) → List (S48) → List Int → Int → Option (Int × List Int × List Int × Bool × Bool)
 | 0, _, _, _, _, _ => none
 | k + 1, x5, x6, x277000, x277001, x277002 => palinoderef16_Pick.l0 k x5 x6 1 x277000 x277001 x277002
def palinoderef16_Pick.l0 : Nat → Int → List (S48) → Int → List (S48) → List Int → Int → Option (Int × List Int × List Int × Bool × Bool)
 | 0, _, _, _, _, _, _ => none
 | k + 1, x5, x6, x7, x277000, x277001, x277002 => if x7 < 3 then (palinoderef16_Pick.j2 k x5 x6 x7 (decide (x5 < 0)) x277000 x277001 x277002) else (palinoderef16_Pick.j2 k x5 x6 x7 false x277000 x277001 x277002)
def palinoderef16_Pick.j2 : Nat → Int → List (S48) → Int → Bool → List (S48) → List Int → Int → Option (Int × List Int × List Int × Bool × Bool)
 | 0, _, _, _, _, _, _, _ => none
 | k + 1, x5, x6, x7, x35, x277000, x277001, x277002 => if x35 = true then ((palinoderef14_Level.f k x277000 x277001 x277002 x7).bind fun t282 => (palinoderef16_Pick.l1 k x5 t282 x7 0 0 x277000 x277001 x277002)) else (if x5 < 0 then (some (0, ([] : List Int), ([] : List Int), false, false)) else (palinoderef16_Pick.l2 k x5 x6 ([] : List (S48)) 0 x277000 x277001 x277002 x5 ([] : List Int) true))
def palinoderef16_Pick.l1 : Nat → Int → List (S48) → Int → Int → Int → List (S48) → List Int → Int → Option (Int × List Int × List Int × Bool × Bool)
 | 0, _, _, _, _, _, _, _, _ => none
 | k + 1, x5, x6, x7, x8, x9, x277000, x277001, x277002 => if x9 < (x6.length : Int) then (if 0 ≤ x9 then (palinoderef16_Pick.l1 k x5 x6 x7 (wrap64 (x8 + ((rd_T48 x6 x9).f4))) (wrap64 (x9 + 1)) x277000 x277001 x277002) else (none)) else ((palinoderef16_Limit.f x7).bind fun t286 => (if x8 > t286 then (if 1 ≤ (x6.length : Int) then (palinoderef16_Pick.l0 k x7 (x6.take (1 : Int).toNat) (wrap64 (x7 + 1)) x277000 x277001 x277002) else (none)) else (palinoderef16_Pick.l0 k x5 x6 (wrap64 (x7 + 1)) x277000 x277001 x277002)))
def palinoderef16_Pick.l2 : Nat → Int → List (S48) → List (S48) → Int → List (S48) → List Int → Int → Int → List Int → Bool → Option (Int × List Int × List Int × Bool × Bool)
 | 0, _, _, _, _, _, _, _, _, _, _ => none
 | k + 1, x5, x6, x11, x12, x277000, x277001, x277002, x291000, x291001, x291003 => if x12 < (x6.length : Int) then (if 0 ≤ x12 then (if x291001.length < 17592186044416 then (if x11.length < 2513169434916 then (palinoderef16_Pick.l2 k x5 x6 (x11 ++ [(⟨(rd_T48 x6 x12).f0, (rd_T48 x6 x12).f1, (rd_T48 x6 x12).f2, (rd_T48 x6 x12).f3, (rd_T48 x6 x12).f4⟩ : S48)]) (wrap64 (x12 + 1)) x277000 x277001 x277002 x291000 (x291001 ++ [(rd_T48 x6 x12).f0]) x291003) else (none)) else (none)) else (none)) else ((palinoderef14_Level.f k x277000 x277001 x277002 (wrap64 (x5 + 1))).bind fun t299 => (palinoderef16_Pick.l3 k x5 x6 x11 t299 0 x277000 x277001 x277002 x291000 x291001 ([] : List Int) x291003))
def palinoderef16_Pick.l3 : Nat → Int → List (S48) → List (S48) → List (S48) → Int → List (S48) → List Int → Int → Int → List Int → List Int → Bool → Option (Int × List Int × List Int × Bool × Bool)
 | 0, _, _, _, _, _, _, _, _, _, _, _, _ => none
 | k + 1, x5, x6, x11, x13, x14, x277000, x277001, x277002, x291000, x291001, x291002, x291003 => if x14 < (x13.length : Int) then (if 0 ≤ x14 then ((palinoderef16_meets.f k ((rd_T48 x13 x14).f0) ((rd_T48 x13 x14).f1) ((rd_T48 x13 x14).f2) ((rd_T48 x13 x14).f3) ((rd_T48 x13 x14).f4) x6).bind fun t303 => (if t303 = true then (if x291002.length < 17592186044416 then (if x11.length < 2513169434916 then (palinoderef16_Pick.l3 k x5 x6 (x11 ++ [(⟨(rd_T48 x13 x14).f0, (rd_T48 x13 x14).f1, (rd_T48 x13 x14).f2, (rd_T48 x13 x14).f3, (rd_T48 x13 x14).f4⟩ : S48)]) x13 (wrap64 (x14 + 1)) x277000 x277001 x277002 x291000 x291001 (x291002 ++ [(rd_T48 x13 x14).f0]) x291003) else (none)) else (none)) else (palinoderef16_Pick.l3 k x5 x6 x11 x13 (wrap64 (x14 + 1)) x277000 x277001 x277002 x291000 x291001 x291002 x291003))) else (none)) else (palinoderef16_Pick.l4 k x11 (wrap64 (x5 + 2)) x277000 x277001 x277002 x291000 x291001 x291002 x291003)
def palinoderef16_Pick.l4 : Nat → List (S48) → Int → List (S48) → List Int → Int → Int → List Int → List Int → Bool → Option (Int × List Int × List Int × Bool × Bool)
 | 0, _, _, _, _, _, _, _, _, _ => none
 | k + 1, x11, x16, x277000, x277001, x277002, x291000, x291001, x291002, x291003 => if x16 < 4 then ((palinoderef14_Level.f k x277000 x277001 x277002 x16).bind fun t312 => (palinoderef16_Pick.l5 k x11 x16 t312 0 x277000 x277001 x277002 x291000 x291001 x291002 x291003)) else (some (x291000, x291001, x291002, x291003, true))
def palinoderef16_Pick.l5 : Nat → List (S48) → Int → List (S48) → Int → List (S48) → List Int → Int → Int → List Int → List Int → Bool → Option (Int × List Int × List Int × Bool × Bool)
 | 0, _, _, _, _, _, _, _, _, _, _, _ => none
 | k + 1, x11, x16, x17, x18, x277000, x277001, x277002, x291000, x291001, x291002, x291003 => if x18 < (x17.length : Int) then (if 0 ≤ x18 then ((palinoderef16_meets.f k ((rd_T48 x17 x18).f0) ((rd_T48 x17 x18).f1) ((rd_T48 x17 x18).f2) ((rd_T48 x17 x18).f3) ((rd_T48 x17 x18).f4) x11).bind fun t316 => (if x291003 = true then (palinoderef16_Pick.l5 k x11 x16 x17 (wrap64 (x18 + 1)) x277000 x277001 x277002 x291000 x291001 x291002 (!t316)) else (palinoderef16_Pick.l5 k x11 x16 x17 (wrap64 (x18 + 1)) x277000 x277001 x277002 x291000 x291001 x291002 false))) else (none)) else (palinoderef16_Pick.l4 k x11 (wrap64 (x16 + 1)) x277000 x277001 x277002 x291000 x291001 x291002 x291003)
end
def palinoderef16_Pick.f (k : Nat) (l0_0 : List (S48)) (l0_1 : List Int) (a0_2 : Int) : Option (Int × List Int × List Int × Bool × Bool) := (palinoderef14_Right.f k l0_0 l0_1 a0_2).bind fun t278 => (if t278 = true then ((palinoderef14_Level.f k l0_0 l0_1 a0_2 0).bind fun t279 => (if (t279.length : Int) ≥ 3 then (palinoderef16_Pick.j0 k 0 t279 l0_0 l0_1 a0_2) else (palinoderef16_Pick.j0 k (-1) t279 l0_0 l0_1 a0_2))) else (some (0, ([] : List Int), ([] : List Int), false, false)))
theorem palinoderef16_Pick.mono_l : ∀ k, (∀ y0 y1 y2 y3 y4, LeO (palinoderef16_Pick.j0 k y0 y1 y2 y3 y4) (palinoderef16_Pick.j0 (k + 1) y0 y1 y2 y3 y4)) ∧ (∀ y0 y1 y2 y3 y4 y5, LeO (palinoderef16_Pick.l0 k y0 y1 y2 y3 y4 y5) (palinoderef16_Pick.l0 (k + 1) y0 y1 y2 y3 y4 y5)) ∧ (∀ y0 y1 y2 y3 y4 y5 y6, LeO (palinoderef16_Pick.j2 k y0 y1 y2 y3 y4 y5 y6) (palinoderef16_Pick.j2 (k + 1) y0 y1 y2 y3 y4 y5 y6)) ∧ (∀ y0 y1 y2 y3 y4 y5 y6 y7, LeO (palinoderef16_Pick.l1 k y0 y1 y2 y3 y4 y5 y6 y7) (palinoderef16_Pick.l1 (k + 1) y0 y1 y2 y3 y4 y5 y6 y7)) ∧ (∀ y0 y1 y2 y3 y4 y5 y6 y7 y8 y9, LeO (palinoderef16_Pick.l2 k y0 y1 y2 y3 y4 y5 y6 y7 y8 y9) (palinoderef16_Pick.l2 (k + 1) y0 y1 y2 y3 y4 y5 y6 y7 y8 y9)) ∧ (∀ y0 y1 y2 y3 y4 y5 y6 y7 y8 y9 y10 y11, LeO (palinoderef16_Pick.l3 k y0 y1 y2 y3 y4 y5 y6 y7 y8 y9 y10 y11) (palinoderef16_Pick.l3 (k + 1) y0 y1 y2 y3 y4 y5 y6 y7 y8 y9 y10 y11)) ∧ (∀ y0 y1 y2 y3 y4 y5 y6 y7 y8, LeO (palinoderef16_Pick.l4 k y0 y1 y2 y3 y4 y5 y6 y7 y8) (palinoderef16_Pick.l4 (k + 1) y0 y1 y2 y3 y4 y5 y6 y7 y8)) ∧ (∀ y0 y1 y2 y3 y4 y5 y6 y7 y8 y9 y10, LeO (palinoderef16_Pick.l5 k y0 y1 y2 y3 y4 y5 y6 y7 y8 y9 y10) (palinoderef16_Pick.l5 (k + 1) y0 y1 y2 y3 y4 y5 y6 y7 y8 y9 y10))
 | 0 => ⟨fun _ _ _ _ _ r h => by simp [palinoderef16_Pick.j0] at h, fun _ _ _ _ _ _ r h => by simp [palinoderef16_Pick.l0] at h, fun _ _ _ _ _ _ _ r h => by simp [palinoderef16_Pick.j2] at h, fun _ _ _ _ _ _ _ _ r h => by simp [palinoderef16_Pick.l1] at h, fun _ _ _ _ _ _ _ _ _ _ r h => by simp [palinoderef16_Pick.l2] at h, fun _ _ _ _ _ _ _ _ _ _ _ _ r h => by simp [palinoderef16_Pick.l3] at h, fun _ _ _ _ _ _ _ _ _ r h => by simp [palinoderef16_Pick.l4] at h, fun _ _ _ _ _ _ _ _ _ _ _ r h => by simp [palinoderef16_Pick.l5] at h⟩
 | k + 1 => by
  obtain ⟨ih0, ih1, ih2, ih3, ih4, ih5, ih6, ih7⟩ := palinoderef16_Pick.mono_l k
  refine ⟨?_, ?_, ?_, ?_, ?_, ?_, ?_, ?_⟩
  ·intro y0 y1 y2 y3 y4
   unfold palinoderef16_Pick.j0
   repeat' first
   | (with_reducible exact ih0 _ _ _ _ _)
   | (with_reducible exact ih1 _ _ _ _ _ _)
   | (with_reducible exact ih2 _ _ _ _ _ _ _)
   | (with_reducible exact ih3 _ _ _ _ _ _ _ _)
   | (with_reducible exact ih4 _ _ _ _ _ _ _ _ _ _)
   | (with_reducible exact ih5 _ _ _ _ _ _ _ _ _ _ _ _)
   | (with_reducible exact ih6 _ _ _ _ _ _ _ _ _)
   | (with_reducible exact ih7 _ _ _ _ _ _ _ _ _ _ _)
   | (with_reducible exact palinoderef14_Level.mono _ _ _ _ _)
   | (with_reducible exact palinoderef14_Right.mono _ _ _ _)
   | (with_reducible exact palinoderef16_meets.mono _ _ _ _ _ _ _)
   | (with_reducible exact LeO.refl _)
   | (with_reducible exact LeO.none _)
   | (with_reducible refine LeO.ite ?_ ?_)
   | (with_reducible refine LeO.bind ?_ (fun _ => ?_))
   | exact ih0 _ _ _ _ _
   | exact ih1 _ _ _ _ _ _
   | exact ih2 _ _ _ _ _ _ _
   | exact ih3 _ _ _ _ _ _ _ _
   | exact ih4 _ _ _ _ _ _ _ _ _ _
   | exact ih5 _ _ _ _ _ _ _ _ _ _ _ _
   | exact ih6 _ _ _ _ _ _ _ _ _
   | exact ih7 _ _ _ _ _ _ _ _ _ _ _
   | exact palinoderef14_Level.mono _ _ _ _ _
   | exact palinoderef14_Right.mono _ _ _ _
   | exact palinoderef16_meets.mono _ _ _ _ _ _ _
   | exact LeO.none _
   | refine LeO.ite ?_ ?_
   | refine LeO.bind ?_ (fun _ => ?_)
  ·intro y0 y1 y2 y3 y4 y5
   unfold palinoderef16_Pick.l0
   repeat' first
   | (with_reducible exact ih0 _ _ _ _ _)
   | (with_reducible exact ih1 _ _ _ _ _ _)
   | (with_reducible exact ih2 _ _ _ _ _ _ _)
   | (with_reducible exact ih3 _ _ _ _ _ _ _ _)
   | (with_reducible exact ih4 _ _ _ _ _ _ _ _ _ _)
   | (with_reducible exact ih5 _ _ _ _ _ _ _ _ _ _ _ _)
   | (with_reducible exact ih6 _ _ _ _ _ _ _ _ _)
   | (with_reducible exact ih7 _ _ _ _ _ _ _ _ _ _ _)
   | (with_reducible exact palinoderef14_Level.mono _ _ _ _ _)
   | (with_reducible exact palinoderef14_Right.mono _ _ _ _)
   | (with_reducible exact palinoderef16_meets.mono _ _ _ _ _ _ _)
   | (with_reducible exact LeO.refl _)
   | (with_reducible exact LeO.none _)
   | (with_reducible refine LeO.ite ?_ ?_)
   | (with_reducible refine LeO.bind ?_ (fun _ => ?_))
   | exact ih0 _ _ _ _ _
   | exact ih1 _ _ _ _ _ _
   | exact ih2 _ _ _ _ _ _ _
   | exact ih3 _ _ _ _ _ _ _ _
   | exact ih4 _ _ _ _ _ _ _ _ _ _
   | exact ih5 _ _ _ _ _ _ _ _ _ _ _ _
   | exact ih6 _ _ _ _ _ _ _ _ _
   | exact ih7 _ _ _ _ _ _ _ _ _ _ _
   | exact palinoderef14_Level.mono _ _ _ _ _
   | exact palinoderef14_Right.mono _ _ _ _
   | exact palinoderef16_meets.mono _ _ _ _ _ _ _
   | exact LeO.none _
   | refine LeO.ite ?_ ?_
   | refine LeO.bind ?_ (fun _ => ?_)
  ·intro y0 y1 y2 y3 y4 y5 y6
   unfold palinoderef16_Pick.j2
   repeat' first
   | (with_reducible exact ih0 _ _ _ _ _)
   | (with_reducible exact ih1 _ _ _ _ _ _)
   | (with_reducible exact ih2 _ _ _ _ _ _ _)
   | (with_reducible exact ih3 _ _ _ _ _ _ _ _)
   | (with_reducible exact ih4 _ _ _ _ _ _ _ _ _ _)
   | (with_reducible exact ih5 _ _ _ _ _ _ _ _ _ _ _ _)
   | (with_reducible exact ih6 _ _ _ _ _ _ _ _ _)
   | (with_reducible exact ih7 _ _ _ _ _ _ _ _ _ _ _)
   | (with_reducible exact palinoderef14_Level.mono _ _ _ _ _)
   | (with_reducible exact palinoderef14_Right.mono _ _ _ _)
   | (with_reducible exact palinoderef16_meets.mono _ _ _ _ _ _ _)
   | (with_reducible exact LeO.refl _)
   | (with_reducible exact LeO.none _)
   | (with_reducible refine LeO.ite ?_ ?_)
   | (with_reducible refine LeO.bind ?_ (fun _ => ?_))
   | exact ih0 _ _ _ _ _
   | exact ih1 _ _ _ _ _ _
   | exact ih2 _ _ _ _ _ _ _
   | exact ih3 _ _ _ _ _ _ _ _
   | exact ih4 _ _ _ _ _ _ _ _ _ _
   | exact ih5 _ _ _ _ _ _ _ _ _ _ _ _
   | exact ih6 _ _ _ _ _ _ _ _ _
   | exact ih7 _ _ _ _ _ _ _ _ _ _ _
   | exact palinoderef14_Level.mono _ _ _ _ _
   | exact palinoderef14_Right.mono _ _ _ _
   | exact palinoderef16_meets.mono _ _ _ _ _ _ _
   | exact LeO.none _
   | refine LeO.ite ?_ ?_
   | refine LeO.bind ?_ (fun _ => ?_)
  ·intro y0 y1 y2 y3 y4 y5 y6 y7
   unfold palinoderef16_Pick.l1
   repeat' first
   | (with_reducible exact ih0 _ _ _ _ _)
   | (with_reducible exact ih1 _ _ _ _ _ _)
   | (with_reducible exact ih2 _ _ _ _ _ _ _)
   | (with_reducible exact ih3 _ _ _ _ _ _ _ _)
   | (with_reducible exact ih4 _ _ _ _ _ _ _ _ _ _)
   | (with_reducible exact ih5 _ _ _ _ _ _ _ _ _ _ _ _)
   | (with_reducible exact ih6 _ _ _ _ _ _ _ _ _)
   | (with_reducible exact ih7 _ _ _ _ _ _ _ _ _ _ _)
   | (with_reducible exact palinoderef14_Level.mono _ _ _ _ _)
   | (with_reducible exact palinoderef14_Right.mono _ _ _ _)
   | (with_reducible exact palinoderef16_meets.mono _ _ _ _ _ _ _)
   | (with_reducible exact LeO.refl _)
   | (with_reducible exact LeO.none _)
   | (with_reducible refine LeO.ite ?_ ?_)
   | (with_reducible refine LeO.bind ?_ (fun _ => ?_))
   | exact ih0 _ _ _ _ _
   | exact ih1 _ _ _ _ _ _
   | exact ih2 _ _ _ _ _ _ _
   | exact ih3 _ _ _ _ _ _ _ _
   | exact ih4 _ _ _ _ _ _ _ _ _ _
   | exact ih5 _ _ _ _ _ _ _ _ _ _ _ _
   | exact ih6 _ _ _ _ _ _ _ _ _
   | exact ih7 _ _ _ _ _ _ _ _ _ _ _
   | exact palinoderef14_Level.mono _ _ _ _ _
   | exact palinoderef14_Right.mono _ _ _ _
   | exact palinoderef16_meets.mono _ _ _ _ _ _ _
   | exact LeO.none _
   | refine LeO.ite ?_ ?_
   | refine LeO.bind ?_ (fun _ => ?_)
  ·intro y0 y1 y2 y3 y4 y5 y6 y7 y8 y9
   unfold palinoderef16_Pick.l2
   repeat' first
   | (with_reducible exact ih0 _ _ _ _ _)
   | (with_reducible exact ih1 _ _ _ _ _ _)
   | (with_reducible exact ih2 _ _ _ _ _ _ _)
   | (with_reducible exact ih3 _ _ _ _ _ _ _ _)
   | (with_reducible exact ih4 _ _ _ _ _ _ _ _ _ _)
   | (with_reducible exact ih5 _ _ _ _ _ _ _ _ _ _ _ _)
   | (with_reducible exact ih6 _ _ _ _ _ _ _ _ _)
   | (with_reducible exact ih7 _ _ _ _ _ _ _ _ _ _ _)
   | (with_reducible exact palinoderef14_Level.mono _ _ _ _ _)
   | (with_reducible exact palinoderef14_Right.mono _ _ _ _)
   | (with_reducible exact palinoderef16_meets.mono _ _ _ _ _ _ _)
   | (with_reducible exact LeO.refl _)
   | (with_reducible exact LeO.none _)
   | (with_reducible refine LeO.ite ?_ ?_)
   | (with_reducible refine LeO.bind ?_ (fun _ => ?_))
   | exact ih0 _ _ _ _ _
   | exact ih1 _ _ _ _ _ _
   | exact ih2 _ _ _ _ _ _ _
   | exact ih3 _ _ _ _ _ _ _ _
   | exact ih4 _ _ _ _ _ _ _ _ _ _
   | exact ih5 _ _ _ _ _ _ _ _ _ _ _ _
   | exact ih6 _ _ _ _ _ _ _ _ _
   | exact ih7 _ _ _ _ _ _ _ _ _ _ _
   | exact palinoderef14_Level.mono _ _ _ _ _
   | exact palinoderef14_Right.mono _ _ _ _
   | exact palinoderef16_meets.mono _ _ _ _ _ _ _
   | exact LeO.none _
   | refine LeO.ite ?_ ?_
   | refine LeO.bind ?_ (fun _ => ?_)
  ·intro y0 y1 y2 y3 y4 y5 y6 y7 y8 y9 y10 y11
   unfold palinoderef16_Pick.l3
   repeat' first
   | (with_reducible exact ih0 _ _ _ _ _)
   | (with_reducible exact ih1 _ _ _ _ _ _)
   | (with_reducible exact ih2 _ _ _ _ _ _ _)
   | (with_reducible exact ih3 _ _ _ _ _ _ _ _)
   | (with_reducible exact ih4 _ _ _ _ _ _ _ _ _ _)
   | (with_reducible exact ih5 _ _ _ _ _ _ _ _ _ _ _ _)
   | (with_reducible exact ih6 _ _ _ _ _ _ _ _ _)
   | (with_reducible exact ih7 _ _ _ _ _ _ _ _ _ _ _)
   | (with_reducible exact palinoderef14_Level.mono _ _ _ _ _)
   | (with_reducible exact palinoderef14_Right.mono _ _ _ _)
   | (with_reducible exact palinoderef16_meets.mono _ _ _ _ _ _ _)
   | (with_reducible exact LeO.refl _)
   | (with_reducible exact LeO.none _)
   | (with_reducible refine LeO.ite ?_ ?_)
   | (with_reducible refine LeO.bind ?_ (fun _ => ?_))
   | exact ih0 _ _ _ _ _
   | exact ih1 _ _ _ _ _ _
   | exact ih2 _ _ _ _ _ _ _
   | exact ih3 _ _ _ _ _ _ _ _
   | exact ih4 _ _ _ _ _ _ _ _ _ _
   | exact ih5 _ _ _ _ _ _ _ _ _ _ _ _
   | exact ih6 _ _ _ _ _ _ _ _ _
   | exact ih7 _ _ _ _ _ _ _ _ _ _ _
   | exact palinoderef14_Level.mono _ _ _ _ _
   | exact palinoderef14_Right.mono _ _ _ _
   | exact palinoderef16_meets.mono _ _ _ _ _ _ _
   | exact LeO.none _
   | refine LeO.ite ?_ ?_
   | refine LeO.bind ?_ (fun _ => ?_)
  ·intro y0 y1 y2 y3 y4 y5 y6 y7 y8
   unfold palinoderef16_Pick.l4
   repeat' first
   | (with_reducible exact ih0 _ _ _ _ _)
   | (with_reducible exact ih1 _ _ _ _ _ _)
   | (with_reducible exact ih2 _ _ _ _ _ _ _)
   | (with_reducible exact ih3 _ _ _ _ _ _ _ _)
   | (with_reducible exact ih4 _ _ _ _ _ _ _ _ _ _)
   | (with_reducible exact ih5 _ _ _ _ _ _ _ _ _ _ _ _)
   | (with_reducible exact ih6 _ _ _ _ _ _ _ _ _)
   | (with_reducible exact ih7 _ _ _ _ _ _ _ _ _ _ _)
   | (with_reducible exact palinoderef14_Level.mono _ _ _ _ _)
   | (with_reducible exact palinoderef14_Right.mono _ _ _ _)
   | (with_reducible exact palinoderef16_meets.mono _ _ _ _ _ _ _)
   | (with_reducible exact LeO.refl _)
   | (with_reducible exact LeO.none _)
   | (with_reducible refine LeO.ite ?_ ?_)
   | (with_reducible refine LeO.bind ?_ (fun _ => ?_))
   | exact ih0 _ _ _ _ _
   | exact ih1 _ _ _ _ _ _
   | exact ih2 _ _ _ _ _ _ _
   | exact ih3 _ _ _ _ _ _ _ _
   | exact ih4 _ _ _ _ _ _ _ _ _ _
   | exact ih5 _ _ _ _ _ _ _ _ _ _ _ _
   | exact ih6 _ _ _ _ _ _ _ _ _
   | exact ih7 _ _ _ _ _ _ _ _ _ _ _
   | exact palinoderef14_Level.mono _ _ _ _ _
   | exact palinoderef14_Right.mono _ _ _ _
   | exact palinoderef16_meets.mono _ _ _ _ _ _ _
   | exact LeO.none _
   | refine LeO.ite ?_ ?_
   | refine LeO.bind ?_ (fun _ => ?_)
  ·intro y0 y1 y2 y3 y4 y5 y6 y7 y8 y9 y10
   unfold palinoderef16_Pick.l5
   repeat' first
   | (with_reducible exact ih0 _ _ _ _ _)
   | (with_reducible exact ih1 _ _ _ _ _ _)
   | (with_reducible exact ih2 _ _ _ _ _ _ _)
   | (with_reducible exact ih3 _ _ _ _ _ _ _ _)
   | (with_reducible exact ih4 _ _ _ _ _ _ _ _ _ _)
   | (with_reducible exact ih5 _ _ _ _ _ _ _ _ _ _ _ _)
   | (with_reducible exact ih6 _ _ _ _ _ _ _ _ _)
   | (with_reducible exact ih7 _ _ _ _ _ _ _ _ _ _ _)
   | (with_reducible exact palinoderef14_Level.mono _ _ _ _ _)
   | (with_reducible exact palinoderef14_Right.mono _ _ _ _)
   | (with_reducible exact palinoderef16_meets.mono _ _ _ _ _ _ _)
   | (with_reducible exact LeO.refl _)
   | (with_reducible exact LeO.none _)
   | (with_reducible refine LeO.ite ?_ ?_)
   | (with_reducible refine LeO.bind ?_ (fun _ => ?_))
   | exact ih0 _ _ _ _ _
   | exact ih1 _ _ _ _ _ _
   | exact ih2 _ _ _ _ _ _ _
   | exact ih3 _ _ _ _ _ _ _ _
   | exact ih4 _ _ _ _ _ _ _ _ _ _
   | exact ih5 _ _ _ _ _ _ _ _ _ _ _ _
   | exact ih6 _ _ _ _ _ _ _ _ _
   | exact ih7 _ _ _ _ _ _ _ _ _ _ _
   | exact palinoderef14_Level.mono _ _ _ _ _
   | exact palinoderef14_Right.mono _ _ _ _
   | exact palinoderef16_meets.mono _ _ _ _ _ _ _
   | exact LeO.none _
   | refine LeO.ite ?_ ?_
   | refine LeO.bind ?_ (fun _ => ?_)
theorem palinoderef16_Pick.mono : ∀ a0 a1 a2 k, LeO (palinoderef16_Pick.f k a0 a1 a2) (palinoderef16_Pick.f (k + 1) a0 a1 a2) := by
 intro a0 a1 a2 k
 obtain ⟨ih0, ih1, ih2, ih3, ih4, ih5, ih6, ih7⟩ := palinoderef16_Pick.mono_l k
 unfold palinoderef16_Pick.f
 repeat' first
   | (with_reducible exact ih0 _ _ _ _ _)
   | (with_reducible exact ih1 _ _ _ _ _ _)
   | (with_reducible exact ih2 _ _ _ _ _ _ _)
   | (with_reducible exact ih3 _ _ _ _ _ _ _ _)
   | (with_reducible exact ih4 _ _ _ _ _ _ _ _ _ _)
   | (with_reducible exact ih5 _ _ _ _ _ _ _ _ _ _ _ _)
   | (with_reducible exact ih6 _ _ _ _ _ _ _ _ _)
   | (with_reducible exact ih7 _ _ _ _ _ _ _ _ _ _ _)
   | (with_reducible exact palinoderef14_Level.mono _ _ _ _ _)
   | (with_reducible exact palinoderef14_Right.mono _ _ _ _)
   | (with_reducible exact palinoderef16_meets.mono _ _ _ _ _ _ _)
   | (with_reducible exact LeO.refl _)
   | (with_reducible exact LeO.none _)
   | (with_reducible refine LeO.ite ?_ ?_)
   | (with_reducible refine LeO.bind ?_ (fun _ => ?_))
   | exact ih0 _ _ _ _ _
   | exact ih1 _ _ _ _ _ _
   | exact ih2 _ _ _ _ _ _ _
   | exact ih3 _ _ _ _ _ _ _ _
   | exact ih4 _ _ _ _ _ _ _ _ _ _
   | exact ih5 _ _ _ _ _ _ _ _ _ _ _ _
   | exact ih6 _ _ _ _ _ _ _ _ _
   | exact ih7 _ _ _ _ _ _ _ _ _ _ _
   | exact palinoderef14_Level.mono _ _ _ _ _
   | exact palinoderef14_Right.mono _ _ _ _
   | exact palinoderef16_meets.mono _ _ _ _ _ _ _
   | exact LeO.none _
   | refine LeO.ite ?_ ?_
   | refine LeO.bind ?_ (fun _ => ?_)
def palinoderef16_Pick.T27 : Bool × List (List Nat × List Nat) := (true, [([], []), ([0], [0]), ([], []), ([], []), ([2, 3], [2, 3]), ([4], [4]), ([5], [5]), ([6], [6]), ([1, 7], [1, 7]), ([0, 1, 2, 3, 4, 5, 6, 7, 8], []), ([9, 8, 8, 0, 1, 2, 3, 4, 5, 6, 7, 8], [8, 9])])
def palinoderef16_Pick.B27 : List Nat := [0, 1, 0, 0, 12, 28, 60, 124, 255, 511, 1023]
theorem palinoderef16_Pick.tab27 : rtab .any (opsOf Try.f7 27) = palinoderef16_Pick.T27 := by kernel_rfl
theorem palinoderef16_Pick.bits27 : waitsOk palinoderef16_Pick.T27.2 palinoderef16_Pick.B27 = true := by kernel_rfl
def palinoderef16_Pick.T35 : Bool × List (List Nat × List Nat) := (true, [([], []), ([0], [0]), ([], []), ([], []), ([2, 3], [2, 3]), ([4], [4]), ([5], [5]), ([6], [6]), ([1, 7], [1, 7]), ([0, 1, 2, 3, 4, 5, 6, 7, 8], []), ([9, 8, 8, 0, 1, 2, 3, 4, 5, 6, 7, 8], [8, 9])])
def palinoderef16_Pick.B35 : List Nat := [0, 1, 0, 0, 12, 28, 60, 124, 255, 511, 1023]
theorem palinoderef16_Pick.tab35 : rtab .any (opsOf Try.f7 35) = palinoderef16_Pick.T35 := by kernel_rfl
theorem palinoderef16_Pick.bits35 : waitsOk palinoderef16_Pick.T35.2 palinoderef16_Pick.B35 = true := by kernel_rfl
set_option maxHeartbeats 8000000 in
set_option maxRecDepth 100000 in
theorem palinoderef16_Pick.calls (k : Nat) (A0_0 : Option Addr) (c0_0 : Nat) (l0_0 : List (S48)) (A0_1 : Option Addr) (c0_1 : Nat) (l0_1 : List Int) (a0_2 : Int) (r1 : Int) (r2 : List Int) (r3 : List Int) (r4 : Bool) (r5 : Bool) (w : World) (hr0_0 : Kd.C k48 w A0_0 l0_0.length l0_0) (hc0_0 : l0_0.length ≤ c0_0) (hr0_1 : Kd.C (Kd.int .i64) w A0_1 l0_1.length l0_1) (hc0_1 : l0_1.length ≤ c0_1) (h : palinoderef16_Pick.f k l0_0 l0_1 a0_2 = some (r1, r2, r3, r4, r5)) :
  Calls Try.prog 7 #[.agg #[.slice A0_0 l0_0.length c0_0, .slice A0_1 l0_1.length c0_1, .int .i64 a0_2]] w fun e w' => ∃ v1_ v2_ : Value, e = .returned (.tuple #[.agg #[.int .i64 r1, v1_, v2_, .bool r4], .bool r5]) ∧ Kd.R (Kd.int .i64) 3 w' w.heap.size (fun k_ => some k_ ≠ (v2_ : Value).ownBlock) v1_ r2 ∧ Kd.R (Kd.int .i64) 3 w' w.heap.size (fun k_ => some k_ ≠ (v1_ : Value).ownBlock) v2_ r3 ∧ Below w.heap.size w w' := by
 have hu25 := Try.underlying25
 have hu28 := Try.underlying28
 have hu48 := Try.underlying48
 have HR0_0 := Aside0.mk hr0_0
 have HC0_0 := Aside0.mk hc0_0
 clear hr0_0 hc0_0
 have HR0_1 := Aside0.mk hr0_1
 have HC0_1 := Aside0.mk hc0_1
 clear hr0_1 hc0_1
 have HB := Aside0.mk (Below.refl w.heap.size w)
 have H : ((palinoderef14_Right.f k l0_0 l0_1 a0_2).bind fun t278 => (if t278 = true then ((palinoderef14_Level.f k l0_0 l0_1 a0_2 0).bind fun t279 => (if (t279.length : Int) ≥ 3 then (palinoderef16_Pick.j0 k 0 t279 l0_0 l0_1 a0_2) else (palinoderef16_Pick.j0 k (-1) t279 l0_0 l0_1 a0_2))) else (some (0, ([] : List Int), ([] : List Int), false, false)))) = some (r1, r2, r3, r4, r5) := h
 clear h
 replace H := Option.bind_eq_some_iff.mp H
 obtain ⟨t278, A20, H⟩ := H
 replace H : (if t278 = true then ((palinoderef14_Level.f k l0_0 l0_1 a0_2 0).bind fun t279 => (if (t279.length : Int) ≥ 3 then (palinoderef16_Pick.j0 k 0 t279 l0_0 l0_1 a0_2) else (palinoderef16_Pick.j0 k (-1) t279 l0_0 l0_1 a0_2))) else (some (0, ([] : List Int), ([] : List Int), false, false))) = some (r1, r2, r3, r4, r5) := H
 have A2 := Aside0.mk A20
 clear A20
 by_cases c3 : t278 = true
 ·subst c3
  have H1 : ((palinoderef14_Level.f k l0_0 l0_1 a0_2 0).bind fun t279 => (if (t279.length : Int) ≥ 3 then (palinoderef16_Pick.j0 k 0 t279 l0_0 l0_1 a0_2) else (palinoderef16_Pick.j0 k (-1) t279 l0_0 l0_1 a0_2))) = some (r1, r2, r3, r4, r5) := by rw [if_pos rfl] at H; exact H
  clear H
  have H := H1
  clear H1
  replace H := Option.bind_eq_some_iff.mp H
  obtain ⟨t279, A40, H⟩ := H
  replace H : (if (t279.length : Int) ≥ 3 then (palinoderef16_Pick.j0 k 0 t279 l0_0 l0_1 a0_2) else (palinoderef16_Pick.j0 k (-1) t279 l0_0 l0_1 a0_2)) = some (r1, r2, r3, r4, r5) := H
  have A4 := Aside0.mk A40
  clear A40
  have HC5 := Aside0.mk H
  clear H
  go_enter Try.func7, Try.ntmps7
  go_upto_if 29 with (first | ((with_reducible refine gate_dst (N := 1) rfl ?_); refine box_event ?hg (N := 1) ?hd (cs := #[.slice A0_0 l0_0.length c0_0, .slice A0_1 l0_1.length c0_1, .int .i64 a0_2]) (t := 25) ?hr ?_; (case hd => rfl); (case hg => rfl); (case hr => first | (go_simp; done) | (go_simp; rfl)); intro gb276 hg w6 hbox hb; have n0_ := Aside0.mk (bls (by repeat (first | (with_reducible first | exact HB.out | apply blA | apply blN | apply blD) | exact HB.out)) hb); have n1_ := Aside0.mk (hbox); have n2_ := Aside0.mk ((by rw [hg]; exact (blz (by repeat (first | (with_reducible first | exact HB.out | apply blA | apply blN | apply blD) | exact HB.out))) : w.heap.size ≤ gb276)); have n3_ := Aside0.mk ((by rw [hg]; exact (blz (by repeat (first | (with_reducible first | exact HB.out | apply blA | apply blN | apply blD) | exact HB.out))) : w.heap.size ≤ gb276)); clear HB; have HB := n0_; have BK276 := n1_; have GW276 := n2_; have GE276 := n3_; clear n0_ n1_ n2_ n3_; clear hb hbox hg) | ((with_reducible refine gate_dst (N := 2) rfl ?_); refine box_event ?hg (N := 2) ?hd (cs := #[.int .i64 0, .slice none 0 0, .slice none 0 0, .bool false]) (t := 28) ?hr ?_; (case hd => rfl); (case hg => rfl); (case hr => first | (go_simp; done) | (go_simp; rfl)); intro gb277 hg w7 hbox hb; have n0_ := Aside0.mk (bbl (g := gb276) (o := .cells #[.slice A0_0 l0_0.length c0_0, .slice A0_1 l0_1.length c0_1, .int .i64 a0_2] 25 (0, 0)) (by (with_reducible repeat (first | refine bdN ?_ _ | refine bdD ?_ | refine bdA ?_ _)); exact BK276.out) hb); have n1_ := Aside0.mk (bls (by repeat (first | (with_reducible first | exact HB.out | apply blA | apply blN | apply blD | refine blS ?_ GE276.out) | exact HB.out)) hb); have n2_ := Aside0.mk (hbox); have n3_ := Aside0.mk ((by rw [hg]; exact (blz (by repeat (first | (with_reducible first | exact HB.out | apply blA | apply blN | apply blD | refine blS ?_ GE276.out) | exact HB.out))) : w.heap.size ≤ gb277)); have n4_ := Aside0.mk ((by rw [hg]; exact (blz (by repeat (first | (with_reducible first | exact HB.out | apply blA | apply blN | apply blD | refine blS ?_ GE276.out) | exact HB.out))) : w.heap.size ≤ gb277)); have n5_ := Aside0.mk ((by rw [hg]; exact Nat.ne_of_lt (blk_lt (g := gb276) (o := .cells #[.slice A0_0 l0_0.length c0_0, .slice A0_1 l0_1.length c0_1, .int .i64 a0_2] 25 (0, 0)) (by (with_reducible repeat (first | refine bdN ?_ _ | refine bdD ?_ | refine bdA ?_ _)); exact BK276.out)) : gb276 ≠ gb277)); have n6_ := Aside0.mk ((by rw [hg]; exact Nat.ne_of_gt (blk_lt (g := gb276) (o := .cells #[.slice A0_0 l0_0.length c0_0, .slice A0_1 l0_1.length c0_1, .int .i64 a0_2] 25 (0, 0)) (by (with_reducible repeat (first | refine bdN ?_ _ | refine bdD ?_ | refine bdA ?_ _)); exact BK276.out)) : gb277 ≠ gb276)); clear BK276; clear HB; have BK276 := n0_; have HB := n1_; have BK277 := n2_; have GW277 := n3_; have GE277 := n4_; have NB276_277 := n5_; have NB277_276 := n6_; clear n0_ n1_ n2_ n3_ n4_ n5_ n6_; clear hb hbox hg; have hnb8 := NB276_277.out; have hnc8 := NB277_276.out; have hcz9_0 : w7.cell? ⟨gb276, 0, none⟩ = some (.slice A0_0 l0_0.length c0_0) := (bcl BK276.out 0).trans rfl; have hcz9_1 : w7.cell? ⟨gb276, 1, none⟩ = some (.slice A0_1 l0_1.length c0_1) := (bcl BK276.out 1).trans rfl; have hcz9_2 : w7.cell? ⟨gb276, 2, none⟩ = some (.int .i64 a0_2) := (bcl BK276.out 2).trans rfl; have hfz9_0 := bfz BK276.out 0; have hfz9_1 := bfz BK276.out 1; have hfz9_2 := bfz BK276.out 2) | ((with_reducible refine gate_callee (f := 21) rfl ?_); refine goesL_ (some 21) rfl rfl Try.func21 (by kernel_rfl) rfl #[.agg #[.slice A0_0 l0_0.length c0_0, .slice A0_1 l0_1.length c0_1, .int .i64 a0_2]] rfl (by (try simp only [List.map_toArray, List.map_cons, List.map_nil]); first | done | rfl | (simp only [List.length_drop, List.length_take]; rfl)) ?_; (with_reducible refine (palinoderef14_Right.calls k _ _ l0_0 _ _ l0_1 a0_2 true _ ?side1 ?side2 ?side3 ?side4 A2.out).mono ?_); (case side1 => repeat (first | exact (Kd.C_below HR0_0.out HB.out) | (with_reducible refine Kd.C_alloc ?_ _) | (with_reducible refine Kd.C_drewN ?_ _) | (with_reducible refine Kd.C_drew ?_))); (case side2 => exact HC0_0.out); (case side3 => repeat (first | exact (Kd.C_below HR0_1.out HB.out) | (with_reducible refine Kd.C_alloc ?_ _) | (with_reducible refine Kd.C_drewN ?_ _) | (with_reducible refine Kd.C_drew ?_))); (case side4 => exact HC0_1.out); rintro e w10 ⟨rfl, hb⟩; refine ⟨_, rfl, ?_⟩; have n0_ := Aside0.mk (bbl (g := gb276) (o := .cells #[.slice A0_0 l0_0.length c0_0, .slice A0_1 l0_1.length c0_1, .int .i64 a0_2] 25 (0, 0)) (by (with_reducible repeat (first | refine bdN ?_ _ | refine bdD ?_ | refine bdA ?_ _)); exact BK276.out) hb); have n1_ := Aside0.mk (bbl (g := gb277) (o := .cells #[.int .i64 0, .slice none 0 0, .slice none 0 0, .bool false] 28 (0, 0)) (by (with_reducible repeat (first | refine bdN ?_ _ | refine bdD ?_ | refine bdA ?_ _)); exact BK277.out) hb); have n2_ := Aside0.mk (bls (by repeat (first | (with_reducible first | exact HB.out | apply blA | apply blN | apply blD | refine blS ?_ GE276.out | refine blS ?_ GE277.out) | exact HB.out)) hb); clear BK276; clear BK277; clear HB; have BK276 := n0_; have BK277 := n1_; have HB := n2_; clear n0_ n1_ n2_; (try clear hb); (try clear hb2); (try clear hk); (try clear hi); have hcz11_0 : w10.cell? ⟨gb276, 0, none⟩ = some (.slice A0_0 l0_0.length c0_0) := (bcl BK276.out 0).trans rfl; have hcz11_1 : w10.cell? ⟨gb276, 1, none⟩ = some (.slice A0_1 l0_1.length c0_1) := (bcl BK276.out 1).trans rfl; have hcz11_2 : w10.cell? ⟨gb276, 2, none⟩ = some (.int .i64 a0_2) := (bcl BK276.out 2).trans rfl; have hfz11_0 := bfz BK276.out 0; have hfz11_1 := bfz BK276.out 1; have hfz11_2 := bfz BK276.out 2) | ((with_reducible refine gate_callee (f := 22) rfl ?_); refine goesL_ (some 26) rfl rfl Try.func22 (by kernel_rfl) rfl #[.agg #[.slice A0_0 l0_0.length c0_0, .slice A0_1 l0_1.length c0_1, .int .i64 a0_2], .int .i64 0] rfl (by (try simp only [List.map_toArray, List.map_cons, List.map_nil]); first | done | rfl | (simp only [List.length_drop, List.length_take]; rfl)) ?_; (with_reducible refine (palinoderef14_Level.calls k _ _ l0_0 _ _ l0_1 a0_2 0 t279 _ ?side1 ?side2 ?side3 ?side4 A4.out).mono ?_); (case side1 => repeat (first | exact (Kd.C_below HR0_0.out HB.out) | (with_reducible refine Kd.C_alloc ?_ _) | (with_reducible refine Kd.C_drewN ?_ _) | (with_reducible refine Kd.C_drew ?_))); (case side2 => exact HC0_0.out); (case side3 => repeat (first | exact (Kd.C_below HR0_1.out HB.out) | (with_reducible refine Kd.C_alloc ?_ _) | (with_reducible refine Kd.C_drewN ?_ _) | (with_reducible refine Kd.C_drew ?_))); (case side4 => exact HC0_1.out); rintro e w12 ⟨v280, rfl, ho0, hb⟩; refine ⟨_, rfl, ?_⟩; have n0_ := Aside0.mk (Kd.R_lower ho0 (blz (by repeat (first | (with_reducible first | exact HB.out | apply blA | apply blN | apply blD | refine blS ?_ GE276.out | refine blS ?_ GE277.out) | exact HB.out)))); have n1_ := Aside0.mk (bbl (g := gb276) (o := .cells #[.slice A0_0 l0_0.length c0_0, .slice A0_1 l0_1.length c0_1, .int .i64 a0_2] 25 (0, 0)) (by (with_reducible repeat (first | refine bdN ?_ _ | refine bdD ?_ | refine bdA ?_ _)); exact BK276.out) hb); have n2_ := Aside0.mk (bbl (g := gb277) (o := .cells #[.int .i64 0, .slice none 0 0, .slice none 0 0, .bool false] 28 (0, 0)) (by (with_reducible repeat (first | refine bdN ?_ _ | refine bdD ?_ | refine bdA ?_ _)); exact BK277.out) hb); have n3_ := Aside0.mk (bls (by repeat (first | (with_reducible first | exact HB.out | apply blA | apply blN | apply blD | refine blS ?_ GE276.out | refine blS ?_ GE277.out) | exact HB.out)) hb); clear BK276; clear BK277; clear HB; have HO281 := n0_; have BK276 := n1_; have BK277 := n2_; have HB := n3_; clear n0_ n1_ n2_ n3_; (try clear hb); (try clear hb2); (try clear hk); (try clear hi); (try clear ho0); obtain ⟨Ao13, co13, eo13⟩ := Kd.R_slice HO281.out; subst eo13))
  (try simp only [Act.put, List.setIfInBounds_toArray, List.set_cons_zero, List.set_cons_succ])
  go_cut [5] (fun v5 wc => ∃ (kq : Nat) (x5_4 : Int), v5 = .int .i64 x5_4 ∧ Aside0 (palinoderef16_Pick.j0 kq x5_4 t279 l0_0 l0_1 a0_2 = some (r1, r2, r3, r4, r5)) ∧ Aside0 (kq ≤ k) ∧ Aside0 (Kd.R k48 48 wc w.heap.size (fun _ => True) (.slice Ao13 t279.length co13) t279) ∧ Aside0 (wc.heap[gb276]? = some (.cells #[(.slice A0_0 l0_0.length c0_0), (.slice A0_1 l0_1.length c0_1), .int .i64 a0_2] 25 (0, 0))) ∧ Aside0 (wc.heap[gb277]? = some (.cells #[.int .i64 0, (.slice none 0 0), (.slice none 0 0), .bool false] 28 (0, 0))) ∧ Aside0 (Below w.heap.size w wc))
  case first =>
   have H := HC5.out
   clear HC5
   by_cases c14 : (t279.length : Int) ≥ 3
   ·rw [if_pos c14] at H
    have c14b0 : decide (3 ≤ (t279.length : Int)) = true := decide_eq_true c14
    have c14b1 : decide (3 ≤ t279.length) = true := decide_eq_true (by omega)
    clear c14
    (first | rw [c14b0] | (simp only [i64_w, i32_w]; rw [c14b0]) | skip)
    have H' := Aside0.mk H
    clear H
    go_wp2
    go_meet
    case rel => exact ⟨_, (0), (by first | rfl | (simp; done) | (simp [*]; done)), H', ⟨by first | omega | exact Nat.le_refl _⟩, ⟨by (with_reducible repeat (first | apply Kd.R_alloc | apply Kd.R_drewN | apply Kd.R_drew)); exact HO281.out⟩, ⟨by (with_reducible repeat (first | refine bdN ?_ _ | refine bdD ?_ | refine bdA ?_ _)); exact BK276.out⟩, ⟨by (with_reducible repeat (first | refine bdN ?_ _ | refine bdD ?_ | refine bdA ?_ _)); exact BK277.out⟩, ⟨by repeat (first | (with_reducible first | exact HB.out | apply blA | apply blN | apply blD | refine blS ?_ GE276.out | refine blS ?_ GE277.out) | exact HB.out)⟩⟩
   ·rw [if_neg c14] at H
    have c14b0 : decide (3 ≤ (t279.length : Int)) = false := decide_eq_false c14
    have c14b1 : decide (3 ≤ t279.length) = false := decide_eq_false (by omega)
    clear c14
    (first | rw [c14b0] | (simp only [i64_w, i32_w]; rw [c14b0]) | skip)
    have H' := Aside0.mk H
    clear H
    go_wp2
    go_meet
    case rel => exact ⟨_, ((-1)), (by first | rfl | (simp; done) | (simp [*]; done)), H', ⟨by first | omega | exact Nat.le_refl _⟩, ⟨by (with_reducible repeat (first | apply Kd.R_alloc | apply Kd.R_drewN | apply Kd.R_drew)); exact HO281.out⟩, ⟨by (with_reducible repeat (first | refine bdN ?_ _ | refine bdD ?_ | refine bdA ?_ _)); exact BK276.out⟩, ⟨by (with_reducible repeat (first | refine bdN ?_ _ | refine bdD ?_ | refine bdA ?_ _)); exact BK277.out⟩, ⟨by repeat (first | (with_reducible first | exact HB.out | apply blA | apply blN | apply blD | refine blS ?_ GE276.out | refine blS ?_ GE277.out) | exact HB.out)⟩⟩
  case rest =>
   clear HC5
   try clear c1
   try clear c2
   try clear p2
   try clear c3
   try clear c7
   try clear c8
   try clear c14
   try clear c14b0
   try clear c14b1
   try clear hcz11_0
   try clear hcz11_1
   try clear hcz11_2
   try clear hcz9_0
   try clear hcz9_1
   try clear hcz9_2
   try clear hfz11_0
   try clear hfz11_1
   try clear hfz11_2
   try clear hfz9_0
   try clear hfz9_1
   try clear hfz9_2
   obtain ⟨kq, x5_4, rfl, HA, HJ4, HO_6, BK276, BK277, HB⟩ := hcut
   cases kq with
   | zero => exact absurd HA.out (by simp [palinoderef16_Pick.j0])
   | succ kj4 =>
    have H := HA.out
    clear HA
    simp only [palinoderef16_Pick.j0] at H
    have H' := Aside0.mk H
    clear H
    go_wp2
    go_loopg [5, 6, 7] kj4 (fun kq v5 v6 v7 w' => ∃ (x5_2 : Int) (x6_2 : List (S48)) (x7_2 : Int), v5 = .int .i64 x5_2 ∧ v7 = .int .i64 x7_2 ∧ Aside0 (palinoderef16_Pick.l0 kq x5_2 x6_2 x7_2 l0_0 l0_1 a0_2 = some (r1, r2, r3, r4, r5)) ∧ Aside0 (kq ≤ kj4) ∧ Aside0 (Kd.R k48 48 w' w.heap.size (fun _ => True) v6 x6_2) ∧ Aside0 (w'.heap[gb276]? = some (.cells #[(.slice A0_0 l0_0.length c0_0), (.slice A0_1 l0_1.length c0_1), .int .i64 a0_2] 25 (0, 0))) ∧ Aside0 (w'.heap[gb277]? = some (.cells #[.int .i64 0, (.slice none 0 0), (.slice none 0 0), .bool false] 28 (0, 0))) ∧ Aside0 (Below w.heap.size w w'))
    case atStart => exact ⟨(x5_4), (t279), (1), (by first | rfl | (simp; done) | (simp [*]; done)), (by first | rfl | (simp; done) | (simp [*]; done)), H', ⟨Nat.le_refl _⟩, ⟨by (with_reducible repeat (first | apply Kd.R_alloc | apply Kd.R_drewN | apply Kd.R_drew)); exact HO_6.out⟩, ⟨by (with_reducible repeat (first | refine bdN ?_ _ | refine bdD ?_ | refine bdA ?_ _)); exact BK276.out⟩, ⟨by (with_reducible repeat (first | refine bdN ?_ _ | refine bdD ?_ | refine bdA ?_ _)); exact BK277.out⟩, ⟨by repeat (first | (with_reducible first | exact HB.out | apply blA | apply blN | apply blD | refine blS ?_ GE276.out | refine blS ?_ GE277.out) | exact HB.out)⟩⟩
    case round =>
     clear H'
     try clear c1
     try clear c2
     try clear p2
     try clear c3
     try clear c7
     try clear c8
     try clear c14
     try clear c14b0
     try clear c14b1
     try clear hcz11_0
     try clear hcz11_1
     try clear hcz11_2
     try clear hcz9_0
     try clear hcz9_1
     try clear hcz9_2
     try clear hfz11_0
     try clear hfz11_1
     try clear hfz11_2
     try clear hfz9_0
     try clear hfz9_1
     try clear hfz9_2
     try clear p2
     obtain ⟨x5_2, x6_2, x7_2, rfl, rfl, HA, HK2, HO_6, BK276, BK277, HB⟩ := hrel
     cases gk with
     | zero => exact absurd HA.out (by simp [palinoderef16_Pick.l0])
     | succ k2 =>
      have H := HA.out
      clear HA
      simp only [palinoderef16_Pick.l0] at H
      have HC15 := Aside0.mk H
      clear H
      go_upto_region 9 with (fail)
      go_cut [35] (fun v35 wc => ∃ (kq : Nat) (x35_14 : Bool), v35 = .bool x35_14 ∧ Aside0 (palinoderef16_Pick.j2 kq x5_2 x6_2 x7_2 x35_14 l0_0 l0_1 a0_2 = some (r1, r2, r3, r4, r5)) ∧ Aside0 (kq ≤ k2) ∧ Aside0 (Kd.R k48 48 wc w.heap.size (fun _ => True) u6 x6_2) ∧ Aside0 (wc.heap[gb276]? = some (.cells #[(.slice A0_0 l0_0.length c0_0), (.slice A0_1 l0_1.length c0_1), .int .i64 a0_2] 25 (0, 0))) ∧ Aside0 (wc.heap[gb277]? = some (.cells #[.int .i64 0, (.slice none 0 0), (.slice none 0 0), .bool false] 28 (0, 0))) ∧ Aside0 (Below w.heap.size w wc))
      case first =>
       have H := HC15.out
       clear HC15
       by_cases c16 : x7_2 < 3
       ·rw [if_pos c16] at H
        have c16b0 : decide (x7_2 < 3) = true := decide_eq_true c16
        clear c16
        (first | rw [c16b0] | (simp only [i64_w, i32_w]; rw [c16b0]) | skip)
        have H' := Aside0.mk H
        clear H
        go_wp2
        go_meet
        case rel => exact ⟨_, (decide (x5_2 < 0)), (by first | rfl | (simp; done) | (simp [*]; done)), H', ⟨by have := HJ4.out; have := HK2.out; first | omega | exact Nat.le_refl _⟩, ⟨by (with_reducible repeat (first | apply Kd.R_alloc | apply Kd.R_drewN | apply Kd.R_drew)); exact HO_6.out⟩, ⟨by (with_reducible repeat (first | refine bdN ?_ _ | refine bdD ?_ | refine bdA ?_ _)); exact BK276.out⟩, ⟨by (with_reducible repeat (first | refine bdN ?_ _ | refine bdD ?_ | refine bdA ?_ _)); exact BK277.out⟩, ⟨by repeat (first | (with_reducible first | exact HB.out | apply blA | apply blN | apply blD | refine blS ?_ GE276.out | refine blS ?_ GE277.out) | exact HB.out)⟩⟩
       ·rw [if_neg c16] at H
        have c16b0 : decide (x7_2 < 3) = false := decide_eq_false c16
        clear c16
        (first | rw [c16b0] | (simp only [i64_w, i32_w]; rw [c16b0]) | skip)
        have H' := Aside0.mk H
        clear H
        go_wp2
        go_meet
        case rel => exact ⟨_, (false), (by first | rfl | (simp; done) | (simp [*]; done)), H', ⟨by have := HJ4.out; have := HK2.out; first | omega | exact Nat.le_refl _⟩, ⟨by (with_reducible repeat (first | apply Kd.R_alloc | apply Kd.R_drewN | apply Kd.R_drew)); exact HO_6.out⟩, ⟨by (with_reducible repeat (first | refine bdN ?_ _ | refine bdD ?_ | refine bdA ?_ _)); exact BK276.out⟩, ⟨by (with_reducible repeat (first | refine bdN ?_ _ | refine bdD ?_ | refine bdA ?_ _)); exact BK277.out⟩, ⟨by repeat (first | (with_reducible first | exact HB.out | apply blA | apply blN | apply blD | refine blS ?_ GE276.out | refine blS ?_ GE277.out) | exact HB.out)⟩⟩
      case rest =>
       clear HC15
       try clear c1
       try clear c2
       try clear p2
       try clear c3
       try clear c7
       try clear c8
       try clear c14
       try clear c14b0
       try clear c14b1
       try clear c16
       try clear c16b0
       try clear hcz11_0
       try clear hcz11_1
       try clear hcz11_2
       try clear hcz9_0
       try clear hcz9_1
       try clear hcz9_2
       try clear hfz11_0
       try clear hfz11_1
       try clear hfz11_2
       try clear hfz9_0
       try clear hfz9_1
       try clear hfz9_2
       try clear p2
       obtain ⟨kq, x35_14, rfl, HA, HJ14, HO_6, BK276, BK277, HB⟩ := hcut
       cases kq with
       | zero => exact absurd HA.out (by simp [palinoderef16_Pick.j2])
       | succ kj14 =>
        have H := HA.out
        clear HA
        simp only [palinoderef16_Pick.j2] at H
        by_cases c17 : x35_14 = true
        ·subst c17
         have H1 : ((palinoderef14_Level.f kj14 l0_0 l0_1 a0_2 x7_2).bind fun t282 => (palinoderef16_Pick.l1 kj14 x5_2 t282 x7_2 0 0 l0_0 l0_1 a0_2)) = some (r1, r2, r3, r4, r5) := by rw [if_pos rfl] at H; exact H
         clear H
         have H := H1
         clear H1
         replace H := Option.bind_eq_some_iff.mp H
         obtain ⟨t282, A180, H⟩ := H
         replace H : (palinoderef16_Pick.l1 kj14 x5_2 t282 x7_2 0 0 l0_0 l0_1 a0_2) = some (r1, r2, r3, r4, r5) := H
         have A18 := Aside0.mk A180
         clear A180
         have H' := Aside0.mk H
         clear H
         have hnb19 := NB276_277.out
         have hnc19 := NB277_276.out
         have hcz20_0 : wc.cell? ⟨gb276, 0, none⟩ = some (.slice A0_0 l0_0.length c0_0) := (bcl BK276.out 0).trans rfl
         have hcz20_1 : wc.cell? ⟨gb276, 1, none⟩ = some (.slice A0_1 l0_1.length c0_1) := (bcl BK276.out 1).trans rfl
         have hcz20_2 : wc.cell? ⟨gb276, 2, none⟩ = some (.int .i64 a0_2) := (bcl BK276.out 2).trans rfl
         have hfz20_0 := bfz BK276.out 0
         have hfz20_1 := bfz BK276.out 1
         have hfz20_2 := bfz BK276.out 2
         go_wp2_with (first | ((with_reducible refine gate_callee (f := 22) rfl ?_); refine goesL_ (some 40) rfl rfl Try.func22 (by kernel_rfl) rfl #[.agg #[.slice A0_0 l0_0.length c0_0, .slice A0_1 l0_1.length c0_1, .int .i64 a0_2], .int .i64 x7_2] rfl (by (try simp only [List.map_toArray, List.map_cons, List.map_nil]); first | done | rfl | (simp only [List.length_drop, List.length_take]; rfl)) ?_; (with_reducible refine (palinoderef14_Level.calls kj14 _ _ l0_0 _ _ l0_1 a0_2 x7_2 t282 _ ?side1 ?side2 ?side3 ?side4 A18.out).mono ?_); (case side1 => repeat (first | exact (Kd.C_below HR0_0.out HB.out) | (with_reducible refine Kd.C_alloc ?_ _) | (with_reducible refine Kd.C_drewN ?_ _) | (with_reducible refine Kd.C_drew ?_))); (case side2 => exact HC0_0.out); (case side3 => repeat (first | exact (Kd.C_below HR0_1.out HB.out) | (with_reducible refine Kd.C_alloc ?_ _) | (with_reducible refine Kd.C_drewN ?_ _) | (with_reducible refine Kd.C_drew ?_))); (case side4 => exact HC0_1.out); rintro e w21 ⟨v283, rfl, ho0, hb⟩; refine ⟨_, rfl, ?_⟩; have n0_ := Aside0.mk (Kd.R_elder' (by (with_reducible repeat (first | apply Kd.R_alloc | apply Kd.R_drewN | apply Kd.R_drew)); exact HO_6.out) (Kd.R_base ho0) hb); have n1_ := Aside0.mk (Kd.R_lower (Kd.R_new' ho0 (Kd.R_lt (by (with_reducible repeat (first | apply Kd.R_alloc | apply Kd.R_drewN | apply Kd.R_drew)); exact HO_6.out))) (blz (by repeat (first | (with_reducible first | exact HB.out | apply blA | apply blN | apply blD | refine blS ?_ GE276.out | refine blS ?_ GE277.out) | exact HB.out)))); have n2_ := Aside0.mk (bbl (g := gb276) (o := .cells #[.slice A0_0 l0_0.length c0_0, .slice A0_1 l0_1.length c0_1, .int .i64 a0_2] 25 (0, 0)) (by (with_reducible repeat (first | refine bdN ?_ _ | refine bdD ?_ | refine bdA ?_ _)); exact BK276.out) hb); have n3_ := Aside0.mk (bbl (g := gb277) (o := .cells #[.int .i64 0, .slice none 0 0, .slice none 0 0, .bool false] 28 (0, 0)) (by (with_reducible repeat (first | refine bdN ?_ _ | refine bdD ?_ | refine bdA ?_ _)); exact BK277.out) hb); have n4_ := Aside0.mk (bls (by repeat (first | (with_reducible first | exact HB.out | apply blA | apply blN | apply blD | refine blS ?_ GE276.out | refine blS ?_ GE277.out) | exact HB.out)) hb); clear HO_6; clear BK276; clear BK277; clear HB; have HO_6 := n0_; have HO284 := n1_; have BK276 := n2_; have BK277 := n3_; have HB := n4_; clear n0_ n1_ n2_ n3_ n4_; (try clear hb); (try clear hb2); (try clear hk); (try clear hi); (try clear ho0)))
         go_loopg [8, 9] kj14 (fun kq v8 v9 w' => ∃ (x8_4 : Int) (x9_4 : Int), v8 = .int .i64 x8_4 ∧ v9 = .int .i64 x9_4 ∧ Aside0 (palinoderef16_Pick.l1 kq x5_2 t282 x7_2 x8_4 x9_4 l0_0 l0_1 a0_2 = some (r1, r2, r3, r4, r5)) ∧ Aside0 (kq ≤ kj14) ∧ Aside0 (Kd.R k48 48 w' w.heap.size (fun _ => True) v283 t282) ∧ Aside0 (w'.heap[gb276]? = some (.cells #[(.slice A0_0 l0_0.length c0_0), (.slice A0_1 l0_1.length c0_1), .int .i64 a0_2] 25 (0, 0))) ∧ Aside0 (w'.heap[gb277]? = some (.cells #[.int .i64 0, (.slice none 0 0), (.slice none 0 0), .bool false] 28 (0, 0))) ∧ Aside0 (Below w.heap.size w w'))
         case atStart => exact ⟨(0), (0), (by first | rfl | (simp; done) | (simp [*]; done)), (by first | rfl | (simp; done) | (simp [*]; done)), H', ⟨Nat.le_refl _⟩, ⟨by (with_reducible repeat (first | apply Kd.R_alloc | apply Kd.R_drewN | apply Kd.R_drew)); exact Kd.R_mono HO284.out (fun _ hk => trivial)⟩, ⟨by (with_reducible repeat (first | refine bdN ?_ _ | refine bdD ?_ | refine bdA ?_ _)); exact BK276.out⟩, ⟨by (with_reducible repeat (first | refine bdN ?_ _ | refine bdD ?_ | refine bdA ?_ _)); exact BK277.out⟩, ⟨by repeat (first | (with_reducible first | exact HB.out | apply blA | apply blN | apply blD | refine blS ?_ GE276.out | refine blS ?_ GE277.out) | exact HB.out)⟩⟩
         case round =>
          clear H'
          try clear c1
          try clear c2
          try clear p2
          try clear c3
          try clear c7
          try clear c8
          try clear c14
          try clear c14b0
          try clear c14b1
          try clear c16
          try clear c16b0
          try clear c17
          try clear c19
          try clear c21
          try clear hcz11_0
          try clear hcz11_1
          try clear hcz11_2
          try clear hcz20_0
          try clear hcz20_1
          try clear hcz20_2
          try clear hcz9_0
          try clear hcz9_1
          try clear hcz9_2
          try clear hfz11_0
          try clear hfz11_1
          try clear hfz11_2
          try clear hfz20_0
          try clear hfz20_1
          try clear hfz20_2
          try clear hfz9_0
          try clear hfz9_1
          try clear hfz9_2
          try clear p2
          obtain ⟨x8_4, x9_4, rfl, rfl, HA, HK4, HO_6, BK276, BK277, HB⟩ := hrel
          cases gk with
          | zero => exact absurd HA.out (by simp [palinoderef16_Pick.l1])
          | succ k4 =>
           have H := HA.out
           clear HA
           simp only [palinoderef16_Pick.l1] at H
           by_cases c22 : x9_4 < (t282.length : Int)
           ·rw [if_pos c22] at H
            have c22b0 : decide (x9_4 < (t282.length : Int)) = true := decide_eq_true c22
            clear c22
            by_cases c23 : 0 ≤ x9_4
            ·rw [if_pos c23] at H
             have c23b0 : decide (0 ≤ x9_4) = true := decide_eq_true c23
             clear c23
             have H' := Aside0.mk H
             clear H
             obtain ⟨Ao24, co24, eo24⟩ := Kd.R_slice HO_6.out
             subst eo24
             have p285 : 0 ≤ (x9_4 : Int) := of_decide_eq_true (by first | (with_reducible assumption) | assumption)
             have q285 : x9_4 < (t282.length : Int) := of_decide_eq_true (by first | (with_reducible assumption) | assumption)
             obtain ⟨ad285, e285, hx285_0, hx285_1, hx285_2, hx285_3, hx285_4⟩ := at_T48 (Kd.R_reads' HO_6.out).2.2 x9_4 p285 q285
             cases e285
             replace p285 := eq_true p285
             replace q285 := eq_true q285
             go_wp2
             go_roundg k4
             case measure => have := HJ4.out; have := HK2.out; have := HJ14.out; have := HK4.out; omega
             case rel => exact ⟨(wrap64 (x8_4 + ((rd_T48 t282 x9_4).f4))), (wrap64 (x9_4 + 1)), (by first | rfl | (simp; done) | (simp [*]; done)), (by first | rfl | (simp; done) | (simp [*]; done)), H', ⟨by have := HJ4.out; have := HK2.out; have := HJ14.out; have := HK4.out; omega⟩, ⟨by (with_reducible repeat (first | apply Kd.R_alloc | apply Kd.R_drewN | apply Kd.R_drew)); exact HO_6.out⟩, ⟨by (with_reducible repeat (first | refine bdN ?_ _ | refine bdD ?_ | refine bdA ?_ _)); exact BK276.out⟩, ⟨by (with_reducible repeat (first | refine bdN ?_ _ | refine bdD ?_ | refine bdA ?_ _)); exact BK277.out⟩, ⟨by repeat (first | (with_reducible first | exact HB.out | apply blA | apply blN | apply blD | refine blS ?_ GE276.out | refine blS ?_ GE277.out) | exact HB.out)⟩⟩
            ·rw [if_neg c23] at H
             exact absurd H (by simp)
           ·rw [if_neg c22] at H
            have c22b0 : decide (x9_4 < (t282.length : Int)) = false := decide_eq_false c22
            clear c22
            replace H := Option.bind_eq_some_iff.mp H
            obtain ⟨t286, A250, H⟩ := H
            replace H : (if x8_4 > t286 then (if 1 ≤ (t282.length : Int) then (palinoderef16_Pick.l0 k4 x7_2 (t282.take (1 : Int).toNat) (wrap64 (x7_2 + 1)) l0_0 l0_1 a0_2) else (none)) else (palinoderef16_Pick.l0 k4 x5_2 t282 (wrap64 (x7_2 + 1)) l0_0 l0_1 a0_2)) = some (r1, r2, r3, r4, r5) := H
            have A25 := Aside0.mk A250
            clear A250
            by_cases c26 : x8_4 > t286
            ·rw [if_pos c26] at H
             have c26b0 : decide (t286 < x8_4) = true := decide_eq_true c26
             clear c26
             by_cases c27 : 1 ≤ (t282.length : Int)
             ·rw [if_pos c27] at H
              have c27b0 := eq_true c27
              have c27b1 : decide (1 ≤ (t282.length : Int)) = true := decide_eq_true c27
              clear c27
              obtain ⟨y287, hy287⟩ : ∃ y_ : List (S48), y_ = (t282.take (1 : Int).toNat) := ⟨_, rfl⟩
              replace H : (palinoderef16_Pick.l0 k4 x7_2 y287 (wrap64 (x7_2 + 1)) l0_0 l0_1 a0_2) = some (r1, r2, r3, r4, r5) := by first | (rw [hy287]; with_reducible exact H) | (have H2_ := (Option.bind_some _ _).symm.trans H; rw [hy287]; with_reducible exact H2_) | (have H2_ := (Option.bind_some _ _).symm.trans H; with_reducible exact H2_) | with_reducible exact H | (rw [hy287]; exact H) | exact H
              have Ny287 := Aside0.mk hy287
              clear hy287
              have H' := Aside0.mk H
              clear H
              obtain ⟨Ao28, co28, eo28⟩ := Kd.R_slice HO_6.out
              subst eo28
              go_wp2_with (first | ((with_reducible refine gate_callee (f := 10) rfl ?_); refine goesL_ (some 56) rfl rfl Try.func10 (by kernel_rfl) rfl #[.int .i64 x7_2] rfl (by (try simp only [List.map_toArray, List.map_cons, List.map_nil]); first | done | rfl | (simp only [List.length_drop, List.length_take]; rfl)) ?_; (with_reducible refine (palinoderef16_Limit.calls x7_2 t286 _ A25.out).mono ?_); rintro e w' ⟨rfl, ⟨nd, rfl⟩⟩; refine ⟨_, rfl, ?_⟩; have q29 : (1 : Int) ≤ ((t282.length : Int) : Int) := of_decide_eq_true (by first | (with_reducible assumption) | assumption); obtain ⟨i029, hi029, _, hsz29, _⟩ := info_parts info48; have hcut29 := cut_to (P := Try.prog) 22 48 .i64 Try.underlying22 hi029 Ao28 t282.length co28 1 (by omega) q29 (Kd.R_reads' HO_6.out).2.1; have hr29 := Kd.R_take (m := (1 : Int).toNat) HO_6.out (by omega); have hy29 : y287.length = (1 : Int).toNat := (by rw [Ny287.out, List.length_take]; omega); rw [← Ny287.out] at hr29; rw [← hy29] at hr29 hcut29; clear hy29 hi029 hsz29 HO_6; have HO289 := Aside0.mk hr29; clear hr29; replace q29 := eq_true q29))
              go_roundg k4
              case measure => have := HJ4.out; have := HK2.out; have := HJ14.out; have := HK4.out; omega
              case rel => exact ⟨(x7_2), (y287), (wrap64 (x7_2 + 1)), (by first | rfl | (simp; done) | (simp [*]; done)), (by first | rfl | (simp; done) | (simp [*]; done)), H', ⟨by have := HJ4.out; have := HK2.out; have := HJ14.out; have := HK4.out; omega⟩, ⟨by (with_reducible repeat (first | apply Kd.R_alloc | apply Kd.R_drewN | apply Kd.R_drew)); exact HO289.out⟩, ⟨by (with_reducible repeat (first | refine bdN ?_ _ | refine bdD ?_ | refine bdA ?_ _)); exact BK276.out⟩, ⟨by (with_reducible repeat (first | refine bdN ?_ _ | refine bdD ?_ | refine bdA ?_ _)); exact BK277.out⟩, ⟨by repeat (first | (with_reducible first | exact HB.out | apply blA | apply blN | apply blD | refine blS ?_ GE276.out | refine blS ?_ GE277.out) | exact HB.out)⟩⟩
             ·rw [if_neg c27] at H
              exact absurd H (by simp)
            ·rw [if_neg c26] at H
             have c26b0 : decide (t286 < x8_4) = false := decide_eq_false c26
             clear c26
             have H' := Aside0.mk H
             clear H
             obtain ⟨Ao30, co30, eo30⟩ := Kd.R_slice HO_6.out
             subst eo30
             go_wp2_with (first | ((with_reducible refine gate_callee (f := 10) rfl ?_); refine goesL_ (some 56) rfl rfl Try.func10 (by kernel_rfl) rfl #[.int .i64 x7_2] rfl (by (try simp only [List.map_toArray, List.map_cons, List.map_nil]); first | done | rfl | (simp only [List.length_drop, List.length_take]; rfl)) ?_; (with_reducible refine (palinoderef16_Limit.calls x7_2 t286 _ A25.out).mono ?_); rintro e w' ⟨rfl, ⟨nd, rfl⟩⟩; refine ⟨_, rfl, ?_⟩))
             go_roundg k4
             case measure => have := HJ4.out; have := HK2.out; have := HJ14.out; have := HK4.out; omega
             case rel => exact ⟨(x5_2), (t282), (wrap64 (x7_2 + 1)), (by first | rfl | (simp; done) | (simp [*]; done)), (by first | rfl | (simp; done) | (simp [*]; done)), H', ⟨by have := HJ4.out; have := HK2.out; have := HJ14.out; have := HK4.out; omega⟩, ⟨by (with_reducible repeat (first | apply Kd.R_alloc | apply Kd.R_drewN | apply Kd.R_drew)); exact HO_6.out⟩, ⟨by (with_reducible repeat (first | refine bdN ?_ _ | refine bdD ?_ | refine bdA ?_ _)); exact BK276.out⟩, ⟨by (with_reducible repeat (first | refine bdN ?_ _ | refine bdD ?_ | refine bdA ?_ _)); exact BK277.out⟩, ⟨by repeat (first | (with_reducible first | exact HB.out | apply blA | apply blN | apply blD | refine blS ?_ GE276.out | refine blS ?_ GE277.out) | exact HB.out)⟩⟩
        ·replace c17 := Bool.eq_false_iff.mpr c17
         subst c17
         have H1 : (if x5_2 < 0 then (some (0, ([] : List Int), ([] : List Int), false, false)) else (palinoderef16_Pick.l2 kj14 x5_2 x6_2 ([] : List (S48)) 0 l0_0 l0_1 a0_2 x5_2 ([] : List Int) true)) = some (r1, r2, r3, r4, r5) := by rw [if_neg (show ¬ (false = true) by decide)] at H; exact H
         clear H
         have H := H1
         clear H1
         by_cases c31 : x5_2 < 0
         ·rw [if_pos c31] at H
          have c31b0 : decide (x5_2 < 0) = true := decide_eq_true c31
          clear c31
          simp only [Option.some.injEq, Prod.mk.injEq] at H
          obtain ⟨rfl, rfl, rfl, rfl, rfl⟩ := H
          have hnb32 := NB277_276.out
          have hnc32 := NB276_277.out
          have hcz33_0 : wc.cell? ⟨gb277, 0, none⟩ = some (.int .i64 0) := (bcl BK277.out 0).trans rfl
          have hcz33_1 : wc.cell? ⟨gb277, 1, none⟩ = some (.slice none 0 0) := (bcl BK277.out 1).trans rfl
          have hcz33_2 : wc.cell? ⟨gb277, 2, none⟩ = some (.slice none 0 0) := (bcl BK277.out 2).trans rfl
          have hcz33_3 : wc.cell? ⟨gb277, 3, none⟩ = some (.bool false) := (bcl BK277.out 3).trans rfl
          have hfz33_0 := bfz BK277.out 0
          have hfz33_1 := bfz BK277.out 1
          have hfz33_2 := bfz BK277.out 2
          have hfz33_3 := bfz BK277.out 3
          go_wp2
          refine bodyPost_ret (results_ct rfl _ _ gb277 28 #[.int .i64 0, .slice none 0 0, .slice none 0 0, .bool false] (0, 0) _ rfl (by (with_reducible repeat (first | refine bdN ?_ _ | refine bdD ?_ | refine bdA ?_ _)); refine blk_put (cs := #[.int .i64 0, .slice none 0 0, .slice none 0 0, .bool false]) ?_ 3 _ rfl; (with_reducible repeat (first | refine bdN ?_ _ | refine bdD ?_ | refine bdA ?_ _)); refine blk_put (cs := #[.int .i64 0, .slice none 0 0, .slice none 0 0, .bool false]) ?_ 2 _ rfl; (with_reducible repeat (first | refine bdN ?_ _ | refine bdD ?_ | refine bdA ?_ _)); refine blk_put (cs := #[.int .i64 0, .slice none 0 0, .slice none 0 0, .bool false]) ?_ 1 _ rfl; (with_reducible repeat (first | refine bdN ?_ _ | refine bdD ?_ | refine bdA ?_ _)); refine blk_put (cs := #[.int .i64 0, .slice none 0 0, .slice none 0 0, .bool false]) ?_ 0 _ rfl; (with_reducible repeat (first | refine bdN ?_ _ | refine bdD ?_ | refine bdA ?_ _)); exact BK277.out) Try.underlying28 rfl (by kernel_rfl)) rfl ?_
          exact ⟨_, _, by first | rfl | (simp [errW_none, errW_some] <;> rfl) | (simp [*, errW_none, errW_some] <;> rfl), by first | exact Kd.R_nil _ _ _ _ _ | exact Kd.N_nil _ _ _ _ _ | exact Kd.V_nil _ _ _ _ _ | exact Kd.Q_nil _ _ _ _ _ | exact Kd.S_nil _ _ _ _ _, by first | exact Kd.R_nil _ _ _ _ _ | exact Kd.N_nil _ _ _ _ _ | exact Kd.V_nil _ _ _ _ _ | exact Kd.Q_nil _ _ _ _ _ | exact Kd.S_nil _ _ _ _ _, by repeat (first | (with_reducible first | exact HB.out | apply blA | apply blN | apply blD | refine blS ?_ GE276.out | refine blS ?_ GE277.out) | exact HB.out)⟩
         ·rw [if_neg c31] at H
          have c31b0 : decide (x5_2 < 0) = false := decide_eq_false c31
          clear c31
          have H' := Aside0.mk H
          clear H
          go_wp2_with (first | ((with_reducible refine gate_dst (N := 10) rfl ?_); refine box_event ?hg (N := 10) ?hd (cs := #[.int .i64 0, .slice none 0 0, .slice none 0 0, .bool false]) (t := 28) ?hr ?_; (case hd => rfl); (case hg => rfl); (case hr => first | (go_simp; done) | (go_simp; rfl)); intro gb290 hg w34 hbox hb; have n0_ := Aside0.mk (Kd.R_below (by (with_reducible repeat (first | apply Kd.R_alloc | apply Kd.R_drewN | apply Kd.R_drew)); exact HO_6.out) hb); have n1_ := Aside0.mk (bbl (g := gb276) (o := .cells #[.slice A0_0 l0_0.length c0_0, .slice A0_1 l0_1.length c0_1, .int .i64 a0_2] 25 (0, 0)) (by (with_reducible repeat (first | refine bdN ?_ _ | refine bdD ?_ | refine bdA ?_ _)); exact BK276.out) hb); have n2_ := Aside0.mk (bbl (g := gb277) (o := .cells #[.int .i64 0, .slice none 0 0, .slice none 0 0, .bool false] 28 (0, 0)) (by (with_reducible repeat (first | refine bdN ?_ _ | refine bdD ?_ | refine bdA ?_ _)); exact BK277.out) hb); have n3_ := Aside0.mk (bls (by repeat (first | (with_reducible first | exact HB.out | apply blA | apply blN | apply blD | refine blS ?_ GE276.out | refine blS ?_ GE277.out) | exact HB.out)) hb); have n4_ := Aside0.mk (hbox); have n5_ := Aside0.mk ((by rw [hg]; exact (blz (by repeat (first | (with_reducible first | exact HB.out | apply blA | apply blN | apply blD | refine blS ?_ GE276.out | refine blS ?_ GE277.out) | exact HB.out))) : w.heap.size ≤ gb290)); have n6_ := Aside0.mk ((by rw [hg]; exact (blz (by repeat (first | (with_reducible first | exact HB.out | apply blA | apply blN | apply blD | refine blS ?_ GE276.out | refine blS ?_ GE277.out) | exact HB.out))) : w.heap.size ≤ gb290)); have n7_ := Aside0.mk ((by rw [hg]; exact Nat.ne_of_lt (blk_lt (g := gb276) (o := .cells #[.slice A0_0 l0_0.length c0_0, .slice A0_1 l0_1.length c0_1, .int .i64 a0_2] 25 (0, 0)) (by (with_reducible repeat (first | refine bdN ?_ _ | refine bdD ?_ | refine bdA ?_ _)); exact BK276.out)) : gb276 ≠ gb290)); have n8_ := Aside0.mk ((by rw [hg]; exact Nat.ne_of_gt (blk_lt (g := gb276) (o := .cells #[.slice A0_0 l0_0.length c0_0, .slice A0_1 l0_1.length c0_1, .int .i64 a0_2] 25 (0, 0)) (by (with_reducible repeat (first | refine bdN ?_ _ | refine bdD ?_ | refine bdA ?_ _)); exact BK276.out)) : gb290 ≠ gb276)); have n9_ := Aside0.mk ((by rw [hg]; exact Nat.ne_of_lt (blk_lt (g := gb277) (o := .cells #[.int .i64 0, .slice none 0 0, .slice none 0 0, .bool false] 28 (0, 0)) (by (with_reducible repeat (first | refine bdN ?_ _ | refine bdD ?_ | refine bdA ?_ _)); exact BK277.out)) : gb277 ≠ gb290)); have n10_ := Aside0.mk ((by rw [hg]; exact Nat.ne_of_gt (blk_lt (g := gb277) (o := .cells #[.int .i64 0, .slice none 0 0, .slice none 0 0, .bool false] 28 (0, 0)) (by (with_reducible repeat (first | refine bdN ?_ _ | refine bdD ?_ | refine bdA ?_ _)); exact BK277.out)) : gb290 ≠ gb277)); clear HO_6; clear BK276; clear BK277; clear HB; have HO_6 := n0_; have BK276 := n1_; have BK277 := n2_; have HB := n3_; have BK290 := n4_; have GW290 := n5_; have GE290 := n6_; have NB276_290 := n7_; have NB290_276 := n8_; have NB277_290 := n9_; have NB290_277 := n10_; clear n0_ n1_ n2_ n3_ n4_ n5_ n6_ n7_ n8_ n9_ n10_; clear hb hbox hg; have hnb35 := NB290_276.out; have hnc35 := NB276_290.out; have hnb36 := NB290_277.out; have hnc36 := NB277_290.out; have hcz37_0 : w34.cell? ⟨gb290, 0, none⟩ = some (.int .i64 0) := (bcl BK290.out 0).trans rfl; have hcz37_1 : w34.cell? ⟨gb290, 1, none⟩ = some (.slice none 0 0) := (bcl BK290.out 1).trans rfl; have hcz37_2 : w34.cell? ⟨gb290, 2, none⟩ = some (.slice none 0 0) := (bcl BK290.out 2).trans rfl; have hcz37_3 : w34.cell? ⟨gb290, 3, none⟩ = some (.bool false) := (bcl BK290.out 3).trans rfl; have hfz37_0 := bfz BK290.out 0; have hfz37_1 := bfz BK290.out 1; have hfz37_2 := bfz BK290.out 2; have hfz37_3 := bfz BK290.out 3))
          go_loopg [11, 12] kj14 (fun kq v11 v12 w' => ∃ (x11_4 : List (S48)) (x12_4 : Int) (x291001_4 : List Int) (u291001 : Value), v12 = .int .i64 x12_4 ∧ Aside0 (palinoderef16_Pick.l2 kq x5_2 x6_2 x11_4 x12_4 l0_0 l0_1 a0_2 x5_2 x291001_4 true = some (r1, r2, r3, r4, r5)) ∧ Aside0 (kq ≤ kj14) ∧ Aside0 (Kd.R k48 48 w' w.heap.size (fun k_ => some k_ ≠ (v11 : Value).ownBlock) u6 x6_2) ∧ Aside0 (Kd.R k48 48 w' w.heap.size (fun k_ => some k_ ≠ (u6 : Value).ownBlock) v11 x11_4) ∧ Aside0 (Kd.R (Kd.int .i64) 3 w' w.heap.size (fun _ => True) u291001 x291001_4) ∧ Aside0 (w'.heap[gb276]? = some (.cells #[(.slice A0_0 l0_0.length c0_0), (.slice A0_1 l0_1.length c0_1), .int .i64 a0_2] 25 (0, 0))) ∧ Aside0 (w'.heap[gb277]? = some (.cells #[.int .i64 0, (.slice none 0 0), (.slice none 0 0), .bool false] 28 (0, 0))) ∧ Aside0 (w'.heap[gb290]? = some (.cells #[.int .i64 x5_2, u291001, (.slice none 0 0), .bool true] 28 (0, 0))) ∧ Aside0 (Below w.heap.size w w'))
          case atStart => exact ⟨(([] : List (S48))), (0), (([] : List Int)), (.slice none 0 0), (by first | rfl | (simp; done) | (simp [*]; done)), H', ⟨Nat.le_refl _⟩, ⟨by (with_reducible repeat (first | apply Kd.R_alloc | apply Kd.R_drewN | apply Kd.R_drew)); exact Kd.R_mono (Kd.R_far (p := ⟨gb290, 3, none⟩) (Kd.R_far (p := ⟨gb290, 2, none⟩) (Kd.R_far (p := ⟨gb290, 1, none⟩) (Kd.R_far (p := ⟨gb290, 0, none⟩) (Kd.R_types HO_6.out BK290.out (by decide)) (fun _ hk => hk.2) (.int .i64 x5_2)) (fun _ hk => hk.2) (.slice none 0 0)) (fun _ hk => hk.2) (.slice none 0 0)) (fun _ hk => hk.2) (.bool true)) (fun _ hk => (by simp [Value.ownBlock]))⟩, ⟨by first | exact Kd.R_nil _ _ _ _ _ | exact Kd.N_nil _ _ _ _ _ | exact Kd.V_nil _ _ _ _ _ | exact Kd.Q_nil _ _ _ _ _ | exact Kd.S_nil _ _ _ _ _⟩, ⟨by first | exact Kd.R_nil _ _ _ _ _ | exact Kd.N_nil _ _ _ _ _ | exact Kd.V_nil _ _ _ _ _ | exact Kd.Q_nil _ _ _ _ _ | exact Kd.S_nil _ _ _ _ _⟩, ⟨by (with_reducible repeat (first | refine bdN ?_ _ | refine bdD ?_ | refine bdA ?_ _)); refine blk_far ?_ NB276_290.out _; (with_reducible repeat (first | refine bdN ?_ _ | refine bdD ?_ | refine bdA ?_ _)); refine blk_far ?_ NB276_290.out _; (with_reducible repeat (first | refine bdN ?_ _ | refine bdD ?_ | refine bdA ?_ _)); refine blk_far ?_ NB276_290.out _; (with_reducible repeat (first | refine bdN ?_ _ | refine bdD ?_ | refine bdA ?_ _)); refine blk_far ?_ NB276_290.out _; (with_reducible repeat (first | refine bdN ?_ _ | refine bdD ?_ | refine bdA ?_ _)); exact BK276.out⟩, ⟨by (with_reducible repeat (first | refine bdN ?_ _ | refine bdD ?_ | refine bdA ?_ _)); refine blk_far ?_ NB277_290.out _; (with_reducible repeat (first | refine bdN ?_ _ | refine bdD ?_ | refine bdA ?_ _)); refine blk_far ?_ NB277_290.out _; (with_reducible repeat (first | refine bdN ?_ _ | refine bdD ?_ | refine bdA ?_ _)); refine blk_far ?_ NB277_290.out _; (with_reducible repeat (first | refine bdN ?_ _ | refine bdD ?_ | refine bdA ?_ _)); refine blk_far ?_ NB277_290.out _; (with_reducible repeat (first | refine bdN ?_ _ | refine bdD ?_ | refine bdA ?_ _)); exact BK277.out⟩, ⟨by (with_reducible repeat (first | refine bdN ?_ _ | refine bdD ?_ | refine bdA ?_ _)); refine blk_put (cs := #[.int .i64 x5_2, .slice none 0 0, .slice none 0 0, .bool false]) ?_ 3 _ rfl; (with_reducible repeat (first | refine bdN ?_ _ | refine bdD ?_ | refine bdA ?_ _)); refine blk_put (cs := #[.int .i64 x5_2, .slice none 0 0, .slice none 0 0, .bool false]) ?_ 2 _ rfl; (with_reducible repeat (first | refine bdN ?_ _ | refine bdD ?_ | refine bdA ?_ _)); refine blk_put (cs := #[.int .i64 x5_2, .slice none 0 0, .slice none 0 0, .bool false]) ?_ 1 _ rfl; (with_reducible repeat (first | refine bdN ?_ _ | refine bdD ?_ | refine bdA ?_ _)); refine blk_put (cs := #[.int .i64 0, .slice none 0 0, .slice none 0 0, .bool false]) ?_ 0 _ rfl; (with_reducible repeat (first | refine bdN ?_ _ | refine bdD ?_ | refine bdA ?_ _)); exact BK290.out⟩, ⟨by repeat (first | (with_reducible first | exact HB.out | apply blA | apply blN | apply blD | refine blS ?_ GE276.out | refine blS ?_ GE277.out | refine blS ?_ GE290.out) | exact HB.out)⟩⟩
          case round =>
           clear H'
           try clear c1
           try clear c2
           try clear p2
           try clear q2
           try clear hx2
           try clear c3
           try clear p6
           try clear c7
           try clear c8
           try clear c10
           try clear c14
           try clear c14b0
           try clear c14b1
           try clear c16
           try clear c16b0
           try clear c17
           try clear c19
           try clear c21
           try clear c22
           try clear c22b0
           try clear c23
           try clear c23b0
           try clear c26
           try clear c26b0
           try clear c27
           try clear c27b0
           try clear c27b1
           try clear p28
           try clear q28
           try clear hx28
           try clear q29
           try clear c31
           try clear c31b0
           try clear c32
           try clear c35
           try clear c36
           try clear hcz11_0
           try clear hcz11_1
           try clear hcz11_2
           try clear hcz20_0
           try clear hcz20_1
           try clear hcz20_2
           try clear hcz33_0
           try clear hcz33_1
           try clear hcz33_2
           try clear hcz33_3
           try clear hcz37_0
           try clear hcz37_1
           try clear hcz37_2
           try clear hcz37_3
           try clear hcz9_0
           try clear hcz9_1
           try clear hcz9_2
           try clear hfz11_0
           try clear hfz11_1
           try clear hfz11_2
           try clear hfz20_0
           try clear hfz20_1
           try clear hfz20_2
           try clear hfz33_0
           try clear hfz33_1
           try clear hfz33_2
           try clear hfz33_3
           try clear hfz37_0
           try clear hfz37_1
           try clear hfz37_2
           try clear hfz37_3
           try clear hfz9_0
           try clear hfz9_1
           try clear hfz9_2
           try clear hx285_0
           try clear hx285_1
           try clear hx285_2
           try clear hx285_3
           try clear hx285_4
           try clear p2
           try clear p285
           try clear q285
           try clear q29
           obtain ⟨x11_4, x12_4, x291001_4, u291001, rfl, HA, HK4, HO_6, HO_11, HO_291001, BK276, BK277, BK290, HB⟩ := hrel
           cases gk with
           | zero => exact absurd HA.out (by simp [palinoderef16_Pick.l2])
           | succ k4 =>
            have H := HA.out
            clear HA
            simp only [palinoderef16_Pick.l2] at H
            by_cases c38 : x12_4 < (x6_2.length : Int)
            ·rw [if_pos c38] at H
             have c38b0 : decide (x12_4 < (x6_2.length : Int)) = true := decide_eq_true c38
             clear c38
             by_cases c39 : 0 ≤ x12_4
             ·rw [if_pos c39] at H
              have c39b0 : decide (0 ≤ x12_4) = true := decide_eq_true c39
              clear c39
              by_cases c40 : x291001_4.length < 17592186044416
              ·rw [if_pos c40] at H
               have LMc40 := Aside0.mk c40
               clear c40
               obtain ⟨y292, hy292⟩ : ∃ y_ : List Int, y_ = (x291001_4 ++ [(rd_T48 x6_2 x12_4).f0]) := ⟨_, rfl⟩
               replace H : (if x11_4.length < 2513169434916 then (palinoderef16_Pick.l2 k4 x5_2 x6_2 (x11_4 ++ [(⟨(rd_T48 x6_2 x12_4).f0, (rd_T48 x6_2 x12_4).f1, (rd_T48 x6_2 x12_4).f2, (rd_T48 x6_2 x12_4).f3, (rd_T48 x6_2 x12_4).f4⟩ : S48)]) (wrap64 (x12_4 + 1)) l0_0 l0_1 a0_2 x5_2 y292 true) else (none)) = some (r1, r2, r3, r4, r5) := by first | (rw [hy292]; with_reducible exact H) | (have H2_ := (Option.bind_some _ _).symm.trans H; rw [hy292]; with_reducible exact H2_) | (have H2_ := (Option.bind_some _ _).symm.trans H; with_reducible exact H2_) | with_reducible exact H | (rw [hy292]; exact H) | exact H
               have Ny292 := Aside0.mk hy292
               clear hy292
               by_cases c41 : x11_4.length < 2513169434916
               ·rw [if_pos c41] at H
                have LMc41 := Aside0.mk c41
                clear c41
                obtain ⟨y296, hy296⟩ : ∃ y_ : List (S48), y_ = (x11_4 ++ [(⟨(rd_T48 x6_2 x12_4).f0, (rd_T48 x6_2 x12_4).f1, (rd_T48 x6_2 x12_4).f2, (rd_T48 x6_2 x12_4).f3, (rd_T48 x6_2 x12_4).f4⟩ : S48)]) := ⟨_, rfl⟩
                replace H : (palinoderef16_Pick.l2 k4 x5_2 x6_2 y296 (wrap64 (x12_4 + 1)) l0_0 l0_1 a0_2 x5_2 y292 true) = some (r1, r2, r3, r4, r5) := by first | (rw [hy296]; with_reducible exact H) | (have H2_ := (Option.bind_some _ _).symm.trans H; rw [hy296]; with_reducible exact H2_) | (have H2_ := (Option.bind_some _ _).symm.trans H; with_reducible exact H2_) | with_reducible exact H | (rw [hy296]; exact H) | exact H
                have Ny296 := Aside0.mk hy296
                clear hy296
                have H' := Aside0.mk H
                clear H
                obtain ⟨Ao42, co42, eo42⟩ := Kd.R_slice HO_6.out
                subst eo42
                try go_wp2
                have n0_ := Aside0.mk (Kd.R_drew HO_6.out)
                have n1_ := Aside0.mk (Kd.R_drew HO_11.out)
                have n2_ := Aside0.mk (Kd.R_drew HO_291001.out)
                have n3_ := Aside0.mk (bdD BK276.out)
                have n4_ := Aside0.mk (bdD BK277.out)
                have n5_ := Aside0.mk (bdD BK290.out)
                have n6_ := Aside0.mk (blD HB.out)
                clear HO_6
                clear HO_11
                clear HO_291001
                clear BK276
                clear BK277
                clear BK290
                clear HB
                have HO_6 := n0_
                have HO_11 := n1_
                have HO_291001 := n2_
                have BK276 := n3_
                have BK277 := n4_
                have BK290 := n5_
                have HB := n6_
                clear n0_ n1_ n2_ n3_ n4_ n5_ n6_
                have p291 : 0 ≤ (x12_4 : Int) := of_decide_eq_true (by first | (with_reducible assumption) | assumption)
                have q291 : x12_4 < (x6_2.length : Int) := of_decide_eq_true (by first | (with_reducible assumption) | assumption)
                obtain ⟨ad291, e291, hx291_0, hx291_1, hx291_2, hx291_3, hx291_4⟩ := at_T48 (Kd.R_reads' HO_6.out).2.2 x12_4 p291 q291
                cases e291
                replace p291 := eq_true p291
                replace q291 := eq_true q291
                refine start_ (n := 11) (S := fun w' => w'.cell? ⟨gb290, 0, none⟩ = some (.int .i64 x5_2) ∧ w'.cell? ⟨gb290, 1, none⟩ = some (u291001) ∧ w'.cell? ⟨gb290, 2, none⟩ = some (.slice none 0 0) ∧ w'.cell? ⟨gb290, 3, none⟩ = some (.bool true) ∧ w'.cell? (ad291.add ((x12_4).toNat * 5)) = some (.int .i64 ((rd_T48 x6_2 x12_4).f0)) ∧ w'.cell? ⟨(ad291.add ((x12_4).toNat * 5)).block, (ad291.add ((x12_4).toNat * 5)).off + 1, none⟩ = some (.int .i64 ((rd_T48 x6_2 x12_4).f1)) ∧ w'.cell? ⟨(ad291.add ((x12_4).toNat * 5)).block, (ad291.add ((x12_4).toNat * 5)).off + 2, none⟩ = some (.string ((rd_T48 x6_2 x12_4).f2)) ∧ w'.cell? ⟨(ad291.add ((x12_4).toNat * 5)).block, (ad291.add ((x12_4).toNat * 5)).off + 3, none⟩ = some (.string ((rd_T48 x6_2 x12_4).f3)) ∧ w'.cell? ⟨(ad291.add ((x12_4).toNat * 5)).block, (ad291.add ((x12_4).toNat * 5)).off + 4, none⟩ = some (.int .i64 ((rd_T48 x6_2 x12_4).f4))) (ds := [8, 10]) #[false, false, false, false, false, false, false, false, false, false, false] (by kernel_rfl) rfl rfl ⟨(bcl BK290.out 0).trans rfl, (bcl BK290.out 1).trans rfl, (bcl BK290.out 2).trans rfl, (bcl BK290.out 3).trans rfl, hx291_0, hx291_1, hx291_2, hx291_3, hx291_4⟩ (fun hHeld => ?_); refine with_tabW palinoderef16_Pick.tab27 palinoderef16_Pick.bits27 (fun HT_ HW_ => ?_)
                generalize wr.drew = w43 at HO_6 HO_11 HO_291001 BK276 BK277 BK290 HB hx291_0 hx291_1 hx291_2 hx291_3 hx291_4 hHeld ⊢
                refine pure_ (i := 0) (N := some 72) (v := ?_) (a' := ?_) #[true, false, false, false, false, false, false, false, false, false, false] rfl rfl (any_of HT_.out (by kernel_rfl)) (fun _ _ _ h => h) (Or.inl ⟨by rfl, ?_⟩) ?_ ?_
                rotate_left
                ·intro w'
                 go_simp
                 with_reducible rfl
                rotate_left
                ·simp only [Act.put, List.setIfInBounds_toArray, List.set_cons_zero, List.set_cons_succ, i64_w, i32_w]
                 rfl
                refine pure_ (i := 2) (N := some 74) (v := ?_) (a' := ?_) #[true, false, true, false, false, false, false, false, false, false, false] rfl rfl (any_of HT_.out (by kernel_rfl)) (fun _ _ _ h => h) (Or.inl ⟨by rfl, ?_⟩) ?_ ?_
                rotate_left
                ·intro w'
                 go_simp
                 with_reducible rfl
                rotate_left
                ·simp only [Act.put, List.setIfInBounds_toArray, List.set_cons_zero, List.set_cons_succ, i64_w, i32_w]
                 rfl
                refine pure_ (i := 3) (N := some 75) (v := ?_) (a' := ?_) #[true, false, true, true, false, false, false, false, false, false, false] rfl rfl (any_of HT_.out (by kernel_rfl)) (fun _ _ _ h => h) (Or.inl ⟨by rfl, ?_⟩) ?_ ?_
                rotate_left
                ·intro w'
                 go_simp
                 with_reducible rfl
                rotate_left
                ·simp only [Act.put, List.setIfInBounds_toArray, List.set_cons_zero, List.set_cons_succ, i64_w, i32_w]
                 rfl
                refine pure_ (i := 4) (N := some 76) (v := ?_) (a' := ?_) #[true, false, true, true, true, false, false, false, false, false, false] rfl rfl (any_of HT_.out (by kernel_rfl)) (fun _ _ _ h => h) (Or.inl ⟨by rfl, ?_⟩) ?_ ?_
                rotate_left
                ·intro w'
                 go_simp
                 with_reducible rfl
                rotate_left
                ·simp only [Act.put, List.setIfInBounds_toArray, List.set_cons_zero, List.set_cons_succ, i64_w, i32_w]
                 rfl
                refine pure_ (i := 5) (N := some 77) (v := ?_) (a' := ?_) #[true, false, true, true, true, true, false, false, false, false, false] rfl rfl (any_of HT_.out (by kernel_rfl)) (fun _ _ _ h => h) (Or.inl ⟨by rfl, ?_⟩) ?_ ?_
                rotate_left
                ·intro w'
                 go_simp
                 with_reducible rfl
                rotate_left
                ·simp only [Act.put, List.setIfInBounds_toArray, List.set_cons_zero, List.set_cons_succ, i64_w, i32_w]
                 rfl
                refine take_ (i := 1) (N := some 73) (v := ?_) (a' := ?_) #[true, true, true, true, true, true, false, false, false, false, false] rfl rfl (take_ofW HT_.out HW_.out (by kernel_rfl)) (fun _ _ _ h => h) (Or.inl ⟨by rfl, ?_⟩) hHeld ?_ ?_
                rotate_left
                ·rintro w' ⟨s0, s1, s2, s3, s4, s5, s6, s7, s8⟩
                 go_simp
                 with_reducible rfl
                rotate_left
                ·simp only [Act.put, List.setIfInBounds_toArray, List.set_cons_zero, List.set_cons_succ, i64_w, i32_w]
                 rfl
                refine take_ (i := 6) (N := some 78) (v := ?_) (a' := ?_) #[true, true, true, true, true, true, true, false, false, false, false] rfl rfl (take_ofW HT_.out HW_.out (by kernel_rfl)) (fun _ _ _ h => h) (Or.inl ⟨by rfl, ?_⟩) hHeld ?_ ?_
                rotate_left
                ·rintro w' ⟨s0, s1, s2, s3, s4, s5, s6, s7, s8⟩
                 go_simp
                 with_reducible rfl
                rotate_left
                ·simp only [Act.put, List.setIfInBounds_toArray, List.set_cons_zero, List.set_cons_succ, i64_w, i32_w]
                 rfl
                refine one_ (i := 7) (N := some 79) #[true, true, true, true, true, true, true, true, false, false, false] rfl rfl (one_of HT_.out (by kernel_rfl)) (by decide) (fun K hK => ?_)
                refine value_ (w1 := ?_) (v := ?_) (by rfl) rfl ?_ ?_
                rotate_left 2
                ·go_simp
                 constructor
                 ·rfl
                 ·rfl
                refine hK.out _ _ ⟨(bcl (bdA BK290.out _) 0).trans rfl, (bcl (bdA BK290.out _) 1).trans rfl, (bcl (bdA BK290.out _) 2).trans rfl, (bcl (bdA BK290.out _) 3).trans rfl, (World.cell?_alloc_lt _ _ _ (World.block_lt_of_cell? _ _ (hHeld.2.2.2.2.1))).trans (hHeld.2.2.2.2.1), (World.cell?_alloc_lt _ _ _ (World.block_lt_of_cell? _ _ (hHeld.2.2.2.2.2.1))).trans (hHeld.2.2.2.2.2.1), (World.cell?_alloc_lt _ _ _ (World.block_lt_of_cell? _ _ (hHeld.2.2.2.2.2.2.1))).trans (hHeld.2.2.2.2.2.2.1), (World.cell?_alloc_lt _ _ _ (World.block_lt_of_cell? _ _ (hHeld.2.2.2.2.2.2.2.1))).trans (hHeld.2.2.2.2.2.2.2.1), (World.cell?_alloc_lt _ _ _ (World.block_lt_of_cell? _ _ (hHeld.2.2.2.2.2.2.2.2))).trans (hHeld.2.2.2.2.2.2.2.2)⟩ (fun hHeld => ?_)
                clear hK K
                refine norm_ (a' := ?_) ?_ ?_
                rotate_left
                ·show Act.put _ (some 79) _ = _
                 simp only [Act.put, List.setIfInBounds_toArray, List.set_cons_zero, List.set_cons_succ, i64_w, i32_w]
                 rfl
                refine last_ (i := 8) (N := some 80) #[true, true, true, true, true, true, true, true, true, false, false] rfl rfl (one_of HT_.out (by kernel_rfl)) (by decide) (fun K hK => ?_)
                refine Kd.R_append_step (Kd.int .i64) (w0 := w) w.heap.size (by rfl) (.tmp 73) (.tmp 79) 23 3 (.int .i64 0) 8 rfl Try.underlying23 info3 rfl (by decide) (by omega) u291001 x291001_4 ((rd_T48 x6_2 x12_4).f0) [.int .i64 ((rd_T48 x6_2 x12_4).f0)] (fun _ => True) (fun _ => False) rfl rfl ?aP (fun _ hk => hk.elim) ?aF ?aO ?aB ?aS ?aL ?_
                (case aP => exact rfl)
                (case aB => exact (by repeat (first | (with_reducible first | exact HB.out | apply blA | apply blN | apply blD | refine blS ?_ GE276.out | refine blS ?_ GE277.out | refine blS ?_ GE290.out) | exact HB.out)))
                (case aF => exact (fun _ _ => trivial))
                (case aO => exact (by (with_reducible repeat (first | apply Kd.R_alloc | apply Kd.R_drewN | apply Kd.R_drew)); exact HO_291001.out))
                (case aS => exact (blz (by repeat (first | (with_reducible first | exact HB.out | apply blA | apply blN | apply blD | refine blS ?_ GE276.out | refine blS ?_ GE277.out | refine blS ?_ GE290.out) | exact HB.out))))
                (case aL => have := LMc40.out; omega)
                intro v293 w44 ho hb hg hat
                rw [← Ny292.out] at ho
                have n0_ := Aside0.mk (Kd.R_over' (by (with_reducible repeat (first | apply Kd.R_alloc | apply Kd.R_drewN | apply Kd.R_drew)); exact HO_6.out) (Kd.R_typed (by (with_reducible repeat (first | apply Kd.R_alloc | apply Kd.R_drewN | apply Kd.R_drew)); exact HO_291001.out)) (by decide) hg)
                have n1_ := Aside0.mk (Kd.R_over' (by (with_reducible repeat (first | apply Kd.R_alloc | apply Kd.R_drewN | apply Kd.R_drew)); exact HO_11.out) (Kd.R_typed (by (with_reducible repeat (first | apply Kd.R_alloc | apply Kd.R_drewN | apply Kd.R_drew)); exact HO_291001.out)) (by decide) hg)
                have n2_ := Aside0.mk (blk_grown (g := gb276) (o := .cells #[.slice A0_0 l0_0.length c0_0, .slice A0_1 l0_1.length c0_1, .int .i64 a0_2] 25 (0, 0)) (by (with_reducible repeat (first | refine bdN ?_ _ | refine bdD ?_ | refine bdA ?_ _)); exact BK276.out) hg (Kd.R_ne HO_291001.out BK276.out (by decide)))
                have n3_ := Aside0.mk (blk_grown (g := gb277) (o := .cells #[.int .i64 0, .slice none 0 0, .slice none 0 0, .bool false] 28 (0, 0)) (by (with_reducible repeat (first | refine bdN ?_ _ | refine bdD ?_ | refine bdA ?_ _)); exact BK277.out) hg (Kd.R_ne HO_291001.out BK277.out (by decide)))
                have n4_ := Aside0.mk (blk_grown (g := gb290) (o := .cells #[.int .i64 x5_2, u291001, .slice none 0 0, .bool true] 28 (0, 0)) (by (with_reducible repeat (first | refine bdN ?_ _ | refine bdD ?_ | refine bdA ?_ _)); exact BK290.out) hg (Kd.R_ne HO_291001.out BK290.out (by decide)))
                have n5_ := Aside0.mk (hb)
                have n6_ := Aside0.mk (ho)
                clear HO_6
                clear HO_11
                clear BK276
                clear BK277
                clear BK290
                clear HB
                clear HO_291001
                have HO_6 := n0_
                have HO_11 := n1_
                have BK276 := n2_
                have BK277 := n3_
                have BK290 := n4_
                have HB := n5_
                have HO294 := n6_
                clear n0_ n1_ n2_ n3_ n4_ n5_ n6_
                clear ho hb hg hat
                obtain ⟨Ao45, co45, eo45⟩ := Kd.R_slice HO294.out
                (first | subst eo45 | (injection eo45 with f1_ f2_ f3_; have f4_ := f1_.symm; have f5_ := f3_.symm; clear f1_ f2_ f3_; subst f4_; subst f5_))
                refine hK.out _ _ ?_
                clear hK K
                refine norm_ (a' := ?_) ?_ ?_
                rotate_left
                ·show Act.put _ (some 80) _ = _
                 simp only [Act.put, List.setIfInBounds_toArray, List.set_cons_zero, List.set_cons_succ, i64_w, i32_w]
                 rfl
                refine pure_ (i := 9) (N := some 81) (v := ?_) (a' := ?_) #[true, true, true, true, true, true, true, true, true, true, false] rfl rfl (any_of HT_.out (by kernel_rfl)) (fun _ _ _ h => h) (Or.inl ⟨by rfl, ?_⟩) ?_ ?_
                rotate_left
                ·intro w'
                 go_simp
                 with_reducible rfl
                rotate_left
                ·simp only [Act.put, List.setIfInBounds_toArray, List.set_cons_zero, List.set_cons_succ, i64_w, i32_w]
                 rfl
                refine last_ (i := 10) (N := none) #[true, true, true, true, true, true, true, true, true, true, true] rfl rfl (one_of HT_.out (by kernel_rfl)) (by decide) (fun K hK => ?_)
                have hs46 : w44.cell? ⟨gb290, 1, none⟩ = some (u291001) := (bcl BK290.out 1).trans rfl
                have hfs46 := bfz BK290.out 1
                have hns46_0 := NB276_290.out
                have hns46_1 := NB277_290.out
                have hms46_0 := NB290_276.out
                have hms46_1 := NB290_277.out
                refine skip_ (w1 := ?_) (by rfl) rfl ?_ ?_
                rotate_left
                ·go_simp
                 rfl
                refine hK.out _ _ ?_
                clear hK K
                refine done_ (done_of HT_.out (by kernel_rfl)) ?_
                have p295 : 0 ≤ (x12_4 : Int) := of_decide_eq_true (by first | (with_reducible assumption) | assumption)
                have q295 : x12_4 < (x6_2.length : Int) := of_decide_eq_true (by first | (with_reducible assumption) | assumption)
                obtain ⟨ad295, e295, hx295_0, hx295_1, hx295_2, hx295_3, hx295_4⟩ := at_T48 (Kd.R_reads' HO_6.out).2.2 x12_4 p295 q295
                obtain rfl : ad291 = ad295 := (by injection e295)
                have hn295_0 : ad291.block ≠ gb290 := Kd.own_blk (Kd.R_ne HO_6.out BK290.out (by decide))
                replace hx295_0 := (cell_far (p := ⟨gb290, 1, none⟩) (by first | (rw [add_block]; exact hn295_0) | (show (Addr.add _ _).block ≠ _; rw [add_block]; exact hn295_0) | exact hn295_0) (.slice Ao45 y292.length co45)).trans hx295_0
                replace hx295_1 := (cell_far (p := ⟨gb290, 1, none⟩) (by first | (rw [add_block]; exact hn295_0) | (show (Addr.add _ _).block ≠ _; rw [add_block]; exact hn295_0) | exact hn295_0) (.slice Ao45 y292.length co45)).trans hx295_1
                replace hx295_2 := (cell_far (p := ⟨gb290, 1, none⟩) (by first | (rw [add_block]; exact hn295_0) | (show (Addr.add _ _).block ≠ _; rw [add_block]; exact hn295_0) | exact hn295_0) (.slice Ao45 y292.length co45)).trans hx295_2
                replace hx295_3 := (cell_far (p := ⟨gb290, 1, none⟩) (by first | (rw [add_block]; exact hn295_0) | (show (Addr.add _ _).block ≠ _; rw [add_block]; exact hn295_0) | exact hn295_0) (.slice Ao45 y292.length co45)).trans hx295_3
                replace hx295_4 := (cell_far (p := ⟨gb290, 1, none⟩) (by first | (rw [add_block]; exact hn295_0) | (show (Addr.add _ _).block ≠ _; rw [add_block]; exact hn295_0) | exact hn295_0) (.slice Ao45 y292.length co45)).trans hx295_4
                clear hn295_0
                replace p295 := eq_true p295
                replace q295 := eq_true q295
                try go_wp2_with (first | ((with_reducible refine gate_builtin (b := .append) (xs := #[.tmp 82, .tmp 87]) rfl ?_); at_builtin; refine Kd.R_append k48 (w0 := w) w.heap.size rfl (.tmp 82) (.tmp 87) 22 48 (.agg #[(.int .i64 0), (.int .i64 0), (.string ⟨#[]⟩), (.string ⟨#[]⟩), (.int .i64 0)]) 56 rfl Try.underlying22 info48 rfl (by decide) (by omega) u11 x11_4 (⟨(rd_T48 x6_2 x12_4).f0, (rd_T48 x6_2 x12_4).f1, (rd_T48 x6_2 x12_4).f2, (rd_T48 x6_2 x12_4).f3, (rd_T48 x6_2 x12_4).f4⟩ : S48) [.int .i64 ((rd_T48 x6_2 x12_4).f0), .int .i64 ((rd_T48 x6_2 x12_4).f1), .string ((rd_T48 x6_2 x12_4).f2), .string ((rd_T48 x6_2 x12_4).f3), .int .i64 ((rd_T48 x6_2 x12_4).f4)] (fun k_ => some k_ ≠ (.slice (some ad291) x6_2.length co42 : Value).ownBlock) (fun _ => False) rfl (by first | (go_simp; done) | (go_simp; rfl)) ?aP (fun _ hk => hk.elim) ?aF ?aO ?aB ?aS ?aL ?_; (case aP => exact k48_mkM _ _ _ (⟨(rd_T48 x6_2 x12_4).f0, (rd_T48 x6_2 x12_4).f1, (rd_T48 x6_2 x12_4).f2, (rd_T48 x6_2 x12_4).f3, (rd_T48 x6_2 x12_4).f4⟩ : S48)); (case aB => exact (by repeat (first | (with_reducible first | exact HB.out | apply blA | apply blN | apply blD | refine blS ?_ GE276.out | refine blS ?_ GE277.out | refine blS ?_ GE290.out) | exact HB.out))); (case aF => exact (fun k_ hk => Kd.fresh' (Kd.R_lt (by (with_reducible repeat (first | apply Kd.R_alloc | apply Kd.R_drewN | apply Kd.R_drew)); exact (Kd.R_mono (Kd.R_far (p := ⟨gb290, 1, none⟩) (Kd.R_types HO_6.out BK290.out (by decide)) (fun _ hk => hk.2) (.slice Ao45 y292.length co45)) (fun _ h_ => h_.1)))) k_ hk)); (case aO => exact (by (with_reducible repeat (first | apply Kd.R_alloc | apply Kd.R_drewN | apply Kd.R_drew)); exact Kd.R_mono (Kd.R_far (p := ⟨gb290, 1, none⟩) (Kd.R_types HO_11.out BK290.out (by decide)) (fun _ hk => hk.2) (.slice Ao45 y292.length co45)) (fun _ hk => hk.1))); (case aS => exact (blz (by repeat (first | (with_reducible first | exact HB.out | apply blA | apply blN | apply blD | refine blS ?_ GE276.out | refine blS ?_ GE277.out | refine blS ?_ GE290.out) | exact HB.out)))); (case aL => have := LMc41.out; omega); intro v297 w47 ho hb hg hat; rw [← Ny296.out] at ho; have n0_ := Aside0.mk (Kd.R_after (ok := (fun _ => True)) (by (with_reducible repeat (first | apply Kd.R_alloc | apply Kd.R_drewN | apply Kd.R_drew)); exact Kd.R_mono (Kd.R_far (p := ⟨gb290, 1, none⟩) (Kd.R_types HO_6.out BK290.out (by decide)) (fun _ hk => hk.2) (.slice Ao45 y292.length co45)) (fun _ hk => ⟨trivial, hk.1⟩)) hg hat); have n1_ := Aside0.mk (blk_grown (g := gb276) (o := .cells #[.slice A0_0 l0_0.length c0_0, .slice A0_1 l0_1.length c0_1, .int .i64 a0_2] 25 (0, 0)) (by (with_reducible repeat (first | refine bdN ?_ _ | refine bdD ?_ | refine bdA ?_ _)); refine blk_far ?_ NB276_290.out _; (with_reducible repeat (first | refine bdN ?_ _ | refine bdD ?_ | refine bdA ?_ _)); exact BK276.out) hg (Kd.R_ne HO_11.out BK276.out (by decide))); have n2_ := Aside0.mk (blk_grown (g := gb277) (o := .cells #[.int .i64 0, .slice none 0 0, .slice none 0 0, .bool false] 28 (0, 0)) (by (with_reducible repeat (first | refine bdN ?_ _ | refine bdD ?_ | refine bdA ?_ _)); refine blk_far ?_ NB277_290.out _; (with_reducible repeat (first | refine bdN ?_ _ | refine bdD ?_ | refine bdA ?_ _)); exact BK277.out) hg (Kd.R_ne HO_11.out BK277.out (by decide))); have n3_ := Aside0.mk (blk_grown (g := gb290) (o := .cells #[.int .i64 x5_2, .slice Ao45 y292.length co45, .slice none 0 0, .bool true] 28 (0, 0)) (by (with_reducible repeat (first | refine bdN ?_ _ | refine bdD ?_ | refine bdA ?_ _)); refine blk_put (cs := #[.int .i64 x5_2, u291001, .slice none 0 0, .bool true]) ?_ 1 _ rfl; (with_reducible repeat (first | refine bdN ?_ _ | refine bdD ?_ | refine bdA ?_ _)); exact BK290.out) hg (Kd.R_ne HO_11.out BK290.out (by decide))); have n4_ := Aside0.mk (Kd.R_over' (by (with_reducible repeat (first | apply Kd.R_alloc | apply Kd.R_drewN | apply Kd.R_drew)); exact (Kd.R_mono (Kd.R_far (p := ⟨gb290, 1, none⟩) (Kd.R_types HO294.out BK290.out (by decide)) (fun _ hk => hk.2) (.slice Ao45 y292.length co45)) (fun _ h_ => h_.1))) (Kd.R_typed (by (with_reducible repeat (first | apply Kd.R_alloc | apply Kd.R_drewN | apply Kd.R_drew)); exact (Kd.R_mono (Kd.R_far (p := ⟨gb290, 1, none⟩) (Kd.R_types HO_11.out BK290.out (by decide)) (fun _ hk => hk.2) (.slice Ao45 y292.length co45)) (fun _ h_ => h_.1)))) (by decide) hg); have n5_ := Aside0.mk (hb); have n6_ := Aside0.mk (ho); clear HO_6; clear BK276; clear BK277; clear BK290; clear HO294; clear HB; clear HO_11; have HO_6 := n0_; have BK276 := n1_; have BK277 := n2_; have BK290 := n3_; have HO294 := n4_; have HB := n5_; have HO298 := n6_; clear n0_ n1_ n2_ n3_ n4_ n5_ n6_; clear ho hb hg hat))
                go_roundg k4
                case measure => have := HJ4.out; have := HK2.out; have := HJ14.out; have := HK4.out; omega
                case rel => exact ⟨(y296), (wrap64 (x12_4 + 1)), (y292), (.slice Ao45 y292.length co45), (by first | rfl | (simp; done) | (simp [*]; done)), H', ⟨by have := HJ4.out; have := HK2.out; have := HJ14.out; have := HK4.out; omega⟩, ⟨by (with_reducible repeat (first | apply Kd.R_alloc | apply Kd.R_drewN | apply Kd.R_drew)); exact Kd.R_mono HO_6.out (fun _ hk => hk.2)⟩, ⟨by (with_reducible repeat (first | apply Kd.R_alloc | apply Kd.R_drewN | apply Kd.R_drew)); exact HO298.out⟩, ⟨by (with_reducible repeat (first | apply Kd.R_alloc | apply Kd.R_drewN | apply Kd.R_drew)); exact HO294.out⟩, ⟨by (with_reducible repeat (first | refine bdN ?_ _ | refine bdD ?_ | refine bdA ?_ _)); exact BK276.out⟩, ⟨by (with_reducible repeat (first | refine bdN ?_ _ | refine bdD ?_ | refine bdA ?_ _)); exact BK277.out⟩, ⟨by (with_reducible repeat (first | refine bdN ?_ _ | refine bdD ?_ | refine bdA ?_ _)); exact BK290.out⟩, ⟨by repeat (first | (with_reducible first | exact HB.out | apply blA | apply blN | apply blD | refine blS ?_ GE276.out | refine blS ?_ GE277.out | refine blS ?_ GE290.out) | exact HB.out)⟩⟩
               ·rw [if_neg c41] at H
                exact absurd H (by simp)
              ·rw [if_neg c40] at H
               exact absurd H (by simp)
             ·rw [if_neg c39] at H
              exact absurd H (by simp)
            ·rw [if_neg c38] at H
             have c38b0 : decide (x12_4 < (x6_2.length : Int)) = false := decide_eq_false c38
             clear c38
             replace H := Option.bind_eq_some_iff.mp H
             obtain ⟨t299, A480, H⟩ := H
             replace H : (palinoderef16_Pick.l3 k4 x5_2 x6_2 x11_4 t299 0 l0_0 l0_1 a0_2 x5_2 x291001_4 ([] : List Int) true) = some (r1, r2, r3, r4, r5) := H
             have A48 := Aside0.mk A480
             clear A480
             have H' := Aside0.mk H
             clear H
             obtain ⟨Ao49, co49, eo49⟩ := Kd.R_slice HO_6.out
             subst eo49
             have hnb50 := NB276_277.out
             have hnc50 := NB277_276.out
             have hnb51 := NB276_290.out
             have hnc51 := NB290_276.out
             have hcz52_0 : wr.cell? ⟨gb276, 0, none⟩ = some (.slice A0_0 l0_0.length c0_0) := (bcl BK276.out 0).trans rfl
             have hcz52_1 : wr.cell? ⟨gb276, 1, none⟩ = some (.slice A0_1 l0_1.length c0_1) := (bcl BK276.out 1).trans rfl
             have hcz52_2 : wr.cell? ⟨gb276, 2, none⟩ = some (.int .i64 a0_2) := (bcl BK276.out 2).trans rfl
             have hfz52_0 := bfz BK276.out 0
             have hfz52_1 := bfz BK276.out 1
             have hfz52_2 := bfz BK276.out 2
             go_wp2_with (first | ((with_reducible refine gate_callee (f := 22) rfl ?_); refine goesL_ (some 92) rfl rfl Try.func22 (by kernel_rfl) rfl #[.agg #[.slice A0_0 l0_0.length c0_0, .slice A0_1 l0_1.length c0_1, .int .i64 a0_2], .int .i64 (wrap64 (x5_2 + 1))] rfl (by (try simp only [List.map_toArray, List.map_cons, List.map_nil]); first | done | rfl | (simp only [List.length_drop, List.length_take]; rfl)) ?_; (with_reducible refine (palinoderef14_Level.calls k4 _ _ l0_0 _ _ l0_1 a0_2 (wrap64 (x5_2 + 1)) t299 _ ?side1 ?side2 ?side3 ?side4 A48.out).mono ?_); (case side1 => repeat (first | exact (Kd.C_below HR0_0.out HB.out) | (with_reducible refine Kd.C_alloc ?_ _) | (with_reducible refine Kd.C_drewN ?_ _) | (with_reducible refine Kd.C_drew ?_))); (case side2 => exact HC0_0.out); (case side3 => repeat (first | exact (Kd.C_below HR0_1.out HB.out) | (with_reducible refine Kd.C_alloc ?_ _) | (with_reducible refine Kd.C_drewN ?_ _) | (with_reducible refine Kd.C_drew ?_))); (case side4 => exact HC0_1.out); rintro e w53 ⟨v300, rfl, ho0, hb⟩; refine ⟨_, rfl, ?_⟩; have n0_ := Aside0.mk (Kd.R_elder' (by (with_reducible repeat (first | apply Kd.R_alloc | apply Kd.R_drewN | apply Kd.R_drew)); exact HO_6.out) (Kd.R_base ho0) hb); have n1_ := Aside0.mk (Kd.R_elder' (by (with_reducible repeat (first | apply Kd.R_alloc | apply Kd.R_drewN | apply Kd.R_drew)); exact HO_11.out) (Kd.R_base ho0) hb); have n2_ := Aside0.mk (Kd.R_below (by (with_reducible repeat (first | apply Kd.R_alloc | apply Kd.R_drewN | apply Kd.R_drew)); exact HO_291001.out) hb); have n3_ := Aside0.mk (Kd.R_lower (Kd.R_new' (Kd.R_new' ho0 (Kd.R_lt (by (with_reducible repeat (first | apply Kd.R_alloc | apply Kd.R_drewN | apply Kd.R_drew)); exact HO_6.out))) (Kd.R_lt (by (with_reducible repeat (first | apply Kd.R_alloc | apply Kd.R_drewN | apply Kd.R_drew)); exact HO_11.out))) (blz (by repeat (first | (with_reducible first | exact HB.out | apply blA | apply blN | apply blD | refine blS ?_ GE276.out | refine blS ?_ GE277.out | refine blS ?_ GE290.out) | exact HB.out)))); have n4_ := Aside0.mk (bbl (g := gb276) (o := .cells #[.slice A0_0 l0_0.length c0_0, .slice A0_1 l0_1.length c0_1, .int .i64 a0_2] 25 (0, 0)) (by (with_reducible repeat (first | refine bdN ?_ _ | refine bdD ?_ | refine bdA ?_ _)); exact BK276.out) hb); have n5_ := Aside0.mk (bbl (g := gb277) (o := .cells #[.int .i64 0, .slice none 0 0, .slice none 0 0, .bool false] 28 (0, 0)) (by (with_reducible repeat (first | refine bdN ?_ _ | refine bdD ?_ | refine bdA ?_ _)); exact BK277.out) hb); have n6_ := Aside0.mk (bbl (g := gb290) (o := .cells #[.int .i64 x5_2, u291001, .slice none 0 0, .bool true] 28 (0, 0)) (by (with_reducible repeat (first | refine bdN ?_ _ | refine bdD ?_ | refine bdA ?_ _)); exact BK290.out) hb); have n7_ := Aside0.mk (bls (by repeat (first | (with_reducible first | exact HB.out | apply blA | apply blN | apply blD | refine blS ?_ GE276.out | refine blS ?_ GE277.out | refine blS ?_ GE290.out) | exact HB.out)) hb); clear HO_6; clear HO_11; clear HO_291001; clear BK276; clear BK277; clear BK290; clear HB; have HO_6 := n0_; have HO_11 := n1_; have HO_291001 := n2_; have HO301 := n3_; have BK276 := n4_; have BK277 := n5_; have BK290 := n6_; have HB := n7_; clear n0_ n1_ n2_ n3_ n4_ n5_ n6_ n7_; (try clear hb); (try clear hb2); (try clear hk); (try clear hi); (try clear ho0)))
             go_loopg [11, 14] k4 (fun kq v11 v14 w' => ∃ (x11_5 : List (S48)) (x14_5 : Int) (x291002_5 : List Int) (u291002 : Value), v14 = .int .i64 x14_5 ∧ Aside0 (palinoderef16_Pick.l3 kq x5_2 x6_2 x11_5 t299 x14_5 l0_0 l0_1 a0_2 x5_2 x291001_4 x291002_5 true = some (r1, r2, r3, r4, r5)) ∧ Aside0 (kq ≤ k4) ∧ Aside0 (Kd.R k48 48 w' w.heap.size (fun k_ => some k_ ≠ (v11 : Value).ownBlock ∧ some k_ ≠ (v300 : Value).ownBlock) (.slice Ao49 x6_2.length co49) x6_2) ∧ Aside0 (Kd.R k48 48 w' w.heap.size (fun k_ => some k_ ≠ ((.slice Ao49 x6_2.length co49) : Value).ownBlock ∧ some k_ ≠ (v300 : Value).ownBlock) v11 x11_5) ∧ Aside0 (Kd.R k48 48 w' w.heap.size (fun k_ => some k_ ≠ ((.slice Ao49 x6_2.length co49) : Value).ownBlock ∧ some k_ ≠ (v11 : Value).ownBlock) v300 t299) ∧ Aside0 (Kd.R (Kd.int .i64) 3 w' w.heap.size (fun k_ => some k_ ≠ (u291002 : Value).ownBlock) u291001 x291001_4) ∧ Aside0 (Kd.R (Kd.int .i64) 3 w' w.heap.size (fun k_ => some k_ ≠ (u291001 : Value).ownBlock) u291002 x291002_5) ∧ Aside0 (w'.heap[gb276]? = some (.cells #[(.slice A0_0 l0_0.length c0_0), (.slice A0_1 l0_1.length c0_1), .int .i64 a0_2] 25 (0, 0))) ∧ Aside0 (w'.heap[gb277]? = some (.cells #[.int .i64 0, (.slice none 0 0), (.slice none 0 0), .bool false] 28 (0, 0))) ∧ Aside0 (w'.heap[gb290]? = some (.cells #[.int .i64 x5_2, u291001, u291002, .bool true] 28 (0, 0))) ∧ Aside0 (Below w.heap.size w w'))
             case atStart => exact ⟨(x11_4), (0), (([] : List Int)), (.slice none 0 0), (by first | rfl | (simp; done) | (simp [*]; done)), H', ⟨Nat.le_refl _⟩, ⟨by (with_reducible repeat (first | apply Kd.R_alloc | apply Kd.R_drewN | apply Kd.R_drew)); exact HO_6.out⟩, ⟨by (with_reducible repeat (first | apply Kd.R_alloc | apply Kd.R_drewN | apply Kd.R_drew)); exact HO_11.out⟩, ⟨by (with_reducible repeat (first | apply Kd.R_alloc | apply Kd.R_drewN | apply Kd.R_drew)); exact Kd.R_mono HO301.out (fun _ hk => ⟨hk.1.2, hk.2⟩)⟩, ⟨by (with_reducible repeat (first | apply Kd.R_alloc | apply Kd.R_drewN | apply Kd.R_drew)); exact Kd.R_mono HO_291001.out (fun _ hk => (by simp [Value.ownBlock]))⟩, ⟨by first | exact Kd.R_nil _ _ _ _ _ | exact Kd.N_nil _ _ _ _ _ | exact Kd.V_nil _ _ _ _ _ | exact Kd.Q_nil _ _ _ _ _ | exact Kd.S_nil _ _ _ _ _⟩, ⟨by (with_reducible repeat (first | refine bdN ?_ _ | refine bdD ?_ | refine bdA ?_ _)); exact BK276.out⟩, ⟨by (with_reducible repeat (first | refine bdN ?_ _ | refine bdD ?_ | refine bdA ?_ _)); exact BK277.out⟩, ⟨by (with_reducible repeat (first | refine bdN ?_ _ | refine bdD ?_ | refine bdA ?_ _)); exact BK290.out⟩, ⟨by repeat (first | (with_reducible first | exact HB.out | apply blA | apply blN | apply blD | refine blS ?_ GE276.out | refine blS ?_ GE277.out | refine blS ?_ GE290.out) | exact HB.out)⟩⟩
             case round =>
              clear H'
              try clear c1
              try clear c2
              try clear p2
              try clear q2
              try clear hx2
              try clear c3
              try clear c4
              try clear c5
              try clear p6
              try clear c7
              try clear c8
              try clear c10
              try clear c14
              try clear c14b0
              try clear c14b1
              try clear c16
              try clear c16b0
              try clear c17
              try clear c19
              try clear c21
              try clear c22
              try clear c22b0
              try clear c23
              try clear c23b0
              try clear c26
              try clear c26b0
              try clear c27
              try clear c27b0
              try clear c27b1
              try clear p28
              try clear q28
              try clear hx28
              try clear p29
              try clear q29
              try clear hx29
              try clear c31
              try clear c31b0
              try clear c32
              try clear c35
              try clear c36
              try clear c38
              try clear c38b0
              try clear c39
              try clear c39b0
              try clear c40
              try clear c41
              try clear c50
              try clear c51
              try clear hcz11_0
              try clear hcz11_1
              try clear hcz11_2
              try clear hcz20_0
              try clear hcz20_1
              try clear hcz20_2
              try clear hcz33_0
              try clear hcz33_1
              try clear hcz33_2
              try clear hcz33_3
              try clear hcz37_0
              try clear hcz37_1
              try clear hcz37_2
              try clear hcz37_3
              try clear hcz52_0
              try clear hcz52_1
              try clear hcz52_2
              try clear hcz9_0
              try clear hcz9_1
              try clear hcz9_2
              try clear hfz11_0
              try clear hfz11_1
              try clear hfz11_2
              try clear hfz20_0
              try clear hfz20_1
              try clear hfz20_2
              try clear hfz33_0
              try clear hfz33_1
              try clear hfz33_2
              try clear hfz33_3
              try clear hfz37_0
              try clear hfz37_1
              try clear hfz37_2
              try clear hfz37_3
              try clear hfz52_0
              try clear hfz52_1
              try clear hfz52_2
              try clear hfz9_0
              try clear hfz9_1
              try clear hfz9_2
              try clear hx285_0
              try clear hx285_1
              try clear hx285_2
              try clear hx285_3
              try clear hx285_4
              try clear hx291_0
              try clear hx291_1
              try clear hx291_2
              try clear hx291_3
              try clear hx291_4
              try clear hx295_0
              try clear hx295_1
              try clear hx295_2
              try clear hx295_3
              try clear hx295_4
              try clear p2
              try clear p28
              try clear p285
              try clear p291
              try clear p295
              try clear p6
              try clear q2
              try clear q28
              try clear q285
              try clear q29
              try clear q291
              try clear q295
              obtain ⟨x11_5, x14_5, x291002_5, u291002, rfl, HA, HK5, HO_6, HO_11, HO_13, HO_291001, HO_291002, BK276, BK277, BK290, HB⟩ := hrel
              cases gk with
              | zero => exact absurd HA.out (by simp [palinoderef16_Pick.l3])
              | succ k5 =>
               have H := HA.out
               clear HA
               simp only [palinoderef16_Pick.l3] at H
               by_cases c54 : x14_5 < (t299.length : Int)
               ·rw [if_pos c54] at H
                have c54b0 : decide (x14_5 < (t299.length : Int)) = true := decide_eq_true c54
                clear c54
                by_cases c55 : 0 ≤ x14_5
                ·rw [if_pos c55] at H
                 have c55b0 : decide (0 ≤ x14_5) = true := decide_eq_true c55
                 clear c55
                 replace H := Option.bind_eq_some_iff.mp H
                 obtain ⟨t303, A560, H⟩ := H
                 replace H : (if t303 = true then (if x291002_5.length < 17592186044416 then (if x11_5.length < 2513169434916 then (palinoderef16_Pick.l3 k5 x5_2 x6_2 (x11_5 ++ [(⟨(rd_T48 t299 x14_5).f0, (rd_T48 t299 x14_5).f1, (rd_T48 t299 x14_5).f2, (rd_T48 t299 x14_5).f3, (rd_T48 t299 x14_5).f4⟩ : S48)]) t299 (wrap64 (x14_5 + 1)) l0_0 l0_1 a0_2 x5_2 x291001_4 (x291002_5 ++ [(rd_T48 t299 x14_5).f0]) true) else (none)) else (none)) else (palinoderef16_Pick.l3 k5 x5_2 x6_2 x11_5 t299 (wrap64 (x14_5 + 1)) l0_0 l0_1 a0_2 x5_2 x291001_4 x291002_5 true)) = some (r1, r2, r3, r4, r5) := H
                 have A56 := Aside0.mk A560
                 clear A560
                 by_cases c57 : t303 = true
                 ·subst c57
                  have H1 : (if x291002_5.length < 17592186044416 then (if x11_5.length < 2513169434916 then (palinoderef16_Pick.l3 k5 x5_2 x6_2 (x11_5 ++ [(⟨(rd_T48 t299 x14_5).f0, (rd_T48 t299 x14_5).f1, (rd_T48 t299 x14_5).f2, (rd_T48 t299 x14_5).f3, (rd_T48 t299 x14_5).f4⟩ : S48)]) t299 (wrap64 (x14_5 + 1)) l0_0 l0_1 a0_2 x5_2 x291001_4 (x291002_5 ++ [(rd_T48 t299 x14_5).f0]) true) else (none)) else (none)) = some (r1, r2, r3, r4, r5) := by rw [if_pos rfl] at H; exact H
                  clear H
                  have H := H1
                  clear H1
                  by_cases c58 : x291002_5.length < 17592186044416
                  ·rw [if_pos c58] at H
                   have LMc58 := Aside0.mk c58
                   clear c58
                   obtain ⟨y305, hy305⟩ : ∃ y_ : List Int, y_ = (x291002_5 ++ [(rd_T48 t299 x14_5).f0]) := ⟨_, rfl⟩
                   replace H : (if x11_5.length < 2513169434916 then (palinoderef16_Pick.l3 k5 x5_2 x6_2 (x11_5 ++ [(⟨(rd_T48 t299 x14_5).f0, (rd_T48 t299 x14_5).f1, (rd_T48 t299 x14_5).f2, (rd_T48 t299 x14_5).f3, (rd_T48 t299 x14_5).f4⟩ : S48)]) t299 (wrap64 (x14_5 + 1)) l0_0 l0_1 a0_2 x5_2 x291001_4 y305 true) else (none)) = some (r1, r2, r3, r4, r5) := by first | (rw [hy305]; with_reducible exact H) | (have H2_ := (Option.bind_some _ _).symm.trans H; rw [hy305]; with_reducible exact H2_) | (have H2_ := (Option.bind_some _ _).symm.trans H; with_reducible exact H2_) | with_reducible exact H | (rw [hy305]; exact H) | exact H
                   have Ny305 := Aside0.mk hy305
                   clear hy305
                   by_cases c59 : x11_5.length < 2513169434916
                   ·rw [if_pos c59] at H
                    have LMc59 := Aside0.mk c59
                    clear c59
                    obtain ⟨y309, hy309⟩ : ∃ y_ : List (S48), y_ = (x11_5 ++ [(⟨(rd_T48 t299 x14_5).f0, (rd_T48 t299 x14_5).f1, (rd_T48 t299 x14_5).f2, (rd_T48 t299 x14_5).f3, (rd_T48 t299 x14_5).f4⟩ : S48)]) := ⟨_, rfl⟩
                    replace H : (palinoderef16_Pick.l3 k5 x5_2 x6_2 y309 t299 (wrap64 (x14_5 + 1)) l0_0 l0_1 a0_2 x5_2 x291001_4 y305 true) = some (r1, r2, r3, r4, r5) := by first | (rw [hy309]; with_reducible exact H) | (have H2_ := (Option.bind_some _ _).symm.trans H; rw [hy309]; with_reducible exact H2_) | (have H2_ := (Option.bind_some _ _).symm.trans H; with_reducible exact H2_) | with_reducible exact H | (rw [hy309]; exact H) | exact H
                    have Ny309 := Aside0.mk hy309
                    clear hy309
                    have H' := Aside0.mk H
                    clear H
                    obtain ⟨Ao60, co60, eo60⟩ := Kd.R_slice HO_13.out
                    subst eo60
                    have p302 : 0 ≤ (x14_5 : Int) := of_decide_eq_true (by first | (with_reducible assumption) | assumption)
                    have q302 : x14_5 < (t299.length : Int) := of_decide_eq_true (by first | (with_reducible assumption) | assumption)
                    obtain ⟨ad302, e302, hx302_0, hx302_1, hx302_2, hx302_3, hx302_4⟩ := at_T48 (Kd.R_reads' HO_13.out).2.2 x14_5 p302 q302
                    cases e302
                    replace p302 := eq_true p302
                    replace q302 := eq_true q302
                    try go_wp2_with (first | ((with_reducible refine gate_callee (f := 23) rfl ?_); refine goesL_ (some 104) rfl rfl Try.func23 (by kernel_rfl) rfl #[.agg #[.int .i64 ((rd_T48 t299 x14_5).f0), .int .i64 ((rd_T48 t299 x14_5).f1), .string ((rd_T48 t299 x14_5).f2), .string ((rd_T48 t299 x14_5).f3), .int .i64 ((rd_T48 t299 x14_5).f4)], .slice Ao49 x6_2.length co49] rfl (by (try simp only [List.map_toArray, List.map_cons, List.map_nil]); first | done | rfl | (simp only [List.length_drop, List.length_take]; rfl)) ?_; (with_reducible refine (palinoderef16_meets.calls k5 ((rd_T48 t299 x14_5).f0) ((rd_T48 t299 x14_5).f1) ((rd_T48 t299 x14_5).f2) ((rd_T48 t299 x14_5).f3) ((rd_T48 t299 x14_5).f4) _ _ x6_2 true _ ?side1 ?side2 A56.out).mono ?_); (case side1 => repeat (first | exact (Kd.R_reads' HO_6.out).2.2 | (with_reducible refine Kd.C_alloc ?_ _) | (with_reducible refine Kd.C_drewN ?_ _) | (with_reducible refine Kd.C_drew ?_))); (case side2 => exact (Kd.R_reads' HO_6.out).2.1); rintro e w61 ⟨rfl, hb⟩; refine ⟨_, rfl, ?_⟩; have n0_ := Aside0.mk (Kd.R_below (by (with_reducible repeat (first | apply Kd.R_alloc | apply Kd.R_drewN | apply Kd.R_drew)); exact HO_6.out) hb); have n1_ := Aside0.mk (Kd.R_below (by (with_reducible repeat (first | apply Kd.R_alloc | apply Kd.R_drewN | apply Kd.R_drew)); exact HO_11.out) hb); have n2_ := Aside0.mk (Kd.R_below (by (with_reducible repeat (first | apply Kd.R_alloc | apply Kd.R_drewN | apply Kd.R_drew)); exact HO_13.out) hb); have n3_ := Aside0.mk (Kd.R_below (by (with_reducible repeat (first | apply Kd.R_alloc | apply Kd.R_drewN | apply Kd.R_drew)); exact HO_291001.out) hb); have n4_ := Aside0.mk (Kd.R_below (by (with_reducible repeat (first | apply Kd.R_alloc | apply Kd.R_drewN | apply Kd.R_drew)); exact HO_291002.out) hb); have n5_ := Aside0.mk (bbl (g := gb276) (o := .cells #[.slice A0_0 l0_0.length c0_0, .slice A0_1 l0_1.length c0_1, .int .i64 a0_2] 25 (0, 0)) (by (with_reducible repeat (first | refine bdN ?_ _ | refine bdD ?_ | refine bdA ?_ _)); exact BK276.out) hb); have n6_ := Aside0.mk (bbl (g := gb277) (o := .cells #[.int .i64 0, .slice none 0 0, .slice none 0 0, .bool false] 28 (0, 0)) (by (with_reducible repeat (first | refine bdN ?_ _ | refine bdD ?_ | refine bdA ?_ _)); exact BK277.out) hb); have n7_ := Aside0.mk (bbl (g := gb290) (o := .cells #[.int .i64 x5_2, u291001, u291002, .bool true] 28 (0, 0)) (by (with_reducible repeat (first | refine bdN ?_ _ | refine bdD ?_ | refine bdA ?_ _)); exact BK290.out) hb); have n8_ := Aside0.mk (bls (by repeat (first | (with_reducible first | exact HB.out | apply blA | apply blN | apply blD | refine blS ?_ GE276.out | refine blS ?_ GE277.out | refine blS ?_ GE290.out) | exact HB.out)) hb); clear HO_6; clear HO_11; clear HO_13; clear HO_291001; clear HO_291002; clear BK276; clear BK277; clear BK290; clear HB; have HO_6 := n0_; have HO_11 := n1_; have HO_13 := n2_; have HO_291001 := n3_; have HO_291002 := n4_; have BK276 := n5_; have BK277 := n6_; have BK290 := n7_; have HB := n8_; clear n0_ n1_ n2_ n3_ n4_ n5_ n6_ n7_ n8_; (try clear hb); (try clear hb2); (try clear hk); (try clear hi)))
                    have n0_ := Aside0.mk (Kd.R_drew HO_6.out)
                    have n1_ := Aside0.mk (Kd.R_drew HO_11.out)
                    have n2_ := Aside0.mk (Kd.R_drew HO_13.out)
                    have n3_ := Aside0.mk (Kd.R_drew HO_291001.out)
                    have n4_ := Aside0.mk (Kd.R_drew HO_291002.out)
                    have n5_ := Aside0.mk (bdD BK276.out)
                    have n6_ := Aside0.mk (bdD BK277.out)
                    have n7_ := Aside0.mk (bdD BK290.out)
                    have n8_ := Aside0.mk (blD HB.out)
                    clear HO_6
                    clear HO_11
                    clear HO_13
                    clear HO_291001
                    clear HO_291002
                    clear BK276
                    clear BK277
                    clear BK290
                    clear HB
                    have HO_6 := n0_
                    have HO_11 := n1_
                    have HO_13 := n2_
                    have HO_291001 := n3_
                    have HO_291002 := n4_
                    have BK276 := n5_
                    have BK277 := n6_
                    have BK290 := n7_
                    have HB := n8_
                    clear n0_ n1_ n2_ n3_ n4_ n5_ n6_ n7_ n8_
                    have p304 : 0 ≤ (x14_5 : Int) := of_decide_eq_true (by first | (with_reducible assumption) | assumption)
                    have q304 : x14_5 < (t299.length : Int) := of_decide_eq_true (by first | (with_reducible assumption) | assumption)
                    obtain ⟨ad304, e304, hx304_0, hx304_1, hx304_2, hx304_3, hx304_4⟩ := at_T48 (Kd.R_reads' HO_13.out).2.2 x14_5 p304 q304
                    obtain rfl : ad302 = ad304 := (by injection e304)
                    replace p304 := eq_true p304
                    replace q304 := eq_true q304
                    refine start_ (n := 11) (S := fun w' => w'.cell? ⟨gb290, 0, none⟩ = some (.int .i64 x5_2) ∧ w'.cell? ⟨gb290, 1, none⟩ = some (u291001) ∧ w'.cell? ⟨gb290, 2, none⟩ = some (u291002) ∧ w'.cell? ⟨gb290, 3, none⟩ = some (.bool true) ∧ w'.cell? (ad302.add ((x14_5).toNat * 5)) = some (.int .i64 ((rd_T48 t299 x14_5).f0)) ∧ w'.cell? ⟨(ad302.add ((x14_5).toNat * 5)).block, (ad302.add ((x14_5).toNat * 5)).off + 1, none⟩ = some (.int .i64 ((rd_T48 t299 x14_5).f1)) ∧ w'.cell? ⟨(ad302.add ((x14_5).toNat * 5)).block, (ad302.add ((x14_5).toNat * 5)).off + 2, none⟩ = some (.string ((rd_T48 t299 x14_5).f2)) ∧ w'.cell? ⟨(ad302.add ((x14_5).toNat * 5)).block, (ad302.add ((x14_5).toNat * 5)).off + 3, none⟩ = some (.string ((rd_T48 t299 x14_5).f3)) ∧ w'.cell? ⟨(ad302.add ((x14_5).toNat * 5)).block, (ad302.add ((x14_5).toNat * 5)).off + 4, none⟩ = some (.int .i64 ((rd_T48 t299 x14_5).f4))) (ds := [8, 10]) #[false, false, false, false, false, false, false, false, false, false, false] (by kernel_rfl) rfl rfl ⟨(bcl BK290.out 0).trans rfl, (bcl BK290.out 1).trans rfl, (bcl BK290.out 2).trans rfl, (bcl BK290.out 3).trans rfl, hx304_0, hx304_1, hx304_2, hx304_3, hx304_4⟩ (fun hHeld => ?_); refine with_tabW palinoderef16_Pick.tab35 palinoderef16_Pick.bits35 (fun HT_ HW_ => ?_)
                    generalize w61.drew = w62 at HO_6 HO_11 HO_13 HO_291001 HO_291002 BK276 BK277 BK290 HB hx304_0 hx304_1 hx304_2 hx304_3 hx304_4 hHeld ⊢
                    refine pure_ (i := 0) (N := some 106) (v := ?_) (a' := ?_) #[true, false, false, false, false, false, false, false, false, false, false] rfl rfl (any_of HT_.out (by kernel_rfl)) (fun _ _ _ h => h) (Or.inl ⟨by rfl, ?_⟩) ?_ ?_
                    rotate_left
                    ·intro w'
                     go_simp
                     with_reducible rfl
                    rotate_left
                    ·simp only [Act.put, List.setIfInBounds_toArray, List.set_cons_zero, List.set_cons_succ, i64_w, i32_w]
                     rfl
                    refine pure_ (i := 2) (N := some 108) (v := ?_) (a' := ?_) #[true, false, true, false, false, false, false, false, false, false, false] rfl rfl (any_of HT_.out (by kernel_rfl)) (fun _ _ _ h => h) (Or.inl ⟨by rfl, ?_⟩) ?_ ?_
                    rotate_left
                    ·intro w'
                     go_simp
                     with_reducible rfl
                    rotate_left
                    ·simp only [Act.put, List.setIfInBounds_toArray, List.set_cons_zero, List.set_cons_succ, i64_w, i32_w]
                     rfl
                    refine pure_ (i := 3) (N := some 109) (v := ?_) (a' := ?_) #[true, false, true, true, false, false, false, false, false, false, false] rfl rfl (any_of HT_.out (by kernel_rfl)) (fun _ _ _ h => h) (Or.inl ⟨by rfl, ?_⟩) ?_ ?_
                    rotate_left
                    ·intro w'
                     go_simp
                     with_reducible rfl
                    rotate_left
                    ·simp only [Act.put, List.setIfInBounds_toArray, List.set_cons_zero, List.set_cons_succ, i64_w, i32_w]
                     rfl
                    refine pure_ (i := 4) (N := some 110) (v := ?_) (a' := ?_) #[true, false, true, true, true, false, false, false, false, false, false] rfl rfl (any_of HT_.out (by kernel_rfl)) (fun _ _ _ h => h) (Or.inl ⟨by rfl, ?_⟩) ?_ ?_
                    rotate_left
                    ·intro w'
                     go_simp
                     with_reducible rfl
                    rotate_left
                    ·simp only [Act.put, List.setIfInBounds_toArray, List.set_cons_zero, List.set_cons_succ, i64_w, i32_w]
                     rfl
                    refine pure_ (i := 5) (N := some 111) (v := ?_) (a' := ?_) #[true, false, true, true, true, true, false, false, false, false, false] rfl rfl (any_of HT_.out (by kernel_rfl)) (fun _ _ _ h => h) (Or.inl ⟨by rfl, ?_⟩) ?_ ?_
                    rotate_left
                    ·intro w'
                     go_simp
                     with_reducible rfl
                    rotate_left
                    ·simp only [Act.put, List.setIfInBounds_toArray, List.set_cons_zero, List.set_cons_succ, i64_w, i32_w]
                     rfl
                    refine take_ (i := 1) (N := some 107) (v := ?_) (a' := ?_) #[true, true, true, true, true, true, false, false, false, false, false] rfl rfl (take_ofW HT_.out HW_.out (by kernel_rfl)) (fun _ _ _ h => h) (Or.inl ⟨by rfl, ?_⟩) hHeld ?_ ?_
                    rotate_left
                    ·rintro w' ⟨s0, s1, s2, s3, s4, s5, s6, s7, s8⟩
                     go_simp
                     with_reducible rfl
                    rotate_left
                    ·simp only [Act.put, List.setIfInBounds_toArray, List.set_cons_zero, List.set_cons_succ, i64_w, i32_w]
                     rfl
                    refine take_ (i := 6) (N := some 112) (v := ?_) (a' := ?_) #[true, true, true, true, true, true, true, false, false, false, false] rfl rfl (take_ofW HT_.out HW_.out (by kernel_rfl)) (fun _ _ _ h => h) (Or.inl ⟨by rfl, ?_⟩) hHeld ?_ ?_
                    rotate_left
                    ·rintro w' ⟨s0, s1, s2, s3, s4, s5, s6, s7, s8⟩
                     go_simp
                     with_reducible rfl
                    rotate_left
                    ·simp only [Act.put, List.setIfInBounds_toArray, List.set_cons_zero, List.set_cons_succ, i64_w, i32_w]
                     rfl
                    refine one_ (i := 7) (N := some 113) #[true, true, true, true, true, true, true, true, false, false, false] rfl rfl (one_of HT_.out (by kernel_rfl)) (by decide) (fun K hK => ?_)
                    refine value_ (w1 := ?_) (v := ?_) (by rfl) rfl ?_ ?_
                    rotate_left 2
                    ·go_simp
                     constructor
                     ·rfl
                     ·rfl
                    refine hK.out _ _ ⟨(bcl (bdA BK290.out _) 0).trans rfl, (bcl (bdA BK290.out _) 1).trans rfl, (bcl (bdA BK290.out _) 2).trans rfl, (bcl (bdA BK290.out _) 3).trans rfl, (World.cell?_alloc_lt _ _ _ (World.block_lt_of_cell? _ _ (hHeld.2.2.2.2.1))).trans (hHeld.2.2.2.2.1), (World.cell?_alloc_lt _ _ _ (World.block_lt_of_cell? _ _ (hHeld.2.2.2.2.2.1))).trans (hHeld.2.2.2.2.2.1), (World.cell?_alloc_lt _ _ _ (World.block_lt_of_cell? _ _ (hHeld.2.2.2.2.2.2.1))).trans (hHeld.2.2.2.2.2.2.1), (World.cell?_alloc_lt _ _ _ (World.block_lt_of_cell? _ _ (hHeld.2.2.2.2.2.2.2.1))).trans (hHeld.2.2.2.2.2.2.2.1), (World.cell?_alloc_lt _ _ _ (World.block_lt_of_cell? _ _ (hHeld.2.2.2.2.2.2.2.2))).trans (hHeld.2.2.2.2.2.2.2.2)⟩ (fun hHeld => ?_)
                    clear hK K
                    refine norm_ (a' := ?_) ?_ ?_
                    rotate_left
                    ·show Act.put _ (some 113) _ = _
                     simp only [Act.put, List.setIfInBounds_toArray, List.set_cons_zero, List.set_cons_succ, i64_w, i32_w]
                     rfl
                    refine last_ (i := 8) (N := some 114) #[true, true, true, true, true, true, true, true, true, false, false] rfl rfl (one_of HT_.out (by kernel_rfl)) (by decide) (fun K hK => ?_)
                    refine Kd.R_append_step (Kd.int .i64) (w0 := w) w.heap.size (by rfl) (.tmp 107) (.tmp 113) 23 3 (.int .i64 0) 8 rfl Try.underlying23 info3 rfl (by decide) (by omega) u291002 x291002_5 ((rd_T48 t299 x14_5).f0) [.int .i64 ((rd_T48 t299 x14_5).f0)] (fun k_ => some k_ ≠ (u291001 : Value).ownBlock) (fun _ => False) rfl rfl ?aP (fun _ hk => hk.elim) ?aF ?aO ?aB ?aS ?aL ?_
                    (case aP => exact rfl)
                    (case aB => exact (by repeat (first | (with_reducible first | exact HB.out | apply blA | apply blN | apply blD | refine blS ?_ GE276.out | refine blS ?_ GE277.out | refine blS ?_ GE290.out) | exact HB.out)))
                    (case aF => exact (fun k_ hk => Kd.fresh' (Kd.R_lt (by (with_reducible repeat (first | apply Kd.R_alloc | apply Kd.R_drewN | apply Kd.R_drew)); exact HO_291001.out)) k_ hk))
                    (case aO => exact (by (with_reducible repeat (first | apply Kd.R_alloc | apply Kd.R_drewN | apply Kd.R_drew)); exact HO_291002.out))
                    (case aS => exact (blz (by repeat (first | (with_reducible first | exact HB.out | apply blA | apply blN | apply blD | refine blS ?_ GE276.out | refine blS ?_ GE277.out | refine blS ?_ GE290.out) | exact HB.out))))
                    (case aL => have := LMc58.out; omega)
                    intro v306 w63 ho hb hg hat
                    rw [← Ny305.out] at ho
                    have n0_ := Aside0.mk (Kd.R_over' (by (with_reducible repeat (first | apply Kd.R_alloc | apply Kd.R_drewN | apply Kd.R_drew)); exact HO_6.out) (Kd.R_typed (by (with_reducible repeat (first | apply Kd.R_alloc | apply Kd.R_drewN | apply Kd.R_drew)); exact HO_291002.out)) (by decide) hg)
                    have n1_ := Aside0.mk (Kd.R_over' (by (with_reducible repeat (first | apply Kd.R_alloc | apply Kd.R_drewN | apply Kd.R_drew)); exact HO_11.out) (Kd.R_typed (by (with_reducible repeat (first | apply Kd.R_alloc | apply Kd.R_drewN | apply Kd.R_drew)); exact HO_291002.out)) (by decide) hg)
                    have n2_ := Aside0.mk (Kd.R_over' (by (with_reducible repeat (first | apply Kd.R_alloc | apply Kd.R_drewN | apply Kd.R_drew)); exact HO_13.out) (Kd.R_typed (by (with_reducible repeat (first | apply Kd.R_alloc | apply Kd.R_drewN | apply Kd.R_drew)); exact HO_291002.out)) (by decide) hg)
                    have n3_ := Aside0.mk (Kd.R_after (ok := (fun _ => True)) (by (with_reducible repeat (first | apply Kd.R_alloc | apply Kd.R_drewN | apply Kd.R_drew)); exact Kd.R_mono HO_291001.out (fun _ hk => ⟨trivial, hk⟩)) hg hat)
                    have n4_ := Aside0.mk (blk_grown (g := gb276) (o := .cells #[.slice A0_0 l0_0.length c0_0, .slice A0_1 l0_1.length c0_1, .int .i64 a0_2] 25 (0, 0)) (by (with_reducible repeat (first | refine bdN ?_ _ | refine bdD ?_ | refine bdA ?_ _)); exact BK276.out) hg (Kd.R_ne HO_291002.out BK276.out (by decide)))
                    have n5_ := Aside0.mk (blk_grown (g := gb277) (o := .cells #[.int .i64 0, .slice none 0 0, .slice none 0 0, .bool false] 28 (0, 0)) (by (with_reducible repeat (first | refine bdN ?_ _ | refine bdD ?_ | refine bdA ?_ _)); exact BK277.out) hg (Kd.R_ne HO_291002.out BK277.out (by decide)))
                    have n6_ := Aside0.mk (blk_grown (g := gb290) (o := .cells #[.int .i64 x5_2, u291001, u291002, .bool true] 28 (0, 0)) (by (with_reducible repeat (first | refine bdN ?_ _ | refine bdD ?_ | refine bdA ?_ _)); exact BK290.out) hg (Kd.R_ne HO_291002.out BK290.out (by decide)))
                    have n7_ := Aside0.mk (hb)
                    have n8_ := Aside0.mk (ho)
                    clear HO_6
                    clear HO_11
                    clear HO_13
                    clear HO_291001
                    clear BK276
                    clear BK277
                    clear BK290
                    clear HB
                    clear HO_291002
                    have HO_6 := n0_
                    have HO_11 := n1_
                    have HO_13 := n2_
                    have HO_291001 := n3_
                    have BK276 := n4_
                    have BK277 := n5_
                    have BK290 := n6_
                    have HB := n7_
                    have HO307 := n8_
                    clear n0_ n1_ n2_ n3_ n4_ n5_ n6_ n7_ n8_
                    clear ho hb hg hat
                    obtain ⟨Ao64, co64, eo64⟩ := Kd.R_slice HO307.out
                    (first | subst eo64 | (injection eo64 with f1_ f2_ f3_; have f4_ := f1_.symm; have f5_ := f3_.symm; clear f1_ f2_ f3_; subst f4_; subst f5_))
                    refine hK.out _ _ ?_
                    clear hK K
                    refine norm_ (a' := ?_) ?_ ?_
                    rotate_left
                    ·show Act.put _ (some 114) _ = _
                     simp only [Act.put, List.setIfInBounds_toArray, List.set_cons_zero, List.set_cons_succ, i64_w, i32_w]
                     rfl
                    refine pure_ (i := 9) (N := some 115) (v := ?_) (a' := ?_) #[true, true, true, true, true, true, true, true, true, true, false] rfl rfl (any_of HT_.out (by kernel_rfl)) (fun _ _ _ h => h) (Or.inl ⟨by rfl, ?_⟩) ?_ ?_
                    rotate_left
                    ·intro w'
                     go_simp
                     with_reducible rfl
                    rotate_left
                    ·simp only [Act.put, List.setIfInBounds_toArray, List.set_cons_zero, List.set_cons_succ, i64_w, i32_w]
                     rfl
                    refine last_ (i := 10) (N := none) #[true, true, true, true, true, true, true, true, true, true, true] rfl rfl (one_of HT_.out (by kernel_rfl)) (by decide) (fun K hK => ?_)
                    have hs65 : w63.cell? ⟨gb290, 2, none⟩ = some (u291002) := (bcl BK290.out 2).trans rfl
                    have hfs65 := bfz BK290.out 2
                    have hns65_0 := NB276_290.out
                    have hns65_1 := NB277_290.out
                    have hms65_0 := NB290_276.out
                    have hms65_1 := NB290_277.out
                    refine skip_ (w1 := ?_) (by rfl) rfl ?_ ?_
                    rotate_left
                    ·go_simp
                     rfl
                    refine hK.out _ _ ?_
                    clear hK K
                    refine done_ (done_of HT_.out (by kernel_rfl)) ?_
                    have p308 : 0 ≤ (x14_5 : Int) := of_decide_eq_true (by first | (with_reducible assumption) | assumption)
                    have q308 : x14_5 < (t299.length : Int) := of_decide_eq_true (by first | (with_reducible assumption) | assumption)
                    obtain ⟨ad308, e308, hx308_0, hx308_1, hx308_2, hx308_3, hx308_4⟩ := at_T48 (Kd.R_reads' HO_13.out).2.2 x14_5 p308 q308
                    obtain rfl : ad302 = ad308 := (by injection e308)
                    have hn308_0 : ad302.block ≠ gb290 := Kd.own_blk (Kd.R_ne HO_13.out BK290.out (by decide))
                    replace hx308_0 := (cell_far (p := ⟨gb290, 2, none⟩) (by first | (rw [add_block]; exact hn308_0) | (show (Addr.add _ _).block ≠ _; rw [add_block]; exact hn308_0) | exact hn308_0) (.slice Ao64 y305.length co64)).trans hx308_0
                    replace hx308_1 := (cell_far (p := ⟨gb290, 2, none⟩) (by first | (rw [add_block]; exact hn308_0) | (show (Addr.add _ _).block ≠ _; rw [add_block]; exact hn308_0) | exact hn308_0) (.slice Ao64 y305.length co64)).trans hx308_1
                    replace hx308_2 := (cell_far (p := ⟨gb290, 2, none⟩) (by first | (rw [add_block]; exact hn308_0) | (show (Addr.add _ _).block ≠ _; rw [add_block]; exact hn308_0) | exact hn308_0) (.slice Ao64 y305.length co64)).trans hx308_2
                    replace hx308_3 := (cell_far (p := ⟨gb290, 2, none⟩) (by first | (rw [add_block]; exact hn308_0) | (show (Addr.add _ _).block ≠ _; rw [add_block]; exact hn308_0) | exact hn308_0) (.slice Ao64 y305.length co64)).trans hx308_3
                    replace hx308_4 := (cell_far (p := ⟨gb290, 2, none⟩) (by first | (rw [add_block]; exact hn308_0) | (show (Addr.add _ _).block ≠ _; rw [add_block]; exact hn308_0) | exact hn308_0) (.slice Ao64 y305.length co64)).trans hx308_4
                    clear hn308_0
                    replace p308 := eq_true p308
                    replace q308 := eq_true q308
                    try go_wp2_with (first | ((with_reducible refine gate_builtin (b := .append) (xs := #[.tmp 116, .tmp 121]) rfl ?_); at_builtin; refine Kd.R_append k48 (w0 := w) w.heap.size rfl (.tmp 116) (.tmp 121) 22 48 (.agg #[(.int .i64 0), (.int .i64 0), (.string ⟨#[]⟩), (.string ⟨#[]⟩), (.int .i64 0)]) 56 rfl Try.underlying22 info48 rfl (by decide) (by omega) u11 x11_5 (⟨(rd_T48 t299 x14_5).f0, (rd_T48 t299 x14_5).f1, (rd_T48 t299 x14_5).f2, (rd_T48 t299 x14_5).f3, (rd_T48 t299 x14_5).f4⟩ : S48) [.int .i64 ((rd_T48 t299 x14_5).f0), .int .i64 ((rd_T48 t299 x14_5).f1), .string ((rd_T48 t299 x14_5).f2), .string ((rd_T48 t299 x14_5).f3), .int .i64 ((rd_T48 t299 x14_5).f4)] (fun k_ => some k_ ≠ (.slice Ao49 x6_2.length co49 : Value).ownBlock ∧ some k_ ≠ (.slice (some ad302) t299.length co60 : Value).ownBlock) (fun _ => False) rfl (by first | (go_simp; done) | (go_simp; rfl)) ?aP (fun _ hk => hk.elim) ?aF ?aO ?aB ?aS ?aL ?_; (case aP => exact k48_mkM _ _ _ (⟨(rd_T48 t299 x14_5).f0, (rd_T48 t299 x14_5).f1, (rd_T48 t299 x14_5).f2, (rd_T48 t299 x14_5).f3, (rd_T48 t299 x14_5).f4⟩ : S48)); (case aB => exact (by repeat (first | (with_reducible first | exact HB.out | apply blA | apply blN | apply blD | refine blS ?_ GE276.out | refine blS ?_ GE277.out | refine blS ?_ GE290.out) | exact HB.out))); (case aF => exact (fun k_ hk => ⟨Kd.fresh' (Kd.R_lt (by (with_reducible repeat (first | apply Kd.R_alloc | apply Kd.R_drewN | apply Kd.R_drew)); exact (Kd.R_mono (Kd.R_far (p := ⟨gb290, 2, none⟩) (Kd.R_types HO_6.out BK290.out (by decide)) (fun _ hk => hk.2) (.slice Ao64 y305.length co64)) (fun _ h_ => h_.1)))) k_ hk, Kd.fresh' (Kd.R_lt (by (with_reducible repeat (first | apply Kd.R_alloc | apply Kd.R_drewN | apply Kd.R_drew)); exact (Kd.R_mono (Kd.R_far (p := ⟨gb290, 2, none⟩) (Kd.R_types HO_13.out BK290.out (by decide)) (fun _ hk => hk.2) (.slice Ao64 y305.length co64)) (fun _ h_ => h_.1)))) k_ hk⟩)); (case aO => exact (by (with_reducible repeat (first | apply Kd.R_alloc | apply Kd.R_drewN | apply Kd.R_drew)); exact Kd.R_mono (Kd.R_far (p := ⟨gb290, 2, none⟩) (Kd.R_types HO_11.out BK290.out (by decide)) (fun _ hk => hk.2) (.slice Ao64 y305.length co64)) (fun _ hk => ⟨hk.1.1, hk.1.2⟩))); (case aS => exact (blz (by repeat (first | (with_reducible first | exact HB.out | apply blA | apply blN | apply blD | refine blS ?_ GE276.out | refine blS ?_ GE277.out | refine blS ?_ GE290.out) | exact HB.out)))); (case aL => have := LMc59.out; omega); intro v310 w66 ho hb hg hat; rw [← Ny309.out] at ho; have n0_ := Aside0.mk (Kd.R_after (ok := (fun k_ => some k_ ≠ (.slice (some ad302) t299.length co60 : Value).ownBlock)) (by (with_reducible repeat (first | apply Kd.R_alloc | apply Kd.R_drewN | apply Kd.R_drew)); exact Kd.R_mono (Kd.R_far (p := ⟨gb290, 2, none⟩) (Kd.R_types HO_6.out BK290.out (by decide)) (fun _ hk => hk.2) (.slice Ao64 y305.length co64)) (fun _ hk => ⟨hk.1.2, hk.1.1⟩)) hg hat); have n1_ := Aside0.mk (Kd.R_after (ok := (fun k_ => some k_ ≠ (.slice Ao49 x6_2.length co49 : Value).ownBlock)) (by (with_reducible repeat (first | apply Kd.R_alloc | apply Kd.R_drewN | apply Kd.R_drew)); exact Kd.R_mono (Kd.R_far (p := ⟨gb290, 2, none⟩) (Kd.R_types HO_13.out BK290.out (by decide)) (fun _ hk => hk.2) (.slice Ao64 y305.length co64)) (fun _ hk => ⟨hk.1.1, hk.1.2⟩)) hg hat); have n2_ := Aside0.mk (Kd.R_over' (by (with_reducible repeat (first | apply Kd.R_alloc | apply Kd.R_drewN | apply Kd.R_drew)); exact (Kd.R_mono (Kd.R_far (p := ⟨gb290, 2, none⟩) (Kd.R_types HO_291001.out BK290.out (by decide)) (fun _ hk => hk.2) (.slice Ao64 y305.length co64)) (fun _ h_ => h_.1))) (Kd.R_typed (by (with_reducible repeat (first | apply Kd.R_alloc | apply Kd.R_drewN | apply Kd.R_drew)); exact (Kd.R_mono (Kd.R_far (p := ⟨gb290, 2, none⟩) (Kd.R_types HO_11.out BK290.out (by decide)) (fun _ hk => hk.2) (.slice Ao64 y305.length co64)) (fun _ h_ => h_.1)))) (by decide) hg); have n3_ := Aside0.mk (blk_grown (g := gb276) (o := .cells #[.slice A0_0 l0_0.length c0_0, .slice A0_1 l0_1.length c0_1, .int .i64 a0_2] 25 (0, 0)) (by (with_reducible repeat (first | refine bdN ?_ _ | refine bdD ?_ | refine bdA ?_ _)); refine blk_far ?_ NB276_290.out _; (with_reducible repeat (first | refine bdN ?_ _ | refine bdD ?_ | refine bdA ?_ _)); exact BK276.out) hg (Kd.R_ne HO_11.out BK276.out (by decide))); have n4_ := Aside0.mk (blk_grown (g := gb277) (o := .cells #[.int .i64 0, .slice none 0 0, .slice none 0 0, .bool false] 28 (0, 0)) (by (with_reducible repeat (first | refine bdN ?_ _ | refine bdD ?_ | refine bdA ?_ _)); refine blk_far ?_ NB277_290.out _; (with_reducible repeat (first | refine bdN ?_ _ | refine bdD ?_ | refine bdA ?_ _)); exact BK277.out) hg (Kd.R_ne HO_11.out BK277.out (by decide))); have n5_ := Aside0.mk (blk_grown (g := gb290) (o := .cells #[.int .i64 x5_2, u291001, .slice Ao64 y305.length co64, .bool true] 28 (0, 0)) (by (with_reducible repeat (first | refine bdN ?_ _ | refine bdD ?_ | refine bdA ?_ _)); refine blk_put (cs := #[.int .i64 x5_2, u291001, u291002, .bool true]) ?_ 2 _ rfl; (with_reducible repeat (first | refine bdN ?_ _ | refine bdD ?_ | refine bdA ?_ _)); exact BK290.out) hg (Kd.R_ne HO_11.out BK290.out (by decide))); have n6_ := Aside0.mk (Kd.R_over' (by (with_reducible repeat (first | apply Kd.R_alloc | apply Kd.R_drewN | apply Kd.R_drew)); exact (Kd.R_mono (Kd.R_far (p := ⟨gb290, 2, none⟩) (Kd.R_types HO307.out BK290.out (by decide)) (fun _ hk => hk.2) (.slice Ao64 y305.length co64)) (fun _ h_ => h_.1))) (Kd.R_typed (by (with_reducible repeat (first | apply Kd.R_alloc | apply Kd.R_drewN | apply Kd.R_drew)); exact (Kd.R_mono (Kd.R_far (p := ⟨gb290, 2, none⟩) (Kd.R_types HO_11.out BK290.out (by decide)) (fun _ hk => hk.2) (.slice Ao64 y305.length co64)) (fun _ h_ => h_.1)))) (by decide) hg); have n7_ := Aside0.mk (hb); have n8_ := Aside0.mk (ho); clear HO_6; clear HO_13; clear HO_291001; clear BK276; clear BK277; clear BK290; clear HO307; clear HB; clear HO_11; have HO_6 := n0_; have HO_13 := n1_; have HO_291001 := n2_; have BK276 := n3_; have BK277 := n4_; have BK290 := n5_; have HO307 := n6_; have HB := n7_; have HO311 := n8_; clear n0_ n1_ n2_ n3_ n4_ n5_ n6_ n7_ n8_; clear ho hb hg hat))
                    go_roundg k5
                    case measure => have := HJ4.out; have := HK2.out; have := HJ14.out; have := HK4.out; have := HK5.out; omega
                    case rel => exact ⟨(y309), (wrap64 (x14_5 + 1)), (y305), (.slice Ao64 y305.length co64), (by first | rfl | (simp; done) | (simp [*]; done)), H', ⟨by have := HJ4.out; have := HK2.out; have := HJ14.out; have := HK4.out; have := HK5.out; omega⟩, ⟨by (with_reducible repeat (first | apply Kd.R_alloc | apply Kd.R_drewN | apply Kd.R_drew)); exact Kd.R_mono HO_6.out (fun _ hk => ⟨hk.2, hk.1⟩)⟩, ⟨by (with_reducible repeat (first | apply Kd.R_alloc | apply Kd.R_drewN | apply Kd.R_drew)); exact HO311.out⟩, ⟨by (with_reducible repeat (first | apply Kd.R_alloc | apply Kd.R_drewN | apply Kd.R_drew)); exact HO_13.out⟩, ⟨by (with_reducible repeat (first | apply Kd.R_alloc | apply Kd.R_drewN | apply Kd.R_drew)); exact Kd.R_mono HO_291001.out (fun _ hk => hk.2)⟩, ⟨by (with_reducible repeat (first | apply Kd.R_alloc | apply Kd.R_drewN | apply Kd.R_drew)); exact HO307.out⟩, ⟨by (with_reducible repeat (first | refine bdN ?_ _ | refine bdD ?_ | refine bdA ?_ _)); exact BK276.out⟩, ⟨by (with_reducible repeat (first | refine bdN ?_ _ | refine bdD ?_ | refine bdA ?_ _)); exact BK277.out⟩, ⟨by (with_reducible repeat (first | refine bdN ?_ _ | refine bdD ?_ | refine bdA ?_ _)); exact BK290.out⟩, ⟨by repeat (first | (with_reducible first | exact HB.out | apply blA | apply blN | apply blD | refine blS ?_ GE276.out | refine blS ?_ GE277.out | refine blS ?_ GE290.out) | exact HB.out)⟩⟩
                   ·rw [if_neg c59] at H
                    exact absurd H (by simp)
                  ·rw [if_neg c58] at H
                   exact absurd H (by simp)
                 ·replace c57 := Bool.eq_false_iff.mpr c57
                  subst c57
                  have H1 : (palinoderef16_Pick.l3 k5 x5_2 x6_2 x11_5 t299 (wrap64 (x14_5 + 1)) l0_0 l0_1 a0_2 x5_2 x291001_4 x291002_5 true) = some (r1, r2, r3, r4, r5) := by rw [if_neg (show ¬ (false = true) by decide)] at H; exact H
                  clear H
                  have H := H1
                  clear H1
                  have H' := Aside0.mk H
                  clear H
                  obtain ⟨Ao67, co67, eo67⟩ := Kd.R_slice HO_13.out
                  subst eo67
                  have p302 : 0 ≤ (x14_5 : Int) := of_decide_eq_true (by first | (with_reducible assumption) | assumption)
                  have q302 : x14_5 < (t299.length : Int) := of_decide_eq_true (by first | (with_reducible assumption) | assumption)
                  obtain ⟨ad302, e302, hx302_0, hx302_1, hx302_2, hx302_3, hx302_4⟩ := at_T48 (Kd.R_reads' HO_13.out).2.2 x14_5 p302 q302
                  cases e302
                  replace p302 := eq_true p302
                  replace q302 := eq_true q302
                  go_wp2_with (first | ((with_reducible refine gate_callee (f := 23) rfl ?_); refine goesL_ (some 104) rfl rfl Try.func23 (by kernel_rfl) rfl #[.agg #[.int .i64 ((rd_T48 t299 x14_5).f0), .int .i64 ((rd_T48 t299 x14_5).f1), .string ((rd_T48 t299 x14_5).f2), .string ((rd_T48 t299 x14_5).f3), .int .i64 ((rd_T48 t299 x14_5).f4)], .slice Ao49 x6_2.length co49] rfl (by (try simp only [List.map_toArray, List.map_cons, List.map_nil]); first | done | rfl | (simp only [List.length_drop, List.length_take]; rfl)) ?_; (with_reducible refine (palinoderef16_meets.calls k5 ((rd_T48 t299 x14_5).f0) ((rd_T48 t299 x14_5).f1) ((rd_T48 t299 x14_5).f2) ((rd_T48 t299 x14_5).f3) ((rd_T48 t299 x14_5).f4) _ _ x6_2 false _ ?side1 ?side2 A56.out).mono ?_); (case side1 => repeat (first | exact (Kd.R_reads' HO_6.out).2.2 | (with_reducible refine Kd.C_alloc ?_ _) | (with_reducible refine Kd.C_drewN ?_ _) | (with_reducible refine Kd.C_drew ?_))); (case side2 => exact (Kd.R_reads' HO_6.out).2.1); rintro e w68 ⟨rfl, hb⟩; refine ⟨_, rfl, ?_⟩; have n0_ := Aside0.mk (Kd.R_below (by (with_reducible repeat (first | apply Kd.R_alloc | apply Kd.R_drewN | apply Kd.R_drew)); exact HO_6.out) hb); have n1_ := Aside0.mk (Kd.R_below (by (with_reducible repeat (first | apply Kd.R_alloc | apply Kd.R_drewN | apply Kd.R_drew)); exact HO_11.out) hb); have n2_ := Aside0.mk (Kd.R_below (by (with_reducible repeat (first | apply Kd.R_alloc | apply Kd.R_drewN | apply Kd.R_drew)); exact HO_13.out) hb); have n3_ := Aside0.mk (Kd.R_below (by (with_reducible repeat (first | apply Kd.R_alloc | apply Kd.R_drewN | apply Kd.R_drew)); exact HO_291001.out) hb); have n4_ := Aside0.mk (Kd.R_below (by (with_reducible repeat (first | apply Kd.R_alloc | apply Kd.R_drewN | apply Kd.R_drew)); exact HO_291002.out) hb); have n5_ := Aside0.mk (bbl (g := gb276) (o := .cells #[.slice A0_0 l0_0.length c0_0, .slice A0_1 l0_1.length c0_1, .int .i64 a0_2] 25 (0, 0)) (by (with_reducible repeat (first | refine bdN ?_ _ | refine bdD ?_ | refine bdA ?_ _)); exact BK276.out) hb); have n6_ := Aside0.mk (bbl (g := gb277) (o := .cells #[.int .i64 0, .slice none 0 0, .slice none 0 0, .bool false] 28 (0, 0)) (by (with_reducible repeat (first | refine bdN ?_ _ | refine bdD ?_ | refine bdA ?_ _)); exact BK277.out) hb); have n7_ := Aside0.mk (bbl (g := gb290) (o := .cells #[.int .i64 x5_2, u291001, u291002, .bool true] 28 (0, 0)) (by (with_reducible repeat (first | refine bdN ?_ _ | refine bdD ?_ | refine bdA ?_ _)); exact BK290.out) hb); have n8_ := Aside0.mk (bls (by repeat (first | (with_reducible first | exact HB.out | apply blA | apply blN | apply blD | refine blS ?_ GE276.out | refine blS ?_ GE277.out | refine blS ?_ GE290.out) | exact HB.out)) hb); clear HO_6; clear HO_11; clear HO_13; clear HO_291001; clear HO_291002; clear BK276; clear BK277; clear BK290; clear HB; have HO_6 := n0_; have HO_11 := n1_; have HO_13 := n2_; have HO_291001 := n3_; have HO_291002 := n4_; have BK276 := n5_; have BK277 := n6_; have BK290 := n7_; have HB := n8_; clear n0_ n1_ n2_ n3_ n4_ n5_ n6_ n7_ n8_; (try clear hb); (try clear hb2); (try clear hk); (try clear hi)))
                  go_roundg k5
                  case measure => have := HJ4.out; have := HK2.out; have := HJ14.out; have := HK4.out; have := HK5.out; omega
                  case rel => exact ⟨(x11_5), (wrap64 (x14_5 + 1)), (x291002_5), (u291002), (by first | rfl | (simp; done) | (simp [*]; done)), H', ⟨by have := HJ4.out; have := HK2.out; have := HJ14.out; have := HK4.out; have := HK5.out; omega⟩, ⟨by (with_reducible repeat (first | apply Kd.R_alloc | apply Kd.R_drewN | apply Kd.R_drew)); exact HO_6.out⟩, ⟨by (with_reducible repeat (first | apply Kd.R_alloc | apply Kd.R_drewN | apply Kd.R_drew)); exact HO_11.out⟩, ⟨by (with_reducible repeat (first | apply Kd.R_alloc | apply Kd.R_drewN | apply Kd.R_drew)); exact HO_13.out⟩, ⟨by (with_reducible repeat (first | apply Kd.R_alloc | apply Kd.R_drewN | apply Kd.R_drew)); exact HO_291001.out⟩, ⟨by (with_reducible repeat (first | apply Kd.R_alloc | apply Kd.R_drewN | apply Kd.R_drew)); exact HO_291002.out⟩, ⟨by (with_reducible repeat (first | refine bdN ?_ _ | refine bdD ?_ | refine bdA ?_ _)); exact BK276.out⟩, ⟨by (with_reducible repeat (first | refine bdN ?_ _ | refine bdD ?_ | refine bdA ?_ _)); exact BK277.out⟩, ⟨by (with_reducible repeat (first | refine bdN ?_ _ | refine bdD ?_ | refine bdA ?_ _)); exact BK290.out⟩, ⟨by repeat (first | (with_reducible first | exact HB.out | apply blA | apply blN | apply blD | refine blS ?_ GE276.out | refine blS ?_ GE277.out | refine blS ?_ GE290.out) | exact HB.out)⟩⟩
                ·rw [if_neg c55] at H
                 exact absurd H (by simp)
               ·rw [if_neg c54] at H
                have c54b0 : decide (x14_5 < (t299.length : Int)) = false := decide_eq_false c54
                clear c54
                have H' := Aside0.mk H
                clear H
                obtain ⟨Ao69, co69, eo69⟩ := Kd.R_slice HO_13.out
                subst eo69
                go_wp2
                go_loopg [16] k5 (fun kq v16 w' => ∃ (x16_6 : Int) (x291003_6 : Bool), v16 = .int .i64 x16_6 ∧ Aside0 (palinoderef16_Pick.l4 kq x11_5 x16_6 l0_0 l0_1 a0_2 x5_2 x291001_4 x291002_5 x291003_6 = some (r1, r2, r3, r4, r5)) ∧ Aside0 (kq ≤ k5) ∧ Aside0 (Kd.R k48 48 w' w.heap.size (fun _ => True) u11 x11_5) ∧ Aside0 (Kd.R (Kd.int .i64) 3 w' w.heap.size (fun k_ => some k_ ≠ (u291002 : Value).ownBlock) u291001 x291001_4) ∧ Aside0 (Kd.R (Kd.int .i64) 3 w' w.heap.size (fun k_ => some k_ ≠ (u291001 : Value).ownBlock) u291002 x291002_5) ∧ Aside0 (w'.heap[gb276]? = some (.cells #[(.slice A0_0 l0_0.length c0_0), (.slice A0_1 l0_1.length c0_1), .int .i64 a0_2] 25 (0, 0))) ∧ Aside0 (w'.heap[gb277]? = some (.cells #[.int .i64 0, (.slice none 0 0), (.slice none 0 0), .bool false] 28 (0, 0))) ∧ Aside0 (w'.heap[gb290]? = some (.cells #[.int .i64 x5_2, u291001, u291002, .bool x291003_6] 28 (0, 0))) ∧ Aside0 (Below w.heap.size w w'))
                case atStart => exact ⟨(wrap64 (x5_2 + 2)), (true), (by first | rfl | (simp; done) | (simp [*]; done)), H', ⟨Nat.le_refl _⟩, ⟨by (with_reducible repeat (first | apply Kd.R_alloc | apply Kd.R_drewN | apply Kd.R_drew)); exact Kd.R_mono HO_11.out (fun _ hk => trivial)⟩, ⟨by (with_reducible repeat (first | apply Kd.R_alloc | apply Kd.R_drewN | apply Kd.R_drew)); exact HO_291001.out⟩, ⟨by (with_reducible repeat (first | apply Kd.R_alloc | apply Kd.R_drewN | apply Kd.R_drew)); exact HO_291002.out⟩, ⟨by (with_reducible repeat (first | refine bdN ?_ _ | refine bdD ?_ | refine bdA ?_ _)); exact BK276.out⟩, ⟨by (with_reducible repeat (first | refine bdN ?_ _ | refine bdD ?_ | refine bdA ?_ _)); exact BK277.out⟩, ⟨by (with_reducible repeat (first | refine bdN ?_ _ | refine bdD ?_ | refine bdA ?_ _)); exact BK290.out⟩, ⟨by repeat (first | (with_reducible first | exact HB.out | apply blA | apply blN | apply blD | refine blS ?_ GE276.out | refine blS ?_ GE277.out | refine blS ?_ GE290.out) | exact HB.out)⟩⟩
                case round =>
                 clear H'
                 try clear c1
                 try clear c2
                 try clear p2
                 try clear q2
                 try clear hx2
                 try clear c3
                 try clear p3
                 try clear q3
                 try clear hx3
                 try clear c4
                 try clear c5
                 try clear p6
                 try clear c7
                 try clear c8
                 try clear c10
                 try clear c14
                 try clear c14b0
                 try clear c14b1
                 try clear c16
                 try clear c16b0
                 try clear c17
                 try clear c19
                 try clear c21
                 try clear c22
                 try clear c22b0
                 try clear c23
                 try clear c23b0
                 try clear c26
                 try clear c26b0
                 try clear c27
                 try clear c27b0
                 try clear c27b1
                 try clear p28
                 try clear q28
                 try clear hx28
                 try clear p29
                 try clear q29
                 try clear hx29
                 try clear p30
                 try clear q30
                 try clear hx30
                 try clear c31
                 try clear c31b0
                 try clear c32
                 try clear c35
                 try clear c36
                 try clear c38
                 try clear c38b0
                 try clear c39
                 try clear c39b0
                 try clear c40
                 try clear c41
                 try clear c50
                 try clear c51
                 try clear c54
                 try clear c54b0
                 try clear c55
                 try clear c55b0
                 try clear c57
                 try clear c58
                 try clear c59
                 try clear p64
                 try clear hcz11_0
                 try clear hcz11_1
                 try clear hcz11_2
                 try clear hcz20_0
                 try clear hcz20_1
                 try clear hcz20_2
                 try clear hcz33_0
                 try clear hcz33_1
                 try clear hcz33_2
                 try clear hcz33_3
                 try clear hcz37_0
                 try clear hcz37_1
                 try clear hcz37_2
                 try clear hcz37_3
                 try clear hcz52_0
                 try clear hcz52_1
                 try clear hcz52_2
                 try clear hcz9_0
                 try clear hcz9_1
                 try clear hcz9_2
                 try clear hfz11_0
                 try clear hfz11_1
                 try clear hfz11_2
                 try clear hfz20_0
                 try clear hfz20_1
                 try clear hfz20_2
                 try clear hfz33_0
                 try clear hfz33_1
                 try clear hfz33_2
                 try clear hfz33_3
                 try clear hfz37_0
                 try clear hfz37_1
                 try clear hfz37_2
                 try clear hfz37_3
                 try clear hfz52_0
                 try clear hfz52_1
                 try clear hfz52_2
                 try clear hfz9_0
                 try clear hfz9_1
                 try clear hfz9_2
                 try clear hx285_0
                 try clear hx285_1
                 try clear hx285_2
                 try clear hx285_3
                 try clear hx285_4
                 try clear hx291_0
                 try clear hx291_1
                 try clear hx291_2
                 try clear hx291_3
                 try clear hx291_4
                 try clear hx295_0
                 try clear hx295_1
                 try clear hx295_2
                 try clear hx295_3
                 try clear hx295_4
                 try clear hx302_0
                 try clear hx302_1
                 try clear hx302_2
                 try clear hx302_3
                 try clear hx302_4
                 try clear hx304_0
                 try clear hx304_1
                 try clear hx304_2
                 try clear hx304_3
                 try clear hx304_4
                 try clear hx308_0
                 try clear hx308_1
                 try clear hx308_2
                 try clear hx308_3
                 try clear hx308_4
                 try clear p2
                 try clear p28
                 try clear p285
                 try clear p29
                 try clear p291
                 try clear p295
                 try clear p302
                 try clear p304
                 try clear p308
                 try clear p6
                 try clear q2
                 try clear q28
                 try clear q285
                 try clear q29
                 try clear q291
                 try clear q295
                 try clear q302
                 try clear q304
                 try clear q308
                 obtain ⟨x16_6, x291003_6, rfl, HA, HK6, HO_11, HO_291001, HO_291002, BK276, BK277, BK290, HB⟩ := hrel
                 cases gk with
                 | zero => exact absurd HA.out (by simp [palinoderef16_Pick.l4])
                 | succ k6 =>
                  have H := HA.out
                  clear HA
                  simp only [palinoderef16_Pick.l4] at H
                  by_cases c70 : x16_6 < 4
                  ·rw [if_pos c70] at H
                   have c70b0 : decide (x16_6 < 4) = true := decide_eq_true c70
                   clear c70
                   replace H := Option.bind_eq_some_iff.mp H
                   obtain ⟨t312, A710, H⟩ := H
                   replace H : (palinoderef16_Pick.l5 k6 x11_5 x16_6 t312 0 l0_0 l0_1 a0_2 x5_2 x291001_4 x291002_5 x291003_6) = some (r1, r2, r3, r4, r5) := H
                   have A71 := Aside0.mk A710
                   clear A710
                   have H' := Aside0.mk H
                   clear H
                   have hnb72 := NB276_277.out
                   have hnc72 := NB277_276.out
                   have hnb73 := NB276_290.out
                   have hnc73 := NB290_276.out
                   have hcz74_0 : wr.cell? ⟨gb276, 0, none⟩ = some (.slice A0_0 l0_0.length c0_0) := (bcl BK276.out 0).trans rfl
                   have hcz74_1 : wr.cell? ⟨gb276, 1, none⟩ = some (.slice A0_1 l0_1.length c0_1) := (bcl BK276.out 1).trans rfl
                   have hcz74_2 : wr.cell? ⟨gb276, 2, none⟩ = some (.int .i64 a0_2) := (bcl BK276.out 2).trans rfl
                   have hfz74_0 := bfz BK276.out 0
                   have hfz74_1 := bfz BK276.out 1
                   have hfz74_2 := bfz BK276.out 2
                   go_wp2_with (first | ((with_reducible refine gate_callee (f := 22) rfl ?_); refine goesL_ (some 131) rfl rfl Try.func22 (by kernel_rfl) rfl #[.agg #[.slice A0_0 l0_0.length c0_0, .slice A0_1 l0_1.length c0_1, .int .i64 a0_2], .int .i64 x16_6] rfl (by (try simp only [List.map_toArray, List.map_cons, List.map_nil]); first | done | rfl | (simp only [List.length_drop, List.length_take]; rfl)) ?_; (with_reducible refine (palinoderef14_Level.calls k6 _ _ l0_0 _ _ l0_1 a0_2 x16_6 t312 _ ?side1 ?side2 ?side3 ?side4 A71.out).mono ?_); (case side1 => repeat (first | exact (Kd.C_below HR0_0.out HB.out) | (with_reducible refine Kd.C_alloc ?_ _) | (with_reducible refine Kd.C_drewN ?_ _) | (with_reducible refine Kd.C_drew ?_))); (case side2 => exact HC0_0.out); (case side3 => repeat (first | exact (Kd.C_below HR0_1.out HB.out) | (with_reducible refine Kd.C_alloc ?_ _) | (with_reducible refine Kd.C_drewN ?_ _) | (with_reducible refine Kd.C_drew ?_))); (case side4 => exact HC0_1.out); rintro e w75 ⟨v313, rfl, ho0, hb⟩; refine ⟨_, rfl, ?_⟩; have n0_ := Aside0.mk (Kd.R_elder' (by (with_reducible repeat (first | apply Kd.R_alloc | apply Kd.R_drewN | apply Kd.R_drew)); exact HO_11.out) (Kd.R_base ho0) hb); have n1_ := Aside0.mk (Kd.R_below (by (with_reducible repeat (first | apply Kd.R_alloc | apply Kd.R_drewN | apply Kd.R_drew)); exact HO_291001.out) hb); have n2_ := Aside0.mk (Kd.R_below (by (with_reducible repeat (first | apply Kd.R_alloc | apply Kd.R_drewN | apply Kd.R_drew)); exact HO_291002.out) hb); have n3_ := Aside0.mk (Kd.R_lower (Kd.R_new' ho0 (Kd.R_lt (by (with_reducible repeat (first | apply Kd.R_alloc | apply Kd.R_drewN | apply Kd.R_drew)); exact HO_11.out))) (blz (by repeat (first | (with_reducible first | exact HB.out | apply blA | apply blN | apply blD | refine blS ?_ GE276.out | refine blS ?_ GE277.out | refine blS ?_ GE290.out) | exact HB.out)))); have n4_ := Aside0.mk (bbl (g := gb276) (o := .cells #[.slice A0_0 l0_0.length c0_0, .slice A0_1 l0_1.length c0_1, .int .i64 a0_2] 25 (0, 0)) (by (with_reducible repeat (first | refine bdN ?_ _ | refine bdD ?_ | refine bdA ?_ _)); exact BK276.out) hb); have n5_ := Aside0.mk (bbl (g := gb277) (o := .cells #[.int .i64 0, .slice none 0 0, .slice none 0 0, .bool false] 28 (0, 0)) (by (with_reducible repeat (first | refine bdN ?_ _ | refine bdD ?_ | refine bdA ?_ _)); exact BK277.out) hb); have n6_ := Aside0.mk (bbl (g := gb290) (o := .cells #[.int .i64 x5_2, u291001, u291002, .bool x291003_6] 28 (0, 0)) (by (with_reducible repeat (first | refine bdN ?_ _ | refine bdD ?_ | refine bdA ?_ _)); exact BK290.out) hb); have n7_ := Aside0.mk (bls (by repeat (first | (with_reducible first | exact HB.out | apply blA | apply blN | apply blD | refine blS ?_ GE276.out | refine blS ?_ GE277.out | refine blS ?_ GE290.out) | exact HB.out)) hb); clear HO_11; clear HO_291001; clear HO_291002; clear BK276; clear BK277; clear BK290; clear HB; have HO_11 := n0_; have HO_291001 := n1_; have HO_291002 := n2_; have HO314 := n3_; have BK276 := n4_; have BK277 := n5_; have BK290 := n6_; have HB := n7_; clear n0_ n1_ n2_ n3_ n4_ n5_ n6_ n7_; (try clear hb); (try clear hb2); (try clear hk); (try clear hi); (try clear ho0)))
                   go_loopg [18] k6 (fun kq v18 w' => ∃ (x18_7 : Int) (x291003_7 : Bool), v18 = .int .i64 x18_7 ∧ Aside0 (palinoderef16_Pick.l5 kq x11_5 x16_6 t312 x18_7 l0_0 l0_1 a0_2 x5_2 x291001_4 x291002_5 x291003_7 = some (r1, r2, r3, r4, r5)) ∧ Aside0 (kq ≤ k6) ∧ Aside0 (Kd.R k48 48 w' w.heap.size (fun k_ => some k_ ≠ (v313 : Value).ownBlock) u11 x11_5) ∧ Aside0 (Kd.R k48 48 w' w.heap.size (fun k_ => some k_ ≠ (u11 : Value).ownBlock) v313 t312) ∧ Aside0 (Kd.R (Kd.int .i64) 3 w' w.heap.size (fun k_ => some k_ ≠ (u291002 : Value).ownBlock) u291001 x291001_4) ∧ Aside0 (Kd.R (Kd.int .i64) 3 w' w.heap.size (fun k_ => some k_ ≠ (u291001 : Value).ownBlock) u291002 x291002_5) ∧ Aside0 (w'.heap[gb276]? = some (.cells #[(.slice A0_0 l0_0.length c0_0), (.slice A0_1 l0_1.length c0_1), .int .i64 a0_2] 25 (0, 0))) ∧ Aside0 (w'.heap[gb277]? = some (.cells #[.int .i64 0, (.slice none 0 0), (.slice none 0 0), .bool false] 28 (0, 0))) ∧ Aside0 (w'.heap[gb290]? = some (.cells #[.int .i64 x5_2, u291001, u291002, .bool x291003_7] 28 (0, 0))) ∧ Aside0 (Below w.heap.size w w'))
                   case atStart => exact ⟨(0), (x291003_6), (by first | rfl | (simp; done) | (simp [*]; done)), H', ⟨Nat.le_refl _⟩, ⟨by (with_reducible repeat (first | apply Kd.R_alloc | apply Kd.R_drewN | apply Kd.R_drew)); exact Kd.R_mono HO_11.out (fun _ hk => hk.2)⟩, ⟨by (with_reducible repeat (first | apply Kd.R_alloc | apply Kd.R_drewN | apply Kd.R_drew)); exact Kd.R_mono HO314.out (fun _ hk => hk.2)⟩, ⟨by (with_reducible repeat (first | apply Kd.R_alloc | apply Kd.R_drewN | apply Kd.R_drew)); exact HO_291001.out⟩, ⟨by (with_reducible repeat (first | apply Kd.R_alloc | apply Kd.R_drewN | apply Kd.R_drew)); exact HO_291002.out⟩, ⟨by (with_reducible repeat (first | refine bdN ?_ _ | refine bdD ?_ | refine bdA ?_ _)); exact BK276.out⟩, ⟨by (with_reducible repeat (first | refine bdN ?_ _ | refine bdD ?_ | refine bdA ?_ _)); exact BK277.out⟩, ⟨by (with_reducible repeat (first | refine bdN ?_ _ | refine bdD ?_ | refine bdA ?_ _)); exact BK290.out⟩, ⟨by repeat (first | (with_reducible first | exact HB.out | apply blA | apply blN | apply blD | refine blS ?_ GE276.out | refine blS ?_ GE277.out | refine blS ?_ GE290.out) | exact HB.out)⟩⟩
                   case round =>
                    clear H'
                    try clear c1
                    try clear c2
                    try clear p2
                    try clear q2
                    try clear hx2
                    try clear c3
                    try clear p3
                    try clear q3
                    try clear hx3
                    try clear c4
                    try clear c5
                    try clear p6
                    try clear c7
                    try clear c8
                    try clear c10
                    try clear c14
                    try clear c14b0
                    try clear c14b1
                    try clear c16
                    try clear c16b0
                    try clear c17
                    try clear c19
                    try clear c21
                    try clear c22
                    try clear c22b0
                    try clear c23
                    try clear c23b0
                    try clear c26
                    try clear c26b0
                    try clear c27
                    try clear c27b0
                    try clear c27b1
                    try clear p28
                    try clear q28
                    try clear hx28
                    try clear p29
                    try clear q29
                    try clear hx29
                    try clear p30
                    try clear q30
                    try clear hx30
                    try clear c31
                    try clear c31b0
                    try clear c32
                    try clear c35
                    try clear c36
                    try clear c38
                    try clear c38b0
                    try clear c39
                    try clear c39b0
                    try clear c40
                    try clear c41
                    try clear c50
                    try clear c51
                    try clear c54
                    try clear c54b0
                    try clear c55
                    try clear c55b0
                    try clear c57
                    try clear c58
                    try clear c59
                    try clear p64
                    try clear c70
                    try clear c70b0
                    try clear c72
                    try clear c73
                    try clear hcz11_0
                    try clear hcz11_1
                    try clear hcz11_2
                    try clear hcz20_0
                    try clear hcz20_1
                    try clear hcz20_2
                    try clear hcz33_0
                    try clear hcz33_1
                    try clear hcz33_2
                    try clear hcz33_3
                    try clear hcz37_0
                    try clear hcz37_1
                    try clear hcz37_2
                    try clear hcz37_3
                    try clear hcz52_0
                    try clear hcz52_1
                    try clear hcz52_2
                    try clear hcz74_0
                    try clear hcz74_1
                    try clear hcz74_2
                    try clear hcz9_0
                    try clear hcz9_1
                    try clear hcz9_2
                    try clear hfz11_0
                    try clear hfz11_1
                    try clear hfz11_2
                    try clear hfz20_0
                    try clear hfz20_1
                    try clear hfz20_2
                    try clear hfz33_0
                    try clear hfz33_1
                    try clear hfz33_2
                    try clear hfz33_3
                    try clear hfz37_0
                    try clear hfz37_1
                    try clear hfz37_2
                    try clear hfz37_3
                    try clear hfz52_0
                    try clear hfz52_1
                    try clear hfz52_2
                    try clear hfz74_0
                    try clear hfz74_1
                    try clear hfz74_2
                    try clear hfz9_0
                    try clear hfz9_1
                    try clear hfz9_2
                    try clear hx285_0
                    try clear hx285_1
                    try clear hx285_2
                    try clear hx285_3
                    try clear hx285_4
                    try clear hx291_0
                    try clear hx291_1
                    try clear hx291_2
                    try clear hx291_3
                    try clear hx291_4
                    try clear hx295_0
                    try clear hx295_1
                    try clear hx295_2
                    try clear hx295_3
                    try clear hx295_4
                    try clear hx302_0
                    try clear hx302_1
                    try clear hx302_2
                    try clear hx302_3
                    try clear hx302_4
                    try clear hx304_0
                    try clear hx304_1
                    try clear hx304_2
                    try clear hx304_3
                    try clear hx304_4
                    try clear hx308_0
                    try clear hx308_1
                    try clear hx308_2
                    try clear hx308_3
                    try clear hx308_4
                    try clear p2
                    try clear p28
                    try clear p285
                    try clear p29
                    try clear p291
                    try clear p295
                    try clear p3
                    try clear p30
                    try clear p302
                    try clear p304
                    try clear p308
                    try clear p6
                    try clear p64
                    try clear q2
                    try clear q28
                    try clear q285
                    try clear q29
                    try clear q291
                    try clear q295
                    try clear q3
                    try clear q30
                    try clear q302
                    try clear q304
                    try clear q308
                    obtain ⟨x18_7, x291003_7, rfl, HA, HK7, HO_11, HO_17, HO_291001, HO_291002, BK276, BK277, BK290, HB⟩ := hrel
                    cases gk with
                    | zero => exact absurd HA.out (by simp [palinoderef16_Pick.l5])
                    | succ k7 =>
                     have H := HA.out
                     clear HA
                     simp only [palinoderef16_Pick.l5] at H
                     by_cases c76 : x18_7 < (t312.length : Int)
                     ·rw [if_pos c76] at H
                      have c76b0 : decide (x18_7 < (t312.length : Int)) = true := decide_eq_true c76
                      clear c76
                      by_cases c77 : 0 ≤ x18_7
                      ·rw [if_pos c77] at H
                       have c77b0 : decide (0 ≤ x18_7) = true := decide_eq_true c77
                       clear c77
                       replace H := Option.bind_eq_some_iff.mp H
                       obtain ⟨t316, A780, H⟩ := H
                       replace H : (if x291003_7 = true then (palinoderef16_Pick.l5 k7 x11_5 x16_6 t312 (wrap64 (x18_7 + 1)) l0_0 l0_1 a0_2 x5_2 x291001_4 x291002_5 (!t316)) else (palinoderef16_Pick.l5 k7 x11_5 x16_6 t312 (wrap64 (x18_7 + 1)) l0_0 l0_1 a0_2 x5_2 x291001_4 x291002_5 false)) = some (r1, r2, r3, r4, r5) := H
                       have A78 := Aside0.mk A780
                       clear A780
                       by_cases c79 : x291003_7 = true
                       ·subst c79
                        have H1 : (palinoderef16_Pick.l5 k7 x11_5 x16_6 t312 (wrap64 (x18_7 + 1)) l0_0 l0_1 a0_2 x5_2 x291001_4 x291002_5 (!t316)) = some (r1, r2, r3, r4, r5) := by rw [if_pos rfl] at H; exact H
                        clear H
                        have H := H1
                        clear H1
                        have H' := Aside0.mk H
                        clear H
                        obtain ⟨Ao80, co80, eo80⟩ := Kd.R_slice HO_17.out
                        subst eo80
                        have p315 : 0 ≤ (x18_7 : Int) := of_decide_eq_true (by first | (with_reducible assumption) | assumption)
                        have q315 : x18_7 < (t312.length : Int) := of_decide_eq_true (by first | (with_reducible assumption) | assumption)
                        obtain ⟨ad315, e315, hx315_0, hx315_1, hx315_2, hx315_3, hx315_4⟩ := at_T48 (Kd.R_reads' HO_17.out).2.2 x18_7 p315 q315
                        cases e315
                        replace p315 := eq_true p315
                        replace q315 := eq_true q315
                        obtain ⟨Ao81, co81, eo81⟩ := Kd.R_slice HO_11.out
                        subst eo81
                        go_wp2_with (first | ((with_reducible refine gate_callee (f := 23) rfl ?_); refine goesL_ (some 143) rfl rfl Try.func23 (by kernel_rfl) rfl #[.agg #[.int .i64 ((rd_T48 t312 x18_7).f0), .int .i64 ((rd_T48 t312 x18_7).f1), .string ((rd_T48 t312 x18_7).f2), .string ((rd_T48 t312 x18_7).f3), .int .i64 ((rd_T48 t312 x18_7).f4)], .slice Ao81 x11_5.length co81] rfl (by (try simp only [List.map_toArray, List.map_cons, List.map_nil]); first | done | rfl | (simp only [List.length_drop, List.length_take]; rfl)) ?_; (with_reducible refine (palinoderef16_meets.calls k7 ((rd_T48 t312 x18_7).f0) ((rd_T48 t312 x18_7).f1) ((rd_T48 t312 x18_7).f2) ((rd_T48 t312 x18_7).f3) ((rd_T48 t312 x18_7).f4) _ _ x11_5 t316 _ ?side1 ?side2 A78.out).mono ?_); (case side1 => repeat (first | exact (Kd.R_reads' HO_11.out).2.2 | (with_reducible refine Kd.C_alloc ?_ _) | (with_reducible refine Kd.C_drewN ?_ _) | (with_reducible refine Kd.C_drew ?_))); (case side2 => exact (Kd.R_reads' HO_11.out).2.1); rintro e w82 ⟨rfl, hb⟩; refine ⟨_, rfl, ?_⟩; have n0_ := Aside0.mk (Kd.R_below (by (with_reducible repeat (first | apply Kd.R_alloc | apply Kd.R_drewN | apply Kd.R_drew)); exact HO_11.out) hb); have n1_ := Aside0.mk (Kd.R_below (by (with_reducible repeat (first | apply Kd.R_alloc | apply Kd.R_drewN | apply Kd.R_drew)); exact HO_17.out) hb); have n2_ := Aside0.mk (Kd.R_below (by (with_reducible repeat (first | apply Kd.R_alloc | apply Kd.R_drewN | apply Kd.R_drew)); exact HO_291001.out) hb); have n3_ := Aside0.mk (Kd.R_below (by (with_reducible repeat (first | apply Kd.R_alloc | apply Kd.R_drewN | apply Kd.R_drew)); exact HO_291002.out) hb); have n4_ := Aside0.mk (bbl (g := gb276) (o := .cells #[.slice A0_0 l0_0.length c0_0, .slice A0_1 l0_1.length c0_1, .int .i64 a0_2] 25 (0, 0)) (by (with_reducible repeat (first | refine bdN ?_ _ | refine bdD ?_ | refine bdA ?_ _)); exact BK276.out) hb); have n5_ := Aside0.mk (bbl (g := gb277) (o := .cells #[.int .i64 0, .slice none 0 0, .slice none 0 0, .bool false] 28 (0, 0)) (by (with_reducible repeat (first | refine bdN ?_ _ | refine bdD ?_ | refine bdA ?_ _)); exact BK277.out) hb); have n6_ := Aside0.mk (bbl (g := gb290) (o := .cells #[.int .i64 x5_2, u291001, u291002, .bool true] 28 (0, 0)) (by (with_reducible repeat (first | refine bdN ?_ _ | refine bdD ?_ | refine bdA ?_ _)); exact BK290.out) hb); have n7_ := Aside0.mk (bls (by repeat (first | (with_reducible first | exact HB.out | apply blA | apply blN | apply blD | refine blS ?_ GE276.out | refine blS ?_ GE277.out | refine blS ?_ GE290.out) | exact HB.out)) hb); clear HO_11; clear HO_17; clear HO_291001; clear HO_291002; clear BK276; clear BK277; clear BK290; clear HB; have HO_11 := n0_; have HO_17 := n1_; have HO_291001 := n2_; have HO_291002 := n3_; have BK276 := n4_; have BK277 := n5_; have BK290 := n6_; have HB := n7_; clear n0_ n1_ n2_ n3_ n4_ n5_ n6_ n7_; (try clear hb); (try clear hb2); (try clear hk); (try clear hi); have hnb83 := NB290_276.out; have hnc83 := NB276_290.out; have hnb84 := NB290_277.out; have hnc84 := NB277_290.out; have hcz85_0 : w82.cell? ⟨gb290, 0, none⟩ = some (.int .i64 x5_2) := (bcl BK290.out 0).trans rfl; have hcz85_1 : w82.cell? ⟨gb290, 1, none⟩ = some (u291001) := (bcl BK290.out 1).trans rfl; have hcz85_2 : w82.cell? ⟨gb290, 2, none⟩ = some (u291002) := (bcl BK290.out 2).trans rfl; have hcz85_3 : w82.cell? ⟨gb290, 3, none⟩ = some (.bool true) := (bcl BK290.out 3).trans rfl; have hfz85_0 := bfz BK290.out 0; have hfz85_1 := bfz BK290.out 1; have hfz85_2 := bfz BK290.out 2; have hfz85_3 := bfz BK290.out 3))
                        go_roundg k7
                        case measure => have := HJ4.out; have := HK2.out; have := HJ14.out; have := HK4.out; have := HK5.out; have := HK6.out; have := HK7.out; omega
                        case rel => exact ⟨(wrap64 (x18_7 + 1)), (!t316), (by first | rfl | (simp; done) | (simp [*]; done)), H', ⟨by have := HJ4.out; have := HK2.out; have := HJ14.out; have := HK4.out; have := HK5.out; have := HK6.out; have := HK7.out; omega⟩, ⟨by (with_reducible repeat (first | apply Kd.R_alloc | apply Kd.R_drewN | apply Kd.R_drew)); exact Kd.R_mono (Kd.R_far (p := ⟨gb290, 3, none⟩) (Kd.R_types HO_11.out BK290.out (by decide)) (fun _ hk => hk.2) (.bool (!t316))) (fun _ hk => hk.1)⟩, ⟨by (with_reducible repeat (first | apply Kd.R_alloc | apply Kd.R_drewN | apply Kd.R_drew)); exact Kd.R_mono (Kd.R_far (p := ⟨gb290, 3, none⟩) (Kd.R_types HO_17.out BK290.out (by decide)) (fun _ hk => hk.2) (.bool (!t316))) (fun _ hk => hk.1)⟩, ⟨by (with_reducible repeat (first | apply Kd.R_alloc | apply Kd.R_drewN | apply Kd.R_drew)); exact Kd.R_mono (Kd.R_far (p := ⟨gb290, 3, none⟩) (Kd.R_types HO_291001.out BK290.out (by decide)) (fun _ hk => hk.2) (.bool (!t316))) (fun _ hk => hk.1)⟩, ⟨by (with_reducible repeat (first | apply Kd.R_alloc | apply Kd.R_drewN | apply Kd.R_drew)); exact Kd.R_mono (Kd.R_far (p := ⟨gb290, 3, none⟩) (Kd.R_types HO_291002.out BK290.out (by decide)) (fun _ hk => hk.2) (.bool (!t316))) (fun _ hk => hk.1)⟩, ⟨by (with_reducible repeat (first | refine bdN ?_ _ | refine bdD ?_ | refine bdA ?_ _)); refine blk_far ?_ NB276_290.out _; (with_reducible repeat (first | refine bdN ?_ _ | refine bdD ?_ | refine bdA ?_ _)); exact BK276.out⟩, ⟨by (with_reducible repeat (first | refine bdN ?_ _ | refine bdD ?_ | refine bdA ?_ _)); refine blk_far ?_ NB277_290.out _; (with_reducible repeat (first | refine bdN ?_ _ | refine bdD ?_ | refine bdA ?_ _)); exact BK277.out⟩, ⟨by (with_reducible repeat (first | refine bdN ?_ _ | refine bdD ?_ | refine bdA ?_ _)); refine blk_put (cs := #[.int .i64 x5_2, u291001, u291002, .bool true]) ?_ 3 _ rfl; (with_reducible repeat (first | refine bdN ?_ _ | refine bdD ?_ | refine bdA ?_ _)); exact BK290.out⟩, ⟨by repeat (first | (with_reducible first | exact HB.out | apply blA | apply blN | apply blD | refine blS ?_ GE276.out | refine blS ?_ GE277.out | refine blS ?_ GE290.out) | exact HB.out)⟩⟩
                       ·replace c79 := Bool.eq_false_iff.mpr c79
                        subst c79
                        have H1 : (palinoderef16_Pick.l5 k7 x11_5 x16_6 t312 (wrap64 (x18_7 + 1)) l0_0 l0_1 a0_2 x5_2 x291001_4 x291002_5 false) = some (r1, r2, r3, r4, r5) := by rw [if_neg (show ¬ (false = true) by decide)] at H; exact H
                        clear H
                        have H := H1
                        clear H1
                        have H' := Aside0.mk H
                        clear H
                        obtain ⟨Ao86, co86, eo86⟩ := Kd.R_slice HO_17.out
                        subst eo86
                        have p315 : 0 ≤ (x18_7 : Int) := of_decide_eq_true (by first | (with_reducible assumption) | assumption)
                        have q315 : x18_7 < (t312.length : Int) := of_decide_eq_true (by first | (with_reducible assumption) | assumption)
                        obtain ⟨ad315, e315, hx315_0, hx315_1, hx315_2, hx315_3, hx315_4⟩ := at_T48 (Kd.R_reads' HO_17.out).2.2 x18_7 p315 q315
                        cases e315
                        replace p315 := eq_true p315
                        replace q315 := eq_true q315
                        obtain ⟨Ao87, co87, eo87⟩ := Kd.R_slice HO_11.out
                        subst eo87
                        go_wp2_with (first | ((with_reducible refine gate_callee (f := 23) rfl ?_); refine goesL_ (some 143) rfl rfl Try.func23 (by kernel_rfl) rfl #[.agg #[.int .i64 ((rd_T48 t312 x18_7).f0), .int .i64 ((rd_T48 t312 x18_7).f1), .string ((rd_T48 t312 x18_7).f2), .string ((rd_T48 t312 x18_7).f3), .int .i64 ((rd_T48 t312 x18_7).f4)], .slice Ao87 x11_5.length co87] rfl (by (try simp only [List.map_toArray, List.map_cons, List.map_nil]); first | done | rfl | (simp only [List.length_drop, List.length_take]; rfl)) ?_; (with_reducible refine (palinoderef16_meets.calls k7 ((rd_T48 t312 x18_7).f0) ((rd_T48 t312 x18_7).f1) ((rd_T48 t312 x18_7).f2) ((rd_T48 t312 x18_7).f3) ((rd_T48 t312 x18_7).f4) _ _ x11_5 t316 _ ?side1 ?side2 A78.out).mono ?_); (case side1 => repeat (first | exact (Kd.R_reads' HO_11.out).2.2 | (with_reducible refine Kd.C_alloc ?_ _) | (with_reducible refine Kd.C_drewN ?_ _) | (with_reducible refine Kd.C_drew ?_))); (case side2 => exact (Kd.R_reads' HO_11.out).2.1); rintro e w88 ⟨rfl, hb⟩; refine ⟨_, rfl, ?_⟩; have n0_ := Aside0.mk (Kd.R_below (by (with_reducible repeat (first | apply Kd.R_alloc | apply Kd.R_drewN | apply Kd.R_drew)); exact HO_11.out) hb); have n1_ := Aside0.mk (Kd.R_below (by (with_reducible repeat (first | apply Kd.R_alloc | apply Kd.R_drewN | apply Kd.R_drew)); exact HO_17.out) hb); have n2_ := Aside0.mk (Kd.R_below (by (with_reducible repeat (first | apply Kd.R_alloc | apply Kd.R_drewN | apply Kd.R_drew)); exact HO_291001.out) hb); have n3_ := Aside0.mk (Kd.R_below (by (with_reducible repeat (first | apply Kd.R_alloc | apply Kd.R_drewN | apply Kd.R_drew)); exact HO_291002.out) hb); have n4_ := Aside0.mk (bbl (g := gb276) (o := .cells #[.slice A0_0 l0_0.length c0_0, .slice A0_1 l0_1.length c0_1, .int .i64 a0_2] 25 (0, 0)) (by (with_reducible repeat (first | refine bdN ?_ _ | refine bdD ?_ | refine bdA ?_ _)); exact BK276.out) hb); have n5_ := Aside0.mk (bbl (g := gb277) (o := .cells #[.int .i64 0, .slice none 0 0, .slice none 0 0, .bool false] 28 (0, 0)) (by (with_reducible repeat (first | refine bdN ?_ _ | refine bdD ?_ | refine bdA ?_ _)); exact BK277.out) hb); have n6_ := Aside0.mk (bbl (g := gb290) (o := .cells #[.int .i64 x5_2, u291001, u291002, .bool false] 28 (0, 0)) (by (with_reducible repeat (first | refine bdN ?_ _ | refine bdD ?_ | refine bdA ?_ _)); exact BK290.out) hb); have n7_ := Aside0.mk (bls (by repeat (first | (with_reducible first | exact HB.out | apply blA | apply blN | apply blD | refine blS ?_ GE276.out | refine blS ?_ GE277.out | refine blS ?_ GE290.out) | exact HB.out)) hb); clear HO_11; clear HO_17; clear HO_291001; clear HO_291002; clear BK276; clear BK277; clear BK290; clear HB; have HO_11 := n0_; have HO_17 := n1_; have HO_291001 := n2_; have HO_291002 := n3_; have BK276 := n4_; have BK277 := n5_; have BK290 := n6_; have HB := n7_; clear n0_ n1_ n2_ n3_ n4_ n5_ n6_ n7_; (try clear hb); (try clear hb2); (try clear hk); (try clear hi); have hnb89 := NB290_276.out; have hnc89 := NB276_290.out; have hnb90 := NB290_277.out; have hnc90 := NB277_290.out; have hcz91_0 : w88.cell? ⟨gb290, 0, none⟩ = some (.int .i64 x5_2) := (bcl BK290.out 0).trans rfl; have hcz91_1 : w88.cell? ⟨gb290, 1, none⟩ = some (u291001) := (bcl BK290.out 1).trans rfl; have hcz91_2 : w88.cell? ⟨gb290, 2, none⟩ = some (u291002) := (bcl BK290.out 2).trans rfl; have hcz91_3 : w88.cell? ⟨gb290, 3, none⟩ = some (.bool false) := (bcl BK290.out 3).trans rfl; have hfz91_0 := bfz BK290.out 0; have hfz91_1 := bfz BK290.out 1; have hfz91_2 := bfz BK290.out 2; have hfz91_3 := bfz BK290.out 3))
                        go_roundg k7
                        case measure => have := HJ4.out; have := HK2.out; have := HJ14.out; have := HK4.out; have := HK5.out; have := HK6.out; have := HK7.out; omega
                        case rel => exact ⟨(wrap64 (x18_7 + 1)), (false), (by first | rfl | (simp; done) | (simp [*]; done)), H', ⟨by have := HJ4.out; have := HK2.out; have := HJ14.out; have := HK4.out; have := HK5.out; have := HK6.out; have := HK7.out; omega⟩, ⟨by (with_reducible repeat (first | apply Kd.R_alloc | apply Kd.R_drewN | apply Kd.R_drew)); exact Kd.R_mono (Kd.R_far (p := ⟨gb290, 3, none⟩) (Kd.R_types HO_11.out BK290.out (by decide)) (fun _ hk => hk.2) (.bool false)) (fun _ hk => hk.1)⟩, ⟨by (with_reducible repeat (first | apply Kd.R_alloc | apply Kd.R_drewN | apply Kd.R_drew)); exact Kd.R_mono (Kd.R_far (p := ⟨gb290, 3, none⟩) (Kd.R_types HO_17.out BK290.out (by decide)) (fun _ hk => hk.2) (.bool false)) (fun _ hk => hk.1)⟩, ⟨by (with_reducible repeat (first | apply Kd.R_alloc | apply Kd.R_drewN | apply Kd.R_drew)); exact Kd.R_mono (Kd.R_far (p := ⟨gb290, 3, none⟩) (Kd.R_types HO_291001.out BK290.out (by decide)) (fun _ hk => hk.2) (.bool false)) (fun _ hk => hk.1)⟩, ⟨by (with_reducible repeat (first | apply Kd.R_alloc | apply Kd.R_drewN | apply Kd.R_drew)); exact Kd.R_mono (Kd.R_far (p := ⟨gb290, 3, none⟩) (Kd.R_types HO_291002.out BK290.out (by decide)) (fun _ hk => hk.2) (.bool false)) (fun _ hk => hk.1)⟩, ⟨by (with_reducible repeat (first | refine bdN ?_ _ | refine bdD ?_ | refine bdA ?_ _)); refine blk_far ?_ NB276_290.out _; (with_reducible repeat (first | refine bdN ?_ _ | refine bdD ?_ | refine bdA ?_ _)); exact BK276.out⟩, ⟨by (with_reducible repeat (first | refine bdN ?_ _ | refine bdD ?_ | refine bdA ?_ _)); refine blk_far ?_ NB277_290.out _; (with_reducible repeat (first | refine bdN ?_ _ | refine bdD ?_ | refine bdA ?_ _)); exact BK277.out⟩, ⟨by (with_reducible repeat (first | refine bdN ?_ _ | refine bdD ?_ | refine bdA ?_ _)); refine blk_put (cs := #[.int .i64 x5_2, u291001, u291002, .bool false]) ?_ 3 _ rfl; (with_reducible repeat (first | refine bdN ?_ _ | refine bdD ?_ | refine bdA ?_ _)); exact BK290.out⟩, ⟨by repeat (first | (with_reducible first | exact HB.out | apply blA | apply blN | apply blD | refine blS ?_ GE276.out | refine blS ?_ GE277.out | refine blS ?_ GE290.out) | exact HB.out)⟩⟩
                      ·rw [if_neg c77] at H
                       exact absurd H (by simp)
                     ·rw [if_neg c76] at H
                      have c76b0 : decide (x18_7 < (t312.length : Int)) = false := decide_eq_false c76
                      clear c76
                      have H' := Aside0.mk H
                      clear H
                      obtain ⟨Ao92, co92, eo92⟩ := Kd.R_slice HO_17.out
                      subst eo92
                      go_wp2
                      go_roundg k7
                      case measure => have := HJ4.out; have := HK2.out; have := HJ14.out; have := HK4.out; have := HK5.out; have := HK6.out; have := HK7.out; omega
                      case rel => exact ⟨(wrap64 (x16_6 + 1)), (x291003_7), (by first | rfl | (simp; done) | (simp [*]; done)), H', ⟨by have := HJ4.out; have := HK2.out; have := HJ14.out; have := HK4.out; have := HK5.out; have := HK6.out; have := HK7.out; omega⟩, ⟨by (with_reducible repeat (first | apply Kd.R_alloc | apply Kd.R_drewN | apply Kd.R_drew)); exact Kd.R_mono HO_11.out (fun _ hk => trivial)⟩, ⟨by (with_reducible repeat (first | apply Kd.R_alloc | apply Kd.R_drewN | apply Kd.R_drew)); exact HO_291001.out⟩, ⟨by (with_reducible repeat (first | apply Kd.R_alloc | apply Kd.R_drewN | apply Kd.R_drew)); exact HO_291002.out⟩, ⟨by (with_reducible repeat (first | refine bdN ?_ _ | refine bdD ?_ | refine bdA ?_ _)); exact BK276.out⟩, ⟨by (with_reducible repeat (first | refine bdN ?_ _ | refine bdD ?_ | refine bdA ?_ _)); exact BK277.out⟩, ⟨by (with_reducible repeat (first | refine bdN ?_ _ | refine bdD ?_ | refine bdA ?_ _)); exact BK290.out⟩, ⟨by repeat (first | (with_reducible first | exact HB.out | apply blA | apply blN | apply blD | refine blS ?_ GE276.out | refine blS ?_ GE277.out | refine blS ?_ GE290.out) | exact HB.out)⟩⟩
                  ·rw [if_neg c70] at H
                   have c70b0 : decide (x16_6 < 4) = false := decide_eq_false c70
                   clear c70
                   simp only [Option.some.injEq, Prod.mk.injEq] at H
                   obtain ⟨rfl, rfl, rfl, rfl, rfl⟩ := H
                   have hnb93 := NB290_276.out
                   have hnc93 := NB276_290.out
                   have hnb94 := NB290_277.out
                   have hnc94 := NB277_290.out
                   have hcz95_0 : wr.cell? ⟨gb290, 0, none⟩ = some (.int .i64 x5_2) := (bcl BK290.out 0).trans rfl
                   have hcz95_1 : wr.cell? ⟨gb290, 1, none⟩ = some (u291001) := (bcl BK290.out 1).trans rfl
                   have hcz95_2 : wr.cell? ⟨gb290, 2, none⟩ = some (u291002) := (bcl BK290.out 2).trans rfl
                   have hcz95_3 : wr.cell? ⟨gb290, 3, none⟩ = some (.bool x291003_6) := (bcl BK290.out 3).trans rfl
                   have hfz95_0 := bfz BK290.out 0
                   have hfz95_1 := bfz BK290.out 1
                   have hfz95_2 := bfz BK290.out 2
                   have hfz95_3 := bfz BK290.out 3
                   have hnb96 := NB277_276.out
                   have hnc96 := NB276_277.out
                   have hcz97_0 : wr.cell? ⟨gb277, 0, none⟩ = some (.int .i64 0) := (bcl BK277.out 0).trans rfl
                   have hcz97_1 : wr.cell? ⟨gb277, 1, none⟩ = some (.slice none 0 0) := (bcl BK277.out 1).trans rfl
                   have hcz97_2 : wr.cell? ⟨gb277, 2, none⟩ = some (.slice none 0 0) := (bcl BK277.out 2).trans rfl
                   have hcz97_3 : wr.cell? ⟨gb277, 3, none⟩ = some (.bool false) := (bcl BK277.out 3).trans rfl
                   have hfz97_0 := bfz BK277.out 0
                   have hfz97_1 := bfz BK277.out 1
                   have hfz97_2 := bfz BK277.out 2
                   have hfz97_3 := bfz BK277.out 3
                   obtain ⟨Ao98, co98, eo98⟩ := Kd.R_slice HO_291001.out
                   subst eo98
                   obtain ⟨Ao99, co99, eo99⟩ := Kd.R_slice HO_291002.out
                   subst eo99
                   go_wp2
                   refine bodyPost_ret (results_ct rfl _ _ gb277 28 #[.int .i64 x5_2, .slice Ao98 x291001_4.length co98, .slice Ao99 x291002_5.length co99, .bool x291003_6] (0, 0) _ rfl (by (with_reducible repeat (first | refine bdN ?_ _ | refine bdD ?_ | refine bdA ?_ _)); refine blk_put (cs := #[.int .i64 x5_2, .slice Ao98 x291001_4.length co98, .slice Ao99 x291002_5.length co99, .bool false]) ?_ 3 _ rfl; (with_reducible repeat (first | refine bdN ?_ _ | refine bdD ?_ | refine bdA ?_ _)); refine blk_put (cs := #[.int .i64 x5_2, .slice Ao98 x291001_4.length co98, .slice none 0 0, .bool false]) ?_ 2 _ rfl; (with_reducible repeat (first | refine bdN ?_ _ | refine bdD ?_ | refine bdA ?_ _)); refine blk_put (cs := #[.int .i64 x5_2, .slice none 0 0, .slice none 0 0, .bool false]) ?_ 1 _ rfl; (with_reducible repeat (first | refine bdN ?_ _ | refine bdD ?_ | refine bdA ?_ _)); refine blk_put (cs := #[.int .i64 0, .slice none 0 0, .slice none 0 0, .bool false]) ?_ 0 _ rfl; (with_reducible repeat (first | refine bdN ?_ _ | refine bdD ?_ | refine bdA ?_ _)); exact BK277.out) Try.underlying28 rfl (by kernel_rfl)) rfl ?_
                   exact ⟨_, _, by first | rfl | (simp [errW_none, errW_some] <;> rfl) | (simp [*, errW_none, errW_some] <;> rfl), by (with_reducible repeat (first | apply Kd.R_alloc | apply Kd.R_drewN | apply Kd.R_drew)); exact Kd.R_mono (Kd.R_far (p := ⟨gb277, 3, none⟩) (Kd.R_far (p := ⟨gb277, 2, none⟩) (Kd.R_far (p := ⟨gb277, 1, none⟩) (Kd.R_far (p := ⟨gb277, 0, none⟩) (Kd.R_types HO_291001.out BK277.out (by decide)) (fun _ hk => hk.2) (.int .i64 x5_2)) (fun _ hk => hk.2) (.slice Ao98 x291001_4.length co98)) (fun _ hk => hk.2) (.slice Ao99 x291002_5.length co99)) (fun _ hk => hk.2) (.bool x291003_6)) (fun _ hk => hk.1), by (with_reducible repeat (first | apply Kd.R_alloc | apply Kd.R_drewN | apply Kd.R_drew)); exact Kd.R_mono (Kd.R_far (p := ⟨gb277, 3, none⟩) (Kd.R_far (p := ⟨gb277, 2, none⟩) (Kd.R_far (p := ⟨gb277, 1, none⟩) (Kd.R_far (p := ⟨gb277, 0, none⟩) (Kd.R_types HO_291002.out BK277.out (by decide)) (fun _ hk => hk.2) (.int .i64 x5_2)) (fun _ hk => hk.2) (.slice Ao98 x291001_4.length co98)) (fun _ hk => hk.2) (.slice Ao99 x291002_5.length co99)) (fun _ hk => hk.2) (.bool x291003_6)) (fun _ hk => hk.1), by repeat (first | (with_reducible first | exact HB.out | apply blA | apply blN | apply blD | refine blS ?_ GE276.out | refine blS ?_ GE277.out | refine blS ?_ GE290.out) | exact HB.out)⟩
 ·replace c3 := Bool.eq_false_iff.mpr c3
  subst c3
  have H1 : (some (0, ([] : List Int), ([] : List Int), false, false)) = some (r1, r2, r3, r4, r5) := by rw [if_neg (show ¬ (false = true) by decide)] at H; exact H
  clear H
  have H := H1
  clear H1
  simp only [Option.some.injEq, Prod.mk.injEq] at H
  obtain ⟨rfl, rfl, rfl, rfl, rfl⟩ := H
  go_enter Try.func7, Try.ntmps7
  go_wp2_with (first | ((with_reducible refine gate_dst (N := 1) rfl ?_); refine box_event ?hg (N := 1) ?hd (cs := #[.slice A0_0 l0_0.length c0_0, .slice A0_1 l0_1.length c0_1, .int .i64 a0_2]) (t := 25) ?hr ?_; (case hd => rfl); (case hg => rfl); (case hr => first | (go_simp; done) | (go_simp; rfl)); intro gb276 hg w100 hbox hb; have n0_ := Aside0.mk (bls (by repeat (first | (with_reducible first | exact HB.out | apply blA | apply blN | apply blD) | exact HB.out)) hb); have n1_ := Aside0.mk (hbox); have n2_ := Aside0.mk ((by rw [hg]; exact (blz (by repeat (first | (with_reducible first | exact HB.out | apply blA | apply blN | apply blD) | exact HB.out))) : w.heap.size ≤ gb276)); have n3_ := Aside0.mk ((by rw [hg]; exact (blz (by repeat (first | (with_reducible first | exact HB.out | apply blA | apply blN | apply blD) | exact HB.out))) : w.heap.size ≤ gb276)); clear HB; have HB := n0_; have BK276 := n1_; have GW276 := n2_; have GE276 := n3_; clear n0_ n1_ n2_ n3_; clear hb hbox hg) | ((with_reducible refine gate_dst (N := 2) rfl ?_); refine box_event ?hg (N := 2) ?hd (cs := #[.int .i64 0, .slice none 0 0, .slice none 0 0, .bool false]) (t := 28) ?hr ?_; (case hd => rfl); (case hg => rfl); (case hr => first | (go_simp; done) | (go_simp; rfl)); intro gb277 hg w101 hbox hb; have n0_ := Aside0.mk (bbl (g := gb276) (o := .cells #[.slice A0_0 l0_0.length c0_0, .slice A0_1 l0_1.length c0_1, .int .i64 a0_2] 25 (0, 0)) (by (with_reducible repeat (first | refine bdN ?_ _ | refine bdD ?_ | refine bdA ?_ _)); exact BK276.out) hb); have n1_ := Aside0.mk (bls (by repeat (first | (with_reducible first | exact HB.out | apply blA | apply blN | apply blD | refine blS ?_ GE276.out) | exact HB.out)) hb); have n2_ := Aside0.mk (hbox); have n3_ := Aside0.mk ((by rw [hg]; exact (blz (by repeat (first | (with_reducible first | exact HB.out | apply blA | apply blN | apply blD | refine blS ?_ GE276.out) | exact HB.out))) : w.heap.size ≤ gb277)); have n4_ := Aside0.mk ((by rw [hg]; exact (blz (by repeat (first | (with_reducible first | exact HB.out | apply blA | apply blN | apply blD | refine blS ?_ GE276.out) | exact HB.out))) : w.heap.size ≤ gb277)); have n5_ := Aside0.mk ((by rw [hg]; exact Nat.ne_of_lt (blk_lt (g := gb276) (o := .cells #[.slice A0_0 l0_0.length c0_0, .slice A0_1 l0_1.length c0_1, .int .i64 a0_2] 25 (0, 0)) (by (with_reducible repeat (first | refine bdN ?_ _ | refine bdD ?_ | refine bdA ?_ _)); exact BK276.out)) : gb276 ≠ gb277)); have n6_ := Aside0.mk ((by rw [hg]; exact Nat.ne_of_gt (blk_lt (g := gb276) (o := .cells #[.slice A0_0 l0_0.length c0_0, .slice A0_1 l0_1.length c0_1, .int .i64 a0_2] 25 (0, 0)) (by (with_reducible repeat (first | refine bdN ?_ _ | refine bdD ?_ | refine bdA ?_ _)); exact BK276.out)) : gb277 ≠ gb276)); clear BK276; clear HB; have BK276 := n0_; have HB := n1_; have BK277 := n2_; have GW277 := n3_; have GE277 := n4_; have NB276_277 := n5_; have NB277_276 := n6_; clear n0_ n1_ n2_ n3_ n4_ n5_ n6_; clear hb hbox hg; have hnb102 := NB276_277.out; have hnc102 := NB277_276.out; have hcz103_0 : w101.cell? ⟨gb276, 0, none⟩ = some (.slice A0_0 l0_0.length c0_0) := (bcl BK276.out 0).trans rfl; have hcz103_1 : w101.cell? ⟨gb276, 1, none⟩ = some (.slice A0_1 l0_1.length c0_1) := (bcl BK276.out 1).trans rfl; have hcz103_2 : w101.cell? ⟨gb276, 2, none⟩ = some (.int .i64 a0_2) := (bcl BK276.out 2).trans rfl; have hfz103_0 := bfz BK276.out 0; have hfz103_1 := bfz BK276.out 1; have hfz103_2 := bfz BK276.out 2) | ((with_reducible refine gate_callee (f := 21) rfl ?_); refine goesL_ (some 21) rfl rfl Try.func21 (by kernel_rfl) rfl #[.agg #[.slice A0_0 l0_0.length c0_0, .slice A0_1 l0_1.length c0_1, .int .i64 a0_2]] rfl (by (try simp only [List.map_toArray, List.map_cons, List.map_nil]); first | done | rfl | (simp only [List.length_drop, List.length_take]; rfl)) ?_; (with_reducible refine (palinoderef14_Right.calls k _ _ l0_0 _ _ l0_1 a0_2 false _ ?side1 ?side2 ?side3 ?side4 A2.out).mono ?_); (case side1 => repeat (first | exact (Kd.C_below HR0_0.out HB.out) | (with_reducible refine Kd.C_alloc ?_ _) | (with_reducible refine Kd.C_drewN ?_ _) | (with_reducible refine Kd.C_drew ?_))); (case side2 => exact HC0_0.out); (case side3 => repeat (first | exact (Kd.C_below HR0_1.out HB.out) | (with_reducible refine Kd.C_alloc ?_ _) | (with_reducible refine Kd.C_drewN ?_ _) | (with_reducible refine Kd.C_drew ?_))); (case side4 => exact HC0_1.out); rintro e w104 ⟨rfl, hb⟩; refine ⟨_, rfl, ?_⟩; have n0_ := Aside0.mk (bbl (g := gb276) (o := .cells #[.slice A0_0 l0_0.length c0_0, .slice A0_1 l0_1.length c0_1, .int .i64 a0_2] 25 (0, 0)) (by (with_reducible repeat (first | refine bdN ?_ _ | refine bdD ?_ | refine bdA ?_ _)); exact BK276.out) hb); have n1_ := Aside0.mk (bbl (g := gb277) (o := .cells #[.int .i64 0, .slice none 0 0, .slice none 0 0, .bool false] 28 (0, 0)) (by (with_reducible repeat (first | refine bdN ?_ _ | refine bdD ?_ | refine bdA ?_ _)); exact BK277.out) hb); have n2_ := Aside0.mk (bls (by repeat (first | (with_reducible first | exact HB.out | apply blA | apply blN | apply blD | refine blS ?_ GE276.out | refine blS ?_ GE277.out) | exact HB.out)) hb); clear BK276; clear BK277; clear HB; have BK276 := n0_; have BK277 := n1_; have HB := n2_; clear n0_ n1_ n2_; (try clear hb); (try clear hb2); (try clear hk); (try clear hi); have hcz105_0 : w104.cell? ⟨gb277, 0, none⟩ = some (.int .i64 0) := (bcl BK277.out 0).trans rfl; have hcz105_1 : w104.cell? ⟨gb277, 1, none⟩ = some (.slice none 0 0) := (bcl BK277.out 1).trans rfl; have hcz105_2 : w104.cell? ⟨gb277, 2, none⟩ = some (.slice none 0 0) := (bcl BK277.out 2).trans rfl; have hcz105_3 : w104.cell? ⟨gb277, 3, none⟩ = some (.bool false) := (bcl BK277.out 3).trans rfl; have hfz105_0 := bfz BK277.out 0; have hfz105_1 := bfz BK277.out 1; have hfz105_2 := bfz BK277.out 2; have hfz105_3 := bfz BK277.out 3))
  refine bodyPost_ret (results_ct rfl _ _ gb277 28 #[.int .i64 0, .slice none 0 0, .slice none 0 0, .bool false] (0, 0) _ rfl (by (with_reducible repeat (first | refine bdN ?_ _ | refine bdD ?_ | refine bdA ?_ _)); refine blk_put (cs := #[.int .i64 0, .slice none 0 0, .slice none 0 0, .bool false]) ?_ 3 _ rfl; (with_reducible repeat (first | refine bdN ?_ _ | refine bdD ?_ | refine bdA ?_ _)); refine blk_put (cs := #[.int .i64 0, .slice none 0 0, .slice none 0 0, .bool false]) ?_ 2 _ rfl; (with_reducible repeat (first | refine bdN ?_ _ | refine bdD ?_ | refine bdA ?_ _)); refine blk_put (cs := #[.int .i64 0, .slice none 0 0, .slice none 0 0, .bool false]) ?_ 1 _ rfl; (with_reducible repeat (first | refine bdN ?_ _ | refine bdD ?_ | refine bdA ?_ _)); refine blk_put (cs := #[.int .i64 0, .slice none 0 0, .slice none 0 0, .bool false]) ?_ 0 _ rfl; (with_reducible repeat (first | refine bdN ?_ _ | refine bdD ?_ | refine bdA ?_ _)); exact BK277.out) Try.underlying28 rfl (by kernel_rfl)) rfl ?_
  exact ⟨_, _, by first | rfl | (simp [errW_none, errW_some] <;> rfl) | (simp [*, errW_none, errW_some] <;> rfl), by first | exact Kd.R_nil _ _ _ _ _ | exact Kd.N_nil _ _ _ _ _ | exact Kd.V_nil _ _ _ _ _ | exact Kd.Q_nil _ _ _ _ _ | exact Kd.S_nil _ _ _ _ _, by first | exact Kd.R_nil _ _ _ _ _ | exact Kd.N_nil _ _ _ _ _ | exact Kd.V_nil _ _ _ _ _ | exact Kd.Q_nil _ _ _ _ _ | exact Kd.S_nil _ _ _ _ _, by repeat (first | (with_reducible first | exact HB.out | apply blA | apply blN | apply blD | refine blS ?_ GE276.out | refine blS ?_ GE277.out) | exact HB.out)⟩
end Go.Proofs.Ytonhjkghpkhioaa.PA

-- printed by a program of this session (wip/myprint.py), after the kit's print
import Derived.Test.YtoonheembcejfaaPAx0
import Derived.Test.YtoonheembcejfaaPAx2
import Derived.Test.YtoonheembcejfaaPAx8
namespace Go.Proofs.Ytoonheembcejfaa.PA
open Go.RowKit Go.Proofs.YtoonheembcejfaaW.PrintWords Go.Proofs.YtoonheembcejfaaW.PrintLast Go.Proofs.YtoonheembcejfaaW.PrintMore
attribute [local go_sem] max2_int min2_int max_two min_two max_three min_three max_four min_four   -- for this text's walks alone
set_option linter.unusedVariables false
set_option linter.unusedSimpArgs false
/-! ### api_Meta_77: function 77 -/
mutual
def api_Meta_77.l0 : Nat → List (S35) → Int → Int → Int → Option ((List (S35)))
 | 0, _, _, _, _ => none
 | k + 1, x0, x1, x10, x11 => if x10 < x11 then (if 0 ≤ (wrap64 ((IntKind.u64.wrap (wrap64 (x10 + x11))) / 2)) then (if (wrap64 ((IntKind.u64.wrap (wrap64 (x10 + x11))) / 2)) < (x0.length : Int) then (if 0 ≤ x1 then (if x1 < (x0.length : Int) then ((version_compare.f k ((rd_T35 x0 (wrap64 ((IntKind.u64.wrap (wrap64 (x10 + x11))) / 2))).f0) ((rd_T35 x0 (wrap64 ((IntKind.u64.wrap (wrap64 (x10 + x11))) / 2))).f1) ((rd_T35 x0 (wrap64 ((IntKind.u64.wrap (wrap64 (x10 + x11))) / 2))).f2) ((rd_T35 x0 (wrap64 ((IntKind.u64.wrap (wrap64 (x10 + x11))) / 2))).f3) ((rd_T35 x0 (wrap64 ((IntKind.u64.wrap (wrap64 (x10 + x11))) / 2))).f4) ((rd_T35 x0 x1).f0) ((rd_T35 x0 x1).f1) ((rd_T35 x0 x1).f2) ((rd_T35 x0 x1).f3) ((rd_T35 x0 x1).f4)).bind fun t162 => (if t162 < 0 then (api_Meta_77.l0 k x0 x1 (wrap64 ((wrap64 ((IntKind.u64.wrap (wrap64 (x10 + x11))) / 2)) + 1)) x11) else (api_Meta_77.l0 k x0 x1 x10 (wrap64 ((IntKind.u64.wrap (wrap64 (x10 + x11))) / 2))))) else (none)) else (none)) else (none)) else (none)) else (api_Meta_77.l1 k x0 x10 x1)
def api_Meta_77.l1 : Nat → List (S35) → Int → Int → Option ((List (S35)))
 | 0, _, _, _ => none
 | k + 1, x0, x10, x13 => if x13 < (wrap64 (x10 - 1)) then (if 0 ≤ (wrap64 (x13 + 1)) then (if (wrap64 (x13 + 1)) < (x0.length : Int) then (if 0 ≤ x13 then (if x13 < (x0.length : Int) then (api_Meta_77.l1 k ((x0.set (x13 : Int).toNat (⟨(rd_T35 x0 (wrap64 (x13 + 1))).f0, (rd_T35 x0 (wrap64 (x13 + 1))).f1, (rd_T35 x0 (wrap64 (x13 + 1))).f2, (rd_T35 x0 (wrap64 (x13 + 1))).f3, (rd_T35 x0 (wrap64 (x13 + 1))).f4⟩ : S35)).set ((wrap64 (x13 + 1)) : Int).toNat (⟨(rd_T35 x0 x13).f0, (rd_T35 x0 x13).f1, (rd_T35 x0 x13).f2, (rd_T35 x0 x13).f3, (rd_T35 x0 x13).f4⟩ : S35)) x10 (wrap64 (x13 + 1))) else (none)) else (none)) else (none)) else (none)) else (some x0)
def api_Meta_77.l2 : Nat → List (S35) → Int → Int → Int → Option ((List (S35)))
 | 0, _, _, _, _ => none
 | k + 1, x0, x2, x14, x15 => if x14 < x15 then (if 0 ≤ x2 then (if x2 < (x0.length : Int) then (if 0 ≤ (wrap64 ((IntKind.u64.wrap (wrap64 (x14 + x15))) / 2)) then (if (wrap64 ((IntKind.u64.wrap (wrap64 (x14 + x15))) / 2)) < (x0.length : Int) then ((version_compare.f k ((rd_T35 x0 x2).f0) ((rd_T35 x0 x2).f1) ((rd_T35 x0 x2).f2) ((rd_T35 x0 x2).f3) ((rd_T35 x0 x2).f4) ((rd_T35 x0 (wrap64 ((IntKind.u64.wrap (wrap64 (x14 + x15))) / 2))).f0) ((rd_T35 x0 (wrap64 ((IntKind.u64.wrap (wrap64 (x14 + x15))) / 2))).f1) ((rd_T35 x0 (wrap64 ((IntKind.u64.wrap (wrap64 (x14 + x15))) / 2))).f2) ((rd_T35 x0 (wrap64 ((IntKind.u64.wrap (wrap64 (x14 + x15))) / 2))).f3) ((rd_T35 x0 (wrap64 ((IntKind.u64.wrap (wrap64 (x14 + x15))) / 2))).f4)).bind fun t169 => (if t169 < 0 then (api_Meta_77.l2 k x0 x2 x14 (wrap64 ((IntKind.u64.wrap (wrap64 (x14 + x15))) / 2))) else (api_Meta_77.l2 k x0 x2 (wrap64 ((wrap64 ((IntKind.u64.wrap (wrap64 (x14 + x15))) / 2)) + 1)) x15))) else (none)) else (none)) else (none)) else (none)) else (api_Meta_77.l3 k x0 x14 x2)
def api_Meta_77.l3 : Nat → List (S35) → Int → Int → Option ((List (S35)))
 | 0, _, _, _ => none
 | k + 1, x0, x14, x17 => if x17 > x14 then (if 0 ≤ (wrap64 (x17 - 1)) then (if (wrap64 (x17 - 1)) < (x0.length : Int) then (if 0 ≤ x17 then (if x17 < (x0.length : Int) then (api_Meta_77.l3 k ((x0.set (x17 : Int).toNat (⟨(rd_T35 x0 (wrap64 (x17 - 1))).f0, (rd_T35 x0 (wrap64 (x17 - 1))).f1, (rd_T35 x0 (wrap64 (x17 - 1))).f2, (rd_T35 x0 (wrap64 (x17 - 1))).f3, (rd_T35 x0 (wrap64 (x17 - 1))).f4⟩ : S35)).set ((wrap64 (x17 - 1)) : Int).toNat (⟨(rd_T35 x0 x17).f0, (rd_T35 x0 x17).f1, (rd_T35 x0 x17).f2, (rd_T35 x0 x17).f3, (rd_T35 x0 x17).f4⟩ : S35)) x14 (wrap64 (x17 - 1))) else (none)) else (none)) else (none)) else (none)) else (some x0)
def api_Meta_77.j4 : Nat → List (S35) → Int → Int → Int → Int → Int → Int → Int → Option ((List (S35)))
 | 0, _, _, _, _, _, _, _, _ => none
 | k + 1, x0, x1, x2, x3, x18, x19, x20, x21 => api_Meta_77.l4 k x0 x1 x2 x3 x18 x19 x20 x21 (wrap64 (x19 - 1))
def api_Meta_77.l4 : Nat → List (S35) → Int → Int → Int → Int → Int → Int → Int → Int → Option ((List (S35)))
 | 0, _, _, _, _, _, _, _, _, _ => none
 | k + 1, x0, x1, x2, x3, x18, x19, x20, x21, x22 => if x20 < x21 then (if 0 ≤ (wrap64 (x22 - (wrap64 ((IntKind.u64.wrap (wrap64 (x20 + x21))) / 2)))) then (if (wrap64 (x22 - (wrap64 ((IntKind.u64.wrap (wrap64 (x20 + x21))) / 2)))) < (x0.length : Int) then (if 0 ≤ (wrap64 ((IntKind.u64.wrap (wrap64 (x20 + x21))) / 2)) then (if (wrap64 ((IntKind.u64.wrap (wrap64 (x20 + x21))) / 2)) < (x0.length : Int) then ((version_compare.f k ((rd_T35 x0 (wrap64 (x22 - (wrap64 ((IntKind.u64.wrap (wrap64 (x20 + x21))) / 2))))).f0) ((rd_T35 x0 (wrap64 (x22 - (wrap64 ((IntKind.u64.wrap (wrap64 (x20 + x21))) / 2))))).f1) ((rd_T35 x0 (wrap64 (x22 - (wrap64 ((IntKind.u64.wrap (wrap64 (x20 + x21))) / 2))))).f2) ((rd_T35 x0 (wrap64 (x22 - (wrap64 ((IntKind.u64.wrap (wrap64 (x20 + x21))) / 2))))).f3) ((rd_T35 x0 (wrap64 (x22 - (wrap64 ((IntKind.u64.wrap (wrap64 (x20 + x21))) / 2))))).f4) ((rd_T35 x0 (wrap64 ((IntKind.u64.wrap (wrap64 (x20 + x21))) / 2))).f0) ((rd_T35 x0 (wrap64 ((IntKind.u64.wrap (wrap64 (x20 + x21))) / 2))).f1) ((rd_T35 x0 (wrap64 ((IntKind.u64.wrap (wrap64 (x20 + x21))) / 2))).f2) ((rd_T35 x0 (wrap64 ((IntKind.u64.wrap (wrap64 (x20 + x21))) / 2))).f3) ((rd_T35 x0 (wrap64 ((IntKind.u64.wrap (wrap64 (x20 + x21))) / 2))).f4)).bind fun t176 => (if t176 < 0 then (api_Meta_77.l4 k x0 x1 x2 x3 x18 x19 x20 (wrap64 ((IntKind.u64.wrap (wrap64 (x20 + x21))) / 2)) x22) else (api_Meta_77.l4 k x0 x1 x2 x3 x18 x19 (wrap64 ((wrap64 ((IntKind.u64.wrap (wrap64 (x20 + x21))) / 2)) + 1)) x21 x22))) else (none)) else (none)) else (none)) else (none)) else (if x20 < x2 then (api_Meta_77.j6 k x0 x1 x2 x3 x18 x20 (wrap64 (x19 - x20)) (decide (x2 < (wrap64 (x19 - x20))))) else (api_Meta_77.j6 k x0 x1 x2 x3 x18 x20 (wrap64 (x19 - x20)) false))
def api_Meta_77.j6 : Nat → List (S35) → Int → Int → Int → Int → Int → Int → Bool → Option ((List (S35)))
 | 0, _, _, _, _, _, _, _, _ => none
 | k + 1, x0, x1, x2, x3, x18, x20, x24, x185 => if x185 = true then ((api_Meta_91.f k x0 x20 x2 x24).bind fun t177 => (api_Meta_77.j7 k t177 x1 x3 x18 x20 x24)) else (api_Meta_77.j7 k x0 x1 x3 x18 x20 x24)
def api_Meta_77.j7 : Nat → List (S35) → Int → Int → Int → Int → Int → Option ((List (S35)))
 | 0, _, _, _, _, _, _ => none
 | k + 1, x0, x1, x3, x18, x20, x24 => if x1 < x20 then (api_Meta_77.j8 k x0 x1 x3 x18 x20 x24 (decide (x20 < x18))) else (api_Meta_77.j8 k x0 x1 x3 x18 x20 x24 false)
def api_Meta_77.j8 : Nat → List (S35) → Int → Int → Int → Int → Int → Bool → Option ((List (S35)))
 | 0, _, _, _, _, _, _, _ => none
 | k + 1, x0, x1, x3, x18, x20, x24, x199 => if x199 = true then ((api_Meta_77.f k x0 x1 x20 x18).bind fun t178 => (if x18 < x24 then (if x24 < x3 then ((api_Meta_77.f k t178 x18 x24 x3).bind fun t179 => (some t179)) else (some t178)) else (some t178))) else (if x18 < x24 then (if x24 < x3 then ((api_Meta_77.f k x0 x18 x24 x3).bind fun t180 => (some t180)) else (some x0)) else (some x0))
def api_Meta_77.f : Nat → List (S35) → Int → Int → Int → Option ((List (S35)))
 | 0, _, _, _, _ => none
 | k + 1, l0, a1, a2, a3 => if (wrap64 (a2 - a1)) = 1 then (api_Meta_77.l0 k l0 a1 a2 a3) else (if (wrap64 (a3 - a2)) = 1 then (api_Meta_77.l2 k l0 a2 a1 a2) else (if a2 > (wrap64 ((IntKind.u64.wrap (wrap64 (a1 + a3))) / 2)) then (api_Meta_77.j4 k l0 a1 a2 a3 (wrap64 ((IntKind.u64.wrap (wrap64 (a1 + a3))) / 2)) (wrap64 ((wrap64 ((IntKind.u64.wrap (wrap64 (a1 + a3))) / 2)) + a2)) (wrap64 ((wrap64 ((wrap64 ((IntKind.u64.wrap (wrap64 (a1 + a3))) / 2)) + a2)) - a3)) (wrap64 ((IntKind.u64.wrap (wrap64 (a1 + a3))) / 2))) else (api_Meta_77.j4 k l0 a1 a2 a3 (wrap64 ((IntKind.u64.wrap (wrap64 (a1 + a3))) / 2)) (wrap64 ((wrap64 ((IntKind.u64.wrap (wrap64 (a1 + a3))) / 2)) + a2)) a1 a2)))
end
theorem api_Meta_77.mono_l : ∀ k, (∀ y0 y1 y2 y3, LeO (api_Meta_77.f k y0 y1 y2 y3) (api_Meta_77.f (k + 1) y0 y1 y2 y3)) ∧ (∀ y0 y1 y2 y3, LeO (api_Meta_77.l0 k y0 y1 y2 y3) (api_Meta_77.l0 (k + 1) y0 y1 y2 y3)) ∧ (∀ y0 y1 y2, LeO (api_Meta_77.l1 k y0 y1 y2) (api_Meta_77.l1 (k + 1) y0 y1 y2)) ∧ (∀ y0 y1 y2 y3, LeO (api_Meta_77.l2 k y0 y1 y2 y3) (api_Meta_77.l2 (k + 1) y0 y1 y2 y3)) ∧ (∀ y0 y1 y2, LeO (api_Meta_77.l3 k y0 y1 y2) (api_Meta_77.l3 (k + 1) y0 y1 y2)) ∧ (∀ y0 y1 y2 y3 y4 y5 y6 y7, LeO (api_Meta_77.j4 k y0 y1 y2 y3 y4 y5 y6 y7) (api_Meta_77.j4 (k + 1) y0 y1 y2 y3 y4 y5 y6 y7)) ∧ (∀ y0 y1 y2 y3 y4 y5 y6 y7 y8, LeO (api_Meta_77.l4 k y0 y1 y2 y3 y4 y5 y6 y7 y8) (api_Meta_77.l4 (k + 1) y0 y1 y2 y3 y4 y5 y6 y7 y8)) ∧ (∀ y0 y1 y2 y3 y4 y5 y6 y7, LeO (api_Meta_77.j6 k y0 y1 y2 y3 y4 y5 y6 y7) (api_Meta_77.j6 (k + 1) y0 y1 y2 y3 y4 y5 y6 y7)) ∧ (∀ y0 y1 y2 y3 y4 y5, LeO (api_Meta_77.j7 k y0 y1 y2 y3 y4 y5) (api_Meta_77.j7 (k + 1) y0 y1 y2 y3 y4 y5)) ∧ (∀ y0 y1 y2 y3 y4 y5 y6, LeO (api_Meta_77.j8 k y0 y1 y2 y3 y4 y5 y6) (api_Meta_77.j8 (k + 1) y0 y1 y2 y3 y4 y5 y6))
 | 0 => ⟨fun _ _ _ _ r h => by simp [api_Meta_77.f] at h, fun _ _ _ _ r h => by simp [api_Meta_77.l0] at h, fun _ _ _ r h => by simp [api_Meta_77.l1] at h, fun _ _ _ _ r h => by simp [api_Meta_77.l2] at h, fun _ _ _ r h => by simp [api_Meta_77.l3] at h, fun _ _ _ _ _ _ _ _ r h => by simp [api_Meta_77.j4] at h, fun _ _ _ _ _ _ _ _ _ r h => by simp [api_Meta_77.l4] at h, fun _ _ _ _ _ _ _ _ r h => by simp [api_Meta_77.j6] at h, fun _ _ _ _ _ _ r h => by simp [api_Meta_77.j7] at h, fun _ _ _ _ _ _ _ r h => by simp [api_Meta_77.j8] at h⟩
 | k + 1 => by
  obtain ⟨ih0, ih1, ih2, ih3, ih4, ih5, ih6, ih7, ih8, ih9⟩ := api_Meta_77.mono_l k
  refine ⟨?_, ?_, ?_, ?_, ?_, ?_, ?_, ?_, ?_, ?_⟩
  ·intro y0 y1 y2 y3
   unfold api_Meta_77.f
   repeat' first
   | (with_reducible exact ih0 _ _ _ _)
   | (with_reducible exact ih1 _ _ _ _)
   | (with_reducible exact ih2 _ _ _)
   | (with_reducible exact ih3 _ _ _ _)
   | (with_reducible exact ih4 _ _ _)
   | (with_reducible exact ih5 _ _ _ _ _ _ _ _)
   | (with_reducible exact ih6 _ _ _ _ _ _ _ _ _)
   | (with_reducible exact ih7 _ _ _ _ _ _ _ _)
   | (with_reducible exact ih8 _ _ _ _ _ _)
   | (with_reducible exact ih9 _ _ _ _ _ _ _)
   | (with_reducible exact api_Meta_91.mono _ _ _ _ _)
   | (with_reducible exact version_compare.mono _ _ _ _ _ _ _ _ _ _ _)
   | (with_reducible exact LeO.refl _)
   | (with_reducible exact LeO.none _)
   | (with_reducible refine LeO.ite ?_ ?_)
   | (with_reducible refine LeO.bind ?_ (fun _ => ?_))
   | exact ih0 _ _ _ _
   | exact ih1 _ _ _ _
   | exact ih2 _ _ _
   | exact ih3 _ _ _ _
   | exact ih4 _ _ _
   | exact ih5 _ _ _ _ _ _ _ _
   | exact ih6 _ _ _ _ _ _ _ _ _
   | exact ih7 _ _ _ _ _ _ _ _
   | exact ih8 _ _ _ _ _ _
   | exact ih9 _ _ _ _ _ _ _
   | exact api_Meta_91.mono _ _ _ _ _
   | exact version_compare.mono _ _ _ _ _ _ _ _ _ _ _
   | exact LeO.none _
   | refine LeO.ite ?_ ?_
   | refine LeO.bind ?_ (fun _ => ?_)
  ·intro y0 y1 y2 y3
   unfold api_Meta_77.l0
   repeat' first
   | (with_reducible exact ih0 _ _ _ _)
   | (with_reducible exact ih1 _ _ _ _)
   | (with_reducible exact ih2 _ _ _)
   | (with_reducible exact ih3 _ _ _ _)
   | (with_reducible exact ih4 _ _ _)
   | (with_reducible exact ih5 _ _ _ _ _ _ _ _)
   | (with_reducible exact ih6 _ _ _ _ _ _ _ _ _)
   | (with_reducible exact ih7 _ _ _ _ _ _ _ _)
   | (with_reducible exact ih8 _ _ _ _ _ _)
   | (with_reducible exact ih9 _ _ _ _ _ _ _)
   | (with_reducible exact api_Meta_91.mono _ _ _ _ _)
   | (with_reducible exact version_compare.mono _ _ _ _ _ _ _ _ _ _ _)
   | (with_reducible exact LeO.refl _)
   | (with_reducible exact LeO.none _)
   | (with_reducible refine LeO.ite ?_ ?_)
   | (with_reducible refine LeO.bind ?_ (fun _ => ?_))
   | exact ih0 _ _ _ _
   | exact ih1 _ _ _ _
   | exact ih2 _ _ _
   | exact ih3 _ _ _ _
   | exact ih4 _ _ _
   | exact ih5 _ _ _ _ _ _ _ _
   | exact ih6 _ _ _ _ _ _ _ _ _
   | exact ih7 _ _ _ _ _ _ _ _
   | exact ih8 _ _ _ _ _ _
   | exact ih9 _ _ _ _ _ _ _
   | exact api_Meta_91.mono _ _ _ _ _
   | exact version_compare.mono _ _ _ _ _ _ _ _ _ _ _
   | exact LeO.none _
   | refine LeO.ite ?_ ?_
   | refine LeO.bind ?_ (fun _ => ?_)
  ·intro y0 y1 y2
   unfold api_Meta_77.l1
   repeat' first
   | (with_reducible exact ih0 _ _ _ _)
   | (with_reducible exact ih1 _ _ _ _)
   | (with_reducible exact ih2 _ _ _)
   | (with_reducible exact ih3 _ _ _ _)
   | (with_reducible exact ih4 _ _ _)
   | (with_reducible exact ih5 _ _ _ _ _ _ _ _)
   | (with_reducible exact ih6 _ _ _ _ _ _ _ _ _)
   | (with_reducible exact ih7 _ _ _ _ _ _ _ _)
   | (with_reducible exact ih8 _ _ _ _ _ _)
   | (with_reducible exact ih9 _ _ _ _ _ _ _)
   | (with_reducible exact api_Meta_91.mono _ _ _ _ _)
   | (with_reducible exact version_compare.mono _ _ _ _ _ _ _ _ _ _ _)
   | (with_reducible exact LeO.refl _)
   | (with_reducible exact LeO.none _)
   | (with_reducible refine LeO.ite ?_ ?_)
   | (with_reducible refine LeO.bind ?_ (fun _ => ?_))
   | exact ih0 _ _ _ _
   | exact ih1 _ _ _ _
   | exact ih2 _ _ _
   | exact ih3 _ _ _ _
   | exact ih4 _ _ _
   | exact ih5 _ _ _ _ _ _ _ _
   | exact ih6 _ _ _ _ _ _ _ _ _
   | exact ih7 _ _ _ _ _ _ _ _
   | exact ih8 _ _ _ _ _ _
   | exact ih9 _ _ _ _ _ _ _
   | exact api_Meta_91.mono _ _ _ _ _
   | exact version_compare.mono _ _ _ _ _ _ _ _ _ _ _
   | exact LeO.none _
   | refine LeO.ite ?_ ?_
   | refine LeO.bind ?_ (fun _ => ?_)
  ·intro y0 y1 y2 y3
   unfold api_Meta_77.l2
   repeat' first
   | (with_reducible exact ih0 _ _ _ _)
   | (with_reducible exact ih1 _ _ _ _)
   | (with_reducible exact ih2 _ _ _)
   | (with_reducible exact ih3 _ _ _ _)
   | (with_reducible exact ih4 _ _ _)
   | (with_reducible exact ih5 _ _ _ _ _ _ _ _)
   | (with_reducible exact ih6 _ _ _ _ _ _ _ _ _)
   | (with_reducible exact ih7 _ _ _ _ _ _ _ _)
   | (with_reducible exact ih8 _ _ _ _ _ _)
   | (with_reducible exact ih9 _ _ _ _ _ _ _)
   | (with_reducible exact api_Meta_91.mono _ _ _ _ _)
   | (with_reducible exact version_compare.mono _ _ _ _ _ _ _ _ _ _ _)
   | (with_reducible exact LeO.refl _)
   | (with_reducible exact LeO.none _)
   | (with_reducible refine LeO.ite ?_ ?_)
   | (with_reducible refine LeO.bind ?_ (fun _ => ?_))
   | exact ih0 _ _ _ _
   | exact ih1 _ _ _ _
   | exact ih2 _ _ _
   | exact ih3 _ _ _ _
   | exact ih4 _ _ _
   | exact ih5 _ _ _ _ _ _ _ _
   | exact ih6 _ _ _ _ _ _ _ _ _
   | exact ih7 _ _ _ _ _ _ _ _
   | exact ih8 _ _ _ _ _ _
   | exact ih9 _ _ _ _ _ _ _
   | exact api_Meta_91.mono _ _ _ _ _
   | exact version_compare.mono _ _ _ _ _ _ _ _ _ _ _
   | exact LeO.none _
   | refine LeO.ite ?_ ?_
   | refine LeO.bind ?_ (fun _ => ?_)
  ·intro y0 y1 y2
   unfold api_Meta_77.l3
   repeat' first
   | (with_reducible exact ih0 _ _ _ _)
   | (with_reducible exact ih1 _ _ _ _)
   | (with_reducible exact ih2 _ _ _)
   | (with_reducible exact ih3 _ _ _ _)
   | (with_reducible exact ih4 _ _ _)
   | (with_reducible exact ih5 _ _ _ _ _ _ _ _)
   | (with_reducible exact ih6 _ _ _ _ _ _ _ _ _)
   | (with_reducible exact ih7 _ _ _ _ _ _ _ _)
   | (with_reducible exact ih8 _ _ _ _ _ _)
   | (with_reducible exact ih9 _ _ _ _ _ _ _)
   | (with_reducible exact api_Meta_91.mono _ _ _ _ _)
   | (with_reducible exact version_compare.mono _ _ _ _ _ _ _ _ _ _ _)
   | (with_reducible exact LeO.refl _)
   | (with_reducible exact LeO.none _)
   | (with_reducible refine LeO.ite ?_ ?_)
   | (with_reducible refine LeO.bind ?_ (fun _ => ?_))
   | exact ih0 _ _ _ _
   | exact ih1 _ _ _ _
   | exact ih2 _ _ _
   | exact ih3 _ _ _ _
   | exact ih4 _ _ _
   | exact ih5 _ _ _ _ _ _ _ _
   | exact ih6 _ _ _ _ _ _ _ _ _
   | exact ih7 _ _ _ _ _ _ _ _
   | exact ih8 _ _ _ _ _ _
   | exact ih9 _ _ _ _ _ _ _
   | exact api_Meta_91.mono _ _ _ _ _
   | exact version_compare.mono _ _ _ _ _ _ _ _ _ _ _
   | exact LeO.none _
   | refine LeO.ite ?_ ?_
   | refine LeO.bind ?_ (fun _ => ?_)
  ·intro y0 y1 y2 y3 y4 y5 y6 y7
   unfold api_Meta_77.j4
   repeat' first
   | (with_reducible exact ih0 _ _ _ _)
   | (with_reducible exact ih1 _ _ _ _)
   | (with_reducible exact ih2 _ _ _)
   | (with_reducible exact ih3 _ _ _ _)
   | (with_reducible exact ih4 _ _ _)
   | (with_reducible exact ih5 _ _ _ _ _ _ _ _)
   | (with_reducible exact ih6 _ _ _ _ _ _ _ _ _)
   | (with_reducible exact ih7 _ _ _ _ _ _ _ _)
   | (with_reducible exact ih8 _ _ _ _ _ _)
   | (with_reducible exact ih9 _ _ _ _ _ _ _)
   | (with_reducible exact api_Meta_91.mono _ _ _ _ _)
   | (with_reducible exact version_compare.mono _ _ _ _ _ _ _ _ _ _ _)
   | (with_reducible exact LeO.refl _)
   | (with_reducible exact LeO.none _)
   | (with_reducible refine LeO.ite ?_ ?_)
   | (with_reducible refine LeO.bind ?_ (fun _ => ?_))
   | exact ih0 _ _ _ _
   | exact ih1 _ _ _ _
   | exact ih2 _ _ _
   | exact ih3 _ _ _ _
   | exact ih4 _ _ _
   | exact ih5 _ _ _ _ _ _ _ _
   | exact ih6 _ _ _ _ _ _ _ _ _
   | exact ih7 _ _ _ _ _ _ _ _
   | exact ih8 _ _ _ _ _ _
   | exact ih9 _ _ _ _ _ _ _
   | exact api_Meta_91.mono _ _ _ _ _
   | exact version_compare.mono _ _ _ _ _ _ _ _ _ _ _
   | exact LeO.none _
   | refine LeO.ite ?_ ?_
   | refine LeO.bind ?_ (fun _ => ?_)
  ·intro y0 y1 y2 y3 y4 y5 y6 y7 y8
   unfold api_Meta_77.l4
   repeat' first
   | (with_reducible exact ih0 _ _ _ _)
   | (with_reducible exact ih1 _ _ _ _)
   | (with_reducible exact ih2 _ _ _)
   | (with_reducible exact ih3 _ _ _ _)
   | (with_reducible exact ih4 _ _ _)
   | (with_reducible exact ih5 _ _ _ _ _ _ _ _)
   | (with_reducible exact ih6 _ _ _ _ _ _ _ _ _)
   | (with_reducible exact ih7 _ _ _ _ _ _ _ _)
   | (with_reducible exact ih8 _ _ _ _ _ _)
   | (with_reducible exact ih9 _ _ _ _ _ _ _)
   | (with_reducible exact api_Meta_91.mono _ _ _ _ _)
   | (with_reducible exact version_compare.mono _ _ _ _ _ _ _ _ _ _ _)
   | (with_reducible exact LeO.refl _)
   | (with_reducible exact LeO.none _)
   | (with_reducible refine LeO.ite ?_ ?_)
   | (with_reducible refine LeO.bind ?_ (fun _ => ?_))
   | exact ih0 _ _ _ _
   | exact ih1 _ _ _ _
   | exact ih2 _ _ _
   | exact ih3 _ _ _ _
   | exact ih4 _ _ _
   | exact ih5 _ _ _ _ _ _ _ _
   | exact ih6 _ _ _ _ _ _ _ _ _
   | exact ih7 _ _ _ _ _ _ _ _
   | exact ih8 _ _ _ _ _ _
   | exact ih9 _ _ _ _ _ _ _
   | exact api_Meta_91.mono _ _ _ _ _
   | exact version_compare.mono _ _ _ _ _ _ _ _ _ _ _
   | exact LeO.none _
   | refine LeO.ite ?_ ?_
   | refine LeO.bind ?_ (fun _ => ?_)
  ·intro y0 y1 y2 y3 y4 y5 y6 y7
   unfold api_Meta_77.j6
   repeat' first
   | (with_reducible exact ih0 _ _ _ _)
   | (with_reducible exact ih1 _ _ _ _)
   | (with_reducible exact ih2 _ _ _)
   | (with_reducible exact ih3 _ _ _ _)
   | (with_reducible exact ih4 _ _ _)
   | (with_reducible exact ih5 _ _ _ _ _ _ _ _)
   | (with_reducible exact ih6 _ _ _ _ _ _ _ _ _)
   | (with_reducible exact ih7 _ _ _ _ _ _ _ _)
   | (with_reducible exact ih8 _ _ _ _ _ _)
   | (with_reducible exact ih9 _ _ _ _ _ _ _)
   | (with_reducible exact api_Meta_91.mono _ _ _ _ _)
   | (with_reducible exact version_compare.mono _ _ _ _ _ _ _ _ _ _ _)
   | (with_reducible exact LeO.refl _)
   | (with_reducible exact LeO.none _)
   | (with_reducible refine LeO.ite ?_ ?_)
   | (with_reducible refine LeO.bind ?_ (fun _ => ?_))
   | exact ih0 _ _ _ _
   | exact ih1 _ _ _ _
   | exact ih2 _ _ _
   | exact ih3 _ _ _ _
   | exact ih4 _ _ _
   | exact ih5 _ _ _ _ _ _ _ _
   | exact ih6 _ _ _ _ _ _ _ _ _
   | exact ih7 _ _ _ _ _ _ _ _
   | exact ih8 _ _ _ _ _ _
   | exact ih9 _ _ _ _ _ _ _
   | exact api_Meta_91.mono _ _ _ _ _
   | exact version_compare.mono _ _ _ _ _ _ _ _ _ _ _
   | exact LeO.none _
   | refine LeO.ite ?_ ?_
   | refine LeO.bind ?_ (fun _ => ?_)
  ·intro y0 y1 y2 y3 y4 y5
   unfold api_Meta_77.j7
   repeat' first
   | (with_reducible exact ih0 _ _ _ _)
   | (with_reducible exact ih1 _ _ _ _)
   | (with_reducible exact ih2 _ _ _)
   | (with_reducible exact ih3 _ _ _ _)
   | (with_reducible exact ih4 _ _ _)
   | (with_reducible exact ih5 _ _ _ _ _ _ _ _)
   | (with_reducible exact ih6 _ _ _ _ _ _ _ _ _)
   | (with_reducible exact ih7 _ _ _ _ _ _ _ _)
   | (with_reducible exact ih8 _ _ _ _ _ _)
   | (with_reducible exact ih9 _ _ _ _ _ _ _)
   | (with_reducible exact api_Meta_91.mono _ _ _ _ _)
   | (with_reducible exact version_compare.mono _ _ _ _ _ _ _ _ _ _ _)
   | (with_reducible exact LeO.refl _)
   | (with_reducible exact LeO.none _)
   | (with_reducible refine LeO.ite ?_ ?_)
   | (with_reducible refine LeO.bind ?_ (fun _ => ?_))
   | exact ih0 _ _ _ _
   | exact ih1 _ _ _ _
   | exact ih2 _ _ _
   | exact ih3 _ _ _ _
   | exact ih4 _ _ _
   | exact ih5 _ _ _ _ _ _ _ _
   | exact ih6 _ _ _ _ _ _ _ _ _
   | exact ih7 _ _ _ _ _ _ _ _
   | exact ih8 _ _ _ _ _ _
   | exact ih9 _ _ _ _ _ _ _
   | exact api_Meta_91.mono _ _ _ _ _
   | exact version_compare.mono _ _ _ _ _ _ _ _ _ _ _
   | exact LeO.none _
   | refine LeO.ite ?_ ?_
   | refine LeO.bind ?_ (fun _ => ?_)
  ·intro y0 y1 y2 y3 y4 y5 y6
   unfold api_Meta_77.j8
   repeat' first
   | (with_reducible exact ih0 _ _ _ _)
   | (with_reducible exact ih1 _ _ _ _)
   | (with_reducible exact ih2 _ _ _)
   | (with_reducible exact ih3 _ _ _ _)
   | (with_reducible exact ih4 _ _ _)
   | (with_reducible exact ih5 _ _ _ _ _ _ _ _)
   | (with_reducible exact ih6 _ _ _ _ _ _ _ _ _)
   | (with_reducible exact ih7 _ _ _ _ _ _ _ _)
   | (with_reducible exact ih8 _ _ _ _ _ _)
   | (with_reducible exact ih9 _ _ _ _ _ _ _)
   | (with_reducible exact api_Meta_91.mono _ _ _ _ _)
   | (with_reducible exact version_compare.mono _ _ _ _ _ _ _ _ _ _ _)
   | (with_reducible exact LeO.refl _)
   | (with_reducible exact LeO.none _)
   | (with_reducible refine LeO.ite ?_ ?_)
   | (with_reducible refine LeO.bind ?_ (fun _ => ?_))
   | exact ih0 _ _ _ _
   | exact ih1 _ _ _ _
   | exact ih2 _ _ _
   | exact ih3 _ _ _ _
   | exact ih4 _ _ _
   | exact ih5 _ _ _ _ _ _ _ _
   | exact ih6 _ _ _ _ _ _ _ _ _
   | exact ih7 _ _ _ _ _ _ _ _
   | exact ih8 _ _ _ _ _ _
   | exact ih9 _ _ _ _ _ _ _
   | exact api_Meta_91.mono _ _ _ _ _
   | exact version_compare.mono _ _ _ _ _ _ _ _ _ _ _
   | exact LeO.none _
   | refine LeO.ite ?_ ?_
   | refine LeO.bind ?_ (fun _ => ?_)
theorem api_Meta_77.mono : ∀ a0 a1 a2 a3 k, LeO (api_Meta_77.f k a0 a1 a2 a3) (api_Meta_77.f (k + 1) a0 a1 a2 a3) := by
 intro a0 a1 a2 a3 k
 obtain ⟨ih0, ih1, ih2, ih3, ih4, ih5, ih6, ih7, ih8, ih9⟩ := api_Meta_77.mono_l k
 exact ih0 a0 a1 a2 a3
def api_Meta_77.T5 : Bool × List (List Nat × List Nat) := (true, [([], []), ([], []), ([], []), ([1, 2], [1, 2]), ([3], [3]), ([], []), ([], []), ([5, 6], [5, 6]), ([7], [7]), ([0, 4, 8], [0, 4, 8]), ([9], [9])])
def api_Meta_77.B5 : List Nat := [0, 0, 0, 6, 14, 0, 0, 96, 224, 511, 1023]
theorem api_Meta_77.tab5 : rtab .any (opsOf Try.f77 5) = api_Meta_77.T5 := by kernel_rfl
theorem api_Meta_77.bits5 : waitsOk api_Meta_77.T5.2 api_Meta_77.B5 = true := by kernel_rfl
def api_Meta_77.T11 : Bool × List (List Nat × List Nat) := (true, [([], []), ([], []), ([], []), ([], []), ([3], [3]), ([], []), ([], []), ([6], [6]), ([5, 7], [5, 7]), ([8], [8]), ([], []), ([], []), ([10, 11], [10, 11]), ([12], [12]), ([0, 1, 0, 1, 5, 6, 7, 8, 9, 13], [0, 1]), ([14, 9, 0, 1, 5, 6, 7, 8, 9, 13], [9, 14]), ([2, 4, 0, 1, 2, 3, 4, 5, 6, 7, 8, 9, 10, 11, 12, 13, 14, 15], [2, 4]), ([16, 13, 15, 0, 1, 2, 3, 4, 5, 6, 7, 8, 9, 10, 11, 12, 13, 14, 15], [13, 16])])
def api_Meta_77.B11 : List Nat := [0, 0, 0, 0, 8, 0, 0, 64, 224, 480, 0, 0, 3072, 7168, 16355, 32739, 65535, 131071]
theorem api_Meta_77.tab11 : rtab .any (opsOf Try.f77 11) = api_Meta_77.T11 := by kernel_rfl
theorem api_Meta_77.bits11 : waitsOk api_Meta_77.T11.2 api_Meta_77.B11 = true := by kernel_rfl
def api_Meta_77.T17 : Bool × List (List Nat × List Nat) := (true, [([], []), ([], []), ([], []), ([1, 2], [1, 2]), ([3], [3]), ([], []), ([], []), ([5, 6], [5, 6]), ([7], [7]), ([0, 4, 8], [0, 4, 8]), ([9], [9]), ([10], [10])])
def api_Meta_77.B17 : List Nat := [0, 0, 0, 6, 14, 0, 0, 96, 224, 511, 1023, 2047]
theorem api_Meta_77.tab17 : rtab .any (opsOf Try.f77 17) = api_Meta_77.T17 := by kernel_rfl
theorem api_Meta_77.bits17 : waitsOk api_Meta_77.T17.2 api_Meta_77.B17 = true := by kernel_rfl
def api_Meta_77.T23 : Bool × List (List Nat × List Nat) := (true, [([], []), ([], []), ([], []), ([], []), ([3], [3]), ([], []), ([], []), ([6], [6]), ([5, 7], [5, 7]), ([8], [8]), ([], []), ([], []), ([10, 11], [10, 11]), ([12], [12]), ([0, 1, 0, 1, 5, 6, 7, 8, 9, 13], [0, 1]), ([14, 9, 0, 1, 5, 6, 7, 8, 9, 13], [9, 14]), ([2, 4, 0, 1, 2, 3, 4, 5, 6, 7, 8, 9, 10, 11, 12, 13, 14, 15], [2, 4]), ([16, 13, 15, 0, 1, 2, 3, 4, 5, 6, 7, 8, 9, 10, 11, 12, 13, 14, 15], [13, 16])])
def api_Meta_77.B23 : List Nat := [0, 0, 0, 0, 8, 0, 0, 64, 224, 480, 0, 0, 3072, 7168, 16355, 32739, 65535, 131071]
theorem api_Meta_77.tab23 : rtab .any (opsOf Try.f77 23) = api_Meta_77.T23 := by kernel_rfl
theorem api_Meta_77.bits23 : waitsOk api_Meta_77.T23.2 api_Meta_77.B23 = true := by kernel_rfl
def api_Meta_77.T35 : Bool × List (List Nat × List Nat) := (true, [([], []), ([], []), ([], []), ([], []), ([2, 3], [2, 3]), ([1, 4], [1, 4]), ([5], [5]), ([], []), ([], []), ([7, 8], [7, 8]), ([9], [9]), ([0, 6, 10], [0, 6, 10]), ([11], [11]), ([12], [12])])
def api_Meta_77.B35 : List Nat := [0, 0, 0, 0, 12, 30, 62, 0, 0, 384, 896, 2047, 4095, 8191]
theorem api_Meta_77.tab35 : rtab .any (opsOf Try.f77 35) = api_Meta_77.T35 := by kernel_rfl
theorem api_Meta_77.bits35 : waitsOk api_Meta_77.T35.2 api_Meta_77.B35 = true := by kernel_rfl
set_option maxHeartbeats 8000000 in
set_option maxRecDepth 100000 in
theorem api_Meta_77.caseA (k : Nat) (P0_ : Nat → Prop) (u9000_ : Value) (l0 : List (S35)) (a1 : Int) (a2 : Int) (a3 : Int)  (r : List (S35)) (w0 w : World) (hB : Below w0.heap.size w0 w) (ho0 : Kd.R k35 35 w w0.heap.size P0_ u9000_ l0) (h : api_Meta_77.f (k + 1) l0 a1 a2 a3 = some r) (c6 : (wrap64 (a2 - a1)) = 1) :
  Calls Try.prog 77 #[u9000_, .int .i64 a1, .int .i64 a2, .int .i64 a3, .func (.func 27) #[] #[]] w fun e w' => e = .returned (.tuple #[]) ∧ Kd.R k35 35 w' w0.heap.size (fun k_ => (P0_ k_ ∨ w.heap.size ≤ k_)) u9000_ r ∧ Below w0.heap.size w0 w' ∧ Kept w w' (fun k_ => P0_ k_) := by
 simp only [api_Meta_77.f] at h
 have hu35 := Try.underlying35
 have HO0 := Ad.mk (show Kd.R k35 35 w w0.heap.size (fun k_ => (P0_ k_ ∨ w.heap.size ≤ k_)) u9000_ l0 from Kd.R_mono ho0 (fun k_ hk => (.inl hk)))
 have HK := Ad.mk (Kept.refl w (fun k_ => P0_ k_))
 have HW0 := Ad.mk hB.size
 have HB := Ad.mk hB
 clear hB
 have H : (if (wrap64 (a2 - a1)) = 1 then (api_Meta_77.l0 k l0 a1 a2 a3) else (if (wrap64 (a3 - a2)) = 1 then (api_Meta_77.l2 k l0 a2 a1 a2) else (if a2 > (wrap64 ((IntKind.u64.wrap (wrap64 (a1 + a3))) / 2)) then (api_Meta_77.j4 k l0 a1 a2 a3 (wrap64 ((IntKind.u64.wrap (wrap64 (a1 + a3))) / 2)) (wrap64 ((wrap64 ((IntKind.u64.wrap (wrap64 (a1 + a3))) / 2)) + a2)) (wrap64 ((wrap64 ((wrap64 ((IntKind.u64.wrap (wrap64 (a1 + a3))) / 2)) + a2)) - a3)) (wrap64 ((IntKind.u64.wrap (wrap64 (a1 + a3))) / 2))) else (api_Meta_77.j4 k l0 a1 a2 a3 (wrap64 ((IntKind.u64.wrap (wrap64 (a1 + a3))) / 2)) (wrap64 ((wrap64 ((IntKind.u64.wrap (wrap64 (a1 + a3))) / 2)) + a2)) a1 a2)))) = some r := h
 clear h
 rw [if_pos c6] at H
 have c6b0 : ((wrap64 (a2 - a1)) == 1) = true := beq_iff_eq.mpr c6
 have c6b1 : ((wrap64 (a2 - a1)) != 1) = false := bne_eq_false_iff_eq.mpr c6
 clear c6
 have H' := Ad.mk H
 clear H
 go_enter Try.func77, Try.ntmps77
 go_wp2
 go_loopg [10, 11] k (fun kq v10 v11 w' => ∃ (x10_1 : Int) (x11_1 : Int), v10 = .int .i64 x10_1 ∧ v11 = .int .i64 x11_1 ∧ Ad (api_Meta_77.l0 kq l0 a1 x10_1 x11_1 = some r) ∧ Ad (kq ≤ k) ∧ Ad (Kd.R k35 35 w' w0.heap.size (fun k_ => (P0_ k_ ∨ w.heap.size ≤ k_)) u9000_ l0) ∧ Ad (Kept w w' (fun k_ => P0_ k_)) ∧ Ad (Below w0.heap.size w0 w'))
 case atStart => exact ⟨(a2), (a3), (by first | rfl | (simp; done) | (simp [*]; done)), (by first | rfl | (simp; done) | (simp [*]; done)), H', ⟨Nat.le_refl _⟩, ⟨by (with_reducible repeat (first | apply Kd.R_alloc | apply Kd.R_drewN | apply Kd.R_drew)); exact HO0.out⟩, ⟨by repeat (first | (with_reducible first | exact HK.out | apply Kept.alloc | apply Kept.drewN | apply Kept.drew) | exact HK.out)⟩, ⟨by repeat (first | (with_reducible first | exact HB.out | apply blA | apply blN | apply blD) | exact HB.out)⟩⟩
 case round =>
  clear H'
  try clear c6
  try clear c6b0
  try clear c6b1
  obtain ⟨x10_1, x11_1, rfl, rfl, HA, HK1, HO_0, HK, HB⟩ := hrel
  cases gk with
  | zero => exact absurd HA.out (by simp [api_Meta_77.l0])
  | succ k1 =>
   have H := HA.out
   clear HA
   simp only [api_Meta_77.l0] at H
   by_cases c7 : x10_1 < x11_1
   ·rw [if_pos c7] at H
    have c7b0 : decide (x10_1 < x11_1) = true := decide_eq_true c7
    clear c7
    obtain ⟨ji8, hji8⟩ : ∃ j_ : Int, (wrap64 ((IntKind.u64.wrap (wrap64 (x10_1 + x11_1))) / 2)) = j_ := ⟨_, rfl⟩
    replace H : (if 0 ≤ (ji8) then (if (ji8) < (l0.length : Int) then (if 0 ≤ a1 then (if a1 < (l0.length : Int) then ((version_compare.f k1 ((rd_T35 l0 (ji8)).f0) ((rd_T35 l0 (ji8)).f1) ((rd_T35 l0 (ji8)).f2) ((rd_T35 l0 (ji8)).f3) ((rd_T35 l0 (ji8)).f4) ((rd_T35 l0 a1).f0) ((rd_T35 l0 a1).f1) ((rd_T35 l0 a1).f2) ((rd_T35 l0 a1).f3) ((rd_T35 l0 a1).f4)).bind fun t162 => (if t162 < 0 then (api_Meta_77.l0 k1 l0 a1 (wrap64 ((ji8) + 1)) x11_1) else (api_Meta_77.l0 k1 l0 a1 x10_1 ji8))) else (none)) else (none)) else (none)) else (none)) = some r := by first | (rw [hji8] at H; exact H) | (simp only [hji8] at H ⊢; exact H)
    have hji8w : (IntKind.i64.wrap ((IntKind.u64.wrap (wrap64 (x10_1 + x11_1))) / 2)) = ji8 := (i64_w _).trans hji8
    by_cases c9 : 0 ≤ (ji8)
    ·rw [if_pos c9] at H
     have c9b0 : decide (0 ≤ (ji8)) = true := decide_eq_true c9
     clear c9
     by_cases c10 : (ji8) < (l0.length : Int)
     ·rw [if_pos c10] at H
      have c10b0 : decide ((ji8) < (l0.length : Int)) = true := decide_eq_true c10
      clear c10
      by_cases c11 : 0 ≤ a1
      ·rw [if_pos c11] at H
       have c11b0 : decide (0 ≤ a1) = true := decide_eq_true c11
       clear c11
       by_cases c12 : a1 < (l0.length : Int)
       ·rw [if_pos c12] at H
        have c12b0 : decide (a1 < (l0.length : Int)) = true := decide_eq_true c12
        clear c12
        replace H := Option.bind_eq_some_iff.mp H
        obtain ⟨t162, A130, H⟩ := H
        replace H : (if t162 < 0 then (api_Meta_77.l0 k1 l0 a1 (wrap64 ((ji8) + 1)) x11_1) else (api_Meta_77.l0 k1 l0 a1 x10_1 ji8)) = some r := H
        have A13 := Ad.mk A130
        clear A130
        by_cases c14 : t162 < 0
        ·rw [if_pos c14] at H
         have c14b0 : decide (t162 < 0) = true := decide_eq_true c14
         clear c14
         have H' := Ad.mk H
         clear H
         try go_wp2
         have n0_ := Ad.mk (Kd.R_drew HO_0.out)
         have n1_ := Ad.mk (Kept.drew HK.out)
         have n2_ := Ad.mk (blD HB.out)
         clear HO_0
         clear HK
         clear HB
         have HO_0 := n0_
         have HK := n1_
         have HB := n2_
         clear n0_ n1_ n2_
         obtain ⟨Ao16, co16, eo16⟩ := Kd.R_slice HO_0.out
         (first | subst eo16 | (injection eo16 with f1_ f2_ f3_; have f4_ := f1_.symm; have f5_ := f3_.symm; clear f1_ f2_ f3_; subst f4_; subst f5_))
         have p160 : 0 ≤ ((ji8) : Int) := of_decide_eq_true (by first | (with_reducible assumption) | assumption)
         have q160 : (ji8) < (l0.length : Int) := of_decide_eq_true (by first | (with_reducible assumption) | assumption)
         obtain ⟨ad160, e160, hx160_0, hx160_1, hx160_2, hx160_3, hx160_4⟩ := at_T35 (Kd.R_reads' HO_0.out).2.2 (ji8) p160 q160
         cases e160
         replace p160 := eq_true p160
         replace q160 := eq_true q160
         have p161 : 0 ≤ (a1 : Int) := of_decide_eq_true (by first | (with_reducible assumption) | assumption)
         have q161 : a1 < (l0.length : Int) := of_decide_eq_true (by first | (with_reducible assumption) | assumption)
         obtain ⟨ad161, e161, hx161_0, hx161_1, hx161_2, hx161_3, hx161_4⟩ := at_T35 (Kd.R_reads' HO_0.out).2.2 a1 p161 q161
         obtain rfl : ad160 = ad161 := (by injection e161)
         replace p161 := eq_true p161
         replace q161 := eq_true q161
         refine start_ (n := 11) (S := fun w' => w'.cell? (ad160.add (((ji8)).toNat * 5)) = some (.int .i64 ((rd_T35 l0 (ji8)).f0)) ∧ w'.cell? ⟨(ad160.add (((ji8)).toNat * 5)).block, (ad160.add (((ji8)).toNat * 5)).off + 1, none⟩ = some (.int .i64 ((rd_T35 l0 (ji8)).f1)) ∧ w'.cell? ⟨(ad160.add (((ji8)).toNat * 5)).block, (ad160.add (((ji8)).toNat * 5)).off + 2, none⟩ = some (.string ((rd_T35 l0 (ji8)).f2)) ∧ w'.cell? ⟨(ad160.add (((ji8)).toNat * 5)).block, (ad160.add (((ji8)).toNat * 5)).off + 3, none⟩ = some (.string ((rd_T35 l0 (ji8)).f3)) ∧ w'.cell? ⟨(ad160.add (((ji8)).toNat * 5)).block, (ad160.add (((ji8)).toNat * 5)).off + 4, none⟩ = some (.int .i64 ((rd_T35 l0 (ji8)).f4)) ∧ w'.cell? (ad160.add ((a1).toNat * 5)) = some (.int .i64 ((rd_T35 l0 a1).f0)) ∧ w'.cell? ⟨(ad160.add ((a1).toNat * 5)).block, (ad160.add ((a1).toNat * 5)).off + 1, none⟩ = some (.int .i64 ((rd_T35 l0 a1).f1)) ∧ w'.cell? ⟨(ad160.add ((a1).toNat * 5)).block, (ad160.add ((a1).toNat * 5)).off + 2, none⟩ = some (.string ((rd_T35 l0 a1).f2)) ∧ w'.cell? ⟨(ad160.add ((a1).toNat * 5)).block, (ad160.add ((a1).toNat * 5)).off + 3, none⟩ = some (.string ((rd_T35 l0 a1).f3)) ∧ w'.cell? ⟨(ad160.add ((a1).toNat * 5)).block, (ad160.add ((a1).toNat * 5)).off + 4, none⟩ = some (.int .i64 ((rd_T35 l0 a1).f4))) (ds := []) #[false, false, false, false, false, false, false, false, false, false, false] (by kernel_rfl) rfl rfl ⟨hx160_0, hx160_1, hx160_2, hx160_3, hx160_4, hx161_0, hx161_1, hx161_2, hx161_3, hx161_4⟩ (fun hHeld => ?_); refine with_tabW api_Meta_77.tab5 api_Meta_77.bits5 (fun HT_ HW_ => ?_)
         generalize wr.drew = w15 at HO_0 HK HB hx160_0 hx160_1 hx160_2 hx160_3 hx160_4 hx161_0 hx161_1 hx161_2 hx161_3 hx161_4 hHeld ⊢
         refine pure_ (i := 0) (N := some 40) (v := ?_) (a' := ?_) #[true, false, false, false, false, false, false, false, false, false, false] rfl rfl (any_of HT_.out (by kernel_rfl)) (fun _ _ _ h => h) (Or.inl ⟨by rfl, ?_⟩) ?_ ?_
         rotate_left
         ·intro w'
          go_simp
          with_reducible rfl
         rotate_left
         ·simp only [Act.put, List.setIfInBounds_toArray, List.set_cons_zero, List.set_cons_succ, i64_w, i32_w]
          rfl
         refine pure_ (i := 1) (N := some 41) (v := ?_) (a' := ?_) #[true, true, false, false, false, false, false, false, false, false, false] rfl rfl (any_of HT_.out (by kernel_rfl)) (fun _ _ _ h => h) (Or.inl ⟨by rfl, ?_⟩) ?_ ?_
         rotate_left
         ·intro w'
          go_simp
          with_reducible rfl
         rotate_left
         ·simp only [Act.put, List.setIfInBounds_toArray, List.set_cons_zero, List.set_cons_succ, i64_w, i32_w]
          rfl
         refine pure_ (i := 2) (N := some 42) (v := ?_) (a' := ?_) #[true, true, true, false, false, false, false, false, false, false, false] rfl rfl (any_of HT_.out (by kernel_rfl)) (fun _ _ _ h => h) (Or.inl ⟨by rfl, ?_⟩) ?_ ?_
         rotate_left
         ·intro w'
          go_simp
          with_reducible rfl
         rotate_left
         ·simp only [Act.put, List.setIfInBounds_toArray, List.set_cons_zero, List.set_cons_succ, i64_w, i32_w]
          rfl
         refine pure_ (i := 3) (N := some 43) (v := ?_) (a' := ?_) #[true, true, true, true, false, false, false, false, false, false, false] rfl rfl (any_of HT_.out (by kernel_rfl)) (fun _ _ _ h => h) (Or.inl ⟨by rfl, ?_⟩) ?_ ?_
         rotate_left
         ·intro w'
          go_simp
          with_reducible rfl
         rotate_left
         ·simp only [Act.put, List.setIfInBounds_toArray, List.set_cons_zero, List.set_cons_succ, i64_w, i32_w]
          rfl
         refine pure_ (i := 5) (N := some 45) (v := ?_) (a' := ?_) #[true, true, true, true, false, true, false, false, false, false, false] rfl rfl (any_of HT_.out (by kernel_rfl)) (fun _ _ _ h => h) (Or.inl ⟨by rfl, ?_⟩) ?_ ?_
         rotate_left
         ·intro w'
          go_simp
          with_reducible rfl
         rotate_left
         ·simp only [Act.put, List.setIfInBounds_toArray, List.set_cons_zero, List.set_cons_succ, i64_w, i32_w]
          rfl
         refine pure_ (i := 6) (N := some 46) (v := ?_) (a' := ?_) #[true, true, true, true, false, true, true, false, false, false, false] rfl rfl (any_of HT_.out (by kernel_rfl)) (fun _ _ _ h => h) (Or.inl ⟨by rfl, ?_⟩) ?_ ?_
         rotate_left
         ·intro w'
          go_simp
          with_reducible rfl
         rotate_left
         ·simp only [Act.put, List.setIfInBounds_toArray, List.set_cons_zero, List.set_cons_succ, i64_w, i32_w]
          rfl
         refine pure_ (i := 7) (N := some 47) (v := ?_) (a' := ?_) #[true, true, true, true, false, true, true, true, false, false, false] rfl rfl (any_of HT_.out (by kernel_rfl)) (fun _ _ _ h => h) (Or.inl ⟨by rfl, ?_⟩) ?_ ?_
         rotate_left
         ·intro w'
          go_simp
          with_reducible rfl
         rotate_left
         ·simp only [Act.put, List.setIfInBounds_toArray, List.set_cons_zero, List.set_cons_succ, i64_w, i32_w]
          rfl
         refine take_ (i := 4) (N := some 44) (v := ?_) (a' := ?_) #[true, true, true, true, true, true, true, true, false, false, false] rfl rfl (take_ofW HT_.out HW_.out (by kernel_rfl)) (fun _ _ _ h => h) (Or.inl ⟨by rfl, ?_⟩) hHeld ?_ ?_
         rotate_left
         ·rintro w' ⟨s0, s1, s2, s3, s4, s5, s6, s7, s8, s9⟩
          go_simp
          with_reducible rfl
         rotate_left
         ·simp only [Act.put, List.setIfInBounds_toArray, List.set_cons_zero, List.set_cons_succ, i64_w, i32_w]
          rfl
         refine take_ (i := 8) (N := some 48) (v := ?_) (a' := ?_) #[true, true, true, true, true, true, true, true, true, false, false] rfl rfl (take_ofW HT_.out HW_.out (by kernel_rfl)) (fun _ _ _ h => h) (Or.inl ⟨by rfl, ?_⟩) hHeld ?_ ?_
         rotate_left
         ·rintro w' ⟨s0, s1, s2, s3, s4, s5, s6, s7, s8, s9⟩
          go_simp
          with_reducible rfl
         rotate_left
         ·simp only [Act.put, List.setIfInBounds_toArray, List.set_cons_zero, List.set_cons_succ, i64_w, i32_w]
          rfl
         refine one_ (i := 9) (N := some 49) #[true, true, true, true, true, true, true, true, true, true, false] rfl rfl (one_of HT_.out (by kernel_rfl)) (by decide) (fun K hK => ?_)
         refine goesT_ Try.func27 (by kernel_rfl) rfl #[.agg #[.int .i64 ((rd_T35 l0 (ji8)).f0), .int .i64 ((rd_T35 l0 (ji8)).f1), .string ((rd_T35 l0 (ji8)).f2), .string ((rd_T35 l0 (ji8)).f3), .int .i64 ((rd_T35 l0 (ji8)).f4)], .agg #[.int .i64 ((rd_T35 l0 a1).f0), .int .i64 ((rd_T35 l0 a1).f1), .string ((rd_T35 l0 a1).f2), .string ((rd_T35 l0 a1).f3), .int .i64 ((rd_T35 l0 a1).f4)]] (by rfl) rfl ⟨rfl, rfl⟩ (by (try simp only [List.map_toArray, List.map_cons, List.map_nil]); first | done | (simp only [hji8]; rfl) | rfl | (simp only [List.length_drop, List.length_take]; rfl)) ?_
         with_reducible refine (version_compare.calls k1 ((rd_T35 l0 (ji8)).f0) ((rd_T35 l0 (ji8)).f1) ((rd_T35 l0 (ji8)).f2) ((rd_T35 l0 (ji8)).f3) ((rd_T35 l0 (ji8)).f4) ((rd_T35 l0 a1).f0) ((rd_T35 l0 a1).f1) ((rd_T35 l0 a1).f2) ((rd_T35 l0 a1).f3) ((rd_T35 l0 a1).f4) t162 _ A13.out).mono ?_
         rintro e w17 ⟨rfl, hb⟩
         have HS0_ := (hb.cell (World.block_lt_of_cell? _ _ (hHeld.1))).trans (hHeld.1)
         have HS1_ := (hb.cell (World.block_lt_of_cell? _ _ (hHeld.2.1))).trans (hHeld.2.1)
         have HS2_ := (hb.cell (World.block_lt_of_cell? _ _ (hHeld.2.2.1))).trans (hHeld.2.2.1)
         have HS3_ := (hb.cell (World.block_lt_of_cell? _ _ (hHeld.2.2.2.1))).trans (hHeld.2.2.2.1)
         have HS4_ := (hb.cell (World.block_lt_of_cell? _ _ (hHeld.2.2.2.2.1))).trans (hHeld.2.2.2.2.1)
         have HS5_ := (hb.cell (World.block_lt_of_cell? _ _ (hHeld.2.2.2.2.2.1))).trans (hHeld.2.2.2.2.2.1)
         have HS6_ := (hb.cell (World.block_lt_of_cell? _ _ (hHeld.2.2.2.2.2.2.1))).trans (hHeld.2.2.2.2.2.2.1)
         have HS7_ := (hb.cell (World.block_lt_of_cell? _ _ (hHeld.2.2.2.2.2.2.2.1))).trans (hHeld.2.2.2.2.2.2.2.1)
         have HS8_ := (hb.cell (World.block_lt_of_cell? _ _ (hHeld.2.2.2.2.2.2.2.2.1))).trans (hHeld.2.2.2.2.2.2.2.2.1)
         have HS9_ := (hb.cell (World.block_lt_of_cell? _ _ (hHeld.2.2.2.2.2.2.2.2.2))).trans (hHeld.2.2.2.2.2.2.2.2.2)
         refine ⟨_, rfl, ?_⟩
         have n0_ := Ad.mk (Kd.R_below (by (with_reducible repeat (first | apply Kd.R_alloc | apply Kd.R_drewN | apply Kd.R_drew)); exact HO_0.out) hb)
         have n1_ := Ad.mk (Kept.below (S := (fun k_ => P0_ k_)) (by repeat (first | (with_reducible first | exact HK.out | apply Kept.alloc | apply Kept.drewN | apply Kept.drew) | exact HK.out)) hb)
         have n2_ := Ad.mk (bls (by repeat (first | (with_reducible first | exact HB.out | apply blA | apply blN | apply blD) | exact HB.out)) hb)
         clear HO_0
         clear HK
         clear HB
         have HO_0 := n0_
         have HK := n1_
         have HB := n2_
         clear n0_ n1_ n2_
         (try clear hb)
         (try clear hb2)
         (try clear hk)
         (try clear hi)
         refine hK.out _ _ ⟨HS0_, HS1_, HS2_, HS3_, HS4_, HS5_, HS6_, HS7_, HS8_, HS9_⟩ (fun hHeld => ?_)
         clear hK K
         refine norm_ (a' := ?_) ?_ ?_
         rotate_left
         ·show Act.put _ (some 49) _ = _
          simp only [Act.put, List.setIfInBounds_toArray, List.set_cons_zero, List.set_cons_succ, i64_w, i32_w]
          rfl
         refine pure_ (i := 10) (N := some 50) (v := ?_) (a' := ?_) #[true, true, true, true, true, true, true, true, true, true, true] rfl rfl (any_of HT_.out (by kernel_rfl)) (fun _ _ _ h => h) (Or.inl ⟨by rfl, ?_⟩) ?_ ?_
         rotate_left
         ·intro w'
          go_simp
          with_reducible rfl
         rotate_left
         ·simp only [Act.put, List.setIfInBounds_toArray, List.set_cons_zero, List.set_cons_succ, i64_w, i32_w]
          rfl
         refine done_ (done_of HT_.out (by kernel_rfl)) ?_
         try go_wp2
         go_roundg k1
         case measure => have := HK1.out; omega
         case rel => exact ⟨(wrap64 ((ji8) + 1)), (x11_1), (by first | rfl | (simp; done) | (simp only [← hji8] <;> (first | rfl | simp)) | (simp [*]; done)), (by first | rfl | (simp; done) | (simp [*]; done)), H', ⟨by have := HK1.out; omega⟩, ⟨by (with_reducible repeat (first | apply Kd.R_alloc | apply Kd.R_drewN | apply Kd.R_drew)); exact HO_0.out⟩, ⟨by repeat (first | (with_reducible first | exact HK.out | apply Kept.alloc | apply Kept.drewN | apply Kept.drew) | exact HK.out)⟩, ⟨by repeat (first | (with_reducible first | exact HB.out | apply blA | apply blN | apply blD) | exact HB.out)⟩⟩
        ·rw [if_neg c14] at H
         have c14b0 : decide (t162 < 0) = false := decide_eq_false c14
         clear c14
         have H' := Ad.mk H
         clear H
         try go_wp2
         have n0_ := Ad.mk (Kd.R_drew HO_0.out)
         have n1_ := Ad.mk (Kept.drew HK.out)
         have n2_ := Ad.mk (blD HB.out)
         clear HO_0
         clear HK
         clear HB
         have HO_0 := n0_
         have HK := n1_
         have HB := n2_
         clear n0_ n1_ n2_
         obtain ⟨Ao19, co19, eo19⟩ := Kd.R_slice HO_0.out
         (first | subst eo19 | (injection eo19 with f1_ f2_ f3_; have f4_ := f1_.symm; have f5_ := f3_.symm; clear f1_ f2_ f3_; subst f4_; subst f5_))
         have p160 : 0 ≤ ((ji8) : Int) := of_decide_eq_true (by first | (with_reducible assumption) | assumption)
         have q160 : (ji8) < (l0.length : Int) := of_decide_eq_true (by first | (with_reducible assumption) | assumption)
         obtain ⟨ad160, e160, hx160_0, hx160_1, hx160_2, hx160_3, hx160_4⟩ := at_T35 (Kd.R_reads' HO_0.out).2.2 (ji8) p160 q160
         cases e160
         replace p160 := eq_true p160
         replace q160 := eq_true q160
         have p161 : 0 ≤ (a1 : Int) := of_decide_eq_true (by first | (with_reducible assumption) | assumption)
         have q161 : a1 < (l0.length : Int) := of_decide_eq_true (by first | (with_reducible assumption) | assumption)
         obtain ⟨ad161, e161, hx161_0, hx161_1, hx161_2, hx161_3, hx161_4⟩ := at_T35 (Kd.R_reads' HO_0.out).2.2 a1 p161 q161
         obtain rfl : ad160 = ad161 := (by injection e161)
         replace p161 := eq_true p161
         replace q161 := eq_true q161
         refine start_ (n := 11) (S := fun w' => w'.cell? (ad160.add (((ji8)).toNat * 5)) = some (.int .i64 ((rd_T35 l0 (ji8)).f0)) ∧ w'.cell? ⟨(ad160.add (((ji8)).toNat * 5)).block, (ad160.add (((ji8)).toNat * 5)).off + 1, none⟩ = some (.int .i64 ((rd_T35 l0 (ji8)).f1)) ∧ w'.cell? ⟨(ad160.add (((ji8)).toNat * 5)).block, (ad160.add (((ji8)).toNat * 5)).off + 2, none⟩ = some (.string ((rd_T35 l0 (ji8)).f2)) ∧ w'.cell? ⟨(ad160.add (((ji8)).toNat * 5)).block, (ad160.add (((ji8)).toNat * 5)).off + 3, none⟩ = some (.string ((rd_T35 l0 (ji8)).f3)) ∧ w'.cell? ⟨(ad160.add (((ji8)).toNat * 5)).block, (ad160.add (((ji8)).toNat * 5)).off + 4, none⟩ = some (.int .i64 ((rd_T35 l0 (ji8)).f4)) ∧ w'.cell? (ad160.add ((a1).toNat * 5)) = some (.int .i64 ((rd_T35 l0 a1).f0)) ∧ w'.cell? ⟨(ad160.add ((a1).toNat * 5)).block, (ad160.add ((a1).toNat * 5)).off + 1, none⟩ = some (.int .i64 ((rd_T35 l0 a1).f1)) ∧ w'.cell? ⟨(ad160.add ((a1).toNat * 5)).block, (ad160.add ((a1).toNat * 5)).off + 2, none⟩ = some (.string ((rd_T35 l0 a1).f2)) ∧ w'.cell? ⟨(ad160.add ((a1).toNat * 5)).block, (ad160.add ((a1).toNat * 5)).off + 3, none⟩ = some (.string ((rd_T35 l0 a1).f3)) ∧ w'.cell? ⟨(ad160.add ((a1).toNat * 5)).block, (ad160.add ((a1).toNat * 5)).off + 4, none⟩ = some (.int .i64 ((rd_T35 l0 a1).f4))) (ds := []) #[false, false, false, false, false, false, false, false, false, false, false] (by kernel_rfl) rfl rfl ⟨hx160_0, hx160_1, hx160_2, hx160_3, hx160_4, hx161_0, hx161_1, hx161_2, hx161_3, hx161_4⟩ (fun hHeld => ?_); refine with_tabW api_Meta_77.tab5 api_Meta_77.bits5 (fun HT_ HW_ => ?_)
         generalize wr.drew = w18 at HO_0 HK HB hx160_0 hx160_1 hx160_2 hx160_3 hx160_4 hx161_0 hx161_1 hx161_2 hx161_3 hx161_4 hHeld ⊢
         refine pure_ (i := 0) (N := some 40) (v := ?_) (a' := ?_) #[true, false, false, false, false, false, false, false, false, false, false] rfl rfl (any_of HT_.out (by kernel_rfl)) (fun _ _ _ h => h) (Or.inl ⟨by rfl, ?_⟩) ?_ ?_
         rotate_left
         ·intro w'
          go_simp
          with_reducible rfl
         rotate_left
         ·simp only [Act.put, List.setIfInBounds_toArray, List.set_cons_zero, List.set_cons_succ, i64_w, i32_w]
          rfl
         refine pure_ (i := 1) (N := some 41) (v := ?_) (a' := ?_) #[true, true, false, false, false, false, false, false, false, false, false] rfl rfl (any_of HT_.out (by kernel_rfl)) (fun _ _ _ h => h) (Or.inl ⟨by rfl, ?_⟩) ?_ ?_
         rotate_left
         ·intro w'
          go_simp
          with_reducible rfl
         rotate_left
         ·simp only [Act.put, List.setIfInBounds_toArray, List.set_cons_zero, List.set_cons_succ, i64_w, i32_w]
          rfl
         refine pure_ (i := 2) (N := some 42) (v := ?_) (a' := ?_) #[true, true, true, false, false, false, false, false, false, false, false] rfl rfl (any_of HT_.out (by kernel_rfl)) (fun _ _ _ h => h) (Or.inl ⟨by rfl, ?_⟩) ?_ ?_
         rotate_left
         ·intro w'
          go_simp
          with_reducible rfl
         rotate_left
         ·simp only [Act.put, List.setIfInBounds_toArray, List.set_cons_zero, List.set_cons_succ, i64_w, i32_w]
          rfl
         refine pure_ (i := 3) (N := some 43) (v := ?_) (a' := ?_) #[true, true, true, true, false, false, false, false, false, false, false] rfl rfl (any_of HT_.out (by kernel_rfl)) (fun _ _ _ h => h) (Or.inl ⟨by rfl, ?_⟩) ?_ ?_
         rotate_left
         ·intro w'
          go_simp
          with_reducible rfl
         rotate_left
         ·simp only [Act.put, List.setIfInBounds_toArray, List.set_cons_zero, List.set_cons_succ, i64_w, i32_w]
          rfl
         refine pure_ (i := 5) (N := some 45) (v := ?_) (a' := ?_) #[true, true, true, true, false, true, false, false, false, false, false] rfl rfl (any_of HT_.out (by kernel_rfl)) (fun _ _ _ h => h) (Or.inl ⟨by rfl, ?_⟩) ?_ ?_
         rotate_left
         ·intro w'
          go_simp
          with_reducible rfl
         rotate_left
         ·simp only [Act.put, List.setIfInBounds_toArray, List.set_cons_zero, List.set_cons_succ, i64_w, i32_w]
          rfl
         refine pure_ (i := 6) (N := some 46) (v := ?_) (a' := ?_) #[true, true, true, true, false, true, true, false, false, false, false] rfl rfl (any_of HT_.out (by kernel_rfl)) (fun _ _ _ h => h) (Or.inl ⟨by rfl, ?_⟩) ?_ ?_
         rotate_left
         ·intro w'
          go_simp
          with_reducible rfl
         rotate_left
         ·simp only [Act.put, List.setIfInBounds_toArray, List.set_cons_zero, List.set_cons_succ, i64_w, i32_w]
          rfl
         refine pure_ (i := 7) (N := some 47) (v := ?_) (a' := ?_) #[true, true, true, true, false, true, true, true, false, false, false] rfl rfl (any_of HT_.out (by kernel_rfl)) (fun _ _ _ h => h) (Or.inl ⟨by rfl, ?_⟩) ?_ ?_
         rotate_left
         ·intro w'
          go_simp
          with_reducible rfl
         rotate_left
         ·simp only [Act.put, List.setIfInBounds_toArray, List.set_cons_zero, List.set_cons_succ, i64_w, i32_w]
          rfl
         refine take_ (i := 4) (N := some 44) (v := ?_) (a' := ?_) #[true, true, true, true, true, true, true, true, false, false, false] rfl rfl (take_ofW HT_.out HW_.out (by kernel_rfl)) (fun _ _ _ h => h) (Or.inl ⟨by rfl, ?_⟩) hHeld ?_ ?_
         rotate_left
         ·rintro w' ⟨s0, s1, s2, s3, s4, s5, s6, s7, s8, s9⟩
          go_simp
          with_reducible rfl
         rotate_left
         ·simp only [Act.put, List.setIfInBounds_toArray, List.set_cons_zero, List.set_cons_succ, i64_w, i32_w]
          rfl
         refine take_ (i := 8) (N := some 48) (v := ?_) (a' := ?_) #[true, true, true, true, true, true, true, true, true, false, false] rfl rfl (take_ofW HT_.out HW_.out (by kernel_rfl)) (fun _ _ _ h => h) (Or.inl ⟨by rfl, ?_⟩) hHeld ?_ ?_
         rotate_left
         ·rintro w' ⟨s0, s1, s2, s3, s4, s5, s6, s7, s8, s9⟩
          go_simp
          with_reducible rfl
         rotate_left
         ·simp only [Act.put, List.setIfInBounds_toArray, List.set_cons_zero, List.set_cons_succ, i64_w, i32_w]
          rfl
         refine one_ (i := 9) (N := some 49) #[true, true, true, true, true, true, true, true, true, true, false] rfl rfl (one_of HT_.out (by kernel_rfl)) (by decide) (fun K hK => ?_)
         refine goesT_ Try.func27 (by kernel_rfl) rfl #[.agg #[.int .i64 ((rd_T35 l0 (ji8)).f0), .int .i64 ((rd_T35 l0 (ji8)).f1), .string ((rd_T35 l0 (ji8)).f2), .string ((rd_T35 l0 (ji8)).f3), .int .i64 ((rd_T35 l0 (ji8)).f4)], .agg #[.int .i64 ((rd_T35 l0 a1).f0), .int .i64 ((rd_T35 l0 a1).f1), .string ((rd_T35 l0 a1).f2), .string ((rd_T35 l0 a1).f3), .int .i64 ((rd_T35 l0 a1).f4)]] (by rfl) rfl ⟨rfl, rfl⟩ (by (try simp only [List.map_toArray, List.map_cons, List.map_nil]); first | done | (simp only [hji8]; rfl) | rfl | (simp only [List.length_drop, List.length_take]; rfl)) ?_
         with_reducible refine (version_compare.calls k1 ((rd_T35 l0 (ji8)).f0) ((rd_T35 l0 (ji8)).f1) ((rd_T35 l0 (ji8)).f2) ((rd_T35 l0 (ji8)).f3) ((rd_T35 l0 (ji8)).f4) ((rd_T35 l0 a1).f0) ((rd_T35 l0 a1).f1) ((rd_T35 l0 a1).f2) ((rd_T35 l0 a1).f3) ((rd_T35 l0 a1).f4) t162 _ A13.out).mono ?_
         rintro e w20 ⟨rfl, hb⟩
         have HS0_ := (hb.cell (World.block_lt_of_cell? _ _ (hHeld.1))).trans (hHeld.1)
         have HS1_ := (hb.cell (World.block_lt_of_cell? _ _ (hHeld.2.1))).trans (hHeld.2.1)
         have HS2_ := (hb.cell (World.block_lt_of_cell? _ _ (hHeld.2.2.1))).trans (hHeld.2.2.1)
         have HS3_ := (hb.cell (World.block_lt_of_cell? _ _ (hHeld.2.2.2.1))).trans (hHeld.2.2.2.1)
         have HS4_ := (hb.cell (World.block_lt_of_cell? _ _ (hHeld.2.2.2.2.1))).trans (hHeld.2.2.2.2.1)
         have HS5_ := (hb.cell (World.block_lt_of_cell? _ _ (hHeld.2.2.2.2.2.1))).trans (hHeld.2.2.2.2.2.1)
         have HS6_ := (hb.cell (World.block_lt_of_cell? _ _ (hHeld.2.2.2.2.2.2.1))).trans (hHeld.2.2.2.2.2.2.1)
         have HS7_ := (hb.cell (World.block_lt_of_cell? _ _ (hHeld.2.2.2.2.2.2.2.1))).trans (hHeld.2.2.2.2.2.2.2.1)
         have HS8_ := (hb.cell (World.block_lt_of_cell? _ _ (hHeld.2.2.2.2.2.2.2.2.1))).trans (hHeld.2.2.2.2.2.2.2.2.1)
         have HS9_ := (hb.cell (World.block_lt_of_cell? _ _ (hHeld.2.2.2.2.2.2.2.2.2))).trans (hHeld.2.2.2.2.2.2.2.2.2)
         refine ⟨_, rfl, ?_⟩
         have n0_ := Ad.mk (Kd.R_below (by (with_reducible repeat (first | apply Kd.R_alloc | apply Kd.R_drewN | apply Kd.R_drew)); exact HO_0.out) hb)
         have n1_ := Ad.mk (Kept.below (S := (fun k_ => P0_ k_)) (by repeat (first | (with_reducible first | exact HK.out | apply Kept.alloc | apply Kept.drewN | apply Kept.drew) | exact HK.out)) hb)
         have n2_ := Ad.mk (bls (by repeat (first | (with_reducible first | exact HB.out | apply blA | apply blN | apply blD) | exact HB.out)) hb)
         clear HO_0
         clear HK
         clear HB
         have HO_0 := n0_
         have HK := n1_
         have HB := n2_
         clear n0_ n1_ n2_
         (try clear hb)
         (try clear hb2)
         (try clear hk)
         (try clear hi)
         refine hK.out _ _ ⟨HS0_, HS1_, HS2_, HS3_, HS4_, HS5_, HS6_, HS7_, HS8_, HS9_⟩ (fun hHeld => ?_)
         clear hK K
         refine norm_ (a' := ?_) ?_ ?_
         rotate_left
         ·show Act.put _ (some 49) _ = _
          simp only [Act.put, List.setIfInBounds_toArray, List.set_cons_zero, List.set_cons_succ, i64_w, i32_w]
          rfl
         refine pure_ (i := 10) (N := some 50) (v := ?_) (a' := ?_) #[true, true, true, true, true, true, true, true, true, true, true] rfl rfl (any_of HT_.out (by kernel_rfl)) (fun _ _ _ h => h) (Or.inl ⟨by rfl, ?_⟩) ?_ ?_
         rotate_left
         ·intro w'
          go_simp
          with_reducible rfl
         rotate_left
         ·simp only [Act.put, List.setIfInBounds_toArray, List.set_cons_zero, List.set_cons_succ, i64_w, i32_w]
          rfl
         refine done_ (done_of HT_.out (by kernel_rfl)) ?_
         try go_wp2
         go_roundg k1
         case measure => have := HK1.out; omega
         case rel => exact ⟨(x10_1), (ji8), (by first | rfl | (simp; done) | (simp [*]; done)), (by first | rfl | (simp; done) | (simp only [← hji8] <;> (first | rfl | simp)) | (simp [*]; done)), H', ⟨by have := HK1.out; omega⟩, ⟨by (with_reducible repeat (first | apply Kd.R_alloc | apply Kd.R_drewN | apply Kd.R_drew)); exact HO_0.out⟩, ⟨by repeat (first | (with_reducible first | exact HK.out | apply Kept.alloc | apply Kept.drewN | apply Kept.drew) | exact HK.out)⟩, ⟨by repeat (first | (with_reducible first | exact HB.out | apply blA | apply blN | apply blD) | exact HB.out)⟩⟩
       ·rw [if_neg c12] at H
        exact absurd H (by simp)
      ·rw [if_neg c11] at H
       exact absurd H (by simp)
     ·rw [if_neg c10] at H
      exact absurd H (by simp)
    ·rw [if_neg c9] at H
     exact absurd H (by simp)
   ·rw [if_neg c7] at H
    have c7b0 : decide (x10_1 < x11_1) = false := decide_eq_false c7
    clear c7
    have H' := Ad.mk H
    clear H
    go_wp2
    go_loopg [13] k1 (fun kq v13 w' => ∃ (x0_2 : List (S35)) (x13_2 : Int), v13 = .int .i64 x13_2 ∧ Ad (api_Meta_77.l1 kq x0_2 x10_1 x13_2 = some r) ∧ Ad (kq ≤ k1) ∧ Ad (Kd.R k35 35 w' w0.heap.size (fun k_ => (P0_ k_ ∨ w.heap.size ≤ k_)) u9000_ x0_2) ∧ Ad (Kept w w' (fun k_ => P0_ k_)) ∧ Ad (Below w0.heap.size w0 w'))
    case atStart => exact ⟨(l0), (a1), (by first | rfl | (simp; done) | (simp [*]; done)), H', ⟨Nat.le_refl _⟩, ⟨by (with_reducible repeat (first | apply Kd.R_alloc | apply Kd.R_drewN | apply Kd.R_drew)); exact HO_0.out⟩, ⟨by repeat (first | (with_reducible first | exact HK.out | apply Kept.alloc | apply Kept.drewN | apply Kept.drew) | exact HK.out)⟩, ⟨by repeat (first | (with_reducible first | exact HB.out | apply blA | apply blN | apply blD) | exact HB.out)⟩⟩
    case round =>
     clear H'
     try clear c6
     try clear c6b0
     try clear c6b1
     try clear c7
     try clear c7b0
     try clear c9
     try clear c9b0
     try clear c10
     try clear c10b0
     try clear c11
     try clear c11b0
     try clear c12
     try clear c12b0
     try clear c14
     try clear c14b0
     try clear hx160_0
     try clear hx160_1
     try clear hx160_2
     try clear hx160_3
     try clear hx160_4
     try clear hx161_0
     try clear hx161_1
     try clear hx161_2
     try clear hx161_3
     try clear hx161_4
     try clear p160
     try clear p161
     try clear q160
     try clear q161
     obtain ⟨x0_2, x13_2, rfl, HA, HK2, HO_0, HK, HB⟩ := hrel
     cases gk with
     | zero => exact absurd HA.out (by simp [api_Meta_77.l1])
     | succ k2 =>
      have H := HA.out
      clear HA
      simp only [api_Meta_77.l1] at H
      by_cases c21 : x13_2 < (wrap64 (x10_1 - 1))
      ·rw [if_pos c21] at H
       have c21b0 : decide (x13_2 < (wrap64 (x10_1 - 1))) = true := decide_eq_true c21
       clear c21
       obtain ⟨ji22, hji22⟩ : ∃ j_ : Int, (wrap64 (x13_2 + 1)) = j_ := ⟨_, rfl⟩
       replace H : (if 0 ≤ (ji22) then (if (ji22) < (x0_2.length : Int) then (if 0 ≤ x13_2 then (if x13_2 < (x0_2.length : Int) then (api_Meta_77.l1 k2 ((x0_2.set (x13_2 : Int).toNat (⟨(rd_T35 x0_2 (ji22)).f0, (rd_T35 x0_2 (ji22)).f1, (rd_T35 x0_2 (ji22)).f2, (rd_T35 x0_2 (ji22)).f3, (rd_T35 x0_2 (ji22)).f4⟩ : S35)).set ((ji22) : Int).toNat (⟨(rd_T35 x0_2 x13_2).f0, (rd_T35 x0_2 x13_2).f1, (rd_T35 x0_2 x13_2).f2, (rd_T35 x0_2 x13_2).f3, (rd_T35 x0_2 x13_2).f4⟩ : S35)) x10_1 ji22) else (none)) else (none)) else (none)) else (none)) = some r := by first | (rw [hji22] at H; exact H) | (simp only [hji22] at H ⊢; exact H)
       have hji22w : (IntKind.i64.wrap (x13_2 + 1)) = ji22 := (i64_w _).trans hji22
       by_cases c23 : 0 ≤ (ji22)
       ·rw [if_pos c23] at H
        have c23b0 : decide (0 ≤ (ji22)) = true := decide_eq_true c23
        clear c23
        by_cases c24 : (ji22) < (x0_2.length : Int)
        ·rw [if_pos c24] at H
         have c24b0 : decide ((ji22) < (x0_2.length : Int)) = true := decide_eq_true c24
         clear c24
         by_cases c25 : 0 ≤ x13_2
         ·rw [if_pos c25] at H
          have c25b0 : decide (0 ≤ x13_2) = true := decide_eq_true c25
          clear c25
          by_cases c26 : x13_2 < (x0_2.length : Int)
          ·rw [if_pos c26] at H
           have c26b0 : decide (x13_2 < (x0_2.length : Int)) = true := decide_eq_true c26
           clear c26
           obtain ⟨y165, hy165⟩ : ∃ y_ : List (S35), y_ = (x0_2.set (x13_2 : Int).toNat (⟨(rd_T35 x0_2 (ji22)).f0, (rd_T35 x0_2 (ji22)).f1, (rd_T35 x0_2 (ji22)).f2, (rd_T35 x0_2 (ji22)).f3, (rd_T35 x0_2 (ji22)).f4⟩ : S35)) := ⟨_, rfl⟩
           replace H : (api_Meta_77.l1 k2 (y165.set ((ji22) : Int).toNat (⟨(rd_T35 x0_2 x13_2).f0, (rd_T35 x0_2 x13_2).f1, (rd_T35 x0_2 x13_2).f2, (rd_T35 x0_2 x13_2).f3, (rd_T35 x0_2 x13_2).f4⟩ : S35)) x10_1 ji22) = some r := by first | (rw [hy165]; with_reducible exact H) | (have H2_ := (Option.bind_some _ _).symm.trans H; rw [hy165]; with_reducible exact H2_) | (have H2_ := (Option.bind_some _ _).symm.trans H; with_reducible exact H2_) | with_reducible exact H | (rw [hy165]; exact H) | exact H
           have Ny165 := Ad.mk hy165
           clear hy165
           obtain ⟨y166, hy166⟩ : ∃ y_ : List (S35), y_ = (y165.set ((ji22) : Int).toNat (⟨(rd_T35 x0_2 x13_2).f0, (rd_T35 x0_2 x13_2).f1, (rd_T35 x0_2 x13_2).f2, (rd_T35 x0_2 x13_2).f3, (rd_T35 x0_2 x13_2).f4⟩ : S35)) := ⟨_, rfl⟩
           replace H : (api_Meta_77.l1 k2 y166 x10_1 ji22) = some r := by first | (rw [hy166]; with_reducible exact H) | (have H2_ := (Option.bind_some _ _).symm.trans H; rw [hy166]; with_reducible exact H2_) | (have H2_ := (Option.bind_some _ _).symm.trans H; with_reducible exact H2_) | with_reducible exact H | (rw [hy166]; exact H) | exact H
           have Ny166 := Ad.mk hy166
           clear hy166
           have H' := Ad.mk H
           clear H
           try go_wp2
           have n0_ := Ad.mk (Kd.R_drew HO_0.out)
           have n1_ := Ad.mk (Kept.drew HK.out)
           have n2_ := Ad.mk (blD HB.out)
           clear HO_0
           clear HK
           clear HB
           have HO_0 := n0_
           have HK := n1_
           have HB := n2_
           clear n0_ n1_ n2_
           obtain ⟨Ao30, co30, eo30⟩ := Kd.R_slice HO_0.out
           (first | subst eo30 | (injection eo30 with f1_ f2_ f3_; have f4_ := f1_.symm; have f5_ := f3_.symm; clear f1_ f2_ f3_; subst f4_; subst f5_))
           have p163 : 0 ≤ ((ji22) : Int) := of_decide_eq_true (by first | (with_reducible assumption) | assumption)
           have q163 : (ji22) < (x0_2.length : Int) := of_decide_eq_true (by first | (with_reducible assumption) | assumption)
           obtain ⟨ad163, e163, hx163_0, hx163_1, hx163_2, hx163_3, hx163_4⟩ := at_T35 (Kd.R_reads' HO_0.out).2.2 (ji22) p163 q163
           cases e163
           replace p163 := eq_true p163
           replace q163 := eq_true q163
           have p164 : 0 ≤ (x13_2 : Int) := of_decide_eq_true (by first | (with_reducible assumption) | assumption)
           have q164 : x13_2 < (x0_2.length : Int) := of_decide_eq_true (by first | (with_reducible assumption) | assumption)
           obtain ⟨ad164, e164, hx164_0, hx164_1, hx164_2, hx164_3, hx164_4⟩ := at_T35 (Kd.R_reads' HO_0.out).2.2 x13_2 p164 q164
           obtain rfl : ad163 = ad164 := (by injection e164)
           replace p164 := eq_true p164
           replace q164 := eq_true q164
           have p27 : 0 ≤ (x13_2 : Int) := of_decide_eq_true (by first | (with_reducible assumption) | assumption)
           have q27 : (x13_2 : Int) < ((x0_2.length : Int) : Int) := of_decide_eq_true (by first | (with_reducible assumption) | assumption)
           obtain ⟨go27, co27, eo27, gb27, gl27, cl27, HG27⟩ := Kd.R_form HO_0.out (by omega)
           (first | cases eo27 | (injection eo27 with ea_ en_ ec_; (first | subst ea_ | (injection ea_ with ea_; subst ea_)); subst ec_; clear en_))
           have GB27 := Ad.mk gb27
           have GG27 := Ad.mk HG27
           clear gb27 gl27 HG27
           have HMgo27 := Ad.mk (show (P0_ go27 ∨ w.heap.size ≤ go27) from (HO_0.out.1 _ rfl))
           (first | simp only [add_plain] at hx163_0 | skip)
           (first | simp only [add_plain] at hx163_1 | skip)
           (first | simp only [add_plain] at hx163_2 | skip)
           (first | simp only [add_plain] at hx163_3 | skip)
           (first | simp only [add_plain] at hx163_4 | skip)
           (first | simp only [add_plain] at hx164_0 | skip)
           (first | simp only [add_plain] at hx164_1 | skip)
           (first | simp only [add_plain] at hx164_2 | skip)
           (first | simp only [add_plain] at hx164_3 | skip)
           (first | simp only [add_plain] at hx164_4 | skip)
           obtain ⟨ce27, hcl27, hM27, hcc27, hfr27⟩ := Kd.R_elem HO_0.out z35 (x13_2 : Int) p27 q27
           obtain rfl := k35_openM hM27
           have hx27_0 : World.cell? _ ⟨go27, (x13_2 : Int).toNat * 5, none⟩ = some (.int .i64 ((rd_T35 x0_2 x13_2).f0)) := hcc27 0 _ rfl
           have hx27_1 : World.cell? _ ⟨go27, (x13_2 : Int).toNat * 5 + 1, none⟩ = some (.int .i64 ((rd_T35 x0_2 x13_2).f1)) := hcc27 1 _ rfl
           have hx27_2 : World.cell? _ ⟨go27, (x13_2 : Int).toNat * 5 + 2, none⟩ = some (.string ((rd_T35 x0_2 x13_2).f2)) := hcc27 2 _ rfl
           have hx27_3 : World.cell? _ ⟨go27, (x13_2 : Int).toNat * 5 + 3, none⟩ = some (.string ((rd_T35 x0_2 x13_2).f3)) := hcc27 3 _ rfl
           have hx27_4 : World.cell? _ ⟨go27, (x13_2 : Int).toNat * 5 + 4, none⟩ = some (.int .i64 ((rd_T35 x0_2 x13_2).f4)) := hcc27 4 _ rfl
           have hf27_0 : World.frozen? _ ⟨go27, (x13_2 : Int).toNat * 5, none⟩ = false := hfr27 0
           have hf27_1 : World.frozen? _ ⟨go27, (x13_2 : Int).toNat * 5 + 1, none⟩ = false := hfr27 1
           have hf27_2 : World.frozen? _ ⟨go27, (x13_2 : Int).toNat * 5 + 2, none⟩ = false := hfr27 2
           have hf27_3 : World.frozen? _ ⟨go27, (x13_2 : Int).toNat * 5 + 3, none⟩ = false := hfr27 3
           have hf27_4 : World.frozen? _ ⟨go27, (x13_2 : Int).toNat * 5 + 4, none⟩ = false := hfr27 4
           clear hcl27 hcc27 hfr27 hM27
           replace p27 := eq_true p27
           replace q27 := eq_true q27
           obtain ⟨ce31, hcl31, hM31, hcc31, hfr31⟩ := Kd.R_elem HO_0.out z35 (x13_2 : Int) (of_decide_eq_true (by first | (with_reducible assumption) | assumption)) (by have h_ : (x13_2 : Int) < ((x0_2.length : Int) : Int) := of_decide_eq_true (by first | (with_reducible assumption) | assumption); first | exact h_ | (have e_ := (Kd.R_reads' HO_0.out).1; omega) | simpa using h_)
           obtain rfl := k35_openM hM31
           have HP31 := (Kd.R_seg HO_0.out (x13_2 : Int) (of_decide_eq_true (by first | (with_reducible assumption) | assumption)) (by have h_ : (x13_2 : Int) < ((x0_2.length : Int) : Int) := of_decide_eq_true (by first | (with_reducible assumption) | assumption); first | exact h_ | (have e_ := (Kd.R_reads' HO_0.out).1; omega) | simpa using h_) (seg := [.int .i64 ((rd_T35 x0_2 (ji22)).f0), .int .i64 ((rd_T35 x0_2 (ji22)).f1), .string ((rd_T35 x0_2 (ji22)).f2), .string ((rd_T35 x0_2 (ji22)).f3), .int .i64 ((rd_T35 x0_2 (ji22)).f4)]) (j := 0) hcl31 hcc31 (show 5 ≤ 5 from by decide) (x' := (⟨(rd_T35 x0_2 (ji22)).f0, (rd_T35 x0_2 (ji22)).f1, (rd_T35 x0_2 (ji22)).f2, (rd_T35 x0_2 (ji22)).f3, (rd_T35 x0_2 (ji22)).f4⟩ : S35)) (k35_mkM _ _ _ (⟨(rd_T35 x0_2 (ji22)).f0, (rd_T35 x0_2 (ji22)).f1, (rd_T35 x0_2 (ji22)).f2, (rd_T35 x0_2 (ji22)).f3, (rd_T35 x0_2 (ji22)).f4⟩ : S35) ) (fun _ hk => hk)).1
           simp only [show (k35).sz = 5 from rfl, Nat.add_zero] at HP31
           rw [← Ny165.out] at HP31
           have HQ31 := Ad.mk HP31
           clear hcl31 hcc31 hfr31 hM31 HP31
           have p28 : 0 ≤ ((ji22) : Int) := of_decide_eq_true (by first | (with_reducible assumption) | assumption)
           have q28 : ((ji22) : Int) < ((x0_2.length : Int) : Int) := of_decide_eq_true (by first | (with_reducible assumption) | assumption)
           obtain ⟨ce28, hcl28, hM28, hcc28, hfr28⟩ := Kd.R_elem HQ31.out z35 ((ji22) : Int) p28 q28
           obtain rfl := k35_openM hM28
           have hx28_0 : World.cell? _ ⟨go27, ((ji22) : Int).toNat * 5, none⟩ = some (.int .i64 ((rd_T35 y165 (ji22)).f0)) := hcc28 0 _ rfl
           have hx28_1 : World.cell? _ ⟨go27, ((ji22) : Int).toNat * 5 + 1, none⟩ = some (.int .i64 ((rd_T35 y165 (ji22)).f1)) := hcc28 1 _ rfl
           have hx28_2 : World.cell? _ ⟨go27, ((ji22) : Int).toNat * 5 + 2, none⟩ = some (.string ((rd_T35 y165 (ji22)).f2)) := hcc28 2 _ rfl
           have hx28_3 : World.cell? _ ⟨go27, ((ji22) : Int).toNat * 5 + 3, none⟩ = some (.string ((rd_T35 y165 (ji22)).f3)) := hcc28 3 _ rfl
           have hx28_4 : World.cell? _ ⟨go27, ((ji22) : Int).toNat * 5 + 4, none⟩ = some (.int .i64 ((rd_T35 y165 (ji22)).f4)) := hcc28 4 _ rfl
           have hf28_0 : World.frozen? _ ⟨go27, ((ji22) : Int).toNat * 5, none⟩ = false := hfr28 0
           have hf28_1 : World.frozen? _ ⟨go27, ((ji22) : Int).toNat * 5 + 1, none⟩ = false := hfr28 1
           have hf28_2 : World.frozen? _ ⟨go27, ((ji22) : Int).toNat * 5 + 2, none⟩ = false := hfr28 2
           have hf28_3 : World.frozen? _ ⟨go27, ((ji22) : Int).toNat * 5 + 3, none⟩ = false := hfr28 3
           have hf28_4 : World.frozen? _ ⟨go27, ((ji22) : Int).toNat * 5 + 4, none⟩ = false := hfr28 4
           clear hcl28 hcc28 hfr28 hM28
           replace p28 := eq_true p28
           replace q28 := eq_true q28
           obtain ⟨ce32, hcl32, hM32, hcc32, hfr32⟩ := Kd.R_elem HQ31.out z35 ((ji22) : Int) (of_decide_eq_true (by first | (with_reducible assumption) | assumption)) (by have h_ : ((ji22) : Int) < ((x0_2.length : Int) : Int) := of_decide_eq_true (by first | (with_reducible assumption) | assumption); first | exact h_ | (have e_ := (Kd.R_reads' HO_0.out).1; omega) | simpa using h_)
           obtain rfl := k35_openM hM32
           have HP32 := (Kd.R_seg HQ31.out ((ji22) : Int) (of_decide_eq_true (by first | (with_reducible assumption) | assumption)) (by have h_ : ((ji22) : Int) < ((x0_2.length : Int) : Int) := of_decide_eq_true (by first | (with_reducible assumption) | assumption); first | exact h_ | (have e_ := (Kd.R_reads' HO_0.out).1; omega) | simpa using h_) (seg := [.int .i64 ((rd_T35 x0_2 x13_2).f0), .int .i64 ((rd_T35 x0_2 x13_2).f1), .string ((rd_T35 x0_2 x13_2).f2), .string ((rd_T35 x0_2 x13_2).f3), .int .i64 ((rd_T35 x0_2 x13_2).f4)]) (j := 0) hcl32 hcc32 (show 5 ≤ 5 from by decide) (x' := (⟨(rd_T35 x0_2 x13_2).f0, (rd_T35 x0_2 x13_2).f1, (rd_T35 x0_2 x13_2).f2, (rd_T35 x0_2 x13_2).f3, (rd_T35 x0_2 x13_2).f4⟩ : S35)) (k35_mkM _ _ _ (⟨(rd_T35 x0_2 x13_2).f0, (rd_T35 x0_2 x13_2).f1, (rd_T35 x0_2 x13_2).f2, (rd_T35 x0_2 x13_2).f3, (rd_T35 x0_2 x13_2).f4⟩ : S35) ) (fun _ hk => hk)).1
           simp only [show (k35).sz = 5 from rfl, Nat.add_zero] at HP32
           rw [← Ny166.out] at HP32
           have HQ32 := Ad.mk HP32
           clear hcl32 hcc32 hfr32 hM32 HP32
           refine start_ (n := 18) (S := fun w' => w'.cell? ⟨go27, (((ji22)).toNat * 5), none⟩ = some (.int .i64 ((rd_T35 x0_2 (ji22)).f0)) ∧ w'.cell? ⟨go27, (((ji22)).toNat * 5) + 1, none⟩ = some (.int .i64 ((rd_T35 x0_2 (ji22)).f1)) ∧ w'.cell? ⟨go27, (((ji22)).toNat * 5) + 2, none⟩ = some (.string ((rd_T35 x0_2 (ji22)).f2)) ∧ w'.cell? ⟨go27, (((ji22)).toNat * 5) + 3, none⟩ = some (.string ((rd_T35 x0_2 (ji22)).f3)) ∧ w'.cell? ⟨go27, (((ji22)).toNat * 5) + 4, none⟩ = some (.int .i64 ((rd_T35 x0_2 (ji22)).f4)) ∧ w'.cell? ⟨go27, ((x13_2).toNat * 5), none⟩ = some (.int .i64 ((rd_T35 x0_2 x13_2).f0)) ∧ w'.cell? ⟨go27, ((x13_2).toNat * 5) + 1, none⟩ = some (.int .i64 ((rd_T35 x0_2 x13_2).f1)) ∧ w'.cell? ⟨go27, ((x13_2).toNat * 5) + 2, none⟩ = some (.string ((rd_T35 x0_2 x13_2).f2)) ∧ w'.cell? ⟨go27, ((x13_2).toNat * 5) + 3, none⟩ = some (.string ((rd_T35 x0_2 x13_2).f3)) ∧ w'.cell? ⟨go27, ((x13_2).toNat * 5) + 4, none⟩ = some (.int .i64 ((rd_T35 x0_2 x13_2).f4))) (ds := [15, 17]) #[false, false, false, false, false, false, false, false, false, false, false, false, false, false, false, false, false, false] (by kernel_rfl) rfl rfl ⟨hx163_0, hx163_1, hx163_2, hx163_3, hx163_4, hx164_0, hx164_1, hx164_2, hx164_3, hx164_4⟩ (fun hHeld => ?_); refine with_tabW api_Meta_77.tab11 api_Meta_77.bits11 (fun HT_ HW_ => ?_)
           generalize wr.drew = w29 at HO_0 HK HB GG27 HQ31 HQ32 hf27_0 hf27_1 hf27_2 hf27_3 hf27_4 hf28_0 hf28_1 hf28_2 hf28_3 hf28_4 hx163_0 hx163_1 hx163_2 hx163_3 hx163_4 hx164_0 hx164_1 hx164_2 hx164_3 hx164_4 hx27_0 hx27_1 hx27_2 hx27_3 hx27_4 hx28_0 hx28_1 hx28_2 hx28_3 hx28_4 hHeld ⊢
           refine pure_ (i := 0) (N := some 61) (v := ?_) (a' := ?_) #[true, false, false, false, false, false, false, false, false, false, false, false, false, false, false, false, false, false] rfl rfl (any_of HT_.out (by kernel_rfl)) (fun _ _ _ h => h) (Or.inl ⟨by rfl, ?_⟩) ?_ ?_
           rotate_left
           ·intro w'
            go_simp
            with_reducible rfl
           rotate_left
           ·simp only [Act.put, List.setIfInBounds_toArray, List.set_cons_zero, List.set_cons_succ, i64_w, i32_w]
            rfl
           refine pure_ (i := 1) (N := some 62) (v := ?_) (a' := ?_) #[true, true, false, false, false, false, false, false, false, false, false, false, false, false, false, false, false, false] rfl rfl (any_of HT_.out (by kernel_rfl)) (fun _ _ _ h => h) (Or.inl ⟨by rfl, ?_⟩) ?_ ?_
           rotate_left
           ·intro w'
            go_simp
            with_reducible rfl
           rotate_left
           ·simp only [Act.put, List.setIfInBounds_toArray, List.set_cons_zero, List.set_cons_succ, i64_w, i32_w]
            rfl
           refine pure_ (i := 2) (N := some 63) (v := ?_) (a' := ?_) #[true, true, true, false, false, false, false, false, false, false, false, false, false, false, false, false, false, false] rfl rfl (any_of HT_.out (by kernel_rfl)) (fun _ _ _ h => h) (Or.inl ⟨by rfl, ?_⟩) ?_ ?_
           rotate_left
           ·intro w'
            go_simp
            with_reducible rfl
           rotate_left
           ·simp only [Act.put, List.setIfInBounds_toArray, List.set_cons_zero, List.set_cons_succ, i64_w, i32_w]
            rfl
           refine pure_ (i := 3) (N := some 64) (v := ?_) (a' := ?_) #[true, true, true, true, false, false, false, false, false, false, false, false, false, false, false, false, false, false] rfl rfl (any_of HT_.out (by kernel_rfl)) (fun _ _ _ h => h) (Or.inl ⟨by rfl, ?_⟩) ?_ ?_
           rotate_left
           ·intro w'
            go_simp
            with_reducible rfl
           rotate_left
           ·simp only [Act.put, List.setIfInBounds_toArray, List.set_cons_zero, List.set_cons_succ, i64_w, i32_w]
            rfl
           refine pure_ (i := 4) (N := some 65) (v := ?_) (a' := ?_) #[true, true, true, true, true, false, false, false, false, false, false, false, false, false, false, false, false, false] rfl rfl (any_of HT_.out (by kernel_rfl)) (fun _ _ _ h => h) (Or.inl ⟨by rfl, ?_⟩) ?_ ?_
           rotate_left
           ·intro w'
            go_simp
            with_reducible rfl
           rotate_left
           ·simp only [Act.put, List.setIfInBounds_toArray, List.set_cons_zero, List.set_cons_succ, i64_w, i32_w]
            rfl
           refine pure_ (i := 5) (N := some 66) (v := ?_) (a' := ?_) #[true, true, true, true, true, true, false, false, false, false, false, false, false, false, false, false, false, false] rfl rfl (any_of HT_.out (by kernel_rfl)) (fun _ _ _ h => h) (Or.inl ⟨by rfl, ?_⟩) ?_ ?_
           rotate_left
           ·intro w'
            go_simp
            with_reducible rfl
           rotate_left
           ·simp only [Act.put, List.setIfInBounds_toArray, List.set_cons_zero, List.set_cons_succ, i64_w, i32_w]
            rfl
           refine pure_ (i := 6) (N := some 67) (v := ?_) (a' := ?_) #[true, true, true, true, true, true, true, false, false, false, false, false, false, false, false, false, false, false] rfl rfl (any_of HT_.out (by kernel_rfl)) (fun _ _ _ h => h) (Or.inl ⟨by rfl, ?_⟩) ?_ ?_
           rotate_left
           ·intro w'
            go_simp
            with_reducible rfl
           rotate_left
           ·simp only [Act.put, List.setIfInBounds_toArray, List.set_cons_zero, List.set_cons_succ, i64_w, i32_w]
            rfl
           refine pure_ (i := 7) (N := some 68) (v := ?_) (a' := ?_) #[true, true, true, true, true, true, true, true, false, false, false, false, false, false, false, false, false, false] rfl rfl (any_of HT_.out (by kernel_rfl)) (fun _ _ _ h => h) (Or.inl ⟨by rfl, ?_⟩) ?_ ?_
           rotate_left
           ·intro w'
            go_simp
            with_reducible rfl
           rotate_left
           ·simp only [Act.put, List.setIfInBounds_toArray, List.set_cons_zero, List.set_cons_succ, i64_w, i32_w]
            rfl
           refine pure_ (i := 8) (N := some 69) (v := ?_) (a' := ?_) #[true, true, true, true, true, true, true, true, true, false, false, false, false, false, false, false, false, false] rfl rfl (any_of HT_.out (by kernel_rfl)) (fun _ _ _ h => h) (Or.inl ⟨by rfl, ?_⟩) ?_ ?_
           rotate_left
           ·intro w'
            go_simp
            with_reducible rfl
           rotate_left
           ·simp only [Act.put, List.setIfInBounds_toArray, List.set_cons_zero, List.set_cons_succ, i64_w, i32_w]
            rfl
           refine pure_ (i := 10) (N := some 71) (v := ?_) (a' := ?_) #[true, true, true, true, true, true, true, true, true, false, true, false, false, false, false, false, false, false] rfl rfl (any_of HT_.out (by kernel_rfl)) (fun _ _ _ h => h) (Or.inl ⟨by rfl, ?_⟩) ?_ ?_
           rotate_left
           ·intro w'
            go_simp
            with_reducible rfl
           rotate_left
           ·simp only [Act.put, List.setIfInBounds_toArray, List.set_cons_zero, List.set_cons_succ, i64_w, i32_w]
            rfl
           refine pure_ (i := 11) (N := some 72) (v := ?_) (a' := ?_) #[true, true, true, true, true, true, true, true, true, false, true, true, false, false, false, false, false, false] rfl rfl (any_of HT_.out (by kernel_rfl)) (fun _ _ _ h => h) (Or.inl ⟨by rfl, ?_⟩) ?_ ?_
           rotate_left
           ·intro w'
            go_simp
            with_reducible rfl
           rotate_left
           ·simp only [Act.put, List.setIfInBounds_toArray, List.set_cons_zero, List.set_cons_succ, i64_w, i32_w]
            rfl
           refine pure_ (i := 12) (N := some 73) (v := ?_) (a' := ?_) #[true, true, true, true, true, true, true, true, true, false, true, true, true, false, false, false, false, false] rfl rfl (any_of HT_.out (by kernel_rfl)) (fun _ _ _ h => h) (Or.inl ⟨by rfl, ?_⟩) ?_ ?_
           rotate_left
           ·intro w'
            go_simp
            with_reducible rfl
           rotate_left
           ·simp only [Act.put, List.setIfInBounds_toArray, List.set_cons_zero, List.set_cons_succ, i64_w, i32_w]
            rfl
           refine take_ (i := 9) (N := some 70) (v := ?_) (a' := ?_) #[true, true, true, true, true, true, true, true, true, true, true, true, true, false, false, false, false, false] rfl rfl (take_ofW HT_.out HW_.out (by kernel_rfl)) (fun _ _ _ h => h) (Or.inl ⟨by rfl, ?_⟩) hHeld ?_ ?_
           rotate_left
           ·rintro w' ⟨s0, s1, s2, s3, s4, s5, s6, s7, s8, s9⟩
            go_simp
            with_reducible rfl
           rotate_left
           ·simp only [Act.put, List.setIfInBounds_toArray, List.set_cons_zero, List.set_cons_succ, i64_w, i32_w]
            rfl
           refine take_ (i := 13) (N := some 74) (v := ?_) (a' := ?_) #[true, true, true, true, true, true, true, true, true, true, true, true, true, true, false, false, false, false] rfl rfl (take_ofW HT_.out HW_.out (by kernel_rfl)) (fun _ _ _ h => h) (Or.inl ⟨by rfl, ?_⟩) hHeld ?_ ?_
           rotate_left
           ·rintro w' ⟨s0, s1, s2, s3, s4, s5, s6, s7, s8, s9⟩
            go_simp
            with_reducible rfl
           rotate_left
           ·simp only [Act.put, List.setIfInBounds_toArray, List.set_cons_zero, List.set_cons_succ, i64_w, i32_w]
            rfl
           refine pure_ (i := 14) (N := some 75) (v := ?_) (a' := ?_) #[true, true, true, true, true, true, true, true, true, true, true, true, true, true, true, false, false, false] rfl rfl (any_of HT_.out (by kernel_rfl)) (fun _ _ _ h => h) (Or.inl ⟨by rfl, ?_⟩) ?_ ?_
           rotate_left
           ·intro w'
            go_simp
            with_reducible rfl
           rotate_left
           ·simp only [Act.put, List.setIfInBounds_toArray, List.set_cons_zero, List.set_cons_succ, i64_w, i32_w]
            rfl
           refine last_ (i := 15) (N := none) #[true, true, true, true, true, true, true, true, true, true, true, true, true, true, true, true, false, false] rfl rfl (one_of HT_.out (by kernel_rfl)) (by decide) (fun K hK => ?_)
           refine row_skip k35 (x13_2 : Int) 0 [.int .i64 ((rd_T35 x0_2 (ji22)).f0), .int .i64 ((rd_T35 x0_2 (ji22)).f1), .string ((rd_T35 x0_2 (ji22)).f2), .string ((rd_T35 x0_2 (ji22)).f3), .int .i64 ((rd_T35 x0_2 (ji22)).f4)] (o' := (x13_2 : Int).toNat * 5) (t := 35) (p := .tmp 75) (x := .tmp 70) (u := .agg #[.int .i64 ((rd_T35 x0_2 (ji22)).f0), .int .i64 ((rd_T35 x0_2 (ji22)).f1), .string ((rd_T35 x0_2 (ji22)).f2), .string ((rd_T35 x0_2 (ji22)).f3), .int .i64 ((rd_T35 x0_2 (ji22)).f4)]) (by rfl) rfl ?ho ?ha ?hf ?hx ?hu (info_size info35) ?h1 HO_0.out ?h0 ?hi ?hj ?_
           case ho => rfl
           case ha => rfl
           case hf => rfl
           case hx => rfl
           case hu => rfl
           case h1 => rfl
           case h0 => exact (of_decide_eq_true (by first | (with_reducible assumption) | assumption))
           case hi => exact (by have h_ : (x13_2 : Int) < ((x0_2.length : Int) : Int) := of_decide_eq_true (by first | (with_reducible assumption) | assumption); first | exact h_ | (have e_ := (Kd.R_reads' HO_0.out).1; omega) | simpa using h_)
           case hj => exact (show 5 ≤ 5 from by decide)
           intro wz31 hwz hgz
           rw [hwz] at HQ31 HQ32
           have n0_ := Ad.mk (Kept.of_grown hgz HK.out (fun k_ hk_ => by injection hk_ with hk_; subst hk_; exact HMgo27.out))
           clear HK
           have HK := n0_
           clear n0_
           have n1_ := Ad.mk (pw_below_grown HB.out (some go27) HB.out.size hgz (fun k_ hk_ => by injection hk_ with hk_; subst hk_; exact GB27.out))
           clear HB
           have HB := n1_
           clear n1_ hwz hgz
           refine hK.out _ _ ?_
           clear hK K
           refine pure_ (i := 16) (N := some 76) (v := ?_) (a' := ?_) #[true, true, true, true, true, true, true, true, true, true, true, true, true, true, true, true, true, false] rfl rfl (any_of HT_.out (by kernel_rfl)) (fun _ _ _ h => h) (Or.inl ⟨by rfl, ?_⟩) ?_ ?_
           rotate_left
           ·intro w'
            go_simp
            with_reducible rfl
           rotate_left
           ·simp only [Act.put, List.setIfInBounds_toArray, List.set_cons_zero, List.set_cons_succ, i64_w, i32_w]
            rfl
           refine last_ (i := 17) (N := none) #[true, true, true, true, true, true, true, true, true, true, true, true, true, true, true, true, true, true] rfl rfl (one_of HT_.out (by kernel_rfl)) (by decide) (fun K hK => ?_)
           refine row_skip k35 ((ji22) : Int) 0 [.int .i64 ((rd_T35 x0_2 x13_2).f0), .int .i64 ((rd_T35 x0_2 x13_2).f1), .string ((rd_T35 x0_2 x13_2).f2), .string ((rd_T35 x0_2 x13_2).f3), .int .i64 ((rd_T35 x0_2 x13_2).f4)] (o' := ((ji22) : Int).toNat * 5) (t := 35) (p := .tmp 76) (x := .tmp 74) (u := .agg #[.int .i64 ((rd_T35 x0_2 x13_2).f0), .int .i64 ((rd_T35 x0_2 x13_2).f1), .string ((rd_T35 x0_2 x13_2).f2), .string ((rd_T35 x0_2 x13_2).f3), .int .i64 ((rd_T35 x0_2 x13_2).f4)]) (by rfl) rfl ?ho ?ha ?hf ?hx ?hu (info_size info35) ?h1 HQ31.out ?h0 ?hi ?hj ?_
           case ho => rfl
           case ha => rfl
           case hf => rfl
           case hx => rfl
           case hu => rfl
           case h1 => rfl
           case h0 => exact (of_decide_eq_true (by first | (with_reducible assumption) | assumption))
           case hi => exact (by have h_ : ((ji22) : Int) < ((x0_2.length : Int) : Int) := of_decide_eq_true (by first | (with_reducible assumption) | assumption); first | exact h_ | (have e_ := (Kd.R_reads' HO_0.out).1; omega) | simpa using h_)
           case hj => exact (show 5 ≤ 5 from by decide)
           intro wz32 hwz hgz
           rw [hwz] at HQ32
           have n0_ := Ad.mk (Kept.of_grown hgz HK.out (fun k_ hk_ => by injection hk_ with hk_; subst hk_; exact HMgo27.out))
           clear HK
           have HK := n0_
           clear n0_
           have n1_ := Ad.mk (pw_below_grown HB.out (some go27) HB.out.size hgz (fun k_ hk_ => by injection hk_ with hk_; subst hk_; exact GB27.out))
           clear HB
           have HB := n1_
           clear n1_ hwz hgz
           refine hK.out _ _ ?_
           clear hK K
           refine done_ (done_of HT_.out (by kernel_rfl)) ?_
           try go_wp2
           go_roundg k2
           case measure => have := HK1.out; have := HK2.out; omega
           case rel => exact ⟨(y166), (ji22), (by first | rfl | (simp; done) | (simp only [← hji22] <;> (first | rfl | simp)) | (simp [*]; done)), H', ⟨by have := HK1.out; have := HK2.out; omega⟩, ⟨by (with_reducible repeat (first | apply Kd.R_alloc | apply Kd.R_drewN | apply Kd.R_drew)); exact HQ32.out⟩, ⟨by repeat (first | (with_reducible first | exact HK.out | apply Kept.alloc | apply Kept.drewN | apply Kept.drew | refine Kept.setCell ?_ HMgo27.out _ | refine Kept.setCell ?_ HMgo27.out _ | refine Kept.setCell ?_ HMgo27.out _ | refine Kept.setCell ?_ HMgo27.out _ | refine Kept.setCell ?_ HMgo27.out _ | refine Kept.setCell ?_ HMgo27.out _ | refine Kept.setCell ?_ HMgo27.out _ | refine Kept.setCell ?_ HMgo27.out _ | refine Kept.setCell ?_ HMgo27.out _ | refine Kept.setCell ?_ HMgo27.out _) | exact HK.out)⟩, ⟨by repeat (first | (with_reducible first | exact HB.out | apply blA | apply blN | apply blD | refine blS ?_ GB27.out | refine blS ?_ GB27.out | refine blS ?_ GB27.out | refine blS ?_ GB27.out | refine blS ?_ GB27.out | refine blS ?_ GB27.out | refine blS ?_ GB27.out | refine blS ?_ GB27.out | refine blS ?_ GB27.out | refine blS ?_ GB27.out) | exact HB.out)⟩⟩
          ·rw [if_neg c26] at H
           exact absurd H (by simp)
         ·rw [if_neg c25] at H
          exact absurd H (by simp)
        ·rw [if_neg c24] at H
         exact absurd H (by simp)
       ·rw [if_neg c23] at H
        exact absurd H (by simp)
      ·rw [if_neg c21] at H
       have c21b0 : decide (x13_2 < (wrap64 (x10_1 - 1))) = false := decide_eq_false c21
       clear c21
       obtain rfl := Option.some.inj H
       go_wp2
       first | go_end0 | ((try simp only [Exit.inBlock, Exit.then]); refine bodyPost_ret (results_none rfl _ _ _) rfl ?_)
       exact ⟨by first | rfl | (simp [errW_none, errW_some] <;> rfl) | (simp [*, errW_none, errW_some] <;> rfl), by (with_reducible repeat (first | apply Kd.R_alloc | apply Kd.R_drewN | apply Kd.R_drew)); exact HO_0.out, by repeat (first | (with_reducible first | exact HB.out | apply blA | apply blN | apply blD) | exact HB.out), by repeat (first | (with_reducible first | exact HK.out | apply Kept.alloc | apply Kept.drewN | apply Kept.drew) | exact HK.out)⟩
end Go.Proofs.Ytoonheembcejfaa.PA

-- printed by a program of this session (wip/myprint.py), after the kit's print
import Derived.Test.YtoonheembcejfaaPAx0
import Derived.Test.YtoonheembcejfaaPAx4
import Derived.Test.YtoonheembcejfaaHExamples
namespace Go.Proofs.Ytoonheembcejfaa.PA
open Go.RowKit Go.Proofs.YtoonheembcejfaaW.PrintWords Go.Proofs.YtoonheembcejfaaW.PrintLast Go.Proofs.YtoonheembcejfaaW.PrintMore
attribute [local go_sem] max2_int min2_int max_two min_two max_three min_three max_four min_four   -- for this text's walks alone
set_option linter.unusedVariables false
set_option linter.unusedSimpArgs false
/-! ### version_Level: function 16 -/
def version_Level.l0 : Nat → Int → List (S35) → List (S35) → Int → Int → Option ((List (S35)))
 | 0, _, _, _, _, _ => none
 | k + 1, x1, x5, x9, x10, x11 => if x11 < x10 then (if 0 ≤ x11 then (if x11 < (x9.length : Int) then (if ((rd_T35 x9 x11).f1) = x1 then (if x5.length < 2513169434916 then (version_Level.l0 k x1 (x5 ++ [(⟨(rd_T35 x9 x11).f0, (rd_T35 x9 x11).f1, (rd_T35 x9 x11).f2, (rd_T35 x9 x11).f3, (rd_T35 x9 x11).f4⟩ : S35)]) x9 x10 (wrap64 (x11 + 1))) else (none)) else (version_Level.l0 k x1 x5 x9 x10 (wrap64 (x11 + 1)))) else (none)) else (none)) else (some x5)
def version_Level.f (k : Nat) (l0_0 : List (S35)) (l0_1 : List Int) (a0_2 : Int) (a1 : Int) : Option ((List (S35))) := version_Level.l0 k a1 ([] : List (S35)) l0_0 (l0_0.length : Int) 0
theorem version_Level.mono_l : ∀ k, (∀ y0 y1 y2 y3 y4, LeO (version_Level.l0 k y0 y1 y2 y3 y4) (version_Level.l0 (k + 1) y0 y1 y2 y3 y4))
 | 0 => fun _ _ _ _ _ r h => by simp [version_Level.l0] at h
 | k + 1 => by
  have ih0 := version_Level.mono_l k
  ·intro y0 y1 y2 y3 y4
   unfold version_Level.l0
   repeat' first
   | (with_reducible exact ih0 _ _ _ _ _)
   | (with_reducible exact LeO.refl _)
   | (with_reducible exact LeO.none _)
   | (with_reducible refine LeO.ite ?_ ?_)
   | (with_reducible refine LeO.bind ?_ (fun _ => ?_))
   | exact ih0 _ _ _ _ _
   | exact LeO.none _
   | refine LeO.ite ?_ ?_
   | refine LeO.bind ?_ (fun _ => ?_)
theorem version_Level.mono : ∀ a0 a1 a2 a3 k, LeO (version_Level.f k a0 a1 a2 a3) (version_Level.f (k + 1) a0 a1 a2 a3) := by
 intro a0 a1 a2 a3 k
 have ih0 := version_Level.mono_l k
 unfold version_Level.f
 repeat' first
   | (with_reducible exact ih0 _ _ _ _ _)
   | (with_reducible exact LeO.refl _)
   | (with_reducible exact LeO.none _)
   | (with_reducible refine LeO.ite ?_ ?_)
   | (with_reducible refine LeO.bind ?_ (fun _ => ?_))
   | exact ih0 _ _ _ _ _
   | exact LeO.none _
   | refine LeO.ite ?_ ?_
   | refine LeO.bind ?_ (fun _ => ?_)
/-! ### palinodelaw14_VersionApart: function 6 -/
mutual
def palinodelaw14_VersionApart.l0 : Nat → ByteArray → Bool → Int → List (S35) → List Int → Int → Option (Bool)
 | 0, _, _, _, _, _, _ => none
 | k + 1, x1, x5, x6, x387000, x387001, x387002 => if x6 < 4 then ((version_Level.f k x387000 x387001 x387002 x6).bind fun t389 => (palinodelaw14_VersionApart.l1 k x1 x5 x6 0 t389 0 x387000 x387001 x387002)) else (some x5)
def palinodelaw14_VersionApart.l1 : Nat → ByteArray → Bool → Int → Int → List (S35) → Int → List (S35) → List Int → Int → Option (Bool)
 | 0, _, _, _, _, _, _, _, _, _ => none
 | k + 1, x1, x5, x6, x7, x8, x9, x387000, x387001, x387002 => if x9 < (x8.length : Int) then (if 0 ≤ x9 then (if ((Op.bytesLess x1.toList (((rd_T35 x8 x9).f2).toList)) = true) then (palinodelaw14_VersionApart.j2 k x1 x5 x6 x7 x8 x9 false x387000 x387001 x387002) else (palinodelaw14_VersionApart.j2 k x1 x5 x6 x7 x8 x9 (!(Op.bytesLess (((rd_T35 x8 x9).f3).toList) x1.toList)) x387000 x387001 x387002)) else (none)) else (if x7 > 1 then (some false) else (palinodelaw14_VersionApart.l0 k x1 x5 (wrap64 (x6 + 1)) x387000 x387001 x387002))
def palinodelaw14_VersionApart.j2 : Nat → ByteArray → Bool → Int → Int → List (S35) → Int → Bool → List (S35) → List Int → Int → Option (Bool)
 | 0, _, _, _, _, _, _, _, _, _, _ => none
 | k + 1, x1, x5, x6, x7, x8, x9, x43, x387000, x387001, x387002 => if x43 = true then (if x9 > 0 then (if 0 ≤ (wrap64 (x9 - 1)) then (if (wrap64 (x9 - 1)) < (x8.length : Int) then (if 0 ≤ x9 then (if x9 < (x8.length : Int) then (if ((Op.bytesLess (((rd_T35 x8 (wrap64 (x9 - 1))).f3).toList) (((rd_T35 x8 x9).f2).toList)) = true) then (palinodelaw14_VersionApart.l1 k x1 x5 x6 (wrap64 (x7 + 1)) x8 (wrap64 (x9 + 1)) x387000 x387001 x387002) else (some false)) else (none)) else (none)) else (none)) else (none)) else (palinodelaw14_VersionApart.l1 k x1 x5 x6 (wrap64 (x7 + 1)) x8 (wrap64 (x9 + 1)) x387000 x387001 x387002)) else (if x9 > 0 then (if 0 ≤ (wrap64 (x9 - 1)) then (if (wrap64 (x9 - 1)) < (x8.length : Int) then (if 0 ≤ x9 then (if x9 < (x8.length : Int) then (if ((Op.bytesLess (((rd_T35 x8 (wrap64 (x9 - 1))).f3).toList) (((rd_T35 x8 x9).f2).toList)) = true) then (palinodelaw14_VersionApart.l1 k x1 x5 x6 x7 x8 (wrap64 (x9 + 1)) x387000 x387001 x387002) else (some false)) else (none)) else (none)) else (none)) else (none)) else (palinodelaw14_VersionApart.l1 k x1 x5 x6 x7 x8 (wrap64 (x9 + 1)) x387000 x387001 x387002))
end
def palinodelaw14_VersionApart.f (k : Nat) (l0_0 : List (S35)) (l0_1 : List Int) (a0_2 : Int) (a1 : ByteArray) : Option (Bool) := (palinodelaw14_examples.f).bind fun t387 => ((version_Right.f k l0_0 l0_1 a0_2).bind fun t388 => (if t388 = true then (palinodelaw14_VersionApart.l0 k a1 t387 1 l0_0 l0_1 a0_2) else (some t387)))
theorem palinodelaw14_VersionApart.mono_l : ∀ k, (∀ y0 y1 y2 y3 y4 y5, LeO (palinodelaw14_VersionApart.l0 k y0 y1 y2 y3 y4 y5) (palinodelaw14_VersionApart.l0 (k + 1) y0 y1 y2 y3 y4 y5)) ∧ (∀ y0 y1 y2 y3 y4 y5 y6 y7 y8, LeO (palinodelaw14_VersionApart.l1 k y0 y1 y2 y3 y4 y5 y6 y7 y8) (palinodelaw14_VersionApart.l1 (k + 1) y0 y1 y2 y3 y4 y5 y6 y7 y8)) ∧ (∀ y0 y1 y2 y3 y4 y5 y6 y7 y8 y9, LeO (palinodelaw14_VersionApart.j2 k y0 y1 y2 y3 y4 y5 y6 y7 y8 y9) (palinodelaw14_VersionApart.j2 (k + 1) y0 y1 y2 y3 y4 y5 y6 y7 y8 y9))
 | 0 => ⟨fun _ _ _ _ _ _ r h => by simp [palinodelaw14_VersionApart.l0] at h, fun _ _ _ _ _ _ _ _ _ r h => by simp [palinodelaw14_VersionApart.l1] at h, fun _ _ _ _ _ _ _ _ _ _ r h => by simp [palinodelaw14_VersionApart.j2] at h⟩
 | k + 1 => by
  obtain ⟨ih0, ih1, ih2⟩ := palinodelaw14_VersionApart.mono_l k
  refine ⟨?_, ?_, ?_⟩
  ·intro y0 y1 y2 y3 y4 y5
   unfold palinodelaw14_VersionApart.l0
   repeat' first
   | (with_reducible exact ih0 _ _ _ _ _ _)
   | (with_reducible exact ih1 _ _ _ _ _ _ _ _ _)
   | (with_reducible exact ih2 _ _ _ _ _ _ _ _ _ _)
   | (with_reducible exact version_Level.mono _ _ _ _ _)
   | (with_reducible exact version_Right.mono _ _ _ _)
   | (with_reducible exact LeO.refl _)
   | (with_reducible exact LeO.none _)
   | (with_reducible refine LeO.ite ?_ ?_)
   | (with_reducible refine LeO.bind ?_ (fun _ => ?_))
   | exact ih0 _ _ _ _ _ _
   | exact ih1 _ _ _ _ _ _ _ _ _
   | exact ih2 _ _ _ _ _ _ _ _ _ _
   | exact version_Level.mono _ _ _ _ _
   | exact version_Right.mono _ _ _ _
   | exact LeO.none _
   | refine LeO.ite ?_ ?_
   | refine LeO.bind ?_ (fun _ => ?_)
  ·intro y0 y1 y2 y3 y4 y5 y6 y7 y8
   unfold palinodelaw14_VersionApart.l1
   repeat' first
   | (with_reducible exact ih0 _ _ _ _ _ _)
   | (with_reducible exact ih1 _ _ _ _ _ _ _ _ _)
   | (with_reducible exact ih2 _ _ _ _ _ _ _ _ _ _)
   | (with_reducible exact version_Level.mono _ _ _ _ _)
   | (with_reducible exact version_Right.mono _ _ _ _)
   | (with_reducible exact LeO.refl _)
   | (with_reducible exact LeO.none _)
   | (with_reducible refine LeO.ite ?_ ?_)
   | (with_reducible refine LeO.bind ?_ (fun _ => ?_))
   | exact ih0 _ _ _ _ _ _
   | exact ih1 _ _ _ _ _ _ _ _ _
   | exact ih2 _ _ _ _ _ _ _ _ _ _
   | exact version_Level.mono _ _ _ _ _
   | exact version_Right.mono _ _ _ _
   | exact LeO.none _
   | refine LeO.ite ?_ ?_
   | refine LeO.bind ?_ (fun _ => ?_)
  ·intro y0 y1 y2 y3 y4 y5 y6 y7 y8 y9
   unfold palinodelaw14_VersionApart.j2
   repeat' first
   | (with_reducible exact ih0 _ _ _ _ _ _)
   | (with_reducible exact ih1 _ _ _ _ _ _ _ _ _)
   | (with_reducible exact ih2 _ _ _ _ _ _ _ _ _ _)
   | (with_reducible exact version_Level.mono _ _ _ _ _)
   | (with_reducible exact version_Right.mono _ _ _ _)
   | (with_reducible exact LeO.refl _)
   | (with_reducible exact LeO.none _)
   | (with_reducible refine LeO.ite ?_ ?_)
   | (with_reducible refine LeO.bind ?_ (fun _ => ?_))
   | exact ih0 _ _ _ _ _ _
   | exact ih1 _ _ _ _ _ _ _ _ _
   | exact ih2 _ _ _ _ _ _ _ _ _ _
   | exact version_Level.mono _ _ _ _ _
   | exact version_Right.mono _ _ _ _
   | exact LeO.none _
   | refine LeO.ite ?_ ?_
   | refine LeO.bind ?_ (fun _ => ?_)
theorem palinodelaw14_VersionApart.mono : ∀ a0 a1 a2 a3 k, LeO (palinodelaw14_VersionApart.f k a0 a1 a2 a3) (palinodelaw14_VersionApart.f (k + 1) a0 a1 a2 a3) := by
 intro a0 a1 a2 a3 k
 obtain ⟨ih0, ih1, ih2⟩ := palinodelaw14_VersionApart.mono_l k
 unfold palinodelaw14_VersionApart.f
 repeat' first
   | (with_reducible exact ih0 _ _ _ _ _ _)
   | (with_reducible exact ih1 _ _ _ _ _ _ _ _ _)
   | (with_reducible exact ih2 _ _ _ _ _ _ _ _ _ _)
   | (with_reducible exact version_Level.mono _ _ _ _ _)
   | (with_reducible exact version_Right.mono _ _ _ _)
   | (with_reducible exact LeO.refl _)
   | (with_reducible exact LeO.none _)
   | (with_reducible refine LeO.ite ?_ ?_)
   | (with_reducible refine LeO.bind ?_ (fun _ => ?_))
   | exact ih0 _ _ _ _ _ _
   | exact ih1 _ _ _ _ _ _ _ _ _
   | exact ih2 _ _ _ _ _ _ _ _ _ _
   | exact version_Level.mono _ _ _ _ _
   | exact version_Right.mono _ _ _ _
   | exact LeO.none _
   | refine LeO.ite ?_ ?_
   | refine LeO.bind ?_ (fun _ => ?_)
end Go.Proofs.Ytoonheembcejfaa.PA

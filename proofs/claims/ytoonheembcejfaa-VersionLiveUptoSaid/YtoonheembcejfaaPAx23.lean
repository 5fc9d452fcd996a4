-- printed by a program of this session (wip/myprint.py), after the kit's print
import Derived.Test.YtoonheembcejfaaPAx0
import Derived.Test.YtoonheembcejfaaPAx4
import Derived.Test.YtoonheembcejfaaPAx22
import Derived.Test.YtoonheembcejfaaHExamples
import Derived.Test.YtoonheembcejfaaHLive
namespace Go.Proofs.Ytoonheembcejfaa.PA
open Go.RowKit Go.Proofs.YtoonheembcejfaaW.PrintWords Go.Proofs.YtoonheembcejfaaW.PrintLast Go.Proofs.YtoonheembcejfaaW.PrintMore
attribute [local go_sem] max2_int min2_int max_two min_two max_three min_three max_four min_four   -- for this text's walks alone
set_option linter.unusedVariables false
set_option linter.unusedSimpArgs false
/-! ### palinodelaw14_VersionLive: function 5 -/
mutual
def palinodelaw14_VersionLive.l0 : Nat → Bool → List Int → Bool → Int → List (S35) → List Int → Int → Option (Bool)
 | 0, _, _, _, _, _, _, _ => none
 | k + 1, x3, x4, x5, x6, x399000, x399001, x399002 => if x6 < (x4.length : Int) then (if 0 ≤ x6 then (if 0 ≤ (wrap64 (x6 - 1)) then (if (wrap64 (x6 - 1)) < (x4.length : Int) then (if (rd x4 x6) < (rd x4 (wrap64 (x6 - 1))) then (some false) else (if x5 = true then (if (rd x4 x6) = (rd x4 (wrap64 (x6 - 1))) then (some false) else (palinodelaw14_VersionLive.l0 k x3 x4 x5 (wrap64 (x6 + 1)) x399000 x399001 x399002)) else (palinodelaw14_VersionLive.l0 k x3 x4 x5 (wrap64 (x6 + 1)) x399000 x399001 x399002))) else (none)) else (none)) else (none)) else (palinodelaw14_VersionLive.l1 k x3 x5 0 0 x399000 x399001 x399002)
def palinodelaw14_VersionLive.l1 : Nat → Bool → Bool → Int → Int → List (S35) → List Int → Int → Option (Bool)
 | 0, _, _, _, _, _, _, _ => none
 | k + 1, x3, x5, x7, x8, x399000, x399001, x399002 => if x8 < 4 then ((version_Level.f k x399000 x399001 x399002 x8).bind fun t408 => (palinodelaw14_VersionLive.l1 k x3 x5 (wrap64 (x7 + (t408.length : Int))) (wrap64 (x8 + 1)) x399000 x399001 x399002)) else (if x3 = true then (if x5 = true then (some (x7 == (x399000.length : Int))) else (some true)) else (some false))
end
def palinodelaw14_VersionLive.f (k : Nat) (l0_0 : List (S35)) (l0_1 : List Int) (a0_2 : Int) : Option (Bool) := (palinodelaw14_examples.f).bind fun t399 => ((version_Live.f l0_0 l0_1 a0_2).bind fun t400 => (if (t400.length : Int) = (wrap64 ((l0_0.length : Int) + (l0_1.length : Int))) then ((version_Right.f k l0_0 l0_1 a0_2).bind fun t403 => (palinodelaw14_VersionLive.l0 k t399 t400 t403 1 l0_0 l0_1 a0_2)) else (some false)))
theorem palinodelaw14_VersionLive.mono_l : ∀ k, (∀ y0 y1 y2 y3 y4 y5 y6, LeO (palinodelaw14_VersionLive.l0 k y0 y1 y2 y3 y4 y5 y6) (palinodelaw14_VersionLive.l0 (k + 1) y0 y1 y2 y3 y4 y5 y6)) ∧ (∀ y0 y1 y2 y3 y4 y5 y6, LeO (palinodelaw14_VersionLive.l1 k y0 y1 y2 y3 y4 y5 y6) (palinodelaw14_VersionLive.l1 (k + 1) y0 y1 y2 y3 y4 y5 y6))
 | 0 => ⟨fun _ _ _ _ _ _ _ r h => by simp [palinodelaw14_VersionLive.l0] at h, fun _ _ _ _ _ _ _ r h => by simp [palinodelaw14_VersionLive.l1] at h⟩
 | k + 1 => by
  obtain ⟨ih0, ih1⟩ := palinodelaw14_VersionLive.mono_l k
  refine ⟨?_, ?_⟩
  ·intro y0 y1 y2 y3 y4 y5 y6
   unfold palinodelaw14_VersionLive.l0
   repeat' first
   | (with_reducible exact ih0 _ _ _ _ _ _ _)
   | (with_reducible exact ih1 _ _ _ _ _ _ _)
   | (with_reducible exact version_Level.mono _ _ _ _ _)
   | (with_reducible exact version_Right.mono _ _ _ _)
   | (with_reducible exact LeO.refl _)
   | (with_reducible exact LeO.none _)
   | (with_reducible refine LeO.ite ?_ ?_)
   | (with_reducible refine LeO.bind ?_ (fun _ => ?_))
   | exact ih0 _ _ _ _ _ _ _
   | exact ih1 _ _ _ _ _ _ _
   | exact version_Level.mono _ _ _ _ _
   | exact version_Right.mono _ _ _ _
   | exact LeO.none _
   | refine LeO.ite ?_ ?_
   | refine LeO.bind ?_ (fun _ => ?_)
  ·intro y0 y1 y2 y3 y4 y5 y6
   unfold palinodelaw14_VersionLive.l1
   repeat' first
   | (with_reducible exact ih0 _ _ _ _ _ _ _)
   | (with_reducible exact ih1 _ _ _ _ _ _ _)
   | (with_reducible exact version_Level.mono _ _ _ _ _)
   | (with_reducible exact version_Right.mono _ _ _ _)
   | (with_reducible exact LeO.refl _)
   | (with_reducible exact LeO.none _)
   | (with_reducible refine LeO.ite ?_ ?_)
   | (with_reducible refine LeO.bind ?_ (fun _ => ?_))
   | exact ih0 _ _ _ _ _ _ _
   | exact ih1 _ _ _ _ _ _ _
   | exact version_Level.mono _ _ _ _ _
   | exact version_Right.mono _ _ _ _
   | exact LeO.none _
   | refine LeO.ite ?_ ?_
   | refine LeO.bind ?_ (fun _ => ?_)
theorem palinodelaw14_VersionLive.mono : ∀ a0 a1 a2 k, LeO (palinodelaw14_VersionLive.f k a0 a1 a2) (palinodelaw14_VersionLive.f (k + 1) a0 a1 a2) := by
 intro a0 a1 a2 k
 obtain ⟨ih0, ih1⟩ := palinodelaw14_VersionLive.mono_l k
 unfold palinodelaw14_VersionLive.f
 repeat' first
   | (with_reducible exact ih0 _ _ _ _ _ _ _)
   | (with_reducible exact ih1 _ _ _ _ _ _ _)
   | (with_reducible exact version_Level.mono _ _ _ _ _)
   | (with_reducible exact version_Right.mono _ _ _ _)
   | (with_reducible exact LeO.refl _)
   | (with_reducible exact LeO.none _)
   | (with_reducible refine LeO.ite ?_ ?_)
   | (with_reducible refine LeO.bind ?_ (fun _ => ?_))
   | exact ih0 _ _ _ _ _ _ _
   | exact ih1 _ _ _ _ _ _ _
   | exact version_Level.mono _ _ _ _ _
   | exact version_Right.mono _ _ _ _
   | exact LeO.none _
   | refine LeO.ite ?_ ?_
   | refine LeO.bind ?_ (fun _ => ?_)
set_option maxHeartbeats 8000000 in
set_option maxRecDepth 100000 in
theorem palinodelaw14_VersionLive.calls (k : Nat) (A0_0 : Option Addr) (c0_0 : Nat) (l0_0 : List (S35)) (A0_1 : Option Addr) (c0_1 : Nat) (l0_1 : List Int) (a0_2 : Int) (r : Bool) (w : World) (hr0_0 : Kd.C k35 w A0_0 l0_0.length l0_0) (hc0_0 : l0_0.length ≤ c0_0) (hr0_1 : Kd.C (Kd.int .i64) w A0_1 l0_1.length l0_1) (hc0_1 : l0_1.length ≤ c0_1) (ht_ : r = true) (h : palinodelaw14_VersionLive.f k l0_0 l0_1 a0_2 = some r) :
  Calls Try.prog 5 #[.agg #[.slice A0_0 l0_0.length c0_0, .slice A0_1 l0_1.length c0_1, .int .i64 a0_2]] w fun e w' => e = .returned (.bool r) ∧ Below w.heap.size w w' := by
 have hu25 := Try.underlying25
 have HR0_0 := Aside0.mk hr0_0
 have HC0_0 := Aside0.mk hc0_0
 clear hr0_0 hc0_0
 have HR0_1 := Aside0.mk hr0_1
 have HC0_1 := Aside0.mk hc0_1
 clear hr0_1 hc0_1
 have HB := Aside0.mk (Below.refl w.heap.size w)
 have H : ((palinodelaw14_examples.f).bind fun t399 => ((version_Live.f l0_0 l0_1 a0_2).bind fun t400 => (if (t400.length : Int) = (wrap64 ((l0_0.length : Int) + (l0_1.length : Int))) then ((version_Right.f k l0_0 l0_1 a0_2).bind fun t403 => (palinodelaw14_VersionLive.l0 k t399 t400 t403 1 l0_0 l0_1 a0_2)) else (some false)))) = some r := h
 clear h
 replace H := Option.bind_eq_some_iff.mp H
 obtain ⟨t399, A20, H⟩ := H
 replace H : ((version_Live.f l0_0 l0_1 a0_2).bind fun t400 => (if (t400.length : Int) = (wrap64 ((l0_0.length : Int) + (l0_1.length : Int))) then ((version_Right.f k l0_0 l0_1 a0_2).bind fun t403 => (palinodelaw14_VersionLive.l0 k t399 t400 t403 1 l0_0 l0_1 a0_2)) else (some false))) = some r := H
 have A2 := Aside0.mk A20
 clear A20
 replace H := Option.bind_eq_some_iff.mp H
 obtain ⟨t400, A30, H⟩ := H
 replace H : (if (t400.length : Int) = (wrap64 ((l0_0.length : Int) + (l0_1.length : Int))) then ((version_Right.f k l0_0 l0_1 a0_2).bind fun t403 => (palinodelaw14_VersionLive.l0 k t399 t400 t403 1 l0_0 l0_1 a0_2)) else (some false)) = some r := H
 have A3 := Aside0.mk A30
 clear A30
 by_cases c4 : (t400.length : Int) = (wrap64 ((l0_0.length : Int) + (l0_1.length : Int)))
 ·rw [if_pos c4] at H
  have c4b0 : ((t400.length : Int) == (wrap64 ((l0_0.length : Int) + (l0_1.length : Int)))) = true := beq_iff_eq.mpr c4
  have c4b1 : ((t400.length : Int) != (wrap64 ((l0_0.length : Int) + (l0_1.length : Int)))) = false := bne_eq_false_iff_eq.mpr c4
  clear c4
  replace H := Option.bind_eq_some_iff.mp H
  obtain ⟨t403, A50, H⟩ := H
  replace H : (palinodelaw14_VersionLive.l0 k t399 t400 t403 1 l0_0 l0_1 a0_2) = some r := H
  have A5 := Aside0.mk A50
  clear A50
  have H' := Aside0.mk H
  clear H
  go_enter Try.func5, Try.ntmps5
  go_wp2_with (first | ((with_reducible refine gate_dst (N := 1) rfl ?_); (try (refine gate_guard (by rfl) ?_; dsimp only)); refine box_event ?hg (N := 1) ?hd (cs := #[.slice A0_0 l0_0.length c0_0, .slice A0_1 l0_1.length c0_1, .int .i64 a0_2]) (t := 25) ?hr ?_; (case hd => rfl); (case hg => rfl); (case hr => first | (go_simp; done) | (go_simp; rfl)); intro gb398 hg w6 hbox hb; have n0_ := Aside0.mk (bls (by repeat (first | (with_reducible first | exact HB.out | apply blA | apply blN | apply blD) | exact HB.out)) hb); have n1_ := Aside0.mk (hbox); have n2_ := Aside0.mk ((by rw [hg]; exact (blz (by repeat (first | (with_reducible first | exact HB.out | apply blA | apply blN | apply blD) | exact HB.out))) : w.heap.size ≤ gb398)); have n3_ := Aside0.mk ((by rw [hg]; exact (blz (by repeat (first | (with_reducible first | exact HB.out | apply blA | apply blN | apply blD) | exact HB.out))) : w.heap.size ≤ gb398)); clear HB; have HB := n0_; have BK398 := n1_; have GW398 := n2_; have GE398 := n3_; clear n0_ n1_ n2_ n3_; clear hb hbox hg) | (go_at_call 9; (with_reducible refine (palinodelaw14_examples.calls  t399 _ A2.out).mono ?_); rintro e w7 ⟨rfl, hb⟩; have n0_ := Aside0.mk (bbl (g := gb398) (o := .cells #[.slice A0_0 l0_0.length c0_0, .slice A0_1 l0_1.length c0_1, .int .i64 a0_2] 25 (0, 0)) (by (with_reducible repeat (first | refine bdN ?_ _ | refine bdD ?_ | refine blk_alloc ?_ _)); exact BK398.out) hb); have n1_ := Aside0.mk (bls (by repeat (first | (with_reducible first | exact HB.out | apply blA | apply blN | apply blD | refine blS ?_ GE398.out) | exact HB.out)) hb); clear BK398; clear HB; have BK398 := n0_; have HB := n1_; clear n0_ n1_; (try clear hb); (try clear hb2); (try clear hk); (try clear hi); have hcz8_0 : w7.cell? ⟨gb398, 0, none⟩ = some (.slice A0_0 l0_0.length c0_0) := (bcl BK398.out 0).trans rfl; have hcz8_1 : w7.cell? ⟨gb398, 1, none⟩ = some (.slice A0_1 l0_1.length c0_1) := (bcl BK398.out 1).trans rfl; have hcz8_2 : w7.cell? ⟨gb398, 2, none⟩ = some (.int .i64 a0_2) := (bcl BK398.out 2).trans rfl; have hfz8_0 := bfz BK398.out 0; have hfz8_1 := bfz BK398.out 1; have hfz8_2 := bfz BK398.out 2) | (go_at_call 15; (with_reducible refine (version_Live.calls _ _ l0_0 _ _ l0_1 a0_2 t400 _ ?side1 ?side2 ?side3 ?side4 A3.out).mono ?_); (case side1 => repeat (first | exact (Kd.C_below HR0_0.out HB.out) | (with_reducible refine Kd.C_alloc ?_ _) | (with_reducible refine Kd.C_drewN ?_ _) | (with_reducible refine Kd.C_drew ?_))); (case side2 => exact HC0_0.out); (case side3 => repeat (first | exact (Kd.C_below HR0_1.out HB.out) | (with_reducible refine Kd.C_alloc ?_ _) | (with_reducible refine Kd.C_drewN ?_ _) | (with_reducible refine Kd.C_drew ?_))); (case side4 => exact HC0_1.out); rintro e w9 ⟨v401, rfl, ho0, hb⟩; have n0_ := Aside0.mk (Kd.R_lower ho0 (blz (by repeat (first | (with_reducible first | exact HB.out | apply blA | apply blN | apply blD | refine blS ?_ GE398.out) | exact HB.out)))); have n1_ := Aside0.mk (bbl (g := gb398) (o := .cells #[.slice A0_0 l0_0.length c0_0, .slice A0_1 l0_1.length c0_1, .int .i64 a0_2] 25 (0, 0)) (by (with_reducible repeat (first | refine bdN ?_ _ | refine bdD ?_ | refine blk_alloc ?_ _)); exact BK398.out) hb); have n2_ := Aside0.mk (bls (by repeat (first | (with_reducible first | exact HB.out | apply blA | apply blN | apply blD | refine blS ?_ GE398.out) | exact HB.out)) hb); clear BK398; clear HB; have HO402 := n0_; have BK398 := n1_; have HB := n2_; clear n0_ n1_ n2_; (try clear hb); (try clear hb2); (try clear hk); (try clear hi); (try clear ho0); obtain ⟨Ao10, co10, eo10⟩ := Kd.R_slice HO402.out; subst eo10; have hcz11_0 : w9.cell? ⟨gb398, 0, none⟩ = some (.slice A0_0 l0_0.length c0_0) := (bcl BK398.out 0).trans rfl; have hcz11_1 : w9.cell? ⟨gb398, 1, none⟩ = some (.slice A0_1 l0_1.length c0_1) := (bcl BK398.out 1).trans rfl; have hcz11_2 : w9.cell? ⟨gb398, 2, none⟩ = some (.int .i64 a0_2) := (bcl BK398.out 2).trans rfl; have hfz11_0 := bfz BK398.out 0; have hfz11_1 := bfz BK398.out 1; have hfz11_2 := bfz BK398.out 2) | (go_at_call 13; (with_reducible refine (version_Right.calls k _ _ l0_0 _ _ l0_1 a0_2 t403 _ ?side1 ?side2 ?side3 ?side4 A5.out).mono ?_); (case side1 => repeat (first | exact (Kd.C_below HR0_0.out HB.out) | (with_reducible refine Kd.C_alloc ?_ _) | (with_reducible refine Kd.C_drewN ?_ _) | (with_reducible refine Kd.C_drew ?_))); (case side2 => exact HC0_0.out); (case side3 => repeat (first | exact (Kd.C_below HR0_1.out HB.out) | (with_reducible refine Kd.C_alloc ?_ _) | (with_reducible refine Kd.C_drewN ?_ _) | (with_reducible refine Kd.C_drew ?_))); (case side4 => exact HC0_1.out); rintro e w12 ⟨rfl, hb⟩; have n0_ := Aside0.mk (Kd.R_below (by (with_reducible repeat (first | apply Kd.R_alloc | apply Kd.R_drewN | apply Kd.R_drew)); exact HO402.out) hb); have n1_ := Aside0.mk (bbl (g := gb398) (o := .cells #[.slice A0_0 l0_0.length c0_0, .slice A0_1 l0_1.length c0_1, .int .i64 a0_2] 25 (0, 0)) (by (with_reducible repeat (first | refine bdN ?_ _ | refine bdD ?_ | refine blk_alloc ?_ _)); exact BK398.out) hb); have n2_ := Aside0.mk (bls (by repeat (first | (with_reducible first | exact HB.out | apply blA | apply blN | apply blD | refine blS ?_ GE398.out) | exact HB.out)) hb); clear HO402; clear BK398; clear HB; have HO402 := n0_; have BK398 := n1_; have HB := n2_; clear n0_ n1_ n2_; (try clear hb); (try clear hb2); (try clear hk); (try clear hi)))
  repeat (go_quiet (first | ((with_reducible refine gate_dst (N := 1) rfl ?_); (try (refine gate_guard (by rfl) ?_; dsimp only)); refine box_event ?hg (N := 1) ?hd (cs := #[.slice A0_0 l0_0.length c0_0, .slice A0_1 l0_1.length c0_1, .int .i64 a0_2]) (t := 25) ?hr ?_; (case hd => rfl); (case hg => rfl); (case hr => first | (go_simp; done) | (go_simp; rfl)); intro gb398 hg w6 hbox hb; have n0_ := Aside0.mk (bls (by repeat (first | (with_reducible first | exact HB.out | apply blA | apply blN | apply blD) | exact HB.out)) hb); have n1_ := Aside0.mk (hbox); have n2_ := Aside0.mk ((by rw [hg]; exact (blz (by repeat (first | (with_reducible first | exact HB.out | apply blA | apply blN | apply blD) | exact HB.out))) : w.heap.size ≤ gb398)); have n3_ := Aside0.mk ((by rw [hg]; exact (blz (by repeat (first | (with_reducible first | exact HB.out | apply blA | apply blN | apply blD) | exact HB.out))) : w.heap.size ≤ gb398)); clear HB; have HB := n0_; have BK398 := n1_; have GW398 := n2_; have GE398 := n3_; clear n0_ n1_ n2_ n3_; clear hb hbox hg) | (go_at_call 9; (with_reducible refine (palinodelaw14_examples.calls  t399 _ A2.out).mono ?_); rintro e w7 ⟨rfl, hb⟩; have n0_ := Aside0.mk (bbl (g := gb398) (o := .cells #[.slice A0_0 l0_0.length c0_0, .slice A0_1 l0_1.length c0_1, .int .i64 a0_2] 25 (0, 0)) (by (with_reducible repeat (first | refine bdN ?_ _ | refine bdD ?_ | refine blk_alloc ?_ _)); exact BK398.out) hb); have n1_ := Aside0.mk (bls (by repeat (first | (with_reducible first | exact HB.out | apply blA | apply blN | apply blD | refine blS ?_ GE398.out) | exact HB.out)) hb); clear BK398; clear HB; have BK398 := n0_; have HB := n1_; clear n0_ n1_; (try clear hb); (try clear hb2); (try clear hk); (try clear hi); have hcz8_0 : w7.cell? ⟨gb398, 0, none⟩ = some (.slice A0_0 l0_0.length c0_0) := (bcl BK398.out 0).trans rfl; have hcz8_1 : w7.cell? ⟨gb398, 1, none⟩ = some (.slice A0_1 l0_1.length c0_1) := (bcl BK398.out 1).trans rfl; have hcz8_2 : w7.cell? ⟨gb398, 2, none⟩ = some (.int .i64 a0_2) := (bcl BK398.out 2).trans rfl; have hfz8_0 := bfz BK398.out 0; have hfz8_1 := bfz BK398.out 1; have hfz8_2 := bfz BK398.out 2) | (go_at_call 15; (with_reducible refine (version_Live.calls _ _ l0_0 _ _ l0_1 a0_2 t400 _ ?side1 ?side2 ?side3 ?side4 A3.out).mono ?_); (case side1 => repeat (first | exact (Kd.C_below HR0_0.out HB.out) | (with_reducible refine Kd.C_alloc ?_ _) | (with_reducible refine Kd.C_drewN ?_ _) | (with_reducible refine Kd.C_drew ?_))); (case side2 => exact HC0_0.out); (case side3 => repeat (first | exact (Kd.C_below HR0_1.out HB.out) | (with_reducible refine Kd.C_alloc ?_ _) | (with_reducible refine Kd.C_drewN ?_ _) | (with_reducible refine Kd.C_drew ?_))); (case side4 => exact HC0_1.out); rintro e w9 ⟨v401, rfl, ho0, hb⟩; have n0_ := Aside0.mk (Kd.R_lower ho0 (blz (by repeat (first | (with_reducible first | exact HB.out | apply blA | apply blN | apply blD | refine blS ?_ GE398.out) | exact HB.out)))); have n1_ := Aside0.mk (bbl (g := gb398) (o := .cells #[.slice A0_0 l0_0.length c0_0, .slice A0_1 l0_1.length c0_1, .int .i64 a0_2] 25 (0, 0)) (by (with_reducible repeat (first | refine bdN ?_ _ | refine bdD ?_ | refine blk_alloc ?_ _)); exact BK398.out) hb); have n2_ := Aside0.mk (bls (by repeat (first | (with_reducible first | exact HB.out | apply blA | apply blN | apply blD | refine blS ?_ GE398.out) | exact HB.out)) hb); clear BK398; clear HB; have HO402 := n0_; have BK398 := n1_; have HB := n2_; clear n0_ n1_ n2_; (try clear hb); (try clear hb2); (try clear hk); (try clear hi); (try clear ho0); obtain ⟨Ao10, co10, eo10⟩ := Kd.R_slice HO402.out; subst eo10; have hcz11_0 : w9.cell? ⟨gb398, 0, none⟩ = some (.slice A0_0 l0_0.length c0_0) := (bcl BK398.out 0).trans rfl; have hcz11_1 : w9.cell? ⟨gb398, 1, none⟩ = some (.slice A0_1 l0_1.length c0_1) := (bcl BK398.out 1).trans rfl; have hcz11_2 : w9.cell? ⟨gb398, 2, none⟩ = some (.int .i64 a0_2) := (bcl BK398.out 2).trans rfl; have hfz11_0 := bfz BK398.out 0; have hfz11_1 := bfz BK398.out 1; have hfz11_2 := bfz BK398.out 2) | (go_at_call 13; (with_reducible refine (version_Right.calls k _ _ l0_0 _ _ l0_1 a0_2 t403 _ ?side1 ?side2 ?side3 ?side4 A5.out).mono ?_); (case side1 => repeat (first | exact (Kd.C_below HR0_0.out HB.out) | (with_reducible refine Kd.C_alloc ?_ _) | (with_reducible refine Kd.C_drewN ?_ _) | (with_reducible refine Kd.C_drew ?_))); (case side2 => exact HC0_0.out); (case side3 => repeat (first | exact (Kd.C_below HR0_1.out HB.out) | (with_reducible refine Kd.C_alloc ?_ _) | (with_reducible refine Kd.C_drewN ?_ _) | (with_reducible refine Kd.C_drew ?_))); (case side4 => exact HC0_1.out); rintro e w12 ⟨rfl, hb⟩; have n0_ := Aside0.mk (Kd.R_below (by (with_reducible repeat (first | apply Kd.R_alloc | apply Kd.R_drewN | apply Kd.R_drew)); exact HO402.out) hb); have n1_ := Aside0.mk (bbl (g := gb398) (o := .cells #[.slice A0_0 l0_0.length c0_0, .slice A0_1 l0_1.length c0_1, .int .i64 a0_2] 25 (0, 0)) (by (with_reducible repeat (first | refine bdN ?_ _ | refine bdD ?_ | refine blk_alloc ?_ _)); exact BK398.out) hb); have n2_ := Aside0.mk (bls (by repeat (first | (with_reducible first | exact HB.out | apply blA | apply blN | apply blD | refine blS ?_ GE398.out) | exact HB.out)) hb); clear HO402; clear BK398; clear HB; have HO402 := n0_; have BK398 := n1_; have HB := n2_; clear n0_ n1_ n2_; (try clear hb); (try clear hb2); (try clear hk); (try clear hi))); try go_wp2_with (first | ((with_reducible refine gate_dst (N := 1) rfl ?_); (try (refine gate_guard (by rfl) ?_; dsimp only)); refine box_event ?hg (N := 1) ?hd (cs := #[.slice A0_0 l0_0.length c0_0, .slice A0_1 l0_1.length c0_1, .int .i64 a0_2]) (t := 25) ?hr ?_; (case hd => rfl); (case hg => rfl); (case hr => first | (go_simp; done) | (go_simp; rfl)); intro gb398 hg w6 hbox hb; have n0_ := Aside0.mk (bls (by repeat (first | (with_reducible first | exact HB.out | apply blA | apply blN | apply blD) | exact HB.out)) hb); have n1_ := Aside0.mk (hbox); have n2_ := Aside0.mk ((by rw [hg]; exact (blz (by repeat (first | (with_reducible first | exact HB.out | apply blA | apply blN | apply blD) | exact HB.out))) : w.heap.size ≤ gb398)); have n3_ := Aside0.mk ((by rw [hg]; exact (blz (by repeat (first | (with_reducible first | exact HB.out | apply blA | apply blN | apply blD) | exact HB.out))) : w.heap.size ≤ gb398)); clear HB; have HB := n0_; have BK398 := n1_; have GW398 := n2_; have GE398 := n3_; clear n0_ n1_ n2_ n3_; clear hb hbox hg) | (go_at_call 9; (with_reducible refine (palinodelaw14_examples.calls  t399 _ A2.out).mono ?_); rintro e w7 ⟨rfl, hb⟩; have n0_ := Aside0.mk (bbl (g := gb398) (o := .cells #[.slice A0_0 l0_0.length c0_0, .slice A0_1 l0_1.length c0_1, .int .i64 a0_2] 25 (0, 0)) (by (with_reducible repeat (first | refine bdN ?_ _ | refine bdD ?_ | refine blk_alloc ?_ _)); exact BK398.out) hb); have n1_ := Aside0.mk (bls (by repeat (first | (with_reducible first | exact HB.out | apply blA | apply blN | apply blD | refine blS ?_ GE398.out) | exact HB.out)) hb); clear BK398; clear HB; have BK398 := n0_; have HB := n1_; clear n0_ n1_; (try clear hb); (try clear hb2); (try clear hk); (try clear hi); have hcz8_0 : w7.cell? ⟨gb398, 0, none⟩ = some (.slice A0_0 l0_0.length c0_0) := (bcl BK398.out 0).trans rfl; have hcz8_1 : w7.cell? ⟨gb398, 1, none⟩ = some (.slice A0_1 l0_1.length c0_1) := (bcl BK398.out 1).trans rfl; have hcz8_2 : w7.cell? ⟨gb398, 2, none⟩ = some (.int .i64 a0_2) := (bcl BK398.out 2).trans rfl; have hfz8_0 := bfz BK398.out 0; have hfz8_1 := bfz BK398.out 1; have hfz8_2 := bfz BK398.out 2) | (go_at_call 15; (with_reducible refine (version_Live.calls _ _ l0_0 _ _ l0_1 a0_2 t400 _ ?side1 ?side2 ?side3 ?side4 A3.out).mono ?_); (case side1 => repeat (first | exact (Kd.C_below HR0_0.out HB.out) | (with_reducible refine Kd.C_alloc ?_ _) | (with_reducible refine Kd.C_drewN ?_ _) | (with_reducible refine Kd.C_drew ?_))); (case side2 => exact HC0_0.out); (case side3 => repeat (first | exact (Kd.C_below HR0_1.out HB.out) | (with_reducible refine Kd.C_alloc ?_ _) | (with_reducible refine Kd.C_drewN ?_ _) | (with_reducible refine Kd.C_drew ?_))); (case side4 => exact HC0_1.out); rintro e w9 ⟨v401, rfl, ho0, hb⟩; have n0_ := Aside0.mk (Kd.R_lower ho0 (blz (by repeat (first | (with_reducible first | exact HB.out | apply blA | apply blN | apply blD | refine blS ?_ GE398.out) | exact HB.out)))); have n1_ := Aside0.mk (bbl (g := gb398) (o := .cells #[.slice A0_0 l0_0.length c0_0, .slice A0_1 l0_1.length c0_1, .int .i64 a0_2] 25 (0, 0)) (by (with_reducible repeat (first | refine bdN ?_ _ | refine bdD ?_ | refine blk_alloc ?_ _)); exact BK398.out) hb); have n2_ := Aside0.mk (bls (by repeat (first | (with_reducible first | exact HB.out | apply blA | apply blN | apply blD | refine blS ?_ GE398.out) | exact HB.out)) hb); clear BK398; clear HB; have HO402 := n0_; have BK398 := n1_; have HB := n2_; clear n0_ n1_ n2_; (try clear hb); (try clear hb2); (try clear hk); (try clear hi); (try clear ho0); obtain ⟨Ao10, co10, eo10⟩ := Kd.R_slice HO402.out; subst eo10; have hcz11_0 : w9.cell? ⟨gb398, 0, none⟩ = some (.slice A0_0 l0_0.length c0_0) := (bcl BK398.out 0).trans rfl; have hcz11_1 : w9.cell? ⟨gb398, 1, none⟩ = some (.slice A0_1 l0_1.length c0_1) := (bcl BK398.out 1).trans rfl; have hcz11_2 : w9.cell? ⟨gb398, 2, none⟩ = some (.int .i64 a0_2) := (bcl BK398.out 2).trans rfl; have hfz11_0 := bfz BK398.out 0; have hfz11_1 := bfz BK398.out 1; have hfz11_2 := bfz BK398.out 2) | (go_at_call 13; (with_reducible refine (version_Right.calls k _ _ l0_0 _ _ l0_1 a0_2 t403 _ ?side1 ?side2 ?side3 ?side4 A5.out).mono ?_); (case side1 => repeat (first | exact (Kd.C_below HR0_0.out HB.out) | (with_reducible refine Kd.C_alloc ?_ _) | (with_reducible refine Kd.C_drewN ?_ _) | (with_reducible refine Kd.C_drew ?_))); (case side2 => exact HC0_0.out); (case side3 => repeat (first | exact (Kd.C_below HR0_1.out HB.out) | (with_reducible refine Kd.C_alloc ?_ _) | (with_reducible refine Kd.C_drewN ?_ _) | (with_reducible refine Kd.C_drew ?_))); (case side4 => exact HC0_1.out); rintro e w12 ⟨rfl, hb⟩; have n0_ := Aside0.mk (Kd.R_below (by (with_reducible repeat (first | apply Kd.R_alloc | apply Kd.R_drewN | apply Kd.R_drew)); exact HO402.out) hb); have n1_ := Aside0.mk (bbl (g := gb398) (o := .cells #[.slice A0_0 l0_0.length c0_0, .slice A0_1 l0_1.length c0_1, .int .i64 a0_2] 25 (0, 0)) (by (with_reducible repeat (first | refine bdN ?_ _ | refine bdD ?_ | refine blk_alloc ?_ _)); exact BK398.out) hb); have n2_ := Aside0.mk (bls (by repeat (first | (with_reducible first | exact HB.out | apply blA | apply blN | apply blD | refine blS ?_ GE398.out) | exact HB.out)) hb); clear HO402; clear BK398; clear HB; have HO402 := n0_; have BK398 := n1_; have HB := n2_; clear n0_ n1_ n2_; (try clear hb); (try clear hb2); (try clear hk); (try clear hi))))
  go_loopg [6] k (fun kq v6 w' => ∃ (x6_1 : Int), v6 = .int .i64 x6_1 ∧ Aside0 (palinodelaw14_VersionLive.l0 kq t399 t400 t403 x6_1 l0_0 l0_1 a0_2 = some r) ∧ Aside0 (kq ≤ k) ∧ Aside0 (Kd.R (Kd.int .i64) 3 w' w.heap.size (fun _ => True) (.slice Ao10 t400.length co10) t400) ∧ Aside0 (w'.heap[gb398]? = some (.cells #[(.slice A0_0 l0_0.length c0_0), (.slice A0_1 l0_1.length c0_1), .int .i64 a0_2] 25 (0, 0))) ∧ Aside0 (Below w.heap.size w w'))
  case atStart => exact ⟨(1), (by first | rfl | (simp; done) | (simp [*]; done)), H', ⟨Nat.le_refl _⟩, ⟨by (with_reducible repeat (first | apply Kd.R_alloc | apply Kd.R_drewN | apply Kd.R_drew)); exact HO402.out⟩, ⟨by (with_reducible repeat (first | refine bdN ?_ _ | refine bdD ?_ | refine blk_alloc ?_ _)); exact BK398.out⟩, ⟨by repeat (first | (with_reducible first | exact HB.out | apply blA | apply blN | apply blD | refine blS ?_ GE398.out) | exact HB.out)⟩⟩
  case round =>
   clear H'
   try clear p2
   try clear c4
   try clear c4b0
   try clear c4b1
   try clear c5
   try clear p6
   try clear hcz11_0
   try clear hcz11_1
   try clear hcz11_2
   try clear hcz8_0
   try clear hcz8_1
   try clear hcz8_2
   try clear hfz11_0
   try clear hfz11_1
   try clear hfz11_2
   try clear hfz8_0
   try clear hfz8_1
   try clear hfz8_2
   obtain ⟨x6_1, rfl, HA, HK1, HO_4, BK398, HB⟩ := hrel
   cases gk with
   | zero => exact absurd HA.out (by simp [palinodelaw14_VersionLive.l0])
   | succ k1 =>
    have H := HA.out
    clear HA
    simp only [palinodelaw14_VersionLive.l0] at H
    by_cases c13 : x6_1 < (t400.length : Int)
    ·rw [if_pos c13] at H
     have c13b0 : decide (x6_1 < (t400.length : Int)) = true := decide_eq_true c13
     clear c13
     by_cases c14 : 0 ≤ x6_1
     ·rw [if_pos c14] at H
      have c14b0 : decide (0 ≤ x6_1) = true := decide_eq_true c14
      clear c14
      obtain ⟨ji15, hji15⟩ : ∃ j_ : Int, (wrap64 (x6_1 - 1)) = j_ := ⟨_, rfl⟩
      replace H : (if 0 ≤ (ji15) then (if (ji15) < (t400.length : Int) then (if (rd t400 x6_1) < (rd t400 (ji15)) then (some false) else (if t403 = true then (if (rd t400 x6_1) = (rd t400 (ji15)) then (some false) else (palinodelaw14_VersionLive.l0 k1 t399 t400 t403 (wrap64 (x6_1 + 1)) l0_0 l0_1 a0_2)) else (palinodelaw14_VersionLive.l0 k1 t399 t400 t403 (wrap64 (x6_1 + 1)) l0_0 l0_1 a0_2))) else (none)) else (none)) = some r := by first | (rw [hji15] at H; exact H) | (simp only [hji15] at H ⊢; exact H)
      have hji15w : (IntKind.i64.wrap (x6_1 - 1)) = ji15 := (i64_w _).trans hji15
      by_cases c16 : 0 ≤ (ji15)
      ·rw [if_pos c16] at H
       have c16b0 : decide (0 ≤ (ji15)) = true := decide_eq_true c16
       clear c16
       by_cases c17 : (ji15) < (t400.length : Int)
       ·rw [if_pos c17] at H
        have c17b0 : decide ((ji15) < (t400.length : Int)) = true := decide_eq_true c17
        clear c17
        by_cases c18 : (rd t400 x6_1) < (rd t400 (ji15))
        ·rw [if_pos c18] at H
         have c18b0 : decide ((rd t400 x6_1) < (rd t400 (ji15))) = true := decide_eq_true c18
         clear c18
         rw [ht_] at H
         exact absurd H (by simp)
        ·rw [if_neg c18] at H
         have c18b0 : decide ((rd t400 x6_1) < (rd t400 (ji15))) = false := decide_eq_false c18
         clear c18
         by_cases c19 : t403 = true
         ·subst c19
          have H1 : (if (rd t400 x6_1) = (rd t400 (ji15)) then (some false) else (palinodelaw14_VersionLive.l0 k1 t399 t400 true (wrap64 (x6_1 + 1)) l0_0 l0_1 a0_2)) = some r := by rw [if_pos rfl] at H; exact H
          clear H
          have H := H1
          clear H1
          by_cases c20 : (rd t400 x6_1) = (rd t400 (ji15))
          ·rw [if_pos c20] at H
           have c20b0 : ((rd t400 x6_1) == (rd t400 (ji15))) = true := beq_iff_eq.mpr c20
           have c20b1 : ((rd t400 x6_1) != (rd t400 (ji15))) = false := bne_eq_false_iff_eq.mpr c20
           clear c20
           rw [ht_] at H
           exact absurd H (by simp)
          ·rw [if_neg c20] at H
           have c20b0 : ((rd t400 x6_1) == (rd t400 (ji15))) = false := beq_eq_false_iff_ne.mpr c20
           have c20b1 : ((rd t400 x6_1) != (rd t400 (ji15))) = true := bne_iff_ne.mpr c20
           have H' := Aside0.mk H
           clear H
           have p404 : 0 ≤ (x6_1 : Int) := of_decide_eq_true (by first | (with_reducible assumption) | assumption)
           have q404 : x6_1 < (t400.length : Int) := of_decide_eq_true (by first | (with_reducible assumption) | assumption)
           obtain ⟨ad404, e404, hx404_0⟩ := Kd.at_int (Kd.R_reads' HO_4.out).2.2 x6_1 p404 q404
           cases e404
           replace p404 := eq_true p404
           replace q404 := eq_true q404
           have p405 : 0 ≤ ((ji15) : Int) := of_decide_eq_true (by first | (with_reducible assumption) | assumption)
           have q405 : (ji15) < (t400.length : Int) := of_decide_eq_true (by first | (with_reducible assumption) | assumption)
           obtain ⟨ad405, e405, hx405_0⟩ := Kd.at_int (Kd.R_reads' HO_4.out).2.2 (ji15) p405 q405
           obtain rfl : ad404 = ad405 := (by injection e405)
           replace p405 := eq_true p405
           replace q405 := eq_true q405
           have p406 : 0 ≤ (x6_1 : Int) := of_decide_eq_true (by first | (with_reducible assumption) | assumption)
           have q406 : x6_1 < (t400.length : Int) := of_decide_eq_true (by first | (with_reducible assumption) | assumption)
           obtain ⟨ad406, e406, hx406_0⟩ := Kd.at_int (Kd.R_reads' HO_4.out).2.2 x6_1 p406 q406
           obtain rfl : ad404 = ad406 := (by injection e406)
           replace p406 := eq_true p406
           replace q406 := eq_true q406
           have p407 : 0 ≤ ((ji15) : Int) := of_decide_eq_true (by first | (with_reducible assumption) | assumption)
           have q407 : (ji15) < (t400.length : Int) := of_decide_eq_true (by first | (with_reducible assumption) | assumption)
           obtain ⟨ad407, e407, hx407_0⟩ := Kd.at_int (Kd.R_reads' HO_4.out).2.2 (ji15) p407 q407
           obtain rfl : ad404 = ad407 := (by injection e407)
           replace p407 := eq_true p407
           replace q407 := eq_true q407
           go_wp2
           repeat (go_quiet (fail); try go_wp2)
           go_roundg k1
           case measure => have := HK1.out; omega
           case rel => exact ⟨(wrap64 (x6_1 + 1)), (by first | rfl | (simp; done) | (simp [*]; done)), H', ⟨by have := HK1.out; omega⟩, ⟨by (with_reducible repeat (first | apply Kd.R_alloc | apply Kd.R_drewN | apply Kd.R_drew)); exact HO_4.out⟩, ⟨by (with_reducible repeat (first | refine bdN ?_ _ | refine bdD ?_ | refine blk_alloc ?_ _)); exact BK398.out⟩, ⟨by repeat (first | (with_reducible first | exact HB.out | apply blA | apply blN | apply blD | refine blS ?_ GE398.out) | exact HB.out)⟩⟩
         ·replace c19 := Bool.eq_false_iff.mpr c19
          subst c19
          have H1 : (palinodelaw14_VersionLive.l0 k1 t399 t400 false (wrap64 (x6_1 + 1)) l0_0 l0_1 a0_2) = some r := by rw [if_neg (show ¬ (false = true) by decide)] at H; exact H
          clear H
          have H := H1
          clear H1
          have H' := Aside0.mk H
          clear H
          have p404 : 0 ≤ (x6_1 : Int) := of_decide_eq_true (by first | (with_reducible assumption) | assumption)
          have q404 : x6_1 < (t400.length : Int) := of_decide_eq_true (by first | (with_reducible assumption) | assumption)
          obtain ⟨ad404, e404, hx404_0⟩ := Kd.at_int (Kd.R_reads' HO_4.out).2.2 x6_1 p404 q404
          cases e404
          replace p404 := eq_true p404
          replace q404 := eq_true q404
          have p405 : 0 ≤ ((ji15) : Int) := of_decide_eq_true (by first | (with_reducible assumption) | assumption)
          have q405 : (ji15) < (t400.length : Int) := of_decide_eq_true (by first | (with_reducible assumption) | assumption)
          obtain ⟨ad405, e405, hx405_0⟩ := Kd.at_int (Kd.R_reads' HO_4.out).2.2 (ji15) p405 q405
          obtain rfl : ad404 = ad405 := (by injection e405)
          replace p405 := eq_true p405
          replace q405 := eq_true q405
          go_wp2
          repeat (go_quiet (fail); try go_wp2)
          go_roundg k1
          case measure => have := HK1.out; omega
          case rel => exact ⟨(wrap64 (x6_1 + 1)), (by first | rfl | (simp; done) | (simp [*]; done)), H', ⟨by have := HK1.out; omega⟩, ⟨by (with_reducible repeat (first | apply Kd.R_alloc | apply Kd.R_drewN | apply Kd.R_drew)); exact HO_4.out⟩, ⟨by (with_reducible repeat (first | refine bdN ?_ _ | refine bdD ?_ | refine blk_alloc ?_ _)); exact BK398.out⟩, ⟨by repeat (first | (with_reducible first | exact HB.out | apply blA | apply blN | apply blD | refine blS ?_ GE398.out) | exact HB.out)⟩⟩
       ·rw [if_neg c17] at H
        exact absurd H (by simp)
      ·rw [if_neg c16] at H
       exact absurd H (by simp)
     ·rw [if_neg c14] at H
      exact absurd H (by simp)
    ·rw [if_neg c13] at H
     have c13b0 : decide (x6_1 < (t400.length : Int)) = false := decide_eq_false c13
     clear c13
     have H' := Aside0.mk H
     clear H
     go_wp2
     repeat (go_quiet (fail); try go_wp2)
     go_loopg [7, 8] k1 (fun kq v7 v8 w' => ∃ (x7_2 : Int) (x8_2 : Int), v7 = .int .i64 x7_2 ∧ v8 = .int .i64 x8_2 ∧ Aside0 (palinodelaw14_VersionLive.l1 kq t399 t403 x7_2 x8_2 l0_0 l0_1 a0_2 = some r) ∧ Aside0 (kq ≤ k1) ∧ Aside0 (w'.heap[gb398]? = some (.cells #[(.slice A0_0 l0_0.length c0_0), (.slice A0_1 l0_1.length c0_1), .int .i64 a0_2] 25 (0, 0))) ∧ Aside0 (Below w.heap.size w w'))
     case atStart => exact ⟨(0), (0), (by first | rfl | (simp; done) | (simp [*]; done)), (by first | rfl | (simp; done) | (simp [*]; done)), H', ⟨Nat.le_refl _⟩, ⟨by (with_reducible repeat (first | refine bdN ?_ _ | refine bdD ?_ | refine blk_alloc ?_ _)); exact BK398.out⟩, ⟨by repeat (first | (with_reducible first | exact HB.out | apply blA | apply blN | apply blD | refine blS ?_ GE398.out) | exact HB.out)⟩⟩
     case round =>
      clear H'
      try clear c1
      try clear c2
      try clear p2
      try clear c4
      try clear c4b0
      try clear c4b1
      try clear p4
      try clear q4
      try clear hx4
      try clear c5
      try clear p6
      try clear c13
      try clear c13b0
      try clear c14
      try clear c14b0
      try clear c16
      try clear c16b0
      try clear c17
      try clear c17b0
      try clear c18
      try clear c18b0
      try clear c19
      try clear c20
      try clear c20b0
      try clear c20b1
      try clear hcz11_0
      try clear hcz11_1
      try clear hcz11_2
      try clear hcz8_0
      try clear hcz8_1
      try clear hcz8_2
      try clear hfz11_0
      try clear hfz11_1
      try clear hfz11_2
      try clear hfz8_0
      try clear hfz8_1
      try clear hfz8_2
      try clear hx404_0
      try clear hx405_0
      try clear hx406_0
      try clear hx407_0
      try clear p2
      try clear p404
      try clear p405
      try clear p406
      try clear p407
      try clear p6
      try clear q404
      try clear q405
      try clear q406
      try clear q407
      obtain ⟨x7_2, x8_2, rfl, rfl, HA, HK2, BK398, HB⟩ := hrel
      cases gk with
      | zero => exact absurd HA.out (by simp [palinodelaw14_VersionLive.l1])
      | succ k2 =>
       have H := HA.out
       clear HA
       simp only [palinodelaw14_VersionLive.l1] at H
       by_cases c21 : x8_2 < 4
       ·rw [if_pos c21] at H
        have c21b0 : decide (x8_2 < 4) = true := decide_eq_true c21
        clear c21
        replace H := Option.bind_eq_some_iff.mp H
        obtain ⟨t408, A220, H⟩ := H
        replace H : (palinodelaw14_VersionLive.l1 k2 t399 t403 (wrap64 (x7_2 + (t408.length : Int))) (wrap64 (x8_2 + 1)) l0_0 l0_1 a0_2) = some r := H
        have A22 := Aside0.mk A220
        clear A220
        have H' := Aside0.mk H
        clear H
        have hcz23_0 : wr.cell? ⟨gb398, 0, none⟩ = some (.slice A0_0 l0_0.length c0_0) := (bcl BK398.out 0).trans rfl
        have hcz23_1 : wr.cell? ⟨gb398, 1, none⟩ = some (.slice A0_1 l0_1.length c0_1) := (bcl BK398.out 1).trans rfl
        have hcz23_2 : wr.cell? ⟨gb398, 2, none⟩ = some (.int .i64 a0_2) := (bcl BK398.out 2).trans rfl
        have hfz23_0 := bfz BK398.out 0
        have hfz23_1 := bfz BK398.out 1
        have hfz23_2 := bfz BK398.out 2
        go_wp2_with (first | (go_at_call 16; (with_reducible refine (version_Level.calls k2 _ _ l0_0 _ _ l0_1 a0_2 x8_2 t408 _ ?side1 ?side2 ?side3 ?side4 A22.out).mono ?_); (case side1 => repeat (first | exact (Kd.C_below HR0_0.out HB.out) | (with_reducible refine Kd.C_alloc ?_ _) | (with_reducible refine Kd.C_drewN ?_ _) | (with_reducible refine Kd.C_drew ?_))); (case side2 => exact HC0_0.out); (case side3 => repeat (first | exact (Kd.C_below HR0_1.out HB.out) | (with_reducible refine Kd.C_alloc ?_ _) | (with_reducible refine Kd.C_drewN ?_ _) | (with_reducible refine Kd.C_drew ?_))); (case side4 => exact HC0_1.out); rintro e w24 ⟨v409, rfl, ho0, hb⟩; have n0_ := Aside0.mk (Kd.R_lower ho0 (blz (by repeat (first | (with_reducible first | exact HB.out | apply blA | apply blN | apply blD | refine blS ?_ GE398.out) | exact HB.out)))); have n1_ := Aside0.mk (bbl (g := gb398) (o := .cells #[.slice A0_0 l0_0.length c0_0, .slice A0_1 l0_1.length c0_1, .int .i64 a0_2] 25 (0, 0)) (by (with_reducible repeat (first | refine bdN ?_ _ | refine bdD ?_ | refine blk_alloc ?_ _)); exact BK398.out) hb); have n2_ := Aside0.mk (bls (by repeat (first | (with_reducible first | exact HB.out | apply blA | apply blN | apply blD | refine blS ?_ GE398.out) | exact HB.out)) hb); clear BK398; clear HB; have HO410 := n0_; have BK398 := n1_; have HB := n2_; clear n0_ n1_ n2_; (try clear hb); (try clear hb2); (try clear hk); (try clear hi); (try clear ho0); obtain ⟨Ao25, co25, eo25⟩ := Kd.R_slice HO410.out; subst eo25))
        repeat (go_quiet (first | (go_at_call 16; (with_reducible refine (version_Level.calls k2 _ _ l0_0 _ _ l0_1 a0_2 x8_2 t408 _ ?side1 ?side2 ?side3 ?side4 A22.out).mono ?_); (case side1 => repeat (first | exact (Kd.C_below HR0_0.out HB.out) | (with_reducible refine Kd.C_alloc ?_ _) | (with_reducible refine Kd.C_drewN ?_ _) | (with_reducible refine Kd.C_drew ?_))); (case side2 => exact HC0_0.out); (case side3 => repeat (first | exact (Kd.C_below HR0_1.out HB.out) | (with_reducible refine Kd.C_alloc ?_ _) | (with_reducible refine Kd.C_drewN ?_ _) | (with_reducible refine Kd.C_drew ?_))); (case side4 => exact HC0_1.out); rintro e w24 ⟨v409, rfl, ho0, hb⟩; have n0_ := Aside0.mk (Kd.R_lower ho0 (blz (by repeat (first | (with_reducible first | exact HB.out | apply blA | apply blN | apply blD | refine blS ?_ GE398.out) | exact HB.out)))); have n1_ := Aside0.mk (bbl (g := gb398) (o := .cells #[.slice A0_0 l0_0.length c0_0, .slice A0_1 l0_1.length c0_1, .int .i64 a0_2] 25 (0, 0)) (by (with_reducible repeat (first | refine bdN ?_ _ | refine bdD ?_ | refine blk_alloc ?_ _)); exact BK398.out) hb); have n2_ := Aside0.mk (bls (by repeat (first | (with_reducible first | exact HB.out | apply blA | apply blN | apply blD | refine blS ?_ GE398.out) | exact HB.out)) hb); clear BK398; clear HB; have HO410 := n0_; have BK398 := n1_; have HB := n2_; clear n0_ n1_ n2_; (try clear hb); (try clear hb2); (try clear hk); (try clear hi); (try clear ho0); obtain ⟨Ao25, co25, eo25⟩ := Kd.R_slice HO410.out; subst eo25)); try go_wp2_with (first | (go_at_call 16; (with_reducible refine (version_Level.calls k2 _ _ l0_0 _ _ l0_1 a0_2 x8_2 t408 _ ?side1 ?side2 ?side3 ?side4 A22.out).mono ?_); (case side1 => repeat (first | exact (Kd.C_below HR0_0.out HB.out) | (with_reducible refine Kd.C_alloc ?_ _) | (with_reducible refine Kd.C_drewN ?_ _) | (with_reducible refine Kd.C_drew ?_))); (case side2 => exact HC0_0.out); (case side3 => repeat (first | exact (Kd.C_below HR0_1.out HB.out) | (with_reducible refine Kd.C_alloc ?_ _) | (with_reducible refine Kd.C_drewN ?_ _) | (with_reducible refine Kd.C_drew ?_))); (case side4 => exact HC0_1.out); rintro e w24 ⟨v409, rfl, ho0, hb⟩; have n0_ := Aside0.mk (Kd.R_lower ho0 (blz (by repeat (first | (with_reducible first | exact HB.out | apply blA | apply blN | apply blD | refine blS ?_ GE398.out) | exact HB.out)))); have n1_ := Aside0.mk (bbl (g := gb398) (o := .cells #[.slice A0_0 l0_0.length c0_0, .slice A0_1 l0_1.length c0_1, .int .i64 a0_2] 25 (0, 0)) (by (with_reducible repeat (first | refine bdN ?_ _ | refine bdD ?_ | refine blk_alloc ?_ _)); exact BK398.out) hb); have n2_ := Aside0.mk (bls (by repeat (first | (with_reducible first | exact HB.out | apply blA | apply blN | apply blD | refine blS ?_ GE398.out) | exact HB.out)) hb); clear BK398; clear HB; have HO410 := n0_; have BK398 := n1_; have HB := n2_; clear n0_ n1_ n2_; (try clear hb); (try clear hb2); (try clear hk); (try clear hi); (try clear ho0); obtain ⟨Ao25, co25, eo25⟩ := Kd.R_slice HO410.out; subst eo25)))
        go_roundg k2
        case measure => have := HK1.out; have := HK2.out; omega
        case rel => exact ⟨(wrap64 (x7_2 + (t408.length : Int))), (wrap64 (x8_2 + 1)), (by first | rfl | (simp; done) | (simp [*]; done)), (by first | rfl | (simp; done) | (simp [*]; done)), H', ⟨by have := HK1.out; have := HK2.out; omega⟩, ⟨by (with_reducible repeat (first | refine bdN ?_ _ | refine bdD ?_ | refine blk_alloc ?_ _)); exact BK398.out⟩, ⟨by repeat (first | (with_reducible first | exact HB.out | apply blA | apply blN | apply blD | refine blS ?_ GE398.out) | exact HB.out)⟩⟩
       ·rw [if_neg c21] at H
        have c21b0 : decide (x8_2 < 4) = false := decide_eq_false c21
        clear c21
        by_cases c26 : t399 = true
        ·subst c26
         have H1 : (if t403 = true then (some (x7_2 == (l0_0.length : Int))) else (some true)) = some r := by rw [if_pos rfl] at H; exact H
         clear H
         have H := H1
         clear H1
         by_cases c27 : t403 = true
         ·subst c27
          have H1 : (some (x7_2 == (l0_0.length : Int))) = some r := by rw [if_pos rfl] at H; exact H
          clear H
          have H := H1
          clear H1
          obtain rfl := Option.some.inj H
          have hcz28_0 : wr.cell? ⟨gb398, 0, none⟩ = some (.slice A0_0 l0_0.length c0_0) := (bcl BK398.out 0).trans rfl
          have hcz28_1 : wr.cell? ⟨gb398, 1, none⟩ = some (.slice A0_1 l0_1.length c0_1) := (bcl BK398.out 1).trans rfl
          have hcz28_2 : wr.cell? ⟨gb398, 2, none⟩ = some (.int .i64 a0_2) := (bcl BK398.out 2).trans rfl
          have hfz28_0 := bfz BK398.out 0
          have hfz28_1 := bfz BK398.out 1
          have hfz28_2 := bfz BK398.out 2
          go_wp2
          repeat (go_quiet (fail); try go_wp2)
          go_ret
          exact ⟨by first | rfl | (simp [errW_none, errW_some] <;> rfl) | (simp [*, errW_none, errW_some] <;> rfl), by repeat (first | (with_reducible first | exact HB.out | apply blA | apply blN | apply blD | refine blS ?_ GE398.out) | exact HB.out)⟩
         ·replace c27 := Bool.eq_false_iff.mpr c27
          subst c27
          have H1 : (some true) = some r := by rw [if_neg (show ¬ (false = true) by decide)] at H; exact H
          clear H
          have H := H1
          clear H1
          obtain rfl := Option.some.inj H
          go_wp2
          repeat (go_quiet (fail); try go_wp2)
          go_ret
          exact ⟨by first | rfl | (simp [errW_none, errW_some] <;> rfl) | (simp [*, errW_none, errW_some] <;> rfl), by repeat (first | (with_reducible first | exact HB.out | apply blA | apply blN | apply blD | refine blS ?_ GE398.out) | exact HB.out)⟩
        ·replace c26 := Bool.eq_false_iff.mpr c26
         subst c26
         have H1 : (some false) = some r := by rw [if_neg (show ¬ (false = true) by decide)] at H; exact H
         clear H
         have H := H1
         clear H1
         rw [ht_] at H
         exact absurd H (by simp)
 ·rw [if_neg c4] at H
  have c4b0 : ((t400.length : Int) == (wrap64 ((l0_0.length : Int) + (l0_1.length : Int)))) = false := beq_eq_false_iff_ne.mpr c4
  have c4b1 : ((t400.length : Int) != (wrap64 ((l0_0.length : Int) + (l0_1.length : Int)))) = true := bne_iff_ne.mpr c4
  rw [ht_] at H
  exact absurd H (by simp)
/-! ### palinodelaw14_metas: function 30 -/
def palinodelaw14_metas.l0 : Nat → List (S35) → List (S35) → Int → Option (Bool)
 | 0, _, _, _ => none
 | k + 1, x0, x1, x5 => if x5 < (x0.length : Int) then (if 0 ≤ x5 then (if x5 < (x1.length : Int) then (if (!(((rd_T35 x0 x5).f0) == ((rd_T35 x1 x5).f0)) || (!(((rd_T35 x0 x5).f1) == ((rd_T35 x1 x5).f1)) || (!((((rd_T35 x0 x5).f2).toList) == (((rd_T35 x1 x5).f2).toList)) || (!((((rd_T35 x0 x5).f3).toList) == (((rd_T35 x1 x5).f3).toList)) || (!(((rd_T35 x0 x5).f4) == ((rd_T35 x1 x5).f4))))))) = true then (some false) else (palinodelaw14_metas.l0 k x0 x1 (wrap64 (x5 + 1)))) else (none)) else (none)) else (some true)
def palinodelaw14_metas.f (k : Nat) (l0 : List (S35)) (l1 : List (S35)) : Option (Bool) := if (l0.length : Int) = (l1.length : Int) then (palinodelaw14_metas.l0 k l0 l1 0) else (some false)
theorem palinodelaw14_metas.mono_l : ∀ k, (∀ y0 y1 y2, LeO (palinodelaw14_metas.l0 k y0 y1 y2) (palinodelaw14_metas.l0 (k + 1) y0 y1 y2))
 | 0 => fun _ _ _ r h => by simp [palinodelaw14_metas.l0] at h
 | k + 1 => by
  have ih0 := palinodelaw14_metas.mono_l k
  ·intro y0 y1 y2
   unfold palinodelaw14_metas.l0
   repeat' first
   | (with_reducible exact ih0 _ _ _)
   | (with_reducible exact LeO.refl _)
   | (with_reducible exact LeO.none _)
   | (with_reducible refine LeO.ite ?_ ?_)
   | (with_reducible refine LeO.bind ?_ (fun _ => ?_))
   | exact ih0 _ _ _
   | exact LeO.none _
   | refine LeO.ite ?_ ?_
   | refine LeO.bind ?_ (fun _ => ?_)
theorem palinodelaw14_metas.mono : ∀ a0 a1 k, LeO (palinodelaw14_metas.f k a0 a1) (palinodelaw14_metas.f (k + 1) a0 a1) := by
 intro a0 a1 k
 have ih0 := palinodelaw14_metas.mono_l k
 unfold palinodelaw14_metas.f
 repeat' first
   | (with_reducible exact ih0 _ _ _)
   | (with_reducible exact LeO.refl _)
   | (with_reducible exact LeO.none _)
   | (with_reducible refine LeO.ite ?_ ?_)
   | (with_reducible refine LeO.bind ?_ (fun _ => ?_))
   | exact ih0 _ _ _
   | exact LeO.none _
   | refine LeO.ite ?_ ?_
   | refine LeO.bind ?_ (fun _ => ?_)
/-! ### palinodelaw14_numbers: function 31 -/
def palinodelaw14_numbers.l0 : Nat → List Int → List Int → Int → Option (Bool)
 | 0, _, _, _ => none
 | k + 1, x0, x1, x5 => if x5 < (x0.length : Int) then (if 0 ≤ x5 then (if x5 < (x1.length : Int) then (if (rd x0 x5) = (rd x1 x5) then (palinodelaw14_numbers.l0 k x0 x1 (wrap64 (x5 + 1))) else (some false)) else (none)) else (none)) else (some true)
def palinodelaw14_numbers.f (k : Nat) (l0 : List Int) (l1 : List Int) : Option (Bool) := if (l0.length : Int) = (l1.length : Int) then (palinodelaw14_numbers.l0 k l0 l1 0) else (some false)
theorem palinodelaw14_numbers.mono_l : ∀ k, (∀ y0 y1 y2, LeO (palinodelaw14_numbers.l0 k y0 y1 y2) (palinodelaw14_numbers.l0 (k + 1) y0 y1 y2))
 | 0 => fun _ _ _ r h => by simp [palinodelaw14_numbers.l0] at h
 | k + 1 => by
  have ih0 := palinodelaw14_numbers.mono_l k
  ·intro y0 y1 y2
   unfold palinodelaw14_numbers.l0
   repeat' first
   | (with_reducible exact ih0 _ _ _)
   | (with_reducible exact LeO.refl _)
   | (with_reducible exact LeO.none _)
   | (with_reducible refine LeO.ite ?_ ?_)
   | (with_reducible refine LeO.bind ?_ (fun _ => ?_))
   | exact ih0 _ _ _
   | exact LeO.none _
   | refine LeO.ite ?_ ?_
   | refine LeO.bind ?_ (fun _ => ?_)
theorem palinodelaw14_numbers.mono : ∀ a0 a1 k, LeO (palinodelaw14_numbers.f k a0 a1) (palinodelaw14_numbers.f (k + 1) a0 a1) := by
 intro a0 a1 k
 have ih0 := palinodelaw14_numbers.mono_l k
 unfold palinodelaw14_numbers.f
 repeat' first
   | (with_reducible exact ih0 _ _ _)
   | (with_reducible exact LeO.refl _)
   | (with_reducible exact LeO.none _)
   | (with_reducible refine LeO.ite ?_ ?_)
   | (with_reducible refine LeO.bind ?_ (fun _ => ?_))
   | exact ih0 _ _ _
   | exact LeO.none _
   | refine LeO.ite ?_ ?_
   | refine LeO.bind ?_ (fun _ => ?_)
/-! ### palinodelaw14_same: function 12 -/
def palinodelaw14_same.f (k : Nat) (l0_0 : List (S35)) (l0_1 : List Int) (a0_2 : Int) (l1_0 : List (S35)) (l1_1 : List Int) (a1_2 : Int) : Option (Bool) := (palinodelaw14_metas.f k l0_0 l1_0).bind fun t417 => ((palinodelaw14_numbers.f k l0_1 l1_1).bind fun t418 => (if t417 = true then (if t418 = true then (some (a0_2 == a1_2)) else (some false)) else (some false)))
theorem palinodelaw14_same.mono : ∀ a0 a1 a2 a3 a4 a5 k, LeO (palinodelaw14_same.f k a0 a1 a2 a3 a4 a5) (palinodelaw14_same.f (k + 1) a0 a1 a2 a3 a4 a5) := by
 intro a0 a1 a2 a3 a4 a5 k
 unfold palinodelaw14_same.f
 repeat' first
   | (with_reducible exact palinodelaw14_metas.mono _ _ _)
   | (with_reducible exact palinodelaw14_numbers.mono _ _ _)
   | (with_reducible exact LeO.refl _)
   | (with_reducible exact LeO.none _)
   | (with_reducible refine LeO.ite ?_ ?_)
   | (with_reducible refine LeO.bind ?_ (fun _ => ?_))
   | exact palinodelaw14_metas.mono _ _ _
   | exact palinodelaw14_numbers.mono _ _ _
   | exact LeO.none _
   | refine LeO.ite ?_ ?_
   | refine LeO.bind ?_ (fun _ => ?_)
end Go.Proofs.Ytoonheembcejfaa.PA

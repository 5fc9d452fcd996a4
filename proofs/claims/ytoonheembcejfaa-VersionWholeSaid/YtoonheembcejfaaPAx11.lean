-- printed by a program of this session (wip/myprint.py), after the kit's print
import Derived.Test.YtoonheembcejfaaPAx0
import Derived.Test.YtoonheembcejfaaPAx3
import Derived.Test.YtoonheembcejfaaPAx4
import Derived.Test.YtoonheembcejfaaPAx10
import Derived.Test.YtoonheembcejfaaHTwice
import Derived.Test.YtoonheembcejfaaHWithoutInt
import Derived.Test.YtoonheembcejfaaHWithoutMeta
namespace Go.Proofs.Ytoonheembcejfaa.PA
open Go.RowKit Go.Proofs.YtoonheembcejfaaW.PrintWords Go.Proofs.YtoonheembcejfaaW.PrintLast Go.Proofs.YtoonheembcejfaaW.PrintMore
attribute [local go_sem] max2_int min2_int max_two min_two max_three min_three max_four min_four   -- for this text's walks alone
set_option linter.unusedVariables false
set_option linter.unusedSimpArgs false
/-! ### version_Apply: function 10 -/
def version_Apply.j0 : Nat → List (S35) → List Int → Bool → List (S35) → List Int → Int → List (S35) → List Int → List Int → List Int → Int → Option ((List (S35)) × List Int × Int × Option Int)
 | 0, _, _, _, _, _, _, _, _, _, _, _ => none
 | k + 1, x6, x8, x37, x187000, x187001, x187002, x188000, x188001, x188002, x188003, x188004 => if x37 = true then (some (([] : List (S35)), ([] : List Int), 0, some 8)) else (if x6.length + x188000.length < 2513169434916 then (if x8.length + x188002.length < 17592186044416 then ((some (x8 ++ x188002 : List Int)).bind fun y201 => ((api_Meta_26.f k (x6 ++ x188000)).bind fun t205 => ((version_ids.f k t205 y201 (mx x187002 x188004)).bind fun t206 => ((version_twice.f t206).bind fun t209 => (if t209 = true then (some (([] : List (S35)), ([] : List Int), 0, some 9)) else ((version_Right.f k t205 y201 (mx x187002 x188004)).bind fun t210 => (if t210 = true then (some (t205, y201, mx x187002 x188004, none)) else (some (([] : List (S35)), ([] : List Int), 0, some 1))))))))) else (none)) else (none))
def version_Apply.f (k : Nat) (l0_0 : List (S35)) (l0_1 : List Int) (a0_2 : Int) (l1_0 : List (S35)) (l1_1 : List Int) (l1_2 : List Int) (l1_3 : List Int) (a1_4 : Int) : Option ((List (S35)) × List Int × Int × Option Int) := (version_Right.f k l0_0 l0_1 a0_2).bind fun t189 => (if t189 = true then ((withoutMeta.f l0_0 l1_1).bind fun bt190 => ((withoutInt.f l0_1 l1_3).bind fun bt194 => (if bt190.2 = true then (version_Apply.j0 k bt190.1 bt194.1 (!bt194.2) l0_0 l0_1 a0_2 l1_0 l1_1 l1_2 l1_3 a1_4) else (version_Apply.j0 k bt190.1 bt194.1 true l0_0 l0_1 a0_2 l1_0 l1_1 l1_2 l1_3 a1_4)))) else (some (([] : List (S35)), ([] : List Int), 0, some 1)))
theorem version_Apply.mono_l : ∀ k, (∀ y0 y1 y2 y3 y4 y5 y6 y7 y8 y9 y10, LeO (version_Apply.j0 k y0 y1 y2 y3 y4 y5 y6 y7 y8 y9 y10) (version_Apply.j0 (k + 1) y0 y1 y2 y3 y4 y5 y6 y7 y8 y9 y10))
 | 0 => fun _ _ _ _ _ _ _ _ _ _ _ r h => by simp [version_Apply.j0] at h
 | k + 1 => by
  have ih0 := version_Apply.mono_l k
  ·intro y0 y1 y2 y3 y4 y5 y6 y7 y8 y9 y10
   unfold version_Apply.j0
   repeat' first
   | (with_reducible exact ih0 _ _ _ _ _ _ _ _ _ _ _)
   | (with_reducible exact api_Meta_26.mono _ _)
   | (with_reducible exact version_Right.mono _ _ _ _)
   | (with_reducible exact version_ids.mono _ _ _ _)
   | (with_reducible exact LeO.refl _)
   | (with_reducible exact LeO.none _)
   | (with_reducible refine LeO.ite ?_ ?_)
   | (with_reducible refine LeO.bind ?_ (fun _ => ?_))
   | exact ih0 _ _ _ _ _ _ _ _ _ _ _
   | exact api_Meta_26.mono _ _
   | exact version_Right.mono _ _ _ _
   | exact version_ids.mono _ _ _ _
   | exact LeO.none _
   | refine LeO.ite ?_ ?_
   | refine LeO.bind ?_ (fun _ => ?_)
theorem version_Apply.mono : ∀ a0 a1 a2 a3 a4 a5 a6 a7 k, LeO (version_Apply.f k a0 a1 a2 a3 a4 a5 a6 a7) (version_Apply.f (k + 1) a0 a1 a2 a3 a4 a5 a6 a7) := by
 intro a0 a1 a2 a3 a4 a5 a6 a7 k
 have ih0 := version_Apply.mono_l k
 unfold version_Apply.f
 repeat' first
   | (with_reducible exact ih0 _ _ _ _ _ _ _ _ _ _ _)
   | (with_reducible exact api_Meta_26.mono _ _)
   | (with_reducible exact version_Right.mono _ _ _ _)
   | (with_reducible exact version_ids.mono _ _ _ _)
   | (with_reducible exact LeO.refl _)
   | (with_reducible exact LeO.none _)
   | (with_reducible refine LeO.ite ?_ ?_)
   | (with_reducible refine LeO.bind ?_ (fun _ => ?_))
   | exact ih0 _ _ _ _ _ _ _ _ _ _ _
   | exact api_Meta_26.mono _ _
   | exact version_Right.mono _ _ _ _
   | exact version_ids.mono _ _ _ _
   | exact LeO.none _
   | refine LeO.ite ?_ ?_
   | refine LeO.bind ?_ (fun _ => ?_)
def version_Apply.T7 : Bool × List (List Nat × List Nat) := (true, [([], []), ([], []), ([1], [1]), ([0, 2], [0, 2]), ([], []), ([], []), ([5], [5]), ([4, 6, 3], [4, 6]), ([], []), ([8], [8]), ([], []), ([10], [10]), ([9, 11], [9, 11]), ([3, 7, 12], [3, 7, 12]), ([], []), ([14, 13, 7, 0, 1, 2, 3, 4, 5, 6, 7, 8, 9, 10, 11, 12, 13, 14], [13, 14])])
def version_Apply.B7 : List Nat := [0, 0, 2, 7, 0, 0, 32, 127, 0, 256, 0, 1024, 3840, 8191, 0, 32767]
theorem version_Apply.tab7 : rtab .any (opsOf Try.f10 7) = version_Apply.T7 := by kernel_rfl
theorem version_Apply.bits7 : waitsOk version_Apply.T7.2 version_Apply.B7 = true := by kernel_rfl
set_option maxHeartbeats 8000000 in
set_option maxRecDepth 100000 in
theorem version_Apply.calls (k : Nat) (A0_0 : Option Addr) (c0_0 : Nat) (l0_0 : List (S35)) (A0_1 : Option Addr) (c0_1 : Nat) (l0_1 : List Int) (a0_2 : Int) (A1_0 : Option Addr) (c1_0 : Nat) (l1_0 : List (S35)) (A1_1 : Option Addr) (c1_1 : Nat) (l1_1 : List Int) (A1_2 : Option Addr) (c1_2 : Nat) (l1_2 : List Int) (A1_3 : Option Addr) (c1_3 : Nat) (l1_3 : List Int) (a1_4 : Int) (r1 : List (S35)) (r2 : List Int) (r3 : Int) (r4 : Option Int) (w : World) (hr0_0 : Kd.C k35 w A0_0 l0_0.length l0_0) (hc0_0 : l0_0.length ≤ c0_0) (hr0_1 : Kd.C (Kd.int .i64) w A0_1 l0_1.length l0_1) (hc0_1 : l0_1.length ≤ c0_1) (hr1_0 : Kd.C k35 w A1_0 l1_0.length l1_0) (hc1_0 : l1_0.length ≤ c1_0) (hr1_1 : Kd.C (Kd.int .i64) w A1_1 l1_1.length l1_1) (hc1_1 : l1_1.length ≤ c1_1) (hr1_2 : Kd.C (Kd.int .i64) w A1_2 l1_2.length l1_2) (hc1_2 : l1_2.length ≤ c1_2) (hr1_3 : Kd.C (Kd.int .i64) w A1_3 l1_3.length l1_3) (hc1_3 : l1_3.length ≤ c1_3) (h : version_Apply.f k l0_0 l0_1 a0_2 l1_0 l1_1 l1_2 l1_3 a1_4 = some (r1, r2, r3, r4)) :
  Calls Try.prog 10 #[.agg #[.slice A0_0 l0_0.length c0_0, .slice A0_1 l0_1.length c0_1, .int .i64 a0_2], .agg #[.slice A1_0 l1_0.length c1_0, .slice A1_1 l1_1.length c1_1, .slice A1_2 l1_2.length c1_2, .slice A1_3 l1_3.length c1_3, .int .i64 a1_4]] w fun e w' => ∃ v0_ v1_ : Value, e = .returned (.tuple #[.agg #[v0_, v1_, .int .i64 r3], errW r4]) ∧ Kd.R k35 35 w' w.heap.size (fun _ => True) v0_ r1 ∧ Kd.R (Kd.int .i64) 3 w' w.heap.size (fun _ => True) v1_ r2 ∧ Below w.heap.size w w' := by
 have hu25 := Try.underlying25
 have hu32 := Try.underlying32
 have hu28 := Try.underlying28
 have hu53 := Try.underlying53
 have HR0_0 := Ad.mk hr0_0
 have HC0_0 := Ad.mk hc0_0
 clear hr0_0 hc0_0
 have HR0_1 := Ad.mk hr0_1
 have HC0_1 := Ad.mk hc0_1
 clear hr0_1 hc0_1
 have HR1_0 := Ad.mk hr1_0
 have HC1_0 := Ad.mk hc1_0
 clear hr1_0 hc1_0
 have HR1_1 := Ad.mk hr1_1
 have HC1_1 := Ad.mk hc1_1
 clear hr1_1 hc1_1
 have HR1_2 := Ad.mk hr1_2
 have HC1_2 := Ad.mk hc1_2
 clear hr1_2 hc1_2
 have HR1_3 := Ad.mk hr1_3
 have HC1_3 := Ad.mk hc1_3
 clear hr1_3 hc1_3
 have HB := Ad.mk (Below.refl w.heap.size w)
 have H : ((version_Right.f k l0_0 l0_1 a0_2).bind fun t189 => (if t189 = true then ((withoutMeta.f l0_0 l1_1).bind fun bt190 => ((withoutInt.f l0_1 l1_3).bind fun bt194 => (if bt190.2 = true then (version_Apply.j0 k bt190.1 bt194.1 (!bt194.2) l0_0 l0_1 a0_2 l1_0 l1_1 l1_2 l1_3 a1_4) else (version_Apply.j0 k bt190.1 bt194.1 true l0_0 l0_1 a0_2 l1_0 l1_1 l1_2 l1_3 a1_4)))) else (some (([] : List (S35)), ([] : List Int), 0, some 1)))) = some (r1, r2, r3, r4) := h
 clear h
 replace H := Option.bind_eq_some_iff.mp H
 obtain ⟨t189, A30, H⟩ := H
 replace H : (if t189 = true then ((withoutMeta.f l0_0 l1_1).bind fun bt190 => ((withoutInt.f l0_1 l1_3).bind fun bt194 => (if bt190.2 = true then (version_Apply.j0 k bt190.1 bt194.1 (!bt194.2) l0_0 l0_1 a0_2 l1_0 l1_1 l1_2 l1_3 a1_4) else (version_Apply.j0 k bt190.1 bt194.1 true l0_0 l0_1 a0_2 l1_0 l1_1 l1_2 l1_3 a1_4)))) else (some (([] : List (S35)), ([] : List Int), 0, some 1))) = some (r1, r2, r3, r4) := H
 have A3 := Ad.mk A30
 clear A30
 by_cases c4 : t189 = true
 ·subst c4
  have H1 : ((withoutMeta.f l0_0 l1_1).bind fun bt190 => ((withoutInt.f l0_1 l1_3).bind fun bt194 => (if bt190.2 = true then (version_Apply.j0 k bt190.1 bt194.1 (!bt194.2) l0_0 l0_1 a0_2 l1_0 l1_1 l1_2 l1_3 a1_4) else (version_Apply.j0 k bt190.1 bt194.1 true l0_0 l0_1 a0_2 l1_0 l1_1 l1_2 l1_3 a1_4)))) = some (r1, r2, r3, r4) := by rw [if_pos rfl] at H; exact H
  clear H
  have H := H1
  clear H1
  replace H := Option.bind_eq_some_iff.mp H
  obtain ⟨⟨t190, t191⟩, A50, H⟩ := H
  replace H : ((withoutInt.f l0_1 l1_3).bind fun bt194 => (if t191 = true then (version_Apply.j0 k t190 bt194.1 (!bt194.2) l0_0 l0_1 a0_2 l1_0 l1_1 l1_2 l1_3 a1_4) else (version_Apply.j0 k t190 bt194.1 true l0_0 l0_1 a0_2 l1_0 l1_1 l1_2 l1_3 a1_4))) = some (r1, r2, r3, r4) := H
  have A5 := Ad.mk A50
  clear A50
  replace H := Option.bind_eq_some_iff.mp H
  obtain ⟨⟨t194, t195⟩, A60, H⟩ := H
  replace H : (if t191 = true then (version_Apply.j0 k t190 t194 (!t195) l0_0 l0_1 a0_2 l1_0 l1_1 l1_2 l1_3 a1_4) else (version_Apply.j0 k t190 t194 true l0_0 l0_1 a0_2 l1_0 l1_1 l1_2 l1_3 a1_4)) = some (r1, r2, r3, r4) := H
  have A6 := Ad.mk A60
  clear A60
  have HC7 := Ad.mk H
  clear H
  go_enter Try.func10, Try.ntmps10
  go_upto_region 5 with (first | ((with_reducible refine gate_dst (N := 2) rfl ?_); refine box_event ?hg (N := 2) ?hd (cs := #[.slice A0_0 l0_0.length c0_0, .slice A0_1 l0_1.length c0_1, .int .i64 a0_2]) (t := 25) ?hr ?_; (case hd => rfl); (case hg => rfl); (case hr => first | (go_simp; done) | (go_simp; rfl)); intro gb186 hg w8 hbox hb; have n0_ := Ad.mk (bls (by repeat (first | (with_reducible first | exact HB.out | apply blA | apply blN | apply blD) | exact HB.out)) hb); have n1_ := Ad.mk (hbox); have n2_ := Ad.mk ((by rw [hg]; exact (blz (by repeat (first | (with_reducible first | exact HB.out | apply blA | apply blN | apply blD) | exact HB.out))) : w.heap.size ≤ gb186)); have n3_ := Ad.mk ((by rw [hg]; exact (blz (by repeat (first | (with_reducible first | exact HB.out | apply blA | apply blN | apply blD) | exact HB.out))) : w.heap.size ≤ gb186)); clear HB; have HB := n0_; have BK186 := n1_; have GW186 := n2_; have GE186 := n3_; clear n0_ n1_ n2_ n3_; clear hb hbox hg) | ((with_reducible refine gate_dst (N := 3) rfl ?_); refine box_event ?hg (N := 3) ?hd (cs := #[.slice A1_0 l1_0.length c1_0, .slice A1_1 l1_1.length c1_1, .slice A1_2 l1_2.length c1_2, .slice A1_3 l1_3.length c1_3, .int .i64 a1_4]) (t := 32) ?hr ?_; (case hd => rfl); (case hg => rfl); (case hr => first | (go_simp; done) | (go_simp; rfl)); intro gb187 hg w9 hbox hb; have n0_ := Ad.mk (bbl (g := gb186) (o := .cells #[.slice A0_0 l0_0.length c0_0, .slice A0_1 l0_1.length c0_1, .int .i64 a0_2] 25 (0, 0)) (by (with_reducible repeat (first | refine bdN ?_ _ | refine bdD ?_ | refine blk_alloc ?_ _)); exact BK186.out) hb); have n1_ := Ad.mk (bls (by repeat (first | (with_reducible first | exact HB.out | apply blA | apply blN | apply blD | refine blS ?_ GE186.out) | exact HB.out)) hb); have n2_ := Ad.mk (hbox); have n3_ := Ad.mk ((by rw [hg]; exact (blz (by repeat (first | (with_reducible first | exact HB.out | apply blA | apply blN | apply blD | refine blS ?_ GE186.out) | exact HB.out))) : w.heap.size ≤ gb187)); have n4_ := Ad.mk ((by rw [hg]; exact (blz (by repeat (first | (with_reducible first | exact HB.out | apply blA | apply blN | apply blD | refine blS ?_ GE186.out) | exact HB.out))) : w.heap.size ≤ gb187)); have n5_ := Ad.mk ((by rw [hg]; exact Nat.ne_of_lt (blk_lt (g := gb186) (o := .cells #[.slice A0_0 l0_0.length c0_0, .slice A0_1 l0_1.length c0_1, .int .i64 a0_2] 25 (0, 0)) (by (with_reducible repeat (first | refine bdN ?_ _ | refine bdD ?_ | refine blk_alloc ?_ _)); exact BK186.out)) : gb186 ≠ gb187)); have n6_ := Ad.mk ((by rw [hg]; exact Nat.ne_of_gt (blk_lt (g := gb186) (o := .cells #[.slice A0_0 l0_0.length c0_0, .slice A0_1 l0_1.length c0_1, .int .i64 a0_2] 25 (0, 0)) (by (with_reducible repeat (first | refine bdN ?_ _ | refine bdD ?_ | refine blk_alloc ?_ _)); exact BK186.out)) : gb187 ≠ gb186)); clear BK186; clear HB; have BK186 := n0_; have HB := n1_; have BK187 := n2_; have GW187 := n3_; have GE187 := n4_; have NB186_187 := n5_; have NB187_186 := n6_; clear n0_ n1_ n2_ n3_ n4_ n5_ n6_; clear hb hbox hg) | ((with_reducible refine gate_dst (N := 4) rfl ?_); refine box_event ?hg (N := 4) ?hd (cs := #[.slice none 0 0, .slice none 0 0, .int .i64 0]) (t := 25) ?hr ?_; (case hd => rfl); (case hg => rfl); (case hr => first | (go_simp; done) | (go_simp; rfl)); intro gb188 hg w10 hbox hb; have n0_ := Ad.mk (bbl (g := gb186) (o := .cells #[.slice A0_0 l0_0.length c0_0, .slice A0_1 l0_1.length c0_1, .int .i64 a0_2] 25 (0, 0)) (by (with_reducible repeat (first | refine bdN ?_ _ | refine bdD ?_ | refine blk_alloc ?_ _)); exact BK186.out) hb); have n1_ := Ad.mk (bbl (g := gb187) (o := .cells #[.slice A1_0 l1_0.length c1_0, .slice A1_1 l1_1.length c1_1, .slice A1_2 l1_2.length c1_2, .slice A1_3 l1_3.length c1_3, .int .i64 a1_4] 32 (0, 0)) (by (with_reducible repeat (first | refine bdN ?_ _ | refine bdD ?_ | refine blk_alloc ?_ _)); exact BK187.out) hb); have n2_ := Ad.mk (bls (by repeat (first | (with_reducible first | exact HB.out | apply blA | apply blN | apply blD | refine blS ?_ GE186.out | refine blS ?_ GE187.out) | exact HB.out)) hb); have n3_ := Ad.mk (hbox); have n4_ := Ad.mk ((by rw [hg]; exact (blz (by repeat (first | (with_reducible first | exact HB.out | apply blA | apply blN | apply blD | refine blS ?_ GE186.out | refine blS ?_ GE187.out) | exact HB.out))) : w.heap.size ≤ gb188)); have n5_ := Ad.mk ((by rw [hg]; exact (blz (by repeat (first | (with_reducible first | exact HB.out | apply blA | apply blN | apply blD | refine blS ?_ GE186.out | refine blS ?_ GE187.out) | exact HB.out))) : w.heap.size ≤ gb188)); have n6_ := Ad.mk ((by rw [hg]; exact Nat.ne_of_lt (blk_lt (g := gb186) (o := .cells #[.slice A0_0 l0_0.length c0_0, .slice A0_1 l0_1.length c0_1, .int .i64 a0_2] 25 (0, 0)) (by (with_reducible repeat (first | refine bdN ?_ _ | refine bdD ?_ | refine blk_alloc ?_ _)); exact BK186.out)) : gb186 ≠ gb188)); have n7_ := Ad.mk ((by rw [hg]; exact Nat.ne_of_gt (blk_lt (g := gb186) (o := .cells #[.slice A0_0 l0_0.length c0_0, .slice A0_1 l0_1.length c0_1, .int .i64 a0_2] 25 (0, 0)) (by (with_reducible repeat (first | refine bdN ?_ _ | refine bdD ?_ | refine blk_alloc ?_ _)); exact BK186.out)) : gb188 ≠ gb186)); have n8_ := Ad.mk ((by rw [hg]; exact Nat.ne_of_lt (blk_lt (g := gb187) (o := .cells #[.slice A1_0 l1_0.length c1_0, .slice A1_1 l1_1.length c1_1, .slice A1_2 l1_2.length c1_2, .slice A1_3 l1_3.length c1_3, .int .i64 a1_4] 32 (0, 0)) (by (with_reducible repeat (first | refine bdN ?_ _ | refine bdD ?_ | refine blk_alloc ?_ _)); exact BK187.out)) : gb187 ≠ gb188)); have n9_ := Ad.mk ((by rw [hg]; exact Nat.ne_of_gt (blk_lt (g := gb187) (o := .cells #[.slice A1_0 l1_0.length c1_0, .slice A1_1 l1_1.length c1_1, .slice A1_2 l1_2.length c1_2, .slice A1_3 l1_3.length c1_3, .int .i64 a1_4] 32 (0, 0)) (by (with_reducible repeat (first | refine bdN ?_ _ | refine bdD ?_ | refine blk_alloc ?_ _)); exact BK187.out)) : gb188 ≠ gb187)); clear BK186; clear BK187; clear HB; have BK186 := n0_; have BK187 := n1_; have HB := n2_; have BK188 := n3_; have GW188 := n4_; have GE188 := n5_; have NB186_188 := n6_; have NB188_186 := n7_; have NB187_188 := n8_; have NB188_187 := n9_; clear n0_ n1_ n2_ n3_ n4_ n5_ n6_ n7_ n8_ n9_; clear hb hbox hg; have hnb11 := NB186_187.out; have hnc11 := NB187_186.out; have hnb12 := NB186_188.out; have hnc12 := NB188_186.out; have hcz13_0 : w10.cell? ⟨gb186, 0, none⟩ = some (.slice A0_0 l0_0.length c0_0) := (bcl BK186.out 0).trans rfl; have hcz13_1 : w10.cell? ⟨gb186, 1, none⟩ = some (.slice A0_1 l0_1.length c0_1) := (bcl BK186.out 1).trans rfl; have hcz13_2 : w10.cell? ⟨gb186, 2, none⟩ = some (.int .i64 a0_2) := (bcl BK186.out 2).trans rfl; have hfz13_0 := bfz BK186.out 0; have hfz13_1 := bfz BK186.out 1; have hfz13_2 := bfz BK186.out 2) | ((with_reducible refine gate_callee (f := 13) rfl ?_); refine goesL_ (some 12) rfl rfl Try.func13 (by kernel_rfl) rfl #[.agg #[.slice A0_0 l0_0.length c0_0, .slice A0_1 l0_1.length c0_1, .int .i64 a0_2]] rfl (by (try simp only [List.map_toArray, List.map_cons, List.map_nil]); first | done | rfl | (simp only [List.length_drop, List.length_take]; rfl)) ?_; (with_reducible refine (version_Right.calls k _ _ l0_0 _ _ l0_1 a0_2 true _ ?side1 ?side2 ?side3 ?side4 A3.out).mono ?_); (case side1 => repeat (first | exact (Kd.C_below HR0_0.out HB.out) | (with_reducible refine Kd.C_alloc ?_ _) | (with_reducible refine Kd.C_drewN ?_ _) | (with_reducible refine Kd.C_drew ?_))); (case side2 => exact HC0_0.out); (case side3 => repeat (first | exact (Kd.C_below HR0_1.out HB.out) | (with_reducible refine Kd.C_alloc ?_ _) | (with_reducible refine Kd.C_drewN ?_ _) | (with_reducible refine Kd.C_drew ?_))); (case side4 => exact HC0_1.out); rintro e w14 ⟨rfl, hb⟩; refine ⟨_, rfl, ?_⟩; have n0_ := Ad.mk (bbl (g := gb186) (o := .cells #[.slice A0_0 l0_0.length c0_0, .slice A0_1 l0_1.length c0_1, .int .i64 a0_2] 25 (0, 0)) (by (with_reducible repeat (first | refine bdN ?_ _ | refine bdD ?_ | refine blk_alloc ?_ _)); exact BK186.out) hb); have n1_ := Ad.mk (bbl (g := gb187) (o := .cells #[.slice A1_0 l1_0.length c1_0, .slice A1_1 l1_1.length c1_1, .slice A1_2 l1_2.length c1_2, .slice A1_3 l1_3.length c1_3, .int .i64 a1_4] 32 (0, 0)) (by (with_reducible repeat (first | refine bdN ?_ _ | refine bdD ?_ | refine blk_alloc ?_ _)); exact BK187.out) hb); have n2_ := Ad.mk (bbl (g := gb188) (o := .cells #[.slice none 0 0, .slice none 0 0, .int .i64 0] 25 (0, 0)) (by (with_reducible repeat (first | refine bdN ?_ _ | refine bdD ?_ | refine blk_alloc ?_ _)); exact BK188.out) hb); have n3_ := Ad.mk (bls (by repeat (first | (with_reducible first | exact HB.out | apply blA | apply blN | apply blD | refine blS ?_ GE186.out | refine blS ?_ GE187.out | refine blS ?_ GE188.out) | exact HB.out)) hb); clear BK186; clear BK187; clear BK188; clear HB; have BK186 := n0_; have BK187 := n1_; have BK188 := n2_; have HB := n3_; clear n0_ n1_ n2_ n3_; (try clear hb); (try clear hb2); (try clear hk); (try clear hi); have hcz15_0 : w14.cell? ⟨gb186, 0, none⟩ = some (.slice A0_0 l0_0.length c0_0) := (bcl BK186.out 0).trans rfl; have hcz15_1 : w14.cell? ⟨gb186, 1, none⟩ = some (.slice A0_1 l0_1.length c0_1) := (bcl BK186.out 1).trans rfl; have hcz15_2 : w14.cell? ⟨gb186, 2, none⟩ = some (.int .i64 a0_2) := (bcl BK186.out 2).trans rfl; have hfz15_0 := bfz BK186.out 0; have hfz15_1 := bfz BK186.out 1; have hfz15_2 := bfz BK186.out 2; have hnb16 := NB187_188.out; have hnc16 := NB188_187.out; have hcz17_0 : w14.cell? ⟨gb187, 0, none⟩ = some (.slice A1_0 l1_0.length c1_0) := (bcl BK187.out 0).trans rfl; have hcz17_1 : w14.cell? ⟨gb187, 1, none⟩ = some (.slice A1_1 l1_1.length c1_1) := (bcl BK187.out 1).trans rfl; have hcz17_2 : w14.cell? ⟨gb187, 2, none⟩ = some (.slice A1_2 l1_2.length c1_2) := (bcl BK187.out 2).trans rfl; have hcz17_3 : w14.cell? ⟨gb187, 3, none⟩ = some (.slice A1_3 l1_3.length c1_3) := (bcl BK187.out 3).trans rfl; have hcz17_4 : w14.cell? ⟨gb187, 4, none⟩ = some (.int .i64 a1_4) := (bcl BK187.out 4).trans rfl; have hfz17_0 := bfz BK187.out 0; have hfz17_1 := bfz BK187.out 1; have hfz17_2 := bfz BK187.out 2; have hfz17_3 := bfz BK187.out 3; have hfz17_4 := bfz BK187.out 4) | ((with_reducible refine gate_callee (f := 22) rfl ?_); refine goesL_ (some 21) rfl rfl Try.func22 (by kernel_rfl) rfl #[.slice A0_0 l0_0.length c0_0, .slice A1_1 l1_1.length c1_1, .func (.func 23) #[] #[]] rfl (by (try simp only [List.map_toArray, List.map_cons, List.map_nil]); first | done | rfl | (simp only [List.length_drop, List.length_take]; rfl)) ?_; (with_reducible refine (withoutMeta.calls _ _ l0_0 _ _ l1_1 t190 t191 _ ?side1 ?side2 ?side3 ?side4 A5.out).mono ?_); (case side1 => repeat (first | exact (Kd.C_below HR0_0.out HB.out) | (with_reducible refine Kd.C_alloc ?_ _) | (with_reducible refine Kd.C_drewN ?_ _) | (with_reducible refine Kd.C_drew ?_))); (case side2 => exact HC0_0.out); (case side3 => repeat (first | exact (Kd.C_below HR1_1.out HB.out) | (with_reducible refine Kd.C_alloc ?_ _) | (with_reducible refine Kd.C_drewN ?_ _) | (with_reducible refine Kd.C_drew ?_))); (case side4 => exact HC1_1.out); rintro e w18 ⟨v192, rfl, ho0, hb⟩; refine ⟨_, rfl, ?_⟩; have n0_ := Ad.mk (Kd.R_lower ho0 (blz (by repeat (first | (with_reducible first | exact HB.out | apply blA | apply blN | apply blD | refine blS ?_ GE186.out | refine blS ?_ GE187.out | refine blS ?_ GE188.out) | exact HB.out)))); have n1_ := Ad.mk (bbl (g := gb186) (o := .cells #[.slice A0_0 l0_0.length c0_0, .slice A0_1 l0_1.length c0_1, .int .i64 a0_2] 25 (0, 0)) (by (with_reducible repeat (first | refine bdN ?_ _ | refine bdD ?_ | refine blk_alloc ?_ _)); exact BK186.out) hb); have n2_ := Ad.mk (bbl (g := gb187) (o := .cells #[.slice A1_0 l1_0.length c1_0, .slice A1_1 l1_1.length c1_1, .slice A1_2 l1_2.length c1_2, .slice A1_3 l1_3.length c1_3, .int .i64 a1_4] 32 (0, 0)) (by (with_reducible repeat (first | refine bdN ?_ _ | refine bdD ?_ | refine blk_alloc ?_ _)); exact BK187.out) hb); have n3_ := Ad.mk (bbl (g := gb188) (o := .cells #[.slice none 0 0, .slice none 0 0, .int .i64 0] 25 (0, 0)) (by (with_reducible repeat (first | refine bdN ?_ _ | refine bdD ?_ | refine blk_alloc ?_ _)); exact BK188.out) hb); have n4_ := Ad.mk (bls (by repeat (first | (with_reducible first | exact HB.out | apply blA | apply blN | apply blD | refine blS ?_ GE186.out | refine blS ?_ GE187.out | refine blS ?_ GE188.out) | exact HB.out)) hb); clear BK186; clear BK187; clear BK188; clear HB; have HO193 := n0_; have BK186 := n1_; have BK187 := n2_; have BK188 := n3_; have HB := n4_; clear n0_ n1_ n2_ n3_ n4_; (try clear hb); (try clear hb2); (try clear hk); (try clear hi); (try clear ho0); have hcz19_0 : w18.cell? ⟨gb186, 0, none⟩ = some (.slice A0_0 l0_0.length c0_0) := (bcl BK186.out 0).trans rfl; have hcz19_1 : w18.cell? ⟨gb186, 1, none⟩ = some (.slice A0_1 l0_1.length c0_1) := (bcl BK186.out 1).trans rfl; have hcz19_2 : w18.cell? ⟨gb186, 2, none⟩ = some (.int .i64 a0_2) := (bcl BK186.out 2).trans rfl; have hfz19_0 := bfz BK186.out 0; have hfz19_1 := bfz BK186.out 1; have hfz19_2 := bfz BK186.out 2; have hcz20_0 : w18.cell? ⟨gb187, 0, none⟩ = some (.slice A1_0 l1_0.length c1_0) := (bcl BK187.out 0).trans rfl; have hcz20_1 : w18.cell? ⟨gb187, 1, none⟩ = some (.slice A1_1 l1_1.length c1_1) := (bcl BK187.out 1).trans rfl; have hcz20_2 : w18.cell? ⟨gb187, 2, none⟩ = some (.slice A1_2 l1_2.length c1_2) := (bcl BK187.out 2).trans rfl; have hcz20_3 : w18.cell? ⟨gb187, 3, none⟩ = some (.slice A1_3 l1_3.length c1_3) := (bcl BK187.out 3).trans rfl; have hcz20_4 : w18.cell? ⟨gb187, 4, none⟩ = some (.int .i64 a1_4) := (bcl BK187.out 4).trans rfl; have hfz20_0 := bfz BK187.out 0; have hfz20_1 := bfz BK187.out 1; have hfz20_2 := bfz BK187.out 2; have hfz20_3 := bfz BK187.out 3; have hfz20_4 := bfz BK187.out 4) | ((with_reducible refine gate_callee (f := 24) rfl ?_); refine goesL_ (some 29) rfl rfl Try.func24 (by kernel_rfl) rfl #[.slice A0_1 l0_1.length c0_1, .slice A1_3 l1_3.length c1_3, .func (.func 25) #[] #[]] rfl (by (try simp only [List.map_toArray, List.map_cons, List.map_nil]); first | done | rfl | (simp only [List.length_drop, List.length_take]; rfl)) ?_; (with_reducible refine (withoutInt.calls _ _ l0_1 _ _ l1_3 t194 t195 _ ?side1 ?side2 ?side3 ?side4 A6.out).mono ?_); (case side1 => repeat (first | exact (Kd.C_below HR0_1.out HB.out) | (with_reducible refine Kd.C_alloc ?_ _) | (with_reducible refine Kd.C_drewN ?_ _) | (with_reducible refine Kd.C_drew ?_))); (case side2 => exact HC0_1.out); (case side3 => repeat (first | exact (Kd.C_below HR1_3.out HB.out) | (with_reducible refine Kd.C_alloc ?_ _) | (with_reducible refine Kd.C_drewN ?_ _) | (with_reducible refine Kd.C_drew ?_))); (case side4 => exact HC1_3.out); rintro e w21 ⟨v196, rfl, ho0, hb⟩; refine ⟨_, rfl, ?_⟩; have n0_ := Ad.mk (Kd.R_below (by (with_reducible repeat (first | apply Kd.R_alloc | apply Kd.R_drewN | apply Kd.R_drew)); exact HO193.out) hb); have n1_ := Ad.mk (Kd.R_lower ho0 (blz (by repeat (first | (with_reducible first | exact HB.out | apply blA | apply blN | apply blD | refine blS ?_ GE186.out | refine blS ?_ GE187.out | refine blS ?_ GE188.out) | exact HB.out)))); have n2_ := Ad.mk (bbl (g := gb186) (o := .cells #[.slice A0_0 l0_0.length c0_0, .slice A0_1 l0_1.length c0_1, .int .i64 a0_2] 25 (0, 0)) (by (with_reducible repeat (first | refine bdN ?_ _ | refine bdD ?_ | refine blk_alloc ?_ _)); exact BK186.out) hb); have n3_ := Ad.mk (bbl (g := gb187) (o := .cells #[.slice A1_0 l1_0.length c1_0, .slice A1_1 l1_1.length c1_1, .slice A1_2 l1_2.length c1_2, .slice A1_3 l1_3.length c1_3, .int .i64 a1_4] 32 (0, 0)) (by (with_reducible repeat (first | refine bdN ?_ _ | refine bdD ?_ | refine blk_alloc ?_ _)); exact BK187.out) hb); have n4_ := Ad.mk (bbl (g := gb188) (o := .cells #[.slice none 0 0, .slice none 0 0, .int .i64 0] 25 (0, 0)) (by (with_reducible repeat (first | refine bdN ?_ _ | refine bdD ?_ | refine blk_alloc ?_ _)); exact BK188.out) hb); have n5_ := Ad.mk (bls (by repeat (first | (with_reducible first | exact HB.out | apply blA | apply blN | apply blD | refine blS ?_ GE186.out | refine blS ?_ GE187.out | refine blS ?_ GE188.out) | exact HB.out)) hb); clear HO193; clear BK186; clear BK187; clear BK188; clear HB; have HO193 := n0_; have HO197 := n1_; have BK186 := n2_; have BK187 := n3_; have BK188 := n4_; have HB := n5_; clear n0_ n1_ n2_ n3_ n4_ n5_; (try clear hb); (try clear hb2); (try clear hk); (try clear hi); (try clear ho0)))
  (try simp only [Act.put, List.setIfInBounds_toArray, List.set_cons_zero, List.set_cons_succ])
  go_cut [37] (fun v37 wc => ∃ (kq : Nat) (x37_6 : Bool), v37 = .bool x37_6 ∧ Ad (version_Apply.j0 kq t190 t194 x37_6 l0_0 l0_1 a0_2 l1_0 l1_1 l1_2 l1_3 a1_4 = some (r1, r2, r3, r4)) ∧ Ad (kq ≤ k) ∧ Ad (Kd.R k35 35 wc w.heap.size (fun _ => True) v192 t190) ∧ Ad (Kd.R (Kd.int .i64) 3 wc w.heap.size (fun _ => True) v196 t194) ∧ Ad (wc.heap[gb186]? = some (.cells #[(.slice A0_0 l0_0.length c0_0), (.slice A0_1 l0_1.length c0_1), .int .i64 a0_2] 25 (0, 0))) ∧ Ad (wc.heap[gb187]? = some (.cells #[(.slice A1_0 l1_0.length c1_0), (.slice A1_1 l1_1.length c1_1), (.slice A1_2 l1_2.length c1_2), (.slice A1_3 l1_3.length c1_3), .int .i64 a1_4] 32 (0, 0))) ∧ Ad (wc.heap[gb188]? = some (.cells #[(.slice none 0 0), (.slice none 0 0), .int .i64 0] 25 (0, 0))) ∧ Ad (Below w.heap.size w wc))
  case first =>
   have H := HC7.out
   clear HC7
   by_cases c22 : t191 = true
   ·subst c22
    have H1 : (version_Apply.j0 k t190 t194 (!t195) l0_0 l0_1 a0_2 l1_0 l1_1 l1_2 l1_3 a1_4) = some (r1, r2, r3, r4) := by rw [if_pos rfl] at H; exact H
    clear H
    have H := H1
    clear H1
    have H' := Ad.mk H
    clear H
    go_wp2
    go_meet
    case rel => exact ⟨_, (!t195), (by first | rfl | (simp; done) | (simp [*]; done)), H', ⟨by first | omega | exact Nat.le_refl _⟩, ⟨by (with_reducible repeat (first | apply Kd.R_alloc | apply Kd.R_drewN | apply Kd.R_drew)); exact HO193.out⟩, ⟨by (with_reducible repeat (first | apply Kd.R_alloc | apply Kd.R_drewN | apply Kd.R_drew)); exact HO197.out⟩, ⟨by (with_reducible repeat (first | refine bdN ?_ _ | refine bdD ?_ | refine blk_alloc ?_ _)); exact BK186.out⟩, ⟨by (with_reducible repeat (first | refine bdN ?_ _ | refine bdD ?_ | refine blk_alloc ?_ _)); exact BK187.out⟩, ⟨by (with_reducible repeat (first | refine bdN ?_ _ | refine bdD ?_ | refine blk_alloc ?_ _)); exact BK188.out⟩, ⟨by repeat (first | (with_reducible first | exact HB.out | apply blA | apply blN | apply blD | refine blS ?_ GE186.out | refine blS ?_ GE187.out | refine blS ?_ GE188.out) | exact HB.out)⟩⟩
   ·replace c22 := Bool.eq_false_iff.mpr c22
    subst c22
    have H1 : (version_Apply.j0 k t190 t194 true l0_0 l0_1 a0_2 l1_0 l1_1 l1_2 l1_3 a1_4) = some (r1, r2, r3, r4) := by rw [if_neg (show ¬ (false = true) by decide)] at H; exact H
    clear H
    have H := H1
    clear H1
    have H' := Ad.mk H
    clear H
    go_wp2
    go_meet
    case rel => exact ⟨_, (true), (by first | rfl | (simp; done) | (simp [*]; done)), H', ⟨by first | omega | exact Nat.le_refl _⟩, ⟨by (with_reducible repeat (first | apply Kd.R_alloc | apply Kd.R_drewN | apply Kd.R_drew)); exact HO193.out⟩, ⟨by (with_reducible repeat (first | apply Kd.R_alloc | apply Kd.R_drewN | apply Kd.R_drew)); exact HO197.out⟩, ⟨by (with_reducible repeat (first | refine bdN ?_ _ | refine bdD ?_ | refine blk_alloc ?_ _)); exact BK186.out⟩, ⟨by (with_reducible repeat (first | refine bdN ?_ _ | refine bdD ?_ | refine blk_alloc ?_ _)); exact BK187.out⟩, ⟨by (with_reducible repeat (first | refine bdN ?_ _ | refine bdD ?_ | refine blk_alloc ?_ _)); exact BK188.out⟩, ⟨by repeat (first | (with_reducible first | exact HB.out | apply blA | apply blN | apply blD | refine blS ?_ GE186.out | refine blS ?_ GE187.out | refine blS ?_ GE188.out) | exact HB.out)⟩⟩
  case rest =>
   clear HC7
   try clear c4
   try clear c22
   try clear hcz13_0
   try clear hcz13_1
   try clear hcz13_2
   try clear hcz15_0
   try clear hcz15_1
   try clear hcz15_2
   try clear hcz17_0
   try clear hcz17_1
   try clear hcz17_2
   try clear hcz17_3
   try clear hcz17_4
   try clear hcz19_0
   try clear hcz19_1
   try clear hcz19_2
   try clear hcz20_0
   try clear hcz20_1
   try clear hcz20_2
   try clear hcz20_3
   try clear hcz20_4
   try clear hfz13_0
   try clear hfz13_1
   try clear hfz13_2
   try clear hfz15_0
   try clear hfz15_1
   try clear hfz15_2
   try clear hfz17_0
   try clear hfz17_1
   try clear hfz17_2
   try clear hfz17_3
   try clear hfz17_4
   try clear hfz19_0
   try clear hfz19_1
   try clear hfz19_2
   try clear hfz20_0
   try clear hfz20_1
   try clear hfz20_2
   try clear hfz20_3
   try clear hfz20_4
   obtain ⟨kq, x37_6, rfl, HA, HJ6, HO_6, HO_8, BK186, BK187, BK188, HB⟩ := hcut
   cases kq with
   | zero => exact absurd HA.out (by simp [version_Apply.j0])
   | succ kj6 =>
    have H := HA.out
    clear HA
    simp only [version_Apply.j0] at H
    by_cases c23 : x37_6 = true
    ·subst c23
     have H1 : (some (([] : List (S35)), ([] : List Int), 0, some 8)) = some (r1, r2, r3, r4) := by rw [if_pos rfl] at H; exact H
     clear H
     have H := H1
     clear H1
     simp only [Option.some.injEq, Prod.mk.injEq] at H
     obtain ⟨rfl, rfl, rfl, rfl⟩ := H
     have hnb24 := NB188_186.out
     have hnc24 := NB186_188.out
     have hnb25 := NB188_187.out
     have hnc25 := NB187_188.out
     have hcz26_0 : wc.cell? ⟨gb188, 0, none⟩ = some (.slice none 0 0) := (bcl BK188.out 0).trans rfl
     have hcz26_1 : wc.cell? ⟨gb188, 1, none⟩ = some (.slice none 0 0) := (bcl BK188.out 1).trans rfl
     have hcz26_2 : wc.cell? ⟨gb188, 2, none⟩ = some (.int .i64 0) := (bcl BK188.out 2).trans rfl
     have hfz26_0 := bfz BK188.out 0
     have hfz26_1 := bfz BK188.out 1
     have hfz26_2 := bfz BK188.out 2
     go_wp2
     refine bodyPost_ret (results_ct rfl _ _ gb188 25 #[.slice none 0 0, .slice none 0 0, .int .i64 0] (0, 0) _ rfl (by (with_reducible repeat (first | refine bdN ?_ _ | refine bdD ?_ | refine blk_alloc ?_ _)); refine blk_put (cs := #[.slice none 0 0, .slice none 0 0, .int .i64 0]) ?_ 2 _ rfl; (with_reducible repeat (first | refine bdN ?_ _ | refine bdD ?_ | refine blk_alloc ?_ _)); refine blk_put (cs := #[.slice none 0 0, .slice none 0 0, .int .i64 0]) ?_ 1 _ rfl; (with_reducible repeat (first | refine bdN ?_ _ | refine bdD ?_ | refine blk_alloc ?_ _)); refine blk_put (cs := #[.slice none 0 0, .slice none 0 0, .int .i64 0]) ?_ 0 _ rfl; (with_reducible repeat (first | refine bdN ?_ _ | refine bdD ?_ | refine blk_alloc ?_ _)); exact BK188.out) Try.underlying25 rfl (by kernel_rfl)) rfl ?_
     exact ⟨_, _, by first | rfl | (simp [errW_none, errW_some] <;> rfl) | (simp [*, errW_none, errW_some] <;> rfl), by first | exact Kd.R_nil _ _ _ _ _ | exact Kd.N_nil _ _ _ _ _ | exact Kd.V_nil _ _ _ _ _ | exact Kd.Q_nil _ _ _ _ _ | exact Kd.S_nil _ _ _ _ _, by first | exact Kd.R_nil _ _ _ _ _ | exact Kd.N_nil _ _ _ _ _ | exact Kd.V_nil _ _ _ _ _ | exact Kd.Q_nil _ _ _ _ _ | exact Kd.S_nil _ _ _ _ _, by repeat (first | (with_reducible first | exact HB.out | apply blA | apply blN | apply blD | refine blS ?_ GE186.out | refine blS ?_ GE187.out | refine blS ?_ GE188.out) | exact HB.out)⟩
    ·replace c23 := Bool.eq_false_iff.mpr c23
     subst c23
     have H1 : (if t190.length + l1_0.length < 2513169434916 then (if t194.length + l1_2.length < 17592186044416 then ((some (t194 ++ l1_2 : List Int)).bind fun y201 => ((api_Meta_26.f kj6 (t190 ++ l1_0)).bind fun t205 => ((version_ids.f kj6 t205 y201 (mx a0_2 a1_4)).bind fun t206 => ((version_twice.f t206).bind fun t209 => (if t209 = true then (some (([] : List (S35)), ([] : List Int), 0, some 9)) else ((version_Right.f kj6 t205 y201 (mx a0_2 a1_4)).bind fun t210 => (if t210 = true then (some (t205, y201, mx a0_2 a1_4, none)) else (some (([] : List (S35)), ([] : List Int), 0, some 1))))))))) else (none)) else (none)) = some (r1, r2, r3, r4) := by rw [if_neg (show ¬ (false = true) by decide)] at H; exact H
     clear H
     have H := H1
     clear H1
     by_cases c27 : t190.length + l1_0.length < 2513169434916
     ·rw [if_pos c27] at H
      have LMc27 := Ad.mk c27
      clear c27
      obtain ⟨y198, hy198⟩ : ∃ y_ : List (S35), y_ = (t190 ++ l1_0) := ⟨_, rfl⟩
      replace H : (if t194.length + l1_2.length < 17592186044416 then ((some (t194 ++ l1_2 : List Int)).bind fun y201 => ((api_Meta_26.f kj6 y198).bind fun t205 => ((version_ids.f kj6 t205 y201 (mx a0_2 a1_4)).bind fun t206 => ((version_twice.f t206).bind fun t209 => (if t209 = true then (some (([] : List (S35)), ([] : List Int), 0, some 9)) else ((version_Right.f kj6 t205 y201 (mx a0_2 a1_4)).bind fun t210 => (if t210 = true then (some (t205, y201, mx a0_2 a1_4, none)) else (some (([] : List (S35)), ([] : List Int), 0, some 1))))))))) else (none)) = some (r1, r2, r3, r4) := by first | (rw [hy198]; with_reducible exact H) | (have H2_ := (Option.bind_some _ _).symm.trans H; rw [hy198]; with_reducible exact H2_) | (have H2_ := (Option.bind_some _ _).symm.trans H; with_reducible exact H2_) | with_reducible exact H | (rw [hy198]; exact H) | exact H
      have Ny198 := Ad.mk hy198
      clear hy198
      by_cases c28 : t194.length + l1_2.length < 17592186044416
      ·rw [if_pos c28] at H
       have LMc28 := Ad.mk c28
       clear c28
       obtain ⟨y201, hy201⟩ : ∃ y_ : List Int, y_ = (t194 ++ l1_2) := ⟨_, rfl⟩
       replace H : ((api_Meta_26.f kj6 y198).bind fun t205 => ((version_ids.f kj6 t205 y201 (mx a0_2 a1_4)).bind fun t206 => ((version_twice.f t206).bind fun t209 => (if t209 = true then (some (([] : List (S35)), ([] : List Int), 0, some 9)) else ((version_Right.f kj6 t205 y201 (mx a0_2 a1_4)).bind fun t210 => (if t210 = true then (some (t205, y201, mx a0_2 a1_4, none)) else (some (([] : List (S35)), ([] : List Int), 0, some 1)))))))) = some (r1, r2, r3, r4) := by first | (rw [hy201]; with_reducible exact H) | (have H2_ := (Option.bind_some _ _).symm.trans H; rw [hy201]; with_reducible exact H2_) | (have H2_ := (Option.bind_some _ _).symm.trans H; with_reducible exact H2_) | with_reducible exact H | (rw [hy201]; exact H) | exact H
       have Ny201 := Ad.mk hy201
       clear hy201
       obtain ⟨ji29, hji29⟩ : ∃ j_ : Int, (mx a0_2 a1_4) = j_ := ⟨_, rfl⟩
       replace H : ((api_Meta_26.f kj6 y198).bind fun t205 => ((version_ids.f kj6 t205 y201 (ji29)).bind fun t206 => ((version_twice.f t206).bind fun t209 => (if t209 = true then (some (([] : List (S35)), ([] : List Int), 0, some 9)) else ((version_Right.f kj6 t205 y201 (ji29)).bind fun t210 => (if t210 = true then (some (t205, y201, ji29, none)) else (some (([] : List (S35)), ([] : List Int), 0, some 1)))))))) = some (r1, r2, r3, r4) := by first | (rw [hji29] at H; exact H) | (simp only [hji29] at H ⊢; exact H)
       have hji29_ : (if a0_2 < a1_4 then a1_4 else a0_2) = ji29 := hji29
       replace H := Option.bind_eq_some_iff.mp H
       obtain ⟨t205, A300, H⟩ := H
       replace H : ((version_ids.f kj6 t205 y201 (ji29)).bind fun t206 => ((version_twice.f t206).bind fun t209 => (if t209 = true then (some (([] : List (S35)), ([] : List Int), 0, some 9)) else ((version_Right.f kj6 t205 y201 (ji29)).bind fun t210 => (if t210 = true then (some (t205, y201, ji29, none)) else (some (([] : List (S35)), ([] : List Int), 0, some 1))))))) = some (r1, r2, r3, r4) := H
       have A30 := Ad.mk A300
       clear A300
       replace H := Option.bind_eq_some_iff.mp H
       obtain ⟨t206, A310, H⟩ := H
       replace H : ((version_twice.f t206).bind fun t209 => (if t209 = true then (some (([] : List (S35)), ([] : List Int), 0, some 9)) else ((version_Right.f kj6 t205 y201 (ji29)).bind fun t210 => (if t210 = true then (some (t205, y201, ji29, none)) else (some (([] : List (S35)), ([] : List Int), 0, some 1)))))) = some (r1, r2, r3, r4) := H
       have A31 := Ad.mk A310
       clear A310
       replace H := Option.bind_eq_some_iff.mp H
       obtain ⟨t209, A320, H⟩ := H
       replace H : (if t209 = true then (some (([] : List (S35)), ([] : List Int), 0, some 9)) else ((version_Right.f kj6 t205 y201 (ji29)).bind fun t210 => (if t210 = true then (some (t205, y201, ji29, none)) else (some (([] : List (S35)), ([] : List Int), 0, some 1))))) = some (r1, r2, r3, r4) := H
       have A32 := Ad.mk A320
       clear A320
       by_cases c33 : t209 = true
       ·subst c33
        have H1 : (some (([] : List (S35)), ([] : List Int), 0, some 9)) = some (r1, r2, r3, r4) := by rw [if_pos rfl] at H; exact H
        clear H
        have H := H1
        clear H1
        simp only [Option.some.injEq, Prod.mk.injEq] at H
        obtain ⟨rfl, rfl, rfl, rfl⟩ := H
        obtain ⟨Ao34, co34, eo34⟩ := Kd.R_slice HO_6.out
        subst eo34
        obtain ⟨Ao35, co35, eo35⟩ := Kd.R_slice HO_8.out
        subst eo35
        try go_wp2
        have n0_ := Ad.mk (Kd.R_drew HO_6.out)
        have n1_ := Ad.mk (Kd.R_drew HO_8.out)
        have n2_ := Ad.mk (bdD BK186.out)
        have n3_ := Ad.mk (bdD BK187.out)
        have n4_ := Ad.mk (bdD BK188.out)
        have n5_ := Ad.mk (blD HB.out)
        clear HO_6
        clear HO_8
        clear BK186
        clear BK187
        clear BK188
        clear HB
        have HO_6 := n0_
        have HO_8 := n1_
        have BK186 := n2_
        have BK187 := n3_
        have BK188 := n4_
        have HB := n5_
        clear n0_ n1_ n2_ n3_ n4_ n5_
        refine start_ (n := 16) (S := fun w' => w'.cell? ⟨gb187, 0, none⟩ = some (.slice A1_0 l1_0.length c1_0) ∧ w'.cell? ⟨gb187, 1, none⟩ = some (.slice A1_1 l1_1.length c1_1) ∧ w'.cell? ⟨gb187, 2, none⟩ = some (.slice A1_2 l1_2.length c1_2) ∧ w'.cell? ⟨gb187, 3, none⟩ = some (.slice A1_3 l1_3.length c1_3) ∧ w'.cell? ⟨gb187, 4, none⟩ = some (.int .i64 a1_4) ∧ w'.cell? ⟨gb186, 0, none⟩ = some (.slice A0_0 l0_0.length c0_0) ∧ w'.cell? ⟨gb186, 1, none⟩ = some (.slice A0_1 l0_1.length c0_1) ∧ w'.cell? ⟨gb186, 2, none⟩ = some (.int .i64 a0_2)) (ds := []) #[false, false, false, false, false, false, false, false, false, false, false, false, false, false, false, false] (by kernel_rfl) rfl rfl ⟨(bcl BK187.out 0).trans rfl, (bcl BK187.out 1).trans rfl, (bcl BK187.out 2).trans rfl, (bcl BK187.out 3).trans rfl, (bcl BK187.out 4).trans rfl, (bcl BK186.out 0).trans rfl, (bcl BK186.out 1).trans rfl, (bcl BK186.out 2).trans rfl⟩ (fun hHeld => ?_); refine with_tabW version_Apply.tab7 version_Apply.bits7 (fun HT_ HW_ => ?_)
        generalize wc.drew = w36 at HO_6 HO_8 BK186 BK187 BK188 HB hHeld ⊢
        refine pure_ (i := 0) (N := some 40) (v := ?_) (a' := ?_) #[true, false, false, false, false, false, false, false, false, false, false, false, false, false, false, false] rfl rfl (any_of HT_.out (by kernel_rfl)) (fun _ _ _ h => h) (Or.inl ⟨by rfl, ?_⟩) ?_ ?_
        rotate_left
        ·intro w'
         go_simp
         with_reducible rfl
        rotate_left
        ·simp only [Act.put, List.setIfInBounds_toArray, List.set_cons_zero, List.set_cons_succ, i64_w, i32_w]
         rfl
        refine pure_ (i := 1) (N := some 41) (v := ?_) (a' := ?_) #[true, true, false, false, false, false, false, false, false, false, false, false, false, false, false, false] rfl rfl (any_of HT_.out (by kernel_rfl)) (fun _ _ _ h => h) (Or.inl ⟨by rfl, ?_⟩) ?_ ?_
        rotate_left
        ·intro w'
         go_simp
         with_reducible rfl
        rotate_left
        ·simp only [Act.put, List.setIfInBounds_toArray, List.set_cons_zero, List.set_cons_succ, i64_w, i32_w]
         rfl
        refine pure_ (i := 4) (N := some 44) (v := ?_) (a' := ?_) #[true, true, false, false, true, false, false, false, false, false, false, false, false, false, false, false] rfl rfl (any_of HT_.out (by kernel_rfl)) (fun _ _ _ h => h) (Or.inl ⟨by rfl, ?_⟩) ?_ ?_
        rotate_left
        ·intro w'
         go_simp
         with_reducible rfl
        rotate_left
        ·simp only [Act.put, List.setIfInBounds_toArray, List.set_cons_zero, List.set_cons_succ, i64_w, i32_w]
         rfl
        refine pure_ (i := 5) (N := some 45) (v := ?_) (a' := ?_) #[true, true, false, false, true, true, false, false, false, false, false, false, false, false, false, false] rfl rfl (any_of HT_.out (by kernel_rfl)) (fun _ _ _ h => h) (Or.inl ⟨by rfl, ?_⟩) ?_ ?_
        rotate_left
        ·intro w'
         go_simp
         with_reducible rfl
        rotate_left
        ·simp only [Act.put, List.setIfInBounds_toArray, List.set_cons_zero, List.set_cons_succ, i64_w, i32_w]
         rfl
        refine pure_ (i := 8) (N := some 48) (v := ?_) (a' := ?_) #[true, true, false, false, true, true, false, false, true, false, false, false, false, false, false, false] rfl rfl (any_of HT_.out (by kernel_rfl)) (fun _ _ _ h => h) (Or.inl ⟨by rfl, ?_⟩) ?_ ?_
        rotate_left
        ·intro w'
         go_simp
         with_reducible rfl
        rotate_left
        ·simp only [Act.put, List.setIfInBounds_toArray, List.set_cons_zero, List.set_cons_succ, i64_w, i32_w]
         rfl
        refine pure_ (i := 10) (N := some 50) (v := ?_) (a' := ?_) #[true, true, false, false, true, true, false, false, true, false, true, false, false, false, false, false] rfl rfl (any_of HT_.out (by kernel_rfl)) (fun _ _ _ h => h) (Or.inl ⟨by rfl, ?_⟩) ?_ ?_
        rotate_left
        ·intro w'
         go_simp
         with_reducible rfl
        rotate_left
        ·simp only [Act.put, List.setIfInBounds_toArray, List.set_cons_zero, List.set_cons_succ, i64_w, i32_w]
         rfl
        refine take_ (i := 2) (N := some 42) (v := ?_) (a' := ?_) #[true, true, true, false, true, true, false, false, true, false, true, false, false, false, false, false] rfl rfl (take_ofW HT_.out HW_.out (by kernel_rfl)) (fun _ _ _ h => h) (Or.inl ⟨by rfl, ?_⟩) hHeld ?_ ?_
        rotate_left
        ·rintro w' ⟨s0, s1, s2, s3, s4, s5, s6, s7⟩
         go_simp
         with_reducible rfl
        rotate_left
        ·simp only [Act.put, List.setIfInBounds_toArray, List.set_cons_zero, List.set_cons_succ, i64_w, i32_w]
         rfl
        refine take_ (i := 6) (N := some 46) (v := ?_) (a' := ?_) #[true, true, true, false, true, true, true, false, true, false, true, false, false, false, false, false] rfl rfl (take_ofW HT_.out HW_.out (by kernel_rfl)) (fun _ _ _ h => h) (Or.inl ⟨by rfl, ?_⟩) hHeld ?_ ?_
        rotate_left
        ·rintro w' ⟨s0, s1, s2, s3, s4, s5, s6, s7⟩
         go_simp
         with_reducible rfl
        rotate_left
        ·simp only [Act.put, List.setIfInBounds_toArray, List.set_cons_zero, List.set_cons_succ, i64_w, i32_w]
         rfl
        refine take_ (i := 9) (N := some 49) (v := ?_) (a' := ?_) #[true, true, true, false, true, true, true, false, true, true, true, false, false, false, false, false] rfl rfl (take_ofW HT_.out HW_.out (by kernel_rfl)) (fun _ _ _ h => h) (Or.inl ⟨by rfl, ?_⟩) hHeld ?_ ?_
        rotate_left
        ·rintro w' ⟨s0, s1, s2, s3, s4, s5, s6, s7⟩
         go_simp
         with_reducible rfl
        rotate_left
        ·simp only [Act.put, List.setIfInBounds_toArray, List.set_cons_zero, List.set_cons_succ, i64_w, i32_w]
         rfl
        refine take_ (i := 11) (N := some 51) (v := ?_) (a' := ?_) #[true, true, true, false, true, true, true, false, true, true, true, true, false, false, false, false] rfl rfl (take_ofW HT_.out HW_.out (by kernel_rfl)) (fun _ _ _ h => h) (Or.inl ⟨by rfl, ?_⟩) hHeld ?_ ?_
        rotate_left
        ·rintro w' ⟨s0, s1, s2, s3, s4, s5, s6, s7⟩
         go_simp
         with_reducible rfl
        rotate_left
        ·simp only [Act.put, List.setIfInBounds_toArray, List.set_cons_zero, List.set_cons_succ, i64_w, i32_w]
         rfl
        refine pure_ (i := 12) (N := some 52) (v := ?_) (a' := ?_) #[true, true, true, false, true, true, true, false, true, true, true, true, true, false, false, false] rfl rfl (any_of HT_.out (by kernel_rfl)) (fun _ _ _ h => h) (Or.inl ⟨by rfl, ?_⟩) ?_ ?_
        rotate_left
        ·intro w'
         go_simp
         with_reducible rfl
        rotate_left
        ·simp only [Act.put, List.setIfInBounds_toArray, List.set_cons_zero, List.set_cons_succ, i64_w, i32_w]
         rfl
        refine join_ (σ := Value × Value × Nat) 1 #[true, true, true, true, true, true, true, true, true, true, true, true, true, true, true, false] (fun s_ => [(43, s_.1), (47, s_.2.1), (10, .pointer (some ⟨s_.2.2, 0, none⟩)), (53, .agg #[s_.1, s_.2.1, .int .i64 ji29])]) (fun s_ w' => (w'.cell? ⟨gb187, 0, none⟩ = some (.slice A1_0 l1_0.length c1_0) ∧ w'.cell? ⟨gb187, 1, none⟩ = some (.slice A1_1 l1_1.length c1_1) ∧ w'.cell? ⟨gb187, 2, none⟩ = some (.slice A1_2 l1_2.length c1_2) ∧ w'.cell? ⟨gb187, 3, none⟩ = some (.slice A1_3 l1_3.length c1_3) ∧ w'.cell? ⟨gb187, 4, none⟩ = some (.int .i64 a1_4) ∧ w'.cell? ⟨gb186, 0, none⟩ = some (.slice A0_0 l0_0.length c0_0) ∧ w'.cell? ⟨gb186, 1, none⟩ = some (.slice A0_1 l0_1.length c0_1) ∧ w'.cell? ⟨gb186, 2, none⟩ = some (.int .i64 a0_2)) ∧ (Kd.R k35 35 w' w.heap.size (fun _ => True) s_.1 y198) ∧ (Kd.R (Kd.int .i64) 3 w' w.heap.size (fun _ => True) s_.2.1 y201) ∧ (w'.heap[gb186]? = some (.cells #[.slice A0_0 l0_0.length c0_0, .slice A0_1 l0_1.length c0_1, .int .i64 a0_2] 25 (0, 0))) ∧ (w'.heap[gb187]? = some (.cells #[.slice A1_0 l1_0.length c1_0, .slice A1_1 l1_1.length c1_1, .slice A1_2 l1_2.length c1_2, .slice A1_3 l1_3.length c1_3, .int .i64 a1_4] 32 (0, 0))) ∧ (w'.heap[gb188]? = some (.cells #[.slice none 0 0, .slice none 0 0, .int .i64 0] 25 (0, 0))) ∧ (w'.heap[s_.2.2]? = some (.cells #[.slice none 0 0, .slice none 0 0, .int .i64 0] 25 (0, 0))) ∧ (w.heap.size ≤ s_.2.2) ∧ (w.heap.size ≤ s_.2.2) ∧ (gb186 ≠ s_.2.2) ∧ (s_.2.2 ≠ gb186) ∧ (gb187 ≠ s_.2.2) ∧ (s_.2.2 ≠ gb187) ∧ (gb188 ≠ s_.2.2) ∧ (s_.2.2 ≠ gb188) ∧ (Below w.heap.size w w')) ?_ ?_
        rotate_left
        ·intro hCont
         refine two_ (i := 3) (j := 14) (Ni := some 43) (Nj := some 10) #[true, true, true, true, true, true, true, false, true, true, true, true, true, false, false, false] #[true, true, true, false, true, true, true, false, true, true, true, true, true, false, true, false] rfl rfl rfl rfl (two_of HT_.out (by kernel_rfl)) (by decide) (by decide) (fun K hK => ?_) (fun K hK => ?_)
         ·skip
          refine Kd.R_append_rows_step k35 (w0 := w) w.heap.size (by rfl) (.tmp 40) (.tmp 42) 22 35 (.agg #[(.int .i64 0), (.int .i64 0), (.string ⟨#[]⟩), (.string ⟨#[]⟩), (.int .i64 0)]) 56 rfl Try.underlying22 info35 rfl (by decide) (by omega) (.slice Ao34 t190.length co34) t190 l1_0 _ _ _ (fun _ => True) (fun _ => False) rfl rfl ?aO ?aR (fun _ _ h => h) (fun _ h => h.elim) ?aF ?aB ?aS ?aL ?_
          (case aR => repeat (first | exact (Kd.C_below HR1_0.out HB.out) | (with_reducible refine Kd.C_alloc ?_ _) | (with_reducible refine Kd.C_drewN ?_ _) | (with_reducible refine Kd.C_drew ?_)))
          (case aB => exact (by repeat (first | (with_reducible first | exact HB.out | apply blA | apply blN | apply blD | refine blS ?_ GE186.out | refine blS ?_ GE187.out | refine blS ?_ GE188.out) | exact HB.out)))
          (case aF => exact (fun _ _ => trivial))
          (case aO => exact (by (with_reducible repeat (first | apply Kd.R_alloc | apply Kd.R_drewN | apply Kd.R_drew)); exact HO_6.out))
          (case aS => exact (blz (by repeat (first | (with_reducible first | exact HB.out | apply blA | apply blN | apply blD | refine blS ?_ GE186.out | refine blS ?_ GE187.out | refine blS ?_ GE188.out) | exact HB.out))))
          (case aL => have := LMc27.out; omega)
          intro v199 w37 ho hb hg hat
          rw [← Ny198.out] at ho
          have n0_ := Ad.mk (Kd.R_over' (by (with_reducible repeat (first | apply Kd.R_alloc | apply Kd.R_drewN | apply Kd.R_drew)); exact HO_8.out) (Kd.R_typed (by (with_reducible repeat (first | apply Kd.R_alloc | apply Kd.R_drewN | apply Kd.R_drew)); exact HO_6.out)) (by decide) hg)
          have n1_ := Ad.mk (blk_grown (g := gb186) (o := .cells #[.slice A0_0 l0_0.length c0_0, .slice A0_1 l0_1.length c0_1, .int .i64 a0_2] 25 (0, 0)) (by (with_reducible repeat (first | refine bdN ?_ _ | refine bdD ?_ | refine blk_alloc ?_ _)); exact BK186.out) hg (Kd.R_ne HO_6.out BK186.out (by decide)))
          have n2_ := Ad.mk (blk_grown (g := gb187) (o := .cells #[.slice A1_0 l1_0.length c1_0, .slice A1_1 l1_1.length c1_1, .slice A1_2 l1_2.length c1_2, .slice A1_3 l1_3.length c1_3, .int .i64 a1_4] 32 (0, 0)) (by (with_reducible repeat (first | refine bdN ?_ _ | refine bdD ?_ | refine blk_alloc ?_ _)); exact BK187.out) hg (Kd.R_ne HO_6.out BK187.out (by decide)))
          have n3_ := Ad.mk (blk_grown (g := gb188) (o := .cells #[.slice none 0 0, .slice none 0 0, .int .i64 0] 25 (0, 0)) (by (with_reducible repeat (first | refine bdN ?_ _ | refine bdD ?_ | refine blk_alloc ?_ _)); exact BK188.out) hg (Kd.R_ne HO_6.out BK188.out (by decide)))
          have n4_ := Ad.mk (hb)
          have n5_ := Ad.mk (ho)
          clear HO_8
          clear BK186
          clear BK187
          clear BK188
          clear HB
          clear HO_6
          have HO_8 := n0_
          have BK186 := n1_
          have BK187 := n2_
          have BK188 := n3_
          have HB := n4_
          have HO200 := n5_
          clear n0_ n1_ n2_ n3_ n4_ n5_
          clear ho hb hg hat
          refine hK.out _ _ ⟨(bcl BK187.out 0).trans rfl, (bcl BK187.out 1).trans rfl, (bcl BK187.out 2).trans rfl, (bcl BK187.out 3).trans rfl, (bcl BK187.out 4).trans rfl, (bcl BK186.out 0).trans rfl, (bcl BK186.out 1).trans rfl, (bcl BK186.out 2).trans rfl⟩ (fun hHeld => ?_)
          clear hK K
          refine norm_ (a' := ?_) ?_ ?_
          rotate_left
          ·show Act.put _ (some 43) _ = _
           simp only [Act.put, List.setIfInBounds_toArray, List.set_cons_zero, List.set_cons_succ, i64_w, i32_w]
           rfl
          refine two_ (i := 7) (j := 14) (Ni := some 47) (Nj := some 10) #[true, true, true, true, true, true, true, true, true, true, true, true, true, false, false, false] #[true, true, true, true, true, true, true, false, true, true, true, true, true, false, true, false] rfl rfl rfl rfl (two_of HT_.out (by kernel_rfl)) (by decide) (by decide) (fun K hK => ?_) (fun K hK => ?_)
          ·skip
           refine Kd.R_append_rows_step (Kd.int .i64) (w0 := w) w.heap.size (by rfl) (.tmp 44) (.tmp 46) 23 3 (.int .i64 0) 8 rfl Try.underlying23 info3 rfl (by decide) (by omega) (.slice Ao35 t194.length co35) t194 l1_2 _ _ _ (fun _ => True) (fun _ => False) rfl rfl ?aO ?aR (fun _ _ h => h) (fun _ h => h.elim) ?aF ?aB ?aS ?aL ?_
           (case aR => repeat (first | exact (Kd.C_below HR1_2.out HB.out) | (with_reducible refine Kd.C_alloc ?_ _) | (with_reducible refine Kd.C_drewN ?_ _) | (with_reducible refine Kd.C_drew ?_)))
           (case aB => exact (by repeat (first | (with_reducible first | exact HB.out | apply blA | apply blN | apply blD | refine blS ?_ GE186.out | refine blS ?_ GE187.out | refine blS ?_ GE188.out) | exact HB.out)))
           (case aF => exact (fun _ _ => trivial))
           (case aO => exact (by (with_reducible repeat (first | apply Kd.R_alloc | apply Kd.R_drewN | apply Kd.R_drew)); exact HO_8.out))
           (case aS => exact (blz (by repeat (first | (with_reducible first | exact HB.out | apply blA | apply blN | apply blD | refine blS ?_ GE186.out | refine blS ?_ GE187.out | refine blS ?_ GE188.out) | exact HB.out))))
           (case aL => have := LMc28.out; omega)
           intro v202 w38 ho hb hg hat
           rw [← Ny201.out] at ho
           have n0_ := Ad.mk (blk_grown (g := gb186) (o := .cells #[.slice A0_0 l0_0.length c0_0, .slice A0_1 l0_1.length c0_1, .int .i64 a0_2] 25 (0, 0)) (by (with_reducible repeat (first | refine bdN ?_ _ | refine bdD ?_ | refine blk_alloc ?_ _)); exact BK186.out) hg (Kd.R_ne HO_8.out BK186.out (by decide)))
           have n1_ := Ad.mk (blk_grown (g := gb187) (o := .cells #[.slice A1_0 l1_0.length c1_0, .slice A1_1 l1_1.length c1_1, .slice A1_2 l1_2.length c1_2, .slice A1_3 l1_3.length c1_3, .int .i64 a1_4] 32 (0, 0)) (by (with_reducible repeat (first | refine bdN ?_ _ | refine bdD ?_ | refine blk_alloc ?_ _)); exact BK187.out) hg (Kd.R_ne HO_8.out BK187.out (by decide)))
           have n2_ := Ad.mk (blk_grown (g := gb188) (o := .cells #[.slice none 0 0, .slice none 0 0, .int .i64 0] 25 (0, 0)) (by (with_reducible repeat (first | refine bdN ?_ _ | refine bdD ?_ | refine blk_alloc ?_ _)); exact BK188.out) hg (Kd.R_ne HO_8.out BK188.out (by decide)))
           have n3_ := Ad.mk (Kd.R_over' (by (with_reducible repeat (first | apply Kd.R_alloc | apply Kd.R_drewN | apply Kd.R_drew)); exact HO200.out) (Kd.R_typed (by (with_reducible repeat (first | apply Kd.R_alloc | apply Kd.R_drewN | apply Kd.R_drew)); exact HO_8.out)) (by decide) hg)
           have n4_ := Ad.mk (hb)
           have n5_ := Ad.mk (ho)
           clear BK186
           clear BK187
           clear BK188
           clear HO200
           clear HB
           clear HO_8
           have BK186 := n0_
           have BK187 := n1_
           have BK188 := n2_
           have HO200 := n3_
           have HB := n4_
           have HO203 := n5_
           clear n0_ n1_ n2_ n3_ n4_ n5_
           clear ho hb hg hat
           obtain ⟨Ao39, co39, eo39⟩ := Kd.R_slice HO203.out
           (first | subst eo39 | (injection eo39 with f1_ f2_ f3_; have f4_ := f1_.symm; have f5_ := f3_.symm; clear f1_ f2_ f3_; subst f4_; subst f5_))
           obtain ⟨Ao40, co40, eo40⟩ := Kd.R_slice HO200.out
           (first | subst eo40 | (injection eo40 with f1_ f2_ f3_; have f4_ := f1_.symm; have f5_ := f3_.symm; clear f1_ f2_ f3_; subst f4_; subst f5_))
           refine hK.out _ _ ⟨(bcl BK187.out 0).trans rfl, (bcl BK187.out 1).trans rfl, (bcl BK187.out 2).trans rfl, (bcl BK187.out 3).trans rfl, (bcl BK187.out 4).trans rfl, (bcl BK186.out 0).trans rfl, (bcl BK186.out 1).trans rfl, (bcl BK186.out 2).trans rfl⟩ (fun hHeld => ?_)
           clear hK K
           refine norm_ (a' := ?_) ?_ ?_
           rotate_left
           ·show Act.put _ (some 47) _ = _
            simp only [Act.put, List.setIfInBounds_toArray, List.set_cons_zero, List.set_cons_succ, i64_w, i32_w]
            rfl
           refine pure_ (i := 13) (N := some 53) (v := ?_) (a' := ?_) #[true, true, true, true, true, true, true, true, true, true, true, true, true, true, false, false] rfl rfl (any_of HT_.out (by kernel_rfl)) (fun _ _ _ h => h) (Or.inl ⟨by rfl, ?_⟩) ?_ ?_
           rotate_left
           ·intro w'
            go_simp
            with_reducible rfl
           rotate_left
           ·simp only [Act.put, List.setIfInBounds_toArray, List.set_cons_zero, List.set_cons_succ, i64_w, i32_w]
            rfl
           refine one_ (i := 14) (N := some 10) #[true, true, true, true, true, true, true, true, true, true, true, true, true, true, true, false] rfl rfl (one_of HT_.out (by kernel_rfl)) (by decide) (fun K hK => ?_)
           refine box_step ?hg (N := 10) ?hd (cs := #[.slice none 0 0, .slice none 0 0, .int .i64 0]) (t := 25) ?hr ?_; (case hd => rfl); (case hg => rfl); (case hr => first | (go_simp; done) | (go_simp; rfl))
           intro gb204 hg w41 hbox hb
           have n0_ := Ad.mk (Kd.R_below (by (with_reducible repeat (first | apply Kd.R_alloc | apply Kd.R_drewN | apply Kd.R_drew)); exact HO200.out) hb)
           have n1_ := Ad.mk (Kd.R_below (by (with_reducible repeat (first | apply Kd.R_alloc | apply Kd.R_drewN | apply Kd.R_drew)); exact HO203.out) hb)
           have n2_ := Ad.mk (bbl (g := gb186) (o := .cells #[.slice A0_0 l0_0.length c0_0, .slice A0_1 l0_1.length c0_1, .int .i64 a0_2] 25 (0, 0)) (by (with_reducible repeat (first | refine bdN ?_ _ | refine bdD ?_ | refine blk_alloc ?_ _)); exact BK186.out) hb)
           have n3_ := Ad.mk (bbl (g := gb187) (o := .cells #[.slice A1_0 l1_0.length c1_0, .slice A1_1 l1_1.length c1_1, .slice A1_2 l1_2.length c1_2, .slice A1_3 l1_3.length c1_3, .int .i64 a1_4] 32 (0, 0)) (by (with_reducible repeat (first | refine bdN ?_ _ | refine bdD ?_ | refine blk_alloc ?_ _)); exact BK187.out) hb)
           have n4_ := Ad.mk (bbl (g := gb188) (o := .cells #[.slice none 0 0, .slice none 0 0, .int .i64 0] 25 (0, 0)) (by (with_reducible repeat (first | refine bdN ?_ _ | refine bdD ?_ | refine blk_alloc ?_ _)); exact BK188.out) hb)
           have n5_ := Ad.mk (bls (by repeat (first | (with_reducible first | exact HB.out | apply blA | apply blN | apply blD | refine blS ?_ GE186.out | refine blS ?_ GE187.out | refine blS ?_ GE188.out) | exact HB.out)) hb)
           have n6_ := Ad.mk (hbox)
           have n7_ := Ad.mk ((by rw [hg]; exact (blz (by repeat (first | (with_reducible first | exact HB.out | apply blA | apply blN | apply blD | refine blS ?_ GE186.out | refine blS ?_ GE187.out | refine blS ?_ GE188.out) | exact HB.out))) : w.heap.size ≤ gb204))
           have n8_ := Ad.mk ((by rw [hg]; exact (blz (by repeat (first | (with_reducible first | exact HB.out | apply blA | apply blN | apply blD | refine blS ?_ GE186.out | refine blS ?_ GE187.out | refine blS ?_ GE188.out) | exact HB.out))) : w.heap.size ≤ gb204))
           have n9_ := Ad.mk ((by rw [hg]; exact Nat.ne_of_lt (blk_lt (g := gb186) (o := .cells #[.slice A0_0 l0_0.length c0_0, .slice A0_1 l0_1.length c0_1, .int .i64 a0_2] 25 (0, 0)) (by (with_reducible repeat (first | refine bdN ?_ _ | refine bdD ?_ | refine blk_alloc ?_ _)); exact BK186.out)) : gb186 ≠ gb204))
           have n10_ := Ad.mk ((by rw [hg]; exact Nat.ne_of_gt (blk_lt (g := gb186) (o := .cells #[.slice A0_0 l0_0.length c0_0, .slice A0_1 l0_1.length c0_1, .int .i64 a0_2] 25 (0, 0)) (by (with_reducible repeat (first | refine bdN ?_ _ | refine bdD ?_ | refine blk_alloc ?_ _)); exact BK186.out)) : gb204 ≠ gb186))
           have n11_ := Ad.mk ((by rw [hg]; exact Nat.ne_of_lt (blk_lt (g := gb187) (o := .cells #[.slice A1_0 l1_0.length c1_0, .slice A1_1 l1_1.length c1_1, .slice A1_2 l1_2.length c1_2, .slice A1_3 l1_3.length c1_3, .int .i64 a1_4] 32 (0, 0)) (by (with_reducible repeat (first | refine bdN ?_ _ | refine bdD ?_ | refine blk_alloc ?_ _)); exact BK187.out)) : gb187 ≠ gb204))
           have n12_ := Ad.mk ((by rw [hg]; exact Nat.ne_of_gt (blk_lt (g := gb187) (o := .cells #[.slice A1_0 l1_0.length c1_0, .slice A1_1 l1_1.length c1_1, .slice A1_2 l1_2.length c1_2, .slice A1_3 l1_3.length c1_3, .int .i64 a1_4] 32 (0, 0)) (by (with_reducible repeat (first | refine bdN ?_ _ | refine bdD ?_ | refine blk_alloc ?_ _)); exact BK187.out)) : gb204 ≠ gb187))
           have n13_ := Ad.mk ((by rw [hg]; exact Nat.ne_of_lt (blk_lt (g := gb188) (o := .cells #[.slice none 0 0, .slice none 0 0, .int .i64 0] 25 (0, 0)) (by (with_reducible repeat (first | refine bdN ?_ _ | refine bdD ?_ | refine blk_alloc ?_ _)); exact BK188.out)) : gb188 ≠ gb204))
           have n14_ := Ad.mk ((by rw [hg]; exact Nat.ne_of_gt (blk_lt (g := gb188) (o := .cells #[.slice none 0 0, .slice none 0 0, .int .i64 0] 25 (0, 0)) (by (with_reducible repeat (first | refine bdN ?_ _ | refine bdD ?_ | refine blk_alloc ?_ _)); exact BK188.out)) : gb204 ≠ gb188))
           clear HO200
           clear HO203
           clear BK186
           clear BK187
           clear BK188
           clear HB
           have HO200 := n0_
           have HO203 := n1_
           have BK186 := n2_
           have BK187 := n3_
           have BK188 := n4_
           have HB := n5_
           have BK204 := n6_
           have GW204 := n7_
           have GE204 := n8_
           have NB186_204 := n9_
           have NB204_186 := n10_
           have NB187_204 := n11_
           have NB204_187 := n12_
           have NB188_204 := n13_
           have NB204_188 := n14_
           clear n0_ n1_ n2_ n3_ n4_ n5_ n6_ n7_ n8_ n9_ n10_ n11_ n12_ n13_ n14_
           clear hb hbox hg
           refine hK.out _ _ ⟨(bcl BK187.out 0).trans rfl, (bcl BK187.out 1).trans rfl, (bcl BK187.out 2).trans rfl, (bcl BK187.out 3).trans rfl, (bcl BK187.out 4).trans rfl, (bcl BK186.out 0).trans rfl, (bcl BK186.out 1).trans rfl, (bcl BK186.out 2).trans rfl⟩ (fun hHeld => ?_)
           clear hK K
           refine norm_ (a' := ?_) ?_ ?_
           rotate_left
           ·show Act.put _ (some 10) _ = _
            simp only [Act.put, List.setIfInBounds_toArray, List.set_cons_zero, List.set_cons_succ, i64_w, i32_w]
            rfl
           exact norm_ (by simp only [putAll, Act.put, List.setIfInBounds_toArray, List.set_cons_zero, List.set_cons_succ]) (hCont (.slice Ao40 y198.length co40, .slice Ao39 y201.length co39, gb204) _ ⟨hHeld, (by (with_reducible repeat (first | apply Kd.R_alloc | apply Kd.R_drewN | apply Kd.R_drew)); exact HO200.out), (by (with_reducible repeat (first | apply Kd.R_alloc | apply Kd.R_drewN | apply Kd.R_drew)); exact HO203.out), (by (with_reducible repeat (first | refine bdN ?_ _ | refine bdD ?_ | refine blk_alloc ?_ _)); exact BK186.out), (by (with_reducible repeat (first | refine bdN ?_ _ | refine bdD ?_ | refine blk_alloc ?_ _)); exact BK187.out), (by (with_reducible repeat (first | refine bdN ?_ _ | refine bdD ?_ | refine blk_alloc ?_ _)); exact BK188.out), (by (with_reducible repeat (first | refine bdN ?_ _ | refine bdD ?_ | refine blk_alloc ?_ _)); exact BK204.out), GW204.out, GE204.out, NB186_204.out, NB204_186.out, NB187_204.out, NB204_187.out, NB188_204.out, NB204_188.out, (by repeat (first | (with_reducible first | exact HB.out | apply blA | apply blN | apply blD | refine blS ?_ GE186.out | refine blS ?_ GE187.out | refine blS ?_ GE188.out | refine blS ?_ GE204.out) | exact HB.out))⟩)
          ·skip
           refine box_step ?hg (N := 10) ?hd (cs := #[.slice none 0 0, .slice none 0 0, .int .i64 0]) (t := 25) ?hr ?_; (case hd => rfl); (case hg => rfl); (case hr => first | (go_simp; done) | (go_simp; rfl))
           intro gb204 hg w38 hbox hb
           have n0_ := Ad.mk (Kd.R_below (by (with_reducible repeat (first | apply Kd.R_alloc | apply Kd.R_drewN | apply Kd.R_drew)); exact HO_8.out) hb)
           have n1_ := Ad.mk (Kd.R_below (by (with_reducible repeat (first | apply Kd.R_alloc | apply Kd.R_drewN | apply Kd.R_drew)); exact HO200.out) hb)
           have n2_ := Ad.mk (bbl (g := gb186) (o := .cells #[.slice A0_0 l0_0.length c0_0, .slice A0_1 l0_1.length c0_1, .int .i64 a0_2] 25 (0, 0)) (by (with_reducible repeat (first | refine bdN ?_ _ | refine bdD ?_ | refine blk_alloc ?_ _)); exact BK186.out) hb)
           have n3_ := Ad.mk (bbl (g := gb187) (o := .cells #[.slice A1_0 l1_0.length c1_0, .slice A1_1 l1_1.length c1_1, .slice A1_2 l1_2.length c1_2, .slice A1_3 l1_3.length c1_3, .int .i64 a1_4] 32 (0, 0)) (by (with_reducible repeat (first | refine bdN ?_ _ | refine bdD ?_ | refine blk_alloc ?_ _)); exact BK187.out) hb)
           have n4_ := Ad.mk (bbl (g := gb188) (o := .cells #[.slice none 0 0, .slice none 0 0, .int .i64 0] 25 (0, 0)) (by (with_reducible repeat (first | refine bdN ?_ _ | refine bdD ?_ | refine blk_alloc ?_ _)); exact BK188.out) hb)
           have n5_ := Ad.mk (bls (by repeat (first | (with_reducible first | exact HB.out | apply blA | apply blN | apply blD | refine blS ?_ GE186.out | refine blS ?_ GE187.out | refine blS ?_ GE188.out) | exact HB.out)) hb)
           have n6_ := Ad.mk (hbox)
           have n7_ := Ad.mk ((by rw [hg]; exact (blz (by repeat (first | (with_reducible first | exact HB.out | apply blA | apply blN | apply blD | refine blS ?_ GE186.out | refine blS ?_ GE187.out | refine blS ?_ GE188.out) | exact HB.out))) : w.heap.size ≤ gb204))
           have n8_ := Ad.mk ((by rw [hg]; exact (blz (by repeat (first | (with_reducible first | exact HB.out | apply blA | apply blN | apply blD | refine blS ?_ GE186.out | refine blS ?_ GE187.out | refine blS ?_ GE188.out) | exact HB.out))) : w.heap.size ≤ gb204))
           have n9_ := Ad.mk ((by rw [hg]; exact Nat.ne_of_lt (blk_lt (g := gb186) (o := .cells #[.slice A0_0 l0_0.length c0_0, .slice A0_1 l0_1.length c0_1, .int .i64 a0_2] 25 (0, 0)) (by (with_reducible repeat (first | refine bdN ?_ _ | refine bdD ?_ | refine blk_alloc ?_ _)); exact BK186.out)) : gb186 ≠ gb204))
           have n10_ := Ad.mk ((by rw [hg]; exact Nat.ne_of_gt (blk_lt (g := gb186) (o := .cells #[.slice A0_0 l0_0.length c0_0, .slice A0_1 l0_1.length c0_1, .int .i64 a0_2] 25 (0, 0)) (by (with_reducible repeat (first | refine bdN ?_ _ | refine bdD ?_ | refine blk_alloc ?_ _)); exact BK186.out)) : gb204 ≠ gb186))
           have n11_ := Ad.mk ((by rw [hg]; exact Nat.ne_of_lt (blk_lt (g := gb187) (o := .cells #[.slice A1_0 l1_0.length c1_0, .slice A1_1 l1_1.length c1_1, .slice A1_2 l1_2.length c1_2, .slice A1_3 l1_3.length c1_3, .int .i64 a1_4] 32 (0, 0)) (by (with_reducible repeat (first | refine bdN ?_ _ | refine bdD ?_ | refine blk_alloc ?_ _)); exact BK187.out)) : gb187 ≠ gb204))
           have n12_ := Ad.mk ((by rw [hg]; exact Nat.ne_of_gt (blk_lt (g := gb187) (o := .cells #[.slice A1_0 l1_0.length c1_0, .slice A1_1 l1_1.length c1_1, .slice A1_2 l1_2.length c1_2, .slice A1_3 l1_3.length c1_3, .int .i64 a1_4] 32 (0, 0)) (by (with_reducible repeat (first | refine bdN ?_ _ | refine bdD ?_ | refine blk_alloc ?_ _)); exact BK187.out)) : gb204 ≠ gb187))
           have n13_ := Ad.mk ((by rw [hg]; exact Nat.ne_of_lt (blk_lt (g := gb188) (o := .cells #[.slice none 0 0, .slice none 0 0, .int .i64 0] 25 (0, 0)) (by (with_reducible repeat (first | refine bdN ?_ _ | refine bdD ?_ | refine blk_alloc ?_ _)); exact BK188.out)) : gb188 ≠ gb204))
           have n14_ := Ad.mk ((by rw [hg]; exact Nat.ne_of_gt (blk_lt (g := gb188) (o := .cells #[.slice none 0 0, .slice none 0 0, .int .i64 0] 25 (0, 0)) (by (with_reducible repeat (first | refine bdN ?_ _ | refine bdD ?_ | refine blk_alloc ?_ _)); exact BK188.out)) : gb204 ≠ gb188))
           clear HO_8
           clear HO200
           clear BK186
           clear BK187
           clear BK188
           clear HB
           have HO_8 := n0_
           have HO200 := n1_
           have BK186 := n2_
           have BK187 := n3_
           have BK188 := n4_
           have HB := n5_
           have BK204 := n6_
           have GW204 := n7_
           have GE204 := n8_
           have NB186_204 := n9_
           have NB204_186 := n10_
           have NB187_204 := n11_
           have NB204_187 := n12_
           have NB188_204 := n13_
           have NB204_188 := n14_
           clear n0_ n1_ n2_ n3_ n4_ n5_ n6_ n7_ n8_ n9_ n10_ n11_ n12_ n13_ n14_
           clear hb hbox hg
           refine hK.out _ _ ⟨(bcl BK187.out 0).trans rfl, (bcl BK187.out 1).trans rfl, (bcl BK187.out 2).trans rfl, (bcl BK187.out 3).trans rfl, (bcl BK187.out 4).trans rfl, (bcl BK186.out 0).trans rfl, (bcl BK186.out 1).trans rfl, (bcl BK186.out 2).trans rfl⟩ (fun hHeld => ?_)
           clear hK K
           refine norm_ (a' := ?_) ?_ ?_
           rotate_left
           ·show Act.put _ (some 10) _ = _
            simp only [Act.put, List.setIfInBounds_toArray, List.set_cons_zero, List.set_cons_succ, i64_w, i32_w]
            rfl
           refine one_ (i := 7) (N := some 47) #[true, true, true, true, true, true, true, true, true, true, true, true, true, false, true, false] rfl rfl (one_of HT_.out (by kernel_rfl)) (by decide) (fun K hK => ?_)
           refine Kd.R_append_rows_step (Kd.int .i64) (w0 := w) w.heap.size (by rfl) (.tmp 44) (.tmp 46) 23 3 (.int .i64 0) 8 rfl Try.underlying23 info3 rfl (by decide) (by omega) (.slice Ao35 t194.length co35) t194 l1_2 _ _ _ (fun _ => True) (fun _ => False) rfl rfl ?aO ?aR (fun _ _ h => h) (fun _ h => h.elim) ?aF ?aB ?aS ?aL ?_
           (case aR => repeat (first | exact (Kd.C_below HR1_2.out HB.out) | (with_reducible refine Kd.C_alloc ?_ _) | (with_reducible refine Kd.C_drewN ?_ _) | (with_reducible refine Kd.C_drew ?_)))
           (case aB => exact (by repeat (first | (with_reducible first | exact HB.out | apply blA | apply blN | apply blD | refine blS ?_ GE186.out | refine blS ?_ GE187.out | refine blS ?_ GE188.out | refine blS ?_ GE204.out) | exact HB.out)))
           (case aF => exact (fun _ _ => trivial))
           (case aO => exact (by (with_reducible repeat (first | apply Kd.R_alloc | apply Kd.R_drewN | apply Kd.R_drew)); exact HO_8.out))
           (case aS => exact (blz (by repeat (first | (with_reducible first | exact HB.out | apply blA | apply blN | apply blD | refine blS ?_ GE186.out | refine blS ?_ GE187.out | refine blS ?_ GE188.out | refine blS ?_ GE204.out) | exact HB.out))))
           (case aL => have := LMc28.out; omega)
           intro v202 w39 ho hb hg hat
           rw [← Ny201.out] at ho
           have n0_ := Ad.mk (blk_grown (g := gb186) (o := .cells #[.slice A0_0 l0_0.length c0_0, .slice A0_1 l0_1.length c0_1, .int .i64 a0_2] 25 (0, 0)) (by (with_reducible repeat (first | refine bdN ?_ _ | refine bdD ?_ | refine blk_alloc ?_ _)); exact BK186.out) hg (Kd.R_ne HO_8.out BK186.out (by decide)))
           have n1_ := Ad.mk (blk_grown (g := gb187) (o := .cells #[.slice A1_0 l1_0.length c1_0, .slice A1_1 l1_1.length c1_1, .slice A1_2 l1_2.length c1_2, .slice A1_3 l1_3.length c1_3, .int .i64 a1_4] 32 (0, 0)) (by (with_reducible repeat (first | refine bdN ?_ _ | refine bdD ?_ | refine blk_alloc ?_ _)); exact BK187.out) hg (Kd.R_ne HO_8.out BK187.out (by decide)))
           have n2_ := Ad.mk (blk_grown (g := gb188) (o := .cells #[.slice none 0 0, .slice none 0 0, .int .i64 0] 25 (0, 0)) (by (with_reducible repeat (first | refine bdN ?_ _ | refine bdD ?_ | refine blk_alloc ?_ _)); exact BK188.out) hg (Kd.R_ne HO_8.out BK188.out (by decide)))
           have n3_ := Ad.mk (Kd.R_over' (by (with_reducible repeat (first | apply Kd.R_alloc | apply Kd.R_drewN | apply Kd.R_drew)); exact HO200.out) (Kd.R_typed (by (with_reducible repeat (first | apply Kd.R_alloc | apply Kd.R_drewN | apply Kd.R_drew)); exact HO_8.out)) (by decide) hg)
           have n4_ := Ad.mk (blk_grown (g := gb204) (o := .cells #[.slice none 0 0, .slice none 0 0, .int .i64 0] 25 (0, 0)) (by (with_reducible repeat (first | refine bdN ?_ _ | refine bdD ?_ | refine blk_alloc ?_ _)); exact BK204.out) hg (Kd.R_ne HO_8.out BK204.out (by decide)))
           have n5_ := Ad.mk (hb)
           have n6_ := Ad.mk (ho)
           clear BK186
           clear BK187
           clear BK188
           clear HO200
           clear BK204
           clear HB
           clear HO_8
           have BK186 := n0_
           have BK187 := n1_
           have BK188 := n2_
           have HO200 := n3_
           have BK204 := n4_
           have HB := n5_
           have HO203 := n6_
           clear n0_ n1_ n2_ n3_ n4_ n5_ n6_
           clear ho hb hg hat
           obtain ⟨Ao40, co40, eo40⟩ := Kd.R_slice HO203.out
           (first | subst eo40 | (injection eo40 with f1_ f2_ f3_; have f4_ := f1_.symm; have f5_ := f3_.symm; clear f1_ f2_ f3_; subst f4_; subst f5_))
           obtain ⟨Ao41, co41, eo41⟩ := Kd.R_slice HO200.out
           (first | subst eo41 | (injection eo41 with f1_ f2_ f3_; have f4_ := f1_.symm; have f5_ := f3_.symm; clear f1_ f2_ f3_; subst f4_; subst f5_))
           refine hK.out _ _ ⟨(bcl BK187.out 0).trans rfl, (bcl BK187.out 1).trans rfl, (bcl BK187.out 2).trans rfl, (bcl BK187.out 3).trans rfl, (bcl BK187.out 4).trans rfl, (bcl BK186.out 0).trans rfl, (bcl BK186.out 1).trans rfl, (bcl BK186.out 2).trans rfl⟩ (fun hHeld => ?_)
           clear hK K
           refine norm_ (a' := ?_) ?_ ?_
           rotate_left
           ·show Act.put _ (some 47) _ = _
            simp only [Act.put, List.setIfInBounds_toArray, List.set_cons_zero, List.set_cons_succ, i64_w, i32_w]
            rfl
           refine pure_ (i := 13) (N := some 53) (v := ?_) (a' := ?_) #[true, true, true, true, true, true, true, true, true, true, true, true, true, true, true, false] rfl rfl (any_of HT_.out (by kernel_rfl)) (fun _ _ _ h => h) (Or.inl ⟨by rfl, ?_⟩) ?_ ?_
           rotate_left
           ·intro w'
            go_simp
            with_reducible rfl
           rotate_left
           ·simp only [Act.put, List.setIfInBounds_toArray, List.set_cons_zero, List.set_cons_succ, i64_w, i32_w]
            rfl
           exact norm_ (by simp only [putAll, Act.put, List.setIfInBounds_toArray, List.set_cons_zero, List.set_cons_succ]) (hCont (.slice Ao41 y198.length co41, .slice Ao40 y201.length co40, gb204) _ ⟨hHeld, (by (with_reducible repeat (first | apply Kd.R_alloc | apply Kd.R_drewN | apply Kd.R_drew)); exact HO200.out), (by (with_reducible repeat (first | apply Kd.R_alloc | apply Kd.R_drewN | apply Kd.R_drew)); exact HO203.out), (by (with_reducible repeat (first | refine bdN ?_ _ | refine bdD ?_ | refine blk_alloc ?_ _)); exact BK186.out), (by (with_reducible repeat (first | refine bdN ?_ _ | refine bdD ?_ | refine blk_alloc ?_ _)); exact BK187.out), (by (with_reducible repeat (first | refine bdN ?_ _ | refine bdD ?_ | refine blk_alloc ?_ _)); exact BK188.out), (by (with_reducible repeat (first | refine bdN ?_ _ | refine bdD ?_ | refine blk_alloc ?_ _)); exact BK204.out), GW204.out, GE204.out, NB186_204.out, NB204_186.out, NB187_204.out, NB204_187.out, NB188_204.out, NB204_188.out, (by repeat (first | (with_reducible first | exact HB.out | apply blA | apply blN | apply blD | refine blS ?_ GE186.out | refine blS ?_ GE187.out | refine blS ?_ GE188.out | refine blS ?_ GE204.out) | exact HB.out))⟩)
         ·skip
          refine box_step ?hg (N := 10) ?hd (cs := #[.slice none 0 0, .slice none 0 0, .int .i64 0]) (t := 25) ?hr ?_; (case hd => rfl); (case hg => rfl); (case hr => first | (go_simp; done) | (go_simp; rfl))
          intro gb204 hg w37 hbox hb
          have n0_ := Ad.mk (Kd.R_below (by (with_reducible repeat (first | apply Kd.R_alloc | apply Kd.R_drewN | apply Kd.R_drew)); exact HO_6.out) hb)
          have n1_ := Ad.mk (Kd.R_below (by (with_reducible repeat (first | apply Kd.R_alloc | apply Kd.R_drewN | apply Kd.R_drew)); exact HO_8.out) hb)
          have n2_ := Ad.mk (bbl (g := gb186) (o := .cells #[.slice A0_0 l0_0.length c0_0, .slice A0_1 l0_1.length c0_1, .int .i64 a0_2] 25 (0, 0)) (by (with_reducible repeat (first | refine bdN ?_ _ | refine bdD ?_ | refine blk_alloc ?_ _)); exact BK186.out) hb)
          have n3_ := Ad.mk (bbl (g := gb187) (o := .cells #[.slice A1_0 l1_0.length c1_0, .slice A1_1 l1_1.length c1_1, .slice A1_2 l1_2.length c1_2, .slice A1_3 l1_3.length c1_3, .int .i64 a1_4] 32 (0, 0)) (by (with_reducible repeat (first | refine bdN ?_ _ | refine bdD ?_ | refine blk_alloc ?_ _)); exact BK187.out) hb)
          have n4_ := Ad.mk (bbl (g := gb188) (o := .cells #[.slice none 0 0, .slice none 0 0, .int .i64 0] 25 (0, 0)) (by (with_reducible repeat (first | refine bdN ?_ _ | refine bdD ?_ | refine blk_alloc ?_ _)); exact BK188.out) hb)
          have n5_ := Ad.mk (bls (by repeat (first | (with_reducible first | exact HB.out | apply blA | apply blN | apply blD | refine blS ?_ GE186.out | refine blS ?_ GE187.out | refine blS ?_ GE188.out) | exact HB.out)) hb)
          have n6_ := Ad.mk (hbox)
          have n7_ := Ad.mk ((by rw [hg]; exact (blz (by repeat (first | (with_reducible first | exact HB.out | apply blA | apply blN | apply blD | refine blS ?_ GE186.out | refine blS ?_ GE187.out | refine blS ?_ GE188.out) | exact HB.out))) : w.heap.size ≤ gb204))
          have n8_ := Ad.mk ((by rw [hg]; exact (blz (by repeat (first | (with_reducible first | exact HB.out | apply blA | apply blN | apply blD | refine blS ?_ GE186.out | refine blS ?_ GE187.out | refine blS ?_ GE188.out) | exact HB.out))) : w.heap.size ≤ gb204))
          have n9_ := Ad.mk ((by rw [hg]; exact Nat.ne_of_lt (blk_lt (g := gb186) (o := .cells #[.slice A0_0 l0_0.length c0_0, .slice A0_1 l0_1.length c0_1, .int .i64 a0_2] 25 (0, 0)) (by (with_reducible repeat (first | refine bdN ?_ _ | refine bdD ?_ | refine blk_alloc ?_ _)); exact BK186.out)) : gb186 ≠ gb204))
          have n10_ := Ad.mk ((by rw [hg]; exact Nat.ne_of_gt (blk_lt (g := gb186) (o := .cells #[.slice A0_0 l0_0.length c0_0, .slice A0_1 l0_1.length c0_1, .int .i64 a0_2] 25 (0, 0)) (by (with_reducible repeat (first | refine bdN ?_ _ | refine bdD ?_ | refine blk_alloc ?_ _)); exact BK186.out)) : gb204 ≠ gb186))
          have n11_ := Ad.mk ((by rw [hg]; exact Nat.ne_of_lt (blk_lt (g := gb187) (o := .cells #[.slice A1_0 l1_0.length c1_0, .slice A1_1 l1_1.length c1_1, .slice A1_2 l1_2.length c1_2, .slice A1_3 l1_3.length c1_3, .int .i64 a1_4] 32 (0, 0)) (by (with_reducible repeat (first | refine bdN ?_ _ | refine bdD ?_ | refine blk_alloc ?_ _)); exact BK187.out)) : gb187 ≠ gb204))
          have n12_ := Ad.mk ((by rw [hg]; exact Nat.ne_of_gt (blk_lt (g := gb187) (o := .cells #[.slice A1_0 l1_0.length c1_0, .slice A1_1 l1_1.length c1_1, .slice A1_2 l1_2.length c1_2, .slice A1_3 l1_3.length c1_3, .int .i64 a1_4] 32 (0, 0)) (by (with_reducible repeat (first | refine bdN ?_ _ | refine bdD ?_ | refine blk_alloc ?_ _)); exact BK187.out)) : gb204 ≠ gb187))
          have n13_ := Ad.mk ((by rw [hg]; exact Nat.ne_of_lt (blk_lt (g := gb188) (o := .cells #[.slice none 0 0, .slice none 0 0, .int .i64 0] 25 (0, 0)) (by (with_reducible repeat (first | refine bdN ?_ _ | refine bdD ?_ | refine blk_alloc ?_ _)); exact BK188.out)) : gb188 ≠ gb204))
          have n14_ := Ad.mk ((by rw [hg]; exact Nat.ne_of_gt (blk_lt (g := gb188) (o := .cells #[.slice none 0 0, .slice none 0 0, .int .i64 0] 25 (0, 0)) (by (with_reducible repeat (first | refine bdN ?_ _ | refine bdD ?_ | refine blk_alloc ?_ _)); exact BK188.out)) : gb204 ≠ gb188))
          clear HO_6
          clear HO_8
          clear BK186
          clear BK187
          clear BK188
          clear HB
          have HO_6 := n0_
          have HO_8 := n1_
          have BK186 := n2_
          have BK187 := n3_
          have BK188 := n4_
          have HB := n5_
          have BK204 := n6_
          have GW204 := n7_
          have GE204 := n8_
          have NB186_204 := n9_
          have NB204_186 := n10_
          have NB187_204 := n11_
          have NB204_187 := n12_
          have NB188_204 := n13_
          have NB204_188 := n14_
          clear n0_ n1_ n2_ n3_ n4_ n5_ n6_ n7_ n8_ n9_ n10_ n11_ n12_ n13_ n14_
          clear hb hbox hg
          refine hK.out _ _ ⟨(bcl BK187.out 0).trans rfl, (bcl BK187.out 1).trans rfl, (bcl BK187.out 2).trans rfl, (bcl BK187.out 3).trans rfl, (bcl BK187.out 4).trans rfl, (bcl BK186.out 0).trans rfl, (bcl BK186.out 1).trans rfl, (bcl BK186.out 2).trans rfl⟩ (fun hHeld => ?_)
          clear hK K
          refine norm_ (a' := ?_) ?_ ?_
          rotate_left
          ·show Act.put _ (some 10) _ = _
           simp only [Act.put, List.setIfInBounds_toArray, List.set_cons_zero, List.set_cons_succ, i64_w, i32_w]
           rfl
          refine one_ (i := 3) (N := some 43) #[true, true, true, true, true, true, true, false, true, true, true, true, true, false, true, false] rfl rfl (one_of HT_.out (by kernel_rfl)) (by decide) (fun K hK => ?_)
          refine Kd.R_append_rows_step k35 (w0 := w) w.heap.size (by rfl) (.tmp 40) (.tmp 42) 22 35 (.agg #[(.int .i64 0), (.int .i64 0), (.string ⟨#[]⟩), (.string ⟨#[]⟩), (.int .i64 0)]) 56 rfl Try.underlying22 info35 rfl (by decide) (by omega) (.slice Ao34 t190.length co34) t190 l1_0 _ _ _ (fun _ => True) (fun _ => False) rfl rfl ?aO ?aR (fun _ _ h => h) (fun _ h => h.elim) ?aF ?aB ?aS ?aL ?_
          (case aR => repeat (first | exact (Kd.C_below HR1_0.out HB.out) | (with_reducible refine Kd.C_alloc ?_ _) | (with_reducible refine Kd.C_drewN ?_ _) | (with_reducible refine Kd.C_drew ?_)))
          (case aB => exact (by repeat (first | (with_reducible first | exact HB.out | apply blA | apply blN | apply blD | refine blS ?_ GE186.out | refine blS ?_ GE187.out | refine blS ?_ GE188.out | refine blS ?_ GE204.out) | exact HB.out)))
          (case aF => exact (fun _ _ => trivial))
          (case aO => exact (by (with_reducible repeat (first | apply Kd.R_alloc | apply Kd.R_drewN | apply Kd.R_drew)); exact HO_6.out))
          (case aS => exact (blz (by repeat (first | (with_reducible first | exact HB.out | apply blA | apply blN | apply blD | refine blS ?_ GE186.out | refine blS ?_ GE187.out | refine blS ?_ GE188.out | refine blS ?_ GE204.out) | exact HB.out))))
          (case aL => have := LMc27.out; omega)
          intro v199 w38 ho hb hg hat
          rw [← Ny198.out] at ho
          have n0_ := Ad.mk (Kd.R_over' (by (with_reducible repeat (first | apply Kd.R_alloc | apply Kd.R_drewN | apply Kd.R_drew)); exact HO_8.out) (Kd.R_typed (by (with_reducible repeat (first | apply Kd.R_alloc | apply Kd.R_drewN | apply Kd.R_drew)); exact HO_6.out)) (by decide) hg)
          have n1_ := Ad.mk (blk_grown (g := gb186) (o := .cells #[.slice A0_0 l0_0.length c0_0, .slice A0_1 l0_1.length c0_1, .int .i64 a0_2] 25 (0, 0)) (by (with_reducible repeat (first | refine bdN ?_ _ | refine bdD ?_ | refine blk_alloc ?_ _)); exact BK186.out) hg (Kd.R_ne HO_6.out BK186.out (by decide)))
          have n2_ := Ad.mk (blk_grown (g := gb187) (o := .cells #[.slice A1_0 l1_0.length c1_0, .slice A1_1 l1_1.length c1_1, .slice A1_2 l1_2.length c1_2, .slice A1_3 l1_3.length c1_3, .int .i64 a1_4] 32 (0, 0)) (by (with_reducible repeat (first | refine bdN ?_ _ | refine bdD ?_ | refine blk_alloc ?_ _)); exact BK187.out) hg (Kd.R_ne HO_6.out BK187.out (by decide)))
          have n3_ := Ad.mk (blk_grown (g := gb188) (o := .cells #[.slice none 0 0, .slice none 0 0, .int .i64 0] 25 (0, 0)) (by (with_reducible repeat (first | refine bdN ?_ _ | refine bdD ?_ | refine blk_alloc ?_ _)); exact BK188.out) hg (Kd.R_ne HO_6.out BK188.out (by decide)))
          have n4_ := Ad.mk (blk_grown (g := gb204) (o := .cells #[.slice none 0 0, .slice none 0 0, .int .i64 0] 25 (0, 0)) (by (with_reducible repeat (first | refine bdN ?_ _ | refine bdD ?_ | refine blk_alloc ?_ _)); exact BK204.out) hg (Kd.R_ne HO_6.out BK204.out (by decide)))
          have n5_ := Ad.mk (hb)
          have n6_ := Ad.mk (ho)
          clear HO_8
          clear BK186
          clear BK187
          clear BK188
          clear BK204
          clear HB
          clear HO_6
          have HO_8 := n0_
          have BK186 := n1_
          have BK187 := n2_
          have BK188 := n3_
          have BK204 := n4_
          have HB := n5_
          have HO200 := n6_
          clear n0_ n1_ n2_ n3_ n4_ n5_ n6_
          clear ho hb hg hat
          refine hK.out _ _ ⟨(bcl BK187.out 0).trans rfl, (bcl BK187.out 1).trans rfl, (bcl BK187.out 2).trans rfl, (bcl BK187.out 3).trans rfl, (bcl BK187.out 4).trans rfl, (bcl BK186.out 0).trans rfl, (bcl BK186.out 1).trans rfl, (bcl BK186.out 2).trans rfl⟩ (fun hHeld => ?_)
          clear hK K
          refine norm_ (a' := ?_) ?_ ?_
          rotate_left
          ·show Act.put _ (some 43) _ = _
           simp only [Act.put, List.setIfInBounds_toArray, List.set_cons_zero, List.set_cons_succ, i64_w, i32_w]
           rfl
          refine one_ (i := 7) (N := some 47) #[true, true, true, true, true, true, true, true, true, true, true, true, true, false, true, false] rfl rfl (one_of HT_.out (by kernel_rfl)) (by decide) (fun K hK => ?_)
          refine Kd.R_append_rows_step (Kd.int .i64) (w0 := w) w.heap.size (by rfl) (.tmp 44) (.tmp 46) 23 3 (.int .i64 0) 8 rfl Try.underlying23 info3 rfl (by decide) (by omega) (.slice Ao35 t194.length co35) t194 l1_2 _ _ _ (fun _ => True) (fun _ => False) rfl rfl ?aO ?aR (fun _ _ h => h) (fun _ h => h.elim) ?aF ?aB ?aS ?aL ?_
          (case aR => repeat (first | exact (Kd.C_below HR1_2.out HB.out) | (with_reducible refine Kd.C_alloc ?_ _) | (with_reducible refine Kd.C_drewN ?_ _) | (with_reducible refine Kd.C_drew ?_)))
          (case aB => exact (by repeat (first | (with_reducible first | exact HB.out | apply blA | apply blN | apply blD | refine blS ?_ GE186.out | refine blS ?_ GE187.out | refine blS ?_ GE188.out | refine blS ?_ GE204.out) | exact HB.out)))
          (case aF => exact (fun _ _ => trivial))
          (case aO => exact (by (with_reducible repeat (first | apply Kd.R_alloc | apply Kd.R_drewN | apply Kd.R_drew)); exact HO_8.out))
          (case aS => exact (blz (by repeat (first | (with_reducible first | exact HB.out | apply blA | apply blN | apply blD | refine blS ?_ GE186.out | refine blS ?_ GE187.out | refine blS ?_ GE188.out | refine blS ?_ GE204.out) | exact HB.out))))
          (case aL => have := LMc28.out; omega)
          intro v202 w39 ho hb hg hat
          rw [← Ny201.out] at ho
          have n0_ := Ad.mk (blk_grown (g := gb186) (o := .cells #[.slice A0_0 l0_0.length c0_0, .slice A0_1 l0_1.length c0_1, .int .i64 a0_2] 25 (0, 0)) (by (with_reducible repeat (first | refine bdN ?_ _ | refine bdD ?_ | refine blk_alloc ?_ _)); exact BK186.out) hg (Kd.R_ne HO_8.out BK186.out (by decide)))
          have n1_ := Ad.mk (blk_grown (g := gb187) (o := .cells #[.slice A1_0 l1_0.length c1_0, .slice A1_1 l1_1.length c1_1, .slice A1_2 l1_2.length c1_2, .slice A1_3 l1_3.length c1_3, .int .i64 a1_4] 32 (0, 0)) (by (with_reducible repeat (first | refine bdN ?_ _ | refine bdD ?_ | refine blk_alloc ?_ _)); exact BK187.out) hg (Kd.R_ne HO_8.out BK187.out (by decide)))
          have n2_ := Ad.mk (blk_grown (g := gb188) (o := .cells #[.slice none 0 0, .slice none 0 0, .int .i64 0] 25 (0, 0)) (by (with_reducible repeat (first | refine bdN ?_ _ | refine bdD ?_ | refine blk_alloc ?_ _)); exact BK188.out) hg (Kd.R_ne HO_8.out BK188.out (by decide)))
          have n3_ := Ad.mk (blk_grown (g := gb204) (o := .cells #[.slice none 0 0, .slice none 0 0, .int .i64 0] 25 (0, 0)) (by (with_reducible repeat (first | refine bdN ?_ _ | refine bdD ?_ | refine blk_alloc ?_ _)); exact BK204.out) hg (Kd.R_ne HO_8.out BK204.out (by decide)))
          have n4_ := Ad.mk (Kd.R_over' (by (with_reducible repeat (first | apply Kd.R_alloc | apply Kd.R_drewN | apply Kd.R_drew)); exact HO200.out) (Kd.R_typed (by (with_reducible repeat (first | apply Kd.R_alloc | apply Kd.R_drewN | apply Kd.R_drew)); exact HO_8.out)) (by decide) hg)
          have n5_ := Ad.mk (hb)
          have n6_ := Ad.mk (ho)
          clear BK186
          clear BK187
          clear BK188
          clear BK204
          clear HO200
          clear HB
          clear HO_8
          have BK186 := n0_
          have BK187 := n1_
          have BK188 := n2_
          have BK204 := n3_
          have HO200 := n4_
          have HB := n5_
          have HO203 := n6_
          clear n0_ n1_ n2_ n3_ n4_ n5_ n6_
          clear ho hb hg hat
          obtain ⟨Ao40, co40, eo40⟩ := Kd.R_slice HO203.out
          (first | subst eo40 | (injection eo40 with f1_ f2_ f3_; have f4_ := f1_.symm; have f5_ := f3_.symm; clear f1_ f2_ f3_; subst f4_; subst f5_))
          obtain ⟨Ao41, co41, eo41⟩ := Kd.R_slice HO200.out
          (first | subst eo41 | (injection eo41 with f1_ f2_ f3_; have f4_ := f1_.symm; have f5_ := f3_.symm; clear f1_ f2_ f3_; subst f4_; subst f5_))
          refine hK.out _ _ ⟨(bcl BK187.out 0).trans rfl, (bcl BK187.out 1).trans rfl, (bcl BK187.out 2).trans rfl, (bcl BK187.out 3).trans rfl, (bcl BK187.out 4).trans rfl, (bcl BK186.out 0).trans rfl, (bcl BK186.out 1).trans rfl, (bcl BK186.out 2).trans rfl⟩ (fun hHeld => ?_)
          clear hK K
          refine norm_ (a' := ?_) ?_ ?_
          rotate_left
          ·show Act.put _ (some 47) _ = _
           simp only [Act.put, List.setIfInBounds_toArray, List.set_cons_zero, List.set_cons_succ, i64_w, i32_w]
           rfl
          refine pure_ (i := 13) (N := some 53) (v := ?_) (a' := ?_) #[true, true, true, true, true, true, true, true, true, true, true, true, true, true, true, false] rfl rfl (any_of HT_.out (by kernel_rfl)) (fun _ _ _ h => h) (Or.inl ⟨by rfl, ?_⟩) ?_ ?_
          rotate_left
          ·intro w'
           go_simp
           with_reducible rfl
          rotate_left
          ·simp only [Act.put, List.setIfInBounds_toArray, List.set_cons_zero, List.set_cons_succ, i64_w, i32_w]
           rfl
          exact norm_ (by simp only [putAll, Act.put, List.setIfInBounds_toArray, List.set_cons_zero, List.set_cons_succ]) (hCont (.slice Ao41 y198.length co41, .slice Ao40 y201.length co40, gb204) _ ⟨hHeld, (by (with_reducible repeat (first | apply Kd.R_alloc | apply Kd.R_drewN | apply Kd.R_drew)); exact HO200.out), (by (with_reducible repeat (first | apply Kd.R_alloc | apply Kd.R_drewN | apply Kd.R_drew)); exact HO203.out), (by (with_reducible repeat (first | refine bdN ?_ _ | refine bdD ?_ | refine blk_alloc ?_ _)); exact BK186.out), (by (with_reducible repeat (first | refine bdN ?_ _ | refine bdD ?_ | refine blk_alloc ?_ _)); exact BK187.out), (by (with_reducible repeat (first | refine bdN ?_ _ | refine bdD ?_ | refine blk_alloc ?_ _)); exact BK188.out), (by (with_reducible repeat (first | refine bdN ?_ _ | refine bdD ?_ | refine blk_alloc ?_ _)); exact BK204.out), GW204.out, GE204.out, NB186_204.out, NB204_186.out, NB187_204.out, NB204_187.out, NB188_204.out, NB204_188.out, (by repeat (first | (with_reducible first | exact HB.out | apply blA | apply blN | apply blD | refine blS ?_ GE186.out | refine blS ?_ GE187.out | refine blS ?_ GE188.out | refine blS ?_ GE204.out) | exact HB.out))⟩)
        rintro ⟨v199, v202, gb204⟩ w42 ⟨hS_, h0_, h1_, h2_, h3_, h4_, h5_, h6_, h7_, h8_, h9_, h10_, h11_, h12_, h13_, h14_⟩
        have n0_ : Ad (Kd.R k35 35 w42 w.heap.size (fun _ => True) v199 y198) := ⟨h0_⟩
        have n1_ : Ad (Kd.R (Kd.int .i64) 3 w42 w.heap.size (fun _ => True) v202 y201) := ⟨h1_⟩
        have n2_ : Ad (w42.heap[gb186]? = some (.cells #[.slice A0_0 l0_0.length c0_0, .slice A0_1 l0_1.length c0_1, .int .i64 a0_2] 25 (0, 0))) := ⟨h2_⟩
        have n3_ : Ad (w42.heap[gb187]? = some (.cells #[.slice A1_0 l1_0.length c1_0, .slice A1_1 l1_1.length c1_1, .slice A1_2 l1_2.length c1_2, .slice A1_3 l1_3.length c1_3, .int .i64 a1_4] 32 (0, 0))) := ⟨h3_⟩
        have n4_ : Ad (w42.heap[gb188]? = some (.cells #[.slice none 0 0, .slice none 0 0, .int .i64 0] 25 (0, 0))) := ⟨h4_⟩
        have n5_ : Ad (w42.heap[gb204]? = some (.cells #[.slice none 0 0, .slice none 0 0, .int .i64 0] 25 (0, 0))) := ⟨h5_⟩
        have n6_ : Ad (w.heap.size ≤ gb204) := ⟨h6_⟩
        have n7_ : Ad (w.heap.size ≤ gb204) := ⟨h7_⟩
        have n8_ : Ad (gb186 ≠ gb204) := ⟨h8_⟩
        have n9_ : Ad (gb204 ≠ gb186) := ⟨h9_⟩
        have n10_ : Ad (gb187 ≠ gb204) := ⟨h10_⟩
        have n11_ : Ad (gb204 ≠ gb187) := ⟨h11_⟩
        have n12_ : Ad (gb188 ≠ gb204) := ⟨h12_⟩
        have n13_ : Ad (gb204 ≠ gb188) := ⟨h13_⟩
        have n14_ : Ad (Below w.heap.size w w42) := ⟨h14_⟩
        clear HO_6
        clear HO_8
        clear BK186
        clear BK187
        clear BK188
        clear HB
        clear h0_ h1_ h2_ h3_ h4_ h5_ h6_ h7_ h8_ h9_ h10_ h11_ h12_ h13_ h14_
        have HO200 := n0_
        have HO203 := n1_
        have BK186 := n2_
        have BK187 := n3_
        have BK188 := n4_
        have BK204 := n5_
        have GW204 := n6_
        have GE204 := n7_
        have NB186_204 := n8_
        have NB204_186 := n9_
        have NB187_204 := n10_
        have NB204_187 := n11_
        have NB188_204 := n12_
        have NB204_188 := n13_
        have HB := n14_
        clear n0_ n1_ n2_ n3_ n4_ n5_ n6_ n7_ n8_ n9_ n10_ n11_ n12_ n13_ n14_
        have hHeld : w42.cell? ⟨gb187, 0, none⟩ = some (.slice A1_0 l1_0.length c1_0) ∧ w42.cell? ⟨gb187, 1, none⟩ = some (.slice A1_1 l1_1.length c1_1) ∧ w42.cell? ⟨gb187, 2, none⟩ = some (.slice A1_2 l1_2.length c1_2) ∧ w42.cell? ⟨gb187, 3, none⟩ = some (.slice A1_3 l1_3.length c1_3) ∧ w42.cell? ⟨gb187, 4, none⟩ = some (.int .i64 a1_4) ∧ w42.cell? ⟨gb186, 0, none⟩ = some (.slice A0_0 l0_0.length c0_0) ∧ w42.cell? ⟨gb186, 1, none⟩ = some (.slice A0_1 l0_1.length c0_1) ∧ w42.cell? ⟨gb186, 2, none⟩ = some (.int .i64 a0_2) := hS_
        obtain ⟨Ao43, co43, eo43⟩ := Kd.R_slice HO203.out
        (first | subst eo43 | (injection eo43 with f1_ f2_ f3_; have f4_ := f1_.symm; have f5_ := f3_.symm; clear f1_ f2_ f3_; subst f4_; subst f5_))
        obtain ⟨Ao44, co44, eo44⟩ := Kd.R_slice HO200.out
        (first | subst eo44 | (injection eo44 with f1_ f2_ f3_; have f4_ := f1_.symm; have f5_ := f3_.symm; clear f1_ f2_ f3_; subst f4_; subst f5_))
        refine norm_ (a' := ?_) ?_ ?_
        rotate_left
        ·simp only [putAll, Act.put, List.setIfInBounds_toArray, List.set_cons_zero, List.set_cons_succ]
         rfl
        refine one_ (i := 15) (N := none) #[true, true, true, true, true, true, true, true, true, true, true, true, true, true, true, true] rfl rfl (one_of HT_.out (by kernel_rfl)) (by decide) (fun K hK => ?_)
        have hs45 : w42.cell? ⟨gb204, 0, none⟩ = some (.slice none 0 0) := (bcl BK204.out 0).trans rfl
        have hfs45 := bfz BK204.out 0
        have hns45_0 := NB186_204.out
        have hns45_1 := NB187_204.out
        have hns45_2 := NB188_204.out
        have hms45_0 := NB204_186.out
        have hms45_1 := NB204_187.out
        have hms45_2 := NB204_188.out
        have hs46 : w42.cell? ⟨gb204, 1, none⟩ = some (.slice none 0 0) := (bcl BK204.out 1).trans rfl
        have hfs46 := bfz BK204.out 1
        have hns46_0 := NB186_204.out
        have hns46_1 := NB187_204.out
        have hns46_2 := NB188_204.out
        have hms46_0 := NB204_186.out
        have hms46_1 := NB204_187.out
        have hms46_2 := NB204_188.out
        have hs47 : w42.cell? ⟨gb204, 2, none⟩ = some (.int .i64 0) := (bcl BK204.out 2).trans rfl
        have hfs47 := bfz BK204.out 2
        have hns47_0 := NB186_204.out
        have hns47_1 := NB187_204.out
        have hns47_2 := NB188_204.out
        have hms47_0 := NB204_186.out
        have hms47_1 := NB204_187.out
        have hms47_2 := NB204_188.out
        refine skip_ (w1 := ?_) (by rfl) rfl ?_ ?_
        rotate_left
        ·go_simp
         rfl
        refine hK.out _ _ ⟨((cell_far (p := ⟨gb204, _, none⟩) NB187_204.out _).trans (((cell_far (p := ⟨gb204, _, none⟩) NB187_204.out _).trans (((cell_far (p := ⟨gb204, _, none⟩) NB187_204.out _).trans (hHeld.1)))))), ((cell_far (p := ⟨gb204, _, none⟩) NB187_204.out _).trans (((cell_far (p := ⟨gb204, _, none⟩) NB187_204.out _).trans (((cell_far (p := ⟨gb204, _, none⟩) NB187_204.out _).trans (hHeld.2.1)))))), ((cell_far (p := ⟨gb204, _, none⟩) NB187_204.out _).trans (((cell_far (p := ⟨gb204, _, none⟩) NB187_204.out _).trans (((cell_far (p := ⟨gb204, _, none⟩) NB187_204.out _).trans (hHeld.2.2.1)))))), ((cell_far (p := ⟨gb204, _, none⟩) NB187_204.out _).trans (((cell_far (p := ⟨gb204, _, none⟩) NB187_204.out _).trans (((cell_far (p := ⟨gb204, _, none⟩) NB187_204.out _).trans (hHeld.2.2.2.1)))))), ((cell_far (p := ⟨gb204, _, none⟩) NB187_204.out _).trans (((cell_far (p := ⟨gb204, _, none⟩) NB187_204.out _).trans (((cell_far (p := ⟨gb204, _, none⟩) NB187_204.out _).trans (hHeld.2.2.2.2.1)))))), ((cell_far (p := ⟨gb204, _, none⟩) NB186_204.out _).trans (((cell_far (p := ⟨gb204, _, none⟩) NB186_204.out _).trans (((cell_far (p := ⟨gb204, _, none⟩) NB186_204.out _).trans (hHeld.2.2.2.2.2.1)))))), ((cell_far (p := ⟨gb204, _, none⟩) NB186_204.out _).trans (((cell_far (p := ⟨gb204, _, none⟩) NB186_204.out _).trans (((cell_far (p := ⟨gb204, _, none⟩) NB186_204.out _).trans (hHeld.2.2.2.2.2.2.1)))))), ((cell_far (p := ⟨gb204, _, none⟩) NB186_204.out _).trans (((cell_far (p := ⟨gb204, _, none⟩) NB186_204.out _).trans (((cell_far (p := ⟨gb204, _, none⟩) NB186_204.out _).trans (hHeld.2.2.2.2.2.2.2))))))⟩ (fun hHeld => ?_)
        clear hK K
        refine done_ (done_of HT_.out (by kernel_rfl)) ?_
        have n0_ : Ad (Kd.R k35 35 (((w42.setCell ⟨gb204, 0, none⟩ (.slice Ao44 y198.length co44)).setCell ⟨gb204, 1, none⟩ (.slice Ao43 y201.length co43)).setCell ⟨gb204, 2, none⟩ (.int .i64 ji29)) w.heap.size (fun _ => True) (.slice Ao44 y198.length co44) y198) := ⟨by (with_reducible repeat (first | apply Kd.R_alloc | apply Kd.R_drewN | apply Kd.R_drew)); exact Kd.R_mono (Kd.R_far (p := ⟨gb204, 2, none⟩) (Kd.R_far (p := ⟨gb204, 1, none⟩) (Kd.R_far (p := ⟨gb204, 0, none⟩) (Kd.R_types HO200.out BK204.out (by decide)) (fun _ hk => hk.2) (.slice Ao44 y198.length co44)) (fun _ hk => hk.2) (.slice Ao43 y201.length co43)) (fun _ hk => hk.2) (.int .i64 ji29)) (fun _ hk => trivial)⟩
        have n1_ : Ad (Kd.R (Kd.int .i64) 3 (((w42.setCell ⟨gb204, 0, none⟩ (.slice Ao44 y198.length co44)).setCell ⟨gb204, 1, none⟩ (.slice Ao43 y201.length co43)).setCell ⟨gb204, 2, none⟩ (.int .i64 ji29)) w.heap.size (fun _ => True) (.slice Ao43 y201.length co43) y201) := ⟨by (with_reducible repeat (first | apply Kd.R_alloc | apply Kd.R_drewN | apply Kd.R_drew)); exact Kd.R_mono (Kd.R_far (p := ⟨gb204, 2, none⟩) (Kd.R_far (p := ⟨gb204, 1, none⟩) (Kd.R_far (p := ⟨gb204, 0, none⟩) (Kd.R_types HO203.out BK204.out (by decide)) (fun _ hk => hk.2) (.slice Ao44 y198.length co44)) (fun _ hk => hk.2) (.slice Ao43 y201.length co43)) (fun _ hk => hk.2) (.int .i64 ji29)) (fun _ hk => trivial)⟩
        have n2_ : Ad ((((w42.setCell ⟨gb204, 0, none⟩ (.slice Ao44 y198.length co44)).setCell ⟨gb204, 1, none⟩ (.slice Ao43 y201.length co43)).setCell ⟨gb204, 2, none⟩ (.int .i64 ji29)).heap[gb186]? = some (.cells #[.slice A0_0 l0_0.length c0_0, .slice A0_1 l0_1.length c0_1, .int .i64 a0_2] 25 (0, 0))) := ⟨by (with_reducible repeat (first | refine bdN ?_ _ | refine bdD ?_ | refine blk_alloc ?_ _)); refine blk_far ?_ NB186_204.out _; (with_reducible repeat (first | refine bdN ?_ _ | refine bdD ?_ | refine blk_alloc ?_ _)); refine blk_far ?_ NB186_204.out _; (with_reducible repeat (first | refine bdN ?_ _ | refine bdD ?_ | refine blk_alloc ?_ _)); refine blk_far ?_ NB186_204.out _; (with_reducible repeat (first | refine bdN ?_ _ | refine bdD ?_ | refine blk_alloc ?_ _)); exact BK186.out⟩
        have n3_ : Ad ((((w42.setCell ⟨gb204, 0, none⟩ (.slice Ao44 y198.length co44)).setCell ⟨gb204, 1, none⟩ (.slice Ao43 y201.length co43)).setCell ⟨gb204, 2, none⟩ (.int .i64 ji29)).heap[gb187]? = some (.cells #[.slice A1_0 l1_0.length c1_0, .slice A1_1 l1_1.length c1_1, .slice A1_2 l1_2.length c1_2, .slice A1_3 l1_3.length c1_3, .int .i64 a1_4] 32 (0, 0))) := ⟨by (with_reducible repeat (first | refine bdN ?_ _ | refine bdD ?_ | refine blk_alloc ?_ _)); refine blk_far ?_ NB187_204.out _; (with_reducible repeat (first | refine bdN ?_ _ | refine bdD ?_ | refine blk_alloc ?_ _)); refine blk_far ?_ NB187_204.out _; (with_reducible repeat (first | refine bdN ?_ _ | refine bdD ?_ | refine blk_alloc ?_ _)); refine blk_far ?_ NB187_204.out _; (with_reducible repeat (first | refine bdN ?_ _ | refine bdD ?_ | refine blk_alloc ?_ _)); exact BK187.out⟩
        have n4_ : Ad ((((w42.setCell ⟨gb204, 0, none⟩ (.slice Ao44 y198.length co44)).setCell ⟨gb204, 1, none⟩ (.slice Ao43 y201.length co43)).setCell ⟨gb204, 2, none⟩ (.int .i64 ji29)).heap[gb188]? = some (.cells #[.slice none 0 0, .slice none 0 0, .int .i64 0] 25 (0, 0))) := ⟨by (with_reducible repeat (first | refine bdN ?_ _ | refine bdD ?_ | refine blk_alloc ?_ _)); refine blk_far ?_ NB188_204.out _; (with_reducible repeat (first | refine bdN ?_ _ | refine bdD ?_ | refine blk_alloc ?_ _)); refine blk_far ?_ NB188_204.out _; (with_reducible repeat (first | refine bdN ?_ _ | refine bdD ?_ | refine blk_alloc ?_ _)); refine blk_far ?_ NB188_204.out _; (with_reducible repeat (first | refine bdN ?_ _ | refine bdD ?_ | refine blk_alloc ?_ _)); exact BK188.out⟩
        have n5_ : Ad ((((w42.setCell ⟨gb204, 0, none⟩ (.slice Ao44 y198.length co44)).setCell ⟨gb204, 1, none⟩ (.slice Ao43 y201.length co43)).setCell ⟨gb204, 2, none⟩ (.int .i64 ji29)).heap[gb204]? = some (.cells #[.slice Ao44 y198.length co44, .slice Ao43 y201.length co43, .int .i64 ji29] 25 (0, 0))) := ⟨by (with_reducible repeat (first | refine bdN ?_ _ | refine bdD ?_ | refine blk_alloc ?_ _)); refine blk_put (cs := #[.slice Ao44 y198.length co44, .slice Ao43 y201.length co43, .int .i64 0]) ?_ 2 _ rfl; (with_reducible repeat (first | refine bdN ?_ _ | refine bdD ?_ | refine blk_alloc ?_ _)); refine blk_put (cs := #[.slice Ao44 y198.length co44, .slice none 0 0, .int .i64 0]) ?_ 1 _ rfl; (with_reducible repeat (first | refine bdN ?_ _ | refine bdD ?_ | refine blk_alloc ?_ _)); refine blk_put (cs := #[.slice none 0 0, .slice none 0 0, .int .i64 0]) ?_ 0 _ rfl; (with_reducible repeat (first | refine bdN ?_ _ | refine bdD ?_ | refine blk_alloc ?_ _)); exact BK204.out⟩
        have n6_ : Ad (Below w.heap.size w (((w42.setCell ⟨gb204, 0, none⟩ (.slice Ao44 y198.length co44)).setCell ⟨gb204, 1, none⟩ (.slice Ao43 y201.length co43)).setCell ⟨gb204, 2, none⟩ (.int .i64 ji29))) := ⟨by repeat (first | (with_reducible first | exact HB.out | apply blA | apply blN | apply blD | refine blS ?_ GE186.out | refine blS ?_ GE187.out | refine blS ?_ GE188.out | refine blS ?_ GE204.out) | exact HB.out)⟩
        (try clear HO200)
        (try clear HO203)
        (try clear BK186)
        (try clear BK187)
        (try clear BK188)
        (try clear BK204)
        (try clear HB)
        generalize (((w42.setCell ⟨gb204, 0, none⟩ (.slice Ao44 y198.length co44)).setCell ⟨gb204, 1, none⟩ (.slice Ao43 y201.length co43)).setCell ⟨gb204, 2, none⟩ (.int .i64 ji29)) = w48 at n0_ n1_ n2_ n3_ n4_ n5_ n6_ ⊢
        have HO200 := n0_
        have HO203 := n1_
        have BK186 := n2_
        have BK187 := n3_
        have BK188 := n4_
        have BK204 := n5_
        have HB := n6_
        clear n0_ n1_ n2_ n3_ n4_ n5_ n6_
        have hnb49 := NB204_186.out
        have hnc49 := NB186_204.out
        have hnb50 := NB204_187.out
        have hnc50 := NB187_204.out
        have hnb51 := NB204_188.out
        have hnc51 := NB188_204.out
        have hcz52_0 : w48.cell? ⟨gb204, 0, none⟩ = some (.slice Ao44 y198.length co44) := (bcl BK204.out 0).trans rfl
        have hcz52_1 : w48.cell? ⟨gb204, 1, none⟩ = some (.slice Ao43 y201.length co43) := (bcl BK204.out 1).trans rfl
        have hcz52_2 : w48.cell? ⟨gb204, 2, none⟩ = some (.int .i64 ji29) := (bcl BK204.out 2).trans rfl
        have hfz52_0 := bfz BK204.out 0
        have hfz52_1 := bfz BK204.out 1
        have hfz52_2 := bfz BK204.out 2
        try go_wp2_with (first | ((with_reducible refine gate_callee (f := 26) rfl ?_); refine goesL_ (some 56) rfl rfl Try.func26 (by kernel_rfl) rfl #[.slice Ao44 y198.length co44, .func (.func 27) #[] #[]] rfl (by (try simp only [List.map_toArray, List.map_cons, List.map_nil]); first | done | rfl | (simp only [List.length_drop, List.length_take]; rfl)) ?_; (with_reducible refine (api_Meta_26.calls kj6 (fun k_ => some k_ = (.slice Ao44 y198.length co44 : Value).ownBlock) (.slice Ao44 y198.length co44) y198 t205 w _ ?side1 ?side2 A30.out).mono ?_); (case side1 => repeat (first | (with_reducible first | exact HB.out | apply blA | apply blN | apply blD | refine blS ?_ GE186.out | refine blS ?_ GE187.out | refine blS ?_ GE188.out | refine blS ?_ GE204.out) | exact HB.out)); (case side2 => exact Kd.R_tight rfl HO200.out); rintro e w53 ⟨rfl, hy0, hb, hkp⟩; refine ⟨_, rfl, ?_⟩; have n0_ := Ad.mk (blk_kept (by (with_reducible repeat (first | refine bdN ?_ _ | refine bdD ?_ | refine blk_alloc ?_ _)); exact BK186.out) hkp (fun hs_ => (fun e_ => (Kd.R_ne HO200.out BK186.out (by decide)) e_) hs_)); have n1_ := Ad.mk (blk_kept (by (with_reducible repeat (first | refine bdN ?_ _ | refine bdD ?_ | refine blk_alloc ?_ _)); exact BK187.out) hkp (fun hs_ => (fun e_ => (Kd.R_ne HO200.out BK187.out (by decide)) e_) hs_)); have n2_ := Ad.mk (blk_kept (by (with_reducible repeat (first | refine bdN ?_ _ | refine bdD ?_ | refine blk_alloc ?_ _)); exact BK188.out) hkp (fun hs_ => (fun e_ => (Kd.R_ne HO200.out BK188.out (by decide)) e_) hs_)); have n3_ := Ad.mk (Kd.R_reok rfl hy0 (fun k_ e_ => HO200.out.1 k_ e_)); have n4_ := Ad.mk (Kd.R_mono (ok' := fun k_ => True) (Kd.R_keptB ((Kd.R_apart' HO203.out (Kd.R_typed HO200.out) (by decide))) hkp (fun k_ hk_ hs_ => (hk_.2) hs_)) (fun k_ hk_ => trivial)); have n5_ := Ad.mk (blk_kept (by (with_reducible repeat (first | refine bdN ?_ _ | refine bdD ?_ | refine blk_alloc ?_ _)); exact BK204.out) hkp (fun hs_ => (fun e_ => (Kd.R_ne HO200.out BK204.out (by decide)) e_) hs_)); have n6_ := Ad.mk (hb); clear BK186; clear BK187; clear BK188; clear HO200; clear HO203; clear BK204; clear HB; have BK186 := n0_; have BK187 := n1_; have BK188 := n2_; have HO200 := n3_; have HO203 := n4_; have BK204 := n5_; have HB := n6_; clear n0_ n1_ n2_ n3_ n4_ n5_ n6_; (try clear hb); (try clear hkp); (try clear hy0); have hcz54_0 : w53.cell? ⟨gb204, 0, none⟩ = some (.slice Ao44 y198.length co44) := (bcl BK204.out 0).trans rfl; have hcz54_1 : w53.cell? ⟨gb204, 1, none⟩ = some (.slice Ao43 y201.length co43) := (bcl BK204.out 1).trans rfl; have hcz54_2 : w53.cell? ⟨gb204, 2, none⟩ = some (.int .i64 ji29) := (bcl BK204.out 2).trans rfl; have hfz54_0 := bfz BK204.out 0; have hfz54_1 := bfz BK204.out 1; have hfz54_2 := bfz BK204.out 2) | ((with_reducible refine gate_callee (f := 29) rfl ?_); refine goesL_ (some 59) rfl rfl Try.func29 (by kernel_rfl) rfl #[.agg #[.slice Ao44 t205.length co44, .slice Ao43 y201.length co43, .int .i64 ji29]] rfl (by (try simp only [List.map_toArray, List.map_cons, List.map_nil]); first | done | (rw [show t205.length = y198.length from (Kd.R_reads' HO200.out).1.symm] <;> rfl) | (simp only [hji29]; rfl) | rfl | (simp only [List.length_drop, List.length_take]; rfl)) ?_; (with_reducible refine (version_ids.calls kj6 _ _ t205 _ _ y201 ji29 t206 _ ?side1 ?side2 ?side3 ?side4 A31.out).mono ?_); (case side1 => repeat (first | exact (Kd.R_reads' HO200.out).2.2 | (with_reducible refine Kd.C_alloc ?_ _) | (with_reducible refine Kd.C_drewN ?_ _) | (with_reducible refine Kd.C_drew ?_))); (case side2 => rw [show t205.length = y198.length from (Kd.R_reads' HO200.out).1.symm]; exact (Kd.R_reads' HO200.out).2.1); (case side3 => repeat (first | exact (Kd.R_reads' HO203.out).2.2 | (with_reducible refine Kd.C_alloc ?_ _) | (with_reducible refine Kd.C_drewN ?_ _) | (with_reducible refine Kd.C_drew ?_))); (case side4 => exact (Kd.R_reads' HO203.out).2.1); rintro e w55 ⟨v207, rfl, ho0, hb⟩; refine ⟨_, rfl, ?_⟩; have n0_ := Ad.mk (Kd.R_below (by (with_reducible repeat (first | apply Kd.R_alloc | apply Kd.R_drewN | apply Kd.R_drew)); exact HO200.out) hb); have n1_ := Ad.mk (Kd.R_elder' (by (with_reducible repeat (first | apply Kd.R_alloc | apply Kd.R_drewN | apply Kd.R_drew)); exact HO203.out) (Kd.R_base ho0) hb); have n2_ := Ad.mk (Kd.R_lower (Kd.R_new' ho0 (Kd.R_lt (by (with_reducible repeat (first | apply Kd.R_alloc | apply Kd.R_drewN | apply Kd.R_drew)); exact HO203.out))) (blz (by repeat (first | (with_reducible first | exact HB.out | apply blA | apply blN | apply blD | refine blS ?_ GE186.out | refine blS ?_ GE187.out | refine blS ?_ GE188.out | refine blS ?_ GE204.out) | exact HB.out)))); have n3_ := Ad.mk (bbl (g := gb186) (o := .cells #[.slice A0_0 l0_0.length c0_0, .slice A0_1 l0_1.length c0_1, .int .i64 a0_2] 25 (0, 0)) (by (with_reducible repeat (first | refine bdN ?_ _ | refine bdD ?_ | refine blk_alloc ?_ _)); exact BK186.out) hb); have n4_ := Ad.mk (bbl (g := gb187) (o := .cells #[.slice A1_0 l1_0.length c1_0, .slice A1_1 l1_1.length c1_1, .slice A1_2 l1_2.length c1_2, .slice A1_3 l1_3.length c1_3, .int .i64 a1_4] 32 (0, 0)) (by (with_reducible repeat (first | refine bdN ?_ _ | refine bdD ?_ | refine blk_alloc ?_ _)); exact BK187.out) hb); have n5_ := Ad.mk (bbl (g := gb188) (o := .cells #[.slice none 0 0, .slice none 0 0, .int .i64 0] 25 (0, 0)) (by (with_reducible repeat (first | refine bdN ?_ _ | refine bdD ?_ | refine blk_alloc ?_ _)); exact BK188.out) hb); have n6_ := Ad.mk (bbl (g := gb204) (o := .cells #[.slice Ao44 y198.length co44, .slice Ao43 y201.length co43, .int .i64 ji29] 25 (0, 0)) (by (with_reducible repeat (first | refine bdN ?_ _ | refine bdD ?_ | refine blk_alloc ?_ _)); exact BK204.out) hb); have n7_ := Ad.mk (bls (by repeat (first | (with_reducible first | exact HB.out | apply blA | apply blN | apply blD | refine blS ?_ GE186.out | refine blS ?_ GE187.out | refine blS ?_ GE188.out | refine blS ?_ GE204.out) | exact HB.out)) hb); clear HO200; clear HO203; clear BK186; clear BK187; clear BK188; clear BK204; clear HB; have HO200 := n0_; have HO203 := n1_; have HO208 := n2_; have BK186 := n3_; have BK187 := n4_; have BK188 := n5_; have BK204 := n6_; have HB := n7_; clear n0_ n1_ n2_ n3_ n4_ n5_ n6_ n7_; (try clear hb); (try clear hb2); (try clear hk); (try clear hi); (try clear ho0); obtain ⟨Ao56, co56, eo56⟩ := Kd.R_slice HO208.out; subst eo56) | ((with_reducible refine gate_callee (f := 28) rfl ?_); refine goesL_ (some 60) rfl rfl Try.func28 (by kernel_rfl) rfl #[.slice Ao56 t206.length co56] rfl (by (try simp only [List.map_toArray, List.map_cons, List.map_nil]); first | done | rfl | (simp only [List.length_drop, List.length_take]; rfl)) ?_; (with_reducible refine (version_twice.calls _ _ t206 true _ ?side1 ?side2 A32.out).mono ?_); (case side1 => repeat (first | exact (Kd.R_reads' HO208.out).2.2 | (with_reducible refine Kd.C_alloc ?_ _) | (with_reducible refine Kd.C_drewN ?_ _) | (with_reducible refine Kd.C_drew ?_))); (case side2 => exact (Kd.R_reads' HO208.out).2.1); rintro e w57 ⟨rfl, hb⟩; refine ⟨_, rfl, ?_⟩; have n0_ := Ad.mk (Kd.R_below (by (with_reducible repeat (first | apply Kd.R_alloc | apply Kd.R_drewN | apply Kd.R_drew)); exact HO200.out) hb); have n1_ := Ad.mk (Kd.R_below (by (with_reducible repeat (first | apply Kd.R_alloc | apply Kd.R_drewN | apply Kd.R_drew)); exact HO203.out) hb); have n2_ := Ad.mk (Kd.R_below (by (with_reducible repeat (first | apply Kd.R_alloc | apply Kd.R_drewN | apply Kd.R_drew)); exact HO208.out) hb); have n3_ := Ad.mk (bbl (g := gb186) (o := .cells #[.slice A0_0 l0_0.length c0_0, .slice A0_1 l0_1.length c0_1, .int .i64 a0_2] 25 (0, 0)) (by (with_reducible repeat (first | refine bdN ?_ _ | refine bdD ?_ | refine blk_alloc ?_ _)); exact BK186.out) hb); have n4_ := Ad.mk (bbl (g := gb187) (o := .cells #[.slice A1_0 l1_0.length c1_0, .slice A1_1 l1_1.length c1_1, .slice A1_2 l1_2.length c1_2, .slice A1_3 l1_3.length c1_3, .int .i64 a1_4] 32 (0, 0)) (by (with_reducible repeat (first | refine bdN ?_ _ | refine bdD ?_ | refine blk_alloc ?_ _)); exact BK187.out) hb); have n5_ := Ad.mk (bbl (g := gb188) (o := .cells #[.slice none 0 0, .slice none 0 0, .int .i64 0] 25 (0, 0)) (by (with_reducible repeat (first | refine bdN ?_ _ | refine bdD ?_ | refine blk_alloc ?_ _)); exact BK188.out) hb); have n6_ := Ad.mk (bbl (g := gb204) (o := .cells #[.slice Ao44 y198.length co44, .slice Ao43 y201.length co43, .int .i64 ji29] 25 (0, 0)) (by (with_reducible repeat (first | refine bdN ?_ _ | refine bdD ?_ | refine blk_alloc ?_ _)); exact BK204.out) hb); have n7_ := Ad.mk (bls (by repeat (first | (with_reducible first | exact HB.out | apply blA | apply blN | apply blD | refine blS ?_ GE186.out | refine blS ?_ GE187.out | refine blS ?_ GE188.out | refine blS ?_ GE204.out) | exact HB.out)) hb); clear HO200; clear HO203; clear HO208; clear BK186; clear BK187; clear BK188; clear BK204; clear HB; have HO200 := n0_; have HO203 := n1_; have HO208 := n2_; have BK186 := n3_; have BK187 := n4_; have BK188 := n5_; have BK204 := n6_; have HB := n7_; clear n0_ n1_ n2_ n3_ n4_ n5_ n6_ n7_; (try clear hb); (try clear hb2); (try clear hk); (try clear hi); have hnb58 := NB188_186.out; have hnc58 := NB186_188.out; have hnb59 := NB188_187.out; have hnc59 := NB187_188.out; have hcz60_0 : w57.cell? ⟨gb188, 0, none⟩ = some (.slice none 0 0) := (bcl BK188.out 0).trans rfl; have hcz60_1 : w57.cell? ⟨gb188, 1, none⟩ = some (.slice none 0 0) := (bcl BK188.out 1).trans rfl; have hcz60_2 : w57.cell? ⟨gb188, 2, none⟩ = some (.int .i64 0) := (bcl BK188.out 2).trans rfl; have hfz60_0 := bfz BK188.out 0; have hfz60_1 := bfz BK188.out 1; have hfz60_2 := bfz BK188.out 2))
        refine bodyPost_ret (results_ct rfl _ _ gb188 25 #[.slice none 0 0, .slice none 0 0, .int .i64 0] (0, 0) _ rfl (by (with_reducible repeat (first | refine bdN ?_ _ | refine bdD ?_ | refine blk_alloc ?_ _)); refine blk_put (cs := #[.slice none 0 0, .slice none 0 0, .int .i64 0]) ?_ 2 _ rfl; (with_reducible repeat (first | refine bdN ?_ _ | refine bdD ?_ | refine blk_alloc ?_ _)); refine blk_put (cs := #[.slice none 0 0, .slice none 0 0, .int .i64 0]) ?_ 1 _ rfl; (with_reducible repeat (first | refine bdN ?_ _ | refine bdD ?_ | refine blk_alloc ?_ _)); refine blk_put (cs := #[.slice none 0 0, .slice none 0 0, .int .i64 0]) ?_ 0 _ rfl; (with_reducible repeat (first | refine bdN ?_ _ | refine bdD ?_ | refine blk_alloc ?_ _)); exact BK188.out) Try.underlying25 rfl (by kernel_rfl)) rfl ?_
        exact ⟨_, _, by first | rfl | (simp [errW_none, errW_some] <;> rfl) | (simp only [← hji29]; first | rfl | (simp [errW_none, errW_some] <;> rfl)) | (simp [*, errW_none, errW_some] <;> rfl), by first | exact Kd.R_nil _ _ _ _ _ | exact Kd.N_nil _ _ _ _ _ | exact Kd.V_nil _ _ _ _ _ | exact Kd.Q_nil _ _ _ _ _ | exact Kd.S_nil _ _ _ _ _, by first | exact Kd.R_nil _ _ _ _ _ | exact Kd.N_nil _ _ _ _ _ | exact Kd.V_nil _ _ _ _ _ | exact Kd.Q_nil _ _ _ _ _ | exact Kd.S_nil _ _ _ _ _, by repeat (first | (with_reducible first | exact HB.out | apply blA | apply blN | apply blD | refine blS ?_ GE186.out | refine blS ?_ GE187.out | refine blS ?_ GE188.out | refine blS ?_ GE204.out) | exact HB.out)⟩
       ·replace c33 := Bool.eq_false_iff.mpr c33
        subst c33
        have H1 : ((version_Right.f kj6 t205 y201 (ji29)).bind fun t210 => (if t210 = true then (some (t205, y201, ji29, none)) else (some (([] : List (S35)), ([] : List Int), 0, some 1)))) = some (r1, r2, r3, r4) := by rw [if_neg (show ¬ (false = true) by decide)] at H; exact H
        clear H
        have H := H1
        clear H1
        replace H := Option.bind_eq_some_iff.mp H
        obtain ⟨t210, A610, H⟩ := H
        replace H : (if t210 = true then (some (t205, y201, ji29, none)) else (some (([] : List (S35)), ([] : List Int), 0, some 1))) = some (r1, r2, r3, r4) := H
        have A61 := Ad.mk A610
        clear A610
        by_cases c62 : t210 = true
        ·subst c62
         have H1 : (some (t205, y201, ji29, none)) = some (r1, r2, r3, r4) := by rw [if_pos rfl] at H; exact H
         clear H
         have H := H1
         clear H1
         simp only [Option.some.injEq, Prod.mk.injEq] at H
         obtain ⟨rfl, rfl, rfl, rfl⟩ := H
         obtain ⟨Ao63, co63, eo63⟩ := Kd.R_slice HO_6.out
         subst eo63
         obtain ⟨Ao64, co64, eo64⟩ := Kd.R_slice HO_8.out
         subst eo64
         try go_wp2
         have n0_ := Ad.mk (Kd.R_drew HO_6.out)
         have n1_ := Ad.mk (Kd.R_drew HO_8.out)
         have n2_ := Ad.mk (bdD BK186.out)
         have n3_ := Ad.mk (bdD BK187.out)
         have n4_ := Ad.mk (bdD BK188.out)
         have n5_ := Ad.mk (blD HB.out)
         clear HO_6
         clear HO_8
         clear BK186
         clear BK187
         clear BK188
         clear HB
         have HO_6 := n0_
         have HO_8 := n1_
         have BK186 := n2_
         have BK187 := n3_
         have BK188 := n4_
         have HB := n5_
         clear n0_ n1_ n2_ n3_ n4_ n5_
         refine start_ (n := 16) (S := fun w' => w'.cell? ⟨gb187, 0, none⟩ = some (.slice A1_0 l1_0.length c1_0) ∧ w'.cell? ⟨gb187, 1, none⟩ = some (.slice A1_1 l1_1.length c1_1) ∧ w'.cell? ⟨gb187, 2, none⟩ = some (.slice A1_2 l1_2.length c1_2) ∧ w'.cell? ⟨gb187, 3, none⟩ = some (.slice A1_3 l1_3.length c1_3) ∧ w'.cell? ⟨gb187, 4, none⟩ = some (.int .i64 a1_4) ∧ w'.cell? ⟨gb186, 0, none⟩ = some (.slice A0_0 l0_0.length c0_0) ∧ w'.cell? ⟨gb186, 1, none⟩ = some (.slice A0_1 l0_1.length c0_1) ∧ w'.cell? ⟨gb186, 2, none⟩ = some (.int .i64 a0_2)) (ds := []) #[false, false, false, false, false, false, false, false, false, false, false, false, false, false, false, false] (by kernel_rfl) rfl rfl ⟨(bcl BK187.out 0).trans rfl, (bcl BK187.out 1).trans rfl, (bcl BK187.out 2).trans rfl, (bcl BK187.out 3).trans rfl, (bcl BK187.out 4).trans rfl, (bcl BK186.out 0).trans rfl, (bcl BK186.out 1).trans rfl, (bcl BK186.out 2).trans rfl⟩ (fun hHeld => ?_); refine with_tabW version_Apply.tab7 version_Apply.bits7 (fun HT_ HW_ => ?_)
         generalize wc.drew = w65 at HO_6 HO_8 BK186 BK187 BK188 HB hHeld ⊢
         refine pure_ (i := 0) (N := some 40) (v := ?_) (a' := ?_) #[true, false, false, false, false, false, false, false, false, false, false, false, false, false, false, false] rfl rfl (any_of HT_.out (by kernel_rfl)) (fun _ _ _ h => h) (Or.inl ⟨by rfl, ?_⟩) ?_ ?_
         rotate_left
         ·intro w'
          go_simp
          with_reducible rfl
         rotate_left
         ·simp only [Act.put, List.setIfInBounds_toArray, List.set_cons_zero, List.set_cons_succ, i64_w, i32_w]
          rfl
         refine pure_ (i := 1) (N := some 41) (v := ?_) (a' := ?_) #[true, true, false, false, false, false, false, false, false, false, false, false, false, false, false, false] rfl rfl (any_of HT_.out (by kernel_rfl)) (fun _ _ _ h => h) (Or.inl ⟨by rfl, ?_⟩) ?_ ?_
         rotate_left
         ·intro w'
          go_simp
          with_reducible rfl
         rotate_left
         ·simp only [Act.put, List.setIfInBounds_toArray, List.set_cons_zero, List.set_cons_succ, i64_w, i32_w]
          rfl
         refine pure_ (i := 4) (N := some 44) (v := ?_) (a' := ?_) #[true, true, false, false, true, false, false, false, false, false, false, false, false, false, false, false] rfl rfl (any_of HT_.out (by kernel_rfl)) (fun _ _ _ h => h) (Or.inl ⟨by rfl, ?_⟩) ?_ ?_
         rotate_left
         ·intro w'
          go_simp
          with_reducible rfl
         rotate_left
         ·simp only [Act.put, List.setIfInBounds_toArray, List.set_cons_zero, List.set_cons_succ, i64_w, i32_w]
          rfl
         refine pure_ (i := 5) (N := some 45) (v := ?_) (a' := ?_) #[true, true, false, false, true, true, false, false, false, false, false, false, false, false, false, false] rfl rfl (any_of HT_.out (by kernel_rfl)) (fun _ _ _ h => h) (Or.inl ⟨by rfl, ?_⟩) ?_ ?_
         rotate_left
         ·intro w'
          go_simp
          with_reducible rfl
         rotate_left
         ·simp only [Act.put, List.setIfInBounds_toArray, List.set_cons_zero, List.set_cons_succ, i64_w, i32_w]
          rfl
         refine pure_ (i := 8) (N := some 48) (v := ?_) (a' := ?_) #[true, true, false, false, true, true, false, false, true, false, false, false, false, false, false, false] rfl rfl (any_of HT_.out (by kernel_rfl)) (fun _ _ _ h => h) (Or.inl ⟨by rfl, ?_⟩) ?_ ?_
         rotate_left
         ·intro w'
          go_simp
          with_reducible rfl
         rotate_left
         ·simp only [Act.put, List.setIfInBounds_toArray, List.set_cons_zero, List.set_cons_succ, i64_w, i32_w]
          rfl
         refine pure_ (i := 10) (N := some 50) (v := ?_) (a' := ?_) #[true, true, false, false, true, true, false, false, true, false, true, false, false, false, false, false] rfl rfl (any_of HT_.out (by kernel_rfl)) (fun _ _ _ h => h) (Or.inl ⟨by rfl, ?_⟩) ?_ ?_
         rotate_left
         ·intro w'
          go_simp
          with_reducible rfl
         rotate_left
         ·simp only [Act.put, List.setIfInBounds_toArray, List.set_cons_zero, List.set_cons_succ, i64_w, i32_w]
          rfl
         refine take_ (i := 2) (N := some 42) (v := ?_) (a' := ?_) #[true, true, true, false, true, true, false, false, true, false, true, false, false, false, false, false] rfl rfl (take_ofW HT_.out HW_.out (by kernel_rfl)) (fun _ _ _ h => h) (Or.inl ⟨by rfl, ?_⟩) hHeld ?_ ?_
         rotate_left
         ·rintro w' ⟨s0, s1, s2, s3, s4, s5, s6, s7⟩
          go_simp
          with_reducible rfl
         rotate_left
         ·simp only [Act.put, List.setIfInBounds_toArray, List.set_cons_zero, List.set_cons_succ, i64_w, i32_w]
          rfl
         refine take_ (i := 6) (N := some 46) (v := ?_) (a' := ?_) #[true, true, true, false, true, true, true, false, true, false, true, false, false, false, false, false] rfl rfl (take_ofW HT_.out HW_.out (by kernel_rfl)) (fun _ _ _ h => h) (Or.inl ⟨by rfl, ?_⟩) hHeld ?_ ?_
         rotate_left
         ·rintro w' ⟨s0, s1, s2, s3, s4, s5, s6, s7⟩
          go_simp
          with_reducible rfl
         rotate_left
         ·simp only [Act.put, List.setIfInBounds_toArray, List.set_cons_zero, List.set_cons_succ, i64_w, i32_w]
          rfl
         refine take_ (i := 9) (N := some 49) (v := ?_) (a' := ?_) #[true, true, true, false, true, true, true, false, true, true, true, false, false, false, false, false] rfl rfl (take_ofW HT_.out HW_.out (by kernel_rfl)) (fun _ _ _ h => h) (Or.inl ⟨by rfl, ?_⟩) hHeld ?_ ?_
         rotate_left
         ·rintro w' ⟨s0, s1, s2, s3, s4, s5, s6, s7⟩
          go_simp
          with_reducible rfl
         rotate_left
         ·simp only [Act.put, List.setIfInBounds_toArray, List.set_cons_zero, List.set_cons_succ, i64_w, i32_w]
          rfl
         refine take_ (i := 11) (N := some 51) (v := ?_) (a' := ?_) #[true, true, true, false, true, true, true, false, true, true, true, true, false, false, false, false] rfl rfl (take_ofW HT_.out HW_.out (by kernel_rfl)) (fun _ _ _ h => h) (Or.inl ⟨by rfl, ?_⟩) hHeld ?_ ?_
         rotate_left
         ·rintro w' ⟨s0, s1, s2, s3, s4, s5, s6, s7⟩
          go_simp
          with_reducible rfl
         rotate_left
         ·simp only [Act.put, List.setIfInBounds_toArray, List.set_cons_zero, List.set_cons_succ, i64_w, i32_w]
          rfl
         refine pure_ (i := 12) (N := some 52) (v := ?_) (a' := ?_) #[true, true, true, false, true, true, true, false, true, true, true, true, true, false, false, false] rfl rfl (any_of HT_.out (by kernel_rfl)) (fun _ _ _ h => h) (Or.inl ⟨by rfl, ?_⟩) ?_ ?_
         rotate_left
         ·intro w'
          go_simp
          with_reducible rfl
         rotate_left
         ·simp only [Act.put, List.setIfInBounds_toArray, List.set_cons_zero, List.set_cons_succ, i64_w, i32_w]
          rfl
         refine join_ (σ := Value × Value × Nat) 1 #[true, true, true, true, true, true, true, true, true, true, true, true, true, true, true, false] (fun s_ => [(43, s_.1), (47, s_.2.1), (10, .pointer (some ⟨s_.2.2, 0, none⟩)), (53, .agg #[s_.1, s_.2.1, .int .i64 ji29])]) (fun s_ w' => (w'.cell? ⟨gb187, 0, none⟩ = some (.slice A1_0 l1_0.length c1_0) ∧ w'.cell? ⟨gb187, 1, none⟩ = some (.slice A1_1 l1_1.length c1_1) ∧ w'.cell? ⟨gb187, 2, none⟩ = some (.slice A1_2 l1_2.length c1_2) ∧ w'.cell? ⟨gb187, 3, none⟩ = some (.slice A1_3 l1_3.length c1_3) ∧ w'.cell? ⟨gb187, 4, none⟩ = some (.int .i64 a1_4) ∧ w'.cell? ⟨gb186, 0, none⟩ = some (.slice A0_0 l0_0.length c0_0) ∧ w'.cell? ⟨gb186, 1, none⟩ = some (.slice A0_1 l0_1.length c0_1) ∧ w'.cell? ⟨gb186, 2, none⟩ = some (.int .i64 a0_2)) ∧ (Kd.R k35 35 w' w.heap.size (fun _ => True) s_.1 y198) ∧ (Kd.R (Kd.int .i64) 3 w' w.heap.size (fun _ => True) s_.2.1 y201) ∧ (w'.heap[gb186]? = some (.cells #[.slice A0_0 l0_0.length c0_0, .slice A0_1 l0_1.length c0_1, .int .i64 a0_2] 25 (0, 0))) ∧ (w'.heap[gb187]? = some (.cells #[.slice A1_0 l1_0.length c1_0, .slice A1_1 l1_1.length c1_1, .slice A1_2 l1_2.length c1_2, .slice A1_3 l1_3.length c1_3, .int .i64 a1_4] 32 (0, 0))) ∧ (w'.heap[gb188]? = some (.cells #[.slice none 0 0, .slice none 0 0, .int .i64 0] 25 (0, 0))) ∧ (w'.heap[s_.2.2]? = some (.cells #[.slice none 0 0, .slice none 0 0, .int .i64 0] 25 (0, 0))) ∧ (w.heap.size ≤ s_.2.2) ∧ (w.heap.size ≤ s_.2.2) ∧ (gb186 ≠ s_.2.2) ∧ (s_.2.2 ≠ gb186) ∧ (gb187 ≠ s_.2.2) ∧ (s_.2.2 ≠ gb187) ∧ (gb188 ≠ s_.2.2) ∧ (s_.2.2 ≠ gb188) ∧ (Below w.heap.size w w')) ?_ ?_
         rotate_left
         ·intro hCont
          refine two_ (i := 3) (j := 14) (Ni := some 43) (Nj := some 10) #[true, true, true, true, true, true, true, false, true, true, true, true, true, false, false, false] #[true, true, true, false, true, true, true, false, true, true, true, true, true, false, true, false] rfl rfl rfl rfl (two_of HT_.out (by kernel_rfl)) (by decide) (by decide) (fun K hK => ?_) (fun K hK => ?_)
          ·skip
           refine Kd.R_append_rows_step k35 (w0 := w) w.heap.size (by rfl) (.tmp 40) (.tmp 42) 22 35 (.agg #[(.int .i64 0), (.int .i64 0), (.string ⟨#[]⟩), (.string ⟨#[]⟩), (.int .i64 0)]) 56 rfl Try.underlying22 info35 rfl (by decide) (by omega) (.slice Ao63 t190.length co63) t190 l1_0 _ _ _ (fun _ => True) (fun _ => False) rfl rfl ?aO ?aR (fun _ _ h => h) (fun _ h => h.elim) ?aF ?aB ?aS ?aL ?_
           (case aR => repeat (first | exact (Kd.C_below HR1_0.out HB.out) | (with_reducible refine Kd.C_alloc ?_ _) | (with_reducible refine Kd.C_drewN ?_ _) | (with_reducible refine Kd.C_drew ?_)))
           (case aB => exact (by repeat (first | (with_reducible first | exact HB.out | apply blA | apply blN | apply blD | refine blS ?_ GE186.out | refine blS ?_ GE187.out | refine blS ?_ GE188.out) | exact HB.out)))
           (case aF => exact (fun _ _ => trivial))
           (case aO => exact (by (with_reducible repeat (first | apply Kd.R_alloc | apply Kd.R_drewN | apply Kd.R_drew)); exact HO_6.out))
           (case aS => exact (blz (by repeat (first | (with_reducible first | exact HB.out | apply blA | apply blN | apply blD | refine blS ?_ GE186.out | refine blS ?_ GE187.out | refine blS ?_ GE188.out) | exact HB.out))))
           (case aL => have := LMc27.out; omega)
           intro v199 w66 ho hb hg hat
           rw [← Ny198.out] at ho
           have n0_ := Ad.mk (Kd.R_over' (by (with_reducible repeat (first | apply Kd.R_alloc | apply Kd.R_drewN | apply Kd.R_drew)); exact HO_8.out) (Kd.R_typed (by (with_reducible repeat (first | apply Kd.R_alloc | apply Kd.R_drewN | apply Kd.R_drew)); exact HO_6.out)) (by decide) hg)
           have n1_ := Ad.mk (blk_grown (g := gb186) (o := .cells #[.slice A0_0 l0_0.length c0_0, .slice A0_1 l0_1.length c0_1, .int .i64 a0_2] 25 (0, 0)) (by (with_reducible repeat (first | refine bdN ?_ _ | refine bdD ?_ | refine blk_alloc ?_ _)); exact BK186.out) hg (Kd.R_ne HO_6.out BK186.out (by decide)))
           have n2_ := Ad.mk (blk_grown (g := gb187) (o := .cells #[.slice A1_0 l1_0.length c1_0, .slice A1_1 l1_1.length c1_1, .slice A1_2 l1_2.length c1_2, .slice A1_3 l1_3.length c1_3, .int .i64 a1_4] 32 (0, 0)) (by (with_reducible repeat (first | refine bdN ?_ _ | refine bdD ?_ | refine blk_alloc ?_ _)); exact BK187.out) hg (Kd.R_ne HO_6.out BK187.out (by decide)))
           have n3_ := Ad.mk (blk_grown (g := gb188) (o := .cells #[.slice none 0 0, .slice none 0 0, .int .i64 0] 25 (0, 0)) (by (with_reducible repeat (first | refine bdN ?_ _ | refine bdD ?_ | refine blk_alloc ?_ _)); exact BK188.out) hg (Kd.R_ne HO_6.out BK188.out (by decide)))
           have n4_ := Ad.mk (hb)
           have n5_ := Ad.mk (ho)
           clear HO_8
           clear BK186
           clear BK187
           clear BK188
           clear HB
           clear HO_6
           have HO_8 := n0_
           have BK186 := n1_
           have BK187 := n2_
           have BK188 := n3_
           have HB := n4_
           have HO200 := n5_
           clear n0_ n1_ n2_ n3_ n4_ n5_
           clear ho hb hg hat
           refine hK.out _ _ ⟨(bcl BK187.out 0).trans rfl, (bcl BK187.out 1).trans rfl, (bcl BK187.out 2).trans rfl, (bcl BK187.out 3).trans rfl, (bcl BK187.out 4).trans rfl, (bcl BK186.out 0).trans rfl, (bcl BK186.out 1).trans rfl, (bcl BK186.out 2).trans rfl⟩ (fun hHeld => ?_)
           clear hK K
           refine norm_ (a' := ?_) ?_ ?_
           rotate_left
           ·show Act.put _ (some 43) _ = _
            simp only [Act.put, List.setIfInBounds_toArray, List.set_cons_zero, List.set_cons_succ, i64_w, i32_w]
            rfl
           refine two_ (i := 7) (j := 14) (Ni := some 47) (Nj := some 10) #[true, true, true, true, true, true, true, true, true, true, true, true, true, false, false, false] #[true, true, true, true, true, true, true, false, true, true, true, true, true, false, true, false] rfl rfl rfl rfl (two_of HT_.out (by kernel_rfl)) (by decide) (by decide) (fun K hK => ?_) (fun K hK => ?_)
           ·skip
            refine Kd.R_append_rows_step (Kd.int .i64) (w0 := w) w.heap.size (by rfl) (.tmp 44) (.tmp 46) 23 3 (.int .i64 0) 8 rfl Try.underlying23 info3 rfl (by decide) (by omega) (.slice Ao64 t194.length co64) t194 l1_2 _ _ _ (fun _ => True) (fun _ => False) rfl rfl ?aO ?aR (fun _ _ h => h) (fun _ h => h.elim) ?aF ?aB ?aS ?aL ?_
            (case aR => repeat (first | exact (Kd.C_below HR1_2.out HB.out) | (with_reducible refine Kd.C_alloc ?_ _) | (with_reducible refine Kd.C_drewN ?_ _) | (with_reducible refine Kd.C_drew ?_)))
            (case aB => exact (by repeat (first | (with_reducible first | exact HB.out | apply blA | apply blN | apply blD | refine blS ?_ GE186.out | refine blS ?_ GE187.out | refine blS ?_ GE188.out) | exact HB.out)))
            (case aF => exact (fun _ _ => trivial))
            (case aO => exact (by (with_reducible repeat (first | apply Kd.R_alloc | apply Kd.R_drewN | apply Kd.R_drew)); exact HO_8.out))
            (case aS => exact (blz (by repeat (first | (with_reducible first | exact HB.out | apply blA | apply blN | apply blD | refine blS ?_ GE186.out | refine blS ?_ GE187.out | refine blS ?_ GE188.out) | exact HB.out))))
            (case aL => have := LMc28.out; omega)
            intro v202 w67 ho hb hg hat
            rw [← Ny201.out] at ho
            have n0_ := Ad.mk (blk_grown (g := gb186) (o := .cells #[.slice A0_0 l0_0.length c0_0, .slice A0_1 l0_1.length c0_1, .int .i64 a0_2] 25 (0, 0)) (by (with_reducible repeat (first | refine bdN ?_ _ | refine bdD ?_ | refine blk_alloc ?_ _)); exact BK186.out) hg (Kd.R_ne HO_8.out BK186.out (by decide)))
            have n1_ := Ad.mk (blk_grown (g := gb187) (o := .cells #[.slice A1_0 l1_0.length c1_0, .slice A1_1 l1_1.length c1_1, .slice A1_2 l1_2.length c1_2, .slice A1_3 l1_3.length c1_3, .int .i64 a1_4] 32 (0, 0)) (by (with_reducible repeat (first | refine bdN ?_ _ | refine bdD ?_ | refine blk_alloc ?_ _)); exact BK187.out) hg (Kd.R_ne HO_8.out BK187.out (by decide)))
            have n2_ := Ad.mk (blk_grown (g := gb188) (o := .cells #[.slice none 0 0, .slice none 0 0, .int .i64 0] 25 (0, 0)) (by (with_reducible repeat (first | refine bdN ?_ _ | refine bdD ?_ | refine blk_alloc ?_ _)); exact BK188.out) hg (Kd.R_ne HO_8.out BK188.out (by decide)))
            have n3_ := Ad.mk (Kd.R_over' (by (with_reducible repeat (first | apply Kd.R_alloc | apply Kd.R_drewN | apply Kd.R_drew)); exact HO200.out) (Kd.R_typed (by (with_reducible repeat (first | apply Kd.R_alloc | apply Kd.R_drewN | apply Kd.R_drew)); exact HO_8.out)) (by decide) hg)
            have n4_ := Ad.mk (hb)
            have n5_ := Ad.mk (ho)
            clear BK186
            clear BK187
            clear BK188
            clear HO200
            clear HB
            clear HO_8
            have BK186 := n0_
            have BK187 := n1_
            have BK188 := n2_
            have HO200 := n3_
            have HB := n4_
            have HO203 := n5_
            clear n0_ n1_ n2_ n3_ n4_ n5_
            clear ho hb hg hat
            obtain ⟨Ao68, co68, eo68⟩ := Kd.R_slice HO203.out
            (first | subst eo68 | (injection eo68 with f1_ f2_ f3_; have f4_ := f1_.symm; have f5_ := f3_.symm; clear f1_ f2_ f3_; subst f4_; subst f5_))
            obtain ⟨Ao69, co69, eo69⟩ := Kd.R_slice HO200.out
            (first | subst eo69 | (injection eo69 with f1_ f2_ f3_; have f4_ := f1_.symm; have f5_ := f3_.symm; clear f1_ f2_ f3_; subst f4_; subst f5_))
            refine hK.out _ _ ⟨(bcl BK187.out 0).trans rfl, (bcl BK187.out 1).trans rfl, (bcl BK187.out 2).trans rfl, (bcl BK187.out 3).trans rfl, (bcl BK187.out 4).trans rfl, (bcl BK186.out 0).trans rfl, (bcl BK186.out 1).trans rfl, (bcl BK186.out 2).trans rfl⟩ (fun hHeld => ?_)
            clear hK K
            refine norm_ (a' := ?_) ?_ ?_
            rotate_left
            ·show Act.put _ (some 47) _ = _
             simp only [Act.put, List.setIfInBounds_toArray, List.set_cons_zero, List.set_cons_succ, i64_w, i32_w]
             rfl
            refine pure_ (i := 13) (N := some 53) (v := ?_) (a' := ?_) #[true, true, true, true, true, true, true, true, true, true, true, true, true, true, false, false] rfl rfl (any_of HT_.out (by kernel_rfl)) (fun _ _ _ h => h) (Or.inl ⟨by rfl, ?_⟩) ?_ ?_
            rotate_left
            ·intro w'
             go_simp
             with_reducible rfl
            rotate_left
            ·simp only [Act.put, List.setIfInBounds_toArray, List.set_cons_zero, List.set_cons_succ, i64_w, i32_w]
             rfl
            refine one_ (i := 14) (N := some 10) #[true, true, true, true, true, true, true, true, true, true, true, true, true, true, true, false] rfl rfl (one_of HT_.out (by kernel_rfl)) (by decide) (fun K hK => ?_)
            refine box_step ?hg (N := 10) ?hd (cs := #[.slice none 0 0, .slice none 0 0, .int .i64 0]) (t := 25) ?hr ?_; (case hd => rfl); (case hg => rfl); (case hr => first | (go_simp; done) | (go_simp; rfl))
            intro gb204 hg w70 hbox hb
            have n0_ := Ad.mk (Kd.R_below (by (with_reducible repeat (first | apply Kd.R_alloc | apply Kd.R_drewN | apply Kd.R_drew)); exact HO200.out) hb)
            have n1_ := Ad.mk (Kd.R_below (by (with_reducible repeat (first | apply Kd.R_alloc | apply Kd.R_drewN | apply Kd.R_drew)); exact HO203.out) hb)
            have n2_ := Ad.mk (bbl (g := gb186) (o := .cells #[.slice A0_0 l0_0.length c0_0, .slice A0_1 l0_1.length c0_1, .int .i64 a0_2] 25 (0, 0)) (by (with_reducible repeat (first | refine bdN ?_ _ | refine bdD ?_ | refine blk_alloc ?_ _)); exact BK186.out) hb)
            have n3_ := Ad.mk (bbl (g := gb187) (o := .cells #[.slice A1_0 l1_0.length c1_0, .slice A1_1 l1_1.length c1_1, .slice A1_2 l1_2.length c1_2, .slice A1_3 l1_3.length c1_3, .int .i64 a1_4] 32 (0, 0)) (by (with_reducible repeat (first | refine bdN ?_ _ | refine bdD ?_ | refine blk_alloc ?_ _)); exact BK187.out) hb)
            have n4_ := Ad.mk (bbl (g := gb188) (o := .cells #[.slice none 0 0, .slice none 0 0, .int .i64 0] 25 (0, 0)) (by (with_reducible repeat (first | refine bdN ?_ _ | refine bdD ?_ | refine blk_alloc ?_ _)); exact BK188.out) hb)
            have n5_ := Ad.mk (bls (by repeat (first | (with_reducible first | exact HB.out | apply blA | apply blN | apply blD | refine blS ?_ GE186.out | refine blS ?_ GE187.out | refine blS ?_ GE188.out) | exact HB.out)) hb)
            have n6_ := Ad.mk (hbox)
            have n7_ := Ad.mk ((by rw [hg]; exact (blz (by repeat (first | (with_reducible first | exact HB.out | apply blA | apply blN | apply blD | refine blS ?_ GE186.out | refine blS ?_ GE187.out | refine blS ?_ GE188.out) | exact HB.out))) : w.heap.size ≤ gb204))
            have n8_ := Ad.mk ((by rw [hg]; exact (blz (by repeat (first | (with_reducible first | exact HB.out | apply blA | apply blN | apply blD | refine blS ?_ GE186.out | refine blS ?_ GE187.out | refine blS ?_ GE188.out) | exact HB.out))) : w.heap.size ≤ gb204))
            have n9_ := Ad.mk ((by rw [hg]; exact Nat.ne_of_lt (blk_lt (g := gb186) (o := .cells #[.slice A0_0 l0_0.length c0_0, .slice A0_1 l0_1.length c0_1, .int .i64 a0_2] 25 (0, 0)) (by (with_reducible repeat (first | refine bdN ?_ _ | refine bdD ?_ | refine blk_alloc ?_ _)); exact BK186.out)) : gb186 ≠ gb204))
            have n10_ := Ad.mk ((by rw [hg]; exact Nat.ne_of_gt (blk_lt (g := gb186) (o := .cells #[.slice A0_0 l0_0.length c0_0, .slice A0_1 l0_1.length c0_1, .int .i64 a0_2] 25 (0, 0)) (by (with_reducible repeat (first | refine bdN ?_ _ | refine bdD ?_ | refine blk_alloc ?_ _)); exact BK186.out)) : gb204 ≠ gb186))
            have n11_ := Ad.mk ((by rw [hg]; exact Nat.ne_of_lt (blk_lt (g := gb187) (o := .cells #[.slice A1_0 l1_0.length c1_0, .slice A1_1 l1_1.length c1_1, .slice A1_2 l1_2.length c1_2, .slice A1_3 l1_3.length c1_3, .int .i64 a1_4] 32 (0, 0)) (by (with_reducible repeat (first | refine bdN ?_ _ | refine bdD ?_ | refine blk_alloc ?_ _)); exact BK187.out)) : gb187 ≠ gb204))
            have n12_ := Ad.mk ((by rw [hg]; exact Nat.ne_of_gt (blk_lt (g := gb187) (o := .cells #[.slice A1_0 l1_0.length c1_0, .slice A1_1 l1_1.length c1_1, .slice A1_2 l1_2.length c1_2, .slice A1_3 l1_3.length c1_3, .int .i64 a1_4] 32 (0, 0)) (by (with_reducible repeat (first | refine bdN ?_ _ | refine bdD ?_ | refine blk_alloc ?_ _)); exact BK187.out)) : gb204 ≠ gb187))
            have n13_ := Ad.mk ((by rw [hg]; exact Nat.ne_of_lt (blk_lt (g := gb188) (o := .cells #[.slice none 0 0, .slice none 0 0, .int .i64 0] 25 (0, 0)) (by (with_reducible repeat (first | refine bdN ?_ _ | refine bdD ?_ | refine blk_alloc ?_ _)); exact BK188.out)) : gb188 ≠ gb204))
            have n14_ := Ad.mk ((by rw [hg]; exact Nat.ne_of_gt (blk_lt (g := gb188) (o := .cells #[.slice none 0 0, .slice none 0 0, .int .i64 0] 25 (0, 0)) (by (with_reducible repeat (first | refine bdN ?_ _ | refine bdD ?_ | refine blk_alloc ?_ _)); exact BK188.out)) : gb204 ≠ gb188))
            clear HO200
            clear HO203
            clear BK186
            clear BK187
            clear BK188
            clear HB
            have HO200 := n0_
            have HO203 := n1_
            have BK186 := n2_
            have BK187 := n3_
            have BK188 := n4_
            have HB := n5_
            have BK204 := n6_
            have GW204 := n7_
            have GE204 := n8_
            have NB186_204 := n9_
            have NB204_186 := n10_
            have NB187_204 := n11_
            have NB204_187 := n12_
            have NB188_204 := n13_
            have NB204_188 := n14_
            clear n0_ n1_ n2_ n3_ n4_ n5_ n6_ n7_ n8_ n9_ n10_ n11_ n12_ n13_ n14_
            clear hb hbox hg
            refine hK.out _ _ ⟨(bcl BK187.out 0).trans rfl, (bcl BK187.out 1).trans rfl, (bcl BK187.out 2).trans rfl, (bcl BK187.out 3).trans rfl, (bcl BK187.out 4).trans rfl, (bcl BK186.out 0).trans rfl, (bcl BK186.out 1).trans rfl, (bcl BK186.out 2).trans rfl⟩ (fun hHeld => ?_)
            clear hK K
            refine norm_ (a' := ?_) ?_ ?_
            rotate_left
            ·show Act.put _ (some 10) _ = _
             simp only [Act.put, List.setIfInBounds_toArray, List.set_cons_zero, List.set_cons_succ, i64_w, i32_w]
             rfl
            exact norm_ (by simp only [putAll, Act.put, List.setIfInBounds_toArray, List.set_cons_zero, List.set_cons_succ]) (hCont (.slice Ao69 y198.length co69, .slice Ao68 y201.length co68, gb204) _ ⟨hHeld, (by (with_reducible repeat (first | apply Kd.R_alloc | apply Kd.R_drewN | apply Kd.R_drew)); exact HO200.out), (by (with_reducible repeat (first | apply Kd.R_alloc | apply Kd.R_drewN | apply Kd.R_drew)); exact HO203.out), (by (with_reducible repeat (first | refine bdN ?_ _ | refine bdD ?_ | refine blk_alloc ?_ _)); exact BK186.out), (by (with_reducible repeat (first | refine bdN ?_ _ | refine bdD ?_ | refine blk_alloc ?_ _)); exact BK187.out), (by (with_reducible repeat (first | refine bdN ?_ _ | refine bdD ?_ | refine blk_alloc ?_ _)); exact BK188.out), (by (with_reducible repeat (first | refine bdN ?_ _ | refine bdD ?_ | refine blk_alloc ?_ _)); exact BK204.out), GW204.out, GE204.out, NB186_204.out, NB204_186.out, NB187_204.out, NB204_187.out, NB188_204.out, NB204_188.out, (by repeat (first | (with_reducible first | exact HB.out | apply blA | apply blN | apply blD | refine blS ?_ GE186.out | refine blS ?_ GE187.out | refine blS ?_ GE188.out | refine blS ?_ GE204.out) | exact HB.out))⟩)
           ·skip
            refine box_step ?hg (N := 10) ?hd (cs := #[.slice none 0 0, .slice none 0 0, .int .i64 0]) (t := 25) ?hr ?_; (case hd => rfl); (case hg => rfl); (case hr => first | (go_simp; done) | (go_simp; rfl))
            intro gb204 hg w67 hbox hb
            have n0_ := Ad.mk (Kd.R_below (by (with_reducible repeat (first | apply Kd.R_alloc | apply Kd.R_drewN | apply Kd.R_drew)); exact HO_8.out) hb)
            have n1_ := Ad.mk (Kd.R_below (by (with_reducible repeat (first | apply Kd.R_alloc | apply Kd.R_drewN | apply Kd.R_drew)); exact HO200.out) hb)
            have n2_ := Ad.mk (bbl (g := gb186) (o := .cells #[.slice A0_0 l0_0.length c0_0, .slice A0_1 l0_1.length c0_1, .int .i64 a0_2] 25 (0, 0)) (by (with_reducible repeat (first | refine bdN ?_ _ | refine bdD ?_ | refine blk_alloc ?_ _)); exact BK186.out) hb)
            have n3_ := Ad.mk (bbl (g := gb187) (o := .cells #[.slice A1_0 l1_0.length c1_0, .slice A1_1 l1_1.length c1_1, .slice A1_2 l1_2.length c1_2, .slice A1_3 l1_3.length c1_3, .int .i64 a1_4] 32 (0, 0)) (by (with_reducible repeat (first | refine bdN ?_ _ | refine bdD ?_ | refine blk_alloc ?_ _)); exact BK187.out) hb)
            have n4_ := Ad.mk (bbl (g := gb188) (o := .cells #[.slice none 0 0, .slice none 0 0, .int .i64 0] 25 (0, 0)) (by (with_reducible repeat (first | refine bdN ?_ _ | refine bdD ?_ | refine blk_alloc ?_ _)); exact BK188.out) hb)
            have n5_ := Ad.mk (bls (by repeat (first | (with_reducible first | exact HB.out | apply blA | apply blN | apply blD | refine blS ?_ GE186.out | refine blS ?_ GE187.out | refine blS ?_ GE188.out) | exact HB.out)) hb)
            have n6_ := Ad.mk (hbox)
            have n7_ := Ad.mk ((by rw [hg]; exact (blz (by repeat (first | (with_reducible first | exact HB.out | apply blA | apply blN | apply blD | refine blS ?_ GE186.out | refine blS ?_ GE187.out | refine blS ?_ GE188.out) | exact HB.out))) : w.heap.size ≤ gb204))
            have n8_ := Ad.mk ((by rw [hg]; exact (blz (by repeat (first | (with_reducible first | exact HB.out | apply blA | apply blN | apply blD | refine blS ?_ GE186.out | refine blS ?_ GE187.out | refine blS ?_ GE188.out) | exact HB.out))) : w.heap.size ≤ gb204))
            have n9_ := Ad.mk ((by rw [hg]; exact Nat.ne_of_lt (blk_lt (g := gb186) (o := .cells #[.slice A0_0 l0_0.length c0_0, .slice A0_1 l0_1.length c0_1, .int .i64 a0_2] 25 (0, 0)) (by (with_reducible repeat (first | refine bdN ?_ _ | refine bdD ?_ | refine blk_alloc ?_ _)); exact BK186.out)) : gb186 ≠ gb204))
            have n10_ := Ad.mk ((by rw [hg]; exact Nat.ne_of_gt (blk_lt (g := gb186) (o := .cells #[.slice A0_0 l0_0.length c0_0, .slice A0_1 l0_1.length c0_1, .int .i64 a0_2] 25 (0, 0)) (by (with_reducible repeat (first | refine bdN ?_ _ | refine bdD ?_ | refine blk_alloc ?_ _)); exact BK186.out)) : gb204 ≠ gb186))
            have n11_ := Ad.mk ((by rw [hg]; exact Nat.ne_of_lt (blk_lt (g := gb187) (o := .cells #[.slice A1_0 l1_0.length c1_0, .slice A1_1 l1_1.length c1_1, .slice A1_2 l1_2.length c1_2, .slice A1_3 l1_3.length c1_3, .int .i64 a1_4] 32 (0, 0)) (by (with_reducible repeat (first | refine bdN ?_ _ | refine bdD ?_ | refine blk_alloc ?_ _)); exact BK187.out)) : gb187 ≠ gb204))
            have n12_ := Ad.mk ((by rw [hg]; exact Nat.ne_of_gt (blk_lt (g := gb187) (o := .cells #[.slice A1_0 l1_0.length c1_0, .slice A1_1 l1_1.length c1_1, .slice A1_2 l1_2.length c1_2, .slice A1_3 l1_3.length c1_3, .int .i64 a1_4] 32 (0, 0)) (by (with_reducible repeat (first | refine bdN ?_ _ | refine bdD ?_ | refine blk_alloc ?_ _)); exact BK187.out)) : gb204 ≠ gb187))
            have n13_ := Ad.mk ((by rw [hg]; exact Nat.ne_of_lt (blk_lt (g := gb188) (o := .cells #[.slice none 0 0, .slice none 0 0, .int .i64 0] 25 (0, 0)) (by (with_reducible repeat (first | refine bdN ?_ _ | refine bdD ?_ | refine blk_alloc ?_ _)); exact BK188.out)) : gb188 ≠ gb204))
            have n14_ := Ad.mk ((by rw [hg]; exact Nat.ne_of_gt (blk_lt (g := gb188) (o := .cells #[.slice none 0 0, .slice none 0 0, .int .i64 0] 25 (0, 0)) (by (with_reducible repeat (first | refine bdN ?_ _ | refine bdD ?_ | refine blk_alloc ?_ _)); exact BK188.out)) : gb204 ≠ gb188))
            clear HO_8
            clear HO200
            clear BK186
            clear BK187
            clear BK188
            clear HB
            have HO_8 := n0_
            have HO200 := n1_
            have BK186 := n2_
            have BK187 := n3_
            have BK188 := n4_
            have HB := n5_
            have BK204 := n6_
            have GW204 := n7_
            have GE204 := n8_
            have NB186_204 := n9_
            have NB204_186 := n10_
            have NB187_204 := n11_
            have NB204_187 := n12_
            have NB188_204 := n13_
            have NB204_188 := n14_
            clear n0_ n1_ n2_ n3_ n4_ n5_ n6_ n7_ n8_ n9_ n10_ n11_ n12_ n13_ n14_
            clear hb hbox hg
            refine hK.out _ _ ⟨(bcl BK187.out 0).trans rfl, (bcl BK187.out 1).trans rfl, (bcl BK187.out 2).trans rfl, (bcl BK187.out 3).trans rfl, (bcl BK187.out 4).trans rfl, (bcl BK186.out 0).trans rfl, (bcl BK186.out 1).trans rfl, (bcl BK186.out 2).trans rfl⟩ (fun hHeld => ?_)
            clear hK K
            refine norm_ (a' := ?_) ?_ ?_
            rotate_left
            ·show Act.put _ (some 10) _ = _
             simp only [Act.put, List.setIfInBounds_toArray, List.set_cons_zero, List.set_cons_succ, i64_w, i32_w]
             rfl
            refine one_ (i := 7) (N := some 47) #[true, true, true, true, true, true, true, true, true, true, true, true, true, false, true, false] rfl rfl (one_of HT_.out (by kernel_rfl)) (by decide) (fun K hK => ?_)
            refine Kd.R_append_rows_step (Kd.int .i64) (w0 := w) w.heap.size (by rfl) (.tmp 44) (.tmp 46) 23 3 (.int .i64 0) 8 rfl Try.underlying23 info3 rfl (by decide) (by omega) (.slice Ao64 t194.length co64) t194 l1_2 _ _ _ (fun _ => True) (fun _ => False) rfl rfl ?aO ?aR (fun _ _ h => h) (fun _ h => h.elim) ?aF ?aB ?aS ?aL ?_
            (case aR => repeat (first | exact (Kd.C_below HR1_2.out HB.out) | (with_reducible refine Kd.C_alloc ?_ _) | (with_reducible refine Kd.C_drewN ?_ _) | (with_reducible refine Kd.C_drew ?_)))
            (case aB => exact (by repeat (first | (with_reducible first | exact HB.out | apply blA | apply blN | apply blD | refine blS ?_ GE186.out | refine blS ?_ GE187.out | refine blS ?_ GE188.out | refine blS ?_ GE204.out) | exact HB.out)))
            (case aF => exact (fun _ _ => trivial))
            (case aO => exact (by (with_reducible repeat (first | apply Kd.R_alloc | apply Kd.R_drewN | apply Kd.R_drew)); exact HO_8.out))
            (case aS => exact (blz (by repeat (first | (with_reducible first | exact HB.out | apply blA | apply blN | apply blD | refine blS ?_ GE186.out | refine blS ?_ GE187.out | refine blS ?_ GE188.out | refine blS ?_ GE204.out) | exact HB.out))))
            (case aL => have := LMc28.out; omega)
            intro v202 w68 ho hb hg hat
            rw [← Ny201.out] at ho
            have n0_ := Ad.mk (blk_grown (g := gb186) (o := .cells #[.slice A0_0 l0_0.length c0_0, .slice A0_1 l0_1.length c0_1, .int .i64 a0_2] 25 (0, 0)) (by (with_reducible repeat (first | refine bdN ?_ _ | refine bdD ?_ | refine blk_alloc ?_ _)); exact BK186.out) hg (Kd.R_ne HO_8.out BK186.out (by decide)))
            have n1_ := Ad.mk (blk_grown (g := gb187) (o := .cells #[.slice A1_0 l1_0.length c1_0, .slice A1_1 l1_1.length c1_1, .slice A1_2 l1_2.length c1_2, .slice A1_3 l1_3.length c1_3, .int .i64 a1_4] 32 (0, 0)) (by (with_reducible repeat (first | refine bdN ?_ _ | refine bdD ?_ | refine blk_alloc ?_ _)); exact BK187.out) hg (Kd.R_ne HO_8.out BK187.out (by decide)))
            have n2_ := Ad.mk (blk_grown (g := gb188) (o := .cells #[.slice none 0 0, .slice none 0 0, .int .i64 0] 25 (0, 0)) (by (with_reducible repeat (first | refine bdN ?_ _ | refine bdD ?_ | refine blk_alloc ?_ _)); exact BK188.out) hg (Kd.R_ne HO_8.out BK188.out (by decide)))
            have n3_ := Ad.mk (Kd.R_over' (by (with_reducible repeat (first | apply Kd.R_alloc | apply Kd.R_drewN | apply Kd.R_drew)); exact HO200.out) (Kd.R_typed (by (with_reducible repeat (first | apply Kd.R_alloc | apply Kd.R_drewN | apply Kd.R_drew)); exact HO_8.out)) (by decide) hg)
            have n4_ := Ad.mk (blk_grown (g := gb204) (o := .cells #[.slice none 0 0, .slice none 0 0, .int .i64 0] 25 (0, 0)) (by (with_reducible repeat (first | refine bdN ?_ _ | refine bdD ?_ | refine blk_alloc ?_ _)); exact BK204.out) hg (Kd.R_ne HO_8.out BK204.out (by decide)))
            have n5_ := Ad.mk (hb)
            have n6_ := Ad.mk (ho)
            clear BK186
            clear BK187
            clear BK188
            clear HO200
            clear BK204
            clear HB
            clear HO_8
            have BK186 := n0_
            have BK187 := n1_
            have BK188 := n2_
            have HO200 := n3_
            have BK204 := n4_
            have HB := n5_
            have HO203 := n6_
            clear n0_ n1_ n2_ n3_ n4_ n5_ n6_
            clear ho hb hg hat
            obtain ⟨Ao69, co69, eo69⟩ := Kd.R_slice HO203.out
            (first | subst eo69 | (injection eo69 with f1_ f2_ f3_; have f4_ := f1_.symm; have f5_ := f3_.symm; clear f1_ f2_ f3_; subst f4_; subst f5_))
            obtain ⟨Ao70, co70, eo70⟩ := Kd.R_slice HO200.out
            (first | subst eo70 | (injection eo70 with f1_ f2_ f3_; have f4_ := f1_.symm; have f5_ := f3_.symm; clear f1_ f2_ f3_; subst f4_; subst f5_))
            refine hK.out _ _ ⟨(bcl BK187.out 0).trans rfl, (bcl BK187.out 1).trans rfl, (bcl BK187.out 2).trans rfl, (bcl BK187.out 3).trans rfl, (bcl BK187.out 4).trans rfl, (bcl BK186.out 0).trans rfl, (bcl BK186.out 1).trans rfl, (bcl BK186.out 2).trans rfl⟩ (fun hHeld => ?_)
            clear hK K
            refine norm_ (a' := ?_) ?_ ?_
            rotate_left
            ·show Act.put _ (some 47) _ = _
             simp only [Act.put, List.setIfInBounds_toArray, List.set_cons_zero, List.set_cons_succ, i64_w, i32_w]
             rfl
            refine pure_ (i := 13) (N := some 53) (v := ?_) (a' := ?_) #[true, true, true, true, true, true, true, true, true, true, true, true, true, true, true, false] rfl rfl (any_of HT_.out (by kernel_rfl)) (fun _ _ _ h => h) (Or.inl ⟨by rfl, ?_⟩) ?_ ?_
            rotate_left
            ·intro w'
             go_simp
             with_reducible rfl
            rotate_left
            ·simp only [Act.put, List.setIfInBounds_toArray, List.set_cons_zero, List.set_cons_succ, i64_w, i32_w]
             rfl
            exact norm_ (by simp only [putAll, Act.put, List.setIfInBounds_toArray, List.set_cons_zero, List.set_cons_succ]) (hCont (.slice Ao70 y198.length co70, .slice Ao69 y201.length co69, gb204) _ ⟨hHeld, (by (with_reducible repeat (first | apply Kd.R_alloc | apply Kd.R_drewN | apply Kd.R_drew)); exact HO200.out), (by (with_reducible repeat (first | apply Kd.R_alloc | apply Kd.R_drewN | apply Kd.R_drew)); exact HO203.out), (by (with_reducible repeat (first | refine bdN ?_ _ | refine bdD ?_ | refine blk_alloc ?_ _)); exact BK186.out), (by (with_reducible repeat (first | refine bdN ?_ _ | refine bdD ?_ | refine blk_alloc ?_ _)); exact BK187.out), (by (with_reducible repeat (first | refine bdN ?_ _ | refine bdD ?_ | refine blk_alloc ?_ _)); exact BK188.out), (by (with_reducible repeat (first | refine bdN ?_ _ | refine bdD ?_ | refine blk_alloc ?_ _)); exact BK204.out), GW204.out, GE204.out, NB186_204.out, NB204_186.out, NB187_204.out, NB204_187.out, NB188_204.out, NB204_188.out, (by repeat (first | (with_reducible first | exact HB.out | apply blA | apply blN | apply blD | refine blS ?_ GE186.out | refine blS ?_ GE187.out | refine blS ?_ GE188.out | refine blS ?_ GE204.out) | exact HB.out))⟩)
          ·skip
           refine box_step ?hg (N := 10) ?hd (cs := #[.slice none 0 0, .slice none 0 0, .int .i64 0]) (t := 25) ?hr ?_; (case hd => rfl); (case hg => rfl); (case hr => first | (go_simp; done) | (go_simp; rfl))
           intro gb204 hg w66 hbox hb
           have n0_ := Ad.mk (Kd.R_below (by (with_reducible repeat (first | apply Kd.R_alloc | apply Kd.R_drewN | apply Kd.R_drew)); exact HO_6.out) hb)
           have n1_ := Ad.mk (Kd.R_below (by (with_reducible repeat (first | apply Kd.R_alloc | apply Kd.R_drewN | apply Kd.R_drew)); exact HO_8.out) hb)
           have n2_ := Ad.mk (bbl (g := gb186) (o := .cells #[.slice A0_0 l0_0.length c0_0, .slice A0_1 l0_1.length c0_1, .int .i64 a0_2] 25 (0, 0)) (by (with_reducible repeat (first | refine bdN ?_ _ | refine bdD ?_ | refine blk_alloc ?_ _)); exact BK186.out) hb)
           have n3_ := Ad.mk (bbl (g := gb187) (o := .cells #[.slice A1_0 l1_0.length c1_0, .slice A1_1 l1_1.length c1_1, .slice A1_2 l1_2.length c1_2, .slice A1_3 l1_3.length c1_3, .int .i64 a1_4] 32 (0, 0)) (by (with_reducible repeat (first | refine bdN ?_ _ | refine bdD ?_ | refine blk_alloc ?_ _)); exact BK187.out) hb)
           have n4_ := Ad.mk (bbl (g := gb188) (o := .cells #[.slice none 0 0, .slice none 0 0, .int .i64 0] 25 (0, 0)) (by (with_reducible repeat (first | refine bdN ?_ _ | refine bdD ?_ | refine blk_alloc ?_ _)); exact BK188.out) hb)
           have n5_ := Ad.mk (bls (by repeat (first | (with_reducible first | exact HB.out | apply blA | apply blN | apply blD | refine blS ?_ GE186.out | refine blS ?_ GE187.out | refine blS ?_ GE188.out) | exact HB.out)) hb)
           have n6_ := Ad.mk (hbox)
           have n7_ := Ad.mk ((by rw [hg]; exact (blz (by repeat (first | (with_reducible first | exact HB.out | apply blA | apply blN | apply blD | refine blS ?_ GE186.out | refine blS ?_ GE187.out | refine blS ?_ GE188.out) | exact HB.out))) : w.heap.size ≤ gb204))
           have n8_ := Ad.mk ((by rw [hg]; exact (blz (by repeat (first | (with_reducible first | exact HB.out | apply blA | apply blN | apply blD | refine blS ?_ GE186.out | refine blS ?_ GE187.out | refine blS ?_ GE188.out) | exact HB.out))) : w.heap.size ≤ gb204))
           have n9_ := Ad.mk ((by rw [hg]; exact Nat.ne_of_lt (blk_lt (g := gb186) (o := .cells #[.slice A0_0 l0_0.length c0_0, .slice A0_1 l0_1.length c0_1, .int .i64 a0_2] 25 (0, 0)) (by (with_reducible repeat (first | refine bdN ?_ _ | refine bdD ?_ | refine blk_alloc ?_ _)); exact BK186.out)) : gb186 ≠ gb204))
           have n10_ := Ad.mk ((by rw [hg]; exact Nat.ne_of_gt (blk_lt (g := gb186) (o := .cells #[.slice A0_0 l0_0.length c0_0, .slice A0_1 l0_1.length c0_1, .int .i64 a0_2] 25 (0, 0)) (by (with_reducible repeat (first | refine bdN ?_ _ | refine bdD ?_ | refine blk_alloc ?_ _)); exact BK186.out)) : gb204 ≠ gb186))
           have n11_ := Ad.mk ((by rw [hg]; exact Nat.ne_of_lt (blk_lt (g := gb187) (o := .cells #[.slice A1_0 l1_0.length c1_0, .slice A1_1 l1_1.length c1_1, .slice A1_2 l1_2.length c1_2, .slice A1_3 l1_3.length c1_3, .int .i64 a1_4] 32 (0, 0)) (by (with_reducible repeat (first | refine bdN ?_ _ | refine bdD ?_ | refine blk_alloc ?_ _)); exact BK187.out)) : gb187 ≠ gb204))
           have n12_ := Ad.mk ((by rw [hg]; exact Nat.ne_of_gt (blk_lt (g := gb187) (o := .cells #[.slice A1_0 l1_0.length c1_0, .slice A1_1 l1_1.length c1_1, .slice A1_2 l1_2.length c1_2, .slice A1_3 l1_3.length c1_3, .int .i64 a1_4] 32 (0, 0)) (by (with_reducible repeat (first | refine bdN ?_ _ | refine bdD ?_ | refine blk_alloc ?_ _)); exact BK187.out)) : gb204 ≠ gb187))
           have n13_ := Ad.mk ((by rw [hg]; exact Nat.ne_of_lt (blk_lt (g := gb188) (o := .cells #[.slice none 0 0, .slice none 0 0, .int .i64 0] 25 (0, 0)) (by (with_reducible repeat (first | refine bdN ?_ _ | refine bdD ?_ | refine blk_alloc ?_ _)); exact BK188.out)) : gb188 ≠ gb204))
           have n14_ := Ad.mk ((by rw [hg]; exact Nat.ne_of_gt (blk_lt (g := gb188) (o := .cells #[.slice none 0 0, .slice none 0 0, .int .i64 0] 25 (0, 0)) (by (with_reducible repeat (first | refine bdN ?_ _ | refine bdD ?_ | refine blk_alloc ?_ _)); exact BK188.out)) : gb204 ≠ gb188))
           clear HO_6
           clear HO_8
           clear BK186
           clear BK187
           clear BK188
           clear HB
           have HO_6 := n0_
           have HO_8 := n1_
           have BK186 := n2_
           have BK187 := n3_
           have BK188 := n4_
           have HB := n5_
           have BK204 := n6_
           have GW204 := n7_
           have GE204 := n8_
           have NB186_204 := n9_
           have NB204_186 := n10_
           have NB187_204 := n11_
           have NB204_187 := n12_
           have NB188_204 := n13_
           have NB204_188 := n14_
           clear n0_ n1_ n2_ n3_ n4_ n5_ n6_ n7_ n8_ n9_ n10_ n11_ n12_ n13_ n14_
           clear hb hbox hg
           refine hK.out _ _ ⟨(bcl BK187.out 0).trans rfl, (bcl BK187.out 1).trans rfl, (bcl BK187.out 2).trans rfl, (bcl BK187.out 3).trans rfl, (bcl BK187.out 4).trans rfl, (bcl BK186.out 0).trans rfl, (bcl BK186.out 1).trans rfl, (bcl BK186.out 2).trans rfl⟩ (fun hHeld => ?_)
           clear hK K
           refine norm_ (a' := ?_) ?_ ?_
           rotate_left
           ·show Act.put _ (some 10) _ = _
            simp only [Act.put, List.setIfInBounds_toArray, List.set_cons_zero, List.set_cons_succ, i64_w, i32_w]
            rfl
           refine one_ (i := 3) (N := some 43) #[true, true, true, true, true, true, true, false, true, true, true, true, true, false, true, false] rfl rfl (one_of HT_.out (by kernel_rfl)) (by decide) (fun K hK => ?_)
           refine Kd.R_append_rows_step k35 (w0 := w) w.heap.size (by rfl) (.tmp 40) (.tmp 42) 22 35 (.agg #[(.int .i64 0), (.int .i64 0), (.string ⟨#[]⟩), (.string ⟨#[]⟩), (.int .i64 0)]) 56 rfl Try.underlying22 info35 rfl (by decide) (by omega) (.slice Ao63 t190.length co63) t190 l1_0 _ _ _ (fun _ => True) (fun _ => False) rfl rfl ?aO ?aR (fun _ _ h => h) (fun _ h => h.elim) ?aF ?aB ?aS ?aL ?_
           (case aR => repeat (first | exact (Kd.C_below HR1_0.out HB.out) | (with_reducible refine Kd.C_alloc ?_ _) | (with_reducible refine Kd.C_drewN ?_ _) | (with_reducible refine Kd.C_drew ?_)))
           (case aB => exact (by repeat (first | (with_reducible first | exact HB.out | apply blA | apply blN | apply blD | refine blS ?_ GE186.out | refine blS ?_ GE187.out | refine blS ?_ GE188.out | refine blS ?_ GE204.out) | exact HB.out)))
           (case aF => exact (fun _ _ => trivial))
           (case aO => exact (by (with_reducible repeat (first | apply Kd.R_alloc | apply Kd.R_drewN | apply Kd.R_drew)); exact HO_6.out))
           (case aS => exact (blz (by repeat (first | (with_reducible first | exact HB.out | apply blA | apply blN | apply blD | refine blS ?_ GE186.out | refine blS ?_ GE187.out | refine blS ?_ GE188.out | refine blS ?_ GE204.out) | exact HB.out))))
           (case aL => have := LMc27.out; omega)
           intro v199 w67 ho hb hg hat
           rw [← Ny198.out] at ho
           have n0_ := Ad.mk (Kd.R_over' (by (with_reducible repeat (first | apply Kd.R_alloc | apply Kd.R_drewN | apply Kd.R_drew)); exact HO_8.out) (Kd.R_typed (by (with_reducible repeat (first | apply Kd.R_alloc | apply Kd.R_drewN | apply Kd.R_drew)); exact HO_6.out)) (by decide) hg)
           have n1_ := Ad.mk (blk_grown (g := gb186) (o := .cells #[.slice A0_0 l0_0.length c0_0, .slice A0_1 l0_1.length c0_1, .int .i64 a0_2] 25 (0, 0)) (by (with_reducible repeat (first | refine bdN ?_ _ | refine bdD ?_ | refine blk_alloc ?_ _)); exact BK186.out) hg (Kd.R_ne HO_6.out BK186.out (by decide)))
           have n2_ := Ad.mk (blk_grown (g := gb187) (o := .cells #[.slice A1_0 l1_0.length c1_0, .slice A1_1 l1_1.length c1_1, .slice A1_2 l1_2.length c1_2, .slice A1_3 l1_3.length c1_3, .int .i64 a1_4] 32 (0, 0)) (by (with_reducible repeat (first | refine bdN ?_ _ | refine bdD ?_ | refine blk_alloc ?_ _)); exact BK187.out) hg (Kd.R_ne HO_6.out BK187.out (by decide)))
           have n3_ := Ad.mk (blk_grown (g := gb188) (o := .cells #[.slice none 0 0, .slice none 0 0, .int .i64 0] 25 (0, 0)) (by (with_reducible repeat (first | refine bdN ?_ _ | refine bdD ?_ | refine blk_alloc ?_ _)); exact BK188.out) hg (Kd.R_ne HO_6.out BK188.out (by decide)))
           have n4_ := Ad.mk (blk_grown (g := gb204) (o := .cells #[.slice none 0 0, .slice none 0 0, .int .i64 0] 25 (0, 0)) (by (with_reducible repeat (first | refine bdN ?_ _ | refine bdD ?_ | refine blk_alloc ?_ _)); exact BK204.out) hg (Kd.R_ne HO_6.out BK204.out (by decide)))
           have n5_ := Ad.mk (hb)
           have n6_ := Ad.mk (ho)
           clear HO_8
           clear BK186
           clear BK187
           clear BK188
           clear BK204
           clear HB
           clear HO_6
           have HO_8 := n0_
           have BK186 := n1_
           have BK187 := n2_
           have BK188 := n3_
           have BK204 := n4_
           have HB := n5_
           have HO200 := n6_
           clear n0_ n1_ n2_ n3_ n4_ n5_ n6_
           clear ho hb hg hat
           refine hK.out _ _ ⟨(bcl BK187.out 0).trans rfl, (bcl BK187.out 1).trans rfl, (bcl BK187.out 2).trans rfl, (bcl BK187.out 3).trans rfl, (bcl BK187.out 4).trans rfl, (bcl BK186.out 0).trans rfl, (bcl BK186.out 1).trans rfl, (bcl BK186.out 2).trans rfl⟩ (fun hHeld => ?_)
           clear hK K
           refine norm_ (a' := ?_) ?_ ?_
           rotate_left
           ·show Act.put _ (some 43) _ = _
            simp only [Act.put, List.setIfInBounds_toArray, List.set_cons_zero, List.set_cons_succ, i64_w, i32_w]
            rfl
           refine one_ (i := 7) (N := some 47) #[true, true, true, true, true, true, true, true, true, true, true, true, true, false, true, false] rfl rfl (one_of HT_.out (by kernel_rfl)) (by decide) (fun K hK => ?_)
           refine Kd.R_append_rows_step (Kd.int .i64) (w0 := w) w.heap.size (by rfl) (.tmp 44) (.tmp 46) 23 3 (.int .i64 0) 8 rfl Try.underlying23 info3 rfl (by decide) (by omega) (.slice Ao64 t194.length co64) t194 l1_2 _ _ _ (fun _ => True) (fun _ => False) rfl rfl ?aO ?aR (fun _ _ h => h) (fun _ h => h.elim) ?aF ?aB ?aS ?aL ?_
           (case aR => repeat (first | exact (Kd.C_below HR1_2.out HB.out) | (with_reducible refine Kd.C_alloc ?_ _) | (with_reducible refine Kd.C_drewN ?_ _) | (with_reducible refine Kd.C_drew ?_)))
           (case aB => exact (by repeat (first | (with_reducible first | exact HB.out | apply blA | apply blN | apply blD | refine blS ?_ GE186.out | refine blS ?_ GE187.out | refine blS ?_ GE188.out | refine blS ?_ GE204.out) | exact HB.out)))
           (case aF => exact (fun _ _ => trivial))
           (case aO => exact (by (with_reducible repeat (first | apply Kd.R_alloc | apply Kd.R_drewN | apply Kd.R_drew)); exact HO_8.out))
           (case aS => exact (blz (by repeat (first | (with_reducible first | exact HB.out | apply blA | apply blN | apply blD | refine blS ?_ GE186.out | refine blS ?_ GE187.out | refine blS ?_ GE188.out | refine blS ?_ GE204.out) | exact HB.out))))
           (case aL => have := LMc28.out; omega)
           intro v202 w68 ho hb hg hat
           rw [← Ny201.out] at ho
           have n0_ := Ad.mk (blk_grown (g := gb186) (o := .cells #[.slice A0_0 l0_0.length c0_0, .slice A0_1 l0_1.length c0_1, .int .i64 a0_2] 25 (0, 0)) (by (with_reducible repeat (first | refine bdN ?_ _ | refine bdD ?_ | refine blk_alloc ?_ _)); exact BK186.out) hg (Kd.R_ne HO_8.out BK186.out (by decide)))
           have n1_ := Ad.mk (blk_grown (g := gb187) (o := .cells #[.slice A1_0 l1_0.length c1_0, .slice A1_1 l1_1.length c1_1, .slice A1_2 l1_2.length c1_2, .slice A1_3 l1_3.length c1_3, .int .i64 a1_4] 32 (0, 0)) (by (with_reducible repeat (first | refine bdN ?_ _ | refine bdD ?_ | refine blk_alloc ?_ _)); exact BK187.out) hg (Kd.R_ne HO_8.out BK187.out (by decide)))
           have n2_ := Ad.mk (blk_grown (g := gb188) (o := .cells #[.slice none 0 0, .slice none 0 0, .int .i64 0] 25 (0, 0)) (by (with_reducible repeat (first | refine bdN ?_ _ | refine bdD ?_ | refine blk_alloc ?_ _)); exact BK188.out) hg (Kd.R_ne HO_8.out BK188.out (by decide)))
           have n3_ := Ad.mk (blk_grown (g := gb204) (o := .cells #[.slice none 0 0, .slice none 0 0, .int .i64 0] 25 (0, 0)) (by (with_reducible repeat (first | refine bdN ?_ _ | refine bdD ?_ | refine blk_alloc ?_ _)); exact BK204.out) hg (Kd.R_ne HO_8.out BK204.out (by decide)))
           have n4_ := Ad.mk (Kd.R_over' (by (with_reducible repeat (first | apply Kd.R_alloc | apply Kd.R_drewN | apply Kd.R_drew)); exact HO200.out) (Kd.R_typed (by (with_reducible repeat (first | apply Kd.R_alloc | apply Kd.R_drewN | apply Kd.R_drew)); exact HO_8.out)) (by decide) hg)
           have n5_ := Ad.mk (hb)
           have n6_ := Ad.mk (ho)
           clear BK186
           clear BK187
           clear BK188
           clear BK204
           clear HO200
           clear HB
           clear HO_8
           have BK186 := n0_
           have BK187 := n1_
           have BK188 := n2_
           have BK204 := n3_
           have HO200 := n4_
           have HB := n5_
           have HO203 := n6_
           clear n0_ n1_ n2_ n3_ n4_ n5_ n6_
           clear ho hb hg hat
           obtain ⟨Ao69, co69, eo69⟩ := Kd.R_slice HO203.out
           (first | subst eo69 | (injection eo69 with f1_ f2_ f3_; have f4_ := f1_.symm; have f5_ := f3_.symm; clear f1_ f2_ f3_; subst f4_; subst f5_))
           obtain ⟨Ao70, co70, eo70⟩ := Kd.R_slice HO200.out
           (first | subst eo70 | (injection eo70 with f1_ f2_ f3_; have f4_ := f1_.symm; have f5_ := f3_.symm; clear f1_ f2_ f3_; subst f4_; subst f5_))
           refine hK.out _ _ ⟨(bcl BK187.out 0).trans rfl, (bcl BK187.out 1).trans rfl, (bcl BK187.out 2).trans rfl, (bcl BK187.out 3).trans rfl, (bcl BK187.out 4).trans rfl, (bcl BK186.out 0).trans rfl, (bcl BK186.out 1).trans rfl, (bcl BK186.out 2).trans rfl⟩ (fun hHeld => ?_)
           clear hK K
           refine norm_ (a' := ?_) ?_ ?_
           rotate_left
           ·show Act.put _ (some 47) _ = _
            simp only [Act.put, List.setIfInBounds_toArray, List.set_cons_zero, List.set_cons_succ, i64_w, i32_w]
            rfl
           refine pure_ (i := 13) (N := some 53) (v := ?_) (a' := ?_) #[true, true, true, true, true, true, true, true, true, true, true, true, true, true, true, false] rfl rfl (any_of HT_.out (by kernel_rfl)) (fun _ _ _ h => h) (Or.inl ⟨by rfl, ?_⟩) ?_ ?_
           rotate_left
           ·intro w'
            go_simp
            with_reducible rfl
           rotate_left
           ·simp only [Act.put, List.setIfInBounds_toArray, List.set_cons_zero, List.set_cons_succ, i64_w, i32_w]
            rfl
           exact norm_ (by simp only [putAll, Act.put, List.setIfInBounds_toArray, List.set_cons_zero, List.set_cons_succ]) (hCont (.slice Ao70 y198.length co70, .slice Ao69 y201.length co69, gb204) _ ⟨hHeld, (by (with_reducible repeat (first | apply Kd.R_alloc | apply Kd.R_drewN | apply Kd.R_drew)); exact HO200.out), (by (with_reducible repeat (first | apply Kd.R_alloc | apply Kd.R_drewN | apply Kd.R_drew)); exact HO203.out), (by (with_reducible repeat (first | refine bdN ?_ _ | refine bdD ?_ | refine blk_alloc ?_ _)); exact BK186.out), (by (with_reducible repeat (first | refine bdN ?_ _ | refine bdD ?_ | refine blk_alloc ?_ _)); exact BK187.out), (by (with_reducible repeat (first | refine bdN ?_ _ | refine bdD ?_ | refine blk_alloc ?_ _)); exact BK188.out), (by (with_reducible repeat (first | refine bdN ?_ _ | refine bdD ?_ | refine blk_alloc ?_ _)); exact BK204.out), GW204.out, GE204.out, NB186_204.out, NB204_186.out, NB187_204.out, NB204_187.out, NB188_204.out, NB204_188.out, (by repeat (first | (with_reducible first | exact HB.out | apply blA | apply blN | apply blD | refine blS ?_ GE186.out | refine blS ?_ GE187.out | refine blS ?_ GE188.out | refine blS ?_ GE204.out) | exact HB.out))⟩)
         rintro ⟨v199, v202, gb204⟩ w71 ⟨hS_, h0_, h1_, h2_, h3_, h4_, h5_, h6_, h7_, h8_, h9_, h10_, h11_, h12_, h13_, h14_⟩
         have n0_ : Ad (Kd.R k35 35 w71 w.heap.size (fun _ => True) v199 y198) := ⟨h0_⟩
         have n1_ : Ad (Kd.R (Kd.int .i64) 3 w71 w.heap.size (fun _ => True) v202 y201) := ⟨h1_⟩
         have n2_ : Ad (w71.heap[gb186]? = some (.cells #[.slice A0_0 l0_0.length c0_0, .slice A0_1 l0_1.length c0_1, .int .i64 a0_2] 25 (0, 0))) := ⟨h2_⟩
         have n3_ : Ad (w71.heap[gb187]? = some (.cells #[.slice A1_0 l1_0.length c1_0, .slice A1_1 l1_1.length c1_1, .slice A1_2 l1_2.length c1_2, .slice A1_3 l1_3.length c1_3, .int .i64 a1_4] 32 (0, 0))) := ⟨h3_⟩
         have n4_ : Ad (w71.heap[gb188]? = some (.cells #[.slice none 0 0, .slice none 0 0, .int .i64 0] 25 (0, 0))) := ⟨h4_⟩
         have n5_ : Ad (w71.heap[gb204]? = some (.cells #[.slice none 0 0, .slice none 0 0, .int .i64 0] 25 (0, 0))) := ⟨h5_⟩
         have n6_ : Ad (w.heap.size ≤ gb204) := ⟨h6_⟩
         have n7_ : Ad (w.heap.size ≤ gb204) := ⟨h7_⟩
         have n8_ : Ad (gb186 ≠ gb204) := ⟨h8_⟩
         have n9_ : Ad (gb204 ≠ gb186) := ⟨h9_⟩
         have n10_ : Ad (gb187 ≠ gb204) := ⟨h10_⟩
         have n11_ : Ad (gb204 ≠ gb187) := ⟨h11_⟩
         have n12_ : Ad (gb188 ≠ gb204) := ⟨h12_⟩
         have n13_ : Ad (gb204 ≠ gb188) := ⟨h13_⟩
         have n14_ : Ad (Below w.heap.size w w71) := ⟨h14_⟩
         clear HO_6
         clear HO_8
         clear BK186
         clear BK187
         clear BK188
         clear HB
         clear h0_ h1_ h2_ h3_ h4_ h5_ h6_ h7_ h8_ h9_ h10_ h11_ h12_ h13_ h14_
         have HO200 := n0_
         have HO203 := n1_
         have BK186 := n2_
         have BK187 := n3_
         have BK188 := n4_
         have BK204 := n5_
         have GW204 := n6_
         have GE204 := n7_
         have NB186_204 := n8_
         have NB204_186 := n9_
         have NB187_204 := n10_
         have NB204_187 := n11_
         have NB188_204 := n12_
         have NB204_188 := n13_
         have HB := n14_
         clear n0_ n1_ n2_ n3_ n4_ n5_ n6_ n7_ n8_ n9_ n10_ n11_ n12_ n13_ n14_
         have hHeld : w71.cell? ⟨gb187, 0, none⟩ = some (.slice A1_0 l1_0.length c1_0) ∧ w71.cell? ⟨gb187, 1, none⟩ = some (.slice A1_1 l1_1.length c1_1) ∧ w71.cell? ⟨gb187, 2, none⟩ = some (.slice A1_2 l1_2.length c1_2) ∧ w71.cell? ⟨gb187, 3, none⟩ = some (.slice A1_3 l1_3.length c1_3) ∧ w71.cell? ⟨gb187, 4, none⟩ = some (.int .i64 a1_4) ∧ w71.cell? ⟨gb186, 0, none⟩ = some (.slice A0_0 l0_0.length c0_0) ∧ w71.cell? ⟨gb186, 1, none⟩ = some (.slice A0_1 l0_1.length c0_1) ∧ w71.cell? ⟨gb186, 2, none⟩ = some (.int .i64 a0_2) := hS_
         obtain ⟨Ao72, co72, eo72⟩ := Kd.R_slice HO203.out
         (first | subst eo72 | (injection eo72 with f1_ f2_ f3_; have f4_ := f1_.symm; have f5_ := f3_.symm; clear f1_ f2_ f3_; subst f4_; subst f5_))
         obtain ⟨Ao73, co73, eo73⟩ := Kd.R_slice HO200.out
         (first | subst eo73 | (injection eo73 with f1_ f2_ f3_; have f4_ := f1_.symm; have f5_ := f3_.symm; clear f1_ f2_ f3_; subst f4_; subst f5_))
         refine norm_ (a' := ?_) ?_ ?_
         rotate_left
         ·simp only [putAll, Act.put, List.setIfInBounds_toArray, List.set_cons_zero, List.set_cons_succ]
          rfl
         refine one_ (i := 15) (N := none) #[true, true, true, true, true, true, true, true, true, true, true, true, true, true, true, true] rfl rfl (one_of HT_.out (by kernel_rfl)) (by decide) (fun K hK => ?_)
         have hs74 : w71.cell? ⟨gb204, 0, none⟩ = some (.slice none 0 0) := (bcl BK204.out 0).trans rfl
         have hfs74 := bfz BK204.out 0
         have hns74_0 := NB186_204.out
         have hns74_1 := NB187_204.out
         have hns74_2 := NB188_204.out
         have hms74_0 := NB204_186.out
         have hms74_1 := NB204_187.out
         have hms74_2 := NB204_188.out
         have hs75 : w71.cell? ⟨gb204, 1, none⟩ = some (.slice none 0 0) := (bcl BK204.out 1).trans rfl
         have hfs75 := bfz BK204.out 1
         have hns75_0 := NB186_204.out
         have hns75_1 := NB187_204.out
         have hns75_2 := NB188_204.out
         have hms75_0 := NB204_186.out
         have hms75_1 := NB204_187.out
         have hms75_2 := NB204_188.out
         have hs76 : w71.cell? ⟨gb204, 2, none⟩ = some (.int .i64 0) := (bcl BK204.out 2).trans rfl
         have hfs76 := bfz BK204.out 2
         have hns76_0 := NB186_204.out
         have hns76_1 := NB187_204.out
         have hns76_2 := NB188_204.out
         have hms76_0 := NB204_186.out
         have hms76_1 := NB204_187.out
         have hms76_2 := NB204_188.out
         refine skip_ (w1 := ?_) (by rfl) rfl ?_ ?_
         rotate_left
         ·go_simp
          rfl
         refine hK.out _ _ ⟨((cell_far (p := ⟨gb204, _, none⟩) NB187_204.out _).trans (((cell_far (p := ⟨gb204, _, none⟩) NB187_204.out _).trans (((cell_far (p := ⟨gb204, _, none⟩) NB187_204.out _).trans (hHeld.1)))))), ((cell_far (p := ⟨gb204, _, none⟩) NB187_204.out _).trans (((cell_far (p := ⟨gb204, _, none⟩) NB187_204.out _).trans (((cell_far (p := ⟨gb204, _, none⟩) NB187_204.out _).trans (hHeld.2.1)))))), ((cell_far (p := ⟨gb204, _, none⟩) NB187_204.out _).trans (((cell_far (p := ⟨gb204, _, none⟩) NB187_204.out _).trans (((cell_far (p := ⟨gb204, _, none⟩) NB187_204.out _).trans (hHeld.2.2.1)))))), ((cell_far (p := ⟨gb204, _, none⟩) NB187_204.out _).trans (((cell_far (p := ⟨gb204, _, none⟩) NB187_204.out _).trans (((cell_far (p := ⟨gb204, _, none⟩) NB187_204.out _).trans (hHeld.2.2.2.1)))))), ((cell_far (p := ⟨gb204, _, none⟩) NB187_204.out _).trans (((cell_far (p := ⟨gb204, _, none⟩) NB187_204.out _).trans (((cell_far (p := ⟨gb204, _, none⟩) NB187_204.out _).trans (hHeld.2.2.2.2.1)))))), ((cell_far (p := ⟨gb204, _, none⟩) NB186_204.out _).trans (((cell_far (p := ⟨gb204, _, none⟩) NB186_204.out _).trans (((cell_far (p := ⟨gb204, _, none⟩) NB186_204.out _).trans (hHeld.2.2.2.2.2.1)))))), ((cell_far (p := ⟨gb204, _, none⟩) NB186_204.out _).trans (((cell_far (p := ⟨gb204, _, none⟩) NB186_204.out _).trans (((cell_far (p := ⟨gb204, _, none⟩) NB186_204.out _).trans (hHeld.2.2.2.2.2.2.1)))))), ((cell_far (p := ⟨gb204, _, none⟩) NB186_204.out _).trans (((cell_far (p := ⟨gb204, _, none⟩) NB186_204.out _).trans (((cell_far (p := ⟨gb204, _, none⟩) NB186_204.out _).trans (hHeld.2.2.2.2.2.2.2))))))⟩ (fun hHeld => ?_)
         clear hK K
         refine done_ (done_of HT_.out (by kernel_rfl)) ?_
         have n0_ : Ad (Kd.R k35 35 (((w71.setCell ⟨gb204, 0, none⟩ (.slice Ao73 y198.length co73)).setCell ⟨gb204, 1, none⟩ (.slice Ao72 y201.length co72)).setCell ⟨gb204, 2, none⟩ (.int .i64 ji29)) w.heap.size (fun _ => True) (.slice Ao73 y198.length co73) y198) := ⟨by (with_reducible repeat (first | apply Kd.R_alloc | apply Kd.R_drewN | apply Kd.R_drew)); exact Kd.R_mono (Kd.R_far (p := ⟨gb204, 2, none⟩) (Kd.R_far (p := ⟨gb204, 1, none⟩) (Kd.R_far (p := ⟨gb204, 0, none⟩) (Kd.R_types HO200.out BK204.out (by decide)) (fun _ hk => hk.2) (.slice Ao73 y198.length co73)) (fun _ hk => hk.2) (.slice Ao72 y201.length co72)) (fun _ hk => hk.2) (.int .i64 ji29)) (fun _ hk => trivial)⟩
         have n1_ : Ad (Kd.R (Kd.int .i64) 3 (((w71.setCell ⟨gb204, 0, none⟩ (.slice Ao73 y198.length co73)).setCell ⟨gb204, 1, none⟩ (.slice Ao72 y201.length co72)).setCell ⟨gb204, 2, none⟩ (.int .i64 ji29)) w.heap.size (fun _ => True) (.slice Ao72 y201.length co72) y201) := ⟨by (with_reducible repeat (first | apply Kd.R_alloc | apply Kd.R_drewN | apply Kd.R_drew)); exact Kd.R_mono (Kd.R_far (p := ⟨gb204, 2, none⟩) (Kd.R_far (p := ⟨gb204, 1, none⟩) (Kd.R_far (p := ⟨gb204, 0, none⟩) (Kd.R_types HO203.out BK204.out (by decide)) (fun _ hk => hk.2) (.slice Ao73 y198.length co73)) (fun _ hk => hk.2) (.slice Ao72 y201.length co72)) (fun _ hk => hk.2) (.int .i64 ji29)) (fun _ hk => trivial)⟩
         have n2_ : Ad ((((w71.setCell ⟨gb204, 0, none⟩ (.slice Ao73 y198.length co73)).setCell ⟨gb204, 1, none⟩ (.slice Ao72 y201.length co72)).setCell ⟨gb204, 2, none⟩ (.int .i64 ji29)).heap[gb186]? = some (.cells #[.slice A0_0 l0_0.length c0_0, .slice A0_1 l0_1.length c0_1, .int .i64 a0_2] 25 (0, 0))) := ⟨by (with_reducible repeat (first | refine bdN ?_ _ | refine bdD ?_ | refine blk_alloc ?_ _)); refine blk_far ?_ NB186_204.out _; (with_reducible repeat (first | refine bdN ?_ _ | refine bdD ?_ | refine blk_alloc ?_ _)); refine blk_far ?_ NB186_204.out _; (with_reducible repeat (first | refine bdN ?_ _ | refine bdD ?_ | refine blk_alloc ?_ _)); refine blk_far ?_ NB186_204.out _; (with_reducible repeat (first | refine bdN ?_ _ | refine bdD ?_ | refine blk_alloc ?_ _)); exact BK186.out⟩
         have n3_ : Ad ((((w71.setCell ⟨gb204, 0, none⟩ (.slice Ao73 y198.length co73)).setCell ⟨gb204, 1, none⟩ (.slice Ao72 y201.length co72)).setCell ⟨gb204, 2, none⟩ (.int .i64 ji29)).heap[gb187]? = some (.cells #[.slice A1_0 l1_0.length c1_0, .slice A1_1 l1_1.length c1_1, .slice A1_2 l1_2.length c1_2, .slice A1_3 l1_3.length c1_3, .int .i64 a1_4] 32 (0, 0))) := ⟨by (with_reducible repeat (first | refine bdN ?_ _ | refine bdD ?_ | refine blk_alloc ?_ _)); refine blk_far ?_ NB187_204.out _; (with_reducible repeat (first | refine bdN ?_ _ | refine bdD ?_ | refine blk_alloc ?_ _)); refine blk_far ?_ NB187_204.out _; (with_reducible repeat (first | refine bdN ?_ _ | refine bdD ?_ | refine blk_alloc ?_ _)); refine blk_far ?_ NB187_204.out _; (with_reducible repeat (first | refine bdN ?_ _ | refine bdD ?_ | refine blk_alloc ?_ _)); exact BK187.out⟩
         have n4_ : Ad ((((w71.setCell ⟨gb204, 0, none⟩ (.slice Ao73 y198.length co73)).setCell ⟨gb204, 1, none⟩ (.slice Ao72 y201.length co72)).setCell ⟨gb204, 2, none⟩ (.int .i64 ji29)).heap[gb188]? = some (.cells #[.slice none 0 0, .slice none 0 0, .int .i64 0] 25 (0, 0))) := ⟨by (with_reducible repeat (first | refine bdN ?_ _ | refine bdD ?_ | refine blk_alloc ?_ _)); refine blk_far ?_ NB188_204.out _; (with_reducible repeat (first | refine bdN ?_ _ | refine bdD ?_ | refine blk_alloc ?_ _)); refine blk_far ?_ NB188_204.out _; (with_reducible repeat (first | refine bdN ?_ _ | refine bdD ?_ | refine blk_alloc ?_ _)); refine blk_far ?_ NB188_204.out _; (with_reducible repeat (first | refine bdN ?_ _ | refine bdD ?_ | refine blk_alloc ?_ _)); exact BK188.out⟩
         have n5_ : Ad ((((w71.setCell ⟨gb204, 0, none⟩ (.slice Ao73 y198.length co73)).setCell ⟨gb204, 1, none⟩ (.slice Ao72 y201.length co72)).setCell ⟨gb204, 2, none⟩ (.int .i64 ji29)).heap[gb204]? = some (.cells #[.slice Ao73 y198.length co73, .slice Ao72 y201.length co72, .int .i64 ji29] 25 (0, 0))) := ⟨by (with_reducible repeat (first | refine bdN ?_ _ | refine bdD ?_ | refine blk_alloc ?_ _)); refine blk_put (cs := #[.slice Ao73 y198.length co73, .slice Ao72 y201.length co72, .int .i64 0]) ?_ 2 _ rfl; (with_reducible repeat (first | refine bdN ?_ _ | refine bdD ?_ | refine blk_alloc ?_ _)); refine blk_put (cs := #[.slice Ao73 y198.length co73, .slice none 0 0, .int .i64 0]) ?_ 1 _ rfl; (with_reducible repeat (first | refine bdN ?_ _ | refine bdD ?_ | refine blk_alloc ?_ _)); refine blk_put (cs := #[.slice none 0 0, .slice none 0 0, .int .i64 0]) ?_ 0 _ rfl; (with_reducible repeat (first | refine bdN ?_ _ | refine bdD ?_ | refine blk_alloc ?_ _)); exact BK204.out⟩
         have n6_ : Ad (Below w.heap.size w (((w71.setCell ⟨gb204, 0, none⟩ (.slice Ao73 y198.length co73)).setCell ⟨gb204, 1, none⟩ (.slice Ao72 y201.length co72)).setCell ⟨gb204, 2, none⟩ (.int .i64 ji29))) := ⟨by repeat (first | (with_reducible first | exact HB.out | apply blA | apply blN | apply blD | refine blS ?_ GE186.out | refine blS ?_ GE187.out | refine blS ?_ GE188.out | refine blS ?_ GE204.out) | exact HB.out)⟩
         (try clear HO200)
         (try clear HO203)
         (try clear BK186)
         (try clear BK187)
         (try clear BK188)
         (try clear BK204)
         (try clear HB)
         generalize (((w71.setCell ⟨gb204, 0, none⟩ (.slice Ao73 y198.length co73)).setCell ⟨gb204, 1, none⟩ (.slice Ao72 y201.length co72)).setCell ⟨gb204, 2, none⟩ (.int .i64 ji29)) = w77 at n0_ n1_ n2_ n3_ n4_ n5_ n6_ ⊢
         have HO200 := n0_
         have HO203 := n1_
         have BK186 := n2_
         have BK187 := n3_
         have BK188 := n4_
         have BK204 := n5_
         have HB := n6_
         clear n0_ n1_ n2_ n3_ n4_ n5_ n6_
         have hnb78 := NB204_186.out
         have hnc78 := NB186_204.out
         have hnb79 := NB204_187.out
         have hnc79 := NB187_204.out
         have hnb80 := NB204_188.out
         have hnc80 := NB188_204.out
         have hcz81_0 : w77.cell? ⟨gb204, 0, none⟩ = some (.slice Ao73 y198.length co73) := (bcl BK204.out 0).trans rfl
         have hcz81_1 : w77.cell? ⟨gb204, 1, none⟩ = some (.slice Ao72 y201.length co72) := (bcl BK204.out 1).trans rfl
         have hcz81_2 : w77.cell? ⟨gb204, 2, none⟩ = some (.int .i64 ji29) := (bcl BK204.out 2).trans rfl
         have hfz81_0 := bfz BK204.out 0
         have hfz81_1 := bfz BK204.out 1
         have hfz81_2 := bfz BK204.out 2
         try go_wp2_with (first | ((with_reducible refine gate_callee (f := 26) rfl ?_); refine goesL_ (some 56) rfl rfl Try.func26 (by kernel_rfl) rfl #[.slice Ao73 y198.length co73, .func (.func 27) #[] #[]] rfl (by (try simp only [List.map_toArray, List.map_cons, List.map_nil]); first | done | rfl | (simp only [List.length_drop, List.length_take]; rfl)) ?_; (with_reducible refine (api_Meta_26.calls kj6 (fun k_ => some k_ = (.slice Ao73 y198.length co73 : Value).ownBlock) (.slice Ao73 y198.length co73) y198 t205 w _ ?side1 ?side2 A30.out).mono ?_); (case side1 => repeat (first | (with_reducible first | exact HB.out | apply blA | apply blN | apply blD | refine blS ?_ GE186.out | refine blS ?_ GE187.out | refine blS ?_ GE188.out | refine blS ?_ GE204.out) | exact HB.out)); (case side2 => exact Kd.R_tight rfl HO200.out); rintro e w82 ⟨rfl, hy0, hb, hkp⟩; refine ⟨_, rfl, ?_⟩; have n0_ := Ad.mk (blk_kept (by (with_reducible repeat (first | refine bdN ?_ _ | refine bdD ?_ | refine blk_alloc ?_ _)); exact BK186.out) hkp (fun hs_ => (fun e_ => (Kd.R_ne HO200.out BK186.out (by decide)) e_) hs_)); have n1_ := Ad.mk (blk_kept (by (with_reducible repeat (first | refine bdN ?_ _ | refine bdD ?_ | refine blk_alloc ?_ _)); exact BK187.out) hkp (fun hs_ => (fun e_ => (Kd.R_ne HO200.out BK187.out (by decide)) e_) hs_)); have n2_ := Ad.mk (blk_kept (by (with_reducible repeat (first | refine bdN ?_ _ | refine bdD ?_ | refine blk_alloc ?_ _)); exact BK188.out) hkp (fun hs_ => (fun e_ => (Kd.R_ne HO200.out BK188.out (by decide)) e_) hs_)); have n3_ := Ad.mk (Kd.R_reok rfl hy0 (fun k_ e_ => HO200.out.1 k_ e_)); have n4_ := Ad.mk (Kd.R_mono (ok' := fun k_ => True) (Kd.R_keptB ((Kd.R_apart' HO203.out (Kd.R_typed HO200.out) (by decide))) hkp (fun k_ hk_ hs_ => (hk_.2) hs_)) (fun k_ hk_ => trivial)); have n5_ := Ad.mk (blk_kept (by (with_reducible repeat (first | refine bdN ?_ _ | refine bdD ?_ | refine blk_alloc ?_ _)); exact BK204.out) hkp (fun hs_ => (fun e_ => (Kd.R_ne HO200.out BK204.out (by decide)) e_) hs_)); have n6_ := Ad.mk (hb); clear BK186; clear BK187; clear BK188; clear HO200; clear HO203; clear BK204; clear HB; have BK186 := n0_; have BK187 := n1_; have BK188 := n2_; have HO200 := n3_; have HO203 := n4_; have BK204 := n5_; have HB := n6_; clear n0_ n1_ n2_ n3_ n4_ n5_ n6_; (try clear hb); (try clear hkp); (try clear hy0); have hcz83_0 : w82.cell? ⟨gb204, 0, none⟩ = some (.slice Ao73 y198.length co73) := (bcl BK204.out 0).trans rfl; have hcz83_1 : w82.cell? ⟨gb204, 1, none⟩ = some (.slice Ao72 y201.length co72) := (bcl BK204.out 1).trans rfl; have hcz83_2 : w82.cell? ⟨gb204, 2, none⟩ = some (.int .i64 ji29) := (bcl BK204.out 2).trans rfl; have hfz83_0 := bfz BK204.out 0; have hfz83_1 := bfz BK204.out 1; have hfz83_2 := bfz BK204.out 2) | ((with_reducible refine gate_callee (f := 29) rfl ?_); refine goesL_ (some 59) rfl rfl Try.func29 (by kernel_rfl) rfl #[.agg #[.slice Ao73 t205.length co73, .slice Ao72 y201.length co72, .int .i64 ji29]] rfl (by (try simp only [List.map_toArray, List.map_cons, List.map_nil]); first | done | (rw [show t205.length = y198.length from (Kd.R_reads' HO200.out).1.symm] <;> rfl) | (simp only [hji29]; rfl) | rfl | (simp only [List.length_drop, List.length_take]; rfl)) ?_; (with_reducible refine (version_ids.calls kj6 _ _ t205 _ _ y201 ji29 t206 _ ?side1 ?side2 ?side3 ?side4 A31.out).mono ?_); (case side1 => repeat (first | exact (Kd.R_reads' HO200.out).2.2 | (with_reducible refine Kd.C_alloc ?_ _) | (with_reducible refine Kd.C_drewN ?_ _) | (with_reducible refine Kd.C_drew ?_))); (case side2 => rw [show t205.length = y198.length from (Kd.R_reads' HO200.out).1.symm]; exact (Kd.R_reads' HO200.out).2.1); (case side3 => repeat (first | exact (Kd.R_reads' HO203.out).2.2 | (with_reducible refine Kd.C_alloc ?_ _) | (with_reducible refine Kd.C_drewN ?_ _) | (with_reducible refine Kd.C_drew ?_))); (case side4 => exact (Kd.R_reads' HO203.out).2.1); rintro e w84 ⟨v207, rfl, ho0, hb⟩; refine ⟨_, rfl, ?_⟩; have n0_ := Ad.mk (Kd.R_below (by (with_reducible repeat (first | apply Kd.R_alloc | apply Kd.R_drewN | apply Kd.R_drew)); exact HO200.out) hb); have n1_ := Ad.mk (Kd.R_elder' (by (with_reducible repeat (first | apply Kd.R_alloc | apply Kd.R_drewN | apply Kd.R_drew)); exact HO203.out) (Kd.R_base ho0) hb); have n2_ := Ad.mk (Kd.R_lower (Kd.R_new' ho0 (Kd.R_lt (by (with_reducible repeat (first | apply Kd.R_alloc | apply Kd.R_drewN | apply Kd.R_drew)); exact HO203.out))) (blz (by repeat (first | (with_reducible first | exact HB.out | apply blA | apply blN | apply blD | refine blS ?_ GE186.out | refine blS ?_ GE187.out | refine blS ?_ GE188.out | refine blS ?_ GE204.out) | exact HB.out)))); have n3_ := Ad.mk (bbl (g := gb186) (o := .cells #[.slice A0_0 l0_0.length c0_0, .slice A0_1 l0_1.length c0_1, .int .i64 a0_2] 25 (0, 0)) (by (with_reducible repeat (first | refine bdN ?_ _ | refine bdD ?_ | refine blk_alloc ?_ _)); exact BK186.out) hb); have n4_ := Ad.mk (bbl (g := gb187) (o := .cells #[.slice A1_0 l1_0.length c1_0, .slice A1_1 l1_1.length c1_1, .slice A1_2 l1_2.length c1_2, .slice A1_3 l1_3.length c1_3, .int .i64 a1_4] 32 (0, 0)) (by (with_reducible repeat (first | refine bdN ?_ _ | refine bdD ?_ | refine blk_alloc ?_ _)); exact BK187.out) hb); have n5_ := Ad.mk (bbl (g := gb188) (o := .cells #[.slice none 0 0, .slice none 0 0, .int .i64 0] 25 (0, 0)) (by (with_reducible repeat (first | refine bdN ?_ _ | refine bdD ?_ | refine blk_alloc ?_ _)); exact BK188.out) hb); have n6_ := Ad.mk (bbl (g := gb204) (o := .cells #[.slice Ao73 y198.length co73, .slice Ao72 y201.length co72, .int .i64 ji29] 25 (0, 0)) (by (with_reducible repeat (first | refine bdN ?_ _ | refine bdD ?_ | refine blk_alloc ?_ _)); exact BK204.out) hb); have n7_ := Ad.mk (bls (by repeat (first | (with_reducible first | exact HB.out | apply blA | apply blN | apply blD | refine blS ?_ GE186.out | refine blS ?_ GE187.out | refine blS ?_ GE188.out | refine blS ?_ GE204.out) | exact HB.out)) hb); clear HO200; clear HO203; clear BK186; clear BK187; clear BK188; clear BK204; clear HB; have HO200 := n0_; have HO203 := n1_; have HO208 := n2_; have BK186 := n3_; have BK187 := n4_; have BK188 := n5_; have BK204 := n6_; have HB := n7_; clear n0_ n1_ n2_ n3_ n4_ n5_ n6_ n7_; (try clear hb); (try clear hb2); (try clear hk); (try clear hi); (try clear ho0); obtain ⟨Ao85, co85, eo85⟩ := Kd.R_slice HO208.out; subst eo85) | ((with_reducible refine gate_callee (f := 28) rfl ?_); refine goesL_ (some 60) rfl rfl Try.func28 (by kernel_rfl) rfl #[.slice Ao85 t206.length co85] rfl (by (try simp only [List.map_toArray, List.map_cons, List.map_nil]); first | done | rfl | (simp only [List.length_drop, List.length_take]; rfl)) ?_; (with_reducible refine (version_twice.calls _ _ t206 false _ ?side1 ?side2 A32.out).mono ?_); (case side1 => repeat (first | exact (Kd.R_reads' HO208.out).2.2 | (with_reducible refine Kd.C_alloc ?_ _) | (with_reducible refine Kd.C_drewN ?_ _) | (with_reducible refine Kd.C_drew ?_))); (case side2 => exact (Kd.R_reads' HO208.out).2.1); rintro e w86 ⟨rfl, hb⟩; refine ⟨_, rfl, ?_⟩; have n0_ := Ad.mk (Kd.R_below (by (with_reducible repeat (first | apply Kd.R_alloc | apply Kd.R_drewN | apply Kd.R_drew)); exact HO200.out) hb); have n1_ := Ad.mk (Kd.R_below (by (with_reducible repeat (first | apply Kd.R_alloc | apply Kd.R_drewN | apply Kd.R_drew)); exact HO203.out) hb); have n2_ := Ad.mk (Kd.R_below (by (with_reducible repeat (first | apply Kd.R_alloc | apply Kd.R_drewN | apply Kd.R_drew)); exact HO208.out) hb); have n3_ := Ad.mk (bbl (g := gb186) (o := .cells #[.slice A0_0 l0_0.length c0_0, .slice A0_1 l0_1.length c0_1, .int .i64 a0_2] 25 (0, 0)) (by (with_reducible repeat (first | refine bdN ?_ _ | refine bdD ?_ | refine blk_alloc ?_ _)); exact BK186.out) hb); have n4_ := Ad.mk (bbl (g := gb187) (o := .cells #[.slice A1_0 l1_0.length c1_0, .slice A1_1 l1_1.length c1_1, .slice A1_2 l1_2.length c1_2, .slice A1_3 l1_3.length c1_3, .int .i64 a1_4] 32 (0, 0)) (by (with_reducible repeat (first | refine bdN ?_ _ | refine bdD ?_ | refine blk_alloc ?_ _)); exact BK187.out) hb); have n5_ := Ad.mk (bbl (g := gb188) (o := .cells #[.slice none 0 0, .slice none 0 0, .int .i64 0] 25 (0, 0)) (by (with_reducible repeat (first | refine bdN ?_ _ | refine bdD ?_ | refine blk_alloc ?_ _)); exact BK188.out) hb); have n6_ := Ad.mk (bbl (g := gb204) (o := .cells #[.slice Ao73 y198.length co73, .slice Ao72 y201.length co72, .int .i64 ji29] 25 (0, 0)) (by (with_reducible repeat (first | refine bdN ?_ _ | refine bdD ?_ | refine blk_alloc ?_ _)); exact BK204.out) hb); have n7_ := Ad.mk (bls (by repeat (first | (with_reducible first | exact HB.out | apply blA | apply blN | apply blD | refine blS ?_ GE186.out | refine blS ?_ GE187.out | refine blS ?_ GE188.out | refine blS ?_ GE204.out) | exact HB.out)) hb); clear HO200; clear HO203; clear HO208; clear BK186; clear BK187; clear BK188; clear BK204; clear HB; have HO200 := n0_; have HO203 := n1_; have HO208 := n2_; have BK186 := n3_; have BK187 := n4_; have BK188 := n5_; have BK204 := n6_; have HB := n7_; clear n0_ n1_ n2_ n3_ n4_ n5_ n6_ n7_; (try clear hb); (try clear hb2); (try clear hk); (try clear hi); have hcz87_0 : w86.cell? ⟨gb204, 0, none⟩ = some (.slice Ao73 y198.length co73) := (bcl BK204.out 0).trans rfl; have hcz87_1 : w86.cell? ⟨gb204, 1, none⟩ = some (.slice Ao72 y201.length co72) := (bcl BK204.out 1).trans rfl; have hcz87_2 : w86.cell? ⟨gb204, 2, none⟩ = some (.int .i64 ji29) := (bcl BK204.out 2).trans rfl; have hfz87_0 := bfz BK204.out 0; have hfz87_1 := bfz BK204.out 1; have hfz87_2 := bfz BK204.out 2) | ((with_reducible refine gate_callee (f := 13) rfl ?_); refine goesL_ (some 65) rfl rfl Try.func13 (by kernel_rfl) rfl #[.agg #[.slice Ao73 t205.length co73, .slice Ao72 y201.length co72, .int .i64 ji29]] rfl (by (try simp only [List.map_toArray, List.map_cons, List.map_nil]); first | done | (rw [show t205.length = y198.length from (Kd.R_reads' HO200.out).1.symm] <;> rfl) | (simp only [hji29]; rfl) | rfl | (simp only [List.length_drop, List.length_take]; rfl)) ?_; (with_reducible refine (version_Right.calls kj6 _ _ t205 _ _ y201 ji29 true _ ?side1 ?side2 ?side3 ?side4 A61.out).mono ?_); (case side1 => repeat (first | exact (Kd.R_reads' HO200.out).2.2 | (with_reducible refine Kd.C_alloc ?_ _) | (with_reducible refine Kd.C_drewN ?_ _) | (with_reducible refine Kd.C_drew ?_))); (case side2 => rw [show t205.length = y198.length from (Kd.R_reads' HO200.out).1.symm]; exact (Kd.R_reads' HO200.out).2.1); (case side3 => repeat (first | exact (Kd.R_reads' HO203.out).2.2 | (with_reducible refine Kd.C_alloc ?_ _) | (with_reducible refine Kd.C_drewN ?_ _) | (with_reducible refine Kd.C_drew ?_))); (case side4 => exact (Kd.R_reads' HO203.out).2.1); rintro e w88 ⟨rfl, hb⟩; refine ⟨_, rfl, ?_⟩; have n0_ := Ad.mk (Kd.R_below (by (with_reducible repeat (first | apply Kd.R_alloc | apply Kd.R_drewN | apply Kd.R_drew)); exact HO200.out) hb); have n1_ := Ad.mk (Kd.R_below (by (with_reducible repeat (first | apply Kd.R_alloc | apply Kd.R_drewN | apply Kd.R_drew)); exact HO203.out) hb); have n2_ := Ad.mk (Kd.R_below (by (with_reducible repeat (first | apply Kd.R_alloc | apply Kd.R_drewN | apply Kd.R_drew)); exact HO208.out) hb); have n3_ := Ad.mk (bbl (g := gb186) (o := .cells #[.slice A0_0 l0_0.length c0_0, .slice A0_1 l0_1.length c0_1, .int .i64 a0_2] 25 (0, 0)) (by (with_reducible repeat (first | refine bdN ?_ _ | refine bdD ?_ | refine blk_alloc ?_ _)); exact BK186.out) hb); have n4_ := Ad.mk (bbl (g := gb187) (o := .cells #[.slice A1_0 l1_0.length c1_0, .slice A1_1 l1_1.length c1_1, .slice A1_2 l1_2.length c1_2, .slice A1_3 l1_3.length c1_3, .int .i64 a1_4] 32 (0, 0)) (by (with_reducible repeat (first | refine bdN ?_ _ | refine bdD ?_ | refine blk_alloc ?_ _)); exact BK187.out) hb); have n5_ := Ad.mk (bbl (g := gb188) (o := .cells #[.slice none 0 0, .slice none 0 0, .int .i64 0] 25 (0, 0)) (by (with_reducible repeat (first | refine bdN ?_ _ | refine bdD ?_ | refine blk_alloc ?_ _)); exact BK188.out) hb); have n6_ := Ad.mk (bbl (g := gb204) (o := .cells #[.slice Ao73 y198.length co73, .slice Ao72 y201.length co72, .int .i64 ji29] 25 (0, 0)) (by (with_reducible repeat (first | refine bdN ?_ _ | refine bdD ?_ | refine blk_alloc ?_ _)); exact BK204.out) hb); have n7_ := Ad.mk (bls (by repeat (first | (with_reducible first | exact HB.out | apply blA | apply blN | apply blD | refine blS ?_ GE186.out | refine blS ?_ GE187.out | refine blS ?_ GE188.out | refine blS ?_ GE204.out) | exact HB.out)) hb); clear HO200; clear HO203; clear HO208; clear BK186; clear BK187; clear BK188; clear BK204; clear HB; have HO200 := n0_; have HO203 := n1_; have HO208 := n2_; have BK186 := n3_; have BK187 := n4_; have BK188 := n5_; have BK204 := n6_; have HB := n7_; clear n0_ n1_ n2_ n3_ n4_ n5_ n6_ n7_; (try clear hb); (try clear hb2); (try clear hk); (try clear hi); have hcz89_0 : w88.cell? ⟨gb204, 0, none⟩ = some (.slice Ao73 y198.length co73) := (bcl BK204.out 0).trans rfl; have hcz89_1 : w88.cell? ⟨gb204, 1, none⟩ = some (.slice Ao72 y201.length co72) := (bcl BK204.out 1).trans rfl; have hcz89_2 : w88.cell? ⟨gb204, 2, none⟩ = some (.int .i64 ji29) := (bcl BK204.out 2).trans rfl; have hfz89_0 := bfz BK204.out 0; have hfz89_1 := bfz BK204.out 1; have hfz89_2 := bfz BK204.out 2; have hnb90 := NB188_186.out; have hnc90 := NB186_188.out; have hnb91 := NB188_187.out; have hnc91 := NB187_188.out; have hcz92_0 : w88.cell? ⟨gb188, 0, none⟩ = some (.slice none 0 0) := (bcl BK188.out 0).trans rfl; have hcz92_1 : w88.cell? ⟨gb188, 1, none⟩ = some (.slice none 0 0) := (bcl BK188.out 1).trans rfl; have hcz92_2 : w88.cell? ⟨gb188, 2, none⟩ = some (.int .i64 0) := (bcl BK188.out 2).trans rfl; have hfz92_0 := bfz BK188.out 0; have hfz92_1 := bfz BK188.out 1; have hfz92_2 := bfz BK188.out 2))
         refine bodyPost_ret (results_ct rfl _ _ gb188 25 #[.slice Ao73 y198.length co73, .slice Ao72 y201.length co72, .int .i64 ji29] (0, 0) _ rfl (by (with_reducible repeat (first | refine bdN ?_ _ | refine bdD ?_ | refine blk_alloc ?_ _)); refine blk_put (cs := #[.slice Ao73 y198.length co73, .slice Ao72 y201.length co72, .int .i64 0]) ?_ 2 _ rfl; (with_reducible repeat (first | refine bdN ?_ _ | refine bdD ?_ | refine blk_alloc ?_ _)); refine blk_put (cs := #[.slice Ao73 y198.length co73, .slice none 0 0, .int .i64 0]) ?_ 1 _ rfl; (with_reducible repeat (first | refine bdN ?_ _ | refine bdD ?_ | refine blk_alloc ?_ _)); refine blk_put (cs := #[.slice none 0 0, .slice none 0 0, .int .i64 0]) ?_ 0 _ rfl; (with_reducible repeat (first | refine bdN ?_ _ | refine bdD ?_ | refine blk_alloc ?_ _)); exact BK188.out) Try.underlying25 rfl (by kernel_rfl)) rfl ?_
         exact ⟨_, _, by first | rfl | (simp [errW_none, errW_some] <;> rfl) | (simp only [← hji29]; first | rfl | (simp [errW_none, errW_some] <;> rfl)) | (simp [*, errW_none, errW_some] <;> rfl), by (with_reducible repeat (first | apply Kd.R_alloc | apply Kd.R_drewN | apply Kd.R_drew)); exact Kd.R_mono (Kd.R_far (p := ⟨gb188, 2, none⟩) (Kd.R_far (p := ⟨gb188, 1, none⟩) (Kd.R_far (p := ⟨gb188, 0, none⟩) (Kd.R_types HO200.out BK188.out (by decide)) (fun _ hk => hk.2) (.slice Ao73 y198.length co73)) (fun _ hk => hk.2) (.slice Ao72 y201.length co72)) (fun _ hk => hk.2) (.int .i64 ji29)) (fun _ hk => trivial), by (with_reducible repeat (first | apply Kd.R_alloc | apply Kd.R_drewN | apply Kd.R_drew)); exact Kd.R_mono (Kd.R_far (p := ⟨gb188, 2, none⟩) (Kd.R_far (p := ⟨gb188, 1, none⟩) (Kd.R_far (p := ⟨gb188, 0, none⟩) (Kd.R_types HO203.out BK188.out (by decide)) (fun _ hk => hk.2) (.slice Ao73 y198.length co73)) (fun _ hk => hk.2) (.slice Ao72 y201.length co72)) (fun _ hk => hk.2) (.int .i64 ji29)) (fun _ hk => trivial), by repeat (first | (with_reducible first | exact HB.out | apply blA | apply blN | apply blD | refine blS ?_ GE186.out | refine blS ?_ GE187.out | refine blS ?_ GE188.out | refine blS ?_ GE204.out) | exact HB.out)⟩
        ·replace c62 := Bool.eq_false_iff.mpr c62
         subst c62
         have H1 : (some (([] : List (S35)), ([] : List Int), 0, some 1)) = some (r1, r2, r3, r4) := by rw [if_neg (show ¬ (false = true) by decide)] at H; exact H
         clear H
         have H := H1
         clear H1
         simp only [Option.some.injEq, Prod.mk.injEq] at H
         obtain ⟨rfl, rfl, rfl, rfl⟩ := H
         obtain ⟨Ao93, co93, eo93⟩ := Kd.R_slice HO_6.out
         subst eo93
         obtain ⟨Ao94, co94, eo94⟩ := Kd.R_slice HO_8.out
         subst eo94
         try go_wp2
         have n0_ := Ad.mk (Kd.R_drew HO_6.out)
         have n1_ := Ad.mk (Kd.R_drew HO_8.out)
         have n2_ := Ad.mk (bdD BK186.out)
         have n3_ := Ad.mk (bdD BK187.out)
         have n4_ := Ad.mk (bdD BK188.out)
         have n5_ := Ad.mk (blD HB.out)
         clear HO_6
         clear HO_8
         clear BK186
         clear BK187
         clear BK188
         clear HB
         have HO_6 := n0_
         have HO_8 := n1_
         have BK186 := n2_
         have BK187 := n3_
         have BK188 := n4_
         have HB := n5_
         clear n0_ n1_ n2_ n3_ n4_ n5_
         refine start_ (n := 16) (S := fun w' => w'.cell? ⟨gb187, 0, none⟩ = some (.slice A1_0 l1_0.length c1_0) ∧ w'.cell? ⟨gb187, 1, none⟩ = some (.slice A1_1 l1_1.length c1_1) ∧ w'.cell? ⟨gb187, 2, none⟩ = some (.slice A1_2 l1_2.length c1_2) ∧ w'.cell? ⟨gb187, 3, none⟩ = some (.slice A1_3 l1_3.length c1_3) ∧ w'.cell? ⟨gb187, 4, none⟩ = some (.int .i64 a1_4) ∧ w'.cell? ⟨gb186, 0, none⟩ = some (.slice A0_0 l0_0.length c0_0) ∧ w'.cell? ⟨gb186, 1, none⟩ = some (.slice A0_1 l0_1.length c0_1) ∧ w'.cell? ⟨gb186, 2, none⟩ = some (.int .i64 a0_2)) (ds := []) #[false, false, false, false, false, false, false, false, false, false, false, false, false, false, false, false] (by kernel_rfl) rfl rfl ⟨(bcl BK187.out 0).trans rfl, (bcl BK187.out 1).trans rfl, (bcl BK187.out 2).trans rfl, (bcl BK187.out 3).trans rfl, (bcl BK187.out 4).trans rfl, (bcl BK186.out 0).trans rfl, (bcl BK186.out 1).trans rfl, (bcl BK186.out 2).trans rfl⟩ (fun hHeld => ?_); refine with_tabW version_Apply.tab7 version_Apply.bits7 (fun HT_ HW_ => ?_)
         generalize wc.drew = w95 at HO_6 HO_8 BK186 BK187 BK188 HB hHeld ⊢
         refine pure_ (i := 0) (N := some 40) (v := ?_) (a' := ?_) #[true, false, false, false, false, false, false, false, false, false, false, false, false, false, false, false] rfl rfl (any_of HT_.out (by kernel_rfl)) (fun _ _ _ h => h) (Or.inl ⟨by rfl, ?_⟩) ?_ ?_
         rotate_left
         ·intro w'
          go_simp
          with_reducible rfl
         rotate_left
         ·simp only [Act.put, List.setIfInBounds_toArray, List.set_cons_zero, List.set_cons_succ, i64_w, i32_w]
          rfl
         refine pure_ (i := 1) (N := some 41) (v := ?_) (a' := ?_) #[true, true, false, false, false, false, false, false, false, false, false, false, false, false, false, false] rfl rfl (any_of HT_.out (by kernel_rfl)) (fun _ _ _ h => h) (Or.inl ⟨by rfl, ?_⟩) ?_ ?_
         rotate_left
         ·intro w'
          go_simp
          with_reducible rfl
         rotate_left
         ·simp only [Act.put, List.setIfInBounds_toArray, List.set_cons_zero, List.set_cons_succ, i64_w, i32_w]
          rfl
         refine pure_ (i := 4) (N := some 44) (v := ?_) (a' := ?_) #[true, true, false, false, true, false, false, false, false, false, false, false, false, false, false, false] rfl rfl (any_of HT_.out (by kernel_rfl)) (fun _ _ _ h => h) (Or.inl ⟨by rfl, ?_⟩) ?_ ?_
         rotate_left
         ·intro w'
          go_simp
          with_reducible rfl
         rotate_left
         ·simp only [Act.put, List.setIfInBounds_toArray, List.set_cons_zero, List.set_cons_succ, i64_w, i32_w]
          rfl
         refine pure_ (i := 5) (N := some 45) (v := ?_) (a' := ?_) #[true, true, false, false, true, true, false, false, false, false, false, false, false, false, false, false] rfl rfl (any_of HT_.out (by kernel_rfl)) (fun _ _ _ h => h) (Or.inl ⟨by rfl, ?_⟩) ?_ ?_
         rotate_left
         ·intro w'
          go_simp
          with_reducible rfl
         rotate_left
         ·simp only [Act.put, List.setIfInBounds_toArray, List.set_cons_zero, List.set_cons_succ, i64_w, i32_w]
          rfl
         refine pure_ (i := 8) (N := some 48) (v := ?_) (a' := ?_) #[true, true, false, false, true, true, false, false, true, false, false, false, false, false, false, false] rfl rfl (any_of HT_.out (by kernel_rfl)) (fun _ _ _ h => h) (Or.inl ⟨by rfl, ?_⟩) ?_ ?_
         rotate_left
         ·intro w'
          go_simp
          with_reducible rfl
         rotate_left
         ·simp only [Act.put, List.setIfInBounds_toArray, List.set_cons_zero, List.set_cons_succ, i64_w, i32_w]
          rfl
         refine pure_ (i := 10) (N := some 50) (v := ?_) (a' := ?_) #[true, true, false, false, true, true, false, false, true, false, true, false, false, false, false, false] rfl rfl (any_of HT_.out (by kernel_rfl)) (fun _ _ _ h => h) (Or.inl ⟨by rfl, ?_⟩) ?_ ?_
         rotate_left
         ·intro w'
          go_simp
          with_reducible rfl
         rotate_left
         ·simp only [Act.put, List.setIfInBounds_toArray, List.set_cons_zero, List.set_cons_succ, i64_w, i32_w]
          rfl
         refine take_ (i := 2) (N := some 42) (v := ?_) (a' := ?_) #[true, true, true, false, true, true, false, false, true, false, true, false, false, false, false, false] rfl rfl (take_ofW HT_.out HW_.out (by kernel_rfl)) (fun _ _ _ h => h) (Or.inl ⟨by rfl, ?_⟩) hHeld ?_ ?_
         rotate_left
         ·rintro w' ⟨s0, s1, s2, s3, s4, s5, s6, s7⟩
          go_simp
          with_reducible rfl
         rotate_left
         ·simp only [Act.put, List.setIfInBounds_toArray, List.set_cons_zero, List.set_cons_succ, i64_w, i32_w]
          rfl
         refine take_ (i := 6) (N := some 46) (v := ?_) (a' := ?_) #[true, true, true, false, true, true, true, false, true, false, true, false, false, false, false, false] rfl rfl (take_ofW HT_.out HW_.out (by kernel_rfl)) (fun _ _ _ h => h) (Or.inl ⟨by rfl, ?_⟩) hHeld ?_ ?_
         rotate_left
         ·rintro w' ⟨s0, s1, s2, s3, s4, s5, s6, s7⟩
          go_simp
          with_reducible rfl
         rotate_left
         ·simp only [Act.put, List.setIfInBounds_toArray, List.set_cons_zero, List.set_cons_succ, i64_w, i32_w]
          rfl
         refine take_ (i := 9) (N := some 49) (v := ?_) (a' := ?_) #[true, true, true, false, true, true, true, false, true, true, true, false, false, false, false, false] rfl rfl (take_ofW HT_.out HW_.out (by kernel_rfl)) (fun _ _ _ h => h) (Or.inl ⟨by rfl, ?_⟩) hHeld ?_ ?_
         rotate_left
         ·rintro w' ⟨s0, s1, s2, s3, s4, s5, s6, s7⟩
          go_simp
          with_reducible rfl
         rotate_left
         ·simp only [Act.put, List.setIfInBounds_toArray, List.set_cons_zero, List.set_cons_succ, i64_w, i32_w]
          rfl
         refine take_ (i := 11) (N := some 51) (v := ?_) (a' := ?_) #[true, true, true, false, true, true, true, false, true, true, true, true, false, false, false, false] rfl rfl (take_ofW HT_.out HW_.out (by kernel_rfl)) (fun _ _ _ h => h) (Or.inl ⟨by rfl, ?_⟩) hHeld ?_ ?_
         rotate_left
         ·rintro w' ⟨s0, s1, s2, s3, s4, s5, s6, s7⟩
          go_simp
          with_reducible rfl
         rotate_left
         ·simp only [Act.put, List.setIfInBounds_toArray, List.set_cons_zero, List.set_cons_succ, i64_w, i32_w]
          rfl
         refine pure_ (i := 12) (N := some 52) (v := ?_) (a' := ?_) #[true, true, true, false, true, true, true, false, true, true, true, true, true, false, false, false] rfl rfl (any_of HT_.out (by kernel_rfl)) (fun _ _ _ h => h) (Or.inl ⟨by rfl, ?_⟩) ?_ ?_
         rotate_left
         ·intro w'
          go_simp
          with_reducible rfl
         rotate_left
         ·simp only [Act.put, List.setIfInBounds_toArray, List.set_cons_zero, List.set_cons_succ, i64_w, i32_w]
          rfl
         refine join_ (σ := Value × Value × Nat) 1 #[true, true, true, true, true, true, true, true, true, true, true, true, true, true, true, false] (fun s_ => [(43, s_.1), (47, s_.2.1), (10, .pointer (some ⟨s_.2.2, 0, none⟩)), (53, .agg #[s_.1, s_.2.1, .int .i64 ji29])]) (fun s_ w' => (w'.cell? ⟨gb187, 0, none⟩ = some (.slice A1_0 l1_0.length c1_0) ∧ w'.cell? ⟨gb187, 1, none⟩ = some (.slice A1_1 l1_1.length c1_1) ∧ w'.cell? ⟨gb187, 2, none⟩ = some (.slice A1_2 l1_2.length c1_2) ∧ w'.cell? ⟨gb187, 3, none⟩ = some (.slice A1_3 l1_3.length c1_3) ∧ w'.cell? ⟨gb187, 4, none⟩ = some (.int .i64 a1_4) ∧ w'.cell? ⟨gb186, 0, none⟩ = some (.slice A0_0 l0_0.length c0_0) ∧ w'.cell? ⟨gb186, 1, none⟩ = some (.slice A0_1 l0_1.length c0_1) ∧ w'.cell? ⟨gb186, 2, none⟩ = some (.int .i64 a0_2)) ∧ (Kd.R k35 35 w' w.heap.size (fun _ => True) s_.1 y198) ∧ (Kd.R (Kd.int .i64) 3 w' w.heap.size (fun _ => True) s_.2.1 y201) ∧ (w'.heap[gb186]? = some (.cells #[.slice A0_0 l0_0.length c0_0, .slice A0_1 l0_1.length c0_1, .int .i64 a0_2] 25 (0, 0))) ∧ (w'.heap[gb187]? = some (.cells #[.slice A1_0 l1_0.length c1_0, .slice A1_1 l1_1.length c1_1, .slice A1_2 l1_2.length c1_2, .slice A1_3 l1_3.length c1_3, .int .i64 a1_4] 32 (0, 0))) ∧ (w'.heap[gb188]? = some (.cells #[.slice none 0 0, .slice none 0 0, .int .i64 0] 25 (0, 0))) ∧ (w'.heap[s_.2.2]? = some (.cells #[.slice none 0 0, .slice none 0 0, .int .i64 0] 25 (0, 0))) ∧ (w.heap.size ≤ s_.2.2) ∧ (w.heap.size ≤ s_.2.2) ∧ (gb186 ≠ s_.2.2) ∧ (s_.2.2 ≠ gb186) ∧ (gb187 ≠ s_.2.2) ∧ (s_.2.2 ≠ gb187) ∧ (gb188 ≠ s_.2.2) ∧ (s_.2.2 ≠ gb188) ∧ (Below w.heap.size w w')) ?_ ?_
         rotate_left
         ·intro hCont
          refine two_ (i := 3) (j := 14) (Ni := some 43) (Nj := some 10) #[true, true, true, true, true, true, true, false, true, true, true, true, true, false, false, false] #[true, true, true, false, true, true, true, false, true, true, true, true, true, false, true, false] rfl rfl rfl rfl (two_of HT_.out (by kernel_rfl)) (by decide) (by decide) (fun K hK => ?_) (fun K hK => ?_)
          ·skip
           refine Kd.R_append_rows_step k35 (w0 := w) w.heap.size (by rfl) (.tmp 40) (.tmp 42) 22 35 (.agg #[(.int .i64 0), (.int .i64 0), (.string ⟨#[]⟩), (.string ⟨#[]⟩), (.int .i64 0)]) 56 rfl Try.underlying22 info35 rfl (by decide) (by omega) (.slice Ao93 t190.length co93) t190 l1_0 _ _ _ (fun _ => True) (fun _ => False) rfl rfl ?aO ?aR (fun _ _ h => h) (fun _ h => h.elim) ?aF ?aB ?aS ?aL ?_
           (case aR => repeat (first | exact (Kd.C_below HR1_0.out HB.out) | (with_reducible refine Kd.C_alloc ?_ _) | (with_reducible refine Kd.C_drewN ?_ _) | (with_reducible refine Kd.C_drew ?_)))
           (case aB => exact (by repeat (first | (with_reducible first | exact HB.out | apply blA | apply blN | apply blD | refine blS ?_ GE186.out | refine blS ?_ GE187.out | refine blS ?_ GE188.out) | exact HB.out)))
           (case aF => exact (fun _ _ => trivial))
           (case aO => exact (by (with_reducible repeat (first | apply Kd.R_alloc | apply Kd.R_drewN | apply Kd.R_drew)); exact HO_6.out))
           (case aS => exact (blz (by repeat (first | (with_reducible first | exact HB.out | apply blA | apply blN | apply blD | refine blS ?_ GE186.out | refine blS ?_ GE187.out | refine blS ?_ GE188.out) | exact HB.out))))
           (case aL => have := LMc27.out; omega)
           intro v199 w96 ho hb hg hat
           rw [← Ny198.out] at ho
           have n0_ := Ad.mk (Kd.R_over' (by (with_reducible repeat (first | apply Kd.R_alloc | apply Kd.R_drewN | apply Kd.R_drew)); exact HO_8.out) (Kd.R_typed (by (with_reducible repeat (first | apply Kd.R_alloc | apply Kd.R_drewN | apply Kd.R_drew)); exact HO_6.out)) (by decide) hg)
           have n1_ := Ad.mk (blk_grown (g := gb186) (o := .cells #[.slice A0_0 l0_0.length c0_0, .slice A0_1 l0_1.length c0_1, .int .i64 a0_2] 25 (0, 0)) (by (with_reducible repeat (first | refine bdN ?_ _ | refine bdD ?_ | refine blk_alloc ?_ _)); exact BK186.out) hg (Kd.R_ne HO_6.out BK186.out (by decide)))
           have n2_ := Ad.mk (blk_grown (g := gb187) (o := .cells #[.slice A1_0 l1_0.length c1_0, .slice A1_1 l1_1.length c1_1, .slice A1_2 l1_2.length c1_2, .slice A1_3 l1_3.length c1_3, .int .i64 a1_4] 32 (0, 0)) (by (with_reducible repeat (first | refine bdN ?_ _ | refine bdD ?_ | refine blk_alloc ?_ _)); exact BK187.out) hg (Kd.R_ne HO_6.out BK187.out (by decide)))
           have n3_ := Ad.mk (blk_grown (g := gb188) (o := .cells #[.slice none 0 0, .slice none 0 0, .int .i64 0] 25 (0, 0)) (by (with_reducible repeat (first | refine bdN ?_ _ | refine bdD ?_ | refine blk_alloc ?_ _)); exact BK188.out) hg (Kd.R_ne HO_6.out BK188.out (by decide)))
           have n4_ := Ad.mk (hb)
           have n5_ := Ad.mk (ho)
           clear HO_8
           clear BK186
           clear BK187
           clear BK188
           clear HB
           clear HO_6
           have HO_8 := n0_
           have BK186 := n1_
           have BK187 := n2_
           have BK188 := n3_
           have HB := n4_
           have HO200 := n5_
           clear n0_ n1_ n2_ n3_ n4_ n5_
           clear ho hb hg hat
           refine hK.out _ _ ⟨(bcl BK187.out 0).trans rfl, (bcl BK187.out 1).trans rfl, (bcl BK187.out 2).trans rfl, (bcl BK187.out 3).trans rfl, (bcl BK187.out 4).trans rfl, (bcl BK186.out 0).trans rfl, (bcl BK186.out 1).trans rfl, (bcl BK186.out 2).trans rfl⟩ (fun hHeld => ?_)
           clear hK K
           refine norm_ (a' := ?_) ?_ ?_
           rotate_left
           ·show Act.put _ (some 43) _ = _
            simp only [Act.put, List.setIfInBounds_toArray, List.set_cons_zero, List.set_cons_succ, i64_w, i32_w]
            rfl
           refine two_ (i := 7) (j := 14) (Ni := some 47) (Nj := some 10) #[true, true, true, true, true, true, true, true, true, true, true, true, true, false, false, false] #[true, true, true, true, true, true, true, false, true, true, true, true, true, false, true, false] rfl rfl rfl rfl (two_of HT_.out (by kernel_rfl)) (by decide) (by decide) (fun K hK => ?_) (fun K hK => ?_)
           ·skip
            refine Kd.R_append_rows_step (Kd.int .i64) (w0 := w) w.heap.size (by rfl) (.tmp 44) (.tmp 46) 23 3 (.int .i64 0) 8 rfl Try.underlying23 info3 rfl (by decide) (by omega) (.slice Ao94 t194.length co94) t194 l1_2 _ _ _ (fun _ => True) (fun _ => False) rfl rfl ?aO ?aR (fun _ _ h => h) (fun _ h => h.elim) ?aF ?aB ?aS ?aL ?_
            (case aR => repeat (first | exact (Kd.C_below HR1_2.out HB.out) | (with_reducible refine Kd.C_alloc ?_ _) | (with_reducible refine Kd.C_drewN ?_ _) | (with_reducible refine Kd.C_drew ?_)))
            (case aB => exact (by repeat (first | (with_reducible first | exact HB.out | apply blA | apply blN | apply blD | refine blS ?_ GE186.out | refine blS ?_ GE187.out | refine blS ?_ GE188.out) | exact HB.out)))
            (case aF => exact (fun _ _ => trivial))
            (case aO => exact (by (with_reducible repeat (first | apply Kd.R_alloc | apply Kd.R_drewN | apply Kd.R_drew)); exact HO_8.out))
            (case aS => exact (blz (by repeat (first | (with_reducible first | exact HB.out | apply blA | apply blN | apply blD | refine blS ?_ GE186.out | refine blS ?_ GE187.out | refine blS ?_ GE188.out) | exact HB.out))))
            (case aL => have := LMc28.out; omega)
            intro v202 w97 ho hb hg hat
            rw [← Ny201.out] at ho
            have n0_ := Ad.mk (blk_grown (g := gb186) (o := .cells #[.slice A0_0 l0_0.length c0_0, .slice A0_1 l0_1.length c0_1, .int .i64 a0_2] 25 (0, 0)) (by (with_reducible repeat (first | refine bdN ?_ _ | refine bdD ?_ | refine blk_alloc ?_ _)); exact BK186.out) hg (Kd.R_ne HO_8.out BK186.out (by decide)))
            have n1_ := Ad.mk (blk_grown (g := gb187) (o := .cells #[.slice A1_0 l1_0.length c1_0, .slice A1_1 l1_1.length c1_1, .slice A1_2 l1_2.length c1_2, .slice A1_3 l1_3.length c1_3, .int .i64 a1_4] 32 (0, 0)) (by (with_reducible repeat (first | refine bdN ?_ _ | refine bdD ?_ | refine blk_alloc ?_ _)); exact BK187.out) hg (Kd.R_ne HO_8.out BK187.out (by decide)))
            have n2_ := Ad.mk (blk_grown (g := gb188) (o := .cells #[.slice none 0 0, .slice none 0 0, .int .i64 0] 25 (0, 0)) (by (with_reducible repeat (first | refine bdN ?_ _ | refine bdD ?_ | refine blk_alloc ?_ _)); exact BK188.out) hg (Kd.R_ne HO_8.out BK188.out (by decide)))
            have n3_ := Ad.mk (Kd.R_over' (by (with_reducible repeat (first | apply Kd.R_alloc | apply Kd.R_drewN | apply Kd.R_drew)); exact HO200.out) (Kd.R_typed (by (with_reducible repeat (first | apply Kd.R_alloc | apply Kd.R_drewN | apply Kd.R_drew)); exact HO_8.out)) (by decide) hg)
            have n4_ := Ad.mk (hb)
            have n5_ := Ad.mk (ho)
            clear BK186
            clear BK187
            clear BK188
            clear HO200
            clear HB
            clear HO_8
            have BK186 := n0_
            have BK187 := n1_
            have BK188 := n2_
            have HO200 := n3_
            have HB := n4_
            have HO203 := n5_
            clear n0_ n1_ n2_ n3_ n4_ n5_
            clear ho hb hg hat
            obtain ⟨Ao98, co98, eo98⟩ := Kd.R_slice HO203.out
            (first | subst eo98 | (injection eo98 with f1_ f2_ f3_; have f4_ := f1_.symm; have f5_ := f3_.symm; clear f1_ f2_ f3_; subst f4_; subst f5_))
            obtain ⟨Ao99, co99, eo99⟩ := Kd.R_slice HO200.out
            (first | subst eo99 | (injection eo99 with f1_ f2_ f3_; have f4_ := f1_.symm; have f5_ := f3_.symm; clear f1_ f2_ f3_; subst f4_; subst f5_))
            refine hK.out _ _ ⟨(bcl BK187.out 0).trans rfl, (bcl BK187.out 1).trans rfl, (bcl BK187.out 2).trans rfl, (bcl BK187.out 3).trans rfl, (bcl BK187.out 4).trans rfl, (bcl BK186.out 0).trans rfl, (bcl BK186.out 1).trans rfl, (bcl BK186.out 2).trans rfl⟩ (fun hHeld => ?_)
            clear hK K
            refine norm_ (a' := ?_) ?_ ?_
            rotate_left
            ·show Act.put _ (some 47) _ = _
             simp only [Act.put, List.setIfInBounds_toArray, List.set_cons_zero, List.set_cons_succ, i64_w, i32_w]
             rfl
            refine pure_ (i := 13) (N := some 53) (v := ?_) (a' := ?_) #[true, true, true, true, true, true, true, true, true, true, true, true, true, true, false, false] rfl rfl (any_of HT_.out (by kernel_rfl)) (fun _ _ _ h => h) (Or.inl ⟨by rfl, ?_⟩) ?_ ?_
            rotate_left
            ·intro w'
             go_simp
             with_reducible rfl
            rotate_left
            ·simp only [Act.put, List.setIfInBounds_toArray, List.set_cons_zero, List.set_cons_succ, i64_w, i32_w]
             rfl
            refine one_ (i := 14) (N := some 10) #[true, true, true, true, true, true, true, true, true, true, true, true, true, true, true, false] rfl rfl (one_of HT_.out (by kernel_rfl)) (by decide) (fun K hK => ?_)
            refine box_step ?hg (N := 10) ?hd (cs := #[.slice none 0 0, .slice none 0 0, .int .i64 0]) (t := 25) ?hr ?_; (case hd => rfl); (case hg => rfl); (case hr => first | (go_simp; done) | (go_simp; rfl))
            intro gb204 hg w100 hbox hb
            have n0_ := Ad.mk (Kd.R_below (by (with_reducible repeat (first | apply Kd.R_alloc | apply Kd.R_drewN | apply Kd.R_drew)); exact HO200.out) hb)
            have n1_ := Ad.mk (Kd.R_below (by (with_reducible repeat (first | apply Kd.R_alloc | apply Kd.R_drewN | apply Kd.R_drew)); exact HO203.out) hb)
            have n2_ := Ad.mk (bbl (g := gb186) (o := .cells #[.slice A0_0 l0_0.length c0_0, .slice A0_1 l0_1.length c0_1, .int .i64 a0_2] 25 (0, 0)) (by (with_reducible repeat (first | refine bdN ?_ _ | refine bdD ?_ | refine blk_alloc ?_ _)); exact BK186.out) hb)
            have n3_ := Ad.mk (bbl (g := gb187) (o := .cells #[.slice A1_0 l1_0.length c1_0, .slice A1_1 l1_1.length c1_1, .slice A1_2 l1_2.length c1_2, .slice A1_3 l1_3.length c1_3, .int .i64 a1_4] 32 (0, 0)) (by (with_reducible repeat (first | refine bdN ?_ _ | refine bdD ?_ | refine blk_alloc ?_ _)); exact BK187.out) hb)
            have n4_ := Ad.mk (bbl (g := gb188) (o := .cells #[.slice none 0 0, .slice none 0 0, .int .i64 0] 25 (0, 0)) (by (with_reducible repeat (first | refine bdN ?_ _ | refine bdD ?_ | refine blk_alloc ?_ _)); exact BK188.out) hb)
            have n5_ := Ad.mk (bls (by repeat (first | (with_reducible first | exact HB.out | apply blA | apply blN | apply blD | refine blS ?_ GE186.out | refine blS ?_ GE187.out | refine blS ?_ GE188.out) | exact HB.out)) hb)
            have n6_ := Ad.mk (hbox)
            have n7_ := Ad.mk ((by rw [hg]; exact (blz (by repeat (first | (with_reducible first | exact HB.out | apply blA | apply blN | apply blD | refine blS ?_ GE186.out | refine blS ?_ GE187.out | refine blS ?_ GE188.out) | exact HB.out))) : w.heap.size ≤ gb204))
            have n8_ := Ad.mk ((by rw [hg]; exact (blz (by repeat (first | (with_reducible first | exact HB.out | apply blA | apply blN | apply blD | refine blS ?_ GE186.out | refine blS ?_ GE187.out | refine blS ?_ GE188.out) | exact HB.out))) : w.heap.size ≤ gb204))
            have n9_ := Ad.mk ((by rw [hg]; exact Nat.ne_of_lt (blk_lt (g := gb186) (o := .cells #[.slice A0_0 l0_0.length c0_0, .slice A0_1 l0_1.length c0_1, .int .i64 a0_2] 25 (0, 0)) (by (with_reducible repeat (first | refine bdN ?_ _ | refine bdD ?_ | refine blk_alloc ?_ _)); exact BK186.out)) : gb186 ≠ gb204))
            have n10_ := Ad.mk ((by rw [hg]; exact Nat.ne_of_gt (blk_lt (g := gb186) (o := .cells #[.slice A0_0 l0_0.length c0_0, .slice A0_1 l0_1.length c0_1, .int .i64 a0_2] 25 (0, 0)) (by (with_reducible repeat (first | refine bdN ?_ _ | refine bdD ?_ | refine blk_alloc ?_ _)); exact BK186.out)) : gb204 ≠ gb186))
            have n11_ := Ad.mk ((by rw [hg]; exact Nat.ne_of_lt (blk_lt (g := gb187) (o := .cells #[.slice A1_0 l1_0.length c1_0, .slice A1_1 l1_1.length c1_1, .slice A1_2 l1_2.length c1_2, .slice A1_3 l1_3.length c1_3, .int .i64 a1_4] 32 (0, 0)) (by (with_reducible repeat (first | refine bdN ?_ _ | refine bdD ?_ | refine blk_alloc ?_ _)); exact BK187.out)) : gb187 ≠ gb204))
            have n12_ := Ad.mk ((by rw [hg]; exact Nat.ne_of_gt (blk_lt (g := gb187) (o := .cells #[.slice A1_0 l1_0.length c1_0, .slice A1_1 l1_1.length c1_1, .slice A1_2 l1_2.length c1_2, .slice A1_3 l1_3.length c1_3, .int .i64 a1_4] 32 (0, 0)) (by (with_reducible repeat (first | refine bdN ?_ _ | refine bdD ?_ | refine blk_alloc ?_ _)); exact BK187.out)) : gb204 ≠ gb187))
            have n13_ := Ad.mk ((by rw [hg]; exact Nat.ne_of_lt (blk_lt (g := gb188) (o := .cells #[.slice none 0 0, .slice none 0 0, .int .i64 0] 25 (0, 0)) (by (with_reducible repeat (first | refine bdN ?_ _ | refine bdD ?_ | refine blk_alloc ?_ _)); exact BK188.out)) : gb188 ≠ gb204))
            have n14_ := Ad.mk ((by rw [hg]; exact Nat.ne_of_gt (blk_lt (g := gb188) (o := .cells #[.slice none 0 0, .slice none 0 0, .int .i64 0] 25 (0, 0)) (by (with_reducible repeat (first | refine bdN ?_ _ | refine bdD ?_ | refine blk_alloc ?_ _)); exact BK188.out)) : gb204 ≠ gb188))
            clear HO200
            clear HO203
            clear BK186
            clear BK187
            clear BK188
            clear HB
            have HO200 := n0_
            have HO203 := n1_
            have BK186 := n2_
            have BK187 := n3_
            have BK188 := n4_
            have HB := n5_
            have BK204 := n6_
            have GW204 := n7_
            have GE204 := n8_
            have NB186_204 := n9_
            have NB204_186 := n10_
            have NB187_204 := n11_
            have NB204_187 := n12_
            have NB188_204 := n13_
            have NB204_188 := n14_
            clear n0_ n1_ n2_ n3_ n4_ n5_ n6_ n7_ n8_ n9_ n10_ n11_ n12_ n13_ n14_
            clear hb hbox hg
            refine hK.out _ _ ⟨(bcl BK187.out 0).trans rfl, (bcl BK187.out 1).trans rfl, (bcl BK187.out 2).trans rfl, (bcl BK187.out 3).trans rfl, (bcl BK187.out 4).trans rfl, (bcl BK186.out 0).trans rfl, (bcl BK186.out 1).trans rfl, (bcl BK186.out 2).trans rfl⟩ (fun hHeld => ?_)
            clear hK K
            refine norm_ (a' := ?_) ?_ ?_
            rotate_left
            ·show Act.put _ (some 10) _ = _
             simp only [Act.put, List.setIfInBounds_toArray, List.set_cons_zero, List.set_cons_succ, i64_w, i32_w]
             rfl
            exact norm_ (by simp only [putAll, Act.put, List.setIfInBounds_toArray, List.set_cons_zero, List.set_cons_succ]) (hCont (.slice Ao99 y198.length co99, .slice Ao98 y201.length co98, gb204) _ ⟨hHeld, (by (with_reducible repeat (first | apply Kd.R_alloc | apply Kd.R_drewN | apply Kd.R_drew)); exact HO200.out), (by (with_reducible repeat (first | apply Kd.R_alloc | apply Kd.R_drewN | apply Kd.R_drew)); exact HO203.out), (by (with_reducible repeat (first | refine bdN ?_ _ | refine bdD ?_ | refine blk_alloc ?_ _)); exact BK186.out), (by (with_reducible repeat (first | refine bdN ?_ _ | refine bdD ?_ | refine blk_alloc ?_ _)); exact BK187.out), (by (with_reducible repeat (first | refine bdN ?_ _ | refine bdD ?_ | refine blk_alloc ?_ _)); exact BK188.out), (by (with_reducible repeat (first | refine bdN ?_ _ | refine bdD ?_ | refine blk_alloc ?_ _)); exact BK204.out), GW204.out, GE204.out, NB186_204.out, NB204_186.out, NB187_204.out, NB204_187.out, NB188_204.out, NB204_188.out, (by repeat (first | (with_reducible first | exact HB.out | apply blA | apply blN | apply blD | refine blS ?_ GE186.out | refine blS ?_ GE187.out | refine blS ?_ GE188.out | refine blS ?_ GE204.out) | exact HB.out))⟩)
           ·skip
            refine box_step ?hg (N := 10) ?hd (cs := #[.slice none 0 0, .slice none 0 0, .int .i64 0]) (t := 25) ?hr ?_; (case hd => rfl); (case hg => rfl); (case hr => first | (go_simp; done) | (go_simp; rfl))
            intro gb204 hg w97 hbox hb
            have n0_ := Ad.mk (Kd.R_below (by (with_reducible repeat (first | apply Kd.R_alloc | apply Kd.R_drewN | apply Kd.R_drew)); exact HO_8.out) hb)
            have n1_ := Ad.mk (Kd.R_below (by (with_reducible repeat (first | apply Kd.R_alloc | apply Kd.R_drewN | apply Kd.R_drew)); exact HO200.out) hb)
            have n2_ := Ad.mk (bbl (g := gb186) (o := .cells #[.slice A0_0 l0_0.length c0_0, .slice A0_1 l0_1.length c0_1, .int .i64 a0_2] 25 (0, 0)) (by (with_reducible repeat (first | refine bdN ?_ _ | refine bdD ?_ | refine blk_alloc ?_ _)); exact BK186.out) hb)
            have n3_ := Ad.mk (bbl (g := gb187) (o := .cells #[.slice A1_0 l1_0.length c1_0, .slice A1_1 l1_1.length c1_1, .slice A1_2 l1_2.length c1_2, .slice A1_3 l1_3.length c1_3, .int .i64 a1_4] 32 (0, 0)) (by (with_reducible repeat (first | refine bdN ?_ _ | refine bdD ?_ | refine blk_alloc ?_ _)); exact BK187.out) hb)
            have n4_ := Ad.mk (bbl (g := gb188) (o := .cells #[.slice none 0 0, .slice none 0 0, .int .i64 0] 25 (0, 0)) (by (with_reducible repeat (first | refine bdN ?_ _ | refine bdD ?_ | refine blk_alloc ?_ _)); exact BK188.out) hb)
            have n5_ := Ad.mk (bls (by repeat (first | (with_reducible first | exact HB.out | apply blA | apply blN | apply blD | refine blS ?_ GE186.out | refine blS ?_ GE187.out | refine blS ?_ GE188.out) | exact HB.out)) hb)
            have n6_ := Ad.mk (hbox)
            have n7_ := Ad.mk ((by rw [hg]; exact (blz (by repeat (first | (with_reducible first | exact HB.out | apply blA | apply blN | apply blD | refine blS ?_ GE186.out | refine blS ?_ GE187.out | refine blS ?_ GE188.out) | exact HB.out))) : w.heap.size ≤ gb204))
            have n8_ := Ad.mk ((by rw [hg]; exact (blz (by repeat (first | (with_reducible first | exact HB.out | apply blA | apply blN | apply blD | refine blS ?_ GE186.out | refine blS ?_ GE187.out | refine blS ?_ GE188.out) | exact HB.out))) : w.heap.size ≤ gb204))
            have n9_ := Ad.mk ((by rw [hg]; exact Nat.ne_of_lt (blk_lt (g := gb186) (o := .cells #[.slice A0_0 l0_0.length c0_0, .slice A0_1 l0_1.length c0_1, .int .i64 a0_2] 25 (0, 0)) (by (with_reducible repeat (first | refine bdN ?_ _ | refine bdD ?_ | refine blk_alloc ?_ _)); exact BK186.out)) : gb186 ≠ gb204))
            have n10_ := Ad.mk ((by rw [hg]; exact Nat.ne_of_gt (blk_lt (g := gb186) (o := .cells #[.slice A0_0 l0_0.length c0_0, .slice A0_1 l0_1.length c0_1, .int .i64 a0_2] 25 (0, 0)) (by (with_reducible repeat (first | refine bdN ?_ _ | refine bdD ?_ | refine blk_alloc ?_ _)); exact BK186.out)) : gb204 ≠ gb186))
            have n11_ := Ad.mk ((by rw [hg]; exact Nat.ne_of_lt (blk_lt (g := gb187) (o := .cells #[.slice A1_0 l1_0.length c1_0, .slice A1_1 l1_1.length c1_1, .slice A1_2 l1_2.length c1_2, .slice A1_3 l1_3.length c1_3, .int .i64 a1_4] 32 (0, 0)) (by (with_reducible repeat (first | refine bdN ?_ _ | refine bdD ?_ | refine blk_alloc ?_ _)); exact BK187.out)) : gb187 ≠ gb204))
            have n12_ := Ad.mk ((by rw [hg]; exact Nat.ne_of_gt (blk_lt (g := gb187) (o := .cells #[.slice A1_0 l1_0.length c1_0, .slice A1_1 l1_1.length c1_1, .slice A1_2 l1_2.length c1_2, .slice A1_3 l1_3.length c1_3, .int .i64 a1_4] 32 (0, 0)) (by (with_reducible repeat (first | refine bdN ?_ _ | refine bdD ?_ | refine blk_alloc ?_ _)); exact BK187.out)) : gb204 ≠ gb187))
            have n13_ := Ad.mk ((by rw [hg]; exact Nat.ne_of_lt (blk_lt (g := gb188) (o := .cells #[.slice none 0 0, .slice none 0 0, .int .i64 0] 25 (0, 0)) (by (with_reducible repeat (first | refine bdN ?_ _ | refine bdD ?_ | refine blk_alloc ?_ _)); exact BK188.out)) : gb188 ≠ gb204))
            have n14_ := Ad.mk ((by rw [hg]; exact Nat.ne_of_gt (blk_lt (g := gb188) (o := .cells #[.slice none 0 0, .slice none 0 0, .int .i64 0] 25 (0, 0)) (by (with_reducible repeat (first | refine bdN ?_ _ | refine bdD ?_ | refine blk_alloc ?_ _)); exact BK188.out)) : gb204 ≠ gb188))
            clear HO_8
            clear HO200
            clear BK186
            clear BK187
            clear BK188
            clear HB
            have HO_8 := n0_
            have HO200 := n1_
            have BK186 := n2_
            have BK187 := n3_
            have BK188 := n4_
            have HB := n5_
            have BK204 := n6_
            have GW204 := n7_
            have GE204 := n8_
            have NB186_204 := n9_
            have NB204_186 := n10_
            have NB187_204 := n11_
            have NB204_187 := n12_
            have NB188_204 := n13_
            have NB204_188 := n14_
            clear n0_ n1_ n2_ n3_ n4_ n5_ n6_ n7_ n8_ n9_ n10_ n11_ n12_ n13_ n14_
            clear hb hbox hg
            refine hK.out _ _ ⟨(bcl BK187.out 0).trans rfl, (bcl BK187.out 1).trans rfl, (bcl BK187.out 2).trans rfl, (bcl BK187.out 3).trans rfl, (bcl BK187.out 4).trans rfl, (bcl BK186.out 0).trans rfl, (bcl BK186.out 1).trans rfl, (bcl BK186.out 2).trans rfl⟩ (fun hHeld => ?_)
            clear hK K
            refine norm_ (a' := ?_) ?_ ?_
            rotate_left
            ·show Act.put _ (some 10) _ = _
             simp only [Act.put, List.setIfInBounds_toArray, List.set_cons_zero, List.set_cons_succ, i64_w, i32_w]
             rfl
            refine one_ (i := 7) (N := some 47) #[true, true, true, true, true, true, true, true, true, true, true, true, true, false, true, false] rfl rfl (one_of HT_.out (by kernel_rfl)) (by decide) (fun K hK => ?_)
            refine Kd.R_append_rows_step (Kd.int .i64) (w0 := w) w.heap.size (by rfl) (.tmp 44) (.tmp 46) 23 3 (.int .i64 0) 8 rfl Try.underlying23 info3 rfl (by decide) (by omega) (.slice Ao94 t194.length co94) t194 l1_2 _ _ _ (fun _ => True) (fun _ => False) rfl rfl ?aO ?aR (fun _ _ h => h) (fun _ h => h.elim) ?aF ?aB ?aS ?aL ?_
            (case aR => repeat (first | exact (Kd.C_below HR1_2.out HB.out) | (with_reducible refine Kd.C_alloc ?_ _) | (with_reducible refine Kd.C_drewN ?_ _) | (with_reducible refine Kd.C_drew ?_)))
            (case aB => exact (by repeat (first | (with_reducible first | exact HB.out | apply blA | apply blN | apply blD | refine blS ?_ GE186.out | refine blS ?_ GE187.out | refine blS ?_ GE188.out | refine blS ?_ GE204.out) | exact HB.out)))
            (case aF => exact (fun _ _ => trivial))
            (case aO => exact (by (with_reducible repeat (first | apply Kd.R_alloc | apply Kd.R_drewN | apply Kd.R_drew)); exact HO_8.out))
            (case aS => exact (blz (by repeat (first | (with_reducible first | exact HB.out | apply blA | apply blN | apply blD | refine blS ?_ GE186.out | refine blS ?_ GE187.out | refine blS ?_ GE188.out | refine blS ?_ GE204.out) | exact HB.out))))
            (case aL => have := LMc28.out; omega)
            intro v202 w98 ho hb hg hat
            rw [← Ny201.out] at ho
            have n0_ := Ad.mk (blk_grown (g := gb186) (o := .cells #[.slice A0_0 l0_0.length c0_0, .slice A0_1 l0_1.length c0_1, .int .i64 a0_2] 25 (0, 0)) (by (with_reducible repeat (first | refine bdN ?_ _ | refine bdD ?_ | refine blk_alloc ?_ _)); exact BK186.out) hg (Kd.R_ne HO_8.out BK186.out (by decide)))
            have n1_ := Ad.mk (blk_grown (g := gb187) (o := .cells #[.slice A1_0 l1_0.length c1_0, .slice A1_1 l1_1.length c1_1, .slice A1_2 l1_2.length c1_2, .slice A1_3 l1_3.length c1_3, .int .i64 a1_4] 32 (0, 0)) (by (with_reducible repeat (first | refine bdN ?_ _ | refine bdD ?_ | refine blk_alloc ?_ _)); exact BK187.out) hg (Kd.R_ne HO_8.out BK187.out (by decide)))
            have n2_ := Ad.mk (blk_grown (g := gb188) (o := .cells #[.slice none 0 0, .slice none 0 0, .int .i64 0] 25 (0, 0)) (by (with_reducible repeat (first | refine bdN ?_ _ | refine bdD ?_ | refine blk_alloc ?_ _)); exact BK188.out) hg (Kd.R_ne HO_8.out BK188.out (by decide)))
            have n3_ := Ad.mk (Kd.R_over' (by (with_reducible repeat (first | apply Kd.R_alloc | apply Kd.R_drewN | apply Kd.R_drew)); exact HO200.out) (Kd.R_typed (by (with_reducible repeat (first | apply Kd.R_alloc | apply Kd.R_drewN | apply Kd.R_drew)); exact HO_8.out)) (by decide) hg)
            have n4_ := Ad.mk (blk_grown (g := gb204) (o := .cells #[.slice none 0 0, .slice none 0 0, .int .i64 0] 25 (0, 0)) (by (with_reducible repeat (first | refine bdN ?_ _ | refine bdD ?_ | refine blk_alloc ?_ _)); exact BK204.out) hg (Kd.R_ne HO_8.out BK204.out (by decide)))
            have n5_ := Ad.mk (hb)
            have n6_ := Ad.mk (ho)
            clear BK186
            clear BK187
            clear BK188
            clear HO200
            clear BK204
            clear HB
            clear HO_8
            have BK186 := n0_
            have BK187 := n1_
            have BK188 := n2_
            have HO200 := n3_
            have BK204 := n4_
            have HB := n5_
            have HO203 := n6_
            clear n0_ n1_ n2_ n3_ n4_ n5_ n6_
            clear ho hb hg hat
            obtain ⟨Ao99, co99, eo99⟩ := Kd.R_slice HO203.out
            (first | subst eo99 | (injection eo99 with f1_ f2_ f3_; have f4_ := f1_.symm; have f5_ := f3_.symm; clear f1_ f2_ f3_; subst f4_; subst f5_))
            obtain ⟨Ao100, co100, eo100⟩ := Kd.R_slice HO200.out
            (first | subst eo100 | (injection eo100 with f1_ f2_ f3_; have f4_ := f1_.symm; have f5_ := f3_.symm; clear f1_ f2_ f3_; subst f4_; subst f5_))
            refine hK.out _ _ ⟨(bcl BK187.out 0).trans rfl, (bcl BK187.out 1).trans rfl, (bcl BK187.out 2).trans rfl, (bcl BK187.out 3).trans rfl, (bcl BK187.out 4).trans rfl, (bcl BK186.out 0).trans rfl, (bcl BK186.out 1).trans rfl, (bcl BK186.out 2).trans rfl⟩ (fun hHeld => ?_)
            clear hK K
            refine norm_ (a' := ?_) ?_ ?_
            rotate_left
            ·show Act.put _ (some 47) _ = _
             simp only [Act.put, List.setIfInBounds_toArray, List.set_cons_zero, List.set_cons_succ, i64_w, i32_w]
             rfl
            refine pure_ (i := 13) (N := some 53) (v := ?_) (a' := ?_) #[true, true, true, true, true, true, true, true, true, true, true, true, true, true, true, false] rfl rfl (any_of HT_.out (by kernel_rfl)) (fun _ _ _ h => h) (Or.inl ⟨by rfl, ?_⟩) ?_ ?_
            rotate_left
            ·intro w'
             go_simp
             with_reducible rfl
            rotate_left
            ·simp only [Act.put, List.setIfInBounds_toArray, List.set_cons_zero, List.set_cons_succ, i64_w, i32_w]
             rfl
            exact norm_ (by simp only [putAll, Act.put, List.setIfInBounds_toArray, List.set_cons_zero, List.set_cons_succ]) (hCont (.slice Ao100 y198.length co100, .slice Ao99 y201.length co99, gb204) _ ⟨hHeld, (by (with_reducible repeat (first | apply Kd.R_alloc | apply Kd.R_drewN | apply Kd.R_drew)); exact HO200.out), (by (with_reducible repeat (first | apply Kd.R_alloc | apply Kd.R_drewN | apply Kd.R_drew)); exact HO203.out), (by (with_reducible repeat (first | refine bdN ?_ _ | refine bdD ?_ | refine blk_alloc ?_ _)); exact BK186.out), (by (with_reducible repeat (first | refine bdN ?_ _ | refine bdD ?_ | refine blk_alloc ?_ _)); exact BK187.out), (by (with_reducible repeat (first | refine bdN ?_ _ | refine bdD ?_ | refine blk_alloc ?_ _)); exact BK188.out), (by (with_reducible repeat (first | refine bdN ?_ _ | refine bdD ?_ | refine blk_alloc ?_ _)); exact BK204.out), GW204.out, GE204.out, NB186_204.out, NB204_186.out, NB187_204.out, NB204_187.out, NB188_204.out, NB204_188.out, (by repeat (first | (with_reducible first | exact HB.out | apply blA | apply blN | apply blD | refine blS ?_ GE186.out | refine blS ?_ GE187.out | refine blS ?_ GE188.out | refine blS ?_ GE204.out) | exact HB.out))⟩)
          ·skip
           refine box_step ?hg (N := 10) ?hd (cs := #[.slice none 0 0, .slice none 0 0, .int .i64 0]) (t := 25) ?hr ?_; (case hd => rfl); (case hg => rfl); (case hr => first | (go_simp; done) | (go_simp; rfl))
           intro gb204 hg w96 hbox hb
           have n0_ := Ad.mk (Kd.R_below (by (with_reducible repeat (first | apply Kd.R_alloc | apply Kd.R_drewN | apply Kd.R_drew)); exact HO_6.out) hb)
           have n1_ := Ad.mk (Kd.R_below (by (with_reducible repeat (first | apply Kd.R_alloc | apply Kd.R_drewN | apply Kd.R_drew)); exact HO_8.out) hb)
           have n2_ := Ad.mk (bbl (g := gb186) (o := .cells #[.slice A0_0 l0_0.length c0_0, .slice A0_1 l0_1.length c0_1, .int .i64 a0_2] 25 (0, 0)) (by (with_reducible repeat (first | refine bdN ?_ _ | refine bdD ?_ | refine blk_alloc ?_ _)); exact BK186.out) hb)
           have n3_ := Ad.mk (bbl (g := gb187) (o := .cells #[.slice A1_0 l1_0.length c1_0, .slice A1_1 l1_1.length c1_1, .slice A1_2 l1_2.length c1_2, .slice A1_3 l1_3.length c1_3, .int .i64 a1_4] 32 (0, 0)) (by (with_reducible repeat (first | refine bdN ?_ _ | refine bdD ?_ | refine blk_alloc ?_ _)); exact BK187.out) hb)
           have n4_ := Ad.mk (bbl (g := gb188) (o := .cells #[.slice none 0 0, .slice none 0 0, .int .i64 0] 25 (0, 0)) (by (with_reducible repeat (first | refine bdN ?_ _ | refine bdD ?_ | refine blk_alloc ?_ _)); exact BK188.out) hb)
           have n5_ := Ad.mk (bls (by repeat (first | (with_reducible first | exact HB.out | apply blA | apply blN | apply blD | refine blS ?_ GE186.out | refine blS ?_ GE187.out | refine blS ?_ GE188.out) | exact HB.out)) hb)
           have n6_ := Ad.mk (hbox)
           have n7_ := Ad.mk ((by rw [hg]; exact (blz (by repeat (first | (with_reducible first | exact HB.out | apply blA | apply blN | apply blD | refine blS ?_ GE186.out | refine blS ?_ GE187.out | refine blS ?_ GE188.out) | exact HB.out))) : w.heap.size ≤ gb204))
           have n8_ := Ad.mk ((by rw [hg]; exact (blz (by repeat (first | (with_reducible first | exact HB.out | apply blA | apply blN | apply blD | refine blS ?_ GE186.out | refine blS ?_ GE187.out | refine blS ?_ GE188.out) | exact HB.out))) : w.heap.size ≤ gb204))
           have n9_ := Ad.mk ((by rw [hg]; exact Nat.ne_of_lt (blk_lt (g := gb186) (o := .cells #[.slice A0_0 l0_0.length c0_0, .slice A0_1 l0_1.length c0_1, .int .i64 a0_2] 25 (0, 0)) (by (with_reducible repeat (first | refine bdN ?_ _ | refine bdD ?_ | refine blk_alloc ?_ _)); exact BK186.out)) : gb186 ≠ gb204))
           have n10_ := Ad.mk ((by rw [hg]; exact Nat.ne_of_gt (blk_lt (g := gb186) (o := .cells #[.slice A0_0 l0_0.length c0_0, .slice A0_1 l0_1.length c0_1, .int .i64 a0_2] 25 (0, 0)) (by (with_reducible repeat (first | refine bdN ?_ _ | refine bdD ?_ | refine blk_alloc ?_ _)); exact BK186.out)) : gb204 ≠ gb186))
           have n11_ := Ad.mk ((by rw [hg]; exact Nat.ne_of_lt (blk_lt (g := gb187) (o := .cells #[.slice A1_0 l1_0.length c1_0, .slice A1_1 l1_1.length c1_1, .slice A1_2 l1_2.length c1_2, .slice A1_3 l1_3.length c1_3, .int .i64 a1_4] 32 (0, 0)) (by (with_reducible repeat (first | refine bdN ?_ _ | refine bdD ?_ | refine blk_alloc ?_ _)); exact BK187.out)) : gb187 ≠ gb204))
           have n12_ := Ad.mk ((by rw [hg]; exact Nat.ne_of_gt (blk_lt (g := gb187) (o := .cells #[.slice A1_0 l1_0.length c1_0, .slice A1_1 l1_1.length c1_1, .slice A1_2 l1_2.length c1_2, .slice A1_3 l1_3.length c1_3, .int .i64 a1_4] 32 (0, 0)) (by (with_reducible repeat (first | refine bdN ?_ _ | refine bdD ?_ | refine blk_alloc ?_ _)); exact BK187.out)) : gb204 ≠ gb187))
           have n13_ := Ad.mk ((by rw [hg]; exact Nat.ne_of_lt (blk_lt (g := gb188) (o := .cells #[.slice none 0 0, .slice none 0 0, .int .i64 0] 25 (0, 0)) (by (with_reducible repeat (first | refine bdN ?_ _ | refine bdD ?_ | refine blk_alloc ?_ _)); exact BK188.out)) : gb188 ≠ gb204))
           have n14_ := Ad.mk ((by rw [hg]; exact Nat.ne_of_gt (blk_lt (g := gb188) (o := .cells #[.slice none 0 0, .slice none 0 0, .int .i64 0] 25 (0, 0)) (by (with_reducible repeat (first | refine bdN ?_ _ | refine bdD ?_ | refine blk_alloc ?_ _)); exact BK188.out)) : gb204 ≠ gb188))
           clear HO_6
           clear HO_8
           clear BK186
           clear BK187
           clear BK188
           clear HB
           have HO_6 := n0_
           have HO_8 := n1_
           have BK186 := n2_
           have BK187 := n3_
           have BK188 := n4_
           have HB := n5_
           have BK204 := n6_
           have GW204 := n7_
           have GE204 := n8_
           have NB186_204 := n9_
           have NB204_186 := n10_
           have NB187_204 := n11_
           have NB204_187 := n12_
           have NB188_204 := n13_
           have NB204_188 := n14_
           clear n0_ n1_ n2_ n3_ n4_ n5_ n6_ n7_ n8_ n9_ n10_ n11_ n12_ n13_ n14_
           clear hb hbox hg
           refine hK.out _ _ ⟨(bcl BK187.out 0).trans rfl, (bcl BK187.out 1).trans rfl, (bcl BK187.out 2).trans rfl, (bcl BK187.out 3).trans rfl, (bcl BK187.out 4).trans rfl, (bcl BK186.out 0).trans rfl, (bcl BK186.out 1).trans rfl, (bcl BK186.out 2).trans rfl⟩ (fun hHeld => ?_)
           clear hK K
           refine norm_ (a' := ?_) ?_ ?_
           rotate_left
           ·show Act.put _ (some 10) _ = _
            simp only [Act.put, List.setIfInBounds_toArray, List.set_cons_zero, List.set_cons_succ, i64_w, i32_w]
            rfl
           refine one_ (i := 3) (N := some 43) #[true, true, true, true, true, true, true, false, true, true, true, true, true, false, true, false] rfl rfl (one_of HT_.out (by kernel_rfl)) (by decide) (fun K hK => ?_)
           refine Kd.R_append_rows_step k35 (w0 := w) w.heap.size (by rfl) (.tmp 40) (.tmp 42) 22 35 (.agg #[(.int .i64 0), (.int .i64 0), (.string ⟨#[]⟩), (.string ⟨#[]⟩), (.int .i64 0)]) 56 rfl Try.underlying22 info35 rfl (by decide) (by omega) (.slice Ao93 t190.length co93) t190 l1_0 _ _ _ (fun _ => True) (fun _ => False) rfl rfl ?aO ?aR (fun _ _ h => h) (fun _ h => h.elim) ?aF ?aB ?aS ?aL ?_
           (case aR => repeat (first | exact (Kd.C_below HR1_0.out HB.out) | (with_reducible refine Kd.C_alloc ?_ _) | (with_reducible refine Kd.C_drewN ?_ _) | (with_reducible refine Kd.C_drew ?_)))
           (case aB => exact (by repeat (first | (with_reducible first | exact HB.out | apply blA | apply blN | apply blD | refine blS ?_ GE186.out | refine blS ?_ GE187.out | refine blS ?_ GE188.out | refine blS ?_ GE204.out) | exact HB.out)))
           (case aF => exact (fun _ _ => trivial))
           (case aO => exact (by (with_reducible repeat (first | apply Kd.R_alloc | apply Kd.R_drewN | apply Kd.R_drew)); exact HO_6.out))
           (case aS => exact (blz (by repeat (first | (with_reducible first | exact HB.out | apply blA | apply blN | apply blD | refine blS ?_ GE186.out | refine blS ?_ GE187.out | refine blS ?_ GE188.out | refine blS ?_ GE204.out) | exact HB.out))))
           (case aL => have := LMc27.out; omega)
           intro v199 w97 ho hb hg hat
           rw [← Ny198.out] at ho
           have n0_ := Ad.mk (Kd.R_over' (by (with_reducible repeat (first | apply Kd.R_alloc | apply Kd.R_drewN | apply Kd.R_drew)); exact HO_8.out) (Kd.R_typed (by (with_reducible repeat (first | apply Kd.R_alloc | apply Kd.R_drewN | apply Kd.R_drew)); exact HO_6.out)) (by decide) hg)
           have n1_ := Ad.mk (blk_grown (g := gb186) (o := .cells #[.slice A0_0 l0_0.length c0_0, .slice A0_1 l0_1.length c0_1, .int .i64 a0_2] 25 (0, 0)) (by (with_reducible repeat (first | refine bdN ?_ _ | refine bdD ?_ | refine blk_alloc ?_ _)); exact BK186.out) hg (Kd.R_ne HO_6.out BK186.out (by decide)))
           have n2_ := Ad.mk (blk_grown (g := gb187) (o := .cells #[.slice A1_0 l1_0.length c1_0, .slice A1_1 l1_1.length c1_1, .slice A1_2 l1_2.length c1_2, .slice A1_3 l1_3.length c1_3, .int .i64 a1_4] 32 (0, 0)) (by (with_reducible repeat (first | refine bdN ?_ _ | refine bdD ?_ | refine blk_alloc ?_ _)); exact BK187.out) hg (Kd.R_ne HO_6.out BK187.out (by decide)))
           have n3_ := Ad.mk (blk_grown (g := gb188) (o := .cells #[.slice none 0 0, .slice none 0 0, .int .i64 0] 25 (0, 0)) (by (with_reducible repeat (first | refine bdN ?_ _ | refine bdD ?_ | refine blk_alloc ?_ _)); exact BK188.out) hg (Kd.R_ne HO_6.out BK188.out (by decide)))
           have n4_ := Ad.mk (blk_grown (g := gb204) (o := .cells #[.slice none 0 0, .slice none 0 0, .int .i64 0] 25 (0, 0)) (by (with_reducible repeat (first | refine bdN ?_ _ | refine bdD ?_ | refine blk_alloc ?_ _)); exact BK204.out) hg (Kd.R_ne HO_6.out BK204.out (by decide)))
           have n5_ := Ad.mk (hb)
           have n6_ := Ad.mk (ho)
           clear HO_8
           clear BK186
           clear BK187
           clear BK188
           clear BK204
           clear HB
           clear HO_6
           have HO_8 := n0_
           have BK186 := n1_
           have BK187 := n2_
           have BK188 := n3_
           have BK204 := n4_
           have HB := n5_
           have HO200 := n6_
           clear n0_ n1_ n2_ n3_ n4_ n5_ n6_
           clear ho hb hg hat
           refine hK.out _ _ ⟨(bcl BK187.out 0).trans rfl, (bcl BK187.out 1).trans rfl, (bcl BK187.out 2).trans rfl, (bcl BK187.out 3).trans rfl, (bcl BK187.out 4).trans rfl, (bcl BK186.out 0).trans rfl, (bcl BK186.out 1).trans rfl, (bcl BK186.out 2).trans rfl⟩ (fun hHeld => ?_)
           clear hK K
           refine norm_ (a' := ?_) ?_ ?_
           rotate_left
           ·show Act.put _ (some 43) _ = _
            simp only [Act.put, List.setIfInBounds_toArray, List.set_cons_zero, List.set_cons_succ, i64_w, i32_w]
            rfl
           refine one_ (i := 7) (N := some 47) #[true, true, true, true, true, true, true, true, true, true, true, true, true, false, true, false] rfl rfl (one_of HT_.out (by kernel_rfl)) (by decide) (fun K hK => ?_)
           refine Kd.R_append_rows_step (Kd.int .i64) (w0 := w) w.heap.size (by rfl) (.tmp 44) (.tmp 46) 23 3 (.int .i64 0) 8 rfl Try.underlying23 info3 rfl (by decide) (by omega) (.slice Ao94 t194.length co94) t194 l1_2 _ _ _ (fun _ => True) (fun _ => False) rfl rfl ?aO ?aR (fun _ _ h => h) (fun _ h => h.elim) ?aF ?aB ?aS ?aL ?_
           (case aR => repeat (first | exact (Kd.C_below HR1_2.out HB.out) | (with_reducible refine Kd.C_alloc ?_ _) | (with_reducible refine Kd.C_drewN ?_ _) | (with_reducible refine Kd.C_drew ?_)))
           (case aB => exact (by repeat (first | (with_reducible first | exact HB.out | apply blA | apply blN | apply blD | refine blS ?_ GE186.out | refine blS ?_ GE187.out | refine blS ?_ GE188.out | refine blS ?_ GE204.out) | exact HB.out)))
           (case aF => exact (fun _ _ => trivial))
           (case aO => exact (by (with_reducible repeat (first | apply Kd.R_alloc | apply Kd.R_drewN | apply Kd.R_drew)); exact HO_8.out))
           (case aS => exact (blz (by repeat (first | (with_reducible first | exact HB.out | apply blA | apply blN | apply blD | refine blS ?_ GE186.out | refine blS ?_ GE187.out | refine blS ?_ GE188.out | refine blS ?_ GE204.out) | exact HB.out))))
           (case aL => have := LMc28.out; omega)
           intro v202 w98 ho hb hg hat
           rw [← Ny201.out] at ho
           have n0_ := Ad.mk (blk_grown (g := gb186) (o := .cells #[.slice A0_0 l0_0.length c0_0, .slice A0_1 l0_1.length c0_1, .int .i64 a0_2] 25 (0, 0)) (by (with_reducible repeat (first | refine bdN ?_ _ | refine bdD ?_ | refine blk_alloc ?_ _)); exact BK186.out) hg (Kd.R_ne HO_8.out BK186.out (by decide)))
           have n1_ := Ad.mk (blk_grown (g := gb187) (o := .cells #[.slice A1_0 l1_0.length c1_0, .slice A1_1 l1_1.length c1_1, .slice A1_2 l1_2.length c1_2, .slice A1_3 l1_3.length c1_3, .int .i64 a1_4] 32 (0, 0)) (by (with_reducible repeat (first | refine bdN ?_ _ | refine bdD ?_ | refine blk_alloc ?_ _)); exact BK187.out) hg (Kd.R_ne HO_8.out BK187.out (by decide)))
           have n2_ := Ad.mk (blk_grown (g := gb188) (o := .cells #[.slice none 0 0, .slice none 0 0, .int .i64 0] 25 (0, 0)) (by (with_reducible repeat (first | refine bdN ?_ _ | refine bdD ?_ | refine blk_alloc ?_ _)); exact BK188.out) hg (Kd.R_ne HO_8.out BK188.out (by decide)))
           have n3_ := Ad.mk (blk_grown (g := gb204) (o := .cells #[.slice none 0 0, .slice none 0 0, .int .i64 0] 25 (0, 0)) (by (with_reducible repeat (first | refine bdN ?_ _ | refine bdD ?_ | refine blk_alloc ?_ _)); exact BK204.out) hg (Kd.R_ne HO_8.out BK204.out (by decide)))
           have n4_ := Ad.mk (Kd.R_over' (by (with_reducible repeat (first | apply Kd.R_alloc | apply Kd.R_drewN | apply Kd.R_drew)); exact HO200.out) (Kd.R_typed (by (with_reducible repeat (first | apply Kd.R_alloc | apply Kd.R_drewN | apply Kd.R_drew)); exact HO_8.out)) (by decide) hg)
           have n5_ := Ad.mk (hb)
           have n6_ := Ad.mk (ho)
           clear BK186
           clear BK187
           clear BK188
           clear BK204
           clear HO200
           clear HB
           clear HO_8
           have BK186 := n0_
           have BK187 := n1_
           have BK188 := n2_
           have BK204 := n3_
           have HO200 := n4_
           have HB := n5_
           have HO203 := n6_
           clear n0_ n1_ n2_ n3_ n4_ n5_ n6_
           clear ho hb hg hat
           obtain ⟨Ao99, co99, eo99⟩ := Kd.R_slice HO203.out
           (first | subst eo99 | (injection eo99 with f1_ f2_ f3_; have f4_ := f1_.symm; have f5_ := f3_.symm; clear f1_ f2_ f3_; subst f4_; subst f5_))
           obtain ⟨Ao100, co100, eo100⟩ := Kd.R_slice HO200.out
           (first | subst eo100 | (injection eo100 with f1_ f2_ f3_; have f4_ := f1_.symm; have f5_ := f3_.symm; clear f1_ f2_ f3_; subst f4_; subst f5_))
           refine hK.out _ _ ⟨(bcl BK187.out 0).trans rfl, (bcl BK187.out 1).trans rfl, (bcl BK187.out 2).trans rfl, (bcl BK187.out 3).trans rfl, (bcl BK187.out 4).trans rfl, (bcl BK186.out 0).trans rfl, (bcl BK186.out 1).trans rfl, (bcl BK186.out 2).trans rfl⟩ (fun hHeld => ?_)
           clear hK K
           refine norm_ (a' := ?_) ?_ ?_
           rotate_left
           ·show Act.put _ (some 47) _ = _
            simp only [Act.put, List.setIfInBounds_toArray, List.set_cons_zero, List.set_cons_succ, i64_w, i32_w]
            rfl
           refine pure_ (i := 13) (N := some 53) (v := ?_) (a' := ?_) #[true, true, true, true, true, true, true, true, true, true, true, true, true, true, true, false] rfl rfl (any_of HT_.out (by kernel_rfl)) (fun _ _ _ h => h) (Or.inl ⟨by rfl, ?_⟩) ?_ ?_
           rotate_left
           ·intro w'
            go_simp
            with_reducible rfl
           rotate_left
           ·simp only [Act.put, List.setIfInBounds_toArray, List.set_cons_zero, List.set_cons_succ, i64_w, i32_w]
            rfl
           exact norm_ (by simp only [putAll, Act.put, List.setIfInBounds_toArray, List.set_cons_zero, List.set_cons_succ]) (hCont (.slice Ao100 y198.length co100, .slice Ao99 y201.length co99, gb204) _ ⟨hHeld, (by (with_reducible repeat (first | apply Kd.R_alloc | apply Kd.R_drewN | apply Kd.R_drew)); exact HO200.out), (by (with_reducible repeat (first | apply Kd.R_alloc | apply Kd.R_drewN | apply Kd.R_drew)); exact HO203.out), (by (with_reducible repeat (first | refine bdN ?_ _ | refine bdD ?_ | refine blk_alloc ?_ _)); exact BK186.out), (by (with_reducible repeat (first | refine bdN ?_ _ | refine bdD ?_ | refine blk_alloc ?_ _)); exact BK187.out), (by (with_reducible repeat (first | refine bdN ?_ _ | refine bdD ?_ | refine blk_alloc ?_ _)); exact BK188.out), (by (with_reducible repeat (first | refine bdN ?_ _ | refine bdD ?_ | refine blk_alloc ?_ _)); exact BK204.out), GW204.out, GE204.out, NB186_204.out, NB204_186.out, NB187_204.out, NB204_187.out, NB188_204.out, NB204_188.out, (by repeat (first | (with_reducible first | exact HB.out | apply blA | apply blN | apply blD | refine blS ?_ GE186.out | refine blS ?_ GE187.out | refine blS ?_ GE188.out | refine blS ?_ GE204.out) | exact HB.out))⟩)
         rintro ⟨v199, v202, gb204⟩ w101 ⟨hS_, h0_, h1_, h2_, h3_, h4_, h5_, h6_, h7_, h8_, h9_, h10_, h11_, h12_, h13_, h14_⟩
         have n0_ : Ad (Kd.R k35 35 w101 w.heap.size (fun _ => True) v199 y198) := ⟨h0_⟩
         have n1_ : Ad (Kd.R (Kd.int .i64) 3 w101 w.heap.size (fun _ => True) v202 y201) := ⟨h1_⟩
         have n2_ : Ad (w101.heap[gb186]? = some (.cells #[.slice A0_0 l0_0.length c0_0, .slice A0_1 l0_1.length c0_1, .int .i64 a0_2] 25 (0, 0))) := ⟨h2_⟩
         have n3_ : Ad (w101.heap[gb187]? = some (.cells #[.slice A1_0 l1_0.length c1_0, .slice A1_1 l1_1.length c1_1, .slice A1_2 l1_2.length c1_2, .slice A1_3 l1_3.length c1_3, .int .i64 a1_4] 32 (0, 0))) := ⟨h3_⟩
         have n4_ : Ad (w101.heap[gb188]? = some (.cells #[.slice none 0 0, .slice none 0 0, .int .i64 0] 25 (0, 0))) := ⟨h4_⟩
         have n5_ : Ad (w101.heap[gb204]? = some (.cells #[.slice none 0 0, .slice none 0 0, .int .i64 0] 25 (0, 0))) := ⟨h5_⟩
         have n6_ : Ad (w.heap.size ≤ gb204) := ⟨h6_⟩
         have n7_ : Ad (w.heap.size ≤ gb204) := ⟨h7_⟩
         have n8_ : Ad (gb186 ≠ gb204) := ⟨h8_⟩
         have n9_ : Ad (gb204 ≠ gb186) := ⟨h9_⟩
         have n10_ : Ad (gb187 ≠ gb204) := ⟨h10_⟩
         have n11_ : Ad (gb204 ≠ gb187) := ⟨h11_⟩
         have n12_ : Ad (gb188 ≠ gb204) := ⟨h12_⟩
         have n13_ : Ad (gb204 ≠ gb188) := ⟨h13_⟩
         have n14_ : Ad (Below w.heap.size w w101) := ⟨h14_⟩
         clear HO_6
         clear HO_8
         clear BK186
         clear BK187
         clear BK188
         clear HB
         clear h0_ h1_ h2_ h3_ h4_ h5_ h6_ h7_ h8_ h9_ h10_ h11_ h12_ h13_ h14_
         have HO200 := n0_
         have HO203 := n1_
         have BK186 := n2_
         have BK187 := n3_
         have BK188 := n4_
         have BK204 := n5_
         have GW204 := n6_
         have GE204 := n7_
         have NB186_204 := n8_
         have NB204_186 := n9_
         have NB187_204 := n10_
         have NB204_187 := n11_
         have NB188_204 := n12_
         have NB204_188 := n13_
         have HB := n14_
         clear n0_ n1_ n2_ n3_ n4_ n5_ n6_ n7_ n8_ n9_ n10_ n11_ n12_ n13_ n14_
         have hHeld : w101.cell? ⟨gb187, 0, none⟩ = some (.slice A1_0 l1_0.length c1_0) ∧ w101.cell? ⟨gb187, 1, none⟩ = some (.slice A1_1 l1_1.length c1_1) ∧ w101.cell? ⟨gb187, 2, none⟩ = some (.slice A1_2 l1_2.length c1_2) ∧ w101.cell? ⟨gb187, 3, none⟩ = some (.slice A1_3 l1_3.length c1_3) ∧ w101.cell? ⟨gb187, 4, none⟩ = some (.int .i64 a1_4) ∧ w101.cell? ⟨gb186, 0, none⟩ = some (.slice A0_0 l0_0.length c0_0) ∧ w101.cell? ⟨gb186, 1, none⟩ = some (.slice A0_1 l0_1.length c0_1) ∧ w101.cell? ⟨gb186, 2, none⟩ = some (.int .i64 a0_2) := hS_
         obtain ⟨Ao102, co102, eo102⟩ := Kd.R_slice HO203.out
         (first | subst eo102 | (injection eo102 with f1_ f2_ f3_; have f4_ := f1_.symm; have f5_ := f3_.symm; clear f1_ f2_ f3_; subst f4_; subst f5_))
         obtain ⟨Ao103, co103, eo103⟩ := Kd.R_slice HO200.out
         (first | subst eo103 | (injection eo103 with f1_ f2_ f3_; have f4_ := f1_.symm; have f5_ := f3_.symm; clear f1_ f2_ f3_; subst f4_; subst f5_))
         refine norm_ (a' := ?_) ?_ ?_
         rotate_left
         ·simp only [putAll, Act.put, List.setIfInBounds_toArray, List.set_cons_zero, List.set_cons_succ]
          rfl
         refine one_ (i := 15) (N := none) #[true, true, true, true, true, true, true, true, true, true, true, true, true, true, true, true] rfl rfl (one_of HT_.out (by kernel_rfl)) (by decide) (fun K hK => ?_)
         have hs104 : w101.cell? ⟨gb204, 0, none⟩ = some (.slice none 0 0) := (bcl BK204.out 0).trans rfl
         have hfs104 := bfz BK204.out 0
         have hns104_0 := NB186_204.out
         have hns104_1 := NB187_204.out
         have hns104_2 := NB188_204.out
         have hms104_0 := NB204_186.out
         have hms104_1 := NB204_187.out
         have hms104_2 := NB204_188.out
         have hs105 : w101.cell? ⟨gb204, 1, none⟩ = some (.slice none 0 0) := (bcl BK204.out 1).trans rfl
         have hfs105 := bfz BK204.out 1
         have hns105_0 := NB186_204.out
         have hns105_1 := NB187_204.out
         have hns105_2 := NB188_204.out
         have hms105_0 := NB204_186.out
         have hms105_1 := NB204_187.out
         have hms105_2 := NB204_188.out
         have hs106 : w101.cell? ⟨gb204, 2, none⟩ = some (.int .i64 0) := (bcl BK204.out 2).trans rfl
         have hfs106 := bfz BK204.out 2
         have hns106_0 := NB186_204.out
         have hns106_1 := NB187_204.out
         have hns106_2 := NB188_204.out
         have hms106_0 := NB204_186.out
         have hms106_1 := NB204_187.out
         have hms106_2 := NB204_188.out
         refine skip_ (w1 := ?_) (by rfl) rfl ?_ ?_
         rotate_left
         ·go_simp
          rfl
         refine hK.out _ _ ⟨((cell_far (p := ⟨gb204, _, none⟩) NB187_204.out _).trans (((cell_far (p := ⟨gb204, _, none⟩) NB187_204.out _).trans (((cell_far (p := ⟨gb204, _, none⟩) NB187_204.out _).trans (hHeld.1)))))), ((cell_far (p := ⟨gb204, _, none⟩) NB187_204.out _).trans (((cell_far (p := ⟨gb204, _, none⟩) NB187_204.out _).trans (((cell_far (p := ⟨gb204, _, none⟩) NB187_204.out _).trans (hHeld.2.1)))))), ((cell_far (p := ⟨gb204, _, none⟩) NB187_204.out _).trans (((cell_far (p := ⟨gb204, _, none⟩) NB187_204.out _).trans (((cell_far (p := ⟨gb204, _, none⟩) NB187_204.out _).trans (hHeld.2.2.1)))))), ((cell_far (p := ⟨gb204, _, none⟩) NB187_204.out _).trans (((cell_far (p := ⟨gb204, _, none⟩) NB187_204.out _).trans (((cell_far (p := ⟨gb204, _, none⟩) NB187_204.out _).trans (hHeld.2.2.2.1)))))), ((cell_far (p := ⟨gb204, _, none⟩) NB187_204.out _).trans (((cell_far (p := ⟨gb204, _, none⟩) NB187_204.out _).trans (((cell_far (p := ⟨gb204, _, none⟩) NB187_204.out _).trans (hHeld.2.2.2.2.1)))))), ((cell_far (p := ⟨gb204, _, none⟩) NB186_204.out _).trans (((cell_far (p := ⟨gb204, _, none⟩) NB186_204.out _).trans (((cell_far (p := ⟨gb204, _, none⟩) NB186_204.out _).trans (hHeld.2.2.2.2.2.1)))))), ((cell_far (p := ⟨gb204, _, none⟩) NB186_204.out _).trans (((cell_far (p := ⟨gb204, _, none⟩) NB186_204.out _).trans (((cell_far (p := ⟨gb204, _, none⟩) NB186_204.out _).trans (hHeld.2.2.2.2.2.2.1)))))), ((cell_far (p := ⟨gb204, _, none⟩) NB186_204.out _).trans (((cell_far (p := ⟨gb204, _, none⟩) NB186_204.out _).trans (((cell_far (p := ⟨gb204, _, none⟩) NB186_204.out _).trans (hHeld.2.2.2.2.2.2.2))))))⟩ (fun hHeld => ?_)
         clear hK K
         refine done_ (done_of HT_.out (by kernel_rfl)) ?_
         have n0_ : Ad (Kd.R k35 35 (((w101.setCell ⟨gb204, 0, none⟩ (.slice Ao103 y198.length co103)).setCell ⟨gb204, 1, none⟩ (.slice Ao102 y201.length co102)).setCell ⟨gb204, 2, none⟩ (.int .i64 ji29)) w.heap.size (fun _ => True) (.slice Ao103 y198.length co103) y198) := ⟨by (with_reducible repeat (first | apply Kd.R_alloc | apply Kd.R_drewN | apply Kd.R_drew)); exact Kd.R_mono (Kd.R_far (p := ⟨gb204, 2, none⟩) (Kd.R_far (p := ⟨gb204, 1, none⟩) (Kd.R_far (p := ⟨gb204, 0, none⟩) (Kd.R_types HO200.out BK204.out (by decide)) (fun _ hk => hk.2) (.slice Ao103 y198.length co103)) (fun _ hk => hk.2) (.slice Ao102 y201.length co102)) (fun _ hk => hk.2) (.int .i64 ji29)) (fun _ hk => trivial)⟩
         have n1_ : Ad (Kd.R (Kd.int .i64) 3 (((w101.setCell ⟨gb204, 0, none⟩ (.slice Ao103 y198.length co103)).setCell ⟨gb204, 1, none⟩ (.slice Ao102 y201.length co102)).setCell ⟨gb204, 2, none⟩ (.int .i64 ji29)) w.heap.size (fun _ => True) (.slice Ao102 y201.length co102) y201) := ⟨by (with_reducible repeat (first | apply Kd.R_alloc | apply Kd.R_drewN | apply Kd.R_drew)); exact Kd.R_mono (Kd.R_far (p := ⟨gb204, 2, none⟩) (Kd.R_far (p := ⟨gb204, 1, none⟩) (Kd.R_far (p := ⟨gb204, 0, none⟩) (Kd.R_types HO203.out BK204.out (by decide)) (fun _ hk => hk.2) (.slice Ao103 y198.length co103)) (fun _ hk => hk.2) (.slice Ao102 y201.length co102)) (fun _ hk => hk.2) (.int .i64 ji29)) (fun _ hk => trivial)⟩
         have n2_ : Ad ((((w101.setCell ⟨gb204, 0, none⟩ (.slice Ao103 y198.length co103)).setCell ⟨gb204, 1, none⟩ (.slice Ao102 y201.length co102)).setCell ⟨gb204, 2, none⟩ (.int .i64 ji29)).heap[gb186]? = some (.cells #[.slice A0_0 l0_0.length c0_0, .slice A0_1 l0_1.length c0_1, .int .i64 a0_2] 25 (0, 0))) := ⟨by (with_reducible repeat (first | refine bdN ?_ _ | refine bdD ?_ | refine blk_alloc ?_ _)); refine blk_far ?_ NB186_204.out _; (with_reducible repeat (first | refine bdN ?_ _ | refine bdD ?_ | refine blk_alloc ?_ _)); refine blk_far ?_ NB186_204.out _; (with_reducible repeat (first | refine bdN ?_ _ | refine bdD ?_ | refine blk_alloc ?_ _)); refine blk_far ?_ NB186_204.out _; (with_reducible repeat (first | refine bdN ?_ _ | refine bdD ?_ | refine blk_alloc ?_ _)); exact BK186.out⟩
         have n3_ : Ad ((((w101.setCell ⟨gb204, 0, none⟩ (.slice Ao103 y198.length co103)).setCell ⟨gb204, 1, none⟩ (.slice Ao102 y201.length co102)).setCell ⟨gb204, 2, none⟩ (.int .i64 ji29)).heap[gb187]? = some (.cells #[.slice A1_0 l1_0.length c1_0, .slice A1_1 l1_1.length c1_1, .slice A1_2 l1_2.length c1_2, .slice A1_3 l1_3.length c1_3, .int .i64 a1_4] 32 (0, 0))) := ⟨by (with_reducible repeat (first | refine bdN ?_ _ | refine bdD ?_ | refine blk_alloc ?_ _)); refine blk_far ?_ NB187_204.out _; (with_reducible repeat (first | refine bdN ?_ _ | refine bdD ?_ | refine blk_alloc ?_ _)); refine blk_far ?_ NB187_204.out _; (with_reducible repeat (first | refine bdN ?_ _ | refine bdD ?_ | refine blk_alloc ?_ _)); refine blk_far ?_ NB187_204.out _; (with_reducible repeat (first | refine bdN ?_ _ | refine bdD ?_ | refine blk_alloc ?_ _)); exact BK187.out⟩
         have n4_ : Ad ((((w101.setCell ⟨gb204, 0, none⟩ (.slice Ao103 y198.length co103)).setCell ⟨gb204, 1, none⟩ (.slice Ao102 y201.length co102)).setCell ⟨gb204, 2, none⟩ (.int .i64 ji29)).heap[gb188]? = some (.cells #[.slice none 0 0, .slice none 0 0, .int .i64 0] 25 (0, 0))) := ⟨by (with_reducible repeat (first | refine bdN ?_ _ | refine bdD ?_ | refine blk_alloc ?_ _)); refine blk_far ?_ NB188_204.out _; (with_reducible repeat (first | refine bdN ?_ _ | refine bdD ?_ | refine blk_alloc ?_ _)); refine blk_far ?_ NB188_204.out _; (with_reducible repeat (first | refine bdN ?_ _ | refine bdD ?_ | refine blk_alloc ?_ _)); refine blk_far ?_ NB188_204.out _; (with_reducible repeat (first | refine bdN ?_ _ | refine bdD ?_ | refine blk_alloc ?_ _)); exact BK188.out⟩
         have n5_ : Ad ((((w101.setCell ⟨gb204, 0, none⟩ (.slice Ao103 y198.length co103)).setCell ⟨gb204, 1, none⟩ (.slice Ao102 y201.length co102)).setCell ⟨gb204, 2, none⟩ (.int .i64 ji29)).heap[gb204]? = some (.cells #[.slice Ao103 y198.length co103, .slice Ao102 y201.length co102, .int .i64 ji29] 25 (0, 0))) := ⟨by (with_reducible repeat (first | refine bdN ?_ _ | refine bdD ?_ | refine blk_alloc ?_ _)); refine blk_put (cs := #[.slice Ao103 y198.length co103, .slice Ao102 y201.length co102, .int .i64 0]) ?_ 2 _ rfl; (with_reducible repeat (first | refine bdN ?_ _ | refine bdD ?_ | refine blk_alloc ?_ _)); refine blk_put (cs := #[.slice Ao103 y198.length co103, .slice none 0 0, .int .i64 0]) ?_ 1 _ rfl; (with_reducible repeat (first | refine bdN ?_ _ | refine bdD ?_ | refine blk_alloc ?_ _)); refine blk_put (cs := #[.slice none 0 0, .slice none 0 0, .int .i64 0]) ?_ 0 _ rfl; (with_reducible repeat (first | refine bdN ?_ _ | refine bdD ?_ | refine blk_alloc ?_ _)); exact BK204.out⟩
         have n6_ : Ad (Below w.heap.size w (((w101.setCell ⟨gb204, 0, none⟩ (.slice Ao103 y198.length co103)).setCell ⟨gb204, 1, none⟩ (.slice Ao102 y201.length co102)).setCell ⟨gb204, 2, none⟩ (.int .i64 ji29))) := ⟨by repeat (first | (with_reducible first | exact HB.out | apply blA | apply blN | apply blD | refine blS ?_ GE186.out | refine blS ?_ GE187.out | refine blS ?_ GE188.out | refine blS ?_ GE204.out) | exact HB.out)⟩
         (try clear HO200)
         (try clear HO203)
         (try clear BK186)
         (try clear BK187)
         (try clear BK188)
         (try clear BK204)
         (try clear HB)
         generalize (((w101.setCell ⟨gb204, 0, none⟩ (.slice Ao103 y198.length co103)).setCell ⟨gb204, 1, none⟩ (.slice Ao102 y201.length co102)).setCell ⟨gb204, 2, none⟩ (.int .i64 ji29)) = w107 at n0_ n1_ n2_ n3_ n4_ n5_ n6_ ⊢
         have HO200 := n0_
         have HO203 := n1_
         have BK186 := n2_
         have BK187 := n3_
         have BK188 := n4_
         have BK204 := n5_
         have HB := n6_
         clear n0_ n1_ n2_ n3_ n4_ n5_ n6_
         have hnb108 := NB204_186.out
         have hnc108 := NB186_204.out
         have hnb109 := NB204_187.out
         have hnc109 := NB187_204.out
         have hnb110 := NB204_188.out
         have hnc110 := NB188_204.out
         have hcz111_0 : w107.cell? ⟨gb204, 0, none⟩ = some (.slice Ao103 y198.length co103) := (bcl BK204.out 0).trans rfl
         have hcz111_1 : w107.cell? ⟨gb204, 1, none⟩ = some (.slice Ao102 y201.length co102) := (bcl BK204.out 1).trans rfl
         have hcz111_2 : w107.cell? ⟨gb204, 2, none⟩ = some (.int .i64 ji29) := (bcl BK204.out 2).trans rfl
         have hfz111_0 := bfz BK204.out 0
         have hfz111_1 := bfz BK204.out 1
         have hfz111_2 := bfz BK204.out 2
         try go_wp2_with (first | ((with_reducible refine gate_callee (f := 26) rfl ?_); refine goesL_ (some 56) rfl rfl Try.func26 (by kernel_rfl) rfl #[.slice Ao103 y198.length co103, .func (.func 27) #[] #[]] rfl (by (try simp only [List.map_toArray, List.map_cons, List.map_nil]); first | done | rfl | (simp only [List.length_drop, List.length_take]; rfl)) ?_; (with_reducible refine (api_Meta_26.calls kj6 (fun k_ => some k_ = (.slice Ao103 y198.length co103 : Value).ownBlock) (.slice Ao103 y198.length co103) y198 t205 w _ ?side1 ?side2 A30.out).mono ?_); (case side1 => repeat (first | (with_reducible first | exact HB.out | apply blA | apply blN | apply blD | refine blS ?_ GE186.out | refine blS ?_ GE187.out | refine blS ?_ GE188.out | refine blS ?_ GE204.out) | exact HB.out)); (case side2 => exact Kd.R_tight rfl HO200.out); rintro e w112 ⟨rfl, hy0, hb, hkp⟩; refine ⟨_, rfl, ?_⟩; have n0_ := Ad.mk (blk_kept (by (with_reducible repeat (first | refine bdN ?_ _ | refine bdD ?_ | refine blk_alloc ?_ _)); exact BK186.out) hkp (fun hs_ => (fun e_ => (Kd.R_ne HO200.out BK186.out (by decide)) e_) hs_)); have n1_ := Ad.mk (blk_kept (by (with_reducible repeat (first | refine bdN ?_ _ | refine bdD ?_ | refine blk_alloc ?_ _)); exact BK187.out) hkp (fun hs_ => (fun e_ => (Kd.R_ne HO200.out BK187.out (by decide)) e_) hs_)); have n2_ := Ad.mk (blk_kept (by (with_reducible repeat (first | refine bdN ?_ _ | refine bdD ?_ | refine blk_alloc ?_ _)); exact BK188.out) hkp (fun hs_ => (fun e_ => (Kd.R_ne HO200.out BK188.out (by decide)) e_) hs_)); have n3_ := Ad.mk (Kd.R_reok rfl hy0 (fun k_ e_ => HO200.out.1 k_ e_)); have n4_ := Ad.mk (Kd.R_mono (ok' := fun k_ => True) (Kd.R_keptB ((Kd.R_apart' HO203.out (Kd.R_typed HO200.out) (by decide))) hkp (fun k_ hk_ hs_ => (hk_.2) hs_)) (fun k_ hk_ => trivial)); have n5_ := Ad.mk (blk_kept (by (with_reducible repeat (first | refine bdN ?_ _ | refine bdD ?_ | refine blk_alloc ?_ _)); exact BK204.out) hkp (fun hs_ => (fun e_ => (Kd.R_ne HO200.out BK204.out (by decide)) e_) hs_)); have n6_ := Ad.mk (hb); clear BK186; clear BK187; clear BK188; clear HO200; clear HO203; clear BK204; clear HB; have BK186 := n0_; have BK187 := n1_; have BK188 := n2_; have HO200 := n3_; have HO203 := n4_; have BK204 := n5_; have HB := n6_; clear n0_ n1_ n2_ n3_ n4_ n5_ n6_; (try clear hb); (try clear hkp); (try clear hy0); have hcz113_0 : w112.cell? ⟨gb204, 0, none⟩ = some (.slice Ao103 y198.length co103) := (bcl BK204.out 0).trans rfl; have hcz113_1 : w112.cell? ⟨gb204, 1, none⟩ = some (.slice Ao102 y201.length co102) := (bcl BK204.out 1).trans rfl; have hcz113_2 : w112.cell? ⟨gb204, 2, none⟩ = some (.int .i64 ji29) := (bcl BK204.out 2).trans rfl; have hfz113_0 := bfz BK204.out 0; have hfz113_1 := bfz BK204.out 1; have hfz113_2 := bfz BK204.out 2) | ((with_reducible refine gate_callee (f := 29) rfl ?_); refine goesL_ (some 59) rfl rfl Try.func29 (by kernel_rfl) rfl #[.agg #[.slice Ao103 t205.length co103, .slice Ao102 y201.length co102, .int .i64 ji29]] rfl (by (try simp only [List.map_toArray, List.map_cons, List.map_nil]); first | done | (rw [show t205.length = y198.length from (Kd.R_reads' HO200.out).1.symm] <;> rfl) | (simp only [hji29]; rfl) | rfl | (simp only [List.length_drop, List.length_take]; rfl)) ?_; (with_reducible refine (version_ids.calls kj6 _ _ t205 _ _ y201 ji29 t206 _ ?side1 ?side2 ?side3 ?side4 A31.out).mono ?_); (case side1 => repeat (first | exact (Kd.R_reads' HO200.out).2.2 | (with_reducible refine Kd.C_alloc ?_ _) | (with_reducible refine Kd.C_drewN ?_ _) | (with_reducible refine Kd.C_drew ?_))); (case side2 => rw [show t205.length = y198.length from (Kd.R_reads' HO200.out).1.symm]; exact (Kd.R_reads' HO200.out).2.1); (case side3 => repeat (first | exact (Kd.R_reads' HO203.out).2.2 | (with_reducible refine Kd.C_alloc ?_ _) | (with_reducible refine Kd.C_drewN ?_ _) | (with_reducible refine Kd.C_drew ?_))); (case side4 => exact (Kd.R_reads' HO203.out).2.1); rintro e w114 ⟨v207, rfl, ho0, hb⟩; refine ⟨_, rfl, ?_⟩; have n0_ := Ad.mk (Kd.R_below (by (with_reducible repeat (first | apply Kd.R_alloc | apply Kd.R_drewN | apply Kd.R_drew)); exact HO200.out) hb); have n1_ := Ad.mk (Kd.R_elder' (by (with_reducible repeat (first | apply Kd.R_alloc | apply Kd.R_drewN | apply Kd.R_drew)); exact HO203.out) (Kd.R_base ho0) hb); have n2_ := Ad.mk (Kd.R_lower (Kd.R_new' ho0 (Kd.R_lt (by (with_reducible repeat (first | apply Kd.R_alloc | apply Kd.R_drewN | apply Kd.R_drew)); exact HO203.out))) (blz (by repeat (first | (with_reducible first | exact HB.out | apply blA | apply blN | apply blD | refine blS ?_ GE186.out | refine blS ?_ GE187.out | refine blS ?_ GE188.out | refine blS ?_ GE204.out) | exact HB.out)))); have n3_ := Ad.mk (bbl (g := gb186) (o := .cells #[.slice A0_0 l0_0.length c0_0, .slice A0_1 l0_1.length c0_1, .int .i64 a0_2] 25 (0, 0)) (by (with_reducible repeat (first | refine bdN ?_ _ | refine bdD ?_ | refine blk_alloc ?_ _)); exact BK186.out) hb); have n4_ := Ad.mk (bbl (g := gb187) (o := .cells #[.slice A1_0 l1_0.length c1_0, .slice A1_1 l1_1.length c1_1, .slice A1_2 l1_2.length c1_2, .slice A1_3 l1_3.length c1_3, .int .i64 a1_4] 32 (0, 0)) (by (with_reducible repeat (first | refine bdN ?_ _ | refine bdD ?_ | refine blk_alloc ?_ _)); exact BK187.out) hb); have n5_ := Ad.mk (bbl (g := gb188) (o := .cells #[.slice none 0 0, .slice none 0 0, .int .i64 0] 25 (0, 0)) (by (with_reducible repeat (first | refine bdN ?_ _ | refine bdD ?_ | refine blk_alloc ?_ _)); exact BK188.out) hb); have n6_ := Ad.mk (bbl (g := gb204) (o := .cells #[.slice Ao103 y198.length co103, .slice Ao102 y201.length co102, .int .i64 ji29] 25 (0, 0)) (by (with_reducible repeat (first | refine bdN ?_ _ | refine bdD ?_ | refine blk_alloc ?_ _)); exact BK204.out) hb); have n7_ := Ad.mk (bls (by repeat (first | (with_reducible first | exact HB.out | apply blA | apply blN | apply blD | refine blS ?_ GE186.out | refine blS ?_ GE187.out | refine blS ?_ GE188.out | refine blS ?_ GE204.out) | exact HB.out)) hb); clear HO200; clear HO203; clear BK186; clear BK187; clear BK188; clear BK204; clear HB; have HO200 := n0_; have HO203 := n1_; have HO208 := n2_; have BK186 := n3_; have BK187 := n4_; have BK188 := n5_; have BK204 := n6_; have HB := n7_; clear n0_ n1_ n2_ n3_ n4_ n5_ n6_ n7_; (try clear hb); (try clear hb2); (try clear hk); (try clear hi); (try clear ho0); obtain ⟨Ao115, co115, eo115⟩ := Kd.R_slice HO208.out; subst eo115) | ((with_reducible refine gate_callee (f := 28) rfl ?_); refine goesL_ (some 60) rfl rfl Try.func28 (by kernel_rfl) rfl #[.slice Ao115 t206.length co115] rfl (by (try simp only [List.map_toArray, List.map_cons, List.map_nil]); first | done | rfl | (simp only [List.length_drop, List.length_take]; rfl)) ?_; (with_reducible refine (version_twice.calls _ _ t206 false _ ?side1 ?side2 A32.out).mono ?_); (case side1 => repeat (first | exact (Kd.R_reads' HO208.out).2.2 | (with_reducible refine Kd.C_alloc ?_ _) | (with_reducible refine Kd.C_drewN ?_ _) | (with_reducible refine Kd.C_drew ?_))); (case side2 => exact (Kd.R_reads' HO208.out).2.1); rintro e w116 ⟨rfl, hb⟩; refine ⟨_, rfl, ?_⟩; have n0_ := Ad.mk (Kd.R_below (by (with_reducible repeat (first | apply Kd.R_alloc | apply Kd.R_drewN | apply Kd.R_drew)); exact HO200.out) hb); have n1_ := Ad.mk (Kd.R_below (by (with_reducible repeat (first | apply Kd.R_alloc | apply Kd.R_drewN | apply Kd.R_drew)); exact HO203.out) hb); have n2_ := Ad.mk (Kd.R_below (by (with_reducible repeat (first | apply Kd.R_alloc | apply Kd.R_drewN | apply Kd.R_drew)); exact HO208.out) hb); have n3_ := Ad.mk (bbl (g := gb186) (o := .cells #[.slice A0_0 l0_0.length c0_0, .slice A0_1 l0_1.length c0_1, .int .i64 a0_2] 25 (0, 0)) (by (with_reducible repeat (first | refine bdN ?_ _ | refine bdD ?_ | refine blk_alloc ?_ _)); exact BK186.out) hb); have n4_ := Ad.mk (bbl (g := gb187) (o := .cells #[.slice A1_0 l1_0.length c1_0, .slice A1_1 l1_1.length c1_1, .slice A1_2 l1_2.length c1_2, .slice A1_3 l1_3.length c1_3, .int .i64 a1_4] 32 (0, 0)) (by (with_reducible repeat (first | refine bdN ?_ _ | refine bdD ?_ | refine blk_alloc ?_ _)); exact BK187.out) hb); have n5_ := Ad.mk (bbl (g := gb188) (o := .cells #[.slice none 0 0, .slice none 0 0, .int .i64 0] 25 (0, 0)) (by (with_reducible repeat (first | refine bdN ?_ _ | refine bdD ?_ | refine blk_alloc ?_ _)); exact BK188.out) hb); have n6_ := Ad.mk (bbl (g := gb204) (o := .cells #[.slice Ao103 y198.length co103, .slice Ao102 y201.length co102, .int .i64 ji29] 25 (0, 0)) (by (with_reducible repeat (first | refine bdN ?_ _ | refine bdD ?_ | refine blk_alloc ?_ _)); exact BK204.out) hb); have n7_ := Ad.mk (bls (by repeat (first | (with_reducible first | exact HB.out | apply blA | apply blN | apply blD | refine blS ?_ GE186.out | refine blS ?_ GE187.out | refine blS ?_ GE188.out | refine blS ?_ GE204.out) | exact HB.out)) hb); clear HO200; clear HO203; clear HO208; clear BK186; clear BK187; clear BK188; clear BK204; clear HB; have HO200 := n0_; have HO203 := n1_; have HO208 := n2_; have BK186 := n3_; have BK187 := n4_; have BK188 := n5_; have BK204 := n6_; have HB := n7_; clear n0_ n1_ n2_ n3_ n4_ n5_ n6_ n7_; (try clear hb); (try clear hb2); (try clear hk); (try clear hi); have hcz117_0 : w116.cell? ⟨gb204, 0, none⟩ = some (.slice Ao103 y198.length co103) := (bcl BK204.out 0).trans rfl; have hcz117_1 : w116.cell? ⟨gb204, 1, none⟩ = some (.slice Ao102 y201.length co102) := (bcl BK204.out 1).trans rfl; have hcz117_2 : w116.cell? ⟨gb204, 2, none⟩ = some (.int .i64 ji29) := (bcl BK204.out 2).trans rfl; have hfz117_0 := bfz BK204.out 0; have hfz117_1 := bfz BK204.out 1; have hfz117_2 := bfz BK204.out 2) | ((with_reducible refine gate_callee (f := 13) rfl ?_); refine goesL_ (some 65) rfl rfl Try.func13 (by kernel_rfl) rfl #[.agg #[.slice Ao103 t205.length co103, .slice Ao102 y201.length co102, .int .i64 ji29]] rfl (by (try simp only [List.map_toArray, List.map_cons, List.map_nil]); first | done | (rw [show t205.length = y198.length from (Kd.R_reads' HO200.out).1.symm] <;> rfl) | (simp only [hji29]; rfl) | rfl | (simp only [List.length_drop, List.length_take]; rfl)) ?_; (with_reducible refine (version_Right.calls kj6 _ _ t205 _ _ y201 ji29 false _ ?side1 ?side2 ?side3 ?side4 A61.out).mono ?_); (case side1 => repeat (first | exact (Kd.R_reads' HO200.out).2.2 | (with_reducible refine Kd.C_alloc ?_ _) | (with_reducible refine Kd.C_drewN ?_ _) | (with_reducible refine Kd.C_drew ?_))); (case side2 => rw [show t205.length = y198.length from (Kd.R_reads' HO200.out).1.symm]; exact (Kd.R_reads' HO200.out).2.1); (case side3 => repeat (first | exact (Kd.R_reads' HO203.out).2.2 | (with_reducible refine Kd.C_alloc ?_ _) | (with_reducible refine Kd.C_drewN ?_ _) | (with_reducible refine Kd.C_drew ?_))); (case side4 => exact (Kd.R_reads' HO203.out).2.1); rintro e w118 ⟨rfl, hb⟩; refine ⟨_, rfl, ?_⟩; have n0_ := Ad.mk (Kd.R_below (by (with_reducible repeat (first | apply Kd.R_alloc | apply Kd.R_drewN | apply Kd.R_drew)); exact HO200.out) hb); have n1_ := Ad.mk (Kd.R_below (by (with_reducible repeat (first | apply Kd.R_alloc | apply Kd.R_drewN | apply Kd.R_drew)); exact HO203.out) hb); have n2_ := Ad.mk (Kd.R_below (by (with_reducible repeat (first | apply Kd.R_alloc | apply Kd.R_drewN | apply Kd.R_drew)); exact HO208.out) hb); have n3_ := Ad.mk (bbl (g := gb186) (o := .cells #[.slice A0_0 l0_0.length c0_0, .slice A0_1 l0_1.length c0_1, .int .i64 a0_2] 25 (0, 0)) (by (with_reducible repeat (first | refine bdN ?_ _ | refine bdD ?_ | refine blk_alloc ?_ _)); exact BK186.out) hb); have n4_ := Ad.mk (bbl (g := gb187) (o := .cells #[.slice A1_0 l1_0.length c1_0, .slice A1_1 l1_1.length c1_1, .slice A1_2 l1_2.length c1_2, .slice A1_3 l1_3.length c1_3, .int .i64 a1_4] 32 (0, 0)) (by (with_reducible repeat (first | refine bdN ?_ _ | refine bdD ?_ | refine blk_alloc ?_ _)); exact BK187.out) hb); have n5_ := Ad.mk (bbl (g := gb188) (o := .cells #[.slice none 0 0, .slice none 0 0, .int .i64 0] 25 (0, 0)) (by (with_reducible repeat (first | refine bdN ?_ _ | refine bdD ?_ | refine blk_alloc ?_ _)); exact BK188.out) hb); have n6_ := Ad.mk (bbl (g := gb204) (o := .cells #[.slice Ao103 y198.length co103, .slice Ao102 y201.length co102, .int .i64 ji29] 25 (0, 0)) (by (with_reducible repeat (first | refine bdN ?_ _ | refine bdD ?_ | refine blk_alloc ?_ _)); exact BK204.out) hb); have n7_ := Ad.mk (bls (by repeat (first | (with_reducible first | exact HB.out | apply blA | apply blN | apply blD | refine blS ?_ GE186.out | refine blS ?_ GE187.out | refine blS ?_ GE188.out | refine blS ?_ GE204.out) | exact HB.out)) hb); clear HO200; clear HO203; clear HO208; clear BK186; clear BK187; clear BK188; clear BK204; clear HB; have HO200 := n0_; have HO203 := n1_; have HO208 := n2_; have BK186 := n3_; have BK187 := n4_; have BK188 := n5_; have BK204 := n6_; have HB := n7_; clear n0_ n1_ n2_ n3_ n4_ n5_ n6_ n7_; (try clear hb); (try clear hb2); (try clear hk); (try clear hi); have hnb119 := NB188_186.out; have hnc119 := NB186_188.out; have hnb120 := NB188_187.out; have hnc120 := NB187_188.out; have hcz121_0 : w118.cell? ⟨gb188, 0, none⟩ = some (.slice none 0 0) := (bcl BK188.out 0).trans rfl; have hcz121_1 : w118.cell? ⟨gb188, 1, none⟩ = some (.slice none 0 0) := (bcl BK188.out 1).trans rfl; have hcz121_2 : w118.cell? ⟨gb188, 2, none⟩ = some (.int .i64 0) := (bcl BK188.out 2).trans rfl; have hfz121_0 := bfz BK188.out 0; have hfz121_1 := bfz BK188.out 1; have hfz121_2 := bfz BK188.out 2))
         refine bodyPost_ret (results_ct rfl _ _ gb188 25 #[.slice none 0 0, .slice none 0 0, .int .i64 0] (0, 0) _ rfl (by (with_reducible repeat (first | refine bdN ?_ _ | refine bdD ?_ | refine blk_alloc ?_ _)); refine blk_put (cs := #[.slice none 0 0, .slice none 0 0, .int .i64 0]) ?_ 2 _ rfl; (with_reducible repeat (first | refine bdN ?_ _ | refine bdD ?_ | refine blk_alloc ?_ _)); refine blk_put (cs := #[.slice none 0 0, .slice none 0 0, .int .i64 0]) ?_ 1 _ rfl; (with_reducible repeat (first | refine bdN ?_ _ | refine bdD ?_ | refine blk_alloc ?_ _)); refine blk_put (cs := #[.slice none 0 0, .slice none 0 0, .int .i64 0]) ?_ 0 _ rfl; (with_reducible repeat (first | refine bdN ?_ _ | refine bdD ?_ | refine blk_alloc ?_ _)); exact BK188.out) Try.underlying25 rfl (by kernel_rfl)) rfl ?_
         exact ⟨_, _, by first | rfl | (simp [errW_none, errW_some] <;> rfl) | (simp only [← hji29]; first | rfl | (simp [errW_none, errW_some] <;> rfl)) | (simp [*, errW_none, errW_some] <;> rfl), by first | exact Kd.R_nil _ _ _ _ _ | exact Kd.N_nil _ _ _ _ _ | exact Kd.V_nil _ _ _ _ _ | exact Kd.Q_nil _ _ _ _ _ | exact Kd.S_nil _ _ _ _ _, by first | exact Kd.R_nil _ _ _ _ _ | exact Kd.N_nil _ _ _ _ _ | exact Kd.V_nil _ _ _ _ _ | exact Kd.Q_nil _ _ _ _ _ | exact Kd.S_nil _ _ _ _ _, by repeat (first | (with_reducible first | exact HB.out | apply blA | apply blN | apply blD | refine blS ?_ GE186.out | refine blS ?_ GE187.out | refine blS ?_ GE188.out | refine blS ?_ GE204.out) | exact HB.out)⟩
      ·rw [if_neg c28] at H
       exact absurd H (by simp)
     ·rw [if_neg c27] at H
      exact absurd H (by simp)
 ·replace c4 := Bool.eq_false_iff.mpr c4
  subst c4
  have H1 : (some (([] : List (S35)), ([] : List Int), 0, some 1)) = some (r1, r2, r3, r4) := by rw [if_neg (show ¬ (false = true) by decide)] at H; exact H
  clear H
  have H := H1
  clear H1
  simp only [Option.some.injEq, Prod.mk.injEq] at H
  obtain ⟨rfl, rfl, rfl, rfl⟩ := H
  go_enter Try.func10, Try.ntmps10
  go_wp2_with (first | ((with_reducible refine gate_dst (N := 2) rfl ?_); refine box_event ?hg (N := 2) ?hd (cs := #[.slice A0_0 l0_0.length c0_0, .slice A0_1 l0_1.length c0_1, .int .i64 a0_2]) (t := 25) ?hr ?_; (case hd => rfl); (case hg => rfl); (case hr => first | (go_simp; done) | (go_simp; rfl)); intro gb186 hg w122 hbox hb; have n0_ := Ad.mk (bls (by repeat (first | (with_reducible first | exact HB.out | apply blA | apply blN | apply blD) | exact HB.out)) hb); have n1_ := Ad.mk (hbox); have n2_ := Ad.mk ((by rw [hg]; exact (blz (by repeat (first | (with_reducible first | exact HB.out | apply blA | apply blN | apply blD) | exact HB.out))) : w.heap.size ≤ gb186)); have n3_ := Ad.mk ((by rw [hg]; exact (blz (by repeat (first | (with_reducible first | exact HB.out | apply blA | apply blN | apply blD) | exact HB.out))) : w.heap.size ≤ gb186)); clear HB; have HB := n0_; have BK186 := n1_; have GW186 := n2_; have GE186 := n3_; clear n0_ n1_ n2_ n3_; clear hb hbox hg) | ((with_reducible refine gate_dst (N := 3) rfl ?_); refine box_event ?hg (N := 3) ?hd (cs := #[.slice A1_0 l1_0.length c1_0, .slice A1_1 l1_1.length c1_1, .slice A1_2 l1_2.length c1_2, .slice A1_3 l1_3.length c1_3, .int .i64 a1_4]) (t := 32) ?hr ?_; (case hd => rfl); (case hg => rfl); (case hr => first | (go_simp; done) | (go_simp; rfl)); intro gb187 hg w123 hbox hb; have n0_ := Ad.mk (bbl (g := gb186) (o := .cells #[.slice A0_0 l0_0.length c0_0, .slice A0_1 l0_1.length c0_1, .int .i64 a0_2] 25 (0, 0)) (by (with_reducible repeat (first | refine bdN ?_ _ | refine bdD ?_ | refine blk_alloc ?_ _)); exact BK186.out) hb); have n1_ := Ad.mk (bls (by repeat (first | (with_reducible first | exact HB.out | apply blA | apply blN | apply blD | refine blS ?_ GE186.out) | exact HB.out)) hb); have n2_ := Ad.mk (hbox); have n3_ := Ad.mk ((by rw [hg]; exact (blz (by repeat (first | (with_reducible first | exact HB.out | apply blA | apply blN | apply blD | refine blS ?_ GE186.out) | exact HB.out))) : w.heap.size ≤ gb187)); have n4_ := Ad.mk ((by rw [hg]; exact (blz (by repeat (first | (with_reducible first | exact HB.out | apply blA | apply blN | apply blD | refine blS ?_ GE186.out) | exact HB.out))) : w.heap.size ≤ gb187)); have n5_ := Ad.mk ((by rw [hg]; exact Nat.ne_of_lt (blk_lt (g := gb186) (o := .cells #[.slice A0_0 l0_0.length c0_0, .slice A0_1 l0_1.length c0_1, .int .i64 a0_2] 25 (0, 0)) (by (with_reducible repeat (first | refine bdN ?_ _ | refine bdD ?_ | refine blk_alloc ?_ _)); exact BK186.out)) : gb186 ≠ gb187)); have n6_ := Ad.mk ((by rw [hg]; exact Nat.ne_of_gt (blk_lt (g := gb186) (o := .cells #[.slice A0_0 l0_0.length c0_0, .slice A0_1 l0_1.length c0_1, .int .i64 a0_2] 25 (0, 0)) (by (with_reducible repeat (first | refine bdN ?_ _ | refine bdD ?_ | refine blk_alloc ?_ _)); exact BK186.out)) : gb187 ≠ gb186)); clear BK186; clear HB; have BK186 := n0_; have HB := n1_; have BK187 := n2_; have GW187 := n3_; have GE187 := n4_; have NB186_187 := n5_; have NB187_186 := n6_; clear n0_ n1_ n2_ n3_ n4_ n5_ n6_; clear hb hbox hg) | ((with_reducible refine gate_dst (N := 4) rfl ?_); refine box_event ?hg (N := 4) ?hd (cs := #[.slice none 0 0, .slice none 0 0, .int .i64 0]) (t := 25) ?hr ?_; (case hd => rfl); (case hg => rfl); (case hr => first | (go_simp; done) | (go_simp; rfl)); intro gb188 hg w124 hbox hb; have n0_ := Ad.mk (bbl (g := gb186) (o := .cells #[.slice A0_0 l0_0.length c0_0, .slice A0_1 l0_1.length c0_1, .int .i64 a0_2] 25 (0, 0)) (by (with_reducible repeat (first | refine bdN ?_ _ | refine bdD ?_ | refine blk_alloc ?_ _)); exact BK186.out) hb); have n1_ := Ad.mk (bbl (g := gb187) (o := .cells #[.slice A1_0 l1_0.length c1_0, .slice A1_1 l1_1.length c1_1, .slice A1_2 l1_2.length c1_2, .slice A1_3 l1_3.length c1_3, .int .i64 a1_4] 32 (0, 0)) (by (with_reducible repeat (first | refine bdN ?_ _ | refine bdD ?_ | refine blk_alloc ?_ _)); exact BK187.out) hb); have n2_ := Ad.mk (bls (by repeat (first | (with_reducible first | exact HB.out | apply blA | apply blN | apply blD | refine blS ?_ GE186.out | refine blS ?_ GE187.out) | exact HB.out)) hb); have n3_ := Ad.mk (hbox); have n4_ := Ad.mk ((by rw [hg]; exact (blz (by repeat (first | (with_reducible first | exact HB.out | apply blA | apply blN | apply blD | refine blS ?_ GE186.out | refine blS ?_ GE187.out) | exact HB.out))) : w.heap.size ≤ gb188)); have n5_ := Ad.mk ((by rw [hg]; exact (blz (by repeat (first | (with_reducible first | exact HB.out | apply blA | apply blN | apply blD | refine blS ?_ GE186.out | refine blS ?_ GE187.out) | exact HB.out))) : w.heap.size ≤ gb188)); have n6_ := Ad.mk ((by rw [hg]; exact Nat.ne_of_lt (blk_lt (g := gb186) (o := .cells #[.slice A0_0 l0_0.length c0_0, .slice A0_1 l0_1.length c0_1, .int .i64 a0_2] 25 (0, 0)) (by (with_reducible repeat (first | refine bdN ?_ _ | refine bdD ?_ | refine blk_alloc ?_ _)); exact BK186.out)) : gb186 ≠ gb188)); have n7_ := Ad.mk ((by rw [hg]; exact Nat.ne_of_gt (blk_lt (g := gb186) (o := .cells #[.slice A0_0 l0_0.length c0_0, .slice A0_1 l0_1.length c0_1, .int .i64 a0_2] 25 (0, 0)) (by (with_reducible repeat (first | refine bdN ?_ _ | refine bdD ?_ | refine blk_alloc ?_ _)); exact BK186.out)) : gb188 ≠ gb186)); have n8_ := Ad.mk ((by rw [hg]; exact Nat.ne_of_lt (blk_lt (g := gb187) (o := .cells #[.slice A1_0 l1_0.length c1_0, .slice A1_1 l1_1.length c1_1, .slice A1_2 l1_2.length c1_2, .slice A1_3 l1_3.length c1_3, .int .i64 a1_4] 32 (0, 0)) (by (with_reducible repeat (first | refine bdN ?_ _ | refine bdD ?_ | refine blk_alloc ?_ _)); exact BK187.out)) : gb187 ≠ gb188)); have n9_ := Ad.mk ((by rw [hg]; exact Nat.ne_of_gt (blk_lt (g := gb187) (o := .cells #[.slice A1_0 l1_0.length c1_0, .slice A1_1 l1_1.length c1_1, .slice A1_2 l1_2.length c1_2, .slice A1_3 l1_3.length c1_3, .int .i64 a1_4] 32 (0, 0)) (by (with_reducible repeat (first | refine bdN ?_ _ | refine bdD ?_ | refine blk_alloc ?_ _)); exact BK187.out)) : gb188 ≠ gb187)); clear BK186; clear BK187; clear HB; have BK186 := n0_; have BK187 := n1_; have HB := n2_; have BK188 := n3_; have GW188 := n4_; have GE188 := n5_; have NB186_188 := n6_; have NB188_186 := n7_; have NB187_188 := n8_; have NB188_187 := n9_; clear n0_ n1_ n2_ n3_ n4_ n5_ n6_ n7_ n8_ n9_; clear hb hbox hg; have hnb125 := NB186_187.out; have hnc125 := NB187_186.out; have hnb126 := NB186_188.out; have hnc126 := NB188_186.out; have hcz127_0 : w124.cell? ⟨gb186, 0, none⟩ = some (.slice A0_0 l0_0.length c0_0) := (bcl BK186.out 0).trans rfl; have hcz127_1 : w124.cell? ⟨gb186, 1, none⟩ = some (.slice A0_1 l0_1.length c0_1) := (bcl BK186.out 1).trans rfl; have hcz127_2 : w124.cell? ⟨gb186, 2, none⟩ = some (.int .i64 a0_2) := (bcl BK186.out 2).trans rfl; have hfz127_0 := bfz BK186.out 0; have hfz127_1 := bfz BK186.out 1; have hfz127_2 := bfz BK186.out 2) | ((with_reducible refine gate_callee (f := 13) rfl ?_); refine goesL_ (some 12) rfl rfl Try.func13 (by kernel_rfl) rfl #[.agg #[.slice A0_0 l0_0.length c0_0, .slice A0_1 l0_1.length c0_1, .int .i64 a0_2]] rfl (by (try simp only [List.map_toArray, List.map_cons, List.map_nil]); first | done | rfl | (simp only [List.length_drop, List.length_take]; rfl)) ?_; (with_reducible refine (version_Right.calls k _ _ l0_0 _ _ l0_1 a0_2 false _ ?side1 ?side2 ?side3 ?side4 A3.out).mono ?_); (case side1 => repeat (first | exact (Kd.C_below HR0_0.out HB.out) | (with_reducible refine Kd.C_alloc ?_ _) | (with_reducible refine Kd.C_drewN ?_ _) | (with_reducible refine Kd.C_drew ?_))); (case side2 => exact HC0_0.out); (case side3 => repeat (first | exact (Kd.C_below HR0_1.out HB.out) | (with_reducible refine Kd.C_alloc ?_ _) | (with_reducible refine Kd.C_drewN ?_ _) | (with_reducible refine Kd.C_drew ?_))); (case side4 => exact HC0_1.out); rintro e w128 ⟨rfl, hb⟩; refine ⟨_, rfl, ?_⟩; have n0_ := Ad.mk (bbl (g := gb186) (o := .cells #[.slice A0_0 l0_0.length c0_0, .slice A0_1 l0_1.length c0_1, .int .i64 a0_2] 25 (0, 0)) (by (with_reducible repeat (first | refine bdN ?_ _ | refine bdD ?_ | refine blk_alloc ?_ _)); exact BK186.out) hb); have n1_ := Ad.mk (bbl (g := gb187) (o := .cells #[.slice A1_0 l1_0.length c1_0, .slice A1_1 l1_1.length c1_1, .slice A1_2 l1_2.length c1_2, .slice A1_3 l1_3.length c1_3, .int .i64 a1_4] 32 (0, 0)) (by (with_reducible repeat (first | refine bdN ?_ _ | refine bdD ?_ | refine blk_alloc ?_ _)); exact BK187.out) hb); have n2_ := Ad.mk (bbl (g := gb188) (o := .cells #[.slice none 0 0, .slice none 0 0, .int .i64 0] 25 (0, 0)) (by (with_reducible repeat (first | refine bdN ?_ _ | refine bdD ?_ | refine blk_alloc ?_ _)); exact BK188.out) hb); have n3_ := Ad.mk (bls (by repeat (first | (with_reducible first | exact HB.out | apply blA | apply blN | apply blD | refine blS ?_ GE186.out | refine blS ?_ GE187.out | refine blS ?_ GE188.out) | exact HB.out)) hb); clear BK186; clear BK187; clear BK188; clear HB; have BK186 := n0_; have BK187 := n1_; have BK188 := n2_; have HB := n3_; clear n0_ n1_ n2_ n3_; (try clear hb); (try clear hb2); (try clear hk); (try clear hi); have hnb129 := NB188_187.out; have hnc129 := NB187_188.out; have hcz130_0 : w128.cell? ⟨gb188, 0, none⟩ = some (.slice none 0 0) := (bcl BK188.out 0).trans rfl; have hcz130_1 : w128.cell? ⟨gb188, 1, none⟩ = some (.slice none 0 0) := (bcl BK188.out 1).trans rfl; have hcz130_2 : w128.cell? ⟨gb188, 2, none⟩ = some (.int .i64 0) := (bcl BK188.out 2).trans rfl; have hfz130_0 := bfz BK188.out 0; have hfz130_1 := bfz BK188.out 1; have hfz130_2 := bfz BK188.out 2))
  refine bodyPost_ret (results_ct rfl _ _ gb188 25 #[.slice none 0 0, .slice none 0 0, .int .i64 0] (0, 0) _ rfl (by (with_reducible repeat (first | refine bdN ?_ _ | refine bdD ?_ | refine blk_alloc ?_ _)); refine blk_put (cs := #[.slice none 0 0, .slice none 0 0, .int .i64 0]) ?_ 2 _ rfl; (with_reducible repeat (first | refine bdN ?_ _ | refine bdD ?_ | refine blk_alloc ?_ _)); refine blk_put (cs := #[.slice none 0 0, .slice none 0 0, .int .i64 0]) ?_ 1 _ rfl; (with_reducible repeat (first | refine bdN ?_ _ | refine bdD ?_ | refine blk_alloc ?_ _)); refine blk_put (cs := #[.slice none 0 0, .slice none 0 0, .int .i64 0]) ?_ 0 _ rfl; (with_reducible repeat (first | refine bdN ?_ _ | refine bdD ?_ | refine blk_alloc ?_ _)); exact BK188.out) Try.underlying25 rfl (by kernel_rfl)) rfl ?_
  exact ⟨_, _, by first | rfl | (simp [errW_none, errW_some] <;> rfl) | (simp [*, errW_none, errW_some] <;> rfl), by first | exact Kd.R_nil _ _ _ _ _ | exact Kd.N_nil _ _ _ _ _ | exact Kd.V_nil _ _ _ _ _ | exact Kd.Q_nil _ _ _ _ _ | exact Kd.S_nil _ _ _ _ _, by first | exact Kd.R_nil _ _ _ _ _ | exact Kd.N_nil _ _ _ _ _ | exact Kd.V_nil _ _ _ _ _ | exact Kd.Q_nil _ _ _ _ _ | exact Kd.S_nil _ _ _ _ _, by repeat (first | (with_reducible first | exact HB.out | apply blA | apply blN | apply blD | refine blS ?_ GE186.out | refine blS ?_ GE187.out | refine blS ?_ GE188.out) | exact HB.out)⟩
end Go.Proofs.Ytoonheembcejfaa.PA

-- printed by a program of this session (wip/myprint.py), after the kit's print
import Derived.Test.YtoonheembcejfaaPAx0
import Derived.Test.YtoonheembcejfaaPAx4
import Derived.Test.YtoonheembcejfaaPAx11
import Derived.Test.YtoonheembcejfaaPAx12
import Derived.Test.YtoonheembcejfaaPAx23
import Derived.Test.YtoonheembcejfaaHCloneInt
import Derived.Test.YtoonheembcejfaaHCloneMeta
import Derived.Test.YtoonheembcejfaaHExamples
namespace Go.Proofs.Ytoonheembcejfaa.PA
open Go.RowKit Go.Proofs.YtoonheembcejfaaW.PrintWords Go.Proofs.YtoonheembcejfaaW.PrintLast Go.Proofs.YtoonheembcejfaaW.PrintMore
attribute [local go_sem] max2_int min2_int max_two min_two max_three min_three max_four min_four   -- for this text's walks alone
set_option linter.unusedVariables false
set_option linter.unusedSimpArgs false
/-! ### version_Whole: function 14 -/
def version_Whole.f (l0_0 : List (S35)) (l0_1 : List Int) (a0_2 : Int) : Option ((List (S35)) × List Int × List Int × List Int × Int) := (slices_Clone_Meta.f l0_0).bind fun t450 => ((slices_Clone_Int.f l0_1).bind fun t453 => (some (t450, ([] : List Int), t453, ([] : List Int), a0_2)))
def version_Whole.T1 : Bool × List (List Nat × List Nat) := (true, [([], []), ([0], [0]), ([1], [1]), ([], []), ([3], [3]), ([4, 2], [4]), ([], []), ([6], [6]), ([2, 5, 7], [2, 5, 7]), ([8, 5, 0, 1, 2, 3, 4, 5, 6, 7, 8], [8])])
def version_Whole.B1 : List Nat := [0, 1, 3, 0, 8, 31, 0, 64, 255, 511]
theorem version_Whole.tab1 : rtab .any (opsOf Try.f14 1) = version_Whole.T1 := by kernel_rfl
theorem version_Whole.bits1 : waitsOk version_Whole.T1.2 version_Whole.B1 = true := by kernel_rfl
set_option maxHeartbeats 8000000 in
set_option maxRecDepth 100000 in
theorem version_Whole.calls (A0_0 : Option Addr) (c0_0 : Nat) (l0_0 : List (S35)) (A0_1 : Option Addr) (c0_1 : Nat) (l0_1 : List Int) (a0_2 : Int) (r1 : List (S35)) (r2 : List Int) (r3 : List Int) (r4 : List Int) (r5 : Int) (w : World) (hr0_0 : Kd.C k35 w A0_0 l0_0.length l0_0) (hc0_0 : l0_0.length ≤ c0_0) (hr0_1 : Kd.C (Kd.int .i64) w A0_1 l0_1.length l0_1) (hc0_1 : l0_1.length ≤ c0_1) (h : version_Whole.f l0_0 l0_1 a0_2 = some (r1, r2, r3, r4, r5)) :
  Calls Try.prog 14 #[.agg #[.slice A0_0 l0_0.length c0_0, .slice A0_1 l0_1.length c0_1, .int .i64 a0_2]] w fun e w' => ∃ v0_ v1_ v2_ v3_ : Value, e = .returned (.agg #[v0_, v1_, v2_, v3_, .int .i64 r5]) ∧ Kd.R k35 35 w' w.heap.size (fun _ => True) v0_ r1 ∧ Kd.R (Kd.int .i64) 3 w' w.heap.size (fun k_ => some k_ ≠ (v2_ : Value).ownBlock ∧ some k_ ≠ (v3_ : Value).ownBlock) v1_ r2 ∧ Kd.R (Kd.int .i64) 3 w' w.heap.size (fun k_ => some k_ ≠ (v1_ : Value).ownBlock ∧ some k_ ≠ (v3_ : Value).ownBlock) v2_ r3 ∧ Kd.R (Kd.int .i64) 3 w' w.heap.size (fun k_ => some k_ ≠ (v1_ : Value).ownBlock ∧ some k_ ≠ (v2_ : Value).ownBlock) v3_ r4 ∧ Below w.heap.size w w' := by
 have hu25 := Try.underlying25
 have hu32 := Try.underlying32
 have HR0_0 := Ad.mk hr0_0
 have HC0_0 := Ad.mk hc0_0
 clear hr0_0 hc0_0
 have HR0_1 := Ad.mk hr0_1
 have HC0_1 := Ad.mk hc0_1
 clear hr0_1 hc0_1
 have HB := Ad.mk (Below.refl w.heap.size w)
 have H : ((slices_Clone_Meta.f l0_0).bind fun t450 => ((slices_Clone_Int.f l0_1).bind fun t453 => (some (t450, ([] : List Int), t453, ([] : List Int), a0_2)))) = some (r1, r2, r3, r4, r5) := h
 clear h
 replace H := Option.bind_eq_some_iff.mp H
 obtain ⟨t450, A20, H⟩ := H
 replace H : ((slices_Clone_Int.f l0_1).bind fun t453 => (some (t450, ([] : List Int), t453, ([] : List Int), a0_2))) = some (r1, r2, r3, r4, r5) := H
 have A2 := Ad.mk A20
 clear A20
 replace H := Option.bind_eq_some_iff.mp H
 obtain ⟨t453, A30, H⟩ := H
 replace H : (some (t450, ([] : List Int), t453, ([] : List Int), a0_2)) = some (r1, r2, r3, r4, r5) := H
 have A3 := Ad.mk A30
 clear A30
 simp only [Option.some.injEq, Prod.mk.injEq] at H
 obtain ⟨rfl, rfl, rfl, rfl, rfl⟩ := H
 go_enter Try.func14, Try.ntmps14
 try go_wp2_with (first | ((with_reducible refine gate_dst (N := 1) rfl ?_); refine box_event ?hg (N := 1) ?hd (cs := #[.slice A0_0 l0_0.length c0_0, .slice A0_1 l0_1.length c0_1, .int .i64 a0_2]) (t := 25) ?hr ?_; (case hd => rfl); (case hg => rfl); (case hr => first | (go_simp; done) | (go_simp; rfl)); intro gb448 hg w4 hbox hb; have n0_ := Ad.mk (bls (by repeat (first | (with_reducible first | exact HB.out | apply blA | apply blN | apply blD) | exact HB.out)) hb); have n1_ := Ad.mk (hbox); have n2_ := Ad.mk ((by rw [hg]; exact (blz (by repeat (first | (with_reducible first | exact HB.out | apply blA | apply blN | apply blD) | exact HB.out))) : w.heap.size ≤ gb448)); have n3_ := Ad.mk ((by rw [hg]; exact (blz (by repeat (first | (with_reducible first | exact HB.out | apply blA | apply blN | apply blD) | exact HB.out))) : w.heap.size ≤ gb448)); clear HB; have HB := n0_; have BK448 := n1_; have GW448 := n2_; have GE448 := n3_; clear n0_ n1_ n2_ n3_; clear hb hbox hg) | ((with_reducible refine gate_dst (N := 2) rfl ?_); refine box_event ?hg (N := 2) ?hd (cs := #[.slice none 0 0, .slice none 0 0, .slice none 0 0, .slice none 0 0, .int .i64 0]) (t := 32) ?hr ?_; (case hd => rfl); (case hg => rfl); (case hr => first | (go_simp; done) | (go_simp; rfl)); intro gb449 hg w5 hbox hb; have n0_ := Ad.mk (bbl (g := gb448) (o := .cells #[.slice A0_0 l0_0.length c0_0, .slice A0_1 l0_1.length c0_1, .int .i64 a0_2] 25 (0, 0)) (by (with_reducible repeat (first | refine bdN ?_ _ | refine bdD ?_ | refine blk_alloc ?_ _)); exact BK448.out) hb); have n1_ := Ad.mk (bls (by repeat (first | (with_reducible first | exact HB.out | apply blA | apply blN | apply blD | refine blS ?_ GE448.out) | exact HB.out)) hb); have n2_ := Ad.mk (hbox); have n3_ := Ad.mk ((by rw [hg]; exact (blz (by repeat (first | (with_reducible first | exact HB.out | apply blA | apply blN | apply blD | refine blS ?_ GE448.out) | exact HB.out))) : w.heap.size ≤ gb449)); have n4_ := Ad.mk ((by rw [hg]; exact (blz (by repeat (first | (with_reducible first | exact HB.out | apply blA | apply blN | apply blD | refine blS ?_ GE448.out) | exact HB.out))) : w.heap.size ≤ gb449)); have n5_ := Ad.mk ((by rw [hg]; exact Nat.ne_of_lt (blk_lt (g := gb448) (o := .cells #[.slice A0_0 l0_0.length c0_0, .slice A0_1 l0_1.length c0_1, .int .i64 a0_2] 25 (0, 0)) (by (with_reducible repeat (first | refine bdN ?_ _ | refine bdD ?_ | refine blk_alloc ?_ _)); exact BK448.out)) : gb448 ≠ gb449)); have n6_ := Ad.mk ((by rw [hg]; exact Nat.ne_of_gt (blk_lt (g := gb448) (o := .cells #[.slice A0_0 l0_0.length c0_0, .slice A0_1 l0_1.length c0_1, .int .i64 a0_2] 25 (0, 0)) (by (with_reducible repeat (first | refine bdN ?_ _ | refine bdD ?_ | refine blk_alloc ?_ _)); exact BK448.out)) : gb449 ≠ gb448)); clear BK448; clear HB; have BK448 := n0_; have HB := n1_; have BK449 := n2_; have GW449 := n3_; have GE449 := n4_; have NB448_449 := n5_; have NB449_448 := n6_; clear n0_ n1_ n2_ n3_ n4_ n5_ n6_; clear hb hbox hg))
 have n0_ := Ad.mk (bdD BK448.out)
 have n1_ := Ad.mk (bdD BK449.out)
 have n2_ := Ad.mk (blD HB.out)
 clear BK448
 clear BK449
 clear HB
 have BK448 := n0_
 have BK449 := n1_
 have HB := n2_
 clear n0_ n1_ n2_
 refine start_ (n := 10) (S := fun w' => w'.cell? ⟨gb448, 0, none⟩ = some (.slice A0_0 l0_0.length c0_0) ∧ w'.cell? ⟨gb448, 1, none⟩ = some (.slice A0_1 l0_1.length c0_1) ∧ w'.cell? ⟨gb448, 2, none⟩ = some (.int .i64 a0_2)) (ds := []) #[false, false, false, false, false, false, false, false, false, false] (by kernel_rfl) rfl rfl ⟨(bcl BK448.out 0).trans rfl, (bcl BK448.out 1).trans rfl, (bcl BK448.out 2).trans rfl⟩ (fun hHeld => ?_); refine with_tabW version_Whole.tab1 version_Whole.bits1 (fun HT_ HW_ => ?_)
 generalize w5.drew = w6 at BK448 BK449 HB hHeld ⊢
 refine pure_ (i := 0) (N := some 3) (v := ?_) (a' := ?_) #[true, false, false, false, false, false, false, false, false, false] rfl rfl (any_of HT_.out (by kernel_rfl)) (fun _ _ _ h => h) (Or.inl ⟨by rfl, ?_⟩) ?_ ?_
 rotate_left
 ·intro w'
  go_simp
  with_reducible rfl
 rotate_left
 ·simp only [Act.put, List.setIfInBounds_toArray, List.set_cons_zero, List.set_cons_succ, i64_w, i32_w]
  rfl
 refine pure_ (i := 3) (N := some 6) (v := ?_) (a' := ?_) #[true, false, false, true, false, false, false, false, false, false] rfl rfl (any_of HT_.out (by kernel_rfl)) (fun _ _ _ h => h) (Or.inl ⟨by rfl, ?_⟩) ?_ ?_
 rotate_left
 ·intro w'
  go_simp
  with_reducible rfl
 rotate_left
 ·simp only [Act.put, List.setIfInBounds_toArray, List.set_cons_zero, List.set_cons_succ, i64_w, i32_w]
  rfl
 refine pure_ (i := 6) (N := some 9) (v := ?_) (a' := ?_) #[true, false, false, true, false, false, true, false, false, false] rfl rfl (any_of HT_.out (by kernel_rfl)) (fun _ _ _ h => h) (Or.inl ⟨by rfl, ?_⟩) ?_ ?_
 rotate_left
 ·intro w'
  go_simp
  with_reducible rfl
 rotate_left
 ·simp only [Act.put, List.setIfInBounds_toArray, List.set_cons_zero, List.set_cons_succ, i64_w, i32_w]
  rfl
 refine take_ (i := 1) (N := some 4) (v := ?_) (a' := ?_) #[true, true, false, true, false, false, true, false, false, false] rfl rfl (take_ofW HT_.out HW_.out (by kernel_rfl)) (fun _ _ _ h => h) (Or.inl ⟨by rfl, ?_⟩) hHeld ?_ ?_
 rotate_left
 ·rintro w' ⟨s0, s1, s2⟩
  go_simp
  with_reducible rfl
 rotate_left
 ·simp only [Act.put, List.setIfInBounds_toArray, List.set_cons_zero, List.set_cons_succ, i64_w, i32_w]
  rfl
 refine take_ (i := 4) (N := some 7) (v := ?_) (a' := ?_) #[true, true, false, true, true, false, true, false, false, false] rfl rfl (take_ofW HT_.out HW_.out (by kernel_rfl)) (fun _ _ _ h => h) (Or.inl ⟨by rfl, ?_⟩) hHeld ?_ ?_
 rotate_left
 ·rintro w' ⟨s0, s1, s2⟩
  go_simp
  with_reducible rfl
 rotate_left
 ·simp only [Act.put, List.setIfInBounds_toArray, List.set_cons_zero, List.set_cons_succ, i64_w, i32_w]
  rfl
 refine take_ (i := 7) (N := some 10) (v := ?_) (a' := ?_) #[true, true, false, true, true, false, true, true, false, false] rfl rfl (take_ofW HT_.out HW_.out (by kernel_rfl)) (fun _ _ _ h => h) (Or.inl ⟨by rfl, ?_⟩) hHeld ?_ ?_
 rotate_left
 ·rintro w' ⟨s0, s1, s2⟩
  go_simp
  with_reducible rfl
 rotate_left
 ·simp only [Act.put, List.setIfInBounds_toArray, List.set_cons_zero, List.set_cons_succ, i64_w, i32_w]
  rfl
 refine one_ (i := 2) (N := some 5) #[true, true, true, true, true, false, true, true, false, false] rfl rfl (one_of HT_.out (by kernel_rfl)) (by decide) (fun K hK => ?_)
 refine goes_ Try.func35 (by kernel_rfl) rfl #[.slice A0_0 l0_0.length c0_0] (by rfl) rfl rfl (by (try simp only [List.map_toArray, List.map_cons, List.map_nil]); first | done | rfl | (simp only [List.length_drop, List.length_take]; rfl)) ?_
 with_reducible refine (slices_Clone_Meta.calls _ _ l0_0 t450 _ ?side1 ?side2 A2.out).mono ?_
 (case side1 => repeat (first | exact (Kd.C_below HR0_0.out HB.out) | (with_reducible refine Kd.C_alloc ?_ _) | (with_reducible refine Kd.C_drewN ?_ _) | (with_reducible refine Kd.C_drew ?_)))
 (case side2 => exact HC0_0.out)
 rintro e w7 ⟨v451, rfl, ho0, hb⟩
 refine ⟨_, rfl, ?_⟩
 have n0_ := Ad.mk (Kd.R_lower ho0 (blz (by repeat (first | (with_reducible first | exact HB.out | apply blA | apply blN | apply blD | refine blS ?_ GE448.out | refine blS ?_ GE449.out) | exact HB.out))))
 have n1_ := Ad.mk (bbl (g := gb448) (o := .cells #[.slice A0_0 l0_0.length c0_0, .slice A0_1 l0_1.length c0_1, .int .i64 a0_2] 25 (0, 0)) (by (with_reducible repeat (first | refine bdN ?_ _ | refine bdD ?_ | refine blk_alloc ?_ _)); exact BK448.out) hb)
 have n2_ := Ad.mk (bbl (g := gb449) (o := .cells #[.slice none 0 0, .slice none 0 0, .slice none 0 0, .slice none 0 0, .int .i64 0] 32 (0, 0)) (by (with_reducible repeat (first | refine bdN ?_ _ | refine bdD ?_ | refine blk_alloc ?_ _)); exact BK449.out) hb)
 have n3_ := Ad.mk (bls (by repeat (first | (with_reducible first | exact HB.out | apply blA | apply blN | apply blD | refine blS ?_ GE448.out | refine blS ?_ GE449.out) | exact HB.out)) hb)
 clear BK448
 clear BK449
 clear HB
 have HO452 := n0_
 have BK448 := n1_
 have BK449 := n2_
 have HB := n3_
 clear n0_ n1_ n2_ n3_
 (try clear hb)
 (try clear hb2)
 (try clear hk)
 (try clear hi)
 (try clear ho0)
 refine hK.out _ _ ⟨(bcl BK448.out 0).trans rfl, (bcl BK448.out 1).trans rfl, (bcl BK448.out 2).trans rfl⟩ (fun hHeld => ?_)
 clear hK K
 refine norm_ (a' := ?_) ?_ ?_
 rotate_left
 ·show Act.put _ (some 5) _ = _
  simp only [Act.put, List.setIfInBounds_toArray, List.set_cons_zero, List.set_cons_succ, i64_w, i32_w]
  rfl
 refine one_ (i := 5) (N := some 8) #[true, true, true, true, true, true, true, true, false, false] rfl rfl (one_of HT_.out (by kernel_rfl)) (by decide) (fun K hK => ?_)
 refine goes_ Try.func36 (by kernel_rfl) rfl #[.slice A0_1 l0_1.length c0_1] (by rfl) rfl rfl (by (try simp only [List.map_toArray, List.map_cons, List.map_nil]); first | done | rfl | (simp only [List.length_drop, List.length_take]; rfl)) ?_
 with_reducible refine (slices_Clone_Int.calls _ _ l0_1 t453 _ ?side1 ?side2 A3.out).mono ?_
 (case side1 => repeat (first | exact (Kd.C_below HR0_1.out HB.out) | (with_reducible refine Kd.C_alloc ?_ _) | (with_reducible refine Kd.C_drewN ?_ _) | (with_reducible refine Kd.C_drew ?_)))
 (case side2 => exact HC0_1.out)
 rintro e w8 ⟨v454, rfl, ho0, hb⟩
 refine ⟨_, rfl, ?_⟩
 have n0_ := Ad.mk (Kd.R_below (by (with_reducible repeat (first | apply Kd.R_alloc | apply Kd.R_drewN | apply Kd.R_drew)); exact HO452.out) hb)
 have n1_ := Ad.mk (Kd.R_lower ho0 (blz (by repeat (first | (with_reducible first | exact HB.out | apply blA | apply blN | apply blD | refine blS ?_ GE448.out | refine blS ?_ GE449.out) | exact HB.out))))
 have n2_ := Ad.mk (bbl (g := gb448) (o := .cells #[.slice A0_0 l0_0.length c0_0, .slice A0_1 l0_1.length c0_1, .int .i64 a0_2] 25 (0, 0)) (by (with_reducible repeat (first | refine bdN ?_ _ | refine bdD ?_ | refine blk_alloc ?_ _)); exact BK448.out) hb)
 have n3_ := Ad.mk (bbl (g := gb449) (o := .cells #[.slice none 0 0, .slice none 0 0, .slice none 0 0, .slice none 0 0, .int .i64 0] 32 (0, 0)) (by (with_reducible repeat (first | refine bdN ?_ _ | refine bdD ?_ | refine blk_alloc ?_ _)); exact BK449.out) hb)
 have n4_ := Ad.mk (bls (by repeat (first | (with_reducible first | exact HB.out | apply blA | apply blN | apply blD | refine blS ?_ GE448.out | refine blS ?_ GE449.out) | exact HB.out)) hb)
 clear HO452
 clear BK448
 clear BK449
 clear HB
 have HO452 := n0_
 have HO455 := n1_
 have BK448 := n2_
 have BK449 := n3_
 have HB := n4_
 clear n0_ n1_ n2_ n3_ n4_
 (try clear hb)
 (try clear hb2)
 (try clear hk)
 (try clear hi)
 (try clear ho0)
 obtain ⟨Ao9, co9, eo9⟩ := Kd.R_slice HO455.out
 (first | subst eo9 | (injection eo9 with f1_ f2_ f3_; have f4_ := f1_.symm; have f5_ := f3_.symm; clear f1_ f2_ f3_; subst f4_; subst f5_))
 obtain ⟨Ao10, co10, eo10⟩ := Kd.R_slice HO452.out
 (first | subst eo10 | (injection eo10 with f1_ f2_ f3_; have f4_ := f1_.symm; have f5_ := f3_.symm; clear f1_ f2_ f3_; subst f4_; subst f5_))
 refine hK.out _ _ ⟨(bcl BK448.out 0).trans rfl, (bcl BK448.out 1).trans rfl, (bcl BK448.out 2).trans rfl⟩ (fun hHeld => ?_)
 clear hK K
 refine norm_ (a' := ?_) ?_ ?_
 rotate_left
 ·show Act.put _ (some 8) _ = _
  simp only [Act.put, List.setIfInBounds_toArray, List.set_cons_zero, List.set_cons_succ, i64_w, i32_w]
  rfl
 refine pure_ (i := 8) (N := some 11) (v := ?_) (a' := ?_) #[true, true, true, true, true, true, true, true, true, false] rfl rfl (any_of HT_.out (by kernel_rfl)) (fun _ _ _ h => h) (Or.inl ⟨by rfl, ?_⟩) ?_ ?_
 rotate_left
 ·intro w'
  go_simp
  with_reducible rfl
 rotate_left
 ·simp only [Act.put, List.setIfInBounds_toArray, List.set_cons_zero, List.set_cons_succ, i64_w, i32_w]
  rfl
 refine one_ (i := 9) (N := none) #[true, true, true, true, true, true, true, true, true, true] rfl rfl (one_of HT_.out (by kernel_rfl)) (by decide) (fun K hK => ?_)
 have hs11 : w8.cell? ⟨gb449, 0, none⟩ = some (.slice none 0 0) := (bcl BK449.out 0).trans rfl
 have hfs11 := bfz BK449.out 0
 have hns11_0 := NB448_449.out
 have hms11_0 := NB449_448.out
 have hs12 : w8.cell? ⟨gb449, 1, none⟩ = some (.slice none 0 0) := (bcl BK449.out 1).trans rfl
 have hfs12 := bfz BK449.out 1
 have hns12_0 := NB448_449.out
 have hms12_0 := NB449_448.out
 have hs13 : w8.cell? ⟨gb449, 2, none⟩ = some (.slice none 0 0) := (bcl BK449.out 2).trans rfl
 have hfs13 := bfz BK449.out 2
 have hns13_0 := NB448_449.out
 have hms13_0 := NB449_448.out
 have hs14 : w8.cell? ⟨gb449, 3, none⟩ = some (.slice none 0 0) := (bcl BK449.out 3).trans rfl
 have hfs14 := bfz BK449.out 3
 have hns14_0 := NB448_449.out
 have hms14_0 := NB449_448.out
 have hs15 : w8.cell? ⟨gb449, 4, none⟩ = some (.int .i64 0) := (bcl BK449.out 4).trans rfl
 have hfs15 := bfz BK449.out 4
 have hns15_0 := NB448_449.out
 have hms15_0 := NB449_448.out
 refine skip_ (w1 := ?_) (by rfl) rfl ?_ ?_
 rotate_left
 ·go_simp
  rfl
 refine hK.out _ _ ⟨((cell_far (p := ⟨gb449, _, none⟩) NB448_449.out _).trans (((cell_far (p := ⟨gb449, _, none⟩) NB448_449.out _).trans (((cell_far (p := ⟨gb449, _, none⟩) NB448_449.out _).trans (((cell_far (p := ⟨gb449, _, none⟩) NB448_449.out _).trans (((cell_far (p := ⟨gb449, _, none⟩) NB448_449.out _).trans (hHeld.1)))))))))), ((cell_far (p := ⟨gb449, _, none⟩) NB448_449.out _).trans (((cell_far (p := ⟨gb449, _, none⟩) NB448_449.out _).trans (((cell_far (p := ⟨gb449, _, none⟩) NB448_449.out _).trans (((cell_far (p := ⟨gb449, _, none⟩) NB448_449.out _).trans (((cell_far (p := ⟨gb449, _, none⟩) NB448_449.out _).trans (hHeld.2.1)))))))))), ((cell_far (p := ⟨gb449, _, none⟩) NB448_449.out _).trans (((cell_far (p := ⟨gb449, _, none⟩) NB448_449.out _).trans (((cell_far (p := ⟨gb449, _, none⟩) NB448_449.out _).trans (((cell_far (p := ⟨gb449, _, none⟩) NB448_449.out _).trans (((cell_far (p := ⟨gb449, _, none⟩) NB448_449.out _).trans (hHeld.2.2))))))))))⟩ (fun hHeld => ?_)
 clear hK K
 refine done_ (done_of HT_.out (by kernel_rfl)) ?_
 try go_wp2
 refine bodyPost_ret (results_cell_row rfl _ _ gb449 32 #[.slice Ao10 t450.length co10, .slice none 0 0, .slice Ao9 t453.length co9, .slice none 0 0, .int .i64 a0_2] (0, 0) _ rfl (by (with_reducible repeat (first | refine bdN ?_ _ | refine bdD ?_ | refine blk_alloc ?_ _)); refine blk_put (cs := #[.slice Ao10 t450.length co10, .slice none 0 0, .slice Ao9 t453.length co9, .slice none 0 0, .int .i64 0]) ?_ 4 _ rfl; (with_reducible repeat (first | refine bdN ?_ _ | refine bdD ?_ | refine blk_alloc ?_ _)); refine blk_put (cs := #[.slice Ao10 t450.length co10, .slice none 0 0, .slice Ao9 t453.length co9, .slice none 0 0, .int .i64 0]) ?_ 3 _ rfl; (with_reducible repeat (first | refine bdN ?_ _ | refine bdD ?_ | refine blk_alloc ?_ _)); refine blk_put (cs := #[.slice Ao10 t450.length co10, .slice none 0 0, .slice none 0 0, .slice none 0 0, .int .i64 0]) ?_ 2 _ rfl; (with_reducible repeat (first | refine bdN ?_ _ | refine bdD ?_ | refine blk_alloc ?_ _)); refine blk_put (cs := #[.slice Ao10 t450.length co10, .slice none 0 0, .slice none 0 0, .slice none 0 0, .int .i64 0]) ?_ 1 _ rfl; (with_reducible repeat (first | refine bdN ?_ _ | refine bdD ?_ | refine blk_alloc ?_ _)); refine blk_put (cs := #[.slice none 0 0, .slice none 0 0, .slice none 0 0, .slice none 0 0, .int .i64 0]) ?_ 0 _ rfl; (with_reducible repeat (first | refine bdN ?_ _ | refine bdD ?_ | refine blk_alloc ?_ _)); exact BK449.out) Try.underlying32 rfl (by kernel_rfl)) rfl ?_
 exact ⟨_, _, _, _, by first | rfl | (simp [errW_none, errW_some] <;> rfl) | (simp [*, errW_none, errW_some] <;> rfl), by (with_reducible repeat (first | apply Kd.R_alloc | apply Kd.R_drewN | apply Kd.R_drew)); exact Kd.R_mono (Kd.R_far (p := ⟨gb449, 4, none⟩) (Kd.R_far (p := ⟨gb449, 3, none⟩) (Kd.R_far (p := ⟨gb449, 2, none⟩) (Kd.R_far (p := ⟨gb449, 1, none⟩) (Kd.R_far (p := ⟨gb449, 0, none⟩) (Kd.R_types HO452.out BK449.out (by decide)) (fun _ hk => hk.2) (.slice Ao10 t450.length co10)) (fun _ hk => hk.2) (.slice none 0 0)) (fun _ hk => hk.2) (.slice Ao9 t453.length co9)) (fun _ hk => hk.2) (.slice none 0 0)) (fun _ hk => hk.2) (.int .i64 a0_2)) (fun _ hk => trivial), by first | exact Kd.R_nil _ _ _ _ _ | exact Kd.N_nil _ _ _ _ _ | exact Kd.V_nil _ _ _ _ _ | exact Kd.Q_nil _ _ _ _ _ | exact Kd.S_nil _ _ _ _ _, by (with_reducible repeat (first | apply Kd.R_alloc | apply Kd.R_drewN | apply Kd.R_drew)); exact Kd.R_mono (Kd.R_far (p := ⟨gb449, 4, none⟩) (Kd.R_far (p := ⟨gb449, 3, none⟩) (Kd.R_far (p := ⟨gb449, 2, none⟩) (Kd.R_far (p := ⟨gb449, 1, none⟩) (Kd.R_far (p := ⟨gb449, 0, none⟩) (Kd.R_types HO455.out BK449.out (by decide)) (fun _ hk => hk.2) (.slice Ao10 t450.length co10)) (fun _ hk => hk.2) (.slice none 0 0)) (fun _ hk => hk.2) (.slice Ao9 t453.length co9)) (fun _ hk => hk.2) (.slice none 0 0)) (fun _ hk => hk.2) (.int .i64 a0_2)) (fun _ hk => ⟨(by simp [Value.ownBlock]), (by simp [Value.ownBlock])⟩), by first | exact Kd.R_nil _ _ _ _ _ | exact Kd.N_nil _ _ _ _ _ | exact Kd.V_nil _ _ _ _ _ | exact Kd.Q_nil _ _ _ _ _ | exact Kd.S_nil _ _ _ _ _, by repeat (first | (with_reducible first | exact HB.out | apply blA | apply blN | apply blD | refine blS ?_ GE448.out | refine blS ?_ GE449.out) | exact HB.out)⟩
/-! ### palinodelaw14_VersionWhole: function 4 -/
def palinodelaw14_VersionWhole.f (k : Nat) (l0_0 : List (S35)) (l0_1 : List Int) (a0_2 : Int) : Option (Bool) := (palinodelaw14_examples.f).bind fun t457 => ((version_Right.f k l0_0 l0_1 a0_2).bind fun t458 => (if t458 = true then ((version_Whole.f l0_0 l0_1 a0_2).bind fun bt459 => ((version_Apply.f k ([] : List (S35)) ([] : List Int) 0 bt459.1 bt459.2.1 bt459.2.2.1 bt459.2.2.2.1 bt459.2.2.2.2).bind fun bt472 => ((palinodelaw14_same.f k l0_0 l0_1 a0_2 bt472.1 bt472.2.1 bt472.2.2.1).bind fun t481 => (if t457 = true then (if t481 = true then (if bt472.2.2.2.isNone = true then (some true) else (some false)) else (some false)) else (some false))))) else (some t457)))
theorem palinodelaw14_VersionWhole.mono : ∀ a0 a1 a2 k, LeO (palinodelaw14_VersionWhole.f k a0 a1 a2) (palinodelaw14_VersionWhole.f (k + 1) a0 a1 a2) := by
 intro a0 a1 a2 k
 unfold palinodelaw14_VersionWhole.f
 repeat' first
   | (with_reducible exact palinodelaw14_same.mono _ _ _ _ _ _ _)
   | (with_reducible exact version_Apply.mono _ _ _ _ _ _ _ _ _)
   | (with_reducible exact version_Right.mono _ _ _ _)
   | (with_reducible exact LeO.refl _)
   | (with_reducible exact LeO.none _)
   | (with_reducible refine LeO.ite ?_ ?_)
   | (with_reducible refine LeO.bind ?_ (fun _ => ?_))
   | exact palinodelaw14_same.mono _ _ _ _ _ _ _
   | exact version_Apply.mono _ _ _ _ _ _ _ _ _
   | exact version_Right.mono _ _ _ _
   | exact LeO.none _
   | refine LeO.ite ?_ ?_
   | refine LeO.bind ?_ (fun _ => ?_)
set_option maxHeartbeats 8000000 in
set_option maxRecDepth 100000 in
theorem palinodelaw14_VersionWhole.calls (k : Nat) (A0_0 : Option Addr) (c0_0 : Nat) (l0_0 : List (S35)) (A0_1 : Option Addr) (c0_1 : Nat) (l0_1 : List Int) (a0_2 : Int) (r : Bool) (w : World) (hr0_0 : Kd.C k35 w A0_0 l0_0.length l0_0) (hc0_0 : l0_0.length ≤ c0_0) (hr0_1 : Kd.C (Kd.int .i64) w A0_1 l0_1.length l0_1) (hc0_1 : l0_1.length ≤ c0_1) (ht_ : r = true) (h : palinodelaw14_VersionWhole.f k l0_0 l0_1 a0_2 = some r) :
  Calls Try.prog 4 #[.agg #[.slice A0_0 l0_0.length c0_0, .slice A0_1 l0_1.length c0_1, .int .i64 a0_2]] w fun e w' => e = .returned (.bool r) ∧ Below w.heap.size w w' := by
 have hu25 := Try.underlying25
 have hu28 := Try.underlying28
 have hu53 := Try.underlying53
 have HR0_0 := Ad.mk hr0_0
 have HC0_0 := Ad.mk hc0_0
 clear hr0_0 hc0_0
 have HR0_1 := Ad.mk hr0_1
 have HC0_1 := Ad.mk hc0_1
 clear hr0_1 hc0_1
 have HB := Ad.mk (Below.refl w.heap.size w)
 have H : ((palinodelaw14_examples.f).bind fun t457 => ((version_Right.f k l0_0 l0_1 a0_2).bind fun t458 => (if t458 = true then ((version_Whole.f l0_0 l0_1 a0_2).bind fun bt459 => ((version_Apply.f k ([] : List (S35)) ([] : List Int) 0 bt459.1 bt459.2.1 bt459.2.2.1 bt459.2.2.2.1 bt459.2.2.2.2).bind fun bt472 => ((palinodelaw14_same.f k l0_0 l0_1 a0_2 bt472.1 bt472.2.1 bt472.2.2.1).bind fun t481 => (if t457 = true then (if t481 = true then (if bt472.2.2.2.isNone = true then (some true) else (some false)) else (some false)) else (some false))))) else (some t457)))) = some r := h
 clear h
 replace H := Option.bind_eq_some_iff.mp H
 obtain ⟨t457, A20, H⟩ := H
 replace H : ((version_Right.f k l0_0 l0_1 a0_2).bind fun t458 => (if t458 = true then ((version_Whole.f l0_0 l0_1 a0_2).bind fun bt459 => ((version_Apply.f k ([] : List (S35)) ([] : List Int) 0 bt459.1 bt459.2.1 bt459.2.2.1 bt459.2.2.2.1 bt459.2.2.2.2).bind fun bt472 => ((palinodelaw14_same.f k l0_0 l0_1 a0_2 bt472.1 bt472.2.1 bt472.2.2.1).bind fun t481 => (if t457 = true then (if t481 = true then (if bt472.2.2.2.isNone = true then (some true) else (some false)) else (some false)) else (some false))))) else (some t457))) = some r := H
 have A2 := Ad.mk A20
 clear A20
 replace H := Option.bind_eq_some_iff.mp H
 obtain ⟨t458, A30, H⟩ := H
 replace H : (if t458 = true then ((version_Whole.f l0_0 l0_1 a0_2).bind fun bt459 => ((version_Apply.f k ([] : List (S35)) ([] : List Int) 0 bt459.1 bt459.2.1 bt459.2.2.1 bt459.2.2.2.1 bt459.2.2.2.2).bind fun bt472 => ((palinodelaw14_same.f k l0_0 l0_1 a0_2 bt472.1 bt472.2.1 bt472.2.2.1).bind fun t481 => (if t457 = true then (if t481 = true then (if bt472.2.2.2.isNone = true then (some true) else (some false)) else (some false)) else (some false))))) else (some t457)) = some r := H
 have A3 := Ad.mk A30
 clear A30
 by_cases c4 : t458 = true
 ·subst c4
  have H1 : ((version_Whole.f l0_0 l0_1 a0_2).bind fun bt459 => ((version_Apply.f k ([] : List (S35)) ([] : List Int) 0 bt459.1 bt459.2.1 bt459.2.2.1 bt459.2.2.2.1 bt459.2.2.2.2).bind fun bt472 => ((palinodelaw14_same.f k l0_0 l0_1 a0_2 bt472.1 bt472.2.1 bt472.2.2.1).bind fun t481 => (if t457 = true then (if t481 = true then (if bt472.2.2.2.isNone = true then (some true) else (some false)) else (some false)) else (some false))))) = some r := by rw [if_pos rfl] at H; exact H
  clear H
  have H := H1
  clear H1
  replace H := Option.bind_eq_some_iff.mp H
  obtain ⟨⟨t459, t462, t465, t468, t471⟩, A50, H⟩ := H
  replace H : ((version_Apply.f k ([] : List (S35)) ([] : List Int) 0 t459 t462 t465 t468 t471).bind fun bt472 => ((palinodelaw14_same.f k l0_0 l0_1 a0_2 bt472.1 bt472.2.1 bt472.2.2.1).bind fun t481 => (if t457 = true then (if t481 = true then (if bt472.2.2.2.isNone = true then (some true) else (some false)) else (some false)) else (some false)))) = some r := H
  have A5 := Ad.mk A50
  clear A50
  replace H := Option.bind_eq_some_iff.mp H
  obtain ⟨⟨t472, t475, t478, t479⟩, A60, H⟩ := H
  replace H : ((palinodelaw14_same.f k l0_0 l0_1 a0_2 t472 t475 t478).bind fun t481 => (if t457 = true then (if t481 = true then (if t479.isNone = true then (some true) else (some false)) else (some false)) else (some false))) = some r := H
  have A6 := Ad.mk A60
  clear A60
  replace H := Option.bind_eq_some_iff.mp H
  obtain ⟨t481, A70, H⟩ := H
  replace H : (if t457 = true then (if t481 = true then (if t479.isNone = true then (some true) else (some false)) else (some false)) else (some false)) = some r := H
  have A7 := Ad.mk A70
  clear A70
  by_cases c8 : t457 = true
  ·subst c8
   have H1 : (if t481 = true then (if t479.isNone = true then (some true) else (some false)) else (some false)) = some r := by rw [if_pos rfl] at H; exact H
   clear H
   have H := H1
   clear H1
   by_cases c9 : t481 = true
   ·subst c9
    have H1 : (if t479.isNone = true then (some true) else (some false)) = some r := by rw [if_pos rfl] at H; exact H
    clear H
    have H := H1
    clear H1
    rcases t479 with _ | q482
    ·have H1 : (some true) = some r := by rw [if_pos (show (none : Option Int).isNone = true by rfl)] at H; exact H
     clear H
     have H := H1
     clear H1
     try simp only [errW_none, errW_some]
     obtain rfl := Option.some.inj H
     go_enter Try.func4, Try.ntmps4
     go_wp2_with (first | ((with_reducible refine gate_dst (N := 1) rfl ?_); refine box_event ?hg (N := 1) ?hd (cs := #[.slice A0_0 l0_0.length c0_0, .slice A0_1 l0_1.length c0_1, .int .i64 a0_2]) (t := 25) ?hr ?_; (case hd => rfl); (case hg => rfl); (case hr => first | (go_simp; done) | (go_simp; rfl)); intro gb456 hg w10 hbox hb; have n0_ := Ad.mk (bls (by repeat (first | (with_reducible first | exact HB.out | apply blA | apply blN | apply blD) | exact HB.out)) hb); have n1_ := Ad.mk (hbox); have n2_ := Ad.mk ((by rw [hg]; exact (blz (by repeat (first | (with_reducible first | exact HB.out | apply blA | apply blN | apply blD) | exact HB.out))) : w.heap.size ≤ gb456)); have n3_ := Ad.mk ((by rw [hg]; exact (blz (by repeat (first | (with_reducible first | exact HB.out | apply blA | apply blN | apply blD) | exact HB.out))) : w.heap.size ≤ gb456)); clear HB; have HB := n0_; have BK456 := n1_; have GW456 := n2_; have GE456 := n3_; clear n0_ n1_ n2_ n3_; clear hb hbox hg) | ((with_reducible refine gate_callee (f := 9) rfl ?_); refine goesL_ (some 7) rfl rfl Try.func9 (by kernel_rfl) rfl #[] rfl (by (try simp only [List.map_toArray, List.map_cons, List.map_nil]); first | done | rfl | (simp only [List.length_drop, List.length_take]; rfl)) ?_; (with_reducible refine (palinodelaw14_examples.calls  true _ A2.out).mono ?_); rintro e w11 ⟨rfl, hb⟩; refine ⟨_, rfl, ?_⟩; have n0_ := Ad.mk (bbl (g := gb456) (o := .cells #[.slice A0_0 l0_0.length c0_0, .slice A0_1 l0_1.length c0_1, .int .i64 a0_2] 25 (0, 0)) (by (with_reducible repeat (first | refine bdN ?_ _ | refine bdD ?_ | refine blk_alloc ?_ _)); exact BK456.out) hb); have n1_ := Ad.mk (bls (by repeat (first | (with_reducible first | exact HB.out | apply blA | apply blN | apply blD | refine blS ?_ GE456.out) | exact HB.out)) hb); clear BK456; clear HB; have BK456 := n0_; have HB := n1_; clear n0_ n1_; (try clear hb); (try clear hb2); (try clear hk); (try clear hi); have hcz12_0 : w11.cell? ⟨gb456, 0, none⟩ = some (.slice A0_0 l0_0.length c0_0) := (bcl BK456.out 0).trans rfl; have hcz12_1 : w11.cell? ⟨gb456, 1, none⟩ = some (.slice A0_1 l0_1.length c0_1) := (bcl BK456.out 1).trans rfl; have hcz12_2 : w11.cell? ⟨gb456, 2, none⟩ = some (.int .i64 a0_2) := (bcl BK456.out 2).trans rfl; have hfz12_0 := bfz BK456.out 0; have hfz12_1 := bfz BK456.out 1; have hfz12_2 := bfz BK456.out 2) | ((with_reducible refine gate_callee (f := 13) rfl ?_); refine goesL_ (some 9) rfl rfl Try.func13 (by kernel_rfl) rfl #[.agg #[.slice A0_0 l0_0.length c0_0, .slice A0_1 l0_1.length c0_1, .int .i64 a0_2]] rfl (by (try simp only [List.map_toArray, List.map_cons, List.map_nil]); first | done | rfl | (simp only [List.length_drop, List.length_take]; rfl)) ?_; (with_reducible refine (version_Right.calls k _ _ l0_0 _ _ l0_1 a0_2 true _ ?side1 ?side2 ?side3 ?side4 A3.out).mono ?_); (case side1 => repeat (first | exact (Kd.C_below HR0_0.out HB.out) | (with_reducible refine Kd.C_alloc ?_ _) | (with_reducible refine Kd.C_drewN ?_ _) | (with_reducible refine Kd.C_drew ?_))); (case side2 => exact HC0_0.out); (case side3 => repeat (first | exact (Kd.C_below HR0_1.out HB.out) | (with_reducible refine Kd.C_alloc ?_ _) | (with_reducible refine Kd.C_drewN ?_ _) | (with_reducible refine Kd.C_drew ?_))); (case side4 => exact HC0_1.out); rintro e w13 ⟨rfl, hb⟩; refine ⟨_, rfl, ?_⟩; have n0_ := Ad.mk (bbl (g := gb456) (o := .cells #[.slice A0_0 l0_0.length c0_0, .slice A0_1 l0_1.length c0_1, .int .i64 a0_2] 25 (0, 0)) (by (with_reducible repeat (first | refine bdN ?_ _ | refine bdD ?_ | refine blk_alloc ?_ _)); exact BK456.out) hb); have n1_ := Ad.mk (bls (by repeat (first | (with_reducible first | exact HB.out | apply blA | apply blN | apply blD | refine blS ?_ GE456.out) | exact HB.out)) hb); clear BK456; clear HB; have BK456 := n0_; have HB := n1_; clear n0_ n1_; (try clear hb); (try clear hb2); (try clear hk); (try clear hi); have hcz14_0 : w13.cell? ⟨gb456, 0, none⟩ = some (.slice A0_0 l0_0.length c0_0) := (bcl BK456.out 0).trans rfl; have hcz14_1 : w13.cell? ⟨gb456, 1, none⟩ = some (.slice A0_1 l0_1.length c0_1) := (bcl BK456.out 1).trans rfl; have hcz14_2 : w13.cell? ⟨gb456, 2, none⟩ = some (.int .i64 a0_2) := (bcl BK456.out 2).trans rfl; have hfz14_0 := bfz BK456.out 0; have hfz14_1 := bfz BK456.out 1; have hfz14_2 := bfz BK456.out 2) | ((with_reducible refine gate_callee (f := 14) rfl ?_); refine goesL_ (some 15) rfl rfl Try.func14 (by kernel_rfl) rfl #[.agg #[.slice A0_0 l0_0.length c0_0, .slice A0_1 l0_1.length c0_1, .int .i64 a0_2]] rfl (by (try simp only [List.map_toArray, List.map_cons, List.map_nil]); first | done | rfl | (simp only [List.length_drop, List.length_take]; rfl)) ?_; (with_reducible refine (version_Whole.calls _ _ l0_0 _ _ l0_1 a0_2 t459 t462 t465 t468 t471 _ ?side1 ?side2 ?side3 ?side4 A5.out).mono ?_); (case side1 => repeat (first | exact (Kd.C_below HR0_0.out HB.out) | (with_reducible refine Kd.C_alloc ?_ _) | (with_reducible refine Kd.C_drewN ?_ _) | (with_reducible refine Kd.C_drew ?_))); (case side2 => exact HC0_0.out); (case side3 => repeat (first | exact (Kd.C_below HR0_1.out HB.out) | (with_reducible refine Kd.C_alloc ?_ _) | (with_reducible refine Kd.C_drewN ?_ _) | (with_reducible refine Kd.C_drew ?_))); (case side4 => exact HC0_1.out); rintro e w15 ⟨v460, v463, v466, v469, rfl, ho0, ho1, ho2, ho3, hb⟩; refine ⟨_, rfl, ?_⟩; have n0_ := Ad.mk (Kd.R_lower ho0 (blz (by repeat (first | (with_reducible first | exact HB.out | apply blA | apply blN | apply blD | refine blS ?_ GE456.out) | exact HB.out)))); have n1_ := Ad.mk (Kd.R_lower ho1 (blz (by repeat (first | (with_reducible first | exact HB.out | apply blA | apply blN | apply blD | refine blS ?_ GE456.out) | exact HB.out)))); have n2_ := Ad.mk (Kd.R_lower ho2 (blz (by repeat (first | (with_reducible first | exact HB.out | apply blA | apply blN | apply blD | refine blS ?_ GE456.out) | exact HB.out)))); have n3_ := Ad.mk (Kd.R_lower ho3 (blz (by repeat (first | (with_reducible first | exact HB.out | apply blA | apply blN | apply blD | refine blS ?_ GE456.out) | exact HB.out)))); have n4_ := Ad.mk (bbl (g := gb456) (o := .cells #[.slice A0_0 l0_0.length c0_0, .slice A0_1 l0_1.length c0_1, .int .i64 a0_2] 25 (0, 0)) (by (with_reducible repeat (first | refine bdN ?_ _ | refine bdD ?_ | refine blk_alloc ?_ _)); exact BK456.out) hb); have n5_ := Ad.mk (bls (by repeat (first | (with_reducible first | exact HB.out | apply blA | apply blN | apply blD | refine blS ?_ GE456.out) | exact HB.out)) hb); clear BK456; clear HB; have HO461 := n0_; have HO464 := n1_; have HO467 := n2_; have HO470 := n3_; have BK456 := n4_; have HB := n5_; clear n0_ n1_ n2_ n3_ n4_ n5_; (try clear hb); (try clear hb2); (try clear hk); (try clear hi); (try clear ho0); (try clear ho1); (try clear ho2); (try clear ho3); obtain ⟨Ao16, co16, eo16⟩ := Kd.R_slice HO461.out; subst eo16; obtain ⟨Ao17, co17, eo17⟩ := Kd.R_slice HO464.out; subst eo17; obtain ⟨Ao18, co18, eo18⟩ := Kd.R_slice HO467.out; subst eo18; obtain ⟨Ao19, co19, eo19⟩ := Kd.R_slice HO470.out; subst eo19) | ((with_reducible refine gate_callee (f := 10) rfl ?_); refine goesL_ (some 16) rfl rfl Try.func10 (by kernel_rfl) rfl #[.agg #[.slice none 0 0, .slice none 0 0, .int .i64 0], .agg #[.slice Ao16 t459.length co16, .slice Ao17 t462.length co17, .slice Ao18 t465.length co18, .slice Ao19 t468.length co19, .int .i64 t471]] rfl (by (try simp only [List.map_toArray, List.map_cons, List.map_nil]); first | done | rfl | (simp only [List.length_drop, List.length_take]; rfl)) ?_; (refine (version_Apply.calls k _ _ ([] : List (S35)) _ _ ([] : List Int) 0 _ _ t459 _ _ t462 _ _ t465 _ _ t468 t471 t472 t475 t478 none _ ?side1 ?side2 ?side3 ?side4 ?side5 ?side6 ?side7 ?side8 ?side9 ?side10 ?side11 ?side12 A6.out).mono ?_); (case side1 => exact Kd.C_nil _ _); (case side2 => exact Nat.le_refl _); (case side3 => exact Kd.C_nil _ _); (case side4 => exact Nat.le_refl _); (case side5 => repeat (first | exact (Kd.R_reads' HO461.out).2.2 | (with_reducible refine Kd.C_alloc ?_ _) | (with_reducible refine Kd.C_drewN ?_ _) | (with_reducible refine Kd.C_drew ?_))); (case side6 => exact (Kd.R_reads' HO461.out).2.1); (case side7 => repeat (first | exact (Kd.R_reads' HO464.out).2.2 | (with_reducible refine Kd.C_alloc ?_ _) | (with_reducible refine Kd.C_drewN ?_ _) | (with_reducible refine Kd.C_drew ?_))); (case side8 => exact (Kd.R_reads' HO464.out).2.1); (case side9 => repeat (first | exact (Kd.R_reads' HO467.out).2.2 | (with_reducible refine Kd.C_alloc ?_ _) | (with_reducible refine Kd.C_drewN ?_ _) | (with_reducible refine Kd.C_drew ?_))); (case side10 => exact (Kd.R_reads' HO467.out).2.1); (case side11 => repeat (first | exact (Kd.R_reads' HO470.out).2.2 | (with_reducible refine Kd.C_alloc ?_ _) | (with_reducible refine Kd.C_drewN ?_ _) | (with_reducible refine Kd.C_drew ?_))); (case side12 => exact (Kd.R_reads' HO470.out).2.1); rintro e w20 ⟨v473, v476, rfl, ho0, ho1, hb⟩; refine ⟨_, rfl, ?_⟩; have n0_ := Ad.mk (Kd.R_elder' (by (with_reducible repeat (first | apply Kd.R_alloc | apply Kd.R_drewN | apply Kd.R_drew)); exact HO461.out) (Kd.R_base ho0) hb); have n1_ := Ad.mk (Kd.R_elder' (by (with_reducible repeat (first | apply Kd.R_alloc | apply Kd.R_drewN | apply Kd.R_drew)); exact HO464.out) (Kd.R_base ho1) hb); have n2_ := Ad.mk (Kd.R_elder' (by (with_reducible repeat (first | apply Kd.R_alloc | apply Kd.R_drewN | apply Kd.R_drew)); exact HO467.out) (Kd.R_base ho1) hb); have n3_ := Ad.mk (Kd.R_elder' (by (with_reducible repeat (first | apply Kd.R_alloc | apply Kd.R_drewN | apply Kd.R_drew)); exact HO470.out) (Kd.R_base ho1) hb); have n4_ := Ad.mk (Kd.R_lower (Kd.R_new' ho0 (Kd.R_lt (by (with_reducible repeat (first | apply Kd.R_alloc | apply Kd.R_drewN | apply Kd.R_drew)); exact HO461.out))) (blz (by repeat (first | (with_reducible first | exact HB.out | apply blA | apply blN | apply blD | refine blS ?_ GE456.out) | exact HB.out)))); have n5_ := Ad.mk (Kd.R_lower (Kd.R_new' (Kd.R_new' (Kd.R_new' ho1 (Kd.R_lt (by (with_reducible repeat (first | apply Kd.R_alloc | apply Kd.R_drewN | apply Kd.R_drew)); exact HO464.out))) (Kd.R_lt (by (with_reducible repeat (first | apply Kd.R_alloc | apply Kd.R_drewN | apply Kd.R_drew)); exact HO467.out))) (Kd.R_lt (by (with_reducible repeat (first | apply Kd.R_alloc | apply Kd.R_drewN | apply Kd.R_drew)); exact HO470.out))) (blz (by repeat (first | (with_reducible first | exact HB.out | apply blA | apply blN | apply blD | refine blS ?_ GE456.out) | exact HB.out)))); have n6_ := Ad.mk (bbl (g := gb456) (o := .cells #[.slice A0_0 l0_0.length c0_0, .slice A0_1 l0_1.length c0_1, .int .i64 a0_2] 25 (0, 0)) (by (with_reducible repeat (first | refine bdN ?_ _ | refine bdD ?_ | refine blk_alloc ?_ _)); exact BK456.out) hb); have n7_ := Ad.mk (bls (by repeat (first | (with_reducible first | exact HB.out | apply blA | apply blN | apply blD | refine blS ?_ GE456.out) | exact HB.out)) hb); clear HO461; clear HO464; clear HO467; clear HO470; clear BK456; clear HB; have HO461 := n0_; have HO464 := n1_; have HO467 := n2_; have HO470 := n3_; have HO474 := n4_; have HO477 := n5_; have BK456 := n6_; have HB := n7_; clear n0_ n1_ n2_ n3_ n4_ n5_ n6_ n7_; (try clear hb); (try clear hb2); (try clear hk); (try clear hi); (try clear ho0); (try clear ho1); (try simp only [errW_none, errW_some])) | ((with_reducible refine gate_dst (N := 4) rfl ?_); refine box_event ?hg (N := 4) ?hd (cs := #[.slice none 0 0, .slice none 0 0, .int .i64 0]) (t := 25) ?hr ?_; (case hd => rfl); (case hg => rfl); (case hr => first | (go_simp; done) | (go_simp; rfl)); intro gb480 hg w21 hbox hb; have n0_ := Ad.mk (Kd.R_below (by (with_reducible repeat (first | apply Kd.R_alloc | apply Kd.R_drewN | apply Kd.R_drew)); exact HO461.out) hb); have n1_ := Ad.mk (Kd.R_below (by (with_reducible repeat (first | apply Kd.R_alloc | apply Kd.R_drewN | apply Kd.R_drew)); exact HO464.out) hb); have n2_ := Ad.mk (Kd.R_below (by (with_reducible repeat (first | apply Kd.R_alloc | apply Kd.R_drewN | apply Kd.R_drew)); exact HO467.out) hb); have n3_ := Ad.mk (Kd.R_below (by (with_reducible repeat (first | apply Kd.R_alloc | apply Kd.R_drewN | apply Kd.R_drew)); exact HO470.out) hb); have n4_ := Ad.mk (Kd.R_below (by (with_reducible repeat (first | apply Kd.R_alloc | apply Kd.R_drewN | apply Kd.R_drew)); exact HO474.out) hb); have n5_ := Ad.mk (Kd.R_below (by (with_reducible repeat (first | apply Kd.R_alloc | apply Kd.R_drewN | apply Kd.R_drew)); exact HO477.out) hb); have n6_ := Ad.mk (bbl (g := gb456) (o := .cells #[.slice A0_0 l0_0.length c0_0, .slice A0_1 l0_1.length c0_1, .int .i64 a0_2] 25 (0, 0)) (by (with_reducible repeat (first | refine bdN ?_ _ | refine bdD ?_ | refine blk_alloc ?_ _)); exact BK456.out) hb); have n7_ := Ad.mk (bls (by repeat (first | (with_reducible first | exact HB.out | apply blA | apply blN | apply blD | refine blS ?_ GE456.out) | exact HB.out)) hb); have n8_ := Ad.mk (hbox); have n9_ := Ad.mk ((by rw [hg]; exact (blz (by repeat (first | (with_reducible first | exact HB.out | apply blA | apply blN | apply blD | refine blS ?_ GE456.out) | exact HB.out))) : w.heap.size ≤ gb480)); have n10_ := Ad.mk ((by rw [hg]; exact (blz (by repeat (first | (with_reducible first | exact HB.out | apply blA | apply blN | apply blD | refine blS ?_ GE456.out) | exact HB.out))) : w.heap.size ≤ gb480)); have n11_ := Ad.mk ((by rw [hg]; exact Nat.ne_of_lt (blk_lt (g := gb456) (o := .cells #[.slice A0_0 l0_0.length c0_0, .slice A0_1 l0_1.length c0_1, .int .i64 a0_2] 25 (0, 0)) (by (with_reducible repeat (first | refine bdN ?_ _ | refine bdD ?_ | refine blk_alloc ?_ _)); exact BK456.out)) : gb456 ≠ gb480)); have n12_ := Ad.mk ((by rw [hg]; exact Nat.ne_of_gt (blk_lt (g := gb456) (o := .cells #[.slice A0_0 l0_0.length c0_0, .slice A0_1 l0_1.length c0_1, .int .i64 a0_2] 25 (0, 0)) (by (with_reducible repeat (first | refine bdN ?_ _ | refine bdD ?_ | refine blk_alloc ?_ _)); exact BK456.out)) : gb480 ≠ gb456)); clear HO461; clear HO464; clear HO467; clear HO470; clear HO474; clear HO477; clear BK456; clear HB; have HO461 := n0_; have HO464 := n1_; have HO467 := n2_; have HO470 := n3_; have HO474 := n4_; have HO477 := n5_; have BK456 := n6_; have HB := n7_; have BK480 := n8_; have GW480 := n9_; have GE480 := n10_; have NB456_480 := n11_; have NB480_456 := n12_; clear n0_ n1_ n2_ n3_ n4_ n5_ n6_ n7_ n8_ n9_ n10_ n11_ n12_; clear hb hbox hg; obtain ⟨Ao22, co22, eo22⟩ := Kd.R_slice HO474.out; subst eo22; have hnb23 := NB480_456.out; have hnc23 := NB456_480.out; have hcz24_0 : w21.cell? ⟨gb480, 0, none⟩ = some (.slice none 0 0) := (bcl BK480.out 0).trans rfl; have hcz24_1 : w21.cell? ⟨gb480, 1, none⟩ = some (.slice none 0 0) := (bcl BK480.out 1).trans rfl; have hcz24_2 : w21.cell? ⟨gb480, 2, none⟩ = some (.int .i64 0) := (bcl BK480.out 2).trans rfl; have hfz24_0 := bfz BK480.out 0; have hfz24_1 := bfz BK480.out 1; have hfz24_2 := bfz BK480.out 2; obtain ⟨Ao25, co25, eo25⟩ := Kd.R_slice HO477.out; subst eo25; have hcz26_0 : w21.cell? ⟨gb456, 0, none⟩ = some (.slice A0_0 l0_0.length c0_0) := (bcl BK456.out 0).trans rfl; have hcz26_1 : w21.cell? ⟨gb456, 1, none⟩ = some (.slice A0_1 l0_1.length c0_1) := (bcl BK456.out 1).trans rfl; have hcz26_2 : w21.cell? ⟨gb456, 2, none⟩ = some (.int .i64 a0_2) := (bcl BK456.out 2).trans rfl; have hfz26_0 := bfz BK456.out 0; have hfz26_1 := bfz BK456.out 1; have hfz26_2 := bfz BK456.out 2) | ((with_reducible refine gate_callee (f := 12) rfl ?_); refine goesL_ (some 21) rfl rfl Try.func12 (by kernel_rfl) rfl #[.agg #[.slice A0_0 l0_0.length c0_0, .slice A0_1 l0_1.length c0_1, .int .i64 a0_2], .agg #[.slice Ao22 t472.length co22, .slice Ao25 t475.length co25, .int .i64 t478]] rfl (by (try simp only [List.map_toArray, List.map_cons, List.map_nil]); first | done | rfl | (simp only [List.length_drop, List.length_take]; rfl)) ?_; (with_reducible refine (palinodelaw14_same.calls k _ _ l0_0 _ _ l0_1 a0_2 _ _ t472 _ _ t475 t478 true _ ?side1 ?side2 ?side3 ?side4 ?side5 ?side6 ?side7 ?side8 A7.out).mono ?_); (case side1 => exact Kd.C_below HR0_0.out (by repeat (first | (with_reducible first | exact HB.out | apply blA | apply blN | apply blD | refine blS ?_ GE456.out | refine blS ?_ GE480.out) | exact HB.out))); (case side2 => exact HC0_0.out); (case side3 => exact Kd.C_below HR0_1.out (by repeat (first | (with_reducible first | exact HB.out | apply blA | apply blN | apply blD | refine blS ?_ GE456.out | refine blS ?_ GE480.out) | exact HB.out))); (case side4 => exact HC0_1.out); (case side5 => refine (Kd.R_reads' (e := 35) (base := w.heap.size) (ok := fun k_ => (True ∧ some k_ ≠ (.slice Ao16 t459.length co16 : Value).ownBlock)) (n := t472.length) (c := co22) ?_).2.2; exact (by (with_reducible repeat (first | apply Kd.R_alloc | apply Kd.R_drewN | apply Kd.R_drew)); exact (Kd.R_mono (Kd.R_far (p := ⟨gb480, 2, none⟩) (Kd.R_far (p := ⟨gb480, 1, none⟩) (Kd.R_far (p := ⟨gb480, 0, none⟩) (Kd.R_types HO474.out BK480.out (by decide)) (fun _ hk => hk.2) (.slice Ao22 t472.length co22)) (fun _ hk => hk.2) (.slice Ao25 t475.length co25)) (fun _ hk => hk.2) (.int .i64 t478)) (fun _ h_ => h_.1)))); (case side6 => exact (Kd.R_reads' HO474.out).2.1); (case side7 => refine (Kd.R_reads' (e := 3) (base := w.heap.size) (ok := fun k_ => (((True ∧ some k_ ≠ (.slice Ao17 t462.length co17 : Value).ownBlock) ∧ some k_ ≠ (.slice Ao18 t465.length co18 : Value).ownBlock) ∧ some k_ ≠ (.slice Ao19 t468.length co19 : Value).ownBlock)) (n := t475.length) (c := co25) ?_).2.2; exact (by (with_reducible repeat (first | apply Kd.R_alloc | apply Kd.R_drewN | apply Kd.R_drew)); exact (Kd.R_mono (Kd.R_far (p := ⟨gb480, 2, none⟩) (Kd.R_far (p := ⟨gb480, 1, none⟩) (Kd.R_far (p := ⟨gb480, 0, none⟩) (Kd.R_types HO477.out BK480.out (by decide)) (fun _ hk => hk.2) (.slice Ao22 t472.length co22)) (fun _ hk => hk.2) (.slice Ao25 t475.length co25)) (fun _ hk => hk.2) (.int .i64 t478)) (fun _ h_ => h_.1)))); (case side8 => exact (Kd.R_reads' HO477.out).2.1); rintro e w27 ⟨rfl, hb⟩; refine ⟨_, rfl, ?_⟩; have n0_ := Ad.mk (Kd.R_below (by (with_reducible repeat (first | apply Kd.R_alloc | apply Kd.R_drewN | apply Kd.R_drew)); exact (Kd.R_mono (Kd.R_far (p := ⟨gb480, 2, none⟩) (Kd.R_far (p := ⟨gb480, 1, none⟩) (Kd.R_far (p := ⟨gb480, 0, none⟩) (Kd.R_types HO461.out BK480.out (by decide)) (fun _ hk => hk.2) (.slice Ao22 t472.length co22)) (fun _ hk => hk.2) (.slice Ao25 t475.length co25)) (fun _ hk => hk.2) (.int .i64 t478)) (fun _ h_ => h_.1))) hb); have n1_ := Ad.mk (Kd.R_below (by (with_reducible repeat (first | apply Kd.R_alloc | apply Kd.R_drewN | apply Kd.R_drew)); exact (Kd.R_mono (Kd.R_far (p := ⟨gb480, 2, none⟩) (Kd.R_far (p := ⟨gb480, 1, none⟩) (Kd.R_far (p := ⟨gb480, 0, none⟩) (Kd.R_types HO464.out BK480.out (by decide)) (fun _ hk => hk.2) (.slice Ao22 t472.length co22)) (fun _ hk => hk.2) (.slice Ao25 t475.length co25)) (fun _ hk => hk.2) (.int .i64 t478)) (fun _ h_ => h_.1))) hb); have n2_ := Ad.mk (Kd.R_below (by (with_reducible repeat (first | apply Kd.R_alloc | apply Kd.R_drewN | apply Kd.R_drew)); exact (Kd.R_mono (Kd.R_far (p := ⟨gb480, 2, none⟩) (Kd.R_far (p := ⟨gb480, 1, none⟩) (Kd.R_far (p := ⟨gb480, 0, none⟩) (Kd.R_types HO467.out BK480.out (by decide)) (fun _ hk => hk.2) (.slice Ao22 t472.length co22)) (fun _ hk => hk.2) (.slice Ao25 t475.length co25)) (fun _ hk => hk.2) (.int .i64 t478)) (fun _ h_ => h_.1))) hb); have n3_ := Ad.mk (Kd.R_below (by (with_reducible repeat (first | apply Kd.R_alloc | apply Kd.R_drewN | apply Kd.R_drew)); exact (Kd.R_mono (Kd.R_far (p := ⟨gb480, 2, none⟩) (Kd.R_far (p := ⟨gb480, 1, none⟩) (Kd.R_far (p := ⟨gb480, 0, none⟩) (Kd.R_types HO470.out BK480.out (by decide)) (fun _ hk => hk.2) (.slice Ao22 t472.length co22)) (fun _ hk => hk.2) (.slice Ao25 t475.length co25)) (fun _ hk => hk.2) (.int .i64 t478)) (fun _ h_ => h_.1))) hb); have n4_ := Ad.mk (Kd.R_below (by (with_reducible repeat (first | apply Kd.R_alloc | apply Kd.R_drewN | apply Kd.R_drew)); exact (Kd.R_mono (Kd.R_far (p := ⟨gb480, 2, none⟩) (Kd.R_far (p := ⟨gb480, 1, none⟩) (Kd.R_far (p := ⟨gb480, 0, none⟩) (Kd.R_types HO474.out BK480.out (by decide)) (fun _ hk => hk.2) (.slice Ao22 t472.length co22)) (fun _ hk => hk.2) (.slice Ao25 t475.length co25)) (fun _ hk => hk.2) (.int .i64 t478)) (fun _ h_ => h_.1))) hb); have n5_ := Ad.mk (Kd.R_below (by (with_reducible repeat (first | apply Kd.R_alloc | apply Kd.R_drewN | apply Kd.R_drew)); exact (Kd.R_mono (Kd.R_far (p := ⟨gb480, 2, none⟩) (Kd.R_far (p := ⟨gb480, 1, none⟩) (Kd.R_far (p := ⟨gb480, 0, none⟩) (Kd.R_types HO477.out BK480.out (by decide)) (fun _ hk => hk.2) (.slice Ao22 t472.length co22)) (fun _ hk => hk.2) (.slice Ao25 t475.length co25)) (fun _ hk => hk.2) (.int .i64 t478)) (fun _ h_ => h_.1))) hb); have n6_ := Ad.mk (bbl (g := gb456) (o := .cells #[.slice A0_0 l0_0.length c0_0, .slice A0_1 l0_1.length c0_1, .int .i64 a0_2] 25 (0, 0)) (by (with_reducible repeat (first | refine bdN ?_ _ | refine bdD ?_ | refine blk_alloc ?_ _)); refine blk_far ?_ NB456_480.out _; (with_reducible repeat (first | refine bdN ?_ _ | refine bdD ?_ | refine blk_alloc ?_ _)); refine blk_far ?_ NB456_480.out _; (with_reducible repeat (first | refine bdN ?_ _ | refine bdD ?_ | refine blk_alloc ?_ _)); refine blk_far ?_ NB456_480.out _; (with_reducible repeat (first | refine bdN ?_ _ | refine bdD ?_ | refine blk_alloc ?_ _)); exact BK456.out) hb); have n7_ := Ad.mk (bbl (g := gb480) (o := .cells #[.slice Ao22 t472.length co22, .slice Ao25 t475.length co25, .int .i64 t478] 25 (0, 0)) (by (with_reducible repeat (first | refine bdN ?_ _ | refine bdD ?_ | refine blk_alloc ?_ _)); refine blk_put (cs := #[.slice Ao22 t472.length co22, .slice Ao25 t475.length co25, .int .i64 0]) ?_ 2 _ rfl; (with_reducible repeat (first | refine bdN ?_ _ | refine bdD ?_ | refine blk_alloc ?_ _)); refine blk_put (cs := #[.slice Ao22 t472.length co22, .slice none 0 0, .int .i64 0]) ?_ 1 _ rfl; (with_reducible repeat (first | refine bdN ?_ _ | refine bdD ?_ | refine blk_alloc ?_ _)); refine blk_put (cs := #[.slice none 0 0, .slice none 0 0, .int .i64 0]) ?_ 0 _ rfl; (with_reducible repeat (first | refine bdN ?_ _ | refine bdD ?_ | refine blk_alloc ?_ _)); exact BK480.out) hb); have n8_ := Ad.mk (bls (by repeat (first | (with_reducible first | exact HB.out | apply blA | apply blN | apply blD | refine blS ?_ GE456.out | refine blS ?_ GE480.out) | exact HB.out)) hb); clear HO461; clear HO464; clear HO467; clear HO470; clear HO474; clear HO477; clear BK456; clear BK480; clear HB; have HO461 := n0_; have HO464 := n1_; have HO467 := n2_; have HO470 := n3_; have HO474 := n4_; have HO477 := n5_; have BK456 := n6_; have BK480 := n7_; have HB := n8_; clear n0_ n1_ n2_ n3_ n4_ n5_ n6_ n7_ n8_; (try clear hb); (try clear hb2); (try clear hk); (try clear hi)))
     go_ret
     exact ⟨by first | rfl | (simp [errW_none, errW_some] <;> rfl) | (simp [*, errW_none, errW_some] <;> rfl), by repeat (first | (with_reducible first | exact HB.out | apply blA | apply blN | apply blD | refine blS ?_ GE456.out | refine blS ?_ GE480.out) | exact HB.out)⟩
    ·have H1 : (some false) = some r := by rw [if_neg (show ¬ (some q482).isNone = true by simp)] at H; exact H
     clear H
     have H := H1
     clear H1
     try simp only [errW_none, errW_some]
     rw [ht_] at H
     exact absurd H (by simp)
   ·replace c9 := Bool.eq_false_iff.mpr c9
    subst c9
    have H1 : (some false) = some r := by rw [if_neg (show ¬ (false = true) by decide)] at H; exact H
    clear H
    have H := H1
    clear H1
    rw [ht_] at H
    exact absurd H (by simp)
  ·replace c8 := Bool.eq_false_iff.mpr c8
   subst c8
   have H1 : (some false) = some r := by rw [if_neg (show ¬ (false = true) by decide)] at H; exact H
   clear H
   have H := H1
   clear H1
   rw [ht_] at H
   exact absurd H (by simp)
 ·replace c4 := Bool.eq_false_iff.mpr c4
  subst c4
  have H1 : (some t457) = some r := by rw [if_neg (show ¬ (false = true) by decide)] at H; exact H
  clear H
  have H := H1
  clear H1
  obtain rfl := Option.some.inj H
  go_enter Try.func4, Try.ntmps4
  go_wp2_with (first | ((with_reducible refine gate_dst (N := 1) rfl ?_); refine box_event ?hg (N := 1) ?hd (cs := #[.slice A0_0 l0_0.length c0_0, .slice A0_1 l0_1.length c0_1, .int .i64 a0_2]) (t := 25) ?hr ?_; (case hd => rfl); (case hg => rfl); (case hr => first | (go_simp; done) | (go_simp; rfl)); intro gb456 hg w28 hbox hb; have n0_ := Ad.mk (bls (by repeat (first | (with_reducible first | exact HB.out | apply blA | apply blN | apply blD) | exact HB.out)) hb); have n1_ := Ad.mk (hbox); have n2_ := Ad.mk ((by rw [hg]; exact (blz (by repeat (first | (with_reducible first | exact HB.out | apply blA | apply blN | apply blD) | exact HB.out))) : w.heap.size ≤ gb456)); have n3_ := Ad.mk ((by rw [hg]; exact (blz (by repeat (first | (with_reducible first | exact HB.out | apply blA | apply blN | apply blD) | exact HB.out))) : w.heap.size ≤ gb456)); clear HB; have HB := n0_; have BK456 := n1_; have GW456 := n2_; have GE456 := n3_; clear n0_ n1_ n2_ n3_; clear hb hbox hg) | ((with_reducible refine gate_callee (f := 9) rfl ?_); refine goesL_ (some 7) rfl rfl Try.func9 (by kernel_rfl) rfl #[] rfl (by (try simp only [List.map_toArray, List.map_cons, List.map_nil]); first | done | rfl | (simp only [List.length_drop, List.length_take]; rfl)) ?_; (with_reducible refine (palinodelaw14_examples.calls  t457 _ A2.out).mono ?_); rintro e w29 ⟨rfl, hb⟩; refine ⟨_, rfl, ?_⟩; have n0_ := Ad.mk (bbl (g := gb456) (o := .cells #[.slice A0_0 l0_0.length c0_0, .slice A0_1 l0_1.length c0_1, .int .i64 a0_2] 25 (0, 0)) (by (with_reducible repeat (first | refine bdN ?_ _ | refine bdD ?_ | refine blk_alloc ?_ _)); exact BK456.out) hb); have n1_ := Ad.mk (bls (by repeat (first | (with_reducible first | exact HB.out | apply blA | apply blN | apply blD | refine blS ?_ GE456.out) | exact HB.out)) hb); clear BK456; clear HB; have BK456 := n0_; have HB := n1_; clear n0_ n1_; (try clear hb); (try clear hb2); (try clear hk); (try clear hi); have hcz30_0 : w29.cell? ⟨gb456, 0, none⟩ = some (.slice A0_0 l0_0.length c0_0) := (bcl BK456.out 0).trans rfl; have hcz30_1 : w29.cell? ⟨gb456, 1, none⟩ = some (.slice A0_1 l0_1.length c0_1) := (bcl BK456.out 1).trans rfl; have hcz30_2 : w29.cell? ⟨gb456, 2, none⟩ = some (.int .i64 a0_2) := (bcl BK456.out 2).trans rfl; have hfz30_0 := bfz BK456.out 0; have hfz30_1 := bfz BK456.out 1; have hfz30_2 := bfz BK456.out 2) | ((with_reducible refine gate_callee (f := 13) rfl ?_); refine goesL_ (some 9) rfl rfl Try.func13 (by kernel_rfl) rfl #[.agg #[.slice A0_0 l0_0.length c0_0, .slice A0_1 l0_1.length c0_1, .int .i64 a0_2]] rfl (by (try simp only [List.map_toArray, List.map_cons, List.map_nil]); first | done | rfl | (simp only [List.length_drop, List.length_take]; rfl)) ?_; (with_reducible refine (version_Right.calls k _ _ l0_0 _ _ l0_1 a0_2 false _ ?side1 ?side2 ?side3 ?side4 A3.out).mono ?_); (case side1 => repeat (first | exact (Kd.C_below HR0_0.out HB.out) | (with_reducible refine Kd.C_alloc ?_ _) | (with_reducible refine Kd.C_drewN ?_ _) | (with_reducible refine Kd.C_drew ?_))); (case side2 => exact HC0_0.out); (case side3 => repeat (first | exact (Kd.C_below HR0_1.out HB.out) | (with_reducible refine Kd.C_alloc ?_ _) | (with_reducible refine Kd.C_drewN ?_ _) | (with_reducible refine Kd.C_drew ?_))); (case side4 => exact HC0_1.out); rintro e w31 ⟨rfl, hb⟩; refine ⟨_, rfl, ?_⟩; have n0_ := Ad.mk (bbl (g := gb456) (o := .cells #[.slice A0_0 l0_0.length c0_0, .slice A0_1 l0_1.length c0_1, .int .i64 a0_2] 25 (0, 0)) (by (with_reducible repeat (first | refine bdN ?_ _ | refine bdD ?_ | refine blk_alloc ?_ _)); exact BK456.out) hb); have n1_ := Ad.mk (bls (by repeat (first | (with_reducible first | exact HB.out | apply blA | apply blN | apply blD | refine blS ?_ GE456.out) | exact HB.out)) hb); clear BK456; clear HB; have BK456 := n0_; have HB := n1_; clear n0_ n1_; (try clear hb); (try clear hb2); (try clear hk); (try clear hi)))
  go_ret
  exact ⟨by first | rfl | (simp [errW_none, errW_some] <;> rfl) | (simp [*, errW_none, errW_some] <;> rfl), by repeat (first | (with_reducible first | exact HB.out | apply blA | apply blN | apply blD | refine blS ?_ GE456.out) | exact HB.out)⟩
-- NOT PRINTED: function 38 (version_numbers)
-- NOT PRINTED: function 17 (version_Encode)
end Go.Proofs.Ytoonheembcejfaa.PA

-- printed by a program of this session (wip/myprint.py), after the kit's print
import Derived.Test.YtoonheembcejfaaPAx0
import Derived.Test.YtoonheembcejfaaPAx4
import Derived.Test.YtoonheembcejfaaHExamples
namespace Go.Proofs.Ytoonheembcejfaa.PA
open Go.RowKit Go.Proofs.YtoonheembcejfaaW.PrintWords Go.Proofs.YtoonheembcejfaaW.PrintLast Go.Proofs.YtoonheembcejfaaW.PrintMore
attribute [local go_sem] max2_int min2_int max_two min_two max_three min_three max_four min_four   -- for this text's walks alone
set_option linter.unusedVariables false
set_option linter.unusedSimpArgs false
/-! ### version_Level: function 16 -/
def version_Level.l0 : Nat → Int → List (S35) → List (S35) → Int → Int → Option ((List (S35)))
 | 0, _, _, _, _, _ => none
 | k + 1, x1, x5, x9, x10, x11 => if x11 < x10 then (if 0 ≤ x11 then (if x11 < (x9.length : Int) then (if ((rd_T35 x9 x11).f1) = x1 then (if x5.length < 2513169434916 then (version_Level.l0 k x1 (x5 ++ [(⟨(rd_T35 x9 x11).f0, (rd_T35 x9 x11).f1, (rd_T35 x9 x11).f2, (rd_T35 x9 x11).f3, (rd_T35 x9 x11).f4⟩ : S35)]) x9 x10 (wrap64 (x11 + 1))) else (none)) else (version_Level.l0 k x1 x5 x9 x10 (wrap64 (x11 + 1)))) else (none)) else (none)) else (some x5)
def version_Level.f (k : Nat) (l0_0 : List (S35)) (l0_1 : List Int) (a0_2 : Int) (a1 : Int) : Option ((List (S35))) := version_Level.l0 k a1 ([] : List (S35)) l0_0 (l0_0.length : Int) 0
theorem version_Level.mono_l : ∀ k, (∀ y0 y1 y2 y3 y4, LeO (version_Level.l0 k y0 y1 y2 y3 y4) (version_Level.l0 (k + 1) y0 y1 y2 y3 y4))
 | 0 => fun _ _ _ _ _ r h => by simp [version_Level.l0] at h
 | k + 1 => by
  have ih0 := version_Level.mono_l k
  ·intro y0 y1 y2 y3 y4
   unfold version_Level.l0
   repeat' first
   | (with_reducible exact ih0 _ _ _ _ _)
   | (with_reducible exact LeO.refl _)
   | (with_reducible exact LeO.none _)
   | (with_reducible refine LeO.ite ?_ ?_)
   | (with_reducible refine LeO.bind ?_ (fun _ => ?_))
   | exact ih0 _ _ _ _ _
   | exact LeO.none _
   | refine LeO.ite ?_ ?_
   | refine LeO.bind ?_ (fun _ => ?_)
theorem version_Level.mono : ∀ a0 a1 a2 a3 k, LeO (version_Level.f k a0 a1 a2 a3) (version_Level.f (k + 1) a0 a1 a2 a3) := by
 intro a0 a1 a2 a3 k
 have ih0 := version_Level.mono_l k
 unfold version_Level.f
 repeat' first
   | (with_reducible exact ih0 _ _ _ _ _)
   | (with_reducible exact LeO.refl _)
   | (with_reducible exact LeO.none _)
   | (with_reducible refine LeO.ite ?_ ?_)
   | (with_reducible refine LeO.bind ?_ (fun _ => ?_))
   | exact ih0 _ _ _ _ _
   | exact LeO.none _
   | refine LeO.ite ?_ ?_
   | refine LeO.bind ?_ (fun _ => ?_)
set_option maxHeartbeats 8000000 in
set_option maxRecDepth 100000 in
theorem version_Level.calls (k : Nat) (A0_0 : Option Addr) (c0_0 : Nat) (l0_0 : List (S35)) (A0_1 : Option Addr) (c0_1 : Nat) (l0_1 : List Int) (a0_2 : Int) (a1 : Int) (r : List (S35)) (w : World) (hr0_0 : Kd.C k35 w A0_0 l0_0.length l0_0) (hc0_0 : l0_0.length ≤ c0_0) (hr0_1 : Kd.C (Kd.int .i64) w A0_1 l0_1.length l0_1) (hc0_1 : l0_1.length ≤ c0_1) (h : version_Level.f k l0_0 l0_1 a0_2 a1 = some r) :
  Calls Try.prog 16 #[.agg #[.slice A0_0 l0_0.length c0_0, .slice A0_1 l0_1.length c0_1, .int .i64 a0_2], .int .i64 a1] w fun e w' => ∃ v0_ : Value, e = .returned (v0_) ∧ Kd.R k35 35 w' w.heap.size (fun _ => True) v0_ r ∧ Below w.heap.size w w' := by
 have hu25 := Try.underlying25
 have hu35 := Try.underlying35
 have HR0_0 := Aside0.mk hr0_0
 have HC0_0 := Aside0.mk hc0_0
 clear hr0_0 hc0_0
 have HR0_1 := Aside0.mk hr0_1
 have HC0_1 := Aside0.mk hc0_1
 clear hr0_1 hc0_1
 have HB := Aside0.mk (Below.refl w.heap.size w)
 have H : (version_Level.l0 k a1 ([] : List (S35)) l0_0 (l0_0.length : Int) 0) = some r := h
 clear h
 have H' := Aside0.mk H
 clear H
 go_enter Try.func16, Try.ntmps16
 go_wp2_with (first | ((with_reducible refine gate_dst (N := 2) rfl ?_); refine box_event ?hg (N := 2) ?hd (cs := #[.slice A0_0 l0_0.length c0_0, .slice A0_1 l0_1.length c0_1, .int .i64 a0_2]) (t := 25) ?hr ?_; (case hd => rfl); (case hg => rfl); (case hr => first | (go_simp; done) | (go_simp; rfl)); intro gb380 hg w3 hbox hb; have n0_ := Aside0.mk (bls (by repeat (first | (with_reducible first | exact HB.out | apply blA | apply blN | apply blD) | exact HB.out)) hb); have n1_ := Aside0.mk (hbox); have n2_ := Aside0.mk ((by rw [hg]; exact (blz (by repeat (first | (with_reducible first | exact HB.out | apply blA | apply blN | apply blD) | exact HB.out))) : w.heap.size ≤ gb380)); have n3_ := Aside0.mk ((by rw [hg]; exact (blz (by repeat (first | (with_reducible first | exact HB.out | apply blA | apply blN | apply blD) | exact HB.out))) : w.heap.size ≤ gb380)); clear HB; have HB := n0_; have BK380 := n1_; have GW380 := n2_; have GE380 := n3_; clear n0_ n1_ n2_ n3_; clear hb hbox hg; have hcz4_0 : w3.cell? ⟨gb380, 0, none⟩ = some (.slice A0_0 l0_0.length c0_0) := (bcl BK380.out 0).trans rfl; have hcz4_1 : w3.cell? ⟨gb380, 1, none⟩ = some (.slice A0_1 l0_1.length c0_1) := (bcl BK380.out 1).trans rfl; have hcz4_2 : w3.cell? ⟨gb380, 2, none⟩ = some (.int .i64 a0_2) := (bcl BK380.out 2).trans rfl; have hfz4_0 := bfz BK380.out 0; have hfz4_1 := bfz BK380.out 1; have hfz4_2 := bfz BK380.out 2))
 go_loopg [5, 11] k (fun kq v5 v11 w' => ∃ (x5_1 : List (S35)) (x11_1 : Int), v11 = .int .i64 x11_1 ∧ Aside0 (version_Level.l0 kq a1 x5_1 l0_0 (l0_0.length : Int) x11_1 = some r) ∧ Aside0 (kq ≤ k) ∧ Aside0 (Kd.R k35 35 w' w.heap.size (fun _ => True) v5 x5_1) ∧ Aside0 (w'.heap[gb380]? = some (.cells #[(.slice A0_0 l0_0.length c0_0), (.slice A0_1 l0_1.length c0_1), .int .i64 a0_2] 25 (0, 0))) ∧ Aside0 (Below w.heap.size w w'))
 case atStart => exact ⟨(([] : List (S35))), (0), (by first | rfl | (simp; done) | (simp [*]; done)), H', ⟨Nat.le_refl _⟩, ⟨by first | exact Kd.R_nil _ _ _ _ _ | exact Kd.N_nil _ _ _ _ _ | exact Kd.V_nil _ _ _ _ _ | exact Kd.Q_nil _ _ _ _ _ | exact Kd.S_nil _ _ _ _ _⟩, ⟨by (with_reducible repeat (first | refine bdN ?_ _ | refine bdD ?_ | refine blk_alloc ?_ _)); exact BK380.out⟩, ⟨by repeat (first | (with_reducible first | exact HB.out | apply blA | apply blN | apply blD | refine blS ?_ GE380.out) | exact HB.out)⟩⟩
 case round =>
  clear H'
  try clear c1
  try clear p2
  try clear hcz4_0
  try clear hcz4_1
  try clear hcz4_2
  try clear hfz4_0
  try clear hfz4_1
  try clear hfz4_2
  obtain ⟨x5_1, x11_1, rfl, HA, HK1, HO_5, BK380, HB⟩ := hrel
  cases gk with
  | zero => exact absurd HA.out (by simp [version_Level.l0])
  | succ k1 =>
   have H := HA.out
   clear HA
   simp only [version_Level.l0] at H
   by_cases c5 : x11_1 < (l0_0.length : Int)
   ·rw [if_pos c5] at H
    have c5b0 : decide (x11_1 < (l0_0.length : Int)) = true := decide_eq_true c5
    clear c5
    by_cases c6 : 0 ≤ x11_1
    ·rw [if_pos c6] at H
     have c6b0 : decide (0 ≤ x11_1) = true := decide_eq_true c6
     clear c6
     by_cases c7 : x11_1 < (l0_0.length : Int)
     ·rw [if_pos c7] at H
      have c7b0 : decide (x11_1 < (l0_0.length : Int)) = true := decide_eq_true c7
      clear c7
      by_cases c8 : ((rd_T35 l0_0 x11_1).f1) = a1
      ·rw [if_pos c8] at H
       have c8b0 : (((rd_T35 l0_0 x11_1).f1) == a1) = true := beq_iff_eq.mpr c8
       have c8b1 : (((rd_T35 l0_0 x11_1).f1) != a1) = false := bne_eq_false_iff_eq.mpr c8
       clear c8
       by_cases c9 : x5_1.length < 2513169434916
       ·rw [if_pos c9] at H
        have LMc9 := Aside0.mk c9
        clear c9
        obtain ⟨y383, hy383⟩ : ∃ y_ : List (S35), y_ = (x5_1 ++ [(⟨(rd_T35 l0_0 x11_1).f0, (rd_T35 l0_0 x11_1).f1, (rd_T35 l0_0 x11_1).f2, (rd_T35 l0_0 x11_1).f3, (rd_T35 l0_0 x11_1).f4⟩ : S35)]) := ⟨_, rfl⟩
        replace H : (version_Level.l0 k1 a1 y383 l0_0 (l0_0.length : Int) (wrap64 (x11_1 + 1))) = some r := by first | (rw [hy383]; with_reducible exact H) | (have H2_ := (Option.bind_some _ _).symm.trans H; rw [hy383]; with_reducible exact H2_) | (have H2_ := (Option.bind_some _ _).symm.trans H; with_reducible exact H2_) | with_reducible exact H | (rw [hy383]; exact H) | exact H
        have Ny383 := Aside0.mk hy383
        clear hy383
        have H' := Aside0.mk H
        clear H
        have p381 : 0 ≤ (x11_1 : Int) := of_decide_eq_true (by first | (with_reducible assumption) | assumption)
        have q381 : x11_1 < (l0_0.length : Int) := of_decide_eq_true (by first | (with_reducible assumption) | assumption)
        obtain ⟨ad381, e381, hx381_0, hx381_1, hx381_2, hx381_3, hx381_4⟩ := at_T35 HR0_0.out x11_1 p381 q381
        cases e381
        replace hx381_0 := (HB.out.cell (World.block_lt_of_cell? w _ hx381_0)).trans hx381_0
        replace hx381_1 := (HB.out.cell (World.block_lt_of_cell? w _ hx381_1)).trans hx381_1
        replace hx381_2 := (HB.out.cell (World.block_lt_of_cell? w _ hx381_2)).trans hx381_2
        replace hx381_3 := (HB.out.cell (World.block_lt_of_cell? w _ hx381_3)).trans hx381_3
        replace hx381_4 := (HB.out.cell (World.block_lt_of_cell? w _ hx381_4)).trans hx381_4
        replace p381 := eq_true p381
        replace q381 := eq_true q381
        go_wp2_with (first | ((with_reducible refine gate_dst (N := 7) rfl ?_); refine box_event ?hg (N := 7) ?hd (cs := #[.int .i64 0, .int .i64 0, .string (⟨#[]⟩ : ByteArray), .string (⟨#[]⟩ : ByteArray), .int .i64 0]) (t := 35) ?hr ?_; (case hd => rfl); (case hg => rfl); (case hr => first | (go_simp; done) | (go_simp; rfl)); intro gb382 hg w10 hbox hb; have n0_ := Aside0.mk (Kd.R_below (Kd.R_elderB (by (with_reducible repeat (first | apply Kd.R_alloc | apply Kd.R_drewN | apply Kd.R_drew)); exact HO_5.out) gb382 (Nat.le_of_eq hg.symm)) hb); have n1_ := Aside0.mk (bbl (g := gb380) (o := .cells #[.slice (some ad381) l0_0.length c0_0, .slice A0_1 l0_1.length c0_1, .int .i64 a0_2] 25 (0, 0)) (by (with_reducible repeat (first | refine bdN ?_ _ | refine bdD ?_ | refine blk_alloc ?_ _)); exact BK380.out) hb); have n2_ := Aside0.mk (bls (by repeat (first | (with_reducible first | exact HB.out | apply blA | apply blN | apply blD | refine blS ?_ GE380.out) | exact HB.out)) hb); have n3_ := Aside0.mk (hbox); have n4_ := Aside0.mk ((by rw [hg]; exact (blz (by repeat (first | (with_reducible first | exact HB.out | apply blA | apply blN | apply blD | refine blS ?_ GE380.out) | exact HB.out))) : w.heap.size ≤ gb382)); have n5_ := Aside0.mk ((by rw [hg]; exact (blz (by repeat (first | (with_reducible first | exact HB.out | apply blA | apply blN | apply blD | refine blS ?_ GE380.out) | exact HB.out))) : w.heap.size ≤ gb382)); have n6_ := Aside0.mk ((by rw [hg]; exact Nat.ne_of_lt (blk_lt (g := gb380) (o := .cells #[.slice (some ad381) l0_0.length c0_0, .slice A0_1 l0_1.length c0_1, .int .i64 a0_2] 25 (0, 0)) (by (with_reducible repeat (first | refine bdN ?_ _ | refine bdD ?_ | refine blk_alloc ?_ _)); exact BK380.out)) : gb380 ≠ gb382)); have n7_ := Aside0.mk ((by rw [hg]; exact Nat.ne_of_gt (blk_lt (g := gb380) (o := .cells #[.slice (some ad381) l0_0.length c0_0, .slice A0_1 l0_1.length c0_1, .int .i64 a0_2] 25 (0, 0)) (by (with_reducible repeat (first | refine bdN ?_ _ | refine bdD ?_ | refine blk_alloc ?_ _)); exact BK380.out)) : gb382 ≠ gb380)); clear HO_5; clear BK380; clear HB; have HO_5 := n0_; have BK380 := n1_; have HB := n2_; have BK382 := n3_; have GW382 := n4_; have GE382 := n5_; have NB380_382 := n6_; have NB382_380 := n7_; clear n0_ n1_ n2_ n3_ n4_ n5_ n6_ n7_; clear hb hbox hg; have hnb11 := NB382_380.out; have hnc11 := NB380_382.out; have hcz12_0 : w10.cell? ⟨gb382, 0, none⟩ = some (.int .i64 0) := (bcl BK382.out 0).trans rfl; have hcz12_1 : w10.cell? ⟨gb382, 1, none⟩ = some (.int .i64 0) := (bcl BK382.out 1).trans rfl; have hcz12_2 : w10.cell? ⟨gb382, 2, none⟩ = some (.string (⟨#[]⟩ : ByteArray)) := (bcl BK382.out 2).trans rfl; have hcz12_3 : w10.cell? ⟨gb382, 3, none⟩ = some (.string (⟨#[]⟩ : ByteArray)) := (bcl BK382.out 3).trans rfl; have hcz12_4 : w10.cell? ⟨gb382, 4, none⟩ = some (.int .i64 0) := (bcl BK382.out 4).trans rfl; have hfz12_0 := bfz BK382.out 0; have hfz12_1 := bfz BK382.out 1; have hfz12_2 := bfz BK382.out 2; have hfz12_3 := bfz BK382.out 3; have hfz12_4 := bfz BK382.out 4) | ((with_reducible refine gate_builtin (b := .append) (xs := #[.tmp 19, .tmp 21]) rfl ?_); at_builtin; refine Kd.R_append k35 (w0 := w) w.heap.size rfl (.tmp 19) (.tmp 21) 22 35 (.agg #[(.int .i64 0), (.int .i64 0), (.string ⟨#[]⟩), (.string ⟨#[]⟩), (.int .i64 0)]) 56 rfl Try.underlying22 info35 rfl (by decide) (by omega) u5 x5_1 (⟨(rd_T35 l0_0 x11_1).f0, (rd_T35 l0_0 x11_1).f1, (rd_T35 l0_0 x11_1).f2, (rd_T35 l0_0 x11_1).f3, (rd_T35 l0_0 x11_1).f4⟩ : S35) [.int .i64 ((rd_T35 l0_0 x11_1).f0), .int .i64 ((rd_T35 l0_0 x11_1).f1), .string ((rd_T35 l0_0 x11_1).f2), .string ((rd_T35 l0_0 x11_1).f3), .int .i64 ((rd_T35 l0_0 x11_1).f4)] (fun k_ => k_ ≠ gb382) (fun _ => False) rfl (by first | (go_simp; done) | (go_simp; rfl)) ?aP (fun _ hk => hk.elim) ?aF ?aO ?aB ?aS ?aL ?_; (case aP => exact k35_mkM _ _ _ (⟨(rd_T35 l0_0 x11_1).f0, (rd_T35 l0_0 x11_1).f1, (rd_T35 l0_0 x11_1).f2, (rd_T35 l0_0 x11_1).f3, (rd_T35 l0_0 x11_1).f4⟩ : S35)); (case aB => exact (by repeat (first | (with_reducible first | exact HB.out | apply blA | apply blN | apply blD | refine blS ?_ GE380.out | refine blS ?_ GE382.out) | exact HB.out))); (case aF => exact (fun k_ hk => Kd.freshB (g := gb382) (o := .cells #[.int .i64 ((rd_T35 l0_0 x11_1).f0), .int .i64 ((rd_T35 l0_0 x11_1).f1), .string ((rd_T35 l0_0 x11_1).f2), .string ((rd_T35 l0_0 x11_1).f3), .int .i64 ((rd_T35 l0_0 x11_1).f4)] 35 (0, 0)) (by (with_reducible repeat (first | refine bdN ?_ _ | refine bdD ?_ | refine blk_alloc ?_ _)); refine blk_put (cs := #[.int .i64 ((rd_T35 l0_0 x11_1).f0), .int .i64 ((rd_T35 l0_0 x11_1).f1), .string ((rd_T35 l0_0 x11_1).f2), .string ((rd_T35 l0_0 x11_1).f3), .int .i64 0]) ?_ 4 _ rfl; (with_reducible repeat (first | refine bdN ?_ _ | refine bdD ?_ | refine blk_alloc ?_ _)); refine blk_put (cs := #[.int .i64 ((rd_T35 l0_0 x11_1).f0), .int .i64 ((rd_T35 l0_0 x11_1).f1), .string ((rd_T35 l0_0 x11_1).f2), .string (⟨#[]⟩ : ByteArray), .int .i64 0]) ?_ 3 _ rfl; (with_reducible repeat (first | refine bdN ?_ _ | refine bdD ?_ | refine blk_alloc ?_ _)); refine blk_put (cs := #[.int .i64 ((rd_T35 l0_0 x11_1).f0), .int .i64 ((rd_T35 l0_0 x11_1).f1), .string (⟨#[]⟩ : ByteArray), .string (⟨#[]⟩ : ByteArray), .int .i64 0]) ?_ 2 _ rfl; (with_reducible repeat (first | refine bdN ?_ _ | refine bdD ?_ | refine blk_alloc ?_ _)); refine blk_put (cs := #[.int .i64 ((rd_T35 l0_0 x11_1).f0), .int .i64 0, .string (⟨#[]⟩ : ByteArray), .string (⟨#[]⟩ : ByteArray), .int .i64 0]) ?_ 1 _ rfl; (with_reducible repeat (first | refine bdN ?_ _ | refine bdD ?_ | refine blk_alloc ?_ _)); refine blk_put (cs := #[.int .i64 0, .int .i64 0, .string (⟨#[]⟩ : ByteArray), .string (⟨#[]⟩ : ByteArray), .int .i64 0]) ?_ 0 _ rfl; (with_reducible repeat (first | refine bdN ?_ _ | refine bdD ?_ | refine blk_alloc ?_ _)); exact BK382.out) k_ hk)); (case aO => exact (by (with_reducible repeat (first | apply Kd.R_alloc | apply Kd.R_drewN | apply Kd.R_drew)); exact Kd.R_mono (Kd.R_far (p := ⟨gb382, 4, none⟩) (Kd.R_far (p := ⟨gb382, 3, none⟩) (Kd.R_far (p := ⟨gb382, 2, none⟩) (Kd.R_far (p := ⟨gb382, 1, none⟩) (Kd.R_far (p := ⟨gb382, 0, none⟩) (Kd.R_mono HO_5.out (fun k_ hk => (⟨hk, hk.2⟩ : _ ∧ k_ ≠ gb382))) (fun _ hk => hk.2) (.int .i64 ((rd_T35 l0_0 x11_1).f0))) (fun _ hk => hk.2) (.int .i64 ((rd_T35 l0_0 x11_1).f1))) (fun _ hk => hk.2) (.string ((rd_T35 l0_0 x11_1).f2))) (fun _ hk => hk.2) (.string ((rd_T35 l0_0 x11_1).f3))) (fun _ hk => hk.2) (.int .i64 ((rd_T35 l0_0 x11_1).f4))) (fun _ hk => hk.1.2))); (case aS => exact (blz (by repeat (first | (with_reducible first | exact HB.out | apply blA | apply blN | apply blD | refine blS ?_ GE380.out | refine blS ?_ GE382.out) | exact HB.out)))); (case aL => have := LMc9.out; omega); intro v384 w13 ho hb hg hat; rw [← Ny383.out] at ho; have n0_ := Aside0.mk (blk_grown (g := gb380) (o := .cells #[.slice (some ad381) l0_0.length c0_0, .slice A0_1 l0_1.length c0_1, .int .i64 a0_2] 25 (0, 0)) (by (with_reducible repeat (first | refine bdN ?_ _ | refine bdD ?_ | refine blk_alloc ?_ _)); refine blk_far ?_ NB380_382.out _; (with_reducible repeat (first | refine bdN ?_ _ | refine bdD ?_ | refine blk_alloc ?_ _)); refine blk_far ?_ NB380_382.out _; (with_reducible repeat (first | refine bdN ?_ _ | refine bdD ?_ | refine blk_alloc ?_ _)); refine blk_far ?_ NB380_382.out _; (with_reducible repeat (first | refine bdN ?_ _ | refine bdD ?_ | refine blk_alloc ?_ _)); refine blk_far ?_ NB380_382.out _; (with_reducible repeat (first | refine bdN ?_ _ | refine bdD ?_ | refine blk_alloc ?_ _)); refine blk_far ?_ NB380_382.out _; (with_reducible repeat (first | refine bdN ?_ _ | refine bdD ?_ | refine blk_alloc ?_ _)); exact BK380.out) hg (Kd.R_ne HO_5.out BK380.out (by decide))); have n1_ := Aside0.mk (blk_grown (g := gb382) (o := .cells #[.int .i64 ((rd_T35 l0_0 x11_1).f0), .int .i64 ((rd_T35 l0_0 x11_1).f1), .string ((rd_T35 l0_0 x11_1).f2), .string ((rd_T35 l0_0 x11_1).f3), .int .i64 ((rd_T35 l0_0 x11_1).f4)] 35 (0, 0)) (by (with_reducible repeat (first | refine bdN ?_ _ | refine bdD ?_ | refine blk_alloc ?_ _)); refine blk_put (cs := #[.int .i64 ((rd_T35 l0_0 x11_1).f0), .int .i64 ((rd_T35 l0_0 x11_1).f1), .string ((rd_T35 l0_0 x11_1).f2), .string ((rd_T35 l0_0 x11_1).f3), .int .i64 0]) ?_ 4 _ rfl; (with_reducible repeat (first | refine bdN ?_ _ | refine bdD ?_ | refine blk_alloc ?_ _)); refine blk_put (cs := #[.int .i64 ((rd_T35 l0_0 x11_1).f0), .int .i64 ((rd_T35 l0_0 x11_1).f1), .string ((rd_T35 l0_0 x11_1).f2), .string (⟨#[]⟩ : ByteArray), .int .i64 0]) ?_ 3 _ rfl; (with_reducible repeat (first | refine bdN ?_ _ | refine bdD ?_ | refine blk_alloc ?_ _)); refine blk_put (cs := #[.int .i64 ((rd_T35 l0_0 x11_1).f0), .int .i64 ((rd_T35 l0_0 x11_1).f1), .string (⟨#[]⟩ : ByteArray), .string (⟨#[]⟩ : ByteArray), .int .i64 0]) ?_ 2 _ rfl; (with_reducible repeat (first | refine bdN ?_ _ | refine bdD ?_ | refine blk_alloc ?_ _)); refine blk_put (cs := #[.int .i64 ((rd_T35 l0_0 x11_1).f0), .int .i64 0, .string (⟨#[]⟩ : ByteArray), .string (⟨#[]⟩ : ByteArray), .int .i64 0]) ?_ 1 _ rfl; (with_reducible repeat (first | refine bdN ?_ _ | refine bdD ?_ | refine blk_alloc ?_ _)); refine blk_put (cs := #[.int .i64 0, .int .i64 0, .string (⟨#[]⟩ : ByteArray), .string (⟨#[]⟩ : ByteArray), .int .i64 0]) ?_ 0 _ rfl; (with_reducible repeat (first | refine bdN ?_ _ | refine bdD ?_ | refine blk_alloc ?_ _)); exact BK382.out) hg (Kd.R_away HO_5.out (fun _ hk => hk.2))); have n2_ := Aside0.mk (hb); have n3_ := Aside0.mk (ho); clear BK380; clear BK382; clear HB; clear HO_5; have BK380 := n0_; have BK382 := n1_; have HB := n2_; have HO385 := n3_; clear n0_ n1_ n2_ n3_; clear ho hb hg hat))
        go_roundg k1
        case measure => have := HK1.out; omega
        case rel => exact ⟨(y383), (wrap64 (x11_1 + 1)), (by first | rfl | (simp; done) | (simp [*]; done)), H', ⟨by have := HK1.out; omega⟩, ⟨by (with_reducible repeat (first | apply Kd.R_alloc | apply Kd.R_drewN | apply Kd.R_drew)); exact Kd.R_mono HO385.out (fun _ hk => trivial)⟩, ⟨by (with_reducible repeat (first | refine bdN ?_ _ | refine bdD ?_ | refine blk_alloc ?_ _)); exact BK380.out⟩, ⟨by repeat (first | (with_reducible first | exact HB.out | apply blA | apply blN | apply blD | refine blS ?_ GE380.out | refine blS ?_ GE382.out) | exact HB.out)⟩⟩
       ·rw [if_neg c9] at H
        exact absurd H (by simp)
      ·rw [if_neg c8] at H
       have c8b0 : (((rd_T35 l0_0 x11_1).f1) == a1) = false := beq_eq_false_iff_ne.mpr c8
       have c8b1 : (((rd_T35 l0_0 x11_1).f1) != a1) = true := bne_iff_ne.mpr c8
       have H' := Aside0.mk H
       clear H
       have p381 : 0 ≤ (x11_1 : Int) := of_decide_eq_true (by first | (with_reducible assumption) | assumption)
       have q381 : x11_1 < (l0_0.length : Int) := of_decide_eq_true (by first | (with_reducible assumption) | assumption)
       obtain ⟨ad381, e381, hx381_0, hx381_1, hx381_2, hx381_3, hx381_4⟩ := at_T35 HR0_0.out x11_1 p381 q381
       cases e381
       replace hx381_0 := (HB.out.cell (World.block_lt_of_cell? w _ hx381_0)).trans hx381_0
       replace hx381_1 := (HB.out.cell (World.block_lt_of_cell? w _ hx381_1)).trans hx381_1
       replace hx381_2 := (HB.out.cell (World.block_lt_of_cell? w _ hx381_2)).trans hx381_2
       replace hx381_3 := (HB.out.cell (World.block_lt_of_cell? w _ hx381_3)).trans hx381_3
       replace hx381_4 := (HB.out.cell (World.block_lt_of_cell? w _ hx381_4)).trans hx381_4
       replace p381 := eq_true p381
       replace q381 := eq_true q381
       go_wp2_with (first | ((with_reducible refine gate_dst (N := 7) rfl ?_); refine box_event ?hg (N := 7) ?hd (cs := #[.int .i64 0, .int .i64 0, .string (⟨#[]⟩ : ByteArray), .string (⟨#[]⟩ : ByteArray), .int .i64 0]) (t := 35) ?hr ?_; (case hd => rfl); (case hg => rfl); (case hr => first | (go_simp; done) | (go_simp; rfl)); intro gb382 hg w14 hbox hb; have n0_ := Aside0.mk (Kd.R_below (Kd.R_elderB (by (with_reducible repeat (first | apply Kd.R_alloc | apply Kd.R_drewN | apply Kd.R_drew)); exact HO_5.out) gb382 (Nat.le_of_eq hg.symm)) hb); have n1_ := Aside0.mk (bbl (g := gb380) (o := .cells #[.slice (some ad381) l0_0.length c0_0, .slice A0_1 l0_1.length c0_1, .int .i64 a0_2] 25 (0, 0)) (by (with_reducible repeat (first | refine bdN ?_ _ | refine bdD ?_ | refine blk_alloc ?_ _)); exact BK380.out) hb); have n2_ := Aside0.mk (bls (by repeat (first | (with_reducible first | exact HB.out | apply blA | apply blN | apply blD | refine blS ?_ GE380.out) | exact HB.out)) hb); have n3_ := Aside0.mk (hbox); have n4_ := Aside0.mk ((by rw [hg]; exact (blz (by repeat (first | (with_reducible first | exact HB.out | apply blA | apply blN | apply blD | refine blS ?_ GE380.out) | exact HB.out))) : w.heap.size ≤ gb382)); have n5_ := Aside0.mk ((by rw [hg]; exact (blz (by repeat (first | (with_reducible first | exact HB.out | apply blA | apply blN | apply blD | refine blS ?_ GE380.out) | exact HB.out))) : w.heap.size ≤ gb382)); have n6_ := Aside0.mk ((by rw [hg]; exact Nat.ne_of_lt (blk_lt (g := gb380) (o := .cells #[.slice (some ad381) l0_0.length c0_0, .slice A0_1 l0_1.length c0_1, .int .i64 a0_2] 25 (0, 0)) (by (with_reducible repeat (first | refine bdN ?_ _ | refine bdD ?_ | refine blk_alloc ?_ _)); exact BK380.out)) : gb380 ≠ gb382)); have n7_ := Aside0.mk ((by rw [hg]; exact Nat.ne_of_gt (blk_lt (g := gb380) (o := .cells #[.slice (some ad381) l0_0.length c0_0, .slice A0_1 l0_1.length c0_1, .int .i64 a0_2] 25 (0, 0)) (by (with_reducible repeat (first | refine bdN ?_ _ | refine bdD ?_ | refine blk_alloc ?_ _)); exact BK380.out)) : gb382 ≠ gb380)); clear HO_5; clear BK380; clear HB; have HO_5 := n0_; have BK380 := n1_; have HB := n2_; have BK382 := n3_; have GW382 := n4_; have GE382 := n5_; have NB380_382 := n6_; have NB382_380 := n7_; clear n0_ n1_ n2_ n3_ n4_ n5_ n6_ n7_; clear hb hbox hg; have hnb15 := NB382_380.out; have hnc15 := NB380_382.out; have hcz16_0 : w14.cell? ⟨gb382, 0, none⟩ = some (.int .i64 0) := (bcl BK382.out 0).trans rfl; have hcz16_1 : w14.cell? ⟨gb382, 1, none⟩ = some (.int .i64 0) := (bcl BK382.out 1).trans rfl; have hcz16_2 : w14.cell? ⟨gb382, 2, none⟩ = some (.string (⟨#[]⟩ : ByteArray)) := (bcl BK382.out 2).trans rfl; have hcz16_3 : w14.cell? ⟨gb382, 3, none⟩ = some (.string (⟨#[]⟩ : ByteArray)) := (bcl BK382.out 3).trans rfl; have hcz16_4 : w14.cell? ⟨gb382, 4, none⟩ = some (.int .i64 0) := (bcl BK382.out 4).trans rfl; have hfz16_0 := bfz BK382.out 0; have hfz16_1 := bfz BK382.out 1; have hfz16_2 := bfz BK382.out 2; have hfz16_3 := bfz BK382.out 3; have hfz16_4 := bfz BK382.out 4))
       go_roundg k1
       case measure => have := HK1.out; omega
       case rel => exact ⟨(x5_1), (wrap64 (x11_1 + 1)), (by first | rfl | (simp; done) | (simp [*]; done)), H', ⟨by have := HK1.out; omega⟩, ⟨by (with_reducible repeat (first | apply Kd.R_alloc | apply Kd.R_drewN | apply Kd.R_drew)); exact Kd.R_mono (Kd.R_far (p := ⟨gb382, 4, none⟩) (Kd.R_far (p := ⟨gb382, 3, none⟩) (Kd.R_far (p := ⟨gb382, 2, none⟩) (Kd.R_far (p := ⟨gb382, 1, none⟩) (Kd.R_far (p := ⟨gb382, 0, none⟩) (Kd.R_mono HO_5.out (fun k_ hk => (⟨hk, hk.2⟩ : _ ∧ k_ ≠ gb382))) (fun _ hk => hk.2) (.int .i64 ((rd_T35 l0_0 x11_1).f0))) (fun _ hk => hk.2) (.int .i64 ((rd_T35 l0_0 x11_1).f1))) (fun _ hk => hk.2) (.string ((rd_T35 l0_0 x11_1).f2))) (fun _ hk => hk.2) (.string ((rd_T35 l0_0 x11_1).f3))) (fun _ hk => hk.2) (.int .i64 ((rd_T35 l0_0 x11_1).f4))) (fun _ hk => trivial)⟩, ⟨by (with_reducible repeat (first | refine bdN ?_ _ | refine bdD ?_ | refine blk_alloc ?_ _)); refine blk_far ?_ NB380_382.out _; (with_reducible repeat (first | refine bdN ?_ _ | refine bdD ?_ | refine blk_alloc ?_ _)); refine blk_far ?_ NB380_382.out _; (with_reducible repeat (first | refine bdN ?_ _ | refine bdD ?_ | refine blk_alloc ?_ _)); refine blk_far ?_ NB380_382.out _; (with_reducible repeat (first | refine bdN ?_ _ | refine bdD ?_ | refine blk_alloc ?_ _)); refine blk_far ?_ NB380_382.out _; (with_reducible repeat (first | refine bdN ?_ _ | refine bdD ?_ | refine blk_alloc ?_ _)); refine blk_far ?_ NB380_382.out _; (with_reducible repeat (first | refine bdN ?_ _ | refine bdD ?_ | refine blk_alloc ?_ _)); exact BK380.out⟩, ⟨by repeat (first | (with_reducible first | exact HB.out | apply blA | apply blN | apply blD | refine blS ?_ GE380.out | refine blS ?_ GE382.out) | exact HB.out)⟩⟩
     ·rw [if_neg c7] at H
      exact absurd H (by simp)
    ·rw [if_neg c6] at H
     exact absurd H (by simp)
   ·rw [if_neg c5] at H
    have c5b0 : decide (x11_1 < (l0_0.length : Int)) = false := decide_eq_false c5
    clear c5
    obtain rfl := Option.some.inj H
    go_wp2
    go_ret
    exact ⟨_, by first | rfl | (simp [errW_none, errW_some] <;> rfl) | (simp [*, errW_none, errW_some] <;> rfl), by (with_reducible repeat (first | apply Kd.R_alloc | apply Kd.R_drewN | apply Kd.R_drew)); exact HO_5.out, by repeat (first | (with_reducible first | exact HB.out | apply blA | apply blN | apply blD | refine blS ?_ GE380.out) | exact HB.out)⟩
/-! ### palinodelaw14_VersionApart: function 6 -/
mutual
def palinodelaw14_VersionApart.l0 : Nat → ByteArray → Bool → Int → List (S35) → List Int → Int → Option (Bool)
 | 0, _, _, _, _, _, _ => none
 | k + 1, x1, x5, x6, x387000, x387001, x387002 => if x6 < 4 then ((version_Level.f k x387000 x387001 x387002 x6).bind fun t389 => (palinodelaw14_VersionApart.l1 k x1 x5 x6 0 t389 0 x387000 x387001 x387002)) else (some x5)
def palinodelaw14_VersionApart.l1 : Nat → ByteArray → Bool → Int → Int → List (S35) → Int → List (S35) → List Int → Int → Option (Bool)
 | 0, _, _, _, _, _, _, _, _, _ => none
 | k + 1, x1, x5, x6, x7, x8, x9, x387000, x387001, x387002 => if x9 < (x8.length : Int) then (if 0 ≤ x9 then (if ((Op.bytesLess x1.toList (((rd_T35 x8 x9).f2).toList)) = true) then (palinodelaw14_VersionApart.j2 k x1 x5 x6 x7 x8 x9 false x387000 x387001 x387002) else (palinodelaw14_VersionApart.j2 k x1 x5 x6 x7 x8 x9 (!(Op.bytesLess (((rd_T35 x8 x9).f3).toList) x1.toList)) x387000 x387001 x387002)) else (none)) else (if x7 > 1 then (some false) else (palinodelaw14_VersionApart.l0 k x1 x5 (wrap64 (x6 + 1)) x387000 x387001 x387002))
def palinodelaw14_VersionApart.j2 : Nat → ByteArray → Bool → Int → Int → List (S35) → Int → Bool → List (S35) → List Int → Int → Option (Bool)
 | 0, _, _, _, _, _, _, _, _, _, _ => none
 | k + 1, x1, x5, x6, x7, x8, x9, x43, x387000, x387001, x387002 => if x43 = true then (if x9 > 0 then (if 0 ≤ (wrap64 (x9 - 1)) then (if (wrap64 (x9 - 1)) < (x8.length : Int) then (if 0 ≤ x9 then (if x9 < (x8.length : Int) then (if ((Op.bytesLess (((rd_T35 x8 (wrap64 (x9 - 1))).f3).toList) (((rd_T35 x8 x9).f2).toList)) = true) then (palinodelaw14_VersionApart.l1 k x1 x5 x6 (wrap64 (x7 + 1)) x8 (wrap64 (x9 + 1)) x387000 x387001 x387002) else (some false)) else (none)) else (none)) else (none)) else (none)) else (palinodelaw14_VersionApart.l1 k x1 x5 x6 (wrap64 (x7 + 1)) x8 (wrap64 (x9 + 1)) x387000 x387001 x387002)) else (if x9 > 0 then (if 0 ≤ (wrap64 (x9 - 1)) then (if (wrap64 (x9 - 1)) < (x8.length : Int) then (if 0 ≤ x9 then (if x9 < (x8.length : Int) then (if ((Op.bytesLess (((rd_T35 x8 (wrap64 (x9 - 1))).f3).toList) (((rd_T35 x8 x9).f2).toList)) = true) then (palinodelaw14_VersionApart.l1 k x1 x5 x6 x7 x8 (wrap64 (x9 + 1)) x387000 x387001 x387002) else (some false)) else (none)) else (none)) else (none)) else (none)) else (palinodelaw14_VersionApart.l1 k x1 x5 x6 x7 x8 (wrap64 (x9 + 1)) x387000 x387001 x387002))
end
def palinodelaw14_VersionApart.f (k : Nat) (l0_0 : List (S35)) (l0_1 : List Int) (a0_2 : Int) (a1 : ByteArray) : Option (Bool) := (palinodelaw14_examples.f).bind fun t387 => ((version_Right.f k l0_0 l0_1 a0_2).bind fun t388 => (if t388 = true then (palinodelaw14_VersionApart.l0 k a1 t387 1 l0_0 l0_1 a0_2) else (some t387)))
theorem palinodelaw14_VersionApart.mono_l : ∀ k, (∀ y0 y1 y2 y3 y4 y5, LeO (palinodelaw14_VersionApart.l0 k y0 y1 y2 y3 y4 y5) (palinodelaw14_VersionApart.l0 (k + 1) y0 y1 y2 y3 y4 y5)) ∧ (∀ y0 y1 y2 y3 y4 y5 y6 y7 y8, LeO (palinodelaw14_VersionApart.l1 k y0 y1 y2 y3 y4 y5 y6 y7 y8) (palinodelaw14_VersionApart.l1 (k + 1) y0 y1 y2 y3 y4 y5 y6 y7 y8)) ∧ (∀ y0 y1 y2 y3 y4 y5 y6 y7 y8 y9, LeO (palinodelaw14_VersionApart.j2 k y0 y1 y2 y3 y4 y5 y6 y7 y8 y9) (palinodelaw14_VersionApart.j2 (k + 1) y0 y1 y2 y3 y4 y5 y6 y7 y8 y9))
 | 0 => ⟨fun _ _ _ _ _ _ r h => by simp [palinodelaw14_VersionApart.l0] at h, fun _ _ _ _ _ _ _ _ _ r h => by simp [palinodelaw14_VersionApart.l1] at h, fun _ _ _ _ _ _ _ _ _ _ r h => by simp [palinodelaw14_VersionApart.j2] at h⟩
 | k + 1 => by
  obtain ⟨ih0, ih1, ih2⟩ := palinodelaw14_VersionApart.mono_l k
  refine ⟨?_, ?_, ?_⟩
  ·intro y0 y1 y2 y3 y4 y5
   unfold palinodelaw14_VersionApart.l0
   repeat' first
   | (with_reducible exact ih0 _ _ _ _ _ _)
   | (with_reducible exact ih1 _ _ _ _ _ _ _ _ _)
   | (with_reducible exact ih2 _ _ _ _ _ _ _ _ _ _)
   | (with_reducible exact version_Level.mono _ _ _ _ _)
   | (with_reducible exact version_Right.mono _ _ _ _)
   | (with_reducible exact LeO.refl _)
   | (with_reducible exact LeO.none _)
   | (with_reducible refine LeO.ite ?_ ?_)
   | (with_reducible refine LeO.bind ?_ (fun _ => ?_))
   | exact ih0 _ _ _ _ _ _
   | exact ih1 _ _ _ _ _ _ _ _ _
   | exact ih2 _ _ _ _ _ _ _ _ _ _
   | exact version_Level.mono _ _ _ _ _
   | exact version_Right.mono _ _ _ _
   | exact LeO.none _
   | refine LeO.ite ?_ ?_
   | refine LeO.bind ?_ (fun _ => ?_)
  ·intro y0 y1 y2 y3 y4 y5 y6 y7 y8
   unfold palinodelaw14_VersionApart.l1
   repeat' first
   | (with_reducible exact ih0 _ _ _ _ _ _)
   | (with_reducible exact ih1 _ _ _ _ _ _ _ _ _)
   | (with_reducible exact ih2 _ _ _ _ _ _ _ _ _ _)
   | (with_reducible exact version_Level.mono _ _ _ _ _)
   | (with_reducible exact version_Right.mono _ _ _ _)
   | (with_reducible exact LeO.refl _)
   | (with_reducible exact LeO.none _)
   | (with_reducible refine LeO.ite ?_ ?_)
   | (with_reducible refine LeO.bind ?_ (fun _ => ?_))
   | exact ih0 _ _ _ _ _ _
   | exact ih1 _ _ _ _ _ _ _ _ _
   | exact ih2 _ _ _ _ _ _ _ _ _ _
   | exact version_Level.mono _ _ _ _ _
   | exact version_Right.mono _ _ _ _
   | exact LeO.none _
   | refine LeO.ite ?_ ?_
   | refine LeO.bind ?_ (fun _ => ?_)
  ·intro y0 y1 y2 y3 y4 y5 y6 y7 y8 y9
   unfold palinodelaw14_VersionApart.j2
   repeat' first
   | (with_reducible exact ih0 _ _ _ _ _ _)
   | (with_reducible exact ih1 _ _ _ _ _ _ _ _ _)
   | (with_reducible exact ih2 _ _ _ _ _ _ _ _ _ _)
   | (with_reducible exact version_Level.mono _ _ _ _ _)
   | (with_reducible exact version_Right.mono _ _ _ _)
   | (with_reducible exact LeO.refl _)
   | (with_reducible exact LeO.none _)
   | (with_reducible refine LeO.ite ?_ ?_)
   | (with_reducible refine LeO.bind ?_ (fun _ => ?_))
   | exact ih0 _ _ _ _ _ _
   | exact ih1 _ _ _ _ _ _ _ _ _
   | exact ih2 _ _ _ _ _ _ _ _ _ _
   | exact version_Level.mono _ _ _ _ _
   | exact version_Right.mono _ _ _ _
   | exact LeO.none _
   | refine LeO.ite ?_ ?_
   | refine LeO.bind ?_ (fun _ => ?_)
theorem palinodelaw14_VersionApart.mono : ∀ a0 a1 a2 a3 k, LeO (palinodelaw14_VersionApart.f k a0 a1 a2 a3) (palinodelaw14_VersionApart.f (k + 1) a0 a1 a2 a3) := by
 intro a0 a1 a2 a3 k
 obtain ⟨ih0, ih1, ih2⟩ := palinodelaw14_VersionApart.mono_l k
 unfold palinodelaw14_VersionApart.f
 repeat' first
   | (with_reducible exact ih0 _ _ _ _ _ _)
   | (with_reducible exact ih1 _ _ _ _ _ _ _ _ _)
   | (with_reducible exact ih2 _ _ _ _ _ _ _ _ _ _)
   | (with_reducible exact version_Level.mono _ _ _ _ _)
   | (with_reducible exact version_Right.mono _ _ _ _)
   | (with_reducible exact LeO.refl _)
   | (with_reducible exact LeO.none _)
   | (with_reducible refine LeO.ite ?_ ?_)
   | (with_reducible refine LeO.bind ?_ (fun _ => ?_))
   | exact ih0 _ _ _ _ _ _
   | exact ih1 _ _ _ _ _ _ _ _ _
   | exact ih2 _ _ _ _ _ _ _ _ _ _
   | exact version_Level.mono _ _ _ _ _
   | exact version_Right.mono _ _ _ _
   | exact LeO.none _
   | refine LeO.ite ?_ ?_
   | refine LeO.bind ?_ (fun _ => ?_)
end Go.Proofs.Ytoonheembcejfaa.PA

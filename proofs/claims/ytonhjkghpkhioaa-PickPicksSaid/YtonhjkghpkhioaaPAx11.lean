-- printed by a program of this session (wip/myprint.py), after the kit's print
import Derived.Test.YtonhjkghpkhioaaPAx0
namespace Go.Proofs.Ytonhjkghpkhioaa.PA
open Go.RowKit Go.Proofs.YtonhjkghpkhioaaW.PrintWords Go.Proofs.YtonhjkghpkhioaaW.PrintLast Go.Proofs.YtonhjkghpkhioaaW.PrintMore
attribute [local go_sem] max2_int min2_int max_two min_two max_three min_three max_four min_four   -- for this text's walks alone
set_option linter.unusedVariables false
set_option linter.unusedSimpArgs false
/-! ### palinoderef14_Level: function 22 -/
def palinoderef14_Level.l0 : Nat → Int → List (S48) → Int → List (S48) → List Int → Int → Option ((List (S48)))
 | 0, _, _, _, _, _, _ => none
 | k + 1, x1, x5, x6, x266000, x266001, x266002 => if x6 < (x266000.length : Int) then (if 0 ≤ x6 then (if ((rd_T48 x266000 x6).f1) = x1 then (if x5.length < 2513169434916 then (palinoderef14_Level.l0 k x1 (x5 ++ [(⟨(rd_T48 x266000 x6).f0, (rd_T48 x266000 x6).f1, (rd_T48 x266000 x6).f2, (rd_T48 x266000 x6).f3, (rd_T48 x266000 x6).f4⟩ : S48)]) (wrap64 (x6 + 1)) x266000 x266001 x266002) else (none)) else (palinoderef14_Level.l0 k x1 x5 (wrap64 (x6 + 1)) x266000 x266001 x266002)) else (none)) else (some x5)
def palinoderef14_Level.f (k : Nat) (l0_0 : List (S48)) (l0_1 : List Int) (a0_2 : Int) (a1 : Int) : Option ((List (S48))) := palinoderef14_Level.l0 k a1 ([] : List (S48)) 0 l0_0 l0_1 a0_2
theorem palinoderef14_Level.mono_l : ∀ k, (∀ y0 y1 y2 y3 y4 y5, LeO (palinoderef14_Level.l0 k y0 y1 y2 y3 y4 y5) (palinoderef14_Level.l0 (k + 1) y0 y1 y2 y3 y4 y5))
 | 0 => fun _ _ _ _ _ _ r h => by simp [palinoderef14_Level.l0] at h
 | k + 1 => by
  have ih0 := palinoderef14_Level.mono_l k
  ·intro y0 y1 y2 y3 y4 y5
   unfold palinoderef14_Level.l0
   repeat' first
   | (with_reducible exact ih0 _ _ _ _ _ _)
   | (with_reducible exact LeO.refl _)
   | (with_reducible exact LeO.none _)
   | (with_reducible refine LeO.ite ?_ ?_)
   | (with_reducible refine LeO.bind ?_ (fun _ => ?_))
   | exact ih0 _ _ _ _ _ _
   | exact LeO.none _
   | refine LeO.ite ?_ ?_
   | refine LeO.bind ?_ (fun _ => ?_)
theorem palinoderef14_Level.mono : ∀ a0 a1 a2 a3 k, LeO (palinoderef14_Level.f k a0 a1 a2 a3) (palinoderef14_Level.f (k + 1) a0 a1 a2 a3) := by
 intro a0 a1 a2 a3 k
 have ih0 := palinoderef14_Level.mono_l k
 unfold palinoderef14_Level.f
 repeat' first
   | (with_reducible exact ih0 _ _ _ _ _ _)
   | (with_reducible exact LeO.refl _)
   | (with_reducible exact LeO.none _)
   | (with_reducible refine LeO.ite ?_ ?_)
   | (with_reducible refine LeO.bind ?_ (fun _ => ?_))
   | exact ih0 _ _ _ _ _ _
   | exact LeO.none _
   | refine LeO.ite ?_ ?_
   | refine LeO.bind ?_ (fun _ => ?_)
set_option maxHeartbeats 8000000 in
set_option maxRecDepth 100000 in
theorem palinoderef14_Level.calls (k : Nat) (A0_0 : Option Addr) (c0_0 : Nat) (l0_0 : List (S48)) (A0_1 : Option Addr) (c0_1 : Nat) (l0_1 : List Int) (a0_2 : Int) (a1 : Int) (r : List (S48)) (w : World) (hr0_0 : Kd.C k48 w A0_0 l0_0.length l0_0) (hc0_0 : l0_0.length ≤ c0_0) (hr0_1 : Kd.C (Kd.int .i64) w A0_1 l0_1.length l0_1) (hc0_1 : l0_1.length ≤ c0_1) (h : palinoderef14_Level.f k l0_0 l0_1 a0_2 a1 = some r) :
  Calls Try.prog 22 #[.agg #[.slice A0_0 l0_0.length c0_0, .slice A0_1 l0_1.length c0_1, .int .i64 a0_2], .int .i64 a1] w fun e w' => ∃ v0_ : Value, e = .returned (v0_) ∧ Kd.R k48 48 w' w.heap.size (fun _ => True) v0_ r ∧ Below w.heap.size w w' := by
 have hu25 := Try.underlying25
 have hu48 := Try.underlying48
 have HR0_0 := Aside0.mk hr0_0
 have HC0_0 := Aside0.mk hc0_0
 clear hr0_0 hc0_0
 have HR0_1 := Aside0.mk hr0_1
 have HC0_1 := Aside0.mk hc0_1
 clear hr0_1 hc0_1
 have HB := Aside0.mk (Below.refl w.heap.size w)
 have H : (palinoderef14_Level.l0 k a1 ([] : List (S48)) 0 l0_0 l0_1 a0_2) = some r := h
 clear h
 have H' := Aside0.mk H
 clear H
 go_enter Try.func22, Try.ntmps22
 go_wp2_with (first | ((with_reducible refine gate_dst (N := 2) rfl ?_); refine box_event ?hg (N := 2) ?hd (cs := #[.slice A0_0 l0_0.length c0_0, .slice A0_1 l0_1.length c0_1, .int .i64 a0_2]) (t := 25) ?hr ?_; (case hd => rfl); (case hg => rfl); (case hr => first | (go_simp; done) | (go_simp; rfl)); intro gb265 hg w3 hbox hb; have n0_ := Aside0.mk (bls (by repeat (first | (with_reducible first | exact HB.out | apply blA | apply blN | apply blD) | exact HB.out)) hb); have n1_ := Aside0.mk (hbox); have n2_ := Aside0.mk ((by rw [hg]; exact (blz (by repeat (first | (with_reducible first | exact HB.out | apply blA | apply blN | apply blD) | exact HB.out))) : w.heap.size ≤ gb265)); have n3_ := Aside0.mk ((by rw [hg]; exact (blz (by repeat (first | (with_reducible first | exact HB.out | apply blA | apply blN | apply blD) | exact HB.out))) : w.heap.size ≤ gb265)); clear HB; have HB := n0_; have BK265 := n1_; have GW265 := n2_; have GE265 := n3_; clear n0_ n1_ n2_ n3_; clear hb hbox hg))
 go_loopg [5, 6] k (fun kq v5 v6 w' => ∃ (x5_1 : List (S48)) (x6_1 : Int), v6 = .int .i64 x6_1 ∧ Aside0 (palinoderef14_Level.l0 kq a1 x5_1 x6_1 l0_0 l0_1 a0_2 = some r) ∧ Aside0 (kq ≤ k) ∧ Aside0 (Kd.R k48 48 w' w.heap.size (fun _ => True) v5 x5_1) ∧ Aside0 (w'.heap[gb265]? = some (.cells #[(.slice A0_0 l0_0.length c0_0), (.slice A0_1 l0_1.length c0_1), .int .i64 a0_2] 25 (0, 0))) ∧ Aside0 (Below w.heap.size w w'))
 case atStart => exact ⟨(([] : List (S48))), (0), (by first | rfl | (simp; done) | (simp [*]; done)), H', ⟨Nat.le_refl _⟩, ⟨by first | exact Kd.R_nil _ _ _ _ _ | exact Kd.N_nil _ _ _ _ _ | exact Kd.V_nil _ _ _ _ _ | exact Kd.Q_nil _ _ _ _ _ | exact Kd.S_nil _ _ _ _ _⟩, ⟨by (with_reducible repeat (first | refine bdN ?_ _ | refine bdD ?_ | refine bdA ?_ _)); exact BK265.out⟩, ⟨by repeat (first | (with_reducible first | exact HB.out | apply blA | apply blN | apply blD | refine blS ?_ GE265.out) | exact HB.out)⟩⟩
 case round =>
  clear H'
  try clear c2
  try clear p2
  obtain ⟨x5_1, x6_1, rfl, HA, HK1, HO_5, BK265, HB⟩ := hrel
  cases gk with
  | zero => exact absurd HA.out (by simp [palinoderef14_Level.l0])
  | succ k1 =>
   have H := HA.out
   clear HA
   simp only [palinoderef14_Level.l0] at H
   by_cases c4 : x6_1 < (l0_0.length : Int)
   ·rw [if_pos c4] at H
    have c4b0 : decide (x6_1 < (l0_0.length : Int)) = true := decide_eq_true c4
    clear c4
    by_cases c5 : 0 ≤ x6_1
    ·rw [if_pos c5] at H
     have c5b0 : decide (0 ≤ x6_1) = true := decide_eq_true c5
     clear c5
     by_cases c6 : ((rd_T48 l0_0 x6_1).f1) = a1
     ·rw [if_pos c6] at H
      have c6b0 : (((rd_T48 l0_0 x6_1).f1) == a1) = true := beq_iff_eq.mpr c6
      have c6b1 : (((rd_T48 l0_0 x6_1).f1) != a1) = false := bne_eq_false_iff_eq.mpr c6
      clear c6
      by_cases c7 : x5_1.length < 2513169434916
      ·rw [if_pos c7] at H
       have LMc7 := Aside0.mk c7
       clear c7
       obtain ⟨y268, hy268⟩ : ∃ y_ : List (S48), y_ = (x5_1 ++ [(⟨(rd_T48 l0_0 x6_1).f0, (rd_T48 l0_0 x6_1).f1, (rd_T48 l0_0 x6_1).f2, (rd_T48 l0_0 x6_1).f3, (rd_T48 l0_0 x6_1).f4⟩ : S48)]) := ⟨_, rfl⟩
       replace H : (palinoderef14_Level.l0 k1 a1 y268 (wrap64 (x6_1 + 1)) l0_0 l0_1 a0_2) = some r := by first | (rw [hy268]; with_reducible exact H) | (have H2_ := (Option.bind_some _ _).symm.trans H; rw [hy268]; with_reducible exact H2_) | (have H2_ := (Option.bind_some _ _).symm.trans H; with_reducible exact H2_) | with_reducible exact H | (rw [hy268]; exact H) | exact H
       have Ny268 := Aside0.mk hy268
       clear hy268
       have H' := Aside0.mk H
       clear H
       have hcz8_0 : wr.cell? ⟨gb265, 0, none⟩ = some (.slice A0_0 l0_0.length c0_0) := (bcl BK265.out 0).trans rfl
       have hcz8_1 : wr.cell? ⟨gb265, 1, none⟩ = some (.slice A0_1 l0_1.length c0_1) := (bcl BK265.out 1).trans rfl
       have hcz8_2 : wr.cell? ⟨gb265, 2, none⟩ = some (.int .i64 a0_2) := (bcl BK265.out 2).trans rfl
       have hfz8_0 := bfz BK265.out 0
       have hfz8_1 := bfz BK265.out 1
       have hfz8_2 := bfz BK265.out 2
       have p266 : 0 ≤ (x6_1 : Int) := of_decide_eq_true (by first | (with_reducible assumption) | assumption)
       have q266 : x6_1 < (l0_0.length : Int) := of_decide_eq_true (by first | (with_reducible assumption) | assumption)
       obtain ⟨ad266, e266, hx266_0, hx266_1, hx266_2, hx266_3, hx266_4⟩ := at_T48 HR0_0.out x6_1 p266 q266
       cases e266
       replace hx266_0 := (HB.out.cell (World.block_lt_of_cell? w _ hx266_0)).trans hx266_0
       replace hx266_1 := (HB.out.cell (World.block_lt_of_cell? w _ hx266_1)).trans hx266_1
       replace hx266_2 := (HB.out.cell (World.block_lt_of_cell? w _ hx266_2)).trans hx266_2
       replace hx266_3 := (HB.out.cell (World.block_lt_of_cell? w _ hx266_3)).trans hx266_3
       replace hx266_4 := (HB.out.cell (World.block_lt_of_cell? w _ hx266_4)).trans hx266_4
       replace p266 := eq_true p266
       replace q266 := eq_true q266
       have p267 : 0 ≤ (x6_1 : Int) := of_decide_eq_true (by first | (with_reducible assumption) | assumption)
       have q267 : x6_1 < (l0_0.length : Int) := of_decide_eq_true (by first | (with_reducible assumption) | assumption)
       obtain ⟨ad267, e267, hx267_0, hx267_1, hx267_2, hx267_3, hx267_4⟩ := at_T48 HR0_0.out x6_1 p267 q267
       obtain rfl : ad266 = ad267 := (by injection e267)
       replace hx267_0 := (HB.out.cell (World.block_lt_of_cell? w _ hx267_0)).trans hx267_0
       replace hx267_1 := (HB.out.cell (World.block_lt_of_cell? w _ hx267_1)).trans hx267_1
       replace hx267_2 := (HB.out.cell (World.block_lt_of_cell? w _ hx267_2)).trans hx267_2
       replace hx267_3 := (HB.out.cell (World.block_lt_of_cell? w _ hx267_3)).trans hx267_3
       replace hx267_4 := (HB.out.cell (World.block_lt_of_cell? w _ hx267_4)).trans hx267_4
       replace p267 := eq_true p267
       replace q267 := eq_true q267
       go_wp2_with (first | ((with_reducible refine gate_builtin (b := .append) (xs := #[.tmp 22, .tmp 28]) rfl ?_); at_builtin; refine Kd.R_append k48 (w0 := w) w.heap.size rfl (.tmp 22) (.tmp 28) 22 48 (.agg #[(.int .i64 0), (.int .i64 0), (.string ⟨#[]⟩), (.string ⟨#[]⟩), (.int .i64 0)]) 56 rfl Try.underlying22 info48 rfl (by decide) (by omega) u5 x5_1 (⟨(rd_T48 l0_0 x6_1).f0, (rd_T48 l0_0 x6_1).f1, (rd_T48 l0_0 x6_1).f2, (rd_T48 l0_0 x6_1).f3, (rd_T48 l0_0 x6_1).f4⟩ : S48) [.int .i64 ((rd_T48 l0_0 x6_1).f0), .int .i64 ((rd_T48 l0_0 x6_1).f1), .string ((rd_T48 l0_0 x6_1).f2), .string ((rd_T48 l0_0 x6_1).f3), .int .i64 ((rd_T48 l0_0 x6_1).f4)] (fun _ => True) (fun _ => False) rfl rfl ?aP (fun _ hk => hk.elim) ?aF ?aO ?aB ?aS ?aL ?_; (case aP => exact k48_mkM _ _ _ (⟨(rd_T48 l0_0 x6_1).f0, (rd_T48 l0_0 x6_1).f1, (rd_T48 l0_0 x6_1).f2, (rd_T48 l0_0 x6_1).f3, (rd_T48 l0_0 x6_1).f4⟩ : S48)); (case aB => exact (by repeat (first | (with_reducible first | exact HB.out | apply blA | apply blN | apply blD | refine blS ?_ GE265.out) | exact HB.out))); (case aF => exact (fun _ _ => trivial)); (case aO => exact (by (with_reducible repeat (first | apply Kd.R_alloc | apply Kd.R_drewN | apply Kd.R_drew)); exact HO_5.out)); (case aS => exact (blz (by repeat (first | (with_reducible first | exact HB.out | apply blA | apply blN | apply blD | refine blS ?_ GE265.out) | exact HB.out)))); (case aL => have := LMc7.out; omega); intro v269 w9 ho hb hg hat; rw [← Ny268.out] at ho; have n0_ := Aside0.mk (blk_grown (g := gb265) (o := .cells #[.slice (some ad266) l0_0.length c0_0, .slice A0_1 l0_1.length c0_1, .int .i64 a0_2] 25 (0, 0)) (by (with_reducible repeat (first | refine bdN ?_ _ | refine bdD ?_ | refine bdA ?_ _)); exact BK265.out) hg (Kd.R_ne HO_5.out BK265.out (by decide))); have n1_ := Aside0.mk (hb); have n2_ := Aside0.mk (ho); clear BK265; clear HB; clear HO_5; have BK265 := n0_; have HB := n1_; have HO270 := n2_; clear n0_ n1_ n2_; clear ho hb hg hat))
       go_roundg k1
       case measure => have := HK1.out; omega
       case rel => exact ⟨(y268), (wrap64 (x6_1 + 1)), (by first | rfl | (simp; done) | (simp [*]; done)), H', ⟨by have := HK1.out; omega⟩, ⟨by (with_reducible repeat (first | apply Kd.R_alloc | apply Kd.R_drewN | apply Kd.R_drew)); exact HO270.out⟩, ⟨by (with_reducible repeat (first | refine bdN ?_ _ | refine bdD ?_ | refine bdA ?_ _)); exact BK265.out⟩, ⟨by repeat (first | (with_reducible first | exact HB.out | apply blA | apply blN | apply blD | refine blS ?_ GE265.out) | exact HB.out)⟩⟩
      ·rw [if_neg c7] at H
       exact absurd H (by simp)
     ·rw [if_neg c6] at H
      have c6b0 : (((rd_T48 l0_0 x6_1).f1) == a1) = false := beq_eq_false_iff_ne.mpr c6
      have c6b1 : (((rd_T48 l0_0 x6_1).f1) != a1) = true := bne_iff_ne.mpr c6
      have H' := Aside0.mk H
      clear H
      have hcz10_0 : wr.cell? ⟨gb265, 0, none⟩ = some (.slice A0_0 l0_0.length c0_0) := (bcl BK265.out 0).trans rfl
      have hcz10_1 : wr.cell? ⟨gb265, 1, none⟩ = some (.slice A0_1 l0_1.length c0_1) := (bcl BK265.out 1).trans rfl
      have hcz10_2 : wr.cell? ⟨gb265, 2, none⟩ = some (.int .i64 a0_2) := (bcl BK265.out 2).trans rfl
      have hfz10_0 := bfz BK265.out 0
      have hfz10_1 := bfz BK265.out 1
      have hfz10_2 := bfz BK265.out 2
      have p266 : 0 ≤ (x6_1 : Int) := of_decide_eq_true (by first | (with_reducible assumption) | assumption)
      have q266 : x6_1 < (l0_0.length : Int) := of_decide_eq_true (by first | (with_reducible assumption) | assumption)
      obtain ⟨ad266, e266, hx266_0, hx266_1, hx266_2, hx266_3, hx266_4⟩ := at_T48 HR0_0.out x6_1 p266 q266
      cases e266
      replace hx266_0 := (HB.out.cell (World.block_lt_of_cell? w _ hx266_0)).trans hx266_0
      replace hx266_1 := (HB.out.cell (World.block_lt_of_cell? w _ hx266_1)).trans hx266_1
      replace hx266_2 := (HB.out.cell (World.block_lt_of_cell? w _ hx266_2)).trans hx266_2
      replace hx266_3 := (HB.out.cell (World.block_lt_of_cell? w _ hx266_3)).trans hx266_3
      replace hx266_4 := (HB.out.cell (World.block_lt_of_cell? w _ hx266_4)).trans hx266_4
      replace p266 := eq_true p266
      replace q266 := eq_true q266
      go_wp2
      go_roundg k1
      case measure => have := HK1.out; omega
      case rel => exact ⟨(x5_1), (wrap64 (x6_1 + 1)), (by first | rfl | (simp; done) | (simp [*]; done)), H', ⟨by have := HK1.out; omega⟩, ⟨by (with_reducible repeat (first | apply Kd.R_alloc | apply Kd.R_drewN | apply Kd.R_drew)); exact HO_5.out⟩, ⟨by (with_reducible repeat (first | refine bdN ?_ _ | refine bdD ?_ | refine bdA ?_ _)); exact BK265.out⟩, ⟨by repeat (first | (with_reducible first | exact HB.out | apply blA | apply blN | apply blD | refine blS ?_ GE265.out) | exact HB.out)⟩⟩
    ·rw [if_neg c5] at H
     exact absurd H (by simp)
   ·rw [if_neg c4] at H
    have c4b0 : decide (x6_1 < (l0_0.length : Int)) = false := decide_eq_false c4
    clear c4
    obtain rfl := Option.some.inj H
    have hcz11_0 : wr.cell? ⟨gb265, 0, none⟩ = some (.slice A0_0 l0_0.length c0_0) := (bcl BK265.out 0).trans rfl
    have hcz11_1 : wr.cell? ⟨gb265, 1, none⟩ = some (.slice A0_1 l0_1.length c0_1) := (bcl BK265.out 1).trans rfl
    have hcz11_2 : wr.cell? ⟨gb265, 2, none⟩ = some (.int .i64 a0_2) := (bcl BK265.out 2).trans rfl
    have hfz11_0 := bfz BK265.out 0
    have hfz11_1 := bfz BK265.out 1
    have hfz11_2 := bfz BK265.out 2
    go_wp2
    go_ret
    exact ⟨_, by first | rfl | (simp [errW_none, errW_some] <;> rfl) | (simp [*, errW_none, errW_some] <;> rfl), by (with_reducible repeat (first | apply Kd.R_alloc | apply Kd.R_drewN | apply Kd.R_drew)); exact HO_5.out, by repeat (first | (with_reducible first | exact HB.out | apply blA | apply blN | apply blD | refine blS ?_ GE265.out) | exact HB.out)⟩
/-! ### palinoderef16_meets: function 23 -/
def palinoderef16_meets.l0 : Nat → List (S48) → ByteArray → ByteArray → Int → Int → Int → ByteArray → ByteArray → Int → Option (Bool)
 | 0, _, _, _, _, _, _, _, _, _ => none
 | k + 1, x1, x5, x6, x7, x272000, x272001, x272002, x272003, x272004 => if x7 < (x1.length : Int) then (if 0 ≤ x7 then (palinoderef16_meets.l0 k x1 (smn x5 ((rd_T48 x1 x7).f2)) (smx x6 ((rd_T48 x1 x7).f3)) (wrap64 (x7 + 1)) x272000 x272001 x272002 x272003 x272004) else (none)) else (if ((Op.bytesLess x6.toList x272002.toList) = true) then (some false) else (some (!(Op.bytesLess x272003.toList x5.toList))))
def palinoderef16_meets.f (k : Nat) (a0_0 : Int) (a0_1 : Int) (a0_2 : ByteArray) (a0_3 : ByteArray) (a0_4 : Int) (l1 : List (S48)) : Option (Bool) := if (l1.length : Int) = 0 then (some false) else (if 0 < (l1.length : Int) then (palinoderef16_meets.l0 k l1 ((rd_T48 l1 0).f2) ((rd_T48 l1 0).f3) 0 a0_0 a0_1 a0_2 a0_3 a0_4) else (none))
theorem palinoderef16_meets.mono_l : ∀ k, (∀ y0 y1 y2 y3 y4 y5 y6 y7 y8, LeO (palinoderef16_meets.l0 k y0 y1 y2 y3 y4 y5 y6 y7 y8) (palinoderef16_meets.l0 (k + 1) y0 y1 y2 y3 y4 y5 y6 y7 y8))
 | 0 => fun _ _ _ _ _ _ _ _ _ r h => by simp [palinoderef16_meets.l0] at h
 | k + 1 => by
  have ih0 := palinoderef16_meets.mono_l k
  ·intro y0 y1 y2 y3 y4 y5 y6 y7 y8
   unfold palinoderef16_meets.l0
   repeat' first
   | (with_reducible exact ih0 _ _ _ _ _ _ _ _ _)
   | (with_reducible exact LeO.refl _)
   | (with_reducible exact LeO.none _)
   | (with_reducible refine LeO.ite ?_ ?_)
   | (with_reducible refine LeO.bind ?_ (fun _ => ?_))
   | exact ih0 _ _ _ _ _ _ _ _ _
   | exact LeO.none _
   | refine LeO.ite ?_ ?_
   | refine LeO.bind ?_ (fun _ => ?_)
theorem palinoderef16_meets.mono : ∀ a0 a1 a2 a3 a4 a5 k, LeO (palinoderef16_meets.f k a0 a1 a2 a3 a4 a5) (palinoderef16_meets.f (k + 1) a0 a1 a2 a3 a4 a5) := by
 intro a0 a1 a2 a3 a4 a5 k
 have ih0 := palinoderef16_meets.mono_l k
 unfold palinoderef16_meets.f
 repeat' first
   | (with_reducible exact ih0 _ _ _ _ _ _ _ _ _)
   | (with_reducible exact LeO.refl _)
   | (with_reducible exact LeO.none _)
   | (with_reducible refine LeO.ite ?_ ?_)
   | (with_reducible refine LeO.bind ?_ (fun _ => ?_))
   | exact ih0 _ _ _ _ _ _ _ _ _
   | exact LeO.none _
   | refine LeO.ite ?_ ?_
   | refine LeO.bind ?_ (fun _ => ?_)
set_option maxHeartbeats 8000000 in
set_option maxRecDepth 100000 in
theorem palinoderef16_meets.calls (k : Nat) (a0_0 : Int) (a0_1 : Int) (a0_2 : ByteArray) (a0_3 : ByteArray) (a0_4 : Int) (A1 : Option Addr) (c1 : Nat) (l1 : List (S48)) (r : Bool) (w : World) (hr1 : Kd.C k48 w A1 l1.length l1) (hc1 : l1.length ≤ c1) (h : palinoderef16_meets.f k a0_0 a0_1 a0_2 a0_3 a0_4 l1 = some r) :
  Calls Try.prog 23 #[.agg #[.int .i64 a0_0, .int .i64 a0_1, .string a0_2, .string a0_3, .int .i64 a0_4], .slice A1 l1.length c1] w fun e w' => e = .returned (.bool r) ∧ Below w.heap.size w w' := by
 have hu48 := Try.underlying48
 have HR1 := Aside0.mk hr1
 have HC1 := Aside0.mk hc1
 clear hr1 hc1
 have HB := Aside0.mk (Below.refl w.heap.size w)
 have H : (if (l1.length : Int) = 0 then (some false) else (if 0 < (l1.length : Int) then (palinoderef16_meets.l0 k l1 ((rd_T48 l1 0).f2) ((rd_T48 l1 0).f3) 0 a0_0 a0_1 a0_2 a0_3 a0_4) else (none))) = some r := h
 clear h
 by_cases c3 : (l1.length : Int) = 0
 ·rw [if_pos c3] at H
  have c3b0 : ((l1.length : Int) == 0) = true := beq_iff_eq.mpr c3
  have c3b1 : ((l1.length : Int) != 0) = false := bne_eq_false_iff_eq.mpr c3
  clear c3
  obtain rfl := Option.some.inj H
  go_enter Try.func23, Try.ntmps23
  go_wp2_with (first | ((with_reducible refine gate_dst (N := 2) rfl ?_); refine box_event ?hg (N := 2) ?hd (cs := #[.int .i64 a0_0, .int .i64 a0_1, .string a0_2, .string a0_3, .int .i64 a0_4]) (t := 48) ?hr ?_; (case hd => rfl); (case hg => rfl); (case hr => first | (go_simp; done) | (go_simp; rfl)); intro gb271 hg w4 hbox hb; have n0_ := Aside0.mk (bls (by repeat (first | (with_reducible first | exact HB.out | apply blA | apply blN | apply blD) | exact HB.out)) hb); have n1_ := Aside0.mk (hbox); have n2_ := Aside0.mk ((by rw [hg]; exact (blz (by repeat (first | (with_reducible first | exact HB.out | apply blA | apply blN | apply blD) | exact HB.out))) : w.heap.size ≤ gb271)); have n3_ := Aside0.mk ((by rw [hg]; exact (blz (by repeat (first | (with_reducible first | exact HB.out | apply blA | apply blN | apply blD) | exact HB.out))) : w.heap.size ≤ gb271)); clear HB; have HB := n0_; have BK271 := n1_; have GW271 := n2_; have GE271 := n3_; clear n0_ n1_ n2_ n3_; clear hb hbox hg))
  go_ret
  exact ⟨by first | rfl | (simp [errW_none, errW_some] <;> rfl) | (simp [*, errW_none, errW_some] <;> rfl), by repeat (first | (with_reducible first | exact HB.out | apply blA | apply blN | apply blD | refine blS ?_ GE271.out) | exact HB.out)⟩
 ·rw [if_neg c3] at H
  have c3b0 : ((l1.length : Int) == 0) = false := beq_eq_false_iff_ne.mpr c3
  have c3b1 : ((l1.length : Int) != 0) = true := bne_iff_ne.mpr c3
  have c3b2 : ¬ (l1 = []) := fun h_ => c3 (by rw [h_]; rfl)
  by_cases c5 : 0 < (l1.length : Int)
  ·rw [if_pos c5] at H
   have c5b0 : decide (0 < (l1.length : Int)) = true := decide_eq_true c5
   have c5b1 : decide (0 < l1.length) = true := decide_eq_true (by omega)
   clear c5
   have H' := Aside0.mk H
   clear H
   go_enter Try.func23, Try.ntmps23
   go_wp2_with (first | ((with_reducible refine gate_dst (N := 2) rfl ?_); refine box_event ?hg (N := 2) ?hd (cs := #[.int .i64 a0_0, .int .i64 a0_1, .string a0_2, .string a0_3, .int .i64 a0_4]) (t := 48) ?hr ?_; (case hd => rfl); (case hg => rfl); (case hr => first | (go_simp; done) | (go_simp; rfl)); intro gb271 hg w6 hbox hb; have n0_ := Aside0.mk (bls (by repeat (first | (with_reducible first | exact HB.out | apply blA | apply blN | apply blD) | exact HB.out)) hb); have n1_ := Aside0.mk (hbox); have n2_ := Aside0.mk ((by rw [hg]; exact (blz (by repeat (first | (with_reducible first | exact HB.out | apply blA | apply blN | apply blD) | exact HB.out))) : w.heap.size ≤ gb271)); have n3_ := Aside0.mk ((by rw [hg]; exact (blz (by repeat (first | (with_reducible first | exact HB.out | apply blA | apply blN | apply blD) | exact HB.out))) : w.heap.size ≤ gb271)); clear HB; have HB := n0_; have BK271 := n1_; have GW271 := n2_; have GE271 := n3_; clear n0_ n1_ n2_ n3_; clear hb hbox hg; have p272 : 0 ≤ (0 : Int) := (by omega); have q272 : 0 < (l1.length : Int) := of_decide_eq_true (by first | (with_reducible assumption) | assumption); obtain ⟨ad272, e272, hx272_0, hx272_1, hx272_2, hx272_3, hx272_4⟩ := at_T48 HR1.out 0 p272 q272; cases e272; have qi272 : (0 < l1.length) = True := eq_true (by omega); (try rw [show ((0 : Int)).toNat = 0 from rfl] at hx272_0); (try rw [show 0 * 5 = 0 from rfl] at hx272_0); (try rw [Addr.add_zero'] at hx272_0); (try rw [show ((0 : Int)).toNat = 0 from rfl] at hx272_1); (try rw [show 0 * 5 = 0 from rfl] at hx272_1); (try rw [Addr.add_zero'] at hx272_1); (try rw [show ((0 : Int)).toNat = 0 from rfl] at hx272_2); (try rw [show 0 * 5 = 0 from rfl] at hx272_2); (try rw [Addr.add_zero'] at hx272_2); (try rw [show ((0 : Int)).toNat = 0 from rfl] at hx272_3); (try rw [show 0 * 5 = 0 from rfl] at hx272_3); (try rw [Addr.add_zero'] at hx272_3); (try rw [show ((0 : Int)).toNat = 0 from rfl] at hx272_4); (try rw [show 0 * 5 = 0 from rfl] at hx272_4); (try rw [Addr.add_zero'] at hx272_4); replace hx272_0 := (HB.out.cell (World.block_lt_of_cell? w _ hx272_0)).trans hx272_0; replace hx272_1 := (HB.out.cell (World.block_lt_of_cell? w _ hx272_1)).trans hx272_1; replace hx272_2 := (HB.out.cell (World.block_lt_of_cell? w _ hx272_2)).trans hx272_2; replace hx272_3 := (HB.out.cell (World.block_lt_of_cell? w _ hx272_3)).trans hx272_3; replace hx272_4 := (HB.out.cell (World.block_lt_of_cell? w _ hx272_4)).trans hx272_4; replace p272 := eq_true p272; replace q272 := eq_true q272; have p273 : 0 ≤ (0 : Int) := (by omega); have q273 : 0 < (l1.length : Int) := of_decide_eq_true (by first | (with_reducible assumption) | assumption); obtain ⟨ad273, e273, hx273_0, hx273_1, hx273_2, hx273_3, hx273_4⟩ := at_T48 HR1.out 0 p273 q273; obtain rfl : ad272 = ad273 := (by injection e273); have qi273 : (0 < l1.length) = True := eq_true (by omega); (try rw [show ((0 : Int)).toNat = 0 from rfl] at hx273_0); (try rw [show 0 * 5 = 0 from rfl] at hx273_0); (try rw [Addr.add_zero'] at hx273_0); (try rw [show ((0 : Int)).toNat = 0 from rfl] at hx273_1); (try rw [show 0 * 5 = 0 from rfl] at hx273_1); (try rw [Addr.add_zero'] at hx273_1); (try rw [show ((0 : Int)).toNat = 0 from rfl] at hx273_2); (try rw [show 0 * 5 = 0 from rfl] at hx273_2); (try rw [Addr.add_zero'] at hx273_2); (try rw [show ((0 : Int)).toNat = 0 from rfl] at hx273_3); (try rw [show 0 * 5 = 0 from rfl] at hx273_3); (try rw [Addr.add_zero'] at hx273_3); (try rw [show ((0 : Int)).toNat = 0 from rfl] at hx273_4); (try rw [show 0 * 5 = 0 from rfl] at hx273_4); (try rw [Addr.add_zero'] at hx273_4); replace hx273_0 := (HB.out.cell (World.block_lt_of_cell? w _ hx273_0)).trans hx273_0; replace hx273_1 := (HB.out.cell (World.block_lt_of_cell? w _ hx273_1)).trans hx273_1; replace hx273_2 := (HB.out.cell (World.block_lt_of_cell? w _ hx273_2)).trans hx273_2; replace hx273_3 := (HB.out.cell (World.block_lt_of_cell? w _ hx273_3)).trans hx273_3; replace hx273_4 := (HB.out.cell (World.block_lt_of_cell? w _ hx273_4)).trans hx273_4; replace p273 := eq_true p273; replace q273 := eq_true q273))
   go_loopg [5, 6, 7] k (fun kq v5 v6 v7 w' => ∃ (x5_1 : ByteArray) (x6_1 : ByteArray) (x7_1 : Int), v5 = .string x5_1 ∧ v6 = .string x6_1 ∧ v7 = .int .i64 x7_1 ∧ Aside0 (palinoderef16_meets.l0 kq l1 x5_1 x6_1 x7_1 a0_0 a0_1 a0_2 a0_3 a0_4 = some r) ∧ Aside0 (kq ≤ k) ∧ Aside0 (w'.heap[gb271]? = some (.cells #[.int .i64 a0_0, .int .i64 a0_1, .string a0_2, .string a0_3, .int .i64 a0_4] 48 (0, 0))) ∧ Aside0 (Below w.heap.size w w'))
   case atStart => exact ⟨((rd_T48 l1 0).f2), ((rd_T48 l1 0).f3), (0), (by first | rfl | (simp; done) | (simp [*]; done)), (by first | rfl | (simp; done) | (simp [*]; done)), (by first | rfl | (simp; done) | (simp [*]; done)), H', ⟨Nat.le_refl _⟩, ⟨by (with_reducible repeat (first | refine bdN ?_ _ | refine bdD ?_ | refine bdA ?_ _)); exact BK271.out⟩, ⟨by repeat (first | (with_reducible first | exact HB.out | apply blA | apply blN | apply blD | refine blS ?_ GE271.out) | exact HB.out)⟩⟩
   case round =>
    clear H'
    try clear c1
    try clear c2
    try clear p2
    try clear q2
    try clear hx2
    try clear qi2
    try clear c3
    try clear c3b0
    try clear c3b1
    try clear c3b2
    try clear c5
    try clear c5b0
    try clear c5b1
    try clear hx272_0
    try clear hx272_1
    try clear hx272_2
    try clear hx272_3
    try clear hx272_4
    try clear hx273_0
    try clear hx273_1
    try clear hx273_2
    try clear hx273_3
    try clear hx273_4
    try clear p272
    try clear p273
    try clear q272
    try clear q273
    obtain ⟨x5_1, x6_1, x7_1, rfl, rfl, rfl, HA, HK1, BK271, HB⟩ := hrel
    cases gk with
    | zero => exact absurd HA.out (by simp [palinoderef16_meets.l0])
    | succ k1 =>
     have H := HA.out
     clear HA
     simp only [palinoderef16_meets.l0] at H
     by_cases c7 : x7_1 < (l1.length : Int)
     ·rw [if_pos c7] at H
      have c7b0 : decide (x7_1 < (l1.length : Int)) = true := decide_eq_true c7
      clear c7
      by_cases c8 : 0 ≤ x7_1
      ·rw [if_pos c8] at H
       have c8b0 : decide (0 ≤ x7_1) = true := decide_eq_true c8
       clear c8
       have H' := Aside0.mk H
       clear H
       have p274 : 0 ≤ (x7_1 : Int) := of_decide_eq_true (by first | (with_reducible assumption) | assumption)
       have q274 : x7_1 < (l1.length : Int) := of_decide_eq_true (by first | (with_reducible assumption) | assumption)
       obtain ⟨ad274, e274, hx274_0, hx274_1, hx274_2, hx274_3, hx274_4⟩ := at_T48 HR1.out x7_1 p274 q274
       obtain rfl : ad272 = ad274 := (by injection e274)
       replace hx274_0 := (HB.out.cell (World.block_lt_of_cell? w _ hx274_0)).trans hx274_0
       replace hx274_1 := (HB.out.cell (World.block_lt_of_cell? w _ hx274_1)).trans hx274_1
       replace hx274_2 := (HB.out.cell (World.block_lt_of_cell? w _ hx274_2)).trans hx274_2
       replace hx274_3 := (HB.out.cell (World.block_lt_of_cell? w _ hx274_3)).trans hx274_3
       replace hx274_4 := (HB.out.cell (World.block_lt_of_cell? w _ hx274_4)).trans hx274_4
       replace p274 := eq_true p274
       replace q274 := eq_true q274
       have p275 : 0 ≤ (x7_1 : Int) := of_decide_eq_true (by first | (with_reducible assumption) | assumption)
       have q275 : x7_1 < (l1.length : Int) := of_decide_eq_true (by first | (with_reducible assumption) | assumption)
       obtain ⟨ad275, e275, hx275_0, hx275_1, hx275_2, hx275_3, hx275_4⟩ := at_T48 HR1.out x7_1 p275 q275
       obtain rfl : ad272 = ad275 := (by injection e275)
       replace hx275_0 := (HB.out.cell (World.block_lt_of_cell? w _ hx275_0)).trans hx275_0
       replace hx275_1 := (HB.out.cell (World.block_lt_of_cell? w _ hx275_1)).trans hx275_1
       replace hx275_2 := (HB.out.cell (World.block_lt_of_cell? w _ hx275_2)).trans hx275_2
       replace hx275_3 := (HB.out.cell (World.block_lt_of_cell? w _ hx275_3)).trans hx275_3
       replace hx275_4 := (HB.out.cell (World.block_lt_of_cell? w _ hx275_4)).trans hx275_4
       replace p275 := eq_true p275
       replace q275 := eq_true q275
       go_wp2
       go_roundg k1
       case measure => have := HK1.out; omega
       case rel => exact ⟨(smn x5_1 ((rd_T48 l1 x7_1).f2)), (smx x6_1 ((rd_T48 l1 x7_1).f3)), (wrap64 (x7_1 + 1)), (by first | rfl | (simp; done) | (simp [*]; done)), (by first | rfl | (simp; done) | (simp [*]; done)), (by first | rfl | (simp; done) | (simp [*]; done)), H', ⟨by have := HK1.out; omega⟩, ⟨by (with_reducible repeat (first | refine bdN ?_ _ | refine bdD ?_ | refine bdA ?_ _)); exact BK271.out⟩, ⟨by repeat (first | (with_reducible first | exact HB.out | apply blA | apply blN | apply blD | refine blS ?_ GE271.out) | exact HB.out)⟩⟩
      ·rw [if_neg c8] at H
       exact absurd H (by simp)
     ·rw [if_neg c7] at H
      have c7b0 : decide (x7_1 < (l1.length : Int)) = false := decide_eq_false c7
      clear c7
      by_cases c9 : ((Op.bytesLess x6_1.toList a0_2.toList) = true)
      ·rw [if_pos c9] at H
       have c9b0 : (Op.bytesLess x6_1.toList a0_2.toList) = true := c9
       clear c9
       obtain rfl := Option.some.inj H
       have hcz10_0 : wr.cell? ⟨gb271, 0, none⟩ = some (.int .i64 a0_0) := (bcl BK271.out 0).trans rfl
       have hcz10_1 : wr.cell? ⟨gb271, 1, none⟩ = some (.int .i64 a0_1) := (bcl BK271.out 1).trans rfl
       have hcz10_2 : wr.cell? ⟨gb271, 2, none⟩ = some (.string a0_2) := (bcl BK271.out 2).trans rfl
       have hcz10_3 : wr.cell? ⟨gb271, 3, none⟩ = some (.string a0_3) := (bcl BK271.out 3).trans rfl
       have hcz10_4 : wr.cell? ⟨gb271, 4, none⟩ = some (.int .i64 a0_4) := (bcl BK271.out 4).trans rfl
       have hfz10_0 := bfz BK271.out 0
       have hfz10_1 := bfz BK271.out 1
       have hfz10_2 := bfz BK271.out 2
       have hfz10_3 := bfz BK271.out 3
       have hfz10_4 := bfz BK271.out 4
       go_wp2
       go_ret
       exact ⟨by first | rfl | (simp [errW_none, errW_some] <;> rfl) | (simp [*, errW_none, errW_some] <;> rfl), by repeat (first | (with_reducible first | exact HB.out | apply blA | apply blN | apply blD | refine blS ?_ GE271.out) | exact HB.out)⟩
      ·rw [if_neg c9] at H
       have c9b0 : (Op.bytesLess x6_1.toList a0_2.toList) = false := by simpa using c9
       clear c9
       obtain rfl := Option.some.inj H
       have hcz11_0 : wr.cell? ⟨gb271, 0, none⟩ = some (.int .i64 a0_0) := (bcl BK271.out 0).trans rfl
       have hcz11_1 : wr.cell? ⟨gb271, 1, none⟩ = some (.int .i64 a0_1) := (bcl BK271.out 1).trans rfl
       have hcz11_2 : wr.cell? ⟨gb271, 2, none⟩ = some (.string a0_2) := (bcl BK271.out 2).trans rfl
       have hcz11_3 : wr.cell? ⟨gb271, 3, none⟩ = some (.string a0_3) := (bcl BK271.out 3).trans rfl
       have hcz11_4 : wr.cell? ⟨gb271, 4, none⟩ = some (.int .i64 a0_4) := (bcl BK271.out 4).trans rfl
       have hfz11_0 := bfz BK271.out 0
       have hfz11_1 := bfz BK271.out 1
       have hfz11_2 := bfz BK271.out 2
       have hfz11_3 := bfz BK271.out 3
       have hfz11_4 := bfz BK271.out 4
       go_wp2
       go_ret
       exact ⟨by first | rfl | (simp [errW_none, errW_some] <;> rfl) | (simp [*, errW_none, errW_some] <;> rfl), by repeat (first | (with_reducible first | exact HB.out | apply blA | apply blN | apply blD | refine blS ?_ GE271.out) | exact HB.out)⟩
  ·rw [if_neg c5] at H
   exact absurd H (by simp)
end Go.Proofs.Ytonhjkghpkhioaa.PA

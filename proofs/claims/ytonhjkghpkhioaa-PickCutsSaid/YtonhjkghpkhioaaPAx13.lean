-- printed by a program of this session (wip/myprint.py), after the kit's print
import Derived.Test.YtonhjkghpkhioaaPAx0
import Derived.Test.YtonhjkghpkhioaaPAx5
import Derived.Test.YtonhjkghpkhioaaPAx7
import Derived.Test.YtonhjkghpkhioaaPAx9
import Derived.Test.YtonhjkghpkhioaaPAx12
import Derived.Test.YtonhjkghpkhioaaHExamples
namespace Go.Proofs.Ytonhjkghpkhioaa.PA
open Go.RowKit Go.Proofs.YtonhjkghpkhioaaW.PrintWords Go.Proofs.YtonhjkghpkhioaaW.PrintLast Go.Proofs.YtonhjkghpkhioaaW.PrintMore
attribute [local go_sem] max2_int min2_int max_two min_two max_three min_three max_four min_four   -- for this text's walks alone
set_option linter.unusedVariables false
set_option linter.unusedSimpArgs false
/-! ### palinodelaw16_numbers: function 8 -/
def palinodelaw16_numbers.l0 : Nat → List Int → List Int → Int → Option (Bool)
 | 0, _, _, _ => none
 | k + 1, x0, x1, x5 => if x5 < (x0.length : Int) then (if 0 ≤ x5 then (if x5 < (x1.length : Int) then (if (rd x0 x5) = (rd x1 x5) then (palinodelaw16_numbers.l0 k x0 x1 (wrap64 (x5 + 1))) else (some false)) else (none)) else (none)) else (some true)
def palinodelaw16_numbers.f (k : Nat) (l0 : List Int) (l1 : List Int) : Option (Bool) := if (l0.length : Int) = (l1.length : Int) then (palinodelaw16_numbers.l0 k l0 l1 0) else (some false)
theorem palinodelaw16_numbers.mono_l : ∀ k, (∀ y0 y1 y2, LeO (palinodelaw16_numbers.l0 k y0 y1 y2) (palinodelaw16_numbers.l0 (k + 1) y0 y1 y2))
 | 0 => fun _ _ _ r h => by simp [palinodelaw16_numbers.l0] at h
 | k + 1 => by
  have ih0 := palinodelaw16_numbers.mono_l k
  ·intro y0 y1 y2
   unfold palinodelaw16_numbers.l0
   repeat' first
   | (with_reducible exact ih0 _ _ _)
   | (with_reducible exact LeO.refl _)
   | (with_reducible exact LeO.none _)
   | (with_reducible refine LeO.ite ?_ ?_)
   | (with_reducible refine LeO.bind ?_ (fun _ => ?_))
   | exact ih0 _ _ _
   | exact LeO.none _
   | refine LeO.ite ?_ ?_
   | refine LeO.bind ?_ (fun _ => ?_)
theorem palinodelaw16_numbers.mono : ∀ a0 a1 k, LeO (palinodelaw16_numbers.f k a0 a1) (palinodelaw16_numbers.f (k + 1) a0 a1) := by
 intro a0 a1 k
 have ih0 := palinodelaw16_numbers.mono_l k
 unfold palinodelaw16_numbers.f
 repeat' first
   | (with_reducible exact ih0 _ _ _)
   | (with_reducible exact LeO.refl _)
   | (with_reducible exact LeO.none _)
   | (with_reducible refine LeO.ite ?_ ?_)
   | (with_reducible refine LeO.bind ?_ (fun _ => ?_))
   | exact ih0 _ _ _
   | exact LeO.none _
   | refine LeO.ite ?_ ?_
   | refine LeO.bind ?_ (fun _ => ?_)
/-! ### palinodelaw16_PickPicks: function 3 -/
def palinodelaw16_PickPicks.f (k : Nat) (l0_0 : List (S48)) (l0_1 : List Int) (a0_2 : Int) (a1 : Int) : Option (Bool) := (palinodelaw16_examples.f).bind fun t320 => (if 0 ≤ (mn (l0_0.length : Int) 60) then (if (mn (l0_0.length : Int) 60) ≤ (l0_0.length : Int) then ((some (l0_0.take ((mn (l0_0.length : Int) 60) : Int).toNat : List (S48))).bind fun y321 => ((pick_Pick.f k y321 l0_1 a0_2).bind fun bt325 => ((palinoderef16_Pick.f k y321 l0_1 a0_2).bind fun bt335 => ((palinodelaw16_numbers.f k bt325.2.1 bt335.2.1).bind fun t345 => ((palinodelaw16_numbers.f k bt325.2.2.1 bt335.2.2.1).bind fun t346 => (if t320 = true then (if (bt325.2.2.2.2 == bt335.2.2.2.2) = true then (if bt325.1 = bt335.1 then (if (bt325.2.2.2.1 == bt335.2.2.2.1) = true then (if t345 = true then (if t346 = true then ((pick_Limit.f a1).bind fun t347 => ((palinoderef16_Limit.f a1).bind fun t348 => (some (t347 == t348)))) else (some false)) else (some false)) else (some false)) else (some false)) else (some false)) else (some false))))))) else (none)) else (none))
theorem palinodelaw16_PickPicks.mono : ∀ a0 a1 a2 a3 k, LeO (palinodelaw16_PickPicks.f k a0 a1 a2 a3) (palinodelaw16_PickPicks.f (k + 1) a0 a1 a2 a3) := by
 intro a0 a1 a2 a3 k
 unfold palinodelaw16_PickPicks.f
 repeat' first
   | (with_reducible exact palinodelaw16_numbers.mono _ _ _)
   | (with_reducible exact palinoderef16_Pick.mono _ _ _ _)
   | (with_reducible exact pick_Pick.mono _ _ _ _)
   | (with_reducible exact LeO.refl _)
   | (with_reducible exact LeO.none _)
   | (with_reducible refine LeO.ite ?_ ?_)
   | (with_reducible refine LeO.bind ?_ (fun _ => ?_))
   | exact palinodelaw16_numbers.mono _ _ _
   | exact palinoderef16_Pick.mono _ _ _ _
   | exact pick_Pick.mono _ _ _ _
   | exact LeO.none _
   | refine LeO.ite ?_ ?_
   | refine LeO.bind ?_ (fun _ => ?_)
/-! ### palinoderef16_Cut: function 11 -/
def palinoderef16_Cut.l0 : Nat → List (S45) → Int → List (List (S45)) → Int → Int → Option ((List (List (S45))) × Bool)
 | 0, _, _, _, _, _ => none
 | k + 1, x0, x1, x6, x7, x8 => if x8 < (x0.length : Int) then (if x8 = (wrap64 ((x0.length : Int) - 1)) then (if (wrap64 ((wrap64 (x8 + 1)) - x7)) ≥ x1 then (if 0 ≤ x7 then (if x7 ≤ (wrap64 (x8 + 1)) then (if (wrap64 (x8 + 1)) ≤ (x0.length : Int) then (if x6.length < 5864062014805 then (palinoderef16_Cut.l0 k x0 x1 (x6 ++ [((x0.take ((wrap64 (x8 + 1)) : Int).toNat).drop (x7 : Int).toNat)]) (wrap64 (x8 + 1)) (wrap64 (x8 + 1))) else (none)) else (none)) else (none)) else (none)) else (if 0 ≤ x7 then (if x7 ≤ (wrap64 (x8 + 1)) then (if (wrap64 (x8 + 1)) ≤ (x0.length : Int) then (if x6.length < 5864062014805 then (palinoderef16_Cut.l0 k x0 x1 (x6 ++ [((x0.take ((wrap64 (x8 + 1)) : Int).toNat).drop (x7 : Int).toNat)]) (wrap64 (x8 + 1)) (wrap64 (x8 + 1))) else (none)) else (none)) else (none)) else (none))) else (if 0 ≤ (wrap64 (x8 + 1)) then (if (wrap64 (x8 + 1)) < (x0.length : Int) then (if 0 ≤ x8 then (if ((rd_T45 x0 (wrap64 (x8 + 1))).f0).toList = ((rd_T45 x0 x8).f0).toList then (palinoderef16_Cut.l0 k x0 x1 x6 x7 (wrap64 (x8 + 1))) else (if (wrap64 ((wrap64 (x8 + 1)) - x7)) ≥ x1 then (if 0 ≤ x7 then (if x7 ≤ (wrap64 (x8 + 1)) then (if (wrap64 (x8 + 1)) ≤ (x0.length : Int) then (if x6.length < 5864062014805 then (palinoderef16_Cut.l0 k x0 x1 (x6 ++ [((x0.take ((wrap64 (x8 + 1)) : Int).toNat).drop (x7 : Int).toNat)]) (wrap64 (x8 + 1)) (wrap64 (x8 + 1))) else (none)) else (none)) else (none)) else (none)) else (palinoderef16_Cut.l0 k x0 x1 x6 x7 (wrap64 (x8 + 1))))) else (none)) else (none)) else (none))) else (some (x6, true))
def palinoderef16_Cut.f (k : Nat) (l0 : List (S45)) (a1 : Int) : Option ((List (List (S45))) × Bool) := if a1 < 1 then (some (([] : List (List (S45))), false)) else (palinoderef16_Cut.l0 k l0 a1 ([] : List (List (S45))) 0 0)
theorem palinoderef16_Cut.mono_l : ∀ k, (∀ y0 y1 y2 y3 y4, LeO (palinoderef16_Cut.l0 k y0 y1 y2 y3 y4) (palinoderef16_Cut.l0 (k + 1) y0 y1 y2 y3 y4))
 | 0 => fun _ _ _ _ _ r h => by simp [palinoderef16_Cut.l0] at h
 | k + 1 => by
  have ih0 := palinoderef16_Cut.mono_l k
  ·intro y0 y1 y2 y3 y4
   unfold palinoderef16_Cut.l0
   repeat' first
   | (with_reducible exact ih0 _ _ _ _ _)
   | (with_reducible exact LeO.refl _)
   | (with_reducible exact LeO.none _)
   | (with_reducible refine LeO.ite ?_ ?_)
   | (with_reducible refine LeO.bind ?_ (fun _ => ?_))
   | exact ih0 _ _ _ _ _
   | exact LeO.none _
   | refine LeO.ite ?_ ?_
   | refine LeO.bind ?_ (fun _ => ?_)
theorem palinoderef16_Cut.mono : ∀ a0 a1 k, LeO (palinoderef16_Cut.f k a0 a1) (palinoderef16_Cut.f (k + 1) a0 a1) := by
 intro a0 a1 k
 have ih0 := palinoderef16_Cut.mono_l k
 unfold palinoderef16_Cut.f
 repeat' first
   | (with_reducible exact ih0 _ _ _ _ _)
   | (with_reducible exact LeO.refl _)
   | (with_reducible exact LeO.none _)
   | (with_reducible refine LeO.ite ?_ ?_)
   | (with_reducible refine LeO.bind ?_ (fun _ => ?_))
   | exact ih0 _ _ _ _ _
   | exact LeO.none _
   | refine LeO.ite ?_ ?_
   | refine LeO.bind ?_ (fun _ => ?_)
set_option maxHeartbeats 8000000 in
set_option maxRecDepth 100000 in
theorem palinoderef16_Cut.calls (k : Nat) (P0_ : Nat → Prop) (A0 : Option Addr) (c0 : Nat) (l0 : List (S45)) (a1 : Int) (r1 : List (List (S45))) (r2 : Bool) (w : World) (hs0 : Kd.V k45 45 w w.heap.size (fun k_ => P0_ k_) (.slice A0 l0.length c0) l0) (h : palinoderef16_Cut.f k l0 a1 = some (r1, r2)) :
  Calls Try.prog 11 #[.slice A0 l0.length c0, .int .i64 a1] w fun e w' => ∃ v0_ : Value, e = .returned (.tuple #[v0_, .bool r2]) ∧ Kd.N (Kd.slice 45 k45) 34 w' w.heap.size (fun k_ => (P0_ k_ ∨ w.heap.size ≤ k_)) v0_ r1 ∧ Below w.heap.size w w' := by
 have HO0 := Aside0.mk (show Kd.V k45 45 w w.heap.size (fun k_ => (P0_ k_ ∨ w.heap.size ≤ k_)) (.slice A0 l0.length c0) l0 from Kd.V_mono hs0 (fun k_ hk => .inl hk))
 have HB := Aside0.mk (Below.refl w.heap.size w)
 have H : (if a1 < 1 then (some (([] : List (List (S45))), false)) else (palinoderef16_Cut.l0 k l0 a1 ([] : List (List (S45))) 0 0)) = some (r1, r2) := h
 clear h
 by_cases c3 : a1 < 1
 ·rw [if_pos c3] at H
  have c3b0 : decide (a1 < 1) = true := decide_eq_true c3
  clear c3
  simp only [Option.some.injEq, Prod.mk.injEq] at H
  obtain ⟨rfl, rfl⟩ := H
  go_enter Try.func11, Try.ntmps11
  go_wp2
  repeat (go_quiet (fail); try go_wp2)
  go_ret2
  exact ⟨_, by first | rfl | (simp [errW_none, errW_some] <;> rfl) | (simp [*, errW_none, errW_some] <;> rfl), by first | exact Kd.S_nil _ _ _ _ _ | exact Kd.N_nil _ _ _ _ _ | exact Kd.V_nil _ _ _ _ _ | exact Kd.Q_nil _ _ _ _ _ | exact Kd.R_nil _ _ _ _ _, by repeat (first | (with_reducible first | exact HB.out | apply blA | apply blN | apply below_drew1) | exact HB.out)⟩
 ·rw [if_neg c3] at H
  have c3b0 : decide (a1 < 1) = false := decide_eq_false c3
  clear c3
  have H' := Aside0.mk H
  clear H
  go_enter Try.func11, Try.ntmps11
  go_wp2
  repeat (go_quiet (fail); try go_wp2)
  go_loopg [6, 7, 8] k (fun kq v6 v7 v8 w' => ∃ (x6_1 : List (List (S45))) (x7_1 : Int) (x8_1 : Int), v7 = .int .i64 x7_1 ∧ v8 = .int .i64 x8_1 ∧ Aside0 (palinoderef16_Cut.l0 kq l0 a1 x6_1 x7_1 x8_1 = some (r1, r2)) ∧ Aside0 (kq ≤ k) ∧ Aside0 (Kd.V k45 45 w' w.heap.size (fun k_ => (P0_ k_ ∨ w.heap.size ≤ k_) ∧ some k_ ≠ (v6 : Value).ownBlock) (.slice A0 l0.length c0) l0) ∧ Aside0 (Kd.N (Kd.slice 45 k45) 34 w' w.heap.size (fun k_ => (P0_ k_ ∨ w.heap.size ≤ k_)) v6 x6_1) ∧ Aside0 (Below w.heap.size w w'))
  case atStart => exact ⟨(([] : List (List (S45)))), (0), (0), (by first | rfl | (simp; done) | (simp [*]; done)), (by first | rfl | (simp; done) | (simp [*]; done)), H', ⟨Nat.le_refl _⟩, ⟨by (with_reducible repeat (first | apply Kd.V_alloc | apply Kd.V_drewN | apply Kd.V_drew)); exact Kd.V_mono HO0.out (fun _ hk => ⟨hk, (by simp [Value.ownBlock])⟩)⟩, ⟨by first | exact Kd.S_nil _ _ _ _ _ | exact Kd.N_nil _ _ _ _ _ | exact Kd.V_nil _ _ _ _ _ | exact Kd.Q_nil _ _ _ _ _ | exact Kd.R_nil _ _ _ _ _⟩, ⟨by repeat (first | (with_reducible first | exact HB.out | apply blA | apply blN | apply below_drew1) | exact HB.out)⟩⟩
  case round =>
   clear H'
   try clear c1
   try clear p2
   try clear c3
   try clear c3b0
   obtain ⟨x6_1, x7_1, x8_1, rfl, rfl, HA, HK1, HO_0, HO_6, HB⟩ := hrel
   cases gk with
   | zero => exact absurd HA.out (by simp [palinoderef16_Cut.l0])
   | succ k1 =>
    have H := HA.out
    clear HA
    simp only [palinoderef16_Cut.l0] at H
    by_cases c4 : x8_1 < (l0.length : Int)
    ·rw [if_pos c4] at H
     have c4b0 : decide (x8_1 < (l0.length : Int)) = true := decide_eq_true c4
     clear c4
     by_cases c5 : x8_1 = (wrap64 ((l0.length : Int) - 1))
     ·rw [if_pos c5] at H
      have c5b0 : (x8_1 == (wrap64 ((l0.length : Int) - 1))) = true := beq_iff_eq.mpr c5
      have c5b1 : (x8_1 != (wrap64 ((l0.length : Int) - 1))) = false := bne_eq_false_iff_eq.mpr c5
      clear c5
      by_cases c6 : (wrap64 ((wrap64 (x8_1 + 1)) - x7_1)) ≥ a1
      ·rw [if_pos c6] at H
       have c6b0 : decide (a1 ≤ (wrap64 ((wrap64 (x8_1 + 1)) - x7_1))) = true := decide_eq_true c6
       clear c6
       by_cases c7 : 0 ≤ x7_1
       ·rw [if_pos c7] at H
        have c7b0 := eq_true c7
        have c7b1 : decide (0 ≤ x7_1) = true := decide_eq_true c7
        clear c7
        by_cases c8 : x7_1 ≤ (wrap64 (x8_1 + 1))
        ·rw [if_pos c8] at H
         have c8b0 := eq_true c8
         have c8b1 : decide (x7_1 ≤ (wrap64 (x8_1 + 1))) = true := decide_eq_true c8
         by_cases c9 : (wrap64 (x8_1 + 1)) ≤ (l0.length : Int)
         ·rw [if_pos c9] at H
          have c9b0 := eq_true c9
          have c9b1 : decide ((wrap64 (x8_1 + 1)) ≤ (l0.length : Int)) = true := decide_eq_true c9
          obtain ⟨y349, hy349⟩ : ∃ y_ : List (S45), y_ = ((l0.take ((wrap64 (x8_1 + 1)) : Int).toNat).drop (x7_1 : Int).toNat) := ⟨_, rfl⟩
          replace H : (if x6_1.length < 5864062014805 then (palinoderef16_Cut.l0 k1 l0 a1 (x6_1 ++ [y349]) (wrap64 (x8_1 + 1)) (wrap64 (x8_1 + 1))) else (none)) = some (r1, r2) := by first | (rw [hy349]; with_reducible exact H) | (have H2_ := (Option.bind_some _ _).symm.trans H; rw [hy349]; with_reducible exact H2_) | (have H2_ := (Option.bind_some _ _).symm.trans H; with_reducible exact H2_) | with_reducible exact H | (rw [hy349]; exact H) | exact H
          have Ny349 := Aside0.mk hy349
          clear hy349
          by_cases c10 : x6_1.length < 5864062014805
          ·rw [if_pos c10] at H
           have LMc10 := Aside0.mk c10
           clear c10
           obtain ⟨y354, hy354⟩ : ∃ y_ : List (List (S45)), y_ = (x6_1 ++ [y349]) := ⟨_, rfl⟩
           replace H : (palinoderef16_Cut.l0 k1 l0 a1 y354 (wrap64 (x8_1 + 1)) (wrap64 (x8_1 + 1))) = some (r1, r2) := by first | (rw [hy354]; with_reducible exact H) | (have H2_ := (Option.bind_some _ _).symm.trans H; rw [hy354]; with_reducible exact H2_) | (have H2_ := (Option.bind_some _ _).symm.trans H; with_reducible exact H2_) | with_reducible exact H | (rw [hy354]; exact H) | exact H
           have Ny354 := Aside0.mk hy354
           clear hy354
           have H' := Aside0.mk H
           clear H
           have q11 : ((wrap64 (x8_1 + 1)) : Int) ≤ ((l0.length : Int) : Int) := of_decide_eq_true (by first | (with_reducible assumption) | assumption)
           obtain ⟨i011, hi011, _, hsz11, _⟩ := info_parts info45
           have hroom11 : l0.length ≤ c0 := (Kd.V_reads' HO_0.out).2.1
           have hC11 : Kd.F k45 _ _ A0 l0.length l0 := (Kd.V_at (base := w.heap.size) HO_0.out).2.2
           have ql11 : (x7_1 : Int) ≤ ((wrap64 (x8_1 + 1)) : Int) := of_decide_eq_true (by first | (with_reducible assumption) | assumption)
           have q011 : (0 : Int) ≤ (x7_1 : Int) := of_decide_eq_true (by first | (with_reducible assumption) | assumption)
           have hcut11 := cut_mid (P := Try.prog) 34 45 .i64 .i64 Try.underlying34 hi011 4 hsz11 A0 l0.length c0 x7_1 (wrap64 (x8_1 + 1)) q011 ql11 q11 hroom11
           have hr11 := Kd.F_mid (lo := (x7_1 : Int).toNat) (hi := ((wrap64 (x8_1 + 1)) : Int).toNat) (c := c0) hC11 (by omega) (by omega) hroom11
           obtain ⟨A11, hA11⟩ : ∃ A1, A1 = (if c0 = (x7_1 : Int).toNat then A0 else (A0 : Option Addr).map (·.add ((x7_1 : Int).toNat * 4))) := ⟨_, rfl⟩
           obtain ⟨c11, hc11⟩ : ∃ c1, c1 = c0 - (x7_1 : Int).toNat := ⟨_, rfl⟩
           have hy11 : y349.length = ((wrap64 (x8_1 + 1)) : Int).toNat - (x7_1 : Int).toNat := (by rw [Ny349.out, List.length_drop, List.length_take] <;> omega)
           rw [show ((l0).take ((wrap64 (x8_1 + 1)) : Int).toNat).drop (x7_1 : Int).toNat = y349 from Ny349.out.symm] at hr11
           replace hr11 : Kd.F k45 _ _ A11 y349.length y349 := (by rw [hA11]; exact hr11)
           rw [← hy11, ← hA11, ← hc11] at hcut11
           have HO353 := Aside0.mk (show Kd.V k45 45 _ w.heap.size _ (.slice A11 y349.length c11) y349 from Kd.V_mk (by rw [hy11, hc11]; exact Nat.sub_le_sub_right (Nat.le_trans (by omega) hroom11) _) hr11)
           have HC353 := Aside0.mk (show y349.length ≤ c11 from by rw [hy11, hc11]; exact Nat.sub_le_sub_right (Nat.le_trans (by omega) hroom11) _)
           clear hr11 hC11 hroom11 hi011 hsz11 hc11
           have KY11 := Aside0.mk hy11
           have KA11 := Aside0.mk hA11
           clear hy11 hA11
           replace q11 := eq_true q11
           go_wp2_with (first | ((with_reducible refine gate_builtin (b := .append) (xs := #[.tmp 53, .tmp 59]) rfl ?_); (try (refine gate_guard (by rfl) ?_; dsimp only)); at_builtin; refine Kd.N_append (Kd.slice 45 k45) (w0 := w) w.heap.size rfl (.tmp 53) (.tmp 59) 35 34 (.slice none 0 0) 24 rfl Try.underlying35 info34 rfl (by decide) (by omega) u6 x6_1 y349 [.slice A11 y349.length c11] (fun k_ => (P0_ k_ ∨ w.heap.size ≤ k_)) (fun k_ => ((fun k_ => (P0_ k_ ∨ w.heap.size ≤ k_))) k_ ∧ some k_ ≠ (u6 : Value).ownBlock) rfl rfl ?aP (fun _ hk => hk) ?aF ?aO ?aB ?aS ?aL ?_; (case aP => exact (Kd.FK_slice_mk (Kd.V_reads' (e := 0) (base := 0) (Kd.V_mono (ok' := (fun k_ => ((fun k_ => (P0_ k_ ∨ w.heap.size ≤ k_))) k_ ∧ some k_ ≠ (u6 : Value).ownBlock)) (HO353.out) (fun k_ hk => ⟨hk.1, hk.2⟩))).2.1 (Kd.V_F (e := 0) (base := 0) (Kd.V_mono (ok' := (fun k_ => ((fun k_ => (P0_ k_ ∨ w.heap.size ≤ k_))) k_ ∧ some k_ ≠ (u6 : Value).ownBlock)) (HO353.out) (fun k_ hk => ⟨hk.1, hk.2⟩))))); (case aB => exact (by repeat (first | (with_reducible first | exact HB.out | apply blA | apply blN | apply below_drew1) | exact HB.out))); (case aF => exact (fun k_ hk => (.inr (Nat.le_trans (blz (by repeat (first | (with_reducible first | exact HB.out | apply blA | apply blN | apply below_drew1) | exact HB.out))) hk)))); (case aO => exact (by (with_reducible repeat (first | apply Kd.N_alloc | apply Kd.N_drewN | apply Kd.N_drew)); exact HO_6.out)); (case aS => exact (blz (by repeat (first | (with_reducible first | exact HB.out | apply blA | apply blN | apply below_drew1) | exact HB.out)))); (case aL => have := LMc10.out; omega); intro v355 w12 ho hb hg hat; rw [← Ny354.out] at ho; have n0_ := Aside0.mk (Kd.V_afterv (ok := (fun k_ => (P0_ k_ ∨ w.heap.size ≤ k_))) (by (with_reducible repeat (first | apply Kd.V_alloc | apply Kd.V_drewN | apply Kd.V_drew)); exact HO_0.out) hg hat); have n1_ := Aside0.mk (Kd.V_afterv (ok := (fun k_ => (P0_ k_ ∨ w.heap.size ≤ k_))) (by (with_reducible repeat (first | apply Kd.V_alloc | apply Kd.V_drewN | apply Kd.V_drew)); exact HO353.out) hg hat); have n2_ := Aside0.mk (hb); have n3_ := Aside0.mk (ho); clear HO_0; clear HO353; clear HB; clear HO_6; have HO_0 := n0_; have HO353 := n1_; have HB := n2_; have HO356 := n3_; clear n0_ n1_ n2_ n3_; clear ho hb hg hat))
           repeat (go_quiet (first | ((with_reducible refine gate_builtin (b := .append) (xs := #[.tmp 53, .tmp 59]) rfl ?_); (try (refine gate_guard (by rfl) ?_; dsimp only)); at_builtin; refine Kd.N_append (Kd.slice 45 k45) (w0 := w) w.heap.size rfl (.tmp 53) (.tmp 59) 35 34 (.slice none 0 0) 24 rfl Try.underlying35 info34 rfl (by decide) (by omega) u6 x6_1 y349 [.slice A11 y349.length c11] (fun k_ => (P0_ k_ ∨ w.heap.size ≤ k_)) (fun k_ => ((fun k_ => (P0_ k_ ∨ w.heap.size ≤ k_))) k_ ∧ some k_ ≠ (u6 : Value).ownBlock) rfl rfl ?aP (fun _ hk => hk) ?aF ?aO ?aB ?aS ?aL ?_; (case aP => exact (Kd.FK_slice_mk (Kd.V_reads' (e := 0) (base := 0) (Kd.V_mono (ok' := (fun k_ => ((fun k_ => (P0_ k_ ∨ w.heap.size ≤ k_))) k_ ∧ some k_ ≠ (u6 : Value).ownBlock)) (HO353.out) (fun k_ hk => ⟨hk.1, hk.2⟩))).2.1 (Kd.V_F (e := 0) (base := 0) (Kd.V_mono (ok' := (fun k_ => ((fun k_ => (P0_ k_ ∨ w.heap.size ≤ k_))) k_ ∧ some k_ ≠ (u6 : Value).ownBlock)) (HO353.out) (fun k_ hk => ⟨hk.1, hk.2⟩))))); (case aB => exact (by repeat (first | (with_reducible first | exact HB.out | apply blA | apply blN | apply below_drew1) | exact HB.out))); (case aF => exact (fun k_ hk => (.inr (Nat.le_trans (blz (by repeat (first | (with_reducible first | exact HB.out | apply blA | apply blN | apply below_drew1) | exact HB.out))) hk)))); (case aO => exact (by (with_reducible repeat (first | apply Kd.N_alloc | apply Kd.N_drewN | apply Kd.N_drew)); exact HO_6.out)); (case aS => exact (blz (by repeat (first | (with_reducible first | exact HB.out | apply blA | apply blN | apply below_drew1) | exact HB.out)))); (case aL => have := LMc10.out; omega); intro v355 w12 ho hb hg hat; rw [← Ny354.out] at ho; have n0_ := Aside0.mk (Kd.V_afterv (ok := (fun k_ => (P0_ k_ ∨ w.heap.size ≤ k_))) (by (with_reducible repeat (first | apply Kd.V_alloc | apply Kd.V_drewN | apply Kd.V_drew)); exact HO_0.out) hg hat); have n1_ := Aside0.mk (Kd.V_afterv (ok := (fun k_ => (P0_ k_ ∨ w.heap.size ≤ k_))) (by (with_reducible repeat (first | apply Kd.V_alloc | apply Kd.V_drewN | apply Kd.V_drew)); exact HO353.out) hg hat); have n2_ := Aside0.mk (hb); have n3_ := Aside0.mk (ho); clear HO_0; clear HO353; clear HB; clear HO_6; have HO_0 := n0_; have HO353 := n1_; have HB := n2_; have HO356 := n3_; clear n0_ n1_ n2_ n3_; clear ho hb hg hat)); try go_wp2_with (first | ((with_reducible refine gate_builtin (b := .append) (xs := #[.tmp 53, .tmp 59]) rfl ?_); (try (refine gate_guard (by rfl) ?_; dsimp only)); at_builtin; refine Kd.N_append (Kd.slice 45 k45) (w0 := w) w.heap.size rfl (.tmp 53) (.tmp 59) 35 34 (.slice none 0 0) 24 rfl Try.underlying35 info34 rfl (by decide) (by omega) u6 x6_1 y349 [.slice A11 y349.length c11] (fun k_ => (P0_ k_ ∨ w.heap.size ≤ k_)) (fun k_ => ((fun k_ => (P0_ k_ ∨ w.heap.size ≤ k_))) k_ ∧ some k_ ≠ (u6 : Value).ownBlock) rfl rfl ?aP (fun _ hk => hk) ?aF ?aO ?aB ?aS ?aL ?_; (case aP => exact (Kd.FK_slice_mk (Kd.V_reads' (e := 0) (base := 0) (Kd.V_mono (ok' := (fun k_ => ((fun k_ => (P0_ k_ ∨ w.heap.size ≤ k_))) k_ ∧ some k_ ≠ (u6 : Value).ownBlock)) (HO353.out) (fun k_ hk => ⟨hk.1, hk.2⟩))).2.1 (Kd.V_F (e := 0) (base := 0) (Kd.V_mono (ok' := (fun k_ => ((fun k_ => (P0_ k_ ∨ w.heap.size ≤ k_))) k_ ∧ some k_ ≠ (u6 : Value).ownBlock)) (HO353.out) (fun k_ hk => ⟨hk.1, hk.2⟩))))); (case aB => exact (by repeat (first | (with_reducible first | exact HB.out | apply blA | apply blN | apply below_drew1) | exact HB.out))); (case aF => exact (fun k_ hk => (.inr (Nat.le_trans (blz (by repeat (first | (with_reducible first | exact HB.out | apply blA | apply blN | apply below_drew1) | exact HB.out))) hk)))); (case aO => exact (by (with_reducible repeat (first | apply Kd.N_alloc | apply Kd.N_drewN | apply Kd.N_drew)); exact HO_6.out)); (case aS => exact (blz (by repeat (first | (with_reducible first | exact HB.out | apply blA | apply blN | apply below_drew1) | exact HB.out)))); (case aL => have := LMc10.out; omega); intro v355 w12 ho hb hg hat; rw [← Ny354.out] at ho; have n0_ := Aside0.mk (Kd.V_afterv (ok := (fun k_ => (P0_ k_ ∨ w.heap.size ≤ k_))) (by (with_reducible repeat (first | apply Kd.V_alloc | apply Kd.V_drewN | apply Kd.V_drew)); exact HO_0.out) hg hat); have n1_ := Aside0.mk (Kd.V_afterv (ok := (fun k_ => (P0_ k_ ∨ w.heap.size ≤ k_))) (by (with_reducible repeat (first | apply Kd.V_alloc | apply Kd.V_drewN | apply Kd.V_drew)); exact HO353.out) hg hat); have n2_ := Aside0.mk (hb); have n3_ := Aside0.mk (ho); clear HO_0; clear HO353; clear HB; clear HO_6; have HO_0 := n0_; have HO353 := n1_; have HB := n2_; have HO356 := n3_; clear n0_ n1_ n2_ n3_; clear ho hb hg hat)))
           go_roundg k1
           case measure => have := HK1.out; omega
           case rel => exact ⟨(y354), (wrap64 (x8_1 + 1)), (wrap64 (x8_1 + 1)), (by first | rfl | (simp; done) | (simp [*]; done)), (by first | rfl | (simp; done) | (simp [*]; done)), H', ⟨by have := HK1.out; omega⟩, ⟨by (with_reducible repeat (first | apply Kd.V_alloc | apply Kd.V_drewN | apply Kd.V_drew)); exact HO_0.out⟩, ⟨by (with_reducible repeat (first | apply Kd.N_alloc | apply Kd.N_drewN | apply Kd.N_drew)); exact HO356.out⟩, ⟨by repeat (first | (with_reducible first | exact HB.out | apply blA | apply blN | apply below_drew1) | exact HB.out)⟩⟩
          ·rw [if_neg c10] at H
           exact absurd H (by simp)
         ·rw [if_neg c9] at H
          exact absurd H (by simp)
        ·rw [if_neg c8] at H
         exact absurd H (by simp)
       ·rw [if_neg c7] at H
        exact absurd H (by simp)
      ·rw [if_neg c6] at H
       have c6b0 : decide (a1 ≤ (wrap64 ((wrap64 (x8_1 + 1)) - x7_1))) = false := decide_eq_false c6
       clear c6
       by_cases c13 : 0 ≤ x7_1
       ·rw [if_pos c13] at H
        have c13b0 := eq_true c13
        have c13b1 : decide (0 ≤ x7_1) = true := decide_eq_true c13
        clear c13
        by_cases c14 : x7_1 ≤ (wrap64 (x8_1 + 1))
        ·rw [if_pos c14] at H
         have c14b0 := eq_true c14
         have c14b1 : decide (x7_1 ≤ (wrap64 (x8_1 + 1))) = true := decide_eq_true c14
         by_cases c15 : (wrap64 (x8_1 + 1)) ≤ (l0.length : Int)
         ·rw [if_pos c15] at H
          have c15b0 := eq_true c15
          have c15b1 : decide ((wrap64 (x8_1 + 1)) ≤ (l0.length : Int)) = true := decide_eq_true c15
          obtain ⟨y357, hy357⟩ : ∃ y_ : List (S45), y_ = ((l0.take ((wrap64 (x8_1 + 1)) : Int).toNat).drop (x7_1 : Int).toNat) := ⟨_, rfl⟩
          replace H : (if x6_1.length < 5864062014805 then (palinoderef16_Cut.l0 k1 l0 a1 (x6_1 ++ [y357]) (wrap64 (x8_1 + 1)) (wrap64 (x8_1 + 1))) else (none)) = some (r1, r2) := by first | (rw [hy357]; with_reducible exact H) | (have H2_ := (Option.bind_some _ _).symm.trans H; rw [hy357]; with_reducible exact H2_) | (have H2_ := (Option.bind_some _ _).symm.trans H; with_reducible exact H2_) | with_reducible exact H | (rw [hy357]; exact H) | exact H
          have Ny357 := Aside0.mk hy357
          clear hy357
          by_cases c16 : x6_1.length < 5864062014805
          ·rw [if_pos c16] at H
           have LMc16 := Aside0.mk c16
           clear c16
           obtain ⟨y362, hy362⟩ : ∃ y_ : List (List (S45)), y_ = (x6_1 ++ [y357]) := ⟨_, rfl⟩
           replace H : (palinoderef16_Cut.l0 k1 l0 a1 y362 (wrap64 (x8_1 + 1)) (wrap64 (x8_1 + 1))) = some (r1, r2) := by first | (rw [hy362]; with_reducible exact H) | (have H2_ := (Option.bind_some _ _).symm.trans H; rw [hy362]; with_reducible exact H2_) | (have H2_ := (Option.bind_some _ _).symm.trans H; with_reducible exact H2_) | with_reducible exact H | (rw [hy362]; exact H) | exact H
           have Ny362 := Aside0.mk hy362
           clear hy362
           have H' := Aside0.mk H
           clear H
           have q17 : ((wrap64 (x8_1 + 1)) : Int) ≤ ((l0.length : Int) : Int) := of_decide_eq_true (by first | (with_reducible assumption) | assumption)
           obtain ⟨i017, hi017, _, hsz17, _⟩ := info_parts info45
           have hroom17 : l0.length ≤ c0 := (Kd.V_reads' HO_0.out).2.1
           have hC17 : Kd.F k45 _ _ A0 l0.length l0 := (Kd.V_at (base := w.heap.size) HO_0.out).2.2
           have ql17 : (x7_1 : Int) ≤ ((wrap64 (x8_1 + 1)) : Int) := of_decide_eq_true (by first | (with_reducible assumption) | assumption)
           have q017 : (0 : Int) ≤ (x7_1 : Int) := of_decide_eq_true (by first | (with_reducible assumption) | assumption)
           have hcut17 := cut_mid (P := Try.prog) 34 45 .i64 .i64 Try.underlying34 hi017 4 hsz17 A0 l0.length c0 x7_1 (wrap64 (x8_1 + 1)) q017 ql17 q17 hroom17
           have hr17 := Kd.F_mid (lo := (x7_1 : Int).toNat) (hi := ((wrap64 (x8_1 + 1)) : Int).toNat) (c := c0) hC17 (by omega) (by omega) hroom17
           obtain ⟨A17, hA17⟩ : ∃ A1, A1 = (if c0 = (x7_1 : Int).toNat then A0 else (A0 : Option Addr).map (·.add ((x7_1 : Int).toNat * 4))) := ⟨_, rfl⟩
           obtain ⟨c17, hc17⟩ : ∃ c1, c1 = c0 - (x7_1 : Int).toNat := ⟨_, rfl⟩
           have hy17 : y357.length = ((wrap64 (x8_1 + 1)) : Int).toNat - (x7_1 : Int).toNat := (by rw [Ny357.out, List.length_drop, List.length_take] <;> omega)
           rw [show ((l0).take ((wrap64 (x8_1 + 1)) : Int).toNat).drop (x7_1 : Int).toNat = y357 from Ny357.out.symm] at hr17
           replace hr17 : Kd.F k45 _ _ A17 y357.length y357 := (by rw [hA17]; exact hr17)
           rw [← hy17, ← hA17, ← hc17] at hcut17
           have HO361 := Aside0.mk (show Kd.V k45 45 _ w.heap.size _ (.slice A17 y357.length c17) y357 from Kd.V_mk (by rw [hy17, hc17]; exact Nat.sub_le_sub_right (Nat.le_trans (by omega) hroom17) _) hr17)
           have HC361 := Aside0.mk (show y357.length ≤ c17 from by rw [hy17, hc17]; exact Nat.sub_le_sub_right (Nat.le_trans (by omega) hroom17) _)
           clear hr17 hC17 hroom17 hi017 hsz17 hc17
           have KY17 := Aside0.mk hy17
           have KA17 := Aside0.mk hA17
           clear hy17 hA17
           replace q17 := eq_true q17
           go_wp2_with (first | ((with_reducible refine gate_builtin (b := .append) (xs := #[.tmp 53, .tmp 59]) rfl ?_); (try (refine gate_guard (by rfl) ?_; dsimp only)); at_builtin; refine Kd.N_append (Kd.slice 45 k45) (w0 := w) w.heap.size rfl (.tmp 53) (.tmp 59) 35 34 (.slice none 0 0) 24 rfl Try.underlying35 info34 rfl (by decide) (by omega) u6 x6_1 y357 [.slice A17 y357.length c17] (fun k_ => (P0_ k_ ∨ w.heap.size ≤ k_)) (fun k_ => ((fun k_ => (P0_ k_ ∨ w.heap.size ≤ k_))) k_ ∧ some k_ ≠ (u6 : Value).ownBlock) rfl rfl ?aP (fun _ hk => hk) ?aF ?aO ?aB ?aS ?aL ?_; (case aP => exact (Kd.FK_slice_mk (Kd.V_reads' (e := 0) (base := 0) (Kd.V_mono (ok' := (fun k_ => ((fun k_ => (P0_ k_ ∨ w.heap.size ≤ k_))) k_ ∧ some k_ ≠ (u6 : Value).ownBlock)) (HO361.out) (fun k_ hk => ⟨hk.1, hk.2⟩))).2.1 (Kd.V_F (e := 0) (base := 0) (Kd.V_mono (ok' := (fun k_ => ((fun k_ => (P0_ k_ ∨ w.heap.size ≤ k_))) k_ ∧ some k_ ≠ (u6 : Value).ownBlock)) (HO361.out) (fun k_ hk => ⟨hk.1, hk.2⟩))))); (case aB => exact (by repeat (first | (with_reducible first | exact HB.out | apply blA | apply blN | apply below_drew1) | exact HB.out))); (case aF => exact (fun k_ hk => (.inr (Nat.le_trans (blz (by repeat (first | (with_reducible first | exact HB.out | apply blA | apply blN | apply below_drew1) | exact HB.out))) hk)))); (case aO => exact (by (with_reducible repeat (first | apply Kd.N_alloc | apply Kd.N_drewN | apply Kd.N_drew)); exact HO_6.out)); (case aS => exact (blz (by repeat (first | (with_reducible first | exact HB.out | apply blA | apply blN | apply below_drew1) | exact HB.out)))); (case aL => have := LMc16.out; omega); intro v363 w18 ho hb hg hat; rw [← Ny362.out] at ho; have n0_ := Aside0.mk (Kd.V_afterv (ok := (fun k_ => (P0_ k_ ∨ w.heap.size ≤ k_))) (by (with_reducible repeat (first | apply Kd.V_alloc | apply Kd.V_drewN | apply Kd.V_drew)); exact HO_0.out) hg hat); have n1_ := Aside0.mk (Kd.V_afterv (ok := (fun k_ => (P0_ k_ ∨ w.heap.size ≤ k_))) (by (with_reducible repeat (first | apply Kd.V_alloc | apply Kd.V_drewN | apply Kd.V_drew)); exact HO361.out) hg hat); have n2_ := Aside0.mk (hb); have n3_ := Aside0.mk (ho); clear HO_0; clear HO361; clear HB; clear HO_6; have HO_0 := n0_; have HO361 := n1_; have HB := n2_; have HO364 := n3_; clear n0_ n1_ n2_ n3_; clear ho hb hg hat))
           repeat (go_quiet (first | ((with_reducible refine gate_builtin (b := .append) (xs := #[.tmp 53, .tmp 59]) rfl ?_); (try (refine gate_guard (by rfl) ?_; dsimp only)); at_builtin; refine Kd.N_append (Kd.slice 45 k45) (w0 := w) w.heap.size rfl (.tmp 53) (.tmp 59) 35 34 (.slice none 0 0) 24 rfl Try.underlying35 info34 rfl (by decide) (by omega) u6 x6_1 y357 [.slice A17 y357.length c17] (fun k_ => (P0_ k_ ∨ w.heap.size ≤ k_)) (fun k_ => ((fun k_ => (P0_ k_ ∨ w.heap.size ≤ k_))) k_ ∧ some k_ ≠ (u6 : Value).ownBlock) rfl rfl ?aP (fun _ hk => hk) ?aF ?aO ?aB ?aS ?aL ?_; (case aP => exact (Kd.FK_slice_mk (Kd.V_reads' (e := 0) (base := 0) (Kd.V_mono (ok' := (fun k_ => ((fun k_ => (P0_ k_ ∨ w.heap.size ≤ k_))) k_ ∧ some k_ ≠ (u6 : Value).ownBlock)) (HO361.out) (fun k_ hk => ⟨hk.1, hk.2⟩))).2.1 (Kd.V_F (e := 0) (base := 0) (Kd.V_mono (ok' := (fun k_ => ((fun k_ => (P0_ k_ ∨ w.heap.size ≤ k_))) k_ ∧ some k_ ≠ (u6 : Value).ownBlock)) (HO361.out) (fun k_ hk => ⟨hk.1, hk.2⟩))))); (case aB => exact (by repeat (first | (with_reducible first | exact HB.out | apply blA | apply blN | apply below_drew1) | exact HB.out))); (case aF => exact (fun k_ hk => (.inr (Nat.le_trans (blz (by repeat (first | (with_reducible first | exact HB.out | apply blA | apply blN | apply below_drew1) | exact HB.out))) hk)))); (case aO => exact (by (with_reducible repeat (first | apply Kd.N_alloc | apply Kd.N_drewN | apply Kd.N_drew)); exact HO_6.out)); (case aS => exact (blz (by repeat (first | (with_reducible first | exact HB.out | apply blA | apply blN | apply below_drew1) | exact HB.out)))); (case aL => have := LMc16.out; omega); intro v363 w18 ho hb hg hat; rw [← Ny362.out] at ho; have n0_ := Aside0.mk (Kd.V_afterv (ok := (fun k_ => (P0_ k_ ∨ w.heap.size ≤ k_))) (by (with_reducible repeat (first | apply Kd.V_alloc | apply Kd.V_drewN | apply Kd.V_drew)); exact HO_0.out) hg hat); have n1_ := Aside0.mk (Kd.V_afterv (ok := (fun k_ => (P0_ k_ ∨ w.heap.size ≤ k_))) (by (with_reducible repeat (first | apply Kd.V_alloc | apply Kd.V_drewN | apply Kd.V_drew)); exact HO361.out) hg hat); have n2_ := Aside0.mk (hb); have n3_ := Aside0.mk (ho); clear HO_0; clear HO361; clear HB; clear HO_6; have HO_0 := n0_; have HO361 := n1_; have HB := n2_; have HO364 := n3_; clear n0_ n1_ n2_ n3_; clear ho hb hg hat)); try go_wp2_with (first | ((with_reducible refine gate_builtin (b := .append) (xs := #[.tmp 53, .tmp 59]) rfl ?_); (try (refine gate_guard (by rfl) ?_; dsimp only)); at_builtin; refine Kd.N_append (Kd.slice 45 k45) (w0 := w) w.heap.size rfl (.tmp 53) (.tmp 59) 35 34 (.slice none 0 0) 24 rfl Try.underlying35 info34 rfl (by decide) (by omega) u6 x6_1 y357 [.slice A17 y357.length c17] (fun k_ => (P0_ k_ ∨ w.heap.size ≤ k_)) (fun k_ => ((fun k_ => (P0_ k_ ∨ w.heap.size ≤ k_))) k_ ∧ some k_ ≠ (u6 : Value).ownBlock) rfl rfl ?aP (fun _ hk => hk) ?aF ?aO ?aB ?aS ?aL ?_; (case aP => exact (Kd.FK_slice_mk (Kd.V_reads' (e := 0) (base := 0) (Kd.V_mono (ok' := (fun k_ => ((fun k_ => (P0_ k_ ∨ w.heap.size ≤ k_))) k_ ∧ some k_ ≠ (u6 : Value).ownBlock)) (HO361.out) (fun k_ hk => ⟨hk.1, hk.2⟩))).2.1 (Kd.V_F (e := 0) (base := 0) (Kd.V_mono (ok' := (fun k_ => ((fun k_ => (P0_ k_ ∨ w.heap.size ≤ k_))) k_ ∧ some k_ ≠ (u6 : Value).ownBlock)) (HO361.out) (fun k_ hk => ⟨hk.1, hk.2⟩))))); (case aB => exact (by repeat (first | (with_reducible first | exact HB.out | apply blA | apply blN | apply below_drew1) | exact HB.out))); (case aF => exact (fun k_ hk => (.inr (Nat.le_trans (blz (by repeat (first | (with_reducible first | exact HB.out | apply blA | apply blN | apply below_drew1) | exact HB.out))) hk)))); (case aO => exact (by (with_reducible repeat (first | apply Kd.N_alloc | apply Kd.N_drewN | apply Kd.N_drew)); exact HO_6.out)); (case aS => exact (blz (by repeat (first | (with_reducible first | exact HB.out | apply blA | apply blN | apply below_drew1) | exact HB.out)))); (case aL => have := LMc16.out; omega); intro v363 w18 ho hb hg hat; rw [← Ny362.out] at ho; have n0_ := Aside0.mk (Kd.V_afterv (ok := (fun k_ => (P0_ k_ ∨ w.heap.size ≤ k_))) (by (with_reducible repeat (first | apply Kd.V_alloc | apply Kd.V_drewN | apply Kd.V_drew)); exact HO_0.out) hg hat); have n1_ := Aside0.mk (Kd.V_afterv (ok := (fun k_ => (P0_ k_ ∨ w.heap.size ≤ k_))) (by (with_reducible repeat (first | apply Kd.V_alloc | apply Kd.V_drewN | apply Kd.V_drew)); exact HO361.out) hg hat); have n2_ := Aside0.mk (hb); have n3_ := Aside0.mk (ho); clear HO_0; clear HO361; clear HB; clear HO_6; have HO_0 := n0_; have HO361 := n1_; have HB := n2_; have HO364 := n3_; clear n0_ n1_ n2_ n3_; clear ho hb hg hat)))
           go_roundg k1
           case measure => have := HK1.out; omega
           case rel => exact ⟨(y362), (wrap64 (x8_1 + 1)), (wrap64 (x8_1 + 1)), (by first | rfl | (simp; done) | (simp [*]; done)), (by first | rfl | (simp; done) | (simp [*]; done)), H', ⟨by have := HK1.out; omega⟩, ⟨by (with_reducible repeat (first | apply Kd.V_alloc | apply Kd.V_drewN | apply Kd.V_drew)); exact HO_0.out⟩, ⟨by (with_reducible repeat (first | apply Kd.N_alloc | apply Kd.N_drewN | apply Kd.N_drew)); exact HO364.out⟩, ⟨by repeat (first | (with_reducible first | exact HB.out | apply blA | apply blN | apply below_drew1) | exact HB.out)⟩⟩
          ·rw [if_neg c16] at H
           exact absurd H (by simp)
         ·rw [if_neg c15] at H
          exact absurd H (by simp)
        ·rw [if_neg c14] at H
         exact absurd H (by simp)
       ·rw [if_neg c13] at H
        exact absurd H (by simp)
     ·rw [if_neg c5] at H
      have c5b0 : (x8_1 == (wrap64 ((l0.length : Int) - 1))) = false := beq_eq_false_iff_ne.mpr c5
      have c5b1 : (x8_1 != (wrap64 ((l0.length : Int) - 1))) = true := bne_iff_ne.mpr c5
      obtain ⟨ji19, hji19⟩ : ∃ j_ : Int, (wrap64 (x8_1 + 1)) = j_ := ⟨_, rfl⟩
      replace H : (if 0 ≤ (ji19) then (if (ji19) < (l0.length : Int) then (if 0 ≤ x8_1 then (if ((rd_T45 l0 (ji19)).f0).toList = ((rd_T45 l0 x8_1).f0).toList then (palinoderef16_Cut.l0 k1 l0 a1 x6_1 x7_1 ji19) else (if (wrap64 ((ji19) - x7_1)) ≥ a1 then (if 0 ≤ x7_1 then (if x7_1 ≤ (ji19) then (if (ji19) ≤ (l0.length : Int) then (if x6_1.length < 5864062014805 then (palinoderef16_Cut.l0 k1 l0 a1 (x6_1 ++ [((l0.take ((ji19) : Int).toNat).drop (x7_1 : Int).toNat)]) ji19 ji19) else (none)) else (none)) else (none)) else (none)) else (palinoderef16_Cut.l0 k1 l0 a1 x6_1 x7_1 ji19))) else (none)) else (none)) else (none)) = some (r1, r2) := by first | (rw [hji19] at H; exact H) | (simp only [hji19] at H ⊢; exact H)
      have hji19w : (IntKind.i64.wrap (x8_1 + 1)) = ji19 := (i64_w _).trans hji19
      by_cases c20 : 0 ≤ (ji19)
      ·rw [if_pos c20] at H
       have c20b0 : decide (0 ≤ (ji19)) = true := decide_eq_true c20
       clear c20
       by_cases c21 : (ji19) < (l0.length : Int)
       ·rw [if_pos c21] at H
        have c21b0 : decide ((ji19) < (l0.length : Int)) = true := decide_eq_true c21
        clear c21
        by_cases c22 : 0 ≤ x8_1
        ·rw [if_pos c22] at H
         have c22b0 : decide (0 ≤ x8_1) = true := decide_eq_true c22
         clear c22
         by_cases c23 : ((rd_T45 l0 (ji19)).f0).toList = ((rd_T45 l0 x8_1).f0).toList
         ·rw [if_pos c23] at H
          have c23b0 : (((rd_T45 l0 (ji19)).f0).toList == ((rd_T45 l0 x8_1).f0).toList) = true := beq_iff_eq.mpr c23
          have c23b1 : (((rd_T45 l0 (ji19)).f0).toList != ((rd_T45 l0 x8_1).f0).toList) = false := bne_eq_false_iff_eq.mpr c23
          clear c23
          have H' := Aside0.mk H
          clear H
          have p365 : 0 ≤ ((ji19) : Int) := of_decide_eq_true (by first | (with_reducible assumption) | assumption)
          have q365 : (ji19) < (l0.length : Int) := of_decide_eq_true (by first | (with_reducible assumption) | assumption)
          obtain ⟨ad365, e365, hx365_0, hx365_1, hx365_2, hx365_3⟩ := at_T45 (Kd.V_reads' HO_0.out).2.2 (ji19) p365 q365
          cases e365
          replace p365 := eq_true p365
          replace q365 := eq_true q365
          have p366 : 0 ≤ (x8_1 : Int) := of_decide_eq_true (by first | (with_reducible assumption) | assumption)
          have q366 : x8_1 < (l0.length : Int) := of_decide_eq_true (by first | (with_reducible assumption) | assumption)
          obtain ⟨ad366, e366, hx366_0, hx366_1, hx366_2, hx366_3⟩ := at_T45 (Kd.V_reads' HO_0.out).2.2 x8_1 p366 q366
          obtain rfl : ad365 = ad366 := (by injection e366)
          replace p366 := eq_true p366
          replace q366 := eq_true q366
          go_wp2
          repeat (go_quiet (fail); try go_wp2)
          go_roundg k1
          case measure => have := HK1.out; omega
          case rel => exact ⟨(x6_1), (x7_1), (ji19), (by first | rfl | (simp; done) | (simp [*]; done)), (by first | rfl | (simp; done) | (simp only [← hji19] <;> (first | rfl | simp)) | (simp [*]; done)), H', ⟨by have := HK1.out; omega⟩, ⟨by (with_reducible repeat (first | apply Kd.V_alloc | apply Kd.V_drewN | apply Kd.V_drew)); exact HO_0.out⟩, ⟨by (with_reducible repeat (first | apply Kd.N_alloc | apply Kd.N_drewN | apply Kd.N_drew)); exact HO_6.out⟩, ⟨by repeat (first | (with_reducible first | exact HB.out | apply blA | apply blN | apply below_drew1) | exact HB.out)⟩⟩
         ·rw [if_neg c23] at H
          have c23b0 : (((rd_T45 l0 (ji19)).f0).toList == ((rd_T45 l0 x8_1).f0).toList) = false := beq_eq_false_iff_ne.mpr c23
          have c23b1 : (((rd_T45 l0 (ji19)).f0).toList != ((rd_T45 l0 x8_1).f0).toList) = true := bne_iff_ne.mpr c23
          by_cases c24 : (wrap64 ((ji19) - x7_1)) ≥ a1
          ·rw [if_pos c24] at H
           have c24b0 : decide (a1 ≤ (wrap64 ((ji19) - x7_1))) = true := decide_eq_true c24
           clear c24
           by_cases c25 : 0 ≤ x7_1
           ·rw [if_pos c25] at H
            have c25b0 := eq_true c25
            have c25b1 : decide (0 ≤ x7_1) = true := decide_eq_true c25
            clear c25
            by_cases c26 : x7_1 ≤ (ji19)
            ·rw [if_pos c26] at H
             have c26b0 := eq_true c26
             have c26b1 : decide (x7_1 ≤ (ji19)) = true := decide_eq_true c26
             clear c26
             by_cases c27 : (ji19) ≤ (l0.length : Int)
             ·rw [if_pos c27] at H
              have c27b0 := eq_true c27
              have c27b1 : decide ((ji19) ≤ (l0.length : Int)) = true := decide_eq_true c27
              clear c27
              obtain ⟨y367, hy367⟩ : ∃ y_ : List (S45), y_ = ((l0.take ((ji19) : Int).toNat).drop (x7_1 : Int).toNat) := ⟨_, rfl⟩
              replace H : (if x6_1.length < 5864062014805 then (palinoderef16_Cut.l0 k1 l0 a1 (x6_1 ++ [y367]) ji19 ji19) else (none)) = some (r1, r2) := by first | (rw [hy367]; with_reducible exact H) | (have H2_ := (Option.bind_some _ _).symm.trans H; rw [hy367]; with_reducible exact H2_) | (have H2_ := (Option.bind_some _ _).symm.trans H; with_reducible exact H2_) | with_reducible exact H | (rw [hy367]; exact H) | exact H
              have Ny367 := Aside0.mk hy367
              clear hy367
              by_cases c28 : x6_1.length < 5864062014805
              ·rw [if_pos c28] at H
               have LMc28 := Aside0.mk c28
               clear c28
               obtain ⟨y372, hy372⟩ : ∃ y_ : List (List (S45)), y_ = (x6_1 ++ [y367]) := ⟨_, rfl⟩
               replace H : (palinoderef16_Cut.l0 k1 l0 a1 y372 ji19 ji19) = some (r1, r2) := by first | (rw [hy372]; with_reducible exact H) | (have H2_ := (Option.bind_some _ _).symm.trans H; rw [hy372]; with_reducible exact H2_) | (have H2_ := (Option.bind_some _ _).symm.trans H; with_reducible exact H2_) | with_reducible exact H | (rw [hy372]; exact H) | exact H
               have Ny372 := Aside0.mk hy372
               clear hy372
               have H' := Aside0.mk H
               clear H
               have p365 : 0 ≤ ((ji19) : Int) := of_decide_eq_true (by first | (with_reducible assumption) | assumption)
               have q365 : (ji19) < (l0.length : Int) := of_decide_eq_true (by first | (with_reducible assumption) | assumption)
               obtain ⟨ad365, e365, hx365_0, hx365_1, hx365_2, hx365_3⟩ := at_T45 (Kd.V_reads' HO_0.out).2.2 (ji19) p365 q365
               cases e365
               replace p365 := eq_true p365
               replace q365 := eq_true q365
               have p366 : 0 ≤ (x8_1 : Int) := of_decide_eq_true (by first | (with_reducible assumption) | assumption)
               have q366 : x8_1 < (l0.length : Int) := of_decide_eq_true (by first | (with_reducible assumption) | assumption)
               obtain ⟨ad366, e366, hx366_0, hx366_1, hx366_2, hx366_3⟩ := at_T45 (Kd.V_reads' HO_0.out).2.2 x8_1 p366 q366
               obtain rfl : ad365 = ad366 := (by injection e366)
               replace p366 := eq_true p366
               replace q366 := eq_true q366
               have q29 : ((ji19) : Int) ≤ ((l0.length : Int) : Int) := of_decide_eq_true (by first | (with_reducible assumption) | assumption)
               obtain ⟨i029, hi029, _, hsz29, _⟩ := info_parts info45
               have hroom29 : l0.length ≤ c0 := (Kd.V_reads' HO_0.out).2.1
               have hC29 : Kd.F k45 _ _ (some ad365) l0.length l0 := (Kd.V_at (base := w.heap.size) HO_0.out).2.2
               have ql29 : (x7_1 : Int) ≤ ((ji19) : Int) := of_decide_eq_true (by first | (with_reducible assumption) | assumption)
               have q029 : (0 : Int) ≤ (x7_1 : Int) := of_decide_eq_true (by first | (with_reducible assumption) | assumption)
               have hcut29 := cut_mid (P := Try.prog) 34 45 .i64 .i64 Try.underlying34 hi029 4 hsz29 (some ad365) l0.length c0 x7_1 (ji19) q029 ql29 q29 hroom29
               have hr29 := Kd.F_mid (lo := (x7_1 : Int).toNat) (hi := ((ji19) : Int).toNat) (c := c0) hC29 (by omega) (by omega) hroom29
               obtain ⟨A29, hA29⟩ : ∃ A1, A1 = (if c0 = (x7_1 : Int).toNat then (some ad365) else ((some ad365) : Option Addr).map (·.add ((x7_1 : Int).toNat * 4))) := ⟨_, rfl⟩
               obtain ⟨c29, hc29⟩ : ∃ c1, c1 = c0 - (x7_1 : Int).toNat := ⟨_, rfl⟩
               have hy29 : y367.length = ((ji19) : Int).toNat - (x7_1 : Int).toNat := (by rw [Ny367.out, List.length_drop, List.length_take] <;> omega)
               rw [show ((l0).take ((ji19) : Int).toNat).drop (x7_1 : Int).toNat = y367 from Ny367.out.symm] at hr29
               replace hr29 : Kd.F k45 _ _ A29 y367.length y367 := (by rw [hA29]; exact hr29)
               rw [← hy29, ← hA29, ← hc29] at hcut29
               have HO371 := Aside0.mk (show Kd.V k45 45 _ w.heap.size _ (.slice A29 y367.length c29) y367 from Kd.V_mk (by rw [hy29, hc29]; exact Nat.sub_le_sub_right (Nat.le_trans (by omega) hroom29) _) hr29)
               have HC371 := Aside0.mk (show y367.length ≤ c29 from by rw [hy29, hc29]; exact Nat.sub_le_sub_right (Nat.le_trans (by omega) hroom29) _)
               clear hr29 hC29 hroom29 hi029 hsz29 hc29
               have KY29 := Aside0.mk hy29
               have KA29 := Aside0.mk hA29
               clear hy29 hA29
               replace q29 := eq_true q29
               go_wp2_with (first | ((with_reducible refine gate_builtin (b := .append) (xs := #[.tmp 53, .tmp 59]) rfl ?_); (try (refine gate_guard (by rfl) ?_; dsimp only)); at_builtin; refine Kd.N_append (Kd.slice 45 k45) (w0 := w) w.heap.size rfl (.tmp 53) (.tmp 59) 35 34 (.slice none 0 0) 24 rfl Try.underlying35 info34 rfl (by decide) (by omega) u6 x6_1 y367 [.slice A29 y367.length c29] (fun k_ => (P0_ k_ ∨ w.heap.size ≤ k_)) (fun k_ => ((fun k_ => (P0_ k_ ∨ w.heap.size ≤ k_))) k_ ∧ some k_ ≠ (u6 : Value).ownBlock) rfl rfl ?aP (fun _ hk => hk) ?aF ?aO ?aB ?aS ?aL ?_; (case aP => exact (Kd.FK_slice_mk (Kd.V_reads' (e := 0) (base := 0) (Kd.V_mono (ok' := (fun k_ => ((fun k_ => (P0_ k_ ∨ w.heap.size ≤ k_))) k_ ∧ some k_ ≠ (u6 : Value).ownBlock)) (HO371.out) (fun k_ hk => ⟨hk.1, hk.2⟩))).2.1 (Kd.V_F (e := 0) (base := 0) (Kd.V_mono (ok' := (fun k_ => ((fun k_ => (P0_ k_ ∨ w.heap.size ≤ k_))) k_ ∧ some k_ ≠ (u6 : Value).ownBlock)) (HO371.out) (fun k_ hk => ⟨hk.1, hk.2⟩))))); (case aB => exact (by repeat (first | (with_reducible first | exact HB.out | apply blA | apply blN | apply below_drew1) | exact HB.out))); (case aF => exact (fun k_ hk => (.inr (Nat.le_trans (blz (by repeat (first | (with_reducible first | exact HB.out | apply blA | apply blN | apply below_drew1) | exact HB.out))) hk)))); (case aO => exact (by (with_reducible repeat (first | apply Kd.N_alloc | apply Kd.N_drewN | apply Kd.N_drew)); exact HO_6.out)); (case aS => exact (blz (by repeat (first | (with_reducible first | exact HB.out | apply blA | apply blN | apply below_drew1) | exact HB.out)))); (case aL => have := LMc28.out; omega); intro v373 w30 ho hb hg hat; rw [← Ny372.out] at ho; have n0_ := Aside0.mk (Kd.V_afterv (ok := (fun k_ => (P0_ k_ ∨ w.heap.size ≤ k_))) (by (with_reducible repeat (first | apply Kd.V_alloc | apply Kd.V_drewN | apply Kd.V_drew)); exact HO_0.out) hg hat); have n1_ := Aside0.mk (Kd.V_afterv (ok := (fun k_ => (P0_ k_ ∨ w.heap.size ≤ k_))) (by (with_reducible repeat (first | apply Kd.V_alloc | apply Kd.V_drewN | apply Kd.V_drew)); exact HO371.out) hg hat); have n2_ := Aside0.mk (hb); have n3_ := Aside0.mk (ho); clear HO_0; clear HO371; clear HB; clear HO_6; have HO_0 := n0_; have HO371 := n1_; have HB := n2_; have HO374 := n3_; clear n0_ n1_ n2_ n3_; clear ho hb hg hat))
               repeat (go_quiet (first | ((with_reducible refine gate_builtin (b := .append) (xs := #[.tmp 53, .tmp 59]) rfl ?_); (try (refine gate_guard (by rfl) ?_; dsimp only)); at_builtin; refine Kd.N_append (Kd.slice 45 k45) (w0 := w) w.heap.size rfl (.tmp 53) (.tmp 59) 35 34 (.slice none 0 0) 24 rfl Try.underlying35 info34 rfl (by decide) (by omega) u6 x6_1 y367 [.slice A29 y367.length c29] (fun k_ => (P0_ k_ ∨ w.heap.size ≤ k_)) (fun k_ => ((fun k_ => (P0_ k_ ∨ w.heap.size ≤ k_))) k_ ∧ some k_ ≠ (u6 : Value).ownBlock) rfl rfl ?aP (fun _ hk => hk) ?aF ?aO ?aB ?aS ?aL ?_; (case aP => exact (Kd.FK_slice_mk (Kd.V_reads' (e := 0) (base := 0) (Kd.V_mono (ok' := (fun k_ => ((fun k_ => (P0_ k_ ∨ w.heap.size ≤ k_))) k_ ∧ some k_ ≠ (u6 : Value).ownBlock)) (HO371.out) (fun k_ hk => ⟨hk.1, hk.2⟩))).2.1 (Kd.V_F (e := 0) (base := 0) (Kd.V_mono (ok' := (fun k_ => ((fun k_ => (P0_ k_ ∨ w.heap.size ≤ k_))) k_ ∧ some k_ ≠ (u6 : Value).ownBlock)) (HO371.out) (fun k_ hk => ⟨hk.1, hk.2⟩))))); (case aB => exact (by repeat (first | (with_reducible first | exact HB.out | apply blA | apply blN | apply below_drew1) | exact HB.out))); (case aF => exact (fun k_ hk => (.inr (Nat.le_trans (blz (by repeat (first | (with_reducible first | exact HB.out | apply blA | apply blN | apply below_drew1) | exact HB.out))) hk)))); (case aO => exact (by (with_reducible repeat (first | apply Kd.N_alloc | apply Kd.N_drewN | apply Kd.N_drew)); exact HO_6.out)); (case aS => exact (blz (by repeat (first | (with_reducible first | exact HB.out | apply blA | apply blN | apply below_drew1) | exact HB.out)))); (case aL => have := LMc28.out; omega); intro v373 w30 ho hb hg hat; rw [← Ny372.out] at ho; have n0_ := Aside0.mk (Kd.V_afterv (ok := (fun k_ => (P0_ k_ ∨ w.heap.size ≤ k_))) (by (with_reducible repeat (first | apply Kd.V_alloc | apply Kd.V_drewN | apply Kd.V_drew)); exact HO_0.out) hg hat); have n1_ := Aside0.mk (Kd.V_afterv (ok := (fun k_ => (P0_ k_ ∨ w.heap.size ≤ k_))) (by (with_reducible repeat (first | apply Kd.V_alloc | apply Kd.V_drewN | apply Kd.V_drew)); exact HO371.out) hg hat); have n2_ := Aside0.mk (hb); have n3_ := Aside0.mk (ho); clear HO_0; clear HO371; clear HB; clear HO_6; have HO_0 := n0_; have HO371 := n1_; have HB := n2_; have HO374 := n3_; clear n0_ n1_ n2_ n3_; clear ho hb hg hat)); try go_wp2_with (first | ((with_reducible refine gate_builtin (b := .append) (xs := #[.tmp 53, .tmp 59]) rfl ?_); (try (refine gate_guard (by rfl) ?_; dsimp only)); at_builtin; refine Kd.N_append (Kd.slice 45 k45) (w0 := w) w.heap.size rfl (.tmp 53) (.tmp 59) 35 34 (.slice none 0 0) 24 rfl Try.underlying35 info34 rfl (by decide) (by omega) u6 x6_1 y367 [.slice A29 y367.length c29] (fun k_ => (P0_ k_ ∨ w.heap.size ≤ k_)) (fun k_ => ((fun k_ => (P0_ k_ ∨ w.heap.size ≤ k_))) k_ ∧ some k_ ≠ (u6 : Value).ownBlock) rfl rfl ?aP (fun _ hk => hk) ?aF ?aO ?aB ?aS ?aL ?_; (case aP => exact (Kd.FK_slice_mk (Kd.V_reads' (e := 0) (base := 0) (Kd.V_mono (ok' := (fun k_ => ((fun k_ => (P0_ k_ ∨ w.heap.size ≤ k_))) k_ ∧ some k_ ≠ (u6 : Value).ownBlock)) (HO371.out) (fun k_ hk => ⟨hk.1, hk.2⟩))).2.1 (Kd.V_F (e := 0) (base := 0) (Kd.V_mono (ok' := (fun k_ => ((fun k_ => (P0_ k_ ∨ w.heap.size ≤ k_))) k_ ∧ some k_ ≠ (u6 : Value).ownBlock)) (HO371.out) (fun k_ hk => ⟨hk.1, hk.2⟩))))); (case aB => exact (by repeat (first | (with_reducible first | exact HB.out | apply blA | apply blN | apply below_drew1) | exact HB.out))); (case aF => exact (fun k_ hk => (.inr (Nat.le_trans (blz (by repeat (first | (with_reducible first | exact HB.out | apply blA | apply blN | apply below_drew1) | exact HB.out))) hk)))); (case aO => exact (by (with_reducible repeat (first | apply Kd.N_alloc | apply Kd.N_drewN | apply Kd.N_drew)); exact HO_6.out)); (case aS => exact (blz (by repeat (first | (with_reducible first | exact HB.out | apply blA | apply blN | apply below_drew1) | exact HB.out)))); (case aL => have := LMc28.out; omega); intro v373 w30 ho hb hg hat; rw [← Ny372.out] at ho; have n0_ := Aside0.mk (Kd.V_afterv (ok := (fun k_ => (P0_ k_ ∨ w.heap.size ≤ k_))) (by (with_reducible repeat (first | apply Kd.V_alloc | apply Kd.V_drewN | apply Kd.V_drew)); exact HO_0.out) hg hat); have n1_ := Aside0.mk (Kd.V_afterv (ok := (fun k_ => (P0_ k_ ∨ w.heap.size ≤ k_))) (by (with_reducible repeat (first | apply Kd.V_alloc | apply Kd.V_drewN | apply Kd.V_drew)); exact HO371.out) hg hat); have n2_ := Aside0.mk (hb); have n3_ := Aside0.mk (ho); clear HO_0; clear HO371; clear HB; clear HO_6; have HO_0 := n0_; have HO371 := n1_; have HB := n2_; have HO374 := n3_; clear n0_ n1_ n2_ n3_; clear ho hb hg hat)))
               go_roundg k1
               case measure => have := HK1.out; omega
               case rel => exact ⟨(y372), (ji19), (ji19), (by first | rfl | (simp; done) | (simp only [← hji19] <;> (first | rfl | simp)) | (simp [*]; done)), (by first | rfl | (simp; done) | (simp only [← hji19] <;> (first | rfl | simp)) | (simp [*]; done)), H', ⟨by have := HK1.out; omega⟩, ⟨by (with_reducible repeat (first | apply Kd.V_alloc | apply Kd.V_drewN | apply Kd.V_drew)); exact HO_0.out⟩, ⟨by (with_reducible repeat (first | apply Kd.N_alloc | apply Kd.N_drewN | apply Kd.N_drew)); exact HO374.out⟩, ⟨by repeat (first | (with_reducible first | exact HB.out | apply blA | apply blN | apply below_drew1) | exact HB.out)⟩⟩
              ·rw [if_neg c28] at H
               exact absurd H (by simp)
             ·rw [if_neg c27] at H
              exact absurd H (by simp)
            ·rw [if_neg c26] at H
             exact absurd H (by simp)
           ·rw [if_neg c25] at H
            exact absurd H (by simp)
          ·rw [if_neg c24] at H
           have c24b0 : decide (a1 ≤ (wrap64 ((ji19) - x7_1))) = false := decide_eq_false c24
           clear c24
           have H' := Aside0.mk H
           clear H
           have p365 : 0 ≤ ((ji19) : Int) := of_decide_eq_true (by first | (with_reducible assumption) | assumption)
           have q365 : (ji19) < (l0.length : Int) := of_decide_eq_true (by first | (with_reducible assumption) | assumption)
           obtain ⟨ad365, e365, hx365_0, hx365_1, hx365_2, hx365_3⟩ := at_T45 (Kd.V_reads' HO_0.out).2.2 (ji19) p365 q365
           cases e365
           replace p365 := eq_true p365
           replace q365 := eq_true q365
           have p366 : 0 ≤ (x8_1 : Int) := of_decide_eq_true (by first | (with_reducible assumption) | assumption)
           have q366 : x8_1 < (l0.length : Int) := of_decide_eq_true (by first | (with_reducible assumption) | assumption)
           obtain ⟨ad366, e366, hx366_0, hx366_1, hx366_2, hx366_3⟩ := at_T45 (Kd.V_reads' HO_0.out).2.2 x8_1 p366 q366
           obtain rfl : ad365 = ad366 := (by injection e366)
           replace p366 := eq_true p366
           replace q366 := eq_true q366
           go_wp2
           repeat (go_quiet (fail); try go_wp2)
           go_roundg k1
           case measure => have := HK1.out; omega
           case rel => exact ⟨(x6_1), (x7_1), (ji19), (by first | rfl | (simp; done) | (simp [*]; done)), (by first | rfl | (simp; done) | (simp only [← hji19] <;> (first | rfl | simp)) | (simp [*]; done)), H', ⟨by have := HK1.out; omega⟩, ⟨by (with_reducible repeat (first | apply Kd.V_alloc | apply Kd.V_drewN | apply Kd.V_drew)); exact HO_0.out⟩, ⟨by (with_reducible repeat (first | apply Kd.N_alloc | apply Kd.N_drewN | apply Kd.N_drew)); exact HO_6.out⟩, ⟨by repeat (first | (with_reducible first | exact HB.out | apply blA | apply blN | apply below_drew1) | exact HB.out)⟩⟩
        ·rw [if_neg c22] at H
         exact absurd H (by simp)
       ·rw [if_neg c21] at H
        exact absurd H (by simp)
      ·rw [if_neg c20] at H
       exact absurd H (by simp)
    ·rw [if_neg c4] at H
     have c4b0 : decide (x8_1 < (l0.length : Int)) = false := decide_eq_false c4
     clear c4
     simp only [Option.some.injEq, Prod.mk.injEq] at H
     obtain ⟨rfl, rfl⟩ := H
     go_wp2
     repeat (go_quiet (fail); try go_wp2)
     go_ret2
     exact ⟨_, by first | rfl | (simp [errW_none, errW_some] <;> rfl) | (simp [*, errW_none, errW_some] <;> rfl), by (with_reducible repeat (first | apply Kd.N_alloc | apply Kd.N_drewN | apply Kd.N_drew)); exact HO_6.out, by repeat (first | (with_reducible first | exact HB.out | apply blA | apply blN | apply below_drew1) | exact HB.out)⟩
/-! ### palinodelaw16_is: function 13 -/
def palinodelaw16_is.f (a0 : Option Int) (a1 : Int) : Option (Bool) := if a1 = 0 then (if a0.isNone = true then (some true) else (some false)) else (if a0.isNone = true then (some false) else (some ((a0.getD 0) == a1)))
set_option maxHeartbeats 8000000 in
set_option maxRecDepth 100000 in
theorem palinodelaw16_is.calls (a0 : Option Int) (a1 : Int) (r : Bool) (w : World) (h : palinodelaw16_is.f a0 a1 = some r) :
  Calls Try.prog 13 #[errW a0, .int .i64 a1] w fun e w' => e = .returned (.bool r) ∧ Drawn0 w w' := by
 have hu39 := Try.underlying39
 have hu56 := Try.underlying56
 have hta : ∀ (v : Value) (W : World), (Instr.typeAssert (.iface 56 v) 39 56 true).run Try.prog W = .ok (.tuple #[v, .bool true]) W := fun v W => by rfl
 have htn : ∀ (W : World), (Instr.typeAssert .nilIface 39 56 true).run Try.prog W = .ok (.tuple #[.int .i64 0, .bool false]) W := fun W => by rfl
 have H : (if a1 = 0 then (if a0.isNone = true then (some true) else (some false)) else (if a0.isNone = true then (some false) else (some ((a0.getD 0) == a1)))) = some r := h
 clear h
 by_cases c3 : a1 = 0
 ·rw [if_pos c3] at H
  have c3b0 : (a1 == 0) = true := beq_iff_eq.mpr c3
  have c3b1 : (a1 != 0) = false := bne_eq_false_iff_eq.mpr c3
  clear c3
  rcases a0 with _ | q375
  ·have H1 : (some true) = some r := by rw [if_pos (show (none : Option Int).isNone = true by rfl)] at H; exact H
   clear H
   have H := H1
   clear H1
   simp only [errW_none, errW_some]
   obtain rfl := Option.some.inj H
   go_enter Try.func13, Try.ntmps13
   go_wp2
   go_ret
   exact ⟨by first | rfl | (simp; done) | (simp [*]; done), by repeat (first | exact Drawn0.refl _ | apply Drawn0.step)⟩
  ·have H1 : (some false) = some r := by rw [if_neg (show ¬ (some q375).isNone = true by simp)] at H; exact H
   clear H
   have H := H1
   clear H1
   simp only [errW_none, errW_some]
   obtain rfl := Option.some.inj H
   go_enter Try.func13, Try.ntmps13
   go_wp2
   go_ret
   exact ⟨by first | rfl | (simp; done) | (simp [*]; done), by repeat (first | exact Drawn0.refl _ | apply Drawn0.step)⟩
 ·rw [if_neg c3] at H
  have c3b0 : (a1 == 0) = false := beq_eq_false_iff_ne.mpr c3
  have c3b1 : (a1 != 0) = true := bne_iff_ne.mpr c3
  rcases a0 with _ | q376
  ·have H1 : (some false) = some r := by rw [if_pos (show (none : Option Int).isNone = true by rfl)] at H; exact H
   clear H
   have H := H1
   clear H1
   simp only [errW_none, errW_some]
   obtain rfl := Option.some.inj H
   go_enter Try.func13, Try.ntmps13
   go_wp2
   go_ret
   exact ⟨by first | rfl | (simp; done) | (simp [*]; done), by repeat (first | exact Drawn0.refl _ | apply Drawn0.step)⟩
  ·have H1 : (some (q376 == a1)) = some r := by rw [if_neg (show ¬ (some q376).isNone = true by simp)] at H; exact H
   clear H
   have H := H1
   clear H1
   simp only [errW_none, errW_some]
   obtain rfl := Option.some.inj H
   go_enter Try.func13, Try.ntmps13
   go_wp2
   go_ret
   exact ⟨by first | rfl | (simp; done) | (simp [*]; done), by repeat (first | exact Drawn0.refl _ | apply Drawn0.step)⟩
end Go.Proofs.Ytonhjkghpkhioaa.PA

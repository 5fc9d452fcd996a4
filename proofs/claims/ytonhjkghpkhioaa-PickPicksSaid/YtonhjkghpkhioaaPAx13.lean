-- printed by a program of this session (wip/myprint.py), after the kit's print
import Derived.Test.YtonhjkghpkhioaaPAx0
import Derived.Test.YtonhjkghpkhioaaPAx5
import Derived.Test.YtonhjkghpkhioaaPAx7
import Derived.Test.YtonhjkghpkhioaaPAx9
import Derived.Test.YtonhjkghpkhioaaPAx12
import Derived.Test.YtonhjkghpkhioaaHExamples
namespace Go.Proofs.Ytonhjkghpkhioaa.PA
open Go.RowKit Go.Proofs.YtonhjkghpkhioaaW.PrintWords Go.Proofs.YtonhjkghpkhioaaW.PrintLast Go.Proofs.YtonhjkghpkhioaaW.PrintMore
attribute [local go_sem] max2_int min2_int max_two min_two max_three min_three max_four min_four   -- for this text's walks alone
set_option linter.unusedVariables false
set_option linter.unusedSimpArgs false
/-! ### palinodelaw16_numbers: function 8 -/
def palinodelaw16_numbers.l0 : Nat → List Int → List Int → Int → Option (Bool)
 | 0, _, _, _ => none
 | k + 1, x0, x1, x5 => if x5 < (x0.length : Int) then (if 0 ≤ x5 then (if x5 < (x1.length : Int) then (if (rd x0 x5) = (rd x1 x5) then (palinodelaw16_numbers.l0 k x0 x1 (wrap64 (x5 + 1))) else (some false)) else (none)) else (none)) else (some true)
def palinodelaw16_numbers.f (k : Nat) (l0 : List Int) (l1 : List Int) : Option (Bool) := if (l0.length : Int) = (l1.length : Int) then (palinodelaw16_numbers.l0 k l0 l1 0) else (some false)
theorem palinodelaw16_numbers.mono_l : ∀ k, (∀ y0 y1 y2, LeO (palinodelaw16_numbers.l0 k y0 y1 y2) (palinodelaw16_numbers.l0 (k + 1) y0 y1 y2))
 | 0 => fun _ _ _ r h => by simp [palinodelaw16_numbers.l0] at h
 | k + 1 => by
  have ih0 := palinodelaw16_numbers.mono_l k
  ·intro y0 y1 y2
   unfold palinodelaw16_numbers.l0
   repeat' first
   | (with_reducible exact ih0 _ _ _)
   | (with_reducible exact LeO.refl _)
   | (with_reducible exact LeO.none _)
   | (with_reducible refine LeO.ite ?_ ?_)
   | (with_reducible refine LeO.bind ?_ (fun _ => ?_))
   | exact ih0 _ _ _
   | exact LeO.none _
   | refine LeO.ite ?_ ?_
   | refine LeO.bind ?_ (fun _ => ?_)
theorem palinodelaw16_numbers.mono : ∀ a0 a1 k, LeO (palinodelaw16_numbers.f k a0 a1) (palinodelaw16_numbers.f (k + 1) a0 a1) := by
 intro a0 a1 k
 have ih0 := palinodelaw16_numbers.mono_l k
 unfold palinodelaw16_numbers.f
 repeat' first
   | (with_reducible exact ih0 _ _ _)
   | (with_reducible exact LeO.refl _)
   | (with_reducible exact LeO.none _)
   | (with_reducible refine LeO.ite ?_ ?_)
   | (with_reducible refine LeO.bind ?_ (fun _ => ?_))
   | exact ih0 _ _ _
   | exact LeO.none _
   | refine LeO.ite ?_ ?_
   | refine LeO.bind ?_ (fun _ => ?_)
set_option maxHeartbeats 8000000 in
set_option maxRecDepth 100000 in
theorem palinodelaw16_numbers.calls (k : Nat) (A0 : Option Addr) (c0 : Nat) (l0 : List Int) (A1 : Option Addr) (c1 : Nat) (l1 : List Int) (r : Bool) (w : World) (hr0 : Kd.C (Kd.int .i64) w A0 l0.length l0) (hc0 : l0.length ≤ c0) (hr1 : Kd.C (Kd.int .i64) w A1 l1.length l1) (hc1 : l1.length ≤ c1) (h : palinodelaw16_numbers.f k l0 l1 = some r) :
  Calls Try.prog 8 #[.slice A0 l0.length c0, .slice A1 l1.length c1] w fun e w' => e = .returned (.bool r) ∧ Drawn0 w w' := by
 have HR0 := Aside0.mk hr0
 have HC0 := Aside0.mk hc0
 clear hr0 hc0
 have HR1 := Aside0.mk hr1
 have HC1 := Aside0.mk hc1
 clear hr1 hc1
 have H : (if (l0.length : Int) = (l1.length : Int) then (palinodelaw16_numbers.l0 k l0 l1 0) else (some false)) = some r := h
 clear h
 by_cases c3 : (l0.length : Int) = (l1.length : Int)
 ·rw [if_pos c3] at H
  have c3b0 : ((l0.length : Int) == (l1.length : Int)) = true := beq_iff_eq.mpr c3
  have c3b1 : ((l0.length : Int) != (l1.length : Int)) = false := bne_eq_false_iff_eq.mpr c3
  have c3b2 : (l0.length == l1.length) = true := by first | simpa using c3 | (simp at c3 ⊢; omega)
  clear c3
  have H' := Aside0.mk H
  clear H
  go_enter Try.func8, Try.ntmps8
  go_wp2
  repeat (go_quiet (fail); try go_wp2)
  go_loopg [5] k (fun kq v5 w' => ∃ (x5_1 : Int), v5 = .int .i64 x5_1 ∧ Aside0 (palinodelaw16_numbers.l0 kq l0 l1 x5_1 = some r) ∧ Aside0 (kq ≤ k) ∧ Drawn0 w w')
  case atStart => exact ⟨(0), (by first | rfl | (simp; done) | (simp [*]; done)), H', ⟨Nat.le_refl _⟩, by repeat (first | exact Drawn0.refl _ | apply Drawn0.step)⟩
  case round =>
   clear H'
   try clear c1
   try clear p2
   try clear c3
   try clear c3b0
   try clear c3b1
   try clear c3b2
   obtain ⟨x5_1, rfl, HA, HK1, ⟨m1, rfl⟩⟩ := hrel
   cases gk with
   | zero => exact absurd HA.out (by simp [palinodelaw16_numbers.l0])
   | succ k1 =>
    have H := HA.out
    clear HA
    simp only [palinodelaw16_numbers.l0] at H
    by_cases c4 : x5_1 < (l0.length : Int)
    ·rw [if_pos c4] at H
     have c4b0 : decide (x5_1 < (l0.length : Int)) = true := decide_eq_true c4
     clear c4
     by_cases c5 : 0 ≤ x5_1
     ·rw [if_pos c5] at H
      have c5b0 : decide (0 ≤ x5_1) = true := decide_eq_true c5
      clear c5
      by_cases c6 : x5_1 < (l1.length : Int)
      ·rw [if_pos c6] at H
       have c6b0 : decide (x5_1 < (l1.length : Int)) = true := decide_eq_true c6
       clear c6
       by_cases c7 : (rd l0 x5_1) = (rd l1 x5_1)
       ·rw [if_pos c7] at H
        have c7b0 : ((rd l0 x5_1) == (rd l1 x5_1)) = true := beq_iff_eq.mpr c7
        have c7b1 : ((rd l0 x5_1) != (rd l1 x5_1)) = false := bne_eq_false_iff_eq.mpr c7
        clear c7
        have H' := Aside0.mk H
        clear H
        have p317 : 0 ≤ (x5_1 : Int) := of_decide_eq_true (by first | (with_reducible assumption) | assumption)
        have q317 : x5_1 < (l0.length : Int) := of_decide_eq_true (by first | (with_reducible assumption) | assumption)
        obtain ⟨ad317, e317, hx317_0⟩ := Kd.at_int HR0.out x5_1 p317 q317
        cases e317
        replace p317 := eq_true p317
        replace q317 := eq_true q317
        have p318 : 0 ≤ (x5_1 : Int) := of_decide_eq_true (by first | (with_reducible assumption) | assumption)
        have q318 : x5_1 < (l1.length : Int) := of_decide_eq_true (by first | (with_reducible assumption) | assumption)
        obtain ⟨ad318, e318, hx318_0⟩ := Kd.at_int HR1.out x5_1 p318 q318
        cases e318
        replace p318 := eq_true p318
        replace q318 := eq_true q318
        go_wp2
        repeat (go_quiet (fail); try go_wp2)
        go_roundg k1
        case measure => have := HK1.out; omega
        case rel => exact ⟨(wrap64 (x5_1 + 1)), (by first | rfl | (simp; done) | (simp [*]; done)), H', ⟨by have := HK1.out; omega⟩, by repeat (first | exact Drawn0.refl _ | apply Drawn0.step)⟩
       ·rw [if_neg c7] at H
        have c7b0 : ((rd l0 x5_1) == (rd l1 x5_1)) = false := beq_eq_false_iff_ne.mpr c7
        have c7b1 : ((rd l0 x5_1) != (rd l1 x5_1)) = true := bne_iff_ne.mpr c7
        obtain rfl := Option.some.inj H
        have p317 : 0 ≤ (x5_1 : Int) := of_decide_eq_true (by first | (with_reducible assumption) | assumption)
        have q317 : x5_1 < (l0.length : Int) := of_decide_eq_true (by first | (with_reducible assumption) | assumption)
        obtain ⟨ad317, e317, hx317_0⟩ := Kd.at_int HR0.out x5_1 p317 q317
        cases e317
        replace p317 := eq_true p317
        replace q317 := eq_true q317
        have p318 : 0 ≤ (x5_1 : Int) := of_decide_eq_true (by first | (with_reducible assumption) | assumption)
        have q318 : x5_1 < (l1.length : Int) := of_decide_eq_true (by first | (with_reducible assumption) | assumption)
        obtain ⟨ad318, e318, hx318_0⟩ := Kd.at_int HR1.out x5_1 p318 q318
        cases e318
        replace p318 := eq_true p318
        replace q318 := eq_true q318
        go_wp2
        repeat (go_quiet (fail); try go_wp2)
        go_ret
        exact ⟨by first | rfl | (simp; done) | (simp [*]; done), by repeat (first | exact Drawn0.refl _ | apply Drawn0.step)⟩
      ·rw [if_neg c6] at H
       exact absurd H (by simp)
     ·rw [if_neg c5] at H
      exact absurd H (by simp)
    ·rw [if_neg c4] at H
     have c4b0 : decide (x5_1 < (l0.length : Int)) = false := decide_eq_false c4
     clear c4
     obtain rfl := Option.some.inj H
     go_wp2
     repeat (go_quiet (fail); try go_wp2)
     go_ret
     exact ⟨by first | rfl | (simp; done) | (simp [*]; done), by repeat (first | exact Drawn0.refl _ | apply Drawn0.step)⟩
 ·rw [if_neg c3] at H
  have c3b0 : ((l0.length : Int) == (l1.length : Int)) = false := beq_eq_false_iff_ne.mpr c3
  have c3b1 : ((l0.length : Int) != (l1.length : Int)) = true := bne_iff_ne.mpr c3
  have c3b2 : (l0.length == l1.length) = false := by first | simpa using c3 | (simp at c3 ⊢; omega)
  obtain rfl := Option.some.inj H
  go_enter Try.func8, Try.ntmps8
  go_wp2
  repeat (go_quiet (fail); try go_wp2)
  go_ret
  exact ⟨by first | rfl | (simp; done) | (simp [*]; done), by repeat (first | exact Drawn0.refl _ | apply Drawn0.step)⟩
/-! ### palinodelaw16_PickPicks: function 3 -/
def palinodelaw16_PickPicks.f (k : Nat) (l0_0 : List (S48)) (l0_1 : List Int) (a0_2 : Int) (a1 : Int) : Option (Bool) := (palinodelaw16_examples.f).bind fun t320 => (if 0 ≤ (mn (l0_0.length : Int) 60) then (if (mn (l0_0.length : Int) 60) ≤ (l0_0.length : Int) then ((some (l0_0.take ((mn (l0_0.length : Int) 60) : Int).toNat : List (S48))).bind fun y321 => ((pick_Pick.f k y321 l0_1 a0_2).bind fun bt325 => ((palinoderef16_Pick.f k y321 l0_1 a0_2).bind fun bt335 => ((palinodelaw16_numbers.f k bt325.2.1 bt335.2.1).bind fun t345 => ((palinodelaw16_numbers.f k bt325.2.2.1 bt335.2.2.1).bind fun t346 => (if t320 = true then (if (bt325.2.2.2.2 == bt335.2.2.2.2) = true then (if bt325.1 = bt335.1 then (if (bt325.2.2.2.1 == bt335.2.2.2.1) = true then (if t345 = true then (if t346 = true then ((pick_Limit.f a1).bind fun t347 => ((palinoderef16_Limit.f a1).bind fun t348 => (some (t347 == t348)))) else (some false)) else (some false)) else (some false)) else (some false)) else (some false)) else (some false))))))) else (none)) else (none))
theorem palinodelaw16_PickPicks.mono : ∀ a0 a1 a2 a3 k, LeO (palinodelaw16_PickPicks.f k a0 a1 a2 a3) (palinodelaw16_PickPicks.f (k + 1) a0 a1 a2 a3) := by
 intro a0 a1 a2 a3 k
 unfold palinodelaw16_PickPicks.f
 repeat' first
   | (with_reducible exact palinodelaw16_numbers.mono _ _ _)
   | (with_reducible exact palinoderef16_Pick.mono _ _ _ _)
   | (with_reducible exact pick_Pick.mono _ _ _ _)
   | (with_reducible exact LeO.refl _)
   | (with_reducible exact LeO.none _)
   | (with_reducible refine LeO.ite ?_ ?_)
   | (with_reducible refine LeO.bind ?_ (fun _ => ?_))
   | exact palinodelaw16_numbers.mono _ _ _
   | exact palinoderef16_Pick.mono _ _ _ _
   | exact pick_Pick.mono _ _ _ _
   | exact LeO.none _
   | refine LeO.ite ?_ ?_
   | refine LeO.bind ?_ (fun _ => ?_)
set_option maxHeartbeats 8000000 in
set_option maxRecDepth 100000 in
theorem palinodelaw16_PickPicks.calls (k : Nat) (A0_0 : Option Addr) (c0_0 : Nat) (l0_0 : List (S48)) (A0_1 : Option Addr) (c0_1 : Nat) (l0_1 : List Int) (a0_2 : Int) (a1 : Int) (r : Bool) (w : World) (hr0_0 : Kd.C k48 w A0_0 l0_0.length l0_0) (hc0_0 : l0_0.length ≤ c0_0) (hr0_1 : Kd.C (Kd.int .i64) w A0_1 l0_1.length l0_1) (hc0_1 : l0_1.length ≤ c0_1) (ht_ : r = true) (h : palinodelaw16_PickPicks.f k l0_0 l0_1 a0_2 a1 = some r) :
  Calls Try.prog 3 #[.agg #[.slice A0_0 l0_0.length c0_0, .slice A0_1 l0_1.length c0_1, .int .i64 a0_2], .int .i64 a1] w fun e w' => e = .returned (.bool r) ∧ Below w.heap.size w w' := by
 have hu25 := Try.underlying25
 have hu28 := Try.underlying28
 have HR0_0 := Aside0.mk hr0_0
 have HC0_0 := Aside0.mk hc0_0
 clear hr0_0 hc0_0
 have HR0_1 := Aside0.mk hr0_1
 have HC0_1 := Aside0.mk hc0_1
 clear hr0_1 hc0_1
 have HB := Aside0.mk (Below.refl w.heap.size w)
 have H : ((palinodelaw16_examples.f).bind fun t320 => (if 0 ≤ (mn (l0_0.length : Int) 60) then (if (mn (l0_0.length : Int) 60) ≤ (l0_0.length : Int) then ((some (l0_0.take ((mn (l0_0.length : Int) 60) : Int).toNat : List (S48))).bind fun y321 => ((pick_Pick.f k y321 l0_1 a0_2).bind fun bt325 => ((palinoderef16_Pick.f k y321 l0_1 a0_2).bind fun bt335 => ((palinodelaw16_numbers.f k bt325.2.1 bt335.2.1).bind fun t345 => ((palinodelaw16_numbers.f k bt325.2.2.1 bt335.2.2.1).bind fun t346 => (if t320 = true then (if (bt325.2.2.2.2 == bt335.2.2.2.2) = true then (if bt325.1 = bt335.1 then (if (bt325.2.2.2.1 == bt335.2.2.2.1) = true then (if t345 = true then (if t346 = true then ((pick_Limit.f a1).bind fun t347 => ((palinoderef16_Limit.f a1).bind fun t348 => (some (t347 == t348)))) else (some false)) else (some false)) else (some false)) else (some false)) else (some false)) else (some false))))))) else (none)) else (none))) = some r := h
 clear h
 replace H := Option.bind_eq_some_iff.mp H
 obtain ⟨t320, A30, H⟩ := H
 replace H : (if 0 ≤ (mn (l0_0.length : Int) 60) then (if (mn (l0_0.length : Int) 60) ≤ (l0_0.length : Int) then ((some (l0_0.take ((mn (l0_0.length : Int) 60) : Int).toNat : List (S48))).bind fun y321 => ((pick_Pick.f k y321 l0_1 a0_2).bind fun bt325 => ((palinoderef16_Pick.f k y321 l0_1 a0_2).bind fun bt335 => ((palinodelaw16_numbers.f k bt325.2.1 bt335.2.1).bind fun t345 => ((palinodelaw16_numbers.f k bt325.2.2.1 bt335.2.2.1).bind fun t346 => (if t320 = true then (if (bt325.2.2.2.2 == bt335.2.2.2.2) = true then (if bt325.1 = bt335.1 then (if (bt325.2.2.2.1 == bt335.2.2.2.1) = true then (if t345 = true then (if t346 = true then ((pick_Limit.f a1).bind fun t347 => ((palinoderef16_Limit.f a1).bind fun t348 => (some (t347 == t348)))) else (some false)) else (some false)) else (some false)) else (some false)) else (some false)) else (some false))))))) else (none)) else (none)) = some r := H
 have A3 := Aside0.mk A30
 clear A30
 obtain ⟨ji4, hji4⟩ : ∃ j_ : Int, (mn (l0_0.length : Int) 60) = j_ := ⟨_, rfl⟩
 replace H : (if 0 ≤ (ji4) then (if (ji4) ≤ (l0_0.length : Int) then ((some (l0_0.take ((ji4) : Int).toNat : List (S48))).bind fun y321 => ((pick_Pick.f k y321 l0_1 a0_2).bind fun bt325 => ((palinoderef16_Pick.f k y321 l0_1 a0_2).bind fun bt335 => ((palinodelaw16_numbers.f k bt325.2.1 bt335.2.1).bind fun t345 => ((palinodelaw16_numbers.f k bt325.2.2.1 bt335.2.2.1).bind fun t346 => (if t320 = true then (if (bt325.2.2.2.2 == bt335.2.2.2.2) = true then (if bt325.1 = bt335.1 then (if (bt325.2.2.2.1 == bt335.2.2.2.1) = true then (if t345 = true then (if t346 = true then ((pick_Limit.f a1).bind fun t347 => ((palinoderef16_Limit.f a1).bind fun t348 => (some (t347 == t348)))) else (some false)) else (some false)) else (some false)) else (some false)) else (some false)) else (some false))))))) else (none)) else (none)) = some r := by first | (rw [hji4] at H; exact H) | (simp only [hji4] at H ⊢; exact H)
 (try rw [hji4] at A3)
 (try (have hji4h : ji4 ≤ 60 := by (rw [← hji4]; unfold mn; (repeat' split) <;> omega)))
 (try (have hji4g : ji4 ≤ 64 := by omega))
 (try (have hji4l : 0 ≤ ji4 := by (rw [← hji4]; unfold mn; (repeat' split) <;> omega)))
 (try (have hji4m : 0 ≤ ji4 := by omega))
 have hji4_ : (if 60 < (l0_0.length : Int) then 60 else (l0_0.length : Int)) = ji4 := hji4
 by_cases c5 : 0 ≤ (ji4)
 ·rw [if_pos c5] at H
  have c5b0 := eq_true c5
  have c5b1 : decide (0 ≤ (ji4)) = true := decide_eq_true c5
  clear c5
  by_cases c6 : (ji4) ≤ (l0_0.length : Int)
  ·rw [if_pos c6] at H
   have c6b0 := eq_true c6
   have c6b1 : decide ((ji4) ≤ (l0_0.length : Int)) = true := decide_eq_true c6
   clear c6
   obtain ⟨y321, hy321⟩ : ∃ y_ : List (S48), y_ = (l0_0.take ((ji4) : Int).toNat) := ⟨_, rfl⟩
   replace H : ((pick_Pick.f k y321 l0_1 a0_2).bind fun bt325 => ((palinoderef16_Pick.f k y321 l0_1 a0_2).bind fun bt335 => ((palinodelaw16_numbers.f k bt325.2.1 bt335.2.1).bind fun t345 => ((palinodelaw16_numbers.f k bt325.2.2.1 bt335.2.2.1).bind fun t346 => (if t320 = true then (if (bt325.2.2.2.2 == bt335.2.2.2.2) = true then (if bt325.1 = bt335.1 then (if (bt325.2.2.2.1 == bt335.2.2.2.1) = true then (if t345 = true then (if t346 = true then ((pick_Limit.f a1).bind fun t347 => ((palinoderef16_Limit.f a1).bind fun t348 => (some (t347 == t348)))) else (some false)) else (some false)) else (some false)) else (some false)) else (some false)) else (some false)))))) = some r := by first | (rw [hy321]; with_reducible exact H) | (have H2_ := (Option.bind_some _ _).symm.trans H; rw [hy321]; with_reducible exact H2_) | (have H2_ := (Option.bind_some _ _).symm.trans H; with_reducible exact H2_) | with_reducible exact H | (rw [hy321]; exact H) | exact H
   have Ny321 := Aside0.mk hy321
   clear hy321
   replace H := Option.bind_eq_some_iff.mp H
   obtain ⟨⟨t325, t326, t329, t332, t333⟩, A70, H⟩ := H
   replace H : ((palinoderef16_Pick.f k y321 l0_1 a0_2).bind fun bt335 => ((palinodelaw16_numbers.f k t326 bt335.2.1).bind fun t345 => ((palinodelaw16_numbers.f k t329 bt335.2.2.1).bind fun t346 => (if t320 = true then (if (t333 == bt335.2.2.2.2) = true then (if t325 = bt335.1 then (if (t332 == bt335.2.2.2.1) = true then (if t345 = true then (if t346 = true then ((pick_Limit.f a1).bind fun t347 => ((palinoderef16_Limit.f a1).bind fun t348 => (some (t347 == t348)))) else (some false)) else (some false)) else (some false)) else (some false)) else (some false)) else (some false))))) = some r := H
   have A7 := Aside0.mk A70
   clear A70
   replace H := Option.bind_eq_some_iff.mp H
   obtain ⟨⟨t335, t336, t339, t342, t343⟩, A80, H⟩ := H
   replace H : ((palinodelaw16_numbers.f k t326 t336).bind fun t345 => ((palinodelaw16_numbers.f k t329 t339).bind fun t346 => (if t320 = true then (if (t333 == t343) = true then (if t325 = t335 then (if (t332 == t342) = true then (if t345 = true then (if t346 = true then ((pick_Limit.f a1).bind fun t347 => ((palinoderef16_Limit.f a1).bind fun t348 => (some (t347 == t348)))) else (some false)) else (some false)) else (some false)) else (some false)) else (some false)) else (some false)))) = some r := H
   have A8 := Aside0.mk A80
   clear A80
   replace H := Option.bind_eq_some_iff.mp H
   obtain ⟨t345, A90, H⟩ := H
   replace H : ((palinodelaw16_numbers.f k t329 t339).bind fun t346 => (if t320 = true then (if (t333 == t343) = true then (if t325 = t335 then (if (t332 == t342) = true then (if t345 = true then (if t346 = true then ((pick_Limit.f a1).bind fun t347 => ((palinoderef16_Limit.f a1).bind fun t348 => (some (t347 == t348)))) else (some false)) else (some false)) else (some false)) else (some false)) else (some false)) else (some false))) = some r := H
   have A9 := Aside0.mk A90
   clear A90
   replace H := Option.bind_eq_some_iff.mp H
   obtain ⟨t346, A100, H⟩ := H
   replace H : (if t320 = true then (if (t333 == t343) = true then (if t325 = t335 then (if (t332 == t342) = true then (if t345 = true then (if t346 = true then ((pick_Limit.f a1).bind fun t347 => ((palinoderef16_Limit.f a1).bind fun t348 => (some (t347 == t348)))) else (some false)) else (some false)) else (some false)) else (some false)) else (some false)) else (some false)) = some r := H
   have A10 := Aside0.mk A100
   clear A100
   by_cases c11 : t320 = true
   ·subst c11
    have H1 : (if (t333 == t343) = true then (if t325 = t335 then (if (t332 == t342) = true then (if t345 = true then (if t346 = true then ((pick_Limit.f a1).bind fun t347 => ((palinoderef16_Limit.f a1).bind fun t348 => (some (t347 == t348)))) else (some false)) else (some false)) else (some false)) else (some false)) else (some false)) = some r := by rw [if_pos rfl] at H; exact H
    clear H
    have H := H1
    clear H1
    by_cases c12 : (t333 == t343) = true
    ·rw [if_pos c12] at H
     have c12b0 : (t333 == t343) = true := c12
     (try (have c12b1 : decide (t333 = t343) = true := by simpa using c12))
     (try (have c12b2 : (t333 == t343) = true := by simpa using c12))
     clear c12
     by_cases c13 : t325 = t335
     ·rw [if_pos c13] at H
      have c13b0 : (t325 == t335) = true := beq_iff_eq.mpr c13
      have c13b1 : (t325 != t335) = false := bne_eq_false_iff_eq.mpr c13
      clear c13
      by_cases c14 : (t332 == t342) = true
      ·rw [if_pos c14] at H
       have c14b0 : (t332 == t342) = true := c14
       (try (have c14b1 : decide (t332 = t342) = true := by simpa using c14))
       (try (have c14b2 : (t332 == t342) = true := by simpa using c14))
       clear c14
       by_cases c15 : t345 = true
       ·subst c15
        have H1 : (if t346 = true then ((pick_Limit.f a1).bind fun t347 => ((palinoderef16_Limit.f a1).bind fun t348 => (some (t347 == t348)))) else (some false)) = some r := by rw [if_pos rfl] at H; exact H
        clear H
        have H := H1
        clear H1
        by_cases c16 : t346 = true
        ·subst c16
         have H1 : ((pick_Limit.f a1).bind fun t347 => ((palinoderef16_Limit.f a1).bind fun t348 => (some (t347 == t348)))) = some r := by rw [if_pos rfl] at H; exact H
         clear H
         have H := H1
         clear H1
         replace H := Option.bind_eq_some_iff.mp H
         obtain ⟨t347, A170, H⟩ := H
         replace H : ((palinoderef16_Limit.f a1).bind fun t348 => (some (t347 == t348))) = some r := H
         have A17 := Aside0.mk A170
         clear A170
         replace H := Option.bind_eq_some_iff.mp H
         obtain ⟨t348, A180, H⟩ := H
         replace H : (some (t347 == t348)) = some r := H
         have A18 := Aside0.mk A180
         clear A180
         obtain rfl := Option.some.inj H
         go_enter Try.func3, Try.ntmps3
         go_wp2_with (first | ((with_reducible refine gate_dst (N := 2) rfl ?_); refine box_event ?hg (N := 2) ?hd (cs := #[.slice A0_0 l0_0.length c0_0, .slice A0_1 l0_1.length c0_1, .int .i64 a0_2]) (t := 25) ?hr ?_; (case hd => rfl); (case hg => rfl); (case hr => first | (go_simp; done) | (go_simp; rfl)); intro gb319 hg w19 hbox hb; have n0_ := Aside0.mk (bls (by repeat (first | (with_reducible first | exact HB.out | apply blA | apply blN | apply blD) | exact HB.out)) hb); have n1_ := Aside0.mk (hbox); have n2_ := Aside0.mk ((by rw [hg]; exact (blz (by repeat (first | (with_reducible first | exact HB.out | apply blA | apply blN | apply blD) | exact HB.out))) : w.heap.size ≤ gb319)); have n3_ := Aside0.mk ((by rw [hg]; exact (blz (by repeat (first | (with_reducible first | exact HB.out | apply blA | apply blN | apply blD) | exact HB.out))) : w.heap.size ≤ gb319)); clear HB; have HB := n0_; have BK319 := n1_; have GW319 := n2_; have GE319 := n3_; clear n0_ n1_ n2_ n3_; clear hb hbox hg) | ((with_reducible refine gate_callee (f := 5) rfl ?_); refine goesL_ (some 12) rfl rfl Try.func5 (by kernel_rfl) rfl #[] rfl (by (try simp only [List.map_toArray, List.map_cons, List.map_nil]); first | done | rfl | (simp only [List.length_drop, List.length_take]; rfl)) ?_; (with_reducible refine (palinodelaw16_examples.calls  true _ A3.out).mono ?_); rintro e w20 ⟨rfl, hb⟩; refine ⟨_, rfl, ?_⟩; have n0_ := Aside0.mk (bbl (g := gb319) (o := .cells #[.slice A0_0 l0_0.length c0_0, .slice A0_1 l0_1.length c0_1, .int .i64 a0_2] 25 (0, 0)) (by (with_reducible repeat (first | refine bdN ?_ _ | refine bdD ?_ | refine bdA ?_ _)); exact BK319.out) hb); have n1_ := Aside0.mk (bls (by repeat (first | (with_reducible first | exact HB.out | apply blA | apply blN | apply blD | refine blS ?_ GE319.out) | exact HB.out)) hb); clear BK319; clear HB; have BK319 := n0_; have HB := n1_; clear n0_ n1_; (try clear hb); (try clear hb2); (try clear hk); (try clear hi); have hcz21_0 : w20.cell? ⟨gb319, 0, none⟩ = some (.slice A0_0 l0_0.length c0_0) := (bcl BK319.out 0).trans rfl; have hcz21_1 : w20.cell? ⟨gb319, 1, none⟩ = some (.slice A0_1 l0_1.length c0_1) := (bcl BK319.out 1).trans rfl; have hcz21_2 : w20.cell? ⟨gb319, 2, none⟩ = some (.int .i64 a0_2) := (bcl BK319.out 2).trans rfl; have hfz21_0 := bfz BK319.out 0; have hfz21_1 := bfz BK319.out 1; have hfz21_2 := bfz BK319.out 2; have q22 : ((ji4) : Int) ≤ ((l0_0.length : Int) : Int) := of_decide_eq_true (by first | (with_reducible assumption) | assumption); obtain ⟨i022, hi022, _, hsz22, _⟩ := info_parts info48; have hroom22 : l0_0.length ≤ c0_0 := HC0_0.out; have hC22 : Kd.C k48 _ A0_0 l0_0.length l0_0 := HR0_0.out; have hcut22 := cut_to (P := Try.prog) 22 48 .i64 Try.underlying22 hi022 A0_0 l0_0.length c0_0 (ji4) (of_decide_eq_true (by first | (with_reducible assumption) | assumption)) q22 hroom22; have hr22 := Kd.C_take (m := ((ji4) : Int).toNat) hC22 (by omega); have hy22 : y321.length = ((ji4) : Int).toNat := (by rw [Ny321.out, List.length_take]; omega); rw [← Ny321.out] at hr22; rw [← hy22] at hcut22; have HR324 := Aside0.mk hr22; have HC324 := Aside0.mk (show y321.length ≤ c0_0 from by omega); clear hr22 hC22 hroom22 hi022 hsz22; have KY22 := Aside0.mk hy22; clear hy22; replace q22 := eq_true q22) | ((with_reducible refine gate_callee (f := 6) rfl ?_); refine goesL_ (some 23) rfl rfl Try.func6 (by kernel_rfl) rfl #[.agg #[.slice A0_0 y321.length c0_0, .slice A0_1 l0_1.length c0_1, .int .i64 a0_2]] rfl (by (try simp only [List.map_toArray, List.map_cons, List.map_nil]); first | done | rfl | (simp only [List.length_drop, List.length_take]; rfl)) ?_; (with_reducible refine (pick_Pick.calls k _ _ y321 _ _ l0_1 a0_2 t325 t326 t329 t332 t333 _ ?side1 ?side2 ?side3 ?side4 A7.out).mono ?_); (case side1 => exact Kd.C_below HR324.out (by repeat (first | (with_reducible first | exact HB.out | apply blA | apply blN | apply blD | refine blS ?_ GE319.out) | exact HB.out))); (case side2 => exact HC324.out); (case side3 => exact Kd.C_below HR0_1.out (by repeat (first | (with_reducible first | exact HB.out | apply blA | apply blN | apply blD | refine blS ?_ GE319.out) | exact HB.out))); (case side4 => exact HC0_1.out); rintro e w23 ⟨v327, v330, rfl, ho0, ho1, hb⟩; refine ⟨_, rfl, ?_⟩; have n0_ := Aside0.mk (Kd.R_lower ho0 (blz (by repeat (first | (with_reducible first | exact HB.out | apply blA | apply blN | apply blD | refine blS ?_ GE319.out) | exact HB.out)))); have n1_ := Aside0.mk (Kd.R_lower ho1 (blz (by repeat (first | (with_reducible first | exact HB.out | apply blA | apply blN | apply blD | refine blS ?_ GE319.out) | exact HB.out)))); have n2_ := Aside0.mk (bbl (g := gb319) (o := .cells #[.slice A0_0 y321.length c0_0, .slice A0_1 l0_1.length c0_1, .int .i64 a0_2] 25 (0, 0)) (by (with_reducible repeat (first | refine bdN ?_ _ | refine bdD ?_ | refine bdA ?_ _)); refine blk_put (cs := #[.slice A0_0 l0_0.length c0_0, .slice A0_1 l0_1.length c0_1, .int .i64 a0_2]) ?_ 0 _ rfl; (with_reducible repeat (first | refine bdN ?_ _ | refine bdD ?_ | refine bdA ?_ _)); exact BK319.out) hb); have n3_ := Aside0.mk (bls (by repeat (first | (with_reducible first | exact HB.out | apply blA | apply blN | apply blD | refine blS ?_ GE319.out) | exact HB.out)) hb); clear BK319; clear HB; have HO328 := n0_; have HO331 := n1_; have BK319 := n2_; have HB := n3_; clear n0_ n1_ n2_ n3_; (try clear hb); (try clear hb2); (try clear hk); (try clear hi); (try clear ho0); (try clear ho1)) | ((with_reducible refine gate_dst (N := 6) rfl ?_); refine box_event ?hg (N := 6) ?hd (cs := #[.int .i64 0, .slice none 0 0, .slice none 0 0, .bool false]) (t := 28) ?hr ?_; (case hd => rfl); (case hg => rfl); (case hr => first | (go_simp; done) | (go_simp; rfl)); intro gb334 hg w24 hbox hb; have n0_ := Aside0.mk (Kd.R_below (by (with_reducible repeat (first | apply Kd.R_alloc | apply Kd.R_drewN | apply Kd.R_drew)); exact HO328.out) hb); have n1_ := Aside0.mk (Kd.R_below (by (with_reducible repeat (first | apply Kd.R_alloc | apply Kd.R_drewN | apply Kd.R_drew)); exact HO331.out) hb); have n2_ := Aside0.mk (bbl (g := gb319) (o := .cells #[.slice A0_0 y321.length c0_0, .slice A0_1 l0_1.length c0_1, .int .i64 a0_2] 25 (0, 0)) (by (with_reducible repeat (first | refine bdN ?_ _ | refine bdD ?_ | refine bdA ?_ _)); exact BK319.out) hb); have n3_ := Aside0.mk (bls (by repeat (first | (with_reducible first | exact HB.out | apply blA | apply blN | apply blD | refine blS ?_ GE319.out) | exact HB.out)) hb); have n4_ := Aside0.mk (hbox); have n5_ := Aside0.mk ((by rw [hg]; exact (blz (by repeat (first | (with_reducible first | exact HB.out | apply blA | apply blN | apply blD | refine blS ?_ GE319.out) | exact HB.out))) : w.heap.size ≤ gb334)); have n6_ := Aside0.mk ((by rw [hg]; exact (blz (by repeat (first | (with_reducible first | exact HB.out | apply blA | apply blN | apply blD | refine blS ?_ GE319.out) | exact HB.out))) : w.heap.size ≤ gb334)); have n7_ := Aside0.mk ((by rw [hg]; exact Nat.ne_of_lt (blk_lt (g := gb319) (o := .cells #[.slice A0_0 y321.length c0_0, .slice A0_1 l0_1.length c0_1, .int .i64 a0_2] 25 (0, 0)) (by (with_reducible repeat (first | refine bdN ?_ _ | refine bdD ?_ | refine bdA ?_ _)); exact BK319.out)) : gb319 ≠ gb334)); have n8_ := Aside0.mk ((by rw [hg]; exact Nat.ne_of_gt (blk_lt (g := gb319) (o := .cells #[.slice A0_0 y321.length c0_0, .slice A0_1 l0_1.length c0_1, .int .i64 a0_2] 25 (0, 0)) (by (with_reducible repeat (first | refine bdN ?_ _ | refine bdD ?_ | refine bdA ?_ _)); exact BK319.out)) : gb334 ≠ gb319)); clear HO328; clear HO331; clear BK319; clear HB; have HO328 := n0_; have HO331 := n1_; have BK319 := n2_; have HB := n3_; have BK334 := n4_; have GW334 := n5_; have GE334 := n6_; have NB319_334 := n7_; have NB334_319 := n8_; clear n0_ n1_ n2_ n3_ n4_ n5_ n6_ n7_ n8_; clear hb hbox hg; have hnb25 := NB334_319.out; have hnc25 := NB319_334.out; have hcz26_0 : w24.cell? ⟨gb334, 0, none⟩ = some (.int .i64 0) := (bcl BK334.out 0).trans rfl; have hcz26_1 : w24.cell? ⟨gb334, 1, none⟩ = some (.slice none 0 0) := (bcl BK334.out 1).trans rfl; have hcz26_2 : w24.cell? ⟨gb334, 2, none⟩ = some (.slice none 0 0) := (bcl BK334.out 2).trans rfl; have hcz26_3 : w24.cell? ⟨gb334, 3, none⟩ = some (.bool false) := (bcl BK334.out 3).trans rfl; have hfz26_0 := bfz BK334.out 0; have hfz26_1 := bfz BK334.out 1; have hfz26_2 := bfz BK334.out 2; have hfz26_3 := bfz BK334.out 3; obtain ⟨Ao27, co27, eo27⟩ := Kd.R_slice HO328.out; subst eo27; obtain ⟨Ao28, co28, eo28⟩ := Kd.R_slice HO331.out; subst eo28; have hcz29_0 : w24.cell? ⟨gb319, 0, none⟩ = some (.slice A0_0 y321.length c0_0) := (bcl BK319.out 0).trans rfl; have hcz29_1 : w24.cell? ⟨gb319, 1, none⟩ = some (.slice A0_1 l0_1.length c0_1) := (bcl BK319.out 1).trans rfl; have hcz29_2 : w24.cell? ⟨gb319, 2, none⟩ = some (.int .i64 a0_2) := (bcl BK319.out 2).trans rfl; have hfz29_0 := bfz BK319.out 0; have hfz29_1 := bfz BK319.out 1; have hfz29_2 := bfz BK319.out 2) | ((with_reducible refine gate_callee (f := 7) rfl ?_); refine goesL_ (some 28) rfl rfl Try.func7 (by kernel_rfl) rfl #[.agg #[.slice A0_0 y321.length c0_0, .slice A0_1 l0_1.length c0_1, .int .i64 a0_2]] rfl (by (try simp only [List.map_toArray, List.map_cons, List.map_nil]); first | done | rfl | (simp only [List.length_drop, List.length_take]; rfl)) ?_; (with_reducible refine (palinoderef16_Pick.calls k _ _ y321 _ _ l0_1 a0_2 t335 t336 t339 t342 t343 _ ?side1 ?side2 ?side3 ?side4 A8.out).mono ?_); (case side1 => exact Kd.C_below HR324.out (by repeat (first | (with_reducible first | exact HB.out | apply blA | apply blN | apply blD | refine blS ?_ GE319.out | refine blS ?_ GE334.out) | exact HB.out))); (case side2 => exact HC324.out); (case side3 => exact Kd.C_below HR0_1.out (by repeat (first | (with_reducible first | exact HB.out | apply blA | apply blN | apply blD | refine blS ?_ GE319.out | refine blS ?_ GE334.out) | exact HB.out))); (case side4 => exact HC0_1.out); rintro e w30 ⟨v337, v340, rfl, ho0, ho1, hb⟩; refine ⟨_, rfl, ?_⟩; have n0_ := Aside0.mk (Kd.R_mono (Kd.R_told (Kd.R_told (Kd.R_old (by (with_reducible repeat (first | apply Kd.R_alloc | apply Kd.R_drewN | apply Kd.R_drew)); exact (Kd.R_mono (Kd.R_far (p := ⟨gb334, 3, none⟩) (Kd.R_far (p := ⟨gb334, 2, none⟩) (Kd.R_far (p := ⟨gb334, 1, none⟩) (Kd.R_far (p := ⟨gb334, 0, none⟩) (Kd.R_types HO328.out BK334.out (by decide)) (fun _ hk => hk.2) (.int .i64 t325)) (fun _ hk => hk.2) (.slice Ao27 t326.length co27)) (fun _ hk => hk.2) (.slice Ao28 t329.length co28)) (fun _ hk => hk.2) (.bool t332)) (fun _ h_ => h_.1))) hb) (Kd.R_base ho0)) (Kd.R_base ho1)) (fun _ h_ => h_.1)); have n1_ := Aside0.mk (Kd.R_mono (Kd.R_told (Kd.R_told (Kd.R_old (by (with_reducible repeat (first | apply Kd.R_alloc | apply Kd.R_drewN | apply Kd.R_drew)); exact (Kd.R_mono (Kd.R_far (p := ⟨gb334, 3, none⟩) (Kd.R_far (p := ⟨gb334, 2, none⟩) (Kd.R_far (p := ⟨gb334, 1, none⟩) (Kd.R_far (p := ⟨gb334, 0, none⟩) (Kd.R_types HO331.out BK334.out (by decide)) (fun _ hk => hk.2) (.int .i64 t325)) (fun _ hk => hk.2) (.slice Ao27 t326.length co27)) (fun _ hk => hk.2) (.slice Ao28 t329.length co28)) (fun _ hk => hk.2) (.bool t332)) (fun _ h_ => h_.1))) hb) (Kd.R_base ho0)) (Kd.R_base ho1)) (fun _ h_ => h_.1)); have n2_ := Aside0.mk (Kd.R_lower (Kd.R_new' (Kd.R_new' ho0 (Kd.R_lt (by (with_reducible repeat (first | apply Kd.R_alloc | apply Kd.R_drewN | apply Kd.R_drew)); exact (Kd.R_mono (Kd.R_far (p := ⟨gb334, 3, none⟩) (Kd.R_far (p := ⟨gb334, 2, none⟩) (Kd.R_far (p := ⟨gb334, 1, none⟩) (Kd.R_far (p := ⟨gb334, 0, none⟩) (Kd.R_types HO328.out BK334.out (by decide)) (fun _ hk => hk.2) (.int .i64 t325)) (fun _ hk => hk.2) (.slice Ao27 t326.length co27)) (fun _ hk => hk.2) (.slice Ao28 t329.length co28)) (fun _ hk => hk.2) (.bool t332)) (fun _ h_ => h_.1))))) (Kd.R_lt (by (with_reducible repeat (first | apply Kd.R_alloc | apply Kd.R_drewN | apply Kd.R_drew)); exact (Kd.R_mono (Kd.R_far (p := ⟨gb334, 3, none⟩) (Kd.R_far (p := ⟨gb334, 2, none⟩) (Kd.R_far (p := ⟨gb334, 1, none⟩) (Kd.R_far (p := ⟨gb334, 0, none⟩) (Kd.R_types HO331.out BK334.out (by decide)) (fun _ hk => hk.2) (.int .i64 t325)) (fun _ hk => hk.2) (.slice Ao27 t326.length co27)) (fun _ hk => hk.2) (.slice Ao28 t329.length co28)) (fun _ hk => hk.2) (.bool t332)) (fun _ h_ => h_.1))))) (blz (by repeat (first | (with_reducible first | exact HB.out | apply blA | apply blN | apply blD | refine blS ?_ GE319.out | refine blS ?_ GE334.out) | exact HB.out)))); have n3_ := Aside0.mk (Kd.R_lower (Kd.R_new' (Kd.R_new' ho1 (Kd.R_lt (by (with_reducible repeat (first | apply Kd.R_alloc | apply Kd.R_drewN | apply Kd.R_drew)); exact (Kd.R_mono (Kd.R_far (p := ⟨gb334, 3, none⟩) (Kd.R_far (p := ⟨gb334, 2, none⟩) (Kd.R_far (p := ⟨gb334, 1, none⟩) (Kd.R_far (p := ⟨gb334, 0, none⟩) (Kd.R_types HO328.out BK334.out (by decide)) (fun _ hk => hk.2) (.int .i64 t325)) (fun _ hk => hk.2) (.slice Ao27 t326.length co27)) (fun _ hk => hk.2) (.slice Ao28 t329.length co28)) (fun _ hk => hk.2) (.bool t332)) (fun _ h_ => h_.1))))) (Kd.R_lt (by (with_reducible repeat (first | apply Kd.R_alloc | apply Kd.R_drewN | apply Kd.R_drew)); exact (Kd.R_mono (Kd.R_far (p := ⟨gb334, 3, none⟩) (Kd.R_far (p := ⟨gb334, 2, none⟩) (Kd.R_far (p := ⟨gb334, 1, none⟩) (Kd.R_far (p := ⟨gb334, 0, none⟩) (Kd.R_types HO331.out BK334.out (by decide)) (fun _ hk => hk.2) (.int .i64 t325)) (fun _ hk => hk.2) (.slice Ao27 t326.length co27)) (fun _ hk => hk.2) (.slice Ao28 t329.length co28)) (fun _ hk => hk.2) (.bool t332)) (fun _ h_ => h_.1))))) (blz (by repeat (first | (with_reducible first | exact HB.out | apply blA | apply blN | apply blD | refine blS ?_ GE319.out | refine blS ?_ GE334.out) | exact HB.out)))); have n4_ := Aside0.mk (bbl (g := gb319) (o := .cells #[.slice A0_0 y321.length c0_0, .slice A0_1 l0_1.length c0_1, .int .i64 a0_2] 25 (0, 0)) (by (with_reducible repeat (first | refine bdN ?_ _ | refine bdD ?_ | refine bdA ?_ _)); refine blk_far ?_ NB319_334.out _; (with_reducible repeat (first | refine bdN ?_ _ | refine bdD ?_ | refine bdA ?_ _)); refine blk_far ?_ NB319_334.out _; (with_reducible repeat (first | refine bdN ?_ _ | refine bdD ?_ | refine bdA ?_ _)); refine blk_far ?_ NB319_334.out _; (with_reducible repeat (first | refine bdN ?_ _ | refine bdD ?_ | refine bdA ?_ _)); refine blk_far ?_ NB319_334.out _; (with_reducible repeat (first | refine bdN ?_ _ | refine bdD ?_ | refine bdA ?_ _)); exact BK319.out) hb); have n5_ := Aside0.mk (bbl (g := gb334) (o := .cells #[.int .i64 t325, .slice Ao27 t326.length co27, .slice Ao28 t329.length co28, .bool t332] 28 (0, 0)) (by (with_reducible repeat (first | refine bdN ?_ _ | refine bdD ?_ | refine bdA ?_ _)); refine blk_put (cs := #[.int .i64 t325, .slice Ao27 t326.length co27, .slice Ao28 t329.length co28, .bool false]) ?_ 3 _ rfl; (with_reducible repeat (first | refine bdN ?_ _ | refine bdD ?_ | refine bdA ?_ _)); refine blk_put (cs := #[.int .i64 t325, .slice Ao27 t326.length co27, .slice none 0 0, .bool false]) ?_ 2 _ rfl; (with_reducible repeat (first | refine bdN ?_ _ | refine bdD ?_ | refine bdA ?_ _)); refine blk_put (cs := #[.int .i64 t325, .slice none 0 0, .slice none 0 0, .bool false]) ?_ 1 _ rfl; (with_reducible repeat (first | refine bdN ?_ _ | refine bdD ?_ | refine bdA ?_ _)); refine blk_put (cs := #[.int .i64 0, .slice none 0 0, .slice none 0 0, .bool false]) ?_ 0 _ rfl; (with_reducible repeat (first | refine bdN ?_ _ | refine bdD ?_ | refine bdA ?_ _)); exact BK334.out) hb); have n6_ := Aside0.mk (bls (by repeat (first | (with_reducible first | exact HB.out | apply blA | apply blN | apply blD | refine blS ?_ GE319.out | refine blS ?_ GE334.out) | exact HB.out)) hb); clear HO328; clear HO331; clear BK319; clear BK334; clear HB; have HO328 := n0_; have HO331 := n1_; have HO338 := n2_; have HO341 := n3_; have BK319 := n4_; have BK334 := n5_; have HB := n6_; clear n0_ n1_ n2_ n3_ n4_ n5_ n6_; (try clear hb); (try clear hb2); (try clear hk); (try clear hi); (try clear ho0); (try clear ho1)) | ((with_reducible refine gate_dst (N := 8) rfl ?_); refine box_event ?hg (N := 8) ?hd (cs := #[.int .i64 0, .slice none 0 0, .slice none 0 0, .bool false]) (t := 28) ?hr ?_; (case hd => rfl); (case hg => rfl); (case hr => first | (go_simp; done) | (go_simp; rfl)); intro gb344 hg w31 hbox hb; have n0_ := Aside0.mk (Kd.R_below (by (with_reducible repeat (first | apply Kd.R_alloc | apply Kd.R_drewN | apply Kd.R_drew)); exact HO328.out) hb); have n1_ := Aside0.mk (Kd.R_below (by (with_reducible repeat (first | apply Kd.R_alloc | apply Kd.R_drewN | apply Kd.R_drew)); exact HO331.out) hb); have n2_ := Aside0.mk (Kd.R_below (by (with_reducible repeat (first | apply Kd.R_alloc | apply Kd.R_drewN | apply Kd.R_drew)); exact HO338.out) hb); have n3_ := Aside0.mk (Kd.R_below (by (with_reducible repeat (first | apply Kd.R_alloc | apply Kd.R_drewN | apply Kd.R_drew)); exact HO341.out) hb); have n4_ := Aside0.mk (bbl (g := gb319) (o := .cells #[.slice A0_0 y321.length c0_0, .slice A0_1 l0_1.length c0_1, .int .i64 a0_2] 25 (0, 0)) (by (with_reducible repeat (first | refine bdN ?_ _ | refine bdD ?_ | refine bdA ?_ _)); exact BK319.out) hb); have n5_ := Aside0.mk (bbl (g := gb334) (o := .cells #[.int .i64 t325, .slice Ao27 t326.length co27, .slice Ao28 t329.length co28, .bool t332] 28 (0, 0)) (by (with_reducible repeat (first | refine bdN ?_ _ | refine bdD ?_ | refine bdA ?_ _)); exact BK334.out) hb); have n6_ := Aside0.mk (bls (by repeat (first | (with_reducible first | exact HB.out | apply blA | apply blN | apply blD | refine blS ?_ GE319.out | refine blS ?_ GE334.out) | exact HB.out)) hb); have n7_ := Aside0.mk (hbox); have n8_ := Aside0.mk ((by rw [hg]; exact (blz (by repeat (first | (with_reducible first | exact HB.out | apply blA | apply blN | apply blD | refine blS ?_ GE319.out | refine blS ?_ GE334.out) | exact HB.out))) : w.heap.size ≤ gb344)); have n9_ := Aside0.mk ((by rw [hg]; exact (blz (by repeat (first | (with_reducible first | exact HB.out | apply blA | apply blN | apply blD | refine blS ?_ GE319.out | refine blS ?_ GE334.out) | exact HB.out))) : w.heap.size ≤ gb344)); have n10_ := Aside0.mk ((by rw [hg]; exact Nat.ne_of_lt (blk_lt (g := gb319) (o := .cells #[.slice A0_0 y321.length c0_0, .slice A0_1 l0_1.length c0_1, .int .i64 a0_2] 25 (0, 0)) (by (with_reducible repeat (first | refine bdN ?_ _ | refine bdD ?_ | refine bdA ?_ _)); exact BK319.out)) : gb319 ≠ gb344)); have n11_ := Aside0.mk ((by rw [hg]; exact Nat.ne_of_gt (blk_lt (g := gb319) (o := .cells #[.slice A0_0 y321.length c0_0, .slice A0_1 l0_1.length c0_1, .int .i64 a0_2] 25 (0, 0)) (by (with_reducible repeat (first | refine bdN ?_ _ | refine bdD ?_ | refine bdA ?_ _)); exact BK319.out)) : gb344 ≠ gb319)); have n12_ := Aside0.mk ((by rw [hg]; exact Nat.ne_of_lt (blk_lt (g := gb334) (o := .cells #[.int .i64 t325, .slice Ao27 t326.length co27, .slice Ao28 t329.length co28, .bool t332] 28 (0, 0)) (by (with_reducible repeat (first | refine bdN ?_ _ | refine bdD ?_ | refine bdA ?_ _)); exact BK334.out)) : gb334 ≠ gb344)); have n13_ := Aside0.mk ((by rw [hg]; exact Nat.ne_of_gt (blk_lt (g := gb334) (o := .cells #[.int .i64 t325, .slice Ao27 t326.length co27, .slice Ao28 t329.length co28, .bool t332] 28 (0, 0)) (by (with_reducible repeat (first | refine bdN ?_ _ | refine bdD ?_ | refine bdA ?_ _)); exact BK334.out)) : gb344 ≠ gb334)); clear HO328; clear HO331; clear HO338; clear HO341; clear BK319; clear BK334; clear HB; have HO328 := n0_; have HO331 := n1_; have HO338 := n2_; have HO341 := n3_; have BK319 := n4_; have BK334 := n5_; have HB := n6_; have BK344 := n7_; have GW344 := n8_; have GE344 := n9_; have NB319_344 := n10_; have NB344_319 := n11_; have NB334_344 := n12_; have NB344_334 := n13_; clear n0_ n1_ n2_ n3_ n4_ n5_ n6_ n7_ n8_ n9_ n10_ n11_ n12_ n13_; clear hb hbox hg; have hnb32 := NB344_319.out; have hnc32 := NB319_344.out; have hnb33 := NB344_334.out; have hnc33 := NB334_344.out; have hcz34_0 : w31.cell? ⟨gb344, 0, none⟩ = some (.int .i64 0) := (bcl BK344.out 0).trans rfl; have hcz34_1 : w31.cell? ⟨gb344, 1, none⟩ = some (.slice none 0 0) := (bcl BK344.out 1).trans rfl; have hcz34_2 : w31.cell? ⟨gb344, 2, none⟩ = some (.slice none 0 0) := (bcl BK344.out 2).trans rfl; have hcz34_3 : w31.cell? ⟨gb344, 3, none⟩ = some (.bool false) := (bcl BK344.out 3).trans rfl; have hfz34_0 := bfz BK344.out 0; have hfz34_1 := bfz BK344.out 1; have hfz34_2 := bfz BK344.out 2; have hfz34_3 := bfz BK344.out 3; obtain ⟨Ao35, co35, eo35⟩ := Kd.R_slice HO338.out; subst eo35; obtain ⟨Ao36, co36, eo36⟩ := Kd.R_slice HO341.out; subst eo36; have hcz37_0 : w31.cell? ⟨gb334, 0, none⟩ = some (.int .i64 t325) := (bcl BK334.out 0).trans rfl; have hcz37_1 : w31.cell? ⟨gb334, 1, none⟩ = some (.slice Ao27 t326.length co27) := (bcl BK334.out 1).trans rfl; have hcz37_2 : w31.cell? ⟨gb334, 2, none⟩ = some (.slice Ao28 t329.length co28) := (bcl BK334.out 2).trans rfl; have hcz37_3 : w31.cell? ⟨gb334, 3, none⟩ = some (.bool t332) := (bcl BK334.out 3).trans rfl; have hfz37_0 := bfz BK334.out 0; have hfz37_1 := bfz BK334.out 1; have hfz37_2 := bfz BK334.out 2; have hfz37_3 := bfz BK334.out 3) | ((with_reducible refine gate_callee (f := 8) rfl ?_); refine goesL_ (some 35) rfl rfl Try.func8 (by kernel_rfl) rfl #[.slice Ao27 t326.length co27, .slice Ao35 t336.length co35] rfl (by (try simp only [List.map_toArray, List.map_cons, List.map_nil]); first | done | rfl | (simp only [List.length_drop, List.length_take]; rfl)) ?_; (with_reducible refine (palinodelaw16_numbers.calls k _ _ t326 _ _ t336 true _ ?side1 ?side2 ?side3 ?side4 A9.out).mono ?_); (case side1 => refine (Kd.R_reads' (e := 3) (base := w.heap.size) (ok := fun k_ => ((some k_ ≠ (.slice Ao28 t329.length co28 : Value).ownBlock ∧ some k_ ≠ (.slice Ao35 t336.length co35 : Value).ownBlock) ∧ some k_ ≠ (.slice Ao36 t339.length co36 : Value).ownBlock)) (n := t326.length) (c := co27) ?_).2.2; exact (by (with_reducible repeat (first | apply Kd.R_alloc | apply Kd.R_drewN | apply Kd.R_drew)); exact (Kd.R_mono (Kd.R_far (p := ⟨gb344, 3, none⟩) (Kd.R_far (p := ⟨gb344, 2, none⟩) (Kd.R_far (p := ⟨gb344, 1, none⟩) (Kd.R_far (p := ⟨gb344, 0, none⟩) (Kd.R_types HO328.out BK344.out (by decide)) (fun _ hk => hk.2) (.int .i64 t335)) (fun _ hk => hk.2) (.slice Ao35 t336.length co35)) (fun _ hk => hk.2) (.slice Ao36 t339.length co36)) (fun _ hk => hk.2) (.bool t342)) (fun _ h_ => h_.1)))); (case side2 => exact (Kd.R_reads' HO328.out).2.1); (case side3 => refine (Kd.R_reads' (e := 3) (base := w.heap.size) (ok := fun k_ => ((some k_ ≠ (.slice Ao36 t339.length co36 : Value).ownBlock ∧ some k_ ≠ (.slice Ao27 t326.length co27 : Value).ownBlock) ∧ some k_ ≠ (.slice Ao28 t329.length co28 : Value).ownBlock)) (n := t336.length) (c := co35) ?_).2.2; exact (by (with_reducible repeat (first | apply Kd.R_alloc | apply Kd.R_drewN | apply Kd.R_drew)); exact (Kd.R_mono (Kd.R_far (p := ⟨gb344, 3, none⟩) (Kd.R_far (p := ⟨gb344, 2, none⟩) (Kd.R_far (p := ⟨gb344, 1, none⟩) (Kd.R_far (p := ⟨gb344, 0, none⟩) (Kd.R_types HO338.out BK344.out (by decide)) (fun _ hk => hk.2) (.int .i64 t335)) (fun _ hk => hk.2) (.slice Ao35 t336.length co35)) (fun _ hk => hk.2) (.slice Ao36 t339.length co36)) (fun _ hk => hk.2) (.bool t342)) (fun _ h_ => h_.1)))); (case side4 => exact (Kd.R_reads' HO338.out).2.1); rintro e w' ⟨rfl, ⟨nd, rfl⟩⟩; refine ⟨_, rfl, ?_⟩) | ((with_reducible refine gate_callee (f := 8) rfl ?_); refine goesL_ (some 40) rfl rfl Try.func8 (by kernel_rfl) rfl #[.slice Ao28 t329.length co28, .slice Ao36 t339.length co36] rfl (by (try simp only [List.map_toArray, List.map_cons, List.map_nil]); first | done | rfl | (simp only [List.length_drop, List.length_take]; rfl)) ?_; (with_reducible refine (palinodelaw16_numbers.calls k _ _ t329 _ _ t339 true _ ?side1 ?side2 ?side3 ?side4 A10.out).mono ?_); (case side1 => refine (Kd.R_reads' (e := 3) (base := w.heap.size) (ok := fun k_ => ((some k_ ≠ (.slice Ao27 t326.length co27 : Value).ownBlock ∧ some k_ ≠ (.slice Ao35 t336.length co35 : Value).ownBlock) ∧ some k_ ≠ (.slice Ao36 t339.length co36 : Value).ownBlock)) (n := t329.length) (c := co28) ?_).2.2; exact (by (with_reducible repeat (first | apply Kd.R_alloc | apply Kd.R_drewN | apply Kd.R_drew)); exact (Kd.R_mono (Kd.R_far (p := ⟨gb344, 3, none⟩) (Kd.R_far (p := ⟨gb344, 2, none⟩) (Kd.R_far (p := ⟨gb344, 1, none⟩) (Kd.R_far (p := ⟨gb344, 0, none⟩) (Kd.R_types HO331.out BK344.out (by decide)) (fun _ hk => hk.2) (.int .i64 t335)) (fun _ hk => hk.2) (.slice Ao35 t336.length co35)) (fun _ hk => hk.2) (.slice Ao36 t339.length co36)) (fun _ hk => hk.2) (.bool t342)) (fun _ h_ => h_.1)))); (case side2 => exact (Kd.R_reads' HO331.out).2.1); (case side3 => refine (Kd.R_reads' (e := 3) (base := w.heap.size) (ok := fun k_ => ((some k_ ≠ (.slice Ao35 t336.length co35 : Value).ownBlock ∧ some k_ ≠ (.slice Ao27 t326.length co27 : Value).ownBlock) ∧ some k_ ≠ (.slice Ao28 t329.length co28 : Value).ownBlock)) (n := t339.length) (c := co36) ?_).2.2; exact (by (with_reducible repeat (first | apply Kd.R_alloc | apply Kd.R_drewN | apply Kd.R_drew)); exact (Kd.R_mono (Kd.R_far (p := ⟨gb344, 3, none⟩) (Kd.R_far (p := ⟨gb344, 2, none⟩) (Kd.R_far (p := ⟨gb344, 1, none⟩) (Kd.R_far (p := ⟨gb344, 0, none⟩) (Kd.R_types HO341.out BK344.out (by decide)) (fun _ hk => hk.2) (.int .i64 t335)) (fun _ hk => hk.2) (.slice Ao35 t336.length co35)) (fun _ hk => hk.2) (.slice Ao36 t339.length co36)) (fun _ hk => hk.2) (.bool t342)) (fun _ h_ => h_.1)))); (case side4 => exact (Kd.R_reads' HO341.out).2.1); rintro e w' ⟨rfl, ⟨nd, rfl⟩⟩; refine ⟨_, rfl, ?_⟩) | (go_at_call 9; (with_reducible refine (pick_Limit.calls a1 t347 _ A17.out).mono ?_); rintro e w' ⟨rfl, ⟨nd, rfl⟩⟩) | (go_at_call 10; (with_reducible refine (palinoderef16_Limit.calls a1 t348 _ A18.out).mono ?_); rintro e w' ⟨rfl, ⟨nd, rfl⟩⟩))
         go_ret
         exact ⟨by first | rfl | (simp [errW_none, errW_some] <;> rfl) | (simp only [← hji4]; first | rfl | (simp [errW_none, errW_some] <;> rfl)) | (simp [*, errW_none, errW_some] <;> rfl), by repeat (first | (with_reducible first | exact HB.out | apply blA | apply blN | apply blD | refine blS ?_ GE319.out | refine blS ?_ GE334.out | refine blS ?_ GE344.out) | exact HB.out)⟩
        ·replace c16 := Bool.eq_false_iff.mpr c16
         subst c16
         have H1 : (some false) = some r := by rw [if_neg (show ¬ (false = true) by decide)] at H; exact H
         clear H
         have H := H1
         clear H1
         rw [ht_] at H
         exact absurd H (by simp)
       ·replace c15 := Bool.eq_false_iff.mpr c15
        subst c15
        have H1 : (some false) = some r := by rw [if_neg (show ¬ (false = true) by decide)] at H; exact H
        clear H
        have H := H1
        clear H1
        rw [ht_] at H
        exact absurd H (by simp)
      ·rw [if_neg c14] at H
       have c14b0 : (t332 == t342) = false := by simpa using c14
       (try (have c14b1 : decide (t332 = t342) = false := by simpa using c14))
       (try (have c14b2 : (t332 == t342) = false := by simpa using c14))
       (try (have c14b3 : ¬ (t332 = t342) := by simpa using c14))
       clear c14
       rw [ht_] at H
       exact absurd H (by simp)
     ·rw [if_neg c13] at H
      have c13b0 : (t325 == t335) = false := beq_eq_false_iff_ne.mpr c13
      have c13b1 : (t325 != t335) = true := bne_iff_ne.mpr c13
      rw [ht_] at H
      exact absurd H (by simp)
    ·rw [if_neg c12] at H
     have c12b0 : (t333 == t343) = false := by simpa using c12
     (try (have c12b1 : decide (t333 = t343) = false := by simpa using c12))
     (try (have c12b2 : (t333 == t343) = false := by simpa using c12))
     (try (have c12b3 : ¬ (t333 = t343) := by simpa using c12))
     clear c12
     rw [ht_] at H
     exact absurd H (by simp)
   ·replace c11 := Bool.eq_false_iff.mpr c11
    subst c11
    have H1 : (some false) = some r := by rw [if_neg (show ¬ (false = true) by decide)] at H; exact H
    clear H
    have H := H1
    clear H1
    rw [ht_] at H
    exact absurd H (by simp)
  ·rw [if_neg c6] at H
   exact absurd H (by simp)
 ·rw [if_neg c5] at H
  exact absurd H (by simp)
/-! ### palinoderef16_Cut: function 11 -/
def palinoderef16_Cut.l0 : Nat → List (S45) → Int → List (List (S45)) → Int → Int → Option ((List (List (S45))) × Bool)
 | 0, _, _, _, _, _ => none
 | k + 1, x0, x1, x6, x7, x8 => if x8 < (x0.length : Int) then (if x8 = (wrap64 ((x0.length : Int) - 1)) then (if (wrap64 ((wrap64 (x8 + 1)) - x7)) ≥ x1 then (if 0 ≤ x7 then (if x7 ≤ (wrap64 (x8 + 1)) then (if (wrap64 (x8 + 1)) ≤ (x0.length : Int) then (if x6.length < 5864062014805 then (palinoderef16_Cut.l0 k x0 x1 (x6 ++ [((x0.take ((wrap64 (x8 + 1)) : Int).toNat).drop (x7 : Int).toNat)]) (wrap64 (x8 + 1)) (wrap64 (x8 + 1))) else (none)) else (none)) else (none)) else (none)) else (if 0 ≤ x7 then (if x7 ≤ (wrap64 (x8 + 1)) then (if (wrap64 (x8 + 1)) ≤ (x0.length : Int) then (if x6.length < 5864062014805 then (palinoderef16_Cut.l0 k x0 x1 (x6 ++ [((x0.take ((wrap64 (x8 + 1)) : Int).toNat).drop (x7 : Int).toNat)]) (wrap64 (x8 + 1)) (wrap64 (x8 + 1))) else (none)) else (none)) else (none)) else (none))) else (if 0 ≤ (wrap64 (x8 + 1)) then (if (wrap64 (x8 + 1)) < (x0.length : Int) then (if 0 ≤ x8 then (if ((rd_T45 x0 (wrap64 (x8 + 1))).f0).toList = ((rd_T45 x0 x8).f0).toList then (palinoderef16_Cut.l0 k x0 x1 x6 x7 (wrap64 (x8 + 1))) else (if (wrap64 ((wrap64 (x8 + 1)) - x7)) ≥ x1 then (if 0 ≤ x7 then (if x7 ≤ (wrap64 (x8 + 1)) then (if (wrap64 (x8 + 1)) ≤ (x0.length : Int) then (if x6.length < 5864062014805 then (palinoderef16_Cut.l0 k x0 x1 (x6 ++ [((x0.take ((wrap64 (x8 + 1)) : Int).toNat).drop (x7 : Int).toNat)]) (wrap64 (x8 + 1)) (wrap64 (x8 + 1))) else (none)) else (none)) else (none)) else (none)) else (palinoderef16_Cut.l0 k x0 x1 x6 x7 (wrap64 (x8 + 1))))) else (none)) else (none)) else (none))) else (some (x6, true))
def palinoderef16_Cut.f (k : Nat) (l0 : List (S45)) (a1 : Int) : Option ((List (List (S45))) × Bool) := if a1 < 1 then (some (([] : List (List (S45))), false)) else (palinoderef16_Cut.l0 k l0 a1 ([] : List (List (S45))) 0 0)
theorem palinoderef16_Cut.mono_l : ∀ k, (∀ y0 y1 y2 y3 y4, LeO (palinoderef16_Cut.l0 k y0 y1 y2 y3 y4) (palinoderef16_Cut.l0 (k + 1) y0 y1 y2 y3 y4))
 | 0 => fun _ _ _ _ _ r h => by simp [palinoderef16_Cut.l0] at h
 | k + 1 => by
  have ih0 := palinoderef16_Cut.mono_l k
  ·intro y0 y1 y2 y3 y4
   unfold palinoderef16_Cut.l0
   repeat' first
   | (with_reducible exact ih0 _ _ _ _ _)
   | (with_reducible exact LeO.refl _)
   | (with_reducible exact LeO.none _)
   | (with_reducible refine LeO.ite ?_ ?_)
   | (with_reducible refine LeO.bind ?_ (fun _ => ?_))
   | exact ih0 _ _ _ _ _
   | exact LeO.none _
   | refine LeO.ite ?_ ?_
   | refine LeO.bind ?_ (fun _ => ?_)
theorem palinoderef16_Cut.mono : ∀ a0 a1 k, LeO (palinoderef16_Cut.f k a0 a1) (palinoderef16_Cut.f (k + 1) a0 a1) := by
 intro a0 a1 k
 have ih0 := palinoderef16_Cut.mono_l k
 unfold palinoderef16_Cut.f
 repeat' first
   | (with_reducible exact ih0 _ _ _ _ _)
   | (with_reducible exact LeO.refl _)
   | (with_reducible exact LeO.none _)
   | (with_reducible refine LeO.ite ?_ ?_)
   | (with_reducible refine LeO.bind ?_ (fun _ => ?_))
   | exact ih0 _ _ _ _ _
   | exact LeO.none _
   | refine LeO.ite ?_ ?_
   | refine LeO.bind ?_ (fun _ => ?_)
/-! ### palinodelaw16_is: function 13 -/
def palinodelaw16_is.f (a0 : Option Int) (a1 : Int) : Option (Bool) := if a1 = 0 then (if a0.isNone = true then (some true) else (some false)) else (if a0.isNone = true then (some false) else (some ((a0.getD 0) == a1)))
end Go.Proofs.Ytonhjkghpkhioaa.PA

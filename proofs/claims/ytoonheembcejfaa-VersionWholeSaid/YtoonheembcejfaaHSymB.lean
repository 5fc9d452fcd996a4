-- printed by a program of this session (wip/myprint.py), after the kit's print
import Derived.Test.YtoonheembcejfaaHSymA
namespace Go.Proofs.Ytoonheembcejfaa.PA
open Go.RowKit Go.Proofs.YtoonheembcejfaaW.PrintWords Go.Proofs.YtoonheembcejfaaW.PrintLast Go.Proofs.YtoonheembcejfaaW.PrintMore
attribute [local go_sem] max2_int min2_int max_two min_two max_three min_three max_four min_four   -- for this text's walks alone
set_option linter.unusedVariables false
set_option linter.unusedSimpArgs false
set_option maxHeartbeats 8000000 in
set_option maxRecDepth 100000 in
theorem api_Meta_77.caseB (k : Nat) (P0_ : Nat → Prop) (u9000_ : Value) (l0 : List (S35)) (a1 : Int) (a2 : Int) (a3 : Int)  (r : List (S35)) (w0 w : World) (hB : Below w0.heap.size w0 w) (ho0 : Kd.R k35 35 w w0.heap.size P0_ u9000_ l0) (h : api_Meta_77.f (k + 1) l0 a1 a2 a3 = some r) (c6 : ¬ (wrap64 (a2 - a1)) = 1) (c33 : (wrap64 (a3 - a2)) = 1) :
  Calls Try.prog 77 #[u9000_, .int .i64 a1, .int .i64 a2, .int .i64 a3, .func (.func 27) #[] #[]] w fun e w' => e = .returned (.tuple #[]) ∧ Kd.R k35 35 w' w0.heap.size (fun k_ => (P0_ k_ ∨ w.heap.size ≤ k_)) u9000_ r ∧ Below w0.heap.size w0 w' ∧ Kept w w' (fun k_ => P0_ k_) := by
 simp only [api_Meta_77.f] at h
 have hu35 := Try.underlying35
 have HO0 := Ad.mk (show Kd.R k35 35 w w0.heap.size (fun k_ => (P0_ k_ ∨ w.heap.size ≤ k_)) u9000_ l0 from Kd.R_mono ho0 (fun k_ hk => (.inl hk)))
 have HK := Ad.mk (Kept.refl w (fun k_ => P0_ k_))
 have HW0 := Ad.mk hB.size
 have HB := Ad.mk hB
 clear hB
 have H : (if (wrap64 (a2 - a1)) = 1 then (api_Meta_77.l0 k l0 a1 a2 a3) else (if (wrap64 (a3 - a2)) = 1 then (api_Meta_77.l2 k l0 a2 a1 a2) else (if a2 > (wrap64 ((IntKind.u64.wrap (wrap64 (a1 + a3))) / 2)) then (api_Meta_77.j4 k l0 a1 a2 a3 (wrap64 ((IntKind.u64.wrap (wrap64 (a1 + a3))) / 2)) (wrap64 ((wrap64 ((IntKind.u64.wrap (wrap64 (a1 + a3))) / 2)) + a2)) (wrap64 ((wrap64 ((wrap64 ((IntKind.u64.wrap (wrap64 (a1 + a3))) / 2)) + a2)) - a3)) (wrap64 ((IntKind.u64.wrap (wrap64 (a1 + a3))) / 2))) else (api_Meta_77.j4 k l0 a1 a2 a3 (wrap64 ((IntKind.u64.wrap (wrap64 (a1 + a3))) / 2)) (wrap64 ((wrap64 ((IntKind.u64.wrap (wrap64 (a1 + a3))) / 2)) + a2)) a1 a2)))) = some r := h
 clear h
 rw [if_neg c6] at H
 have c6b0 : ((wrap64 (a2 - a1)) == 1) = false := beq_eq_false_iff_ne.mpr c6
 have c6b1 : ((wrap64 (a2 - a1)) != 1) = true := bne_iff_ne.mpr c6
 rw [if_pos c33] at H
 have c33b0 : ((wrap64 (a3 - a2)) == 1) = true := beq_iff_eq.mpr c33
 have c33b1 : ((wrap64 (a3 - a2)) != 1) = false := bne_eq_false_iff_eq.mpr c33
 clear c33
 have H' := Ad.mk H
 clear H
 go_enter Try.func77, Try.ntmps77
 go_wp2
 go_loopg [14, 15] k (fun kq v14 v15 w' => ∃ (x14_1 : Int) (x15_1 : Int), v14 = .int .i64 x14_1 ∧ v15 = .int .i64 x15_1 ∧ Ad (api_Meta_77.l2 kq l0 a2 x14_1 x15_1 = some r) ∧ Ad (kq ≤ k) ∧ Ad (Kd.R k35 35 w' w0.heap.size (fun k_ => (P0_ k_ ∨ w.heap.size ≤ k_)) u9000_ l0) ∧ Ad (Kept w w' (fun k_ => P0_ k_)) ∧ Ad (Below w0.heap.size w0 w'))
 case atStart => exact ⟨(a1), (a2), (by first | rfl | (simp; done) | (simp [*]; done)), (by first | rfl | (simp; done) | (simp [*]; done)), H', ⟨Nat.le_refl _⟩, ⟨by (with_reducible repeat (first | apply Kd.R_alloc | apply Kd.R_drewN | apply Kd.R_drew)); exact HO0.out⟩, ⟨by repeat (first | (with_reducible first | exact HK.out | apply Kept.alloc | apply Kept.drewN | apply Kept.drew) | exact HK.out)⟩, ⟨by repeat (first | (with_reducible first | exact HB.out | apply blA | apply blN | apply blD) | exact HB.out)⟩⟩
 case round =>
  clear H'
  try clear c6
  try clear c6b0
  try clear c6b1
  try clear c33
  try clear c33b0
  try clear c33b1
  obtain ⟨x14_1, x15_1, rfl, rfl, HA, HK1, HO_0, HK, HB⟩ := hrel
  cases gk with
  | zero => exact absurd HA.out (by simp [api_Meta_77.l2])
  | succ k1 =>
   have H := HA.out
   clear HA
   simp only [api_Meta_77.l2] at H
   by_cases c34 : x14_1 < x15_1
   ·rw [if_pos c34] at H
    have c34b0 : decide (x14_1 < x15_1) = true := decide_eq_true c34
    clear c34
    by_cases c35 : 0 ≤ a2
    ·rw [if_pos c35] at H
     have c35b0 : decide (0 ≤ a2) = true := decide_eq_true c35
     clear c35
     by_cases c36 : a2 < (l0.length : Int)
     ·rw [if_pos c36] at H
      have c36b0 : decide (a2 < (l0.length : Int)) = true := decide_eq_true c36
      clear c36
      obtain ⟨ji37, hji37⟩ : ∃ j_ : Int, (wrap64 ((IntKind.u64.wrap (wrap64 (x14_1 + x15_1))) / 2)) = j_ := ⟨_, rfl⟩
      replace H : (if 0 ≤ (ji37) then (if (ji37) < (l0.length : Int) then ((version_compare.f k1 ((rd_T35 l0 a2).f0) ((rd_T35 l0 a2).f1) ((rd_T35 l0 a2).f2) ((rd_T35 l0 a2).f3) ((rd_T35 l0 a2).f4) ((rd_T35 l0 (ji37)).f0) ((rd_T35 l0 (ji37)).f1) ((rd_T35 l0 (ji37)).f2) ((rd_T35 l0 (ji37)).f3) ((rd_T35 l0 (ji37)).f4)).bind fun t169 => (if t169 < 0 then (api_Meta_77.l2 k1 l0 a2 x14_1 ji37) else (api_Meta_77.l2 k1 l0 a2 (wrap64 ((ji37) + 1)) x15_1))) else (none)) else (none)) = some r := by first | (rw [hji37] at H; exact H) | (simp only [hji37] at H ⊢; exact H)
      have hji37w : (IntKind.i64.wrap ((IntKind.u64.wrap (wrap64 (x14_1 + x15_1))) / 2)) = ji37 := (i64_w _).trans hji37
      by_cases c38 : 0 ≤ (ji37)
      ·rw [if_pos c38] at H
       have c38b0 : decide (0 ≤ (ji37)) = true := decide_eq_true c38
       clear c38
       by_cases c39 : (ji37) < (l0.length : Int)
       ·rw [if_pos c39] at H
        have c39b0 : decide ((ji37) < (l0.length : Int)) = true := decide_eq_true c39
        clear c39
        replace H := Option.bind_eq_some_iff.mp H
        obtain ⟨t169, A400, H⟩ := H
        replace H : (if t169 < 0 then (api_Meta_77.l2 k1 l0 a2 x14_1 ji37) else (api_Meta_77.l2 k1 l0 a2 (wrap64 ((ji37) + 1)) x15_1)) = some r := H
        have A40 := Ad.mk A400
        clear A400
        by_cases c41 : t169 < 0
        ·rw [if_pos c41] at H
         have c41b0 : decide (t169 < 0) = true := decide_eq_true c41
         clear c41
         have H' := Ad.mk H
         clear H
         try go_wp2
         have n0_ := Ad.mk (Kd.R_drew HO_0.out)
         have n1_ := Ad.mk (Kept.drew HK.out)
         have n2_ := Ad.mk (blD HB.out)
         clear HO_0
         clear HK
         clear HB
         have HO_0 := n0_
         have HK := n1_
         have HB := n2_
         clear n0_ n1_ n2_
         obtain ⟨Ao43, co43, eo43⟩ := Kd.R_slice HO_0.out
         (first | subst eo43 | (injection eo43 with f1_ f2_ f3_; have f4_ := f1_.symm; have f5_ := f3_.symm; clear f1_ f2_ f3_; subst f4_; subst f5_))
         have p167 : 0 ≤ (a2 : Int) := of_decide_eq_true (by first | (with_reducible assumption) | assumption)
         have q167 : a2 < (l0.length : Int) := of_decide_eq_true (by first | (with_reducible assumption) | assumption)
         obtain ⟨ad167, e167, hx167_0, hx167_1, hx167_2, hx167_3, hx167_4⟩ := at_T35 (Kd.R_reads' HO_0.out).2.2 a2 p167 q167
         cases e167
         replace p167 := eq_true p167
         replace q167 := eq_true q167
         have p168 : 0 ≤ ((ji37) : Int) := of_decide_eq_true (by first | (with_reducible assumption) | assumption)
         have q168 : (ji37) < (l0.length : Int) := of_decide_eq_true (by first | (with_reducible assumption) | assumption)
         obtain ⟨ad168, e168, hx168_0, hx168_1, hx168_2, hx168_3, hx168_4⟩ := at_T35 (Kd.R_reads' HO_0.out).2.2 (ji37) p168 q168
         obtain rfl : ad167 = ad168 := (by injection e168)
         replace p168 := eq_true p168
         replace q168 := eq_true q168
         refine start_ (n := 12) (S := fun w' => w'.cell? (ad167.add ((a2).toNat * 5)) = some (.int .i64 ((rd_T35 l0 a2).f0)) ∧ w'.cell? ⟨(ad167.add ((a2).toNat * 5)).block, (ad167.add ((a2).toNat * 5)).off + 1, none⟩ = some (.int .i64 ((rd_T35 l0 a2).f1)) ∧ w'.cell? ⟨(ad167.add ((a2).toNat * 5)).block, (ad167.add ((a2).toNat * 5)).off + 2, none⟩ = some (.string ((rd_T35 l0 a2).f2)) ∧ w'.cell? ⟨(ad167.add ((a2).toNat * 5)).block, (ad167.add ((a2).toNat * 5)).off + 3, none⟩ = some (.string ((rd_T35 l0 a2).f3)) ∧ w'.cell? ⟨(ad167.add ((a2).toNat * 5)).block, (ad167.add ((a2).toNat * 5)).off + 4, none⟩ = some (.int .i64 ((rd_T35 l0 a2).f4)) ∧ w'.cell? (ad167.add (((ji37)).toNat * 5)) = some (.int .i64 ((rd_T35 l0 (ji37)).f0)) ∧ w'.cell? ⟨(ad167.add (((ji37)).toNat * 5)).block, (ad167.add (((ji37)).toNat * 5)).off + 1, none⟩ = some (.int .i64 ((rd_T35 l0 (ji37)).f1)) ∧ w'.cell? ⟨(ad167.add (((ji37)).toNat * 5)).block, (ad167.add (((ji37)).toNat * 5)).off + 2, none⟩ = some (.string ((rd_T35 l0 (ji37)).f2)) ∧ w'.cell? ⟨(ad167.add (((ji37)).toNat * 5)).block, (ad167.add (((ji37)).toNat * 5)).off + 3, none⟩ = some (.string ((rd_T35 l0 (ji37)).f3)) ∧ w'.cell? ⟨(ad167.add (((ji37)).toNat * 5)).block, (ad167.add (((ji37)).toNat * 5)).off + 4, none⟩ = some (.int .i64 ((rd_T35 l0 (ji37)).f4))) (ds := []) #[false, false, false, false, false, false, false, false, false, false, false, false] (by kernel_rfl) rfl rfl ⟨hx167_0, hx167_1, hx167_2, hx167_3, hx167_4, hx168_0, hx168_1, hx168_2, hx168_3, hx168_4⟩ (fun hHeld => ?_); refine with_tabW api_Meta_77.tab17 api_Meta_77.bits17 (fun HT_ HW_ => ?_)
         generalize wr.drew = w42 at HO_0 HK HB hx167_0 hx167_1 hx167_2 hx167_3 hx167_4 hx168_0 hx168_1 hx168_2 hx168_3 hx168_4 hHeld ⊢
         refine pure_ (i := 0) (N := some 92) (v := ?_) (a' := ?_) #[true, false, false, false, false, false, false, false, false, false, false, false] rfl rfl (any_of HT_.out (by kernel_rfl)) (fun _ _ _ h => h) (Or.inl ⟨by rfl, ?_⟩) ?_ ?_
         rotate_left
         ·intro w'
          go_simp
          with_reducible rfl
         rotate_left
         ·simp only [Act.put, List.setIfInBounds_toArray, List.set_cons_zero, List.set_cons_succ, i64_w, i32_w]
          rfl
         refine pure_ (i := 1) (N := some 93) (v := ?_) (a' := ?_) #[true, true, false, false, false, false, false, false, false, false, false, false] rfl rfl (any_of HT_.out (by kernel_rfl)) (fun _ _ _ h => h) (Or.inl ⟨by rfl, ?_⟩) ?_ ?_
         rotate_left
         ·intro w'
          go_simp
          with_reducible rfl
         rotate_left
         ·simp only [Act.put, List.setIfInBounds_toArray, List.set_cons_zero, List.set_cons_succ, i64_w, i32_w]
          rfl
         refine pure_ (i := 2) (N := some 94) (v := ?_) (a' := ?_) #[true, true, true, false, false, false, false, false, false, false, false, false] rfl rfl (any_of HT_.out (by kernel_rfl)) (fun _ _ _ h => h) (Or.inl ⟨by rfl, ?_⟩) ?_ ?_
         rotate_left
         ·intro w'
          go_simp
          with_reducible rfl
         rotate_left
         ·simp only [Act.put, List.setIfInBounds_toArray, List.set_cons_zero, List.set_cons_succ, i64_w, i32_w]
          rfl
         refine pure_ (i := 3) (N := some 95) (v := ?_) (a' := ?_) #[true, true, true, true, false, false, false, false, false, false, false, false] rfl rfl (any_of HT_.out (by kernel_rfl)) (fun _ _ _ h => h) (Or.inl ⟨by rfl, ?_⟩) ?_ ?_
         rotate_left
         ·intro w'
          go_simp
          with_reducible rfl
         rotate_left
         ·simp only [Act.put, List.setIfInBounds_toArray, List.set_cons_zero, List.set_cons_succ, i64_w, i32_w]
          rfl
         refine pure_ (i := 5) (N := some 97) (v := ?_) (a' := ?_) #[true, true, true, true, false, true, false, false, false, false, false, false] rfl rfl (any_of HT_.out (by kernel_rfl)) (fun _ _ _ h => h) (Or.inl ⟨by rfl, ?_⟩) ?_ ?_
         rotate_left
         ·intro w'
          go_simp
          with_reducible rfl
         rotate_left
         ·simp only [Act.put, List.setIfInBounds_toArray, List.set_cons_zero, List.set_cons_succ, i64_w, i32_w]
          rfl
         refine pure_ (i := 6) (N := some 98) (v := ?_) (a' := ?_) #[true, true, true, true, false, true, true, false, false, false, false, false] rfl rfl (any_of HT_.out (by kernel_rfl)) (fun _ _ _ h => h) (Or.inl ⟨by rfl, ?_⟩) ?_ ?_
         rotate_left
         ·intro w'
          go_simp
          with_reducible rfl
         rotate_left
         ·simp only [Act.put, List.setIfInBounds_toArray, List.set_cons_zero, List.set_cons_succ, i64_w, i32_w]
          rfl
         refine pure_ (i := 7) (N := some 99) (v := ?_) (a' := ?_) #[true, true, true, true, false, true, true, true, false, false, false, false] rfl rfl (any_of HT_.out (by kernel_rfl)) (fun _ _ _ h => h) (Or.inl ⟨by rfl, ?_⟩) ?_ ?_
         rotate_left
         ·intro w'
          go_simp
          with_reducible rfl
         rotate_left
         ·simp only [Act.put, List.setIfInBounds_toArray, List.set_cons_zero, List.set_cons_succ, i64_w, i32_w]
          rfl
         refine take_ (i := 4) (N := some 96) (v := ?_) (a' := ?_) #[true, true, true, true, true, true, true, true, false, false, false, false] rfl rfl (take_ofW HT_.out HW_.out (by kernel_rfl)) (fun _ _ _ h => h) (Or.inl ⟨by rfl, ?_⟩) hHeld ?_ ?_
         rotate_left
         ·rintro w' ⟨s0, s1, s2, s3, s4, s5, s6, s7, s8, s9⟩
          go_simp
          with_reducible rfl
         rotate_left
         ·simp only [Act.put, List.setIfInBounds_toArray, List.set_cons_zero, List.set_cons_succ, i64_w, i32_w]
          rfl
         refine take_ (i := 8) (N := some 100) (v := ?_) (a' := ?_) #[true, true, true, true, true, true, true, true, true, false, false, false] rfl rfl (take_ofW HT_.out HW_.out (by kernel_rfl)) (fun _ _ _ h => h) (Or.inl ⟨by rfl, ?_⟩) hHeld ?_ ?_
         rotate_left
         ·rintro w' ⟨s0, s1, s2, s3, s4, s5, s6, s7, s8, s9⟩
          go_simp
          with_reducible rfl
         rotate_left
         ·simp only [Act.put, List.setIfInBounds_toArray, List.set_cons_zero, List.set_cons_succ, i64_w, i32_w]
          rfl
         refine one_ (i := 9) (N := some 101) #[true, true, true, true, true, true, true, true, true, true, false, false] rfl rfl (one_of HT_.out (by kernel_rfl)) (by decide) (fun K hK => ?_)
         refine goesT_ Try.func27 (by kernel_rfl) rfl #[.agg #[.int .i64 ((rd_T35 l0 a2).f0), .int .i64 ((rd_T35 l0 a2).f1), .string ((rd_T35 l0 a2).f2), .string ((rd_T35 l0 a2).f3), .int .i64 ((rd_T35 l0 a2).f4)], .agg #[.int .i64 ((rd_T35 l0 (ji37)).f0), .int .i64 ((rd_T35 l0 (ji37)).f1), .string ((rd_T35 l0 (ji37)).f2), .string ((rd_T35 l0 (ji37)).f3), .int .i64 ((rd_T35 l0 (ji37)).f4)]] (by rfl) rfl ⟨rfl, rfl⟩ (by (try simp only [List.map_toArray, List.map_cons, List.map_nil]); first | done | (simp only [hji37]; rfl) | rfl | (simp only [List.length_drop, List.length_take]; rfl)) ?_
         with_reducible refine (version_compare.calls k1 ((rd_T35 l0 a2).f0) ((rd_T35 l0 a2).f1) ((rd_T35 l0 a2).f2) ((rd_T35 l0 a2).f3) ((rd_T35 l0 a2).f4) ((rd_T35 l0 (ji37)).f0) ((rd_T35 l0 (ji37)).f1) ((rd_T35 l0 (ji37)).f2) ((rd_T35 l0 (ji37)).f3) ((rd_T35 l0 (ji37)).f4) t169 _ A40.out).mono ?_
         rintro e w44 ⟨rfl, hb⟩
         have HS0_ := (hb.cell (World.block_lt_of_cell? _ _ (hHeld.1))).trans (hHeld.1)
         have HS1_ := (hb.cell (World.block_lt_of_cell? _ _ (hHeld.2.1))).trans (hHeld.2.1)
         have HS2_ := (hb.cell (World.block_lt_of_cell? _ _ (hHeld.2.2.1))).trans (hHeld.2.2.1)
         have HS3_ := (hb.cell (World.block_lt_of_cell? _ _ (hHeld.2.2.2.1))).trans (hHeld.2.2.2.1)
         have HS4_ := (hb.cell (World.block_lt_of_cell? _ _ (hHeld.2.2.2.2.1))).trans (hHeld.2.2.2.2.1)
         have HS5_ := (hb.cell (World.block_lt_of_cell? _ _ (hHeld.2.2.2.2.2.1))).trans (hHeld.2.2.2.2.2.1)
         have HS6_ := (hb.cell (World.block_lt_of_cell? _ _ (hHeld.2.2.2.2.2.2.1))).trans (hHeld.2.2.2.2.2.2.1)
         have HS7_ := (hb.cell (World.block_lt_of_cell? _ _ (hHeld.2.2.2.2.2.2.2.1))).trans (hHeld.2.2.2.2.2.2.2.1)
         have HS8_ := (hb.cell (World.block_lt_of_cell? _ _ (hHeld.2.2.2.2.2.2.2.2.1))).trans (hHeld.2.2.2.2.2.2.2.2.1)
         have HS9_ := (hb.cell (World.block_lt_of_cell? _ _ (hHeld.2.2.2.2.2.2.2.2.2))).trans (hHeld.2.2.2.2.2.2.2.2.2)
         refine ⟨_, rfl, ?_⟩
         have n0_ := Ad.mk (Kd.R_below (by (with_reducible repeat (first | apply Kd.R_alloc | apply Kd.R_drewN | apply Kd.R_drew)); exact HO_0.out) hb)
         have n1_ := Ad.mk (Kept.below (S := (fun k_ => P0_ k_)) (by repeat (first | (with_reducible first | exact HK.out | apply Kept.alloc | apply Kept.drewN | apply Kept.drew) | exact HK.out)) hb)
         have n2_ := Ad.mk (bls (by repeat (first | (with_reducible first | exact HB.out | apply blA | apply blN | apply blD) | exact HB.out)) hb)
         clear HO_0
         clear HK
         clear HB
         have HO_0 := n0_
         have HK := n1_
         have HB := n2_
         clear n0_ n1_ n2_
         (try clear hb)
         (try clear hb2)
         (try clear hk)
         (try clear hi)
         refine hK.out _ _ ⟨HS0_, HS1_, HS2_, HS3_, HS4_, HS5_, HS6_, HS7_, HS8_, HS9_⟩ (fun hHeld => ?_)
         clear hK K
         refine norm_ (a' := ?_) ?_ ?_
         rotate_left
         ·show Act.put _ (some 101) _ = _
          simp only [Act.put, List.setIfInBounds_toArray, List.set_cons_zero, List.set_cons_succ, i64_w, i32_w]
          rfl
         refine pure_ (i := 10) (N := some 102) (v := ?_) (a' := ?_) #[true, true, true, true, true, true, true, true, true, true, true, false] rfl rfl (any_of HT_.out (by kernel_rfl)) (fun _ _ _ h => h) (Or.inl ⟨by rfl, ?_⟩) ?_ ?_
         rotate_left
         ·intro w'
          go_simp
          with_reducible rfl
         rotate_left
         ·simp only [Act.put, List.setIfInBounds_toArray, List.set_cons_zero, List.set_cons_succ, i64_w, i32_w]
          rfl
         refine pure_ (i := 11) (N := some 103) (v := ?_) (a' := ?_) #[true, true, true, true, true, true, true, true, true, true, true, true] rfl rfl (any_of HT_.out (by kernel_rfl)) (fun _ _ _ h => h) (Or.inl ⟨by rfl, ?_⟩) ?_ ?_
         rotate_left
         ·intro w'
          go_simp
          with_reducible rfl
         rotate_left
         ·simp only [Act.put, List.setIfInBounds_toArray, List.set_cons_zero, List.set_cons_succ, i64_w, i32_w]
          rfl
         refine done_ (done_of HT_.out (by kernel_rfl)) ?_
         try go_wp2
         go_roundg k1
         case measure => have := HK1.out; omega
         case rel => exact ⟨(x14_1), (ji37), (by first | rfl | (simp; done) | (simp [*]; done)), (by first | rfl | (simp; done) | (simp only [← hji37] <;> (first | rfl | simp)) | (simp [*]; done)), H', ⟨by have := HK1.out; omega⟩, ⟨by (with_reducible repeat (first | apply Kd.R_alloc | apply Kd.R_drewN | apply Kd.R_drew)); exact HO_0.out⟩, ⟨by repeat (first | (with_reducible first | exact HK.out | apply Kept.alloc | apply Kept.drewN | apply Kept.drew) | exact HK.out)⟩, ⟨by repeat (first | (with_reducible first | exact HB.out | apply blA | apply blN | apply blD) | exact HB.out)⟩⟩
        ·rw [if_neg c41] at H
         have c41b0 : decide (t169 < 0) = false := decide_eq_false c41
         clear c41
         have H' := Ad.mk H
         clear H
         try go_wp2
         have n0_ := Ad.mk (Kd.R_drew HO_0.out)
         have n1_ := Ad.mk (Kept.drew HK.out)
         have n2_ := Ad.mk (blD HB.out)
         clear HO_0
         clear HK
         clear HB
         have HO_0 := n0_
         have HK := n1_
         have HB := n2_
         clear n0_ n1_ n2_
         obtain ⟨Ao46, co46, eo46⟩ := Kd.R_slice HO_0.out
         (first | subst eo46 | (injection eo46 with f1_ f2_ f3_; have f4_ := f1_.symm; have f5_ := f3_.symm; clear f1_ f2_ f3_; subst f4_; subst f5_))
         have p167 : 0 ≤ (a2 : Int) := of_decide_eq_true (by first | (with_reducible assumption) | assumption)
         have q167 : a2 < (l0.length : Int) := of_decide_eq_true (by first | (with_reducible assumption) | assumption)
         obtain ⟨ad167, e167, hx167_0, hx167_1, hx167_2, hx167_3, hx167_4⟩ := at_T35 (Kd.R_reads' HO_0.out).2.2 a2 p167 q167
         cases e167
         replace p167 := eq_true p167
         replace q167 := eq_true q167
         have p168 : 0 ≤ ((ji37) : Int) := of_decide_eq_true (by first | (with_reducible assumption) | assumption)
         have q168 : (ji37) < (l0.length : Int) := of_decide_eq_true (by first | (with_reducible assumption) | assumption)
         obtain ⟨ad168, e168, hx168_0, hx168_1, hx168_2, hx168_3, hx168_4⟩ := at_T35 (Kd.R_reads' HO_0.out).2.2 (ji37) p168 q168
         obtain rfl : ad167 = ad168 := (by injection e168)
         replace p168 := eq_true p168
         replace q168 := eq_true q168
         refine start_ (n := 12) (S := fun w' => w'.cell? (ad167.add ((a2).toNat * 5)) = some (.int .i64 ((rd_T35 l0 a2).f0)) ∧ w'.cell? ⟨(ad167.add ((a2).toNat * 5)).block, (ad167.add ((a2).toNat * 5)).off + 1, none⟩ = some (.int .i64 ((rd_T35 l0 a2).f1)) ∧ w'.cell? ⟨(ad167.add ((a2).toNat * 5)).block, (ad167.add ((a2).toNat * 5)).off + 2, none⟩ = some (.string ((rd_T35 l0 a2).f2)) ∧ w'.cell? ⟨(ad167.add ((a2).toNat * 5)).block, (ad167.add ((a2).toNat * 5)).off + 3, none⟩ = some (.string ((rd_T35 l0 a2).f3)) ∧ w'.cell? ⟨(ad167.add ((a2).toNat * 5)).block, (ad167.add ((a2).toNat * 5)).off + 4, none⟩ = some (.int .i64 ((rd_T35 l0 a2).f4)) ∧ w'.cell? (ad167.add (((ji37)).toNat * 5)) = some (.int .i64 ((rd_T35 l0 (ji37)).f0)) ∧ w'.cell? ⟨(ad167.add (((ji37)).toNat * 5)).block, (ad167.add (((ji37)).toNat * 5)).off + 1, none⟩ = some (.int .i64 ((rd_T35 l0 (ji37)).f1)) ∧ w'.cell? ⟨(ad167.add (((ji37)).toNat * 5)).block, (ad167.add (((ji37)).toNat * 5)).off + 2, none⟩ = some (.string ((rd_T35 l0 (ji37)).f2)) ∧ w'.cell? ⟨(ad167.add (((ji37)).toNat * 5)).block, (ad167.add (((ji37)).toNat * 5)).off + 3, none⟩ = some (.string ((rd_T35 l0 (ji37)).f3)) ∧ w'.cell? ⟨(ad167.add (((ji37)).toNat * 5)).block, (ad167.add (((ji37)).toNat * 5)).off + 4, none⟩ = some (.int .i64 ((rd_T35 l0 (ji37)).f4))) (ds := []) #[false, false, false, false, false, false, false, false, false, false, false, false] (by kernel_rfl) rfl rfl ⟨hx167_0, hx167_1, hx167_2, hx167_3, hx167_4, hx168_0, hx168_1, hx168_2, hx168_3, hx168_4⟩ (fun hHeld => ?_); refine with_tabW api_Meta_77.tab17 api_Meta_77.bits17 (fun HT_ HW_ => ?_)
         generalize wr.drew = w45 at HO_0 HK HB hx167_0 hx167_1 hx167_2 hx167_3 hx167_4 hx168_0 hx168_1 hx168_2 hx168_3 hx168_4 hHeld ⊢
         refine pure_ (i := 0) (N := some 92) (v := ?_) (a' := ?_) #[true, false, false, false, false, false, false, false, false, false, false, false] rfl rfl (any_of HT_.out (by kernel_rfl)) (fun _ _ _ h => h) (Or.inl ⟨by rfl, ?_⟩) ?_ ?_
         rotate_left
         ·intro w'
          go_simp
          with_reducible rfl
         rotate_left
         ·simp only [Act.put, List.setIfInBounds_toArray, List.set_cons_zero, List.set_cons_succ, i64_w, i32_w]
          rfl
         refine pure_ (i := 1) (N := some 93) (v := ?_) (a' := ?_) #[true, true, false, false, false, false, false, false, false, false, false, false] rfl rfl (any_of HT_.out (by kernel_rfl)) (fun _ _ _ h => h) (Or.inl ⟨by rfl, ?_⟩) ?_ ?_
         rotate_left
         ·intro w'
          go_simp
          with_reducible rfl
         rotate_left
         ·simp only [Act.put, List.setIfInBounds_toArray, List.set_cons_zero, List.set_cons_succ, i64_w, i32_w]
          rfl
         refine pure_ (i := 2) (N := some 94) (v := ?_) (a' := ?_) #[true, true, true, false, false, false, false, false, false, false, false, false] rfl rfl (any_of HT_.out (by kernel_rfl)) (fun _ _ _ h => h) (Or.inl ⟨by rfl, ?_⟩) ?_ ?_
         rotate_left
         ·intro w'
          go_simp
          with_reducible rfl
         rotate_left
         ·simp only [Act.put, List.setIfInBounds_toArray, List.set_cons_zero, List.set_cons_succ, i64_w, i32_w]
          rfl
         refine pure_ (i := 3) (N := some 95) (v := ?_) (a' := ?_) #[true, true, true, true, false, false, false, false, false, false, false, false] rfl rfl (any_of HT_.out (by kernel_rfl)) (fun _ _ _ h => h) (Or.inl ⟨by rfl, ?_⟩) ?_ ?_
         rotate_left
         ·intro w'
          go_simp
          with_reducible rfl
         rotate_left
         ·simp only [Act.put, List.setIfInBounds_toArray, List.set_cons_zero, List.set_cons_succ, i64_w, i32_w]
          rfl
         refine pure_ (i := 5) (N := some 97) (v := ?_) (a' := ?_) #[true, true, true, true, false, true, false, false, false, false, false, false] rfl rfl (any_of HT_.out (by kernel_rfl)) (fun _ _ _ h => h) (Or.inl ⟨by rfl, ?_⟩) ?_ ?_
         rotate_left
         ·intro w'
          go_simp
          with_reducible rfl
         rotate_left
         ·simp only [Act.put, List.setIfInBounds_toArray, List.set_cons_zero, List.set_cons_succ, i64_w, i32_w]
          rfl
         refine pure_ (i := 6) (N := some 98) (v := ?_) (a' := ?_) #[true, true, true, true, false, true, true, false, false, false, false, false] rfl rfl (any_of HT_.out (by kernel_rfl)) (fun _ _ _ h => h) (Or.inl ⟨by rfl, ?_⟩) ?_ ?_
         rotate_left
         ·intro w'
          go_simp
          with_reducible rfl
         rotate_left
         ·simp only [Act.put, List.setIfInBounds_toArray, List.set_cons_zero, List.set_cons_succ, i64_w, i32_w]
          rfl
         refine pure_ (i := 7) (N := some 99) (v := ?_) (a' := ?_) #[true, true, true, true, false, true, true, true, false, false, false, false] rfl rfl (any_of HT_.out (by kernel_rfl)) (fun _ _ _ h => h) (Or.inl ⟨by rfl, ?_⟩) ?_ ?_
         rotate_left
         ·intro w'
          go_simp
          with_reducible rfl
         rotate_left
         ·simp only [Act.put, List.setIfInBounds_toArray, List.set_cons_zero, List.set_cons_succ, i64_w, i32_w]
          rfl
         refine take_ (i := 4) (N := some 96) (v := ?_) (a' := ?_) #[true, true, true, true, true, true, true, true, false, false, false, false] rfl rfl (take_ofW HT_.out HW_.out (by kernel_rfl)) (fun _ _ _ h => h) (Or.inl ⟨by rfl, ?_⟩) hHeld ?_ ?_
         rotate_left
         ·rintro w' ⟨s0, s1, s2, s3, s4, s5, s6, s7, s8, s9⟩
          go_simp
          with_reducible rfl
         rotate_left
         ·simp only [Act.put, List.setIfInBounds_toArray, List.set_cons_zero, List.set_cons_succ, i64_w, i32_w]
          rfl
         refine take_ (i := 8) (N := some 100) (v := ?_) (a' := ?_) #[true, true, true, true, true, true, true, true, true, false, false, false] rfl rfl (take_ofW HT_.out HW_.out (by kernel_rfl)) (fun _ _ _ h => h) (Or.inl ⟨by rfl, ?_⟩) hHeld ?_ ?_
         rotate_left
         ·rintro w' ⟨s0, s1, s2, s3, s4, s5, s6, s7, s8, s9⟩
          go_simp
          with_reducible rfl
         rotate_left
         ·simp only [Act.put, List.setIfInBounds_toArray, List.set_cons_zero, List.set_cons_succ, i64_w, i32_w]
          rfl
         refine one_ (i := 9) (N := some 101) #[true, true, true, true, true, true, true, true, true, true, false, false] rfl rfl (one_of HT_.out (by kernel_rfl)) (by decide) (fun K hK => ?_)
         refine goesT_ Try.func27 (by kernel_rfl) rfl #[.agg #[.int .i64 ((rd_T35 l0 a2).f0), .int .i64 ((rd_T35 l0 a2).f1), .string ((rd_T35 l0 a2).f2), .string ((rd_T35 l0 a2).f3), .int .i64 ((rd_T35 l0 a2).f4)], .agg #[.int .i64 ((rd_T35 l0 (ji37)).f0), .int .i64 ((rd_T35 l0 (ji37)).f1), .string ((rd_T35 l0 (ji37)).f2), .string ((rd_T35 l0 (ji37)).f3), .int .i64 ((rd_T35 l0 (ji37)).f4)]] (by rfl) rfl ⟨rfl, rfl⟩ (by (try simp only [List.map_toArray, List.map_cons, List.map_nil]); first | done | (simp only [hji37]; rfl) | rfl | (simp only [List.length_drop, List.length_take]; rfl)) ?_
         with_reducible refine (version_compare.calls k1 ((rd_T35 l0 a2).f0) ((rd_T35 l0 a2).f1) ((rd_T35 l0 a2).f2) ((rd_T35 l0 a2).f3) ((rd_T35 l0 a2).f4) ((rd_T35 l0 (ji37)).f0) ((rd_T35 l0 (ji37)).f1) ((rd_T35 l0 (ji37)).f2) ((rd_T35 l0 (ji37)).f3) ((rd_T35 l0 (ji37)).f4) t169 _ A40.out).mono ?_
         rintro e w47 ⟨rfl, hb⟩
         have HS0_ := (hb.cell (World.block_lt_of_cell? _ _ (hHeld.1))).trans (hHeld.1)
         have HS1_ := (hb.cell (World.block_lt_of_cell? _ _ (hHeld.2.1))).trans (hHeld.2.1)
         have HS2_ := (hb.cell (World.block_lt_of_cell? _ _ (hHeld.2.2.1))).trans (hHeld.2.2.1)
         have HS3_ := (hb.cell (World.block_lt_of_cell? _ _ (hHeld.2.2.2.1))).trans (hHeld.2.2.2.1)
         have HS4_ := (hb.cell (World.block_lt_of_cell? _ _ (hHeld.2.2.2.2.1))).trans (hHeld.2.2.2.2.1)
         have HS5_ := (hb.cell (World.block_lt_of_cell? _ _ (hHeld.2.2.2.2.2.1))).trans (hHeld.2.2.2.2.2.1)
         have HS6_ := (hb.cell (World.block_lt_of_cell? _ _ (hHeld.2.2.2.2.2.2.1))).trans (hHeld.2.2.2.2.2.2.1)
         have HS7_ := (hb.cell (World.block_lt_of_cell? _ _ (hHeld.2.2.2.2.2.2.2.1))).trans (hHeld.2.2.2.2.2.2.2.1)
         have HS8_ := (hb.cell (World.block_lt_of_cell? _ _ (hHeld.2.2.2.2.2.2.2.2.1))).trans (hHeld.2.2.2.2.2.2.2.2.1)
         have HS9_ := (hb.cell (World.block_lt_of_cell? _ _ (hHeld.2.2.2.2.2.2.2.2.2))).trans (hHeld.2.2.2.2.2.2.2.2.2)
         refine ⟨_, rfl, ?_⟩
         have n0_ := Ad.mk (Kd.R_below (by (with_reducible repeat (first | apply Kd.R_alloc | apply Kd.R_drewN | apply Kd.R_drew)); exact HO_0.out) hb)
         have n1_ := Ad.mk (Kept.below (S := (fun k_ => P0_ k_)) (by repeat (first | (with_reducible first | exact HK.out | apply Kept.alloc | apply Kept.drewN | apply Kept.drew) | exact HK.out)) hb)
         have n2_ := Ad.mk (bls (by repeat (first | (with_reducible first | exact HB.out | apply blA | apply blN | apply blD) | exact HB.out)) hb)
         clear HO_0
         clear HK
         clear HB
         have HO_0 := n0_
         have HK := n1_
         have HB := n2_
         clear n0_ n1_ n2_
         (try clear hb)
         (try clear hb2)
         (try clear hk)
         (try clear hi)
         refine hK.out _ _ ⟨HS0_, HS1_, HS2_, HS3_, HS4_, HS5_, HS6_, HS7_, HS8_, HS9_⟩ (fun hHeld => ?_)
         clear hK K
         refine norm_ (a' := ?_) ?_ ?_
         rotate_left
         ·show Act.put _ (some 101) _ = _
          simp only [Act.put, List.setIfInBounds_toArray, List.set_cons_zero, List.set_cons_succ, i64_w, i32_w]
          rfl
         refine pure_ (i := 10) (N := some 102) (v := ?_) (a' := ?_) #[true, true, true, true, true, true, true, true, true, true, true, false] rfl rfl (any_of HT_.out (by kernel_rfl)) (fun _ _ _ h => h) (Or.inl ⟨by rfl, ?_⟩) ?_ ?_
         rotate_left
         ·intro w'
          go_simp
          with_reducible rfl
         rotate_left
         ·simp only [Act.put, List.setIfInBounds_toArray, List.set_cons_zero, List.set_cons_succ, i64_w, i32_w]
          rfl
         refine pure_ (i := 11) (N := some 103) (v := ?_) (a' := ?_) #[true, true, true, true, true, true, true, true, true, true, true, true] rfl rfl (any_of HT_.out (by kernel_rfl)) (fun _ _ _ h => h) (Or.inl ⟨by rfl, ?_⟩) ?_ ?_
         rotate_left
         ·intro w'
          go_simp
          with_reducible rfl
         rotate_left
         ·simp only [Act.put, List.setIfInBounds_toArray, List.set_cons_zero, List.set_cons_succ, i64_w, i32_w]
          rfl
         refine done_ (done_of HT_.out (by kernel_rfl)) ?_
         try go_wp2
         go_roundg k1
         case measure => have := HK1.out; omega
         case rel => exact ⟨(wrap64 ((ji37) + 1)), (x15_1), (by first | rfl | (simp; done) | (simp only [← hji37] <;> (first | rfl | simp)) | (simp [*]; done)), (by first | rfl | (simp; done) | (simp [*]; done)), H', ⟨by have := HK1.out; omega⟩, ⟨by (with_reducible repeat (first | apply Kd.R_alloc | apply Kd.R_drewN | apply Kd.R_drew)); exact HO_0.out⟩, ⟨by repeat (first | (with_reducible first | exact HK.out | apply Kept.alloc | apply Kept.drewN | apply Kept.drew) | exact HK.out)⟩, ⟨by repeat (first | (with_reducible first | exact HB.out | apply blA | apply blN | apply blD) | exact HB.out)⟩⟩
       ·rw [if_neg c39] at H
        exact absurd H (by simp)
      ·rw [if_neg c38] at H
       exact absurd H (by simp)
     ·rw [if_neg c36] at H
      exact absurd H (by simp)
    ·rw [if_neg c35] at H
     exact absurd H (by simp)
   ·rw [if_neg c34] at H
    have c34b0 : decide (x14_1 < x15_1) = false := decide_eq_false c34
    clear c34
    have H' := Ad.mk H
    clear H
    go_wp2
    go_loopg [17] k1 (fun kq v17 w' => ∃ (x0_2 : List (S35)) (x17_2 : Int), v17 = .int .i64 x17_2 ∧ Ad (api_Meta_77.l3 kq x0_2 x14_1 x17_2 = some r) ∧ Ad (kq ≤ k1) ∧ Ad (Kd.R k35 35 w' w0.heap.size (fun k_ => (P0_ k_ ∨ w.heap.size ≤ k_)) u9000_ x0_2) ∧ Ad (Kept w w' (fun k_ => P0_ k_)) ∧ Ad (Below w0.heap.size w0 w'))
    case atStart => exact ⟨(l0), (a2), (by first | rfl | (simp; done) | (simp [*]; done)), H', ⟨Nat.le_refl _⟩, ⟨by (with_reducible repeat (first | apply Kd.R_alloc | apply Kd.R_drewN | apply Kd.R_drew)); exact HO_0.out⟩, ⟨by repeat (first | (with_reducible first | exact HK.out | apply Kept.alloc | apply Kept.drewN | apply Kept.drew) | exact HK.out)⟩, ⟨by repeat (first | (with_reducible first | exact HB.out | apply blA | apply blN | apply blD) | exact HB.out)⟩⟩
    case round =>
     clear H'
     try clear c6
     try clear c6b0
     try clear c6b1
     try clear c33
     try clear c33b0
     try clear c33b1
     try clear c34
     try clear c34b0
     try clear c35
     try clear c35b0
     try clear c36
     try clear c36b0
     try clear c38
     try clear c38b0
     try clear c39
     try clear c39b0
     try clear c41
     try clear c41b0
     try clear hx167_0
     try clear hx167_1
     try clear hx167_2
     try clear hx167_3
     try clear hx167_4
     try clear hx168_0
     try clear hx168_1
     try clear hx168_2
     try clear hx168_3
     try clear hx168_4
     try clear p167
     try clear p168
     try clear q167
     try clear q168
     obtain ⟨x0_2, x17_2, rfl, HA, HK2, HO_0, HK, HB⟩ := hrel
     cases gk with
     | zero => exact absurd HA.out (by simp [api_Meta_77.l3])
     | succ k2 =>
      have H := HA.out
      clear HA
      simp only [api_Meta_77.l3] at H
      by_cases c48 : x17_2 > x14_1
      ·rw [if_pos c48] at H
       have c48b0 : decide (x14_1 < x17_2) = true := decide_eq_true c48
       clear c48
       obtain ⟨ji49, hji49⟩ : ∃ j_ : Int, (wrap64 (x17_2 - 1)) = j_ := ⟨_, rfl⟩
       replace H : (if 0 ≤ (ji49) then (if (ji49) < (x0_2.length : Int) then (if 0 ≤ x17_2 then (if x17_2 < (x0_2.length : Int) then (api_Meta_77.l3 k2 ((x0_2.set (x17_2 : Int).toNat (⟨(rd_T35 x0_2 (ji49)).f0, (rd_T35 x0_2 (ji49)).f1, (rd_T35 x0_2 (ji49)).f2, (rd_T35 x0_2 (ji49)).f3, (rd_T35 x0_2 (ji49)).f4⟩ : S35)).set ((ji49) : Int).toNat (⟨(rd_T35 x0_2 x17_2).f0, (rd_T35 x0_2 x17_2).f1, (rd_T35 x0_2 x17_2).f2, (rd_T35 x0_2 x17_2).f3, (rd_T35 x0_2 x17_2).f4⟩ : S35)) x14_1 ji49) else (none)) else (none)) else (none)) else (none)) = some r := by first | (rw [hji49] at H; exact H) | (simp only [hji49] at H ⊢; exact H)
       have hji49w : (IntKind.i64.wrap (x17_2 - 1)) = ji49 := (i64_w _).trans hji49
       by_cases c50 : 0 ≤ (ji49)
       ·rw [if_pos c50] at H
        have c50b0 : decide (0 ≤ (ji49)) = true := decide_eq_true c50
        clear c50
        by_cases c51 : (ji49) < (x0_2.length : Int)
        ·rw [if_pos c51] at H
         have c51b0 : decide ((ji49) < (x0_2.length : Int)) = true := decide_eq_true c51
         clear c51
         by_cases c52 : 0 ≤ x17_2
         ·rw [if_pos c52] at H
          have c52b0 : decide (0 ≤ x17_2) = true := decide_eq_true c52
          clear c52
          by_cases c53 : x17_2 < (x0_2.length : Int)
          ·rw [if_pos c53] at H
           have c53b0 : decide (x17_2 < (x0_2.length : Int)) = true := decide_eq_true c53
           clear c53
           obtain ⟨y172, hy172⟩ : ∃ y_ : List (S35), y_ = (x0_2.set (x17_2 : Int).toNat (⟨(rd_T35 x0_2 (ji49)).f0, (rd_T35 x0_2 (ji49)).f1, (rd_T35 x0_2 (ji49)).f2, (rd_T35 x0_2 (ji49)).f3, (rd_T35 x0_2 (ji49)).f4⟩ : S35)) := ⟨_, rfl⟩
           replace H : (api_Meta_77.l3 k2 (y172.set ((ji49) : Int).toNat (⟨(rd_T35 x0_2 x17_2).f0, (rd_T35 x0_2 x17_2).f1, (rd_T35 x0_2 x17_2).f2, (rd_T35 x0_2 x17_2).f3, (rd_T35 x0_2 x17_2).f4⟩ : S35)) x14_1 ji49) = some r := by first | (rw [hy172]; with_reducible exact H) | (have H2_ := (Option.bind_some _ _).symm.trans H; rw [hy172]; with_reducible exact H2_) | (have H2_ := (Option.bind_some _ _).symm.trans H; with_reducible exact H2_) | with_reducible exact H | (rw [hy172]; exact H) | exact H
           have Ny172 := Ad.mk hy172
           clear hy172
           obtain ⟨y173, hy173⟩ : ∃ y_ : List (S35), y_ = (y172.set ((ji49) : Int).toNat (⟨(rd_T35 x0_2 x17_2).f0, (rd_T35 x0_2 x17_2).f1, (rd_T35 x0_2 x17_2).f2, (rd_T35 x0_2 x17_2).f3, (rd_T35 x0_2 x17_2).f4⟩ : S35)) := ⟨_, rfl⟩
           replace H : (api_Meta_77.l3 k2 y173 x14_1 ji49) = some r := by first | (rw [hy173]; with_reducible exact H) | (have H2_ := (Option.bind_some _ _).symm.trans H; rw [hy173]; with_reducible exact H2_) | (have H2_ := (Option.bind_some _ _).symm.trans H; with_reducible exact H2_) | with_reducible exact H | (rw [hy173]; exact H) | exact H
           have Ny173 := Ad.mk hy173
           clear hy173
           have H' := Ad.mk H
           clear H
           try go_wp2
           have n0_ := Ad.mk (Kd.R_drew HO_0.out)
           have n1_ := Ad.mk (Kept.drew HK.out)
           have n2_ := Ad.mk (blD HB.out)
           clear HO_0
           clear HK
           clear HB
           have HO_0 := n0_
           have HK := n1_
           have HB := n2_
           clear n0_ n1_ n2_
           obtain ⟨Ao57, co57, eo57⟩ := Kd.R_slice HO_0.out
           (first | subst eo57 | (injection eo57 with f1_ f2_ f3_; have f4_ := f1_.symm; have f5_ := f3_.symm; clear f1_ f2_ f3_; subst f4_; subst f5_))
           have p170 : 0 ≤ ((ji49) : Int) := of_decide_eq_true (by first | (with_reducible assumption) | assumption)
           have q170 : (ji49) < (x0_2.length : Int) := of_decide_eq_true (by first | (with_reducible assumption) | assumption)
           obtain ⟨ad170, e170, hx170_0, hx170_1, hx170_2, hx170_3, hx170_4⟩ := at_T35 (Kd.R_reads' HO_0.out).2.2 (ji49) p170 q170
           cases e170
           replace p170 := eq_true p170
           replace q170 := eq_true q170
           have p171 : 0 ≤ (x17_2 : Int) := of_decide_eq_true (by first | (with_reducible assumption) | assumption)
           have q171 : x17_2 < (x0_2.length : Int) := of_decide_eq_true (by first | (with_reducible assumption) | assumption)
           obtain ⟨ad171, e171, hx171_0, hx171_1, hx171_2, hx171_3, hx171_4⟩ := at_T35 (Kd.R_reads' HO_0.out).2.2 x17_2 p171 q171
           obtain rfl : ad170 = ad171 := (by injection e171)
           replace p171 := eq_true p171
           replace q171 := eq_true q171
           have p54 : 0 ≤ (x17_2 : Int) := of_decide_eq_true (by first | (with_reducible assumption) | assumption)
           have q54 : (x17_2 : Int) < ((x0_2.length : Int) : Int) := of_decide_eq_true (by first | (with_reducible assumption) | assumption)
           obtain ⟨go54, co54, eo54, gb54, gl54, cl54, HG54⟩ := Kd.R_form HO_0.out (by omega)
           (first | cases eo54 | (injection eo54 with ea_ en_ ec_; (first | subst ea_ | (injection ea_ with ea_; subst ea_)); subst ec_; clear en_))
           have GB54 := Ad.mk gb54
           have GG54 := Ad.mk HG54
           clear gb54 gl54 HG54
           have HMgo54 := Ad.mk (show (P0_ go54 ∨ w.heap.size ≤ go54) from (HO_0.out.1 _ rfl))
           (first | simp only [add_plain] at hx170_0 | skip)
           (first | simp only [add_plain] at hx170_1 | skip)
           (first | simp only [add_plain] at hx170_2 | skip)
           (first | simp only [add_plain] at hx170_3 | skip)
           (first | simp only [add_plain] at hx170_4 | skip)
           (first | simp only [add_plain] at hx171_0 | skip)
           (first | simp only [add_plain] at hx171_1 | skip)
           (first | simp only [add_plain] at hx171_2 | skip)
           (first | simp only [add_plain] at hx171_3 | skip)
           (first | simp only [add_plain] at hx171_4 | skip)
           obtain ⟨ce54, hcl54, hM54, hcc54, hfr54⟩ := Kd.R_elem HO_0.out z35 (x17_2 : Int) p54 q54
           obtain rfl := k35_openM hM54
           have hx54_0 : World.cell? _ ⟨go54, (x17_2 : Int).toNat * 5, none⟩ = some (.int .i64 ((rd_T35 x0_2 x17_2).f0)) := hcc54 0 _ rfl
           have hx54_1 : World.cell? _ ⟨go54, (x17_2 : Int).toNat * 5 + 1, none⟩ = some (.int .i64 ((rd_T35 x0_2 x17_2).f1)) := hcc54 1 _ rfl
           have hx54_2 : World.cell? _ ⟨go54, (x17_2 : Int).toNat * 5 + 2, none⟩ = some (.string ((rd_T35 x0_2 x17_2).f2)) := hcc54 2 _ rfl
           have hx54_3 : World.cell? _ ⟨go54, (x17_2 : Int).toNat * 5 + 3, none⟩ = some (.string ((rd_T35 x0_2 x17_2).f3)) := hcc54 3 _ rfl
           have hx54_4 : World.cell? _ ⟨go54, (x17_2 : Int).toNat * 5 + 4, none⟩ = some (.int .i64 ((rd_T35 x0_2 x17_2).f4)) := hcc54 4 _ rfl
           have hf54_0 : World.frozen? _ ⟨go54, (x17_2 : Int).toNat * 5, none⟩ = false := hfr54 0
           have hf54_1 : World.frozen? _ ⟨go54, (x17_2 : Int).toNat * 5 + 1, none⟩ = false := hfr54 1
           have hf54_2 : World.frozen? _ ⟨go54, (x17_2 : Int).toNat * 5 + 2, none⟩ = false := hfr54 2
           have hf54_3 : World.frozen? _ ⟨go54, (x17_2 : Int).toNat * 5 + 3, none⟩ = false := hfr54 3
           have hf54_4 : World.frozen? _ ⟨go54, (x17_2 : Int).toNat * 5 + 4, none⟩ = false := hfr54 4
           clear hcl54 hcc54 hfr54 hM54
           replace p54 := eq_true p54
           replace q54 := eq_true q54
           obtain ⟨ce58, hcl58, hM58, hcc58, hfr58⟩ := Kd.R_elem HO_0.out z35 (x17_2 : Int) (of_decide_eq_true (by first | (with_reducible assumption) | assumption)) (by have h_ : (x17_2 : Int) < ((x0_2.length : Int) : Int) := of_decide_eq_true (by first | (with_reducible assumption) | assumption); first | exact h_ | (have e_ := (Kd.R_reads' HO_0.out).1; omega) | simpa using h_)
           obtain rfl := k35_openM hM58
           have HP58 := (Kd.R_seg HO_0.out (x17_2 : Int) (of_decide_eq_true (by first | (with_reducible assumption) | assumption)) (by have h_ : (x17_2 : Int) < ((x0_2.length : Int) : Int) := of_decide_eq_true (by first | (with_reducible assumption) | assumption); first | exact h_ | (have e_ := (Kd.R_reads' HO_0.out).1; omega) | simpa using h_) (seg := [.int .i64 ((rd_T35 x0_2 (ji49)).f0), .int .i64 ((rd_T35 x0_2 (ji49)).f1), .string ((rd_T35 x0_2 (ji49)).f2), .string ((rd_T35 x0_2 (ji49)).f3), .int .i64 ((rd_T35 x0_2 (ji49)).f4)]) (j := 0) hcl58 hcc58 (show 5 ≤ 5 from by decide) (x' := (⟨(rd_T35 x0_2 (ji49)).f0, (rd_T35 x0_2 (ji49)).f1, (rd_T35 x0_2 (ji49)).f2, (rd_T35 x0_2 (ji49)).f3, (rd_T35 x0_2 (ji49)).f4⟩ : S35)) (k35_mkM _ _ _ (⟨(rd_T35 x0_2 (ji49)).f0, (rd_T35 x0_2 (ji49)).f1, (rd_T35 x0_2 (ji49)).f2, (rd_T35 x0_2 (ji49)).f3, (rd_T35 x0_2 (ji49)).f4⟩ : S35) ) (fun _ hk => hk)).1
           simp only [show (k35).sz = 5 from rfl, Nat.add_zero] at HP58
           rw [← Ny172.out] at HP58
           have HQ58 := Ad.mk HP58
           clear hcl58 hcc58 hfr58 hM58 HP58
           have p55 : 0 ≤ ((ji49) : Int) := of_decide_eq_true (by first | (with_reducible assumption) | assumption)
           have q55 : ((ji49) : Int) < ((x0_2.length : Int) : Int) := of_decide_eq_true (by first | (with_reducible assumption) | assumption)
           obtain ⟨ce55, hcl55, hM55, hcc55, hfr55⟩ := Kd.R_elem HQ58.out z35 ((ji49) : Int) p55 q55
           obtain rfl := k35_openM hM55
           have hx55_0 : World.cell? _ ⟨go54, ((ji49) : Int).toNat * 5, none⟩ = some (.int .i64 ((rd_T35 y172 (ji49)).f0)) := hcc55 0 _ rfl
           have hx55_1 : World.cell? _ ⟨go54, ((ji49) : Int).toNat * 5 + 1, none⟩ = some (.int .i64 ((rd_T35 y172 (ji49)).f1)) := hcc55 1 _ rfl
           have hx55_2 : World.cell? _ ⟨go54, ((ji49) : Int).toNat * 5 + 2, none⟩ = some (.string ((rd_T35 y172 (ji49)).f2)) := hcc55 2 _ rfl
           have hx55_3 : World.cell? _ ⟨go54, ((ji49) : Int).toNat * 5 + 3, none⟩ = some (.string ((rd_T35 y172 (ji49)).f3)) := hcc55 3 _ rfl
           have hx55_4 : World.cell? _ ⟨go54, ((ji49) : Int).toNat * 5 + 4, none⟩ = some (.int .i64 ((rd_T35 y172 (ji49)).f4)) := hcc55 4 _ rfl
           have hf55_0 : World.frozen? _ ⟨go54, ((ji49) : Int).toNat * 5, none⟩ = false := hfr55 0
           have hf55_1 : World.frozen? _ ⟨go54, ((ji49) : Int).toNat * 5 + 1, none⟩ = false := hfr55 1
           have hf55_2 : World.frozen? _ ⟨go54, ((ji49) : Int).toNat * 5 + 2, none⟩ = false := hfr55 2
           have hf55_3 : World.frozen? _ ⟨go54, ((ji49) : Int).toNat * 5 + 3, none⟩ = false := hfr55 3
           have hf55_4 : World.frozen? _ ⟨go54, ((ji49) : Int).toNat * 5 + 4, none⟩ = false := hfr55 4
           clear hcl55 hcc55 hfr55 hM55
           replace p55 := eq_true p55
           replace q55 := eq_true q55
           obtain ⟨ce59, hcl59, hM59, hcc59, hfr59⟩ := Kd.R_elem HQ58.out z35 ((ji49) : Int) (of_decide_eq_true (by first | (with_reducible assumption) | assumption)) (by have h_ : ((ji49) : Int) < ((x0_2.length : Int) : Int) := of_decide_eq_true (by first | (with_reducible assumption) | assumption); first | exact h_ | (have e_ := (Kd.R_reads' HO_0.out).1; omega) | simpa using h_)
           obtain rfl := k35_openM hM59
           have HP59 := (Kd.R_seg HQ58.out ((ji49) : Int) (of_decide_eq_true (by first | (with_reducible assumption) | assumption)) (by have h_ : ((ji49) : Int) < ((x0_2.length : Int) : Int) := of_decide_eq_true (by first | (with_reducible assumption) | assumption); first | exact h_ | (have e_ := (Kd.R_reads' HO_0.out).1; omega) | simpa using h_) (seg := [.int .i64 ((rd_T35 x0_2 x17_2).f0), .int .i64 ((rd_T35 x0_2 x17_2).f1), .string ((rd_T35 x0_2 x17_2).f2), .string ((rd_T35 x0_2 x17_2).f3), .int .i64 ((rd_T35 x0_2 x17_2).f4)]) (j := 0) hcl59 hcc59 (show 5 ≤ 5 from by decide) (x' := (⟨(rd_T35 x0_2 x17_2).f0, (rd_T35 x0_2 x17_2).f1, (rd_T35 x0_2 x17_2).f2, (rd_T35 x0_2 x17_2).f3, (rd_T35 x0_2 x17_2).f4⟩ : S35)) (k35_mkM _ _ _ (⟨(rd_T35 x0_2 x17_2).f0, (rd_T35 x0_2 x17_2).f1, (rd_T35 x0_2 x17_2).f2, (rd_T35 x0_2 x17_2).f3, (rd_T35 x0_2 x17_2).f4⟩ : S35) ) (fun _ hk => hk)).1
           simp only [show (k35).sz = 5 from rfl, Nat.add_zero] at HP59
           rw [← Ny173.out] at HP59
           have HQ59 := Ad.mk HP59
           clear hcl59 hcc59 hfr59 hM59 HP59
           refine start_ (n := 18) (S := fun w' => w'.cell? ⟨go54, (((ji49)).toNat * 5), none⟩ = some (.int .i64 ((rd_T35 x0_2 (ji49)).f0)) ∧ w'.cell? ⟨go54, (((ji49)).toNat * 5) + 1, none⟩ = some (.int .i64 ((rd_T35 x0_2 (ji49)).f1)) ∧ w'.cell? ⟨go54, (((ji49)).toNat * 5) + 2, none⟩ = some (.string ((rd_T35 x0_2 (ji49)).f2)) ∧ w'.cell? ⟨go54, (((ji49)).toNat * 5) + 3, none⟩ = some (.string ((rd_T35 x0_2 (ji49)).f3)) ∧ w'.cell? ⟨go54, (((ji49)).toNat * 5) + 4, none⟩ = some (.int .i64 ((rd_T35 x0_2 (ji49)).f4)) ∧ w'.cell? ⟨go54, ((x17_2).toNat * 5), none⟩ = some (.int .i64 ((rd_T35 x0_2 x17_2).f0)) ∧ w'.cell? ⟨go54, ((x17_2).toNat * 5) + 1, none⟩ = some (.int .i64 ((rd_T35 x0_2 x17_2).f1)) ∧ w'.cell? ⟨go54, ((x17_2).toNat * 5) + 2, none⟩ = some (.string ((rd_T35 x0_2 x17_2).f2)) ∧ w'.cell? ⟨go54, ((x17_2).toNat * 5) + 3, none⟩ = some (.string ((rd_T35 x0_2 x17_2).f3)) ∧ w'.cell? ⟨go54, ((x17_2).toNat * 5) + 4, none⟩ = some (.int .i64 ((rd_T35 x0_2 x17_2).f4))) (ds := [15, 17]) #[false, false, false, false, false, false, false, false, false, false, false, false, false, false, false, false, false, false] (by kernel_rfl) rfl rfl ⟨hx170_0, hx170_1, hx170_2, hx170_3, hx170_4, hx171_0, hx171_1, hx171_2, hx171_3, hx171_4⟩ (fun hHeld => ?_); refine with_tabW api_Meta_77.tab23 api_Meta_77.bits23 (fun HT_ HW_ => ?_)
           generalize wr.drew = w56 at HO_0 HK HB GG54 HQ58 HQ59 hf54_0 hf54_1 hf54_2 hf54_3 hf54_4 hf55_0 hf55_1 hf55_2 hf55_3 hf55_4 hx170_0 hx170_1 hx170_2 hx170_3 hx170_4 hx171_0 hx171_1 hx171_2 hx171_3 hx171_4 hx54_0 hx54_1 hx54_2 hx54_3 hx54_4 hx55_0 hx55_1 hx55_2 hx55_3 hx55_4 hHeld ⊢
           refine pure_ (i := 0) (N := some 113) (v := ?_) (a' := ?_) #[true, false, false, false, false, false, false, false, false, false, false, false, false, false, false, false, false, false] rfl rfl (any_of HT_.out (by kernel_rfl)) (fun _ _ _ h => h) (Or.inl ⟨by rfl, ?_⟩) ?_ ?_
           rotate_left
           ·intro w'
            go_simp
            with_reducible rfl
           rotate_left
           ·simp only [Act.put, List.setIfInBounds_toArray, List.set_cons_zero, List.set_cons_succ, i64_w, i32_w]
            rfl
           refine pure_ (i := 1) (N := some 114) (v := ?_) (a' := ?_) #[true, true, false, false, false, false, false, false, false, false, false, false, false, false, false, false, false, false] rfl rfl (any_of HT_.out (by kernel_rfl)) (fun _ _ _ h => h) (Or.inl ⟨by rfl, ?_⟩) ?_ ?_
           rotate_left
           ·intro w'
            go_simp
            with_reducible rfl
           rotate_left
           ·simp only [Act.put, List.setIfInBounds_toArray, List.set_cons_zero, List.set_cons_succ, i64_w, i32_w]
            rfl
           refine pure_ (i := 2) (N := some 115) (v := ?_) (a' := ?_) #[true, true, true, false, false, false, false, false, false, false, false, false, false, false, false, false, false, false] rfl rfl (any_of HT_.out (by kernel_rfl)) (fun _ _ _ h => h) (Or.inl ⟨by rfl, ?_⟩) ?_ ?_
           rotate_left
           ·intro w'
            go_simp
            with_reducible rfl
           rotate_left
           ·simp only [Act.put, List.setIfInBounds_toArray, List.set_cons_zero, List.set_cons_succ, i64_w, i32_w]
            rfl
           refine pure_ (i := 3) (N := some 116) (v := ?_) (a' := ?_) #[true, true, true, true, false, false, false, false, false, false, false, false, false, false, false, false, false, false] rfl rfl (any_of HT_.out (by kernel_rfl)) (fun _ _ _ h => h) (Or.inl ⟨by rfl, ?_⟩) ?_ ?_
           rotate_left
           ·intro w'
            go_simp
            with_reducible rfl
           rotate_left
           ·simp only [Act.put, List.setIfInBounds_toArray, List.set_cons_zero, List.set_cons_succ, i64_w, i32_w]
            rfl
           refine pure_ (i := 4) (N := some 117) (v := ?_) (a' := ?_) #[true, true, true, true, true, false, false, false, false, false, false, false, false, false, false, false, false, false] rfl rfl (any_of HT_.out (by kernel_rfl)) (fun _ _ _ h => h) (Or.inl ⟨by rfl, ?_⟩) ?_ ?_
           rotate_left
           ·intro w'
            go_simp
            with_reducible rfl
           rotate_left
           ·simp only [Act.put, List.setIfInBounds_toArray, List.set_cons_zero, List.set_cons_succ, i64_w, i32_w]
            rfl
           refine pure_ (i := 5) (N := some 118) (v := ?_) (a' := ?_) #[true, true, true, true, true, true, false, false, false, false, false, false, false, false, false, false, false, false] rfl rfl (any_of HT_.out (by kernel_rfl)) (fun _ _ _ h => h) (Or.inl ⟨by rfl, ?_⟩) ?_ ?_
           rotate_left
           ·intro w'
            go_simp
            with_reducible rfl
           rotate_left
           ·simp only [Act.put, List.setIfInBounds_toArray, List.set_cons_zero, List.set_cons_succ, i64_w, i32_w]
            rfl
           refine pure_ (i := 6) (N := some 119) (v := ?_) (a' := ?_) #[true, true, true, true, true, true, true, false, false, false, false, false, false, false, false, false, false, false] rfl rfl (any_of HT_.out (by kernel_rfl)) (fun _ _ _ h => h) (Or.inl ⟨by rfl, ?_⟩) ?_ ?_
           rotate_left
           ·intro w'
            go_simp
            with_reducible rfl
           rotate_left
           ·simp only [Act.put, List.setIfInBounds_toArray, List.set_cons_zero, List.set_cons_succ, i64_w, i32_w]
            rfl
           refine pure_ (i := 7) (N := some 120) (v := ?_) (a' := ?_) #[true, true, true, true, true, true, true, true, false, false, false, false, false, false, false, false, false, false] rfl rfl (any_of HT_.out (by kernel_rfl)) (fun _ _ _ h => h) (Or.inl ⟨by rfl, ?_⟩) ?_ ?_
           rotate_left
           ·intro w'
            go_simp
            with_reducible rfl
           rotate_left
           ·simp only [Act.put, List.setIfInBounds_toArray, List.set_cons_zero, List.set_cons_succ, i64_w, i32_w]
            rfl
           refine pure_ (i := 8) (N := some 121) (v := ?_) (a' := ?_) #[true, true, true, true, true, true, true, true, true, false, false, false, false, false, false, false, false, false] rfl rfl (any_of HT_.out (by kernel_rfl)) (fun _ _ _ h => h) (Or.inl ⟨by rfl, ?_⟩) ?_ ?_
           rotate_left
           ·intro w'
            go_simp
            with_reducible rfl
           rotate_left
           ·simp only [Act.put, List.setIfInBounds_toArray, List.set_cons_zero, List.set_cons_succ, i64_w, i32_w]
            rfl
           refine pure_ (i := 10) (N := some 123) (v := ?_) (a' := ?_) #[true, true, true, true, true, true, true, true, true, false, true, false, false, false, false, false, false, false] rfl rfl (any_of HT_.out (by kernel_rfl)) (fun _ _ _ h => h) (Or.inl ⟨by rfl, ?_⟩) ?_ ?_
           rotate_left
           ·intro w'
            go_simp
            with_reducible rfl
           rotate_left
           ·simp only [Act.put, List.setIfInBounds_toArray, List.set_cons_zero, List.set_cons_succ, i64_w, i32_w]
            rfl
           refine pure_ (i := 11) (N := some 124) (v := ?_) (a' := ?_) #[true, true, true, true, true, true, true, true, true, false, true, true, false, false, false, false, false, false] rfl rfl (any_of HT_.out (by kernel_rfl)) (fun _ _ _ h => h) (Or.inl ⟨by rfl, ?_⟩) ?_ ?_
           rotate_left
           ·intro w'
            go_simp
            with_reducible rfl
           rotate_left
           ·simp only [Act.put, List.setIfInBounds_toArray, List.set_cons_zero, List.set_cons_succ, i64_w, i32_w]
            rfl
           refine pure_ (i := 12) (N := some 125) (v := ?_) (a' := ?_) #[true, true, true, true, true, true, true, true, true, false, true, true, true, false, false, false, false, false] rfl rfl (any_of HT_.out (by kernel_rfl)) (fun _ _ _ h => h) (Or.inl ⟨by rfl, ?_⟩) ?_ ?_
           rotate_left
           ·intro w'
            go_simp
            with_reducible rfl
           rotate_left
           ·simp only [Act.put, List.setIfInBounds_toArray, List.set_cons_zero, List.set_cons_succ, i64_w, i32_w]
            rfl
           refine take_ (i := 9) (N := some 122) (v := ?_) (a' := ?_) #[true, true, true, true, true, true, true, true, true, true, true, true, true, false, false, false, false, false] rfl rfl (take_ofW HT_.out HW_.out (by kernel_rfl)) (fun _ _ _ h => h) (Or.inl ⟨by rfl, ?_⟩) hHeld ?_ ?_
           rotate_left
           ·rintro w' ⟨s0, s1, s2, s3, s4, s5, s6, s7, s8, s9⟩
            go_simp
            with_reducible rfl
           rotate_left
           ·simp only [Act.put, List.setIfInBounds_toArray, List.set_cons_zero, List.set_cons_succ, i64_w, i32_w]
            rfl
           refine take_ (i := 13) (N := some 126) (v := ?_) (a' := ?_) #[true, true, true, true, true, true, true, true, true, true, true, true, true, true, false, false, false, false] rfl rfl (take_ofW HT_.out HW_.out (by kernel_rfl)) (fun _ _ _ h => h) (Or.inl ⟨by rfl, ?_⟩) hHeld ?_ ?_
           rotate_left
           ·rintro w' ⟨s0, s1, s2, s3, s4, s5, s6, s7, s8, s9⟩
            go_simp
            with_reducible rfl
           rotate_left
           ·simp only [Act.put, List.setIfInBounds_toArray, List.set_cons_zero, List.set_cons_succ, i64_w, i32_w]
            rfl
           refine pure_ (i := 14) (N := some 127) (v := ?_) (a' := ?_) #[true, true, true, true, true, true, true, true, true, true, true, true, true, true, true, false, false, false] rfl rfl (any_of HT_.out (by kernel_rfl)) (fun _ _ _ h => h) (Or.inl ⟨by rfl, ?_⟩) ?_ ?_
           rotate_left
           ·intro w'
            go_simp
            with_reducible rfl
           rotate_left
           ·simp only [Act.put, List.setIfInBounds_toArray, List.set_cons_zero, List.set_cons_succ, i64_w, i32_w]
            rfl
           refine last_ (i := 15) (N := none) #[true, true, true, true, true, true, true, true, true, true, true, true, true, true, true, true, false, false] rfl rfl (one_of HT_.out (by kernel_rfl)) (by decide) (fun K hK => ?_)
           refine row_skip k35 (x17_2 : Int) 0 [.int .i64 ((rd_T35 x0_2 (ji49)).f0), .int .i64 ((rd_T35 x0_2 (ji49)).f1), .string ((rd_T35 x0_2 (ji49)).f2), .string ((rd_T35 x0_2 (ji49)).f3), .int .i64 ((rd_T35 x0_2 (ji49)).f4)] (o' := (x17_2 : Int).toNat * 5) (t := 35) (p := .tmp 127) (x := .tmp 122) (u := .agg #[.int .i64 ((rd_T35 x0_2 (ji49)).f0), .int .i64 ((rd_T35 x0_2 (ji49)).f1), .string ((rd_T35 x0_2 (ji49)).f2), .string ((rd_T35 x0_2 (ji49)).f3), .int .i64 ((rd_T35 x0_2 (ji49)).f4)]) (by rfl) rfl ?ho ?ha ?hf ?hx ?hu (info_size info35) ?h1 HO_0.out ?h0 ?hi ?hj ?_
           case ho => rfl
           case ha => rfl
           case hf => rfl
           case hx => rfl
           case hu => rfl
           case h1 => rfl
           case h0 => exact (of_decide_eq_true (by first | (with_reducible assumption) | assumption))
           case hi => exact (by have h_ : (x17_2 : Int) < ((x0_2.length : Int) : Int) := of_decide_eq_true (by first | (with_reducible assumption) | assumption); first | exact h_ | (have e_ := (Kd.R_reads' HO_0.out).1; omega) | simpa using h_)
           case hj => exact (show 5 ≤ 5 from by decide)
           intro wz58 hwz hgz
           rw [hwz] at HQ58 HQ59
           have n0_ := Ad.mk (Kept.of_grown hgz HK.out (fun k_ hk_ => by injection hk_ with hk_; subst hk_; exact HMgo54.out))
           clear HK
           have HK := n0_
           clear n0_
           have n1_ := Ad.mk (pw_below_grown HB.out (some go54) HB.out.size hgz (fun k_ hk_ => by injection hk_ with hk_; subst hk_; exact GB54.out))
           clear HB
           have HB := n1_
           clear n1_ hwz hgz
           refine hK.out _ _ ?_
           clear hK K
           refine pure_ (i := 16) (N := some 128) (v := ?_) (a' := ?_) #[true, true, true, true, true, true, true, true, true, true, true, true, true, true, true, true, true, false] rfl rfl (any_of HT_.out (by kernel_rfl)) (fun _ _ _ h => h) (Or.inl ⟨by rfl, ?_⟩) ?_ ?_
           rotate_left
           ·intro w'
            go_simp
            with_reducible rfl
           rotate_left
           ·simp only [Act.put, List.setIfInBounds_toArray, List.set_cons_zero, List.set_cons_succ, i64_w, i32_w]
            rfl
           refine last_ (i := 17) (N := none) #[true, true, true, true, true, true, true, true, true, true, true, true, true, true, true, true, true, true] rfl rfl (one_of HT_.out (by kernel_rfl)) (by decide) (fun K hK => ?_)
           refine row_skip k35 ((ji49) : Int) 0 [.int .i64 ((rd_T35 x0_2 x17_2).f0), .int .i64 ((rd_T35 x0_2 x17_2).f1), .string ((rd_T35 x0_2 x17_2).f2), .string ((rd_T35 x0_2 x17_2).f3), .int .i64 ((rd_T35 x0_2 x17_2).f4)] (o' := ((ji49) : Int).toNat * 5) (t := 35) (p := .tmp 128) (x := .tmp 126) (u := .agg #[.int .i64 ((rd_T35 x0_2 x17_2).f0), .int .i64 ((rd_T35 x0_2 x17_2).f1), .string ((rd_T35 x0_2 x17_2).f2), .string ((rd_T35 x0_2 x17_2).f3), .int .i64 ((rd_T35 x0_2 x17_2).f4)]) (by rfl) rfl ?ho ?ha ?hf ?hx ?hu (info_size info35) ?h1 HQ58.out ?h0 ?hi ?hj ?_
           case ho => rfl
           case ha => rfl
           case hf => rfl
           case hx => rfl
           case hu => rfl
           case h1 => rfl
           case h0 => exact (of_decide_eq_true (by first | (with_reducible assumption) | assumption))
           case hi => exact (by have h_ : ((ji49) : Int) < ((x0_2.length : Int) : Int) := of_decide_eq_true (by first | (with_reducible assumption) | assumption); first | exact h_ | (have e_ := (Kd.R_reads' HO_0.out).1; omega) | simpa using h_)
           case hj => exact (show 5 ≤ 5 from by decide)
           intro wz59 hwz hgz
           rw [hwz] at HQ59
           have n0_ := Ad.mk (Kept.of_grown hgz HK.out (fun k_ hk_ => by injection hk_ with hk_; subst hk_; exact HMgo54.out))
           clear HK
           have HK := n0_
           clear n0_
           have n1_ := Ad.mk (pw_below_grown HB.out (some go54) HB.out.size hgz (fun k_ hk_ => by injection hk_ with hk_; subst hk_; exact GB54.out))
           clear HB
           have HB := n1_
           clear n1_ hwz hgz
           refine hK.out _ _ ?_
           clear hK K
           refine done_ (done_of HT_.out (by kernel_rfl)) ?_
           try go_wp2
           go_roundg k2
           case measure => have := HK1.out; have := HK2.out; omega
           case rel => exact ⟨(y173), (ji49), (by first | rfl | (simp; done) | (simp only [← hji49] <;> (first | rfl | simp)) | (simp [*]; done)), H', ⟨by have := HK1.out; have := HK2.out; omega⟩, ⟨by (with_reducible repeat (first | apply Kd.R_alloc | apply Kd.R_drewN | apply Kd.R_drew)); exact HQ59.out⟩, ⟨by repeat (first | (with_reducible first | exact HK.out | apply Kept.alloc | apply Kept.drewN | apply Kept.drew | refine Kept.setCell ?_ HMgo54.out _ | refine Kept.setCell ?_ HMgo54.out _ | refine Kept.setCell ?_ HMgo54.out _ | refine Kept.setCell ?_ HMgo54.out _ | refine Kept.setCell ?_ HMgo54.out _ | refine Kept.setCell ?_ HMgo54.out _ | refine Kept.setCell ?_ HMgo54.out _ | refine Kept.setCell ?_ HMgo54.out _ | refine Kept.setCell ?_ HMgo54.out _ | refine Kept.setCell ?_ HMgo54.out _) | exact HK.out)⟩, ⟨by repeat (first | (with_reducible first | exact HB.out | apply blA | apply blN | apply blD | refine blS ?_ GB54.out | refine blS ?_ GB54.out | refine blS ?_ GB54.out | refine blS ?_ GB54.out | refine blS ?_ GB54.out | refine blS ?_ GB54.out | refine blS ?_ GB54.out | refine blS ?_ GB54.out | refine blS ?_ GB54.out | refine blS ?_ GB54.out) | exact HB.out)⟩⟩
          ·rw [if_neg c53] at H
           exact absurd H (by simp)
         ·rw [if_neg c52] at H
          exact absurd H (by simp)
        ·rw [if_neg c51] at H
         exact absurd H (by simp)
       ·rw [if_neg c50] at H
        exact absurd H (by simp)
      ·rw [if_neg c48] at H
       have c48b0 : decide (x14_1 < x17_2) = false := decide_eq_false c48
       clear c48
       obtain rfl := Option.some.inj H
       go_wp2
       first | go_end0 | ((try simp only [Exit.inBlock, Exit.then]); refine bodyPost_ret (results_none rfl _ _ _) rfl ?_)
       exact ⟨by first | rfl | (simp [errW_none, errW_some] <;> rfl) | (simp [*, errW_none, errW_some] <;> rfl), by (with_reducible repeat (first | apply Kd.R_alloc | apply Kd.R_drewN | apply Kd.R_drew)); exact HO_0.out, by repeat (first | (with_reducible first | exact HB.out | apply blA | apply blN | apply blD) | exact HB.out), by repeat (first | (with_reducible first | exact HK.out | apply Kept.alloc | apply Kept.drewN | apply Kept.drew) | exact HK.out)⟩
end Go.Proofs.Ytoonheembcejfaa.PA

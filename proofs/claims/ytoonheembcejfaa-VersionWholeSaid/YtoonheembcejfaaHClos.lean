/- version.without's two function values, at tables and at numbers: what each answers. No condition. -/
import Derived.Test.YtoonheembcejfaaHDelLem
import Derived.Deep.RegionWith
namespace Go.Proofs.Ytoonheembcejfaa.PA
open Go.RowKit Go.Proofs.YtoonheembcejfaaW.PrintWords Go.Proofs.YtoonheembcejfaaW.PrintLast Go.Proofs.YtoonheembcejfaaW.PrintMore
set_option linter.unusedVariables false
set_option linter.unusedSimpArgs false
theorem idMeta.calls (x : S35) (W : World) : Calls Try.prog 23 #[enc35 x] W fun e W' => e = .returned (.int .i64 x.f0) ∧ Below W.heap.size W W' := by
  unfold enc35
  go_enter Try.func23, Try.ntmps23
  go_wp2
  go_ret
  exact ⟨rfl, blA (Below.refl _ _) _⟩
theorem idInt.calls (x : Int) (W : World) : Calls Try.prog 25 #[.int .i64 x] W fun e W' => e = .returned (.int .i64 x) ∧ W' = W := by
  go_enter Try.func25, Try.ntmps25
  go_wp2
  go_ret
  exact ⟨rfl, rfl⟩
theorem zero4 (w : World) : (zeroValue 4).run Try.prog w = .ok (.bool false) w := by kernel_rfl
set_option maxHeartbeats 1000000 in
set_option maxRecDepth 100000 in
theorem eqMeta.calls (b5 b10 : Nat) (y : Int) (x : S35) (W : World) (h5 : W.cell? ⟨b5, 0, none⟩ = some (.func (.func 23) #[] #[])) (h10 : W.cell? ⟨b10, 0, none⟩ = some (.int .i64 y)) :
    Calls Try.prog 57 #[enc35 x, .pointer (some ⟨b5, 0, none⟩), .pointer (some ⟨b10, 0, none⟩)] W fun e W' => e = .returned (.bool (x.f0 == y)) ∧ Below W.heap.size W W' := by
  have H5 := Ad.mk h5
  have H10 := Ad.mk h10
  clear h5 h10
  unfold enc35
  go_enter Try.func57, Try.ntmps57
  go_wp2_with (first | ((with_reducible refine gate_dst (N := 3) rfl ?_); refine box_event rfl (N := 3) rfl (cs := #[.int .i64 x.f0, .int .i64 x.f1, .string x.f2, .string x.f3, .int .i64 x.f4]) (t := 35) (by first | (go_simp; done) | (go_simp; rfl)) ?_; intro gb hgb w1 hbx hb1; have HB1 := Ad.mk hb1; have hz0 := (bcl hbx 0).trans rfl; have hz1 := (bcl hbx 1).trans rfl; have hz2 := (bcl hbx 2).trans rfl; have hz3 := (bcl hbx 3).trans rfl; have hz4 := (bcl hbx 4).trans rfl; clear hgb hbx hb1))
  have h5 := (HB1.out.cell (World.block_lt_of_cell? W _ H5.out)).trans H5.out
  have h10 := (HB1.out.cell (World.block_lt_of_cell? W _ H10.out)).trans H10.out
  go_region_with (first | (go_at_call 23; refine (idMeta.calls x _).mono ?_; rintro e w2 ⟨rfl, hb⟩; have h10' := (hb.cell (World.block_lt_of_cell? w1.drew _ h10)).trans h10; have HB2 := Ad.mk (below_then (below_drew HB1.out) HB1.out.size hb); clear hb))
  all_goals go_wp2
  all_goals go_ret
  all_goals exact ⟨by first | rfl | simp, HB2.out⟩
set_option maxHeartbeats 1000000 in
set_option maxRecDepth 100000 in
theorem inMeta.calls (b8 b5 bm n : Nat) (S : List Int) (x : S35) (W : World) (h5 : W.cell? ⟨b5, 0, none⟩ = some (.func (.func 23) #[] #[])) (h8 : W.cell? ⟨b8, 0, none⟩ = some (.map (some bm))) (hS : BSet Try.prog 3 4 W bm n S) (hx : (Lit.int .i64 x.f0).wf = true) :
    Calls Try.prog 59 #[enc35 x, .pointer (some ⟨b8, 0, none⟩), .pointer (some ⟨b5, 0, none⟩)] W fun e W' => e = .returned (.bool (decide (x.f0 ∈ S))) ∧ Below W.heap.size W W' := by
  have H5 := Ad.mk h5
  have H8 := Ad.mk h8
  have HS := Ad.mk hS
  have HX := Ad.mk hx
  clear h5 h8 hS hx
  obtain ⟨r, hr⟩ : ∃ r, decide (x.f0 ∈ S) = r := ⟨_, rfl⟩
  have HR := Ad.mk hr
  clear hr
  unfold enc35
  go_enter Try.func59, Try.ntmps59
  go_wp2_with (first | ((with_reducible refine gate_dst (N := 3) rfl ?_); refine box_event rfl (N := 3) rfl (cs := #[.int .i64 x.f0, .int .i64 x.f1, .string x.f2, .string x.f3, .int .i64 x.f4]) (t := 35) (by first | (go_simp; done) | (go_simp; rfl)) ?_; intro gb hgb w1 hbx hb1; have HB1 := Ad.mk hb1; have HS1 := Ad.mk (HS.out.below hb1); have hz0 := (bcl hbx 0).trans rfl; have hz1 := (bcl hbx 1).trans rfl; have hz2 := (bcl hbx 2).trans rfl; have hz3 := (bcl hbx 3).trans rfl; have hz4 := (bcl hbx 4).trans rfl; clear hgb hbx hb1))
  have h5 := (HB1.out.cell (World.block_lt_of_cell? W _ H5.out)).trans H5.out
  have h8 := (HB1.out.cell (World.block_lt_of_cell? W _ H8.out)).trans H8.out
  go_region_with (first | (go_at_call 23; refine (idMeta.calls x _).mono ?_; rintro e w2 ⟨rfl, hb⟩; have h8' := (hb.cell (World.block_lt_of_cell? w1.drew _ h8)).trans h8; have HB2 := Ad.mk (below_then (below_drew HB1.out) HB1.out.size hb); have HS2 := Ad.mk (BSet.below (w := w1.drew) (HS1.out.below (below_drew (Below.refl _ _))) hb); have hlk := HS2.out.lookup (t := 95) Try.underlying95 Try.underlying3 Try.underlying4 (zero4 _) HX.out; rw [HR.out] at hlk; clear hb))
  all_goals go_wp2
  all_goals go_ret
  all_goals exact ⟨by first | rfl | (rw [HR.out]; rfl) | simp [HR.out], HB2.out⟩
set_option maxHeartbeats 1000000 in
set_option maxRecDepth 100000 in
theorem eqInt.calls (b5 b10 : Nat) (y : Int) (x : Int) (W : World) (h5 : W.cell? ⟨b5, 0, none⟩ = some (.func (.func 25) #[] #[])) (h10 : W.cell? ⟨b10, 0, none⟩ = some (.int .i64 y)) :
    Calls Try.prog 60 #[.int .i64 x, .pointer (some ⟨b5, 0, none⟩), .pointer (some ⟨b10, 0, none⟩)] W fun e W' => e = .returned (.bool (x == y)) ∧ Below W.heap.size W W' := by
  go_enter Try.func60, Try.ntmps60
  go_wp2
  go_region_with (first | (go_at_call 25; refine (idInt.calls x _).mono ?_; rintro e w2 ⟨rfl, rfl⟩))
  all_goals go_wp2
  all_goals go_ret
  all_goals exact ⟨by first | rfl | simp, below_drew (Below.refl _ _)⟩
set_option maxHeartbeats 1000000 in
set_option maxRecDepth 100000 in
theorem inInt.calls (b8 b5 bm n : Nat) (S : List Int) (x : Int) (W : World) (h5 : W.cell? ⟨b5, 0, none⟩ = some (.func (.func 25) #[] #[])) (h8 : W.cell? ⟨b8, 0, none⟩ = some (.map (some bm))) (hS : BSet Try.prog 3 4 W bm n S) (hx : (Lit.int .i64 x).wf = true) :
    Calls Try.prog 62 #[.int .i64 x, .pointer (some ⟨b8, 0, none⟩), .pointer (some ⟨b5, 0, none⟩)] W fun e W' => e = .returned (.bool (decide (x ∈ S))) ∧ Below W.heap.size W W' := by
  have HS := Ad.mk (fun m : Nat => BSet.below (w1 := W.drewN m) hS (blN (Below.refl _ _) m))
  have HX := Ad.mk hx
  clear hS hx
  obtain ⟨r, hr⟩ : ∃ r, decide (x ∈ S) = r := ⟨_, rfl⟩
  have HR := Ad.mk hr
  clear hr
  have hlk : ∀ m : Nat, (Instr.lookup 95 (.map (some bm)) (.int .i64 x) false).run Try.prog (W.drewN m) = .ok (.bool r) (W.drewN m) := fun m => by have := (HS.out m).lookup (t := 95) Try.underlying95 Try.underlying3 Try.underlying4 (zero4 _) HX.out; rw [HR.out] at this; exact this
  go_enter Try.func62, Try.ntmps62
  go_wp2
  go_quiet ((exact Calls.quiet_of_same (idInt.calls x _)))
  go_wp2
  go_ret
  exact ⟨by first | rfl | (rw [HR.out]; rfl) | simp [HR.out], blN (Below.refl _ _) _⟩
end Go.Proofs.Ytoonheembcejfaa.PA

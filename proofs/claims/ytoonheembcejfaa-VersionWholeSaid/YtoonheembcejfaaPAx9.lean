-- printed by a program of this session (wip/myprint.py), after the kit's print
import Derived.Test.YtoonheembcejfaaHSymB
import Derived.Test.YtoonheembcejfaaHSymC
namespace Go.Proofs.Ytoonheembcejfaa.PA
open Go.RowKit Go.Proofs.YtoonheembcejfaaW.PrintWords Go.Proofs.YtoonheembcejfaaW.PrintLast Go.Proofs.YtoonheembcejfaaW.PrintMore
attribute [local go_sem] max2_int min2_int max_two min_two max_three min_three max_four min_four   -- for this text's walks alone
set_option linter.unusedVariables false
set_option linter.unusedSimpArgs false
set_option maxHeartbeats 8000000 in
set_option maxRecDepth 100000 in
theorem api_Meta_77.calls (k : Nat) : ∀ (P0_ : Nat → Prop) (u9000_ : Value) (l0 : List (S35)) (a1 : Int) (a2 : Int) (a3 : Int)  (r : List (S35)) (w0 w : World) (hB : Below w0.heap.size w0 w) (ho0 : Kd.R k35 35 w w0.heap.size P0_ u9000_ l0) (h : api_Meta_77.f k l0 a1 a2 a3 = some r),
  Calls Try.prog 77 #[u9000_, .int .i64 a1, .int .i64 a2, .int .i64 a3, .func (.func 27) #[] #[]] w fun e w' => e = .returned (.tuple #[]) ∧ Kd.R k35 35 w' w0.heap.size (fun k_ => (P0_ k_ ∨ w.heap.size ≤ k_)) u9000_ r ∧ Below w0.heap.size w0 w' ∧ Kept w w' (fun k_ => P0_ k_) := by
 induction k using Nat.strongRecOn with
 | _ k ih =>
 intro P0_ u9000_ l0 a1 a2 a3 r w0 w hB ho0 h
 cases k with
 | zero => exact absurd h (by simp [api_Meta_77.f])
 | succ k =>
 by_cases c6 : (wrap64 (a2 - a1)) = 1
 ·exact api_Meta_77.caseA k P0_ u9000_ l0 a1 a2 a3 r w0 w hB ho0 h c6
 by_cases c33 : (wrap64 (a3 - a2)) = 1
 ·exact api_Meta_77.caseB k P0_ u9000_ l0 a1 a2 a3 r w0 w hB ho0 h c6 c33
 exact api_Meta_77.caseC k P0_ u9000_ l0 a1 a2 a3 r w0 w hB ho0 h ih c6 c33
end Go.Proofs.Ytoonheembcejfaa.PA

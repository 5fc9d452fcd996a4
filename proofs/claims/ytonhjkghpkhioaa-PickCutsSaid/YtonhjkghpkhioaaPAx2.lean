-- printed by a program of this session (wip/myprint.py), after the kit's print
import Derived.Test.YtonhjkghpkhioaaPAx0
namespace Go.Proofs.Ytonhjkghpkhioaa.PA
open Go.RowKit Go.Proofs.YtonhjkghpkhioaaW.PrintWords Go.Proofs.YtonhjkghpkhioaaW.PrintLast Go.Proofs.YtonhjkghpkhioaaW.PrintMore
attribute [local go_sem] max2_int min2_int max_two min_two max_three min_three max_four min_four   -- for this text's walks alone
set_option linter.unusedVariables false
set_option linter.unusedSimpArgs false
/-! ### version_Right_1: function 28 -/
def version_Right_1.f (a0 : Int) : Option (Bool) := if a0 < 1 then (some true) else (some (decide (a0 > 9007199254740991)))
set_option maxHeartbeats 8000000 in
set_option maxRecDepth 100000 in
theorem version_Right_1.calls (a0 : Int) (r : Bool) (w : World) (h : version_Right_1.f a0 = some r) :
  Calls Try.prog 28 #[.int .i64 a0] w fun e w' => e = .returned (.bool r) ∧ Drawn0 w w' := by
 have H : (if a0 < 1 then (some true) else (some (decide (a0 > 9007199254740991)))) = some r := h
 clear h
 by_cases c2 : a0 < 1
 ·rw [if_pos c2] at H
  have c2b0 : decide (a0 < 1) = true := decide_eq_true c2
  clear c2
  obtain rfl := Option.some.inj H
  go_enter Try.func28, Try.ntmps28
  go_wp2
  go_ret
  exact ⟨by first | rfl | (simp; done) | (simp [*]; done), by repeat (first | exact Drawn0.refl _ | apply Drawn0.step)⟩
 ·rw [if_neg c2] at H
  have c2b0 : decide (a0 < 1) = false := decide_eq_false c2
  clear c2
  obtain rfl := Option.some.inj H
  go_enter Try.func28, Try.ntmps28
  go_wp2
  go_ret
  exact ⟨by first | rfl | (simp; done) | (simp [*]; done), by repeat (first | exact Drawn0.refl _ | apply Drawn0.step)⟩
/-- THE ONE PURE STATEMENT of version_Right_1: yours. -/
def version_Right_1.Pure : Prop := ∀ (a0 : Int), (Lit.int .i64 a0).wf = true → version_Right_1.f a0 = some true
theorem version_Right_1.walk (P : version_Right_1.Pure) (a0 : Int) (w : World) (w0 : (Lit.int .i64 a0).wf = true) :
  Calls Try.prog 28 #[.int .i64 a0] w fun e w' => e = .returned (.bool true) ∧ Below w.heap.size w w' := by
 have h := P a0 w0
 refine (version_Right_1.calls a0 true w h).mono ?_
 rintro e w' ⟨rfl, hd⟩
 exact ⟨rfl, hd.below⟩
end Go.Proofs.Ytonhjkghpkhioaa.PA

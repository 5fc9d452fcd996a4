-- printed by a program of this session (wip/myprint.py), after the kit's print
import Derived.Test.YtoonheembcejfaaPAx0
import Derived.Test.YtoonheembcejfaaPAx2
namespace Go.Proofs.Ytoonheembcejfaa.PA
open Go.RowKit Go.Proofs.YtoonheembcejfaaW.PrintWords Go.Proofs.YtoonheembcejfaaW.PrintLast Go.Proofs.YtoonheembcejfaaW.PrintMore
attribute [local go_sem] max2_int min2_int max_two min_two max_three min_three max_four min_four   -- for this text's walks alone
set_option linter.unusedVariables false
set_option linter.unusedSimpArgs false
/-! ### palinodelaw14_is: function 11 -/
def palinodelaw14_is.f (a0 : Option Int) (a1 : Int) : Option (Bool) := if a1 = 0 then (if a0.isNone = true then (some true) else (some false)) else (if a0.isNone = true then (some false) else (some ((a0.getD 0) == a1)))
set_option maxHeartbeats 8000000 in
set_option maxRecDepth 100000 in
theorem palinodelaw14_is.calls (a0 : Option Int) (a1 : Int) (r : Bool) (w : World) (h : palinodelaw14_is.f a0 a1 = some r) :
  Calls Try.prog 11 #[errW a0, .int .i64 a1] w fun e w' => e = .returned (.bool r) ∧ Drawn0 w w' := by
 have hu28 := Try.underlying28
 have hu53 := Try.underlying53
 have hta : ∀ (v : Value) (W : World), (Instr.typeAssert (.iface 53 v) 28 53 true).run Try.prog W = .ok (.tuple #[v, .bool true]) W := fun v W => by rfl
 have htn : ∀ (W : World), (Instr.typeAssert .nilIface 28 53 true).run Try.prog W = .ok (.tuple #[.int .i64 0, .bool false]) W := fun W => by rfl
 have H : (if a1 = 0 then (if a0.isNone = true then (some true) else (some false)) else (if a0.isNone = true then (some false) else (some ((a0.getD 0) == a1)))) = some r := h
 clear h
 by_cases c3 : a1 = 0
 ·rw [if_pos c3] at H
  have c3b0 : (a1 == 0) = true := beq_iff_eq.mpr c3
  have c3b1 : (a1 != 0) = false := bne_eq_false_iff_eq.mpr c3
  clear c3
  rcases a0 with _ | q211
  ·have H1 : (some true) = some r := by rw [if_pos (show (none : Option Int).isNone = true by rfl)] at H; exact H
   clear H
   have H := H1
   clear H1
   simp only [errW_none, errW_some]
   obtain rfl := Option.some.inj H
   go_enter Try.func11, Try.ntmps11
   go_wp2
   go_ret
   exact ⟨by first | rfl | (simp; done) | (simp [*]; done), by repeat (first | exact Drawn0.refl _ | apply Drawn0.step)⟩
  ·have H1 : (some false) = some r := by rw [if_neg (show ¬ (some q211).isNone = true by simp)] at H; exact H
   clear H
   have H := H1
   clear H1
   simp only [errW_none, errW_some]
   obtain rfl := Option.some.inj H
   go_enter Try.func11, Try.ntmps11
   go_wp2
   go_ret
   exact ⟨by first | rfl | (simp; done) | (simp [*]; done), by repeat (first | exact Drawn0.refl _ | apply Drawn0.step)⟩
 ·rw [if_neg c3] at H
  have c3b0 : (a1 == 0) = false := beq_eq_false_iff_ne.mpr c3
  have c3b1 : (a1 != 0) = true := bne_iff_ne.mpr c3
  rcases a0 with _ | q212
  ·have H1 : (some false) = some r := by rw [if_pos (show (none : Option Int).isNone = true by rfl)] at H; exact H
   clear H
   have H := H1
   clear H1
   simp only [errW_none, errW_some]
   obtain rfl := Option.some.inj H
   go_enter Try.func11, Try.ntmps11
   go_wp2
   go_ret
   exact ⟨by first | rfl | (simp; done) | (simp [*]; done), by repeat (first | exact Drawn0.refl _ | apply Drawn0.step)⟩
  ·have H1 : (some (q212 == a1)) = some r := by rw [if_neg (show ¬ (some q212).isNone = true by simp)] at H; exact H
   clear H
   have H := H1
   clear H1
   simp only [errW_none, errW_some]
   obtain rfl := Option.some.inj H
   go_enter Try.func11, Try.ntmps11
   go_wp2
   go_ret
   exact ⟨by first | rfl | (simp; done) | (simp [*]; done), by repeat (first | exact Drawn0.refl _ | apply Drawn0.step)⟩
/-! ### cmp_Less_int: function 86 -/
def cmp_Less_int.f (a0 : Int) (a1 : Int) : Option (Bool) := (cmp_isNaN_int.f a0).bind fun t213 => (if t213 = true then ((cmp_isNaN_int.f a1).bind fun t214 => (if t214 = true then (some (decide (a0 < a1))) else (some true))) else (some (decide (a0 < a1))))
end Go.Proofs.Ytoonheembcejfaa.PA

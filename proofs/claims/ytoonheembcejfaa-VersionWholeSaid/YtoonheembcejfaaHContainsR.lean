/- slices.ContainsFunc of whole numbers, asked by version.Right's own test. No condition. -/
import Derived.Test.YtoonheembcejfaaHIdxInt
import Derived.Test.YtoonheembcejfaaPAx2
namespace Go.Proofs.Ytoonheembcejfaa.PA
open Go.RowKit Go.Proofs.YtoonheembcejfaaW.PrintWords Go.Proofs.YtoonheembcejfaaW.PrintLast Go.Proofs.YtoonheembcejfaaW.PrintMore
def pRight (x : Int) : Bool := decide (x < 1) || decide (x > 9007199254740991)
theorem pRight_f (x : Int) : version_Right_1.f x = some (pRight x) := by
  unfold version_Right_1.f pRight
  by_cases h : x < 1 <;> simp [h]
theorem enters33 : Enters 33 := fun args w => enters_ Try.func33 (by kernel_rfl) rfl args w
theorem tellsRight (l : List Int) (w : World) : Tells 33 #[] (Value.int .i64) pRight (· ∈ l) w none :=
  fun x W _ _ => (version_Right_1.calls x (pRight x) W (pRight_f x)).mono fun _ _ ⟨he, hd⟩ => ⟨he, hd.below⟩
def contains_Right_1.f (l0 : List Int) : Option Bool := if l0.length ≤ 9223372036854775807 then some (l0.any pRight) else none
theorem contains_Right_1.calls (A0 : Option Addr) (c0 : Nat) (l0 : List Int) (r : Bool) (w : World) (hr0 : Kd.C (Kd.int .i64) w A0 l0.length l0) (hc0 : l0.length ≤ c0) (h : contains_Right_1.f l0 = some r) :
    Calls Try.prog 32 #[.slice A0 l0.length c0, .func (.func 33) #[] #[]] w fun e w' => e = .returned (.bool r) ∧ Below w.heap.size w w' := by
  unfold contains_Right_1.f at h
  by_cases hl : l0.length ≤ 9223372036854775807
  · rw [if_pos hl] at h
    exact containsInt.calls A0 c0 l0 r w hr0 hc0 hl enters33 (tellsRight l0 w) (Option.some.inj h)
  · rw [if_neg hl] at h
    exact absurd h (by simp)
end Go.Proofs.Ytoonheembcejfaa.PA

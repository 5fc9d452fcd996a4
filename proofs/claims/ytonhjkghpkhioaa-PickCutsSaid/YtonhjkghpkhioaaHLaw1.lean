/- Plain law, part 1: the order of strings; the loops of Level, ids, meet in plain words. No condition. -/
import Derived.Test.YtonhjkghpkhioaaPAx3
import Derived.Test.YtonhjkghpkhioaaPAx5
import Derived.Test.YtonhjkghpkhioaaPAx6
import Derived.Test.YtonhjkghpkhioaaPAx9
import Derived.Test.YtonhjkghpkhioaaPAx11
namespace Go.Proofs.Ytonhjkghpkhioaa.PA
open Go.RowKit Go.Proofs.YtonhjkghpkhioaaW.PrintWords Go.Proofs.YtonhjkghpkhioaaW.PrintLast Go.Proofs.YtonhjkghpkhioaaW.PrintMore
set_option linter.unusedVariables false
set_option linter.unusedSimpArgs false
/-! ### a list read by number -/
theorem rd48_nat (T : List S48) (i : Nat) : rd_T48 T (i : Int) = T.getD i z48 := rfl
theorem w64 (x : Int) (h : -9223372036854775808 ≤ x) (h' : x ≤ 9223372036854775807) : wrap64 x = x := by unfold wrap64; omega
theorem app1 {α : Type} (p : List α) (a : α) (t : List α) : p ++ a :: t = (p ++ [a]) ++ t := by simp
theorem len1 {α : Type} (p : List α) (a : α) : ((p ++ [a]).length : Int) = (p.length : Int) + 1 := by simp
/-! ### Level -/
/-! ### ids -/
/-! ### meet -/
end Go.Proofs.Ytonhjkghpkhioaa.PA

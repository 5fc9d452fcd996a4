/- How the arguments of chapter 16's laws lie in memory. No condition. -/
import Derived.Test.YtonhjkghpkhioaaHRead
import Derived.Test.YtonhjkghpkhioaaPAx0
import Derived.Lib.SmallJoins
namespace Go.Proofs.Ytonhjkghpkhioaa.PA
open Go.RowKit Go.Proofs.YtonhjkghpkhioaaW.PrintWords Go.Proofs.YtonhjkghpkhioaaW.PrintLast Go.Proofs.YtonhjkghpkhioaaW.PrintMore
set_option linter.unusedVariables false
set_option linter.unusedSimpArgs false
theorem cells3 : Try.prog.cellsOf 3 = 1 := by kernel_rfl
theorem cells4 : Try.prog.cellsOf 4 = 1 := by kernel_rfl
theorem cells9 : Try.prog.cellsOf 9 = 1 := by kernel_rfl
theorem cells45 : Try.prog.cellsOf 45 = 4 := by kernel_rfl
section
variable {H : Type} {enc : TypeId × Value → H} {w : World} {spare : Nat → Bool} {held : Bool}
def wf45 (a : S45) : Prop := (Lit.int .i64 a.f1).wf = true
theorem rd_45 : ∀ (fuel : Nat) (cs : List Value) (x : DataW H × List MemPlace), DataW.trod enc Try.prog w 0 spare held fuel 45 cs = some x → ∃ a : S45, k45.K w a cs ∧ wf45 a := by
  intro fuel cs x h
  obtain ⟨xs, n, rfl, _, hl, hxl, hf⟩ := DataW.trod_struct Try.underlying45 h
  rw [cells45] at hl
  have hxl : xs.length = 4 := hxl
  match cs, hl with
  | [c0, c1, c2, c3], _ =>
    match xs, hxl with
    | [y0, y1, y2, y3], _ =>
      have h0 := hf 0 _ rfl
      have h1 := hf 1 _ rfl
      have h2 := hf 2 _ rfl
      have h3 := hf 3 _ rfl
      simp only [cells3, cells4, cells9, List.drop_zero, List.drop_succ_cons, List.take_succ_cons, List.take_zero, List.getElem?_cons_zero, List.getElem?_cons_succ] at h0 h1 h2 h3
      obtain ⟨n0, e0, w0⟩ := rd_str Try.underlying9 h0
      obtain ⟨n1, e1, w1⟩ := rd_int Try.underlying3 h1
      obtain ⟨n2, e2⟩ := rd_bool Try.underlying4 h2
      obtain ⟨n3, e3, w3⟩ := rd_str Try.underlying9 h3
      injection e0 with e0
      injection e1 with e1
      injection e2 with e2
      injection e3 with e3
      subst e0 e1 e2 e3
      exact ⟨⟨n0, n1, n2, n3⟩, k45_mk w ⟨n0, n1, n2, n3⟩, w1⟩
end
end Go.Proofs.Ytonhjkghpkhioaa.PA

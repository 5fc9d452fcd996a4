/- How the arguments of chapter 14's laws lie in memory. No condition. -/
import Derived.Test.YtoonheembcejfaaHRead
import Derived.Test.YtoonheembcejfaaHLawA
import Derived.Lib.SmallJoins
import Derived.WalkKit
import Derived.ProofKit
import Derived.OpenShut
import Derived.ShutString
import Derived.ChangeOld
import Derived.Below
import Derived.SizedLaws
import Derived.Carry
namespace Go.Proofs.Ytoonheembcejfaa.PA
open Go.RowKit Go.Proofs.YtoonheembcejfaaW.PrintWords Go.Proofs.YtoonheembcejfaaW.PrintLast Go.Proofs.YtoonheembcejfaaW.PrintMore
set_option linter.unusedVariables false
set_option linter.unusedSimpArgs false
theorem cells3 : Try.prog.cellsOf 3 = 1 := by kernel_rfl
theorem cells9 : Try.prog.cellsOf 9 = 1 := by kernel_rfl
theorem cells35 : Try.prog.cellsOf 35 = 5 := by kernel_rfl
section
variable {H : Type} {enc : TypeId × Value → H} {w : World} {spare : Nat → Bool} {held : Bool}
set_option maxRecDepth 100000 in
theorem rd_35 : ∀ (fuel : Nat) (cs : List Value) (x : DataW H × List MemPlace), DataW.trod enc Try.prog w 0 spare held fuel 35 cs = some x → ∃ a : S35, k35.K w a cs ∧ wf35 a := by
  intro fuel cs x h
  obtain ⟨xs, n, rfl, _, hl, hxl, hf⟩ := DataW.trod_struct Try.underlying35 h
  rw [cells35] at hl
  have hxl : xs.length = 5 := hxl
  match cs, hl with
  | [c0, c1, c2, c3, c4], _ =>
    match xs, hxl with
    | [y0, y1, y2, y3, y4], _ =>
      have h0 := hf 0 _ rfl
      have h1 := hf 1 _ rfl
      have h2 := hf 2 _ rfl
      have h3 := hf 3 _ rfl
      have h4 := hf 4 _ rfl
      simp only [cells3, cells9, List.drop_zero, List.drop_succ_cons, List.take_succ_cons, List.take_zero, List.getElem?_cons_zero, List.getElem?_cons_succ] at h0 h1 h2 h3 h4
      obtain ⟨n0, e0, w0⟩ := rd_int Try.underlying3 h0
      obtain ⟨n1, e1, w1⟩ := rd_int Try.underlying3 h1
      obtain ⟨n2, e2, w2⟩ := rd_str Try.underlying9 h2
      obtain ⟨n3, e3, w3⟩ := rd_str Try.underlying9 h3
      obtain ⟨n4, e4, w4⟩ := rd_int Try.underlying3 h4
      injection e0 with e0
      injection e1 with e1
      injection e2 with e2
      injection e3 with e3
      injection e4 with e4
      subst e0 e1 e2 e3 e4
      exact ⟨⟨n0, n1, n2, n3, n4⟩, k35_mk w ⟨n0, n1, n2, n3, n4⟩, w0, w1, w4⟩
/-- A number's cells. -/
theorem rd_int_K {T : TypeId} {k : IntKind} (hu : Try.prog.underlying T = some (.int k)) : ∀ (fuel : Nat) (cs : List Value) (x : DataW H × List MemPlace), DataW.trod enc Try.prog w 0 spare held fuel T cs = some x → ∃ a : Int, (Kd.int k).K w a cs ∧ (Lit.int k a).wf = true := by
  intro fuel cs x h
  obtain ⟨n, rfl, hw⟩ := rd_int hu h
  exact ⟨n, rfl, hw⟩
end
section
open Go.ChangeShapes Go.WideShapes Go.ChangeAt
set_option maxRecDepth 100000 in
/-- What a version that came in holds. -/
theorem version_reads {H : Type} {enc : TypeId × Value → H} {W : World} {r : Reach} {b : Nat} {v : Value} {d : DataW H} {p : List MemPlace} (hv : Value.okWide Try.prog W r b 25 v) (h : DataW.Trod enc Try.prog W 0 (fun _ => true) true 25 v d p) :
    ∃ A0 c0 l0 A1 c1 l1 n, v = .agg #[.slice A0 l0.length c0, .slice A1 l1.length c1, .int .i64 n] ∧ Kd.C k35 W A0 l0.length l0 ∧ l0.length ≤ c0 ∧ Kd.C (Kd.int .i64) W A1 l1.length l1 ∧ l1.length ≤ c1 ∧ (∀ a ∈ l0, wf35 a) ∧ wfI l1 = true := by
  obtain ⟨v0, v1, v2, y0, y1, y2, n, rfl, _, _, h0, h1, h2⟩ := Go.Joins.open_agg3 Try.underlying25 (by kernel_rfl) (by kernel_rfl) hv h
  obtain ⟨A0, c0, l0, e0, hc0, _, hK0, hG0⟩ := rd_slice (d := k35) (G := wf35) Try.underlying22 (by kernel_rfl) rd_35 h0
  obtain ⟨A1, c1, l1, e1, hc1, _, hK1, hG1⟩ := rd_slice (d := Kd.int .i64) (G := fun a => (Lit.int .i64 a).wf = true) Try.underlying23 (by kernel_rfl) (rd_int_K Try.underlying3) h1
  obtain ⟨m, e2, _⟩ := rd_int Try.underlying3 h2
  injection e0 with e0
  injection e1 with e1
  injection e2 with e2
  subst e0 e1 e2
  exact ⟨A0, c0, l0, A1, c1, l1, m, rfl, hK0, hc0, hK1, hc1, hG0, by unfold wfI; rw [List.all_eq_true]; exact hG1⟩
end
end Go.Proofs.Ytoonheembcejfaa.PA

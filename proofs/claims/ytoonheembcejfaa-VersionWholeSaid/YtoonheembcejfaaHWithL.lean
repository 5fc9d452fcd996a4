/- version.without in plain words; a map made with a size, as an event. No condition. -/
import Derived.Test.YtoonheembcejfaaHClos
import Derived.Test.YtoonheembcejfaaHTwice
namespace Go.Proofs.Ytoonheembcejfaa.PA
open Go.RowKit Go.Proofs.YtoonheembcejfaaW.PrintWords Go.Proofs.YtoonheembcejfaaW.PrintLast Go.Proofs.YtoonheembcejfaaW.PrintMore
set_option linter.unusedVariables false
set_option linter.unusedSimpArgs false
/-- Is each number of a list there, and none twice (S: those seen so far)? -/
def wLoop (ids : List Int) : List Int → List Int → Bool
  | _, [] => true
  | S, y :: r => if y ∈ S then false else if y ∈ ids then wLoop ids (y :: S) r else false
theorem any_eq {α : Type} (f : α → Int) (l : List α) (y : Int) : l.any (fun x => f x == y) = decide (y ∈ l.map f) := by
  rw [Bool.eq_iff_iff]
  simp
theorem size95 : (Try.prog.info? 95).map (·.size) = some 1 := by kernel_rfl
section
variable {P : Program} {ops : Array Oper} {rest : List Oper} {o : Oper} {a : Act} {Q : Exit → Act → World → Prop}
/-- make(map[int]bool, n). -/
theorem map_event {W : World} (kT eT : TypeId) (hgd : o.guard = none) {N : Tmp} (_hd : o.dst = some N) {t : TypeId} {r : Operand} (ho : o.op = .makeMap t (some r)) (ht : P.underlying t = some (.map kT eT)) {n : Int} (hr : a.eval r = .int .i64 n)
    (h : ∀ bm, bm = W.heap.size → ∀ w1, BSet P kT eT w1 bm 0 [] → Below W.heap.size W w1 → bm < w1.heap.size → wpList P ops Q rest (a.put o.dst (.map (some bm))) w1) : wpList P ops Q (o :: rest) a W := by
  refine Kd.event_run hgd (v := .map (some W.heap.size)) (w1 := W.alloc (.map #[] 0)) ?_ (h _ rfl _ (BSet.made P kT eT W) (blA (Below.refl _ _) _) (by simp))
  unfold execOp
  simp [ho, hr, Instr.makeMap, run_underlying ht, asInt, asIntOf]
end
end Go.Proofs.Ytoonheembcejfaa.PA

/- Function values that answer a question of an element: what is asked of them; the plain functions of IndexFunc and DeleteFunc. No condition. -/
import Derived.Test.YtoonheembcejfaaPAx0
import Derived.Shelf.Abstract
namespace Go.Proofs.Ytoonheembcejfaa.PA
open Go.RowKit Go.Proofs.YtoonheembcejfaaW.PrintWords Go.Proofs.YtoonheembcejfaaW.PrintLast Go.Proofs.YtoonheembcejfaaW.PrintMore
set_option linter.unusedVariables false
set_option linter.unusedSimpArgs false
/-- Function g can be called. -/
def Enters (g : Nat) : Prop := ∀ (args : Array Value) (w : World), (callFunc g args).run Try.prog w = .ok (.enter g args) w
/-- Called at an element of which G holds, g (its captured variables: lb) answers p, in every world that came of w while one row was written. -/
def Tells {α : Type} (g : Nat) (lb : Array Value) (enc : α → Value) (p : α → Bool) (G : α → Prop) (w : World) (row : Option Nat) : Prop :=
  ∀ (x : α) (W : World), G x → w.grownBy W row → Calls Try.prog g (#[enc x] ++ lb) W fun e W' => e = .returned (.bool (p x)) ∧ Below W.heap.size W W'
theorem Tells.none {α : Type} {g : Nat} {lb : Array Value} {enc : α → Value} {p : α → Bool} {G : α → Prop} {w : World} {row : Option Nat} (h : Tells g lb enc p G w row) : Tells g lb enc p G w none :=
  fun x W hx hg => h x W hx ⟨hg.os, hg.tape, hg.output, hg.size, fun i hi _ => hg.block i hi (by simp)⟩
theorem Tells.imp {α : Type} {g : Nat} {lb : Array Value} {enc : α → Value} {p : α → Bool} {G G' : α → Prop} {w : World} {row : Option Nat} (h : Tells g lb enc p G w row) (hG : ∀ x, G' x → G x) : Tells g lb enc p G' w row :=
  fun x W hx hg => h x W (hG x hx) hg
/-- where the first element stands at which p is true; -1: nowhere -/
def idxA {α : Type} (p : α → Bool) : Int → List α → Int
  | _, [] => -1
  | i, x :: l => if p x = true then i else idxA p (i + 1) l
theorem idxA_any {α : Type} (p : α → Bool) (l : List α) : ∀ i : Int, 0 ≤ i → (decide (idxA p i l ≥ 0)) = l.any p := by
  induction l with
  | nil => intro i _; simp [idxA]
  | cons x l ih =>
    intro i hi
    unfold idxA
    by_cases h : p x = true
    · simp [h, hi]
    · rw [if_neg h, ih (i + 1) (by omega)]
      simp [h]
theorem idxA_none {α : Type} (p : α → Bool) (l : List α) : ∀ i : Int, 0 ≤ i → idxA p i l = -1 → l.filter (fun x => !p x) = l := by
  induction l with
  | nil => intro i _ _; rfl
  | cons x l ih =>
    intro i hi h
    unfold idxA at h
    by_cases hp : p x = true
    · rw [if_pos hp] at h; omega
    · rw [if_neg hp] at h
      rw [List.filter_cons_of_pos (by simpa using hp), ih (i + 1) (by omega) h]
theorem idxA_some {α : Type} (p : α → Bool) (l : List α) : ∀ i : Int, idxA p i l ≠ -1 → ∃ n : Nat, idxA p i l = i + n ∧ n < l.length ∧ (l.take n).filter (fun x => !p x) = l.take n ∧ (l.take (n + 1)).filter (fun x => !p x) = l.take n := by
  induction l with
  | nil => intro i h; exact absurd rfl h
  | cons x l ih =>
    intro i h
    unfold idxA at h ⊢
    by_cases hp : p x = true
    · rw [if_pos hp]
      exact ⟨0, by omega, by simp, by simp, by simp [hp]⟩
    · rw [if_neg hp] at h ⊢
      obtain ⟨n, h1, h2, h3, h4⟩ := ih (i + 1) h
      refine ⟨n + 1, by omega, by simpa using h2, ?_, ?_⟩
      · simp only [List.take_succ_cons]
        rw [List.filter_cons_of_pos (by simpa using hp), h3]
      · rw [show n + 1 + 1 = (n + 1) + 1 by rfl]
        simp only [List.take_succ_cons]
        rw [List.filter_cons_of_pos (by simpa using hp)]
        have := h4
        rw [this]
theorem getD_mem {α : Type} (l : List α) (i : Nat) (z : α) (h : i < l.length) : l.getD i z ∈ l := by
  rw [List.getD_eq_getElem?_getD, List.getElem?_eq_getElem h]
  exact List.getElem_mem _
theorem drop_getD {α : Type} (l : List α) (j : Nat) (z : α) (h : j < l.length) : l.drop j = l.getD j z :: l.drop (j + 1) := by
  rw [List.drop_eq_getElem_cons h]
  simp [List.getD_eq_getElem?_getD, List.getElem?_eq_getElem h]
/-- A table's value. -/
def enc35 (x : S35) : Value := .agg #[.int .i64 x.f0, .int .i64 x.f1, .string x.f2, .string x.f3, .int .i64 x.f4]
end Go.Proofs.Ytoonheembcejfaa.PA

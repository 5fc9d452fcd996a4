/- Words of this session: a map[int]bool that the call makes, as a set of numbers; the smaller and the greater of two strings; small movers. No condition of its own. -/
import Derived.Maps.OwnOps
import Derived.Maps.OwnSet
import Derived.Maps.Views
import Derived.Maps.Keyed
import Derived.WalkKit
import Derived.WalkLawsBesides
import Derived.KernelRfl
import Derived.Test.YtonhjkghpkhioaaWWords
import Derived.Test.YtonhjkghpkhioaaWLast
import Derived.Test.YtonhjkghpkhioaaWMore
namespace Go.Proofs.YtonhjkghpkhioaaW.PrintMore
open Go.RowKit Go.Proofs.YtonhjkghpkhioaaW.PrintWords Go.Proofs.YtonhjkghpkhioaaW.PrintLast
set_option linter.unusedVariables false
set_option linter.unusedSimpArgs false
/-- The smaller of two strings, as Go's min has it. -/
def smn (x y : ByteArray) : ByteArray := if (Op.bytesLess x.toList y.toList || x.toList == y.toList) then x else y
/-- The greater of two strings, as Go's max has it. -/
def smx (x y : ByteArray) : ByteArray := if Op.bytesLess x.toList y.toList then y else x
theorem min2_str (x y : ByteArray) : Builtin.min2 (.string x) (.string y) = pure (.string (smn x y)) := by
  simp [Builtin.min2, Op.stringOp, smn, asBool]
theorem max2_str (x y : ByteArray) : Builtin.max2 (.string x) (.string y) = pure (.string (smx x y)) := by
  simp [Builtin.max2, Op.stringOp, smx, asBool]
  cases Op.bytesLess x.toList y.toList <;> simp
attribute [go_sem] min2_str max2_str
/-- 'a <= b' is 'not b < a'. -/
theorem bytesLeq (x : List UInt8) : ∀ y, (Op.bytesLess x y || x == y) = !Op.bytesLess y x := by
  induction x with
  | nil => intro y; cases y <;> simp [Op.bytesLess]
  | cons a x ih =>
    intro y
    cases y with
    | nil => simp [Op.bytesLess]
    | cons b y =>
      simp only [Op.bytesLess]
      by_cases h : a = b
      · subst h
        have := ih y
        simp only [UInt8.lt_irrefl, decide_false, beq_self_eq_true, Bool.true_and, Bool.false_or]
        rw [← this]
        congr 1
        simp
      · have h1 : (a == b) = false := by simpa using h
        have h2 : (b == a) = false := by simpa using fun e => h e.symm
        have h3 : (a :: x == b :: y) = false := by simp [h]
        rw [h1, h2, h3]
        simp only [Bool.false_and, Bool.or_false]
        have : a.toNat ≠ b.toNat := fun e => h (UInt8.toNat_inj.mp e)
        by_cases h4 : a < b
        · have : ¬ b < a := by rw [UInt8.lt_iff_toNat_lt] at *; omega
          simp [h4, this]
        · have : b < a := by rw [UInt8.lt_iff_toNat_lt] at *; omega
          simp [h4, this]
theorem leq_str (t : TypeId) (a b : ByteArray) : binOp .leq t (.string a) (.string b) = pure (.bool (!Op.bytesLess b.toList a.toList)) := by
  rw [binOp_string_leq, bytesLeq]
theorem gtr_str (t : TypeId) (a b : ByteArray) : binOp .gtr t (.string a) (.string b) = pure (.bool (Op.bytesLess b.toList a.toList)) := by
  rw [binOp_string_gtr, bytesLeq]
  simp
attribute [go_sem high] leq_str gtr_str
/-- A map[int]bool of the call's own (block b) that is asked by 'm[x]': true at the numbers of S. -/
def BSet (P : Program) (kT eT : TypeId) (w : World) (b n : Nat) (S : List Int) : Prop :=
  ∃ D : DataW Unit, w.ownsMap P kT (plainElem P eT) b n D ∧ Maps.IsMap D ∧ ∀ x : Int, (Lit.int .i64 x).wf = true → D.atKey (.int .i64 x) (.lit (.bool false)) = .lit (.bool (decide (x ∈ S)))
namespace BSet
section
variable {P : Program} {kT eT t : TypeId} {w w1 : World} {b n : Nat} {S : List Int} {ops : Array Oper} {rest : List Oper} {o : Oper} {a : Act} {Q : Exit → Act → World → Prop}
theorem made (P : Program) (kT eT : TypeId) (w : World) : BSet P kT eT (w.alloc (.map #[] 0)) w.heap.size 0 [] :=
  ⟨.map [], World.ownsMap_made _ _ _ _, Maps.isMap_empty, fun _ _ => rfl⟩
theorem grown (h : BSet P kT eT w b n S) {row : Option Nat} (hg : w.grownBy w1 row) (hne : some b ≠ row) : BSet P kT eT w1 b n S := by
  obtain ⟨D, ho, hm, hs⟩ := h
  exact ⟨D, ho.kept hg hne, hm, hs⟩
theorem below (h : BSet P kT eT w b n S) (hb : Below w.heap.size w w1) : BSet P kT eT w1 b n S := h.grown (row := none) (grown_of_below hb none) (by simp)
theorem alloc (h : BSet P kT eT w b n S) (o : Obj) : BSet P kT eT (w.alloc o) b n S := by
  obtain ⟨D, ho, hm, hs⟩ := h
  exact ⟨D, ho.alloc o, hm, hs⟩
theorem plainElem_bool_inv {P : Program} {e : TypeId} (he : P.underlying e = some .bool) {v : Value} {z : DataW Unit × List MemPlace} (h : plainElem P e v = some z) : ∃ x, v = .bool x ∧ z = (.lit (.bool x), []) := by
  unfold plainElem at h
  rw [he] at h
  cases v <;> simp_all
theorem lookup (h : BSet P kT eT w b n S) (ht : P.underlying t = some (.map kT eT)) (hk : P.underlying kT = some (.int .i64)) (he : P.underlying eT = some .bool) (hz : (zeroValue eT).run P w = .ok (.bool false) w)
    {x : Int} (hx : (Lit.int .i64 x).wf = true) : (Instr.lookup t (.map (some b)) (.int .i64 x) false).run P w = .ok (.bool (decide (x ∈ S))) w := by
  obtain ⟨D, ho, hm, hs⟩ := h
  obtain ⟨v, ps, hrun, hv⟩ := ho.lookup (Maps.int_keyed hk) ht hz (plainElem_bool he false) (Maps.keyOf_int_mk hk hx)
  rw [hs x hx] at hv
  obtain ⟨y, rfl, hy⟩ := plainElem_bool_inv he hv
  simp only [Prod.mk.injEq, DataW.lit.injEq, Lit.bool.injEq] at hy
  rw [hy.1]
  exact hrun
/-- 'if m[x]', at the operation. -/
theorem look (h : BSet P kT eT w b n S) (hg : o.guard = none) (m x : Operand) (t : TypeId) (hop : o.op = Op.lookup t m x false) (ht : P.underlying t = some (.map kT eT)) (hk : P.underlying kT = some (.int .i64)) (he : P.underlying eT = some .bool) (hz : (zeroValue eT).run P w = .ok (.bool false) w)
    (hm : a.eval m = .map (some b)) (y : Int) (hx : a.eval x = .int .i64 y) (hy : (Lit.int .i64 y).wf = true) (bb : Bool) (hbb : decide (y ∈ S) = bb) (hK : wpList P ops Q rest (a.put o.dst (.bool bb)) w) : wpList P ops Q (o :: rest) a w := by
  refine wpList_plain hg fun K' hK' => ?_
  have hrun := h.lookup ht hk he hz hy
  rw [hbb] at hrun
  unfold Oper.wp
  simp [execOp, hop, hm, hx, hrun, Result.andThen]
  exact hK' _ _ hK
/-- 'm[x] = true', at the operation. -/
theorem put (h : BSet P kT eT w b n S) (hg : o.guard = none) (m x v : Operand) (t : TypeId) (hop : o.op = Op.mapUpdate t m x v) (ht : P.underlying t = some (.map kT eT)) (hk : P.underlying kT = some (.int .i64)) (he : P.underlying eT = some .bool)
    (hn : n < maxLen) (hm : a.eval m = .map (some b)) (y : Int) (hx : a.eval x = .int .i64 y) (hy : (Lit.int .i64 y).wf = true) (hv : a.eval v = .bool true)
    (hK : ∀ w', BSet P kT eT w' b (n + 1) (y :: S) → w.grownBy w' (some b) → wpList P ops Q rest (a.put o.dst undef) w') : wpList P ops Q (o :: rest) a w := by
  obtain ⟨D, ho, hD, hs⟩ := h
  refine wpList_mapUpdate_own w hg m x v t hop kT eT (Maps.int_keyed hk) ht (plainElem P eT) b n D hm ho hn _ _ (.int .i64 y) hx hv (Maps.keyOf_int_mk hk hy) _ [] (plainElem_bool he true) ?_
  intro w' ho' hg'
  refine hK w' ⟨_, ho', hD.put _ _, fun z hz => ?_⟩ hg'
  by_cases e : z = y
  · subst e
    rw [Maps.atKey_put_same hD (by simp [WideAt.IsKeyLit])]
    simp
  · rw [Maps.atKey_put_other (by simpa using e), hs z hz]
    simp [e]
end
end BSet
/-- 's[:j:j]'. -/
theorem cut_tom {P : Program} (t e : TypeId) (kh km : IntKind) {i : TypeInfo} (ht : P.underlying t = some (.slice e)) (hi : P.info? e = some i) (A : Option Addr) (n c : Nat) (j : Int) (h0 : 0 ≤ j) (hm : j ≤ c) :
    ∀ W : World, (Instr.slice t (.slice A n c) none (some (.int kh j)) (some (.int km j))).run P W = .ok (.slice A j.toNat j.toNat) W := by
  intro W
  have hel : P.elem t = e := by simp [Program.elem, ht]
  have hu : P.underlying t = some (.slice (P.elem t)) := by rw [hel]; exact ht
  have ha : (A.map fun x => x.add 0) = A := by cases A <;> simp [Addr.add]
  rw [run_slice_hm W t A n c hu kh km j j h0 (by omega) (by omega), hel]
  simp [sizeOf, typeInfo, hi, sliced, Result.andThen, ha]
/-- A kind by a mark: with the mark as d1 has it, without as d0 has it. -/
def flag {α : Type} (d0 d1 : Kd α) (h : d1.sz = d0.sz) : Kd (Bool × α) where
  sz := d0.sz
  E := d0.E ++ d1.E
  K := fun w x cs => if x.1 = true then d1.K w x.2 cs else d0.K w x.2 cs
  M := fun w base ok x cs => if x.1 = true then d1.M w base ok x.2 cs else d0.M w base ok x.2 cs
  K_len := by
    intro w x cs hk
    by_cases e : x.1 = true
    · rw [if_pos e] at hk; exact (d1.K_len hk).trans h
    · rw [if_neg e] at hk; exact d0.K_len hk
  K_one := by
    intro w x cs hk
    by_cases e : x.1 = true
    · rw [if_pos e] at hk; exact d1.K_one hk
    · rw [if_neg e] at hk; exact d0.K_one hk
  K_below := by
    intro w w1 x cs hb hk
    by_cases e : x.1 = true
    · rw [if_pos e] at hk ⊢; exact d1.K_below hb hk
    · rw [if_neg e] at hk ⊢; exact d0.K_below hb hk
  K_of_M := by
    intro w base ok x cs hk
    by_cases e : x.1 = true
    · rw [if_pos e] at hk ⊢; exact d1.K_of_M hk
    · rw [if_neg e] at hk ⊢; exact d0.K_of_M hk
  M_mono := by
    intro w base ok ok' x cs ho hk
    by_cases e : x.1 = true
    · rw [if_pos e] at hk ⊢; exact d1.M_mono ho hk
    · rw [if_neg e] at hk ⊢; exact d0.M_mono ho hk
  M_bound := by
    intro w base ok x cs hk
    by_cases e : x.1 = true
    · rw [if_pos e] at hk ⊢
      exact d1.M_mono (fun _ ⟨h1, h2, h3, q, hq, hc⟩ => ⟨h1, h2, h3, q, List.mem_append_right _ hq, hc⟩) (d1.M_bound hk)
    · rw [if_neg e] at hk ⊢
      exact d0.M_mono (fun _ ⟨h1, h2, h3, q, hq, hc⟩ => ⟨h1, h2, h3, q, List.mem_append_left _ hq, hc⟩) (d0.M_bound hk)
  M_move := by
    intro w w1 base ok x cs hm hk
    by_cases e : x.1 = true
    · rw [if_pos e] at hk ⊢; exact d1.M_move hm hk
    · rw [if_neg e] at hk ⊢; exact d0.M_move hm hk
  M_lower := by
    intro w base base' ok x cs hb hk
    by_cases e : x.1 = true
    · rw [if_pos e] at hk ⊢; exact d1.M_lower hb hk
    · rw [if_neg e] at hk ⊢; exact d0.M_lower hb hk
/-- Does a number stand twice? -/
def dupI : List Int → List Int → Bool
  | _, [] => false
  | S, x :: l => decide (x ∈ S) || dupI (x :: S) l
/-- Each is a number of 64 bits. -/
def wfI (l : List Int) : Bool := l.all fun x => (Lit.int .i64 x).wf
theorem wfI_at {l : List Int} (h : wfI l = true) (i : Int) (h0 : 0 ≤ i) (h1 : i < l.length) : (Lit.int .i64 (rd l i)).wf = true := by
  unfold wfI at h
  rw [List.all_eq_true] at h
  refine h _ ?_
  unfold rd
  rw [List.getD_eq_getElem?_getD, List.getElem?_eq_getElem (show i.toNat < l.length by omega)]
  exact List.getElem_mem _
end Go.Proofs.YtonhjkghpkhioaaW.PrintMore

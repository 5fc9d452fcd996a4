/- Words of this session: a map[int]bool that the call makes, as a set of numbers; the smaller and the greater of two strings; small movers. No condition of its own. -/
import Derived.Maps.OwnOps
import Derived.Maps.OwnSet
import Derived.Maps.Views
import Derived.Maps.Keyed
import Derived.WalkKit
import Derived.WalkLawsBesides
import Derived.KernelRfl
import Derived.Test.YtoonheembcejfaaWWords
import Derived.Test.YtoonheembcejfaaWLast
import Derived.Test.YtoonheembcejfaaWMore
namespace Go.Proofs.YtoonheembcejfaaW.PrintMore
open Go.RowKit Go.Proofs.YtoonheembcejfaaW.PrintWords Go.Proofs.YtoonheembcejfaaW.PrintLast
set_option linter.unusedVariables false
set_option linter.unusedSimpArgs false
/-- The smaller of two strings, as Go's min has it. -/
def smn (x y : ByteArray) : ByteArray := if (Op.bytesLess x.toList y.toList || x.toList == y.toList) then x else y
/-- The greater of two strings, as Go's max has it. -/
def smx (x y : ByteArray) : ByteArray := if Op.bytesLess x.toList y.toList then y else x
theorem min2_str (x y : ByteArray) : Builtin.min2 (.string x) (.string y) = pure (.string (smn x y)) := by
  simp [Builtin.min2, Op.stringOp, smn, asBool]
theorem max2_str (x y : ByteArray) : Builtin.max2 (.string x) (.string y) = pure (.string (smx x y)) := by
  simp [Builtin.max2, Op.stringOp, smx, asBool]
  cases Op.bytesLess x.toList y.toList <;> simp
attribute [go_sem] min2_str max2_str
/-- 'a <= b' is 'not b < a'. -/
theorem bytesLeq (x : List UInt8) : ∀ y, (Op.bytesLess x y || x == y) = !Op.bytesLess y x := by
  induction x with
  | nil => intro y; cases y <;> simp [Op.bytesLess]
  | cons a x ih =>
    intro y
    cases y with
    | nil => simp [Op.bytesLess]
    | cons b y =>
      simp only [Op.bytesLess]
      by_cases h : a = b
      · subst h
        have := ih y
        simp only [UInt8.lt_irrefl, decide_false, beq_self_eq_true, Bool.true_and, Bool.false_or]
        rw [← this]
        congr 1
        simp
      · have h1 : (a == b) = false := by simpa using h
        have h2 : (b == a) = false := by simpa using fun e => h e.symm
        have h3 : (a :: x == b :: y) = false := by simp [h]
        rw [h1, h2, h3]
        simp only [Bool.false_and, Bool.or_false]
        have : a.toNat ≠ b.toNat := fun e => h (UInt8.toNat_inj.mp e)
        by_cases h4 : a < b
        · have : ¬ b < a := by rw [UInt8.lt_iff_toNat_lt] at *; omega
          simp [h4, this]
        · have : b < a := by rw [UInt8.lt_iff_toNat_lt] at *; omega
          simp [h4, this]
theorem leq_str (t : TypeId) (a b : ByteArray) : binOp .leq t (.string a) (.string b) = pure (.bool (!Op.bytesLess b.toList a.toList)) := by
  rw [binOp_string_leq, bytesLeq]
theorem gtr_str (t : TypeId) (a b : ByteArray) : binOp .gtr t (.string a) (.string b) = pure (.bool (Op.bytesLess b.toList a.toList)) := by
  rw [binOp_string_gtr, bytesLeq]
  simp
attribute [go_sem high] leq_str gtr_str
/-- A map[int]bool of the call's own (block b) that is asked by 'm[x]': true at the numbers of S. -/
def BSet (P : Program) (kT eT : TypeId) (w : World) (b n : Nat) (S : List Int) : Prop :=
  ∃ D : DataW Unit, w.ownsMap P kT (plainElem P eT) b n D ∧ Maps.IsMap D ∧ ∀ x : Int, (Lit.int .i64 x).wf = true → D.atKey (.int .i64 x) (.lit (.bool false)) = .lit (.bool (decide (x ∈ S)))
namespace BSet
section
variable {P : Program} {kT eT t : TypeId} {w w1 : World} {b n : Nat} {S : List Int} {ops : Array Oper} {rest : List Oper} {o : Oper} {a : Act} {Q : Exit → Act → World → Prop}
theorem made (P : Program) (kT eT : TypeId) (w : World) : BSet P kT eT (w.alloc (.map #[] 0)) w.heap.size 0 [] :=
  ⟨.map [], World.ownsMap_made _ _ _ _, Maps.isMap_empty, fun _ _ => rfl⟩
theorem grown (h : BSet P kT eT w b n S) {row : Option Nat} (hg : w.grownBy w1 row) (hne : some b ≠ row) : BSet P kT eT w1 b n S := by
  obtain ⟨D, ho, hm, hs⟩ := h
  exact ⟨D, ho.kept hg hne, hm, hs⟩
theorem below (h : BSet P kT eT w b n S) (hb : Below w.heap.size w w1) : BSet P kT eT w1 b n S := h.grown (row := none) (grown_of_below hb none) (by simp)
theorem alloc (h : BSet P kT eT w b n S) (o : Obj) : BSet P kT eT (w.alloc o) b n S := by
  obtain ⟨D, ho, hm, hs⟩ := h
  exact ⟨D, ho.alloc o, hm, hs⟩
theorem plainElem_bool_inv {P : Program} {e : TypeId} (he : P.underlying e = some .bool) {v : Value} {z : DataW Unit × List MemPlace} (h : plainElem P e v = some z) : ∃ x, v = .bool x ∧ z = (.lit (.bool x), []) := by
  unfold plainElem at h
  rw [he] at h
  cases v <;> simp_all
theorem lookup (h : BSet P kT eT w b n S) (ht : P.underlying t = some (.map kT eT)) (hk : P.underlying kT = some (.int .i64)) (he : P.underlying eT = some .bool) (hz : (zeroValue eT).run P w = .ok (.bool false) w)
    {x : Int} (hx : (Lit.int .i64 x).wf = true) : (Instr.lookup t (.map (some b)) (.int .i64 x) false).run P w = .ok (.bool (decide (x ∈ S))) w := by
  obtain ⟨D, ho, hm, hs⟩ := h
  obtain ⟨v, ps, hrun, hv⟩ := ho.lookup (Maps.int_keyed hk) ht hz (plainElem_bool he false) (Maps.keyOf_int_mk hk hx)
  rw [hs x hx] at hv
  obtain ⟨y, rfl, hy⟩ := plainElem_bool_inv he hv
  simp only [Prod.mk.injEq, DataW.lit.injEq, Lit.bool.injEq] at hy
  rw [hy.1]
  exact hrun
/-- 'if m[x]', at the operation. -/
theorem look (h : BSet P kT eT w b n S) (hg : o.guard = none) (m x : Operand) (t : TypeId) (hop : o.op = Op.lookup t m x false) (ht : P.underlying t = some (.map kT eT)) (hk : P.underlying kT = some (.int .i64)) (he : P.underlying eT = some .bool) (hz : (zeroValue eT).run P w = .ok (.bool false) w)
    (hm : a.eval m = .map (some b)) (y : Int) (hx : a.eval x = .int .i64 y) (hy : (Lit.int .i64 y).wf = true) (bb : Bool) (hbb : decide (y ∈ S) = bb) (hK : wpList P ops Q rest (a.put o.dst (.bool bb)) w) : wpList P ops Q (o :: rest) a w := by
  refine wpList_plain hg fun K' hK' => ?_
  have hrun := h.lookup ht hk he hz hy
  rw [hbb] at hrun
  unfold Oper.wp
  simp [execOp, hop, hm, hx, hrun, Result.andThen]
  exact hK' _ _ hK
/-- 'm[x] = true', at the operation. -/
theorem put (h : BSet P kT eT w b n S) (hg : o.guard = none) (m x v : Operand) (t : TypeId) (hop : o.op = Op.mapUpdate t m x v) (ht : P.underlying t = some (.map kT eT)) (hk : P.underlying kT = some (.int .i64)) (he : P.underlying eT = some .bool)
    (hn : n < maxLen) (hm : a.eval m = .map (some b)) (y : Int) (hx : a.eval x = .int .i64 y) (hy : (Lit.int .i64 y).wf = true) (hv : a.eval v = .bool true)
    (hK : ∀ w', BSet P kT eT w' b (n + 1) (y :: S) → w.grownBy w' (some b) → wpList P ops Q rest (a.put o.dst undef) w') : wpList P ops Q (o :: rest) a w := by
  obtain ⟨D, ho, hD, hs⟩ := h
  refine wpList_mapUpdate_own w hg m x v t hop kT eT (Maps.int_keyed hk) ht (plainElem P eT) b n D hm ho hn _ _ (.int .i64 y) hx hv (Maps.keyOf_int_mk hk hy) _ [] (plainElem_bool he true) ?_
  intro w' ho' hg'
  refine hK w' ⟨_, ho', hD.put _ _, fun z hz => ?_⟩ hg'
  by_cases e : z = y
  · subst e
    rw [Maps.atKey_put_same hD (by simp [WideAt.IsKeyLit])]
    simp
  · rw [Maps.atKey_put_other (by simpa using e), hs z hz]
    simp [e]
end
end BSet
/-- Does a number stand twice? -/
def dupI : List Int → List Int → Bool
  | _, [] => false
  | S, x :: l => decide (x ∈ S) || dupI (x :: S) l
section
variable {P : Program} {ops : Array Oper} {Q : Exit → Act → World → Prop}
theorem ones_ {seg : List Value} (h : seg.all (fun q => q.oneCell') = true) : ∀ q ∈ seg, q.oneCell' = true := List.all_eq_true.1 h
theorem info_size {e : TypeId} {z : Value} {k b : Nat} (h : (P.info? e).map (fun i => (i.zero, i.size, i.bytes)) = some (some z, k, b)) : (P.info? e).map (·.size) = some k := by
  obtain ⟨i1, hi1, h1⟩ := Option.map_eq_some_iff.1 h
  simp only [Prod.mk.injEq] at h1
  rw [hi1]
  simp [h1.2.1]
/-- A store into an element of a row of one's own, at the operation. -/
theorem R_skip {α : Type} {d : Kd α} {oi : Oper} {a : Act} {W : World} {base e g n cap o' : Nat} {ok : Nat → Prop} {xs : List α} {i : Int} {j : Nat} {t : TypeId} {p x : Operand} {u : Value} {seg : List Value}
    (ho : oi.op = .store t p x) (haddr : a.eval p = .pointer (some ⟨g, o', none⟩)) (hoff : o' = i.toNat * d.sz + j) (hx : a.eval x = u) (hu : u.cells.toList = seg) (ht : (P.info? t).map (·.size) = some seg.length) (h1 : ∀ q ∈ seg, q.oneCell' = true)
    (HO : d.R e W base ok (.slice (some ⟨g, 0, none⟩) n cap) xs) (h0 : 0 ≤ i) (hi : i < n) (hj : j + seg.length ≤ d.sz) : (execOp a.eval oi).run P W = .ok .skip (W.setCells g (i.toNat * d.sz + j) seg) := by
  subst hoff
  have hnx : n = xs.length := (Kd.R_reads' HO).1
  obtain ⟨_, inner, hown, hr⟩ := HO
  have hil : i.toNat < n := by omega
  have hrun : (Instr.storeAt t (.pointer (some ⟨g, i.toNat * d.sz + j, none⟩)) u).run P W = .ok () (W.setCells g (i.toNat * d.sz + j) seg) := by
    rcases hown.2 with ⟨hv, _⟩ | ⟨g', cap', cur, hv, hb, hh, hnc, hcm, hcs, _⟩
    · cases hv
    injection hv with ha _ hc
    injection ha with ha
    injection ha with hg'
    subst hg'; subst hc
    refine run_store_run t u seg hh hu ht ?_ h1
    have h2 : i.toNat * d.sz + d.sz ≤ n * d.sz := by rw [← Nat.succ_mul]; exact Nat.mul_le_mul_right _ hil
    have h3 : n * d.sz ≤ cap * d.sz := Nat.mul_le_mul_right _ (by omega)
    omega
  unfold execOp
  simp only [ho, haddr, hx, Sem.run_bind, Sem.run_pure, Result.andThen_ok, hrun]
/-- The same, as one step of a region. -/
theorem row_skip {α : Type} (d : Kd α) {oi : Oper} {a : Act} {W : World} {K : Act → World → Prop} {base e g n cap o' : Nat} {ok : Nat → Prop} {xs : List α} (i : Int) (j : Nat) {t : TypeId} {p x : Operand} {u : Value} (seg : List Value)
    (hw : Region.wanted oi (yielded ops a.tmps) = true) (hN : oi.dst = none) (ho : oi.op = .store t p x) (haddr : a.eval p = .pointer (some ⟨g, o', none⟩)) (hoff : o' = i.toNat * d.sz + j) (hx : a.eval x = u) (hu : u.cells.toList = seg) (ht : (P.info? t).map (·.size) = some seg.length) (h1 : seg.all (fun q => q.oneCell') = true)
    (HO : d.R e W base ok (.slice (some ⟨g, 0, none⟩) n cap) xs) (h0 : 0 ≤ i) (hi : i < n) (hj : j + seg.length ≤ d.sz) (h : ∀ w1, W.setCells g o' seg = w1 → W.grownBy w1 (some g) → K a w1) : if Region.wanted oi (yielded ops a.tmps) = true then Oper.wp P oi a W K Q else K (a.put none undef) W :=
  skip_ hw hN (R_skip ho haddr hoff hx hu ht (ones_ h1) HO h0 hi hj) (by
    rw [← hoff]
    obtain ⟨s1, s2, s3, s4⟩ := setCells_same g seg o' W
    exact h _ rfl ⟨s1, s2, s3, by rw [s4]; exact Nat.le_refl _, fun k _ hk => setCells_far seg o' k (fun he => hk (by rw [he]))⟩)
/-- A call by a function value of which the function is known, as one step of a region. -/
theorem goesT_ {oi : Oper} {N : Option Tmp} {a : Act} {w : World} {K : Act → World → Prop} {f : FuncId} {fn : Func} {v : Operand} {as : Array Operand} {ts : Array TypeId} (hf : P.funcs[f]? = some fn) (hname : (fn.name == "runtime.NumGoroutine") = false) (hb : fn.body.isSome = true) (args : Array Value)
    (hw : Region.wanted oi (yielded ops a.tmps) = true) (hN : oi.dst = N) (hop : oi.op = .call { callee := .value v, args := as, argTypes := ts } ∧ a.eval v = .func (.func f) #[] #[]) (hargs : as.map a.eval = args)
    (h : Calls P f args w fun e w' => ∃ v, e = .returned v ∧ K (a.put N v) w') : if Region.wanted oi (yielded ops a.tmps) = true then Oper.wp P oi a w K Q else K (a.put N undef) w := by
  refine call_ f args hw hN ?_ h
  have he := enters_ hf hname hb args w
  unfold execOp
  simp [hop.1, hop.2, resolve, Deferred.ofValue, invoke, hargs, he]
end
/-- Each is a number of 64 bits. -/
def wfI (l : List Int) : Bool := l.all fun x => (Lit.int .i64 x).wf
theorem wfI_at {l : List Int} (h : wfI l = true) (i : Int) (h0 : 0 ≤ i) (h1 : i < l.length) : (Lit.int .i64 (rd l i)).wf = true := by
  unfold wfI at h
  rw [List.all_eq_true] at h
  refine h _ ?_
  unfold rd
  rw [List.getD_eq_getElem?_getD, List.getElem?_eq_getElem (show i.toNat < l.length by omega)]
  exact List.getElem_mem _
end Go.Proofs.YtoonheembcejfaaW.PrintMore

/- clear(s[i:]) on elements of several cells, and what it leaves of a row of one's own. No condition. -/
import Derived.Test.YtoonheembcejfaaHPred
import Derived.Lib.SliceRun
namespace Go.Proofs.Ytoonheembcejfaa.PA
open Go.RowKit Go.Proofs.YtoonheembcejfaaW.PrintWords Go.Proofs.YtoonheembcejfaaW.PrintLast Go.Proofs.YtoonheembcejfaaW.PrintMore
set_option linter.unusedVariables false
set_option linter.unusedSimpArgs false
theorem zeroCells_len (z : Array Value) (n : Nat) : (Builtin.zeroCells z n).toList.length = n * z.size := by
  simp [Builtin.zeroCells]
theorem zeroCells_one (z : Array Value) (n : Nat) (h0 : 0 < z.size) (h : ∀ u ∈ z.toList, u.oneCell' = true) : ∀ u ∈ (Builtin.zeroCells z n).toList, u.oneCell' = true := by
  intro u hu
  simp only [Builtin.zeroCells, Array.toList_map, Array.toList_range, List.mem_map, List.mem_range] at hu
  obtain ⟨i, hi, rfl⟩ := hu
  have hlt : i % z.size < z.size := Nat.mod_lt _ h0
  rw [getElem!_pos z (i % z.size) hlt]
  exact h _ (by rw [← Array.getElem_toList]; exact List.getElem_mem _)
theorem run_clear_cells {P : Program} (w : World) (t e ty : TypeId) (z : Value) (ht : P.underlying t = some (.slice e)) (hv : ∀ w, (zeroValue e).run P w = .ok z w) (h0 : 0 < z.cells.size) (h1 : ∀ u ∈ z.cells.toList, u.oneCell' = true) (b o n c : Nat) (hn : 0 < n)
    (hc : ∀ j, j < n * z.cells.size → (w.cell? ⟨b, o + j, none⟩).isSome = true) (hf : ∀ j, j < n * z.cells.size → w.frozen? ⟨b, o + j, none⟩ = false) :
    (Builtin.clear_ #[t] ty #[.slice (some ⟨b, o, none⟩) n c]).run P w = .ok (.tuple #[]) (w.setCells b o (Builtin.zeroCells z.cells n).toList) := by
  have hst := run_storeCells_cells (P := P) b o (Builtin.zeroCells z.cells n).toList 0 w (by rw [zeroCells_len]; simpa using hc) (by rw [zeroCells_len]; simpa using hf) (zeroCells_one _ _ h0 h1)
  simp only [Nat.add_zero] at hst
  obtain ⟨m, rfl⟩ : ∃ m, n = m + 1 := ⟨n - 1, by omega⟩
  simp [Builtin.clear_, run_underlying ht, hv, hst]
theorem R_cut_clear {α : Type} {d : Kd α} {e g n cap base : Nat} {ok : Nat → Prop} {W : World} {xs : List α} (h : d.R e W base ok (.slice (some ⟨g, 0, none⟩) n cap) xs) (i : Nat) (hi : i < n) :
    (∀ j, j < (n - i) * d.sz → (W.cell? ⟨g, i * d.sz + j, none⟩).isSome = true) ∧ (∀ j, W.frozen? ⟨g, i * d.sz + j, none⟩ = false) ∧
    ∀ seg : List Value, seg.length = (n - i) * d.sz → d.R e (W.setCells g (i * d.sz) seg) base ok (.slice (some ⟨g, 0, none⟩) i cap) (xs.take i) ∧ W.grownBy (W.setCells g (i * d.sz) seg) (some g) := by
  have hn : n = xs.length := (Kd.R_reads' h).1
  have ht := Kd.R_take h (m := i) (by omega)
  obtain ⟨hok, inner, ho, hr⟩ := ht
  obtain ⟨_, inner0, ho0, _⟩ := h
  rcases ho0.2 with ⟨hv, _⟩ | ⟨g0, cap0, cur0, hv, hb0, hh0, hnc0, hcm0, hcs0, ht0⟩
  · cases hv
  injection hv with ha hx hc
  injection ha with ha
  injection ha with hg
  subst hg; subst hc
  have hsz : i * d.sz + (n - i) * d.sz ≤ cap * d.sz := by
    rw [← Nat.add_mul]
    exact Nat.mul_le_mul_right _ (by omega)
  refine ⟨fun j hj => ?_, fun j => bfz hh0 _, fun seg hl => ?_⟩
  · rw [bcl hh0]
    rw [Array.getElem?_eq_getElem (show i * d.sz + j < cur0.size by omega)]
    rfl
  · obtain ⟨cur', h3, h4, h5⟩ := setCells_row seg (i * d.sz) W cur0 hh0 (by omega)
    obtain ⟨s1, s2, s3, s4⟩ := setCells_same g seg (i * d.sz) W
    have hfar : ∀ k, k ≠ g → (W.setCells g (i * d.sz) seg).heap[k]? = W.heap[k]? := fun k hk => setCells_far seg _ k hk
    have hlen : (xs.take i).length = i := by rw [List.length_take]; omega
    refine ⟨⟨hok, inner, ⟨ho.1, ?_⟩, ?_⟩, ⟨s1, s2, s3, by rw [s4]; exact Nat.le_refl _, fun k _ hk => hfar k (fun he => hk (by rw [he]))⟩⟩
    · rcases ho.2 with ⟨hv, _⟩ | ⟨g1, cap1, cur1, hv1, hb1, hh1, hnc1, hcm1, hcs1, ht1⟩
      · cases hv
      injection hv1 with ha1 hx1 hc1
      injection ha1 with ha1
      injection ha1 with hg1
      subst hg1; subst hc1
      rw [hh0] at hh1
      injection hh1 with hh1
      injection hh1 with hh1 _ _
      subst hh1
      refine .inr ⟨g, cap, cur', by rw [hlen], hb1, h3, by rw [hlen]; omega, hcm1, by rw [h4, hcs1], ?_⟩
      rw [← ht1, h5, hlen, List.append_assoc, List.take_append_of_le_length (by rw [List.length_take, Array.length_toList]; omega), List.take_take, Nat.min_self]
    · refine hr.imp_ (fun p c hp => d.M_move (fun k hk => hfar k (fun he => hk.2 ?_)) hp)
      subst he
      simp [Value.ownBlock]
section
variable {P : Program} {ops : Array Oper} {rest : List Oper} {o : Oper} {a : Act} {Q : Exit → Act → World → Prop}
/-- A store that fills a box. -/
theorem fill_event {W : World} (hgd : o.guard = none) (hN : o.dst = none) {t : TypeId} {p : Tmp} {v : Operand} (ho : o.op = .store t (.tmp p) v) {g : Nat} {e : TypeId} {cur : Array Value} {u : Value} {seg : List Value}
    (hp : a.eval (.tmp p) = .pointer (some ⟨g, 0, none⟩)) (hv : a.eval v = u) (hu : u.cells.toList = seg) (ht : (P.info? t).map (·.size) = some seg.length) (hh : W.heap[g]? = some (.cells cur e (0, 0))) (hcur : cur.size = seg.length) (h1 : ∀ q ∈ seg, q.oneCell' = true)
    (h : ∀ w1, w1.heap[g]? = some (.cells seg.toArray e (0, 0)) → W.grownBy w1 (some g) → wpList P ops Q rest a w1) : wpList P ops Q (o :: rest) a W := by
  have hrun := run_store_run (P := P) (o := 0) t u seg hh hu ht (by omega) h1
  refine wpList_plain hgd fun K hK => ?_
  unfold Oper.wp execOp
  simp only [ho, hp, hv, Sem.run_bind, Sem.run_pure, Result.andThen_ok, hrun]
  show K (a.put o.dst undef) _
  rw [hN]
  obtain ⟨cur', h3, h4, h5⟩ := setCells_row seg 0 W cur hh (by omega)
  obtain ⟨s1, s2, s3, s4⟩ := setCells_same g seg 0 W
  refine hK a _ (h _ ?_ ⟨s1, s2, s3, by rw [s4]; exact Nat.le_refl _, fun k _ hk => setCells_far seg 0 k (fun he => hk (by rw [he]))⟩)
  rw [h3]
  have : cur' = seg.toArray := by
    apply Array.toList_inj.1
    rw [h5, List.take_zero, List.nil_append, Nat.zero_add, List.drop_of_length_le (by rw [Array.length_toList]; omega), List.append_nil]
  rw [this]
end
theorem below_fill {w w1 w2 : World} {g : Nat} (h : Below w.heap.size w w1) (hg : w1.grownBy w2 (some g)) (hge : w.heap.size ≤ g) : Below w.heap.size w w2 :=
  h.grown hg h.size (fun k hk => by injection hk with hk; omega)
theorem grown_below {w w1 w2 : World} {row : Option Nat} (h : w.grownBy w1 row) (hb : Below w1.heap.size w1 w2) : w.grownBy w2 row := h.trans (grown_of_below hb row)
end Go.Proofs.Ytoonheembcejfaa.PA

/- How an argument that can be read as data lies in memory, kind by kind: what a row's proof hands to the walk. No condition. -/
import Derived.Deep.Slices
import Derived.ChangeArms
import Derived.DataReads
import Derived.Test.YtoonheembcejfaaWWords
namespace Go.Proofs.YtoonheembcejfaaW.PrintMore
open Go.RowKit Go.Proofs.YtoonheembcejfaaW.PrintWords
set_option linter.unusedVariables false
set_option linter.unusedSimpArgs false
section
variable {H : Type} {enc : TypeId × Value → H} {P : Program} {w : World} {spare : Nat → Bool} {held : Bool} {α : Type}
theorem rd_int {T : TypeId} {k : IntKind} {fuel : Nat} {cs : List Value} {x : DataW H × List MemPlace} (hu : P.underlying T = some (.int k)) (h : DataW.trod enc P w 0 spare held fuel T cs = some x) : ∃ n, cs = [.int k n] ∧ (Lit.int k n).wf = true := by
  obtain ⟨n, h1, _, h3⟩ := DataW.trod_int hu h
  exact ⟨n, h1, h3⟩
theorem rd_str {T : TypeId} {fuel : Nat} {cs : List Value} {x : DataW H × List MemPlace} (hu : P.underlying T = some .string) (h : DataW.trod enc P w 0 spare held fuel T cs = some x) : ∃ s, cs = [.string s] ∧ s.size ≤ maxLen := by
  obtain ⟨n, h1, _, h3⟩ := DataW.trod_string hu h
  exact ⟨n, h1, h3⟩
theorem rd_slice {d : Kd α} {G : α → Prop} {T e : TypeId} (hu : P.underlying T = some (.slice e)) (hsz : P.cellsOf e = d.sz) (hel : ∀ n cs x, DataW.trod enc P w 0 spare held n e cs = some x → ∃ a, d.K w a cs ∧ G a)
    {fuel : Nat} {cs : List Value} {x : DataW H × List MemPlace} (h : DataW.trod enc P w 0 spare held fuel T cs = some x) :
    ∃ A c xs, cs = [.slice A xs.length c] ∧ xs.length ≤ c ∧ c ≤ maxLen ∧ d.C w A xs.length xs ∧ ∀ a ∈ xs, G a := by
  rcases Deep.open_slice hu h with ⟨rfl, _⟩ | ⟨a, len, cap, m, n, D, Pl, rfl, hb, hl, hm, hmm, rfl, hx⟩
  · exact ⟨none, 0, [], rfl, Nat.le_refl _, Nat.zero_le _, ⟨rfl, by simp, fun h => by simp at h⟩, fun a h => by simp at h⟩
  · have hlm : len ≤ m := by rw [hmm]; split <;> omega
    have hx2 : ∀ i, i < len → ∃ p : List Value × α, w.cells? 0 (a.add (i * P.cellsOf e)) (P.cellsOf e) = some p.1 ∧ d.K w p.2 p.1 ∧ G p.2 := by
      intro i hi
      obtain ⟨cs', h1, h2⟩ := hx i (by omega)
      obtain ⟨y, h3, h4⟩ := hel _ _ _ h2
      exact ⟨(cs', y), h1, h3, h4⟩
    have hne : len = 0 ∨ 0 < len := by omega
    rcases hne with rfl | hpos
    · exact ⟨some a, cap, [], rfl, Nat.zero_le _, hm, ⟨rfl, by simp, fun h => by simp at h⟩, fun a h => by simp at h⟩
    · haveI : Inhabited (List Value × α) := ⟨Classical.choose (hx2 0 hpos)⟩
      obtain ⟨f, hf⟩ := Deep.choose_lt hx2
      refine ⟨some a, cap, (List.range len).map (fun i => (f i).2), by simp, by simpa using hl, hm, ⟨rfl, by simp only [List.length_map, List.length_range]; unfold maxLen at hm; omega, fun _ => ⟨a, rfl, fun j p hj => ?_⟩⟩, ?_⟩
      · have hjl : j < len := by
          have := (List.getElem?_eq_some_iff.1 hj).1
          simpa using this
        obtain ⟨h1, h2, h3⟩ := hf j hjl
        have hp : p = (f j).2 := by
          rw [List.getElem?_map, List.getElem?_range hjl] at hj
          simpa using hj.symm
        subst hp
        obtain ⟨_, hcl, hcc⟩ := World.cells?_some h1
        refine ⟨(f j).1, d.K_len h2, h2, fun i u hu => ?_⟩
        have hi : i < P.cellsOf e := by
          have := (List.getElem?_eq_some_iff.1 hu).1
          omega
        have := hcc i hi
        rw [Deep.add_add, hsz] at this
        rw [this]
        exact hu
      · intro y hy
        obtain ⟨i, hi, rfl⟩ := List.mem_map.1 hy
        exact (hf i (List.mem_range.1 hi)).2.2
end
end Go.Proofs.YtoonheembcejfaaW.PrintMore

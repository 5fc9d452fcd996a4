/- slices.Clone at Meta: a new row that holds what the slice holds. Condition: its bytes fit. -/
import Derived.Test.YtoonheembcejfaaPAx0
import Derived.WalkSpells
namespace Go.Proofs.Ytoonheembcejfaa.PA
open Go.RowKit Go.Proofs.YtoonheembcejfaaW.PrintWords Go.Proofs.YtoonheembcejfaaW.PrintLast Go.Proofs.YtoonheembcejfaaW.PrintMore
set_option linter.unusedVariables false
set_option linter.unusedSimpArgs false
theorem own_empty_Meta (w : World) : Kd.R k35 35 (w.alloc (.cells #[] 35)) w.heap.size (fun _ => True) (.slice (some ⟨w.heap.size, 0, none⟩) 0 0) [] := by
  have h2 := World.ownsRow_lit (base := w.heap.size) (e := 35) (size := (k35).sz) w #[] 0 (Nat.le_refl _) (by simp) (by simp)
  exact ⟨fun _ _ => trivial, [], by simpa using h2, Reps.none _ _⟩
def slices_Clone_Meta.f (l0 : List S35) : Option (List S35) := if l0.length ≤ 2513169434916 then some l0 else none
set_option maxHeartbeats 1000000 in
set_option maxRecDepth 100000 in
theorem slices_Clone_Meta.calls (A0 : Option Addr) (c0 : Nat) (l0 : List S35) (r : List S35) (w : World) (hr0 : Kd.C k35 w A0 l0.length l0) (hc0 : l0.length ≤ c0) (h : slices_Clone_Meta.f l0 = some r) :
    Calls Try.prog 35 #[.slice A0 l0.length c0] w fun e w' => ∃ v0_ : Value, e = .returned (v0_) ∧ Kd.R k35 35 w' w.heap.size (fun _ => True) v0_ r ∧ Below w.heap.size w w' := by
  unfold slices_Clone_Meta.f at h
  by_cases hl : l0.length ≤ 2513169434916
  · rw [if_pos hl] at h
    obtain rfl := Option.some.inj h
    have HL := Ad.mk hl
    have HR := Ad.mk hr0
    clear h hl
    cases A0 with
    | none =>
      have h0 : l0 = [] := by
        cases l0 with
        | nil => rfl
        | cons x l =>
          obtain ⟨ad, h, _⟩ := hr0.2.2 (by simp)
          cases h
      subst h0
      have hn := fun (w1 : World) (n c : Nat) => Lib.run_eql_slice_nil (P := Try.prog) w1 22 35 none n c 0 0 Try.underlying22
      clear hr0 HR HL
      go_enter Try.func35, Try.ntmps35
      go_wp2
      go_ret
      exact ⟨_, rfl, Kd.R_nil _ _ _ _ _, Below.refl _ _⟩
    | some ad =>
      have hn := fun (w1 : World) (n c : Nat) => Lib.run_eql_slice_nil (P := Try.prog) w1 22 35 (some ad) n c 0 0 Try.underlying22
      clear hr0
      go_enter Try.func35, Try.ntmps35
      go_wp2_with (first | (at_builtin; refine Kd.R_append_rows k35 (Rr := (k35).K w) (w0 := w) w.heap.size rfl (.tmp 5) (.tmp 6) 22 35 (.agg #[(.int .i64 0), (.int .i64 0), (.string ⟨#[]⟩), (.string ⟨#[]⟩), (.int .i64 0)]) 56 rfl Try.underlying22 info35 rfl (by decide) (by omega) _ [] l0 (some ad) l0.length c0 (fun _ => True) (fun _ => False) rfl rfl (own_empty_Meta w) ?aR (fun x cs hx => by obtain rfl := k35_open hx; exact k35_mkM _ _ _ _) (fun _ h => h.elim) (fun _ _ => trivial) ((Below.refl _ _).alloc (Nat.le_refl _) _) (by simp) (by have := HL.out; simp only [List.length_nil]; omega) ?_; (case aR => exact ReadsRow.imp_ HR.out ((Below.refl _ _).alloc (Nat.le_refl _) _) (fun _ _ h => h)); intro v1 w1 ho hb hg hat; have HO := Ad.mk ho; have HB := Ad.mk hb; clear ho hb hg hat))
      go_ret
      exact ⟨_, rfl, HO.out, HB.out⟩
  · rw [if_neg hl] at h
    exact absurd h (by simp)
end Go.Proofs.Ytoonheembcejfaa.PA

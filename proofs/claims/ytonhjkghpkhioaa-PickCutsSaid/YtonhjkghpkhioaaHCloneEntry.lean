/- slices.Clone at Entry: a new row that holds what the slice holds. Condition: its bytes fit. -/
import Derived.Test.YtonhjkghpkhioaaPAx0
import Derived.WalkSpells
namespace Go.Proofs.Ytonhjkghpkhioaa.PA
open Go.RowKit Go.Proofs.YtonhjkghpkhioaaW.PrintWords Go.Proofs.YtonhjkghpkhioaaW.PrintLast Go.Proofs.YtonhjkghpkhioaaW.PrintMore
set_option linter.unusedVariables false
set_option linter.unusedSimpArgs false
theorem own_empty_Entry (w : World) : Kd.R k45 45 (w.alloc (.cells #[] 45)) w.heap.size (fun _ => True) (.slice (some ⟨w.heap.size, 0, none⟩) 0 0) [] := by
  have h2 := World.ownsRow_lit (base := w.heap.size) (e := 45) (size := (k45).sz) w #[] 0 (Nat.le_refl _) (by simp) (by simp)
  exact ⟨fun _ _ => trivial, [], by simpa using h2, Reps.none _ _⟩
def slices_Clone_palinode_api_Entry_palinode_api_Entry.f (l0 : List S45) : Option (List S45) := if l0.length ≤ 2932031007402 then some l0 else none
set_option maxHeartbeats 1000000 in
set_option maxRecDepth 100000 in
theorem slices_Clone_palinode_api_Entry_palinode_api_Entry.calls (A0 : Option Addr) (c0 : Nat) (l0 : List S45) (r : List S45) (w : World) (hr0 : Kd.C k45 w A0 l0.length l0) (hc0 : l0.length ≤ c0) (h : slices_Clone_palinode_api_Entry_palinode_api_Entry.f l0 = some r) :
    Calls Try.prog 24 #[.slice A0 l0.length c0] w fun e w' => ∃ v0_ : Value, e = .returned (v0_) ∧ Kd.R k45 45 w' w.heap.size (fun _ => True) v0_ r ∧ Below w.heap.size w w' := by
  unfold slices_Clone_palinode_api_Entry_palinode_api_Entry.f at h
  by_cases hl : l0.length ≤ 2932031007402
  · rw [if_pos hl] at h
    obtain rfl := Option.some.inj h
    have HL := Aside0.mk hl
    have HR := Aside0.mk hr0
    clear h hl
    cases A0 with
    | none =>
      have h0 : l0 = [] := by
        cases l0 with
        | nil => rfl
        | cons x l =>
          obtain ⟨ad, h, _⟩ := hr0.2.2 (by simp)
          cases h
      subst h0
      have hn := fun (w1 : World) (n c : Nat) => Lib.run_eql_slice_nil (P := Try.prog) w1 34 45 none n c 0 0 Try.underlying34
      clear hr0 HR HL
      go_enter Try.func24, Try.ntmps24
      go_wp2
      go_ret
      exact ⟨_, rfl, Kd.R_nil _ _ _ _ _, Below.refl _ _⟩
    | some ad =>
      have hn := fun (w1 : World) (n c : Nat) => Lib.run_eql_slice_nil (P := Try.prog) w1 34 45 (some ad) n c 0 0 Try.underlying34
      clear hr0
      go_enter Try.func24, Try.ntmps24
      go_wp2_with (first | (at_builtin; refine Kd.R_append_rows k45 (Rr := (k45).K w) (w0 := w) w.heap.size rfl (.tmp 5) (.tmp 6) 34 45 (.agg #[.string ⟨#[]⟩, .int .i64 0, .bool false, .string ⟨#[]⟩]) 48 rfl Try.underlying34 info45 rfl (by decide) (by omega) _ [] l0 (some ad) l0.length c0 (fun _ => True) (fun _ => False) rfl rfl (own_empty_Entry w) ?aR (fun x cs hx => by obtain rfl := k45_open hx; exact k45_mkM _ _ _ _) (fun _ h => h.elim) (fun _ _ => trivial) ((Below.refl _ _).alloc (Nat.le_refl _) _) (by simp) (by have := HL.out; simp only [List.length_nil]; omega) ?_; (case aR => exact ReadsRow.imp_ HR.out ((Below.refl _ _).alloc (Nat.le_refl _) _) (fun _ _ h => h)); intro v1 w1 ho hb hg hat; have HO := Aside0.mk ho; have HB := Aside0.mk hb; clear ho hb hg hat))
      go_ret
      exact ⟨_, rfl, HO.out, HB.out⟩
  · rw [if_neg hl] at h
    exact absurd h (by simp)
end Go.Proofs.Ytonhjkghpkhioaa.PA

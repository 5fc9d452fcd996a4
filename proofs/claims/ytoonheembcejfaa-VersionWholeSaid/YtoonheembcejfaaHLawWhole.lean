/- Plain law of chapter 14, part 6: VersionWhole. No condition. -/
import Derived.Test.YtoonheembcejfaaHLawStay2
import Derived.Test.YtoonheembcejfaaPAx23
import Derived.Test.YtoonheembcejfaaPAx24
namespace Go.Proofs.Ytoonheembcejfaa.PA
open Go.RowKit Go.Proofs.YtoonheembcejfaaW.PrintWords Go.Proofs.YtoonheembcejfaaW.PrintLast Go.Proofs.YtoonheembcejfaaW.PrintMore
set_option linter.unusedVariables false
set_option linter.unusedSimpArgs false
theorem metas_i (T : List S35) (hT : T.length ≤ 10000000) (n : Nat) : ∀ x : Int, 0 ≤ x → x ≤ 10000001 → ((T.length : Int) - x).toNat ≤ n → Ev (fun k => palinodelaw14_metas.l0 k T T x) true := by
  have hend : ∀ x : Int, ¬ x < (T.length : Int) → Ev (fun k => palinodelaw14_metas.l0 k T T x) true := by
    intro x h
    refine Ev.step (f := fun k => some true) (fun k => ?_) (Ev.now _)
    simp only [palinodelaw14_metas.l0]
    rw [if_neg h]
  induction n with
  | zero => intro x h0 h1 h2; exact hend x (by omega)
  | succ n ih =>
    intro x h0 h1 h2
    by_cases h : x < (T.length : Int)
    · refine Ev.step (fun k => ?_) (ih (x + 1) (by omega) (by omega) (by omega))
      simp only [palinodelaw14_metas.l0]
      rw [if_pos h, if_pos h0, if_pos h, if_neg (by simp), w64 (x + 1) (by omega) (by omega)]
    · exact hend x h
theorem numbers_i (T : List Int) (hT : T.length ≤ 10000000) (n : Nat) : ∀ x : Int, 0 ≤ x → x ≤ 10000001 → ((T.length : Int) - x).toNat ≤ n → Ev (fun k => palinodelaw14_numbers.l0 k T T x) true := by
  have hend : ∀ x : Int, ¬ x < (T.length : Int) → Ev (fun k => palinodelaw14_numbers.l0 k T T x) true := by
    intro x h
    refine Ev.step (f := fun k => some true) (fun k => ?_) (Ev.now _)
    simp only [palinodelaw14_numbers.l0]
    rw [if_neg h]
  induction n with
  | zero => intro x h0 h1 h2; exact hend x (by omega)
  | succ n ih =>
    intro x h0 h1 h2
    by_cases h : x < (T.length : Int)
    · refine Ev.step (fun k => ?_) (ih (x + 1) (by omega) (by omega) (by omega))
      simp only [palinodelaw14_numbers.l0]
      rw [if_pos h, if_pos h0, if_pos h, if_pos trivial, w64 (x + 1) (by omega) (by omega)]
    · exact hend x h
/-- A version is the same as it is. -/
theorem same_I (T : List S35) (L : List Int) (s : Int) (hT : T.length ≤ 10000000) (hL : L.length ≤ 10000000) : Ev (fun k => palinodelaw14_same.f k T L s T L s) true := by
  have h1 : Ev (fun k => palinodelaw14_metas.f k T T) true := by
    unfold palinodelaw14_metas.f
    simp only [if_pos rfl]
    exact metas_i T hT _ 0 (by omega) (by omega) (Nat.le_refl _)
  have h2 : Ev (fun k => palinodelaw14_numbers.f k L L) true := by
    unfold palinodelaw14_numbers.f
    simp only [if_pos rfl]
    exact numbers_i L hL _ 0 (by omega) (by omega) (Nat.le_refl _)
  unfold palinodelaw14_same.f
  refine Ev.bind h1 (Ev.bind h2 ?_)
  simp only [if_true, beq_self_eq_true]
  exact Ev.now _
theorem empty_right : rightB [] [] 0 = true := by
  unfold rightB
  simp [okT, dupI, idsOf]
theorem empty_meta : withoutMeta.f [] [] = some ([], true) := by
  unfold withoutMeta.f
  simp [wfI, wLoop]
theorem empty_int : withoutInt.f [] [] = some ([], true) := by
  unfold withoutInt.f
  simp [wfI, wLoop]
theorem ids_wf {T : List S35} {L : List Int} (hT : ∀ a ∈ T, wf35 a) (hL : wfI L = true) : wfI (idsOf T ++ L) = true := by
  unfold wfI idsOf at *
  rw [List.all_append, Bool.and_eq_true]
  refine ⟨?_, hL⟩
  rw [List.all_eq_true]
  intro x hx
  obtain ⟨a, ha, rfl⟩ := List.mem_map.1 hx
  exact (hT a ha).1
theorem rightB_dup {T : List S35} {L : List Int} {s : Int} (h : rightB T L s = true) : dupI [] (idsOf T ++ L) = false := by
  unfold rightB at h
  rw [Bool.and_eq_true, Bool.and_eq_true, Bool.and_eq_true] at h
  simpa using h.2.2.2
/-- Applied to nothing, all of a right version makes it. -/
theorem apply_whole (T : List S35) (L : List Int) (s : Int) (hT : ∀ a ∈ T, wf35 a) (hL : wfI L = true) (h : rightB T L s = true) : Ev (fun k => version_Apply.f k [] [] 0 T [] L [] s) (T, L, s, none) := by
  obtain ⟨l1, l2, l3, l4⟩ := rightB_len h
  have hmx : mx 0 s = s := by unfold mx; split <;> omega
  have hj : Ev (fun k => version_Apply.j0 k [] [] false [] [] 0 T [] L [] s) (T, L, s, none) := by
    have e : ∀ k, version_Apply.j0 (k + 1) [] [] false [] [] 0 T [] L [] s = (api_Meta_26.f k T).bind fun t205 => (version_ids.f k t205 L s).bind fun t206 => (version_twice.f t206).bind fun t209 => if t209 = true then some (([] : List S35), ([] : List Int), (0 : Int), some (9 : Int)) else (version_Right.f k t205 L s).bind fun t210 => if t210 = true then some (t205, L, s, none) else some (([] : List S35), ([] : List Int), (0 : Int), some (1 : Int)) := by
      intro k
      simp only [version_Apply.j0, List.nil_append, List.length_nil, Nat.zero_add, hmx]
      rw [if_neg (by simp), if_pos (by omega), if_pos (by omega), Option.bind_some]
    refine Ev.step e (Ev.bind (stable_stay T (right_order h)) (Ev.bind (vids_I T L s (by omega) (by omega)) ?_))
    have hlen : (idsOf T ++ L).length ≤ 10000 := by rw [List.length_append]; unfold idsOf; rw [List.length_map]; omega
    simp only [twice_I _ hlen (ids_wf hT hL), Option.bind_some, rightB_dup h, Bool.false_eq_true, if_false]
    refine Ev.bind (right_I T L s hT hL) ?_
    simp only [h, if_true]
    exact Ev.now _
  unfold version_Apply.f
  have hr := right_I [] [] 0 (fun a ha => by cases ha) (by rfl)
  rw [empty_right] at hr
  refine Ev.bind hr ?_
  simp only [if_true, empty_meta, empty_int, Option.bind_some, Bool.not_true]
  exact hj
theorem VersionWhole_pure (T : List S35) (L : List Int) (s : Int) (hT : ∀ a ∈ T, wf35 a) (hL : wfI L = true) : ∃ k, palinodelaw14_VersionWhole.f k T L s = some true := by
  refine Ev.rounds (g := fun k => palinodelaw14_VersionWhole.f k T L s) ?_
  unfold palinodelaw14_VersionWhole.f palinodelaw14_examples.f
  simp only [Option.bind_some]
  refine Ev.bind (right_I T L s hT hL) ?_
  by_cases h : rightB T L s = true
  · obtain ⟨l1, l2, l3, l4⟩ := rightB_len h
    have hw : version_Whole.f T L s = some (T, [], L, [], s) := by
      unfold version_Whole.f slices_Clone_Meta.f slices_Clone_Int.f
      rw [if_pos (by omega), if_pos (by omega)]
      rfl
    simp only [h, if_true, hw, Option.bind_some]
    refine Ev.bind (apply_whole T L s hT hL h) (Ev.bind (same_I T L s (by omega) (by omega)) ?_)
    simp only [if_true, Option.isNone_none]
    exact Ev.now _
  · simp only [if_neg h]
    exact Ev.now _
end Go.Proofs.Ytoonheembcejfaa.PA

/- Plain law of chapter 14, part 3: VersionLive. Condition: no more than 10^7 tables and 10^7 logs. -/
import Derived.Test.YtoonheembcejfaaHLawApart
import Derived.Test.YtoonheembcejfaaPAx23
namespace Go.Proofs.Ytoonheembcejfaa.PA
open Go.RowKit Go.Proofs.YtoonheembcejfaaW.PrintWords Go.Proofs.YtoonheembcejfaaW.PrintLast Go.Proofs.YtoonheembcejfaaW.PrintMore
set_option linter.unusedVariables false
set_option linter.unusedSimpArgs false
theorem dup_nodup (l : List Int) : ∀ S, dupI S l = false → l.Nodup ∧ ∀ x ∈ l, x ∉ S := by
  induction l with
  | nil => intro S _; exact ⟨.nil, fun x h => by cases h⟩
  | cons a l ih =>
    intro S h
    unfold dupI at h
    rw [Bool.or_eq_false_iff] at h
    obtain ⟨h1, h2⟩ := ih _ h.2
    have h0 : a ∉ S := of_decide_eq_false h.1
    refine ⟨List.nodup_cons.2 ⟨fun hm => h2 a hm (by simp), h1⟩, ?_⟩
    intro x hx
    rcases List.mem_cons.1 hx with rfl | hx
    · exact h0
    · exact fun hs => h2 x hx (by simp [hs])
theorem rightB_ids {T : List S35} {L : List Int} {s : Int} (h : rightB T L s = true) : (idsOf T ++ L).Nodup := by
  unfold rightB at h
  rw [Bool.and_eq_true, Bool.and_eq_true, Bool.and_eq_true] at h
  exact (dup_nodup _ [] (by simpa using h.2.2.2)).1
/-- How many tables lie on the levels 0 .. n-1. -/
def cnt (T : List S35) (n : Int) : Nat := (T.filter (fun a => decide (0 ≤ a.f1 ∧ a.f1 < n))).length
theorem cnt_len (T : List S35) (n : Int) : cnt T n ≤ T.length := List.length_filter_le _ _
theorem cnt_zero (T : List S35) : cnt T 0 = 0 := by
  unfold cnt
  rw [List.length_eq_zero_iff, List.filter_eq_nil_iff]
  intro a _ h
  have := of_decide_eq_true h
  omega
theorem cnt_step (T : List S35) (n : Int) (hn : 0 ≤ n) : cnt T (n + 1) = cnt T n + (lev T n).length := by
  unfold cnt lev
  induction T with
  | nil => rfl
  | cons a T ih =>
    simp only [List.filter_cons]
    by_cases h1 : a.f1 = n
    · rw [if_pos (by simp only [decide_eq_true_eq]; omega), if_neg (by simp only [decide_eq_true_eq]; omega), if_pos (by simpa using h1)]
      simp only [List.length_cons]
      omega
    · rw [if_neg (c := (a.f1 == n) = true) (by simpa using h1)]
      by_cases h2 : 0 ≤ a.f1 ∧ a.f1 < n
      · rw [if_pos (by simp only [decide_eq_true_eq]; omega), if_pos (by simpa using h2)]
        simp only [List.length_cons]
        omega
      · rw [if_neg (by simp only [decide_eq_true_eq]; omega), if_neg (by simpa using h2)]
        exact ih
theorem cnt_all (T : List S35) (h : ∀ a ∈ T, MetaOK a) : cnt T 4 = T.length := by
  unfold cnt
  rw [List.filter_eq_self.2]
  intro a ha
  have := h a ha
  unfold MetaOK at this
  simp only [decide_eq_true_eq]
  omega
theorem live_l1 (T : List S35) (L : List Int) (s : Int) (hT : T.length ≤ 10000000) (r : Bool) (hr : r = true → ∀ a ∈ T, MetaOK a) (m : Nat) : ∀ n : Int, 0 ≤ n → n + m = 4 → Ev (fun k => palinodelaw14_VersionLive.l1 k true r (cnt T n : Int) n T L s) true := by
  induction m with
  | zero =>
    intro n h0 hn
    obtain rfl : n = 4 := by omega
    refine Ev.step (f := fun k => some true) (fun k => ?_) (Ev.now _)
    simp only [palinodelaw14_VersionLive.l1]
    rw [if_neg (by omega), if_pos trivial]
    cases r with
    | true => rw [if_pos rfl, cnt_all T (hr rfl), beq_self_eq_true]
    | false => rw [if_neg (by simp)]
  | succ m ih =>
    intro n h0 hn
    have hlt : n < 4 := by omega
    have hc := cnt_step T n h0
    have hc2 := cnt_len T (n + 1)
    have e : ∀ k, palinodelaw14_VersionLive.l1 (k + 1) true r (cnt T n : Int) n T L s = (version_Level.f k T L s n).bind fun t => palinodelaw14_VersionLive.l1 k true r (wrap64 ((cnt T n : Int) + (t.length : Int))) (wrap64 (n + 1)) T L s := fun k => by
      simp only [palinodelaw14_VersionLive.l1]
      rw [if_pos hlt]
    refine Ev.step e (Ev.bind (level_I T L s n hT) ?_)
    rw [w64 (n + 1) (by omega) (by omega), w64 _ (by omega) (by omega), show (cnt T n : Int) + ((lev T n).length : Int) = (cnt T (n + 1) : Int) by omega]
    exact ih (n + 1) (by omega) (by omega)
theorem live_l0 (X : List Int) (r : Bool) (hs : X.Pairwise (· ≤ ·)) (hn : r = true → X.Nodup) (hl : X.length ≤ 20000000) (T : List S35) (L : List Int) (s : Int) (hK : Ev (fun k => palinodelaw14_VersionLive.l1 k true r 0 0 T L s) true) (t : List Int) :
    ∀ q b, X = q ++ b :: t → Ev (fun k => palinodelaw14_VersionLive.l0 k true X r ((q.length : Int) + 1) T L s) true := by
  induction t with
  | nil =>
    intro q b e
    refine Ev.step (fun k => ?_) hK
    have : (X.length : Int) = (q.length : Int) + 1 := by rw [e, len1]
    simp only [palinodelaw14_VersionLive.l0]
    rw [if_neg (by omega)]
  | cons a t ih =>
    intro q b e
    have e2 : X = (q ++ [b]) ++ a :: t := by rw [e, ← app1]
    have hlen : X.length = q.length + (t.length + 2) := by rw [e]; simp only [List.length_append, List.length_cons]
    have r1 : rd X ((q.length : Int) + 1) = a := by rw [← len1 q b, e2]; exact rd_mid _ _ _
    have r0 : rd X (q.length : Int) = b := by rw [e]; exact rd_mid _ _ _
    have hba : b ≤ a := by
      rw [e] at hs
      exact (List.pairwise_cons.1 (List.pairwise_append.1 hs).2.1).1 a (by simp)
    have := ih (q ++ [b]) a e2
    rw [len1] at this
    have e : ∀ k, palinodelaw14_VersionLive.l0 (k + 1) true X r ((q.length : Int) + 1) T L s = palinodelaw14_VersionLive.l0 k true X r ((q.length : Int) + 1 + 1) T L s := fun k => by
      simp only [palinodelaw14_VersionLive.l0]
      rw [w64 ((q.length : Int) + 1 - 1) (by omega) (by omega), w64 ((q.length : Int) + 1 + 1) (by omega) (by omega), show (q.length : Int) + 1 - 1 = (q.length : Int) by omega, r0, r1]
      rw [if_pos (by omega), if_pos (by omega), if_pos (by omega), if_pos (by omega), if_neg (by omega)]
      cases r with
      | true =>
        have hne : ¬ a = b := by
          have h := hn rfl
          rw [e2] at h
          intro hab
          exact (List.nodup_append.1 h).2.2 b (by simp) a (by simp) hab.symm
        rw [if_pos rfl, if_neg hne]
      | false => rw [if_neg (by simp)]
    exact Ev.step e this
theorem live_K (T : List S35) (L : List Int) (s : Int) (h1 : T.length ≤ 10000000) : Ev (fun k => palinodelaw14_VersionLive.l1 k true (rightB T L s) 0 0 T L s) true := by
  have h := live_l1 T L s h1 (rightB T L s) (fun h => rightB_meta h) 4 0 (by omega) (by omega)
  have e : (cnt T 0 : Int) = 0 := by rw [cnt_zero]; rfl
  rw [e] at h
  exact h
theorem live_X (X : List Int) (r : Bool) (hs : X.Pairwise (· ≤ ·)) (hn : r = true → X.Nodup) (hl : X.length ≤ 20000000) (T : List S35) (L : List Int) (s : Int) (hK : Ev (fun k => palinodelaw14_VersionLive.l1 k true r 0 0 T L s) true) : Ev (fun k => palinodelaw14_VersionLive.l0 k true X r 1 T L s) true := by
  cases X with
  | nil =>
    refine Ev.step (fun k => ?_) hK
    simp only [palinodelaw14_VersionLive.l0]
    rw [if_neg (by simp)]
  | cons b t =>
    have h := live_l0 (b :: t) r hs hn hl T L s hK t [] b rfl
    have e : ((([] : List Int).length : Int) + 1) = 1 := by simp
    rw [e] at h
    exact h
theorem VersionLive_pure (T : List S35) (L : List Int) (s : Int) (hT : ∀ a ∈ T, wf35 a) (hL : wfI L = true) (h1 : T.length ≤ 10000000) (h2 : L.length ≤ 10000000) : ∃ k, palinodelaw14_VersionLive.f k T L s = some true := by
  have hlen : ((sortI (idsOf T ++ L)).length : Int) = (T.length : Int) + (L.length : Int) := by
    rw [sortI_length, List.length_append]
    unfold idsOf
    rw [List.length_map]
    omega
  have hlive : version_Live.f T L s = some (sortI (idsOf T ++ L)) := by
    unfold version_Live.f
    rw [if_pos h1, if_pos h2]
  have hx := live_X (sortI (idsOf T ++ L)) (rightB T L s) (sortI_rises (idsOf T ++ L)) (fun h => (sortI_perm _).nodup_iff.2 (rightB_ids h)) (by omega) T L s (live_K T L s h1)
  generalize sortI (idsOf T ++ L) = X at hlen hlive hx
  have hw : (X.length : Int) = wrap64 ((T.length : Int) + (L.length : Int)) := by rw [hlen, w64 _ (by omega) (by omega)]
  have e : ∀ k, palinodelaw14_VersionLive.f k T L s = (version_Right.f k T L s).bind fun t => palinodelaw14_VersionLive.l0 k true X t 1 T L s := by
    intro k
    unfold palinodelaw14_VersionLive.f palinodelaw14_examples.f
    rw [Option.bind_some, hlive, Option.bind_some, if_pos hw]
  refine Ev.rounds (g := fun k => palinodelaw14_VersionLive.f k T L s) ?_
  simp only [e]
  exact Ev.bind (right_I T L s hT hL) hx
end Go.Proofs.Ytoonheembcejfaa.PA

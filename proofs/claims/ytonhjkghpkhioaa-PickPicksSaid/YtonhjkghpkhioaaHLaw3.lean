/- Plain law, part 3: what is picked, and PickPicks for every argument. Condition: the whole numbers are of 64 bits. -/
import Derived.Test.YtonhjkghpkhioaaHLaw2
import Derived.Test.YtonhjkghpkhioaaPAx13
namespace Go.Proofs.Ytonhjkghpkhioaa.PA
open Go.RowKit Go.Proofs.YtonhjkghpkhioaaW.PrintWords Go.Proofs.YtonhjkghpkhioaaW.PrintLast Go.Proofs.YtonhjkghpkhioaaW.PrintMore
set_option linter.unusedVariables false
set_option linter.unusedSimpArgs false
theorem numbers_same (t : List Int) : ∀ p : List Int, (p ++ t).length ≤ 10000 → Ev (fun k => palinodelaw16_numbers.l0 k (p ++ t) (p ++ t) (p.length : Int)) true := by
  induction t with
  | nil =>
    intro p hl
    refine Ev.step (f := fun k => some true) (fun k => ?_) (Ev.now _)
    simp only [palinodelaw16_numbers.l0, List.append_nil]
    rw [if_neg (by omega)]
  | cons a t ih =>
    intro p hl
    have hk : (p.length : Int) < ((p ++ a :: t).length : Int) := by simp only [List.length_append, List.length_cons]; omega
    have := ih (p ++ [a]) (by rw [← app1]; exact hl)
    rw [← app1, len1] at this
    refine Ev.step (fun k => ?_) this
    simp only [palinodelaw16_numbers.l0]
    rw [if_pos hk, if_pos (by omega), if_pos hk, if_pos trivial, w64 _ (by omega) (by omega)]
theorem numbers_I (l : List Int) (h : l.length ≤ 10000) : Ev (fun k => palinodelaw16_numbers.f k l l) true :=
  Ev.congr (fun k => by unfold palinodelaw16_numbers.f; rw [if_pos rfl]; rfl) (numbers_same l [] h)
theorem limit_eq (n : Int) : ∃ v, pick_Limit.f n = some v ∧ palinoderef16_Limit.f n = some v := by
  have p1 : pick_Limit.f 1 = some 4000 := by kernel_rfl
  have p2 : pick_Limit.f 2 = some 16000 := by kernel_rfl
  by_cases h1 : n = 1
  · subst h1; exact ⟨4000, p1, rfl⟩
  by_cases h2 : n = 2
  · subst h2; exact ⟨16000, p2, rfl⟩
  refine ⟨0, ?_, ?_⟩
  · unfold pick_Limit.f
    by_cases h : n < 1
    · rw [if_pos h]
    · rw [if_neg h, if_pos (by omega)]
  · unfold palinoderef16_Limit.f
    rw [if_neg h1, if_neg h2]
/-! ### the level that is too great -/
def sumB (l : List S48) : Int := l.foldr (fun a n => a.f4 + n) 0
theorem sumB_nonneg (l : List S48) (h : ∀ a ∈ l, MetaOK a) : 0 ≤ sumB l := by
  induction l with
  | nil => exact Int.le_refl _
  | cons a l ih =>
    have := ih (fun b hb => h b (List.mem_cons_of_mem _ hb))
    have h2 := (h a (List.mem_cons_self ..)).2.2.2.2.1
    show 0 ≤ a.f4 + sumB l
    omega
theorem first_in (T : List S48) (L : List Int) (s n lim : Int) (hn : pick_Limit.f n = some lim) (hn0 : 0 ≤ n ∧ n < 10) (hlim : lim ≤ 100000) (r : Int × List S48) (hr : Ev (fun k => pick_first.l0 k (n + 1) T L s) r) (t : List S48) :
    ∀ (p : List S48) (x : Int), 0 ≤ x → x ≤ lim → (∀ a ∈ t, MetaOK a) → (p ++ t).length ≤ 1000 →
    Ev (fun k => pick_first.l1 k n (p ++ t) x (p ++ t) ((p ++ t).length : Int) (p.length : Int) T L s) (if x + sumB t > lim then (n, (p ++ t).take 1) else r) := by
  induction t with
  | nil =>
    intro p x h0 h1 hm hl
    have : ¬ x + sumB [] > lim := by show ¬ x + 0 > lim; omega
    rw [if_neg this]
    refine Ev.step (fun k => ?_) hr
    simp only [pick_first.l1, List.append_nil]
    rw [if_neg (by omega), w64 _ (by omega) (by omega)]
  | cons a t ih =>
    intro p x h0 h1 hm hl
    have hp : p.length < 1000 := by simp only [List.length_append, List.length_cons] at hl; omega
    have hk : (p.length : Int) < ((p ++ a :: t).length : Int) := by simp only [List.length_append, List.length_cons]; omega
    have hma := hm a (List.mem_cons_self ..)
    have hb := hma.2.2.2.2.1
    have hb' := hma.2.2.2.2.2.1
    have hs := sumB_nonneg t (fun b hb => hm b (List.mem_cons_of_mem _ hb))
    have hsum : sumB (a :: t) = a.f4 + sumB t := rfl
    have hw : wrap64 (x + a.f4) = x + a.f4 := w64 _ (by omega) (by omega)
    by_cases hg : x + a.f4 > lim
    · rw [if_pos (by rw [hsum]; omega)]
      refine Ev.step (f := fun k => some (n, (p ++ a :: t).take 1)) (fun k => ?_) (Ev.now _)
      simp only [pick_first.l1, rd48_mid, hw, hn, Option.bind_some]
      rw [if_pos hk, if_pos (by omega), if_pos hk, if_pos hg, if_pos (by omega)]
      rfl
    · have := ih (p ++ [a]) (x + a.f4) (by omega) (by omega) (fun b hb => hm b (List.mem_cons_of_mem _ hb)) (by rw [← app1]; exact hl)
      rw [← app1, len1, show x + a.f4 + sumB t = x + sumB (a :: t) by rw [hsum]; omega] at this
      refine Ev.step (fun k => ?_) this
      simp only [pick_first.l1, rd48_mid, hw, hn, Option.bind_some]
      rw [if_pos hk, if_pos (by omega), if_pos hk, if_neg hg, w64 ((p.length : Int) + 1) (by omega) (by omega)]
def firstP (T : List S48) : Int × List S48 :=
  if ((lev T 0).length : Int) ≥ 3 then (0, lev T 0) else if 0 + sumB (lev T 1) > 4000 then (1, (lev T 1).take 1) else if 0 + sumB (lev T 2) > 16000 then (2, (lev T 2).take 1) else (-1, [])
theorem lev_mem {T : List S48} {n : Int} {a : S48} (h : a ∈ lev T n) : a ∈ T ∧ a.f1 = n := by
  unfold lev at h
  rw [List.mem_filter] at h
  exact ⟨h.1, by simpa using h.2⟩
theorem first_I (T : List S48) (L : List Int) (s : Int) (hl : T.length ≤ 1000) (hm : ∀ a ∈ T, MetaOK a) : Ev (fun k => pick_first.f k T L s) (firstP T) := by
  unfold pick_first.f firstP
  refine Ev.bind (level_I T L s 0 hl) ?_
  by_cases h0 : ((lev T 0).length : Int) ≥ 3
  · simp only [if_pos h0]
    exact Ev.now _
  simp only [if_neg h0]
  have e3 : Ev (fun k => pick_first.l0 k 3 T L s) ((-1 : Int), ([] : List S48)) := by
    refine Ev.step (f := fun k => some ((-1 : Int), ([] : List S48))) (fun k => ?_) (Ev.now _)
    simp only [pick_first.l0]
    rw [if_neg (by omega)]
  have l2 := lev_len T 2
  have l1 := lev_len T 1
  have e2 : Ev (fun k => pick_first.l0 k 2 T L s) (if 0 + sumB (lev T 2) > 16000 then (2, (lev T 2).take 1) else ((-1 : Int), ([] : List S48))) := by
    refine Ev.step (f := fun k => (version_Level.f k T L s 2).bind fun t156 => pick_first.l1 k 2 t156 0 t156 (t156.length : Int) 0 T L s) (fun k => ?_) (Ev.bind (level_I T L s 2 hl) (first_in T L s 2 16000 (by kernel_rfl) (by omega) (by omega) _ e3 (lev T 2) [] 0 (by omega) (by omega) (fun a h => hm a (lev_mem h).1) (by simp only [List.nil_append]; omega)))
    simp only [pick_first.l0]
    rw [if_pos (by omega)]
  refine Ev.step (f := fun k => (version_Level.f k T L s 1).bind fun t156 => pick_first.l1 k 1 t156 0 t156 (t156.length : Int) 0 T L s) (fun k => ?_) (Ev.bind (level_I T L s 1 hl) (first_in T L s 1 4000 (by kernel_rfl) (by omega) (by omega) _ e2 (lev T 1) [] 0 (by omega) (by omega) (fun a h => hm a (lev_mem h).1) (by simp only [List.nil_append]; omega)))
  simp only [pick_first.l0]
  rw [if_pos (by omega)]
/-! ### the job -/
def underP (T : List S48) (n : Int) (l : List S48) : List S48 := (lev T (n + 1)).filter (fun m => meetB m l)
def botP (T : List S48) (n : Int) (l : List S48) : Bool := T.all (fun m => !(decide (m.f1 > n + 1) && meetB m l))
def jobP (T : List S48) (n : Int) (l : List S48) : Int × List Int × List Int × Bool × Bool := (n, idsOf l, idsOf (underP T n l), botP T n (l ++ underP T n l), true)
theorem bottom_i (n : Int) (hn : 0 ≤ n ∧ n < 10) (all : List S48) (hall : all.length ≤ 1000) (j0 : Int) (j1 j2 : List Int) (t : List S48) : ∀ (p : List S48) (b : Bool), (p ++ t).length ≤ 1000 →
    Ev (fun k => pick_Pick.l1 k n all (p ++ t) ((p ++ t).length : Int) (p.length : Int) j0 j1 j2 b) (j0, j1, j2, b && t.all (fun m => !(decide (m.f1 > n + 1) && meetB m all)), true) := by
  induction t with
  | nil =>
    intro p b hl
    refine Ev.step (f := fun k => some (j0, j1, j2, b, true)) (fun k => ?_) (by simp only [List.all_nil, Bool.and_true]; exact Ev.now _)
    simp only [pick_Pick.l1, List.append_nil]
    rw [if_neg (by omega)]
  | cons a t ih =>
    intro p b hl
    have hp : p.length < 1000 := by simp only [List.length_append, List.length_cons] at hl; omega
    have hk : (p.length : Int) < ((p ++ a :: t).length : Int) := by simp only [List.length_append, List.length_cons]; omega
    have h1 := fun b => ih (p ++ [a]) b (by rw [← app1]; exact hl)
    simp only [← app1, len1] at h1
    have e : ∀ k, pick_Pick.l1 (k + 1) n all (p ++ a :: t) ((p ++ a :: t).length : Int) (p.length : Int) j0 j1 j2 b = if a.f1 > n + 1 then ((pick_meet.f k a.f0 a.f1 a.f2 a.f3 a.f4 all).bind fun t206 => if t206 = true then pick_Pick.l1 k n all (p ++ a :: t) ((p ++ a :: t).length : Int) ((p.length : Int) + 1) j0 j1 j2 false else pick_Pick.l1 k n all (p ++ a :: t) ((p ++ a :: t).length : Int) ((p.length : Int) + 1) j0 j1 j2 b) else pick_Pick.l1 k n all (p ++ a :: t) ((p ++ a :: t).length : Int) ((p.length : Int) + 1) j0 j1 j2 b := fun k => by
      simp only [pick_Pick.l1, rd48_mid]
      rw [if_pos hk, if_pos (by omega), if_pos hk, w64 ((p.length : Int) + 1) (by omega) (by omega), w64 (n + 1) (by omega) (by omega)]
    refine Ev.step e ?_
    rw [List.all_cons]
    by_cases hg : a.f1 > n + 1
    · simp only [if_pos hg, decide_eq_true hg, Bool.true_and]
      refine Ev.bind (meet_I a all hall) ?_
      cases meetB a all with
      | true =>
        simp only [if_true, Bool.not_true, Bool.false_and, Bool.and_false]
        simpa only [Bool.false_and] using h1 false
      | false =>
        simp only [Bool.false_eq_true, if_false, Bool.not_false, Bool.true_and]
        exact h1 b
    · simp only [if_neg hg, decide_eq_false hg, Bool.false_and, Bool.not_false, Bool.true_and]
      exact h1 b
theorem total_Meta_two (a b : List S48) : total_Meta [a, b] = a.length + b.length := by
  simp [total_Meta]
theorem under_i (T : List S48) (L : List Int) (s : Int) (hT : T.length ≤ 200) (n : Int) (hn : 0 ≤ n ∧ n < 10) (l : List S48) (hl0 : l.length ≤ 200) (t : List S48) : ∀ (p u : List S48), (p ++ t).length ≤ 200 → u.length ≤ p.length →
    Ev (fun k => pick_Pick.l0 k n l u (p ++ t) ((p ++ t).length : Int) (p.length : Int) T L s) (n, idsOf l, idsOf (u ++ t.filter (fun m => meetB m l)), botP T n (l ++ (u ++ t.filter (fun m => meetB m l))), true) := by
  induction t with
  | nil =>
    intro p u hl hu
    simp only [List.append_nil] at hl
    simp only [List.filter_nil, List.append_nil]
    have h1 := bottom_i n hn (l ++ u) (by rw [List.length_append]; omega) n (idsOf l) (idsOf u) T [] true (by simp only [List.nil_append]; omega)
    simp only [Bool.true_and] at h1
    refine Ev.step (f := fun k => (pick_ids.f k l).bind fun t191 => (pick_ids.f k u).bind fun t194 => (slices_Concat_palinode_api_Meta_palinode_api_Meta.f [l, u]).bind fun t201 => pick_Pick.l1 k n t201 T (T.length : Int) 0 n t191 t194 true) (fun k => ?_) (Ev.bind (pids_I l (by omega)) (Ev.bind (pids_I u (by omega)) ?_))
    · simp only [pick_Pick.l0]
      rw [if_neg (by omega)]
    · have ec : slices_Concat_palinode_api_Meta_palinode_api_Meta.f [l, u] = some (l ++ u) := by
        unfold slices_Concat_palinode_api_Meta_palinode_api_Meta.f
        rw [total_Meta_two, if_pos (by omega), if_pos (by simp)]
        simp
      simp only [ec, Option.bind_some]
      exact h1
  | cons a t ih =>
    intro p u hl hu
    have hp : p.length < 1000 := by simp only [List.length_append, List.length_cons] at hl; omega
    have hk : (p.length : Int) < ((p ++ a :: t).length : Int) := by simp only [List.length_append, List.length_cons]; omega
    have e : ∀ k, pick_Pick.l0 (k + 1) n l u (p ++ a :: t) ((p ++ a :: t).length : Int) (p.length : Int) T L s = (pick_meet.f k a.f0 a.f1 a.f2 a.f3 a.f4 l).bind fun t187 => if t187 = true then pick_Pick.l0 k n l (u ++ [a]) (p ++ a :: t) ((p ++ a :: t).length : Int) ((p.length : Int) + 1) T L s else pick_Pick.l0 k n l u (p ++ a :: t) ((p ++ a :: t).length : Int) ((p.length : Int) + 1) T L s := fun k => by
      simp only [pick_Pick.l0, rd48_mid]
      rw [if_pos hk, if_pos (by omega), if_pos hk, if_pos (by omega), w64 ((p.length : Int) + 1) (by omega) (by omega)]
    refine Ev.step e (Ev.bind (meet_I a l (by omega)) ?_)
    rw [List.filter_cons]
    cases meetB a l with
    | true =>
      have := ih (p ++ [a]) (u ++ [a]) (by rw [← app1]; exact hl) (by simp; omega)
      rw [← app1, len1, List.append_assoc u] at this
      simp only [if_true]
      exact this
    | false =>
      have := ih (p ++ [a]) u (by rw [← app1]; exact hl) (by simp; omega)
      rw [← app1, len1] at this
      simp only [Bool.false_eq_true, if_false]
      exact this
def noJob : Int × List Int × List Int × Bool × Bool := (0, [], [], false, false)
def pickP (T : List S48) (L : List Int) (s : Int) : Int × List Int × List Int × Bool × Bool := if rightB T L s = true then (if (firstP T).1 < 0 then noJob else jobP T (firstP T).1 (firstP T).2) else noJob
theorem okT_meta (t : List S48) : ∀ o, okT o t = true → ∀ a ∈ t, MetaOK a := by
  induction t with
  | nil => intro o _ a h; cases h
  | cons b t ih =>
    intro o h a ha
    unfold okT at h
    rw [Bool.and_eq_true, Bool.and_eq_true] at h
    rcases List.mem_cons.1 ha with rfl | ha
    · exact of_decide_eq_true h.1
    · exact ih _ h.2.2 a ha
theorem rightB_meta {T : List S48} {L : List Int} {s : Int} (h : rightB T L s = true) : ∀ a ∈ T, MetaOK a := by
  unfold rightB at h
  rw [Bool.and_eq_true, Bool.and_eq_true, Bool.and_eq_true] at h
  exact okT_meta T none h.2.2.1
theorem firstP_cases (T : List S48) : (firstP T = (0, lev T 0) ∨ firstP T = (1, (lev T 1).take 1) ∨ firstP T = (2, (lev T 2).take 1) ∨ firstP T = (-1, [])) := by
  unfold firstP
  repeat' split
  · exact .inl rfl
  · exact .inr (.inl rfl)
  · exact .inr (.inr (.inl rfl))
  · exact .inr (.inr (.inr rfl))
theorem firstP_range (T : List S48) : (firstP T).1 < 3 ∧ (firstP T).2.length ≤ T.length := by
  have h0 := lev_len T 0
  have h1 := lev_len T 1
  have h2 := lev_len T 2
  rcases firstP_cases T with h | h | h | h <;> rw [h] <;> refine ⟨by simp, ?_⟩
  · exact h0
  · exact Nat.le_trans (List.length_take_le' ..) h1
  · exact Nat.le_trans (List.length_take_le' ..) h2
  · exact Nat.zero_le _
theorem pick_I (T : List S48) (L : List Int) (s : Int) (hl : T.length ≤ 60) (hT : ∀ a ∈ T, wf48 a) (hL : wfI L = true) : Ev (fun k => pick_Pick.f k T L s) (pickP T L s) := by
  unfold pick_Pick.f pickP
  refine Ev.bind (right_I T L s hT hL) ?_
  by_cases hr : rightB T L s = true
  · simp only [if_pos hr]
    refine Ev.bind (first_I T L s (by omega) (rightB_meta hr)) ?_
    by_cases h0 : (firstP T).1 < 0
    · simp only [if_pos h0]
      exact Ev.now _
    · simp only [if_neg h0]
      have hf := firstP_range T
      have hw : wrap64 ((firstP T).1 + 1) = (firstP T).1 + 1 := w64 _ (by omega) (by omega)
      simp only [hw]
      have hlev := lev_len T ((firstP T).1 + 1)
      refine Ev.bind (level_I T L s _ (by omega)) ?_
      have := under_i T L s (by omega) (firstP T).1 ⟨by omega, by omega⟩ (firstP T).2 (by omega) (lev T ((firstP T).1 + 1)) [] [] (by simp only [List.nil_append]; omega) (Nat.le_refl _)
      simp only [List.nil_append] at this
      exact this
  · simp only [if_neg hr]
    exact Ev.now _
/-! ### the document's answer -/
theorem bot_in (T : List S48) (L : List Int) (s n : Int) (hn : 0 ≤ n ∧ n < 10) (all : List S48) (hall : all.length ≤ 1000) (j0 : Int) (j1 j2 : List Int) (R : Int × List Int × List Int × Bool × Bool) (t : List S48) : ∀ (p : List S48) (b : Bool), (p ++ t).length ≤ 1000 →
    Ev (fun k => palinoderef16_Pick.l4 k all (n + 1) T L s j0 j1 j2 (b && t.all (fun m => !meetB m all))) R →
    Ev (fun k => palinoderef16_Pick.l5 k all n (p ++ t) (p.length : Int) T L s j0 j1 j2 b) R := by
  induction t with
  | nil =>
    intro p b hl hr
    simp only [List.all_nil, Bool.and_true] at hr
    refine Ev.step (fun k => ?_) hr
    simp only [palinoderef16_Pick.l5, List.append_nil]
    rw [if_neg (by omega), w64 (n + 1) (by omega) (by omega)]
  | cons a t ih =>
    intro p b hl hr
    have hp : p.length < 1000 := by simp only [List.length_append, List.length_cons] at hl; omega
    have hk : (p.length : Int) < ((p ++ a :: t).length : Int) := by simp only [List.length_append, List.length_cons]; omega
    have h1 := fun b => ih (p ++ [a]) b (by rw [← app1]; exact hl)
    simp only [← app1, len1] at h1
    have e : ∀ k, palinoderef16_Pick.l5 (k + 1) all n (p ++ a :: t) (p.length : Int) T L s j0 j1 j2 b = (palinoderef16_meets.f k a.f0 a.f1 a.f2 a.f3 a.f4 all).bind fun t316 => if b = true then palinoderef16_Pick.l5 k all n (p ++ a :: t) ((p.length : Int) + 1) T L s j0 j1 j2 (!t316) else palinoderef16_Pick.l5 k all n (p ++ a :: t) ((p.length : Int) + 1) T L s j0 j1 j2 false := fun k => by
      simp only [palinoderef16_Pick.l5, rd48_mid]
      rw [if_pos hk, if_pos (by omega), w64 ((p.length : Int) + 1) (by omega) (by omega)]
    refine Ev.step e (Ev.bind (meet_R a all hall) ?_)
    rw [List.all_cons] at hr
    cases b with
    | true =>
      simp only [if_true]
      exact h1 _ (by simpa only [Bool.true_and] using hr)
    | false =>
      simp only [Bool.false_eq_true, if_false]
      exact h1 _ (by simpa only [Bool.false_and] using hr)
theorem bot_lev (T : List S48) (L : List Int) (s n : Int) (hT : T.length ≤ 1000) (hn : 0 ≤ n ∧ n < 4) (all : List S48) (hall : all.length ≤ 1000) (j0 : Int) (j1 j2 : List Int) (R : Int × List Int × List Int × Bool × Bool) (b : Bool)
    (hr : Ev (fun k => palinoderef16_Pick.l4 k all (n + 1) T L s j0 j1 j2 (b && (lev T n).all (fun m => !meetB m all))) R) :
    Ev (fun k => palinoderef16_Pick.l4 k all n T L s j0 j1 j2 b) R := by
  have hl := lev_len T n
  refine Ev.step (f := fun k => (palinoderef14_Level.f k T L s n).bind fun t312 => palinoderef16_Pick.l5 k all n t312 0 T L s j0 j1 j2 b) (fun k => ?_) (Ev.bind (level_R T L s n hT) (bot_in T L s n (by omega) all hall j0 j1 j2 R (lev T n) [] b (by simp only [List.nil_append]; omega) hr))
  simp only [palinoderef16_Pick.l4]
  rw [if_pos (by omega)]
theorem bottom_r (T : List S48) (L : List Int) (s n : Int) (hT : T.length ≤ 1000) (hm : ∀ a ∈ T, MetaOK a) (hn : 0 ≤ n ∧ n < 3) (all : List S48) (hall : all.length ≤ 1000) (j0 : Int) (j1 j2 : List Int) :
    Ev (fun k => palinoderef16_Pick.l4 k all (n + 2) T L s j0 j1 j2 true) (j0, j1, j2, botP T n all, true) := by
  have b4 : ∀ b, Ev (fun k => palinoderef16_Pick.l4 k all 4 T L s j0 j1 j2 b) (j0, j1, j2, b, true) := fun b => by
    refine Ev.step (f := fun k => some (j0, j1, j2, b, true)) (fun k => ?_) (Ev.now _)
    simp only [palinoderef16_Pick.l4]
    rw [if_neg (by omega)]
  have b3 : ∀ b, Ev (fun k => palinoderef16_Pick.l4 k all 3 T L s j0 j1 j2 b) (j0, j1, j2, b && (lev T 3).all (fun m => !meetB m all), true) := fun b =>
    bot_lev T L s 3 hT (by omega) all hall j0 j1 j2 _ b (b4 _)
  have b2 : ∀ b, Ev (fun k => palinoderef16_Pick.l4 k all 2 T L s j0 j1 j2 b) (j0, j1, j2, (b && (lev T 2).all (fun m => !meetB m all)) && (lev T 3).all (fun m => !meetB m all), true) := fun b =>
    bot_lev T L s 2 hT (by omega) all hall j0 j1 j2 _ b (b3 _)
  have hlev : ∀ v : Int, (lev T v).all (fun m => !meetB m all) = true ↔ ∀ m ∈ T, m.f1 = v → meetB m all = false := by
    intro v
    rw [List.all_eq_true]
    unfold lev
    constructor
    · intro h m hm1 hm2
      simpa using h m (List.mem_filter.2 ⟨hm1, by simpa using hm2⟩)
    · intro h m hm1
      rw [List.mem_filter] at hm1
      simpa using h m hm1.1 (by simpa using hm1.2)
  have hbot : botP T n all = true ↔ ∀ m ∈ T, m.f1 > n + 1 → meetB m all = false := by
    unfold botP
    rw [List.all_eq_true]
    constructor
    · intro h m hm1 hm2
      have := h m hm1
      rw [decide_eq_true hm2] at this
      simpa using this
    · intro h m hm1
      by_cases hg : m.f1 > n + 1
      · rw [h m hm1 hg]; simp
      · rw [decide_eq_false hg]; simp
  have h4 : ∀ m ∈ T, m.f1 < 4 := fun m h => (hm m h).2.2.2.1
  rcases (show n = 0 ∨ n = 1 ∨ n = 2 by omega) with rfl | rfl | rfl
  · have : botP T 0 all = ((true && (lev T 2).all (fun m => !meetB m all)) && (lev T 3).all (fun m => !meetB m all)) := by
      rw [Bool.eq_iff_iff, Bool.true_and, Bool.and_eq_true, hbot, hlev, hlev]
      constructor
      · exact fun h => ⟨fun m hm1 hm2 => h m hm1 (by omega), fun m hm1 hm2 => h m hm1 (by omega)⟩
      · intro h m hm1 hm2
        have := h4 m hm1
        rcases (show m.f1 = 2 ∨ m.f1 = 3 by omega) with e | e
        · exact h.1 m hm1 e
        · exact h.2 m hm1 e
    rw [this]
    exact b2 true
  · have : botP T 1 all = (true && (lev T 3).all (fun m => !meetB m all)) := by
      rw [Bool.eq_iff_iff, Bool.true_and, hbot, hlev]
      constructor
      · exact fun h m hm1 hm2 => h m hm1 (by omega)
      · intro h m hm1 hm2
        have := h4 m hm1
        exact h m hm1 (by omega)
    rw [this]
    exact b3 true
  · have : botP T 2 all = true := by
      rw [hbot]
      intro m hm1 hm2
      have := h4 m hm1
      omega
    rw [this]
    exact b4 true
theorem under_r (T : List S48) (L : List Int) (s : Int) (hT : T.length ≤ 200) (hm : ∀ a ∈ T, MetaOK a) (n : Int) (hn : 0 ≤ n ∧ n < 3) (l : List S48) (hl0 : l.length ≤ 200) (t : List S48) : ∀ (p u : List S48), (p ++ t).length ≤ 200 → u.length ≤ p.length →
    Ev (fun k => palinoderef16_Pick.l3 k n l (l ++ u) (p ++ t) (p.length : Int) T L s n (idsOf l) (idsOf u) true) (n, idsOf l, idsOf (u ++ t.filter (fun m => meetB m l)), botP T n (l ++ (u ++ t.filter (fun m => meetB m l))), true) := by
  induction t with
  | nil =>
    intro p u hl hu
    simp only [List.append_nil] at hl
    simp only [List.filter_nil, List.append_nil]
    have h1 := bottom_r T L s n (by omega) hm hn (l ++ u) (by rw [List.length_append]; omega) n (idsOf l) (idsOf u)
    refine Ev.step (fun k => ?_) h1
    simp only [palinoderef16_Pick.l3]
    rw [if_neg (by omega), w64 (n + 2) (by omega) (by omega)]
  | cons a t ih =>
    intro p u hl hu
    have hp : p.length < 1000 := by simp only [List.length_append, List.length_cons] at hl; omega
    have hk : (p.length : Int) < ((p ++ a :: t).length : Int) := by simp only [List.length_append, List.length_cons]; omega
    have hpl : p.length ≤ 200 := by rw [List.length_append] at hl; omega
    have e : ∀ k, palinoderef16_Pick.l3 (k + 1) n l (l ++ u) (p ++ a :: t) (p.length : Int) T L s n (idsOf l) (idsOf u) true = (palinoderef16_meets.f k a.f0 a.f1 a.f2 a.f3 a.f4 l).bind fun t303 => if t303 = true then palinoderef16_Pick.l3 k n l (l ++ (u ++ [a])) (p ++ a :: t) ((p.length : Int) + 1) T L s n (idsOf l) (idsOf (u ++ [a])) true else palinoderef16_Pick.l3 k n l (l ++ u) (p ++ a :: t) ((p.length : Int) + 1) T L s n (idsOf l) (idsOf u) true := fun k => by
      simp only [palinoderef16_Pick.l3, rd48_mid]
      rw [if_pos hk, if_pos (by omega), if_pos (by unfold idsOf; rw [List.length_map]; omega), if_pos (by rw [List.length_append]; omega), w64 ((p.length : Int) + 1) (by omega) (by omega)]
      simp only [idsOf, List.map_append, List.map_cons, List.map_nil, List.append_assoc]
    refine Ev.step e (Ev.bind (meet_R a l (by omega)) ?_)
    rw [List.filter_cons]
    cases meetB a l with
    | true =>
      have := ih (p ++ [a]) (u ++ [a]) (by rw [← app1]; exact hl) (by simp; omega)
      rw [← app1, len1, List.append_assoc u] at this
      simp only [if_true]
      exact this
    | false =>
      have := ih (p ++ [a]) u (by rw [← app1]; exact hl) (by simp; omega)
      rw [← app1, len1] at this
      simp only [Bool.false_eq_true, if_false]
      exact this
theorem in_r (T : List S48) (L : List Int) (s : Int) (n : Int) (hn : 0 ≤ n ∧ n < 3) (R : Int × List Int × List Int × Bool × Bool) (l : List S48) (hr : Ev (fun k => (palinoderef14_Level.f k T L s (n + 1)).bind fun t299 => palinoderef16_Pick.l3 k n l l t299 0 T L s n (idsOf l) [] true) R) (t : List S48) : ∀ p : List S48, l = p ++ t → l.length ≤ 200 →
    Ev (fun k => palinoderef16_Pick.l2 k n (p ++ t) p (p.length : Int) T L s n (idsOf p) true) R := by
  induction t with
  | nil =>
    intro p hp hl
    rw [List.append_nil] at hp
    subst hp
    simp only [List.append_nil]
    refine Ev.step (fun k => ?_) hr
    simp only [palinoderef16_Pick.l2]
    rw [if_neg (by omega), w64 (n + 1) (by omega) (by omega)]
  | cons a t ih =>
    intro p hp hl
    have hk : (p.length : Int) < ((p ++ a :: t).length : Int) := by simp only [List.length_append, List.length_cons]; omega
    have hpl : p.length ≤ 200 := by rw [hp, List.length_append] at hl; omega
    have := ih (p ++ [a]) (by rw [← app1]; exact hp) hl
    rw [← app1, len1] at this
    refine Ev.step (fun k => ?_) this
    simp only [palinoderef16_Pick.l2, rd48_mid]
    rw [if_pos hk, if_pos (by omega), if_pos (by unfold idsOf; rw [List.length_map]; omega), if_pos (by omega), w64 ((p.length : Int) + 1) (by omega) (by omega)]
    simp only [idsOf, List.map_append, List.map_cons, List.map_nil]
theorem tail_r (T : List S48) (L : List Int) (s : Int) (hT : T.length ≤ 200) (hm : ∀ a ∈ T, MetaOK a) (n : Int) (hn : 0 ≤ n ∧ n < 3) (l : List S48) (hl : l.length ≤ 200) (i : Int) :
    Ev (fun k => palinoderef16_Pick.j2 k n l i false T L s) (jobP T n l) := by
  have hlev := lev_len T (n + 1)
  have h3 := under_r T L s hT hm n hn l hl (lev T (n + 1)) [] [] (by simp only [List.nil_append]; omega) (Nat.le_refl _)
  simp only [List.nil_append, List.append_nil] at h3
  have h2 := in_r T L s n hn (jobP T n l) l (Ev.bind (level_R T L s (n + 1) (by omega)) h3) l [] rfl hl
  refine Ev.step (fun k => ?_) h2
  simp only [palinoderef16_Pick.j2]
  rw [if_neg (by simp), if_neg (by omega)]
  rfl
theorem done_r (T : List S48) (L : List Int) (s : Int) (hT : T.length ≤ 200) (hm : ∀ a ∈ T, MetaOK a) (n : Int) (hn : 0 ≤ n ∧ n < 3) (l : List S48) (hl : l.length ≤ 200) (i : Int) :
    Ev (fun k => palinoderef16_Pick.l0 k n l i T L s) (jobP T n l) := by
  refine Ev.step (fun k => ?_) (tail_r T L s hT hm n hn l hl i)
  simp only [palinoderef16_Pick.l0]
  rw [decide_eq_false (show ¬ n < 0 by omega)]
  split <;> rfl
theorem sum_in (T : List S48) (L : List Int) (s : Int) (l : List S48) (n : Int) (hn : 0 ≤ n ∧ n < 10) (lim : Int) (hlim : palinoderef16_Limit.f n = some lim) (h0 : 0 ≤ lim) (R : Int × List Int × List Int × Bool × Bool) (S : Int) (hr : Ev (fun k => if S > lim then palinoderef16_Pick.l0 k n (l.take 1) (n + 1) T L s else palinoderef16_Pick.l0 k (-1) l (n + 1) T L s) R) (hS : S > lim → l ≠ []) (t : List S48) : ∀ (p : List S48) (x : Int), l = p ++ t → 0 ≤ x → x ≤ 10000000 * (p.length : Int) → (∀ a ∈ t, MetaOK a) → x + sumB t = S → l.length ≤ 200 →
    Ev (fun k => palinoderef16_Pick.l1 k (-1) (p ++ t) n x (p.length : Int) T L s) R := by
  induction t with
  | nil =>
    intro p x hp hx0 hx1 hma hs hl
    rw [List.append_nil] at hp
    subst hp
    have hs : x = S := by rw [← hs]; show x = x + 0; omega
    subst hs
    refine Ev.step (fun k => ?_) hr
    simp only [palinoderef16_Pick.l1, List.append_nil, hlim, Option.bind_some]
    rw [if_neg (by omega), w64 (n + 1) (by omega) (by omega)]
    by_cases hg : x > lim
    · have hne := hS hg
      have : 1 ≤ (l.length : Int) := by
        have := List.length_pos_iff.2 hne
        omega
      rw [if_pos hg, if_pos hg, if_pos this]
      rfl
    · rw [if_neg hg, if_neg hg]
  | cons a t ih =>
    intro p x hp hx0 hx1 hma hs hl
    have hk : (p.length : Int) < ((p ++ a :: t).length : Int) := by simp only [List.length_append, List.length_cons]; omega
    have hpl : p.length ≤ 200 := by rw [hp, List.length_append] at hl; omega
    have h1 := hma a (List.mem_cons_self ..)
    have hb := h1.2.2.2.2.1
    have hb' := h1.2.2.2.2.2.1
    have hsum : sumB (a :: t) = a.f4 + sumB t := rfl
    rw [hsum] at hs
    have := ih (p ++ [a]) (x + a.f4) (by rw [← app1]; exact hp) (by omega) (by rw [len1]; omega) (fun b hb => hma b (List.mem_cons_of_mem _ hb)) (by omega) hl
    rw [← app1, len1] at this
    refine Ev.step (fun k => ?_) this
    simp only [palinoderef16_Pick.l1, rd48_mid]
    rw [if_pos hk, if_pos (by omega), w64 ((p.length : Int) + 1) (by omega) (by omega), w64 (x + a.f4) (by omega) (by omega)]
theorem lev_r (T : List S48) (L : List Int) (s : Int) (hT : T.length ≤ 200) (hm : ∀ a ∈ T, MetaOK a) (l0 : List S48) (n : Int) (hn : 1 ≤ n ∧ n < 3) (lim : Int) (hlim : palinoderef16_Limit.f n = some lim) (h0 : 0 ≤ lim) (R : Int × List Int × List Int × Bool × Bool) (hr : ∀ l, Ev (fun k => palinoderef16_Pick.l0 k (-1) l (n + 1) T L s) R) :
    Ev (fun k => palinoderef16_Pick.l0 k (-1) l0 n T L s) (if 0 + sumB (lev T n) > lim then jobP T n ((lev T n).take 1) else R) := by
  have hl := lev_len T n
  have hlm : ∀ a ∈ lev T n, MetaOK a := fun a h => hm a (lev_mem h).1
  have hne : 0 + sumB (lev T n) > lim → lev T n ≠ [] := by
    intro h e
    rw [e] at h
    have : sumB [] = 0 := rfl
    omega
  have key := sum_in T L s (lev T n) n (by omega) lim hlim h0 (if 0 + sumB (lev T n) > lim then jobP T n ((lev T n).take 1) else R) (0 + sumB (lev T n)) (by
    by_cases hg : 0 + sumB (lev T n) > lim
    · simp only [if_pos hg]
      exact done_r T L s hT hm n (by omega) _ (Nat.le_trans (List.length_take_le' ..) (by omega)) _
    · simp only [if_neg hg]
      exact hr _) hne (lev T n) [] 0 rfl (by omega) (by simp) hlm rfl (by omega)
  refine Ev.step (g := fun k => palinoderef16_Pick.l0 k (-1) l0 n T L s) (f := fun k => palinoderef16_Pick.j2 k (-1) l0 n true T L s) (fun k => ?_) (Ev.step (f := fun k => (palinoderef14_Level.f k T L s n).bind fun t282 => palinoderef16_Pick.l1 k (-1) t282 n 0 0 T L s) (fun k => ?_) (Ev.bind (level_R T L s n (by omega)) key))
  · simp only [palinoderef16_Pick.l0]
    rw [if_pos (by omega)]
    rfl
  · simp only [palinoderef16_Pick.j2]
    rw [if_pos trivial]
theorem pick_R (T : List S48) (L : List Int) (s : Int) (hl : T.length ≤ 60) : Ev (fun k => palinoderef16_Pick.f k T L s) (pickP T L s) := by
  unfold palinoderef16_Pick.f pickP
  refine Ev.bind (right_R T L s) ?_
  by_cases hr : rightB T L s = true
  · simp only [if_pos hr]
    have hm := rightB_meta hr
    refine Ev.bind (level_R T L s 0 (by omega)) ?_
    unfold firstP
    have h0 := lev_len T 0
    by_cases hg : ((lev T 0).length : Int) ≥ 3
    · simp only [if_pos hg]
      rw [if_neg (by omega)]
      refine Ev.step (fun k => ?_) (done_r T L s (by omega) hm 0 (by omega) (lev T 0) (by omega) 1)
      simp only [palinoderef16_Pick.j0]
    · simp only [if_neg hg]
      have e3 : ∀ l, Ev (fun k => palinoderef16_Pick.l0 k (-1) l 3 T L s) noJob := fun l => by
        refine Ev.step (g := fun k => palinoderef16_Pick.l0 k (-1) l 3 T L s) (f := fun k => palinoderef16_Pick.j2 k (-1) l 3 false T L s) (fun k => ?_) (Ev.step (f := fun k => some noJob) (fun k => ?_) (Ev.now _))
        · simp only [palinoderef16_Pick.l0]
          rw [if_neg (by omega)]
        · simp only [palinoderef16_Pick.j2]
          rw [if_neg (by simp), if_pos (by omega)]
          rfl
      have e2 := fun l => lev_r T L s (by omega) hm l 2 (by omega) 16000 rfl (by omega) noJob e3
      have e1 := lev_r T L s (by omega) hm (lev T 0) 1 (by omega) 4000 rfl (by omega) _ e2
      have e0 : Ev (fun k => palinoderef16_Pick.j0 k (-1) (lev T 0) T L s) _ := Ev.step (fun k => by simp only [palinoderef16_Pick.j0]) e1
      by_cases g1 : 0 + sumB (lev T 1) > 4000
      · rw [if_pos g1] at e0 ⊢
        rw [if_neg (by simp)]
        exact e0
      · rw [if_neg g1] at e0 ⊢
        by_cases g2 : 0 + sumB (lev T 2) > 16000
        · rw [if_pos g2] at e0 ⊢
          rw [if_neg (by simp)]
          exact e0
        · rw [if_neg g2] at e0 ⊢
          rw [if_pos (by simp)]
          exact e0
  · simp only [if_neg hr]
    exact Ev.now _
/-! ### the law -/
theorem mn_le (a : Int) (b : Int) (h : 0 ≤ a) (h' : 0 ≤ b) : 0 ≤ mn a b ∧ mn a b ≤ a ∧ mn a b ≤ b := by unfold mn; split <;> omega
theorem PickPicks_pure (T : List S48) (L : List Int) (s n : Int) (hT : ∀ a ∈ T, wf48 a) (hL : wfI L = true) : ∃ k, palinodelaw16_PickPicks.f k T L s n = some true := by
  refine Ev.rounds ?_
  unfold palinodelaw16_PickPicks.f
  obtain ⟨h1, h2, h3⟩ := mn_le (T.length : Int) 60 (by omega) (by omega)
  have hlen : (T.take ((mn (T.length : Int) 60) : Int).toNat).length ≤ 60 := by rw [List.length_take]; omega
  have hT' : ∀ a ∈ T.take ((mn (T.length : Int) 60) : Int).toNat, wf48 a := fun a h => hT a (List.mem_of_mem_take h)
  simp only [palinodelaw16_examples.f, Option.bind_some, if_pos h1, if_pos h2]
  refine Ev.bind (pick_I _ L s hlen hT' hL) (Ev.bind (pick_R _ L s hlen) ?_)
  have hids : ∀ l : List S48, (idsOf l).length = l.length := fun l => by unfold idsOf; rw [List.length_map]
  have hsz : ∀ T : List S48, T.length ≤ 60 → (pickP T L s).2.1.length ≤ 10000 ∧ (pickP T L s).2.2.1.length ≤ 10000 := by
    intro T hT
    unfold pickP
    split
    · split
      · simp [noJob]
      · have hf := firstP_range T
        have hu : (underP T (firstP T).1 (firstP T).2).length ≤ T.length := Nat.le_trans (List.length_filter_le _ _) (lev_len _ _)
        constructor
        · show (idsOf _).length ≤ _
          rw [hids]; omega
        · show (idsOf _).length ≤ _
          rw [hids]; omega
    · simp [noJob]
  obtain ⟨s1, s2⟩ := hsz _ hlen
  refine Ev.bind (numbers_I _ s1) (Ev.bind (numbers_I _ s2) ?_)
  obtain ⟨v, e1, e2⟩ := limit_eq n
  simp only [beq_self_eq_true, if_true, e1, e2, Option.bind_some]
  exact Ev.now _
end Go.Proofs.Ytonhjkghpkhioaa.PA

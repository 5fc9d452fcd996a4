/- Plain law of chapter 14, part 2: VersionApart. No condition. -/
import Derived.Test.YtoonheembcejfaaHLawA
import Derived.Test.YtoonheembcejfaaPAx22
namespace Go.Proofs.Ytoonheembcejfaa.PA
open Go.RowKit Go.Proofs.YtoonheembcejfaaW.PrintWords Go.Proofs.YtoonheembcejfaaW.PrintLast Go.Proofs.YtoonheembcejfaaW.PrintMore
set_option linter.unusedVariables false
set_option linter.unusedSimpArgs false
/-! ### Level -/
def lev (T : List S35) (n : Int) : List S35 := T.filter (fun a => a.f1 == n)
theorem lev_cons (a : S35) (T : List S35) (n : Int) : lev (a :: T) n = if a.f1 = n then a :: lev T n else lev T n := by
  unfold lev
  rw [List.filter_cons]
  by_cases h : a.f1 = n <;> simp [h]
theorem lev_len (T : List S35) (n : Int) : (lev T n).length ≤ T.length := List.length_filter_le _ _
theorem level_i (n : Int) (t : List S35) : ∀ (p acc : List S35), (p ++ t).length ≤ 10000000 → acc.length ≤ p.length →
    Ev (fun k => version_Level.l0 k n acc (p ++ t) ((p ++ t).length : Int) (p.length : Int)) (acc ++ lev t n) := by
  induction t with
  | nil =>
    intro p acc hl ha
    refine Ev.step (f := fun k => some acc) (fun k => ?_) (by rw [show lev [] n = [] from rfl, List.append_nil]; exact Ev.now _)
    simp only [version_Level.l0, List.append_nil]
    rw [if_neg (by omega)]
  | cons a t ih =>
    intro p acc hl ha
    have hp : p.length < 10000000 := by simp only [List.length_append, List.length_cons] at hl; omega
    have hk : (p.length : Int) < ((p ++ a :: t).length : Int) := by simp only [List.length_append, List.length_cons]; omega
    rw [lev_cons]
    by_cases h : a.f1 = n
    · rw [if_pos h]
      have := ih (p ++ [a]) (acc ++ [a]) (by rw [← app1]; exact hl) (by simp; omega)
      rw [← app1, len1, List.append_assoc] at this
      refine Ev.step (fun k => ?_) this
      simp only [version_Level.l0]
      rw [if_pos hk, if_pos (by omega), if_pos hk, rd48_mid, if_pos h, if_pos (by omega), w64 _ (by omega) (by omega)]
    · rw [if_neg h]
      have := ih (p ++ [a]) acc (by rw [← app1]; exact hl) (by simp; omega)
      rw [← app1, len1] at this
      refine Ev.step (fun k => ?_) this
      simp only [version_Level.l0]
      rw [if_pos hk, if_pos (by omega), if_pos hk, rd48_mid, if_neg h, w64 _ (by omega) (by omega)]
theorem level_I (T : List S35) (L : List Int) (s n : Int) (h : T.length ≤ 10000000) : Ev (fun k => version_Level.f k T L s n) (lev T n) :=
  level_i n T [] [] h (Nat.le_refl _)
/-! ### A version that is right -/
theorem pair_trans {b a c : S35} (ha : MetaOK a) (h1 : PairOK b a) (h2 : PairOK a c) : PairOK b c := by
  have hm : Op.bytesLess a.f3.toList a.f2.toList = false := ha.2.2.2.2.2.2.2.1
  unfold PairOK at *
  rcases h1 with h1 | ⟨e1, h1⟩
  · rcases h2 with h2 | ⟨e2, _⟩
    · left; omega
    · left; omega
  · rcases h2 with h2 | ⟨e2, h2⟩
    · left; omega
    · right
      refine ⟨by omega, ?_⟩
      rcases h1 with ⟨z1, h1⟩ | ⟨z1, h1⟩
      · rcases h2 with ⟨z2, h2⟩ | ⟨z2, h2⟩
        · left; exact ⟨z2, by omega⟩
        · omega
      · rcases h2 with ⟨z2, h2⟩ | ⟨z2, h2⟩
        · omega
        · right; exact ⟨z2, bl_trans _ _ _ h1 (bl_le_trans _ _ _ hm h2)⟩
theorem okT_pairs (t : List S35) : ∀ o, okT o t = true → t.Pairwise PairOK ∧ (∀ b, o = some b → ∀ a ∈ t, PairOK b a) := by
  induction t with
  | nil => intro o _; exact ⟨.nil, fun b _ a h => by cases h⟩
  | cons c t ih =>
    intro o h
    unfold okT at h
    rw [Bool.and_eq_true, Bool.and_eq_true] at h
    obtain ⟨h0, h1, h2⟩ := h
    obtain ⟨i1, i2⟩ := ih _ h2
    refine ⟨List.pairwise_cons.2 ⟨i2 c rfl, i1⟩, ?_⟩
    rintro b rfl a ha
    have h1 : PairOK b c := of_decide_eq_true h1
    rcases List.mem_cons.1 ha with rfl | ha
    · exact h1
    · exact pair_trans (of_decide_eq_true h0) h1 (i2 c rfl a ha)
theorem rightB_okT {T : List S35} {L : List Int} {s : Int} (h : rightB T L s = true) : okT none T = true := by
  unfold rightB at h
  rw [Bool.and_eq_true, Bool.and_eq_true, Bool.and_eq_true] at h
  exact h.2.2.1
theorem rightB_len {T : List S35} {L : List Int} {s : Int} (h : rightB T L s = true) : T.length ≤ 200 ∧ L.length ≤ 20 ∧ 0 ≤ s ∧ s ≤ 9007199254740991 := by
  unfold rightB at h
  rw [Bool.and_eq_true] at h
  exact of_decide_eq_true h.1
/-- On a level below the top no two tables share a key. -/
def Ap (b a : S35) : Prop := Op.bytesLess b.f3.toList a.f2.toList = true
theorem lev_apart {T : List S35} {L : List Int} {s : Int} (h : rightB T L s = true) (n : Int) (hn : 0 < n) : (lev T n).Pairwise Ap ∧ (∀ a ∈ lev T n, Op.bytesLess a.f3.toList a.f2.toList = false) ∧ (lev T n).length ≤ 200 := by
  refine ⟨?_, ?_, Nat.le_trans (lev_len T n) (rightB_len h).1⟩
  · have hp := ((okT_pairs T none (rightB_okT h)).1.filter (fun a => a.f1 == n))
    refine List.Pairwise.imp_of_mem ?_ hp
    intro a b ha hb hab
    have ha : a.f1 = n := by simpa using (List.mem_filter.1 ha).2
    have hb : b.f1 = n := by simpa using (List.mem_filter.1 hb).2
    unfold Ap
    rcases hab with h | ⟨_, ⟨h, _⟩ | ⟨_, h⟩⟩
    · omega
    · omega
    · exact h
  · intro a ha
    exact (rightB_meta h a (List.mem_filter.1 ha).1).2.2.2.2.2.2.2.1
theorem l1_I (key : ByteArray) (n : Int) (T : List S35) (L : List Int) (s : Int) (hK : Ev (fun k => palinodelaw14_VersionApart.l0 k key true (wrap64 (n + 1)) T L s) true) (t : List S35) :
    ∀ (p : List S35) (c : Int), (p ++ t).Pairwise Ap → (∀ a ∈ t, Op.bytesLess a.f3.toList a.f2.toList = false) → (p ++ t).length ≤ 200 → 0 ≤ c → c ≤ 1 → (c = 1 → ∀ a ∈ t, Op.bytesLess key.toList a.f2.toList = true) →
    Ev (fun k => palinodelaw14_VersionApart.l1 k key true n c (p ++ t) (p.length : Int) T L s) true := by
  induction t with
  | nil =>
    intro p c _ _ _ h0 h1 _
    refine Ev.step (fun k => ?_) hK
    simp only [palinodelaw14_VersionApart.l1, List.append_nil]
    rw [if_neg (by omega), if_neg (by omega)]
  | cons a t ih =>
    intro p c hp hm hl h0 h1 hc
    have hp2 : p.length < 200 := by simp only [List.length_append, List.length_cons] at hl; omega
    have hk : (p.length : Int) < ((p ++ a :: t).length : Int) := by simp only [List.length_append, List.length_cons]; omega
    have hma := hm a (by simp)
    have hta : ∀ b ∈ t, Ap a b := (List.pairwise_cons.1 (List.pairwise_append.1 hp).2.1).1
    have go : ∀ c', 0 ≤ c' → c' ≤ 1 → (c' = 1 → ∀ b ∈ t, Op.bytesLess key.toList b.f2.toList = true) → Ev (fun k => palinodelaw14_VersionApart.l1 k key true n c' (p ++ a :: t) ((p.length : Int) + 1) T L s) true := by
      intro c' h0' h1' hc'
      have := ih (p ++ [a]) c' (by rw [← app1]; exact hp) (fun b hb => hm b (by simp [hb])) (by rw [← app1]; exact hl) h0' h1' hc'
      rw [← app1, len1] at this
      exact this
    have hj : ∀ x, (x = true → c = 0 ∧ ∀ b ∈ t, Op.bytesLess key.toList b.f2.toList = true) → Ev (fun k => palinodelaw14_VersionApart.j2 k key true n c (p ++ a :: t) (p.length : Int) x T L s) true := by
      intro x hx
      have hlast : p = [] ∨ (0 : Int) < p.length ∧ 0 ≤ wrap64 ((p.length : Int) - 1) ∧ wrap64 ((p.length : Int) - 1) < ((p ++ a :: t).length : Int) ∧ Op.bytesLess (rd_T35 (p ++ a :: t) (wrap64 ((p.length : Int) - 1))).f3.toList a.f2.toList = true := by
        rcases last_cases p with rfl | ⟨q, b, rfl⟩
        · exact .inl rfl
        · refine .inr ?_
          have e1 : wrap64 (((q ++ [b]).length : Int) - 1) = (q.length : Int) := by rw [len1, w64 _ (by simp only [List.length_append, List.length_cons, List.length_nil] at hp2; omega) (by simp only [List.length_append, List.length_cons, List.length_nil] at hp2; omega)]; omega
          have e2 : rd_T35 (q ++ [b] ++ a :: t) (q.length : Int) = b := by rw [List.append_assoc, List.cons_append]; exact rd48_mid _ _ _
          rw [e1, e2]
          refine ⟨by rw [len1]; omega, by omega, by simp only [List.length_append, List.length_cons]; omega, ?_⟩
          exact (List.pairwise_append.1 hp).2.2 b (by simp) a (by simp)
      cases x with
      | true =>
        obtain ⟨rfl, hx2⟩ := hx rfl
        refine Ev.step (fun k => ?_) (go 1 (by omega) (by omega) (fun _ => hx2))
        simp only [palinodelaw14_VersionApart.j2, rd48_mid]
        rw [if_pos trivial, w64 ((p.length : Int) + 1) (by omega) (by omega), w64 (0 + 1) (by omega) (by omega)]
        rcases hlast with rfl | ⟨l1, l2, l3, l4⟩
        · rw [if_neg (by simp)]; rfl
        · rw [if_pos l1, if_pos l2, if_pos l3, if_pos (by omega), if_pos hk, if_pos l4]; rfl
      | false =>
        refine Ev.step (fun k => ?_) (go c h0 h1 (fun e b hb => hc e b (by simp [hb])))
        simp only [palinodelaw14_VersionApart.j2, rd48_mid]
        rw [if_neg (by simp), w64 ((p.length : Int) + 1) (by omega) (by omega)]
        rcases hlast with rfl | ⟨l1, l2, l3, l4⟩
        · rw [if_neg (by simp)]
        · rw [if_pos l1, if_pos l2, if_pos l3, if_pos (by omega), if_pos hk, if_pos l4]
    by_cases h : Op.bytesLess key.toList a.f2.toList = true
    · refine Ev.step (fun k => ?_) (hj false (fun h => by cases h))
      simp only [palinodelaw14_VersionApart.l1, rd48_mid]
      rw [if_pos hk, if_pos (by omega), if_pos h]
    · refine Ev.step (fun k => ?_) (hj (!Op.bytesLess a.f3.toList key.toList) (fun hx => ?_))
      · simp only [palinodelaw14_VersionApart.l1, rd48_mid]
        rw [if_pos hk, if_pos (by omega), if_neg h]
      · have hx : Op.bytesLess a.f3.toList key.toList = false := by simpa using hx
        refine ⟨?_, fun b hb => bl_le_trans _ _ _ hx (hta b hb)⟩
        by_cases h3 : c = 1
        · exact absurd (hc h3 a (by simp)) h
        · omega
theorem l0_I (key : ByteArray) (T : List S35) (L : List Int) (s : Int) (h : rightB T L s = true) (m : Nat) : ∀ n : Int, 0 < n → n + m = 4 → Ev (fun k => palinodelaw14_VersionApart.l0 k key true n T L s) true := by
  induction m with
  | zero =>
    intro n h0 hn
    refine Ev.step (f := fun k => some true) (fun k => ?_) (Ev.now _)
    simp only [palinodelaw14_VersionApart.l0]
    rw [if_neg (by omega)]
  | succ m ih =>
    intro n h0 hn
    have hlt : n < 4 := by omega
    have hw : wrap64 (n + 1) = n + 1 := w64 _ (by omega) (by omega)
    have hK : Ev (fun k => palinodelaw14_VersionApart.l0 k key true (wrap64 (n + 1)) T L s) true := by rw [hw]; exact ih (n + 1) (by omega) (by omega)
    obtain ⟨a1, a2, a3⟩ := lev_apart h n h0
    have e : ∀ k, palinodelaw14_VersionApart.l0 (k + 1) key true n T L s = (version_Level.f k T L s n).bind fun t => palinodelaw14_VersionApart.l1 k key true n 0 t 0 T L s := fun k => by
      simp only [palinodelaw14_VersionApart.l0]
      rw [if_pos hlt]
    refine Ev.step e (Ev.bind (level_I T L s n (Nat.le_trans (rightB_len h).1 (by omega))) ?_)
    exact l1_I key n T L s hK (lev T n) [] 0 a1 a2 a3 (by omega) (by omega) (by omega)
theorem VersionApart_pure (T : List S35) (L : List Int) (s : Int) (key : ByteArray) (hT : ∀ a ∈ T, wf35 a) (hL : wfI L = true) : ∃ k, palinodelaw14_VersionApart.f k T L s key = some true := by
  refine Ev.rounds (g := fun k => palinodelaw14_VersionApart.f k T L s key) ?_
  unfold palinodelaw14_VersionApart.f palinodelaw14_examples.f
  simp only [Option.bind_some]
  refine Ev.bind (right_I T L s hT hL) ?_
  by_cases h : rightB T L s = true
  · simp only [h, if_true]
    exact l0_I key T L s h 3 1 (by omega) (by omega)
  · simp only [if_neg h]
    exact Ev.now _
end Go.Proofs.Ytoonheembcejfaa.PA

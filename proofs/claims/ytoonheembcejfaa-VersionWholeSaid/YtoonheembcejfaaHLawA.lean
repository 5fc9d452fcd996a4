/- Plain law of chapter 14, part 1: the order of strings; ids; when a version is right. No condition. -/
import Derived.Test.YtoonheembcejfaaPAx2
import Derived.Test.YtoonheembcejfaaPAx3
import Derived.Test.YtoonheembcejfaaPAx4
namespace Go.Proofs.Ytoonheembcejfaa.PA
open Go.RowKit Go.Proofs.YtoonheembcejfaaW.PrintWords Go.Proofs.YtoonheembcejfaaW.PrintLast Go.Proofs.YtoonheembcejfaaW.PrintMore
set_option linter.unusedVariables false
set_option linter.unusedSimpArgs false
def wf35 (a : S35) : Prop := (Lit.int .i64 a.f0).wf = true ∧ (Lit.int .i64 a.f1).wf = true ∧ (Lit.int .i64 a.f4).wf = true
theorem bl_irrefl (x : List UInt8) : Op.bytesLess x x = false := by
  induction x with
  | nil => simp [Op.bytesLess]
  | cons a x ih => simp [Op.bytesLess, ih]
theorem bl_trans (x : List UInt8) : ∀ y z, Op.bytesLess x y = true → Op.bytesLess y z = true → Op.bytesLess x z = true := by
  induction x with
  | nil =>
    intro y z h1 h2
    cases y with
    | nil => simp [Op.bytesLess] at h1
    | cons b y => cases z with
      | nil => simp [Op.bytesLess] at h2
      | cons c z => simp [Op.bytesLess]
  | cons a x ih =>
    intro y z h1 h2
    cases y with
    | nil => simp [Op.bytesLess] at h1
    | cons b y => cases z with
      | nil => simp [Op.bytesLess] at h2
      | cons c z =>
        simp only [Op.bytesLess, Bool.or_eq_true, Bool.and_eq_true, decide_eq_true_eq, beq_iff_eq, UInt8.lt_iff_toNat_lt] at h1 h2 ⊢
        rcases h1 with h1 | ⟨rfl, h1⟩
        · rcases h2 with h2 | ⟨rfl, h2⟩
          · left; omega
          · left; exact h1
        · rcases h2 with h2 | ⟨rfl, h2⟩
          · left; exact h2
          · right; exact ⟨rfl, ih _ _ h1 h2⟩
theorem bl_total (x y : List UInt8) (h : Op.bytesLess x y = false) (h' : Op.bytesLess y x = false) : x = y := by
  have := bytesLeq x y
  rw [h, h'] at this
  simpa using this
theorem bl_le_trans (x y z : List UInt8) (h1 : Op.bytesLess y x = false) (h2 : Op.bytesLess y z = true) : Op.bytesLess x z = true := by
  cases h : Op.bytesLess x y with
  | true => exact bl_trans _ _ _ h h2
  | false => rw [bl_total _ _ h h1]; exact h2
theorem rd48_mid (p : List S35) (a : S35) (t : List S35) : rd_T35 (p ++ a :: t) (p.length : Int) = a := by
  simp [rd_T35]
theorem rd48_nat (T : List S35) (i : Nat) : rd_T35 T (i : Int) = T.getD i z35 := rfl
theorem w64 (x : Int) (h : -9223372036854775808 ≤ x) (h' : x ≤ 9223372036854775807) : wrap64 x = x := by unfold wrap64; omega
theorem app1 {α : Type} (p : List α) (a : α) (t : List α) : p ++ a :: t = (p ++ [a]) ++ t := by simp
theorem len1 {α : Type} (p : List α) (a : α) : ((p ++ [a]).length : Int) = (p.length : Int) + 1 := by simp
def idsOf (T : List S35) : List Int := T.map (·.f0)
theorem vids_i (T : List S35) (L : List Int) (s : Int) (hL : L.length ≤ 10000000) (t : List S35) : ∀ (p : List S35) (acc : List Int), (p ++ t).length ≤ 10000000 → acc.length ≤ p.length →
    Ev (fun k => version_ids.l0 k acc (p ++ t) ((p ++ t).length : Int) (p.length : Int) T L s) (acc ++ idsOf t ++ L) := by
  induction t with
  | nil =>
    intro p acc hl ha
    refine Ev.step (f := fun k => some (acc ++ L)) (fun k => ?_) (by rw [show idsOf [] = [] from rfl, List.append_nil]; exact Ev.now _)
    simp only [List.append_nil] at hl
    simp only [version_ids.l0, List.append_nil]
    rw [if_neg (by omega), if_pos (by omega)]
  | cons a t ih =>
    intro p acc hl ha
    have hp : p.length < 10000000 := by simp only [List.length_append, List.length_cons] at hl; omega
    have hk : (p.length : Int) < ((p ++ a :: t).length : Int) := by simp only [List.length_append, List.length_cons]; omega
    have := ih (p ++ [a]) (acc ++ [a.f0]) (by rw [← app1]; exact hl) (by simp; omega)
    rw [← app1, len1, List.append_assoc acc] at this
    refine Ev.step (fun k => ?_) this
    simp only [version_ids.l0]
    rw [if_pos hk, if_pos (by omega), if_pos hk, rd48_mid, if_pos (by omega), w64 _ (by omega) (by omega)]
theorem vids_I (T : List S35) (L : List Int) (s : Int) (h : T.length ≤ 10000000) (hL : L.length ≤ 10000000) : Ev (fun k => version_ids.f k T L s) (idsOf T ++ L) :=
  vids_i T L s hL T [] [] h (Nat.le_refl _)
theorem twice_I (l : List Int) (h : l.length ≤ 10000) (hw : wfI l = true) : version_twice.f l = some (dupI [] l) := by
  unfold version_twice.f
  rw [if_pos hw, if_pos (by omega)]
def MetaOK (a : S35) : Prop := 1 ≤ a.f0 ∧ a.f0 ≤ 9007199254740991 ∧ 0 ≤ a.f1 ∧ a.f1 < 4 ∧ 1 ≤ a.f4 ∧ a.f4 ≤ 1048576 ∧ a.f2.toList ≠ ([] : List UInt8) ∧ Op.bytesLess a.f3.toList a.f2.toList = false ∧ (a.f2.size : Int) ≤ 80 ∧ (a.f3.size : Int) ≤ 80
instance (a : S35) : Decidable (MetaOK a) := by unfold MetaOK; infer_instance
theorem meta_I (a : S35) : version_meta.f a.f0 a.f1 a.f2 a.f3 a.f4 = some (decide (MetaOK a)) := by
  unfold version_meta.f
  repeat' split
  all_goals first
    | (refine congrArg some (decide_eq_false ?_).symm
       rintro ⟨h0, h1, h2, h3, h4, h5, h6, h7, h8, h9⟩
       first | omega | (simp_all; done))
    | (refine congrArg some (decide_eq_decide.2 ⟨fun h => ⟨by omega, by omega, by omega, by omega, by omega, by omega, by assumption, by simpa using (by assumption : ¬ Op.bytesLess a.f3.toList a.f2.toList = true), by omega, h⟩, fun h => h.2.2.2.2.2.2.2.2.2⟩))
def cmpI (a b : Int) : Int := if a < b then -1 else if a > b then 1 else 0
def cmpS (a b : List UInt8) : Int := if Op.bytesLess a b = true then -1 else if Op.bytesLess b a = true then 1 else 0
def orI (a b : Int) : Int := if a = 0 then b else a
theorem cmpi_I (a b : Int) : cmp_Compare_int.f a b = some (cmpI a b) := by
  unfold cmp_Compare_int.f cmp_isNaN_int.f cmpI
  simp only [bne_self_eq_false, Option.bind_some, Bool.false_eq_true, if_false]
  by_cases h : a < b
  · simp only [if_pos h]
  · simp only [if_neg h]
    by_cases h : a > b
    · simp only [if_pos h]
    · simp only [if_neg h]
theorem cmps_I (a b : ByteArray) : cmp_Compare_string.f a b = some (cmpS a.toList b.toList) := by
  unfold cmp_Compare_string.f cmp_isNaN_string.f cmpS
  simp only [bne_self_eq_false, Option.bind_some, Bool.false_eq_true, if_false]
  by_cases h : Op.bytesLess a.toList b.toList = true
  · simp only [if_pos h]
  · simp only [if_neg h]
    by_cases h : Op.bytesLess b.toList a.toList = true
    · simp only [if_pos h]
    · simp only [if_neg h]
theorem or_I (a b : Int) : Ev (fun k => cmp_Or_int.f k [a, b]) (orI a b) := by
  refine Ev.of (k := 3) (fun k => cmp_Or_int.mono _ k) ?_
  unfold cmp_Or_int.f orI
  have e0 : rd [a, b] 0 = a := rfl
  have e1 : rd [a, b] 1 = b := rfl
  have w1 : wrap64 (0 + 1) = 1 := w64 _ (by omega) (by omega)
  have w2 : wrap64 (1 + 1) = 2 := w64 _ (by omega) (by omega)
  have el : (([a, b] : List Int).length : Int) = 2 := rfl
  simp only [cmp_Or_int.l0, e0, w1, w2, e1, el]
  rw [if_pos (by omega), if_pos (by omega), if_pos (by omega)]
  by_cases h : a = 0
  · rw [if_pos h, if_pos (by omega), if_pos (by omega), if_pos (by omega), if_pos h]
    by_cases h2 : b = 0
    · rw [if_pos h2, if_neg (by omega), h2]
    · rw [if_neg h2]
  · rw [if_neg h, if_neg h]
def cmpP (b a : S35) : Int := if b.f1 > 0 then orI (orI (cmpI b.f1 a.f1) (cmpS b.f2.toList a.f2.toList)) (cmpI b.f0 a.f0) else orI (cmpI b.f1 a.f1) (cmpI b.f0 a.f0)
theorem compare_I (b a : S35) : Ev (fun k => version_compare.f k b.f0 b.f1 b.f2 b.f3 b.f4 a.f0 a.f1 a.f2 a.f3 a.f4) (cmpP b a) := by
  unfold version_compare.f cmpP
  simp only [cmpi_I, cmps_I, Option.bind_some]
  by_cases h : b.f1 > 0
  · simp only [if_pos h]
    exact Ev.bind (or_I _ _) (Ev.bind (or_I _ _) (Ev.now _))
  · simp only [if_neg h]
    exact Ev.bind (or_I _ _) (Ev.now _)
def PairOK (b a : S35) : Prop := b.f1 < a.f1 ∨ b.f1 = a.f1 ∧ (a.f1 = 0 ∧ b.f0 < a.f0 ∨ 0 < a.f1 ∧ Op.bytesLess b.f3.toList a.f2.toList = true)
instance (b a : S35) : Decidable (PairOK b a) := by unfold PairOK; infer_instance
theorem cmpI_lt (a b : Int) : cmpI a b < 0 ↔ a < b := by unfold cmpI; repeat' split <;> omega
theorem cmpI_eq (a b : Int) : cmpI a b = 0 ↔ a = b := by unfold cmpI; repeat' split <;> omega
theorem orI_lt (a b : Int) : orI a b < 0 ↔ a < 0 ∨ a = 0 ∧ b < 0 := by unfold orI; split <;> omega
theorem cmpS_lt (a b : List UInt8) : cmpS a b < 0 ↔ Op.bytesLess a b = true := by
  unfold cmpS
  split
  · simp [*]
  · split <;> simp [*]
theorem pair_I (b a : S35) (hb : MetaOK b) (ha : MetaOK a) : PairOK b a ↔ cmpP b a < 0 ∧ ¬ (b.f1 = a.f1 ∧ a.f1 > 0 ∧ ¬ Op.bytesLess b.f3.toList a.f2.toList = true) := by
  obtain ⟨b0, b1, b2, b3, b4, b5, b6, b7, b8, b9⟩ := hb
  obtain ⟨a0, a1, a2, a3, a4, a5, a6, a7, a8, a9⟩ := ha
  unfold PairOK cmpP
  by_cases h1 : b.f1 < a.f1
  · have hc : cmpI b.f1 a.f1 < 0 := (cmpI_lt _ _).2 h1
    have : (if b.f1 > 0 then orI (orI (cmpI b.f1 a.f1) (cmpS b.f2.toList a.f2.toList)) (cmpI b.f0 a.f0) else orI (cmpI b.f1 a.f1) (cmpI b.f0 a.f0)) < 0 := by
      split
      · exact (orI_lt _ _).2 (.inl ((orI_lt _ _).2 (.inl hc)))
      · exact (orI_lt _ _).2 (.inl hc)
    exact ⟨fun _ => ⟨this, fun h => by omega⟩, fun _ => .inl h1⟩
  · by_cases h2 : b.f1 = a.f1
    · have hc : cmpI b.f1 a.f1 = 0 := (cmpI_eq _ _).2 h2
      rw [hc]
      by_cases h3 : b.f1 > 0
      · rw [if_pos h3, orI_lt, orI_lt, cmpS_lt]
        constructor
        · rintro (h | ⟨_, h | ⟨_, h⟩⟩)
          · omega
          · omega
          · exact ⟨.inl (.inr ⟨rfl, bl_le_trans _ _ _ b7 h⟩), fun hh => hh.2.2 h⟩
        · rintro ⟨_, h⟩
          refine .inr ⟨h2, .inr ⟨by omega, ?_⟩⟩
          refine Classical.byContradiction fun hn => h ⟨h2, by omega, hn⟩
      · rw [if_neg h3, orI_lt, cmpI_lt]
        constructor
        · rintro (h | ⟨_, ⟨_, h⟩ | ⟨h, _⟩⟩)
          · omega
          · exact ⟨.inr ⟨rfl, h⟩, fun hh => by omega⟩
          · omega
        · rintro ⟨h | ⟨_, h⟩, _⟩
          · omega
          · exact .inr ⟨h2, .inl ⟨by omega, h⟩⟩
    · have hc : ¬ cmpI b.f1 a.f1 < 0 := fun h => h1 ((cmpI_lt _ _).1 h)
      have hc' : ¬ cmpI b.f1 a.f1 = 0 := fun h => h2 ((cmpI_eq _ _).1 h)
      constructor
      · rintro (h | ⟨h, _⟩)
        · exact absurd h h1
        · exact absurd h h2
      · rintro ⟨h, _⟩
        exfalso
        split at h
        · rw [orI_lt, orI_lt] at h
          rcases h with (h | ⟨h, _⟩) | ⟨h, _⟩
          · exact hc h
          · exact hc' h
          · unfold orI at h
            rw [if_neg hc'] at h
            exact hc' h
        · rw [orI_lt] at h
          rcases h with h | ⟨h, _⟩
          · exact hc h
          · exact hc' h
def okT : Option S35 → List S35 → Bool
  | _, [] => true
  | o, a :: t => decide (MetaOK a) && ((match o with | none => true | some b => decide (PairOK b a)) && okT (some a) t)
theorem last_cases (p : List S35) : p = [] ∨ ∃ q b, p = q ++ [b] := by
  rcases List.eq_nil_or_concat p with h | ⟨q, b, h⟩
  · exact .inl h
  · exact .inr ⟨q, b, by simpa using h⟩
theorem rd48_last (q : List S35) (b : S35) (t : List S35) : rd_T35 (q ++ [b] ++ t) (wrap64 (((q ++ [b]).length : Int) - 1)) = rd_T35 (q ++ [b] ++ t) (wrap64 (((q ++ [b]).length : Int) - 1)) := rfl
theorem right_i (L : List Int) (s : Int) (t : List S35) : ∀ p : List S35, (p ++ t).length ≤ 10000000 → (∀ b, p.getLast? = some b → MetaOK b) →
    Ev (fun k => version_Right.l0 k (p ++ t) ((p ++ t).length : Int) (p.length : Int) (p ++ t) L s) (okT p.getLast? t) := by
  induction t with
  | nil =>
    intro p hl hb
    refine Ev.step (f := fun k => some true) (fun k => ?_) (Ev.now _)
    simp only [version_Right.l0, List.append_nil]
    rw [if_neg (by omega)]
  | cons a t ih =>
    intro p hl hb
    have hp : p.length < 10000000 := by simp only [List.length_append, List.length_cons] at hl; omega
    have hk : (p.length : Int) < ((p ++ a :: t).length : Int) := by simp only [List.length_append, List.length_cons]; omega
    unfold okT
    by_cases hm : MetaOK a
    · have := ih (p ++ [a]) (by rw [← app1]; exact hl) (fun b h => by simp at h; exact h ▸ hm)
      rw [← app1, len1] at this
      rw [show (p ++ [a]).getLast? = some a by simp] at this
      rw [decide_eq_true hm, Bool.true_and]
      rcases last_cases p with rfl | ⟨q, b, rfl⟩
      · refine Ev.step (fun k => ?_) this
        simp only [version_Right.l0, rd48_mid]
        rw [if_pos hk, if_pos (by omega), if_pos hk, meta_I, decide_eq_true hm]
        simp only [Option.bind_some]
        rw [if_pos trivial, if_pos (by simp), w64 _ (by omega) (by omega)]
      · have hq := hb b (by simp)
        have hpair := pair_I b a hq hm
        have e1 : wrap64 (((q ++ [b]).length : Int) - 1) = (q.length : Int) := by rw [len1, w64 _ (by simp only [List.length_append, List.length_cons, List.length_nil] at hp; omega) (by simp only [List.length_append, List.length_cons, List.length_nil] at hp; omega)]; omega
        have e2 : rd_T35 (q ++ [b] ++ a :: t) (q.length : Int) = b := by rw [List.append_assoc, List.cons_append]; exact rd48_mid _ _ _
        have hq2 : (q.length : Int) < ((q ++ [b] ++ a :: t).length : Int) := by simp only [List.length_append, List.length_cons]; omega
        have hq3 : ¬ ((q ++ [b]).length : Int) = 0 := by rw [len1]; omega
        simp only [show (q ++ [b]).getLast? = some b by simp]
        have step : ∀ k, version_Right.l0 (k + 1) (q ++ [b] ++ a :: t) ((q ++ [b] ++ a :: t).length : Int) ((q ++ [b]).length : Int) (q ++ [b] ++ a :: t) L s = (version_compare.f k b.f0 b.f1 b.f2 b.f3 b.f4 a.f0 a.f1 a.f2 a.f3 a.f4).bind fun t145 => if t145 ≥ 0 then some false else if b.f1 = a.f1 then (if a.f1 > 0 then (if Op.bytesLess b.f3.toList a.f2.toList = true then version_Right.l0 k (q ++ [b] ++ a :: t) ((q ++ [b] ++ a :: t).length : Int) (((q ++ [b]).length : Int) + 1) (q ++ [b] ++ a :: t) L s else some false) else version_Right.l0 k (q ++ [b] ++ a :: t) ((q ++ [b] ++ a :: t).length : Int) (((q ++ [b]).length : Int) + 1) (q ++ [b] ++ a :: t) L s) else version_Right.l0 k (q ++ [b] ++ a :: t) ((q ++ [b] ++ a :: t).length : Int) (((q ++ [b]).length : Int) + 1) (q ++ [b] ++ a :: t) L s := by
          intro k
          simp only [version_Right.l0, rd48_mid, e1, e2]
          rw [if_pos hk, if_pos (by omega), if_pos hk, meta_I, decide_eq_true hm]
          simp only [Option.bind_some]
          rw [if_pos trivial, if_neg hq3, if_pos (by omega), if_pos hq2, w64 (((q ++ [b]).length : Int) + 1) (by omega) (by omega)]
        refine Ev.step step (Ev.bind (compare_I b a) ?_)
        by_cases hc : cmpP b a < 0
        · simp only [if_neg (show ¬ cmpP b a ≥ 0 by omega)]
          by_cases h1 : b.f1 = a.f1
          · simp only [if_pos h1]
            by_cases h2 : a.f1 > 0
            · simp only [if_pos h2]
              by_cases h3 : Op.bytesLess b.f3.toList a.f2.toList = true
              · simp only [if_pos h3]
                rw [decide_eq_true (hpair.2 ⟨hc, fun h => h.2.2 h3⟩), Bool.true_and]
                exact this
              · simp only [if_neg h3]
                rw [decide_eq_false (fun h => (hpair.1 h).2 ⟨h1, h2, h3⟩), Bool.false_and]
                exact Ev.now _
            · simp only [if_neg h2]
              rw [decide_eq_true (hpair.2 ⟨hc, fun h => h2 h.2.1⟩), Bool.true_and]
              exact this
          · simp only [if_neg h1]
            rw [decide_eq_true (hpair.2 ⟨hc, fun h => h1 h.1⟩), Bool.true_and]
            exact this
        · simp only [if_pos (show cmpP b a ≥ 0 by omega)]
          rw [decide_eq_false (fun h => hc (hpair.1 h).1), Bool.false_and]
          exact Ev.now _
    · rw [decide_eq_false hm, Bool.false_and]
      refine Ev.step (f := fun k => some false) (fun k => ?_) (Ev.now _)
      simp only [version_Right.l0, rd48_mid]
      rw [if_pos hk, if_pos (by omega), if_pos hk, meta_I, decide_eq_false hm]
      simp
def rightB (T : List S35) (L : List Int) (s : Int) : Bool := decide (T.length ≤ 200 ∧ L.length ≤ 20 ∧ 0 ≤ s ∧ s ≤ 9007199254740991) && (!(L.any pRight) && (okT none T && !dupI [] (idsOf T ++ L)))
theorem right_I (T : List S35) (L : List Int) (s : Int) (hT : ∀ a ∈ T, wf35 a) (hL : wfI L = true) : Ev (fun k => version_Right.f k T L s) (rightB T L s) := by
  have hbad : Ev (fun k => version_Right.j0 k true T L s) false := by
    refine Ev.step (f := fun k => some false) (fun k => ?_) (Ev.now _)
    simp only [version_Right.j0]
    rw [if_pos trivial]
  unfold version_Right.f rightB
  by_cases h1 : (T.length : Int) > 200
  · simp only [if_pos h1]
    rw [decide_eq_false (by omega), Bool.false_and]
    exact hbad
  simp only [if_neg h1]
  by_cases h2 : (L.length : Int) > 20
  · simp only [if_pos h2]
    rw [decide_eq_false (by omega), Bool.false_and]
    exact hbad
  simp only [if_neg h2]
  by_cases h3 : s < 0
  · simp only [if_pos h3]
    rw [decide_eq_false (by omega), Bool.false_and]
    exact hbad
  simp only [if_neg h3]
  by_cases h4 : s > 9007199254740991
  · simp only [if_pos h4]
    rw [decide_eq_false (by omega), Bool.false_and]
    exact hbad
  simp only [if_neg h4]
  rw [decide_eq_true (by omega), Bool.true_and]
  refine Ev.bind (vids_I T L s (by omega) (by omega)) ?_
  have hlen : (idsOf T ++ L).length ≤ 10000 := by rw [List.length_append]; unfold idsOf; rw [List.length_map]; omega
  have hw : wfI (idsOf T ++ L) = true := by
    unfold wfI idsOf
    rw [List.all_append, Bool.and_eq_true]
    refine ⟨?_, hL⟩
    rw [List.all_eq_true]
    intro x hx
    obtain ⟨a, ha, rfl⟩ := List.mem_map.1 hx
    exact (hT a ha).1
  simp only [twice_I _ hlen hw, Option.bind_some]
  cases hd : dupI [] (idsOf T ++ L) with
  | true =>
    simp only [Bool.not_true, Bool.and_false]
    exact hbad
  | false =>
    have e : ∀ k, version_Right.j0 (k + 1) false T L s = (contains_Right_1.f L).bind fun t139 => if t139 = true then some false else version_Right.l0 k T (T.length : Int) 0 T L s := fun k => by
      simp only [version_Right.j0]
      rw [if_neg (by simp)]
    refine Ev.step e ?_
    unfold contains_Right_1.f
    rw [if_pos (by omega)]
    simp only [Option.bind_some, Bool.not_false, Bool.and_true]
    cases L.any pRight with
    | true => simp only [if_true, Bool.not_true, Bool.false_and]; exact Ev.now _
    | false =>
      simp only [Bool.false_eq_true, if_false, Bool.not_false, Bool.true_and]
      exact right_i L s T [] (by simp only [List.nil_append]; omega) (fun b h => by simp at h)
theorem okT_meta (t : List S35) : ∀ o, okT o t = true → ∀ a ∈ t, MetaOK a := by
  induction t with
  | nil => intro o _ a h; cases h
  | cons b t ih =>
    intro o h a ha
    unfold okT at h
    rw [Bool.and_eq_true, Bool.and_eq_true] at h
    rcases List.mem_cons.1 ha with rfl | ha
    · exact of_decide_eq_true h.1
    · exact ih _ h.2.2 a ha
theorem rightB_meta {T : List S35} {L : List Int} {s : Int} (h : rightB T L s = true) : ∀ a ∈ T, MetaOK a := by
  unfold rightB at h
  rw [Bool.and_eq_true, Bool.and_eq_true, Bool.and_eq_true] at h
  exact okT_meta T none h.2.2.1
/-! ### A version that is right -/
theorem pair_trans {b a c : S35} (ha : MetaOK a) (h1 : PairOK b a) (h2 : PairOK a c) : PairOK b c := by
  have hm : Op.bytesLess a.f3.toList a.f2.toList = false := ha.2.2.2.2.2.2.2.1
  unfold PairOK at *
  rcases h1 with h1 | ⟨e1, h1⟩
  · rcases h2 with h2 | ⟨e2, _⟩
    · left; omega
    · left; omega
  · rcases h2 with h2 | ⟨e2, h2⟩
    · left; omega
    · right
      refine ⟨by omega, ?_⟩
      rcases h1 with ⟨z1, h1⟩ | ⟨z1, h1⟩
      · rcases h2 with ⟨z2, h2⟩ | ⟨z2, h2⟩
        · left; exact ⟨z2, by omega⟩
        · omega
      · rcases h2 with ⟨z2, h2⟩ | ⟨z2, h2⟩
        · omega
        · right; exact ⟨z2, bl_trans _ _ _ h1 (bl_le_trans _ _ _ hm h2)⟩
theorem okT_pairs (t : List S35) : ∀ o, okT o t = true → t.Pairwise PairOK ∧ (∀ b, o = some b → ∀ a ∈ t, PairOK b a) := by
  induction t with
  | nil => intro o _; exact ⟨.nil, fun b _ a h => by cases h⟩
  | cons c t ih =>
    intro o h
    unfold okT at h
    rw [Bool.and_eq_true, Bool.and_eq_true] at h
    obtain ⟨h0, h1, h2⟩ := h
    obtain ⟨i1, i2⟩ := ih _ h2
    refine ⟨List.pairwise_cons.2 ⟨i2 c rfl, i1⟩, ?_⟩
    rintro b rfl a ha
    have h1 : PairOK b c := of_decide_eq_true h1
    rcases List.mem_cons.1 ha with rfl | ha
    · exact h1
    · exact pair_trans (of_decide_eq_true h0) h1 (i2 c rfl a ha)
theorem rightB_okT {T : List S35} {L : List Int} {s : Int} (h : rightB T L s = true) : okT none T = true := by
  unfold rightB at h
  rw [Bool.and_eq_true, Bool.and_eq_true, Bool.and_eq_true] at h
  exact h.2.2.1
theorem rightB_len {T : List S35} {L : List Int} {s : Int} (h : rightB T L s = true) : T.length ≤ 200 ∧ L.length ≤ 20 ∧ 0 ≤ s ∧ s ≤ 9007199254740991 := by
  unfold rightB at h
  rw [Bool.and_eq_true] at h
  exact of_decide_eq_true h.1
end Go.Proofs.Ytoonheembcejfaa.PA

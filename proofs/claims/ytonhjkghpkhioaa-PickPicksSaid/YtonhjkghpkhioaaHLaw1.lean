/- Plain law, part 1: the order of strings; the loops of Level, ids, meet in plain words. No condition. -/
import Derived.Test.YtonhjkghpkhioaaPAx3
import Derived.Test.YtonhjkghpkhioaaPAx5
import Derived.Test.YtonhjkghpkhioaaPAx6
import Derived.Test.YtonhjkghpkhioaaPAx9
import Derived.Test.YtonhjkghpkhioaaPAx11
namespace Go.Proofs.Ytonhjkghpkhioaa.PA
open Go.RowKit Go.Proofs.YtonhjkghpkhioaaW.PrintWords Go.Proofs.YtonhjkghpkhioaaW.PrintLast Go.Proofs.YtonhjkghpkhioaaW.PrintMore
set_option linter.unusedVariables false
set_option linter.unusedSimpArgs false
theorem bl_trans (x : List UInt8) : ∀ y z, Op.bytesLess x y = true → Op.bytesLess y z = true → Op.bytesLess x z = true := by
  induction x with
  | nil =>
    intro y z h1 h2
    cases y with
    | nil => simp [Op.bytesLess] at h1
    | cons b y => cases z with
      | nil => simp [Op.bytesLess] at h2
      | cons c z => simp [Op.bytesLess]
  | cons a x ih =>
    intro y z h1 h2
    cases y with
    | nil => simp [Op.bytesLess] at h1
    | cons b y => cases z with
      | nil => simp [Op.bytesLess] at h2
      | cons c z =>
        simp only [Op.bytesLess, Bool.or_eq_true, Bool.and_eq_true, decide_eq_true_eq, beq_iff_eq, UInt8.lt_iff_toNat_lt] at h1 h2 ⊢
        rcases h1 with h1 | ⟨rfl, h1⟩
        · rcases h2 with h2 | ⟨rfl, h2⟩
          · left; omega
          · left; exact h1
        · rcases h2 with h2 | ⟨rfl, h2⟩
          · left; exact h2
          · right; exact ⟨rfl, ih _ _ h1 h2⟩
theorem bl_total (x y : List UInt8) (h : Op.bytesLess x y = false) (h' : Op.bytesLess y x = false) : x = y := by
  have := bytesLeq x y
  rw [h, h'] at this
  simpa using this
theorem bl_le_trans (x y z : List UInt8) (h1 : Op.bytesLess y x = false) (h2 : Op.bytesLess y z = true) : Op.bytesLess x z = true := by
  cases h : Op.bytesLess x y with
  | true => exact bl_trans _ _ _ h h2
  | false => rw [bl_total _ _ h h1]; exact h2
/-! ### a list read by number -/
theorem rd48_mid (p : List S48) (a : S48) (t : List S48) : rd_T48 (p ++ a :: t) (p.length : Int) = a := by
  simp [rd_T48]
theorem rd48_nat (T : List S48) (i : Nat) : rd_T48 T (i : Int) = T.getD i z48 := rfl
theorem rd_mid (p : List Int) (a : Int) (t : List Int) : rd (p ++ a :: t) (p.length : Int) = a := by
  simp [rd]
theorem w64 (x : Int) (h : -9223372036854775808 ≤ x) (h' : x ≤ 9223372036854775807) : wrap64 x = x := by unfold wrap64; omega
theorem app1 {α : Type} (p : List α) (a : α) (t : List α) : p ++ a :: t = (p ++ [a]) ++ t := by simp
theorem len1 {α : Type} (p : List α) (a : α) : ((p ++ [a]).length : Int) = (p.length : Int) + 1 := by simp
/-! ### Level -/
def lev (T : List S48) (n : Int) : List S48 := T.filter (fun a => a.f1 == n)
theorem lev_cons (a : S48) (T : List S48) (n : Int) : lev (a :: T) n = if a.f1 = n then a :: lev T n else lev T n := by
  unfold lev
  rw [List.filter_cons]
  by_cases h : a.f1 = n <;> simp [h]
theorem lev_len (T : List S48) (n : Int) : (lev T n).length ≤ T.length := List.length_filter_le _ _
theorem level_i (n : Int) (t : List S48) : ∀ (p acc : List S48), (p ++ t).length ≤ 1000 → acc.length ≤ p.length →
    Ev (fun k => version_Level.l0 k n acc (p ++ t) ((p ++ t).length : Int) (p.length : Int)) (acc ++ lev t n) := by
  induction t with
  | nil =>
    intro p acc hl ha
    refine Ev.step (f := fun k => some acc) (fun k => ?_) (by rw [show lev [] n = [] from rfl, List.append_nil]; exact Ev.now _)
    simp only [version_Level.l0, List.append_nil]
    rw [if_neg (by omega)]
  | cons a t ih =>
    intro p acc hl ha
    have hp : p.length < 1000 := by simp only [List.length_append, List.length_cons] at hl; omega
    have hk : (p.length : Int) < ((p ++ a :: t).length : Int) := by simp only [List.length_append, List.length_cons]; omega
    rw [lev_cons]
    by_cases h : a.f1 = n
    · rw [if_pos h]
      have := ih (p ++ [a]) (acc ++ [a]) (by rw [← app1]; exact hl) (by simp; omega)
      rw [← app1, len1, List.append_assoc] at this
      refine Ev.step (fun k => ?_) this
      simp only [version_Level.l0]
      rw [if_pos hk, if_pos (by omega), if_pos hk, rd48_mid, if_pos h, if_pos (by omega), w64 _ (by omega) (by omega)]
    · rw [if_neg h]
      have := ih (p ++ [a]) acc (by rw [← app1]; exact hl) (by simp; omega)
      rw [← app1, len1] at this
      refine Ev.step (fun k => ?_) this
      simp only [version_Level.l0]
      rw [if_pos hk, if_pos (by omega), if_pos hk, rd48_mid, if_neg h, w64 _ (by omega) (by omega)]
theorem level_I (T : List S48) (L : List Int) (s n : Int) (h : T.length ≤ 1000) : Ev (fun k => version_Level.f k T L s n) (lev T n) :=
  level_i n T [] [] h (Nat.le_refl _)
theorem level_r (n : Int) (L : List Int) (s : Int) (t : List S48) : ∀ (p acc : List S48), (p ++ t).length ≤ 1000 → acc.length ≤ p.length →
    Ev (fun k => palinoderef14_Level.l0 k n acc (p.length : Int) (p ++ t) L s) (acc ++ lev t n) := by
  induction t with
  | nil =>
    intro p acc hl ha
    refine Ev.step (f := fun k => some acc) (fun k => ?_) (by rw [show lev [] n = [] from rfl, List.append_nil]; exact Ev.now _)
    simp only [palinoderef14_Level.l0, List.append_nil]
    rw [if_neg (by omega)]
  | cons a t ih =>
    intro p acc hl ha
    have hp : p.length < 1000 := by simp only [List.length_append, List.length_cons] at hl; omega
    have hk : (p.length : Int) < ((p ++ a :: t).length : Int) := by simp only [List.length_append, List.length_cons]; omega
    rw [lev_cons]
    by_cases h : a.f1 = n
    · rw [if_pos h]
      have := ih (p ++ [a]) (acc ++ [a]) (by rw [← app1]; exact hl) (by simp; omega)
      rw [← app1, len1, List.append_assoc] at this
      refine Ev.step (fun k => ?_) this
      simp only [palinoderef14_Level.l0]
      rw [if_pos hk, if_pos (by omega), rd48_mid, if_pos h, if_pos (by omega), w64 _ (by omega) (by omega)]
    · rw [if_neg h]
      have := ih (p ++ [a]) acc (by rw [← app1]; exact hl) (by simp; omega)
      rw [← app1, len1] at this
      refine Ev.step (fun k => ?_) this
      simp only [palinoderef14_Level.l0]
      rw [if_pos hk, if_pos (by omega), rd48_mid, if_neg h, w64 _ (by omega) (by omega)]
theorem level_R (T : List S48) (L : List Int) (s n : Int) (h : T.length ≤ 1000) : Ev (fun k => palinoderef14_Level.f k T L s n) (lev T n) :=
  level_r n L s T [] [] h (Nat.le_refl _)
/-! ### ids -/
def idsOf (T : List S48) : List Int := T.map (·.f0)
theorem pids_i (t : List S48) : ∀ (p : List S48) (acc : List Int), (p ++ t).length ≤ 1000 → acc.length ≤ p.length →
    Ev (fun k => pick_ids.l0 k acc (p ++ t) ((p ++ t).length : Int) (p.length : Int)) (acc ++ idsOf t) := by
  induction t with
  | nil =>
    intro p acc hl ha
    refine Ev.step (f := fun k => some acc) (fun k => ?_) (by rw [show idsOf [] = [] from rfl, List.append_nil]; exact Ev.now _)
    simp only [pick_ids.l0, List.append_nil]
    rw [if_neg (by omega)]
  | cons a t ih =>
    intro p acc hl ha
    have hp : p.length < 1000 := by simp only [List.length_append, List.length_cons] at hl; omega
    have hk : (p.length : Int) < ((p ++ a :: t).length : Int) := by simp only [List.length_append, List.length_cons]; omega
    have := ih (p ++ [a]) (acc ++ [a.f0]) (by rw [← app1]; exact hl) (by simp; omega)
    rw [← app1, len1, List.append_assoc] at this
    refine Ev.step (fun k => ?_) this
    simp only [pick_ids.l0]
    rw [if_pos hk, if_pos (by omega), if_pos hk, rd48_mid, if_pos (by omega), w64 _ (by omega) (by omega)]
theorem pids_I (T : List S48) (h : T.length ≤ 1000) : Ev (fun k => pick_ids.f k T) (idsOf T) :=
  pids_i T [] [] h (Nat.le_refl _)
theorem vids_i (T : List S48) (L : List Int) (s : Int) (hL : L.length ≤ 1000) (t : List S48) : ∀ (p : List S48) (acc : List Int), (p ++ t).length ≤ 1000 → acc.length ≤ p.length →
    Ev (fun k => version_ids.l0 k acc (p ++ t) ((p ++ t).length : Int) (p.length : Int) T L s) (acc ++ idsOf t ++ L) := by
  induction t with
  | nil =>
    intro p acc hl ha
    refine Ev.step (f := fun k => some (acc ++ L)) (fun k => ?_) (by rw [show idsOf [] = [] from rfl, List.append_nil]; exact Ev.now _)
    simp only [List.append_nil] at hl
    simp only [version_ids.l0, List.append_nil]
    rw [if_neg (by omega), if_pos (by omega)]
  | cons a t ih =>
    intro p acc hl ha
    have hp : p.length < 1000 := by simp only [List.length_append, List.length_cons] at hl; omega
    have hk : (p.length : Int) < ((p ++ a :: t).length : Int) := by simp only [List.length_append, List.length_cons]; omega
    have := ih (p ++ [a]) (acc ++ [a.f0]) (by rw [← app1]; exact hl) (by simp; omega)
    rw [← app1, len1, List.append_assoc acc] at this
    refine Ev.step (fun k => ?_) this
    simp only [version_ids.l0]
    rw [if_pos hk, if_pos (by omega), if_pos hk, rd48_mid, if_pos (by omega), w64 _ (by omega) (by omega)]
theorem vids_I (T : List S48) (L : List Int) (s : Int) (h : T.length ≤ 1000) (hL : L.length ≤ 1000) : Ev (fun k => version_ids.f k T L s) (idsOf T ++ L) :=
  vids_i T L s hL T [] [] h (Nat.le_refl _)
theorem vids_r (L : List Int) (s : Int) (hL : L.length ≤ 1000) (t : List S48) : ∀ (p : List S48) (acc : List Int), (p ++ t).length ≤ 1000 → acc.length ≤ p.length →
    Ev (fun k => palinoderef14_ids.l0 k acc (p.length : Int) (p ++ t) L s) (acc ++ idsOf t ++ L) := by
  induction t with
  | nil =>
    intro p acc hl ha
    refine Ev.step (f := fun k => some (acc ++ L)) (fun k => ?_) (by rw [show idsOf [] = [] from rfl, List.append_nil]; exact Ev.now _)
    simp only [List.append_nil] at hl
    simp only [palinoderef14_ids.l0, List.append_nil]
    rw [if_neg (by omega), if_pos (by omega)]
  | cons a t ih =>
    intro p acc hl ha
    have hp : p.length < 1000 := by simp only [List.length_append, List.length_cons] at hl; omega
    have hk : (p.length : Int) < ((p ++ a :: t).length : Int) := by simp only [List.length_append, List.length_cons]; omega
    have := ih (p ++ [a]) (acc ++ [a.f0]) (by rw [← app1]; exact hl) (by simp; omega)
    rw [← app1, len1, List.append_assoc acc] at this
    refine Ev.step (fun k => ?_) this
    simp only [palinoderef14_ids.l0]
    rw [if_pos hk, if_pos (by omega), rd48_mid, if_pos (by omega), w64 _ (by omega) (by omega)]
theorem vids_R (T : List S48) (L : List Int) (s : Int) (h : T.length ≤ 1000) (hL : L.length ≤ 1000) : Ev (fun k => palinoderef14_ids.f k T L s) (idsOf T ++ L) :=
  vids_r L s hL T [] [] h (Nat.le_refl _)
/-! ### meet -/
def loOf (x : ByteArray) (l : List S48) : ByteArray := l.foldl (fun x a => smn x a.f2) x
def hiOf (x : ByteArray) (l : List S48) : ByteArray := l.foldl (fun x a => smx x a.f3) x
def meetB (a : S48) (l : List S48) : Bool := match l with
  | [] => false
  | b :: t => !Op.bytesLess (hiOf b.f3 (b :: t)).toList a.f2.toList && !Op.bytesLess a.f3.toList (loOf b.f2 (b :: t)).toList
theorem meet_i (m : S48) (t : List S48) : ∀ (p : List S48) (x y : ByteArray), (p ++ t).length ≤ 1000 →
    Ev (fun k => pick_meet.l0 k x y (p ++ t) ((p ++ t).length : Int) (p.length : Int) m.f0 m.f1 m.f2 m.f3 m.f4) (!Op.bytesLess (hiOf y t).toList m.f2.toList && !Op.bytesLess m.f3.toList (loOf x t).toList) := by
  induction t with
  | nil =>
    intro p x y hl
    refine Ev.step (fun k => ?_) (Ev.now _)
    simp only [pick_meet.l0, List.append_nil]
    rw [if_neg (by omega)]
    show _ = some (!Op.bytesLess y.toList m.f2.toList && !Op.bytesLess m.f3.toList x.toList)
    cases Op.bytesLess y.toList m.f2.toList <;> rfl
  | cons a t ih =>
    intro p x y hl
    have hp : p.length < 1000 := by simp only [List.length_append, List.length_cons] at hl; omega
    have hk : (p.length : Int) < ((p ++ a :: t).length : Int) := by simp only [List.length_append, List.length_cons]; omega
    have := ih (p ++ [a]) (smn x a.f2) (smx y a.f3) (by rw [← app1]; exact hl)
    rw [← app1, len1] at this
    refine Ev.step (fun k => ?_) this
    simp only [pick_meet.l0]
    rw [if_pos hk, if_pos (by omega), if_pos hk, rd48_mid, w64 _ (by omega) (by omega)]
theorem meet_I (m : S48) (l : List S48) (h : l.length ≤ 1000) : Ev (fun k => pick_meet.f k m.f0 m.f1 m.f2 m.f3 m.f4 l) (meetB m l) := by
  cases l with
  | nil => exact Ev.now _
  | cons b t =>
    refine Ev.congr (fun k => ?_) (meet_i m (b :: t) [] b.f2 b.f3 h)
    show (if _ then _ else _) = _
    rw [if_neg (by simp only [List.length_cons]; omega), if_pos (by simp only [List.length_cons]; omega)]
    rfl
theorem meet_r (m : S48) (t : List S48) : ∀ (p : List S48) (x y : ByteArray), (p ++ t).length ≤ 1000 →
    Ev (fun k => palinoderef16_meets.l0 k (p ++ t) x y (p.length : Int) m.f0 m.f1 m.f2 m.f3 m.f4) (!Op.bytesLess (hiOf y t).toList m.f2.toList && !Op.bytesLess m.f3.toList (loOf x t).toList) := by
  induction t with
  | nil =>
    intro p x y hl
    refine Ev.step (fun k => ?_) (Ev.now _)
    simp only [palinoderef16_meets.l0, List.append_nil]
    rw [if_neg (by omega)]
    show _ = some (!Op.bytesLess y.toList m.f2.toList && !Op.bytesLess m.f3.toList x.toList)
    cases Op.bytesLess y.toList m.f2.toList <;> rfl
  | cons a t ih =>
    intro p x y hl
    have hp : p.length < 1000 := by simp only [List.length_append, List.length_cons] at hl; omega
    have hk : (p.length : Int) < ((p ++ a :: t).length : Int) := by simp only [List.length_append, List.length_cons]; omega
    have := ih (p ++ [a]) (smn x a.f2) (smx y a.f3) (by rw [← app1]; exact hl)
    rw [← app1, len1] at this
    refine Ev.step (fun k => ?_) this
    simp only [palinoderef16_meets.l0]
    rw [if_pos hk, if_pos (by omega), rd48_mid, w64 _ (by omega) (by omega)]
theorem meet_R (m : S48) (l : List S48) (h : l.length ≤ 1000) : Ev (fun k => palinoderef16_meets.f k m.f0 m.f1 m.f2 m.f3 m.f4 l) (meetB m l) := by
  cases l with
  | nil => exact Ev.now _
  | cons b t =>
    refine Ev.congr (fun k => ?_) (meet_r m (b :: t) [] b.f2 b.f3 h)
    show (if _ then _ else _) = _
    rw [if_neg (by simp only [List.length_cons]; omega), if_pos (by simp only [List.length_cons]; omega)]
    rfl
end Go.Proofs.Ytonhjkghpkhioaa.PA

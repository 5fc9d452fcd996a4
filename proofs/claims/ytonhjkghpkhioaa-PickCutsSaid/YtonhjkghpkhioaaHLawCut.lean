/- Plain law: pick.Cut's pieces are those of the document's answer. Condition: at most 1000 entries. -/
import Derived.Test.YtonhjkghpkhioaaHLaw1
import Derived.Test.YtonhjkghpkhioaaHCut
import Derived.Test.YtonhjkghpkhioaaPAx13
import Derived.Test.YtonhjkghpkhioaaPAx14
namespace Go.Proofs.Ytonhjkghpkhioaa.PA
open Go.RowKit Go.Proofs.YtonhjkghpkhioaaW.PrintWords Go.Proofs.YtonhjkghpkhioaaW.PrintLast Go.Proofs.YtonhjkghpkhioaaW.PrintMore
set_option linter.unusedVariables false
set_option linter.unusedSimpArgs false
theorem cutExt_same (l : List S45) : ∀ k n j, n ≤ j → j < cutExt l k n → (l.getD j z45).f0.toList = (l.getD (j - 1) z45).f0.toList
  | 0, n, j, h, h2 => by unfold cutExt at h2; omega
  | k + 1, n, j, h, h2 => by
    unfold cutExt at h2
    split at h2
    · split at h2
      · rename_i _ he
        rcases Nat.eq_or_lt_of_le h with rfl | hlt
        · exact he
        · exact cutExt_same l k (n + 1) j hlt h2
      · omega
    · omega
theorem cutExt_end (l : List S45) : ∀ k n, l.length ≤ n + k → cutExt l k n < l.length → (l.getD (cutExt l k n) z45).f0.toList ≠ (l.getD (cutExt l k n - 1) z45).f0.toList
  | 0, n, h, h2 => by unfold cutExt at h2; omega
  | k + 1, n, h, h2 => by
    unfold cutExt at h2 ⊢
    split at h2
    · rename_i hn
      rw [if_pos hn]
      split at h2
      · rename_i he
        rw [if_pos he]
        exact cutExt_end l k (n + 1) (by omega) h2
      · rename_i he
        rw [if_neg he]
        exact he
    · omega
theorem rd45_drop (L : List S45) (f r : Nat) : rd_T45 L ((f + r : Nat) : Int) = (L.drop f).getD r z45 := by
  unfold rd_T45
  rw [List.getD_eq_getElem?_getD, List.getD_eq_getElem?_getD, List.getElem?_drop]
  rfl
/-- Until a piece is whole nothing is cut. -/
theorem cut_skip (L : List S45) (many : Int) (hm : 1 ≤ many) (hL : L.length ≤ 1000) (acc : List (List S45)) (f : Nat) (hf : f < L.length) (R : List (List S45) × Bool)
    (hR : Ev (fun k => palinoderef16_Cut.l0 k L many acc (f : Int) ((f + (cutN many (L.drop f) - 1) : Nat) : Int)) R) : ∀ d r : Nat, r + d = cutN many (L.drop f) - 1 →
    Ev (fun k => palinoderef16_Cut.l0 k L many acc (f : Int) ((f + r : Nat) : Int)) R := by
  have hlen : (L.drop f).length = L.length - f := List.length_drop
  have hbd := cutN_bd many (L.drop f) hm (by omega)
  intro d
  induction d with
  | zero => intro r hr; rw [show r = cutN many (L.drop f) - 1 by omega]; exact hR
  | succ d ih =>
    intro r hr
    have := ih (r + 1) (by omega)
    have hc : f + r + 1 < L.length := by omega
    refine Ev.step (fun k => ?_) this
    have w1 : wrap64 (((f + r : Nat) : Int) + 1) = ((f + (r + 1) : Nat) : Int) := by rw [w64 _ (by omega) (by omega)]; omega
    have w2 : wrap64 ((L.length : Int) - 1) = (L.length : Int) - 1 := w64 _ (by omega) (by omega)
    simp only [palinoderef16_Cut.l0]
    rw [w1, w2, if_pos (by omega), if_neg (by omega), if_pos (by omega), if_pos (by omega), if_pos (by omega)]
    by_cases hk : (rd_T45 L ((f + (r + 1) : Nat) : Int)).f0.toList = (rd_T45 L ((f + r : Nat) : Int)).f0.toList
    · rw [if_pos hk]
    · rw [if_neg hk, if_neg]
      rw [w64 _ (by omega) (by omega)]
      intro hge
      apply hk
      rw [rd45_drop, rd45_drop]
      have := cutExt_same (L.drop f) (L.drop f).length (min many (L.drop f).length).toNat (r + 1) (by omega) (by show r + 1 < cutN many (L.drop f); omega)
      simpa using this
theorem cut_piece (L : List S45) (f c : Nat) : (L.take (f + c)).drop f = (L.drop f).take c := by
  rw [List.drop_take]; congr 1; omega
/-- One piece. -/
theorem cut_one (L : List S45) (many : Int) (hm : 1 ≤ many) (hL : L.length ≤ 1000) (acc : List (List S45)) (hacc : acc.length ≤ 1000) (f : Nat) (hf : f < L.length) (R : List (List S45) × Bool)
    (hR : Ev (fun k => palinoderef16_Cut.l0 k L many (acc ++ [(L.drop f).take (cutN many (L.drop f))]) ((f + cutN many (L.drop f) : Nat) : Int) ((f + cutN many (L.drop f) : Nat) : Int)) R) :
    Ev (fun k => palinoderef16_Cut.l0 k L many acc (f : Int) (f : Int)) R := by
  have hlen : (L.drop f).length = L.length - f := List.length_drop
  have hbd := cutN_bd many (L.drop f) hm (by omega)
  refine cut_skip L many hm hL acc f hf R ?_ (cutN many (L.drop f) - 1) 0 (by omega)
  have hend : cutN many (L.drop f) < (L.drop f).length → _ := cutExt_end (L.drop f) (L.drop f).length (min many (L.drop f).length).toNat (by omega)
  have hge := (cutExt_le (L.drop f) (L.drop f).length (min many (L.drop f).length).toNat (by omega)).1
  change (min many (L.drop f).length).toNat ≤ cutN many (L.drop f) at hge
  change cutN many (L.drop f) < (L.drop f).length → ((L.drop f).getD (cutN many (L.drop f)) z45).f0.toList ≠ ((L.drop f).getD (cutN many (L.drop f) - 1) z45).f0.toList at hend
  refine Ev.step (fun k => ?_) hR
  generalize cutN many (L.drop f) = c at *
  have w1 : wrap64 (((f + (c - 1) : Nat) : Int) + 1) = ((f + c : Nat) : Int) := by rw [w64 _ (by omega) (by omega)]; omega
  have w2 : wrap64 ((L.length : Int) - 1) = (L.length : Int) - 1 := w64 _ (by omega) (by omega)
  have w3 : wrap64 (((f + c : Nat) : Int) - (f : Int)) = (c : Int) := by rw [w64 _ (by omega) (by omega)]; omega
  have hp : (L.take (((f + c : Nat) : Int)).toNat).drop ((f : Int)).toNat = (L.drop f).take c := by
    rw [show (((f + c : Nat) : Int)).toNat = f + c by omega, show ((f : Int)).toNat = f by omega]
    exact cut_piece L f c
  simp only [palinoderef16_Cut.l0]
  rw [w1, w2, w3, hp, if_pos (show ((f + (c - 1) : Nat) : Int) < (L.length : Int) by omega)]
  by_cases hlast : ((f + (c - 1) : Nat) : Int) = (L.length : Int) - 1
  · rw [if_pos hlast]
    by_cases hcm : (c : Int) ≥ many
    · rw [if_pos hcm, if_pos (by omega), if_pos (by omega), if_pos (by omega), if_pos (by omega)]
    · rw [if_neg hcm, if_pos (by omega), if_pos (by omega), if_pos (by omega), if_pos (by omega)]
  · have hne := hend (by omega)
    rw [if_neg hlast, if_pos (by omega), if_pos (by omega), if_pos (by omega), if_neg, if_pos (by omega), if_pos (by omega), if_pos (by omega), if_pos (by omega), if_pos (by omega)]
    rw [rd45_drop, rd45_drop]
    exact hne
theorem cut_all (L : List S45) (many : Int) (hm : 1 ≤ many) (hL : L.length ≤ 1000) : ∀ (n f : Nat) (acc : List (List S45)), f ≤ L.length → L.length - f ≤ n → acc.length ≤ f →
    Ev (fun k => palinoderef16_Cut.l0 k L many acc (f : Int) (f : Int)) (acc ++ cutL many n (L.drop f), true) := by
  intro n
  induction n with
  | zero =>
    intro f acc hf hn ha
    refine Ev.step (f := fun k => some (acc, true)) (fun k => ?_) (by unfold cutL; rw [List.append_nil]; exact Ev.now _)
    simp only [palinoderef16_Cut.l0]
    rw [if_neg (by omega)]
  | succ n ih =>
    intro f acc hf hn ha
    have hlen : (L.drop f).length = L.length - f := List.length_drop
    unfold cutL
    by_cases h0 : (L.drop f).length = 0
    · rw [if_pos h0, List.append_nil]
      refine Ev.step (f := fun k => some (acc, true)) (fun k => ?_) (Ev.now _)
      simp only [palinoderef16_Cut.l0]
      rw [if_neg (by omega)]
    · rw [if_neg h0]
      have hbd := cutN_bd many (L.drop f) hm (by omega)
      have := ih (f + cutN many (L.drop f)) (acc ++ [(L.drop f).take (cutN many (L.drop f))]) (by omega) (by omega) (by simp; omega)
      rw [List.append_assoc, List.singleton_append, ← List.drop_drop] at this
      exact cut_one L many hm hL acc (by omega) f (by omega) _ this
theorem cut_R (L : List S45) (many : Int) (hL : L.length ≤ 1000) : Ev (fun k => palinoderef16_Cut.f k L many) (if many < 1 then (([] : List (List S45)), false) else (cutL many L.length L, true)) := by
  unfold palinoderef16_Cut.f
  by_cases hm : many < 1
  · simp only [if_pos hm]
    exact Ev.now _
  · simp only [if_neg hm]
    have := cut_all L many (by omega) hL L.length 0 [] (Nat.zero_le _) (by omega) (Nat.le_refl _)
    simpa using this
theorem entries_same (t : List S45) : ∀ p : List S45, (p ++ t).length ≤ 10000 → Ev (fun k => palinodelaw16_entries.l0 k (p ++ t) (p ++ t) (p.length : Int)) true := by
  induction t with
  | nil =>
    intro p hl
    refine Ev.step (f := fun k => some true) (fun k => ?_) (Ev.now _)
    simp only [palinodelaw16_entries.l0, List.append_nil]
    rw [if_neg (by omega)]
  | cons a t ih =>
    intro p hl
    have hk : (p.length : Int) < ((p ++ a :: t).length : Int) := by simp only [List.length_append, List.length_cons]; omega
    have := ih (p ++ [a]) (by rw [← app1]; exact hl)
    rw [← app1, len1] at this
    refine Ev.step (fun k => ?_) this
    simp only [palinodelaw16_entries.l0]
    rw [if_pos hk, if_pos (by omega), if_pos hk, if_neg (by simp), w64 _ (by omega) (by omega)]
theorem entries_I (l : List S45) (h : l.length ≤ 10000) : ∃ k, palinodelaw16_entries.f k l l = some true :=
  Ev.rounds (Ev.congr (fun k => by unfold palinodelaw16_entries.f; rw [if_pos rfl]; rfl) (entries_same l [] h))
theorem cutL_len (many : Int) (hm : 1 ≤ many) : ∀ (n : Nat) (l : List S45), ∀ x ∈ cutL many n l, x.length ≤ l.length := by
  intro n
  induction n with
  | zero => intro l x h; simp [cutL] at h
  | succ n ih =>
    intro l x h
    unfold cutL at h
    split at h
    · simp at h
    · rcases List.mem_cons.1 h with rfl | h
      · rw [List.length_take]; omega
      · have := ih _ x h
        rw [List.length_drop] at this
        omega
end Go.Proofs.Ytonhjkghpkhioaa.PA

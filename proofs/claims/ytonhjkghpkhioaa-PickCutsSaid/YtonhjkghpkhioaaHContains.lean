/- slices.ContainsFunc of whole numbers, asked by version.Right's own test. No condition. -/
import Derived.Test.YtonhjkghpkhioaaPAx2
namespace Go.Proofs.Ytonhjkghpkhioaa.PA
open Go.RowKit Go.Proofs.YtonhjkghpkhioaaW.PrintWords Go.Proofs.YtonhjkghpkhioaaW.PrintLast Go.Proofs.YtonhjkghpkhioaaW.PrintMore
set_option linter.unusedVariables false
set_option linter.unusedSimpArgs false
/-- where the first number stands at which p is true; -1: nowhere -/
def idxP (p : Int → Bool) : Int → List Int → Int
  | _, [] => -1
  | i, x :: l => if p x = true then i else idxP p (i + 1) l
theorem idxP_any (p : Int → Bool) (l : List Int) : ∀ i : Int, 0 ≤ i → (decide (idxP p i l ≥ 0)) = l.any p := by
  induction l with
  | nil => intro i _; simp [idxP]
  | cons x l ih =>
    intro i hi
    unfold idxP
    by_cases h : p x = true
    · simp [h, hi]
    · rw [if_neg h, ih (i + 1) (by omega)]
      simp [h]
theorem rd_drop (l : List Int) (j : Nat) (h : j < l.length) : l.drop j = rd l j :: l.drop (j + 1) := by
  rw [List.drop_eq_getElem_cons h]
  simp [rd, List.getD_eq_getElem?_getD, List.getElem?_eq_getElem h]
def pRight (x : Int) : Bool := decide (x < 1) || decide (x > 9007199254740991)
theorem pRight_f (x : Int) : version_Right_1.f x = some (pRight x) := by
  unfold version_Right_1.f pRight
  by_cases h : x < 1 <;> simp [h]
set_option maxHeartbeats 1000000 in
set_option maxRecDepth 100000 in
theorem index_Right_1.calls (A0 : Option Addr) (c0 : Nat) (l0 : List Int) (w : World) (hr0 : Kd.C (Kd.int .i64) w A0 l0.length l0) (hc0 : l0.length ≤ c0) (hl : l0.length ≤ 9223372036854775807) :
    Calls Try.prog 35 #[.slice A0 l0.length c0, .func (.func 28) #[] #[]] w fun e w' => e = .returned (.int .i64 (idxP pRight 0 l0)) ∧ Drawn0 w w' := by
  have HR0 := Aside0.mk hr0
  have HL := Aside0.mk hl
  clear hr0 hc0 hl
  go_enter Try.func35, Try.ntmps35
  go_wp2
  go_loopg [8] l0.length (fun kq v8 w' => ∃ x : Int, v8 = .int .i64 x ∧ Aside0 (0 ≤ x ∧ x ≤ l0.length ∧ (kq : Int) = l0.length - x) ∧ Aside0 (idxP pRight 0 l0 = idxP pRight x (l0.drop x.toNat)) ∧ Drawn0 w w')
  case atStart => exact ⟨0, rfl, ⟨by omega⟩, ⟨by simp⟩, Drawn0.refl _⟩
  case round =>
    obtain ⟨x, rfl, HJ, HD, ⟨m1, rfl⟩⟩ := hrel
    by_cases hlt : x < (l0.length : Int)
    · have hd := HD.out
      have hj := HJ.out
      rw [rd_drop l0 x.toNat (by omega), Int.toNat_of_nonneg hj.1, idxP] at hd
      obtain ⟨ad, e, hc⟩ := Kd.at_int HR0.out x hj.1 hlt
      cases e
      obtain ⟨y, hxx⟩ : ∃ y, y = rd l0 x := ⟨_, rfl⟩
      rw [← hxx] at hc hd
      have HLT := Aside0.mk hlt
      have p1 := eq_true hj.1
      have q1 := eq_true hlt
      have c1 := decide_eq_true hlt
      clear hxx hj hlt HD
      by_cases hin : pRight y = true
      · rw [if_pos hin] at hd
        have HD := Aside0.mk hd
        have HF := Aside0.mk (pRight_f y)
        rw [hin] at HF
        clear hd hin
        go_wp2_with (first | (go_at_call 28; refine (version_Right_1.calls y true _ HF.out).mono ?_; rintro e w' ⟨rfl, ⟨nd, rfl⟩⟩))
        go_ret
        exact ⟨by rw [HD.out]; rfl, ⟨_, by first | rfl | exact World.drewN_drewN _ _ _⟩⟩
      · rw [if_neg hin] at hd
        have HD := Aside0.mk hd
        have HF := Aside0.mk (pRight_f y)
        rw [Bool.eq_false_iff.mpr hin] at HF
        clear hd hin
        go_wp2_with (first | (go_at_call 28; refine (version_Right_1.calls y false _ HF.out).mono ?_; rintro e w' ⟨rfl, ⟨nd, rfl⟩⟩))
        have hn : wrap64 (x + 1) = x + 1 := by have := HL.out; have := HJ.out; have := HLT.out; unfold wrap64; omega
        have hm : (x + 1).toNat = x.toNat + 1 := by have := HJ.out; omega
        have HN := Aside0.mk hn
        have HM := Aside0.mk hm
        clear hn hm
        go_roundg (gk - 1)
        case rel => exact ⟨_, rfl, ⟨by have := HJ.out; have := HLT.out; rw [HN.out]; omega⟩, ⟨by rw [HN.out, HM.out, HD.out]⟩, ⟨_, by first | rfl | exact World.drewN_drewN _ _ _⟩⟩
        case measure => have := HJ.out; have := HLT.out; omega
    · have hr : idxP pRight 0 l0 = -1 := by
        have := HJ.out
        rw [HD.out, List.drop_of_length_le (by omega)]
        rfl
      have HR := Aside0.mk hr
      have c1 := decide_eq_false hlt
      clear hr hlt HD
      go_wp2
      go_ret
      exact ⟨by rw [HR.out]; rfl, ⟨_, rfl⟩⟩
def contains_Right_1.f (l0 : List Int) : Option Bool := if l0.length ≤ 9223372036854775807 then some (l0.any pRight) else none
theorem contains_Right_1.calls (A0 : Option Addr) (c0 : Nat) (l0 : List Int) (r : Bool) (w : World) (hr0 : Kd.C (Kd.int .i64) w A0 l0.length l0) (hc0 : l0.length ≤ c0) (h : contains_Right_1.f l0 = some r) :
    Calls Try.prog 27 #[.slice A0 l0.length c0, .func (.func 28) #[] #[]] w fun e w' => e = .returned (.bool r) ∧ Drawn0 w w' := by
  unfold contains_Right_1.f at h
  by_cases hl : l0.length ≤ 9223372036854775807
  · rw [if_pos hl] at h
    have hr := (idxP_any pRight l0 0 (by omega)).trans (Option.some.inj h)
    have HR := Aside0.mk hr
    have HC := index_Right_1.calls A0 c0 l0 w hr0 hc0 hl
    generalize idxP pRight 0 l0 = z at HC HR
    have HR' := HR.out
    have HCC := Aside0.mk HC
    clear HC HR hr0 hc0 h hl hr
    go_enter Try.func27, Try.ntmps27
    go_wp2_with (first | (go_at_call 35; refine HCC.out.mono ?_; rintro e w' ⟨rfl, ⟨nd, rfl⟩⟩))
    go_ret
    exact ⟨by first | rfl | simp [*], ⟨_, rfl⟩⟩
  · rw [if_neg hl] at h
    exact absurd h (by simp)
end Go.Proofs.Ytonhjkghpkhioaa.PA

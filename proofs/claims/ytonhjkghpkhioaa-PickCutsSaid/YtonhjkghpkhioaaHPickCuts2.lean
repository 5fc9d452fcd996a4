/- PickCuts answers true whatever the list and the number. No condition. -/
import Derived.Test.YtonhjkghpkhioaaHPickCuts
namespace Go.Proofs.Ytonhjkghpkhioaa.PA
open Go.RowKit Go.Proofs.YtonhjkghpkhioaaW.PrintWords Go.Proofs.YtonhjkghpkhioaaW.PrintLast Go.Proofs.YtonhjkghpkhioaaW.PrintMore
theorem cutL_many (many : Int) (hm : 1 ≤ many) : ∀ (n : Nat) (l : List S45), (cutL many n l).length ≤ l.length := by
  intro n
  induction n with
  | zero => intro l; simp [cutL]
  | succ n ih =>
    intro l
    unfold cutL
    split
    · simp
    · have hbd := cutN_bd many l hm (by omega)
      have := ih (l.drop (cutN many l))
      rw [List.length_drop] at this
      simp only [List.length_cons]
      omega
theorem palinodelaw16_PickCuts.all (A0 : Option Addr) (c0 : Nat) (l0 : List S45) (a1 : Int) (w : World) (hr0 : Kd.C k45 w A0 l0.length l0) (hc0 : l0.length ≤ c0) :
    Calls Try.prog 4 #[.slice A0 l0.length c0, .int .i64 a1] w fun e w' => e = .returned (.bool true) ∧ Below w.heap.size w w' := by
  have hL : (l0.take (min l0.length 200)).length ≤ 200 := by rw [List.length_take]; omega
  obtain ⟨kc, hkc⟩ := Ev.rounds (cut_R (l0.take (min l0.length 200)) a1 (by omega))
  by_cases h : a1 < 1
  · rw [if_pos h] at hkc
    exact palinodelaw16_PickCuts.main0 A0 c0 l0 a1 _ kc w hr0 hc0 rfl hkc (by unfold pick_Cut.f; rw [if_pos h])
  · rw [if_neg h] at hkc
    refine palinodelaw16_PickCuts.main A0 c0 l0 a1 _ _ kc w hr0 hc0 rfl hkc (by unfold pick_Cut.f; rw [if_neg h, if_pos (by omega), if_pos (by omega)]) (fun x hx => ?_) ?_
    · have := cutL_len a1 (by omega) _ _ x hx
      omega
    · have := cutL_many a1 (by omega) (l0.take (min l0.length 200)).length (l0.take (min l0.length 200))
      omega
end Go.Proofs.Ytonhjkghpkhioaa.PA

/- slices.IndexFunc and slices.ContainsFunc at Meta, asked by any function value that keeps to its contract. Condition: that contract. -/
import Derived.Test.YtoonheembcejfaaHPred
namespace Go.Proofs.Ytoonheembcejfaa.PA
open Go.RowKit Go.Proofs.YtoonheembcejfaaW.PrintWords Go.Proofs.YtoonheembcejfaaW.PrintLast Go.Proofs.YtoonheembcejfaaW.PrintMore
set_option linter.unusedVariables false
set_option linter.unusedSimpArgs false
set_option maxHeartbeats 1000000 in
set_option maxRecDepth 100000 in
theorem indexMeta.calls {g : Nat} {lb : Array Value} {p : S35 → Bool} (A0 : Option Addr) (c0 : Nat) (l0 : List S35) (w : World) (hr0 : Kd.C k35 w A0 l0.length l0) (hc0 : l0.length ≤ c0) (hl : l0.length ≤ 9223372036854775807) (eg : Enters g) (ht : Tells g lb enc35 p (· ∈ l0) w none) :
    Calls Try.prog 71 #[.slice A0 l0.length c0, .func (.func g) #[] lb] w fun e w' => e = .returned (.int .i64 (idxA p 0 l0)) ∧ Below w.heap.size w w' := by
  have HR0 := Ad.mk hr0
  have HL := Ad.mk hl
  have HT := Ad.mk ht
  unfold Enters at eg
  clear hr0 hc0 hl ht
  go_enter Try.func71, Try.ntmps71
  go_wp2
  go_loopg [8] l0.length (fun kq v8 w' => ∃ x : Int, v8 = .int .i64 x ∧ Ad (0 ≤ x ∧ x ≤ l0.length ∧ (kq : Int) = l0.length - x) ∧ Ad (idxA p 0 l0 = idxA p x (l0.drop x.toNat)) ∧ Ad (Below w.heap.size w w'))
  case atStart => exact ⟨0, rfl, ⟨by omega⟩, ⟨by simp⟩, ⟨Below.refl _ _⟩⟩
  case round =>
    obtain ⟨x, rfl, HJ, HD, HB⟩ := hrel
    by_cases hlt : x < (l0.length : Int)
    · have hd := HD.out
      have hj := HJ.out
      rw [drop_getD l0 x.toNat z35 (by omega), idxA] at hd
      obtain ⟨ad, e, hx0, hx1, hx2, hx3, hx4⟩ := at_T35 HR0.out x hj.1 hlt
      cases e
      replace hx0 := (HB.out.cell (World.block_lt_of_cell? w _ hx0)).trans hx0
      replace hx1 := (HB.out.cell (World.block_lt_of_cell? w _ hx1)).trans hx1
      replace hx2 := (HB.out.cell (World.block_lt_of_cell? w _ hx2)).trans hx2
      replace hx3 := (HB.out.cell (World.block_lt_of_cell? w _ hx3)).trans hx3
      replace hx4 := (HB.out.cell (World.block_lt_of_cell? w _ hx4)).trans hx4
      obtain ⟨y, hxx⟩ : ∃ y, y = rd_T35 l0 x := ⟨_, rfl⟩
      change idxA p 0 l0 = if p (rd_T35 l0 x) = true then _ else _ at hd
      rw [← hxx] at hx0 hx1 hx2 hx3 hx4 hd
      have HY := Ad.mk (show y ∈ l0 by rw [hxx]; exact getD_mem l0 x.toNat _ (by omega))
      have HLT := Ad.mk hlt
      have HCALL := Ad.mk (HT.out y wr HY.out (grown_of_below HB.out none))
      have p1 := eq_true hj.1
      have q1 := eq_true hlt
      have c1 := decide_eq_true hlt
      clear hxx hj hlt HD HT
      by_cases hin : p y = true
      · rw [if_pos hin] at hd
        have HD := Ad.mk hd
        have hcall := HCALL.out
        rw [hin] at hcall
        have HC2 := Ad.mk hcall
        clear hd hin HCALL hcall
        go_wp2_with (first | (go_at_fn g; refine HC2.out.mono ?_; rintro e w1 ⟨rfl, hb⟩; have HB2 := Ad.mk (below_then HB.out HB.out.size hb); clear hb))
        go_ret
        exact ⟨by rw [HD.out]; rfl, HB2.out⟩
      · rw [if_neg hin] at hd
        have HD := Ad.mk hd
        have hcall := HCALL.out
        rw [Bool.eq_false_iff.mpr hin] at hcall
        have HC2 := Ad.mk hcall
        clear hd hin HCALL hcall
        go_wp2_with (first | (go_at_fn g; refine HC2.out.mono ?_; rintro e w1 ⟨rfl, hb⟩; have HB2 := Ad.mk (below_then HB.out HB.out.size hb); clear hb))
        have hn : wrap64 (x + 1) = x + 1 := by have := HL.out; have := HJ.out; have := HLT.out; unfold wrap64; omega
        have hm : (x + 1).toNat = x.toNat + 1 := by have := HJ.out; omega
        have HN := Ad.mk hn
        have HM := Ad.mk hm
        clear hn hm
        go_roundg (gk - 1)
        case rel => exact ⟨_, rfl, ⟨by have := HJ.out; have := HLT.out; rw [HN.out]; omega⟩, ⟨by rw [HN.out, HM.out, HD.out]⟩, ⟨HB2.out⟩⟩
        case measure => have := HJ.out; have := HLT.out; omega
    · have hr : idxA p 0 l0 = -1 := by
        have := HJ.out
        rw [HD.out, List.drop_of_length_le (by omega)]
        rfl
      have HR := Ad.mk hr
      have c1 := decide_eq_false hlt
      clear hr hlt HD
      go_wp2
      go_ret
      exact ⟨by rw [HR.out]; rfl, HB.out⟩
set_option maxHeartbeats 1000000 in
theorem containsMeta.calls {g : Nat} {lb : Array Value} {p : S35 → Bool} (A0 : Option Addr) (c0 : Nat) (l0 : List S35) (r : Bool) (w : World) (hr0 : Kd.C k35 w A0 l0.length l0) (hc0 : l0.length ≤ c0) (hl : l0.length ≤ 9223372036854775807) (eg : Enters g) (ht : Tells g lb enc35 p (· ∈ l0) w none) (hr : l0.any p = r) :
    Calls Try.prog 39 #[.slice A0 l0.length c0, .func (.func g) #[] lb] w fun e w' => e = .returned (.bool r) ∧ Below w.heap.size w w' := by
  have hr1 := (idxA_any p l0 0 (by omega)).trans hr
  have HR := Ad.mk hr1
  have HC := indexMeta.calls A0 c0 l0 w hr0 hc0 hl eg ht
  generalize idxA p 0 l0 = z at HC HR
  have HR' := HR.out
  have HCC := Ad.mk HC
  clear HC HR hr0 hc0 hl hr hr1 ht
  go_enter Try.func39, Try.ntmps39
  go_wp2_with (first | (go_at_call 71; refine HCC.out.mono ?_; rintro e w' ⟨rfl, hb⟩; have HB := Ad.mk hb; clear hb))
  go_ret
  exact ⟨by first | rfl | simp [*], HB.out⟩
end Go.Proofs.Ytoonheembcejfaa.PA

/- version.twice: whether a number stands twice in a list (asked by a map that the call makes). Condition: the numbers are of 64 bits; no more than 10^12 of them. -/
import Derived.Test.YtoonheembcejfaaPAx0
namespace Go.Proofs.Ytoonheembcejfaa.PA
open Go.RowKit Go.Proofs.YtoonheembcejfaaW.PrintWords Go.Proofs.YtoonheembcejfaaW.PrintLast Go.Proofs.YtoonheembcejfaaW.PrintMore
set_option linter.unusedVariables false
set_option linter.unusedSimpArgs false
def version_twice.f (l0 : List Int) : Option Bool := if wfI l0 = true then (if l0.length ≤ 1000000000000 then some (dupI [] l0) else none) else none
theorem version_twice.zero4 (w : World) : (zeroValue 4).run Try.prog w = .ok (.bool false) w := by kernel_rfl
theorem version_twice.rd_drop (l : List Int) (j : Nat) (h : j < l.length) : l.drop j = rd l j :: l.drop (j + 1) := by
  rw [List.drop_eq_getElem_cons h]
  simp [rd, List.getD_eq_getElem?_getD, List.getElem?_eq_getElem h]
set_option maxHeartbeats 1000000 in
set_option maxRecDepth 100000 in
theorem version_twice.calls (A0 : Option Addr) (c0 : Nat) (l0 : List Int) (r : Bool) (w : World) (hr0 : Kd.C (Kd.int .i64) w A0 l0.length l0) (hc0 : l0.length ≤ c0) (h : version_twice.f l0 = some r) :
    Calls Try.prog 28 #[.slice A0 l0.length c0] w fun e w' => e = .returned (.bool r) ∧ Below w.heap.size w w' := by
  have HR0 := Ad.mk hr0
  unfold version_twice.f at h
  by_cases hw : wfI l0 = true
  · rw [if_pos hw] at h
    by_cases hl : l0.length ≤ 1000000000000
    · rw [if_pos hl] at h
      obtain rfl := Option.some.inj h
      have HW := Ad.mk hw
      have HL := Ad.mk hl
      clear hr0 hc0 h hw hl
      have hmm := @run_makeMap Try.prog
      go_enter Try.func28, Try.ntmps28
      go_wp2
      go_loopg [9] l0.length (fun kq v9 w' => ∃ x : Int, v9 = .int .i64 x ∧ Ad (0 ≤ x ∧ x ≤ l0.length ∧ (kq : Int) = l0.length - x) ∧ Ad (∃ S, dupI [] l0 = dupI S (l0.drop x.toNat) ∧ BSet Try.prog 3 4 w' w.heap.size x.toNat S) ∧ Ad (Below w.heap.size w w'))
      case atStart => exact ⟨0, rfl, ⟨by omega⟩, ⟨[], by simp, BSet.made _ _ _ _⟩, ⟨(Below.refl _ _).alloc (Nat.le_refl _) _⟩⟩
      case round =>
        obtain ⟨x, rfl, HJ, HS, HB⟩ := hrel
        by_cases hlt : x < (l0.length : Int)
        · obtain ⟨S, hd, hS⟩ := HS.out
          have hj := HJ.out
          rw [version_twice.rd_drop l0 x.toNat (by omega), dupI] at hd
          rw [Int.toNat_of_nonneg hj.1] at hd
          have hx := wfI_at HW.out x hj.1 hlt
          obtain ⟨ad, e, hc⟩ := Kd.at_int HR0.out x hj.1 hlt
          cases e
          replace hc := (HB.out.cell (World.block_lt_of_cell? w _ hc)).trans hc
          obtain ⟨y, hxx⟩ : ∃ y, y = rd l0 x := ⟨_, rfl⟩
          rw [← hxx] at hc hx hd
          have HD := Ad.mk hd
          have HX := Ad.mk hx
          have HS1 := Ad.mk hS
          have HLT := Ad.mk hlt
          have p1 := eq_true hj.1
          have q1 := eq_true hlt
          have c1 := decide_eq_true hlt
          clear hxx hd HS hx hS hj hlt
          by_cases hin : y ∈ S
          · have HIN'  := Ad.mk (show decide (y ∈ S) = true by simp [hin])
            have HIN := Ad.mk hin
            clear hin
            go_wp2_with (first | (at_lookup; refine BSet.look HS1.out rfl _ _ 95 rfl Try.underlying95 Try.underlying3 Try.underlying4 (version_twice.zero4 _) rfl y rfl HX.out true HIN'.out ?_))
            go_ret
            exact ⟨by rw [HD.out, HIN'.out]; rfl, HB.out⟩
          · have HIN'  := Ad.mk (show decide (y ∈ S) = false by simp [hin])
            have HIN := Ad.mk hin
            clear hin
            go_wp2_with (first | (at_lookup; refine BSet.look HS1.out rfl _ _ 95 rfl Try.underlying95 Try.underlying3 Try.underlying4 (version_twice.zero4 _) rfl y rfl HX.out false HIN'.out ?_) | (at_mapUpdate; refine BSet.put HS1.out rfl _ _ _ 95 rfl Try.underlying95 Try.underlying3 Try.underlying4 (by have := HL.out; have := HJ.out; unfold maxLen; omega) rfl y rfl HX.out rfl ?_; intro w1 hs1 hg1; have HS2 := Ad.mk hs1; have HB2 := Ad.mk (HB.out.grown hg1 HB.out.size (fun j hj => by cases hj; exact Nat.le_refl _)); clear hs1 hg1))
            have hn : wrap64 (x + 1) = x + 1 := by have := HL.out; have := HJ.out; have := HLT.out; unfold wrap64; omega
            have hm : (x + 1).toNat = x.toNat + 1 := by have := HJ.out; omega
            have HN := Ad.mk hn
            have HM := Ad.mk hm
            clear hn hm
            go_roundg (gk - 1)
            case rel => exact ⟨_, rfl, ⟨by have := HJ.out; have := HLT.out; rw [HN.out]; omega⟩, ⟨y :: S, by rw [HN.out, HM.out, HD.out]; simp [HIN.out], by rw [HN.out, HM.out]; exact HS2.out⟩, ⟨HB2.out⟩⟩
            case measure => have := HJ.out; have := HLT.out; omega
        · have hr : dupI [] l0 = false := by
            obtain ⟨S, hd, hS⟩ := HS.out
            have := HJ.out
            rw [hd, List.drop_of_length_le (by omega)]
            rfl
          have HR := Ad.mk hr
          have c1 := decide_eq_false hlt
          clear hr hlt
          go_wp2
          go_ret
          exact ⟨by rw [HR.out]; rfl, HB.out⟩
    · rw [if_neg hl] at h
      exact absurd h (by simp)
  · rw [if_neg hw] at h
    exact absurd h (by simp)
end Go.Proofs.Ytoonheembcejfaa.PA

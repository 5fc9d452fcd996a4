/- slices.DeleteFunc at Int, on a row of the call's own, asked by a function value that keeps to its contract. Condition: that contract. -/
import Derived.Test.YtoonheembcejfaaHIdxInt
import Derived.Test.YtoonheembcejfaaHDelLem
namespace Go.Proofs.Ytoonheembcejfaa.PA
open Go.RowKit Go.Proofs.YtoonheembcejfaaW.PrintWords Go.Proofs.YtoonheembcejfaaW.PrintLast Go.Proofs.YtoonheembcejfaaW.PrintMore
set_option linter.unusedVariables false
set_option linter.unusedSimpArgs false
theorem zero_Int (w : World) : (zeroValue 3).run Try.prog w = .ok (.int .i64 0) w := by kernel_rfl
set_option maxHeartbeats 2000000 in
set_option maxRecDepth 100000 in
theorem deleteInt.calls {g1 : Nat} {lb : Array Value} {p : Int → Bool} (A0 : Option Addr) (c0 : Nat) (l0 : List Int) (w0 w : World) (hr0 : Kd.R (Kd.int .i64) 3 w w0.heap.size (fun _ => True) (.slice A0 l0.length c0) l0) (hl : l0.length ≤ 4611686018427387904) (hB : Below w0.heap.size w0 w) (eg : Enters g1) (ht : Tells g1 lb (Value.int .i64) p (· ∈ l0) w (Value.slice A0 l0.length c0).ownBlock) :
    Calls Try.prog 61 #[.slice A0 l0.length c0, .func (.func g1) #[] lb] w fun e w' => ∃ v, e = .returned v ∧ Kd.R (Kd.int .i64) 3 w' w0.heap.size (fun _ => True) v (l0.filter fun x => !p x) ∧ Below w0.heap.size w0 w' := by
  obtain ⟨hn0, hcap, hC⟩ := Kd.R_reads' hr0
  have HCALL := Ad.mk (indexInt.calls A0 c0 l0 w hC hcap (by omega) eg ht.none)
  have HR0 := Ad.mk hr0
  have HL := Ad.mk hl
  have HB0 := Ad.mk hB
  have HT := Ad.mk ht
  have HCAP := Ad.mk hcap
  unfold Enters at eg
  by_cases hi : idxA p 0 l0 = -1
  · have HF := Ad.mk (idxA_none p l0 0 (by omega) hi)
    have hcall := HCALL.out
    rw [hi] at hcall
    have HC2 := Ad.mk hcall
    clear hr0 hl hB ht hn0 hcap hC hi HCALL hcall
    go_enter Try.func61, Try.ntmps61
    go_wp2_with (first | (go_at_call 67; refine HC2.out.mono ?_; rintro e w1 ⟨rfl, hb⟩; have HB2 := Ad.mk hb; clear hb))
    go_ret
    exact ⟨_, rfl, by rw [HF.out]; exact Kd.R_below HR0.out HB2.out, below_then HB0.out HB0.out.size HB2.out⟩
  · obtain ⟨n0, hin, hnl, hf1, hf2⟩ := idxA_some p l0 0 hi
    rw [Int.zero_add] at hin
    have hcall := HCALL.out
    rw [hin] at hcall
    have HC2 := Ad.mk hcall
    have HNL := Ad.mk hnl
    have HF2 := Ad.mk hf2
    obtain ⟨g, cap, ev, hbg, hgl, _⟩ := Kd.R_form hr0 (by omega)
    injection ev with ea en ec
    subst ea
    subst ec
    have HBG := Ad.mk hbg
    have HT := Ad.mk (show Tells g1 lb (Value.int .i64) p (· ∈ l0) w (some g) from HT.out)
    have HGL := Ad.mk hgl
    have ci : ((n0 : Int) == -1) = false := beq_eq_false_iff_ne.mpr (by omega)
    have hn1 : wrap64 ((n0 : Int) + 1) = (n0 : Int) + 1 := by unfold wrap64; omega
    have HN1 := Ad.mk hn1
    clear hr0 hl hB ht hn0 hcap hC hi HCALL hcall hin hnl hf1 hf2 en hbg hgl hn1
    go_enter Try.func61, Try.ntmps61
    go_wp2_with (first | (go_at_call 67; refine HC2.out.mono ?_; rintro e w1 ⟨rfl, hb⟩; have HB2 := Ad.mk hb; clear hb))
    go_loopg [5, 6] l0.length (fun kq v5 v6 w' => ∃ i j : Int, v5 = .int .i64 i ∧ v6 = .int .i64 j ∧ Ad (0 ≤ i ∧ i < j ∧ j ≤ l0.length ∧ (l0.length : Int) - j ≤ kq) ∧ Ad (∃ xs : List Int, xs.length = l0.length ∧ xs.take i.toNat = (l0.take j.toNat).filter (fun x => !p x) ∧ xs.drop j.toNat = l0.drop j.toNat ∧ Kd.R (Kd.int .i64) 3 w' w0.heap.size (fun _ => True) (.slice (some ⟨g, 0, none⟩) l0.length c0) xs) ∧ Ad (w.grownBy w' (some g)) ∧ Ad (Below w0.heap.size w0 w'))
    case atStart =>
      refine ⟨n0, (n0 : Int) + 1, rfl, by first | rfl | rw [HN1.out], ⟨by have := HNL.out; omega⟩, ⟨l0, rfl, ?_, rfl, Kd.R_below HR0.out HB2.out⟩, ⟨grown_of_below HB2.out _⟩, ⟨below_then HB0.out HB0.out.size HB2.out⟩⟩
      rw [show ((n0 : Int)).toNat = n0 by omega, show ((n0 : Int) + 1).toNat = n0 + 1 by omega]
      exact HF2.out.symm
    case round =>
      clear HC2 HB2
      obtain ⟨i, j, rfl, rfl, HJ, HX, HG, HB⟩ := hrel
      by_cases hlt : j < (l0.length : Int)
      · have hj := HJ.out
        obtain ⟨xs, hxl, hx1, hx2, hxR⟩ := HX.out
        obtain ⟨hq1, hq2, hxC⟩ := Kd.R_reads' hxR
        have hjx : j.toNat < xs.length := by omega
        have hyl : xs.getD j.toNat 0 = l0.getD j.toNat 0 := by
          have := congrArg (fun l => l.getD 0 0) hx2
          simpa [List.getD_eq_getElem?_getD, List.getElem?_drop] using this
        obtain ⟨ad, e, hc⟩ := Kd.at_int (n := xs.length) hxC j (by omega) (by omega)
        cases e
        simp only [add_at, Nat.zero_add] at hc
        obtain ⟨y, hxx⟩ : ∃ y, y = rd xs j := ⟨_, rfl⟩
        rw [← hxx] at hc
        have HY := Ad.mk (show y ∈ l0 by rw [hxx]; show xs.getD j.toNat _ ∈ l0; rw [hyl]; exact getD_mem l0 j.toNat _ (by omega))
        have htk : l0.take (j.toNat + 1) = l0.take j.toNat ++ [y] := by
          rw [List.take_succ_eq_append_getElem (by omega), hxx]
          congr 1
          have : xs.getD j.toNat 0 = l0[j.toNat]'(by omega) := by rw [hyl, List.getD_eq_getElem?_getD, List.getElem?_eq_getElem (by omega)]; rfl
          rw [← this]
          rfl
        have hfl : (l0.take (j + 1).toNat).filter (fun x => !p x) = (l0.take j.toNat).filter (fun x => !p x) ++ (if p y = true then [] else [y]) := by
          rw [show (j + 1).toNat = j.toNat + 1 by omega, htk, List.filter_append]
          congr 1
          by_cases h : p y = true <;> simp [h]
        have hdr : xs.drop (j + 1).toNat = l0.drop (j + 1).toNat := by
          rw [show (j + 1).toNat = j.toNat + 1 by omega, ← List.drop_drop, ← List.drop_drop, hx2]
        have HFL := Ad.mk hfl
        have HDR := Ad.mk hdr
        have HX1 := Ad.mk hx1
        have HXL := Ad.mk hxl
        have HXR := Ad.mk hxR
        have HLT := Ad.mk hlt
        have hn2 : wrap64 (j + 1) = j + 1 := by have := HL.out; unfold wrap64; omega
        have hn3 : wrap64 (i + 1) = i + 1 := by have := HL.out; unfold wrap64; omega
        have HN2 := Ad.mk hn2
        have HN3 := Ad.mk hn3
        have p1 := eq_true (show 0 ≤ j by omega)
        have q1 := eq_true hlt
        have p2 := eq_true (show 0 ≤ i by omega)
        have q2 := eq_true (show i < (l0.length : Int) by omega)
        have c1 := decide_eq_true hlt
        have HG3 := HG
        have HB3 := Ad.mk (Below.refl wr.heap.size wr)
        clear hq1 hq2 hxx hj hlt HX hxl hx1 hx2 hxR hxC hjx hyl htk hfl hdr hn2 hn3
        by_cases hin : p y = true
        · have HC3 := Ad.mk (fun W hg => by have := HT.out y W HY.out hg; rw [hin] at this; exact this)
          have HIN := Ad.mk hin
          clear hin
          go_wp2_with (first | (go_at_fn g1; refine (HC3.out _ HG3.out).mono ?_; rintro e w4 ⟨rfl, hb⟩; have HB4 := Ad.mk hb; clear hb))
          go_roundg (gk - 1)
          case rel => exact ⟨_, _, rfl, rfl, ⟨by have := HJ.out; have := HLT.out; rw [HN2.out]; omega⟩, ⟨xs, HXL.out, by rw [HN2.out, HFL.out, HX1.out, if_pos HIN.out, List.append_nil], by rw [HN2.out]; exact HDR.out, Kd.R_below (Kd.R_below HXR.out HB3.out) HB4.out⟩, ⟨grown_below HG3.out HB4.out⟩, ⟨below_then (below_then HB.out HB.out.size HB3.out) (by have := HB.out.size; have := HB3.out.size; omega) HB4.out⟩⟩
          case measure => have := HJ.out; have := HLT.out; omega
        · have HC3 := Ad.mk (fun W hg => by have := HT.out y W HY.out hg; rw [Bool.eq_false_iff.mpr hin] at this; exact this)
          have HIN := Ad.mk hin
          clear hin
          go_wp2_with (first | (go_at_fn g1; refine (HC3.out _ HG3.out).mono ?_; rintro e w4 ⟨rfl, hb⟩; have HB4 := Ad.mk hb; have HR4 := Ad.mk (Kd.R_below (Kd.R_below HXR.out HB3.out) hb); have HB5 := Ad.mk (below_then (below_then HB.out HB.out.size HB3.out) (by have := HB.out.size; have := HB3.out.size; omega) hb); clear hb) | ((with_reducible refine gate_store (t := 3) (p := 33) rfl ?_); obtain ⟨c, hcl, _, hcc, _⟩ := Kd.R_elem HR4.out 0 i (by have := HJ.out; omega) (by have := HJ.out; have := HLT.out; omega); have hcd : c.drop 1 = [] := List.drop_eq_nil_of_le (by rw [hcl]; exact Nat.le_refl 1); refine Kd.R_store (Kd.int .i64) (w0 := w0) w0.heap.size rfl rfl 3 (.tmp 33) (.tmp 32) rfl 3 (g := g) (n := l0.length) (cap := c0) i 0 xs y (.int .i64 y) [.int .i64 y] c (fun _ => True) (fun _ => False) rfl ?hoff rfl rfl (info_size info3) ?hone HR4.out (by have := HJ.out; omega) (by have := HJ.out; have := HLT.out; omega) hcl hcc (Nat.le_refl 1) ?hM (fun _ h => h.elim) HB5.out ?_; (case hoff => first | rfl | (show _ = i.toNat * 1 + 0; omega)); (case hone => (intro q hq; simp only [List.mem_cons, List.not_mem_nil, or_false] at hq; rcases hq with rfl; rfl)); (case hM => (show (Kd.int .i64).M _ _ _ y ([] ++ _ ++ c.drop 1); rw [hcd]; exact rfl)); intro w6 ho6 hb6 hg6; have HO6 := Ad.mk ho6; have HB6 := Ad.mk hb6; have HG6 := Ad.mk hg6; clear ho6 hb6 hg6 hcl hcc hcd))
          go_roundg (gk - 1)
          case rel => exact ⟨_, _, rfl, rfl, ⟨by have := HJ.out; have := HLT.out; rw [HN2.out, HN3.out]; omega⟩, ⟨xs.set i.toNat y, by rw [List.length_set]; exact HXL.out, by rw [HN2.out, HN3.out, HFL.out, if_neg HIN.out, ← HX1.out, show (i + 1).toNat = i.toNat + 1 by have := HJ.out; omega, List.take_succ_eq_append_getElem (by rw [List.length_set, HXL.out]; have := HJ.out; omega), List.getElem_set_self, List.take_set_of_le (Nat.le_refl _)], by rw [HN2.out, List.drop_set_of_lt (by have := HJ.out; omega)]; exact HDR.out, HO6.out⟩, ⟨(grown_below HG3.out HB4.out).trans HG6.out⟩, ⟨HB6.out⟩⟩
          case measure => have := HJ.out; have := HLT.out; omega
      · have hj := HJ.out
        obtain ⟨xs, hxl, hx1, hx2, hxR⟩ := HX.out
        have hjl : j.toNat = l0.length := by omega
        rw [hjl, List.take_length] at hx1
        obtain ⟨i1, hi1, hsz1⟩ := Option.map_eq_some_iff.1 info3
        simp only [Prod.mk.injEq] at hsz1
        obtain ⟨hs1, hs2, hs3⟩ := R_cut_clear hxR i.toNat (by omega)
        have hcut2 := cut_from (P := Try.prog) 23 3 .i64 Try.underlying23 hi1 1 hsz1.2.1 (some ⟨g, 0, none⟩) l0.length c0 i (by omega) (by omega)
        rw [if_neg (by have := HCAP.out; omega)] at hcut2
        simp only [Option.map_some, add_at, Nat.zero_add] at hcut2
        have hcut3 := cut_to (P := Try.prog) 23 3 .i64 Try.underlying23 hi1 (some ⟨g, 0, none⟩) l0.length c0 i (by omega) (by omega) HCAP.out
        have hcl := fun ty => run_clear_cells (P := Try.prog) wr 23 3 ty (.int .i64 0) Try.underlying23 zero_Int (by decide) (by decide) g (i.toNat * 1) (l0.length - i.toNat) (c0 - i.toNat) (by omega) (fun q hq => hs1 q hq) (fun q _ => hs2 q)
        obtain ⟨hs4, hs5⟩ := hs3 (Builtin.zeroCells ((.int .i64 0) : Value).cells (l0.length - i.toNat)).toList (zeroCells_len _ _)
        generalize (Builtin.zeroCells ((.int .i64 0) : Value).cells (l0.length - i.toNat)).toList = seg at hcl hs4 hs5
        rw [hx1] at hs4
        simp only [show (Kd.int .i64).sz = 1 from rfl, Nat.mul_one] at hcl hs4 hs5 hcut2
        have HS4 := Ad.mk hs4
        have HB7 := Ad.mk (HB.out.grown hs5 HB.out.size (fun q hq => by injection hq with hq; have := HBG.out; omega))
        have c1 := decide_eq_false hlt
        clear hj HX hxl hx1 hx2 hxR hjl hi1 hsz1 hs1 hs2 hs3 hs4 hs5 hlt
        go_wp2
        go_ret
        exact ⟨_, rfl, HS4.out, HB7.out⟩
end Go.Proofs.Ytoonheembcejfaa.PA

/- version.without at Int: a list without those whose numbers are given; refused if one of these is not there, or twice. Condition: numbers of 64 bits; what is made fits. -/
import Derived.Test.YtoonheembcejfaaHWithL
import Derived.Test.YtoonheembcejfaaHDelInt
import Derived.Test.YtoonheembcejfaaHCloneInt
namespace Go.Proofs.Ytoonheembcejfaa.PA
open Go.RowKit Go.Proofs.YtoonheembcejfaaW.PrintWords Go.Proofs.YtoonheembcejfaaW.PrintLast Go.Proofs.YtoonheembcejfaaW.PrintMore
set_option linter.unusedVariables false
set_option linter.unusedSimpArgs false
theorem enters60 : Enters 60 := fun args w => enters_ Try.func60 (by kernel_rfl) rfl args w
theorem enters62 : Enters 62 := fun args w => enters_ Try.func62 (by kernel_rfl) rfl args w
theorem tellsEqInt (g5 g10 : Nat) (y : Int) (l : List Int) (w : World) (h5 : w.heap[g5]? = some (.cells #[.func (.func 25) #[] #[]] 59 (0, 0))) (h10 : w.heap[g10]? = some (.cells #[.int .i64 y] 3 (0, 0))) :
    Tells 60 #[.pointer (some ⟨g5, 0, none⟩), .pointer (some ⟨g10, 0, none⟩)] (Value.int .i64) (fun x => x == y) (· ∈ l) w none :=
  fun x W _ hg => eqInt.calls g5 g10 y x W ((bcl (blk_grown h5 hg (by simp)) 0).trans rfl) ((bcl (blk_grown h10 hg (by simp)) 0).trans rfl)
theorem tellsInInt (g8 g5 bm n : Nat) (S : List Int) (l : List Int) (w : World) (row : Option Nat) (h5 : w.heap[g5]? = some (.cells #[.func (.func 25) #[] #[]] 59 (0, 0))) (h8 : w.heap[g8]? = some (.cells #[.map (some bm)] 95 (0, 0))) (hS : BSet Try.prog 3 4 w bm n S) (n5 : some g5 ≠ row) (n8 : some g8 ≠ row) (nm : some bm ≠ row) (hw : ∀ x ∈ l, (Lit.int .i64 x).wf = true) :
    Tells 62 #[.pointer (some ⟨g8, 0, none⟩), .pointer (some ⟨g5, 0, none⟩)] (Value.int .i64) (fun x => decide (x ∈ S)) (· ∈ l) w row :=
  fun x W hx hg => inInt.calls g8 g5 bm n S x W ((bcl (blk_grown h5 hg n5) 0).trans rfl) ((bcl (blk_grown h8 hg n8) 0).trans rfl) (hS.grown hg nm) (hw x hx)
def withoutInt.f (l0 : List Int) (l1 : List Int) : Option (List Int × Bool) :=
  if l0.all (fun x => (Lit.int .i64 x).wf) = true then (if wfI l1 = true then (if l0.length ≤ 17592186044416 then (if l1.length ≤ 1000000000000 then some (if wLoop (l0.map fun x => x) [] l1 = true then (l0.filter (fun x => !decide (x ∈ l1)), true) else ([], false)) else none) else none) else none) else none
set_option maxHeartbeats 4000000 in
set_option maxRecDepth 100000 in
theorem withoutInt.calls (A0 : Option Addr) (c0 : Nat) (l0 : List Int) (A1 : Option Addr) (c1 : Nat) (l1 : List Int) (r1 : List Int) (r2 : Bool) (w : World) (hr0 : Kd.C (Kd.int .i64) w A0 l0.length l0) (hc0 : l0.length ≤ c0) (hr1 : Kd.C (Kd.int .i64) w A1 l1.length l1) (hc1 : l1.length ≤ c1) (h : withoutInt.f l0 l1 = some (r1, r2)) :
    Calls Try.prog 24 #[.slice A0 l0.length c0, .slice A1 l1.length c1, .func (.func 25) #[] #[]] w fun e w' => ∃ v, e = .returned (.tuple #[v, .bool r2]) ∧ Kd.R (Kd.int .i64) 3 w' w.heap.size (fun _ => True) v r1 ∧ Below w.heap.size w w' := by
  unfold withoutInt.f at h
  by_cases hw0 : l0.all (fun x => (Lit.int .i64 x).wf) = true
  case neg => rw [if_neg hw0] at h; exact absurd h (by simp)
  rw [if_pos hw0] at h
  by_cases hw1 : wfI l1 = true
  case neg => rw [if_neg hw1] at h; exact absurd h (by simp)
  rw [if_pos hw1] at h
  by_cases hl0 : l0.length ≤ 17592186044416
  case neg => rw [if_neg hl0] at h; exact absurd h (by simp)
  rw [if_pos hl0] at h
  by_cases hl1 : l1.length ≤ 1000000000000
  case neg => rw [if_neg hl1] at h; exact absurd h (by simp)
  rw [if_pos hl1] at h
  have H := Ad.mk (Option.some.inj h)
  have HF := Ad.mk (fun (hw : wLoop (l0.map fun x => x) [] l1 = false) => (by have := H.out; rw [hw, if_neg (by simp)] at this; exact ⟨(Prod.mk.inj this).1, (Prod.mk.inj this).2⟩ : [] = r1 ∧ false = r2))
  have HT2 := Ad.mk (fun (hw : wLoop (l0.map fun x => x) [] l1 = true) => (by have := H.out; rw [if_pos hw] at this; exact ⟨(Prod.mk.inj this).1, (Prod.mk.inj this).2⟩ : (l0.filter (fun x => !decide (x ∈ l1))) = r1 ∧ true = r2))
  have HW0 := Ad.mk (List.all_eq_true.1 hw0)
  have HW1 := Ad.mk hw1
  have HL0 := Ad.mk hl0
  have HL1 := Ad.mk hl1
  have HR0 := Ad.mk hr0
  have HR1 := Ad.mk hr1
  have HC0 := Ad.mk hc0
  clear h hw0 hw1 hl0 hl1 hr0 hc0 hr1 hc1
  go_enter Try.func24, Try.ntmps24
  go_wp2_with (first | ((with_reducible refine gate_dst (N := 5) rfl ?_); refine box_event rfl (N := 5) rfl (cs := #[.func (.func 25) #[] #[]]) (t := 59) (by first | (go_simp; done) | (go_simp; rfl)) ?_; intro g5 hg5 w1 hbx hb; have H5a := Ad.mk hbx; have HG5 := Ad.mk hg5; have HB1 := Ad.mk hb; clear hg5 hbx hb) | ((with_reducible refine gate_dst (N := 13) rfl ?_); refine map_event 3 4 rfl (N := 13) rfl rfl Try.underlying95 rfl ?_; intro bm hbm w2 hs hb hlt; have HM2 := Ad.mk (show w.heap.size ≤ bm ∧ bm < w2.heap.size ∧ g5 < bm by have := HB1.out.size; have := blk_lt H5a.out; omega); have HS2 := Ad.mk hs; have H5b := Ad.mk (bbl H5a.out hb); have HB2 := Ad.mk (below_then HB1.out HB1.out.size hb); clear hbm hs hb hlt) | ((with_reducible refine gate_dst (N := 8) rfl ?_); refine box_event rfl (N := 8) rfl (cs := #[.map none]) (t := 95) (by first | (go_simp; done) | (go_simp; rfl)) ?_; intro g8 hg8 w3 hbx hb; have H8a := Ad.mk hbx; have HG8 := Ad.mk (show bm < g8 by have := HM2.out; omega); have HS3 := Ad.mk (HS2.out.below hb); have H5c := Ad.mk (bbl H5b.out hb); have HB3 := Ad.mk (below_then HB2.out HB2.out.size hb); clear hg8 hbx hb) | ((with_reducible refine gate_store (t := 95) (p := 8) rfl ?_); refine fill_event rfl rfl (t := 95) (p := 8) rfl (g := g8) (e := 95) (u := .map (some bm)) (seg := [.map (some bm)]) rfl rfl rfl size95 H8a.out rfl ?hone ?_; (case hone => (intro q hq; simp only [List.mem_cons, List.not_mem_nil, or_false] at hq; rcases hq with rfl; rfl)); intro w4 hbx hg; have H8 := Ad.mk hbx; have H5 := Ad.mk (blk_grown H5c.out hg (by have := HG8.out; have := HM2.out; simp; omega)); have HS := Ad.mk (HS3.out.grown hg (by have := HG8.out; simp; omega)); have HB := Ad.mk (HB3.out.grown hg HB3.out.size (fun q hq => by injection hq with hq; have := HG8.out; have := HM2.out; omega)); clear hbx hg))
  clear H5a H5b H5c H8a HB1 HB2 HB3 HS2 HS3
  go_loopg [16] l1.length (fun kq v16 w' => ∃ x : Int, v16 = .int .i64 x ∧ Ad (0 ≤ x ∧ x ≤ l1.length ∧ (kq : Int) = l1.length - x) ∧ Ad (∃ S, (∀ z, z ∈ S ↔ z ∈ l1.take x.toNat) ∧ wLoop (l0.map fun x => x) [] l1 = wLoop (l0.map fun x => x) S (l1.drop x.toNat) ∧ BSet Try.prog 3 4 w' bm x.toNat S) ∧ Ad (w'.heap[g5]? = some (.cells #[.func (.func 25) #[] #[]] 59 (0, 0))) ∧ Ad (w'.heap[g8]? = some (.cells #[.map (some bm)] 95 (0, 0))) ∧ Ad (Below w.heap.size w w'))
  case atStart => exact ⟨0, rfl, ⟨by omega⟩, ⟨[], by simp, by simp, HS.out⟩, ⟨H5.out⟩, ⟨H8.out⟩, ⟨HB.out⟩⟩
  case round =>
    clear H5 H8 HS HB
    obtain ⟨x, rfl, HJ, HX, H5, H8, HB⟩ := hrel
    by_cases hlt : x < (l1.length : Int)
    · obtain ⟨S, hS1, hS2, hS⟩ := HX.out
      have hj := HJ.out
      rw [version_twice.rd_drop l1 x.toNat (by omega), wLoop] at hS2
      rw [Int.toNat_of_nonneg hj.1] at hS2
      have hx := wfI_at HW1.out x hj.1 hlt
      have htk : ∀ z, z ∈ rd l1 x :: S ↔ z ∈ l1.take (x.toNat + 1) := by
        intro z
        rw [List.take_succ_eq_append_getElem (by omega), List.mem_append, List.mem_cons, List.mem_singleton, ← hS1 z]
        have : rd l1 x = l1[x.toNat]'(by omega) := by unfold rd; rw [List.getD_eq_getElem?_getD, List.getElem?_eq_getElem (by omega)]; rfl
        rw [this]
        exact or_comm
      obtain ⟨ad, e, hc⟩ := Kd.at_int HR1.out x hj.1 hlt
      cases e
      replace hc := (HB.out.cell (World.block_lt_of_cell? w _ hc)).trans hc
      obtain ⟨y, hxx⟩ : ∃ y, y = rd l1 x := ⟨_, rfl⟩
      rw [← hxx] at hc hx hS2 htk
      have HS2 := Ad.mk hS2
      have HTK := Ad.mk htk
      have HXW := Ad.mk hx
      have HS := Ad.mk hS
      have HLT := Ad.mk hlt
      have p1 := eq_true hj.1
      have q1 := eq_true hlt
      have c1 := decide_eq_true hlt
      clear hxx hS1 hS2 htk hx hS hj hlt HX
      obtain ⟨rs, hrs⟩ : ∃ rs, decide (y ∈ S) = rs := ⟨_, rfl⟩
      obtain ⟨rf, hrf⟩ : ∃ rf, l0.any (fun x => x == y) = rf := ⟨_, rfl⟩
      have HRS := Ad.mk hrs
      have HRF := Ad.mk hrf
      clear hrs hrf
      have hn : wrap64 (x + 1) = x + 1 := by have := HL1.out; have := HJ.out; have := HLT.out; unfold wrap64; omega
      have HN := Ad.mk hn
      have HM := Ad.mk (show (x + 1).toNat = x.toNat + 1 by have := HJ.out; omega)
      clear hn
      cases rs
      · cases rf
        · have hy : wLoop (l0.map fun x => x) [] l1 = false := by
            have h1 := HRS.out
            have h2 := HRF.out
            rw [any_eq (fun x : Int => x)] at h2
            rw [HS2.out, if_neg (of_decide_eq_false h1), if_neg (of_decide_eq_false h2)]
          obtain ⟨rfl, rfl⟩ := HF.out hy
          clear hy
          go_wp2_with (first | ((with_reducible refine gate_dst (N := 10) rfl ?_); refine box_event rfl (N := 10) rfl (cs := #[.int .i64 0]) (t := 3) (by first | (go_simp; done) | (go_simp; rfl)) ?_; intro g10 hg10 w5 hbx hb; have H10a := Ad.mk hbx; have HG10 := Ad.mk (show w.heap.size ≤ g10 ∧ g8 < g10 ∧ bm < g10 ∧ g5 < g10 by have := blk_lt H8.out; have := blk_lt H5.out; have := HM2.out; have := HG8.out; have := HB.out.size; omega); have HS5 := Ad.mk (HS.out.below hb); have H5a := Ad.mk (bbl H5.out hb); have H8a := Ad.mk (bbl H8.out hb); have HB5 := Ad.mk (below_then HB.out HB.out.size hb); have hc5 := (hb.cell (World.block_lt_of_cell? wr _ hc)).trans hc; clear hg10 hbx hb) | ((with_reducible refine gate_store (t := 3) (p := 10) rfl ?_); refine fill_event rfl rfl (t := 3) (p := 10) rfl (g := g10) (e := 3) (u := .int .i64 y) (seg := [.int .i64 y]) rfl rfl rfl (info_size info3) H10a.out rfl ?hone ?_; (case hone => (intro q hq; simp only [List.mem_cons, List.not_mem_nil, or_false] at hq; rcases hq with rfl; rfl)); intro w6 hbx hg; have H10 := Ad.mk hbx; have H5b := Ad.mk (blk_grown H5a.out hg (by have := HG10.out; simp; omega)); have H8b := Ad.mk (blk_grown H8a.out hg (by have := HG10.out; simp; omega)); have HS6 := Ad.mk (HS5.out.grown hg (by have := HG10.out; simp; omega)); have HB6 := Ad.mk (HB5.out.grown hg HB5.out.size (fun q hq => by injection hq with hq; have := HG10.out; omega)); have hz8 := (bcl H8b.out 0).trans rfl; have hz10 := (bcl H10.out 0).trans rfl; clear hbx hg) | (at_lookup; refine BSet.look HS6.out rfl _ _ 95 rfl Try.underlying95 Try.underlying3 Try.underlying4 (zero4 _) rfl y rfl HXW.out _ HRS.out ?_) | (go_at_call 32; refine (containsInt.calls (g := 60) (lb := #[.pointer (some ⟨g5, 0, none⟩), .pointer (some ⟨g10, 0, none⟩)]) (p := fun x => x == y) A0 c0 l0 _ _ (Kd.C_below HR0.out HB6.out) HC0.out (by have := HL0.out; omega) enters60 (tellsEqInt g5 g10 y l0 _ H5b.out H10.out) HRF.out).mono ?_; rintro e w7 ⟨rfl, hb⟩; have HB7 := Ad.mk (below_then HB6.out HB6.out.size hb); have HS7 := Ad.mk (HS6.out.below hb); have H5d := Ad.mk (bbl H5b.out hb); have H8d := Ad.mk (bbl H8b.out hb); have H10d := Ad.mk (bbl H10.out hb); have hy8 := (bcl H8d.out 0).trans rfl; have hy10 := (bcl H10d.out 0).trans rfl; clear hb) | (at_mapUpdate; refine BSet.put HS7.out rfl _ _ _ 95 rfl Try.underlying95 Try.underlying3 Try.underlying4 (by have := HL1.out; have := HJ.out; unfold maxLen; omega) rfl y rfl HXW.out rfl ?_; intro w8 hs8 hg8; have HS8 := Ad.mk hs8; have HB8 := Ad.mk (HB7.out.grown hg8 HB7.out.size (fun q hq => by injection hq with hq; have := HM2.out; omega)); have H5e := Ad.mk (blk_grown H5d.out hg8 (by have := HM2.out; simp; omega)); have H8e := Ad.mk (blk_grown H8d.out hg8 (by have := HG8.out; simp; omega)); clear hs8 hg8))
          go_ret2
          exact ⟨_, rfl, Kd.R_nil _ _ _ _ _, HB7.out⟩
        · have hy : wLoop (l0.map fun x => x) [] l1 = wLoop (l0.map fun x => x) (y :: S) (l1.drop (x.toNat + 1)) := by
            have h1 := HRS.out
            have h2 := HRF.out
            rw [any_eq (fun x : Int => x)] at h2
            rw [HS2.out, if_neg (of_decide_eq_false h1), if_pos (of_decide_eq_true h2)]
          have HY := Ad.mk hy
          clear hy
          go_wp2_with (first | ((with_reducible refine gate_dst (N := 10) rfl ?_); refine box_event rfl (N := 10) rfl (cs := #[.int .i64 0]) (t := 3) (by first | (go_simp; done) | (go_simp; rfl)) ?_; intro g10 hg10 w5 hbx hb; have H10a := Ad.mk hbx; have HG10 := Ad.mk (show w.heap.size ≤ g10 ∧ g8 < g10 ∧ bm < g10 ∧ g5 < g10 by have := blk_lt H8.out; have := blk_lt H5.out; have := HM2.out; have := HG8.out; have := HB.out.size; omega); have HS5 := Ad.mk (HS.out.below hb); have H5a := Ad.mk (bbl H5.out hb); have H8a := Ad.mk (bbl H8.out hb); have HB5 := Ad.mk (below_then HB.out HB.out.size hb); have hc5 := (hb.cell (World.block_lt_of_cell? wr _ hc)).trans hc; clear hg10 hbx hb) | ((with_reducible refine gate_store (t := 3) (p := 10) rfl ?_); refine fill_event rfl rfl (t := 3) (p := 10) rfl (g := g10) (e := 3) (u := .int .i64 y) (seg := [.int .i64 y]) rfl rfl rfl (info_size info3) H10a.out rfl ?hone ?_; (case hone => (intro q hq; simp only [List.mem_cons, List.not_mem_nil, or_false] at hq; rcases hq with rfl; rfl)); intro w6 hbx hg; have H10 := Ad.mk hbx; have H5b := Ad.mk (blk_grown H5a.out hg (by have := HG10.out; simp; omega)); have H8b := Ad.mk (blk_grown H8a.out hg (by have := HG10.out; simp; omega)); have HS6 := Ad.mk (HS5.out.grown hg (by have := HG10.out; simp; omega)); have HB6 := Ad.mk (HB5.out.grown hg HB5.out.size (fun q hq => by injection hq with hq; have := HG10.out; omega)); have hz8 := (bcl H8b.out 0).trans rfl; have hz10 := (bcl H10.out 0).trans rfl; clear hbx hg) | (at_lookup; refine BSet.look HS6.out rfl _ _ 95 rfl Try.underlying95 Try.underlying3 Try.underlying4 (zero4 _) rfl y rfl HXW.out _ HRS.out ?_) | (go_at_call 32; refine (containsInt.calls (g := 60) (lb := #[.pointer (some ⟨g5, 0, none⟩), .pointer (some ⟨g10, 0, none⟩)]) (p := fun x => x == y) A0 c0 l0 _ _ (Kd.C_below HR0.out HB6.out) HC0.out (by have := HL0.out; omega) enters60 (tellsEqInt g5 g10 y l0 _ H5b.out H10.out) HRF.out).mono ?_; rintro e w7 ⟨rfl, hb⟩; have HB7 := Ad.mk (below_then HB6.out HB6.out.size hb); have HS7 := Ad.mk (HS6.out.below hb); have H5d := Ad.mk (bbl H5b.out hb); have H8d := Ad.mk (bbl H8b.out hb); have H10d := Ad.mk (bbl H10.out hb); have hy8 := (bcl H8d.out 0).trans rfl; have hy10 := (bcl H10d.out 0).trans rfl; clear hb) | (at_mapUpdate; refine BSet.put HS7.out rfl _ _ _ 95 rfl Try.underlying95 Try.underlying3 Try.underlying4 (by have := HL1.out; have := HJ.out; unfold maxLen; omega) rfl y rfl HXW.out rfl ?_; intro w8 hs8 hg8; have HS8 := Ad.mk hs8; have HB8 := Ad.mk (HB7.out.grown hg8 HB7.out.size (fun q hq => by injection hq with hq; have := HM2.out; omega)); have H5e := Ad.mk (blk_grown H5d.out hg8 (by have := HM2.out; simp; omega)); have H8e := Ad.mk (blk_grown H8d.out hg8 (by have := HG8.out; simp; omega)); clear hs8 hg8))
          go_roundg (gk - 1)
          case rel => exact ⟨_, rfl, ⟨by have := HJ.out; have := HLT.out; rw [HN.out]; omega⟩, ⟨y :: S, by rw [HN.out, HM.out]; exact HTK.out, by rw [HN.out, HM.out]; exact HY.out, by rw [HN.out, HM.out]; exact HS8.out⟩, ⟨H5e.out⟩, ⟨H8e.out⟩, ⟨HB8.out⟩⟩
          case measure => have := HJ.out; have := HLT.out; omega
      · have hy : wLoop (l0.map fun x => x) [] l1 = false := by
          rw [HS2.out, if_pos (of_decide_eq_true HRS.out)]
        obtain ⟨rfl, rfl⟩ := HF.out hy
        clear hy
        go_wp2_with (first | ((with_reducible refine gate_dst (N := 10) rfl ?_); refine box_event rfl (N := 10) rfl (cs := #[.int .i64 0]) (t := 3) (by first | (go_simp; done) | (go_simp; rfl)) ?_; intro g10 hg10 w5 hbx hb; have H10a := Ad.mk hbx; have HG10 := Ad.mk (show w.heap.size ≤ g10 ∧ g8 < g10 ∧ bm < g10 ∧ g5 < g10 by have := blk_lt H8.out; have := blk_lt H5.out; have := HM2.out; have := HG8.out; have := HB.out.size; omega); have HS5 := Ad.mk (HS.out.below hb); have H5a := Ad.mk (bbl H5.out hb); have H8a := Ad.mk (bbl H8.out hb); have HB5 := Ad.mk (below_then HB.out HB.out.size hb); have hc5 := (hb.cell (World.block_lt_of_cell? wr _ hc)).trans hc; clear hg10 hbx hb) | ((with_reducible refine gate_store (t := 3) (p := 10) rfl ?_); refine fill_event rfl rfl (t := 3) (p := 10) rfl (g := g10) (e := 3) (u := .int .i64 y) (seg := [.int .i64 y]) rfl rfl rfl (info_size info3) H10a.out rfl ?hone ?_; (case hone => (intro q hq; simp only [List.mem_cons, List.not_mem_nil, or_false] at hq; rcases hq with rfl; rfl)); intro w6 hbx hg; have H10 := Ad.mk hbx; have H5b := Ad.mk (blk_grown H5a.out hg (by have := HG10.out; simp; omega)); have H8b := Ad.mk (blk_grown H8a.out hg (by have := HG10.out; simp; omega)); have HS6 := Ad.mk (HS5.out.grown hg (by have := HG10.out; simp; omega)); have HB6 := Ad.mk (HB5.out.grown hg HB5.out.size (fun q hq => by injection hq with hq; have := HG10.out; omega)); have hz8 := (bcl H8b.out 0).trans rfl; have hz10 := (bcl H10.out 0).trans rfl; clear hbx hg) | (at_lookup; refine BSet.look HS6.out rfl _ _ 95 rfl Try.underlying95 Try.underlying3 Try.underlying4 (zero4 _) rfl y rfl HXW.out _ HRS.out ?_) | (go_at_call 32; refine (containsInt.calls (g := 60) (lb := #[.pointer (some ⟨g5, 0, none⟩), .pointer (some ⟨g10, 0, none⟩)]) (p := fun x => x == y) A0 c0 l0 _ _ (Kd.C_below HR0.out HB6.out) HC0.out (by have := HL0.out; omega) enters60 (tellsEqInt g5 g10 y l0 _ H5b.out H10.out) HRF.out).mono ?_; rintro e w7 ⟨rfl, hb⟩; have HB7 := Ad.mk (below_then HB6.out HB6.out.size hb); have HS7 := Ad.mk (HS6.out.below hb); have H5d := Ad.mk (bbl H5b.out hb); have H8d := Ad.mk (bbl H8b.out hb); have H10d := Ad.mk (bbl H10.out hb); have hy8 := (bcl H8d.out 0).trans rfl; have hy10 := (bcl H10d.out 0).trans rfl; clear hb) | (at_mapUpdate; refine BSet.put HS7.out rfl _ _ _ 95 rfl Try.underlying95 Try.underlying3 Try.underlying4 (by have := HL1.out; have := HJ.out; unfold maxLen; omega) rfl y rfl HXW.out rfl ?_; intro w8 hs8 hg8; have HS8 := Ad.mk hs8; have HB8 := Ad.mk (HB7.out.grown hg8 HB7.out.size (fun q hq => by injection hq with hq; have := HM2.out; omega)); have H5e := Ad.mk (blk_grown H5d.out hg8 (by have := HM2.out; simp; omega)); have H8e := Ad.mk (blk_grown H8d.out hg8 (by have := HG8.out; simp; omega)); clear hs8 hg8))
        go_ret2
        exact ⟨_, rfl, Kd.R_nil _ _ _ _ _, HB6.out⟩
    · obtain ⟨S, hS1, hS2, hS⟩ := HX.out
      have hj := HJ.out
      have hxl : x.toNat = l1.length := by omega
      rw [hxl, List.take_length] at hS1
      rw [hxl, List.drop_length] at hS2
      obtain ⟨h1, h2⟩ := HT2.out hS2
      subst h2
      have hfe : (l0.filter fun x => !decide (x ∈ S)) = r1 := by
        rw [← h1]
        exact List.filter_congr (fun z _ => by simp [hS1])
      have HFE := Ad.mk hfe
      have HS := Ad.mk hS
      have c1 := decide_eq_false hlt
      clear HX hS1 hS2 hS hj hxl h1 hfe hlt H HF HT2
      go_wp2_with (first | (go_at_call 36; refine (slices_Clone_Int.calls A0 c0 l0 l0 _ (Kd.C_below HR0.out HB.out) HC0.out (by unfold slices_Clone_Int.f; rw [if_pos HL0.out])).mono ?_; rintro e w9 ⟨v9, rfl, ho, hb⟩; obtain ⟨A9, c9, rfl⟩ := Kd.R_slice ho; have HRB := Ad.mk (Kd.R_base ho); have HO9 := Ad.mk (Kd.R_lower ho HB.out.size); have HS9 := Ad.mk (HS.out.below hb); have H59 := Ad.mk (bbl H5.out hb); have H89 := Ad.mk (bbl H8.out hb); have HB9 := Ad.mk (below_then HB.out HB.out.size hb); have hc9 := (bcl H89.out 0).trans rfl; clear ho hb) | (go_at_call 61; refine (deleteInt.calls A9 c9 l0 w _ HO9.out (by have := HL0.out; omega) HB9.out enters62 (tellsInInt g8 g5 bm _ S l0 _ _ H59.out H89.out HS9.out (fun he => by have := HRB.out g5 he.symm; have := blk_lt H5.out; omega) (fun he => by have := HRB.out g8 he.symm; have := blk_lt H8.out; omega) (fun he => by have := HRB.out bm he.symm; have := blk_lt H8.out; have := HG8.out; omega) HW0.out)).mono ?_; rintro e w10 ⟨v10, rfl, ho, hb⟩; have HO10 := Ad.mk ho; have HB10 := Ad.mk hb; clear ho hb))
      go_ret2
      exact ⟨_, rfl, by rw [← HFE.out]; exact HO10.out, HB10.out⟩
end Go.Proofs.Ytoonheembcejfaa.PA

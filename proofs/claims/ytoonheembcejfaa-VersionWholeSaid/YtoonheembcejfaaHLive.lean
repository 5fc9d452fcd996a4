/- version.Live: the numbers of tables and logs, rising. Condition: no more than 10^7 of each. -/
import Derived.Test.YtoonheembcejfaaHLay
import Derived.Test.YtoonheembcejfaaHLawA
namespace Go.Proofs.Ytoonheembcejfaa.PA
open Go.RowKit Go.Proofs.YtoonheembcejfaaW.PrintWords Go.Proofs.YtoonheembcejfaaW.PrintLast Go.Proofs.YtoonheembcejfaaW.PrintMore
open Go.Proofs Go.Sort
set_option linter.unusedVariables false
set_option linter.unusedSimpArgs false
/-- Where a number goes in a rising list. -/
def insI (x : Int) : List Int → List Int
  | [] => [x]
  | y :: t => if x ≤ y then x :: y :: t else y :: insI x t
/-- The rising list of the numbers, by insertion: it runs in the kernel. -/
def sortI (l : List Int) : List Int := l.foldr insI []
theorem insI_perm (x : Int) (l : List Int) : (insI x l).Perm (x :: l) := by
  induction l with
  | nil => exact .refl _
  | cons y t ih =>
    unfold insI
    split
    · exact .refl _
    · exact (ih.cons y).trans (.swap x y t)
theorem insI_rises (x : Int) (l : List Int) (h : l.Pairwise (· ≤ ·)) : (insI x l).Pairwise (· ≤ ·) := by
  induction l with
  | nil => simp [insI]
  | cons y t ih =>
    obtain ⟨h1, h2⟩ := List.pairwise_cons.mp h
    unfold insI
    split
    · rename_i hxy
      refine List.pairwise_cons.mpr ⟨?_, h⟩
      intro z hz
      rcases List.mem_cons.mp hz with rfl | hz
      · exact hxy
      · exact Int.le_trans hxy (h1 z hz)
    · rename_i hxy
      refine List.pairwise_cons.mpr ⟨?_, ih h2⟩
      intro z hz
      rcases List.mem_cons.mp ((insI_perm x t).mem_iff.mp hz) with rfl | hz
      · omega
      · exact h1 z hz
theorem sortI_perm (l : List Int) : (sortI l).Perm l := by
  induction l with
  | nil => exact .refl _
  | cons x t ih => exact (insI_perm x _).trans (ih.cons x)
theorem sortI_rises (l : List Int) : (sortI l).Pairwise (· ≤ ·) := by
  induction l with
  | nil => exact .nil
  | cons x t ih => exact insI_rises x _ ih
/-- It is the merge sort's list. -/
theorem sortI_is (l : List Int) : l.mergeSort (fun x y => decide (x ≤ y)) = sortI l := by
  refine List.Perm.eq_of_pairwise (le := (· ≤ ·)) (fun a b _ _ h1 h2 => Int.le_antisymm h1 h2) ?_ (sortI_rises l) ((List.mergeSort_perm l _).trans (sortI_perm l).symm)
  have h := List.pairwise_mergeSort (le := fun x y : Int => decide (x ≤ y)) (fun a b c h1 h2 => by simp only [decide_eq_true_eq] at *; omega) (fun a b => by simp only [Bool.or_eq_true, decide_eq_true_eq]; omega) l
  exact h.imp (fun h => by simpa using h)
theorem sortI_length (l : List Int) : (sortI l).length = l.length := (sortI_perm l).length_eq
/-- What the sort leaves of a row of one's own. -/
theorem sort_row {g n cap base : Nat} {ok : Nat → Prop} {W W' : World} {xs : List Int} (h : (Kd.int .i64).R 3 W base ok (.slice (some ⟨g, 0, none⟩) n cap) xs) (d : List Int) (hd : d.length = xs.length) (m : Nat) (os : Array Obj)
    (hw : W' = grow (putRow (Value.int .i64) (Sort.ahead W m) g 0 d.toArray) os) : (Kd.int .i64).R 3 W' base ok (.slice (some ⟨g, 0, none⟩) n cap) d ∧ W.grownBy W' (some g) := by
  have hn : n = xs.length := (Kd.R_reads' h).1
  have ho := Kd.own_of_R h
  have hok := h.1
  obtain ⟨hl, ho2⟩ := ho
  rcases ho2 with ⟨hv, _⟩ | ⟨g', cap', cur, hv, hb, hh, hnc, hcm, hcs, ht⟩
  · cases hv
  injection hv with ha hx hc
  injection ha with ha
  injection ha with hg
  subst hg; subst hc
  have hlt := blk_lt hh
  have hsz : (putRow (Value.int .i64) (Sort.ahead W m) g 0 d.toArray).heap.size = W.heap.size := by rw [size_putRow]; rfl
  have hat : W'.heap[g]? = some (.cells (putCells (Value.int .i64) 0 d.toArray cur) 3 (0, 0)) := by
    rw [hw, heap_grow_old _ _ (by rw [hsz]; exact hlt)]
    unfold putRow mapBlock
    rw [Array.getElem?_modify]
    simp only [if_true]
    show (W.heap[g]?).map _ = _
    rw [hh]
    rfl
  have hfar : ∀ k, k < W.heap.size → k ≠ g → W'.heap[k]? = W.heap[k]? := by
    intro k hk hne
    rw [hw, heap_grow_old _ _ (by rw [hsz]; exact hk)]
    unfold putRow mapBlock
    rw [Array.getElem?_modify, if_neg (fun e => hne e.symm)]
    rfl
  refine ⟨Kd.R_of_own ⟨by simp [encs], .inr ⟨g, cap, putCells (Value.int .i64) 0 d.toArray cur, by rw [hn, hd], hb, hat, by rw [hd]; exact hnc, hcm, by rw [← hcs]; simp [putCells], ?_⟩⟩ hok, ?_⟩
  · rw [Nat.mul_one]
    apply List.ext_getElem?
    intro q
    rw [List.getElem?_take]
    by_cases hq : q < d.length
    · rw [if_pos hq]
      have hqc : q < cur.size := by rw [hcs]; omega
      simp only [putCells, Array.toList_mapIdx, List.getElem?_mapIdx, encs]
      rw [Array.getElem?_toList, Array.getElem?_eq_getElem hqc]
      simp only [Option.map_some, Nat.zero_le, true_and, Nat.zero_add, Nat.sub_zero]
      rw [if_pos (by simpa using hq)]
      simp [hq]
    · rw [if_neg hq, List.getElem?_eq_none (by rw [encs_length]; omega)]
  · subst hw
    refine ⟨rfl, rfl, rfl, ?_, fun k hk hne => hfar k hk (fun e => hne (by rw [e]))⟩
    show W.heap.size ≤ ((putRow (Value.int .i64) (Sort.ahead W m) g 0 d.toArray).heap ++ os).size
    rw [Array.size_append, hsz]
    omega
/-- slices.Sort of a row of one's own. -/
theorem sort_calls {base : Nat} {ok : Nat → Prop} {w0 W : World} {v : Value} {xs : List Int} (h : (Kd.int .i64).R 3 W base ok v xs) (hl : xs.length < 4611686018427387904) :
    Calls Try.prog 37 #[v] W fun e W' => e = .returned (.tuple #[]) ∧ (Kd.int .i64).R 3 W' base ok v (sortI xs) ∧ W.grownBy W' v.ownBlock := by
  by_cases h0 : xs.length = 0
  · obtain ⟨A, c, rfl⟩ := Kd.R_slice h
    have hx : xs = [] := List.eq_nil_of_length_eq_zero h0
    subst hx
    refine (AnyM.slices_Sort_int_none lsort A c W).mono fun e W' ⟨he, hw⟩ => ?_
    subst hw
    exact ⟨he, h, ⟨rfl, rfl, rfl, Nat.le_refl _, fun _ _ _ => rfl⟩⟩
  · obtain ⟨g, cap, rfl, hb, hlt, _⟩ := Kd.R_form h (by omega)
    have hH : Holds (Value.int .i64) W g 0 xs.toArray := by
      intro j hj
      have hj' : j < xs.length := by simpa using hj
      obtain ⟨h1, h2⟩ := Kd.R_cell 0 h (j : Int) (by omega) (by omega)
      rw [Int.toNat_natCast] at h1 h2
      rw [Nat.zero_add]
      refine ⟨?_, h2⟩
      rw [h1]
      simp [rdOf, hj', List.getD_eq_getElem?_getD]
    refine (AnyM.slices_Sort_int lsort g 0 cap xs W hH hlt hl).mono fun e W' ⟨he, m, os, hw⟩ => ?_
    rw [sortI_is] at hw
    obtain ⟨h1, h2⟩ := sort_row h (sortI xs) (sortI_length xs) m os hw
    exact ⟨he, h1, by simpa [Value.ownBlock] using h2⟩
def version_Live.f (l0_0 : List S35) (l0_1 : List Int) (a0_2 : Int) : Option (List Int) := if l0_0.length ≤ 10000000 then (if l0_1.length ≤ 10000000 then some (sortI (idsOf l0_0 ++ l0_1)) else none) else none
set_option maxHeartbeats 1000000 in
set_option maxRecDepth 100000 in
theorem version_Live.calls (A0 : Option Addr) (c0 : Nat) (l0 : List S35) (A1 : Option Addr) (c1 : Nat) (l1 : List Int) (a : Int) (r : List Int) (w : World) (hr0 : Kd.C k35 w A0 l0.length l0) (hc0 : l0.length ≤ c0) (hr1 : Kd.C (Kd.int .i64) w A1 l1.length l1) (hc1 : l1.length ≤ c1) (h : version_Live.f l0 l1 a = some r) :
    Calls Try.prog 15 #[.agg #[.slice A0 l0.length c0, .slice A1 l1.length c1, .int .i64 a]] w fun e w' => ∃ v, e = .returned v ∧ Kd.R (Kd.int .i64) 3 w' w.heap.size (fun _ => True) v r ∧ Below w.heap.size w w' := by
  unfold version_Live.f at h
  by_cases hl0 : l0.length ≤ 10000000
  case neg => rw [if_neg hl0] at h; exact absurd h (by simp)
  rw [if_pos hl0] at h
  by_cases hl1 : l1.length ≤ 10000000
  case neg => rw [if_neg hl1] at h; exact absurd h (by simp)
  rw [if_pos hl1] at h
  obtain rfl := Option.some.inj h
  obtain ⟨k, hk⟩ := Ev.rounds (vids_I l0 l1 a hl0 hl1)
  have HK := Ad.mk hk
  have HLEN := Ad.mk (show (idsOf l0 ++ l1).length < 4611686018427387904 by simp only [List.length_append, idsOf, List.length_map]; omega)
  have HR0 := Ad.mk hr0
  have HR1 := Ad.mk hr1
  have HC0 := Ad.mk hc0
  have HC1 := Ad.mk hc1
  generalize idsOf l0 ++ l1 = ids at HK HLEN ⊢
  clear h hl0 hl1 hk hr0 hr1 hc0 hc1
  go_enter Try.func15, Try.ntmps15
  go_wp2_with (first | ((with_reducible refine gate_dst (N := 1) rfl ?_); refine box_event rfl (N := 1) rfl (cs := #[.slice A0 l0.length c0, .slice A1 l1.length c1, .int .i64 a]) (t := 25) (by first | (go_simp; done) | (go_simp; rfl)) ?_; intro gb hgb w1 hbx hb; have HB1 := Ad.mk hb; have hz0 := (bcl hbx 0).trans rfl; have hz1 := (bcl hbx 1).trans rfl; have hz2 := (bcl hbx 2).trans rfl; clear hgb hbx hb) | (go_at_call 29; refine (version_ids.calls k _ _ l0 _ _ l1 a ids _ (Kd.C_below HR0.out HB1.out) HC0.out (Kd.C_below HR1.out HB1.out) HC1.out HK.out).mono ?_; rintro e w2 ⟨v2, rfl, ho, hb⟩; have HO2 := Ad.mk (Kd.R_lower ho HB1.out.size); have HB2 := Ad.mk (below_then HB1.out HB1.out.size hb); clear ho hb) | (go_at_call 37; refine (sort_calls HO2.out HLEN.out (w0 := w)).mono ?_; rintro e w3 ⟨rfl, ho, hg⟩; have HO3 := Ad.mk ho; have HB3 := Ad.mk (HB2.out.grown hg HB2.out.size (fun q hq => Kd.R_base HO2.out q hq)); clear ho hg))
  go_ret
  exact ⟨_, rfl, HO3.out, HB3.out⟩
end Go.Proofs.Ytoonheembcejfaa.PA

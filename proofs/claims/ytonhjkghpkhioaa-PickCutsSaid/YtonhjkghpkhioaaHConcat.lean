/- slices.Concat at Meta (and slices.Grow of a nil slice): a new row that holds all that the slices hold. Condition: its bytes fit. -/
import Derived.Test.YtonhjkghpkhioaaPAx0
import Derived.WalkSpells
namespace Go.Proofs.Ytonhjkghpkhioaa.PA
open Go.RowKit Go.Proofs.YtonhjkghpkhioaaW.PrintWords Go.Proofs.YtonhjkghpkhioaaW.PrintLast Go.Proofs.YtonhjkghpkhioaaW.PrintMore
set_option linter.unusedVariables false
set_option linter.unusedSimpArgs false
theorem at_rows_Meta {w : World} {A : Option Addr} {n : Nat} {xs : List (List S48)} (h : Kd.C (Kd.slice 48 k48) w A n xs) (i : Int) (h0 : 0 ≤ i) (h1 : i < n) : ∃ ad A0 c0, A = some ad ∧ w.cell? (ad.add i.toNat) = some (.slice A0 (xs.getD i.toNat []).length c0) ∧ (xs.getD i.toNat []).length ≤ c0 ∧ Kd.C k48 w A0 (xs.getD i.toNat []).length (xs.getD i.toNat []) := by
  obtain ⟨ad, c, e, _, hK, hc0⟩ := Kd.C_get h ([] : List S48) i h0 h1
  have hc : ∀ j u, c[j]? = some u → w.cell? (ad.add (i.toNat * 1 + j)) = some u := hc0
  obtain ⟨A0, c0, rfl, l0, g0⟩ := hK
  exact ⟨ad, A0, c0, e, by have hq := hc 0 _ rfl; rwa [Nat.mul_one, Nat.add_zero] at hq, l0, g0⟩
set_option maxHeartbeats 1000000 in
set_option maxRecDepth 100000 in
/-- slices.Grow(nil, n): no element, and room for n. -/
theorem grow_nil_Meta (n : Nat) (w : World) (hn : n ≤ 2513169434916) :
    Calls Try.prog 31 #[.slice none 0 0, .int .i64 n] w fun e w' => ∃ v0_ : Value, e = .returned (v0_) ∧ Kd.R k48 48 w' w.heap.size (fun _ => True) v0_ [] ∧ Below w.heap.size w w' := by
  obtain ⟨i0, hi0, hsz⟩ := Option.map_eq_some_iff.1 info48
  have HN := Aside0.mk hn
  by_cases hp : n = 0
  · subst hp
    clear HN hn
    go_enter Try.func31, Try.ntmps31
    go_wp2
    go_ret
    exact ⟨_, rfl, Kd.R_nil _ _ _ _ _, Below.refl _ _⟩
  · have h1 : decide ((n : Int) < 0) = false := decide_eq_false (by omega)
    have h3 : wrap64 (n : Int) = n := by unfold wrap64; omega
    have h2 : decide ((0 : Int) < wrap64 n) = true := decide_eq_true (by rw [h3]; omega)
    have H3 := Aside0.mk h3
    clear hn hp h3
    go_enter Try.func31, Try.ntmps31
    go_wp2_with (first | (at_builtin; refine Kd.R_append_zeros k48 (w0 := w) w.heap.size rfl (.tmp 20) (.tmp 21) 22 3 48 (.agg #[(.int .i64 0), (.int .i64 0), (.string ⟨#[]⟩), (.string ⟨#[]⟩), (.int .i64 0)]) 56 rfl Try.underlying22 Try.underlying3 info48 rfl (by decide) (by omega) (.slice none 0 0) [] z48 (kx := .i64) (wrap64 n) (fun _ => True) rfl rfl (k48_mkM _ _ _ z48) (fun _ _ => trivial) (Kd.R_nil _ _ _ _ _) (by rw [H3.out]; omega) (Below.refl _ _) (Nat.le_refl _) (by have := HN.out; rw [H3.out]; simp only [List.length_nil, Int.toNat_natCast]; omega) ?_; intro v1 w1 ho hb hg hat; rw [H3.out] at ho; simp only [List.nil_append, Int.toNat_natCast] at ho; obtain ⟨A1, c1, rfl, hc1, _⟩ := Kd.R_reads ho; have HO := Aside0.mk ho; have HB := Aside0.mk hb; have hcut := cut_to (P := Try.prog) 22 48 .i64 Try.underlying22 hi0 A1 (List.replicate n z48).length c1 0 (by omega) (by omega) hc1; clear ho hb hg hat))
    go_ret
    exact ⟨_, rfl, by have := Kd.R_take HO.out (m := 0) (Nat.zero_le _); simpa using this, HB.out⟩
/-- How many elements in all. -/
def total_Meta : List (List S48) → Nat
  | [] => 0
  | x :: l => x.length + total_Meta l
theorem total_Meta_eq (l : List (List S48)) : l.flatten.length = total_Meta l := by
  induction l with
  | nil => rfl
  | cons x l ih => simp [total_Meta, ih]
theorem getD_drop_Meta (l : List (List S48)) (j : Nat) (h : j < l.length) : l.drop j = l.getD j [] :: l.drop (j + 1) := by
  rw [List.drop_eq_getElem_cons h]
  simp [List.getD_eq_getElem?_getD, List.getElem?_eq_getElem h]
theorem total_drop_Meta (l : List (List S48)) (j : Nat) (h : j < l.length) : total_Meta (l.drop j) = (l.getD j []).length + total_Meta (l.drop (j + 1)) := by
  rw [getD_drop_Meta l j h]
  rfl
def slices_Concat_palinode_api_Meta_palinode_api_Meta.f (l0 : List (List S48)) : Option (List S48) := if total_Meta l0 ≤ 2513169434916 then (if l0.length ≤ 1000000000000 then some l0.flatten else none) else none
set_option maxHeartbeats 1000000 in
set_option maxRecDepth 100000 in
theorem slices_Concat_palinode_api_Meta_palinode_api_Meta.calls (A0 : Option Addr) (c0 : Nat) (l0 : List (List S48)) (r : List S48) (w : World) (hr0 : Kd.C (Kd.slice 48 k48) w A0 l0.length l0) (hc0 : l0.length ≤ c0) (h : slices_Concat_palinode_api_Meta_palinode_api_Meta.f l0 = some r) :
    Calls Try.prog 20 #[.slice A0 l0.length c0] w fun e w' => ∃ v0_ : Value, e = .returned (v0_) ∧ Kd.R k48 48 w' w.heap.size (fun _ => True) v0_ r ∧ Below w.heap.size w w' := by
  unfold slices_Concat_palinode_api_Meta_palinode_api_Meta.f at h
  by_cases hl : total_Meta l0 ≤ 2513169434916
  · rw [if_pos hl] at h
    by_cases hl2 : l0.length ≤ 1000000000000
    · rw [if_pos hl2] at h
      obtain rfl := Option.some.inj h
      have HL := Aside0.mk hl
      have HL2 := Aside0.mk hl2
      have HR := Aside0.mk hr0
      clear h hl hl2 hr0 hc0
      go_enter Try.func20, Try.ntmps20
      go_wp2
      go_loopg [3, 11] l0.length (fun kq v3 v11 w' => ∃ s x : Int, v3 = .int .i64 s ∧ v11 = .int .i64 x ∧ Aside0 (0 ≤ x ∧ x ≤ l0.length ∧ (kq : Int) = l0.length - x) ∧ Aside0 (0 ≤ s ∧ s + (total_Meta (l0.drop x.toNat) : Int) = total_Meta l0) ∧ Drawn0 w w')
      case atStart => exact ⟨0, 0, rfl, rfl, ⟨by omega⟩, ⟨by simp⟩, Drawn0.refl _⟩
      case round =>
        obtain ⟨s, x, rfl, rfl, HJ, HS, ⟨m1, rfl⟩⟩ := hrel
        by_cases hlt : x < (l0.length : Int)
        · have hj := HJ.out
          have hs := HS.out
          rw [total_drop_Meta l0 x.toNat (by omega)] at hs
          obtain ⟨ad, A1, c1, e, hc, hlc, hC⟩ := at_rows_Meta HR.out x hj.1 hlt
          cases e
          obtain ⟨y, hy⟩ : ∃ y, y = l0.getD x.toNat [] := ⟨_, rfl⟩
          rw [← hy] at hc hs
          have HS2 := Aside0.mk hs
          have HLT := Aside0.mk hlt
          have p1 := eq_true hj.1
          have q1 := eq_true hlt
          have cc := decide_eq_true hlt
          have hw : wrap64 (s + (y.length : Int)) = s + (y.length : Int) := by have := HL.out; unfold wrap64; omega
          have hneg : decide (s + (y.length : Int) < 0) = false := decide_eq_false (by omega)
          clear hs hj hlt hlc hC hy HS
          go_wp2
          have hn : wrap64 (x + 1) = x + 1 := by have := HL2.out; have := HJ.out; have := HLT.out; unfold wrap64; omega
          have hm : (x + 1).toNat = x.toNat + 1 := by have := HJ.out; omega
          have HN := Aside0.mk hn
          have HM := Aside0.mk hm
          clear hn hm
          go_roundg (gk - 1)
          case rel => exact ⟨_, _, rfl, rfl, ⟨by have := HJ.out; have := HLT.out; rw [HN.out]; omega⟩, ⟨by rw [HN.out, HM.out]; have := HS2.out; omega⟩, ⟨_, rfl⟩⟩
          case measure => have := HJ.out; have := HLT.out; omega
        · have hj := HJ.out
          have hs := HS.out
          rw [List.drop_of_length_le (by omega)] at hs
          simp only [total_Meta] at hs
          obtain rfl : s = (total_Meta l0 : Int) := by omega
          have cc := decide_eq_false hlt
          clear hs hj hlt HJ HS
          go_wp2_with (first | (go_at_call 31; refine (grow_nil_Meta _ _ HL.out).mono ?_; rintro e w1 ⟨v1, rfl, ho, hb⟩; have HO := Aside0.mk ho; have HB := Aside0.mk (below_then (blN (Below.refl w.heap.size w) m1) (Nat.le_refl _) hb); clear ho hb))
          go_loopg [6, 27] l0.length (fun kq v6 v27 w' => ∃ x : Int, v27 = .int .i64 x ∧ Aside0 (0 ≤ x ∧ x ≤ l0.length ∧ (kq : Int) = l0.length - x) ∧ Aside0 (Kd.R k48 48 w' w.heap.size (fun _ => True) v6 (l0.take x.toNat).flatten) ∧ Aside0 (Below w.heap.size w w'))
          case atStart => exact ⟨0, rfl, ⟨by omega⟩, ⟨by simpa using HO.out⟩, ⟨HB.out⟩⟩
          case round =>
            obtain ⟨x, rfl, HJ, HO2, HB2⟩ := hrel
            by_cases hlt : x < (l0.length : Int)
            · have hj := HJ.out
              have ht := total_drop_Meta l0 x.toNat (by omega)
              have htt : (l0.take x.toNat).flatten.length + total_Meta (l0.drop x.toNat) = total_Meta l0 := by
                rw [← total_Meta_eq, ← total_Meta_eq, ← List.length_append, ← List.flatten_append, List.take_append_drop]
              have hfl : (l0.take (x.toNat + 1)).flatten = (l0.take x.toNat).flatten ++ l0.getD x.toNat [] := by
                have h' : x.toNat < l0.length := by omega
                rw [List.take_succ_eq_append_getElem h', List.flatten_append, List.getD_eq_getElem?_getD, List.getElem?_eq_getElem h']
                simp only [List.flatten_cons, List.flatten_nil, List.append_nil, Option.getD_some]
              obtain ⟨ad, A1, c1, e, hc, hlc, hC⟩ := at_rows_Meta HR.out x hj.1 hlt
              cases e
              replace hc := (HB2.out.cell (World.block_lt_of_cell? w _ hc)).trans hc
              obtain ⟨y, hy⟩ : ∃ y, y = l0.getD x.toNat [] := ⟨_, rfl⟩
              rw [← hy] at hc hC ht hfl
              have HF := Aside0.mk hfl
              have HTT := Aside0.mk htt
              have HT := Aside0.mk ht
              have HC := Aside0.mk hC
              have HLT := Aside0.mk hlt
              have p1 := eq_true hj.1
              have q1 := eq_true hlt
              have cc := decide_eq_true hlt
              clear hj hlt hlc hC hy hfl htt ht
              go_wp2_with (first | (at_builtin; refine Kd.R_append_rows k48 (Rr := (k48).K w) (w0 := w) w.heap.size rfl (.tmp 31) (.tmp 32) 22 48 (.agg #[(.int .i64 0), (.int .i64 0), (.string ⟨#[]⟩), (.string ⟨#[]⟩), (.int .i64 0)]) 56 rfl Try.underlying22 info48 rfl (by decide) (by omega) _ (l0.take x.toNat).flatten y A1 y.length c1 (fun _ => True) (fun _ => False) rfl rfl HO2.out ?aR (fun x cs hx => by obtain rfl := k48_open hx; exact k48_mkM _ _ _ _) (fun _ h => h.elim) (fun _ _ => trivial) HB2.out HB2.out.size (by have := HL.out; have := HTT.out; have := HT.out; omega) ?_; (case aR => exact ReadsRow.imp_ HC.out HB2.out (fun _ _ h => h)); intro v2 w2 ho hb hg hat; have HO3 := Aside0.mk ho; have HB3 := Aside0.mk hb; clear ho hb hg hat))
              have hn : wrap64 (x + 1) = x + 1 := by have := HL2.out; have := HJ.out; have := HLT.out; unfold wrap64; omega
              have hm : (x + 1).toNat = x.toNat + 1 := by have := HJ.out; omega
              have HN := Aside0.mk hn
              have HM := Aside0.mk hm
              clear hn hm
              go_roundg (gk - 1)
              case rel => exact ⟨_, rfl, ⟨by have := HJ.out; have := HLT.out; rw [HN.out]; omega⟩, ⟨by rw [HN.out, HM.out, HF.out]; exact HO3.out⟩, ⟨HB3.out⟩⟩
              case measure => have := HJ.out; have := HLT.out; omega
            · have hj := HJ.out
              have ho := HO2.out
              rw [List.take_of_length_le (by omega)] at ho
              have HO3 := Aside0.mk ho
              have cc := decide_eq_false hlt
              clear ho hj hlt
              go_wp2
              go_ret
              exact ⟨_, rfl, HO3.out, HB2.out⟩
    · rw [if_neg hl2] at h
      exact absurd h (by simp)
  · rw [if_neg hl] at h
    exact absurd h (by simp)
end Go.Proofs.Ytonhjkghpkhioaa.PA

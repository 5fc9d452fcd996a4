/- pick.Cut: the pieces of a list, each a row of its own. Condition: what is made fits. -/
import Derived.Test.YtonhjkghpkhioaaHCloneEntry
namespace Go.Proofs.Ytonhjkghpkhioaa.PA
open Go.RowKit Go.Proofs.YtonhjkghpkhioaaW.PrintWords Go.Proofs.YtonhjkghpkhioaaW.PrintLast Go.Proofs.YtonhjkghpkhioaaW.PrintMore
set_option linter.unusedVariables false
set_option linter.unusedSimpArgs false
/-- From n on: how far the entries have the key of the one ahead. -/
def cutExt (l : List S45) : Nat → Nat → Nat
  | 0, n => n
  | k + 1, n => if n < l.length then (if (l.getD n z45).f0.toList = (l.getD (n - 1) z45).f0.toList then cutExt l k (n + 1) else n) else n
def cutN (many : Int) (l : List S45) : Nat := cutExt l l.length (min many l.length).toNat
def cutL (many : Int) : Nat → List S45 → List (List S45)
  | 0, _ => []
  | k + 1, l => if l.length = 0 then [] else l.take (cutN many l) :: cutL many k (l.drop (cutN many l))
theorem cutExt_le (l : List S45) : ∀ k n, n ≤ l.length → n ≤ cutExt l k n ∧ cutExt l k n ≤ l.length
  | 0, n, h => ⟨Nat.le_refl _, h⟩
  | k + 1, n, h => by
    unfold cutExt
    split
    · split
      · have := cutExt_le l k (n + 1) (by omega)
        omega
      · omega
    · omega
theorem cutN_bd (many : Int) (l : List S45) (hm : 1 ≤ many) (hl : 0 < l.length) : 1 ≤ cutN many l ∧ cutN many l ≤ l.length := by
  have := cutExt_le l l.length (min many l.length).toNat (by omega)
  unfold cutN
  omega
def pick_Cut.f (l0 : List S45) (a1 : Int) : Option (List (List S45) × Option Int) :=
  if a1 < 1 then some ([], some 1) else if l0.length ≤ 2932031007402 then (if l0.length * 24 ≤ 140737488355200 then some (cutL a1 l0.length l0, none) else none) else none
theorem pick_Cut.info34 : (Try.prog.info? 34).map (fun i => (i.zero, i.size, i.bytes)) = some (some (.slice none 0 0), 1, 24) := by kernel_rfl
theorem pick_Cut.size34 : (Try.prog.info? 34).map (·.size) = some 1 := by
  obtain ⟨i1, hi1, h1⟩ := Option.map_eq_some_iff.1 pick_Cut.info34
  simp only [Prod.mk.injEq] at h1
  rw [hi1]
  simp [h1.2.1]
abbrev kFlag (w : World) : Kd (Bool × List S45) := flag (Kd.fixed (Kd.slice 45 k45) w) (Kd.slice 45 k45) rfl
theorem pick_Cut.lt (l : List S45) (i : Int) (h0 : 0 ≤ i) (h1 : i < l.length) : rd_T45 l i = l.getD i.toNat z45 := rfl
theorem cutL_le (many : Int) : ∀ k (l : List S45), ∀ y ∈ cutL many k l, y.length ≤ l.length
  | 0, l, y, h => by simp [cutL] at h
  | k + 1, l, y, h => by
    unfold cutL at h
    split at h
    · simp at h
    · rcases List.mem_cons.1 h with rfl | h
      · rw [List.length_take]; omega
      · have := cutL_le many k _ y h
        rw [List.length_drop] at this
        omega
def cutMix (xs : List (List S45)) (i : Nat) : List (Bool × List S45) := (xs.take i).map (fun x => (true, x)) ++ (xs.drop i).map (fun x => (false, x))
theorem cutMix_length (xs : List (List S45)) (i : Nat) : (cutMix xs i).length = xs.length := by
  simp [cutMix]; omega
theorem cutMix_at (xs : List (List S45)) (i : Nat) (h : i < xs.length) : (cutMix xs i).getD i (false, []) = (false, xs.getD i []) := by
  unfold cutMix
  rw [List.getD_eq_getElem?_getD, List.getElem?_append_right (by simp; omega)]
  simp [Nat.min_eq_left (Nat.le_of_lt h), List.getElem?_eq_getElem h]
theorem cutMix_set (xs : List (List S45)) (i : Nat) (h : i < xs.length) : (cutMix xs i).set i (true, xs.getD i []) = cutMix xs (i + 1) := by
  unfold cutMix
  have hz : i - ((xs.take i).map (fun x => (true, x))).length = 0 := by simp; omega
  have hg : xs.getD i [] = xs[i] := by simp [List.getD_eq_getElem?_getD, List.getElem?_eq_getElem h]
  rw [List.set_append_right _ _ (by simp; omega), hz, List.drop_eq_getElem_cons h, List.map_cons, List.set_cons_zero, List.take_succ_eq_append_getElem h, List.map_append, hg, List.append_assoc]
  rfl
theorem zipIdx_set {α : Type} (xs : List α) (i : Nat) (x : α) : xs.zipIdx.set i (x, i) = (xs.set i x).zipIdx := by
  apply List.ext_getElem?
  intro j
  rw [List.getElem?_set, List.getElem?_zipIdx, List.getElem?_zipIdx, List.getElem?_set]
  by_cases e : i = j
  · subst e
    by_cases h : i < xs.length <;> simp [h]
  · simp [e]
/-- What came in has no rows of the call's own: such elements lie apart. -/
theorem flag_S0 {e base : Nat} {ok : Nat → Prop} {w w0 : World} {v : Value} {xs : List (List S45)} (hr : Kd.R (kFlag w0) e w base ok v (xs.map fun x => (false, x))) : Kd.S (kFlag w0) e w base ok v (xs.map fun x => (false, x)) := by
  obtain ⟨h0, inner, ho, hr⟩ := hr
  refine ⟨fun _ => 0, h0, inner, ?_, ?_, ?_⟩
  · rw [List.length_zipIdx]; exact ho
  · rw [List.length_zipIdx]; exact hr.1
  · intro j p hj
    obtain ⟨⟨b, p⟩, m⟩ := p
    rw [List.getElem?_zipIdx] at hj
    cases hx : (xs.map fun x => (false, x))[j]? with
    | none => rw [hx] at hj; simp at hj
    | some q =>
      rw [hx] at hj
      simp only [Option.map_some, Option.some.injEq, Prod.mk.injEq] at hj
      obtain ⟨rfl, _⟩ := hj
      have hb : b = false := by
        rw [List.getElem?_map] at hx
        cases hy : xs[j]? with
        | none => rw [hy] at hx; simp at hx
        | some y => rw [hy] at hx; simp at hx; exact hx.1
      subst hb
      exact hr.2 j _ hx
/-- All are marked: the row is one of d1's kind. -/
theorem flag_allS {α : Type} {d0 d1 : Kd α} {h : d1.sz = d0.sz} {e base : Nat} {ok : Nat → Prop} {w : World} {v : Value} {xs : List α} (hr : Kd.S (flag d0 d1 h) e w base ok v (xs.map fun x => (true, x))) : Kd.S d1 e w base ok v xs := by
  obtain ⟨f, h0, inner, ho, hr⟩ := hr
  have hl : (xs.map fun x => (true, x)).zipIdx.length = xs.zipIdx.length := by simp
  refine ⟨f, h0, inner, ?_, ?_, ?_⟩
  · have hs : (Kd.tag f (flag d0 d1 h)).sz = (Kd.tag f d1).sz := h.symm
    rw [hl] at ho
    rw [← hs]
    exact ho
  · have := hr.1
    rw [hl] at this
    rw [this]
    show xs.zipIdx.length * d0.sz = xs.zipIdx.length * d1.sz
    rw [h]
  · intro j p hj
    obtain ⟨p, m⟩ := p
    have hm := hr.2 j ((true, p), m) (by
      rw [List.getElem?_zipIdx] at hj ⊢
      rw [List.getElem?_map]
      cases hx : xs[j]? with
      | none => rw [hx] at hj; simp at hj
      | some q =>
        rw [hx] at hj
        simp only [Option.map_some, Option.some.injEq, Prod.mk.injEq] at hj ⊢
        exact ⟨⟨trivial, hj.1⟩, hj.2⟩)
    have hs : (Kd.tag f (flag d0 d1 h)).sz = (Kd.tag f d1).sz := h.symm
    rw [hs] at hm
    exact hm
set_option maxHeartbeats 2000000 in
set_option maxRecDepth 100000 in
theorem pick_Cut.calls (A0 : Option Addr) (c0 : Nat) (l0 : List S45) (a1 : Int) (r1 : List (List S45)) (r2 : Option Int) (w : World) (hr0 : Kd.C k45 w A0 l0.length l0) (hc0 : l0.length ≤ c0) (h : pick_Cut.f l0 a1 = some (r1, r2)) :
    Calls Try.prog 12 #[.slice A0 l0.length c0, .int .i64 a1] w fun e w' => ∃ v0_ : Value, e = .returned (.tuple #[v0_, errW r2]) ∧ Kd.S (Kd.slice 45 k45) 34 w' w.heap.size (fun _ => True) v0_ r1 ∧ Below w.heap.size w w' := by
  unfold pick_Cut.f at h
  obtain ⟨i0, hi0, hsz⟩ := Option.map_eq_some_iff.1 info45
  have hu34 := Try.underlying34
  by_cases hm : a1 < 1
  · rw [if_pos hm] at h
    simp only [Option.some.injEq, Prod.mk.injEq] at h
    obtain ⟨rfl, rfl⟩ := h
    have c1 := decide_eq_true hm
    clear hr0 hm
    go_enter Try.func12, Try.ntmps12
    go_wp2
    go_ret2
    exact ⟨_, rfl, Kd.S_nil _ _ _ _ _, Below.refl _ _⟩
  · rw [if_neg hm] at h
    by_cases hl : l0.length ≤ 2932031007402
    · rw [if_pos hl] at h
      by_cases hl2 : l0.length * 24 ≤ 140737488355200
      · rw [if_pos hl2] at h
        simp only [Option.some.injEq, Prod.mk.injEq] at h
        obtain ⟨rfl, rfl⟩ := h
        have c1 := decide_eq_false hm
        have HM := Aside0.mk (show 1 ≤ a1 by omega)
        have HL := Aside0.mk hl
        have HL2 := Aside0.mk hl2
        have HR := Aside0.mk hr0
        have HC := Aside0.mk hc0
        clear hr0 hc0 hm hl hl2
        go_enter Try.func12, Try.ntmps12
        go_wp2
        go_loopg [0, 6] l0.length (fun kq v0 v6 w' => ∃ (A1 : Option Addr) (c1 : Nat) (l1 : List S45) (xs : List (List S45)), v0 = .slice A1 l1.length c1 ∧ Aside0 (l1.length ≤ c1 ∧ l1.length ≤ kq ∧ xs.length + l1.length ≤ l0.length ∧ cutL a1 l0.length l0 = xs ++ cutL a1 kq l1) ∧ Aside0 (Kd.C k45 w A1 l1.length l1) ∧ Aside0 (Kd.R (kFlag w) 34 w' w.heap.size (fun _ => True) v6 (xs.map fun x => (false, x))) ∧ Aside0 (Below w.heap.size w w'))
        case atStart => exact ⟨A0, c0, l0, [], rfl, ⟨HC.out, Nat.le_refl _, by simp, rfl⟩, ⟨HR.out⟩, ⟨Kd.R_nil _ _ _ _ _⟩, ⟨Below.refl _ _⟩⟩
        case round =>
          obtain ⟨A1, c2, l1, xs, rfl, HJ, HC1, HO, HB⟩ := hrel
          by_cases hz : l1.length = 0
          · have hj := HJ.out
            have hcut : cutL a1 gk l1 = [] := by
              cases gk with
              | zero => rfl
              | succ k => rw [cutL, if_pos hz]
            have hx := hj.2.2.2
            rw [hcut, List.append_nil] at hx
            have HX := Aside0.mk hx
            have cz : decide ((0 : Int) < (l1.length : Int)) = false := decide_eq_false (by omega)
            have cz2 : decide (0 < l1.length) = false := decide_eq_false (by omega)
            have hle : ∀ y ∈ xs, y.length ≤ l0.length := by rw [← hx]; exact cutL_le _ _ _
            have HLE := Aside0.mk hle
            have hxl : xs.length ≤ l0.length := by omega
            have HXL := Aside0.mk hxl
            obtain ⟨A6, c6, e6, hlc6, _⟩ := Kd.R_reads HO.out
            rw [List.length_map] at e6 hlc6
            subst e6
            have HO1 := Aside0.mk (show Kd.S (kFlag w) 34 wr w.heap.size (fun _ => True) (.slice A6 xs.length c6) (cutMix xs 0) by have := flag_S0 HO.out; simpa [cutMix] using this)
            clear hj hx hcut hz hle hxl hlc6 HO
            go_wp2
            go_loopg [51] xs.length (fun kq v51 w' => ∃ i : Int, v51 = .int .i64 i ∧ Aside0 (0 ≤ i ∧ i ≤ xs.length ∧ (kq : Int) = xs.length - i) ∧ Aside0 (Kd.S (kFlag w) 34 w' w.heap.size (fun _ => True) (.slice A6 xs.length c6) (cutMix xs i.toNat)) ∧ Aside0 (Below w.heap.size w w'))
            case atStart => exact ⟨0, rfl, ⟨by omega⟩, ⟨HO1.out⟩, ⟨HB.out⟩⟩
            case round =>
              clear HO1 HB HJ HC1 cz cz2
              obtain ⟨i, rfl, HJ, HO, HB⟩ := hrel
              by_cases hlt : i < (xs.length : Int)
              · have hj := HJ.out
                obtain ⟨g, cap, e, hgb, hgl, _⟩ := Kd.S_form HO.out (by rw [cutMix_length]; omega)
                injection e with ha hn hc
                subst ha
                subst hc
                obtain ⟨c, hcl, hcM, hcc, hcf⟩ := Kd.R_elem (Kd.S_R HO.out) (false, []) i hj.1 hlt
                rw [cutMix_at xs i.toNat (by omega)] at hcM
                obtain ⟨Ay, cy, rfl, hyl, hyC⟩ := hcM
                obtain ⟨y, hy⟩ : ∃ y, y = xs.getD i.toNat [] := ⟨_, rfl⟩
                have hym : y.length ≤ l0.length := HLE.out y (by rw [hy, List.getD_eq_getElem?_getD, List.getElem?_eq_getElem (show i.toNat < xs.length by omega)]; exact List.getElem_mem _)
                have hset := cutMix_set xs i.toNat (by omega)
                rw [← hy] at hyl hyC hset hcc
                have hce : wr.cell? ⟨g, i.toNat, none⟩ = some (.slice Ay y.length cy) := by
                  have := hcc 0 (.slice Ay y.length cy) rfl
                  simpa [kFlag, flag, Kd.fixed, Kd.slice] using this
                have hcz : wr.frozen? ⟨g, i.toNat, none⟩ = false := by
                  have := hcf 0
                  simpa [kFlag, flag, Kd.fixed, Kd.slice] using this
                have hCl := @slices_Clone_palinode_api_Entry_palinode_api_Entry.calls Ay cy y y wr (Kd.C_below hyC HB.out) hyl (by unfold slices_Clone_palinode_api_Entry_palinode_api_Entry.f; rw [if_pos (by have := HL.out; omega)])
                have HCL := Aside0.mk hCl
                have HCC := Aside0.mk hcc
                have HSET := Aside0.mk hset
                have HGL := Aside0.mk hgl
                have HLT := Aside0.mk hlt
                have HY := Aside0.mk hy
                have p1 := eq_true hj.1
                have q1 := eq_true hlt
                have cc := decide_eq_true hlt
                clear hj hlt hn hcl hcc hcf hy hym hset hyl hyC hCl hgb hgl
                go_wp2_with (first | (go_at_call 24; refine HCL.out.mono ?_; rintro e w1 ⟨v1, rfl, ho, hb⟩; obtain ⟨Av, cv, rfl, _, _⟩ := Kd.R_reads ho; have HV := Aside0.mk (Kd.R_bound ho); obtain ⟨f, hfm, hfR⟩ := Kd.S_tag (Kd.S_below (Kd.S_mono (Kd.S_bound HO.out) (ok' := fun k => k < wr.heap.size) (fun k hk => hk.2.2.1)) hb) i.toNat (fun k => wr.heap.size ≤ k) (fun k hk hk2 => by omega); have HFM := Aside0.mk hfm; have HO2 := Aside0.mk (Kd.R_mono hfR (ok' := fun _ => True) (fun _ _ => trivial)); clear hfm hfR; have HB2 := Aside0.mk (below_then HB.out HB.out.size hb); have HC2 := Aside0.mk (fun j u hu => (hb.cell (World.block_lt_of_cell? wr _ (HCC.out j u hu))).trans (HCC.out j u hu)); clear ho hb) | ((with_reducible refine gate_store (t := 34) (p := 61) rfl ?_); refine Kd.R_store (Kd.tag f (kFlag w)) (w0 := w) w.heap.size rfl rfl 34 (.tmp 61) (.tmp 60) rfl 34 (g := g) (n := xs.length) (cap := c6) i 0 (cutMix xs i.toNat).zipIdx ((true, y), i.toNat) (.slice Av y.length cv) [.slice Av y.length cv] [.slice Ay y.length cy] (fun _ => True) (fun k => wr.heap.size ≤ k) rfl (by simp [Kd.tag, kFlag, flag, Kd.fixed, Kd.slice]) rfl rfl ?hs ?h1 HO2.out ?h0 ?hi rfl HC2.out (by simp [Kd.tag, kFlag, flag, Kd.fixed, Kd.slice]) ?hM ?hok HB2.out ?_; (case hs => exact pick_Cut.size34); (case h1 => (intro q hq; rw [List.mem_singleton.1 hq]; rfl)); (case h0 => exact HJ.out.1); (case hi => exact HLT.out); (case hM => exact ⟨_, rfl, Kd.R_lower (Kd.R_mono HV.out (fun k hk => ⟨hk.2.1, HFM.out k hk.2.1⟩)) HB.out.size⟩); (case hok => exact fun k hk => ⟨trivial, by have := HGL.out; omega⟩); intro w2 ho hb hg; have HO3 := Aside0.mk ho; have HB3 := Aside0.mk hb; clear ho hb hg))
                have hn : wrap64 (i + 1) = i + 1 := by have := HL.out; have := HXL.out; have := HLT.out; have := HJ.out; unfold wrap64; omega
                have hm : (i + 1).toNat = i.toNat + 1 := by have := HJ.out; omega
                have HN := Aside0.mk hn
                have HM2 := Aside0.mk hm
                clear hn hm
                go_roundg (gk - 1)
                case rel => exact ⟨_, rfl, ⟨by have := HJ.out; have := HLT.out; rw [HN.out]; omega⟩, ⟨by rw [HN.out, HM2.out, ← HSET.out]; exact ⟨f, by rw [← zipIdx_set]; exact HO3.out⟩⟩, ⟨HB3.out⟩⟩
                case measure => have := HJ.out; have := HLT.out; omega
              · have hj := HJ.out
                have ho := HO.out
                have he : cutMix xs i.toNat = xs.map (fun x => (true, x)) := by
                  unfold cutMix
                  rw [List.take_of_length_le (by omega), List.drop_of_length_le (by omega)]
                  simp
                rw [he] at ho
                have HO3 := Aside0.mk (flag_allS ho)
                have cc := decide_eq_false hlt
                clear ho hj hlt he
                go_wp2
                go_ret2
                exact ⟨_, rfl, by rw [HX.out]; exact HO3.out, HB.out⟩
          · obtain ⟨k1, rfl⟩ : ∃ k1, gk = k1 + 1 := ⟨gk - 1, by have := HJ.out; omega⟩
            obtain ⟨wo, rfl⟩ : ∃ wo : World, wo = wr := ⟨_, rfl⟩
            have hcut : cutL a1 (k1 + 1) l1 = l1.take (cutN a1 l1) :: cutL a1 k1 (l1.drop (cutN a1 l1)) := by rw [cutL, if_neg hz]
            have HCUT := Aside0.mk hcut
            have HBD := Aside0.mk (cutN_bd a1 l1 HM.out (by omega))
            have HZ := Aside0.mk (show 0 < l1.length by omega)
            have cz : decide ((0 : Int) < (l1.length : Int)) = true := decide_eq_true (by omega)
            have cz2 : decide (0 < l1.length) = true := decide_eq_true (by omega)
            obtain ⟨n0, hn0⟩ : ∃ n0 : Int, n0 = min a1 l1.length := ⟨_, rfl⟩
            have hmin : ∀ (ts : Array TypeId) (t : TypeId) (w1 : World), (Builtin.min_ ts t #[.int .i64 a1, .int .i64 (l1.length : Int)]).run Try.prog w1 = .ok (.int .i64 n0) w1 := by
              intro ts t w1
              have e : (if (l1.length : Int) < a1 then (l1.length : Int) else a1) = n0 := by rw [hn0]; split <;> omega
              rw [min_two, min2_int, e]
              rfl
            have HN0 := Aside0.mk hn0
            clear hcut hz hn0
            go_wp2
            go_loopg [7] l1.length (fun kq v7 w' => ∃ n : Int, v7 = .int .i64 n ∧ Aside0 (1 ≤ n ∧ n ≤ l1.length ∧ (l1.length : Int) - n ≤ kq ∧ cutExt l1 kq n.toNat = cutN a1 l1) ∧ Drawn0 wo w')
            case atStart =>
              refine ⟨_, rfl, ⟨?_⟩, Drawn0.refl _⟩
              have := HM.out
              have := HZ.out
              rw [HN0.out]
              exact ⟨by omega, by omega, by omega, rfl⟩
            case round =>
              obtain ⟨n, rfl, HI, ⟨m1, rfl⟩⟩ := hrel
              by_cases hcont : n < (l1.length : Int) ∧ (rd_T45 l1 n).f0.toList = (rd_T45 l1 (wrap64 (n - 1))).f0.toList
              · obtain ⟨hlt, hkey⟩ := hcont
                have hi := HI.out
                have hn1 : wrap64 (n - 1) = n - 1 := by have := HL.out; have := HJ.out; unfold wrap64; omega
                obtain ⟨ad, e, hx0, hx1, hx2, hx3⟩ := at_T45 HC1.out n (by omega) hlt
                cases e
                obtain ⟨ad', e, hy0, hy1, hy2, hy3⟩ := at_T45 HC1.out (wrap64 (n - 1)) (by omega) (by omega)
                obtain rfl : ad = ad' := (by injection e)
                clear hx1 hx2 hx3 hy1 hy2 hy3
                replace hx0 := (HB.out.cell (World.block_lt_of_cell? w _ hx0)).trans hx0
                replace hy0 := (HB.out.cell (World.block_lt_of_cell? w _ hy0)).trans hy0
                have hfu : cutExt l1 (gk - 1) (n + 1).toNat = cutN a1 l1 := by
                  obtain ⟨g, rfl⟩ : ∃ g, gk = g + 1 := ⟨gk - 1, by omega⟩
                  have h3 := hi.2.2.2
                  rw [cutExt, if_pos (by omega), if_pos (by rw [hn1] at hkey; have e1 : (n - 1).toNat = n.toNat - 1 := by omega
                                                            unfold rd_T45 at hkey; rw [e1] at hkey; exact hkey)] at h3
                  have e2 : (n + 1).toNat = n.toNat + 1 := by omega
                  rw [e2]
                  exact h3
                have HFU := Aside0.mk hfu
                have HLT := Aside0.mk hlt
                have hn2 : wrap64 (n + 1) = n + 1 := by have := HL.out; have := HJ.out; unfold wrap64; omega
                have HN2 := Aside0.mk hn2
                have p1 := eq_true (show 0 ≤ n by omega)
                have q1 := eq_true hlt
                have c2' := decide_eq_true hlt
                have p2 := eq_true (show 0 ≤ wrap64 (n - 1) by omega)
                have q2 := eq_true (show wrap64 (n - 1) < (l1.length : Int) by omega)
                have c3 : ((rd_T45 l1 n).f0.toList == (rd_T45 l1 (wrap64 (n - 1))).f0.toList) = true := beq_iff_eq.mpr hkey
                clear hlt hkey hi hn1 hn2 hfu e
                go_wp2
                repeat (go_quiet (fail); try go_wp2)
                go_roundg (gk - 1)
                case rel => exact ⟨_, rfl, ⟨by have := HI.out; have := HLT.out; rw [HN2.out]; exact ⟨by omega, by omega, by omega, HFU.out⟩⟩, ⟨_, by first | rfl | exact World.drewN_drewN _ _ _⟩⟩
                case measure => have := HI.out; have := HLT.out; omega
              · have hi := HI.out
                have hnc : n.toNat = cutN a1 l1 := by
                  have h3 := hi.2.2.2
                  cases gk with
                  | zero => exact h3
                  | succ g =>
                    by_cases hlt : n < (l1.length : Int)
                    · rw [cutExt, if_pos (by omega), if_neg] at h3
                      · exact h3
                      · intro hk
                        apply hcont
                        have hn1 : wrap64 (n - 1) = n - 1 := by have := HL.out; have := HJ.out; unfold wrap64; omega
                        have e1 : (n - 1).toNat = n.toNat - 1 := by omega
                        refine ⟨hlt, ?_⟩
                        unfold rd_T45
                        rw [hn1, e1]
                        exact hk
                    · rw [cutExt, if_neg (by omega)] at h3
                      exact h3
                obtain ⟨y, hy⟩ : ∃ y, y = l1.take n.toNat := ⟨_, rfl⟩
                have hyl : y.length = n.toNat := by rw [hy, List.length_take]; omega
                have hcut1 := cut_tom (P := Try.prog) 34 45 .i64 .i64 hu34 hi0 A1 l1.length c2 n (by omega) (by have := HJ.out; omega)
                rw [← hyl] at hcut1
                obtain ⟨z, hz⟩ : ∃ z, z = l1.drop n.toNat := ⟨_, rfl⟩
                have hzl : z.length = l1.length - n.toNat := by rw [hz, List.length_drop]
                have hcut2 := cut_from (P := Try.prog) 34 45 .i64 hu34 hi0 4 (by simp only [Prod.mk.injEq] at hsz; exact hsz.2.1) A1 l1.length c2 n (by omega) hi.2.1
                obtain ⟨A3, hA3⟩ : ∃ A3, A3 = (if c2 = n.toNat then A1 else A1.map (·.add (n.toNat * 4))) := ⟨_, rfl⟩
                rw [← hA3, ← hzl] at hcut2
                have HCY := Aside0.mk (show Kd.C k45 w A1 y.length y by rw [hy]; exact Kd.C_take HC1.out (by omega))
                have HCZ := Aside0.mk (show Kd.C k45 w A3 z.length z by rw [hA3, hz]; exact Kd.C_drop (m := n.toNat) (c := c2) HC1.out (by omega) HJ.out.1)
                have HF := Aside0.mk (And.intro hnc (And.intro hy (And.intro hyl (And.intro hz hzl))))
                by_cases hlt : n < (l1.length : Int)
                · have hn1 : wrap64 (n - 1) = n - 1 := by have := HL.out; have := HJ.out; unfold wrap64; omega
                  have hkey : ¬ (rd_T45 l1 n).f0.toList = (rd_T45 l1 (wrap64 (n - 1))).f0.toList := fun hk => hcont ⟨hlt, hk⟩
                  obtain ⟨ad, e, hx0, hx1, hx2, hx3⟩ := at_T45 HC1.out n (by omega) hlt
                  cases e
                  obtain ⟨ad', e, hy0, hy1, hy2, hy3⟩ := at_T45 HC1.out (wrap64 (n - 1)) (by omega) (by omega)
                  obtain rfl : ad = ad' := (by injection e)
                  clear hx1 hx2 hx3 hy1 hy2 hy3
                  replace hx0 := (HB.out.cell (World.block_lt_of_cell? w _ hx0)).trans hx0
                  replace hy0 := (HB.out.cell (World.block_lt_of_cell? w _ hy0)).trans hy0
                  have p1 := eq_true (show 0 ≤ n by omega)
                  have q1 := eq_true hlt
                  have c2' := decide_eq_true hlt
                  have p2 := eq_true (show 0 ≤ wrap64 (n - 1) by omega)
                  have q2 := eq_true (show wrap64 (n - 1) < (l1.length : Int) by omega)
                  have c3 : ((rd_T45 l1 n).f0.toList == (rd_T45 l1 (wrap64 (n - 1))).f0.toList) = false := beq_eq_false_iff_ne.mpr hkey
                  clear hlt hkey hi hn1 hnc hcont hy hyl hz hzl hA3 e
                  go_wp2
                  repeat (go_quiet (fail); try go_wp2_with (first | (at_builtin; refine Kd.R_append (kFlag w) (w0 := w) w.heap.size rfl (.tmp 39) (.tmp 44) 35 34 (.slice none 0 0) 24 rfl Try.underlying35 pick_Cut.info34 rfl (show 0 < (kFlag w).sz from Nat.zero_lt_one) (by omega) u6 (xs.map fun x => (false, x)) (false, y) [.slice (some ad) y.length y.length] (fun _ => True) (fun _ => False) rfl rfl ?hp (fun _ h => h.elim) (fun _ _ => trivial) ?hO ?hB ?hS ?hl ?_; (case hp => exact ⟨some ad, y.length, rfl, Nat.le_refl _, HCY.out⟩); (case hO => exact HO.out); (case hB => exact blN HB.out _); (case hS => exact HB.out.size); (case hl => (have := HL2.out; have := HJ.out; have := HZ.out; simp only [List.length_map]; omega)); intro v1 w1 ho hb hg hat; have HO2 := Aside0.mk ho; have HB2 := Aside0.mk hb; clear ho hb hg hat)))
                  go_roundg k1
                  case rel => exact ⟨A3, c2 - n.toNat, z, xs ++ [y], rfl, ⟨by rw [HF.out.2.2.2.2]; have := HJ.out; omega, by rw [HF.out.2.2.2.2]; have := HJ.out; have := HI.out; omega, by rw [HF.out.2.2.2.2, List.length_append, List.length_singleton]; have := HJ.out; have := HI.out; omega, by rw [HJ.out.2.2.2, HCUT.out, List.append_assoc, List.singleton_append, HF.out.2.1, HF.out.2.2.2.1, HF.out.1]⟩, ⟨HCZ.out⟩, ⟨by rw [List.map_append]; exact HO2.out⟩, ⟨HB2.out⟩⟩
                  case measure => omega
                · have c2' := decide_eq_false hlt
                  clear hlt hi hnc hcont hy hyl hz hzl hA3
                  go_wp2
                  repeat (go_quiet (fail); try go_wp2_with (first | (at_builtin; refine Kd.R_append (kFlag w) (w0 := w) w.heap.size rfl (.tmp 39) (.tmp 44) 35 34 (.slice none 0 0) 24 rfl Try.underlying35 pick_Cut.info34 rfl (show 0 < (kFlag w).sz from Nat.zero_lt_one) (by omega) u6 (xs.map fun x => (false, x)) (false, y) [.slice A1 y.length y.length] (fun _ => True) (fun _ => False) rfl rfl ?hp (fun _ h => h.elim) (fun _ _ => trivial) ?hO ?hB ?hS ?hl ?_; (case hp => exact ⟨A1, y.length, rfl, Nat.le_refl _, HCY.out⟩); (case hO => exact HO.out); (case hB => exact blN HB.out _); (case hS => exact HB.out.size); (case hl => (have := HL2.out; have := HJ.out; have := HZ.out; simp only [List.length_map]; omega)); intro v1 w1 ho hb hg hat; have HO2 := Aside0.mk ho; have HB2 := Aside0.mk hb; clear ho hb hg hat)))
                  go_roundg k1
                  case rel => exact ⟨A3, c2 - n.toNat, z, xs ++ [y], rfl, ⟨by rw [HF.out.2.2.2.2]; have := HJ.out; omega, by rw [HF.out.2.2.2.2]; have := HJ.out; have := HI.out; omega, by rw [HF.out.2.2.2.2, List.length_append, List.length_singleton]; have := HJ.out; have := HI.out; omega, by rw [HJ.out.2.2.2, HCUT.out, List.append_assoc, List.singleton_append, HF.out.2.1, HF.out.2.2.2.1, HF.out.1]⟩, ⟨HCZ.out⟩, ⟨by rw [List.map_append]; exact HO2.out⟩, ⟨HB2.out⟩⟩
                  case measure => omega
      · rw [if_neg hl2] at h
        exact absurd h (by simp)
    · rw [if_neg hl] at h
      exact absurd h (by simp)
end Go.Proofs.Ytonhjkghpkhioaa.PA

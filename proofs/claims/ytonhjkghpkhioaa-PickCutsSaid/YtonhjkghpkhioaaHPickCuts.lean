/- PickCuts walked by hand: whatever the list, the law gives true. Condition: what the pieces are (HLawCut). -/
import Derived.Test.YtonhjkghpkhioaaHLawCut
import Derived.Test.YtonhjkghpkhioaaHExamples
namespace Go.Proofs.Ytonhjkghpkhioaa.PA
open Go.RowKit Go.Proofs.YtonhjkghpkhioaaW.PrintWords Go.Proofs.YtonhjkghpkhioaaW.PrintLast Go.Proofs.YtonhjkghpkhioaaW.PrintMore
set_option linter.unusedVariables false
set_option linter.unusedSimpArgs false
theorem C45_far {w w' : World} {A : Option Addr} {n : Nat} {xs : List S45} (h : Kd.C k45 w A n xs) (hw : ∀ k, k < w.heap.size → w'.heap[k]? = w.heap[k]?) : Kd.C k45 w' A n xs := by
  refine ⟨h.1, h.2.1, fun hn => ?_⟩
  obtain ⟨ad, e, hc⟩ := h.2.2 hn
  refine ⟨ad, e, fun j p hj => ?_⟩
  obtain ⟨c, hl, hK, hcc⟩ := hc j p hj
  refine ⟨c, hl, by rw [k45_open hK]; exact k45_mk w' p, fun i u hu => ?_⟩
  have h1 := hcc i u hu
  have hlt := World.block_lt_of_cell? w _ h1
  rw [← h1]
  unfold World.cell?
  rw [hw _ hlt]
theorem F45 {w : World} {A : Option Addr} {n : Nat} {xs : List S45} (h : Kd.C k45 w A n xs) : Kd.F k45 w (fun _ => True) A n xs := fun W' hW => C45_far h (fun k hk => hW k trivial hk)
/-- the list's first i rows made zero, the others as they were -/
def zeroed (W : List (List S45)) (i : Nat) : List (List S45) := (W.take i).map (fun x => List.replicate x.length z45) ++ W.drop i
theorem zeroed_zero (W : List (List S45)) : zeroed W 0 = W := by simp [zeroed]
theorem zeroed_length (W : List (List S45)) (i : Nat) : (zeroed W i).length = W.length := by simp [zeroed]; omega
theorem zeroed_at (W : List (List S45)) (i : Nat) (h : i < W.length) : (zeroed W i).getD i [] = W.getD i [] := by
  unfold zeroed
  rw [List.getD_eq_getElem?_getD, List.getD_eq_getElem?_getD, List.getElem?_append_right (by simp; omega)]
  simp [Nat.min_eq_left (Nat.le_of_lt h)]
theorem zeroed_set (W : List (List S45)) (i : Nat) (h : i < W.length) : (zeroed W i).set i (List.replicate (W.getD i []).length z45) = zeroed W (i + 1) := by
  unfold zeroed
  have hl : ((W.take i).map (fun x => List.replicate x.length z45)).length = i := by simp; omega
  rw [List.set_append_right _ _ (by omega), hl, Nat.sub_self, List.drop_eq_getElem_cons h, List.set_cons_zero, List.take_succ_eq_append_getElem h, List.map_append, List.append_assoc]
  simp only [List.getD_eq_getElem?_getD, List.getElem?_eq_getElem h, Option.getD_some, List.map_cons, List.map_nil, List.singleton_append]
/-- the row's first k elements made zero -/
def zrow (x : List S45) (k : Nat) : List S45 := List.replicate k z45 ++ x.drop k
theorem zrow_zero (x : List S45) : zrow x 0 = x := by simp [zrow]
theorem zrow_length (x : List S45) (k : Nat) (h : k ≤ x.length) : (zrow x k).length = x.length := by simp [zrow]; omega
theorem zrow_all (x : List S45) : zrow x x.length = List.replicate x.length z45 := by simp [zrow]
theorem zrow_set (x : List S45) (k : Nat) (h : k < x.length) : (zrow x k).set k z45 = zrow x (k + 1) := by
  unfold zrow
  rw [List.set_append_right _ _ (by simp), List.length_replicate, Nat.sub_self, List.drop_eq_getElem_cons h, List.set_cons_zero, List.replicate_succ' ]
  simp
theorem size45 : (Try.prog.info? 45).map (·.size) = some 4 := by
  obtain ⟨i1, hi1, h1⟩ := Option.map_eq_some_iff.1 info45
  simp only [Prod.mk.injEq] at h1
  rw [hi1]
  simp [h1.2.1]
set_option maxHeartbeats 4000000 in
set_option maxRecDepth 100000 in
theorem palinodelaw16_PickCuts.main (A0 : Option Addr) (c0 : Nat) (l0 : List S45) (a1 : Int) (L : List S45) (W : List (List S45)) (kc : Nat) (w : World) (hr0 : Kd.C k45 w A0 l0.length l0) (hc0 : l0.length ≤ c0) (hL : L = l0.take (min l0.length 200)) (hW : palinoderef16_Cut.f kc L a1 = some (W, true)) (hcut : pick_Cut.f L a1 = some (W, none)) (hWl : ∀ x ∈ W, x.length ≤ 200) (hWn : W.length ≤ 200) :
    Calls Try.prog 4 #[.slice A0 l0.length c0, .int .i64 a1] w fun e w' => e = .returned (.bool true) ∧ Below w.heap.size w w' := by
  obtain ⟨i0, hi0, hsz⟩ := Option.map_eq_some_iff.1 info45
  have hu34 := Try.underlying34
  have hLl : L.length = min l0.length 200 := by rw [hL, List.length_take]; omega
  have hmin : ∀ (ts : Array TypeId) (t : TypeId) (w1 : World), (Builtin.min_ ts t #[.int .i64 (l0.length : Int), .int .i64 200]).run Try.prog w1 = .ok (.int .i64 (L.length : Int)) w1 := by
    intro ts t w1
    have e : (if (200 : Int) < (l0.length : Int) then (200 : Int) else (l0.length : Int)) = (L.length : Int) := by split <;> omega
    rw [min_two, min2_int, e]
    rfl
  have hcutL := cut_to (P := Try.prog) 34 45 .i64 hu34 hi0 A0 l0.length c0 (L.length : Int) (by omega) (by omega) hc0
  rw [Int.toNat_natCast] at hcutL
  have HR := Aside0.mk (show Kd.C k45 w A0 L.length L by rw [hL]; exact Kd.C_take hr0 (by omega))
  have HL := Aside0.mk hLl
  have HC := Aside0.mk hc0
  have HW := Aside0.mk hW
  have HCUT := Aside0.mk hcut
  have HWL := Aside0.mk hWl
  have HWN := Aside0.mk hWn
  have hent := entries_I L (by omega)
  obtain ⟨ke, hke⟩ := hent
  have HKE := Aside0.mk hke
  clear hr0 hc0 hL hLl hW hcut hWl hWn hke
  go_enter Try.func4, Try.ntmps4
  go_wp2_with (first | (go_at_call 5; refine (palinodelaw16_examples.calls true _ rfl).mono ?_; rintro e w1 ⟨rfl, hb⟩; have HB1 := Aside0.mk hb; clear hb) | (at_builtin; refine Kd.R_append_rows k45 (Rr := k45.K w) (w0 := w) w.heap.size rfl (.const (.slice none 0 0)) (.tmp 22) 34 45 (.agg #[(.string ⟨#[]⟩), (.int .i64 0), (.bool false), (.string ⟨#[]⟩)]) 48 rfl Try.underlying34 info45 rfl (by decide) (by omega) (.slice none 0 0) [] L A0 L.length c0 (fun _ => True) (fun _ => False) rfl rfl (Kd.R_nil _ _ _ _ _) ?aR (fun x cs h => by rw [k45_open h]; exact k45_mkM _ _ _ x) (fun _ h => h.elim) (fun _ _ => trivial) HB1.out HB1.out.size (by have := HL.out; simp only [List.length_nil]; omega) ?_; (case aR => exact ReadsRow.imp_ HR.out HB1.out (fun _ _ h => h)); intro v2 w2 ho hb hg hat; rw [List.nil_append] at ho; obtain ⟨Av, cv, rfl, hcv, hCv⟩ := Kd.R_reads ho; have HV := Aside0.mk hCv; have HCV := Aside0.mk hcv; have HB2 := Aside0.mk hb; clear ho hb hg hat hcv hCv) | (go_at_call 11; refine (palinoderef16_Cut.calls kc (fun _ => True) A0 c0 L a1 W true _ (Kd.V_mk (by have := HC.out; have := HL.out; omega) (F45 (Kd.C_below HR.out HB2.out))) HW.out).mono ?_; rintro e w3 ⟨v3, rfl, ho, hb⟩; obtain ⟨Aw, cw, rfl⟩ := Kd.N_slice ho; obtain ⟨_, hcw, hCw⟩ := Kd.N_reads' ho; have HWC := Aside0.mk hCw; have HCW := Aside0.mk hcw; have HVC := Aside0.mk (Kd.C_below HV.out hb); have HB3 := Aside0.mk (below_then HB2.out HB2.out.size hb); clear ho hb hcw hCw))
  obtain ⟨wC, rfl⟩ : ∃ wC : World, wC = w3 := ⟨_, rfl⟩
  have HA := Aside0.mk (Kd.C_below HR.out HB3.out)
  clear HR hmin hcutL HB1 HB2 HV
  go_loopg [9] 2 (fun kq v9 w' => ∃ x : Int, v9 = .int .i64 x ∧ Aside0 (0 ≤ x ∧ (kq : Int) = 2 - x) ∧ Aside0 (Below wC.heap.size wC w'))
  case atStart => exact ⟨0, rfl, ⟨by omega⟩, ⟨Below.refl _ _⟩⟩
  case round =>
    obtain ⟨x, rfl, HX, HB⟩ := hrel
    obtain ⟨wo, rfl⟩ : ∃ wo : World, wo = wr := ⟨_, rfl⟩
    by_cases hx : x < 2
    · have HX2 := Aside0.mk hx
      obtain ⟨k1, rfl⟩ : ∃ k1, gk = k1 + 1 := ⟨gk - 1, by have := HX.out; omega⟩
      have c2 := decide_eq_true hx
      have hn : wrap64 (x + 1) = x + 1 := by have := HX.out; unfold wrap64; omega
      have HN := Aside0.mk hn
      clear hx hn
      go_wp2_with (first | (go_at_call 12; refine (pick_Cut.calls Av cv L a1 W none _ (Kd.C_below HVC.out HB.out) HCV.out HCUT.out).mono ?_; rintro e w4 ⟨v4, rfl, hS, hb⟩; obtain ⟨Ao, co, rfl⟩ := Kd.S_slice hS; have HS := Aside0.mk (Kd.S_lower hS HB.out.size); have HB5 := Aside0.mk (below_then HB.out HB.out.size hb); clear hS hb; (try simp only [errW_none])))
      go_loopg [12] W.length (fun kq v12 w' => ∃ i : Int, v12 = .int .i64 i ∧ Aside0 (0 ≤ i ∧ i ≤ W.length ∧ (kq : Int) = W.length - i) ∧ Aside0 (Kd.S (Kd.slice 45 k45) 34 w' wC.heap.size (fun _ => True) (.slice Ao W.length co) (zeroed W i.toNat)) ∧ Aside0 (Below wC.heap.size wC w'))
      case atStart => exact ⟨0, rfl, ⟨by omega⟩, ⟨by rw [Int.toNat_zero, zeroed_zero]; exact HS.out⟩, ⟨HB5.out⟩⟩
      case round =>
        clear HS HB5
        have HBo := HB
        clear HB
        obtain ⟨i, rfl, HJ, HO, HB⟩ := hrel
        by_cases hlt : i < (W.length : Int)
        · have hj := HJ.out
          obtain ⟨k2, rfl⟩ : ∃ k2, gk = k2 + 1 := ⟨gk - 1, by omega⟩
          obtain ⟨g, cap, e, hgb, hgl, _⟩ := Kd.S_form HO.out (by rw [zeroed_length]; omega)
          injection e with ha hn hc
          subst ha
          subst hc
          obtain ⟨oki, c, hcl, hM, hcc, hok, hH⟩ := Kd.S_lend HO.out [] i hj.1 hlt
          rw [zeroed_at W i.toNat (by omega)] at hM
          obtain ⟨y, hy⟩ : ∃ y, y = W.getD i.toNat [] := ⟨_, rfl⟩
          rw [← hy] at hM
          have hym : y.length ≤ 200 := HWL.out y (by rw [hy, List.getD_eq_getElem?_getD, List.getElem?_eq_getElem (show i.toNat < W.length by omega)]; exact List.getElem_mem _)
          obtain ⟨vi, rfl, hRi⟩ := hM
          obtain ⟨Ai, ci, rfl, hci, hCi⟩ := Kd.R_reads hRi
          have hce : wr.cell? ⟨g, i.toNat, none⟩ = some (.slice Ai y.length ci) := by
            have := hcc 0 (.slice Ai y.length ci) rfl
            simpa [Kd.slice] using this
          obtain ⟨ad, A5, c5, e5, hcell5, hl5, hC5⟩ := at_L8 (Kd.C_below HWC.out HB.out) i hj.1 hlt
          cases e5
          have hrd : rd_L8 W i = y := by rw [hy]; rfl
          rw [hrd] at hcell5 hl5 hC5
          obtain ⟨ky, hky⟩ := entries_I y (by omega)
          have HEN := Aside0.mk (fun nn : Nat => palinodelaw16_entries.calls ky Ai ci y A5 c5 y true (wr.drewN nn) (Kd.C_drewN hCi nn) hci (Kd.C_drewN hC5 nn) hl5 hky)
          have HRI := Aside0.mk hRi
          have HH := Aside0.mk hH
          have HOK := Aside0.mk hok
          have HY := Aside0.mk hy
          have HYM := Aside0.mk hym
          have HLT := Aside0.mk hlt
          have p1 := eq_true hj.1
          have q1 := eq_true hlt
          have cc := decide_eq_true hlt
          have hset := zeroed_set W i.toNat (by omega)
          rw [← hy] at hset
          have HSET := Aside0.mk hset
          have hn2 : wrap64 (i + 1) = i + 1 := by have := HWN.out; unfold wrap64; omega
          have HN2 := Aside0.mk hn2
          have HM2 := Aside0.mk (show (i + 1).toNat = i.toNat + 1 by omega)
          clear hj hlt hn hcl hcc hok hH hgb hgl hy hym hRi hci hCi hl5 hC5 hrd hky hset hn2
          go_wp2
          go_quiet ((exact Calls.quiet_of ((HEN.out _).mono (fun _ _ h => ⟨h.1, h.2.out⟩))))
          go_wp2
          go_loopg [14] y.length (fun kq v14 w' => ∃ k : Int, v14 = .int .i64 k ∧ Aside0 (0 ≤ k ∧ k ≤ y.length ∧ (kq : Int) = y.length - k) ∧ w'.cell? ⟨g, i.toNat, none⟩ = some (.slice Ai y.length ci) ∧ Aside0 (Kd.R k45 45 w' wC.heap.size oki (.slice Ai y.length ci) (zrow y k.toNat)) ∧ Aside0 (Kd.H (Kd.slice 45 k45) 34 w' wC.heap.size (fun _ => True) (.slice (some ⟨g, 0, none⟩) W.length co) (zeroed W i.toNat) i oki [.slice Ai y.length ci]) ∧ Aside0 (Below wC.heap.size wC w'))
          case atStart => exact ⟨0, rfl, ⟨by omega⟩, hce, ⟨by rw [Int.toNat_zero, zrow_zero]; exact Kd.R_drewN HRI.out _⟩, ⟨Kd.H_drewN HH.out _⟩, ⟨blN HB.out _⟩⟩
          case round =>
            obtain ⟨k, rfl, HK, hck, HR, HH2, HB2⟩ := hrel
            by_cases hkl : k < (y.length : Int)
            · have hk0 := HK.out
              have hzl := zrow_length y k.toNat (by omega)
              obtain ⟨gi, capi, ei, hbi, hli, _⟩ := Kd.R_form HR.out (by rw [hzl]; omega)
              injection ei with ea en ec
              subst ea
              subst ec
              obtain ⟨c, hcl, _, hcc, _⟩ := Kd.R_elem HR.out z45 k hk0.1 hkl
              have hgi : oki gi := HR.out.1 gi (by simp [Value.ownBlock])
              have HGI := Aside0.mk hgi
              have HGN := Aside0.mk (HOK.out gi hgi).2
              have hcd : c.drop 4 = [] := List.drop_eq_nil_of_le (by rw [hcl]; exact Nat.le_refl 4)
              have HCD := Aside0.mk hcd
              have HCL := Aside0.mk hcl
              have HCC := Aside0.mk hcc
              have HLK := Aside0.mk hkl
              have HCK := Aside0.mk hck
              have hn3 : wrap64 (k + 1) = k + 1 := by have := HYM.out; unfold wrap64; omega
              have HN3 := Aside0.mk hn3
              have HM3 := Aside0.mk (show (k + 1).toNat = k.toNat + 1 by omega)
              have HZS := Aside0.mk (zrow_set y k.toNat (by omega))
              have p2 := eq_true hk0.1
              have q2 := eq_true hkl
              have c3 := decide_eq_true hkl
              clear hk0 hkl hzl en hbi hli hcl hcc hgi hcd hn3
              go_wp2_with (first | ((with_reducible refine gate_store (t := 45) (p := 92) rfl ?_); refine Kd.R_store k45 (w0 := wC) wC.heap.size rfl rfl 45 (.tmp 92) (.tmp 91) rfl 45 (g := gi) (n := y.length) (cap := ci) k 0 (zrow y k.toNat) z45 (.agg #[(.string ⟨#[]⟩), (.int .i64 0), (.bool false), (.string ⟨#[]⟩)]) [(.string ⟨#[]⟩), (.int .i64 0), (.bool false), (.string ⟨#[]⟩)] c oki (fun _ => False) rfl rfl rfl rfl ?ht ?h1 HR.out HK.out.1 HLK.out HCL.out HCC.out (by decide) ?hM (fun _ h => h.elim) HB2.out ?_; (case ht => exact size45); (case h1 => (intro q hq; simp only [List.mem_cons, List.not_mem_nil, or_false] at hq; rcases hq with rfl | rfl | rfl | rfl <;> rfl)); (case hM => (show k45.M _ _ _ z45 ([] ++ _ ++ c.drop 4); rw [HCD.out]; exact k45_mkM _ _ _ z45)); intro w2 ho hb hg; have HO3 := Aside0.mk ho; have HB3 := Aside0.mk hb; have HG3 := Aside0.mk hg; clear ho hb hg))
              have HH3 := Aside0.mk (Kd.H_grown HH2.out HG3.out (fun q hq => by injection hq with hq; rw [← hq]; exact HGI.out))
              have hck3 : w2.cell? ⟨g, i.toNat, none⟩ = some (.slice (some ⟨gi, 0, none⟩) y.length ci) := by
                rw [← HCK.out]
                unfold World.cell?
                rw [HG3.out.block g (World.block_lt_of_cell? wr _ HCK.out) (fun hq => HGN.out (by injection hq with hq; exact hq.symm))]
              go_roundg (gk - 1)
              case rel => exact ⟨_, rfl, ⟨by have := HK.out; have := HLK.out; rw [HN3.out]; omega⟩, hck3, ⟨by rw [HN3.out, HM3.out, ← HZS.out]; exact HO3.out⟩, ⟨HH3.out⟩, ⟨HB3.out⟩⟩
              case measure => have := HK.out; have := HLK.out; omega
            · have hk0 := HK.out
              have hke : k.toNat = y.length := by omega
              have hR2 := HR.out
              rw [hke, zrow_all] at hR2
              have hS2 := Kd.H_back HH2.out (okp := oki) (x' := List.replicate y.length z45) ⟨_, rfl, hR2⟩ (fun _ h => h)
              rw [HSET.out] at hS2
              have HS2 := Aside0.mk hS2
              have c3 := decide_eq_false hkl
              clear hk0 hke hR2 hS2 hkl
              go_wp2
              go_roundg k2
              case rel => exact ⟨_, rfl, ⟨by have := HJ.out; have := HLT.out; rw [HN2.out]; omega⟩, ⟨by rw [HN2.out, HM2.out]; exact HS2.out⟩, ⟨HB2.out⟩⟩
              case measure => omega
        · have cc := decide_eq_false hlt
          clear hlt
          go_wp2
          go_roundg k1
          case rel => exact ⟨_, rfl, ⟨by have := HX.out; have := HX2.out; rw [HN.out]; omega⟩, ⟨HB.out⟩⟩
          case measure => omega
    · have c2 := decide_eq_false hx
      clear hx
      have HEN := Aside0.mk (palinodelaw16_entries.calls ke Av cv L A0 c0 L true wo (Kd.C_below HVC.out HB.out) HCV.out (Kd.C_below HA.out HB.out) (by have := HC.out; have := HL.out; omega) HKE.out)
      go_wp2_with (first | (go_at_call 14; refine HEN.out.mono ?_; rintro e w5 ⟨rfl, hd⟩; have HD := Aside0.mk hd; clear hd))
      go_ret
      exact ⟨rfl, below_then HB3.out HB3.out.size (below_then HB.out HB.out.size HD.out.below)⟩
set_option maxHeartbeats 4000000 in
set_option maxRecDepth 100000 in
theorem palinodelaw16_PickCuts.main0 (A0 : Option Addr) (c0 : Nat) (l0 : List S45) (a1 : Int) (L : List S45) (kc : Nat) (w : World) (hr0 : Kd.C k45 w A0 l0.length l0) (hc0 : l0.length ≤ c0) (hL : L = l0.take (min l0.length 200)) (hW : palinoderef16_Cut.f kc L a1 = some ([], false)) (hcut : pick_Cut.f L a1 = some ([], some 1)) :
    Calls Try.prog 4 #[.slice A0 l0.length c0, .int .i64 a1] w fun e w' => e = .returned (.bool true) ∧ Below w.heap.size w w' := by
  obtain ⟨i0, hi0, hsz⟩ := Option.map_eq_some_iff.1 info45
  have hu34 := Try.underlying34
  have hLl : L.length = min l0.length 200 := by rw [hL, List.length_take]; omega
  have hmin : ∀ (ts : Array TypeId) (t : TypeId) (w1 : World), (Builtin.min_ ts t #[.int .i64 (l0.length : Int), .int .i64 200]).run Try.prog w1 = .ok (.int .i64 (L.length : Int)) w1 := by
    intro ts t w1
    have e : (if (200 : Int) < (l0.length : Int) then (200 : Int) else (l0.length : Int)) = (L.length : Int) := by split <;> omega
    rw [min_two, min2_int, e]
    rfl
  have hcutL := cut_to (P := Try.prog) 34 45 .i64 hu34 hi0 A0 l0.length c0 (L.length : Int) (by omega) (by omega) hc0
  rw [Int.toNat_natCast] at hcutL
  have HR := Aside0.mk (show Kd.C k45 w A0 L.length L by rw [hL]; exact Kd.C_take hr0 (by omega))
  have HL := Aside0.mk hLl
  have HC := Aside0.mk hc0
  have HW := Aside0.mk hW
  have HCUT := Aside0.mk hcut
  have hent := entries_I L (by omega)
  obtain ⟨ke, hke⟩ := hent
  have HKE := Aside0.mk hke
  clear hr0 hc0 hL hLl hW hcut hke
  go_enter Try.func4, Try.ntmps4
  go_wp2_with (first | (go_at_call 5; refine (palinodelaw16_examples.calls true _ rfl).mono ?_; rintro e w1 ⟨rfl, hb⟩; have HB1 := Aside0.mk hb; clear hb) | (at_builtin; refine Kd.R_append_rows k45 (Rr := k45.K w) (w0 := w) w.heap.size rfl (.const (.slice none 0 0)) (.tmp 22) 34 45 (.agg #[(.string ⟨#[]⟩), (.int .i64 0), (.bool false), (.string ⟨#[]⟩)]) 48 rfl Try.underlying34 info45 rfl (by decide) (by omega) (.slice none 0 0) [] L A0 L.length c0 (fun _ => True) (fun _ => False) rfl rfl (Kd.R_nil _ _ _ _ _) ?aR (fun x cs h => by rw [k45_open h]; exact k45_mkM _ _ _ x) (fun _ h => h.elim) (fun _ _ => trivial) HB1.out HB1.out.size (by have := HL.out; simp only [List.length_nil]; omega) ?_; (case aR => exact ReadsRow.imp_ HR.out HB1.out (fun _ _ h => h)); intro v2 w2 ho hb hg hat; rw [List.nil_append] at ho; obtain ⟨Av, cv, rfl, hcv, hCv⟩ := Kd.R_reads ho; have HV := Aside0.mk hCv; have HCV := Aside0.mk hcv; have HB2 := Aside0.mk hb; clear ho hb hg hat hcv hCv) | (go_at_call 11; refine (palinoderef16_Cut.calls kc (fun _ => True) A0 c0 L a1 [] false _ (Kd.V_mk (by have := HC.out; have := HL.out; omega) (F45 (Kd.C_below HR.out HB2.out))) HW.out).mono ?_; rintro e w3 ⟨v3, rfl, ho, hb⟩; obtain ⟨Aw, cw, rfl⟩ := Kd.N_slice ho; obtain ⟨_, hcw, hCw⟩ := Kd.N_reads' ho; have HWC := Aside0.mk hCw; have HCW := Aside0.mk hcw; have HVC := Aside0.mk (Kd.C_below HV.out hb); have HB3 := Aside0.mk (below_then HB2.out HB2.out.size hb); clear ho hb hcw hCw))
  obtain ⟨wC, rfl⟩ : ∃ wC : World, wC = w3 := ⟨_, rfl⟩
  have HA := Aside0.mk (Kd.C_below HR.out HB3.out)
  have HIS := Aside0.mk (fun W => palinodelaw16_is.calls (some 1) 1 true W rfl)
  simp only [errW_some] at HIS
  clear HR hmin hcutL HB1 HB2 HV
  go_loopg [9] 2 (fun kq v9 w' => ∃ x : Int, v9 = .int .i64 x ∧ Aside0 (0 ≤ x ∧ (kq : Int) = 2 - x) ∧ Aside0 (Below wC.heap.size wC w'))
  case atStart => exact ⟨0, rfl, ⟨by omega⟩, ⟨Below.refl _ _⟩⟩
  case round =>
    obtain ⟨x, rfl, HX, HB⟩ := hrel
    obtain ⟨wo, rfl⟩ : ∃ wo : World, wo = wr := ⟨_, rfl⟩
    by_cases hx : x < 2
    · have HX2 := Aside0.mk hx
      obtain ⟨k1, rfl⟩ : ∃ k1, gk = k1 + 1 := ⟨gk - 1, by have := HX.out; omega⟩
      have c2 := decide_eq_true hx
      have hn : wrap64 (x + 1) = x + 1 := by have := HX.out; unfold wrap64; omega
      have HN := Aside0.mk hn
      clear hx hn
      go_wp2_with (first | (go_at_call 12; refine (pick_Cut.calls Av cv L a1 [] (some 1) _ (Kd.C_below HVC.out HB.out) HCV.out HCUT.out).mono ?_; rintro e w4 ⟨v4, rfl, hS, hb⟩; obtain ⟨Ao, co, rfl⟩ := Kd.S_slice hS; have HB5 := Aside0.mk (below_then HB.out HB.out.size hb); clear hS hb; (try simp only [errW_some])) | (go_at_call 13; refine (HIS.out _).mono ?_; rintro e w5 ⟨rfl, hd⟩; have HB6 := Aside0.mk (below_then HB5.out HB5.out.size hd.below); clear hd))
      go_loopg [12] 0 (fun kq v12 w' => v12 = .int .i64 0 ∧ Aside0 (Below wC.heap.size wC w'))
      case atStart => exact ⟨rfl, ⟨HB6.out⟩⟩
      case round =>
        clear HB5 HB6 HB
        obtain ⟨rfl, HB⟩ := hrel
        go_wp2
        go_roundg k1
        case rel => exact ⟨_, rfl, ⟨by have := HX.out; have := HX2.out; rw [HN.out]; omega⟩, ⟨HB.out⟩⟩
        case measure => omega
    · have c2 := decide_eq_false hx
      clear hx
      have HEN := Aside0.mk (palinodelaw16_entries.calls ke Av cv L A0 c0 L true wo (Kd.C_below HVC.out HB.out) HCV.out (Kd.C_below HA.out HB.out) (by have := HC.out; have := HL.out; omega) HKE.out)
      go_wp2_with (first | (go_at_call 14; refine HEN.out.mono ?_; rintro e w5 ⟨rfl, hd⟩; have HD := Aside0.mk hd; clear hd))
      go_ret
      exact ⟨rfl, below_then HB3.out HB3.out.size (below_then HB.out HB.out.size HD.out.below)⟩
end Go.Proofs.Ytonhjkghpkhioaa.PA

/- The row of VersionLive (the second form: of bulk at most 1048576), out of the plain law and the walk. Not trusted: Lean checks it. No condition. -/
import Derived.Test.YtoonheembcejfaaRows
import Derived.Test.YtoonheembcejfaaHLawLive
import Derived.Test.YtoonheembcejfaaHReadVersion
import Derived.WalkKit
import Derived.ProofKit
import Derived.OpenShut
import Derived.ShutString
import Derived.ChangeOld
import Derived.Below
import Derived.SizedLaws
import Derived.Carry
import Derived.Lib.SmallJoins
import Derived.JoinedCond
namespace Go.Proofs.Ytoonheembcejfaa.versionLive
open Go.ChangeShapes Go.WideShapes Go.ChangeAt Go.RowKit
open Go.Proofs.YtoonheembcejfaaW.PrintWords Go.Proofs.YtoonheembcejfaaW.PrintLast Go.Proofs.YtoonheembcejfaaW.PrintMore Go.Proofs.Ytoonheembcejfaa.PA
set_option linter.unusedVariables false
theorem own : ownKnob Try.prog.godebug = none := by kernel_rfl
theorem laidOut : laidOutB Try.prog = true := by kernel_rfl
/-- Every value counts at least one. -/
theorem one_le {H : Type} (d : DataW H) : 1 ≤ Rows.uptoBulk d := by
  cases d with
  | lit l => cases l <;> simp [Rows.uptoBulk]
  | _ => simp [Rows.uptoBulk]
theorem len_le {H : Type} (l : List (DataW H)) : l.length ≤ Rows.uptoBulkAll l := by
  induction l with
  | nil => exact Nat.zero_le _
  | cons x r ih =>
    have := one_le x
    simp only [Rows.uptoBulkAll, List.length_cons]
    omega
/-- A slice is no longer than its bulk. -/
theorem slice_small {H : Type} {enc : TypeId × Value → H} {W : World} {sp : Nat → Bool} {held : Bool} {T e : TypeId} {fuel : Nat} {A : Option Addr} {n c : Nat} {x : DataW H × List MemPlace} (hu : Try.prog.underlying T = some (.slice e)) (h : DataW.trod enc Try.prog W 0 sp held fuel T [.slice A n c] = some x) : n ≤ Rows.uptoBulk x.1 := by
  rcases Deep.open_slice hu h with ⟨e1, rfl⟩ | ⟨a, len, cap, m, k, D, Pl, e1, _, _, _, _, rfl, _⟩
  · injection e1 with e1 _
    injection e1 with _ e1 _
    omega
  · injection e1 with e1 _
    injection e1 with _ e1 _
    have := len_le ((List.range len).map D)
    rw [List.length_map, List.length_range] at this
    simp only [Rows.uptoBulk]
    omega
set_option maxRecDepth 100000 in
/-- The two slices of a version are no longer than its bulk. -/
theorem version_small {H : Type} {enc : TypeId × Value → H} {W : World} {r : Reach} {b : Nat} {A0 A1 : Option Addr} {n0 c0 n1 c1 : Nat} {x : Value} {d : DataW H} {p : List MemPlace} (hv : Value.okWide Try.prog W r b 25 (.agg #[.slice A0 n0 c0, .slice A1 n1 c1, x])) (h : DataW.Trod enc Try.prog W 0 (fun _ => true) true 25 (.agg #[.slice A0 n0 c0, .slice A1 n1 c1, x]) d p) :
    n0 ≤ Rows.uptoBulk d ∧ n1 ≤ Rows.uptoBulk d := by
  obtain ⟨v0, v1, v2, y0, y1, y2, n, e, rfl, _, h0, h1, h2⟩ := Go.Joins.open_agg3 Try.underlying25 (by kernel_rfl) (by kernel_rfl) hv h
  injection e with e
  injection e with e
  injection e with e0 e
  injection e with e1 e
  subst e0 e1
  have s0 := slice_small Try.underlying22 h0
  have s1 := slice_small Try.underlying23 h1
  simp only [Rows.uptoBulk, Rows.uptoBulkAll]
  omega
set_option maxRecDepth 100000 in
theorem lifted (os : Os) (started : os.Started) (H : Type) (enc : TypeId × Value → H) (F : Stop.Interp) :
    ReturnsInHanded {} Try.checked os 5 .any ((Rows.OpenSpec.upto Rows.versionLiveSpec).pre6 enc Try.prog Try.f5 Rows.versionLiveUptoRow.domain false) (((Rows.OpenSpec.upto Rows.versionLiveSpec).at F).post enc Try.prog Try.f5 false true false false) := by
  refine returnsInHanded_of_cond (C := Try.checked) (s := Rows.OpenSpec.upto Rows.versionLiveSpec) (k := Rows.uptoSmall) rfl own started (by kernel_rfl) Try.func5
    (OpenSpec.witness (enc := enc) (C := Try.checked) (s := Rows.OpenSpec.upto Rows.versionLiveSpec) (k := Rows.uptoSmall) rfl false ⟨#[], #[.agg #[.slice none 0 0, .slice none 0 0, .int .i64 0]], []⟩ 8 (by kernel_rfl) (by kernel_rfl) (by kernel_rfl)
      (x := ([.agg [.nil, .nil, .lit (.int .i64 0)]], [], [])) (by kernel_rfl) rfl (by kernel_rfl)) ?_
  intro W base args ds gs before hval0 hW _ hk _
  have hval : ∀ (j : Nat) t v, Try.f5.params[j]? = some t → args[j]? = some v → Value.okWide Try.prog W .any base t v := hval0
  have hW' := hW
  obtain ⟨p, q, hA0, hV, rfl, hfz, hnd⟩ := hW
  have hA : DataW.TrodAll enc Try.prog W 0 (fun _ => true) true Try.f5.params.toList args.toList ds p := hA0
  rw [Try.params5] at hA hval
  obtain ⟨v0, vs0, d0, ds0, p0, q0, hargs, rfl, rfl, h0, r0⟩ := trodAll_cons hA
  obtain ⟨rfl, rfl, rfl⟩ := trodAll_nil r0
  obtain rfl : args = #[v0] := by cases args; simp_all
  obtain ⟨rfl, rfl⟩ := trodVars_none hV
  have k0 := h0
  have lt0 : ∀ x ∈ p0, x.block < W.heap.size := by obtain ⟨m, hm⟩ := k0; exact DataW.trod_lt m _ _ _ hm
  have hv0 := hval 0 25 v0 rfl rfl
  obtain ⟨A0, c0, l0, A1, c1, l1, n, rfl, hK0, hc0, hK1, hc1, hG0, hG1⟩ := version_reads hv0 h0
  obtain ⟨s0, s1⟩ := version_small hv0 h0
  have hb : Rows.uptoBulkAll ([d0] ++ ([] : List (DataW H))) ≤ 1048576 := of_decide_eq_true hk
  simp only [List.append_nil, Rows.uptoBulkAll] at hb
  clear hA0 hval0
  obtain ⟨k, hk2⟩ := VersionLive_pure l0 l1 n hG0 hG1 (by omega) (by omega)
  refine (palinodelaw14_VersionLive.calls k A0 c0 l0 A1 c1 l1 n true W hK0 hc0 hK1 hc1 rfl hk2).mono fun e W' ⟨he, bel⟩ => ?_
  subst he
  exact ⟨_, rfl, _, _, _, [], _, [], hW', trodAll_mk1 (shut_bool Try.underlying4 _), (trodAll_cons_mk (Below.trod laidOut (by kernel_rfl) (of_decide_eq_true (by kernel_rfl)) k0 bel lt0) trodAll_mk0), rfl, bel.frame _, fun h => by cases h⟩
theorem over : Rows.versionLiveUptoRow.holds Try.pinned (Rows.OpenSpec.upto Rows.versionLiveSpec) :=
  OpenClaim.holds_of_cond 5 Try.f5 rfl rfl rfl rfl rfl rfl rfl ⟨rfl, rfl, rfl, rfl, rfl⟩ rfl rfl rfl rfl rfl (by kernel_rfl) Try.func5 (by kernel_rfl)
    (of_decide_eq_true (by kernel_rfl)) (by unfold Func.isWrapper; first | (rw [if_pos (by decide +kernel)]; kernel_rfl) | (rw [if_neg (by decide +kernel)]; exact ⟨rfl, rfl⟩))
    (fun os started H enc _ F => lifted os started H enc F)
theorem proved : Rows.VersionLiveUptoSaid := over
#print axioms proved
end Go.Proofs.Ytoonheembcejfaa.versionLive
namespace Go.Proofs.Ytoonheembcejfaa
/-- The row, under a short name, for the claim. -/
theorem versionLive_holds : Rows.VersionLiveUptoSaid := versionLive.proved
end Go.Proofs.Ytoonheembcejfaa

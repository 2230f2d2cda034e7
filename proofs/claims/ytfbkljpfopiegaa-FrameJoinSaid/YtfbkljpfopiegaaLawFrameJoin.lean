-- written by a program of this session's, over the kit's print
import Derived.Test.YtfbkljpfopiegaaRows
import Derived.Test.YtfbkljpfopiegaaXx20
import Derived.Test.YtfbkljpfopiegaaPureFrameJoin
import Derived.Test.YtfbkljpfopiegaaWOpen
import Derived.WalkKit
import Derived.ProofKit
import Derived.OpenShut
import Derived.ShutString
import Derived.ChangeOld
import Derived.Below
import Derived.SizedLaws
namespace Go.Proofs.Ytfbkljpfopiegaa.frameJoin
open Go.ChangeShapes Go.WideShapes Go.ChangeAt Go.RowKit Go.Proofs.YtfbkljpfopiegaaW.PrintWords Go.Proofs.Ytfbkljpfopiegaa.X
open Go.ChangeMaps (open_string shut_string)
set_option linter.unusedVariables false
theorem own : ownKnob Try.prog.godebug = none := by kernel_rfl
theorem laidOut : laidOutB Try.prog = true := by kernel_rfl
set_option maxRecDepth 100000 in
set_option maxHeartbeats 4000000 in
theorem lifted (os : Os) (started : os.Started) (H : Type) (enc : TypeId × Value → H) :
    ReturnsInHanded {} Try.checked os 8 .any (Rows.frameJoinSpec.pre6 enc Try.prog Try.f8 Rows.frameJoinRow.domain false) (Rows.frameJoinSpec.post enc Try.prog Try.f8 false true false false) := by
  refine returnsInHanded_of_change_sized (C := Try.checked) own started (by kernel_rfl) Try.func8
    (ChangeSpec.witness6 (enc := enc) (C := Try.checked) false ⟨#[], #[.slice none 0 0, .slice none 0 0], []⟩ 8 (by kernel_rfl) (by kernel_rfl) (by kernel_rfl) (by kernel_rfl)) ?_
  intro W base args ds gs before hval0 hW hcnd hsz0 _
  have hsz : (DataW.weightsEach Try.prog (Try.f8.params.toList ++ Rows.frameJoinSpec.plain.varTypes Try.prog) (ds ++ gs)).all (· ≤ reachBytes) = true := hsz0
  have hval : ∀ (j : Nat) t v, Try.f8.params[j]? = some t → args[j]? = some v → Value.okWide Try.prog W .any base t v := hval0
  have hW' := hW
  obtain ⟨p, q, hA0, hV, rfl, hfz, hnd⟩ := hW
  have hA : DataW.TrodAll enc Try.prog W 0 (fun _ => true) true Try.f8.params.toList args.toList ds p := hA0
  rw [Try.params8] at hA hval hsz
  obtain ⟨v0, vs0, d0, ds0, p0, q0, hargs, rfl, rfl, h0, r0⟩ := trodAll_cons hA
  obtain ⟨v1, vs1, d1, ds1, p1, q1, rfl, rfl, rfl, h1, r1⟩ := trodAll_cons r0
  obtain ⟨rfl, rfl, rfl⟩ := trodAll_nil r1
  obtain rfl : args = #[v0, v1] := by cases args; simp_all
  obtain ⟨rfl, rfl⟩ := trodVars_none hV
  have k0_ := h0
  have lt0 : ∀ x ∈ p0, x.block < W.heap.size := by obtain ⟨m, hm⟩ := k0_; exact DataW.trod_lt m _ _ _ hm
  obtain ⟨a0, len0, cap0, rfl⟩ := okWide_slice Try.underlying22 (hval 0 22 v0 rfl rfl)
  obtain ⟨l0, hk0, wf0⟩ := Opens.arg (j := 0) (t := 22) (d := (Kd.slice 25 (Kd.slice 5 (Kd.int .u8)))) (Opens.slice (B := 24) Try.underlying22 (by kernel_rfl) (by kernel_rfl) (Opens.slice (B := 1) Try.underlying25 (by kernel_rfl) (by kernel_rfl) (Opens.int Try.underlying5))) hsz rfl rfl h0
  obtain ⟨A0, c0, hcs0, hc0, hr0⟩ : ∃ A c, [Value.slice a0 len0 cap0] = [.slice A l0.length c] ∧ l0.length ≤ c ∧ Kd.C (Kd.slice 5 (Kd.int .u8)) W A l0.length l0 := hk0
  simp only [List.cons.injEq, Value.slice.injEq, and_true] at hcs0
  obtain ⟨rfl, rfl, rfl⟩ := hcs0
  have k1_ := h1
  have lt1 : ∀ x ∈ p1, x.block < W.heap.size := by obtain ⟨m, hm⟩ := k1_; exact DataW.trod_lt m _ _ _ hm
  obtain ⟨a1, len1, cap1, rfl⟩ := okWide_slice Try.underlying22 (hval 1 22 v1 rfl rfl)
  obtain ⟨l1, hk1, wf1⟩ := Opens.arg (j := 1) (t := 22) (d := (Kd.slice 25 (Kd.slice 5 (Kd.int .u8)))) (Opens.slice (B := 24) Try.underlying22 (by kernel_rfl) (by kernel_rfl) (Opens.slice (B := 1) Try.underlying25 (by kernel_rfl) (by kernel_rfl) (Opens.int Try.underlying5))) hsz rfl rfl h1
  obtain ⟨A1, c1, hcs1, hc1, hr1⟩ : ∃ A c, [Value.slice a1 len1 cap1] = [.slice A l1.length c] ∧ l1.length ≤ c ∧ Kd.C (Kd.slice 5 (Kd.int .u8)) W A l1.length l1 := hk1
  simp only [List.cons.injEq, Value.slice.injEq, and_true] at hcs1
  obtain ⟨rfl, rfl, rfl⟩ := hcs1
  clear hA0 hval0 hsz0 hsz
  refine (X.shardloglaw06_FrameJoin.walk Pure.FrameJoin _ _ l0 _ _ l1 W wf0 hr0 hc0 wf1 hr1 hc1).mono fun e W' ⟨he, bel⟩ => ?_
  subst he
  exact ⟨_, rfl, _, _, _, [], _, [], hW', trodAll_mk1 (shut_bool Try.underlying4 _), (trodAll_cons_mk (Below.trod laidOut (by kernel_rfl) (of_decide_eq_true (by kernel_rfl)) k0_ bel lt0) (trodAll_cons_mk (Below.trod laidOut (by kernel_rfl) (of_decide_eq_true (by kernel_rfl)) k1_ bel lt1) trodAll_mk0)), rfl, bel.frame _, fun h => by cases h⟩
theorem over : Rows.frameJoinRow.holds Try.pinned (OpenSpec.ofChange Rows.frameJoinSpec) :=
  OpenClaim.holds_of_wide 8 Try.f8 rfl rfl rfl rfl rfl rfl rfl ⟨rfl, rfl, rfl, rfl, rfl⟩ rfl rfl rfl rfl rfl (by kernel_rfl) Try.func8 (by kernel_rfl)
    (of_decide_eq_true (by kernel_rfl)) (by unfold Func.isWrapper; first | (rw [if_pos (by decide +kernel)]; kernel_rfl) | (rw [if_neg (by decide +kernel)]; exact ⟨rfl, rfl⟩))
    (fun os started H enc _ => lifted os started H enc)
theorem proved : Rows.FrameJoinSaid := over
#print axioms proved
end Go.Proofs.Ytfbkljpfopiegaa.frameJoin
namespace Go.Proofs.Ytfbkljpfopiegaa
/-- The row, under a short name, for the claim. -/
theorem frameJoin_holds : Rows.FrameJoinSaid := frameJoin.proved
end Go.Proofs.Ytfbkljpfopiegaa

/- The pure statement of the law MsgBack. -/
import Derived.Test.YteoklmfkofgfmaaBAll
import Derived.KernelRfl
import Derived.Test.YteoklmfkofgfmaaXx7
namespace Go.Proofs.Yteoklmfkofgfmaa.Pure
open Go.RowKit Go.Proofs.Yteoklmfkofgfmaa.X Go.Proofs.Yteoklmfkofgfmaa.Pl Go.Proofs.YteoklmfkofgfmaaW.PrintWords Go.Proofs.YteoklmfkofgfmaaW.PrintLast
theorem awake : Ev (fun k => shardloglaw19_awake.f k) true := Ev.of (fun k => shardloglaw19_awake.mono k) (k := 50) (by kernel_rfl)
theorem xor8 {x y : Int} (hx : 0 ≤ x ∧ x < 256) (hy : 0 ≤ y ∧ y < 256) : (0 ≤ Go.bits .xor .u8 x y ∧ Go.bits .xor .u8 x y < 256) ∧ (Go.bits .xor .u8 x y = x ↔ y = 0) := by
 obtain ⟨a, rfl⟩ : ∃ a : Nat, x = a := ⟨x.toNat, by omega⟩
 obtain ⟨b, rfl⟩ : ∃ b : Nat, y = b := ⟨y.toNat, by omega⟩
 have ha : a < 2 ^ 8 := by omega
 have hb : b < 2 ^ 8 := by omega
 rw [bits_xor_nat .u8 8 (by decide) (fun n h0 h1 => by rw [IntKind.wrap_u8]; omega) a b ha hb]
 have h := Nat.xor_lt_two_pow ha hb
 refine ⟨by omega, ⟨fun he => ?_, fun he => ?_⟩⟩
 ·
  have e2 : a ^^^ b = a ^^^ 0 := by rw [Nat.xor_zero]; omega
  have := xor_cancel_left e2
  omega
 ·
  have : b = 0 := by omega
  subst this
  rw [Nat.xor_zero]
theorem MsgBack : shardloglaw19_MsgBack.Pure := by
 intro k f t b s v0 v1 v2 v3 v4 vs a1 a2 _ _ _ _ _ _ _ _ _ hvs h1 h2
 have hl : vs.length ≤ 140737488355328 := by have := hvs.2.1; omega
 have h1 := wf_u16 h1
 have h2 := wf_u8 h2
 refine Ev.rounds ?_
 unfold shardloglaw19_MsgBack.f
 obtain ⟨r1, e1⟩ := small_ev k f t b s v0 v1 v2 v3 v4 vs
 refine Ev.bind awake (Ev.pos rfl (Ev.bind e1 ?_))
 cases r1 with
 | false => exact Ev.neg (by decide) (Ev.now _)
 | true =>
  refine Ev.pos rfl (Ev.bind (msg_Put_ev k f t b s v0 v1 v2 v3 v4 hl) ?_)
  by_cases h : rightM k f t b s (v0, v1, v2, v3, v4) (vs.map vt) = true
  ·
   rw [if_pos h]
   have h64 := (right_votes h).1
   have hbl := body_length (k := k) (f := f) (t := t) (b := b) (s := s) (v := (v0, v1, v2, v3, v4)) h64
   have hfr := frame_length (r := body k f t b s (v0, v1, v2, v3, v4) (vs.map vt)) (by omega)
   have hbb := bytes_body k f t b s (v0, v1, v2, v3, v4) (vs.map vt)
   have hg := getM_put h
   have hby : Bytes (putM k f t b s (v0, v1, v2, v3, v4) (vs.map vt)) := bytes_frame hbb
   have hput : putM k f t b s (v0, v1, v2, v3, v4) (vs.map vt) = frame (body k f t b s (v0, v1, v2, v3, v4) (vs.map vt)) := rfl
   rw [hput] at hg hby
   rw [hput]
   have e2 := msg_Get_ev hby (by omega)
   rw [hg] at e2
   refine Ev.pos rfl (Ev.bind e2 (Ev.pos rfl ?_))
   have e3 := ref_SameM_ev k f t b s v0 v1 v2 v3 v4 vs k f t b s v0 v1 v2 v3 v4 ((vs.map vt).map tv) hl
   rw [show sameM k f t b s (v0, v1, v2, v3, v4) (vs.map vt) k f t b s (v0, v1, v2, v3, v4) (((vs.map vt).map tv).map vt) = true by rw [map_vt_tv]; simp [sameM]] at e3
   refine Ev.bind e3 (Ev.pos rfl ?_)
   unfold shardloglaw19_MsgBack.tail
   generalize hr : body k f t b s (v0, v1, v2, v3, v4) (vs.map vt) = r at *
   have hlr : r.length ≤ 65535 := by omega
   have hw : wrap64 a1 = a1 := w64 (by omega) (by omega)
   rw [hw]
   have hj0 : 0 ≤ Int.tmod a1 ((frame r).length : Int) := Int.tmod_nonneg _ h1.1
   have hj1 : Int.tmod a1 ((frame r).length : Int) < ((frame r).length : Int) := Int.tmod_lt_of_pos _ (by omega)
   obtain ⟨j, hj⟩ : ∃ j : Nat, Int.tmod a1 ((frame r).length : Int) = j := ⟨(Int.tmod a1 ((frame r).length : Int)).toNat, by omega⟩
   rw [hj] at hj0 hj1 ⊢
   refine Ev.neg (show ¬ ((frame r).length : Int) = 0 by omega) ?_
   refine Ev.pos ⟨hj0, hj1⟩ ?_
   rw [Int.toNat_natCast]
   have hjl : j < (frame r).length := by omega
   have e4 := msg_Get_ev (hby.take j) (by rw [List.length_take]; omega)
   rw [getM_no (okF_short hlr hjl)] at e4
   have hrd : rd (frame r) (j : Int) = (frame r)[j] := rd_nat _ _ hjl
   have hx := xor8 (hby _ (List.getElem_mem hjl)) h2
   rw [hrd]
   have hset : Bytes ((frame r).set j (Go.bits .xor .u8 (frame r)[j] a2)) := bytes_set hby hx.1 j
   have e5 := msg_Get_ev hset (by rw [List.length_set]; omega)
   refine Ev.bind e4 (Ev.bind e5 ?_)
   by_cases hz : a2 = 0
   ·
    have he := hx.2.2 hz
    rw [he, List.set_getElem_self, hg, hz]
    exact Ev.now _
   ·
    have ho := okF_turn hlr (hr ▸ hbb) hjl hx.1 (fun hh => hz (hx.2.1 (by rw [List.getElem?_eq_getElem hjl] at hh; exact (Option.some.inj hh).symm))) []
    rw [List.append_nil] at ho
    rw [getM_no ho]
    have hz2 : (a2 == 0) = false := beq_eq_false_iff_ne.mpr hz
    rw [hz2]
    exact Ev.now _
  ·
   rw [if_neg h]
   exact Ev.neg (by decide) (Ev.now _)
end Go.Proofs.Yteoklmfkofgfmaa.Pure

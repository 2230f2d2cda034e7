/- The pure statement of the law MsgKeeps. -/
import Derived.Test.YteoklmfkofgfmaaBAll
import Derived.KernelRfl
import Derived.Test.YteoklmfkofgfmaaXx12
namespace Go.Proofs.Yteoklmfkofgfmaa.Pure
open Go.RowKit Go.Proofs.Yteoklmfkofgfmaa.X Go.Proofs.Yteoklmfkofgfmaa.Pl Go.Proofs.YteoklmfkofgfmaaW.PrintWords Go.Proofs.YteoklmfkofgfmaaW.PrintLast
theorem awake : Ev (fun k => shardloglaw19_awake.f k) true := Ev.of (fun k => shardloglaw19_awake.mono k) (k := 50) (by kernel_rfl)
theorem MsgKeeps : shardloglaw19_MsgKeeps.Pure := by
 intro k f t b s v0 v1 v2 v3 v4 vs _ _ _ _ _ _ _ _ _ hvs
 have hl : vs.length ≤ 140737488355328 := by have := hvs.2.1; omega
 refine Ev.rounds ?_
 unfold shardloglaw19_MsgKeeps.f
 have jt : Ev (fun n => shardloglaw19_MsgKeeps.j0 n true k f t b s v0 v1 v2 v3 v4 vs) true :=
  Ev.step (f := fun n => (shardloglaw19_awake.f n).bind fun t => some t) (fun n => by simp only [shardloglaw19_MsgKeeps.j0, if_true]) (Ev.bind awake (Ev.now _))
 obtain ⟨r1, h1⟩ := small_ev k f t b s v0 v1 v2 v3 v4 vs
 refine Ev.bind awake (Ev.pos rfl (Ev.bind h1 ?_))
 cases r1 with
 | false => exact Ev.neg (by decide) jt
 | true =>
  refine Ev.pos rfl (Ev.bind (ref_RightM_ev k f t b s v0 v1 v2 v3 v4 hl) ?_)
  by_cases h : rightM k f t b s (v0, v1, v2, v3, v4) (vs.map vt) = true
  ·
   rw [h]
   have h64 := (right_votes h).1
   have hbl := body_length (k := k) (f := f) (t := t) (b := b) (s := s) (v := (v0, v1, v2, v3, v4)) h64
   have hfl : (putM k f t b s (v0, v1, v2, v3, v4) (vs.map vt)).length ≤ 40000 := by
    have := frame_length (r := body k f t b s (v0, v1, v2, v3, v4) (vs.map vt)) (by omega)
    unfold putM
    omega
   have hby : Bytes (putM k f t b s (v0, v1, v2, v3, v4) (vs.map vt)) := bytes_frame (bytes_body _ _ _ _ _ _ _)
   have hp := msg_Put_ev k f t b s v0 v1 v2 v3 v4 hl
   rw [if_pos h] at hp
   have hg := msg_Get_ev hby (by omega)
   rw [getM_put h] at hg
   refine Ev.step (fun n => by simp only [shardloglaw19_MsgKeeps.j0, Bool.not_true, Bool.false_eq_true, if_false]; rfl) (Ev.bind hp ?_)
   refine Ev.bind (Ev.now ([] : List Int)) ?_
   refine Ev.pos (by simp only [List.length_nil]; omega) (Ev.bind hg ?_)
   rw [List.nil_append]
   have loop : ∀ (d : Nat) (x : List SV) (i : Nat) (n0 n1 n2 n3 n4 n5 n6 n7 : Int) (n8 : Bool) (n9 : ByteArray), x.length ≤ 140737488355328 → i ≤ x.length → x.length - i = d →
     Ev (fun n => shardloglaw19_MsgKeeps.l0 n (putM k f t b s (v0, v1, v2, v3, v4) (vs.map vt)) (putM k f t b s (v0, v1, v2, v3, v4) (vs.map vt)) (i : Int) k f t b s v0 v1 v2 v3 v4 vs n0 n1 n2 n3 n4 n5 n6 n7 n8 n9 x) true := by
    intro d
    induction d with
    | zero =>
     intro x i n0 n1 n2 n3 n4 n5 n6 n7 n8 n9 hx hi hd
     refine Ev.step (fun n => by simp only [shardloglaw19_MsgKeeps.l0]; rfl) (Ev.neg (by omega) (Ev.bind hg (Ev.pos rfl ?_)))
     have e := ref_SameM_ev k f t b s v0 v1 v2 v3 v4 ((vs.map vt).map tv) k f t b s v0 v1 v2 v3 v4 vs (by simpa using hl)
     rw [map_tv_vt] at e
     refine Ev.bind ((by rw [map_tv_vt]; exact e) : Ev (fun n => shardlogref19_Same.f n k f t b s v0 v1 v2 v3 v4 ((vs.map vt).map tv) k f t b s v0 v1 v2 v3 v4 vs) _) ?_
     rw [show sameM k f t b s (v0, v1, v2, v3, v4) (vs.map vt) k f t b s (v0, v1, v2, v3, v4) (vs.map vt) = true by simp [sameM]]
     exact Ev.pos rfl (Ev.bind (Ev.eq (Same_eq rfl)) (Ev.now _))
    | succ d ih =>
     intro x i n0 n1 n2 n3 n4 n5 n6 n7 n8 n9 hx hi hd
     refine Ev.step (fun n => by simp only [shardloglaw19_MsgKeeps.l0]; rfl) (Ev.pos (by omega) (Ev.pos (by omega) ?_))
     rw [w64 (by omega) (by omega)]
     exact ih _ (i + 1) n0 n1 n2 n3 n4 n5 n6 n7 n8 n9 (by simpa using hx) (by simp; omega) (by simp; omega)
   exact loop _ _ 0 _ _ _ _ _ _ _ _ _ _ (by simp only [goodT, gotT, List.length_map]; exact hl) (by omega) rfl
  ·
   have h2 : rightM k f t b s (v0, v1, v2, v3, v4) (vs.map vt) = false := by simpa using h
   rw [h2]
   exact jt
end Go.Proofs.Yteoklmfkofgfmaa.Pure

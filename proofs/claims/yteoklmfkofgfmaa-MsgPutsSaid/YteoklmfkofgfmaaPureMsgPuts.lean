/- The pure statement of the law MsgPuts. -/
import Derived.Test.YteoklmfkofgfmaaBAll
import Derived.KernelRfl
import Derived.Test.YteoklmfkofgfmaaXx11
namespace Go.Proofs.Yteoklmfkofgfmaa.Pure
open Go.RowKit Go.Proofs.Yteoklmfkofgfmaa.X Go.Proofs.Yteoklmfkofgfmaa.Pl Go.Proofs.YteoklmfkofgfmaaW.PrintWords Go.Proofs.YteoklmfkofgfmaaW.PrintLast
theorem awake : Ev (fun k => shardloglaw19_awake.f k) true := Ev.of (fun k => shardloglaw19_awake.mono k) (k := 50) (by kernel_rfl)
theorem sameM_self (k f t b s : Int) (v : Vote) (vs : List Vote) : sameM k f t b s v vs k f t b s v vs = true := by simp [sameM]
theorem MsgPuts : shardloglaw19_MsgPuts.Pure := by
 intro k f t b s v0 v1 v2 v3 v4 vs k' f' t' b' s' v0' v1' v2' v3' v4' vs' _ _ _ _ _ _ _ _ _ hvs _ _ _ _ _ _ _ _ _ _
 have hl : vs.length ≤ 140737488355328 := by have := hvs.2.1; omega
 refine Ev.rounds ?_
 unfold shardloglaw19_MsgPuts.f
 have jt : Ev (fun n => shardloglaw19_MsgPuts.j0 n true k f t b s v0 v1 v2 v3 v4 vs k' f' t' b' s' v0' v1' v2' v3' v4' vs') true :=
  Ev.step (f := fun n => (shardloglaw19_awake.f n).bind fun t => some t) (fun n => by simp only [shardloglaw19_MsgPuts.j0, if_true]) (Ev.bind awake (Ev.now _))
 have jf : Ev (fun n => shardloglaw19_MsgPuts.j0 n false k f t b s v0 v1 v2 v3 v4 vs k' f' t' b' s' v0' v1' v2' v3' v4' vs') true := by
  refine Ev.step (fun n => by simp only [shardloglaw19_MsgPuts.j0, Bool.false_eq_true, if_false]; rfl) ?_
  refine Ev.bind (msg_Put_ev k f t b s v0 v1 v2 v3 v4 hl) (Ev.bind (msg_Right_ev k f t b s v0 v1 v2 v3 v4 hl) (Ev.bind (ref_RightM_ev k f t b s v0 v1 v2 v3 v4 hl) (Ev.neg (by simp) ?_)))
  refine Ev.bind (msg_Same_ev k f t b s v0 v1 v2 v3 v4 vs k' f' t' b' s' v0' v1' v2' v3' v4' vs' hl) (Ev.bind (ref_SameM_ev k f t b s v0 v1 v2 v3 v4 vs k' f' t' b' s' v0' v1' v2' v3' v4' vs' hl) (Ev.neg (by simp) ?_))
  refine Ev.bind (msg_Same_ev k f t b s v0 v1 v2 v3 v4 vs k f t b s v0 v1 v2 v3 v4 vs hl) ?_
  rw [sameM_self]
  refine Ev.step (fun n => by simp only [shardloglaw19_MsgPuts.j1, Bool.not_true, Bool.false_eq_true, if_false]; rfl) (Ev.bind (ref_RightM_ev k f t b s v0 v1 v2 v3 v4 hl) ?_)
  by_cases h : rightM k f t b s (v0, v1, v2, v3, v4) (vs.map vt) = true
  ·
   refine Ev.pos h ?_
   rw [if_pos h]
   exact Ev.pos rfl (Ev.bind (ref_PutM_ev h) (Ev.bind (Ev.eq (Same_eq rfl)) (Ev.now _)))
  ·
   refine Ev.neg h ?_
   rw [if_neg h]
   exact Ev.pos rfl (Ev.now _)
 obtain ⟨r1, h1⟩ := small_ev k f t b s v0 v1 v2 v3 v4 vs
 obtain ⟨r2, h2⟩ := small_ev k' f' t' b' s' v0' v1' v2' v3' v4' vs'
 refine Ev.bind awake (Ev.pos rfl (Ev.bind h1 ?_))
 cases r1 with
 | false => exact Ev.neg (by decide) jt
 | true =>
  refine Ev.pos rfl (Ev.bind h2 ?_)
  cases r2 with
  | false => exact jt
  | true => exact jf
end Go.Proofs.Yteoklmfkofgfmaa.Pure

/- The pure statement of the law MsgGets. -/
import Derived.Test.YteoklmfkofgfmaaBAll
import Derived.KernelRfl
import Derived.Test.YteoklmfkofgfmaaXx11
namespace Go.Proofs.Yteoklmfkofgfmaa.Pure
open Go.RowKit Go.Proofs.Yteoklmfkofgfmaa.X Go.Proofs.Yteoklmfkofgfmaa.Pl Go.Proofs.YteoklmfkofgfmaaW.PrintWords Go.Proofs.YteoklmfkofgfmaaW.PrintLast
theorem awake : Ev (fun k => shardloglaw19_awake.f k) true := Ev.of (fun k => shardloglaw19_awake.mono k) (k := 50) (by kernel_rfl)
theorem MsgGets : shardloglaw19_MsgGets.Pure := by
 intro l hl
 have hb := Bytes.of_wf hl.2.2
 refine Ev.rounds ?_
 unfold shardloglaw19_MsgGets.f
 refine Ev.bind awake (Ev.pos rfl ?_)
 by_cases hs : (l.length : Int) > 3000
 ·
  rw [decide_eq_true hs]
  exact Ev.step (f := fun n => (shardloglaw19_awake.f n).bind fun t => some t) (fun n => by simp only [shardloglaw19_MsgGets.j0, if_true]) (Ev.bind awake (Ev.now _))
 rw [decide_eq_false hs]
 refine Ev.step (fun n => by simp only [shardloglaw19_MsgGets.j0, Bool.false_eq_true, if_false]; rfl) (Ev.bind (msg_Get_ev hb (by omega)) ?_)
 rcases getM_cases l with ⟨⟨k, f, t, b, s, v, vs⟩, hr, he, hg⟩ | hg
 ·
  rw [hg]
  have h64 := (right_votes (show rightM k f t b s v vs = true from hr)).1
  have hlm : (vs.map tv).length ≤ 140737488355328 := by rw [List.length_map]; omega
  have e1 := ref_RightM_ev k f t b s v.1 v.2.1 v.2.2.1 v.2.2.2.1 v.2.2.2.2 hlm
  rw [map_vt_tv] at e1
  have hr' : rightM k f t b s (v.1, v.2.1, v.2.2.1, v.2.2.2.1, v.2.2.2.2) vs = true := hr
  have e2 := ref_PutM_ev (k := k) (f := f) (t := t) (b := b) (s := s) (v0 := v.1) (v1 := v.2.1) (v2 := v.2.2.1) (v3 := v.2.2.2.1) (v4 := v.2.2.2.2) (vs := vs.map tv) (by rw [map_vt_tv]; exact hr')
  rw [map_vt_tv] at e2
  refine Ev.pos rfl (Ev.bind e1 (Ev.pos hr' (Ev.bind e2 (Ev.bind (Ev.eq (Same_eq ?_)) (Ev.now _)))))
  exact he.symm
 ·
  rw [hg]
  have e1 := ref_SameM_ev 0 0 0 0 0 0 0 0 false ⟨#[]⟩ [] 0 0 0 0 0 0 0 0 false ⟨#[]⟩ [] (by simp)
  refine Ev.neg (by decide) (Ev.pos rfl (Ev.bind (e1.to (r' := true) (by decide)) (Ev.now _)))
end Go.Proofs.Yteoklmfkofgfmaa.Pure

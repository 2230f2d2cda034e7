/- The pure statement of the law BlockGets. -/
import Derived.Test.YtclmooadpoojeaaBAll
import Derived.KernelRfl
import Derived.Test.YtclmooadpoojeaaXx9
namespace Go.Proofs.Ytclmooadpoojeaa.Pure
open Go.RowKit Go.Proofs.Ytclmooadpoojeaa.X Go.Proofs.Ytclmooadpoojeaa.Pl Go.Proofs.YtclmooadpoojeaaW.PrintWords Go.Proofs.YtclmooadpoojeaaW.PrintLast
theorem awake : Ev (fun k => shardloglaw10_awake.f k) true := Ev.of (fun k => shardloglaw10_awake.mono k) (k := 80) (by kernel_rfl)
theorem BlockGets : shardloglaw10_BlockGets.Pure := by
 intro l wf
 have hb : Bytes l := Bytes.of_wf wf.2.2
 refine Ev.rounds ?_
 unfold shardloglaw10_BlockGets.f
 refine Ev.bind awake (Ev.pos rfl ?_)
 by_cases h3 : (l.length : Int) > 3000
 ·
  rw [decide_eq_true h3]
  exact Ev.step (f := fun k => (shardloglaw10_awake.f k).bind fun t => some t) (fun k => by simp only [shardloglaw10_BlockGets.j0, if_true]) (Ev.bind awake (Ev.now _))
 ·
  rw [decide_eq_false h3]
  obtain ⟨he, hd⟩ := ref_BGet_ev hb (by omega)
  refine Ev.step (fun k => by simp only [shardloglaw10_BlockGets.j0, Bool.false_eq_true, if_false]; rfl) ?_
  refine Ev.bind (block_Get_ev hb (by omega)) (Ev.bind he ?_)
  unfold refGetB
  rcases getB_code l with h0 | h0
  ·
   obtain ⟨d1, d2⟩ := hd h0
   have hn : (getB l).1.length ≤ 1000000000 := Nat.le_trans (getB_length hb) (by omega)
   rw [if_pos h0, h0, d1]
   refine Ev.neg (by simp only; omega) (Ev.pos rfl (Ev.bind (sameC_ev rfl hn) (Ev.pos rfl ?_)))
   simp only
   rw [show (12 + ((cutF l).1.length : Int)).toNat = 12 + (cutF l).1.length by omega]
   exact Ev.pos (by omega) (Ev.pos (by omega) (Ev.bind (Ev.eq (Same_eq rfl)) (Ev.now _)))
  ·
   rw [h0, if_neg (by decide)]
   exact Ev.pos rfl (Ev.pos rfl (Ev.pos rfl ((Ev.now _).to rfl)))
end Go.Proofs.Ytclmooadpoojeaa.Pure

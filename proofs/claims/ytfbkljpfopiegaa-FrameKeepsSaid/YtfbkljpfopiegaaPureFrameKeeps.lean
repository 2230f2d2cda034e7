/- The pure statement of the law FrameKeeps. -/
import Derived.Test.YtfbkljpfopiegaaBFrame
import Derived.Test.YtfbkljpfopiegaaBRefFew06
import Derived.Test.YtfbkljpfopiegaaBRefSame
import Derived.KernelRfl
import Derived.Test.YtfbkljpfopiegaaXx4
namespace Go.Proofs.Ytfbkljpfopiegaa.Pure
open Go.RowKit Go.Proofs.Ytfbkljpfopiegaa.X Go.Proofs.Ytfbkljpfopiegaa.Pl Go.Proofs.YtfbkljpfopiegaaW.PrintWords Go.Proofs.YtfbkljpfopiegaaW.PrintLast
theorem awake : Ev (fun k => shardloglaw06_awake.f k) true := Ev.of (fun k => shardloglaw06_awake.mono k) (k := 50) (by kernel_rfl)
theorem keeps_true (l : List (List Int)) : Ev (fun k => shardloglaw06_FrameKeeps.j0 k l true) true := Ev.bind awake (Ev.now _)
theorem FrameKeeps : shardloglaw06_FrameKeeps.Pure := by
 intro l h0
 obtain ⟨m1, m2, m3⟩ := h0
 refine Ev.rounds ?_
 unfold shardloglaw06_FrameKeeps.f
 obtain ⟨r, he, hr⟩ := few06 (fun s hs => by have := (m3 s hs).2.1; omega) (show l.length ≤ 140737488351232 by omega)
 refine Ev.bind awake (Ev.pos rfl (Ev.bind he ?_))
 cases r with
 | false => exact keeps_true _
 | true =>
  obtain ⟨hr1, hr2⟩ := hr rfl
  have hb : ∀ r ∈ l, r.length ≤ 65535 ∧ Bytes r := fun r hr => ⟨by have := length_le_totalB hr; omega, Bytes.of_wf (m3 r hr).2.2⟩
  have hfl := frames_length l (fun r hr => (hb r hr).1)
  have hscan := frame_Scan_ev hb Bytes.nil (fun h => absurd h.1 (by simp)) (by rw [List.append_nil]; omega)
  rw [List.append_nil] at hscan
  refine Ev.neg Bool.false_ne_true (Ev.bind (frame_All_ev hb (by omega)) (Ev.pos (by omega) (Ev.bind hscan (Ev.pos ⟨?_, ?_⟩ (Ev.eq (Same_eq rfl))))))
  ·
   show l.length < 4294967296
   omega
  ·
   intro q hq
   have := (hb q hq).1
   omega
end Go.Proofs.Ytfbkljpfopiegaa.Pure

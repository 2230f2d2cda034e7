/- The pure statement of the law TableOpens. -/
import Derived.Test.YtinhpolmanccgaaBAll
import Derived.KernelRfl
import Derived.Test.YtinhpolmanccgaaXx15
namespace Go.Proofs.Ytinhpolmanccgaa.Pure
open Go.RowKit Go.Proofs.Ytinhpolmanccgaa.X Go.Proofs.Ytinhpolmanccgaa.Pl Go.Proofs.YtinhpolmanccgaaW.PrintWords Go.Proofs.YtinhpolmanccgaaW.PrintLast
theorem awake : Ev (fun k => shardloglaw12_awake.f k) true := Ev.of (fun k => shardloglaw12_awake.mono k) (k := 200) (by kernel_rfl)
theorem lp_ev {l : List Cell} {b : List Int} (hs : SrtC l) (hl : l.length ≤ 150) (hb : Bytes b) {s : Int} (h2 : s ≤ 2001) (he : tableB (goB s.toNat l [] 0) (filterB l) = b) (d : Nat) : ∀ z : Int, 1 ≤ z → z + d = s → ∃ y : Int, y ≤ 2001 ∧ Ev (fun k => shardloglaw12_TableOpens.lp l b k z) y := by
 induction d with
 | zero =>
  intro z h1 hz
  have hzs : z = s := by omega
  subst hzs
  refine ⟨z, h2, Ev.step (fun k => by simp only [shardloglaw12_TableOpens.lp]; rfl) (Ev.pos h2 (Ev.bind (ref_Build_ev h1 hs hl) (Ev.bind (Ev.eq (Same_eq he)) (Ev.pos rfl (Ev.now _)))))⟩
 | succ d ih =>
  intro z h1 hz
  have hz2 : z ≤ 2001 := by omega
  obtain ⟨y, hy, hev⟩ := ih (z + 1) (by omega) (by omega)
  have hw : wrap64 (z + 1) = z + 1 := w64 (by omega) (by omega)
  have hbd := ref_Build_ev h1 hs hl
  have hsm := Same_iff (bytes_tableB (goB z.toNat l [] 0) (filterB l)) hb
  by_cases hq : tableB (goB z.toNat l [] 0) (filterB l) = b
  ·
   rw [decide_eq_true hq] at hsm
   exact ⟨z, hz2, Ev.step (fun k => by simp only [shardloglaw12_TableOpens.lp]; rfl) (Ev.pos hz2 (Ev.bind hbd (Ev.bind (Ev.eq hsm) (Ev.pos rfl (Ev.now _)))))⟩
  ·
   rw [decide_eq_false hq] at hsm
   refine ⟨y, hy, Ev.step (fun k => by simp only [shardloglaw12_TableOpens.lp, hw]; rfl) (Ev.pos hz2 (Ev.bind hbd (Ev.bind (Ev.eq hsm) (Ev.neg Bool.false_ne_true hev))))⟩
theorem TableOpens : shardloglaw12_TableOpens.Pure := by
 intro b hw
 obtain ⟨_, _, hwb⟩ := hw
 have hb : Bytes b := Bytes.of_wf hwb
 refine Ev.rounds ?_
 unfold shardloglaw12_TableOpens.f
 refine Ev.bind awake (Ev.pos rfl ?_)
 by_cases h : (b.length : Int) > 2000
 ·
  exact Ev.pos h (Ev.now _)
 refine Ev.neg h ?_
 rcases open_any hb (by omega) with ho | ⟨bs, s, ho, hs, hl, s1, s2, he⟩
 ·
  exact Ev.bind ho (Ev.now _)
 ·
  refine Ev.bind ho ?_
  obtain ⟨y, hy, hev⟩ := lp_ev hs (by omega) hb s2 he (s - 1).toNat 1 (by omega) (by omega)
  show Ev (fun k => (api_Cell_43.f bs.flatten).bind fun ca => (shardlogref08_Sorted.f k ca).bind fun so => if so = true then (shardloglaw12_TableOpens.lp ca b k 1).bind fun z => if z ≤ 2001 then some true else none else none) true
  rw [clone_C (by omega)]
  exact Ev.bind (Ev.now _) (Ev.bind (ref_Sorted_ev (fun x hx => sized_of_right (hs.1 x hx)) (by omega)) (Ev.pos (sortedC_iff.2 hs) (Ev.bind hev (Ev.pos hy (Ev.now _)))))
end Go.Proofs.Ytinhpolmanccgaa.Pure

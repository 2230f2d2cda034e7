/- The pure statement of the law TableKeys. -/
import Derived.Test.YtinhpolmanccgaaBAll
import Derived.KernelRfl
import Derived.Test.YtinhpolmanccgaaXx15
namespace Go.Proofs.Ytinhpolmanccgaa.Pure
open Go.RowKit Go.Proofs.Ytinhpolmanccgaa.X Go.Proofs.Ytinhpolmanccgaa.Pl Go.Proofs.YtinhpolmanccgaaW.PrintWords Go.Proofs.YtinhpolmanccgaaW.PrintLast
theorem awake : Ev (fun k => shardloglaw12_awake.f k) true := Ev.of (fun k => shardloglaw12_awake.mono k) (k := 200) (by kernel_rfl)
theorem keys_eq : ∀ (l : List Cell) (acc : List ByteArray), RightsC l → acc.length + l.length ≤ 1000 → shardloglaw12_TableKeys.keys l acc = some (acc ++ keysT l)
 | [], acc, _, _ => by simp [shardloglaw12_TableKeys.keys, keysT]
 | c :: l, acc, h, hl => by
  obtain ⟨_, z1, _, z2, _⟩ := rightC_iff.1 (h c List.mem_cons_self)
  simp only [List.length_cons] at hl
  have ih := keys_eq l (acc ++ [keyT c.f0 c.f1]) (fun x hx => h x (List.mem_cons_of_mem _ hx)) (by simp only [List.length_append, List.length_cons, List.length_nil]; omega)
  unfold shardloglaw12_TableKeys.keys
  rw [ref_Key_eq (by omega) (by omega), Option.bind_some, if_pos (by omega), ih]
  simp [keysT]
theorem TableKeys : shardloglaw12_TableKeys.Pure := by
 intro l a1 a2 _ _ _
 refine Ev.rounds ?_
 unfold shardloglaw12_TableKeys.f
 refine Ev.bind awake (Ev.pos rfl (Ev.bind ref_Few_ev ?_))
 cases h : fewC l with
 | false => exact Ev.neg Bool.false_ne_true (Ev.now _)
 | true =>
  refine Ev.pos rfl ?_
  by_cases h1 : (a1.size : Int) ≤ 100
  rotate_left
  ·
   exact Ev.neg h1 (Ev.now _)
  by_cases h2 : (a2.size : Int) ≤ 100
  rotate_left
  ·
   exact Ev.pos h1 (Ev.neg h2 (Ev.now _))
  refine Ev.pos h1 (Ev.pos h2 ?_)
  obtain ⟨hn, hr⟩ := fewC_iff.1 h
  have hs := sortC_srt hr
  have hln := sortC_length l
  have hky := keyT_size a1 a2
  unfold shardloglaw12_TableKeys.main
  obtain ⟨S, hS⟩ : ∃ S, sortC l = S := ⟨_, rfl⟩
  have hsort := ref_Sort_ev (l := l) (fun x hx => sized_of_right (hr x hx)) (by omega)
  rw [hS] at hs hln hsort
  have hfl := filterB_length S
  refine Ev.bind hsort (Ev.bind (ref_Build_ev (size := 50) (by decide) hs (by omega)) (Ev.bind (open_goB hs (by omega) (size := 50) (by decide) (by decide)) ?_))
  show Ev (fun k => (shardloglaw12_TableKeys.keys S []).bind fun ks => (table_Table_May.f k (filterB S) a1 a2).bind fun m => (shardlogref11_Make.f k ks).bind fun mk => (shardlogref12_Key.f a1 a2).bind fun ky => (shardlogref11_Has.f k mk ky).bind fun hs => if m = hs then some true else none) true
  rw [keys_eq S [] hs.1 (by simp only [List.length_nil]; omega), List.nil_append]
  have hmk : Ev (fun k => shardlogref11_Make.f k (keysT S)) (filterB S) := ref_Make_ev (keysT_small hs.1) (by unfold keysT; rw [List.length_map]; omega)
  exact Ev.bind (Ev.now _) (Ev.bind (may_ev (by omega) (by omega) (by omega)) (Ev.bind hmk (Ev.bind (Ev.eq (ref_Key_eq (by omega) (by omega))) (Ev.bind (ref_Has_ev (by omega) (bytes_filterB S) (by omega)) (Ev.pos rfl (Ev.now _))))))
end Go.Proofs.Ytinhpolmanccgaa.Pure

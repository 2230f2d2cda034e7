/- The pure statement of the law TableBack. -/
import Derived.Test.YtinhpolmanccgaaBAll
import Derived.KernelRfl
import Derived.Test.YtinhpolmanccgaaXx14
namespace Go.Proofs.Ytinhpolmanccgaa.Pure
open Go.RowKit Go.Proofs.Ytinhpolmanccgaa.X Go.Proofs.Ytinhpolmanccgaa.Pl Go.Proofs.YtinhpolmanccgaaW.PrintWords Go.Proofs.YtinhpolmanccgaaW.PrintLast
theorem awake : Ev (fun k => shardloglaw12_awake.f k) true := Ev.of (fun k => shardloglaw12_awake.mono k) (k := 200) (by kernel_rfl)
theorem find_self {l : List Cell} (h : OrdC l) {c : Cell} (hc : c ∈ l) : findC c.f0 c.f1 c.f2 l = some c := by
 obtain ⟨p, q, rfl⟩ := List.append_of_mem hc
 obtain ⟨_, _, h3⟩ := List.pairwise_append.1 h
 unfold findC
 rw [List.find?_append, List.find?_eq_none.2 (fun x hx hox => by
  obtain ⟨e1, e2, e3⟩ := ofC_iff.1 hox
  have := h3 x hx c List.mem_cons_self
  rw [cc_same e1 e2, cmpN_lt] at this
  omega), Option.none_or]
 exact List.find?_cons_of_pos (ofC_iff.2 ⟨rfl, rfl, Int.le_refl _⟩)
theorem lp_ev {S : List Cell} {bs : List (List Cell)} (hfl : bs.flatten = S) (hok : ∀ b ∈ bs, BlkOk b) (hs : SrtC S) (hl : S.length ≤ 100) (hbl : bs.length ≤ 1000) : ∀ l : List Cell, (∀ c ∈ l, c ∈ S) → Ev (fun k => shardloglaw12_TableBack.lp k bs (filterB S) l) ()
 | [], _ => Ev.now _
 | c :: l, h => by
  have hc := h c List.mem_cons_self
  obtain ⟨_, z1, _, z2, _⟩ := rightC_iff.1 (hs.1 c hc)
  have hg := get_ev c.f0 c.f1 c.f2 hfl hok hs (by omega) hbl (by omega) (by omega)
  rw [find_self hs.2 hc] at hg
  have hm := may_ev (l := S) (r := c.f0) (c := c.f1) (by omega) (by omega) (by omega)
  rw [may_in hc] at hm
  unfold shardloglaw12_TableBack.lp
  exact Ev.bind hg (Ev.bind hm (Ev.pos ⟨rfl, rfl⟩ (lp_ev hfl hok hs hl hbl l (fun x hx => h x (List.mem_cons_of_mem _ hx)))))
theorem TableBack : shardloglaw12_TableBack.Pure := by
 intro l a1 a2 a3 a4 _ ha _ _ _
 obtain ⟨v0, v1⟩ := wf_u8 ha
 refine Ev.rounds ?_
 unfold shardloglaw12_TableBack.f
 refine Ev.bind awake (Ev.pos rfl (Ev.bind ref_Few_ev ?_))
 cases h : fewC l with
 | false => exact Ev.neg Bool.false_ne_true (Ev.now _)
 | true =>
  refine Ev.pos rfl ?_
  by_cases h1 : (a2.size : Int) ≤ 100
  rotate_left
  ·
   exact Ev.neg h1 (Ev.now _)
  by_cases h2 : (a3.size : Int) ≤ 100
  rotate_left
  ·
   exact Ev.pos h1 (Ev.neg h2 (Ev.now _))
  refine Ev.pos h1 (Ev.pos h2 ?_)
  obtain ⟨hn, hr⟩ := fewC_iff.1 h
  have hs := sortC_srt hr
  have hln := sortC_length l
  unfold shardloglaw12_TableBack.main
  obtain ⟨S, hS⟩ : ∃ S, sortC l = S := ⟨_, rfl⟩
  have hsort := ref_Sort_ev (l := l) (fun x hx => sized_of_right (hr x hx)) (by omega)
  rw [hS] at hs hln hsort
  have hz : wrap64 (1 + wrap64 a1) = 1 + a1 := by rw [w64 (x := a1) (by omega) (by omega), w64 (by omega) (by omega)]
  rw [hz]
  have hz1 : 1 ≤ 1 + a1 := by omega
  have hzn : (1 + a1).toNat ≤ 4294967296 := by omega
  have hz0 : 0 < (1 + a1).toNat := by omega
  generalize 1 + a1 = z at hz1 hzn hz0 ⊢
  clear hz v0 v1
  have hb := table_Build_ev (l := S) z (by omega)
  unfold buildT at hb
  rw [if_pos ⟨sortedC_iff.2 hs, hz1⟩] at hb
  have hg := goB_length z.toNat S [] 0
  have hok := goB_blk hs (by omega) hz0
  have hfl : (goB z.toNat S [] 0).flatten = S := by rw [goB_flat, List.nil_append]
  have hcut := ref_Cut_ev z hz1 hs.1 (by omega)
  have hge := get_ev a2 a3 a4 hfl hok hs (by omega) (by omega) (by omega) (by omega)
  have hnw := ref_Newest_ev a2 a3 a4 hs (by omega)
  have hlp := lp_ev hfl hok hs (by omega) (by omega) S (fun _ h => h)
  refine Ev.bind hsort (Ev.bind hb (Ev.pos rfl (Ev.bind (open_goB hs (by omega) hz0 hzn) ?_)))
  generalize goB z.toNat S [] 0 = bs at hcut hge hlp ⊢
  show Ev (fun k => (api_Cell_43.f S).bind fun ca => (shardlogref08_Same.f k ca S).bind fun e => (shardlogref10_Cut.f k S z).bind fun ct => if e = true ∧ bs.length = ct.length then (shardloglaw12_TableBack.lp k bs (filterB S) S).bind fun _ => (table_Table_Get.f k bs (filterB S) a2 a3 a4).bind fun c => (shardlogref08_Newest.f k S a2 a3 a4).bind fun d => if c = d then some true else none else none) true
  rw [clone_C (by omega)]
  exact Ev.bind (Ev.now _) (Ev.bind (sameC_ev rfl (by omega)) (Ev.bind hcut (Ev.pos ⟨rfl, rfl⟩ (Ev.bind hlp (Ev.bind hge (Ev.bind hnw (Ev.pos rfl (Ev.now _))))))))
end Go.Proofs.Ytinhpolmanccgaa.Pure

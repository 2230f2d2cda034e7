/- The pure statement of the law MemModel. -/
import Derived.Test.YtgcicgjfimfhpaaBAll
import Derived.KernelRfl
import Derived.Test.YtgcicgjfimfhpaaXx6
namespace Go.Proofs.Ytgcicgjfimfhpaa.Pure
open Go.RowKit Go.Proofs.Ytgcicgjfimfhpaa.X Go.Proofs.Ytgcicgjfimfhpaa.Pl Go.Proofs.YtgcicgjfimfhpaaW.PrintWords Go.Proofs.YtgcicgjfimfhpaaW.PrintLast
theorem awake : Ev (fun k => shardloglaw09_awake.f k) true := Ev.of (fun k => shardloglaw09_awake.mono k) (k := 60) (by kernel_rfl)
theorem few_l0 (l : List Cell) (hl : l.length ≤ 2199023255552) (d : Nat) : ∀ i : Nat, i ≤ 100 → i ≤ l.length → 100 - i = d → ∃ b, Ev (fun k => shardloglaw09_few.l0 k l (i : Int)) b ∧ (b = true → l.length ≤ 60) := by
 induction d with
 | zero =>
  intro i h1 h2 h3
  refine ⟨decide ((l.length : Int) ≤ 60), ?_, fun h => by have := of_decide_eq_true h; omega⟩
  have hf : Ev (fun k => shardloglaw09_few.j1 k l (i : Int) false) (decide ((l.length : Int) ≤ 60)) := Ev.step (f := fun _ => some _) (fun k => by simp only [shardloglaw09_few.j1, Bool.false_eq_true, if_false]) (Ev.now _)
  refine Ev.step (fun k => by simp only [shardloglaw09_few.l0]; rfl) ?_
  by_cases hi : (i : Int) < l.length
  ·
   refine Ev.pos hi ?_
   rw [show decide ((i : Int) < 100) = false from decide_eq_false (by omega)]
   exact hf
  ·
   exact Ev.neg hi hf
 | succ d ih =>
  intro i h1 h2 h3
  by_cases hi : i < l.length
  ·
   obtain ⟨b, hb, hb2⟩ := ih (i + 1) (by omega) (by omega) (by omega)
   have hr := rdC_at l i hi
   unfold rdC at hr
   have key : ∀ c, ∃ b, Ev (fun k => if ((l[i].f0).size : Int) > 200 then some false else if ((l[i].f1).size : Int) > 200 then some false else if ((l[i].f3).size : Int) > 400 then some false else shardloglaw09_few.l0 k l c) b ∧ (b = true → (c = ((i + 1 : Nat) : Int) → l.length ≤ 60)) ∨ c ≠ ((i + 1 : Nat) : Int) := by
    intro c
    by_cases hc : c = ((i + 1 : Nat) : Int)
    ·
     subst hc
     by_cases e1 : ((l[i].f0).size : Int) > 200
     ·
      exact ⟨false, .inl ⟨Ev.pos e1 (Ev.now _), fun h => by cases h⟩⟩
     by_cases e2 : ((l[i].f1).size : Int) > 200
     ·
      exact ⟨false, .inl ⟨Ev.neg e1 (Ev.pos e2 (Ev.now _)), fun h => by cases h⟩⟩
     by_cases e3 : ((l[i].f3).size : Int) > 400
     ·
      exact ⟨false, .inl ⟨Ev.neg e1 (Ev.neg e2 (Ev.pos e3 (Ev.now _))), fun h => by cases h⟩⟩
     exact ⟨b, .inl ⟨Ev.neg e1 (Ev.neg e2 (Ev.neg e3 hb)), fun h _ => hb2 h⟩⟩
    ·
     exact ⟨true, .inr hc⟩
   obtain ⟨b', h' | h'⟩ := key ((i + 1 : Nat) : Int)
   rotate_left
   ·
    exact absurd rfl h'
   obtain ⟨h4, h5⟩ := h'
   refine ⟨b', ?_, fun h => h5 h rfl⟩
   refine Ev.step (fun k => by simp only [shardloglaw09_few.l0]; rfl) (Ev.pos (by omega) ?_)
   rw [show decide ((i : Int) < 100) = true from decide_eq_true (by omega)]
   have hw : wrap64 ((i : Int) + 1) = ((i + 1 : Nat) : Int) := by rw [w64 (by omega) (by omega)]; rfl
   refine Ev.step (fun k => by simp only [shardloglaw09_few.j1]; rw [if_pos trivial, if_pos (by omega), if_pos (by omega), hr, hw]) h4
  ·
   refine ⟨decide ((l.length : Int) ≤ 60), ?_, fun h => by have := of_decide_eq_true h; omega⟩
   refine Ev.step (fun k => by simp only [shardloglaw09_few.l0]; rfl) (Ev.neg (by omega) ?_)
   exact Ev.step (f := fun _ => some _) (fun k => by simp only [shardloglaw09_few.j1, Bool.false_eq_true, if_false]) (Ev.now _)
theorem model_l0 : ∀ (l xs : List Cell) (n : Int), SrtC xs → n = sizeM xs → xs.length + l.length ≤ 1000000 → Ev (fun k => shardloglaw09_MemModel.l0 k l xs n xs) (putsM l xs, sizeM (putsM l xs), putsM l xs)
 | [], xs, n, _, hn, _ => by
  subst hn
  exact Ev.now _
 | c :: l, xs, n, hs, hn, hl => by
  simp only [List.length_cons] at hl
  unfold shardloglaw09_MemModel.l0
  refine Ev.bind (mem_Put_ev c hs hn (by omega)) ?_
  rw [ref_CRight_eq, show cellRight c.f0 c.f1 c.f2 c.f3 c.f4 = rightC c from rfl]
  refine Ev.bind (Ev.now _) ?_
  show Ev _ (putsM l (if rightC c = true then ins c xs else xs), sizeM (putsM l (if rightC c = true then ins c xs else xs)), putsM l (if rightC c = true then ins c xs else xs))
  cases hr : rightC c with
  | false => exact Ev.pos rfl (Ev.neg Bool.false_ne_true (model_l0 l xs n hs hn (by omega)))
  | true => exact Ev.pos rfl (Ev.pos rfl (Ev.bind (ref_Put1_ev c (fun x hx => sized_of_right (hs.1 x hx)) (by omega)) (model_l0 l (ins c xs) _ (srt_ins hr hs) rfl (by have := ins_length c xs; omega))))
theorem model_l1 : ∀ (l : List Cell) (s : Int), RightsC l → 0 ≤ s → s + 401 * l.length ≤ 1000000000000 → Ev (fun k => shardloglaw09_MemModel.l1 k l s) (s + sizeM l)
 | [], s, _, _, _ => by
  rw [show s + sizeM [] = s by simp [sizeM]]
  exact Ev.now _
 | c :: l, s, h, h0, h1 => by
  have hr := h c List.mem_cons_self
  have hw := w8_le hr
  simp only [List.length_cons] at h1
  obtain ⟨_, b1, _, b2, _, _, b3, _⟩ := rightC_iff.1 hr
  unfold shardloglaw09_MemModel.l1
  refine Ev.bind (ref_CPut_ev c.f2 c.f4 (by omega) (by omega) (by omega)) ?_
  rw [show ((cellB c.f0 c.f1 c.f2 c.f3 c.f4).length : Int) = w8 c from rfl, w64 (by omega) (by omega), sizeM_cons, show s + (w8 c + sizeM l) = (s + w8 c) + sizeM l by omega]
  exact model_l1 l (s + w8 c) (fun x hx => h x (List.mem_cons_of_mem _ hx)) (by omega) (by omega)
theorem MemModel : shardloglaw09_MemModel.Pure := by
 intro l hl
 refine Ev.rounds ?_
 unfold shardloglaw09_MemModel.f
 obtain ⟨b, hb, hb2⟩ := few_l0 l (by omega) 100 0 (by omega) (by omega) rfl
 refine Ev.bind awake (Ev.pos rfl (Ev.bind hb ?_))
 cases b with
 | false => exact Ev.neg Bool.false_ne_true (Ev.now _)
 | true =>
  have hn := hb2 rfl
  refine Ev.pos rfl ?_
  unfold shardloglaw09_MemModel.main
  have hs := putsM_srt l srt_nil
  have hln := putsM_length l []
  simp only [List.length_nil, Nat.zero_add] at hln
  refine Ev.bind (model_l0 l [] 0 srt_nil rfl (by simp only [List.length_nil]; omega)) (Ev.bind (model_l1 _ 0 hs.1 (Int.le_refl _) (by show (0 : Int) + 401 * ((putsM l []).length : Int) ≤ _; omega)) ?_)
  simp only [clone_C (l := putsM l []) (by omega), Option.bind_some]
  refine Ev.bind (sameC_ev rfl (by omega)) (Ev.pos (by refine ⟨by first | trivial | rfl, by first | trivial | rfl, by omega⟩) (Ev.now _))
end Go.Proofs.Ytgcicgjfimfhpaa.Pure

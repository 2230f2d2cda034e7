import Derived.Test.YtcbhfedcdnjljaaGreatBAll
namespace Go.Proofs.YtcbhfedcdnjljaaGreat.Pure
open Go.RowKit Go.Proofs.YtcbhfedcdnjljaaGreat.X Go.Proofs.YtcbhfedcdnjljaaGreat.Pl Go.Proofs.YtcbhfedcdnjljaaGreatW.PrintWords Go.Proofs.YtcbhfedcdnjljaaGreatW.PrintLast
theorem Dl {s1 s2 s3:Int} (hs:lU s1 s2 s3):∀ (l:List Cell) (p:Nat) (x:St),gV l→p+l.length≤40→gb PR p x.1 x.2.1 x.2.2→x.2.2.length+4*l.length≤1000→
  ∃ z:St,Ev (fun k=>aT.lp k s1 s2 s3 l x) z∧gb PR 40 z.1 z.2.1 z.2.2∧cQ (z.1 :: tl z.2.2)=l.foldl (fun o c=>ins c o) (cQ (x.1 :: tl x.2.2))
 | [],p,x,_,hp,hx,_=>⟨x,Ev.now _,D3 hx (by omega),rfl⟩
 | c :: l,p,x,hr,hp,hx,hlx=>by
  simp only [List.length_cons] at hp hlx
  obtain ⟨x1,n1,l1,e1,e2,e3,e4⟩:=BS hs (by omega) (hr c List.mem_cons_self) hx (by omega)
  obtain ⟨z,r1,r2,r3⟩:=Dl hs l (p+1) (x1,n1,l1) (fun d hd=>hr d (List.mem_cons_of_mem _ hd)) (by omega) e2 (by show l1.length+_≤_;omega)
  exact ⟨z,Ev.bind e1 r1,r2,by rw [r3,List.foldl_cons,← e3]⟩
theorem TreeKeeps:aT.Pure:=by
 intro s1 s2 s3 l _ _ _ _
 refine Ev.rounds ?_
 unfold aT.f
 rw [CN s1 s2 s3]
 refine Ev.bind C2 (Ev.pos rfl (Ev.bind Ae (Ev.bind (Ev.now _) ?_)))
 by_cases hg:(wW l && !decide (40<l.length) && decide (lU s1 s2 s3))=true
 rotate_left
 ·
  exact Ev.neg hg (Ev.now _)
 refine Ev.pos hg ?_
 simp only [Bool.and_eq_true,Bool.not_eq_true',decide_eq_true_iff,decide_eq_false_iff_not] at hg
 obtain ⟨⟨hf,hn⟩,hs⟩:=hg
 obtain ⟨_,hr⟩:=Db.1 hf
 unfold aT.main
 rw [EC hs]
 obtain ⟨z,e1,e2,e3⟩:=Dl hs l 0 ([],0,[]) hr (by omega) C9 (by show 0+_≤_;omega)
 refine Ev.bind (Ev.now _) (Ev.pos rfl (Ev.bind e1 ?_))
 have hz:cQ (z.1 :: tl z.2.2)=tP l:=e3
 have hl1:=xo l
 unfold aT.tail
 exact Ev.bind (oW e2 (by omega)) (Ev.bind (yN e2 (by omega)) (Ev.bind (yK (fun x hx=>uR (hr x hx)) (by omega)) (Ev.bind (CM hz (by rw [hz];omega)) (Ev.pos rfl (Ev.now _)))))
end Go.Proofs.YtcbhfedcdnjljaaGreat.Pure

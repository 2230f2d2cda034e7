import Derived.Test.YtcbhfedcdnjljaaBAll
namespace Go.Proofs.Ytcbhfedcdnjljaa.Pure
open Go.RowKit Go.Proofs.Ytcbhfedcdnjljaa.X Go.Proofs.Ytcbhfedcdnjljaa.Pl Go.Proofs.YtcbhfedcdnjljaaW.PrintWords Go.Proofs.YtcbhfedcdnjljaaW.PrintLast
theorem awake:Ev (fun k=>shardloglaw14_awake.f k) true:=Ev.of (fun k=>shardloglaw14_awake.mono k) (k:=200) (by kernel_rfl)
def rightS (a b c:Int):Prop:=1≤a∧a≤4096∧1≤b∧b≤4096∧1≤c∧c≤8
instance (a b c:Int):Decidable (rightS a b c):=by unfold rightS;infer_instance
theorem right_eq (a b c:Int):shardloglaw14_right.f a b c=some (decide (rightS a b c)):=by
 unfold shardloglaw14_right.f
 (repeat' split)<;>(congr 1;rw [eq_comm];first | (rw [decide_eq_false_iff_not];unfold rightS;omega) | (rw [Bool.eq_iff_iff,decide_eq_true_iff,decide_eq_true_iff];unfold rightS;omega))
theorem in_ev {a b:Int} (h:1≤a):tree_New_1.f a b=some (decide (a≤b)):=by
 unfold tree_New_1.f
 rw [if_pos h]
theorem new_ev {a b c:Int} (h:rightS a b c):tree_New.f a b c=some true:=by
 obtain ⟨h1,h2,h3,h4,h5,h6⟩:=h
 unfold tree_New.f
 rw [in_ev h1,in_ev h3,in_ev h5,decide_eq_true h2,decide_eq_true h4,decide_eq_true h6]
 rfl
def PR (c:Cell):Prop:=(oneB c).length≤401
theorem makesR {a b c:Int} (h:rightS a b c) {N:Nat} (hN:N≤100):Makes b PR N:=makes_W (W:=401) h.2.2.1 h.2.2.2.1 (by omega) (by omega) (fun _ h=>h)
theorem tree_up {P:Cell→Prop} {p q:Nat} {xs:List Cell} {n:Int} {ls:List (List Tab)} (h:TreeI P p xs n ls) (hq:p≤q):TreeI P q xs n ls:=⟨h.srt,h.siz,h.tab,Nat.le_trans h.tot hq,h.wid⟩
theorem put_small {a b c:Int} (hs:rightS a b c) {p:Nat} (hp:p+1≤100) {d:Cell} (hd:rightC d=true) {xs:List Cell} {n:Int} {ls:List (List Tab)} (h:TreeI PR p xs n ls) (hl:ls.length+2≤1000000) :
  ∃ xs' n' ls',Ev (fun k=>tree_Tree_Put.f k a b c xs n ls d.f0 d.f1 d.f2 d.f3 d.f4) (xs',n',ls',0)∧TreeI PR (p+1) xs' n' ls'∧refAll (xs' :: tl ls')=ins d (refAll (xs :: tl ls))∧ls'.length≤ls.length+2:=
 put_ev (makesR hs hp) (by omega) hs.2.2.2.2.1 hd (oneB_le hd) h hl (.inr (by
  have:=refAll_length (xs :: tl ls)
  have:=h.tot
  omega))
abbrev St:=List Cell × Int × List (List Tab)
theorem lp_sh {s1 s2 s3 u1 u2 u3:Int} (hs:rightS s1 s2 s3) (hu:rightS u1 u2 u3):∀ (l:List Cell) (i p:Nat) (x y:St),RightsC l→p+l.length≤40→TreeI PR p x.1 x.2.1 x.2.2→TreeI PR p y.1 y.2.1 y.2.2→refAll (x.1 :: tl x.2.2)=refAll (y.1 :: tl y.2.2)→x.2.2.length+4*l.length≤1000→y.2.2.length+4*l.length≤1000→
  ∃ z:St × St,Ev (fun k=>shardloglaw14_TreeShelves.lp k s1 s2 s3 u1 u2 u3 i l x y) z∧TreeI PR 40 z.1.1 z.1.2.1 z.1.2.2∧TreeI PR 40 z.2.1 z.2.2.1 z.2.2.2∧refAll (z.1.1 :: tl z.1.2.2)=refAll (z.2.1 :: tl z.2.2.2)
 | [],_,p,x,y,_,hp,hx,hy,he,_,_=>⟨(x,y),Ev.now _,tree_up hx (by omega),tree_up hy (by omega),he⟩
 | c :: l,i,p,x,y,hr,hp,hx,hy,he,hlx,hly=>by
  simp only [List.length_cons] at hp hlx hly
  have hc:=hr c List.mem_cons_self
  have hrl:RightsC l:=fun d hd=>hr d (List.mem_cons_of_mem _ hd)
  obtain ⟨x1,n1,l1,e1,e2,e3,e4⟩:=put_small hs (by omega) hc hx (by omega)
  obtain ⟨y1,m1,k1,g1,g2,g3,g4⟩:=put_small hu (by omega) hc hy (by omega)
  have he1:refAll (x1 :: tl l1)=refAll (y1 :: tl k1):=by rw [e3,g3,he]
  unfold shardloglaw14_TreeShelves.lp
  by_cases h7:i % 7=3
  ·
   obtain ⟨y2,m2,k2,q1,q2,q3,q4⟩:=flush_any (makesR hu (N:=p+1) (by omega)) (by omega) hu.2.2.2.2.1 g2 (by omega)
   obtain ⟨z,r1,r2⟩:=lp_sh hs hu l (i+1) (p+1) (x1,n1,l1) (y2,m2,k2) hrl (by omega) e2 q2 (he1.trans q3.symm) (by show l1.length+_≤_;omega) (by show k2.length+_≤_;omega)
   exact ⟨z,Ev.bind e1 (Ev.bind g1 (Ev.pos h7 (Ev.bind q1 r1))),r2⟩
  ·
   obtain ⟨z,r1,r2⟩:=lp_sh hs hu l (i+1) (p+1) (x1,n1,l1) (y1,m1,k1) hrl (by omega) e2 g2 he1 (by show l1.length+_≤_;omega) (by show k1.length+_≤_;omega)
   exact ⟨z,Ev.bind e1 (Ev.bind g1 (Ev.neg h7 r1)),r2⟩
theorem tree_nil {p:Nat}:TreeI PR p [] 0 []:=⟨srt_nil,by simp [sizeM],fun l hl=>(by cases hl),Nat.zero_le _,fun l hl c hc=>by
 rcases List.mem_cons.1 hl with rfl | hl
 ·
  cases hc
 ·
  cases hl⟩
theorem TreeShelves:shardloglaw14_TreeShelves.Pure:=by
 intro s1 s2 s3 u1 u2 u3 l c0 c1 c2 c3 c4 _ _ _ _ _ _ _ _ _ _ _
 refine Ev.rounds ?_
 unfold shardloglaw14_TreeShelves.f
 rw [right_eq s1 s2 s3,right_eq u1 u2 u3]
 refine Ev.bind awake (Ev.pos rfl (Ev.bind ref_Few_ev (Ev.bind (Ev.now _) (Ev.bind (Ev.now _) ?_))))
 by_cases hg:(fewC l && !decide (40<l.length) && decide (rightS s1 s2 s3) && decide (rightS u1 u2 u3) && !decide (100<c0.size) && !decide (100<c1.size))=true
 rotate_left
 ·
  exact Ev.neg hg (Ev.now _)
 refine Ev.pos hg ?_
 simp only [Bool.and_eq_true,Bool.not_eq_true',decide_eq_true_iff,decide_eq_false_iff_not] at hg
 obtain ⟨⟨⟨⟨⟨hf,hn⟩,hs⟩,hu⟩,h0⟩,h1⟩:=hg
 obtain ⟨_,hr⟩:=fewC_iff.1 hf
 unfold shardloglaw14_TreeShelves.main
 rw [new_ev hs,new_ev hu]
 obtain ⟨z,e1,e2,e3,e4⟩:=lp_sh hs hu l 0 0 ([],0,[]) ([],0,[]) hr (by omega) tree_nil tree_nil rfl (by show 0+_≤_;omega) (by show 0+_≤_;omega)
 refine Ev.bind (Ev.now _) (Ev.bind (Ev.now _) (Ev.pos ⟨rfl,rfl⟩ (Ev.bind e1 ?_)))
 have hl1:=refAll_length (z.1.1 :: tl z.1.2.2)
 have ht1:=e2.tot
 unfold shardloglaw14_TreeShelves.tail
 refine Ev.bind (treeGet_ev e2 (by omega) (by omega) (by omega)) (Ev.bind (treeGet_ev e3 (by omega) (by omega) (by omega)) (Ev.bind (treeCells_ev e2 (by omega)) (Ev.bind (treeCells_ev e3 (by omega)) (Ev.bind (sameC_ev e4 (by omega)) (Ev.bind (treeScan_ev e2 (by omega)) (Ev.bind (treeScan_ev e3 (by omega)) (Ev.bind (sameC_ev (by rw [e4]) ?_) (Ev.pos ⟨by rw [e4],by rw [e4],rfl,rfl⟩ (Ev.now _)))))))))
 have:=List.Sublist.length_le (visC_sub (refAll (z.1.1 :: tl z.1.2.2)) c2)
 exact Nat.le_trans (List.length_filter_le _ _) (by omega)
end Go.Proofs.Ytcbhfedcdnjljaa.Pure

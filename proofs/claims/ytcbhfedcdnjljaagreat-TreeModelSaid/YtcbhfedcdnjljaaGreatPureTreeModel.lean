import Derived.Test.YtcbhfedcdnjljaaGreatBAll
namespace Go.Proofs.YtcbhfedcdnjljaaGreat.Pure
open Go.RowKit Go.Proofs.YtcbhfedcdnjljaaGreat.X Go.Proofs.YtcbhfedcdnjljaaGreat.Pl Go.Proofs.YtcbhfedcdnjljaaGreatW.PrintWords Go.Proofs.YtcbhfedcdnjljaaGreatW.PrintLast
abbrev Act:=jG
theorem FE (l:List Act) (i:Nat) (h:i<l.length):fA l (i:Int)=l[i]:=by
 unfold fA
 rw [Int.toNat_natCast,List.getD_eq_getElem?_getD,List.getElem?_eq_getElem h]
 rfl
theorem Fm (l:List Act) (d:Nat):∀ i:Nat,i≤l.length→i≤100→l.length - i=d→∃ b,Ev (fun k=>bf.l0 k l (i:Int)) b∧(b=true→l.length≤50∧∀ j (h:j<l.length),i≤j→l[j].f1.f0.size≤100∧l[j].f1.f1.size≤100):=by
 have hend:∀ i:Int,Ev (fun k=>bf.j1 k l i false) (decide ((l.length:Int)≤50)):=fun i=>
  Ev.step (f:=fun _=>some (decide ((l.length:Int)≤50))) (fun k=>by simp only [bf.j1,Bool.false_eq_true,if_false]) (Ev.now _)
 induction d with
 | zero=>
  intro i hi _ hd
  refine ⟨_,Ev.step (fun k=>by simp only [bf.l0];rw [if_neg (by omega)]) (hend i),fun hb=>⟨by have:=of_decide_eq_true hb;omega,fun j h hj=>by omega⟩⟩
 | succ d ih=>
  intro i hi h100 hd
  have hlt:i<l.length:=by omega
  by_cases h1:i<100
  rotate_left
  ·
   refine ⟨_,Ev.step (fun k=>by simp only [bf.l0];rw [if_pos (by omega),decide_eq_false (show ¬ (i:Int)<100 by omega)]) (hend i),fun hb=>?_⟩
   have:=of_decide_eq_true hb
   omega
  obtain ⟨b,e,hb⟩:=ih (i+1) (by omega) (by omega) (by omega)
  have hr:=FE l i hlt
  have hw:wrap64 ((i:Int)+1)=((i+1:Nat):Int):=by rw [fZ (by omega) (by omega)];rfl
  have hj:∀ k,bf.j1 (k+1) l (i:Int) true=if ((l[i].f1.f0).size:Int) > 100 then some false else if ((l[i].f1.f1).size:Int) > 100 then some false else if ((l[i].f1.f3).size:Int) > 300 then some false else bf.l0 k l ((i+1:Nat):Int):=fun k=>by
   simp only [bf.j1,if_true]
   rw [if_pos (by omega),if_pos (by omega),hr,hw]
  have hs:∀ k,bf.l0 (k+1) l (i:Int)=bf.j1 k l (i:Int) true:=fun k=>by
   simp only [bf.l0]
   rw [if_pos (by omega),decide_eq_true (show (i:Int)<100 by omega)]
  by_cases g0:((l[i].f1.f0).size:Int) > 100
  ·
   exact ⟨false,Ev.step hs (Ev.step hj (Ev.pos g0 (Ev.now _))),fun h=>(by cases h)⟩
  by_cases g1:((l[i].f1.f1).size:Int) > 100
  ·
   exact ⟨false,Ev.step hs (Ev.step hj (Ev.neg g0 (Ev.pos g1 (Ev.now _)))),fun h=>(by cases h)⟩
  by_cases g2:((l[i].f1.f3).size:Int) > 300
  ·
   exact ⟨false,Ev.step hs (Ev.step hj (Ev.neg g0 (Ev.neg g1 (Ev.pos g2 (Ev.now _))))),fun h=>(by cases h)⟩
  refine ⟨b,Ev.step hs (Ev.step hj (Ev.neg g0 (Ev.neg g1 (Ev.neg g2 e)))),fun h=>?_⟩
  obtain ⟨h2,h3⟩:=hb h
  refine ⟨h2,fun j hjl hj=>?_⟩
  by_cases e2:j=i
  ·
   subst e2
   exact ⟨by omega,by omega⟩
  ·
   exact h3 j hjl (by omega)
abbrev keep (a b:ByteArray) (c:Cell):Bool:=bS.keep a b c
theorem z5 (x a:ByteArray):(0≤fR x a)↔Op.bytesLess x.toList a.toList=false:=by
 unfold fR
 rw [rV]
 cases h:Op.bytesLess x.toList a.toList with
 | true=>simp
 | false=>
  simp only [Bool.false_eq_true,if_false,iff_true]
  split<;>omega
theorem vR (x a:ByteArray):(fR x a<0)↔Op.bytesLess x.toList a.toList=true:=by
 have:=z5 x a
 cases h:Op.bytesLess x.toList a.toList with
 | true=>rw [h] at this;simp at this;simpa using this
 | false=>rw [h] at this;simp at this;simpa using this
theorem Eh (a b:ByteArray) (l:List Cell) (hr:fW l) (hn:l.length≤1000000) (d:Nat):∀ (i:Nat) (acc:List Cell),i≤l.length→l.length - i=d→acc.length≤i→Ev (fun k=>bM.l0 k a b l acc (i:Int)) (acc++(l.drop i).filter (keep a b)):=by
 induction d with
 | zero=>
  intro i acc hi hd _
  rw [List.drop_eq_nil_of_le (by omega),List.filter_nil,List.append_nil]
  exact Ev.step (f:=fun _=>some acc) (fun k=>by simp only [bM.l0];rw [if_neg (by omega)]) (Ev.now _)
 | succ d ih=>
  intro i acc hi hd hacc
  have hlt:i<l.length:=by omega
  have hrd:=gG l i hlt
  unfold mD at hrd
  have hw:wrap64 ((i:Int)+1)=((i+1:Nat):Int):=by rw [fZ (by omega) (by omega)];rfl
  have hz:=(ql (hr _ (List.getElem_mem hlt))).1
  have ht:=ih (i+1) (acc++[l[i]]) (by omega) (by omega) (by simp;omega)
  have hf:=ih (i+1) acc (by omega) (by omega) (by omega)
  have e1:acc++(l.drop i).filter (keep a b)=(if keep a b l[i]=true then acc++[l[i]] else acc)++(l.drop (i+1)).filter (keep a b):=by
   rw [List.drop_eq_getElem_cons hlt,List.filter_cons]
   split<;>simp
  rw [e1]
  refine Ev.step (fun k=>by simp only [bM.l0];rw [if_pos (by omega),if_pos (by omega),hrd,hw]) (Ev.bind (mX hz) ?_)
  by_cases hp:fR l[i].f0 a≥0
  ·
   refine Ev.pos hp ?_
   have hp':=(z5 _ _).1 hp
   by_cases he:b.toList=([]:List UInt8)
   ·
    have hk:keep a b l[i]=true:=by
     unfold keep bS.keep
     rw [hp',he];rfl
    rw [if_pos hk]
    exact Ev.pos he (Ev.pos (by omega) ht)
   ·
    refine Ev.neg he (Ev.bind (mX hz) ?_)
    by_cases h2:fR l[i].f0 b<0
    ·
     have hk:keep a b l[i]=true:=by
      unfold keep bS.keep
      rw [hp',(vR _ _).1 h2,Bool.or_true];rfl
     rw [if_pos hk]
     exact Ev.pos h2 (Ev.pos (by omega) ht)
    ·
     have hk:¬ keep a b l[i]=true:=by
      unfold keep bS.keep
      have h3:¬ Op.bytesLess l[i].f0.toList b.toList=true:=fun hh=>h2 ((vR _ _).2 hh)
      simp [he,h3]
     rw [if_neg hk]
     exact Ev.neg h2 hf
  ·
   have hk:¬ keep a b l[i]=true:=by
    unfold keep bS.keep
    have h3:Op.bytesLess l[i].f0.toList a.toList=true:=(vR _ _).1 (by omega)
    simp [h3]
   rw [if_neg hk]
   exact Ev.neg hp hf
theorem Em {m:List Cell} (hs:iG m) (hn:m.length≤1000000) (a b:ByteArray) (t:Int):Ev (fun k=>bM.f k m a b t) ((sM m t).filter (keep a b)):=by
 have hv:=tX m t
 have h:=Eh a b (sM m t) (fun x hx=>hs.1 x (hv.subset hx)) (Nat.le_trans hv.length_le hn) (sM m t).length 0 [] (by omega) (by omega) (by simp)
 rw [List.drop_zero,List.nil_append] at h
 exact Ev.bind (vS t hs (by omega)) h
theorem EY {s1 s s3 n:Int} {xs:List Cell} {ls:List (List jx)} {c:Cell} (hc:fT c=false):Ev (fun k=>cx.f k s1 s s3 xs n ls c.f0 c.f1 c.f2 c.f3 c.f4) (xs,n,ls,1):=by
 unfold cx.f
 rw [kM,show ic c.f0 c.f1 c.f2 c.f3 c.f4=false from hc]
 exact Ev.bind (Ev.now _) (Ev.neg Bool.false_ne_true (Ev.now _))
theorem Dq {s:ByteArray} (h:s.size=0):s=⟨#[]⟩:=by
 obtain ⟨d⟩:=s
 congr 1
 exact Array.eq_empty_of_size_eq_zero h
theorem FD {z:Option Cell} (h:∀ c,z=some c→fT c=true):av.ok (l8 z) (jD z):=by
 cases z with
 | none=>exact ⟨rfl,fun h=>(by cases h),fun _=>rfl⟩
 | some c=>
  refine ⟨by show (!c.f4)=(true && !c.f4);rw [Bool.true_and],fun _=>rfl,fun h4=>?_⟩
  obtain ⟨_,_,_,_,_,_,_,h5⟩:=fo.1 (h c rfl)
  replace h4:c.f4=true:=h4
  rcases h5 with h5 | h5
  ·
   rw [h4] at h5;cases h5
  ·
   exact Dq h5
theorem FW {s1 s2 s3:Int} (hs:kO s1 s2 s3) {p:Nat} {x:St} {m:List Cell} {a:Act} (h0:a.f1.f0.size≤100) (h1:a.f1.f1.size≤100) (hp:p+1≤100) (hx:fE PR p x.1 x.2.1 x.2.2) (he:cE (x.1 :: tl x.2.2)=m) (hm:iG m) (hl:x.2.2.length+2≤1000000) :
  ∃ x' m',Ev (fun k=>av.Au k s1 s2 s3 a x m) (x',m')∧fE PR (p+1) x'.1 x'.2.1 x'.2.2∧cE (x'.1 :: tl x'.2.2)=m'∧iG m'∧x'.2.2.length≤x.2.2.length+2:=by
 have hml:m.length≤p:=by
  have g1:=jK (x.1 :: tl x.2.2)
  have:=hx.tot
  rw [he] at g1
  omega
 unfold av.Au
 by_cases d0:a.f0=0
 ·
  have hR:Ev (fun _=>fC.f a.f1.f0 a.f1.f1 a.f1.f2 a.f1.f3 a.f1.f4) (fT a.f1):=Ev.eq (wS _ _ _ _ _)
  cases hr:fT a.f1 with
  | true=>
   obtain ⟨x1,n1,l1,e1,e2,e3,e4⟩:=Cc hs hp hr hx hl
   rw [hr] at hR
   refine ⟨(x1,n1,l1),ins a.f1 m,Ev.pos d0 (Ev.bind hR (Ev.pos rfl (Ev.bind (zD a.f1 (fun y hy=>ql (hm.1 y hy)) (by omega)) (Ev.bind e1 (Ev.pos rfl (Ev.now _)))))),e2,by rw [←he];exact e3,zX hr hm,e4⟩
  | false=>
   rw [hr] at hR
   exact ⟨x,m,Ev.pos d0 (Ev.bind hR (Ev.neg Bool.false_ne_true (Ev.bind (EY hr) (Ev.pos rfl (Ev.now _))))),sY hx (by omega),he,hm,by omega⟩
 by_cases d1:a.f0=1
 ·
  obtain ⟨x1,n1,l1,e1,e2,e3,e4⟩:=Cx (B_ hs (N:=p) (by omega)) (by omega) hs.2.2.2.2.1 hx hl
  exact ⟨(x1,n1,l1),m,Ev.neg d0 (Ev.pos d1 (Ev.bind e1 (Ev.now _))),sY e2 (by omega),e3.trans he,hm,e4⟩
 by_cases d2:a.f0=2
 ·
  have hg:=Be (a:=a.f1.f0) (b:=a.f1.f1) (t:=a.f1.f2) hx (by omega) (by omega) (by omega)
  rw [he] at hg
  exact ⟨x,m,Ev.neg d0 (Ev.neg d1 (Ev.pos d2 (Ev.bind hg (Ev.bind (rO _ _ _ hm (by omega)) (Ev.pos (FD (fun c hc=>hm.1 c (List.mem_of_find?_eq_some hc))) (Ev.now _)))))),sY hx (by omega),he,hm,by omega⟩
 ·
  have hg:=zN (a:=a.f1.f0) (b:=a.f1.f1) (t:=a.f1.f2) hx (by omega)
  rw [he] at hg
  exact ⟨x,m,Ev.neg d0 (Ev.neg d1 (Ev.neg d2 (Ev.bind hg (Ev.bind (Em hm (by omega) _ _ _) (Ev.bind (xJ rfl (by
   have:=List.Sublist.length_le (tX m a.f1.f2)
   exact Nat.le_trans (List.length_filter_le _ _) (by omega))) (Ev.pos rfl (Ev.now _))))))),sY hx (by omega),he,hm,by omega⟩
theorem DX {s1 s2 s3:Int} (hs:kO s1 s2 s3):∀ (l:List Act) (p:Nat) (x:St) (m:List Cell),(∀ a ∈ l,a.f1.f0.size≤100∧a.f1.f1.size≤100)→p+l.length≤50→fE PR p x.1 x.2.1 x.2.2→cE (x.1 :: tl x.2.2)=m→iG m→x.2.2.length+4*l.length≤1000→Ev (fun k=>av.lp k s1 s2 s3 l x m) true
 | [],_,_,_,_,_,_,_,_,_=>Ev.now _
 | a :: l,p,x,m,ha,hp,hx,he,hm,hl=>by
  simp only [List.length_cons] at hp hl
  obtain ⟨h0,h1⟩:=ha a List.mem_cons_self
  obtain ⟨x',m',e1,e2,e3,e4,e5⟩:=FW hs h0 h1 (by omega) hx he hm (by omega)
  have ih:=DX hs l (p+1) x' m' (fun b hb=>ha b (List.mem_cons_of_mem _ hb)) (by omega) e2 e3 e4 (by omega)
  have hml:m'.length≤p+1:=by
   have g1:=jK (x'.1 :: tl x'.2.2)
   have:=e2.tot
   rw [e3] at g1
   omega
  exact Ev.bind e1 (Ev.bind (o7 e2 (by omega)) (Ev.bind (xJ e3 (by rw [e3];omega)) (Ev.pos rfl ih)))
theorem TreeModel:av.Pure:=by
 intro s1 s2 s3 l _ _ _ _
 refine Ev.rounds ?_
 unfold av.f
 rw [Dd s1 s2 s3]
 obtain ⟨b,hb,hb2⟩:=Fm l l.length 0 (by omega) (by omega) (by omega)
 refine Ev.bind Dx (Ev.pos rfl (Ev.bind (a:=b) hb ?_))
 cases b with
 | false=>exact Ev.neg Bool.false_ne_true (Ev.now _)
 | true=>
 obtain ⟨hn,hz⟩:=hb2 rfl
 refine Ev.pos rfl ?_
 by_cases hs:kO s1 s2 s3
 ·
  rw [decide_eq_true hs,Fo hs]
  exact Ev.bind (Ev.now _) (Ev.bind (Ev.now _) (Ev.pos rfl (Ev.pos ⟨rfl,by omega⟩ (DX hs l 0 ([],0,[]) [] (fun a ha=>by
   obtain ⟨j,hj,rfl⟩:=List.getElem_of_mem ha
   exact hz j hj (Nat.zero_le _)) (by omega) Dv rfl vO (by show 0+_≤_;omega)))))
 ·
  rw [decide_eq_false hs,Fs hs]
  exact Ev.bind (Ev.now _) (Ev.bind (Ev.now _) (Ev.neg Bool.false_ne_true (Ev.pos rfl (Ev.now _))))
end Go.Proofs.YtcbhfedcdnjljaaGreat.Pure

/- The pure statement of the law TreeFull. -/
import Derived.Test.YtcbhfedcdnjljaaBAll
import Derived.KernelRfl
import Derived.Test.YtcbhfedcdnjljaaXx13
namespace Go.Proofs.Ytcbhfedcdnjljaa.Pure
open Go.RowKit Go.Proofs.Ytcbhfedcdnjljaa.X Go.Proofs.Ytcbhfedcdnjljaa.Pl Go.Proofs.YtcbhfedcdnjljaaW.PrintWords Go.Proofs.YtcbhfedcdnjljaaW.PrintLast
theorem awake:Ev (fun k=>shardloglaw14_awake.f k) true:=Ev.of (fun k=>shardloglaw14_awake.mono k) (k:=200) (by kernel_rfl)
theorem find_self {l:List Cell} (h:OrdC l) {c:Cell} (hc:c ∈ l):findC c.f0 c.f1 c.f2 l=some c:=by
 obtain ⟨p,q,rfl⟩:=List.append_of_mem hc
 obtain ⟨_,_,h3⟩:=List.pairwise_append.1 h
 unfold findC
 rw [List.find?_append,List.find?_eq_none.2 (fun x hx hox=>by
  obtain ⟨e1,e2,e3⟩:=ofC_iff.1 hox
  have:=h3 x hx c List.mem_cons_self
  rw [cc_same e1 e2,cmpN_lt] at this
  omega),Option.none_or]
 exact List.find?_cons_of_pos (ofC_iff.2 ⟨rfl,rfl,Int.le_refl _⟩)
theorem ins_new {c:Cell}:∀ {l:List Cell},(∀ x ∈ l,cc x c≠0)→(ins c l).length=l.length+1
 | [],_=>rfl
 | x :: l,h=>by
  unfold ins
  by_cases h1:cc x c = -1
  ·
   rw [if_pos h1,List.length_cons,ins_new (fun y hy=>h y (List.mem_cons_of_mem _ hy)),List.length_cons]
  ·
   rw [if_neg h1,if_neg (h x List.mem_cons_self)]
   rfl
theorem ins_old {c:Cell}:∀ {l:List Cell},OrdC l→(∃ x ∈ l,cc x c=0)→(ins c l).length=l.length
 | [],_,h=>by
  obtain ⟨x,hx,_⟩:=h
  cases hx
 | x :: l,ho,h=>by
  obtain ⟨h1,h2⟩:=List.pairwise_cons.1 ho
  obtain ⟨y,hy,hy0⟩:=h
  unfold ins
  by_cases hm:cc x c = -1
  ·
   rw [if_pos hm,List.length_cons,List.length_cons,ins_old h2]
   rcases List.mem_cons.1 hy with rfl | hy
   ·
    rw [hm] at hy0;cases hy0
   ·
    exact ⟨y,hy,hy0⟩
  ·
   rw [if_neg hm]
   by_cases hz:cc x c=0
   ·
    rw [if_pos hz];rfl
   ·
    exfalso
    rcases List.mem_cons.1 hy with rfl | hy
    ·
     exact hz hy0
    ·
     have:=cc_trans (cc_gt hm hz) (h1 y hy)
     rw [cc_neg,hy0] at this
     cases this
/-- The cells that are put. -/
def cF (i:Nat) (v:ByteArray):Cell:=⟨⟨#[114]⟩,⟨#[99]⟩,3*(i:Int),v,false⟩
def PF (c:Cell):Prop:=(oneB c).length≤20∧∃ i:Nat,c.f2=3*(i:Int)
theorem s1:1≤(⟨#[114]⟩:ByteArray).size∧(⟨#[114]⟩:ByteArray).size≤64:=by decide
theorem s2:1≤(⟨#[99]⟩:ByteArray).size∧(⟨#[99]⟩:ByteArray).size≤64:=by decide
theorem s3:(⟨#[]⟩:ByteArray).size≤256:=by decide
theorem cF_right {i:Nat} (hi:i≤400) {v:ByteArray} (hv:v.size≤1):rightC (cF i v)=true:=by
 refine rightC_iff.2 ⟨s1.1,s1.2,s2.1,s2.2,?_,?_,by show v.size≤256;omega,.inl rfl⟩
 ·
  show (0:Int)≤3*(i:Int);omega
 ·
  show 3*(i:Int)≤4294967295;omega
theorem cF_P {i:Nat} {v:ByteArray} (hv:v.size≤1):PF (cF i v):=by
 refine ⟨?_,i,rfl⟩
 have:=cellB_length ⟨#[114]⟩ ⟨#[99]⟩ (3*(i:Int)) v false
 have h1:(⟨#[114]⟩:ByteArray).size=1:=rfl
 have h2:(⟨#[99]⟩:ByteArray).size=1:=rfl
 show (cellB ⟨#[114]⟩ ⟨#[99]⟩ (3*(i:Int)) v false).length≤20
 omega
theorem makesF {s:Int} (h1:1≤s) (h2:s≤4096) {N:Nat} (hN:N≤420):Makes s PF N:=makes_W (W:=20) h1 h2 hN (by omega) (fun _ h=>h.1)
/-- The first i of them. -/
def MF (i:Nat) (l:List Cell):Prop:=l.length=i∧∀ c,c ∈ l↔∃ j,j<i∧c=cF j ⟨#[118]⟩
theorem cF_ne {i j:Nat} {u v:ByteArray} (h:i≠j):cc (cF i u) (cF j v)≠0:=fun e=>by
 have:=(cc_zero.1 e).2.2
 have h1:3*(i:Int)=3*(j:Int):=this
 omega
theorem lp_full {s:Int} (h1:1≤s) (h2:s≤4096):∀ (m i:Nat) (xs:List Cell) (n:Int) (ls:List (List Tab)),i+m=400→TreeI PF i xs n ls→ls.length≤2*i→MF i (refAll (xs :: tl ls))→
  ∃ xs' n' ls',Ev (fun k=>shardloglaw14_TreeFull.lp k s m i xs n ls) (xs',n',ls')∧TreeI PF 400 xs' n' ls'∧ls'.length≤800∧MF 400 (refAll (xs' :: tl ls'))
 | 0,i,xs,n,ls,hi,h,hl,hm=>by
  have:i=400:=by omega
  subst this
  exact ⟨xs,n,ls,Ev.now _,h,by omega,hm⟩
 | m+1,i,xs,n,ls,hi,h,hl,hm=>by
  obtain ⟨xs1,n1,ls1,e1,e2,e3,e4⟩:=put_ev (s1:=4096) (c:=cF i ⟨#[118]⟩) (makesF h1 h2 (N:=i+1) (by omega)) (by omega) (s3:=8) (by decide) (cF_right (by omega) (by decide)) (cF_P (by decide)) h (by omega) (.inr (by rw [hm.1];omega))
  have ho:OrdC (refAll (xs :: tl ls)):=refAll_ord h.ords
  have hm1:MF (i+1) (refAll (xs1 :: tl ls1)):=by
   rw [e3]
   refine ⟨?_,fun c=>?_⟩
   ·
    rw [ins_new (fun x hx=>by
     obtain ⟨j,hj,rfl⟩:=(hm.2 x).1 hx
     exact cF_ne (by omega)),hm.1]
   ·
    rw [mem_ins_iff ho,hm.2]
    constructor
    ·
     rintro (h | ⟨⟨j,hj,h⟩,_⟩)
     ·
      exact ⟨i,by omega,h⟩
     ·
      exact ⟨j,by omega,h⟩
    ·
     rintro ⟨j,hj,rfl⟩
     by_cases e:j=i
     ·
      subst e;exact .inl rfl
     ·
      exact .inr ⟨⟨j,by omega,rfl⟩,cF_ne (by omega)⟩
  obtain ⟨xs',n',ls',q1,q2,q3,q4⟩:=lp_full h1 h2 m (i+1) xs1 n1 ls1 (by omega) e2 (by omega) hm1
  refine ⟨xs',n',ls',?_,q2,q3,q4⟩
  unfold shardloglaw14_TreeFull.lp
  exact Ev.bind e1 (Ev.pos rfl q1)
theorem in_ev {a b:Int} (h:1≤a):tree_New_1.f a b=some (decide (a≤b)):=by
 unfold tree_New_1.f
 rw [if_pos h]
theorem tail_full {s:Int} (h1:1≤s) (h2:s≤4096) {j:Nat} (hj:j<400) {xs:List Cell} {n:Int} {ls:List (List Tab)} (h:TreeI PF 400 xs n ls) (hl:ls.length≤800) (hm:MF 400 (refAll (xs :: tl ls))):Ev (fun k=>shardloglaw14_TreeFull.tail k s (j:Int) (xs,n,ls)) true:=by
 have w1:wrap64 (3*(j:Int))=3*(j:Int):=w64 (by omega) (by omega)
 have w2:wrap64 (wrap64 (3*(j:Int))+1)=3*(j:Int)+1:=by rw [w1,w64 (by omega) (by omega)]
 unfold shardloglaw14_TreeFull.tail
 rw [w2,w1]
 obtain ⟨c2,hc2⟩:∃ c2:Cell,c2=⟨⟨#[114]⟩,⟨#[99]⟩,3*(j:Int)+1,⟨#[]⟩,false⟩:=⟨_,rfl⟩
 have hr2:rightC c2=true:=by
  rw [hc2]
  refine rightC_iff.2 ⟨s1.1,s1.2,s2.1,s2.2,?_,?_,s3,.inl rfl⟩
  ·
   show (0:Int)≤3*(j:Int)+1;omega
  ·
   show 3*(j:Int)+1≤4294967295;omega
 have hno:(xs :: tl ls).any (hitC c2.f0 c2.f1 c2.f2)=false:=by
  cases hk:(xs :: tl ls).any (hitC c2.f0 c2.f1 c2.f2) with
  | false=>rfl
  | true=>
   exfalso
   obtain ⟨l,hl,hh⟩:=List.any_eq_true.1 hk
   obtain ⟨x,hx,hx2⟩:=hit_in hh
   obtain ⟨_,i,hi⟩:=h.wid l hl x hx
   rw [hi,hc2] at hx2
   have:3*(i:Int)=3*(j:Int)+1:=hx2
   omega
 have p1:=put_full (s1:=4096) (s:=s) (s3:=8) (by omega) hr2 h hno hm.1
 rw [hc2] at p1
 have hmem:cF j ⟨#[118]⟩ ∈ refAll (xs :: tl ls):=(hm.2 _).2 ⟨j,hj,rfl⟩
 have hyes:(xs :: tl ls).any (hitC (cF j ⟨#[119]⟩).f0 (cF j ⟨#[119]⟩).f1 (cF j ⟨#[119]⟩).f2)=true:=by
  obtain ⟨i,q1,q2,_⟩:=(refAll_merged h.ords).win _ hmem
  rw [nthC_at _ i q1] at q2
  refine List.any_eq_true.2 ⟨_,List.getElem_mem q1,?_⟩
  have hf:=find_self (by have:=h.ords i;rwa [nthC_at _ i q1] at this) q2
  unfold hitC
  rw [show findC (cF j ⟨#[119]⟩).f0 (cF j ⟨#[119]⟩).f1 (cF j ⟨#[119]⟩).f2 (xs :: tl ls)[i]=some (cF j ⟨#[118]⟩) from hf]
  simp [tupC,cF]
 obtain ⟨xs1,n1,ls1,e1,e2,e3,e4⟩:=put_ev (s1:=4096) (c:=cF j ⟨#[119]⟩) (makesF h1 h2 (N:=401) (by omega)) (by omega) (s3:=8) (by decide) (cF_right (by omega) (by decide)) (cF_P (by decide)) h (by omega) (.inl hyes)
 have hlen:(refAll (xs1 :: tl ls1)).length=400:=by
  rw [e3,ins_old (c:=cF j ⟨#[119]⟩) (refAll_ord h.ords) ⟨_,hmem,cc_zero.2 ⟨rfl,rfl,rfl⟩⟩,hm.1]
 exact Ev.bind p1 (Ev.bind e1 (Ev.bind (treeCells_ev e2 (by omega)) (Ev.pos ⟨rfl,rfl,hlen⟩ (Ev.now _))))
theorem TreeFull:shardloglaw14_TreeFull.Pure:=by
 intro a0 a1 w0 w1
 obtain ⟨u0,u1⟩:=wf_u16 w0
 obtain ⟨v0,v1⟩:=wf_u8 w1
 refine Ev.rounds ?_
 unfold shardloglaw14_TreeFull.f
 refine Ev.bind awake (Ev.pos rfl ?_)
 by_cases h0:a0=0
 ·
  exact Ev.pos h0 (Ev.now _)
 refine Ev.neg h0 ?_
 by_cases h4:4096<a0
 ·
  exact Ev.pos h4 (Ev.now _)
 refine Ev.neg h4 ?_
 unfold shardloglaw14_TreeFull.main
 have e0:wrap64 a0=a0:=w64 (by omega) (by omega)
 have e1:wrap64 (1+wrap64 a0)=1+a0:=by rw [e0,w64 (by omega) (by omega)]
 have e2:wrap64 a1=a1:=w64 (by omega) (by omega)
 rw [e1,e0,e2]
 have hn:tree_New.f 4096 (1+a0) 8=some (decide (1+a0≤4096)):=by
  unfold tree_New.f
  rw [in_ev (by decide),in_ev (show (1:Int)≤1+a0 by omega),in_ev (by decide)]
  simp
 refine Ev.bind (Ev.eq hn) ?_
 by_cases h5:a0=4096
 ·
  refine Ev.pos h5 (Ev.pos (decide_eq_false (by omega)) (Ev.now _))
 refine Ev.neg h5 (Ev.pos (decide_eq_true (by omega)) ?_)
 obtain ⟨xs,n,ls,q1,q2,q3,q4⟩:=lp_full (s:=1+a0) (by omega) (by omega) 400 0 [] 0 [] rfl ⟨srt_nil,by simp [sizeM],fun l hl=>(by cases hl),by decide,fun l hl c hc=>(by
  rcases List.mem_cons.1 hl with rfl | hl
  ·
   cases hc
  ·
   cases hl)⟩ (by decide) ⟨rfl,fun c=>⟨fun hc=>(by cases hc),fun ⟨j,hj,_⟩=>absurd hj (Nat.not_lt_zero j)⟩⟩
 refine Ev.bind q1 ?_
 obtain ⟨j,rfl⟩:=Int.eq_ofNat_of_zero_le v0
 rw [Int.tmod_eq_of_lt (by omega) (by omega)]
 exact tail_full (by omega) (by omega) (by omega) q2 q3 q4
end Go.Proofs.Ytcbhfedcdnjljaa.Pure

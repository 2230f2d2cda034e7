import Derived.Test.YtcbhfedcdnjljaaGreatBAll
namespace Go.Proofs.YtcbhfedcdnjljaaGreat.Pure
open Go.RowKit Go.Proofs.YtcbhfedcdnjljaaGreat.X Go.Proofs.YtcbhfedcdnjljaaGreat.Pl Go.Proofs.YtcbhfedcdnjljaaGreatW.PrintWords Go.Proofs.YtcbhfedcdnjljaaGreatW.PrintLast
def lens (ls:List (List iR)):List Int:=ls.map fun l=>(l.length:Int)
theorem nM (ls:List (List iR)):(lens ls).length=ls.length:=by simp [lens]
theorem r8 (ls:List (List iR)) (i:Nat):(lens ls).getD i 0=((ls.getD i []).length:Int):=by
 unfold lens
 rw [List.getD_eq_getElem?_getD,List.getD_eq_getElem?_getD,List.getElem?_map]
 cases ls[i]?<;>rfl
theorem tu (ls:List (List iR)) (i:Nat) (l:List iR):lens (ls.set i l)=(lens ls).set i (l.length:Int):=by
 unfold lens
 rw [List.map_set]
theorem C8 {fan:Int} {ls:List (List iR)} {i:Nat} {t:iR} (hi:i<ls.length) (hs:fan<((ls.getD i []).length:Int)):ah.zI fan i (lens ls)=lens (((bK.gl ls i).set i []).set (i+1) [t]):=by
 unfold ah.zI bK.gl
 rw [if_pos (by rw [r8];exact hs),nM,tu,tu]
 by_cases e:i+1=ls.length
 ·
  rw [if_pos e,if_pos e]
  have h1:lens (ls++[[]])=lens ls++[0]:=by simp [lens]
  have h2:(lens ls++[0]).set i 0=(lens ls).set i 0++[0]:=List.set_append_left _ _ (by rw [nM];exact hi)
  rw [h1]
  show ((lens ls).set i 0++[0]).set (i+1) 1=((lens ls++[0]).set i 0).set (i+1) 1
  rw [h2]
 ·
  rw [if_neg e,if_neg e]
  rfl
theorem uZ {k:Nat} {s s3:Int}:∀ (m i:Nat) (ls r:List (List iR)),aU.lp k s s3 m i ls=some r→r.length<1099511627776→ls.length≤r.length∧ah.go s3 m i (lens ls)=some (lens r)
 | 0,_,_,_,h,_=>by cases h
 | m+1,i,ls,r,h,hr=>by
  unfold aU.lp at h
  unfold ah.go
  rw [nM]
  by_cases hi:i<ls.length
  ·
   rw [if_pos hi] at h
   by_cases hs:s3<((ls.getD i []).length:Int)
   ·
    rw [if_pos hs] at h
    obtain ⟨r1,h1,h⟩:=bV h
    unfold bK.f at h1
    split at h1
    case isFalse=>cases h1
    obtain ⟨_,_,h1⟩:=bV h1
    obtain ⟨_,_,h1⟩:=bV h1
    obtain ⟨t,_,h1⟩:=bV h1
    obtain rfl:=Option.some.inj h1
    obtain ⟨g1,g2⟩:=uZ m (i+1) _ r h hr
    have hl:ls.length≤r.length:=by
     refine Nat.le_trans ?_ g1
     rw [List.length_set,List.length_set]
     unfold bK.gl
     split
     ·
      rw [List.length_append];omega
     ·
      exact Nat.le_refl _
    exact ⟨hl,by rw [if_pos hi,if_pos (by omega),C8 hi hs];exact g2⟩
   ·
    rw [if_neg hs] at h
    obtain ⟨g1,g2⟩:=uZ m (i+1) _ r h hr
    refine ⟨g1,?_⟩
    rw [if_pos hi,if_pos (by omega)]
    unfold ah.zI
    rw [if_neg (by rw [r8];exact hs)]
    exact g2
  ·
   rw [if_neg hi] at h
   obtain rfl:=Option.some.inj h
   exact ⟨Nat.le_refl _,by rw [if_neg hi]⟩
theorem CF (ls:List (List iR)) (t:iR) (hb:((aU.gl ls).getD 0 []).length<1099511627776):ah.inc (lens ls)=lens ((aU.gl ls).set 0 (t :: (aU.gl ls).getD 0 [])):=by
 have hg:ah.gl (lens ls)=lens (aU.gl ls):=by
  unfold ah.gl aU.gl
  rw [nM]
  by_cases e:ls.length=0
  ·
   rw [if_pos e,if_pos e,List.length_eq_zero_iff.1 e]
   rfl
  ·
   rw [if_neg e,if_neg e]
 unfold ah.inc
 rw [hg,r8,tu,fU (by omega) (by omega),List.length_cons]
 rfl
theorem AV {k:Nat} {s s3 n n':Int} {xs xs':List Cell} {ls r:List (List iR)} (h:aU.f k s s3 xs n ls=some (xs',n',r)) (hx:xs≠[]) (hr:r.length<1099511627776):xs'=[]∧ah.go s3 k 0 (ah.inc (lens ls))=some (lens r):=by
 unfold aU.f at h
 rw [if_neg (fun e=>hx (List.length_eq_zero_iff.1 e))] at h
 split at h
 case isFalse=>cases h
 rename_i hb
 obtain ⟨_,_,h⟩:=bV h
 obtain ⟨t,_,h⟩:=bV h
 obtain ⟨r1,h1,h⟩:=bV h
 obtain h:=Option.some.inj h
 simp only [Prod.mk.injEq] at h
 obtain ⟨rfl,_,rfl⟩:=h
 exact ⟨rfl,by rw [CF ls t hb.2];exact (uZ k 0 _ _ h1 hr).2⟩
theorem C4 {s1 s s3 n n':Int} {P:Cell→Prop} {p:Nat} {xs xs':List Cell} {ls ls':List (List iR)} {c:Cell} (hc:fK c=true) (h:gT P p xs n ls) (hp:p≤420) (e:Ev (fun k=>cB.f k s1 s s3 xs n ls c.f0 c.f1 c.f2 c.f3 c.f4) (xs',n',ls',0)) (hr:ls'.length<1099511627776):Ev (fun k=>ah.Br k s1 s3 (eL (ins c xs)) (ins c xs) (lens ls)) (xs',lens ls'):=by
 obtain ⟨k1,e⟩:=e
 have hf:=h.few
 have hput:=uF c h.srt h.rP (by omega)
 rw [if_pos hc] at hput
 obtain ⟨k2,hput⟩:=hput
 refine ⟨max k1 k2,fun k hk=>?_⟩
 replace e:cB.f k s1 s s3 xs n ls c.f0 c.f1 c.f2 c.f3 c.f4=some (xs',n',ls',0):=e k (by omega)
 replace hput:gJ.f k xs n c.f0 c.f1 c.f2 c.f3 c.f4=some (ins c xs,eL (ins c xs),true):=hput k (by omega)
 have ht:cB.tail k s1 s s3 xs n ls c.f0 c.f1 c.f2 c.f3 c.f4=some (xs',n',ls',0):=by
  unfold cB.f at e
  rw [kJ,show iu c.f0 c.f1 c.f2 c.f3 c.f4=true from hc] at e
  obtain ⟨o,ho,e⟩:=bV e
  obtain rfl:=Option.some.inj ho
  rw [if_pos rfl] at e
  obtain ⟨b,_,e⟩:=bV e
  cases b with
  | true=>rw [if_pos rfl] at e;exact e
  | false=>
   rw [if_neg Bool.false_ne_true] at e
   obtain ⟨a,_,e⟩:=bV e
   split at e
   ·
    have:=Option.some.inj e
    simp only [Prod.mk.injEq] at this
    exact absurd this.2.2.2 (by decide)
   ·
    exact e
 unfold cB.tail at ht
 rw [hput] at ht
 replace ht:(if s1≤eL (ins c xs) then (aU.f k s s3 (ins c xs) (eL (ins c xs)) ls).bind fun q=>some (q.1,q.2.1,q.2.2,(0:Int)) else some (ins c xs,eL (ins c xs),ls,0))=some (xs',n',ls',0):=ht
 show ah.Br k s1 s3 (eL (ins c xs)) (ins c xs) (lens ls)=some (xs',lens ls')
 unfold ah.Br
 by_cases hs:s1≤eL (ins c xs)
 ·
  rw [if_pos hs] at ht
  obtain ⟨⟨q1,q2,q3⟩,h1,ht⟩:=bV ht
  have ht:=Option.some.inj ht
  simp only [Prod.mk.injEq] at ht
  obtain ⟨rfl,rfl,rfl,_⟩:=ht
  obtain ⟨rfl,g⟩:=AV h1 (fun e=>by have:=nh c xs;rw [e] at this;cases this) hr
  rw [if_pos hs,g]
  rfl
 ·
  rw [if_neg hs] at ht
  have ht:=Option.some.inj ht
  simp only [Prod.mk.injEq] at ht
  obtain ⟨rfl,_,rfl,_⟩:=ht
  rw [if_neg hs]
theorem AZ:∀ {l:List Cell} {n:Int},gj l→0≤n→n+401*(l.length:Int)≤1000000000→Ev (fun k=>ah.rP k l n) (n+eL l)
 | [],n,_,_,_=>by
  rw [show n+eL []=n by simp [eL]]
  exact Ev.now _
 | c :: l,n,hr,h0,hn=>by
  rw [List.length_cons] at hn
  have hc:=hr c List.mem_cons_self
  have h1:0≤w8 c∧w8 c≤401:=⟨by unfold w8;omega,by have:=uY hc;unfold jr at this;unfold w8;omega⟩
  have ih:=AZ (l:=l) (n:=n+w8 c) (fun d hd=>hr d (List.mem_cons_of_mem _ hd)) (by omega) (by omega)
  rw [lK,← Int.add_assoc]
  refine Ev.bind (Co hc) ?_
  rw [show wrap64 (n+((iF c.f0 c.f1 c.f2 c.f3 c.f4).length:Int))=n+w8 c from fU (by unfold w8 at h1;omega) (by unfold w8 at h1;omega)]
  exact ih
theorem Dm {s1 s2 s3:Int} (hs:lW s1 s2 s3):∀ (l:List Cell) (p:Nat) (x:St),gj l→p+l.length≤40→gT PR p x.1 x.2.1 x.2.2→x.2.2.length+4*l.length≤1000→
  Ev (fun k=>ah.lp k s1 s2 s3 l x x.1 (lens x.2.2)) true
 | [],_,_,_,_,_,_=>Ev.now _
 | c :: l,p,x,hr,hp,hx,hlx=>by
  simp only [List.length_cons] at hp hlx
  have hc:=hr c List.mem_cons_self
  have hf:=hx.few
  have hi:gj (ins c x.1):=(zk hc hx.srt).1
  have hil:=ow c x.1
  obtain ⟨x1,n1,l1,e1,e2,e3,e4⟩:=Bf hs (by omega) hc hx (by omega)
  have hn:=C4 hc hx (by omega) e1 (by omega)
  have hz:=AZ hi (Int.le_refl 0) (by omega)
  rw [Int.zero_add] at hz
  have ih:=Dm hs l (p+1) (x1,n1,l1) (fun d hd=>hr d (List.mem_cons_of_mem _ hd)) (by omega) e2 (by show l1.length+_≤_;omega)
  exact Ev.bind (yP c (fun y hy=>vq (hx.srt.1 y hy)) (by omega)) (Ev.bind hz (Ev.bind hn (Ev.bind e1 (Ev.pos ⟨by omega,rfl,by show l1.length<_;omega,rfl⟩ ih))))
theorem TreeLevels:ah.Pure:=by
 intro s1 s2 s3 l _ _ _ _
 refine Ev.rounds ?_
 unfold ah.f
 rw [CJ s1 s2 s3]
 refine Ev.bind CU (Ev.pos rfl (Ev.bind Au (Ev.bind (Ev.now _) ?_)))
 by_cases hg:(yx l && !decide (40<l.length) && decide (lW s1 s2 s3))=true
 rotate_left
 ·
  exact Ev.neg hg (Ev.now _)
 refine Ev.pos hg ?_
 simp only [Bool.and_eq_true,Bool.not_eq_true',decide_eq_true_iff,decide_eq_false_iff_not] at hg
 obtain ⟨⟨hf,hn⟩,hs⟩:=hg
 obtain ⟨_,hr⟩:=CI.1 hf
 unfold ah.main
 rw [Et hs]
 exact Ev.bind (Ev.now _) (Ev.pos rfl (Dm hs l 0 ([],0,[]) hr (by omega) C3 (by show 0+_≤_;omega)))
end Go.Proofs.YtcbhfedcdnjljaaGreat.Pure

import Derived.Test.YtcbhfedcdnjljaaGreatXx6
set_option maxHeartbeats 8000000
set_option maxRecDepth 100000
set_option linter.unusedVariables false
set_option linter.unusedSimpArgs false
namespace Go.Proofs.YtcbhfedcdnjljaaGreat.X
open Go.RowKit Go.Proofs.YtcbhfedcdnjljaaGreatW.PrintWords Go.Proofs.YtcbhfedcdnjljaaGreatW.PrintLast Go.Proofs.YtcbhfedcdnjljaaGreatW.PrintMore
attribute [local go_sem] gZ g_ iW iZ gF gD ic ig iX
structure aJ.ot (w:World) (base g:Nat) (vl vb vf:Value) (l:List av) (bs:List (List av)) (fl:List Int):Prop where
 ge:base≤g
 cY:w.heap[g]? = some (.cells #[vl,vb,vf] 111 (0,0))
 hl:Kd.R cC 34 w base (fun _=>True) vl l
 hb:Kd.R (Kd.slice 34 cC) 32 w base (fun _=>True) vb bs
 hf:Kd.R (Kd.int .u8) 5 w base (fun _=>True) vf fl
def aJ.At (w:World) (base g:Nat) (l:List av) (bs:List (List av)) (fl:List Int):Prop:=∃ vl vb vf,aJ.ot w base g vl vb vf l bs fl
section
variable {w w1:World} {base b g:Nat} {vl vb vf:Value} {l:List av} {bs:List (List av)} {fl:List Int}
theorem aJ.ot.step (h:aJ.ot w base g vl vb vf l bs fl) (hm:∀ k,base≤k→k<w.heap.size→w1.heap[k]? = w.heap[k]?):aJ.ot w1 base g vl vb vf l bs fl:=
 ⟨h.ge,(hm g h.ge (dg h.cY)).trans h.cY,Kd.aH (Kd.jD (Kd.ew h.hl) (fun k hk hlt=>hm k hk.2.1 hlt)) (fun _ _=>trivial),
  Kd.aH (Kd.jD (Kd.ew h.hb) (fun k hk hlt=>hm k hk.2.1 hlt)) (fun _ _=>trivial),Kd.aH (Kd.jD (Kd.ew h.hf) (fun k hk hlt=>hm k hk.2.1 hlt)) (fun _ _=>trivial)⟩
theorem aJ.ot.below (h:aJ.ot w base g vl vb vf l bs fl) (hb:Below w.heap.size w w1):aJ.ot w1 base g vl vb vf l bs fl:=h.step (fun k _ hk=>hb.block k hk)
theorem aJ.ot.lower (h:aJ.ot w base g vl vb vf l bs fl) (hb:b≤base):aJ.ot w b g vl vb vf l bs fl:=
 ⟨Nat.le_trans hb h.ge,h.cY,Kd.bf h.hl hb,Kd.bf h.hb hb,Kd.bf h.hf hb⟩
theorem aJ.ot.up (h:aJ.ot w base g vl vb vf l bs fl):aJ.At w base g l bs fl:=⟨vl,vb,vf,h⟩
theorem aJ.At.step (h:aJ.At w base g l bs fl) (hm:∀ k,base≤k→k<w.heap.size→w1.heap[k]? = w.heap[k]?):aJ.At w1 base g l bs fl:=by
 obtain ⟨vl,vb,vf,h⟩:=h;exact ⟨vl,vb,vf,h.step hm⟩
theorem aJ.At.below (h:aJ.At w base g l bs fl) (hb:Below w.heap.size w w1):aJ.At w1 base g l bs fl:=h.step (fun k _ hk=>hb.block k hk)
theorem aJ.At.lower (h:aJ.At w base g l bs fl) (hb:b≤base):aJ.At w b g l bs fl:=by
 obtain ⟨vl,vb,vf,h⟩:=h;exact ⟨vl,vb,vf,h.lower hb⟩
end
structure aJ.St (w0 w:World) (g:Nat) (vl vb v9:Value) (l:List av) (bs:List (List av)) (rest:List Int):Prop where
 ge:w0.heap.size≤g
 cY:w.heap[g]? = some (.cells #[vl,vb,.slice none 0 0] 111 (0,0))
 hl:Kd.R cC 34 w w0.heap.size (fun _=>True) vl l
 hb:Kd.R (Kd.slice 34 cC) 32 w w0.heap.size (fun k=>some k≠vl.ownBlock) vb bs
 hr:Kd.V (Kd.int .u8) 5 w w0.heap.size (fun k=>some k≠vl.ownBlock∧some k≠vb.ownBlock∧k≠g) v9 rest
 below:Below w0.heap.size w0 w
section
variable {w0 w W W1 W2:World} {g N:Nat} {vl vb v9 vl1 vb1 vr vn:Value} {l ll1:List av} {bs bs1:List (List av)} {rest r1:List Int}
theorem aJ.St.on (h:aJ.St w0 w g vl vb v9 l bs rest) (hb:Below w.heap.size w W):aJ.St w0 W g vl vb v9 l bs rest:=
 ⟨h.ge,aK h.cY hb,Kd.dA h.hl hb,Kd.dA h.hb hb,Kd.kS h.hr hb,aN h.below hb⟩
theorem aJ.St.mid (h:aJ.St w0 W g vl vb v9 l bs rest) (hg1:W.grownBy W1 vb.ownBlock):Kd.R cC 34 W1 w0.heap.size (fun _=>True) vl l∧W1.heap[g]? = some (.cells #[vl,vb,.slice none 0 0] 111 (0,0)):=
 ⟨Kd.aH (Kd.oO (Kd.jJ rfl h.hl) hg1 (fun k hk=>by
  obtain ⟨cells,hc⟩:=Kd.gn h.hl k hk.symm
  exact Kd.jH h.hb hc (by decide))) (fun _ _=>trivial),er h.cY hg1 (Kd.jH h.hb h.cY (by decide))⟩
theorem aJ.St.next (h:aJ.St w0 W g vl vb v9 l bs rest) (hr:Kd.R (Kd.int .u8) 5 W N (fun _=>True) vr r1) (hvl:∀ k,vl.ownBlock=some k→k<N) (hvb:∀ k,vb.ownBlock=some k→k<N) (hgN:g<N)
  (ho1:Kd.R (Kd.slice 34 cC) 32 W1 w0.heap.size (fun k=>some k≠vl.ownBlock) vb1 bs1) (hg1:W.grownBy W1 vb.ownBlock) (hat1:vb1.ownBlock=vb.ownBlock∨∃ b,vb1.ownBlock=some b∧W.heap.size≤b)
  (ho2:Kd.R cC 34 W2 w0.heap.size (fun _=>True) vl1 ll1) (hg2:W1.grownBy W2 vl.ownBlock) (hat2:vl1.ownBlock=vl.ownBlock∨∃ b,vl1.ownBlock=some b∧W1.heap.size≤b) (hb2:Below w0.heap.size w0 W2) :
  aJ.St w0 ((W2.setCell ⟨g,1,none⟩ vb1).setCell ⟨g,0,none⟩ vl1) g vl1 vb1 vr ll1 bs1 r1:=by
 obtain ⟨hl1,hG1⟩:=h.mid hg1;have hG2:=er hG1 hg2 (Kd.jH hl1 hG1 (by decide));have hG3:(W2.setCell ⟨g,1,none⟩ vb1).heap[g]? = some (.cells #[vl,vb1,.slice none 0 0] 111 (0,0)):=bn hG2 1 vb1 rfl;have hG4:((W2.setCell ⟨g,1,none⟩ vb1).setCell ⟨g,0,none⟩ vl1).heap[g]? = some (.cells #[vl1,vb1,.slice none 0 0] 111 (0,0)):=bn hG3 0 vl1 rfl;refine ⟨h.ge,hG4,Kd.jF (Kd.jF ho2 hG2 (by decide) 1 vb1) hG3 (by decide) 0 vl1,?_,?_,lF (lF hb2 h.ge) h.ge⟩
 ·
  refine Kd.jF (Kd.jF (Kd.aH (Kd.oO (Kd.ew ho1) hg2 (fun k hk=>hk.1)) (fun k hk=>?_)) hG2 (by decide) 1 vb1) hG3 (by decide) 0 vl1
  rcases hat2 with e | ⟨b,e,hle⟩
  ·
   rw [e];exact hk.1
  ·
   rw [e];intro he;injection he with he;have:=hk.2.2.1;omega
 ·
  have hb0:∀ k,some k=vr.ownBlock→N≤k∧k<W.heap.size:=fun k hk=>⟨Kd.fF hr k hk.symm,Kd.cK hr k hk.symm⟩
  have r1':=Kd.oO (Kd.jJ rfl hr) hg1 (fun k hk he=>by have:=hb0 k hk;have:=hvb k he.symm;omega)
  have r2:=Kd.oO r1' hg2 (fun k hk he=>by have:=hb0 k hk;have:=hvl k he.symm;omega);have r3:=Kd.jF (Kd.jF r2 hG2 (by decide) 1 vb1) hG3 (by decide) 0 vl1;refine Kd.ez (Kd.vT r3) (fun k hk=>?_);have hk1:=hb0 k hk;have hsz:=hg1.size;refine ⟨fun he=>?_,fun he=>?_,by omega⟩
  ·
   rcases hat2 with e | ⟨b,e,hle⟩
   ·
    have:=hvl k (by rw [←e];exact he.symm);omega
   ·
    rw [e] at he;injection he with he;omega
  ·
   rcases hat1 with e | ⟨b,e,hle⟩
   ·
    have:=hvb k (by rw [←e];exact he.symm);omega
   ·
    rw [e] at he;injection he with he;omega
end
def aJ.lp:Nat→List Int→List av→List (List av)→Option (Option (List av × List (List av)))
 | 0,_,_,_=>none
 | k+1,rest,l,bs=>if (rest.length:Int)=0 then some (some (l,bs)) else (dM.f k rest).bind fun q=>if q.2.2=0 then (if (l.length+q.1.length)*64≤140737488355328∧(bs.length+1)*24≤140737488355328 then aJ.lp k q.2.1 (l++q.1) (bs++[q.1]) else none) else some none
theorem aJ.lQ:∀ k rest l bs,aE (aJ.lp k rest l bs) (aJ.lp (k+1) rest l bs)
 | 0,_,_,_=>aE.none _
 | k+1,rest,l,bs=>by
  unfold aJ.lp
  exact aE.ite (aE.refl _) (aE.bind (dM.mono _ _) fun _=>aE.ite (aE.ite (aJ.lQ k _ _ _) (aE.refl _)) (aE.refl _))
def aJ.tail (k:Nat) (b:List Int) (l:List av) (bs:List (List av)):Option (Option (List av × List (List av) × List Int)):=
 (cM.f k l).bind fun fl=>(aT.f k l).bind fun so=>if so=true then (aV.f k bs).bind fun cu=>if cu=true then (fD.f k bs fl).bind fun y=>if y.2=0 then (aW.f k y.1 b).bind fun eq=>if eq=true then some (some (l,bs,fl)) else some none else some none else some none else some none
def aJ.f (k:Nat) (b:List Int):Option (Option (List av × List (List av) × List Int)):=
 if (b.length:Int)<4 then some none else (bw.f k (b.drop (b.length - 4))).bind fun q=>
  if wrap64 (wrap64 ((b.length:Int) - 4) - q.1)<0 then some none else if wrap64 (wrap64 ((b.length:Int) - 4) - q.1)≤(b.length:Int) then (aJ.lp k (b.take (wrap64 (wrap64 ((b.length:Int) - 4) - q.1)).toNat) [] []).bind fun s=>match s with
   | none=>some none
   | some (l,bs)=>aJ.tail k b l bs else none
theorem aJ.mB (k b l bs):aE (aJ.tail k b l bs) (aJ.tail (k+1) b l bs):=
 aE.bind (cM.mono _ _) fun _=>aE.bind (aT.mono _ _) fun _=>aE.ite (aE.bind (aV.mono _ _) fun _=>aE.ite (aE.bind (fD.mono _ _ _) fun _=>aE.ite (aE.bind (aW.mono _ _ _) fun _=>aE.refl _) (aE.refl _)) (aE.refl _)) (aE.refl _)
theorem aJ.mono:∀ a0 k,aE (aJ.f k a0) (aJ.f (k+1) a0):=fun b k=>
 aE.ite (aE.refl _) (aE.bind (bw.mono _ _) fun _=>aE.ite (aE.refl _) (aE.ite (aE.bind (aJ.lQ _ _ _ _) fun s=>by
  cases s with
  | none=>exact aE.refl _
  | some p=>exact aJ.mB _ _ _ _) (aE.refl _)))
def aJ.Res (w w':World) (e:Ending):Option (List av × List (List av) × List Int)→Prop
 | none=>e = .returned (.tuple #[.pointer none,.int .i64 2])∧Below w.heap.size w w'
 | some (l,bs,fl)=>∃ g:Nat,e = .returned (.tuple #[.pointer (some ⟨g,0,none⟩),.int .i64 0])∧aJ.At w' w.heap.size g l bs fl∧Below w.heap.size w w'
theorem aJ.calls (k:Nat) (A0:Option Addr) (c0:Nat) (b:List Int) (o:Option (List av × List (List av) × List Int)) (w:World) (hr0:Kd.C (Kd.int .u8) w A0 b.length b) (hc0:b.length≤c0) (h:aJ.f k b=some o) :
  Calls Tryz.prog 51 #[.slice A0 b.length c0] w fun e w'=>aJ.Res w w' e o:=by
 have hu26:=Tryz.underlying51;have hu22:=Tryz.underlying32;have hu39:=Tryz.underlying73;have hu70:=Tryz.underlying111;have hmx:b.length≤9223372036854775807:=hr0.2.1;have HR:=aS hr0;have HC:=aS hc0;have HMX:=aS hmx;clear hr0 hc0 hmx
 unfold aJ.f at h
 by_cases h4:(b.length:Int)<4
 ·
  rw [if_pos h4] at h
  obtain rfl:=Option.some.inj h
  have d4:decide ((b.length:Int)<4)=true:=decide_eq_true h4;have e4:decide (b.length<4)=true:=decide_eq_true (by omega);clear h h4
  go_enter Tryz.func51,Tryz.ntmps51
  go_wp2
  go_ret2
  exact ⟨rfl,Below.refl _ _⟩
 rw [if_neg h4] at h;have d4:decide ((b.length:Int)<4)=false:=decide_eq_false h4;have e4:decide (b.length<4)=false:=decide_eq_false (by omega)
 have hw4:wrap64 ((b.length:Int) - 4)=(b.length:Int) - 4:=by rw [←bC,IntKind.wrap_i64];have:=HMX.out;omega
 replace h:=bV h;obtain ⟨⟨q1,q2,q3⟩,x1,h⟩:=h;rw [hw4] at h
 replace h:(if wrap64 ((b.length:Int) - 4 - q1)<0 then some none else if wrap64 ((b.length:Int) - 4 - q1)≤(b.length:Int) then (aJ.lp k (b.take (wrap64 ((b.length:Int) - 4 - q1)).toNat) [] []).bind fun s=>match s with
   | none=>some none
   | some (l,bs)=>aJ.tail k b l bs else none)=some o:=h
 have X1:=aS x1;have H:=aS h;have H4:=aS h4;clear x1 h h4;obtain ⟨ii,hii,_,hsz,_⟩:=info_parts fE;have hcut1:=gG (P:=Tryz.prog) 51 5 .i64 hu26 hii 1 hsz A0 b.length c0 ((b.length:Int) - 4) (by have:=H4.out;omega) (by omega);have HCd:=aS (Kd.rV HR.out (m:=((b.length:Int) - 4).toNat) (by omega) HC.out)
 have hl4:b.length - ((b.length:Int) - 4).toNat=4:=by have:=H4.out;omega
 have hd4:((b.length:Int) - 4).toNat=b.length - 4:=by have:=H4.out;omega
 rw [show ((Kd.int .u8):Kd Int).sz=1 from rfl] at HCd;rw [hl4,hd4] at hcut1;rw [hd4] at HCd
 have hd5:(b.drop (b.length - 4)).length=4:=by rw [lY];have:=H4.out;omega
 obtain ⟨bd,hbd⟩:∃ bd,bd=b.drop (b.length - 4):=⟨_,rfl⟩
 rw [←hbd] at HCd X1 hd5
 generalize (if c0=b.length - 4 then A0 else A0.map (·.add ((b.length - 4)*1)))=Ad at hcut1 HCd
 obtain ⟨cd,hcd⟩:∃ cd,c0 - (b.length - 4)=cd:=⟨_,rfl⟩
 rw [hcd,← hd5] at hcut1;have HD5:ak (bd.length≤cd):=aS (by rw [hd5];have:=HC.out;have:=H4.out;omega);clear hbd hl4 hd4 hd5 hcd
 go_enter Tryz.func51,Tryz.ntmps51
 go_upto_region 5 with (first | (go_at_call 71;(with_reducible refine (bw.calls k Ad cd bd q1 q2 q3 _ HCd.out HD5.out X1.out).mono ?_);rintro e_ w2 ⟨v2,rfl,ho,hb⟩;have HB2:=aS hb;clear ho hb))
 clear hcut1;have h:=H.out;clear H
 obtain ⟨end_,he_⟩:∃ x,wrap64 ((b.length:Int) - 4 - q1)=x:=⟨_,rfl⟩
 rw [he_] at h
 by_cases hneg:end_<0
 ·
  rw [if_pos hneg] at h
  obtain rfl:=Option.some.inj h
  have d5:decide (end_<0)=true:=decide_eq_true hneg;clear h hneg
  go_wp2
  go_ret2
  exact ⟨rfl,HB2.out⟩
 rw [if_neg hneg] at h;have d5:decide (end_<0)=false:=decide_eq_false hneg
 by_cases hle:end_≤(b.length:Int)
 case neg=>rw [if_neg hle] at h;cases h
 rw [if_pos hle] at h;replace h:=bV h;obtain ⟨s,x2,h⟩:=h;have HE:=aS (And.intro (show 0≤end_ by omega) hle);have H:=aS h;have X2:=aS x2;clear h x2 hneg hle;have hcut2:=jR (P:=Tryz.prog) 51 5 .i64 hu26 hii A0 b.length c0 end_ HE.out.1 HE.out.2 HC.out;have HCt:=aS (Kd.oT HR.out (m:=end_.toNat) (by have:=HE.out;omega))
 have hl2:(b.take end_.toNat).length=end_.toNat:=by rw [kX];have:=HE.out;omega
 obtain ⟨bt,hbt⟩:∃ bt,bt=b.take end_.toNat:=⟨_,rfl⟩
 rw [←hbt] at HCt X2 hl2;rw [←hl2] at hcut2;have HL2:ak (bt.length≤c0):=aS (by rw [hl2];have:=HE.out;have:=HC.out;omega);clear hbt hl2
 go_upto_region 8 with (first | ((with_reducible refine aX (N:=36) rfl ?_);refine aY ?hg (N:=36) ?hd (cs:=#[.slice none 0 0,.slice none 0 0,.slice none 0 0]) (t:=111) ?hr ?_;(case hd=>rfl);(case hg=>rfl);(case hr=>(first | (go_simp;done) | (go_simp;rfl)));intro g hg w3 hb hbl;have HG:=aS hb;have GE:ak (w2.heap.size≤g):=aS (by rw [hg];exact Nat.le_refl _);have HB3:=aS hbl;clear hg hb hbl))
 go_wp2
 have HS0:ak (aJ.St w w3 g (.slice none 0 0) (.slice none 0 0) (.slice A0 bt.length c0) [] [] bt):=aS ⟨Nat.le_trans HB2.out.size GE.out,HG.out,Kd.dX _ _ _ _ _,Kd.dX _ _ _ _ _,
  Kd.ez (Kd.kS (Kd.nA HL2.out (Kd.Cj (Kd.lq .u8) HCt.out)) (aN HB2.out HB3.out)) (fun k hk=>⟨by simp [Value.ownBlock],by simp [Value.ownBlock],by have:=HB2.out.size;have:=GE.out;omega⟩),aN HB2.out HB3.out⟩
 clear hcut2 HCt HL2 HG GE HB2 HB3 d4 e4 d5 he_ hw4
 go_loopg [9] k (fun kq v9 wr=>∃ (vl vb:Value) (rest:List Int) (l:List av) (bs:List (List av)),ak (aJ.lp kq rest l bs=some s)∧ak (kq≤k)∧ak (aJ.St w wr g vl vb v9 l bs rest))
 case atStart=>exact ⟨_,_,bt,[],[],X2,⟨Nat.le_refl _⟩,HS0⟩
 case round=>
  clear HS0 X2;obtain ⟨vl,vb,rest,l,bs,HA,HK,HS⟩:=hrel
  cases gk with
  | zero=>exact absurd HA.out (by simp [aJ.lp])
  | succ k1=>
  have ha:=HA.out
  unfold aJ.lp at ha
  clear HA;obtain ⟨A9,c9,rfl⟩:=Kd.lI HS.out.hr
  by_cases hz:(rest.length:Int)=0
  ·
   rw [if_pos hz] at ha
   obtain rfl:=Option.some.inj ha
   have d0:decide (0<(rest.length:Int))=false:=decide_eq_false (by omega);have d1:decide (0<rest.length)=false:=decide_eq_false (by omega);clear ha hz;have h:aJ.tail k b l bs=some o:=H.out;clear H
   unfold aJ.tail at h
   replace h:=bV h;obtain ⟨fl,x3,h⟩:=h;have X3:=aS x3;have H:=aS h;clear x3 h;have q3:=iC (aS HS.out.cY);obtain ⟨Al,cl,rfl⟩:=Kd.bq HS.out.hl;obtain ⟨Ab,cb,rfl⟩:=Kd.bq HS.out.hb
   go_upto_region 15 with (first | (go_at_call 70;(with_reducible refine (cM.calls k Al cl l fl _ (Kd.bh HS.out.hl).2.2 (Kd.bh HS.out.hl).2.1 X3.out).mono ?_);rintro e_ w5 ⟨vf,rfl,ho,hb⟩;obtain ⟨Af,cf,rfl⟩:=Kd.bq ho;have HF:=aS ho;have HS5:=aS (HS.out.on hb);clear ho hb q3;have q3:=iC (aS HS5.out.cY)))
   clear q3;have HV:ak (aJ.ot (w5.setCell ⟨g,2,none⟩ (.slice Af fl.length cf)) w.heap.size g (.slice Al l.length cl) (.slice Ab bs.length cb) (.slice Af fl.length cf) l bs fl):=aS ⟨HS5.out.ge,bn HS5.out.cY 2 (.slice Af fl.length cf) rfl,Kd.jF HS5.out.hl HS5.out.cY (by decide) 2 (.slice Af fl.length cf),Kd.aH (Kd.jF HS5.out.hb HS5.out.cY (by decide) 2 (.slice Af fl.length cf)) (fun _ _=>trivial),Kd.jF (Kd.bf HF.out (Nat.le_trans HS.out.below.size (Nat.le_refl _))) HS5.out.cY (by decide) 2 (.slice Af fl.length cf)⟩;have HB:=aS (lF (j:=2) (v:=.slice Af fl.length cf) HS5.out.below HS5.out.ge);clear HS HS5 HF
   generalize w5.setCell ⟨g,2,none⟩ (.slice Af fl.length cf)=w6 at HV HB ⊢
   have h:=H.out;clear H;replace h:=bV h;obtain ⟨so,x4,h⟩:=h;have X4:=aS x4;have q3:=iC (aS HV.out.cY);clear x4
   cases so with
   | false=>
    rw [if_neg Bool.false_ne_true] at h
    obtain rfl:=Option.some.inj h
    clear h
    go_wp2_with (first | (go_at_call 73;(with_reducible refine (aT.calls k Al cl l false _ (Kd.bh HV.out.hl).2.2 (Kd.bh HV.out.hl).2.1 X4.out).mono ?_);rintro e_ w7_ ⟨rfl,hb⟩;replace HV:=aS (HV.out.below hb);replace HB:=aS (aN HB.out hb);clear hb q3;have q3:=iC (aS HV.out.cY)))
    go_ret2
    exact ⟨rfl,HB.out⟩
   | true=>
   rw [if_pos rfl] at h;replace h:=bV h;obtain ⟨cu,x5,h⟩:=h;have X5:=aS x5;clear x5
   cases cu with
   | false=>
    rw [if_neg Bool.false_ne_true] at h
    obtain rfl:=Option.some.inj h
    clear h
    go_wp2_with (first | (go_at_call 73;(with_reducible refine (aT.calls k Al cl l true _ (Kd.bh HV.out.hl).2.2 (Kd.bh HV.out.hl).2.1 X4.out).mono ?_);rintro e_ w7_ ⟨rfl,hb⟩;replace HV:=aS (HV.out.below hb);replace HB:=aS (aN HB.out hb);clear hb q3;have q3:=iC (aS HV.out.cY)) | (go_at_call 74;(with_reducible refine (aV.calls k Ab cb bs false _ (Kd.bh HV.out.hb).2.2 (Kd.bh HV.out.hb).2.1 X5.out).mono ?_);rintro e_ w8_ ⟨rfl,hb⟩;replace HV:=aS (HV.out.below hb);replace HB:=aS (aN HB.out hb);clear hb q3;have q3:=iC (aS HV.out.cY)))
    go_ret2
    exact ⟨rfl,HB.out⟩
   | true=>
   rw [if_pos rfl] at h;replace h:=bV h;obtain ⟨⟨y1,y2⟩,x6,h⟩:=h;have X6:=aS x6;have H:=aS h;clear x6 h
   go_upto_region 17 with (first | (go_at_call 73;(with_reducible refine (aT.calls k Al cl l true _ (Kd.bh HV.out.hl).2.2 (Kd.bh HV.out.hl).2.1 X4.out).mono ?_);rintro e_ w7_ ⟨rfl,hb⟩;replace HV:=aS (HV.out.below hb);replace HB:=aS (aN HB.out hb);clear hb q3;have q3:=iC (aS HV.out.cY)) | (go_at_call 74;(with_reducible refine (aV.calls k Ab cb bs true _ (Kd.bh HV.out.hb).2.2 (Kd.bh HV.out.hb).2.1 X5.out).mono ?_);rintro e_ w8_ ⟨rfl,hb⟩;replace HV:=aS (HV.out.below hb);replace HB:=aS (aN HB.out hb);clear hb q3;have q3:=iC (aS HV.out.cY)))
   refine dz (n:=14) (ds:=[]) (S:=fun w'=>w'.cell? ⟨g,1,none⟩=some (.slice Ab bs.length cb)∧w'.cell? ⟨g,2,none⟩=some (.slice Af fl.length cf)) (bA 14 0) (by kernel_rfl) rfl rfl ⟨(aG (au HV.out.cY) 1).trans rfl,(aG (au HV.out.cY) 2).trans rfl⟩ (fun hHeld=>?_)
   generalize hw_:World.drew _=wd at hHeld ⊢
   have HVd:ak (aJ.ot wd w.heap.size g _ _ _ l bs fl):=aS (hw_▸HV.out.below (bN (Below.refl _ _)));have HBd:ak (Below w.heap.size w wd):=aS (hw_▸aN HB.out (bN (Below.refl _ _)));clear hw_ HV HB q3;refine cH (T:=(true,[([],[]),([0],[0]),([1],[1]),([2],[2]),([],[]),([4],[4]),([5],[5]),([6],[6]),([3,7],[3,7]),([8],[8]),([9],[9]),([9],[9]),([10,8,0,1,2,3,4,5,6,7,8,9,10],[10]),([11,12,0,1,2,3,4,5,6,7,8,9,10,11,12],[11])])) (B:=[0,1,3,7,0,16,48,112,255,511,1023,1023,2047,8191]) (by kernel_rfl) (by kernel_rfl) (fun HT_ HW_=>?_);refine aZ [(0,94),(1,95),(2,96)] ?_
   iterate 3 (refine cr HT_ ?_)
   refine bX (bA 14 7) (by kernel_rfl) ?_;refine aZ [(3,97)] ?_
   iterate 1 (refine d_ HT_ HW_ hHeld ?_)
   refine bX (bA 14 15) (by kernel_rfl) ?_;refine aZ [(4,98),(5,99),(6,100)] ?_
   iterate 3 (refine cr HT_ ?_)
   refine bX (bA 14 127) (by kernel_rfl) ?_;refine aZ [(7,101)] ?_
   iterate 1 (refine d_ HT_ HW_ hHeld ?_)
   refine bX (bA 14 255) (by kernel_rfl) ?_;refine dJ 8 (N:=some 102) (bA 14 511) HT_ (fun K hK=>?_);refine ep Tryz.func69 (by kernel_rfl) rfl #[.slice Ab bs.length cb,.slice Af fl.length cf] (by rfl) rfl rfl cD ?_
   with_reducible refine (fD.calls k Ab cb bs Af cf fl y1 y2 _ (Kd.bh HVd.out.hb).2.2 (Kd.bh HVd.out.hb).2.1 (Kd.bh HVd.out.hf).2.2 (Kd.bh HVd.out.hf).2.1 X6.out).mono ?_
   rintro e_ w9 ⟨vy,rfl,ho,hb⟩
   refine ⟨_,rfl,?_⟩;obtain ⟨Ay,cy,rfl⟩:=Kd.bq ho;have HY:=aS (Kd.bh ho);have HV:=aS (HVd.out.below hb);have HB:=aS (aN HBd.out hb);clear ho hb HVd HBd;refine hK.out _ _ ⟨(aG HV.out.cY 1).trans rfl,(aG HV.out.cY 2).trans rfl⟩ (fun hHeld=>?_);clear hK K;refine nm 102 ?_;refine aZ [(9,93),(10,103),(11,104),(12,13),(13,14)] ?_
   iterate 5 (refine cr HT_ ?_)
   refine bX (bA 14 16383) (by kernel_rfl) ?_;refine dQ (cX HT_.out (by kernel_rfl)) ?_;clear HT_ HW_ hHeld;have h:=H.out;clear H
   by_cases he:y2=0
   rotate_left
   ·
    rw [if_neg he] at h
    obtain rfl:=Option.some.inj h
    obtain ⟨he1,he2⟩:=ju he;clear he h
    go_wp2
    go_ret2
    exact ⟨rfl,HB.out⟩
   rw [if_pos he] at h;obtain ⟨he1,he2⟩:=jE he;replace h:=bV h;obtain ⟨eq,x7,h⟩:=h;have X7:=aS x7;clear x7 he
   cases eq with
   | false=>
    rw [if_neg Bool.false_ne_true] at h
    obtain rfl:=Option.some.inj h
    clear h
    go_wp2_with (first | (go_at_call 75;(with_reducible refine (aW.calls k Ay cy y1 A0 c0 b false _ HY.out.2.2 HY.out.2.1 (Kd.cW HR.out HB.out) HC.out X7.out).mono ?_);rintro e_ w9_ ⟨rfl,hb'⟩;have hb:=hb'.below;have n0_:=aS (HV.out.below hb);have n1_:=aS (aN HB.out hb);clear HV HB;have HV:=n0_;have HB:=n1_;clear n0_ n1_ hb hb' HY))
    go_ret2
    exact ⟨rfl,HB.out⟩
   | true=>
    rw [if_pos rfl] at h
    obtain rfl:=Option.some.inj h
    clear h
    go_wp2_with (first | (go_at_call 75;(with_reducible refine (aW.calls k Ay cy y1 A0 c0 b true _ HY.out.2.2 HY.out.2.1 (Kd.cW HR.out HB.out) HC.out X7.out).mono ?_);rintro e_ w9_ ⟨rfl,hb'⟩;have hb:=hb'.below;have n0_:=aS (HV.out.below hb);have n1_:=aS (aN HB.out hb);clear HV HB;have HV:=n0_;have HB:=n1_;clear n0_ n1_ hb hb' HY))
    go_ret2
    exact ⟨g,rfl,⟨_,_,_,HV.out⟩,HB.out⟩
  ·
   rw [if_neg hz] at ha;have d0:decide (0<(rest.length:Int))=true:=decide_eq_true (by omega);have d1:decide (0<rest.length)=true:=decide_eq_true (by omega);replace ha:=bV ha;obtain ⟨⟨l1,r1,e1⟩,y1,ha⟩:=ha;have Y1:=aS y1;have HA:=aS ha;clear hz y1 ha
   go_upto_region 11 with (first | (go_at_call 72;(with_reducible refine (dM.calls k1 A9 c9 rest l1 r1 e1 _ (Kd.dI HS.out.hr).2.2 (Kd.dI HS.out.hr).2.1 Y1.out).mono ?_);rintro e_ w4 ⟨vn,vr,rfl,hn,hr,hb⟩;have HN:=aS hn;have HRr:=aS hr;have HS4:=aS (HS.out.on hb);clear hn hr hb))
   have ha:=HA.out;clear HA
   by_cases he:e1=0
   rotate_left
   ·
    rw [if_neg he] at ha
    obtain rfl:=Option.some.inj ha
    obtain ⟨he1,he2⟩:=ju he
    obtain rfl:=Option.some.inj (show some none=some o from H.out)
    clear he ha
    go_wp2
    go_ret2
    exact ⟨rfl,HS4.out.below⟩
   rw [if_pos he] at ha;obtain ⟨he1,he2⟩:=jE he
   by_cases hlim:(l.length+l1.length)*64≤140737488355328∧(bs.length+1)*24≤140737488355328
   case neg=>rw [if_neg hlim] at ha;cases ha
   rw [if_pos hlim] at ha
   obtain ⟨bs1,hbs1⟩:∃ x,x=bs++[l1]:=⟨_,rfl⟩
   obtain ⟨ll1,hll1⟩:∃ x,x=l++l1:=⟨_,rfl⟩
   replace ha:aJ.lp k1 r1 ll1 bs1=some s:=by rw [hbs1,hll1];exact ha
   have HBS:=aS hbs1;have HLS:=aS hll1;have HA:=aS ha;have HLM:=aS hlim;clear he ha hlim hbs1 hll1;have hvl:ak (∀ k,vl.ownBlock=some k→k<wr.heap.size):=aS (fun k hk=>Kd.cK HS.out.hl k hk);have hvb:ak (∀ k,vb.ownBlock=some k→k<wr.heap.size):=aS (fun k hk=>Kd.cK HS.out.hb k hk);have hgN:ak (g<wr.heap.size):=aS (dg HS.out.cY);have hwN:ak (w.heap.size≤wr.heap.size):=aS HS.out.below.size;clear HS
   go_upto_region 13 with (fail)
   refine dz (n:=23) (ds:=[18,21]) (S:=fun w'=>w'.cell? ⟨g,0,none⟩=some vl∧w'.cell? ⟨g,1,none⟩=some vb) (bA 23 0) (by kernel_rfl) rfl rfl ⟨(aG (au HS4.out.cY) 0).trans rfl,(aG (au HS4.out.cY) 1).trans rfl⟩ (fun hHeld=>?_)
   generalize hw_:World.drew _=w5 at hHeld ⊢
   have HS5:ak (aJ.St w w5 g vl vb _ l bs rest):=aS (hw_▸HS4.out.on (bN (Below.refl _ _)));have HN5:ak (Kd.R cC 34 w5 wr.heap.size (fun _=>True) vn l1):=aS (hw_▸Kd.dA HN.out (bN (Below.refl _ _)));have HR5:ak (Kd.R (Kd.int .u8) 5 w5 wr.heap.size (fun _=>True) vr r1):=aS (hw_▸Kd.dA HRr.out (bN (Below.refl _ _)));clear hw_ HS4 HN HRr;obtain ⟨An,cn,rfl⟩:=Kd.bq HN5.out;refine cH (T:=(true,[([],[]),([],[]),([],[]),([2],[2]),([3],[3]),([4],[4]),([],[]),([6],[6]),([5,7],[5,7]),([],[]),([9],[9]),([10],[10]),([11],[11]),([],[]),([12,13,8],[12,13]),([],[]),([0,0,2,3,4,5,6,7,8,12,14],[0]),([16,0,2,3,4,5,6,7,8,12,14],[16]),([17,8,14,0,2,3,4,5,6,7,8,12,14],[8,17]),([1,0,1,2,3,4,5,6,7,8,9,10,11,12,13,14,16,17,18],[1]),([19,0,1,2,3,4,5,6,7,8,9,10,11,12,13,14,16,17,18],[19]),([20,14,18,0,1,2,3,4,5,6,7,8,9,10,11,12,13,14,16,17,18],[14,20]),([15,21,0,1,2,3,4,5,6,7,8,9,10,11,12,13,14,15,16,17,18,19,20,21],[15])])) (B:=[0,0,0,4,12,28,0,64,252,0,512,1536,3584,0,16380,0,32765,98301,229373,491519,1015807,2064383,4194303]) (by kernel_rfl) (by kernel_rfl) (fun HT_ HW_=>?_);refine aZ [(0,51),(1,52),(2,53),(3,54),(4,55)] ?_
   iterate 5 (refine cr HT_ ?_)
   refine bX (bA 23 31) (by kernel_rfl) ?_;refine aZ [(5,56)] ?_
   iterate 1 (refine d_ HT_ HW_ hHeld ?_)
   refine bX (bA 23 63) (by kernel_rfl) ?_;refine aZ [(6,57),(9,60),(10,61),(11,62)] ?_
   iterate 4 (refine cr HT_ ?_)
   refine bX (bA 23 3711) (by kernel_rfl) ?_;refine aZ [(12,63)] ?_
   iterate 1 (refine d_ HT_ HW_ hHeld ?_)
   refine bX (bA 23 7807) (by kernel_rfl) ?_;refine aZ [(13,64),(15,66)] ?_
   iterate 2 (refine cr HT_ ?_)
   refine bX (bA 23 48767) (by kernel_rfl) ?_;refine dJ 7 (N:=some 58) (bA 23 48895) HT_ (fun K hK=>?_);refine lX (w1:=?_) (v:=?_) (by rfl) rfl ?_ ?_
   rotate_left 2
   ·
    go_simp
    constructor
    ·
     rfl
    ·
     rfl
   refine hK.out _ _ ⟨(aG (ax HS5.out.cY _) 0).trans rfl,(aG (ax HS5.out.cY _) 1).trans rfl⟩ (fun hHeld=>?_);clear hK K;refine nm 58 ?_;refine dJ 8 (N:=some 59) (bA 23 49151) HT_ (fun K hK=>?_);refine Kd.om (Kd.slice 34 cC) (w0:=w) w.heap.size (by rfl) (.tmp 56) (.tmp 58) 73 32 (.slice none 0 0) 24 rfl hu39 qd rfl (by decide) (by decide) vb bs l1 [.slice An l1.length cn] (fun k=>some k≠vl.ownBlock) (fun k=>wr.heap.size≤k) rfl rfl ⟨_,rfl,Kd.bf (Kd.aH (Kd.ew HN5.out) (fun k hk=>hk.2.1)) hwN.out⟩ (fun k hk=>⟨fun he=>by have:=hvl.out k he.symm;omega,fun he=>by have:=hvb.out k he.symm;omega⟩) (fun k hk he=>by have:=Kd.cK HS5.out.hl k he.symm;omega) HS5.out.hb HS5.out.below HS5.out.below.size HLM.out.2 ?_
   intro vb1 w6 ho hb hg hat
   rw [←HBS.out] at ho;obtain ⟨Ab1,cb1,rfl⟩:=Kd.bq ho;have HB1:=aS ho;have HD6:=aS hb;have HG1:=aS hg;have HT1:=aS hat;have HM:=aS (HS5.out.mid hg);have HN6:=aS (Kd.oO (Kd.jJ rfl HN5.out) hg (fun k hk he=>by have h1:=Kd.fF HN5.out k hk.symm;have h2:=hvb.out k he.symm;omega));clear ho hb hg hat HN5;refine hK.out _ _ ⟨(aG HM.out.2 0).trans rfl,(aG HM.out.2 1).trans rfl⟩ (fun hHeld=>?_);clear hK K;refine nm 59 ?_;refine dJ 14 (N:=some 65) (bA 23 65535) HT_ (fun K hK=>?_);refine Kd.fu cC (w0:=w) w.heap.size (by rfl) (.tmp 63) (.tmp 64) 32 34 (.agg #[(.string ⟨#[]⟩),(.string ⟨#[]⟩),(.int .i64 0),(.string ⟨#[]⟩),(.bool false)]) 64 rfl hu22 fe rfl (by decide) (by decide) vl l l1 _ _ _ (fun _=>True) (fun _=>False) rfl rfl HM.out.1 (Kd.bh HN6.out).2.2 (fun x cs hk=>?hKM) (fun _ hk=>hk.elim) (fun _ _=>trivial) HD6.out HD6.out.size HLM.out.1 ?_
   (case hKM=>obtain rfl:=xP hk;exact jx _ _ _ x)
   intro vl1 w7 ho hb hg hat
   rw [←HLS.out] at ho;obtain ⟨Al1,cl1,rfl⟩:=Kd.bq ho;have HG2:=aS (er HM.out.2 hg (Kd.jH HM.out.1 HM.out.2 (by decide)));have HSn:=aS (HS5.out.next HR5.out hvl.out hvb.out hgN.out HB1.out HG1.out HT1.out ho hg hat hb);have HQ:ak ((w7.setCell ⟨g,1,none⟩ (.slice Ab1 bs1.length cb1)).heap[g]? = some (.cells #[vl,.slice Ab1 bs1.length cb1,.slice none 0 0] 111 (0,0))):=aS (bn HG2.out 1 (.slice Ab1 bs1.length cb1) rfl);clear ho hb hg hat HM HB1 HD6 HG1 HT1 HN6 HS5 HR5;refine hK.out _ _ ⟨(aG HG2.out 0).trans rfl,(aG HG2.out 1).trans rfl⟩ (fun hHeld=>?_);clear hK K;refine nm 65 ?_;refine aZ [(16,67),(17,68)] ?_
   iterate 2 (refine cr HT_ ?_)
   refine bX (bA 23 262143) (by kernel_rfl) ?_;refine jT (i:=18) (N:=none) (bA 23 524287) rfl rfl (jM HT_.out (by kernel_rfl)) (by decide) (fun K hK=>?_);rw [if_pos (by rfl)];have hfz:=dD HG2.out 1;have hcl:=(aG HG2.out 1).trans rfl
   unfold Oper.wp
   go_simp
   refine hK.out _ _ ?_;clear hK K hfz hcl;refine aZ [(19,69),(20,70)] ?_
   iterate 2 (refine cr HT_ ?_)
   refine bX (bA 23 2097151) (by kernel_rfl) ?_;refine jT (i:=21) (N:=none) (bA 23 4194303) rfl rfl (jM HT_.out (by kernel_rfl)) (by decide) (fun K hK=>?_);rw [if_pos (by rfl)];have hfz:=dD HQ.out 0;have hcl:=(aG HQ.out 0).trans rfl
   unfold Oper.wp
   go_simp
   refine hK.out _ _ ?_;clear hK K hfz hcl;refine aZ [(22,9)] ?_
   iterate 1 (refine cr HT_ ?_)
   refine bX (bA 23 8388607) (by kernel_rfl) ?_;refine dQ (cX HT_.out (by kernel_rfl)) ?_;clear HT_ HW_ hHeld HG2 HQ
   generalize World.setCell _ _ _=w8 at HSn ⊢
   try go_wp2
   try simp only [Exit.inBlock,Exit.then]
   go_roundg k1
   case measure=>have:=HK.out;omega
   case rel=>exact ⟨_,_,r1,ll1,bs1,HA,⟨by have:=HK.out;omega⟩,HSn⟩
def aq.hO (w:World) (base:Nat) (ok:Nat→Prop) (x:(List av × List (List av) × List Int)) (cs:List Value):Prop:=∃ g vl vb vf,cs=[.pointer (some ⟨g,0,none⟩)]∧ok g∧base≤g∧w.heap[g]? = some (.cells #[vl,vb,vf] 111 (0,0))∧Kd.R cC 34 w base ok vl x.1∧Kd.R (Kd.slice 34 cC) 32 w base ok vb x.2.1∧Kd.R (Kd.int .u8) 5 w base ok vf x.2.2
section
variable {w w1:World} {base b:Nat} {ok ok':Nat→Prop} {x:(List av × List (List av) × List Int)} {cs:List Value}
theorem aq.hO.mono (hok:∀ k,ok k→ok' k) (h:aq.hO w base ok x cs):aq.hO w base ok' x cs:=by
 obtain ⟨g,vl,vb,vf,e,h1,h2,h3,h4,h5,h6⟩:=h;exact ⟨g,vl,vb,vf,e,hok _ h1,h2,h3,Kd.aH h4 hok,Kd.aH h5 hok,Kd.aH h6 hok⟩
theorem aq.hO.move (hm:∀ k,ok k→w1.heap[k]? = w.heap[k]?) (h:aq.hO w base ok x cs):aq.hO w1 base ok x cs:=by
 obtain ⟨g,vl,vb,vf,e,h1,h2,h3,h4,h5,h6⟩:=h;exact ⟨g,vl,vb,vf,e,h1,h2,(hm g h1).trans h3,Kd.l8 h4 hm,Kd.l8 h5 hm,Kd.l8 h6 hm⟩
theorem aq.hO.lower (hb:b≤base) (h:aq.hO w base ok x cs):aq.hO w b ok x cs:=by
 obtain ⟨g,vl,vb,vf,e,h1,h2,h3,h4,h5,h6⟩:=h;exact ⟨g,vl,vb,vf,e,h1,Nat.le_trans hb h2,h3,Kd.bf h4 hb,Kd.bf h5 hb,Kd.bf h6 hb⟩
theorem aq.hO.bound (h:aq.hO w base ok x cs):aq.hO w base (fun k=>ok k∧base≤k∧k<w.heap.size∧∃ q,q ∈ [111,34,32,5]∧∃ cells,w.heap[k]? = some (.cells cells q (0,0))) x cs:=by
 obtain ⟨g,vl,vb,vf,e,h1,h2,h3,h4,h5,h6⟩:=h;refine ⟨g,vl,vb,vf,e,⟨h1,h2,dg h3,_,List.mem_cons_self,_,h3⟩,h2,h3,Kd.aH (Kd.ew h4) (fun k hk=>?_),Kd.aH (Kd.ew h5) (fun k hk=>?_),Kd.aH (Kd.ew h6) (fun k hk=>?_)⟩
 all_goals
  obtain ⟨k1,k2,k3,q,hq,k4⟩:=hk;refine ⟨k1,k2,k3,q,?_,k4⟩
  first | (replace hq:q ∈ [34]:=hq;simp only [List.mem_cons,List.mem_nil_iff,or_false] at hq ⊢;simp only [hq,true_or,or_true]) | (replace hq:q ∈ [32,34]:=hq;simp only [List.mem_cons,List.mem_nil_iff,or_false] at hq ⊢;rcases hq with hq | hq<;>simp only [hq,true_or,or_true]) | (replace hq:q ∈ [5]:=hq;simp only [List.mem_cons,List.mem_nil_iff,or_false] at hq ⊢;simp only [hq,true_or,or_true])
theorem aq.hO.step (h:aq.hO w base ok x cs) (hm:∀ k,ok k→k<w.heap.size→w1.heap[k]? = w.heap[k]?):aq.hO w1 base ok x cs:=
 aq.hO.mono (fun _ hk=>hk.1) (aq.hO.move (fun k hk=>hm k hk.1 hk.2.2.1) (aq.hO.bound h))
end
def aq.mK:Kd (List av × List (List av) × List Int) where
 sz:=1
 E:=[111,34,32,5]
 K w x cs:=aq.hO w 0 (fun _=>True) x cs
 M w base ok x cs:=aq.hO w base ok x cs
 K_len:=by rintro w x cs ⟨g,vl,vb,vf,rfl,_⟩;rfl
 K_one:=by
  rintro w x cs ⟨g,vl,vb,vf,rfl,_⟩ u hu
  rw [List.mem_singleton.1 hu]
  rfl
 K_below:=fun hb h=>h.step (fun k _ hk=>hb.block k hk)
 K_of_M:=fun h=>aq.hO.mono (fun _ _=>trivial) (aq.hO.lower (Nat.zero_le _) h)
 M_mono:=fun hok h=>h.mono hok
 M_bound:=fun h=>h.bound
 M_move:=fun hm h=>h.move hm
 M_lower:=fun hb h=>h.lower hb
def aq.vv:Kd Value where
 sz:=1
 E:=[]
 K _ x cs:=cs=[x]∧x.oneCell'=true
 M _ _ _ x cs:=cs=[x]∧x.oneCell'=true
 K_len:=by rintro w x cs ⟨rfl,_⟩;rfl
 K_one:=by
  rintro w x cs ⟨rfl,h⟩ u hu
  rw [List.mem_singleton.1 hu];exact h
 K_below:=fun _ h=>h
 K_of_M:=fun h=>h
 M_mono:=fun _ h=>h
 M_bound:=fun h=>h
 M_move:=fun _ h=>h
 M_lower:=fun _ h=>h
structure aq.Rows (w:World) (base:Nat) (ok:Nat→Prop) (vs:List Value) (ls:List (List (List av × List (List av) × List Int))):Prop where
 len:vs.length=ls.length
 rows:∀ i,i<vs.length→Kd.R aq.mK 86 w base ok (vs.getD i (.slice none 0 0)) (ls.getD i [])
 apart:∀ i j,i<j→j<vs.length→∀ k,(vs.getD i (.slice none 0 0)).ownBlock=some k→(vs.getD j (.slice none 0 0)).ownBlock≠some k
structure aq.eI (w:World) (base:Nat) (ok:Nat→Prop) (g gm:Nat) (vm vl:Value) (vs us:List Value) (s1 s2 s3:Int) (xs:List av) (n:Int) (ls:List (List (List av × List (List av) × List Int))):Prop where
 ge:base≤g
 okg:ok g
 cY:w.heap[g]? = some (.cells #[.int .i64 s1,.int .i64 s2,.int .i64 s3,.pointer (some ⟨gm,0,none⟩),vl] 61 (0,0))
 gem:base≤gm
 okm:ok gm
 blm:w.heap[gm]? = some (.cells #[vm,.int .i64 n] 78 (0,0))
 row:Kd.R cC 34 w base ok vm xs
 out:Kd.R aq.vv 64 w base ok vl vs
 all:vs.length=us.length
 rs:aq.Rows w base (fun k=>ok k∧some k≠vm.ownBlock) us ls
def aq.At (w:World) (base:Nat) (ok:Nat→Prop) (g:Nat) (s1 s2 s3:Int) (xs:List av) (n:Int) (ls:List (List (List av × List (List av) × List Int))):Prop:=∃ gm vm vl vs,aq.eI w base ok g gm vm vl vs vs s1 s2 s3 xs n ls
structure aq.fG (w w1:World) (ok:Nat→Prop):Prop where
 os:w1.os=w.os
 tape:w1.tape=w.tape
 output:w1.output=w.output
 size:w.heap.size≤w1.heap.size
 block:∀ k,k<w.heap.size→¬ ok k→w1.heap[k]? = w.heap[k]?
section
variable {w w1 w2:World} {base b g gm:Nat} {ok ok':Nat→Prop} {vm vl:Value} {vs us:List Value} {s1 s2 s3:Int} {xs:List av} {n:Int} {ls:List (List (List av × List (List av) × List Int))}
theorem aq.Rows.step (h:aq.Rows w base ok us ls) (hm:∀ k,ok k→k<w.heap.size→w1.heap[k]? = w.heap[k]?):aq.Rows w1 base ok us ls:=⟨h.len,fun i hi=>Kd.jD (h.rows i hi) hm,h.apart⟩
theorem aq.Rows.mono (h:aq.Rows w base ok us ls) (hok:∀ k,ok k→ok' k):aq.Rows w base ok' us ls:=⟨h.len,fun i hi=>Kd.aH (h.rows i hi) hok,h.apart⟩
theorem aq.Rows.bound (h:aq.Rows w base ok us ls):aq.Rows w base (fun k=>ok k∧k<w.heap.size) us ls:=⟨h.len,fun i hi=>Kd.aH (Kd.ew (h.rows i hi)) (fun _ hk=>⟨hk.1,hk.2.2.1⟩),h.apart⟩
theorem aq.Rows.lower (h:aq.Rows w base ok us ls) (hb:b≤base):aq.Rows w b ok us ls:=⟨h.len,fun i hi=>Kd.bf (h.rows i hi) hb,h.apart⟩
theorem aq.eI.step (h:aq.eI w base ok g gm vm vl vs us s1 s2 s3 xs n ls) (hm:∀ k,ok k→k<w.heap.size→w1.heap[k]? = w.heap[k]?):aq.eI w1 base ok g gm vm vl vs us s1 s2 s3 xs n ls:=
 ⟨h.ge,h.okg,(hm g h.okg (dg h.cY)).trans h.cY,h.gem,h.okm,(hm gm h.okm (dg h.blm)).trans h.blm,Kd.jD h.row hm,Kd.jD h.out hm,h.all,h.rs.step (fun k hk=>hm k hk.1)⟩
theorem aq.eI.below (h:aq.eI w base ok g gm vm vl vs us s1 s2 s3 xs n ls) (hb:Below w.heap.size w w1):aq.eI w1 base ok g gm vm vl vs us s1 s2 s3 xs n ls:=h.step (fun k _ hk=>hb.block k hk)
theorem aq.eI.mono (h:aq.eI w base ok g gm vm vl vs us s1 s2 s3 xs n ls) (hok:∀ k,ok k→ok' k):aq.eI w base ok' g gm vm vl vs us s1 s2 s3 xs n ls:=
 ⟨h.ge,hok _ h.okg,h.cY,h.gem,hok _ h.okm,h.blm,Kd.aH h.row hok,Kd.aH h.out hok,h.all,h.rs.mono (fun k hk=>⟨hok k hk.1,hk.2⟩)⟩
theorem aq.eI.bound (h:aq.eI w base ok g gm vm vl vs us s1 s2 s3 xs n ls):aq.eI w base (fun k=>ok k∧k<w.heap.size) g gm vm vl vs us s1 s2 s3 xs n ls:=
 ⟨h.ge,⟨h.okg,dg h.cY⟩,h.cY,h.gem,⟨h.okm,dg h.blm⟩,h.blm,Kd.aH (Kd.ew h.row) (fun _ hk=>⟨hk.1,hk.2.2.1⟩),Kd.aH (Kd.ew h.out) (fun _ hk=>⟨hk.1,hk.2.2.1⟩),h.all,h.rs.bound.mono (fun _ hk=>⟨⟨hk.1.1,hk.2⟩,hk.1.2⟩)⟩
theorem aq.eI.lower (h:aq.eI w base ok g gm vm vl vs us s1 s2 s3 xs n ls) (hb:b≤base):aq.eI w b ok g gm vm vl vs us s1 s2 s3 xs n ls:=
 ⟨Nat.le_trans hb h.ge,h.okg,h.cY,Nat.le_trans hb h.gem,h.okm,h.blm,Kd.bf h.row hb,Kd.bf h.out hb,h.all,h.rs.lower hb⟩
theorem aq.eI.mem (h:aq.eI w base ok g gm vm vl vs us s1 s2 s3 xs n ls):ck.At w base gm xs n vm:=⟨h.gem,h.blm,Kd.aH h.row (fun _ _=>trivial)⟩
theorem aq.eI.cells (h:aq.eI w base ok g gm vm vl vs us s1 s2 s3 xs n ls) (i:Nat) (hi:i<vs.length):∃ A c,us.getD i (.slice none 0 0) = .slice A (ls.getD i []).length c∧(ls.getD i []).length≤c∧Kd.C aq.mK w A (ls.getD i []).length (ls.getD i []):=Kd.fT (h.rs.rows i (by rw [←h.all];exact hi))
theorem aq.eI.len (h:aq.eI w base ok g gm vm vl vs us s1 s2 s3 xs n ls):vs.length=ls.length:=h.all.trans h.rs.len
theorem aq.eI.up (h:aq.eI w base ok g gm vm vl vs vs s1 s2 s3 xs n ls):aq.At w base ok g s1 s2 s3 xs n ls:=⟨gm,vm,vl,vs,h⟩
theorem aq.At.below (h:aq.At w base ok g s1 s2 s3 xs n ls) (hb:Below w.heap.size w w1):aq.At w1 base ok g s1 s2 s3 xs n ls:=by
 obtain ⟨gm,vm,vl,vs,h⟩:=h;exact aq.eI.up (h.below hb)
theorem aq.At.step (h:aq.At w base ok g s1 s2 s3 xs n ls) (hm:∀ k,ok k→k<w.heap.size→w1.heap[k]? = w.heap[k]?):aq.At w1 base ok g s1 s2 s3 xs n ls:=by
 obtain ⟨gm,vm,vl,vs,h⟩:=h;exact aq.eI.up (h.step hm)
theorem aq.At.mono (h:aq.At w base ok g s1 s2 s3 xs n ls) (hok:∀ k,ok k→ok' k):aq.At w base ok' g s1 s2 s3 xs n ls:=by
 obtain ⟨gm,vm,vl,vs,h⟩:=h;exact aq.eI.up (h.mono hok)
theorem aq.At.bound (h:aq.At w base ok g s1 s2 s3 xs n ls):aq.At w base (fun k=>ok k∧k<w.heap.size) g s1 s2 s3 xs n ls:=by
 obtain ⟨gm,vm,vl,vs,h⟩:=h;exact aq.eI.up h.bound
theorem aq.At.lower (h:aq.At w base ok g s1 s2 s3 xs n ls) (hb:b≤base):aq.At w b ok g s1 s2 s3 xs n ls:=by
 obtain ⟨gm,vm,vl,vs,h⟩:=h;exact aq.eI.up (h.lower hb)
theorem aq.At.new {N:Nat} (h:aq.At w1 base (fun k=>N≤k∨w.heap.size≤k) g s1 s2 s3 xs n ls) (hN:N≤w.heap.size):aq.At w1 base (fun k=>N≤k) g s1 s2 s3 xs n ls:=h.mono (fun _ hk=>hk.elim id (Nat.le_trans hN))
theorem aq.At.EG {N:Nat} (h:aq.At w1 base (fun k=>base≤k) g s1 s2 s3 xs n ls) (hN:N≤base):aq.At w1 N (fun k=>N≤k) g s1 s2 s3 xs n ls:=(h.lower hN).mono (fun _ hk=>Nat.le_trans hN hk)
theorem aq.fG.refl (w:World) (ok:Nat→Prop):aq.fG w w ok:=⟨rfl,rfl,rfl,Nat.le_refl _,fun _ _ _=>rfl⟩
theorem aq.fG.trans (h:aq.fG w w1 ok) (h1:aq.fG w1 w2 ok') (hok:∀ k,ok' k→k<w.heap.size→ok k):aq.fG w w2 ok:=
 ⟨h1.os.trans h.os,h1.tape.trans h.tape,h1.output.trans h.output,Nat.le_trans h.size h1.size,fun k hk hn=>(h1.block k (Nat.lt_of_lt_of_le hk h.size) (fun ho=>hn (hok k ho hk))).trans (h.block k hk hn)⟩
theorem aq.fG.step (h:aq.fG w w1 ok) (hb:Below w1.heap.size w1 w2):aq.fG w w2 ok:=
 ⟨hb.os.trans h.os,hb.tape.trans h.tape,hb.output.trans h.output,Nat.le_trans h.size hb.size,fun k hk hn=>(hb.block k (Nat.lt_of_lt_of_le hk h.size)).trans (h.block k hk hn)⟩
theorem aq.fG.jX (h:Below w.heap.size w w1) (ok:Nat→Prop):aq.fG w w1 ok:=(aq.fG.refl w ok).step h
theorem aq.fG.below (h:aq.fG w w1 ok) {w0:World} (hb:Below b w0 w) (h0:b≤w.heap.size) (hok:∀ k,ok k→b≤k):Below b w0 w1:=
 hb.trans ⟨h.os,h.tape,h.output,h.size,fun k hk=>h.block k (Nat.lt_of_lt_of_le hk h0) (fun ho=>by have:=hok k ho;omega)⟩
theorem aq.fG.set (w:World) (g j:Nat) (u:Value) (hg:ok g):aq.fG w (w.setCell ⟨g,j,none⟩ u) ok:=⟨rfl,rfl,rfl,by simp [World.setCell],fun k _ hk=>Below.heap_setCell w ⟨g,j,none⟩ u k (fun e=>hk (e▸hg))⟩
theorem aq.fG.grown {row_:Option Nat} (h:w.grownBy w1 row_) (hok:∀ k,row_=some k→ok k):aq.fG w w1 ok:=⟨h.os,h.tape,h.output,h.size,fun k hk hn=>h.block k hk (fun e=>hn (hok k e.symm))⟩
end
section
variable {w w1:World} {base g gm:Nat} {ok:Nat→Prop} {vm vl:Value} {vs us:List Value} {s1 s2 s3:Int} {xs:List av} {n:Int} {ls:List (List (List av × List (List av) × List Int))}
theorem aq.eI.at (h:aq.eI w base ok g gm vm vl vs us s1 s2 s3 xs n ls):∃ A c,vl = .slice A vs.length c∧vs.length≤c∧vs.length≤9223372036854775807∧∀ W:World,(∀ k,ok k→k<w.heap.size→W.heap[k]? = w.heap[k]?)→∀ i,i<vs.length→∃ ad,A=some ad∧W.cell? (ad.add i)=some (vs.getD i (.slice none 0 0)):=by
 obtain ⟨A,c,e,hc,hC⟩:=Kd.fT h.out;refine ⟨A,c,e,hc,hC.2.1,fun W hW i hi=>?_⟩;obtain ⟨A',c',e',_,hC'⟩:=Kd.fT (h.step hW).out;rw [e] at e'
 cases e'
 obtain ⟨ad,cs,e1,_,hK,hc0⟩:=Kd.mF hC' (.slice none 0 0:Value) (i:Int) (by omega) (by omega);rw [Int.toNat_natCast] at hK hc0
 have hc1:∀ j u,cs[j]? = some u→W.cell? (ad.add (i*1+j))=some u:=hc0
 have hcs:cs=[vs.getD i (.slice none 0 0)]:=hK.1;exact ⟨ad,e1,by have hq:=hc1 0 _ (by rw [hcs];rfl);rwa [Nat.mul_one,Nat.add_zero] at hq⟩
theorem aq.t5 {A:Option Addr} {l:List (List av × List (List av) × List Int)} (h:Kd.C aq.mK w A l.length l) (i:Nat) (hi:i<l.length):∃ ad gx,A=some ad∧w.cell? (ad.add i)=some (.pointer (some ⟨gx,0,none⟩))∧aJ.At w 0 gx (l.getD i ([],[],[])).1 (l.getD i ([],[],[])).2.1 (l.getD i ([],[],[])).2.2:=by
 obtain ⟨ad,cs,e1,_,hK,hc0⟩:=Kd.mF h (([],[],[]):(List av × List (List av) × List Int)) (i:Int) (by omega) (by omega);rw [Int.toNat_natCast] at hK hc0
 have hc1:∀ j u,cs[j]? = some u→w.cell? (ad.add (i*1+j))=some u:=hc0
 obtain ⟨gx,vl,vb,vf,e,_,h2,h3,h4,h5,h6⟩:=hK;subst e;exact ⟨ad,gx,e1,by have hq:=hc1 0 _ rfl;rwa [Nat.mul_one,Nat.add_zero] at hq,vl,vb,vf,h2,h3,h4,h5,h6⟩
end
theorem aq.D7 {w:World} {base g:Nat} {x:(List av × List (List av) × List Int)} (h:aJ.At w base g x.1 x.2.1 x.2.2):aq.hO w base (fun _=>True) x [.pointer (some ⟨g,0,none⟩)]:=by
 obtain ⟨vl,vb,vf,h⟩:=h;exact ⟨g,vl,vb,vf,rfl,trivial,h.ge,h.cY,h.hl,h.hb,h.hf⟩
theorem aq.uL {α:Type} (d:Kd α) {W:World} {base e:Nat} {xs:List α} {inner:List Value} {okp:Nat→Prop} (hrep:bH (d.M W base okp) d.sz xs inner) (hbase:base≤W.heap.size) (hm:xs.length≤9223372036854775807) :
  d.R e (W.alloc (.cells inner.toArray e)) base (fun _=>True) (.slice (some ⟨W.heap.size,0,none⟩) xs.length xs.length) xs:=by
 refine ⟨fun k _=>trivial,inner,?_,?_⟩
 ·
  have h2:=World.ownsRow_lit (base:=base) (e:=e) (size:=d.sz) W inner.toArray xs.length hbase (by simpa [maxLen] using hm) (by simpa using hrep.1)
  simpa using h2
 ·
  refine hrep.gI (fun p c hp=>d.M_mono (fun k hk=>⟨trivial,fun he=>?_⟩) (Kd.uV (d.M_bound hp) (tQ (Below.refl _ _) _)))
  have h3:k=W.heap.size:=by simpa [Value.ownBlock] using he
  have:=hk.2.2.1
  omega
theorem aq.ni {α:Type} (l:List α) (z:α) (i:Nat) (h:i<l.length):l.drop i=l.getD i z :: l.drop (i+1):=by
 rw [List.drop_eq_getElem_cons h,List.getD_eq_getElem?_getD,List.getElem?_eq_getElem h]
 rfl
section
variable {w w1:World} {base b g gm:Nat} {ok ok':Nat→Prop} {vm vl:Value} {vs us:List Value} {s1 s2 s3:Int} {xs:List av} {n:Int} {ls:List (List (List av × List (List av) × List Int))} {row:Option Nat}
theorem aq.sw {α:Type} {d:Kd α} {e e':Nat} {v:Value} {l:List α} (h:d.R e w base ok v l) (hg:w.grownBy w1 row) (hty:∀ k,row=some k→∃ cells,w.heap[k]? = some (.cells cells e' (0,0))) (hne:∀ k,row=some k→v.ownBlock≠some k) (ht:∀ q,q ∈ d.E→q≠e'):d.R e w1 base ok v l:=by
 obtain ⟨h0,inner,ho,hr⟩:=h;refine ⟨h0,inner,xE ho (fun k hk=>hg.block k (xM ho k hk) (fun e=>hne k e.symm hk)),hr.gI (fun p c hp=>d.M_mono (fun k hk=>hk.1) (d.M_move (fun k hk=>?_) (d.M_bound hp)))⟩;obtain ⟨_,_,hlt,q,hq,cells,hc⟩:=hk;refine hg.block k hlt (fun e1=>?_);obtain ⟨cells',hc'⟩:=hty k e1.symm;rw [hc] at hc'
 injection hc' with hc'
 injection hc' with _ hc'
 exact ht q hq hc'
theorem aq.mU {t e':Nat} {cells:Array Value} (hb:w.heap[g]? = some (.cells cells t (0,0))) (hty:∀ k,row=some k→∃ cells,w.heap[k]? = some (.cells cells e' (0,0))) (ht:t≠e'):some g≠row:=fun e=>by
 obtain ⟨cells',hc'⟩:=hty g e.symm;rw [hb] at hc'
 injection hc' with hc'
 injection hc' with _ hc'
 exact ht hc'
theorem aq.nN {α:Type} {d:Kd α} {e e':Nat} {v:Value} {l:List α} (h:d.R e w base ok v l) (hty:∀ k,row=some k→∃ cells,w.heap[k]? = some (.cells cells e' (0,0))) (ht:e≠e'):∀ k,row=some k→v.ownBlock≠some k:=fun k hk hv=>by
 obtain ⟨cells,hc⟩:=Kd.gn h k hv;exact aq.mU hc hty ht hk.symm
theorem aq.kI {α:Type} (l:List α) (i j:Nat) (x z:α) (hi:i<l.length):(l.set i x).getD j z=if i=j then x else l.getD j z:=by
 rw [List.getD_eq_getElem?_getD,List.getElem?_set,List.getD_eq_getElem?_getD]
 by_cases h:i=j
 ·
  subst h;rw [if_pos rfl,if_pos hi,if_pos rfl]
  rfl
 ·
  rw [if_neg h,if_neg h]
theorem aq.Rows.put (h:aq.Rows w base ok us ls) (i:Nat) (hi:i<us.length) {v:Value} {l:List (List av × List (List av) × List Int)} (hv:Kd.R aq.mK 86 w base ok v l) (hap:∀ j,j<us.length→∀ k,(us.getD j (.slice none 0 0)).ownBlock=some k→v.ownBlock≠some k):aq.Rows w base ok (us.set i v) (ls.set i l):=by
 have hl:i<ls.length:=h.len▸hi;refine ⟨by rw [List.length_set,List.length_set,h.len],fun j hj=>?_,fun j m hjm hm k hk=>?_⟩
 ·
  rw [List.length_set] at hj;rw [aq.kI _ _ _ _ _ hi,aq.kI _ _ _ _ _ hl]
  by_cases e:i=j
  ·
   rw [if_pos e,if_pos e];exact hv
  ·
   rw [if_neg e,if_neg e];exact h.rows j hj
 ·
  rw [List.length_set] at hm;rw [aq.kI _ _ _ _ _ hi] at hk ⊢
  by_cases e:i=j
  ·
   rw [if_pos e] at hk;rw [if_neg (by omega)]
   exact fun hk'=>hap m hm k hk' hk
  ·
   rw [if_neg e] at hk
   by_cases e2:i=m
   ·
    rw [if_pos e2];exact hap j (by omega) k hk
   ·
    rw [if_neg e2];exact h.apart j m hjm hm k hk
theorem aq.Rows.nil (h:aq.Rows w base ok us ls) (i:Nat) (hi:i<us.length):aq.Rows w base ok (us.set i (.slice none 0 0)) (ls.set i []):=h.put i hi (Kd.dX _ _ _ _ _) (fun _ _ _ _=>by simp [Value.ownBlock])
theorem aq.r9 {α:Type} (l:List α) (x z:α) (j:Nat):(l++[x]).getD j z=if j<l.length then l.getD j z else if j=l.length then x else z:=by
 rw [List.getD_eq_getElem?_getD,List.getD_eq_getElem?_getD]
 by_cases h:j<l.length
 ·
  rw [if_pos h,List.getElem?_append_left h]
 ·
  rw [if_neg h,List.getElem?_append_right (by omega)]
  by_cases e:j=l.length
  ·
   rw [if_pos e,e,Nat.sub_self];rfl
  ·
   rw [if_neg e,List.getElem?_eq_none (by simp only [List.length_singleton];omega)];rfl
theorem aq.Rows.snoc (h:aq.Rows w base ok us ls):aq.Rows w base ok (us++[.slice none 0 0]) (ls++[[]]):=by
 have hl:=h.len;refine ⟨by rw [List.length_append,List.length_append,hl];rfl,fun j hj=>?_,fun j m hjm hm k hk=>?_⟩
 ·
  rw [aq.r9,aq.r9,← hl]
  by_cases e:j<us.length
  ·
   rw [if_pos e,if_pos e];exact h.rows j e
  ·
   rw [if_neg e,if_neg e]
   simp only [ite_self]
   exact Kd.dX _ _ _ _ _
 ·
  rw [aq.r9] at hk ⊢
  by_cases e:m<us.length
  ·
   rw [if_pos e];rw [if_pos (by omega)] at hk;exact h.apart j m hjm e k hk
  ·
   rw [if_neg e]
   simp only [ite_self]
   simp [Value.ownBlock]
theorem aq.Rows.far (h:aq.Rows w base ok us ls) {e':Nat} (hg:w.grownBy w1 row) (hty:∀ k,row=some k→∃ cells,w.heap[k]? = some (.cells cells e' (0,0))) (hne:∀ j,j<us.length→∀ k,row=some k→(us.getD j (.slice none 0 0)).ownBlock≠some k) (ht:∀ q,q ∈ [111,34,32,5]→q≠e'):aq.Rows w1 base ok us ls:=
 ⟨h.len,fun j hj=>aq.sw (h.rows j hj) hg hty (hne j hj) ht,h.apart⟩
theorem aq.Cd (go i:Nat):Addr.add ⟨go,0,none⟩ i=⟨go,i,none⟩:=by
 unfold Addr.add
 by_cases h0:i=0<;>simp [h0]
theorem aq.yI {v:Value} {l:List (List av × List (List av) × List Int)} (h:Kd.R aq.mK 86 w base ok v l) (hty:∀ k,row=some k→∃ cells,w.heap[k]? = some (.cells cells 86 (0,0))) {A:Option Addr} {m c:Nat} (e:v = .slice A m c):fk (fun x cs=>aq.hO w 0 (fun k=>some k≠row) x cs) 1 w A l.length l:=by
 obtain ⟨A',c',e',_,hr⟩:=eR.reads h.2;rw [e] at e'
 cases e'
 refine hr.gI (Below.refl _ _) (fun x cs hm=>aq.hO.mono (fun k hk=>?_) (aq.hO.lower (Nat.zero_le _) (aq.hO.bound hm)));obtain ⟨_,_,_,q,hq,cells,hc⟩:=hk
 exact aq.mU hc hty (by
  intro e
  subst e
  exact absurd hq (by decide))
theorem aq.eI.far (h:aq.eI w base ok g gm vm vl vs us s1 s2 s3 xs n ls) {e':Nat} {vl':Value} {vs' us':List Value} {ls':List (List (List av × List (List av) × List Int))} (hg:w.grownBy w1 row) (hty:∀ k,row=some k→∃ cells,w.heap[k]? = some (.cells cells e' (0,0))) (ht:∀ q,q ∈ [61,78,34]→q≠e') (hblk:w1.heap[g]? = w.heap[g]?→w1.heap[g]? = some (.cells #[.int .i64 s1,.int .i64 s2,.int .i64 s3,.pointer (some ⟨gm,0,none⟩),vl'] 61 (0,0)))
  (hok:∀ k,ok k→ok' k) (out:Kd.R aq.vv 64 w1 base ok' vl' vs') (all:vs'.length=us'.length) (rs:aq.Rows w1 base (fun k=>ok' k∧some k≠vm.ownBlock) us' ls'):aq.eI w1 base ok' g gm vm vl' vs' us' s1 s2 s3 xs n ls':=
 ⟨h.ge,hok _ h.okg,hblk (hg.block g (dg h.cY) (aq.mU h.cY hty (ht _ (by simp)))),h.gem,hok _ h.okm,(hg.block gm (dg h.blm) (aq.mU h.blm hty (ht _ (by simp)))).trans h.blm,
  Kd.aH (aq.sw h.row hg hty (aq.nN h.row hty (ht _ (by simp))) (by intro q hq;cases hq)) hok,out,all,rs⟩
theorem aq.eI.E0 (h:aq.eI w base ok g gm vm vl vs vs s1 s2 s3 xs n ls) (i:Nat) (hi:i+1<vs.length) (hg:w.grownBy w1 (vs.getD i (.slice none 0 0)).ownBlock):aq.eI w1 base ok g gm vm vl vs ((vs.set i (.slice none 0 0)).set (i+1) (.slice none 0 0)) s1 s2 s3 xs n ((ls.set i []).set (i+1) []):=by
 have hty:∀ k,(vs.getD i (.slice none 0 0)).ownBlock=some k→∃ cells,w.heap[k]? = some (.cells cells 86 (0,0)):=Kd.gn (h.rs.rows i (by omega))
 refine h.far (row:=(vs.getD i (.slice none 0 0)).ownBlock) hg hty (by decide) (fun e=>e.trans h.cY) (fun _ hk=>hk) (aq.sw h.out hg hty (aq.nN h.out hty (by decide)) (by intro q hq;cases hq)) (by simp) (((h.rs.nil i (by omega)).nil (i+1) (by rw [List.length_set];exact hi)).far hg hty (fun j hj k hk=>?_) (by decide));rw [List.length_set,List.length_set] at hj;rw [aq.kI _ _ _ _ _ (by rw [List.length_set];exact hi),aq.kI _ _ _ _ _ (by omega)]
 by_cases e1:i+1=j
 ·
  rw [if_pos e1];simp [Value.ownBlock]
 ·
  rw [if_neg e1]
  by_cases e2:i=j
  ·
   rw [if_pos e2];simp [Value.ownBlock]
  ·
   rw [if_neg e2]
   rcases Nat.lt_or_ge i j with h3 | h3
   ·
    exact h.rs.apart i j h3 hj k hk
   ·
    exact fun hk'=>h.rs.apart j i (by omega) (by omega) k hk' hk
theorem aq.eI.tell (h:aq.eI w base ok g gm vm vl vs us s1 s2 s3 xs n ls) (i:Nat) (hi:i<us.length) {v:Value} {l:List (List av × List (List av) × List Int)} (hv:Kd.R aq.mK 86 w base (fun k=>ok k∧some k≠vm.ownBlock) v l) (hap:∀ j,j<us.length→∀ k,(us.getD j (.slice none 0 0)).ownBlock=some k→v.ownBlock≠some k):aq.eI w base ok g gm vm vl vs (us.set i v) s1 s2 s3 xs n (ls.set i l):=
 ⟨h.ge,h.okg,h.cY,h.gem,h.okm,h.blm,h.row,h.out,by rw [List.length_set];exact h.all,h.rs.put i hi hv hap⟩
theorem aq.eI.put {go c:Nat} (h:aq.eI w base ok g gm vm (.slice (some ⟨go,0,none⟩) vs.length c) vs us s1 s2 s3 xs n ls) (i:Nat) (hi:i<vs.length) (v:Value) (hv:v.oneCell'=true):aq.eI (w.setCells go i [v]) base ok g gm vm (.slice (some ⟨go,0,none⟩) vs.length c) (vs.set i v) us s1 s2 s3 xs n ls∧w.grownBy (w.setCells go i [v]) (some go):=by
 obtain ⟨c0,hc1,hc2,hc3,_⟩:=Kd.mM h.out (.slice none 0 0) (i:Int) (by omega) (by omega);rw [Int.toNat_natCast] at hc3;have hc0:c0=[vs.getD i (.slice none 0 0)]:=hc2.1
 obtain ⟨h1,h2⟩:=Kd.wD h.out (i:Int) (by omega) (by omega) (c:=c0) (seg:=[v]) (j:=0) (x':=v) (okp:=fun _=>False) hc1 (by rw [Int.toNat_natCast];exact hc3) (Nat.le_refl 1) (by
  rw [hc0]
  exact ⟨rfl,hv⟩) (fun _ hk=>hk.elim)
 rw [Int.toNat_natCast] at h1 h2;replace h1:Kd.R aq.vv 64 (w.setCells go (i*1+0) [v]) base ok (.slice (some ⟨go,0,none⟩) vs.length c) (vs.set i v):=h1;replace h2:w.grownBy (w.setCells go (i*1+0) [v]) (some go):=h2;rw [Nat.mul_one,Nat.add_zero] at h1 h2
 have hty:∀ k,some go=some k→∃ cells,w.heap[k]? = some (.cells cells 64 (0,0)):=fun k hk=>Kd.gn h.out k hk
 refine ⟨?_,h2⟩;have hf:=h.far (row:=some go) h2 hty (by decide) (fun e=>e.trans h.cY) (fun _ hk=>hk) (vs':=vs.set i v) h1 (by rw [List.length_set];exact h.all) (h.rs.far h2 hty (fun j hj=>aq.nN (h.rs.rows j hj) hty (by decide)) (by decide));exact hf
theorem aq.Bn {v:Value} {l:List (List av × List (List av) × List Int)} (h:Kd.R aq.mK 86 w base ok v l) (hb:Below w.heap.size w w1) {A:Option Addr} {m c:Nat} (e:v = .slice A m c):fk (fun x cs=>aq.hO w1 base (fun k=>ok k∧k<w.heap.size) x cs) 1 w1 A l.length l:=by
 obtain ⟨A',c',e',_,hr⟩:=eR.reads h.2;rw [e] at e'
 cases e'
 exact hr.gI hb (fun x cs hm=>(aq.hO.mono (fun k hk=>⟨hk.1.1,hk.2.2.1⟩) (aq.hO.bound hm)).step (fun k _ hk=>hb.block k hk))
theorem aq.eI.FC (h:aq.eI w base ok g gm vm vl vs us s1 s2 s3 xs n ls) {gm':Nat} (hge:base≤gm') (hok:ok gm') (hbm:w.heap[gm']? = some (.cells #[.slice none 0 0,.int .i64 0] 78 (0,0))):aq.eI (w.setCell ⟨g,3,none⟩ (.pointer (some ⟨gm',0,none⟩))) base ok g gm' (.slice none 0 0) vl vs us s1 s2 s3 [] 0 ls:=by
 have hne:gm'≠g:=fun e=>by
  have hb:=h.cY;rw [e,hb] at hbm
  injection hbm with hbm
  injection hbm with _ hbm
  exact absurd hbm (by decide)
 have hr:=h.rs.mono (ok':=fun k=>ok k∧some k≠(Value.slice none 0 0).ownBlock) (fun k hk=>⟨hk.1,by simp [Value.ownBlock]⟩);exact ⟨h.ge,h.okg,bn h.cY 3 _ rfl,hge,hok,dW hbm hne _ (p:=⟨g,3,none⟩),Kd.dX _ _ _ _ _,Kd.jF h.out h.cY (by decide) 3 _,h.all,⟨hr.len,fun i hi=>Kd.jF (hr.rows i hi) h.cY (by decide) 3 _,hr.apart⟩⟩
theorem aq.eI.FA (h:aq.eI w base ok g gm vm vl vs us s1 s2 s3 xs n ls) {vm':Value} {xs':List av} {n':Int} (ha:ck.At w1 base gm xs' n' vm') (ht:ck.Two w w1 gm vm.ownBlock) (hv:vm'.ownBlock=vm.ownBlock∨∃ b,vm'.ownBlock=some b∧w.heap.size≤b) (hok:∀ k,ok k→ok' k) (hnew:∀ k,w.heap.size≤k→ok' k):aq.eI w1 base ok' g gm vm' vl vs us s1 s2 s3 xs' n' ls∧aq.fG w w1 ok:=by
 have hty:=Kd.gn h.row
 have hg:g≠gm:=fun e=>by
  have hb:=h.cY;rw [e,h.blm] at hb
  injection hb with hb
  injection hb with _ hb
  exact absurd hb (by decide)
 refine ⟨⟨h.ge,hok _ h.okg,(ht.block g (dg h.cY) hg (aq.mU h.cY hty (by decide))).trans h.cY,h.gem,hok _ h.okm,ha.2.1,Kd.wX rfl ha.2.2 (fun k hk=>?_),?_,h.all,⟨h.rs.len,fun i hi=>?_,h.rs.apart⟩⟩,⟨ht.os,ht.tape,ht.output,ht.size,fun k hk hn=>ht.block k hk (fun e=>hn (e▸h.okm)) (fun e=>hn (h.row.1 k e.symm))⟩⟩
 ·
  rcases hv with e | ⟨b,e,hle⟩
  ·
   exact hok k (h.row.1 k (e▸hk))
  ·
   rw [e] at hk;injection hk with hk;exact hnew k (hk▸hle)
 ·
  refine Kd.aH (Kd.jD (Kd.gK (Kd.oY h.out hty (by decide)) h.blm (by decide)) (fun k hk hlt=>ht.block k hlt hk.2 hk.1.2)) (fun k hk=>hok k hk.1.1)
 ·
  refine Kd.aH (Kd.jD (Kd.ew (Kd.gK (h.rs.rows i hi) h.blm (by decide))) (fun k hk hlt=>ht.block k hlt hk.1.2 hk.1.1.2)) (fun k hk=>⟨hok k hk.1.1.1,?_⟩)
  rcases hv with e | ⟨b,e,hle⟩
  ·
   rw [e];exact hk.1.1.2
  ·
   rw [e];intro he;injection he with he;have:=hk.2.2.1;omega
theorem aq.eI.snoc (h:aq.eI w base ok g gm vm vl vs us s1 s2 s3 xs n ls) {v1:Value} (ho:Kd.R aq.vv 64 w1 base ok' v1 (vs++[.slice none 0 0])) (hg:w.grownBy w1 vl.ownBlock) (hok:∀ k,ok k→ok' k):aq.eI (w1.setCell ⟨g,4,none⟩ v1) base ok' g gm vm v1 (vs++[.slice none 0 0]) (us++[.slice none 0 0]) s1 s2 s3 xs n (ls++[[]]):=by
 have hty:=Kd.gn h.out;have h1:=h.far (row:=vl.ownBlock) hg hty (by decide) (fun e=>e.trans h.cY) hok (vl':=vl) (vs':=vs++[.slice none 0 0]) (us':=us++[.slice none 0 0]) (ls':=ls++[[]]) (w1:=w1);have hb:w1.heap[g]? = some (.cells #[.int .i64 s1,.int .i64 s2,.int .i64 s3,.pointer (some ⟨gm,0,none⟩),vl] 61 (0,0)):=(hg.block g (dg h.cY) (aq.mU h.cY hty (by decide))).trans h.cY;have hm:w1.heap[gm]? = some (.cells #[vm,.int .i64 n] 78 (0,0)):=(hg.block gm (dg h.blm) (aq.mU h.blm hty (by decide))).trans h.blm;have hr:=Kd.aH (aq.sw h.row hg hty (aq.nN h.row hty (by decide)) (by intro q hq;cases hq)) hok;have hs:=((h.rs.far hg hty (fun j hj=>aq.nN (h.rs.rows j hj) hty (by decide)) (by decide)).mono (ok':=fun k=>ok' k∧some k≠vm.ownBlock) (fun k hk=>⟨hok k hk.1,hk.2⟩)).snoc
 have hne:gm≠g:=fun e=>by
  rw [e,hb] at hm
  injection hm with hm
  injection hm with _ hm
  exact absurd hm (by decide)
 exact ⟨h.ge,hok _ h.okg,bn hb 4 v1 rfl,h.gem,hok _ h.okm,dW hm hne v1 (p:=⟨g,4,none⟩),Kd.jF hr hb (by decide) 4 v1,Kd.jF ho hb (by decide) 4 v1,by simp [h.all],⟨hs.len,fun i hi=>Kd.jF (hs.rows i hi) hb (by decide) 4 v1,hs.apart⟩⟩
end
def aq.f (s1 s2 s3:Int):Option Bool:=(fJ.f s1 4096).bind fun a=>(fJ.f s2 4096).bind fun b=>(fJ.f s3 8).bind fun c=>some (a && b && c)
theorem aq.calls (s1 s2 s3:Int) (r:Bool) (w:World) (h:aq.f s1 s2 s3=some r):Calls Tryz.prog 8 #[.agg #[.int .i64 s1,.int .i64 s2,.int .i64 s3]] w fun e w'=>Below w.heap.size w w'∧(r=false→e = .returned (.tuple #[.pointer none,.int .i64 1]))∧(r=true→∃ g,e = .returned (.tuple #[.pointer (some ⟨g,0,none⟩),.int .i64 0])∧aq.At w' w.heap.size (fun k=>w.heap.size≤k) g s1 s2 s3 [] 0 []):=by
 have hu30:=Tryz.underlying27;have hu51:=Tryz.underlying61;have hu23:=Tryz.underlying23;have hu49:=Tryz.underlying59;have hu53:=Tryz.underlying64;have hu24:=Tryz.underlying32;have hu61:=Tryz.underlying73
 have hsz:(Tryz.prog.info? 23).map (·.size)=some 3:=by
  obtain ⟨i0,hi0,hz⟩:=Option.map_eq_some_iff.1 EL
  simp only [Prod.mk.injEq] at hz
  rw [hi0];simp [hz.2.1]
 unfold aq.f at h
 replace h:=bV h;obtain ⟨a,x1,h⟩:=h;replace h:=bV h;obtain ⟨b,x2,h⟩:=h;replace h:=bV h;obtain ⟨c,x3,h⟩:=h
 obtain rfl:=Option.some.inj h
 have X1:=aS x1;have X2:=aS x2;have X3:=aS x3;clear x1 x2 x3 h
 cases a with
 | false=>
  go_enter Tryz.func8,Tryz.ntmps8
  go_wp2_with (first | ((with_reducible refine aX (N:=1) rfl ?_);refine aY ?hg (N:=1) ?hd (cs:=#[.int .i64 s1,.int .i64 s2,.int .i64 s3]) (t:=23) ?hr ?_;(case hd=>rfl);(case hg=>rfl);(case hr=>(first | (go_simp;done) | (go_simp;rfl)));intro p1 hg w1 hb hbl;have B1:=aS hb;have HB:=aS hbl;clear hg hb hbl;have q0:=iC B1) | (go_at_call 24;(with_reducible refine (fJ.calls s1 4096 false _ X1.out).mono ?_);rintro e_ w_ ⟨rfl,hb⟩;have n1_:=aS (aK B1.out hb.below);have n2_:=aS (aN HB.out hb.below);clear B1 HB hb q0;have B1:=n1_;have HB:=n2_;clear n1_ n2_;have q0:=iC B1))
  go_ret2
  exact ⟨HB.out,fun _=>rfl,fun h=>Bool.noConfusion h⟩
 | true=>
 cases b with
 | false=>
  go_enter Tryz.func8,Tryz.ntmps8
  go_wp2_with (first | ((with_reducible refine aX (N:=1) rfl ?_);refine aY ?hg (N:=1) ?hd (cs:=#[.int .i64 s1,.int .i64 s2,.int .i64 s3]) (t:=23) ?hr ?_;(case hd=>rfl);(case hg=>rfl);(case hr=>(first | (go_simp;done) | (go_simp;rfl)));intro p1 hg w1 hb hbl;have B1:=aS hb;have HB:=aS hbl;clear hg hb hbl;have q0:=iC B1) | (go_at_call 24;(with_reducible refine (fJ.calls s1 4096 true _ X1.out).mono ?_);rintro e_ w_ ⟨rfl,hb⟩;have n1_:=aS (aK B1.out hb.below);have n2_:=aS (aN HB.out hb.below);clear B1 HB hb q0;have B1:=n1_;have HB:=n2_;clear n1_ n2_;have q0:=iC B1) | (go_at_call 24;(with_reducible refine (fJ.calls s2 4096 false _ X2.out).mono ?_);rintro e_ w_ ⟨rfl,hb⟩;have n1_:=aS (aK B1.out hb.below);have n2_:=aS (aN HB.out hb.below);clear B1 HB hb q0;have B1:=n1_;have HB:=n2_;clear n1_ n2_;have q0:=iC B1))
  go_ret2
  exact ⟨HB.out,fun _=>rfl,fun h=>Bool.noConfusion h⟩
 | true=>
 cases c with
 | false=>
  go_enter Tryz.func8,Tryz.ntmps8
  go_wp2_with (first | ((with_reducible refine aX (N:=1) rfl ?_);refine aY ?hg (N:=1) ?hd (cs:=#[.int .i64 s1,.int .i64 s2,.int .i64 s3]) (t:=23) ?hr ?_;(case hd=>rfl);(case hg=>rfl);(case hr=>(first | (go_simp;done) | (go_simp;rfl)));intro p1 hg w1 hb hbl;have B1:=aS hb;have HB:=aS hbl;clear hg hb hbl;have q0:=iC B1) | (go_at_call 24;(with_reducible refine (fJ.calls s1 4096 true _ X1.out).mono ?_);rintro e_ w_ ⟨rfl,hb⟩;have n1_:=aS (aK B1.out hb.below);have n2_:=aS (aN HB.out hb.below);clear B1 HB hb q0;have B1:=n1_;have HB:=n2_;clear n1_ n2_;have q0:=iC B1) | (go_at_call 24;(with_reducible refine (fJ.calls s2 4096 true _ X2.out).mono ?_);rintro e_ w_ ⟨rfl,hb⟩;have n1_:=aS (aK B1.out hb.below);have n2_:=aS (aN HB.out hb.below);clear B1 HB hb q0;have B1:=n1_;have HB:=n2_;clear n1_ n2_;have q0:=iC B1) | (go_at_call 24;(with_reducible refine (fJ.calls s3 8 false _ X3.out).mono ?_);rintro e_ w_ ⟨rfl,hb⟩;have n1_:=aS (aK B1.out hb.below);have n2_:=aS (aN HB.out hb.below);clear B1 HB hb q0;have B1:=n1_;have HB:=n2_;clear n1_ n2_;have q0:=iC B1))
  go_ret2
  exact ⟨HB.out,fun _=>rfl,fun h=>Bool.noConfusion h⟩
 | true=>
 go_enter Tryz.func8,Tryz.ntmps8
 go_upto_region 4 with (first | ((with_reducible refine aX (N:=1) rfl ?_);refine aY ?hg (N:=1) ?hd (cs:=#[.int .i64 s1,.int .i64 s2,.int .i64 s3]) (t:=23) ?hr ?_;(case hd=>rfl);(case hg=>rfl);(case hr=>(first | (go_simp;done) | (go_simp;rfl)));intro p1 hg w1 hb hbl;have B1:=aS hb;have HB:=aS hbl;clear hg hb hbl;have q0:=iC B1) | (go_at_call 24;(with_reducible refine (fJ.calls s1 4096 true _ X1.out).mono ?_);rintro e_ w_ ⟨rfl,hb⟩;have n1_:=aS (aK B1.out hb.below);have n2_:=aS (aN HB.out hb.below);clear B1 HB hb q0;have B1:=n1_;have HB:=n2_;clear n1_ n2_;have q0:=iC B1) | (go_at_call 24;(with_reducible refine (fJ.calls s2 4096 true _ X2.out).mono ?_);rintro e_ w_ ⟨rfl,hb⟩;have n1_:=aS (aK B1.out hb.below);have n2_:=aS (aN HB.out hb.below);clear B1 HB hb q0;have B1:=n1_;have HB:=n2_;clear n1_ n2_;have q0:=iC B1) | (go_at_call 24;(with_reducible refine (fJ.calls s3 8 true _ X3.out).mono ?_);rintro e_ w_ ⟨rfl,hb⟩;have n1_:=aS (aK B1.out hb.below);have n2_:=aS (aN HB.out hb.below);clear B1 HB hb q0;have B1:=n1_;have HB:=n2_;clear n1_ n2_;have q0:=iC B1))
 refine dz (n:=6) (ds:=[]) (S:=fun w'=>w'.rangeAt p1 0 [.int .i64 s1,.int .i64 s2,.int .i64 s3]) (bA 6 0) (by kernel_rfl) rfl rfl (ia (au B1.out)) (fun hHeld=>?_)
 generalize hw_:World.drew _=wd at hHeld ⊢
 have B1d:ak (wd.heap[p1]? = _):=aS (hw_▸au B1.out);have HBd:ak (Below w.heap.size w wd):=aS (hw_▸aN HB.out (bN (Below.refl _ _)));clear hw_ HB B1;refine cH (T:=(true,[([],[]),([],[]),([0,1],[0,1]),([2],[2]),([3,1,0,1,2,3],[3]),([4,0,1,2,3,4],[])])) (B:=[0,0,3,7,15,31]) (by kernel_rfl) (by kernel_rfl) (fun HT_ HW_=>?_);refine iw (i:=0) (N:=(some 24)) (v:=.agg #[.int .i64 s1,.int .i64 s2,.int .i64 s3]) (a':=?_) (bA 6 1) rfl rfl (iD HT_.out HW_.out (by kernel_rfl)) (fun _ _ _ h=>h) (yieldsIf_load_mid (by rfl) 23 _ rfl p1 0 (by go_simp) _ _ (fun w' hw'=>hw') hu23 rfl hsz) hHeld ?_ ?_
 rotate_left
 ·
  simp only [Act.put,dw,dx,lss,bC,cm]
  rfl
 refine dJ 1 (N:=some 25) (bA 6 3) HT_ (fun K hK=>?_);refine ep Tryz.func25 (by kernel_rfl) rfl #[] (by rfl) rfl rfl cD ?_
 with_reducible refine (ck.calls _).mono ?_
 rintro e_ w2 ⟨gm,rfl,hm,hb⟩
 refine ⟨_,rfl,?_⟩;have HM:=aS (hm.lower HBd.out.size);have B1:=aS (aK B1d.out hb);have HB2:=aS (aN HBd.out hb);clear hm hb B1d HBd;refine hK.out _ _ (ia B1.out) (fun hHeld=>?_);clear hK K;refine nm 25 ?_;refine aZ [(2,26)] ?_
 iterate 1 (refine cr HT_ ?_)
 refine bX (bA 6 7) (by kernel_rfl) ?_;refine dJ 3 (N:=some 27) (bA 6 15) HT_ (fun K hK=>?_);refine CT (by rfl) (N:=27) rfl (cs:=#[.int .i64 s1,.int .i64 s2,.int .i64 s3,.pointer (some ⟨gm,0,none⟩),.slice none 0 0]) (t:=61) ?hr ?_
 (case hr=>(first | (go_simp;done) | (go_simp;rfl)))
 intro gt hg w3 hk hbl
 have HT:ak (aq.At w3 w.heap.size (fun k=>w.heap.size≤k) gt s1 s2 s3 [] 0 []):=aS ⟨gm,_,_,[],by rw [hg];exact HB2.out.size,by rw [hg];exact HB2.out.size,hk,HM.out.1,HM.out.1,aK HM.out.2.1 hbl,Kd.dX _ _ _ _ _,Kd.dX _ _ _ _ _,rfl,rfl,fun i hi=>absurd hi (Nat.not_lt_zero i),fun i j _ hj=>absurd hj (Nat.not_lt_zero j)⟩;have HB:=aS (aN HB2.out hbl);have B13:=aS (aK B1.out hbl);clear hg hk hbl HM HB2 B1;refine hK.out _ _ (ia B13.out) (fun hHeld=>?_);clear hK K;refine nm 27 ?_;refine aZ [(4,2),(5,3)] ?_
 iterate 2 (refine cr HT_ ?_)
 refine bX (bA 6 63) (by kernel_rfl) ?_;refine dQ (cX HT_.out (by kernel_rfl)) ?_;clear HT_ HW_ hHeld B13
 try go_wp2
 go_ret2
 exact ⟨HB.out,fun h=>Bool.noConfusion h,fun _=>⟨gt,rfl,HT.out⟩⟩
theorem sK.calls (g base:Nat) (xs:List av) (n:Int) (v:Value) (w:World) (hA:ck.At w base g xs n v) :
  Calls Tryz.prog 31 #[.pointer (some ⟨g,0,none⟩)] w fun e w'=>e = .returned (.int .i64 (xs.length:Int))∧Below w.heap.size w w':=by
 have hu46:=Tryz.underlying78;have hu22:=Tryz.underlying32;obtain ⟨A,cc,rfl,hcl,hC⟩:=hA.rows;have B:=aS hA.2.1;clear hA hcl hC;have q0:=Dl B
 go_enter Tryz.func31,Tryz.ntmps31
 go_wp2
 go_ret
 exact ⟨rfl,Below.refl _ _⟩
def eW.f (l0:List (av)):Option (List (av)):=if l0.length*64≤140737488355328 then some l0 else none
theorem eW.calls (A0:Option Addr) (c0:Nat) (l0 r:List (av)) (w:World) (hr0:Kd.C cC w A0 l0.length l0) (hc0:l0.length≤c0) (h:eW.f l0=some r) :
  Calls Tryz.prog 52 #[.slice A0 l0.length c0] w fun e w'=>∃ v0_:Value,e = .returned (v0_)∧Kd.R cC 34 w' w.heap.size (fun _=>True) v0_ r∧Below w.heap.size w w':=by
 unfold eW.f at h
 split at h
 ·
  rename_i hlim
  obtain rfl:=Option.some.inj h
  clear h;have HL:=aS hlim;clear hlim;have HR:=aS hr0;clear hr0;have HC:=aS hc0;clear hc0
  cases A0 with
  | none=>
   have hl:l0=[]:=by
    rcases Nat.eq_zero_or_pos l0.length with h0 | h0
    ·
     exact List.eq_nil_of_length_eq_zero h0
    ·
     obtain ⟨ad,h,_⟩:=HR.out.2.2 h0;cases h
   subst hl
   have hq:=fun (w:World) (n c n' c':Nat)=>Lib.run_eql_slice_nil (P:=Tryz.prog) w 32 34 none n c n' c' Tryz.underlying32
   go_enter Tryz.func52,Tryz.ntmps52
   go_wp2
   go_ret
   exact ⟨_,rfl,Kd.dX _ _ _ _ _,Below.refl _ _⟩
  | some ad=>
   have hq:=fun (w:World) (n c n' c':Nat)=>Lib.run_eql_slice_nil (P:=Tryz.prog) w 32 34 (some ad) n c n' c' Tryz.underlying32
   go_enter Tryz.func52,Tryz.ntmps52
   go_wp2_with (first
    | ((with_reducible refine aX (N:=5) rfl ?_);refine Kd.pH cC _ 34 ?hg (N:=5) ?hd (xs:=[]) (inner:=[]) (ok:=fun _=>True) (okp:=fun _=>True) ?hr ?hp (fun _ hk=>hk) trivial (Below.refl _ _) (Nat.le_refl _) (by simp) ?_;(case hd=>rfl);(case hg=>rfl);(case hr=>first | (go_simp;done) | (go_simp;rfl));(case hp=>exact bH.none _ _);intro v1 w1 ho hb hg_ hnew_;clear hg_ hnew_;have HO:=aS ho;have HB:=aS hb;clear ho hb)
    | (at_builtin;refine Kd.fW cC (Rr:=(cC).K w) (w0:=w) w.heap.size rfl (.tmp 5) _ 32 34 _ _ rfl Tryz.underlying32 fe rfl (by decide) (by decide) v1 [] l0 (some ad) l0.length c0 (fun _=>True) (fun _=>False) rfl rfl HO.out (HR.out.gI HB.out (fun _ _ hp=>hp)) (fun _ _ hp=>hp) (fun _ hk=>hk.elim) (fun _ _=>trivial) HB.out HB.out.size (by have:=HL.out;simp;omega) ?_;intro v2 w2 ho hb hg hat;clear hg hat;have HO2:=aS ho;have HB2:=aS hb;clear ho hb))
   go_ret
   exact ⟨_,rfl,HO2.out,HB2.out⟩
 ·
  cases h
end Go.Proofs.YtcbhfedcdnjljaaGreat.X

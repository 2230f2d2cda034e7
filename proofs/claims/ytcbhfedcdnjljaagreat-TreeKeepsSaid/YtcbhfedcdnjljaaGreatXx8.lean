import Derived.Test.YtcbhfedcdnjljaaGreatXx7
set_option maxHeartbeats 8000000
set_option maxRecDepth 100000
set_option linter.unusedVariables false
set_option linter.unusedSimpArgs false
namespace Go.Proofs.YtcbhfedcdnjljaaGreat.X
open Go.RowKit Go.Proofs.YtcbhfedcdnjljaaGreatW.PrintWords Go.Proofs.YtcbhfedcdnjljaaGreatW.PrintLast Go.Proofs.YtcbhfedcdnjljaaGreatW.PrintMore
attribute [local go_sem] gn gu iu ic fJ fN gA gC ig
structure aI.ot (w:World) (base g:Nat) (vl vb vf:Value) (l:List au) (bs:List (List au)) (fl:List Int):Prop where
 ge:base≤g
 dg:w.heap[g]? = some (.cells #[vl,vb,vf] 111 (0,0))
 hl:Kd.R bP 34 w base (fun _=>True) vl l
 hb:Kd.R (Kd.slice 34 bP) 32 w base (fun _=>True) vb bs
 hf:Kd.R (Kd.int .u8) 5 w base (fun _=>True) vf fl
def aI.At (w:World) (base g:Nat) (l:List au) (bs:List (List au)) (fl:List Int):Prop:=∃ vl vb vf,aI.ot w base g vl vb vf l bs fl
section
variable {w w1:World} {base b g:Nat} {vl vb vf:Value} {l:List au} {bs:List (List au)} {fl:List Int}
theorem aI.ot.step (h:aI.ot w base g vl vb vf l bs fl) (hm:∀ k,base≤k→k<w.heap.size→w1.heap[k]? = w.heap[k]?):aI.ot w1 base g vl vb vf l bs fl:=
 ⟨h.ge,(hm g h.ge (di h.dg)).trans h.dg,Kd.aE (Kd.j4 (Kd.eI h.hl) (fun k hk hlt=>hm k hk.2.1 hlt)) (fun _ _=>trivial),
  Kd.aE (Kd.j4 (Kd.eI h.hb) (fun k hk hlt=>hm k hk.2.1 hlt)) (fun _ _=>trivial),Kd.aE (Kd.j4 (Kd.eI h.hf) (fun k hk hlt=>hm k hk.2.1 hlt)) (fun _ _=>trivial)⟩
theorem aI.ot.below (h:aI.ot w base g vl vb vf l bs fl) (hb:Below w.heap.size w w1):aI.ot w1 base g vl vb vf l bs fl:=h.step (fun k _ hk=>hb.block k hk)
theorem aI.ot.lower (h:aI.ot w base g vl vb vf l bs fl) (hb:b≤base):aI.ot w b g vl vb vf l bs fl:=
 ⟨Nat.le_trans hb h.ge,h.dg,Kd.bh h.hl hb,Kd.bh h.hb hb,Kd.bh h.hf hb⟩
theorem aI.ot.up (h:aI.ot w base g vl vb vf l bs fl):aI.At w base g l bs fl:=⟨vl,vb,vf,h⟩
theorem aI.At.step (h:aI.At w base g l bs fl) (hm:∀ k,base≤k→k<w.heap.size→w1.heap[k]? = w.heap[k]?):aI.At w1 base g l bs fl:=by
 obtain ⟨vl,vb,vf,h⟩:=h;exact ⟨vl,vb,vf,h.step hm⟩
theorem aI.At.below (h:aI.At w base g l bs fl) (hb:Below w.heap.size w w1):aI.At w1 base g l bs fl:=h.step (fun k _ hk=>hb.block k hk)
theorem aI.At.lower (h:aI.At w base g l bs fl) (hb:b≤base):aI.At w b g l bs fl:=by
 obtain ⟨vl,vb,vf,h⟩:=h;exact ⟨vl,vb,vf,h.lower hb⟩
end
structure aI.St (w0 w:World) (g:Nat) (vl vb v9:Value) (l:List au) (bs:List (List au)) (rest:List Int):Prop where
 ge:w0.heap.size≤g
 dg:w.heap[g]? = some (.cells #[vl,vb,.slice none 0 0] 111 (0,0))
 hl:Kd.R bP 34 w w0.heap.size (fun _=>True) vl l
 hb:Kd.R (Kd.slice 34 bP) 32 w w0.heap.size (fun k=>some k≠vl.ownBlock) vb bs
 hr:Kd.V (Kd.int .u8) 5 w w0.heap.size (fun k=>some k≠vl.ownBlock∧some k≠vb.ownBlock∧k≠g) v9 rest
 below:Below w0.heap.size w0 w
section
variable {w0 w W W1 W2:World} {g N:Nat} {vl vb v9 vl1 vb1 vr vn:Value} {l ll1:List au} {bs bs1:List (List au)} {rest r1:List Int}
theorem aI.St.on (h:aI.St w0 w g vl vb v9 l bs rest) (hb:Below w.heap.size w W):aI.St w0 W g vl vb v9 l bs rest:=
 ⟨h.ge,aK h.dg hb,Kd.dO h.hl hb,Kd.dO h.hb hb,Kd.kN h.hr hb,aJ h.below hb⟩
theorem aI.St.mid (h:aI.St w0 W g vl vb v9 l bs rest) (hg1:W.grownBy W1 vb.ownBlock):Kd.R bP 34 W1 w0.heap.size (fun _=>True) vl l∧W1.heap[g]? = some (.cells #[vl,vb,.slice none 0 0] 111 (0,0)):=
 ⟨Kd.aE (Kd.oG (Kd.jK rfl h.hl) hg1 (fun k hk=>by
  obtain ⟨cells,hc⟩:=Kd.gj h.hl k hk.symm
  exact Kd.lS h.hb hc (by decide))) (fun _ _=>trivial),ew h.dg hg1 (Kd.lS h.hb h.dg (by decide))⟩
theorem aI.St.next (h:aI.St w0 W g vl vb v9 l bs rest) (hr:Kd.R (Kd.int .u8) 5 W N (fun _=>True) vr r1) (hvl:∀ k,vl.ownBlock=some k→k<N) (hvb:∀ k,vb.ownBlock=some k→k<N) (hgN:g<N)
  (ho1:Kd.R (Kd.slice 34 bP) 32 W1 w0.heap.size (fun k=>some k≠vl.ownBlock) vb1 bs1) (hg1:W.grownBy W1 vb.ownBlock) (hat1:vb1.ownBlock=vb.ownBlock∨∃ b,vb1.ownBlock=some b∧W.heap.size≤b)
  (ho2:Kd.R bP 34 W2 w0.heap.size (fun _=>True) vl1 ll1) (hg2:W1.grownBy W2 vl.ownBlock) (hat2:vl1.ownBlock=vl.ownBlock∨∃ b,vl1.ownBlock=some b∧W1.heap.size≤b) (hb2:Below w0.heap.size w0 W2) :
  aI.St w0 ((W2.setCell ⟨g,1,none⟩ vb1).setCell ⟨g,0,none⟩ vl1) g vl1 vb1 vr ll1 bs1 r1:=by
 obtain ⟨hl1,hG1⟩:=h.mid hg1;have hG2:=ew hG1 hg2 (Kd.lS hl1 hG1 (by decide));have hG3:(W2.setCell ⟨g,1,none⟩ vb1).heap[g]? = some (.cells #[vl,vb1,.slice none 0 0] 111 (0,0)):=bk hG2 1 vb1 rfl;have hG4:((W2.setCell ⟨g,1,none⟩ vb1).setCell ⟨g,0,none⟩ vl1).heap[g]? = some (.cells #[vl1,vb1,.slice none 0 0] 111 (0,0)):=bk hG3 0 vl1 rfl;refine ⟨h.ge,hG4,Kd.jB (Kd.jB ho2 hG2 (by decide) 1 vb1) hG3 (by decide) 0 vl1,?_,?_,lC (lC hb2 h.ge) h.ge⟩
 ·
  refine Kd.jB (Kd.jB (Kd.aE (Kd.oG (Kd.eI ho1) hg2 (fun k hk=>hk.1)) (fun k hk=>?_)) hG2 (by decide) 1 vb1) hG3 (by decide) 0 vl1
  rcases hat2 with e | ⟨b,e,hle⟩
  ·
   rw [e];exact hk.1
  ·
   rw [e];intro he;injection he with he;have:=hk.2.2.1;omega
 ·
  have hb0:∀ k,some k=vr.ownBlock→N≤k∧k<W.heap.size:=fun k hk=>⟨Kd.fF hr k hk.symm,Kd.cN hr k hk.symm⟩
  have r1':=Kd.oG (Kd.jK rfl hr) hg1 (fun k hk he=>by have:=hb0 k hk;have:=hvb k he.symm;omega)
  have r2:=Kd.oG r1' hg2 (fun k hk he=>by have:=hb0 k hk;have:=hvl k he.symm;omega);have r3:=Kd.jB (Kd.jB r2 hG2 (by decide) 1 vb1) hG3 (by decide) 0 vl1;refine Kd.eC (Kd.vL r3) (fun k hk=>?_);have hk1:=hb0 k hk;have hsz:=hg1.size;refine ⟨fun he=>?_,fun he=>?_,by omega⟩
  ·
   rcases hat2 with e | ⟨b,e,hle⟩
   ·
    have:=hvl k (by rw [←e];exact he.symm);omega
   ·
    rw [e] at he;injection he with he;omega
  ·
   rcases hat1 with e | ⟨b,e,hle⟩
   ·
    have:=hvb k (by rw [←e];exact he.symm);omega
   ·
    rw [e] at he;injection he with he;omega
end
def aI.lp:Nat→List Int→List au→List (List au)→Option (Option (List au × List (List au)))
 | 0,_,_,_=>none
 | k+1,rest,l,bs=>if (rest.length:Int)=0 then some (some (l,bs)) else (dM.f k rest).bind fun q=>if q.2.2=0 then (if (l.length+q.1.length)*64≤140737488355328∧(bs.length+1)*24≤140737488355328 then aI.lp k q.2.1 (l++q.1) (bs++[q.1]) else none) else some none
theorem aI.lJ:∀ k rest l bs,aG (aI.lp k rest l bs) (aI.lp (k+1) rest l bs)
 | 0,_,_,_=>aG.none _
 | k+1,rest,l,bs=>by
  unfold aI.lp
  exact aG.ite (aG.refl _) (aG.bind (dM.mono _ _) fun _=>aG.ite (aG.ite (aI.lJ k _ _ _) (aG.refl _)) (aG.refl _))
def aI.tail (k:Nat) (b:List Int) (l:List au) (bs:List (List au)):Option (Option (List au × List (List au) × List Int)):=
 (cP.f k l).bind fun fl=>(aQ.f k l).bind fun so=>if so=true then (aV.f k bs).bind fun cu=>if cu=true then (fq.f k bs fl).bind fun y=>if y.2=0 then (aW.f k y.1 b).bind fun eq=>if eq=true then some (some (l,bs,fl)) else some none else some none else some none else some none
def aI.f (k:Nat) (b:List Int):Option (Option (List au × List (List au) × List Int)):=
 if (b.length:Int)<4 then some none else (br.f k (b.drop (b.length - 4))).bind fun q=>
  if wrap64 (wrap64 ((b.length:Int) - 4) - q.1)<0 then some none else if wrap64 (wrap64 ((b.length:Int) - 4) - q.1)≤(b.length:Int) then (aI.lp k (b.take (wrap64 (wrap64 ((b.length:Int) - 4) - q.1)).toNat) [] []).bind fun s=>match s with
   | none=>some none
   | some (l,bs)=>aI.tail k b l bs else none
theorem aI.mD (k b l bs):aG (aI.tail k b l bs) (aI.tail (k+1) b l bs):=
 aG.bind (cP.mono _ _) fun _=>aG.bind (aQ.mono _ _) fun _=>aG.ite (aG.bind (aV.mono _ _) fun _=>aG.ite (aG.bind (fq.mono _ _ _) fun _=>aG.ite (aG.bind (aW.mono _ _ _) fun _=>aG.refl _) (aG.refl _)) (aG.refl _)) (aG.refl _)
theorem aI.mono:∀ a0 k,aG (aI.f k a0) (aI.f (k+1) a0):=fun b k=>
 aG.ite (aG.refl _) (aG.bind (br.mono _ _) fun _=>aG.ite (aG.refl _) (aG.ite (aG.bind (aI.lJ _ _ _ _) fun s=>by
  cases s with
  | none=>exact aG.refl _
  | some p=>exact aI.mD _ _ _ _) (aG.refl _)))
def aI.Res (w w':World) (e:Ending):Option (List au × List (List au) × List Int)→Prop
 | none=>e = .returned (.tuple #[.pointer none,.int .i64 2])∧Below w.heap.size w w'
 | some (l,bs,fl)=>∃ g:Nat,e = .returned (.tuple #[.pointer (some ⟨g,0,none⟩),.int .i64 0])∧aI.At w' w.heap.size g l bs fl∧Below w.heap.size w w'
theorem aI.calls (k:Nat) (A0:Option Addr) (c0:Nat) (b:List Int) (o:Option (List au × List (List au) × List Int)) (w:World) (hr0:Kd.C (Kd.int .u8) w A0 b.length b) (hc0:b.length≤c0) (h:aI.f k b=some o) :
  Calls Tryz.prog 51 #[.slice A0 b.length c0] w fun e w'=>aI.Res w w' e o:=by
 have hu26:=Tryz.underlying51;have hu22:=Tryz.underlying32;have hu39:=Tryz.underlying73;have hu70:=Tryz.underlying111;have hmx:b.length≤9223372036854775807:=hr0.2.1;have HR:=aS hr0;have HC:=aS hc0;have HMX:=aS hmx;clear hr0 hc0 hmx
 unfold aI.f at h
 by_cases h4:(b.length:Int)<4
 ·
  rw [if_pos h4] at h
  obtain rfl:=Option.some.inj h
  have d4:decide ((b.length:Int)<4)=true:=decide_eq_true h4;have e4:decide (b.length<4)=true:=decide_eq_true (by omega);clear h h4
  go_enter Tryz.func51,Tryz.ntmps51
  go_wp2
  go_ret2
  exact ⟨rfl,Below.refl _ _⟩
 rw [if_neg h4] at h;have d4:decide ((b.length:Int)<4)=false:=decide_eq_false h4;have e4:decide (b.length<4)=false:=decide_eq_false (by omega)
 have hw4:wrap64 ((b.length:Int) - 4)=(b.length:Int) - 4:=by rw [←bB,IntKind.wrap_i64];have:=HMX.out;omega
 replace h:=cD h;obtain ⟨⟨q1,q2,q3⟩,x1,h⟩:=h;rw [hw4] at h
 replace h:(if wrap64 ((b.length:Int) - 4 - q1)<0 then some none else if wrap64 ((b.length:Int) - 4 - q1)≤(b.length:Int) then (aI.lp k (b.take (wrap64 ((b.length:Int) - 4 - q1)).toNat) [] []).bind fun s=>match s with
   | none=>some none
   | some (l,bs)=>aI.tail k b l bs else none)=some o:=h
 have X1:=aS x1;have H:=aS h;have H4:=aS h4;clear x1 h h4;obtain ⟨ii,hii,_,hsz,_⟩:=info_parts gJ;have hcut1:=fY (P:=Tryz.prog) 51 5 .i64 hu26 hii 1 hsz A0 b.length c0 ((b.length:Int) - 4) (by have:=H4.out;omega) (by omega);have HCd:=aS (Kd.qx HR.out (m:=((b.length:Int) - 4).toNat) (by omega) HC.out)
 have hl4:b.length - ((b.length:Int) - 4).toNat=4:=by have:=H4.out;omega
 have hd4:((b.length:Int) - 4).toNat=b.length - 4:=by have:=H4.out;omega
 rw [show ((Kd.int .u8):Kd Int).sz=1 from rfl] at HCd;rw [hl4,hd4] at hcut1;rw [hd4] at HCd
 have hd5:(b.drop (b.length - 4)).length=4:=by rw [lV];have:=H4.out;omega
 obtain ⟨bd,hbd⟩:∃ bd,bd=b.drop (b.length - 4):=⟨_,rfl⟩
 rw [←hbd] at HCd X1 hd5
 generalize (if c0=b.length - 4 then A0 else A0.map (·.add ((b.length - 4)*1)))=Ad at hcut1 HCd
 obtain ⟨cd,hcd⟩:∃ cd,c0 - (b.length - 4)=cd:=⟨_,rfl⟩
 rw [hcd,← hd5] at hcut1;have HD5:ah (bd.length≤cd):=aS (by rw [hd5];have:=HC.out;have:=H4.out;omega);clear hbd hl4 hd4 hd5 hcd
 go_enter Tryz.func51,Tryz.ntmps51
 go_upto_region 5 with (first | (go_at_call 71;(with_reducible refine (br.calls k Ad cd bd q1 q2 q3 _ HCd.out HD5.out X1.out).mono ?_);rintro e_ w2 ⟨v2,rfl,ho,hb⟩;have HB2:=aS hb;clear ho hb))
 clear hcut1;have h:=H.out;clear H
 obtain ⟨end_,he_⟩:∃ x,wrap64 ((b.length:Int) - 4 - q1)=x:=⟨_,rfl⟩
 rw [he_] at h
 by_cases hneg:end_<0
 ·
  rw [if_pos hneg] at h
  obtain rfl:=Option.some.inj h
  have d5:decide (end_<0)=true:=decide_eq_true hneg;clear h hneg
  go_wp2
  go_ret2
  exact ⟨rfl,HB2.out⟩
 rw [if_neg hneg] at h;have d5:decide (end_<0)=false:=decide_eq_false hneg
 by_cases hle:end_≤(b.length:Int)
 case neg=>rw [if_neg hle] at h;cases h
 rw [if_pos hle] at h;replace h:=cD h;obtain ⟨s,x2,h⟩:=h;have HE:=aS (And.intro (show 0≤end_ by omega) hle);have H:=aS h;have X2:=aS x2;clear h x2 hneg hle;have hcut2:=jv (P:=Tryz.prog) 51 5 .i64 hu26 hii A0 b.length c0 end_ HE.out.1 HE.out.2 HC.out;have HCt:=aS (Kd.nP HR.out (m:=end_.toNat) (by have:=HE.out;omega))
 have hl2:(b.take end_.toNat).length=end_.toNat:=by rw [kR];have:=HE.out;omega
 obtain ⟨bt,hbt⟩:∃ bt,bt=b.take end_.toNat:=⟨_,rfl⟩
 rw [←hbt] at HCt X2 hl2;rw [←hl2] at hcut2;have HL2:ah (bt.length≤c0):=aS (by rw [hl2];have:=HE.out;have:=HC.out;omega);clear hbt hl2
 go_upto_region 8 with (first | ((with_reducible refine bf (N:=36) rfl ?_);refine aZ ?hg (N:=36) ?hd (cs:=#[.slice none 0 0,.slice none 0 0,.slice none 0 0]) (t:=111) ?hr ?_;(case hd=>rfl);(case hg=>rfl);(case hr=>(first | (go_simp;done) | (go_simp;rfl)));intro g hg w3 hb hbl;have HG:=aS hb;have GE:ah (w2.heap.size≤g):=aS (by rw [hg];exact Nat.le_refl _);have HB3:=aS hbl;clear hg hb hbl))
 go_wp2
 have HS0:ah (aI.St w w3 g (.slice none 0 0) (.slice none 0 0) (.slice A0 bt.length c0) [] [] bt):=aS ⟨Nat.le_trans HB2.out.size GE.out,HG.out,Kd.er _ _ _ _ _,Kd.er _ _ _ _ _,
  Kd.eC (Kd.kN (Kd.ni HL2.out (Kd.Bl (Kd.ld .u8) HCt.out)) (aJ HB2.out HB3.out)) (fun k hk=>⟨by simp [Value.ownBlock],by simp [Value.ownBlock],by have:=HB2.out.size;have:=GE.out;omega⟩),aJ HB2.out HB3.out⟩
 clear hcut2 HCt HL2 HG GE HB2 HB3 d4 e4 d5 he_ hw4
 go_loopg [9] k (fun kq v9 wr=>∃ (vl vb:Value) (rest:List Int) (l:List au) (bs:List (List au)),ah (aI.lp kq rest l bs=some s)∧ah (kq≤k)∧ah (aI.St w wr g vl vb v9 l bs rest))
 case atStart=>exact ⟨_,_,bt,[],[],X2,⟨Nat.le_refl _⟩,HS0⟩
 case round=>
  clear HS0 X2;obtain ⟨vl,vb,rest,l,bs,HA,HK,HS⟩:=hrel
  cases gk with
  | zero=>exact absurd HA.out (by simp [aI.lp])
  | succ k1=>
  have ha:=HA.out
  unfold aI.lp at ha
  clear HA;obtain ⟨A9,c9,rfl⟩:=Kd.mE HS.out.hr
  by_cases hz:(rest.length:Int)=0
  ·
   rw [if_pos hz] at ha
   obtain rfl:=Option.some.inj ha
   have d0:decide (0<(rest.length:Int))=false:=decide_eq_false (by omega);have d1:decide (0<rest.length)=false:=decide_eq_false (by omega);clear ha hz;have h:aI.tail k b l bs=some o:=H.out;clear H
   unfold aI.tail at h
   replace h:=cD h;obtain ⟨fl,x3,h⟩:=h;have X3:=aS x3;have H:=aS h;clear x3 h;have q3:=iU (aS HS.out.dg);obtain ⟨Al,cl,rfl⟩:=Kd.bn HS.out.hl;obtain ⟨Ab,cb,rfl⟩:=Kd.bn HS.out.hb
   go_upto_region 15 with (first | (go_at_call 70;(with_reducible refine (cP.calls k Al cl l fl _ (Kd.aX HS.out.hl).2.2 (Kd.aX HS.out.hl).2.1 X3.out).mono ?_);rintro e_ w5 ⟨vf,rfl,ho,hb⟩;obtain ⟨Af,cf,rfl⟩:=Kd.bn ho;have HF:=aS ho;have HS5:=aS (HS.out.on hb);clear ho hb q3;have q3:=iU (aS HS5.out.dg)))
   clear q3;have HV:ah (aI.ot (w5.setCell ⟨g,2,none⟩ (.slice Af fl.length cf)) w.heap.size g (.slice Al l.length cl) (.slice Ab bs.length cb) (.slice Af fl.length cf) l bs fl):=aS ⟨HS5.out.ge,bk HS5.out.dg 2 (.slice Af fl.length cf) rfl,Kd.jB HS5.out.hl HS5.out.dg (by decide) 2 (.slice Af fl.length cf),Kd.aE (Kd.jB HS5.out.hb HS5.out.dg (by decide) 2 (.slice Af fl.length cf)) (fun _ _=>trivial),Kd.jB (Kd.bh HF.out (Nat.le_trans HS.out.below.size (Nat.le_refl _))) HS5.out.dg (by decide) 2 (.slice Af fl.length cf)⟩;have HB:=aS (lC (j:=2) (v:=.slice Af fl.length cf) HS5.out.below HS5.out.ge);clear HS HS5 HF
   generalize w5.setCell ⟨g,2,none⟩ (.slice Af fl.length cf)=w6 at HV HB ⊢
   have h:=H.out;clear H;replace h:=cD h;obtain ⟨so,x4,h⟩:=h;have X4:=aS x4;have q3:=iU (aS HV.out.dg);clear x4
   cases so with
   | false=>
    rw [if_neg Bool.false_ne_true] at h
    obtain rfl:=Option.some.inj h
    clear h
    go_wp2_with (first | (go_at_call 73;(with_reducible refine (aQ.calls k Al cl l false _ (Kd.aX HV.out.hl).2.2 (Kd.aX HV.out.hl).2.1 X4.out).mono ?_);rintro e_ w7_ ⟨rfl,hb⟩;replace HV:=aS (HV.out.below hb);replace HB:=aS (aJ HB.out hb);clear hb q3;have q3:=iU (aS HV.out.dg)))
    go_ret2
    exact ⟨rfl,HB.out⟩
   | true=>
   rw [if_pos rfl] at h;replace h:=cD h;obtain ⟨cu,x5,h⟩:=h;have X5:=aS x5;clear x5
   cases cu with
   | false=>
    rw [if_neg Bool.false_ne_true] at h
    obtain rfl:=Option.some.inj h
    clear h
    go_wp2_with (first | (go_at_call 73;(with_reducible refine (aQ.calls k Al cl l true _ (Kd.aX HV.out.hl).2.2 (Kd.aX HV.out.hl).2.1 X4.out).mono ?_);rintro e_ w7_ ⟨rfl,hb⟩;replace HV:=aS (HV.out.below hb);replace HB:=aS (aJ HB.out hb);clear hb q3;have q3:=iU (aS HV.out.dg)) | (go_at_call 74;(with_reducible refine (aV.calls k Ab cb bs false _ (Kd.aX HV.out.hb).2.2 (Kd.aX HV.out.hb).2.1 X5.out).mono ?_);rintro e_ w8_ ⟨rfl,hb⟩;replace HV:=aS (HV.out.below hb);replace HB:=aS (aJ HB.out hb);clear hb q3;have q3:=iU (aS HV.out.dg)))
    go_ret2
    exact ⟨rfl,HB.out⟩
   | true=>
   rw [if_pos rfl] at h;replace h:=cD h;obtain ⟨⟨y1,y2⟩,x6,h⟩:=h;have X6:=aS x6;have H:=aS h;clear x6 h
   go_upto_region 17 with (first | (go_at_call 73;(with_reducible refine (aQ.calls k Al cl l true _ (Kd.aX HV.out.hl).2.2 (Kd.aX HV.out.hl).2.1 X4.out).mono ?_);rintro e_ w7_ ⟨rfl,hb⟩;replace HV:=aS (HV.out.below hb);replace HB:=aS (aJ HB.out hb);clear hb q3;have q3:=iU (aS HV.out.dg)) | (go_at_call 74;(with_reducible refine (aV.calls k Ab cb bs true _ (Kd.aX HV.out.hb).2.2 (Kd.aX HV.out.hb).2.1 X5.out).mono ?_);rintro e_ w8_ ⟨rfl,hb⟩;replace HV:=aS (HV.out.below hb);replace HB:=aS (aJ HB.out hb);clear hb q3;have q3:=iU (aS HV.out.dg)))
   refine dA (n:=14) (ds:=[]) (S:=fun w'=>w'.cell? ⟨g,1,none⟩=some (.slice Ab bs.length cb)∧w'.cell? ⟨g,2,none⟩=some (.slice Af fl.length cf)) (bA 14 0) (by kernel_rfl) rfl rfl ⟨(aD (ar HV.out.dg) 1).trans rfl,(aD (ar HV.out.dg) 2).trans rfl⟩ (fun hHeld=>?_)
   generalize hw_:World.drew _=wd at hHeld ⊢
   have HVd:ah (aI.ot wd w.heap.size g _ _ _ l bs fl):=aS (hw_▸HV.out.below (bO (Below.refl _ _)));have HBd:ah (Below w.heap.size w wd):=aS (hw_▸aJ HB.out (bO (Below.refl _ _)));clear hw_ HV HB q3;refine cI (T:=(true,[([],[]),([0],[0]),([1],[1]),([2],[2]),([],[]),([4],[4]),([5],[5]),([6],[6]),([3,7],[3,7]),([8],[8]),([9],[9]),([9],[9]),([10,8,0,1,2,3,4,5,6,7,8,9,10],[10]),([11,12,0,1,2,3,4,5,6,7,8,9,10,11,12],[11])])) (B:=[0,1,3,7,0,16,48,112,255,511,1023,1023,2047,8191]) (by kernel_rfl) (by kernel_rfl) (fun HT_ HW_=>?_);refine aY [(0,94),(1,95),(2,96)] ?_
   iterate 3 (refine cw HT_ ?_)
   refine bU (bA 14 7) (by kernel_rfl) ?_;refine aY [(3,97)] ?_
   iterate 1 (refine d9 HT_ HW_ hHeld ?_)
   refine bU (bA 14 15) (by kernel_rfl) ?_;refine aY [(4,98),(5,99),(6,100)] ?_
   iterate 3 (refine cw HT_ ?_)
   refine bU (bA 14 127) (by kernel_rfl) ?_;refine aY [(7,101)] ?_
   iterate 1 (refine d9 HT_ HW_ hHeld ?_)
   refine bU (bA 14 255) (by kernel_rfl) ?_;refine dH 8 (N:=some 102) (bA 14 511) HT_ (fun K hK=>?_);refine eu Tryz.func69 (by kernel_rfl) rfl #[.slice Ab bs.length cb,.slice Af fl.length cf] (by rfl) rfl rfl cH ?_
   with_reducible refine (fq.calls k Ab cb bs Af cf fl y1 y2 _ (Kd.aX HVd.out.hb).2.2 (Kd.aX HVd.out.hb).2.1 (Kd.aX HVd.out.hf).2.2 (Kd.aX HVd.out.hf).2.1 X6.out).mono ?_
   rintro e_ w9 ⟨vy,rfl,ho,hb⟩
   refine ⟨_,rfl,?_⟩;obtain ⟨Ay,cy,rfl⟩:=Kd.bn ho;have HY:=aS (Kd.aX ho);have HV:=aS (HVd.out.below hb);have HB:=aS (aJ HBd.out hb);clear ho hb HVd HBd;refine hK.out _ _ ⟨(aD HV.out.dg 1).trans rfl,(aD HV.out.dg 2).trans rfl⟩ (fun hHeld=>?_);clear hK K;refine nm 102 ?_;refine aY [(9,93),(10,103),(11,104),(12,13),(13,14)] ?_
   iterate 5 (refine cw HT_ ?_)
   refine bU (bA 14 16383) (by kernel_rfl) ?_;refine dQ (cY HT_.out (by kernel_rfl)) ?_;clear HT_ HW_ hHeld;have h:=H.out;clear H
   by_cases he:y2=0
   rotate_left
   ·
    rw [if_neg he] at h
    obtain rfl:=Option.some.inj h
    obtain ⟨he1,he2⟩:=jr he;clear he h
    go_wp2
    go_ret2
    exact ⟨rfl,HB.out⟩
   rw [if_pos he] at h;obtain ⟨he1,he2⟩:=jG he;replace h:=cD h;obtain ⟨eq,x7,h⟩:=h;have X7:=aS x7;clear x7 he
   cases eq with
   | false=>
    rw [if_neg Bool.false_ne_true] at h
    obtain rfl:=Option.some.inj h
    clear h
    go_wp2_with (first | (go_at_call 75;(with_reducible refine (aW.calls k Ay cy y1 A0 c0 b false _ HY.out.2.2 HY.out.2.1 (Kd.cV HR.out HB.out) HC.out X7.out).mono ?_);rintro e_ w9_ ⟨rfl,hb'⟩;have hb:=hb'.below;have n0_:=aS (HV.out.below hb);have n1_:=aS (aJ HB.out hb);clear HV HB;have HV:=n0_;have HB:=n1_;clear n0_ n1_ hb hb' HY))
    go_ret2
    exact ⟨rfl,HB.out⟩
   | true=>
    rw [if_pos rfl] at h
    obtain rfl:=Option.some.inj h
    clear h
    go_wp2_with (first | (go_at_call 75;(with_reducible refine (aW.calls k Ay cy y1 A0 c0 b true _ HY.out.2.2 HY.out.2.1 (Kd.cV HR.out HB.out) HC.out X7.out).mono ?_);rintro e_ w9_ ⟨rfl,hb'⟩;have hb:=hb'.below;have n0_:=aS (HV.out.below hb);have n1_:=aS (aJ HB.out hb);clear HV HB;have HV:=n0_;have HB:=n1_;clear n0_ n1_ hb hb' HY))
    go_ret2
    exact ⟨g,rfl,⟨_,_,_,HV.out⟩,HB.out⟩
  ·
   rw [if_neg hz] at ha;have d0:decide (0<(rest.length:Int))=true:=decide_eq_true (by omega);have d1:decide (0<rest.length)=true:=decide_eq_true (by omega);replace ha:=cD ha;obtain ⟨⟨l1,r1,e1⟩,y1,ha⟩:=ha;have Y1:=aS y1;have HA:=aS ha;clear hz y1 ha
   go_upto_region 11 with (first | (go_at_call 72;(with_reducible refine (dM.calls k1 A9 c9 rest l1 r1 e1 _ (Kd.dN HS.out.hr).2.2 (Kd.dN HS.out.hr).2.1 Y1.out).mono ?_);rintro e_ w4 ⟨vn,vr,rfl,hn,hr,hb⟩;have HN:=aS hn;have HRr:=aS hr;have HS4:=aS (HS.out.on hb);clear hn hr hb))
   have ha:=HA.out;clear HA
   by_cases he:e1=0
   rotate_left
   ·
    rw [if_neg he] at ha
    obtain rfl:=Option.some.inj ha
    obtain ⟨he1,he2⟩:=jr he
    obtain rfl:=Option.some.inj (show some none=some o from H.out)
    clear he ha
    go_wp2
    go_ret2
    exact ⟨rfl,HS4.out.below⟩
   rw [if_pos he] at ha;obtain ⟨he1,he2⟩:=jG he
   by_cases hlim:(l.length+l1.length)*64≤140737488355328∧(bs.length+1)*24≤140737488355328
   case neg=>rw [if_neg hlim] at ha;cases ha
   rw [if_pos hlim] at ha
   obtain ⟨bs1,hbs1⟩:∃ x,x=bs++[l1]:=⟨_,rfl⟩
   obtain ⟨ll1,hll1⟩:∃ x,x=l++l1:=⟨_,rfl⟩
   replace ha:aI.lp k1 r1 ll1 bs1=some s:=by rw [hbs1,hll1];exact ha
   have HBS:=aS hbs1;have HLS:=aS hll1;have HA:=aS ha;have HLM:=aS hlim;clear he ha hlim hbs1 hll1;have hvl:ah (∀ k,vl.ownBlock=some k→k<wr.heap.size):=aS (fun k hk=>Kd.cN HS.out.hl k hk);have hvb:ah (∀ k,vb.ownBlock=some k→k<wr.heap.size):=aS (fun k hk=>Kd.cN HS.out.hb k hk);have hgN:ah (g<wr.heap.size):=aS (di HS.out.dg);have hwN:ah (w.heap.size≤wr.heap.size):=aS HS.out.below.size;clear HS
   go_upto_region 13 with (fail)
   refine dA (n:=23) (ds:=[18,21]) (S:=fun w'=>w'.cell? ⟨g,0,none⟩=some vl∧w'.cell? ⟨g,1,none⟩=some vb) (bA 23 0) (by kernel_rfl) rfl rfl ⟨(aD (ar HS4.out.dg) 0).trans rfl,(aD (ar HS4.out.dg) 1).trans rfl⟩ (fun hHeld=>?_)
   generalize hw_:World.drew _=w5 at hHeld ⊢
   have HS5:ah (aI.St w w5 g vl vb _ l bs rest):=aS (hw_▸HS4.out.on (bO (Below.refl _ _)));have HN5:ah (Kd.R bP 34 w5 wr.heap.size (fun _=>True) vn l1):=aS (hw_▸Kd.dO HN.out (bO (Below.refl _ _)));have HR5:ah (Kd.R (Kd.int .u8) 5 w5 wr.heap.size (fun _=>True) vr r1):=aS (hw_▸Kd.dO HRr.out (bO (Below.refl _ _)));clear hw_ HS4 HN HRr;obtain ⟨An,cn,rfl⟩:=Kd.bn HN5.out;refine cI (T:=(true,[([],[]),([],[]),([],[]),([2],[2]),([3],[3]),([4],[4]),([],[]),([6],[6]),([5,7],[5,7]),([],[]),([9],[9]),([10],[10]),([11],[11]),([],[]),([12,13,8],[12,13]),([],[]),([0,0,2,3,4,5,6,7,8,12,14],[0]),([16,0,2,3,4,5,6,7,8,12,14],[16]),([17,8,14,0,2,3,4,5,6,7,8,12,14],[8,17]),([1,0,1,2,3,4,5,6,7,8,9,10,11,12,13,14,16,17,18],[1]),([19,0,1,2,3,4,5,6,7,8,9,10,11,12,13,14,16,17,18],[19]),([20,14,18,0,1,2,3,4,5,6,7,8,9,10,11,12,13,14,16,17,18],[14,20]),([15,21,0,1,2,3,4,5,6,7,8,9,10,11,12,13,14,15,16,17,18,19,20,21],[15])])) (B:=[0,0,0,4,12,28,0,64,252,0,512,1536,3584,0,16380,0,32765,98301,229373,491519,1015807,2064383,4194303]) (by kernel_rfl) (by kernel_rfl) (fun HT_ HW_=>?_);refine aY [(0,51),(1,52),(2,53),(3,54),(4,55)] ?_
   iterate 5 (refine cw HT_ ?_)
   refine bU (bA 23 31) (by kernel_rfl) ?_;refine aY [(5,56)] ?_
   iterate 1 (refine d9 HT_ HW_ hHeld ?_)
   refine bU (bA 23 63) (by kernel_rfl) ?_;refine aY [(6,57),(9,60),(10,61),(11,62)] ?_
   iterate 4 (refine cw HT_ ?_)
   refine bU (bA 23 3711) (by kernel_rfl) ?_;refine aY [(12,63)] ?_
   iterate 1 (refine d9 HT_ HW_ hHeld ?_)
   refine bU (bA 23 7807) (by kernel_rfl) ?_;refine aY [(13,64),(15,66)] ?_
   iterate 2 (refine cw HT_ ?_)
   refine bU (bA 23 48767) (by kernel_rfl) ?_;refine dH 7 (N:=some 58) (bA 23 48895) HT_ (fun K hK=>?_);refine lY (w1:=?_) (v:=?_) (by rfl) rfl ?_ ?_
   rotate_left 2
   ·
    go_simp
    constructor
    ·
     rfl
    ·
     rfl
   refine hK.out _ _ ⟨(aD (ax HS5.out.dg _) 0).trans rfl,(aD (ax HS5.out.dg _) 1).trans rfl⟩ (fun hHeld=>?_);clear hK K;refine nm 58 ?_;refine dH 8 (N:=some 59) (bA 23 49151) HT_ (fun K hK=>?_);refine Kd.oh (Kd.slice 34 bP) (w0:=w) w.heap.size (by rfl) (.tmp 56) (.tmp 58) 73 32 (.slice none 0 0) 24 rfl hu39 qv rfl (by decide) (by decide) vb bs l1 [.slice An l1.length cn] (fun k=>some k≠vl.ownBlock) (fun k=>wr.heap.size≤k) rfl rfl ⟨_,rfl,Kd.bh (Kd.aE (Kd.eI HN5.out) (fun k hk=>hk.2.1)) hwN.out⟩ (fun k hk=>⟨fun he=>by have:=hvl.out k he.symm;omega,fun he=>by have:=hvb.out k he.symm;omega⟩) (fun k hk he=>by have:=Kd.cN HS5.out.hl k he.symm;omega) HS5.out.hb HS5.out.below HS5.out.below.size HLM.out.2 ?_
   intro vb1 w6 ho hb hg hat
   rw [←HBS.out] at ho;obtain ⟨Ab1,cb1,rfl⟩:=Kd.bn ho;have HB1:=aS ho;have HD6:=aS hb;have HG1:=aS hg;have HT1:=aS hat;have HM:=aS (HS5.out.mid hg);have HN6:=aS (Kd.oG (Kd.jK rfl HN5.out) hg (fun k hk he=>by have h1:=Kd.fF HN5.out k hk.symm;have h2:=hvb.out k he.symm;omega));clear ho hb hg hat HN5;refine hK.out _ _ ⟨(aD HM.out.2 0).trans rfl,(aD HM.out.2 1).trans rfl⟩ (fun hHeld=>?_);clear hK K;refine nm 59 ?_;refine dH 14 (N:=some 65) (bA 23 65535) HT_ (fun K hK=>?_);refine Kd.ef bP (w0:=w) w.heap.size (by rfl) (.tmp 63) (.tmp 64) 32 34 (.agg #[(.string ⟨#[]⟩),(.string ⟨#[]⟩),(.int .i64 0),(.string ⟨#[]⟩),(.bool false)]) 64 rfl hu22 eB rfl (by decide) (by decide) vl l l1 _ _ _ (fun _=>True) (fun _=>False) rfl rfl HM.out.1 (Kd.aX HN6.out).2.2 (fun x cs hk=>?hKM) (fun _ hk=>hk.elim) (fun _ _=>trivial) HD6.out HD6.out.size HLM.out.1 ?_
   (case hKM=>obtain rfl:=wI hk;exact gT _ _ _ x)
   intro vl1 w7 ho hb hg hat
   rw [←HLS.out] at ho;obtain ⟨Al1,cl1,rfl⟩:=Kd.bn ho;have HG2:=aS (ew HM.out.2 hg (Kd.lS HM.out.1 HM.out.2 (by decide)));have HSn:=aS (HS5.out.next HR5.out hvl.out hvb.out hgN.out HB1.out HG1.out HT1.out ho hg hat hb);have HQ:ah ((w7.setCell ⟨g,1,none⟩ (.slice Ab1 bs1.length cb1)).heap[g]? = some (.cells #[vl,.slice Ab1 bs1.length cb1,.slice none 0 0] 111 (0,0))):=aS (bk HG2.out 1 (.slice Ab1 bs1.length cb1) rfl);clear ho hb hg hat HM HB1 HD6 HG1 HT1 HN6 HS5 HR5;refine hK.out _ _ ⟨(aD HG2.out 0).trans rfl,(aD HG2.out 1).trans rfl⟩ (fun hHeld=>?_);clear hK K;refine nm 65 ?_;refine aY [(16,67),(17,68)] ?_
   iterate 2 (refine cw HT_ ?_)
   refine bU (bA 23 262143) (by kernel_rfl) ?_;refine jR (i:=18) (N:=none) (bA 23 524287) rfl rfl (jM HT_.out (by kernel_rfl)) (by decide) (fun K hK=>?_);rw [if_pos (by rfl)];have hfz:=dF HG2.out 1;have hcl:=(aD HG2.out 1).trans rfl
   unfold Oper.wp
   go_simp
   refine hK.out _ _ ?_;clear hK K hfz hcl;refine aY [(19,69),(20,70)] ?_
   iterate 2 (refine cw HT_ ?_)
   refine bU (bA 23 2097151) (by kernel_rfl) ?_;refine jR (i:=21) (N:=none) (bA 23 4194303) rfl rfl (jM HT_.out (by kernel_rfl)) (by decide) (fun K hK=>?_);rw [if_pos (by rfl)];have hfz:=dF HQ.out 0;have hcl:=(aD HQ.out 0).trans rfl
   unfold Oper.wp
   go_simp
   refine hK.out _ _ ?_;clear hK K hfz hcl;refine aY [(22,9)] ?_
   iterate 1 (refine cw HT_ ?_)
   refine bU (bA 23 8388607) (by kernel_rfl) ?_;refine dQ (cY HT_.out (by kernel_rfl)) ?_;clear HT_ HW_ hHeld HG2 HQ
   generalize World.setCell _ _ _=w8 at HSn ⊢
   try go_wp2
   try simp only [Exit.inBlock,Exit.then]
   go_roundg k1
   case measure=>have:=HK.out;omega
   case rel=>exact ⟨_,_,r1,ll1,bs1,HA,⟨by have:=HK.out;omega⟩,HSn⟩
def ak.ia (w:World) (base:Nat) (ok:Nat→Prop) (x:(List au × List (List au) × List Int)) (cs:List Value):Prop:=∃ g vl vb vf,cs=[.pointer (some ⟨g,0,none⟩)]∧ok g∧base≤g∧w.heap[g]? = some (.cells #[vl,vb,vf] 111 (0,0))∧Kd.R bP 34 w base ok vl x.1∧Kd.R (Kd.slice 34 bP) 32 w base ok vb x.2.1∧Kd.R (Kd.int .u8) 5 w base ok vf x.2.2
section
variable {w w1:World} {base b:Nat} {ok ok':Nat→Prop} {x:(List au × List (List au) × List Int)} {cs:List Value}
theorem ak.ia.mono (hok:∀ k,ok k→ok' k) (h:ak.ia w base ok x cs):ak.ia w base ok' x cs:=by
 obtain ⟨g,vl,vb,vf,e,h1,h2,h3,h4,h5,h6⟩:=h;exact ⟨g,vl,vb,vf,e,hok _ h1,h2,h3,Kd.aE h4 hok,Kd.aE h5 hok,Kd.aE h6 hok⟩
theorem ak.ia.move (hm:∀ k,ok k→w1.heap[k]? = w.heap[k]?) (h:ak.ia w base ok x cs):ak.ia w1 base ok x cs:=by
 obtain ⟨g,vl,vb,vf,e,h1,h2,h3,h4,h5,h6⟩:=h;exact ⟨g,vl,vb,vf,e,h1,h2,(hm g h1).trans h3,Kd.lW h4 hm,Kd.lW h5 hm,Kd.lW h6 hm⟩
theorem ak.ia.lower (hb:b≤base) (h:ak.ia w base ok x cs):ak.ia w b ok x cs:=by
 obtain ⟨g,vl,vb,vf,e,h1,h2,h3,h4,h5,h6⟩:=h;exact ⟨g,vl,vb,vf,e,h1,Nat.le_trans hb h2,h3,Kd.bh h4 hb,Kd.bh h5 hb,Kd.bh h6 hb⟩
theorem ak.ia.bound (h:ak.ia w base ok x cs):ak.ia w base (fun k=>ok k∧base≤k∧k<w.heap.size∧∃ q,q ∈ [111,34,32,5]∧∃ cells,w.heap[k]? = some (.cells cells q (0,0))) x cs:=by
 obtain ⟨g,vl,vb,vf,e,h1,h2,h3,h4,h5,h6⟩:=h;refine ⟨g,vl,vb,vf,e,⟨h1,h2,di h3,_,List.mem_cons_self,_,h3⟩,h2,h3,Kd.aE (Kd.eI h4) (fun k hk=>?_),Kd.aE (Kd.eI h5) (fun k hk=>?_),Kd.aE (Kd.eI h6) (fun k hk=>?_)⟩
 all_goals
  obtain ⟨k1,k2,k3,q,hq,k4⟩:=hk;refine ⟨k1,k2,k3,q,?_,k4⟩
  first | (replace hq:q ∈ [34]:=hq;simp only [List.mem_cons,List.mem_nil_iff,or_false] at hq ⊢;simp only [hq,true_or,or_true]) | (replace hq:q ∈ [32,34]:=hq;simp only [List.mem_cons,List.mem_nil_iff,or_false] at hq ⊢;rcases hq with hq | hq<;>simp only [hq,true_or,or_true]) | (replace hq:q ∈ [5]:=hq;simp only [List.mem_cons,List.mem_nil_iff,or_false] at hq ⊢;simp only [hq,true_or,or_true])
theorem ak.ia.step (h:ak.ia w base ok x cs) (hm:∀ k,ok k→k<w.heap.size→w1.heap[k]? = w.heap[k]?):ak.ia w1 base ok x cs:=
 ak.ia.mono (fun _ hk=>hk.1) (ak.ia.move (fun k hk=>hm k hk.1 hk.2.2.1) (ak.ia.bound h))
end
def ak.mF:Kd (List au × List (List au) × List Int) where
 sz:=1
 E:=[111,34,32,5]
 K w x cs:=ak.ia w 0 (fun _=>True) x cs
 M w base ok x cs:=ak.ia w base ok x cs
 K_len:=by rintro w x cs ⟨g,vl,vb,vf,rfl,_⟩;rfl
 K_one:=by
  rintro w x cs ⟨g,vl,vb,vf,rfl,_⟩ u hu
  rw [List.mem_singleton.1 hu]
  rfl
 K_below:=fun hb h=>h.step (fun k _ hk=>hb.block k hk)
 K_of_M:=fun h=>ak.ia.mono (fun _ _=>trivial) (ak.ia.lower (Nat.zero_le _) h)
 M_mono:=fun hok h=>h.mono hok
 M_bound:=fun h=>h.bound
 M_move:=fun hm h=>h.move hm
 M_lower:=fun hb h=>h.lower hb
def ak.uN:Kd Value where
 sz:=1
 E:=[]
 K _ x cs:=cs=[x]∧x.oneCell'=true
 M _ _ _ x cs:=cs=[x]∧x.oneCell'=true
 K_len:=by rintro w x cs ⟨rfl,_⟩;rfl
 K_one:=by
  rintro w x cs ⟨rfl,h⟩ u hu
  rw [List.mem_singleton.1 hu];exact h
 K_below:=fun _ h=>h
 K_of_M:=fun h=>h
 M_mono:=fun _ h=>h
 M_bound:=fun h=>h
 M_move:=fun _ h=>h
 M_lower:=fun _ h=>h
structure ak.Rows (w:World) (base:Nat) (ok:Nat→Prop) (vs:List Value) (ls:List (List (List au × List (List au) × List Int))):Prop where
 len:vs.length=ls.length
 rows:∀ i,i<vs.length→Kd.R ak.mF 86 w base ok (vs.getD i (.slice none 0 0)) (ls.getD i [])
 apart:∀ i j,i<j→j<vs.length→∀ k,(vs.getD i (.slice none 0 0)).ownBlock=some k→(vs.getD j (.slice none 0 0)).ownBlock≠some k
structure ak.eJ (w:World) (base:Nat) (ok:Nat→Prop) (g gm:Nat) (vm vl:Value) (vs us:List Value) (s1 s2 s3:Int) (xs:List au) (n:Int) (ls:List (List (List au × List (List au) × List Int))):Prop where
 ge:base≤g
 okg:ok g
 dg:w.heap[g]? = some (.cells #[.int .i64 s1,.int .i64 s2,.int .i64 s3,.pointer (some ⟨gm,0,none⟩),vl] 61 (0,0))
 gem:base≤gm
 okm:ok gm
 blm:w.heap[gm]? = some (.cells #[vm,.int .i64 n] 78 (0,0))
 row:Kd.R bP 34 w base ok vm xs
 out:Kd.R ak.uN 64 w base ok vl vs
 all:vs.length=us.length
 rs:ak.Rows w base (fun k=>ok k∧some k≠vm.ownBlock) us ls
def ak.At (w:World) (base:Nat) (ok:Nat→Prop) (g:Nat) (s1 s2 s3:Int) (xs:List au) (n:Int) (ls:List (List (List au × List (List au) × List Int))):Prop:=∃ gm vm vl vs,ak.eJ w base ok g gm vm vl vs vs s1 s2 s3 xs n ls
structure ak.fD (w w1:World) (ok:Nat→Prop):Prop where
 os:w1.os=w.os
 tape:w1.tape=w.tape
 output:w1.output=w.output
 size:w.heap.size≤w1.heap.size
 block:∀ k,k<w.heap.size→¬ ok k→w1.heap[k]? = w.heap[k]?
section
variable {w w1 w2:World} {base b g gm:Nat} {ok ok':Nat→Prop} {vm vl:Value} {vs us:List Value} {s1 s2 s3:Int} {xs:List au} {n:Int} {ls:List (List (List au × List (List au) × List Int))}
theorem ak.Rows.step (h:ak.Rows w base ok us ls) (hm:∀ k,ok k→k<w.heap.size→w1.heap[k]? = w.heap[k]?):ak.Rows w1 base ok us ls:=⟨h.len,fun i hi=>Kd.j4 (h.rows i hi) hm,h.apart⟩
theorem ak.Rows.mono (h:ak.Rows w base ok us ls) (hok:∀ k,ok k→ok' k):ak.Rows w base ok' us ls:=⟨h.len,fun i hi=>Kd.aE (h.rows i hi) hok,h.apart⟩
theorem ak.Rows.bound (h:ak.Rows w base ok us ls):ak.Rows w base (fun k=>ok k∧k<w.heap.size) us ls:=⟨h.len,fun i hi=>Kd.aE (Kd.eI (h.rows i hi)) (fun _ hk=>⟨hk.1,hk.2.2.1⟩),h.apart⟩
theorem ak.Rows.lower (h:ak.Rows w base ok us ls) (hb:b≤base):ak.Rows w b ok us ls:=⟨h.len,fun i hi=>Kd.bh (h.rows i hi) hb,h.apart⟩
theorem ak.eJ.step (h:ak.eJ w base ok g gm vm vl vs us s1 s2 s3 xs n ls) (hm:∀ k,ok k→k<w.heap.size→w1.heap[k]? = w.heap[k]?):ak.eJ w1 base ok g gm vm vl vs us s1 s2 s3 xs n ls:=
 ⟨h.ge,h.okg,(hm g h.okg (di h.dg)).trans h.dg,h.gem,h.okm,(hm gm h.okm (di h.blm)).trans h.blm,Kd.j4 h.row hm,Kd.j4 h.out hm,h.all,h.rs.step (fun k hk=>hm k hk.1)⟩
theorem ak.eJ.below (h:ak.eJ w base ok g gm vm vl vs us s1 s2 s3 xs n ls) (hb:Below w.heap.size w w1):ak.eJ w1 base ok g gm vm vl vs us s1 s2 s3 xs n ls:=h.step (fun k _ hk=>hb.block k hk)
theorem ak.eJ.mono (h:ak.eJ w base ok g gm vm vl vs us s1 s2 s3 xs n ls) (hok:∀ k,ok k→ok' k):ak.eJ w base ok' g gm vm vl vs us s1 s2 s3 xs n ls:=
 ⟨h.ge,hok _ h.okg,h.dg,h.gem,hok _ h.okm,h.blm,Kd.aE h.row hok,Kd.aE h.out hok,h.all,h.rs.mono (fun k hk=>⟨hok k hk.1,hk.2⟩)⟩
theorem ak.eJ.bound (h:ak.eJ w base ok g gm vm vl vs us s1 s2 s3 xs n ls):ak.eJ w base (fun k=>ok k∧k<w.heap.size) g gm vm vl vs us s1 s2 s3 xs n ls:=
 ⟨h.ge,⟨h.okg,di h.dg⟩,h.dg,h.gem,⟨h.okm,di h.blm⟩,h.blm,Kd.aE (Kd.eI h.row) (fun _ hk=>⟨hk.1,hk.2.2.1⟩),Kd.aE (Kd.eI h.out) (fun _ hk=>⟨hk.1,hk.2.2.1⟩),h.all,h.rs.bound.mono (fun _ hk=>⟨⟨hk.1.1,hk.2⟩,hk.1.2⟩)⟩
theorem ak.eJ.lower (h:ak.eJ w base ok g gm vm vl vs us s1 s2 s3 xs n ls) (hb:b≤base):ak.eJ w b ok g gm vm vl vs us s1 s2 s3 xs n ls:=
 ⟨Nat.le_trans hb h.ge,h.okg,h.dg,Nat.le_trans hb h.gem,h.okm,h.blm,Kd.bh h.row hb,Kd.bh h.out hb,h.all,h.rs.lower hb⟩
theorem ak.eJ.mem (h:ak.eJ w base ok g gm vm vl vs us s1 s2 s3 xs n ls):cm.At w base gm xs n vm:=⟨h.gem,h.blm,Kd.aE h.row (fun _ _=>trivial)⟩
theorem ak.eJ.cells (h:ak.eJ w base ok g gm vm vl vs us s1 s2 s3 xs n ls) (i:Nat) (hi:i<vs.length):∃ A c,us.getD i (.slice none 0 0) = .slice A (ls.getD i []).length c∧(ls.getD i []).length≤c∧Kd.C ak.mF w A (ls.getD i []).length (ls.getD i []):=Kd.gL (h.rs.rows i (by rw [←h.all];exact hi))
theorem ak.eJ.len (h:ak.eJ w base ok g gm vm vl vs us s1 s2 s3 xs n ls):vs.length=ls.length:=h.all.trans h.rs.len
theorem ak.eJ.up (h:ak.eJ w base ok g gm vm vl vs vs s1 s2 s3 xs n ls):ak.At w base ok g s1 s2 s3 xs n ls:=⟨gm,vm,vl,vs,h⟩
theorem ak.At.below (h:ak.At w base ok g s1 s2 s3 xs n ls) (hb:Below w.heap.size w w1):ak.At w1 base ok g s1 s2 s3 xs n ls:=by
 obtain ⟨gm,vm,vl,vs,h⟩:=h;exact ak.eJ.up (h.below hb)
theorem ak.At.step (h:ak.At w base ok g s1 s2 s3 xs n ls) (hm:∀ k,ok k→k<w.heap.size→w1.heap[k]? = w.heap[k]?):ak.At w1 base ok g s1 s2 s3 xs n ls:=by
 obtain ⟨gm,vm,vl,vs,h⟩:=h;exact ak.eJ.up (h.step hm)
theorem ak.At.mono (h:ak.At w base ok g s1 s2 s3 xs n ls) (hok:∀ k,ok k→ok' k):ak.At w base ok' g s1 s2 s3 xs n ls:=by
 obtain ⟨gm,vm,vl,vs,h⟩:=h;exact ak.eJ.up (h.mono hok)
theorem ak.At.bound (h:ak.At w base ok g s1 s2 s3 xs n ls):ak.At w base (fun k=>ok k∧k<w.heap.size) g s1 s2 s3 xs n ls:=by
 obtain ⟨gm,vm,vl,vs,h⟩:=h;exact ak.eJ.up h.bound
theorem ak.At.lower (h:ak.At w base ok g s1 s2 s3 xs n ls) (hb:b≤base):ak.At w b ok g s1 s2 s3 xs n ls:=by
 obtain ⟨gm,vm,vl,vs,h⟩:=h;exact ak.eJ.up (h.lower hb)
theorem ak.At.new {N:Nat} (h:ak.At w1 base (fun k=>N≤k∨w.heap.size≤k) g s1 s2 s3 xs n ls) (hN:N≤w.heap.size):ak.At w1 base (fun k=>N≤k) g s1 s2 s3 xs n ls:=h.mono (fun _ hk=>hk.elim id (Nat.le_trans hN))
theorem ak.At.EO {N:Nat} (h:ak.At w1 base (fun k=>base≤k) g s1 s2 s3 xs n ls) (hN:N≤base):ak.At w1 N (fun k=>N≤k) g s1 s2 s3 xs n ls:=(h.lower hN).mono (fun _ hk=>Nat.le_trans hN hk)
theorem ak.fD.refl (w:World) (ok:Nat→Prop):ak.fD w w ok:=⟨rfl,rfl,rfl,Nat.le_refl _,fun _ _ _=>rfl⟩
theorem ak.fD.trans (h:ak.fD w w1 ok) (h1:ak.fD w1 w2 ok') (hok:∀ k,ok' k→k<w.heap.size→ok k):ak.fD w w2 ok:=
 ⟨h1.os.trans h.os,h1.tape.trans h.tape,h1.output.trans h.output,Nat.le_trans h.size h1.size,fun k hk hn=>(h1.block k (Nat.lt_of_lt_of_le hk h.size) (fun ho=>hn (hok k ho hk))).trans (h.block k hk hn)⟩
theorem ak.fD.step (h:ak.fD w w1 ok) (hb:Below w1.heap.size w1 w2):ak.fD w w2 ok:=
 ⟨hb.os.trans h.os,hb.tape.trans h.tape,hb.output.trans h.output,Nat.le_trans h.size hb.size,fun k hk hn=>(hb.block k (Nat.lt_of_lt_of_le hk h.size)).trans (h.block k hk hn)⟩
theorem ak.fD.jX (h:Below w.heap.size w w1) (ok:Nat→Prop):ak.fD w w1 ok:=(ak.fD.refl w ok).step h
theorem ak.fD.below (h:ak.fD w w1 ok) {w0:World} (hb:Below b w0 w) (h0:b≤w.heap.size) (hok:∀ k,ok k→b≤k):Below b w0 w1:=
 hb.trans ⟨h.os,h.tape,h.output,h.size,fun k hk=>h.block k (Nat.lt_of_lt_of_le hk h0) (fun ho=>by have:=hok k ho;omega)⟩
theorem ak.fD.set (w:World) (g j:Nat) (u:Value) (hg:ok g):ak.fD w (w.setCell ⟨g,j,none⟩ u) ok:=⟨rfl,rfl,rfl,by simp [World.setCell],fun k _ hk=>Below.heap_setCell w ⟨g,j,none⟩ u k (fun e=>hk (e▸hg))⟩
theorem ak.fD.grown {row_:Option Nat} (h:w.grownBy w1 row_) (hok:∀ k,row_=some k→ok k):ak.fD w w1 ok:=⟨h.os,h.tape,h.output,h.size,fun k hk hn=>h.block k hk (fun e=>hn (hok k e.symm))⟩
end
section
variable {w w1:World} {base g gm:Nat} {ok:Nat→Prop} {vm vl:Value} {vs us:List Value} {s1 s2 s3:Int} {xs:List au} {n:Int} {ls:List (List (List au × List (List au) × List Int))}
theorem ak.eJ.at (h:ak.eJ w base ok g gm vm vl vs us s1 s2 s3 xs n ls):∃ A c,vl = .slice A vs.length c∧vs.length≤c∧vs.length≤9223372036854775807∧∀ W:World,(∀ k,ok k→k<w.heap.size→W.heap[k]? = w.heap[k]?)→∀ i,i<vs.length→∃ ad,A=some ad∧W.cell? (ad.add i)=some (vs.getD i (.slice none 0 0)):=by
 obtain ⟨A,c,e,hc,hC⟩:=Kd.gL h.out;refine ⟨A,c,e,hc,hC.2.1,fun W hW i hi=>?_⟩;obtain ⟨A',c',e',_,hC'⟩:=Kd.gL (h.step hW).out;rw [e] at e'
 cases e'
 obtain ⟨ad,cs,e1,_,hK,hc0⟩:=Kd.mX hC' (.slice none 0 0:Value) (i:Int) (by omega) (by omega);rw [Int.toNat_natCast] at hK hc0
 have hc1:∀ j u,cs[j]? = some u→W.cell? (ad.add (i*1+j))=some u:=hc0
 have hcs:cs=[vs.getD i (.slice none 0 0)]:=hK.1;exact ⟨ad,e1,by have hq:=hc1 0 _ (by rw [hcs];rfl);rwa [Nat.mul_one,Nat.add_zero] at hq⟩
theorem ak.t5 {A:Option Addr} {l:List (List au × List (List au) × List Int)} (h:Kd.C ak.mF w A l.length l) (i:Nat) (hi:i<l.length):∃ ad gx,A=some ad∧w.cell? (ad.add i)=some (.pointer (some ⟨gx,0,none⟩))∧aI.At w 0 gx (l.getD i ([],[],[])).1 (l.getD i ([],[],[])).2.1 (l.getD i ([],[],[])).2.2:=by
 obtain ⟨ad,cs,e1,_,hK,hc0⟩:=Kd.mX h (([],[],[]):(List au × List (List au) × List Int)) (i:Int) (by omega) (by omega);rw [Int.toNat_natCast] at hK hc0
 have hc1:∀ j u,cs[j]? = some u→w.cell? (ad.add (i*1+j))=some u:=hc0
 obtain ⟨gx,vl,vb,vf,e,_,h2,h3,h4,h5,h6⟩:=hK;subst e;exact ⟨ad,gx,e1,by have hq:=hc1 0 _ rfl;rwa [Nat.mul_one,Nat.add_zero] at hq,vl,vb,vf,h2,h3,h4,h5,h6⟩
end
theorem ak.DZ {w:World} {base g:Nat} {x:(List au × List (List au) × List Int)} (h:aI.At w base g x.1 x.2.1 x.2.2):ak.ia w base (fun _=>True) x [.pointer (some ⟨g,0,none⟩)]:=by
 obtain ⟨vl,vb,vf,h⟩:=h;exact ⟨g,vl,vb,vf,rfl,trivial,h.ge,h.dg,h.hl,h.hb,h.hf⟩
theorem ak.ze {α:Type} (d:Kd α) {W:World} {base e:Nat} {xs:List α} {inner:List Value} {okp:Nat→Prop} (hrep:bM (d.M W base okp) d.sz xs inner) (hbase:base≤W.heap.size) (hm:xs.length≤9223372036854775807) :
  d.R e (W.alloc (.cells inner.toArray e)) base (fun _=>True) (.slice (some ⟨W.heap.size,0,none⟩) xs.length xs.length) xs:=by
 refine ⟨fun k _=>trivial,inner,?_,?_⟩
 ·
  have h2:=World.ownsRow_lit (base:=base) (e:=e) (size:=d.sz) W inner.toArray xs.length hbase (by simpa [maxLen] using hm) (by simpa using hrep.1)
  simpa using h2
 ·
  refine hrep.gB (fun p c hp=>d.M_mono (fun k hk=>⟨trivial,fun he=>?_⟩) (Kd.uQ (d.M_bound hp) (vD (Below.refl _ _) _)))
  have h3:k=W.heap.size:=by simpa [Value.ownBlock] using he
  have:=hk.2.2.1
  omega
theorem ak.ng {α:Type} (l:List α) (z:α) (i:Nat) (h:i<l.length):l.drop i=l.getD i z :: l.drop (i+1):=by
 rw [List.drop_eq_getElem_cons h,List.getD_eq_getElem?_getD,List.getElem?_eq_getElem h]
 rfl
section
variable {w w1:World} {base b g gm:Nat} {ok ok':Nat→Prop} {vm vl:Value} {vs us:List Value} {s1 s2 s3:Int} {xs:List au} {n:Int} {ls:List (List (List au × List (List au) × List Int))} {row:Option Nat}
theorem ak.sq {α:Type} {d:Kd α} {e e':Nat} {v:Value} {l:List α} (h:d.R e w base ok v l) (hg:w.grownBy w1 row) (hty:∀ k,row=some k→∃ cells,w.heap[k]? = some (.cells cells e' (0,0))) (hne:∀ k,row=some k→v.ownBlock≠some k) (ht:∀ q,q ∈ d.E→q≠e'):d.R e w1 base ok v l:=by
 obtain ⟨h0,inner,ho,hr⟩:=h;refine ⟨h0,inner,xN ho (fun k hk=>hg.block k (wF ho k hk) (fun e=>hne k e.symm hk)),hr.gB (fun p c hp=>d.M_mono (fun k hk=>hk.1) (d.M_move (fun k hk=>?_) (d.M_bound hp)))⟩;obtain ⟨_,_,hlt,q,hq,cells,hc⟩:=hk;refine hg.block k hlt (fun e1=>?_);obtain ⟨cells',hc'⟩:=hty k e1.symm;rw [hc] at hc'
 injection hc' with hc'
 injection hc' with _ hc'
 exact ht q hq hc'
theorem ak.mJ {t e':Nat} {cells:Array Value} (hb:w.heap[g]? = some (.cells cells t (0,0))) (hty:∀ k,row=some k→∃ cells,w.heap[k]? = some (.cells cells e' (0,0))) (ht:t≠e'):some g≠row:=fun e=>by
 obtain ⟨cells',hc'⟩:=hty g e.symm;rw [hb] at hc'
 injection hc' with hc'
 injection hc' with _ hc'
 exact ht hc'
theorem ak.nW {α:Type} {d:Kd α} {e e':Nat} {v:Value} {l:List α} (h:d.R e w base ok v l) (hty:∀ k,row=some k→∃ cells,w.heap[k]? = some (.cells cells e' (0,0))) (ht:e≠e'):∀ k,row=some k→v.ownBlock≠some k:=fun k hk hv=>by
 obtain ⟨cells,hc⟩:=Kd.gj h k hv;exact ak.mJ hc hty ht hk.symm
theorem ak.kC {α:Type} (l:List α) (i j:Nat) (x z:α) (hi:i<l.length):(l.set i x).getD j z=if i=j then x else l.getD j z:=by
 rw [List.getD_eq_getElem?_getD,List.getElem?_set,List.getD_eq_getElem?_getD]
 by_cases h:i=j
 ·
  subst h;rw [if_pos rfl,if_pos hi,if_pos rfl]
  rfl
 ·
  rw [if_neg h,if_neg h]
theorem ak.Rows.put (h:ak.Rows w base ok us ls) (i:Nat) (hi:i<us.length) {v:Value} {l:List (List au × List (List au) × List Int)} (hv:Kd.R ak.mF 86 w base ok v l) (hap:∀ j,j<us.length→∀ k,(us.getD j (.slice none 0 0)).ownBlock=some k→v.ownBlock≠some k):ak.Rows w base ok (us.set i v) (ls.set i l):=by
 have hl:i<ls.length:=h.len▸hi;refine ⟨by rw [List.length_set,List.length_set,h.len],fun j hj=>?_,fun j m hjm hm k hk=>?_⟩
 ·
  rw [List.length_set] at hj;rw [ak.kC _ _ _ _ _ hi,ak.kC _ _ _ _ _ hl]
  by_cases e:i=j
  ·
   rw [if_pos e,if_pos e];exact hv
  ·
   rw [if_neg e,if_neg e];exact h.rows j hj
 ·
  rw [List.length_set] at hm;rw [ak.kC _ _ _ _ _ hi] at hk ⊢
  by_cases e:i=j
  ·
   rw [if_pos e] at hk;rw [if_neg (by omega)]
   exact fun hk'=>hap m hm k hk' hk
  ·
   rw [if_neg e] at hk
   by_cases e2:i=m
   ·
    rw [if_pos e2];exact hap j (by omega) k hk
   ·
    rw [if_neg e2];exact h.apart j m hjm hm k hk
theorem ak.Rows.nil (h:ak.Rows w base ok us ls) (i:Nat) (hi:i<us.length):ak.Rows w base ok (us.set i (.slice none 0 0)) (ls.set i []):=h.put i hi (Kd.er _ _ _ _ _) (fun _ _ _ _=>by simp [Value.ownBlock])
theorem ak.rQ {α:Type} (l:List α) (x z:α) (j:Nat):(l++[x]).getD j z=if j<l.length then l.getD j z else if j=l.length then x else z:=by
 rw [List.getD_eq_getElem?_getD,List.getD_eq_getElem?_getD]
 by_cases h:j<l.length
 ·
  rw [if_pos h,List.getElem?_append_left h]
 ·
  rw [if_neg h,List.getElem?_append_right (by omega)]
  by_cases e:j=l.length
  ·
   rw [if_pos e,e,Nat.sub_self];rfl
  ·
   rw [if_neg e,List.getElem?_eq_none (by simp only [List.length_singleton];omega)];rfl
theorem ak.Rows.snoc (h:ak.Rows w base ok us ls):ak.Rows w base ok (us++[.slice none 0 0]) (ls++[[]]):=by
 have hl:=h.len;refine ⟨by rw [List.length_append,List.length_append,hl];rfl,fun j hj=>?_,fun j m hjm hm k hk=>?_⟩
 ·
  rw [ak.rQ,ak.rQ,← hl]
  by_cases e:j<us.length
  ·
   rw [if_pos e,if_pos e];exact h.rows j e
  ·
   rw [if_neg e,if_neg e]
   simp only [ite_self]
   exact Kd.er _ _ _ _ _
 ·
  rw [ak.rQ] at hk ⊢
  by_cases e:m<us.length
  ·
   rw [if_pos e];rw [if_pos (by omega)] at hk;exact h.apart j m hjm e k hk
  ·
   rw [if_neg e]
   simp only [ite_self]
   simp [Value.ownBlock]
theorem ak.Rows.far (h:ak.Rows w base ok us ls) {e':Nat} (hg:w.grownBy w1 row) (hty:∀ k,row=some k→∃ cells,w.heap[k]? = some (.cells cells e' (0,0))) (hne:∀ j,j<us.length→∀ k,row=some k→(us.getD j (.slice none 0 0)).ownBlock≠some k) (ht:∀ q,q ∈ [111,34,32,5]→q≠e'):ak.Rows w1 base ok us ls:=
 ⟨h.len,fun j hj=>ak.sq (h.rows j hj) hg hty (hne j hj) ht,h.apart⟩
theorem ak.Bg (go i:Nat):Addr.add ⟨go,0,none⟩ i=⟨go,i,none⟩:=by
 unfold Addr.add
 by_cases h0:i=0<;>simp [h0]
theorem ak.yP {v:Value} {l:List (List au × List (List au) × List Int)} (h:Kd.R ak.mF 86 w base ok v l) (hty:∀ k,row=some k→∃ cells,w.heap[k]? = some (.cells cells 86 (0,0))) {A:Option Addr} {m c:Nat} (e:v = .slice A m c):e9 (fun x cs=>ak.ia w 0 (fun k=>some k≠row) x cs) 1 w A l.length l:=by
 obtain ⟨A',c',e',_,hr⟩:=eZ.reads h.2;rw [e] at e'
 cases e'
 refine hr.gB (Below.refl _ _) (fun x cs hm=>ak.ia.mono (fun k hk=>?_) (ak.ia.lower (Nat.zero_le _) (ak.ia.bound hm)));obtain ⟨_,_,_,q,hq,cells,hc⟩:=hk
 exact ak.mJ hc hty (by
  intro e
  subst e
  exact absurd hq (by decide))
theorem ak.eJ.far (h:ak.eJ w base ok g gm vm vl vs us s1 s2 s3 xs n ls) {e':Nat} {vl':Value} {vs' us':List Value} {ls':List (List (List au × List (List au) × List Int))} (hg:w.grownBy w1 row) (hty:∀ k,row=some k→∃ cells,w.heap[k]? = some (.cells cells e' (0,0))) (ht:∀ q,q ∈ [61,78,34]→q≠e') (hblk:w1.heap[g]? = w.heap[g]?→w1.heap[g]? = some (.cells #[.int .i64 s1,.int .i64 s2,.int .i64 s3,.pointer (some ⟨gm,0,none⟩),vl'] 61 (0,0)))
  (hok:∀ k,ok k→ok' k) (out:Kd.R ak.uN 64 w1 base ok' vl' vs') (all:vs'.length=us'.length) (rs:ak.Rows w1 base (fun k=>ok' k∧some k≠vm.ownBlock) us' ls'):ak.eJ w1 base ok' g gm vm vl' vs' us' s1 s2 s3 xs n ls':=
 ⟨h.ge,hok _ h.okg,hblk (hg.block g (di h.dg) (ak.mJ h.dg hty (ht _ (by simp)))),h.gem,hok _ h.okm,(hg.block gm (di h.blm) (ak.mJ h.blm hty (ht _ (by simp)))).trans h.blm,
  Kd.aE (ak.sq h.row hg hty (ak.nW h.row hty (ht _ (by simp))) (by intro q hq;cases hq)) hok,out,all,rs⟩
theorem ak.eJ.E4 (h:ak.eJ w base ok g gm vm vl vs vs s1 s2 s3 xs n ls) (i:Nat) (hi:i+1<vs.length) (hg:w.grownBy w1 (vs.getD i (.slice none 0 0)).ownBlock):ak.eJ w1 base ok g gm vm vl vs ((vs.set i (.slice none 0 0)).set (i+1) (.slice none 0 0)) s1 s2 s3 xs n ((ls.set i []).set (i+1) []):=by
 have hty:∀ k,(vs.getD i (.slice none 0 0)).ownBlock=some k→∃ cells,w.heap[k]? = some (.cells cells 86 (0,0)):=Kd.gj (h.rs.rows i (by omega))
 refine h.far (row:=(vs.getD i (.slice none 0 0)).ownBlock) hg hty (by decide) (fun e=>e.trans h.dg) (fun _ hk=>hk) (ak.sq h.out hg hty (ak.nW h.out hty (by decide)) (by intro q hq;cases hq)) (by simp) (((h.rs.nil i (by omega)).nil (i+1) (by rw [List.length_set];exact hi)).far hg hty (fun j hj k hk=>?_) (by decide));rw [List.length_set,List.length_set] at hj;rw [ak.kC _ _ _ _ _ (by rw [List.length_set];exact hi),ak.kC _ _ _ _ _ (by omega)]
 by_cases e1:i+1=j
 ·
  rw [if_pos e1];simp [Value.ownBlock]
 ·
  rw [if_neg e1]
  by_cases e2:i=j
  ·
   rw [if_pos e2];simp [Value.ownBlock]
  ·
   rw [if_neg e2]
   rcases Nat.lt_or_ge i j with h3 | h3
   ·
    exact h.rs.apart i j h3 hj k hk
   ·
    exact fun hk'=>h.rs.apart j i (by omega) (by omega) k hk' hk
theorem ak.eJ.tell (h:ak.eJ w base ok g gm vm vl vs us s1 s2 s3 xs n ls) (i:Nat) (hi:i<us.length) {v:Value} {l:List (List au × List (List au) × List Int)} (hv:Kd.R ak.mF 86 w base (fun k=>ok k∧some k≠vm.ownBlock) v l) (hap:∀ j,j<us.length→∀ k,(us.getD j (.slice none 0 0)).ownBlock=some k→v.ownBlock≠some k):ak.eJ w base ok g gm vm vl vs (us.set i v) s1 s2 s3 xs n (ls.set i l):=
 ⟨h.ge,h.okg,h.dg,h.gem,h.okm,h.blm,h.row,h.out,by rw [List.length_set];exact h.all,h.rs.put i hi hv hap⟩
theorem ak.eJ.put {go c:Nat} (h:ak.eJ w base ok g gm vm (.slice (some ⟨go,0,none⟩) vs.length c) vs us s1 s2 s3 xs n ls) (i:Nat) (hi:i<vs.length) (v:Value) (hv:v.oneCell'=true):ak.eJ (w.setCells go i [v]) base ok g gm vm (.slice (some ⟨go,0,none⟩) vs.length c) (vs.set i v) us s1 s2 s3 xs n ls∧w.grownBy (w.setCells go i [v]) (some go):=by
 obtain ⟨c0,hc1,hc2,hc3,_⟩:=Kd.lg h.out (.slice none 0 0) (i:Int) (by omega) (by omega);rw [Int.toNat_natCast] at hc3;have hc0:c0=[vs.getD i (.slice none 0 0)]:=hc2.1
 obtain ⟨h1,h2⟩:=Kd.t_ h.out (i:Int) (by omega) (by omega) (c:=c0) (seg:=[v]) (j:=0) (x':=v) (okp:=fun _=>False) hc1 (by rw [Int.toNat_natCast];exact hc3) (Nat.le_refl 1) (by
  rw [hc0]
  exact ⟨rfl,hv⟩) (fun _ hk=>hk.elim)
 rw [Int.toNat_natCast] at h1 h2;replace h1:Kd.R ak.uN 64 (w.setCells go (i*1+0) [v]) base ok (.slice (some ⟨go,0,none⟩) vs.length c) (vs.set i v):=h1;replace h2:w.grownBy (w.setCells go (i*1+0) [v]) (some go):=h2;rw [Nat.mul_one,Nat.add_zero] at h1 h2
 have hty:∀ k,some go=some k→∃ cells,w.heap[k]? = some (.cells cells 64 (0,0)):=fun k hk=>Kd.gj h.out k hk
 refine ⟨?_,h2⟩;have hf:=h.far (row:=some go) h2 hty (by decide) (fun e=>e.trans h.dg) (fun _ hk=>hk) (vs':=vs.set i v) h1 (by rw [List.length_set];exact h.all) (h.rs.far h2 hty (fun j hj=>ak.nW (h.rs.rows j hj) hty (by decide)) (by decide));exact hf
theorem ak.AX {v:Value} {l:List (List au × List (List au) × List Int)} (h:Kd.R ak.mF 86 w base ok v l) (hb:Below w.heap.size w w1) {A:Option Addr} {m c:Nat} (e:v = .slice A m c):e9 (fun x cs=>ak.ia w1 base (fun k=>ok k∧k<w.heap.size) x cs) 1 w1 A l.length l:=by
 obtain ⟨A',c',e',_,hr⟩:=eZ.reads h.2;rw [e] at e'
 cases e'
 exact hr.gB hb (fun x cs hm=>(ak.ia.mono (fun k hk=>⟨hk.1.1,hk.2.2.1⟩) (ak.ia.bound hm)).step (fun k _ hk=>hb.block k hk))
theorem ak.eJ.Fz (h:ak.eJ w base ok g gm vm vl vs us s1 s2 s3 xs n ls) {gm':Nat} (hge:base≤gm') (hok:ok gm') (hbm:w.heap[gm']? = some (.cells #[.slice none 0 0,.int .i64 0] 78 (0,0))):ak.eJ (w.setCell ⟨g,3,none⟩ (.pointer (some ⟨gm',0,none⟩))) base ok g gm' (.slice none 0 0) vl vs us s1 s2 s3 [] 0 ls:=by
 have hne:gm'≠g:=fun e=>by
  have hb:=h.dg;rw [e,hb] at hbm
  injection hbm with hbm
  injection hbm with _ hbm
  exact absurd hbm (by decide)
 have hr:=h.rs.mono (ok':=fun k=>ok k∧some k≠(Value.slice none 0 0).ownBlock) (fun k hk=>⟨hk.1,by simp [Value.ownBlock]⟩);exact ⟨h.ge,h.okg,bk h.dg 3 _ rfl,hge,hok,dW hbm hne _ (p:=⟨g,3,none⟩),Kd.er _ _ _ _ _,Kd.jB h.out h.dg (by decide) 3 _,h.all,⟨hr.len,fun i hi=>Kd.jB (hr.rows i hi) h.dg (by decide) 3 _,hr.apart⟩⟩
theorem ak.eJ.FH (h:ak.eJ w base ok g gm vm vl vs us s1 s2 s3 xs n ls) {vm':Value} {xs':List au} {n':Int} (ha:cm.At w1 base gm xs' n' vm') (ht:cm.Two w w1 gm vm.ownBlock) (hv:vm'.ownBlock=vm.ownBlock∨∃ b,vm'.ownBlock=some b∧w.heap.size≤b) (hok:∀ k,ok k→ok' k) (hnew:∀ k,w.heap.size≤k→ok' k):ak.eJ w1 base ok' g gm vm' vl vs us s1 s2 s3 xs' n' ls∧ak.fD w w1 ok:=by
 have hty:=Kd.gj h.row
 have hg:g≠gm:=fun e=>by
  have hb:=h.dg;rw [e,h.blm] at hb
  injection hb with hb
  injection hb with _ hb
  exact absurd hb (by decide)
 refine ⟨⟨h.ge,hok _ h.okg,(ht.block g (di h.dg) hg (ak.mJ h.dg hty (by decide))).trans h.dg,h.gem,hok _ h.okm,ha.2.1,Kd.wP rfl ha.2.2 (fun k hk=>?_),?_,h.all,⟨h.rs.len,fun i hi=>?_,h.rs.apart⟩⟩,⟨ht.os,ht.tape,ht.output,ht.size,fun k hk hn=>ht.block k hk (fun e=>hn (e▸h.okm)) (fun e=>hn (h.row.1 k e.symm))⟩⟩
 ·
  rcases hv with e | ⟨b,e,hle⟩
  ·
   exact hok k (h.row.1 k (e▸hk))
  ·
   rw [e] at hk;injection hk with hk;exact hnew k (hk▸hle)
 ·
  refine Kd.aE (Kd.j4 (Kd.gF (Kd.o4 h.out hty (by decide)) h.blm (by decide)) (fun k hk hlt=>ht.block k hlt hk.2 hk.1.2)) (fun k hk=>hok k hk.1.1)
 ·
  refine Kd.aE (Kd.j4 (Kd.eI (Kd.gF (h.rs.rows i hi) h.blm (by decide))) (fun k hk hlt=>ht.block k hlt hk.1.2 hk.1.1.2)) (fun k hk=>⟨hok k hk.1.1.1,?_⟩)
  rcases hv with e | ⟨b,e,hle⟩
  ·
   rw [e];exact hk.1.1.2
  ·
   rw [e];intro he;injection he with he;have:=hk.2.2.1;omega
theorem ak.eJ.snoc (h:ak.eJ w base ok g gm vm vl vs us s1 s2 s3 xs n ls) {v1:Value} (ho:Kd.R ak.uN 64 w1 base ok' v1 (vs++[.slice none 0 0])) (hg:w.grownBy w1 vl.ownBlock) (hok:∀ k,ok k→ok' k):ak.eJ (w1.setCell ⟨g,4,none⟩ v1) base ok' g gm vm v1 (vs++[.slice none 0 0]) (us++[.slice none 0 0]) s1 s2 s3 xs n (ls++[[]]):=by
 have hty:=Kd.gj h.out;have h1:=h.far (row:=vl.ownBlock) hg hty (by decide) (fun e=>e.trans h.dg) hok (vl':=vl) (vs':=vs++[.slice none 0 0]) (us':=us++[.slice none 0 0]) (ls':=ls++[[]]) (w1:=w1);have hb:w1.heap[g]? = some (.cells #[.int .i64 s1,.int .i64 s2,.int .i64 s3,.pointer (some ⟨gm,0,none⟩),vl] 61 (0,0)):=(hg.block g (di h.dg) (ak.mJ h.dg hty (by decide))).trans h.dg;have hm:w1.heap[gm]? = some (.cells #[vm,.int .i64 n] 78 (0,0)):=(hg.block gm (di h.blm) (ak.mJ h.blm hty (by decide))).trans h.blm;have hr:=Kd.aE (ak.sq h.row hg hty (ak.nW h.row hty (by decide)) (by intro q hq;cases hq)) hok;have hs:=((h.rs.far hg hty (fun j hj=>ak.nW (h.rs.rows j hj) hty (by decide)) (by decide)).mono (ok':=fun k=>ok' k∧some k≠vm.ownBlock) (fun k hk=>⟨hok k hk.1,hk.2⟩)).snoc
 have hne:gm≠g:=fun e=>by
  rw [e,hb] at hm
  injection hm with hm
  injection hm with _ hm
  exact absurd hm (by decide)
 exact ⟨h.ge,hok _ h.okg,bk hb 4 v1 rfl,h.gem,hok _ h.okm,dW hm hne v1 (p:=⟨g,4,none⟩),Kd.jB hr hb (by decide) 4 v1,Kd.jB ho hb (by decide) 4 v1,by simp [h.all],⟨hs.len,fun i hi=>Kd.jB (hs.rows i hi) hb (by decide) 4 v1,hs.apart⟩⟩
end
def ak.f (s1 s2 s3:Int):Option Bool:=(fB.f s1 4096).bind fun a=>(fB.f s2 4096).bind fun b=>(fB.f s3 8).bind fun c=>some (a && b && c)
theorem ak.calls (s1 s2 s3:Int) (r:Bool) (w:World) (h:ak.f s1 s2 s3=some r):Calls Tryz.prog 8 #[.agg #[.int .i64 s1,.int .i64 s2,.int .i64 s3]] w fun e w'=>Below w.heap.size w w'∧(r=false→e = .returned (.tuple #[.pointer none,.int .i64 1]))∧(r=true→∃ g,e = .returned (.tuple #[.pointer (some ⟨g,0,none⟩),.int .i64 0])∧ak.At w' w.heap.size (fun k=>w.heap.size≤k) g s1 s2 s3 [] 0 []):=by
 have hu30:=Tryz.underlying27;have hu51:=Tryz.underlying61;have hu23:=Tryz.underlying23;have hu49:=Tryz.underlying59;have hu53:=Tryz.underlying64;have hu24:=Tryz.underlying32;have hu61:=Tryz.underlying73
 have hsz:(Tryz.prog.info? 23).map (·.size)=some 3:=by
  obtain ⟨i0,hi0,hz⟩:=Option.map_eq_some_iff.1 Er
  simp only [Prod.mk.injEq] at hz
  rw [hi0];simp [hz.2.1]
 unfold ak.f at h
 replace h:=cD h;obtain ⟨a,x1,h⟩:=h;replace h:=cD h;obtain ⟨b,x2,h⟩:=h;replace h:=cD h;obtain ⟨c,x3,h⟩:=h
 obtain rfl:=Option.some.inj h
 have X1:=aS x1;have X2:=aS x2;have X3:=aS x3;clear x1 x2 x3 h
 cases a with
 | false=>
  go_enter Tryz.func8,Tryz.ntmps8
  go_wp2_with (first | ((with_reducible refine bf (N:=1) rfl ?_);refine aZ ?hg (N:=1) ?hd (cs:=#[.int .i64 s1,.int .i64 s2,.int .i64 s3]) (t:=23) ?hr ?_;(case hd=>rfl);(case hg=>rfl);(case hr=>(first | (go_simp;done) | (go_simp;rfl)));intro p1 hg w1 hb hbl;have B1:=aS hb;have HB:=aS hbl;clear hg hb hbl;have q0:=iU B1) | (go_at_call 24;(with_reducible refine (fB.calls s1 4096 false _ X1.out).mono ?_);rintro e_ w_ ⟨rfl,hb⟩;have n1_:=aS (aK B1.out hb.below);have n2_:=aS (aJ HB.out hb.below);clear B1 HB hb q0;have B1:=n1_;have HB:=n2_;clear n1_ n2_;have q0:=iU B1))
  go_ret2
  exact ⟨HB.out,fun _=>rfl,fun h=>Bool.noConfusion h⟩
 | true=>
 cases b with
 | false=>
  go_enter Tryz.func8,Tryz.ntmps8
  go_wp2_with (first | ((with_reducible refine bf (N:=1) rfl ?_);refine aZ ?hg (N:=1) ?hd (cs:=#[.int .i64 s1,.int .i64 s2,.int .i64 s3]) (t:=23) ?hr ?_;(case hd=>rfl);(case hg=>rfl);(case hr=>(first | (go_simp;done) | (go_simp;rfl)));intro p1 hg w1 hb hbl;have B1:=aS hb;have HB:=aS hbl;clear hg hb hbl;have q0:=iU B1) | (go_at_call 24;(with_reducible refine (fB.calls s1 4096 true _ X1.out).mono ?_);rintro e_ w_ ⟨rfl,hb⟩;have n1_:=aS (aK B1.out hb.below);have n2_:=aS (aJ HB.out hb.below);clear B1 HB hb q0;have B1:=n1_;have HB:=n2_;clear n1_ n2_;have q0:=iU B1) | (go_at_call 24;(with_reducible refine (fB.calls s2 4096 false _ X2.out).mono ?_);rintro e_ w_ ⟨rfl,hb⟩;have n1_:=aS (aK B1.out hb.below);have n2_:=aS (aJ HB.out hb.below);clear B1 HB hb q0;have B1:=n1_;have HB:=n2_;clear n1_ n2_;have q0:=iU B1))
  go_ret2
  exact ⟨HB.out,fun _=>rfl,fun h=>Bool.noConfusion h⟩
 | true=>
 cases c with
 | false=>
  go_enter Tryz.func8,Tryz.ntmps8
  go_wp2_with (first | ((with_reducible refine bf (N:=1) rfl ?_);refine aZ ?hg (N:=1) ?hd (cs:=#[.int .i64 s1,.int .i64 s2,.int .i64 s3]) (t:=23) ?hr ?_;(case hd=>rfl);(case hg=>rfl);(case hr=>(first | (go_simp;done) | (go_simp;rfl)));intro p1 hg w1 hb hbl;have B1:=aS hb;have HB:=aS hbl;clear hg hb hbl;have q0:=iU B1) | (go_at_call 24;(with_reducible refine (fB.calls s1 4096 true _ X1.out).mono ?_);rintro e_ w_ ⟨rfl,hb⟩;have n1_:=aS (aK B1.out hb.below);have n2_:=aS (aJ HB.out hb.below);clear B1 HB hb q0;have B1:=n1_;have HB:=n2_;clear n1_ n2_;have q0:=iU B1) | (go_at_call 24;(with_reducible refine (fB.calls s2 4096 true _ X2.out).mono ?_);rintro e_ w_ ⟨rfl,hb⟩;have n1_:=aS (aK B1.out hb.below);have n2_:=aS (aJ HB.out hb.below);clear B1 HB hb q0;have B1:=n1_;have HB:=n2_;clear n1_ n2_;have q0:=iU B1) | (go_at_call 24;(with_reducible refine (fB.calls s3 8 false _ X3.out).mono ?_);rintro e_ w_ ⟨rfl,hb⟩;have n1_:=aS (aK B1.out hb.below);have n2_:=aS (aJ HB.out hb.below);clear B1 HB hb q0;have B1:=n1_;have HB:=n2_;clear n1_ n2_;have q0:=iU B1))
  go_ret2
  exact ⟨HB.out,fun _=>rfl,fun h=>Bool.noConfusion h⟩
 | true=>
 go_enter Tryz.func8,Tryz.ntmps8
 go_upto_region 4 with (first | ((with_reducible refine bf (N:=1) rfl ?_);refine aZ ?hg (N:=1) ?hd (cs:=#[.int .i64 s1,.int .i64 s2,.int .i64 s3]) (t:=23) ?hr ?_;(case hd=>rfl);(case hg=>rfl);(case hr=>(first | (go_simp;done) | (go_simp;rfl)));intro p1 hg w1 hb hbl;have B1:=aS hb;have HB:=aS hbl;clear hg hb hbl;have q0:=iU B1) | (go_at_call 24;(with_reducible refine (fB.calls s1 4096 true _ X1.out).mono ?_);rintro e_ w_ ⟨rfl,hb⟩;have n1_:=aS (aK B1.out hb.below);have n2_:=aS (aJ HB.out hb.below);clear B1 HB hb q0;have B1:=n1_;have HB:=n2_;clear n1_ n2_;have q0:=iU B1) | (go_at_call 24;(with_reducible refine (fB.calls s2 4096 true _ X2.out).mono ?_);rintro e_ w_ ⟨rfl,hb⟩;have n1_:=aS (aK B1.out hb.below);have n2_:=aS (aJ HB.out hb.below);clear B1 HB hb q0;have B1:=n1_;have HB:=n2_;clear n1_ n2_;have q0:=iU B1) | (go_at_call 24;(with_reducible refine (fB.calls s3 8 true _ X3.out).mono ?_);rintro e_ w_ ⟨rfl,hb⟩;have n1_:=aS (aK B1.out hb.below);have n2_:=aS (aJ HB.out hb.below);clear B1 HB hb q0;have B1:=n1_;have HB:=n2_;clear n1_ n2_;have q0:=iU B1))
 refine dA (n:=6) (ds:=[]) (S:=fun w'=>w'.rangeAt p1 0 [.int .i64 s1,.int .i64 s2,.int .i64 s3]) (bA 6 0) (by kernel_rfl) rfl rfl (hO (ar B1.out)) (fun hHeld=>?_)
 generalize hw_:World.drew _=wd at hHeld ⊢
 have B1d:ah (wd.heap[p1]? = _):=aS (hw_▸ar B1.out);have HBd:ah (Below w.heap.size w wd):=aS (hw_▸aJ HB.out (bO (Below.refl _ _)));clear hw_ HB B1;refine cI (T:=(true,[([],[]),([],[]),([0,1],[0,1]),([2],[2]),([3,1,0,1,2,3],[3]),([4,0,1,2,3,4],[])])) (B:=[0,0,3,7,15,31]) (by kernel_rfl) (by kernel_rfl) (fun HT_ HW_=>?_);refine iv (i:=0) (N:=(some 24)) (v:=.agg #[.int .i64 s1,.int .i64 s2,.int .i64 s3]) (a':=?_) (bA 6 1) rfl rfl (iF HT_.out HW_.out (by kernel_rfl)) (fun _ _ _ h=>h) (yieldsIf_load_mid (by rfl) 23 _ rfl p1 0 (by go_simp) _ _ (fun w' hw'=>hw') hu23 rfl hsz) hHeld ?_ ?_
 rotate_left
 ·
  simp only [Act.put,dn,dm,lss,bB,bX]
  rfl
 refine dH 1 (N:=some 25) (bA 6 3) HT_ (fun K hK=>?_);refine eu Tryz.func25 (by kernel_rfl) rfl #[] (by rfl) rfl rfl cH ?_
 with_reducible refine (cm.calls _).mono ?_
 rintro e_ w2 ⟨gm,rfl,hm,hb⟩
 refine ⟨_,rfl,?_⟩;have HM:=aS (hm.lower HBd.out.size);have B1:=aS (aK B1d.out hb);have HB2:=aS (aJ HBd.out hb);clear hm hb B1d HBd;refine hK.out _ _ (hO B1.out) (fun hHeld=>?_);clear hK K;refine nm 25 ?_;refine aY [(2,26)] ?_
 iterate 1 (refine cw HT_ ?_)
 refine bU (bA 6 7) (by kernel_rfl) ?_;refine dH 3 (N:=some 27) (bA 6 15) HT_ (fun K hK=>?_);refine CO (by rfl) (N:=27) rfl (cs:=#[.int .i64 s1,.int .i64 s2,.int .i64 s3,.pointer (some ⟨gm,0,none⟩),.slice none 0 0]) (t:=61) ?hr ?_
 (case hr=>(first | (go_simp;done) | (go_simp;rfl)))
 intro gt hg w3 hk hbl
 have HT:ah (ak.At w3 w.heap.size (fun k=>w.heap.size≤k) gt s1 s2 s3 [] 0 []):=aS ⟨gm,_,_,[],by rw [hg];exact HB2.out.size,by rw [hg];exact HB2.out.size,hk,HM.out.1,HM.out.1,aK HM.out.2.1 hbl,Kd.er _ _ _ _ _,Kd.er _ _ _ _ _,rfl,rfl,fun i hi=>absurd hi (Nat.not_lt_zero i),fun i j _ hj=>absurd hj (Nat.not_lt_zero j)⟩;have HB:=aS (aJ HB2.out hbl);have B13:=aS (aK B1.out hbl);clear hg hk hbl HM HB2 B1;refine hK.out _ _ (hO B13.out) (fun hHeld=>?_);clear hK K;refine nm 27 ?_;refine aY [(4,2),(5,3)] ?_
 iterate 2 (refine cw HT_ ?_)
 refine bU (bA 6 63) (by kernel_rfl) ?_;refine dQ (cY HT_.out (by kernel_rfl)) ?_;clear HT_ HW_ hHeld B13
 try go_wp2
 go_ret2
 exact ⟨HB.out,fun h=>Bool.noConfusion h,fun _=>⟨gt,rfl,HT.out⟩⟩
theorem sI.calls (g base:Nat) (xs:List au) (n:Int) (v:Value) (w:World) (hA:cm.At w base g xs n v) :
  Calls Tryz.prog 31 #[.pointer (some ⟨g,0,none⟩)] w fun e w'=>e = .returned (.int .i64 (xs.length:Int))∧Below w.heap.size w w':=by
 have hu46:=Tryz.underlying78;have hu22:=Tryz.underlying32;obtain ⟨A,cc,rfl,hcl,hC⟩:=hA.rows;have B:=aS hA.2.1;clear hA hcl hC;have q0:=Dr B
 go_enter Tryz.func31,Tryz.ntmps31
 go_wp2
 go_ret
 exact ⟨rfl,Below.refl _ _⟩
def eV.f (l0:List (au)):Option (List (au)):=if l0.length*64≤140737488355328 then some l0 else none
theorem eV.calls (A0:Option Addr) (c0:Nat) (l0 r:List (au)) (w:World) (hr0:Kd.C bP w A0 l0.length l0) (hc0:l0.length≤c0) (h:eV.f l0=some r) :
  Calls Tryz.prog 52 #[.slice A0 l0.length c0] w fun e w'=>∃ v0_:Value,e = .returned (v0_)∧Kd.R bP 34 w' w.heap.size (fun _=>True) v0_ r∧Below w.heap.size w w':=by
 unfold eV.f at h
 split at h
 ·
  rename_i hlim
  obtain rfl:=Option.some.inj h
  clear h;have HL:=aS hlim;clear hlim;have HR:=aS hr0;clear hr0;have HC:=aS hc0;clear hc0
  cases A0 with
  | none=>
   have hl:l0=[]:=by
    rcases Nat.eq_zero_or_pos l0.length with h0 | h0
    ·
     exact List.eq_nil_of_length_eq_zero h0
    ·
     obtain ⟨ad,h,_⟩:=HR.out.2.2 h0;cases h
   subst hl
   have hq:=fun (w:World) (n c n' c':Nat)=>Lib.run_eql_slice_nil (P:=Tryz.prog) w 32 34 none n c n' c' Tryz.underlying32
   go_enter Tryz.func52,Tryz.ntmps52
   go_wp2
   go_ret
   exact ⟨_,rfl,Kd.er _ _ _ _ _,Below.refl _ _⟩
  | some ad=>
   have hq:=fun (w:World) (n c n' c':Nat)=>Lib.run_eql_slice_nil (P:=Tryz.prog) w 32 34 (some ad) n c n' c' Tryz.underlying32
   go_enter Tryz.func52,Tryz.ntmps52
   go_wp2_with (first
    | ((with_reducible refine bf (N:=5) rfl ?_);refine Kd.qC bP _ 34 ?hg (N:=5) ?hd (xs:=[]) (inner:=[]) (ok:=fun _=>True) (okp:=fun _=>True) ?hr ?hp (fun _ hk=>hk) trivial (Below.refl _ _) (Nat.le_refl _) (by simp) ?_;(case hd=>rfl);(case hg=>rfl);(case hr=>first | (go_simp;done) | (go_simp;rfl));(case hp=>exact bM.none _ _);intro v1 w1 ho hb hg_ hnew_;clear hg_ hnew_;have HO:=aS ho;have HB:=aS hb;clear ho hb)
    | (at_builtin;refine Kd.jn bP (Rr:=(bP).K w) (w0:=w) w.heap.size rfl (.tmp 5) _ 32 34 _ _ rfl Tryz.underlying32 eB rfl (by decide) (by decide) v1 [] l0 (some ad) l0.length c0 (fun _=>True) (fun _=>False) rfl rfl HO.out (HR.out.gB HB.out (fun _ _ hp=>hp)) (fun _ _ hp=>hp) (fun _ hk=>hk.elim) (fun _ _=>trivial) HB.out HB.out.size (by have:=HL.out;simp;omega) ?_;intro v2 w2 ho hb hg hat;clear hg hat;have HO2:=aS ho;have HB2:=aS hb;clear ho hb))
   go_ret
   exact ⟨_,rfl,HO2.out,HB2.out⟩
 ·
  cases h
end Go.Proofs.YtcbhfedcdnjljaaGreat.X

import Derived.Test.YtcbhfedcdnjljaaGreatXx15
set_option maxHeartbeats 8000000
set_option maxRecDepth 100000
set_option linter.unusedVariables false
set_option linter.unusedSimpArgs false
namespace Go.Proofs.YtcbhfedcdnjljaaGreat.X
open Go.RowKit Go.Proofs.YtcbhfedcdnjljaaGreatW.PrintWords Go.Proofs.YtcbhfedcdnjljaaGreatW.PrintLast Go.Proofs.YtcbhfedcdnjljaaGreatW.PrintMore
attribute [local go_sem] gn gu iu ic fJ fN gA gC ig
def cg.l0:Nat→List (au)→List (au)→Int→Option ((List (au)))
 | 0,_,_,_=>none
 | k+1,x0,x3,x4=>if x4<(x0.length:Int) then (if 0≤x4 then ((av.f k x3 ((af x0 x4).f0) ((af x0 x4).f1) ((af x0 x4).f2) ((af x0 x4).f3) ((af x0 x4).f4)).bind fun t578=>(cg.l0 k x0 t578 (wrap64 (x4+1)))) else (none)) else (some x3)
def cg.f (k:Nat) (l0:List (au)):Option ((List (au))):=cg.l0 k l0 ([]:List (au)) 0
theorem cg.cK:∀ k,(∀ y0 y1 y2,aG (cg.l0 k y0 y1 y2) (cg.l0 (k+1) y0 y1 y2))
 | 0=>fun _ _ _ r h=>by simp [cg.l0] at h
 | k+1=>by
  have ih0:=cg.cK k
  ·
   intro y0 y1 y2
   unfold cg.l0
   have m0:=@av.mono;exact eN
theorem cg.mono:∀ a0 k,aG (cg.f k a0) (cg.f (k+1) a0):=by
 intro a0 k
 have ih0:=cg.cK k
 unfold cg.f
 have m0:=@av.mono;exact eN
theorem cg.calls (k:Nat) (A0:Option Addr) (c0:Nat) (l0:List (au)) (r:List (au)) (w:World) (hr0:Kd.C bP w A0 l0.length l0) (hc0:l0.length≤c0) (h:cg.f k l0=some r) :
  Calls Tryz.prog 23 #[.slice A0 l0.length c0] w fun e w'=>∃ v0_:Value,e = .returned (v0_)∧Kd.R bP 34 w' w.heap.size (fun _=>True) v0_ r∧Below w.heap.size w w':=by
 have hu34:=Tryz.underlying34;have HR0:=aS hr0;have HC0:=aS hc0;clear hr0 hc0;have HB:=aS (Below.refl w.heap.size w);have H:(cg.l0 k l0 ([]:List (au)) 0)=some r:=h;clear h
 have H':=aS H
 clear H
 go_enter Tryz.func23,Tryz.ntmps23
 go_wp2
 go_loopg [3,4] k (fun kq v3 v4 w'=>∃ (x3_1:List (au)) (x4_1:Int),v4 = .int .i64 x4_1∧ah (cg.l0 kq l0 x3_1 x4_1=some r)∧ah (kq≤k)∧ah (Kd.R bP 34 w' w.heap.size (fun _=>True) v3 x3_1)∧ah (Below w.heap.size w w'))
 case atStart=>exact ⟨(([]:List (au))),(0),dJ,H',⟨Nat.le_refl _⟩,⟨by first | exact Kd.er _ _ _ _ _ | exact Kd.gM _ _ _ _ _ | exact Kd.fO _ _ _ _ _ | exact Kd.gK _ _ _ _ _ | exact Kd.gN _ _ _ _ _⟩,⟨aq⟩⟩
 case round=>
  clear H';obtain ⟨x3_1,x4_1,rfl,HA,HK1,HO_3,HB⟩:=hrel
  cases gk with
  | zero=>exact absurd HA.out (by simp [cg.l0])
  | succ k1=>
   have H:=HA.out;clear HA
   simp only [cg.l0] at H
   by_cases c2:x4_1<(l0.length:Int)
   ·
    rw [if_pos c2] at H;have c2b0:decide (x4_1<(l0.length:Int))=true:=decide_eq_true c2;clear c2
    by_cases c3:0≤x4_1
    ·
     rw [if_pos c3] at H;have c3b0:decide (0≤x4_1)=true:=decide_eq_true c3;clear c3;replace H:=cD H;obtain ⟨t578,A40,H⟩:=H;have A4:=aS A40;clear A40
     have H':=aS H
     clear H;have p577:0≤(x4_1:Int):=cr;have q577:x4_1<(l0.length:Int):=cr;obtain ⟨ad577,e577,hx577_0,hx577_1,hx577_2,hx577_3,hx577_4⟩:=eO HR0.out x4_1 p577 q577;cases e577;replace hx577_0:=bx aq hx577_0;replace hx577_1:=bx aq hx577_1;replace hx577_2:=bx aq hx577_2;replace hx577_3:=bx aq hx577_3;replace hx577_4:=bx aq hx577_4;replace p577:=eq_true p577;replace q577:=eq_true q577;obtain ⟨Ao5,co5,eo5⟩:=Kd.bn HO_3.out;subst eo5
     go_wp2_with (first | ((with_reducible refine aC (f:=11) rfl ?_);refine bE (some 16) rfl rfl Tryz.func11 (by kernel_rfl) rfl #[.slice Ao5 x3_1.length co5,.agg #[.string ((af l0 x4_1).f0),.string ((af l0 x4_1).f1),.int .i64 ((af l0 x4_1).f2),.string ((af l0 x4_1).f3),.bool ((af l0 x4_1).f4)]] rfl cH ?_;(with_reducible refine (av.calls k1 _ _ x3_1 ((af l0 x4_1).f0) ((af l0 x4_1).f1) ((af l0 x4_1).f2) ((af l0 x4_1).f3) ((af l0 x4_1).f4) t578 _ ?side1 ?side2 A4.out).mono ?_);(case side1=>exact eM ((Kd.aX HO_3.out).2.2));(case side2=>exact (Kd.aX HO_3.out).2.1);rintro e w6 ⟨v579,rfl,ho0,hb⟩;refine ⟨_,rfl,?_⟩;have HO580:=aS (Kd.bh (Kd.cJ ho0 (Kd.cN (rel HO_3.out))) (aA aq));replace HO_3:=aS (Kd.bR (rel HO_3.out) (dr ho0) hb);replace HB:=aM hb;(try clear hb);(try clear hk);(try clear hi);(try clear ho0)))
     go_roundg k1
     case measure=>have:=HK1.out;omega
     case rel=>exact ⟨(t578),(wrap64 (x4_1+1)),dJ,H',⟨by have:=HK1.out;omega⟩,⟨by (with_reducible repeat (first | apply Kd.bF | apply Kd.bG | apply Kd.bH));exact Kd.aE HO580.out (fun _ hk=>trivial)⟩,⟨aq⟩⟩
    ·
     rw [if_neg c3] at H;exact absurd H (by simp)
   ·
    rw [if_neg c2] at H;have c2b0:decide (x4_1<(l0.length:Int))=false:=decide_eq_false c2;clear c2
    obtain rfl:=Option.some.inj H
    go_wp2
    go_ret
    exact ⟨_,dR,by (with_reducible repeat (first | apply Kd.bF | apply Kd.bG | apply Kd.bH));exact HO_3.out,aq⟩
theorem aT.ways {a b c:Bool} (h:¬ (a && !b && c)=true):a=false∨(a=true∧b=true)∨(a=true∧b=false∧c=false):=by
 revert h
 cases a<;>cases b<;>cases c<;>decide
theorem aT.way {a b c:Bool} (h:(a && !b && c)=true):a=true∧b=false∧c=true:=by
 revert h
 cases a<;>cases b<;>cases c<;>decide
def aT.lp (k:Nat) (s1 s2 s3:Int):List au→(List au × Int × List (List (List au × List (List au) × List Int)))→Option (List au × Int × List (List (List au × List (List au) × List Int)))
 | [],x=>some x
 | c :: r,x=>(cL.f k s1 s2 s3 x.1 x.2.1 x.2.2 c.f0 c.f1 c.f2 c.f3 c.f4).bind fun p=>aT.lp k s1 s2 s3 r (p.1,p.2.1,p.2.2.1)
def aT.tail (k:Nat) (x:(List au × Int × List (List (List au × List (List au) × List Int)))) (l:List au):Option Bool:=
 (dh.f k x.1 x.2.2).bind fun c=>(cE.f k x.1 x.2.2 (⟨#[]⟩:ByteArray) (⟨#[]⟩:ByteArray) 5).bind fun d=>(cg.f k l).bind fun s=>(bW.f k c s).bind fun e=>if e=true then some true else none
def aT.main (k:Nat) (s1 s2 s3:Int) (l:List au):Option Bool:=
 (ak.f s1 s2 s3).bind fun p=>if p=true then (aT.lp k s1 s2 s3 l ([],0,[])).bind fun z=>aT.tail k z l else none
def aT.f (k:Nat) (s1 s2 s3:Int) (l:List au):Option Bool:=
 (cS.f k).bind fun w=>if w=true then (bQ.f k l).bind fun o=>(fZ.f s1 s2 s3).bind fun p=>if (o && !decide (40<l.length) && p)=true then aT.main k s1 s2 s3 l else some true else none
theorem aT.lJ (k:Nat) (s1 s2 s3:Int):∀ l x,aG (aT.lp k s1 s2 s3 l x) (aT.lp (k+1) s1 s2 s3 l x)
 | [],_=>aG.refl _
 | c :: r,_=>aG.bind (cL.mono _ _ _ _ _ _ _ _ _ _ _ _) fun _=>aT.lJ k s1 s2 s3 r _
theorem aT.mono:∀ a0 a1 a2 a3 k,aG (aT.f k a0 a1 a2 a3) (aT.f (k+1) a0 a1 a2 a3):=fun _ _ _ _ _=>aG.bind (cS.mono _) fun _=>aG.ite (aG.bind (bQ.mono _ _) fun _=>aG.bind (aG.refl _) fun _=>aG.ite (aG.bind (aG.refl _) fun _=>aG.ite (aG.bind (aT.lJ _ _ _ _ _ _) fun _=>aG.bind (dh.mono _ _ _) fun _=>aG.bind (cE.mono _ _ _ _ _ _) fun _=>aG.bind (cg.mono _ _) fun _=>aG.bind (bW.mono _ _ _) fun _=>aG.refl _) (aG.refl _)) (aG.refl _)) (aG.refl _)
theorem aT.calls (k:Nat) (s1 s2 s3:Int) (A0:Option Addr) (cp:Nat) (l:List au) (r:Bool) (w:World) (hr0:Kd.C bP w A0 l.length l) (hc0:l.length≤cp) (h:aT.f k s1 s2 s3 l=some r) :
  Calls Tryz.prog 5 #[.agg #[.int .i64 s1,.int .i64 s2,.int .i64 s3],.slice A0 l.length cp] w fun e w'=>e = .returned (.bool r)∧Below w.heap.size w w':=by
 have hu23:=Tryz.underlying23;have hu24:=Tryz.underlying32;have hu26:=Tryz.underlying34;have hu30:=Tryz.underlying27
 have hsz:(Tryz.prog.info? 34).map (·.size)=some 5:=by
  obtain ⟨i0,hi0,hz⟩:=Option.map_eq_some_iff.1 eB
  simp only [Prod.mk.injEq] at hz
  rw [hi0];simp [hz.2.1]
 have HR0:=aS hr0;have HC:=aS hc0;have H:=aS h;clear hr0 hc0 h
 go_enter Tryz.func5,Tryz.ntmps5
 refine wp_seq_k (fun K_ hK_=>?_)
 go_cut [2,4] (fun v2 v4 wc=>∃ p2:Nat,v2 = .pointer (some ⟨p2,0,none⟩)∧v4 = .bool false∧ah (wc.heap[p2]? = some (.cells #[.int .i64 s1,.int .i64 s2,.int .i64 s3] 23 (0,0)))∧ah (Below w.heap.size w wc))
 case first=>
  clear H
  go_wp2_with (first | ((with_reducible refine bf (N:=2) rfl ?_);refine aZ ?hg (N:=2) ?hd (cs:=#[.int .i64 s1,.int .i64 s2,.int .i64 s3]) (t:=23) ?hr ?_;(case hd=>rfl);(case hg=>rfl);(case hr=>(first | (go_simp;done) | (go_simp;rfl)));intro p2 hg w4_ hb hbl;have B2:=aS hb;have HB:=aS hbl;clear hg hb hbl))
  go_meet
  case rel=>exact ⟨p2,rfl,rfl,B2,HB⟩
 obtain ⟨p2,rfl,rfl,B2,HB0⟩:=hcut
 rename World=>w0
 refine hK_ _ _ ?_;have HR:=aS (Kd.cV HR0.out HB0.out);have HB:=aS (Below.refl w0.heap.size w0);have q2:=iU B2;have h:=H.out;clear H HR0
 unfold aT.f at h
 replace h:=cD h;obtain ⟨t,x1,h⟩:=h
 cases t with
 | false=>rw [if_neg Bool.false_ne_true] at h;cases h
 | true=>
 rw [if_pos rfl] at h;replace h:=cD h;obtain ⟨o,x2,h⟩:=h;replace h:=cD h;obtain ⟨p,x3,h⟩:=h;have X1:=aS x1;have X2:=aS x2;have X3:=aS x3
 have z40:decide ((40:Int)<(l.length:Int))=decide (40<l.length):=by rw [Bool.eq_iff_iff,decide_eq_true_iff,decide_eq_true_iff];omega
 clear x1 x2 x3
 by_cases hg:(o && !decide (40<l.length) && p)=true
 case neg=>
  rw [if_neg hg] at h
  obtain rfl:=Option.some.inj h
  clear h
  rcases aT.ways hg with rfl | ⟨rfl,y1⟩ | ⟨rfl,y1,rfl⟩<;>(clear hg;go_wp2_with (first | (go_at_call 6;(with_reducible refine (cS.calls k true _ X1.out).mono ?_);rintro e_ w1_ ⟨rfl,hb⟩;have n1_:=aS (aJ HB.out hb);clear HB hb q2;have HB:=n1_;clear n1_;have q2:=iU (aS (aK B2.out HB.out))) | (go_at_call 20;(with_reducible refine (bQ.calls k A0 cp l _ _ (Kd.cV HR.out HB.out) HC.out X2.out).mono ?_);rintro e_ w1_ ⟨rfl,hb⟩;have n1_:=aS (aJ HB.out hb);clear HB hb q2;have HB:=n1_;clear n1_;have q2:=iU (aS (aK B2.out HB.out))) | (go_at_call 9;(with_reducible refine (fZ.calls s1 s2 s3 _ _ X3.out).mono ?_);rintro e_ w1_ ⟨rfl,hb⟩;have n1_:=aS (aJ HB.out hb);clear HB hb q2;have HB:=n1_;clear n1_;have q2:=iU (aS (aK B2.out HB.out))));go_ret;exact ⟨rfl,aJ HB0.out HB.out⟩)
 rw [if_pos hg] at h;obtain ⟨rfl,y1,rfl⟩:=aT.way hg;have HLM:ah (l.length≤40):=aS (Nat.le_of_not_lt (of_decide_eq_false y1))
 unfold aT.main at h
 replace h:=cD h;obtain ⟨a,x5,h⟩:=h
 split at h
 case isFalse=>cases h
 rename_i hab
 obtain rfl:=hab
 replace h:=cD h;obtain ⟨⟨a1,a2,a3⟩,x7,h⟩:=h;have X5:=aS x5;have X7:=aS x7;have H:=aS h;clear x5 x7 h hg
 go_wp2_with (first | (go_at_call 6;(with_reducible refine (cS.calls k true _ X1.out).mono ?_);rintro e_ w1_ ⟨rfl,hb⟩;have n1_:=aS (aJ HB.out hb);clear HB hb q2;have HB:=n1_;clear n1_;have q2:=iU (aS (aK B2.out HB.out))) | (go_at_call 20;(with_reducible refine (bQ.calls k A0 cp l _ _ (Kd.cV HR.out HB.out) HC.out X2.out).mono ?_);rintro e_ w1_ ⟨rfl,hb⟩;have n1_:=aS (aJ HB.out hb);clear HB hb q2;have HB:=n1_;clear n1_;have q2:=iU (aS (aK B2.out HB.out))) | (go_at_call 9;(with_reducible refine (fZ.calls s1 s2 s3 _ _ X3.out).mono ?_);rintro e_ w1_ ⟨rfl,hb⟩;have n1_:=aS (aJ HB.out hb);clear HB hb q2;have HB:=n1_;clear n1_;have q2:=iU (aS (aK B2.out HB.out))) | (go_at_call 8;(with_reducible refine (ak.calls s1 s2 s3 true _ X5.out).mono ?_);rintro e_ w2 ⟨hb,_,ht⟩;obtain ⟨g,rfl,ht2⟩:=ht rfl;have HT:=aS (ht2.EO HB.out.size);clear ht ht2;have n1_:=aS (aJ HB.out hb);clear HB hb q2;have HB:=n1_;clear n1_;have q2:=iU (aS (aK B2.out HB.out))))
 clear q2 X1 X2 X3 X5 z40 y1
 go_loopw [7] (fun v7 wr=>∃ (i:Nat) (x:(List au × Int × List (List (List au × List (List au) × List Int)))),v7 = .int .i64 (i:Int)∧ah (i≤l.length)∧ah (aT.lp k s1 s2 s3 (l.drop i) x=some (a1,a2,a3))∧ah (ak.At wr w0.heap.size (fun k=>w0.heap.size≤k) g s1 s2 s3 x.1 x.2.1 x.2.2)∧ah (Below w0.heap.size w0 wr)) (fun i _=>l.length - (intOf i).toNat)
 case atStart=>exact ⟨0,([],0,[]),rfl,⟨Nat.zero_le _⟩,X7,HT,HB⟩
 clear X7 HT HB
 case round=>
  obtain ⟨i,x,rfl,hi,HP,HT,HB⟩:=hrel
  by_cases hlt:i<l.length
  ·
   have hq1:(i:Int)<(l.length:Int):=by omega
   have hq0:(0:Int)≤(i:Int):=by omega
   obtain ⟨ad,e_,hx0,hx1,hx2,hx3,hx4⟩:=eO (Kd.cV HR.out HB.out) (i:Int) hq0 hq1;subst e_
   obtain ⟨c,hc⟩:∃ c,c=af l (i:Int):=⟨_,rfl⟩
   rw [←hc] at hx0 hx1 hx2 hx3 hx4;rw [Int.toNat_natCast] at hx0 hx1 hx2 hx3 hx4
   have hd:l.drop i=c :: l.drop (i+1):=by
    rw [List.drop_eq_getElem_cons hlt,hc]
    unfold af
    rw [Int.toNat_natCast,List.getD_eq_getElem?_getD,List.getElem?_eq_getElem hlt]
    rfl
   have ha:=HP.out;rw [hd] at ha
   unfold aT.lp at ha
   replace ha:=cD ha;obtain ⟨⟨p1,p2,p3,p4'⟩,y1,ha⟩:=ha;have Y1:=aS y1
   have hix:∀ W:World,(Instr.indexAt 32 (.slice (some ad) l.length cp) (.int .i64 (i:Int))).run Tryz.prog W = .ok (.pointer (some (ad.add (i*5)))) W:=by
    obtain ⟨i0,hi0,hz⟩:=Option.map_eq_some_iff.1 eB
    simp only [Prod.mk.injEq] at hz
    intro W
    have h1:=iI 32 34 hu24 hi0 5 hz.2.1 ad l.length cp (i:Int) (by omega) (by omega) W
    rwa [Int.toNat_natCast] at h1
   have hwr:wrap64 ((i:Int)+1)=(i:Int)+1:=by rw [←bB,IntKind.wrap_i64];have:=HLM.out;omega
   have HP1:=aS ha;clear hc hd hi hq0 HP y1 ha
   go_wp2_with (first | (go_at_call 12;(with_reducible refine (cL.calls k g _ (fun k=>w0.heap.size≤k) s1 s2 s3 x.1 p1 x.2.1 p2 x.2.2 p3 c.f0 c.f1 c.f2 c.f3 c.f4 p4' _ HT.out Y1.out).mono ?_);rintro e_ w2 ⟨rfl,ha_,hc_⟩;have n1_:=aS (ha_.new HB.out.size);have n2_:=aS (hc_.below HB.out HB.out.size (fun _ hk=>hk));clear HT HB ha_ hc_ hx0 hx1 hx2 hx3 hx4;have HT:=n1_;have HB:=n2_;clear n1_ n2_))
   go_roundw
   case rel=>exact ⟨i+1,(p1,p2,p3),by rw [hwr];rfl,⟨hlt⟩,HP1,HT,HB⟩
   case measure=>exact jh hwr hlt
  ·
   have hge:¬ ((i:Int)<(l.length:Int)):=by omega
   have ha:=HP.out;rw [List.drop_eq_nil_of_le (by omega)] at ha
   unfold aT.lp at ha
   obtain rfl:=Option.some.inj ha
   have h:=H.out
   unfold aT.tail at h
   replace h:=cD h;obtain ⟨ca,x5,h⟩:=h;replace h:=cD h;obtain ⟨rr,x6,h⟩:=h;replace h:=cD h;obtain ⟨s,x7,h⟩:=h;replace h:=cD h;obtain ⟨e1,x8,h⟩:=h
   split at h
   case isFalse=>cases h
   rename_i hv
   obtain rfl:=hv
   obtain rfl:=Option.some.inj h
   have X5:=aS x5;have X6:=aS x6;have X7:=aS x7;have X8:=aS x8;clear x5 x6 x7 x8 h H HP hi ha
   obtain ⟨wA,hwA⟩:∃ wA,wA=wr:=⟨_,rfl⟩
   subst hwA
   go_upto_region 12 with (first | (go_at_call 19;(with_reducible refine (dh.calls k _ _ g s1 s2 s3 a1 a2 a3 ca _ HT.out X5.out).mono ?_);rintro e_ w4 ⟨u4,rfl,ho,hb⟩;have HX4:=aS ho;have HA4:=aS (HT.out.below hb);have HW4:=aS hb;clear ho hb) | (go_at_call 17;(with_reducible refine (cE.calls k g _ _ s1 s2 s3 a1 a2 a3 (⟨#[]⟩:ByteArray) (⟨#[]⟩:ByteArray) 5 rr _ HA4.out X6.out).mono ?_);rintro e_ w5 ⟨u5,rfl,ho,hb⟩;have HY5:=aS ho;have HX5:=aS (Kd.dO HX4.out hb);have HW5:=aS (aJ HW4.out hb);clear ho hb HA4))
   have HX:ah (Kd.R bP 34 w5 wA.heap.size (fun b=>some b≠u5.ownBlock) u4 ca):=aS (Kd.wP rfl HX5.out (fun k hk he=>by have h1:=Kd.fF HY5.out k he.symm;have h2:=Kd.cN HX4.out k hk;omega));have HY:ah (Kd.R bP 34 w5 wA.heap.size (fun b=>some b≠u4.ownBlock) u5 rr):=aS (Kd.bh (Kd.wP rfl HY5.out (fun k hk he=>by have h1:=Kd.fF HY5.out k hk;have h2:=Kd.cN HX4.out k he.symm;omega)) HW4.out.size);clear HX4 HX5 HY5;obtain ⟨Ax,cx,rfl⟩:=Kd.bn HX.out;obtain ⟨Ay,cy,rfl⟩:=Kd.bn HY.out;have HXM:ah (ca.length≤9223372036854775807):=aS (Kd.aX HX.out).2.2.2.1;have HYM:ah (rr.length≤9223372036854775807):=aS (Kd.aX HY.out).2.2.2.1;clear hge hlt
   go_wp2
   go_loopw [10] (fun v10 wr=>∃ (i:Nat) (xl yl:List au),v10 = .int .i64 (i:Int)∧ah (i≤ca.length)∧ah (Kd.R bP 34 wr wA.heap.size (fun b=>some b≠(Value.slice Ay rr.length cy).ownBlock) (.slice Ax ca.length cx) xl)∧ah (Kd.R bP 34 wr wA.heap.size (fun b=>some b≠(Value.slice Ax ca.length cx).ownBlock) (.slice Ay rr.length cy) yl)∧ah (Below wA.heap.size wA wr)) (fun i _=>ca.length - (intOf i).toNat)
   case atStart=>exact ⟨0,ca,rr,rfl,⟨Nat.zero_le _⟩,HX,HY,HW5⟩
   case round=>
    clear HX HY HW5;obtain ⟨i,xl,yl,rfl,hi,HX,HY,HBr⟩:=hrel
    by_cases hlt:i<ca.length
    ·
     have hq1:(i:Int)<(ca.length:Int):=by omega
     have hq0:(0:Int)≤(i:Int):=by omega
     have lx:xl.length=ca.length:=(Kd.aX HX.out).1.symm;obtain ⟨gx,cx',ex,_,_,_⟩:=Kd.lZ HX.out (by omega)
     injection ex with ex1 ex2 ex3
     subst ex1 ex3
     have hix:∀ W:World,(Instr.indexAt 32 (.slice (some ⟨gx,0,none⟩) ca.length cx) (.int .i64 (i:Int))).run Tryz.prog W = .ok (.pointer (some ⟨gx,i*5,none⟩)) W:=by
      obtain ⟨i0,hi0,hz⟩:=Option.map_eq_some_iff.1 eB
      simp only [Prod.mk.injEq] at hz
      have:=tJ 32 34 hu24 hi0 5 hz.2.1 gx ca.length cx (i:Int) hq0 hq1
      simpa using this
     have hwr:wrap64 ((i:Int)+1)=(i:Int)+1:=by rw [←bB,IntKind.wrap_i64];have:=HXM.out;omega
     clear hi ex2 lx;obtain ⟨ce,hcel,hq_,hcc,hr_⟩:=Kd.lg HX.out yZ (i:Int) hq0 hq1
     have hM:Kd.M bP wr wA.heap.size (fun _=>False) (⟨⟨#[]⟩,⟨#[]⟩,0,⟨#[]⟩,false⟩:au) (ce.take 0++[.string ⟨#[]⟩,.string ⟨#[]⟩,.int .i64 0,.string ⟨#[]⟩,.bool false]++ce.drop (0+5)):=by
      rw [List.take_zero,List.nil_append,List.drop_of_length_le (by rw [hcel];exact Nat.le_refl 5),List.append_nil];exact gT wr _ (fun _=>False) (⟨⟨#[]⟩,⟨#[]⟩,0,⟨#[]⟩,false⟩:au)
     go_wp2_with (first | ((with_reducible refine ez (t:=34) (p:=66) rfl ?_);refine Kd.zb bP (w0:=wA) wA.heap.size rfl rfl 34 _ _ rfl 34 (i:Int) 0 xl (⟨⟨#[]⟩,⟨#[]⟩,0,⟨#[]⟩,false⟩:au) (.agg #[.string ⟨#[]⟩,.string ⟨#[]⟩,.int .i64 0,.string ⟨#[]⟩,.bool false]) [.string ⟨#[]⟩,.string ⟨#[]⟩,.int .i64 0,.string ⟨#[]⟩,.bool false] ce _ (fun _=>False) rfl rfl rfl rfl hsz ((bP).K_one (pV wr (⟨⟨#[]⟩,⟨#[]⟩,0,⟨#[]⟩,false⟩:au))) HX.out hq0 hq1 hcel hcc (by decide) ?hM (fun _ hk=>hk.elim) HBr.out ?_;(case hM=>exact hM);intro w6 ho hb hg;have HX3:=aS ho;have HB3:=aS hb;have HY3:=aS (Kd.oG HY.out hg (fun k hk he=>hk he));clear ho hb hg HX HY HBr))
     go_roundw
     case rel=>exact ⟨i+1,_,_,by rw [hwr];rfl,⟨hlt⟩,HX3,HY3,HB3⟩
     case measure=>exact jh hwr hlt
    ·
     have hge:¬ ((i:Int)<(ca.length:Int)):=by omega
     clear hi HX
     go_wp2
     clear hge hlt
     go_loopw [11] (fun v11 wr=>∃ (i:Nat) (yl:List au),v11 = .int .i64 (i:Int)∧ah (i≤rr.length)∧ah (Kd.R bP 34 wr wA.heap.size (fun b=>some b≠(Value.slice Ax ca.length cx).ownBlock) (.slice Ay rr.length cy) yl)∧ah (Below wA.heap.size wA wr)) (fun i _=>rr.length - (intOf i).toNat)
     case atStart=>exact ⟨0,_,rfl,⟨Nat.zero_le _⟩,HY,HBr⟩
     case round=>
      clear HY HBr;obtain ⟨i,yl,rfl,hi,HY,HBr⟩:=hrel
      by_cases hlt:i<rr.length
      ·
       have hq1:(i:Int)<(rr.length:Int):=by omega
       have hq0:(0:Int)≤(i:Int):=by omega
       have lx:yl.length=rr.length:=(Kd.aX HY.out).1.symm;obtain ⟨gx,cx',ex,_,_,_⟩:=Kd.lZ HY.out (by omega)
       injection ex with ex1 ex2 ex3
       subst ex1 ex3
       have hix:∀ W:World,(Instr.indexAt 32 (.slice (some ⟨gx,0,none⟩) rr.length cy) (.int .i64 (i:Int))).run Tryz.prog W = .ok (.pointer (some ⟨gx,i*5,none⟩)) W:=by
        obtain ⟨i0,hi0,hz⟩:=Option.map_eq_some_iff.1 eB
        simp only [Prod.mk.injEq] at hz
        have:=tJ 32 34 hu24 hi0 5 hz.2.1 gx rr.length cy (i:Int) hq0 hq1
        simpa using this
       have hwr:wrap64 ((i:Int)+1)=(i:Int)+1:=by rw [←bB,IntKind.wrap_i64];have:=HYM.out;omega
       clear hi ex2 lx;obtain ⟨ce,hcel,hq_,hcc,hr_⟩:=Kd.lg HY.out yZ (i:Int) hq0 hq1
       have hM:Kd.M bP wr wA.heap.size (fun _=>False) (⟨⟨#[]⟩,⟨#[]⟩,0,⟨#[]⟩,false⟩:au) (ce.take 0++[.string ⟨#[]⟩,.string ⟨#[]⟩,.int .i64 0,.string ⟨#[]⟩,.bool false]++ce.drop (0+5)):=by
        rw [List.take_zero,List.nil_append,List.drop_of_length_le (by rw [hcel];exact Nat.le_refl 5),List.append_nil];exact gT wr _ (fun _=>False) (⟨⟨#[]⟩,⟨#[]⟩,0,⟨#[]⟩,false⟩:au)
       go_wp2_with (first | ((with_reducible refine ez (t:=34) (p:=76) rfl ?_);refine Kd.zb bP (w0:=wA) wA.heap.size rfl rfl 34 _ _ rfl 34 (i:Int) 0 yl (⟨⟨#[]⟩,⟨#[]⟩,0,⟨#[]⟩,false⟩:au) (.agg #[.string ⟨#[]⟩,.string ⟨#[]⟩,.int .i64 0,.string ⟨#[]⟩,.bool false]) [.string ⟨#[]⟩,.string ⟨#[]⟩,.int .i64 0,.string ⟨#[]⟩,.bool false] ce _ (fun _=>False) rfl rfl rfl rfl hsz ((bP).K_one (pV wr (⟨⟨#[]⟩,⟨#[]⟩,0,⟨#[]⟩,false⟩:au))) HY.out hq0 hq1 hcel hcc (by decide) ?hM (fun _ hk=>hk.elim) HBr.out ?_;(case hM=>exact hM);intro w6 ho hb hg;have HY3:=aS ho;have HB3:=aS hb;clear ho hb hg HY HBr))
       go_roundw
       case rel=>exact ⟨i+1,_,by rw [hwr];rfl,⟨hlt⟩,HY3,HB3⟩
       case measure=>exact jh hwr hlt
      ·
       have hge:¬ ((i:Int)<(rr.length:Int)):=by omega
       have HA5:=aS (HT.out.below HBr.out);have HB5:=aS (aJ HB.out HBr.out);clear hi HY
       go_wp2_with (first | (go_at_call 19;(with_reducible refine (dh.calls k _ _ g s1 s2 s3 a1 a2 a3 ca _ HA5.out X5.out).mono ?_);rintro e_ w8 ⟨u8,rfl,ho,hb⟩;obtain ⟨A8,c8,rfl,hcl,hC⟩:=Kd.gL ho;have HL8:=aS hcl;have HC8:=aS hC;have HB6:=aS (aJ HB5.out hb);clear ho hb hcl hC HB5) | (go_at_call 23;(with_reducible refine (cg.calls k A0 cp l s _ (Kd.cV HR.out HB6.out) HC.out X7.out).mono ?_);rintro e_ w9 ⟨u9,rfl,ho,hb⟩;obtain ⟨A9,c9,rfl,hcl,hC⟩:=Kd.gL ho;have HL9:=aS hcl;have HC9:=aS hC;have HC8':=aS (Kd.cV HC8.out hb);have HB7:=aS (aJ HB6.out hb);clear ho hb hcl hC HB6 HC8) | (go_at_call 16;(with_reducible refine (bW.calls k A8 c8 ca A9 c9 s true _ HC8'.out HL8.out HC9.out HL9.out X8.out).mono ?_);rintro e_ w10 ⟨rfl,hb⟩;have HB8:=aS (aJ HB7.out hb.below);clear hb HB7))
       go_ret
       exact ⟨rfl,aJ HB0.out HB8.out⟩
def aT.Pure:Prop:=∀ (a0_0:Int) (a0_1:Int) (a0_2:Int) (l1:List (au)),(Lit.int .i64 a0_0).wf=true→(Lit.int .i64 a0_1).wf=true→(Lit.int .i64 a0_2).wf=true→(l1.length≤maxLen∧l1.length*64≤140737488351232∧∀ y0_ ∈ l1,(y0_.f0.size≤140737488351232∧y0_.f1.size≤140737488351232∧(Lit.int .i64 y0_.f2).wf=true∧y0_.f3.size≤140737488351232∧True))→∃ k,aT.f k a0_0 a0_1 a0_2 l1=some true
theorem aT.walk (P:aT.Pure) (a0_0:Int) (a0_1:Int) (a0_2:Int) (A1:Option Addr) (c1:Nat) (l1:List (au)) (w:World) (wf0_0:(Lit.int .i64 a0_0).wf=true) (wf0_1:(Lit.int .i64 a0_1).wf=true) (wf0_2:(Lit.int .i64 a0_2).wf=true) (wf1:(l1.length≤maxLen∧l1.length*64≤140737488351232∧∀ y0_ ∈ l1,(y0_.f0.size≤140737488351232∧y0_.f1.size≤140737488351232∧(Lit.int .i64 y0_.f2).wf=true∧y0_.f3.size≤140737488351232∧True))) (hr1:Kd.C bP w A1 l1.length l1) (hc1:l1.length≤c1) :
  Calls Tryz.prog 5 #[.agg #[.int .i64 a0_0,.int .i64 a0_1,.int .i64 a0_2],.slice A1 l1.length c1] w fun e w'=>e = .returned (.bool true)∧Below w.heap.size w w':=by
 obtain ⟨k,h⟩:=P a0_0 a0_1 a0_2 l1 wf0_0 wf0_1 wf0_2 wf1;refine (aT.calls k a0_0 a0_1 a0_2 A1 c1 l1 true w hr1 hc1 h).mono ?_
 rintro e w' ⟨rfl,hd⟩
 exact ⟨rfl,hd⟩
end Go.Proofs.YtcbhfedcdnjljaaGreat.X

import Derived.Test.YtcbhfedcdnjljaaGreatXx6
set_option maxHeartbeats 8000000
set_option maxRecDepth 100000
set_option linter.unusedVariables false
set_option linter.unusedSimpArgs false
namespace Go.Proofs.YtcbhfedcdnjljaaGreat.X
open Go.RowKit Go.Proofs.YtcbhfedcdnjljaaGreatW.PrintWords Go.Proofs.YtcbhfedcdnjljaaGreatW.PrintLast Go.Proofs.YtcbhfedcdnjljaaGreatW.PrintMore
attribute [local go_sem] lG lH mH mG kp ku lA lC mE
attribute [local go_sem high] D_
def cY.f (k:Nat) (l0:List (au)) (a1_0:ByteArray) (a1_1:ByteArray) (a1_2:Int) (a1_3:ByteArray) (a1_4:Bool) (a2:Int):Option (Bool):=(bE.f k l0 a1_0 a1_1 a2).bind fun bt528=>(if bt528.2.2.2.2.2=true then (some (bt528.1.toList == a1_0.toList && (bt528.2.1.toList == a1_1.toList && (bt528.2.2.1 == a1_2 && (bt528.2.2.2.1.toList == a1_3.toList && (bt528.2.2.2.2.1 == a1_4)))))) else (some false))
theorem cY.mono:∀ a0 a1 a2 a3 a4 a5 a6 k,aH (cY.f k a0 a1 a2 a3 a4 a5 a6) (cY.f (k+1) a0 a1 a2 a3 a4 a5 a6):=by
 intro a0 a1 a2 a3 a4 a5 a6 k
 unfold cY.f
 have m0:=@bE.mono;exact eF
theorem cY.calls (k:Nat) (A0:Option Addr) (c0:Nat) (l0:List (au)) (a1_0:ByteArray) (a1_1:ByteArray) (a1_2:Int) (a1_3:ByteArray) (a1_4:Bool) (a2:Int) (r:Bool) (w:World) (hr0:Kd.C cm w A0 l0.length l0) (hc0:l0.length≤c0) (h:cY.f k l0 a1_0 a1_1 a1_2 a1_3 a1_4 a2=some r) :
  Calls Tryz.prog 57 #[.slice A0 l0.length c0,.agg #[.string a1_0,.string a1_1,.int .i64 a1_2,.string a1_3,.bool a1_4],.int .i64 a2] w fun e w'=>e = .returned (.bool r)∧Below w.heap.size w w':=by
 have hu34:=Tryz.underlying34;have HR0:=aS hr0;have HC0:=aS hc0;clear hr0 hc0;have HB:=aS (Below.refl w.heap.size w);have H:((bE.f k l0 a1_0 a1_1 a2).bind fun bt528=>(if bt528.2.2.2.2.2=true then (some (bt528.1.toList == a1_0.toList && (bt528.2.1.toList == a1_1.toList && (bt528.2.2.1 == a1_2 && (bt528.2.2.2.1.toList == a1_3.toList && (bt528.2.2.2.2.1 == a1_4)))))) else (some false)))=some r:=h;clear h;replace H:=bU H;obtain ⟨⟨t528,t529,t530,t531,t532,t533⟩,A40,H⟩:=H;(try dsimp only at H);have A4:=aS A40;clear A40
 by_cases c5:t533=true
 ·
  subst c5
  replace H:=jy H
  obtain rfl:=Option.some.inj H
  go_enter Tryz.func57,Tryz.ntmps57
  go_wp2_with (first | ((with_reducible refine gD 4 ?_);refine dK 4 #[.string a1_0,.string a1_1,.int .i64 a1_2,.string a1_3,.bool a1_4] 34 ?_;intro gb527 hg w6 hbox hb;have BK527:=aS (hbox);have GW527:=bsize hg;have GE527:=bsize hg;replace HB:=aM hb;clear hb hbox hg;have hcz7:=cO BK527) | ((with_reducible refine gC 15 ?_);refine dn 16 Tryz.func15 #[.slice A0 l0.length c0,.string a1_0,.string a1_1,.int .i64 a2] ?_;(with_reducible refine (bE.calls k _ _ l0 a1_0 a1_1 a2 t528 t529 t530 t531 t532 true _ ?side1 ?side2 A4.out).mono ?_);(case side1=>exact eH (Kd.cH HR0.out HB.out));(case side2=>exact HC0.out);rintro e w8 ⟨rfl,hb⟩;refine ⟨_,rfl,?_⟩;replace BK527:=fp BK527 hb;replace HB:=aM hb;(try clear hb);(try clear hk);(try clear hi)) | ((with_reducible refine gD 7 ?_);refine dK 7 #[.string (⟨#[]⟩:ByteArray),.string (⟨#[]⟩:ByteArray),.int .i64 0,.string (⟨#[]⟩:ByteArray),.bool false] 34 ?_;intro gb534 hg w9 hbox hb;have BK534:=aS (hbox);have GW534:=bsize hg;have GE534:=bsize hg;replace HB:=aM hb;have NB527_534:=aS ((by rw [hg];exact Nat.ne_of_lt (cR (g:=gb527) (o:=.cells #[.string a1_0,.string a1_1,.int .i64 a1_2,.string a1_3,.bool a1_4] 34 (0,0)) (eA BK527.out)):gb527≠gb534));have NB534_527:=aS ((by rw [hg];exact Nat.ne_of_gt (cR (g:=gb527) (o:=.cells #[.string a1_0,.string a1_1,.int .i64 a1_2,.string a1_3,.bool a1_4] 34 (0,0)) (eA BK527.out)):gb534≠gb527));replace BK527:=fp BK527 hb;clear hb hbox hg;have hnb10:=NB534_527.out;have hnc10:=NB527_534.out;have hcz11:=cO BK534;have hcz12:=cO BK527))
  go_ret
  exact ⟨dP,aq⟩
 ·
  replace c5:=Bool.eq_false_iff.mpr c5;subst c5
  replace H:=jw H
  obtain rfl:=Option.some.inj H
  go_enter Tryz.func57,Tryz.ntmps57
  go_wp2_with (first | ((with_reducible refine gD 4 ?_);refine dK 4 #[.string a1_0,.string a1_1,.int .i64 a1_2,.string a1_3,.bool a1_4] 34 ?_;intro gb527 hg w13 hbox hb;have BK527:=aS (hbox);have GW527:=bsize hg;have GE527:=bsize hg;replace HB:=aM hb;clear hb hbox hg;have hcz14:=cO BK527) | ((with_reducible refine gC 15 ?_);refine dn 16 Tryz.func15 #[.slice A0 l0.length c0,.string a1_0,.string a1_1,.int .i64 a2] ?_;(with_reducible refine (bE.calls k _ _ l0 a1_0 a1_1 a2 t528 t529 t530 t531 t532 false _ ?side1 ?side2 A4.out).mono ?_);(case side1=>exact eH (Kd.cH HR0.out HB.out));(case side2=>exact HC0.out);rintro e w15 ⟨rfl,hb⟩;refine ⟨_,rfl,?_⟩;replace BK527:=fp BK527 hb;replace HB:=aM hb;(try clear hb);(try clear hk);(try clear hi)) | ((with_reducible refine gD 7 ?_);refine dK 7 #[.string (⟨#[]⟩:ByteArray),.string (⟨#[]⟩:ByteArray),.int .i64 0,.string (⟨#[]⟩:ByteArray),.bool false] 34 ?_;intro gb534 hg w16 hbox hb;have BK534:=aS (hbox);have GW534:=bsize hg;have GE534:=bsize hg;replace HB:=aM hb;have NB527_534:=aS ((by rw [hg];exact Nat.ne_of_lt (cR (g:=gb527) (o:=.cells #[.string a1_0,.string a1_1,.int .i64 a1_2,.string a1_3,.bool a1_4] 34 (0,0)) (eA BK527.out)):gb527≠gb534));have NB534_527:=aS ((by rw [hg];exact Nat.ne_of_gt (cR (g:=gb527) (o:=.cells #[.string a1_0,.string a1_1,.int .i64 a1_2,.string a1_3,.bool a1_4] 34 (0,0)) (eA BK527.out)):gb534≠gb527));replace BK527:=fp BK527 hb;clear hb hbox hg;have hnb17:=NB534_527.out;have hnc17:=NB527_534.out;have hcz18:=cO BK534))
  go_ret
  exact ⟨dP,aq⟩
def aX.l0:Nat→List (au)→Int→List (au)→Int→Option ((List (au)))
 | 0,_,_,_,_=>none
 | k+1,x0,x1,x5,x6=>if x6<(x0.length:Int) then (if 0≤x6 then ((cY.f k x0 ((af x0 x6).f0) ((af x0 x6).f1) ((af x0 x6).f2) ((af x0 x6).f3) ((af x0 x6).f4) x1).bind fun t536=>(if t536=true then (if ((af x0 x6).f4=true) then (aX.l0 k x0 x1 x5 (wrap64 (x6+1))) else (if x5.length<2199023255552 then (aX.l0 k x0 x1 (x5++[(⟨(af x0 x6).f0,(af x0 x6).f1,(af x0 x6).f2,(af x0 x6).f3,(af x0 x6).f4⟩:au)]) (wrap64 (x6+1))) else (none))) else (aX.l0 k x0 x1 x5 (wrap64 (x6+1))))) else (none)) else (some x5)
def aX.f (k:Nat) (l0:List (au)) (a1:Int):Option ((List (au))):=aX.l0 k l0 a1 ([]:List (au)) 0
theorem aX.cF:∀ k,(∀ y0 y1 y2 y3,aH (aX.l0 k y0 y1 y2 y3) (aX.l0 (k+1) y0 y1 y2 y3))
 | 0=>fun _ _ _ _ r h=>by simp [aX.l0] at h
 | k+1=>by
  have ih0:=aX.cF k
  ·
   intro y0 y1 y2 y3
   unfold aX.l0
   have m0:=@cY.mono;exact eF
theorem aX.mono:∀ a0 a1 k,aH (aX.f k a0 a1) (aX.f (k+1) a0 a1):=by
 intro a0 a1 k
 have ih0:=aX.cF k
 unfold aX.f
 have m0:=@cY.mono;exact eF
theorem aX.calls (k:Nat) (A0:Option Addr) (c0:Nat) (l0:List (au)) (a1:Int) (r:List (au)) (w:World) (hr0:Kd.C cm w A0 l0.length l0) (hc0:l0.length≤c0) (h:aX.f k l0 a1=some r) :
  Calls Tryz.prog 38 #[.slice A0 l0.length c0,.int .i64 a1] w fun e w'=>∃ v0_:Value,e = .returned (v0_)∧Kd.R cm 34 w' w.heap.size (fun _=>True) v0_ r∧Below w.heap.size w w':=by
 have hu34:=Tryz.underlying34;have HR0:=aS hr0;have HC0:=aS hc0;clear hr0 hc0;have HB:=aS (Below.refl w.heap.size w);have H:(aX.l0 k l0 a1 ([]:List (au)) 0)=some r:=h;clear h
 have H':=aS H
 clear H
 go_enter Tryz.func38,Tryz.ntmps38
 go_wp2
 go_loopg [5,6] k (fun kq v5 v6 w'=>∃ (x5_1:List (au)) (x6_1:Int),v6 = .int .i64 x6_1∧ah (aX.l0 kq l0 a1 x5_1 x6_1=some r)∧ah (kq≤k)∧ah (Kd.R cm 34 w' w.heap.size (fun _=>True) v5 x5_1)∧ah (Below w.heap.size w w'))
 case atStart=>exact ⟨(([]:List (au))),(0),cG,H',⟨Nat.le_refl _⟩,⟨by first | exact Kd.d6 _ _ _ _ _ | exact Kd.gB _ _ _ _ _ | exact Kd.fJ _ _ _ _ _ | exact Kd.gy _ _ _ _ _ | exact Kd.gE _ _ _ _ _⟩,⟨aq⟩⟩
 case round=>
  clear H';obtain ⟨x5_1,x6_1,rfl,HA,HK1,HO_5,HB⟩:=hrel
  cases gk with
  | zero=>exact absurd HA.out (by simp [aX.l0])
  | succ k1=>
   have H:=HA.out;clear HA
   simp only [aX.l0] at H
   by_cases c3:x6_1<(l0.length:Int)
   ·
    rw [if_pos c3] at H;have c3b0:decide (x6_1<(l0.length:Int))=true:=decide_eq_true c3;clear c3
    by_cases c4:0≤x6_1
    ·
     rw [if_pos c4] at H;have c4b0:decide (0≤x6_1)=true:=decide_eq_true c4;clear c4;replace H:=bU H;obtain ⟨t536,A50,H⟩:=H;have A5:=aS A50;clear A50
     by_cases c6:t536=true
     ·
      subst c6
      replace H:=jy H
      obtain ⟨bq7,hbq7⟩:∃ b_:Bool,b_=((af l0 x6_1).f4):=⟨_,rfl⟩
      replace H:(if (bq7=true) then (aX.l0 k1 l0 a1 x5_1 (wrap64 (x6_1+1))) else (if x5_1.length<2199023255552 then (aX.l0 k1 l0 a1 (x5_1++[(⟨(af l0 x6_1).f0,(af l0 x6_1).f1,(af l0 x6_1).f2,(af l0 x6_1).f3,bq7⟩:au)]) (wrap64 (x6_1+1))) else (none)))=some r:=by rw [←hbq7] at H;exact H
      have Nbq7:=aS hbq7;clear hbq7
      by_cases c8:(bq7=true)
      ·
       subst c8
       replace H:=jy H
       have H':=aS H
       clear H;have p535:0≤(x6_1:Int):=bJ;have q535:x6_1<(l0.length:Int):=bJ;obtain ⟨ad535,e535,hx535_0,hx535_1,hx535_2,hx535_3,hx535_4⟩:=dN HR0.out x6_1 p535 q535
       (try rw [←Nbq7.out] at hx535_4)
       cases e535;replace hx535_0:=bx aq hx535_0;replace hx535_1:=bx aq hx535_1;replace hx535_2:=bx aq hx535_2;replace hx535_3:=bx aq hx535_3;replace hx535_4:=bx aq hx535_4;replace p535:=eq_true p535;replace q535:=eq_true q535
       go_wp2_with (first | ((with_reducible refine gC 57 ?_);refine dn 19 Tryz.func57 #[.slice (some ad535) l0.length c0,.agg #[.string ((af l0 x6_1).f0),.string ((af l0 x6_1).f1),.int .i64 ((af l0 x6_1).f2),.string ((af l0 x6_1).f3),.bool true],.int .i64 a1] ?_;(with_reducible refine (cY.calls k1 _ _ l0 ((af l0 x6_1).f0) ((af l0 x6_1).f1) ((af l0 x6_1).f2) ((af l0 x6_1).f3) true a1 true _ ?side1 ?side2 (by first | exact A5.out | (have h_:=A5.out;rw [←Nbq7.out] at h_;exact h_))).mono ?_);(case side1=>exact eH (Kd.cH HR0.out HB.out));(case side2=>exact HC0.out);rintro e w9 ⟨rfl,hb⟩;refine ⟨_,rfl,?_⟩;replace HO_5:=aS (Kd.dB (rel HO_5.out) hb);replace HB:=aM hb;(try clear hb);(try clear hk);(try clear hi);have p537:0≤(x6_1:Int):=bJ;have q537:x6_1<(l0.length:Int):=bJ;obtain ⟨ad537,e537,hx537_0,hx537_1,hx537_2,hx537_3,hx537_4⟩:=dN HR0.out x6_1 p537 q537;(try rw [←Nbq7.out] at hx537_4);obtain rfl:ad535=ad537:=(by injection e537);replace hx537_0:=bx aq hx537_0;replace hx537_1:=bx aq hx537_1;replace hx537_2:=bx aq hx537_2;replace hx537_3:=bx aq hx537_3;replace hx537_4:=bx aq hx537_4;replace p537:=eq_true p537;replace q537:=eq_true q537))
       go_roundg k1
       case measure=>have:=HK1.out;omega
       case rel=>exact ⟨(x5_1),(wrap64 (x6_1+1)),cG,H',⟨by have:=HK1.out;omega⟩,⟨by (with_reducible repeat (first | apply Kd.bB | apply Kd.bC | apply Kd.bD));exact HO_5.out⟩,⟨aq⟩⟩
      ·
       replace c8:=Bool.eq_false_iff.mpr c8;subst c8
       replace H:=jw H
       by_cases ef:x5_1.length<2199023255552
       ·
        rw [if_pos ef] at H;have LMc10:=aS ef;clear ef
        obtain ⟨y539,hy539⟩:∃ y_:List (au),y_=(x5_1++[(⟨(af l0 x6_1).f0,(af l0 x6_1).f1,(af l0 x6_1).f2,(af l0 x6_1).f3,false⟩:au)]):=⟨_,rfl⟩
        (first | replace H:=l9 hy539 H | rw [←hy539] at H);have Ny539:=aS hy539;clear hy539
        have H':=aS H
        clear H;have p535:0≤(x6_1:Int):=bJ;have q535:x6_1<(l0.length:Int):=bJ;obtain ⟨ad535,e535,hx535_0,hx535_1,hx535_2,hx535_3,hx535_4⟩:=dN HR0.out x6_1 p535 q535
        (try rw [←Nbq7.out] at hx535_4)
        cases e535;replace hx535_0:=bx aq hx535_0;replace hx535_1:=bx aq hx535_1;replace hx535_2:=bx aq hx535_2;replace hx535_3:=bx aq hx535_3;replace hx535_4:=bx aq hx535_4;replace p535:=eq_true p535;replace q535:=eq_true q535
        go_wp2_with (first | ((with_reducible refine gC 57 ?_);refine dn 19 Tryz.func57 #[.slice (some ad535) l0.length c0,.agg #[.string ((af l0 x6_1).f0),.string ((af l0 x6_1).f1),.int .i64 ((af l0 x6_1).f2),.string ((af l0 x6_1).f3),.bool false],.int .i64 a1] ?_;(with_reducible refine (cY.calls k1 _ _ l0 ((af l0 x6_1).f0) ((af l0 x6_1).f1) ((af l0 x6_1).f2) ((af l0 x6_1).f3) false a1 true _ ?side1 ?side2 (by first | exact A5.out | (have h_:=A5.out;rw [←Nbq7.out] at h_;exact h_))).mono ?_);(case side1=>exact eH (Kd.cH HR0.out HB.out));(case side2=>exact HC0.out);rintro e w11 ⟨rfl,hb⟩;refine ⟨_,rfl,?_⟩;replace HO_5:=aS (Kd.dB (rel HO_5.out) hb);replace HB:=aM hb;(try clear hb);(try clear hk);(try clear hi);have p537:0≤(x6_1:Int):=bJ;have q537:x6_1<(l0.length:Int):=bJ;obtain ⟨ad537,e537,hx537_0,hx537_1,hx537_2,hx537_3,hx537_4⟩:=dN HR0.out x6_1 p537 q537;(try rw [←Nbq7.out] at hx537_4);obtain rfl:ad535=ad537:=(by injection e537);replace hx537_0:=bx aq hx537_0;replace hx537_1:=bx aq hx537_1;replace hx537_2:=bx aq hx537_2;replace hx537_3:=bx aq hx537_3;replace hx537_4:=bx aq hx537_4;replace p537:=eq_true p537;replace q537:=eq_true q537;have p538:0≤(x6_1:Int):=bJ;have q538:x6_1<(l0.length:Int):=bJ;obtain ⟨ad538,e538,hx538_0,hx538_1,hx538_2,hx538_3,hx538_4⟩:=dN HR0.out x6_1 p538 q538;(try rw [←Nbq7.out] at hx538_4);obtain rfl:ad535=ad538:=(by injection e538);replace hx538_0:=bx aq hx538_0;replace hx538_1:=bx aq hx538_1;replace hx538_2:=bx aq hx538_2;replace hx538_3:=bx aq hx538_3;replace hx538_4:=bx aq hx538_4;replace p538:=eq_true p538;replace q538:=eq_true q538) | ((with_reducible refine fS (b:=.append) (xs:=#[.tmp 28,.tmp 33]) rfl ?_);at_builtin;refine Kd.gJ cm (w0:=w) w.heap.size rfl (.tmp 28) (.tmp 33) 32 34 (.agg #[(.string ⟨#[]⟩),(.string ⟨#[]⟩),(.int .i64 0),(.string ⟨#[]⟩),(.bool false)]) 64 rfl Tryz.underlying32 eO rfl (by decide) (by omega) u5 x5_1 (⟨(af l0 x6_1).f0,(af l0 x6_1).f1,(af l0 x6_1).f2,(af l0 x6_1).f3,false⟩:au) [.string ((af l0 x6_1).f0),.string ((af l0 x6_1).f1),.int .i64 ((af l0 x6_1).f2),.string ((af l0 x6_1).f3),.bool false] (fun _=>True) (fun _=>False) rfl rfl ?aP (fun _ hk=>hk.elim) ?aF ?aO ?aB ?aS ?aL ?_;(case aP=>exact ia _ _ _ (⟨(af l0 x6_1).f0,(af l0 x6_1).f1,(af l0 x6_1).f2,(af l0 x6_1).f3,false⟩:au));(case aB=>exact aq);(case aF=>exact (fun _ _=>trivial));(case aO=>exact (rel HO_5.out));(case aS=>exact (aA aq));(case aL=>have:=LMc10.out;omega);intro v540 w12 ho hb hg hat;rw [←Ny539.out] at ho;have n0_:=aS (hb);have n1_:=aS (ho);clear HB;clear HO_5;have HB:=n0_;have HO541:=n1_;clear n0_ n1_;clear ho hb hg hat))
        go_roundg k1
        case measure=>have:=HK1.out;omega
        case rel=>exact ⟨(y539),(wrap64 (x6_1+1)),cG,H',⟨by have:=HK1.out;omega⟩,⟨by (with_reducible repeat (first | apply Kd.bB | apply Kd.bC | apply Kd.bD));exact HO541.out⟩,⟨aq⟩⟩
       ·
        rw [if_neg ef] at H;exact absurd H (by simp)
     ·
      replace c6:=Bool.eq_false_iff.mpr c6;subst c6
      replace H:=jw H
      have H':=aS H
      clear H;have p535:0≤(x6_1:Int):=bJ;have q535:x6_1<(l0.length:Int):=bJ;obtain ⟨ad535,e535,hx535_0,hx535_1,hx535_2,hx535_3,hx535_4⟩:=dN HR0.out x6_1 p535 q535;cases e535;replace hx535_0:=bx aq hx535_0;replace hx535_1:=bx aq hx535_1;replace hx535_2:=bx aq hx535_2;replace hx535_3:=bx aq hx535_3;replace hx535_4:=bx aq hx535_4;replace p535:=eq_true p535;replace q535:=eq_true q535
      go_wp2_with (first | ((with_reducible refine gC 57 ?_);refine dn 19 Tryz.func57 #[.slice (some ad535) l0.length c0,.agg #[.string ((af l0 x6_1).f0),.string ((af l0 x6_1).f1),.int .i64 ((af l0 x6_1).f2),.string ((af l0 x6_1).f3),.bool ((af l0 x6_1).f4)],.int .i64 a1] ?_;(with_reducible refine (cY.calls k1 _ _ l0 ((af l0 x6_1).f0) ((af l0 x6_1).f1) ((af l0 x6_1).f2) ((af l0 x6_1).f3) ((af l0 x6_1).f4) a1 false _ ?side1 ?side2 A5.out).mono ?_);(case side1=>exact eH (Kd.cH HR0.out HB.out));(case side2=>exact HC0.out);rintro e w13 ⟨rfl,hb⟩;refine ⟨_,rfl,?_⟩;replace HO_5:=aS (Kd.dB (rel HO_5.out) hb);replace HB:=aM hb;(try clear hb);(try clear hk);(try clear hi)))
      go_roundg k1
      case measure=>have:=HK1.out;omega
      case rel=>exact ⟨(x5_1),(wrap64 (x6_1+1)),cG,H',⟨by have:=HK1.out;omega⟩,⟨by (with_reducible repeat (first | apply Kd.bB | apply Kd.bC | apply Kd.bD));exact HO_5.out⟩,⟨aq⟩⟩
    ·
     rw [if_neg c4] at H;exact absurd H (by simp)
   ·
    rw [if_neg c3] at H;have c3b0:decide (x6_1<(l0.length:Int))=false:=decide_eq_false c3;clear c3
    obtain rfl:=Option.some.inj H
    go_wp2
    go_ret
    exact ⟨_,dP,by (with_reducible repeat (first | apply Kd.bB | apply Kd.bC | apply Kd.bD));exact HO_5.out,aq⟩
def bM.l0:Nat→ByteArray→ByteArray→List (au)→List (au)→Int→Option ((List (au)))
 | 0,_,_,_,_,_=>none
 | k+1,x1,x2,x9,x10,x11=>if x11<(x9.length:Int) then (if 0≤x11 then ((aD.f k ((af x9 x11).f0) x1).bind fun t546=>(if t546≥0 then (if x2.toList=([]:List UInt8) then (if x10.length<2199023255552 then (bM.l0 k x1 x2 x9 (x10++[(⟨(af x9 x11).f0,(af x9 x11).f1,(af x9 x11).f2,(af x9 x11).f3,(af x9 x11).f4⟩:au)]) (wrap64 (x11+1))) else (none)) else ((aD.f k ((af x9 x11).f0) x2).bind fun t552=>(if t552<0 then (if x10.length<2199023255552 then (bM.l0 k x1 x2 x9 (x10++[(⟨(af x9 x11).f0,(af x9 x11).f1,(af x9 x11).f2,(af x9 x11).f3,(af x9 x11).f4⟩:au)]) (wrap64 (x11+1))) else (none)) else (bM.l0 k x1 x2 x9 x10 (wrap64 (x11+1)))))) else (bM.l0 k x1 x2 x9 x10 (wrap64 (x11+1))))) else (none)) else (some x10)
def bM.f (k:Nat) (l0:List (au)) (a1:ByteArray) (a2:ByteArray) (a3:Int):Option ((List (au))):=(aX.f k l0 a3).bind fun t542=>(bM.l0 k a1 a2 t542 ([]:List (au)) 0)
theorem bM.cF:∀ k,(∀ y0 y1 y2 y3 y4,aH (bM.l0 k y0 y1 y2 y3 y4) (bM.l0 (k+1) y0 y1 y2 y3 y4))
 | 0=>fun _ _ _ _ _ r h=>by simp [bM.l0] at h
 | k+1=>by
  have ih0:=bM.cF k
  ·
   intro y0 y1 y2 y3 y4
   unfold bM.l0
   have m0:=@aD.mono;have m1:=@aX.mono;exact eF
theorem bM.mono:∀ a0 a1 a2 a3 k,aH (bM.f k a0 a1 a2 a3) (bM.f (k+1) a0 a1 a2 a3):=by
 intro a0 a1 a2 a3 k
 have ih0:=bM.cF k
 unfold bM.f
 have m0:=@aD.mono;have m1:=@aX.mono;exact eF
theorem bM.calls (k:Nat) (A0:Option Addr) (c0:Nat) (l0:List (au)) (a1:ByteArray) (a2:ByteArray) (a3:Int) (r:List (au)) (w:World) (hr0:Kd.C cm w A0 l0.length l0) (hc0:l0.length≤c0) (h:bM.f k l0 a1 a2 a3=some r) :
  Calls Tryz.prog 18 #[.slice A0 l0.length c0,.string a1,.string a2,.int .i64 a3] w fun e w'=>∃ v0_:Value,e = .returned (v0_)∧Kd.R cm 34 w' w.heap.size (fun _=>True) v0_ r∧Below w.heap.size w w':=by
 have hu34:=Tryz.underlying34;have HR0:=aS hr0;have HC0:=aS hc0;clear hr0 hc0;have HB:=aS (Below.refl w.heap.size w);have H:((aX.f k l0 a3).bind fun t542=>(bM.l0 k a1 a2 t542 ([]:List (au)) 0))=some r:=h;clear h;replace H:=bU H;obtain ⟨t542,A50,H⟩:=H;have A5:=aS A50;clear A50
 have H':=aS H
 clear H
 go_enter Tryz.func18,Tryz.ntmps18
 go_wp2_with (first | ((with_reducible refine gC 38 ?_);refine dn 14 Tryz.func38 #[.slice A0 l0.length c0,.int .i64 a3] ?_;(with_reducible refine (aX.calls k _ _ l0 a3 t542 _ ?side1 ?side2 A5.out).mono ?_);(case side1=>exact eH HR0.out);(case side2=>exact HC0.out);rintro e w6 ⟨v543,rfl,ho0,hb⟩;refine ⟨_,rfl,?_⟩;have HO544:=aS (Kd.bn ho0 (aA aq));replace HB:=aM hb;(try clear hb);(try clear hk);(try clear hi);(try clear ho0)))
 go_loopg [10,11] k (fun kq v10 v11 w'=>∃ (x10_1:List (au)) (x11_1:Int),v11 = .int .i64 x11_1∧ah (bM.l0 kq a1 a2 t542 x10_1 x11_1=some r)∧ah (kq≤k)∧ah (Kd.R cm 34 w' w.heap.size (fun k_=>some k_≠(v10:Value).ownBlock) v543 t542)∧ah (Kd.R cm 34 w' w.heap.size (fun k_=>some k_≠(v543:Value).ownBlock) v10 x10_1)∧ah (Below w.heap.size w w'))
 case atStart=>exact ⟨(([]:List (au))),(0),cG,H',⟨Nat.le_refl _⟩,⟨by (with_reducible repeat (first | apply Kd.bB | apply Kd.bC | apply Kd.bD));exact Kd.aK HO544.out (fun _ hk=>(by simp [Value.ownBlock]))⟩,⟨by first | exact Kd.d6 _ _ _ _ _ | exact Kd.gB _ _ _ _ _ | exact Kd.fJ _ _ _ _ _ | exact Kd.gy _ _ _ _ _ | exact Kd.gE _ _ _ _ _⟩,⟨aq⟩⟩
 case round=>
  clear H';obtain ⟨x10_1,x11_1,rfl,HA,HK1,HO_9,HO_10,HB⟩:=hrel
  cases gk with
  | zero=>exact absurd HA.out (by simp [bM.l0])
  | succ k1=>
   have H:=HA.out;clear HA
   simp only [bM.l0] at H
   by_cases c7:x11_1<(t542.length:Int)
   ·
    rw [if_pos c7] at H;have c7b0:decide (x11_1<(t542.length:Int))=true:=decide_eq_true c7;clear c7
    by_cases c8:0≤x11_1
    ·
     rw [if_pos c8] at H;have c8b0:decide (0≤x11_1)=true:=decide_eq_true c8;clear c8;replace H:=bU H;obtain ⟨t546,A90,H⟩:=H;have A9:=aS A90;clear A90
     by_cases ef:t546≥0
     ·
      rw [if_pos ef] at H;have c10b0:decide (0≤t546)=true:=decide_eq_true ef;clear ef
      by_cases c11:a2.toList=([]:List UInt8)
      ·
       rw [if_pos c11] at H;obtain ⟨c11b0,c11b1⟩:=jh c11;clear c11
       by_cases c12:x10_1.length<2199023255552
       ·
        rw [if_pos c12] at H;have LMc12:=aS c12;clear c12
        obtain ⟨y548,hy548⟩:∃ y_:List (au),y_=(x10_1++[(⟨(af t542 x11_1).f0,(af t542 x11_1).f1,(af t542 x11_1).f2,(af t542 x11_1).f3,(af t542 x11_1).f4⟩:au)]):=⟨_,rfl⟩
        replace H:(bM.l0 k1 a1 a2 t542 y548 (wrap64 (x11_1+1)))=some r:=pU hy548 H;have Ny548:=aS hy548;clear hy548
        have H':=aS H
        clear H;obtain ⟨Ao13,co13,eo13⟩:=Kd.bp HO_9.out;subst eo13;have p545:0≤(x11_1:Int):=bJ;have q545:x11_1<(t542.length:Int):=bJ;obtain ⟨ad545,e545,hx545_0,hx545_1,hx545_2,hx545_3,hx545_4⟩:=dN (Kd.aY HO_9.out).2.2 x11_1 p545 q545;cases e545;replace p545:=eq_true p545;replace q545:=eq_true q545
        go_wp2_with (first | ((with_reducible refine gC 39 ?_);refine dn 27 Tryz.func39 #[.string ((af t542 x11_1).f0),.string a1] ?_;(with_reducible refine (aD.calls k1 ((af t542 x11_1).f0) a1 t546 _ A9.out).mono ?_);rintro e w' ⟨rfl,⟨nd,rfl⟩⟩;refine ⟨_,rfl,?_⟩;have p547:0≤(x11_1:Int):=bJ;have q547:x11_1<(t542.length:Int):=bJ;obtain ⟨ad547,e547,hx547_0,hx547_1,hx547_2,hx547_3,hx547_4⟩:=dN (Kd.aY HO_9.out).2.2 x11_1 p547 q547;obtain rfl:ad545=ad547:=(by injection e547);replace p547:=eq_true p547;replace q547:=eq_true q547) | ((with_reducible refine fS (b:=.append) (xs:=#[.tmp 43,.tmp 48]) rfl ?_);at_builtin;refine Kd.gJ cm (w0:=w) w.heap.size rfl (.tmp 43) (.tmp 48) 32 34 (.agg #[(.string ⟨#[]⟩),(.string ⟨#[]⟩),(.int .i64 0),(.string ⟨#[]⟩),(.bool false)]) 64 rfl Tryz.underlying32 eO rfl (by decide) (by omega) u10 x10_1 (⟨(af t542 x11_1).f0,(af t542 x11_1).f1,(af t542 x11_1).f2,(af t542 x11_1).f3,(af t542 x11_1).f4⟩:au) [.string ((af t542 x11_1).f0),.string ((af t542 x11_1).f1),.int .i64 ((af t542 x11_1).f2),.string ((af t542 x11_1).f3),.bool ((af t542 x11_1).f4)] (fun k_=>some k_≠(.slice (some ad545) t542.length co13:Value).ownBlock) (fun _=>False) rfl rfl ?aP (fun _ hk=>hk.elim) ?aF ?aO ?aB ?aS ?aL ?_;(case aP=>exact ia _ _ _ (⟨(af t542 x11_1).f0,(af t542 x11_1).f1,(af t542 x11_1).f2,(af t542 x11_1).f3,(af t542 x11_1).f4⟩:au));(case aB=>exact aq);(case aF=>exact (fun k_ hk=>Kd.iD (Kd.cP (rel HO_9.out)) k_ hk));(case aO=>exact (rel HO_10.out));(case aS=>exact (aA aq));(case aL=>have:=LMc12.out;omega);intro v549 w14 ho hb hg hat;rw [←Ny548.out] at ho;have n0_:=aS (Kd.ju (ok:=(fun _=>True)) (by (with_reducible repeat (first | apply Kd.bB | apply Kd.bC | apply Kd.bD));exact Kd.aK HO_9.out (fun _ hk=>⟨trivial,hk⟩)) hg hat);have n1_:=aS (hb);have n2_:=aS (ho);clear HO_9;clear HB;clear HO_10;have HO_9:=n0_;have HB:=n1_;have HO550:=n2_;clear n0_ n1_ n2_;clear ho hb hg hat))
        go_roundg k1
        case measure=>have:=HK1.out;omega
        case rel=>exact ⟨(y548),(wrap64 (x11_1+1)),cG,H',⟨by have:=HK1.out;omega⟩,⟨by (with_reducible repeat (first | apply Kd.bB | apply Kd.bC | apply Kd.bD));exact Kd.aK HO_9.out (fun _ hk=>hk.2)⟩,⟨by (with_reducible repeat (first | apply Kd.bB | apply Kd.bC | apply Kd.bD));exact HO550.out⟩,⟨aq⟩⟩
       ·
        rw [if_neg c12] at H;exact absurd H (by simp)
      ·
       rw [if_neg c11] at H;obtain ⟨c11b0,c11b1⟩:=iT c11;replace H:=bU H;obtain ⟨t552,A150,H⟩:=H;have A15:=aS A150;clear A150
       by_cases c16:t552<0
       ·
        rw [if_pos c16] at H;have c16b0:decide (t552<0)=true:=decide_eq_true c16;clear c16
        by_cases c17:x10_1.length<2199023255552
        ·
         rw [if_pos c17] at H;have LMc17:=aS c17;clear c17
         obtain ⟨y554,hy554⟩:∃ y_:List (au),y_=(x10_1++[(⟨(af t542 x11_1).f0,(af t542 x11_1).f1,(af t542 x11_1).f2,(af t542 x11_1).f3,(af t542 x11_1).f4⟩:au)]):=⟨_,rfl⟩
         replace H:(bM.l0 k1 a1 a2 t542 y554 (wrap64 (x11_1+1)))=some r:=pU hy554 H;have Ny554:=aS hy554;clear hy554
         have H':=aS H
         clear H;obtain ⟨Ao18,co18,eo18⟩:=Kd.bp HO_9.out;subst eo18;have p545:0≤(x11_1:Int):=bJ;have q545:x11_1<(t542.length:Int):=bJ;obtain ⟨ad545,e545,hx545_0,hx545_1,hx545_2,hx545_3,hx545_4⟩:=dN (Kd.aY HO_9.out).2.2 x11_1 p545 q545;cases e545;replace p545:=eq_true p545;replace q545:=eq_true q545
         go_wp2_with (first | ((with_reducible refine gC 39 ?_);refine dn 27 Tryz.func39 #[.string ((af t542 x11_1).f0),.string a1] ?_;(with_reducible refine (aD.calls k1 ((af t542 x11_1).f0) a1 t546 _ A9.out).mono ?_);rintro e w' ⟨rfl,⟨nd,rfl⟩⟩;refine ⟨_,rfl,?_⟩;have p551:0≤(x11_1:Int):=bJ;have q551:x11_1<(t542.length:Int):=bJ;obtain ⟨ad551,e551,hx551_0,hx551_1,hx551_2,hx551_3,hx551_4⟩:=dN (Kd.aY HO_9.out).2.2 x11_1 p551 q551;obtain rfl:ad545=ad551:=(by injection e551);replace p551:=eq_true p551;replace q551:=eq_true q551) | (go_at_call 39;(with_reducible refine (aD.calls k1 ((af t542 x11_1).f0) a2 t552 _ A15.out).mono ?_);rintro e w' ⟨rfl,⟨nd,rfl⟩⟩;have p553:0≤(x11_1:Int):=bJ;have q553:x11_1<(t542.length:Int):=bJ;obtain ⟨ad553,e553,hx553_0,hx553_1,hx553_2,hx553_3,hx553_4⟩:=dN (Kd.aY HO_9.out).2.2 x11_1 p553 q553;obtain rfl:ad545=ad553:=(by injection e553);replace p553:=eq_true p553;replace q553:=eq_true q553) | ((with_reducible refine fS (b:=.append) (xs:=#[.tmp 43,.tmp 48]) rfl ?_);at_builtin;refine Kd.gJ cm (w0:=w) w.heap.size rfl (.tmp 43) (.tmp 48) 32 34 (.agg #[(.string ⟨#[]⟩),(.string ⟨#[]⟩),(.int .i64 0),(.string ⟨#[]⟩),(.bool false)]) 64 rfl Tryz.underlying32 eO rfl (by decide) (by omega) u10 x10_1 (⟨(af t542 x11_1).f0,(af t542 x11_1).f1,(af t542 x11_1).f2,(af t542 x11_1).f3,(af t542 x11_1).f4⟩:au) [.string ((af t542 x11_1).f0),.string ((af t542 x11_1).f1),.int .i64 ((af t542 x11_1).f2),.string ((af t542 x11_1).f3),.bool ((af t542 x11_1).f4)] (fun k_=>some k_≠(.slice (some ad545) t542.length co18:Value).ownBlock) (fun _=>False) rfl rfl ?aP (fun _ hk=>hk.elim) ?aF ?aO ?aB ?aS ?aL ?_;(case aP=>exact ia _ _ _ (⟨(af t542 x11_1).f0,(af t542 x11_1).f1,(af t542 x11_1).f2,(af t542 x11_1).f3,(af t542 x11_1).f4⟩:au));(case aB=>exact aq);(case aF=>exact (fun k_ hk=>Kd.iD (Kd.cP (rel HO_9.out)) k_ hk));(case aO=>exact (rel HO_10.out));(case aS=>exact (aA aq));(case aL=>have:=LMc17.out;omega);intro v555 w19 ho hb hg hat;rw [←Ny554.out] at ho;have n0_:=aS (Kd.ju (ok:=(fun _=>True)) (by (with_reducible repeat (first | apply Kd.bB | apply Kd.bC | apply Kd.bD));exact Kd.aK HO_9.out (fun _ hk=>⟨trivial,hk⟩)) hg hat);have n1_:=aS (hb);have n2_:=aS (ho);clear HO_9;clear HB;clear HO_10;have HO_9:=n0_;have HB:=n1_;have HO556:=n2_;clear n0_ n1_ n2_;clear ho hb hg hat))
         go_roundg k1
         case measure=>have:=HK1.out;omega
         case rel=>exact ⟨(y554),(wrap64 (x11_1+1)),cG,H',⟨by have:=HK1.out;omega⟩,⟨by (with_reducible repeat (first | apply Kd.bB | apply Kd.bC | apply Kd.bD));exact Kd.aK HO_9.out (fun _ hk=>hk.2)⟩,⟨by (with_reducible repeat (first | apply Kd.bB | apply Kd.bC | apply Kd.bD));exact HO556.out⟩,⟨aq⟩⟩
        ·
         rw [if_neg c17] at H;exact absurd H (by simp)
       ·
        rw [if_neg c16] at H;have c16b0:decide (t552<0)=false:=decide_eq_false c16;clear c16
        have H':=aS H
        clear H;obtain ⟨Ao20,co20,eo20⟩:=Kd.bp HO_9.out;subst eo20;have p545:0≤(x11_1:Int):=bJ;have q545:x11_1<(t542.length:Int):=bJ;obtain ⟨ad545,e545,hx545_0,hx545_1,hx545_2,hx545_3,hx545_4⟩:=dN (Kd.aY HO_9.out).2.2 x11_1 p545 q545;cases e545;replace p545:=eq_true p545;replace q545:=eq_true q545
        go_wp2_with (first | ((with_reducible refine gC 39 ?_);refine dn 27 Tryz.func39 #[.string ((af t542 x11_1).f0),.string a1] ?_;(with_reducible refine (aD.calls k1 ((af t542 x11_1).f0) a1 t546 _ A9.out).mono ?_);rintro e w' ⟨rfl,⟨nd,rfl⟩⟩;refine ⟨_,rfl,?_⟩;have p551:0≤(x11_1:Int):=bJ;have q551:x11_1<(t542.length:Int):=bJ;obtain ⟨ad551,e551,hx551_0,hx551_1,hx551_2,hx551_3,hx551_4⟩:=dN (Kd.aY HO_9.out).2.2 x11_1 p551 q551;obtain rfl:ad545=ad551:=(by injection e551);replace p551:=eq_true p551;replace q551:=eq_true q551) | (go_at_call 39;(with_reducible refine (aD.calls k1 ((af t542 x11_1).f0) a2 t552 _ A15.out).mono ?_);rintro e w' ⟨rfl,⟨nd,rfl⟩⟩))
        go_roundg k1
        case measure=>have:=HK1.out;omega
        case rel=>exact ⟨(x10_1),(wrap64 (x11_1+1)),cG,H',⟨by have:=HK1.out;omega⟩,⟨by (with_reducible repeat (first | apply Kd.bB | apply Kd.bC | apply Kd.bD));exact HO_9.out⟩,⟨by (with_reducible repeat (first | apply Kd.bB | apply Kd.bC | apply Kd.bD));exact HO_10.out⟩,⟨aq⟩⟩
     ·
      rw [if_neg ef] at H;have c10b0:decide (0≤t546)=false:=decide_eq_false ef;clear ef
      have H':=aS H
      clear H;obtain ⟨Ao21,co21,eo21⟩:=Kd.bp HO_9.out;subst eo21;have p545:0≤(x11_1:Int):=bJ;have q545:x11_1<(t542.length:Int):=bJ;obtain ⟨ad545,e545,hx545_0,hx545_1,hx545_2,hx545_3,hx545_4⟩:=dN (Kd.aY HO_9.out).2.2 x11_1 p545 q545;cases e545;replace p545:=eq_true p545;replace q545:=eq_true q545
      go_wp2_with (first | ((with_reducible refine gC 39 ?_);refine dn 27 Tryz.func39 #[.string ((af t542 x11_1).f0),.string a1] ?_;(with_reducible refine (aD.calls k1 ((af t542 x11_1).f0) a1 t546 _ A9.out).mono ?_);rintro e w' ⟨rfl,⟨nd,rfl⟩⟩;refine ⟨_,rfl,?_⟩))
      go_roundg k1
      case measure=>have:=HK1.out;omega
      case rel=>exact ⟨(x10_1),(wrap64 (x11_1+1)),cG,H',⟨by have:=HK1.out;omega⟩,⟨by (with_reducible repeat (first | apply Kd.bB | apply Kd.bC | apply Kd.bD));exact HO_9.out⟩,⟨by (with_reducible repeat (first | apply Kd.bB | apply Kd.bC | apply Kd.bD));exact HO_10.out⟩,⟨aq⟩⟩
    ·
     rw [if_neg c8] at H;exact absurd H (by simp)
   ·
    rw [if_neg c7] at H;have c7b0:decide (x11_1<(t542.length:Int))=false:=decide_eq_false c7;clear c7
    obtain rfl:=Option.some.inj H
    obtain ⟨Ao22,co22,eo22⟩:=Kd.bp HO_9.out;subst eo22
    go_wp2
    go_ret
    exact ⟨_,dP,by (with_reducible repeat (first | apply Kd.bB | apply Kd.bC | apply Kd.bD));exact Kd.aK HO_10.out (fun _ hk=>trivial),aq⟩
structure av.BX (w:World) (base:Nat) (o:Nat→Prop) (g:Nat) (s1 s2 s3:Int) (x:(List au × Int × List (List (List au × List (List au) × List Int)))) (vm:Value) (m:List au):Prop where
 la:∀ k,o k→base≤k∧k<w.heap.size
 a:ak.At w base o g s1 s2 s3 x.1 x.2.1 x.2.2
 m:Kd.R cm 34 w base (fun k=>¬ o k) vm m
def av.DE (w:World) (base g:Nat) (s1 s2 s3:Int) (x:(List au × Int × List (List (List au × List (List au) × List Int)))) (vm:Value) (m:List au):Prop:=∃ o,av.BX w base o g s1 s2 s3 x vm m
section
variable {w w2:World} {base g:Nat} {s1 s2 s3:Int} {x x':(List au × Int × List (List (List au × List (List au) × List Int)))} {vm vm':Value} {m m':List au} {o:Nat→Prop}
theorem av.DE.below (h:av.DE w base g s1 s2 s3 x vm m) (hb:Below w.heap.size w w2):av.DE w2 base g s1 s2 s3 x vm m:=by
 obtain ⟨o,h⟩:=h;exact ⟨o,fun k hk=>⟨(h.la k hk).1,Nat.lt_of_lt_of_le (h.la k hk).2 hb.size⟩,h.a.below hb,Kd.dB h.m hb⟩
theorem av.DE.new {x:(List au × Int × List (List (List au × List (List au) × List Int)))} (ha:ak.At w base (fun k=>base≤k) g s1 s2 s3 x.1 x.2.1 x.2.2):av.DE w base g s1 s2 s3 x (.slice none 0 0) []:=⟨_,fun _ hk=>hk,ha.bound,Kd.d6 _ _ _ _ _⟩
theorem av.BX.put (h:av.BX w base o g s1 s2 s3 x vm m) (ha:ak.At w2 base (fun k=>o k∨w.heap.size≤k) g s1 s2 s3 x'.1 x'.2.1 x'.2.2) (hc:ak.fD w w2 o) (hb:base≤w.heap.size):av.DE w2 base g s1 s2 s3 x' vm m:=by
 have hn:∀ k,¬ o k→k<w.heap.size→¬ ((o k∨w.heap.size≤k)∧k<w2.heap.size):=fun k h1 h2 h3=>h3.1.elim h1 (Nat.not_le_of_lt h2)
 have ho:∀ k,¬ ((o k∨w.heap.size≤k)∧k<w2.heap.size)→k<w.heap.size→¬ o k:=fun k h1 h2 h3=>h1 ⟨.inl h3,Nat.lt_of_lt_of_le h2 hc.size⟩
 exact ⟨_,fun k hk=>⟨hk.1.elim (fun h1=>(h.la k h1).1) (Nat.le_trans hb),hk.2⟩,ha.bound,Kd.jU (Kd.aK (Kd.eu h.m) (fun k hk=>hn k hk.1 hk.2.2.1)) (fun k hk hlt=>hc.block k hlt (ho k hk hlt))⟩
theorem av.BX.mem (h:av.BX w base o g s1 s2 s3 x vm m) (hr:Kd.R cm 34 w2 w.heap.size (fun _=>True) vm' m') (hb:Below w.heap.size w w2) (hge:base≤w.heap.size):av.DE w2 base g s1 s2 s3 x vm' m':=
 ⟨o,fun k hk=>⟨(h.la k hk).1,Nat.lt_of_lt_of_le (h.la k hk).2 hb.size⟩,h.a.below hb,Kd.bn (Kd.aK (Kd.eu hr) (fun k hk ho=>Nat.not_le_of_lt (h.la k ho).2 hk.2.1)) hge⟩
end
theorem av.c6 {w:World} {p:Nat} {u0 u1 u2 u3 u4 u5:Value} {t:Nat} (h:ah (w.heap[p]? = some (.cells #[u0,u1,u2,u3,u4,u5] t (0,0)))):w.cell? ⟨p,0,none⟩=some u0∧w.cell? ⟨p,1,none⟩=some u1∧w.cell? ⟨p,2,none⟩=some u2∧w.cell? ⟨p,3,none⟩=some u3∧w.cell? ⟨p,4,none⟩=some u4∧w.cell? ⟨p,5,none⟩=some u5:=⟨(aC h.out 0).trans rfl,(aC h.out 1).trans rfl,(aC h.out 2).trans rfl,(aC h.out 3).trans rfl,(aC h.out 4).trans rfl,(aC h.out 5).trans rfl⟩
def av.ok (v:au) (c:ByteArray × ByteArray × Int × ByteArray × Bool × Bool):Prop:=(!v.f4)=(c.2.2.2.2.2 && !c.2.2.2.2.1)∧(v.f4=false→v.f3=c.2.2.2.1)∧(v.f4=true→v.f3=(⟨#[]⟩:ByteArray))
theorem av.ways {v:au} {q1 q2 q4:ByteArray} {q3:Int} {q5 q6:Bool} (h:av.ok v (q1,q2,q3,q4,q5,q6)):(v.f4=true∧v.f3=(⟨#[]⟩:ByteArray)∧q6=true∧q5=true)∨(v.f4=true∧v.f3=(⟨#[]⟩:ByteArray)∧q6=false∧True)∨(v.f4=false∧v.f3=q4∧q6=true∧q5=false):=by
 obtain ⟨h1,h2,h3⟩:=h;replace h1:(!v.f4)=(q6 && !q5):=h1
 cases h4:v.f4<;>rw [h4] at h1
 ·
  cases q6<;>cases q5<;>first | (cases h1;done) | exact .inr (.inr ⟨rfl,h2 h4,rfl,rfl⟩)
 ·
  cases q6<;>cases q5<;>first | (cases h1;done) | exact .inl ⟨rfl,h3 h4,rfl,rfl⟩ | exact .inr (.inl ⟨rfl,h3 h4,rfl,trivial⟩)
instance (v:au) (c:ByteArray × ByteArray × Int × ByteArray × Bool × Bool):Decidable (av.ok v c):=by unfold av.ok;infer_instance
def av.Au (k:Nat) (s1 s2 s3:Int) (a:jG) (x:(List au × Int × List (List (List au × List (List au) × List Int)))) (m:List au):Option ((List au × Int × List (List (List au × List (List au) × List Int))) × List au):=
 if a.f0=0 then (fC.f a.f1.f0 a.f1.f1 a.f1.f2 a.f1.f3 a.f1.f4).bind fun o=>if o=true then (aG.f k m a.f1.f0 a.f1.f1 a.f1.f2 a.f1.f3 a.f1.f4).bind fun m1=>(cx.f k s1 s2 s3 x.1 x.2.1 x.2.2 a.f1.f0 a.f1.f1 a.f1.f2 a.f1.f3 a.f1.f4).bind fun p=>if p.2.2.2=0 then some ((p.1,p.2.1,p.2.2.1),m1) else none else (cx.f k s1 s2 s3 x.1 x.2.1 x.2.2 a.f1.f0 a.f1.f1 a.f1.f2 a.f1.f3 a.f1.f4).bind fun p=>if p.2.2.2=1 then some ((p.1,p.2.1,p.2.2.1),m) else none
 else if a.f0=1 then (bh.f k s2 s3 x.1 x.2.1 x.2.2).bind fun z=>some (z,m)
 else if a.f0=2 then (aU.f k x.1 x.2.2 a.f1.f0 a.f1.f1 a.f1.f2).bind fun v=>(bE.f k m a.f1.f0 a.f1.f1 a.f1.f2).bind fun c=>if av.ok v c then some (x,m) else none
 else (bS.f k x.1 x.2.2 a.f1.f0 a.f1.f1 a.f1.f2).bind fun l=>(bM.f k m a.f1.f0 a.f1.f1 a.f1.f2).bind fun q=>(bG.f k l q).bind fun e=>if e=true then some (x,m) else none
def av.lp (k:Nat) (s1 s2 s3:Int):List jG→(List au × Int × List (List (List au × List (List au) × List Int)))→List au→Option Bool
 | [],_,_=>some true
 | a :: r,x,m=>(av.Au k s1 s2 s3 a x m).bind fun q=>(cX.f k q.1.1 q.1.2.2).bind fun c=>(bG.f k c q.2).bind fun e=>if e=true then av.lp k s1 s2 s3 r q.1 q.2 else none
def av.f (k:Nat) (s1 s2 s3:Int) (l:List jG):Option Bool:=
 (cI.f k).bind fun w=>if w=true then (bf.f k l).bind fun o=>if o=true then (ak.f s1 s2 s3).bind fun p=>(f_.f s1 s2 s3).bind fun q=>if q=true then (if p=true∧l.length<1099511627776 then av.lp k s1 s2 s3 l ([],0,[]) [] else none) else (if p=false then some true else none) else some true else none
theorem av.DT (k:Nat) (s1 s2 s3:Int) (a:jG) (x:(List au × Int × List (List (List au × List (List au) × List Int)))) (m:List au):aH (av.Au k s1 s2 s3 a x m) (av.Au (k+1) s1 s2 s3 a x m):=
 aH.ite (aH.bind (aH.refl _) fun _=>aH.ite (aH.bind (aG.mono _ _ _ _ _ _ _) fun _=>aH.bind (cx.mono _ _ _ _ _ _ _ _ _ _ _ _) fun _=>aH.refl _) (aH.bind (cx.mono _ _ _ _ _ _ _ _ _ _ _ _) fun _=>aH.refl _))
  (aH.ite (aH.bind (bh.mono _ _ _ _ _ _) fun _=>aH.refl _) (aH.ite (aH.bind (aU.mono _ _ _ _ _ _) fun _=>aH.bind (bE.mono _ _ _ _ _) fun _=>aH.refl _) (aH.bind (bS.mono _ _ _ _ _ _) fun _=>aH.bind (bM.mono _ _ _ _ _) fun _=>aH.bind (bG.mono _ _ _) fun _=>aH.refl _)))
theorem av.lO (k:Nat) (s1 s2 s3:Int):∀ l x m,aH (av.lp k s1 s2 s3 l x m) (av.lp (k+1) s1 s2 s3 l x m)
 | [],_,_=>aH.refl _
 | _ :: r,_,_=>aH.bind (av.DT _ _ _ _ _ _ _) fun _=>aH.bind (cX.mono _ _ _) fun _=>aH.bind (bG.mono _ _ _) fun _=>aH.ite (av.lO k s1 s2 s3 r _ _) (aH.refl _)
theorem av.mono:∀ a0 a1 a2 a3 k,aH (av.f k a0 a1 a2 a3) (av.f (k+1) a0 a1 a2 a3):=fun _ _ _ _ _=>aH.bind (cI.mono _) fun _=>aH.ite (aH.bind (bf.mono _ _) fun _=>aH.ite (aH.bind (aH.refl _) fun _=>aH.bind (aH.refl _) fun _=>aH.ite (aH.ite (av.lO _ _ _ _ _ _ _) (aH.refl _)) (aH.refl _)) (aH.refl _)) (aH.refl _)
theorem av.calls (k:Nat) (s1 s2 s3:Int) (A0:Option Addr) (cp:Nat) (l:List jG) (r:Bool) (w:World) (hr0:Kd.C pN w A0 l.length l) (hc0:l.length≤cp) (h:av.f k s1 s2 s3 l=some r) :
  Calls Tryz.prog 3 #[.agg #[.int .i64 s1,.int .i64 s2,.int .i64 s3],.slice A0 l.length cp] w fun e w'=>e = .returned (.bool r)∧Below w.heap.size w w':=by
 have hu23:=Tryz.underlying23;have hu24:=Tryz.underlying32;have hu26:=Tryz.underlying34;have hu30:=Tryz.underlying27;have huA:=Tryz.underlying36;have huL:=Tryz.underlying24;have HR0:=aS hr0;have HC:=aS hc0;have H:=aS h;clear hr0 hc0 h
 go_enter Tryz.func3,Tryz.ntmps3
 refine wp_seq_k (fun K_ hK_=>?_)
 go_cut [2,4] (fun v2 v4 wc=>∃ p2:Nat,v2 = .pointer (some ⟨p2,0,none⟩)∧v4 = .bool false∧ah (wc.heap[p2]? = some (.cells #[.int .i64 s1,.int .i64 s2,.int .i64 s3] 23 (0,0)))∧ah (Below w.heap.size w wc))
 case first=>
  clear H
  go_wp2_with (first | ((with_reducible refine gD 2 ?_);refine dK 2 #[.int .i64 s1,.int .i64 s2,.int .i64 s3] 23 ?_;intro p2 hg w4_ hb hbl;have B2:=aS hb;have HB:=aS hbl;clear hg hb hbl))
  go_meet
  case rel=>exact ⟨p2,rfl,rfl,B2,HB⟩
 obtain ⟨p2,rfl,rfl,B2,HB0⟩:=hcut
 rename World=>w0
 refine hK_ _ _ ?_;have HR:=aS (Kd.cH HR0.out HB0.out);have HB:=aS (Below.refl w0.heap.size w0);have q2:=iw B2;have h:=H.out;clear H HR0
 unfold av.f at h
 replace h:=bU h;obtain ⟨t,x1,h⟩:=h
 cases t with
 | false=>rw [if_neg Bool.false_ne_true] at h;cases h
 | true=>
 rw [if_pos rfl] at h;replace h:=bU h;obtain ⟨o,x2,h⟩:=h;have X1:=aS x1;have X2:=aS x2;clear x1 x2
 cases o with
 | false=>
  rw [if_neg Bool.false_ne_true] at h
  obtain rfl:=Option.some.inj h
  clear h
  go_wp2_with (first | (go_at_call 6;(with_reducible refine (cI.calls k true _ X1.out).mono ?_);rintro e_ w1_ ⟨rfl,hb⟩;have n1_:=aS (aE HB.out hb);clear HB hb q2;have HB:=n1_;clear n1_;have q2:=iw (aS (aI B2.out HB.out))) | (go_at_call 7;(with_reducible refine (bf.calls k A0 cp l _ _ (Kd.cH HR.out HB.out) HC.out X2.out).mono ?_);rintro e_ w1_ ⟨rfl,hd_⟩;have hb:=hd_.below;clear hd_;have n1_:=aS (aE HB.out hb);clear HB hb q2;have HB:=n1_;clear n1_;have q2:=iw (aS (aI B2.out HB.out))))
  go_ret
  exact ⟨rfl,aE HB0.out HB.out⟩
 | true=>
 rw [if_pos rfl] at h;replace h:=bU h;obtain ⟨p,x5,h⟩:=h;replace h:=bU h;obtain ⟨q,x3,h⟩:=h;have X5:=aS x5;have X3:=aS x3;clear x5 x3
 cases q with
 | false=>
  rw [if_neg Bool.false_ne_true] at h
  split at h
  case isFalse=>cases h
  rename_i hp
  subst hp
  obtain rfl:=Option.some.inj h
  clear h
  go_wp2_with (first | (go_at_call 6;(with_reducible refine (cI.calls k true _ X1.out).mono ?_);rintro e_ w1_ ⟨rfl,hb⟩;have n1_:=aS (aE HB.out hb);clear HB hb q2;have HB:=n1_;clear n1_;have q2:=iw (aS (aI B2.out HB.out))) | (go_at_call 7;(with_reducible refine (bf.calls k A0 cp l _ _ (Kd.cH HR.out HB.out) HC.out X2.out).mono ?_);rintro e_ w1_ ⟨rfl,hd_⟩;have hb:=hd_.below;clear hd_;have n1_:=aS (aE HB.out hb);clear HB hb q2;have HB:=n1_;clear n1_;have q2:=iw (aS (aI B2.out HB.out))) | (go_at_call 8;(with_reducible refine (ak.calls s1 s2 s3 false _ X5.out).mono ?_);rintro e_ w2 ⟨hb,he_,_⟩;obtain rfl:=he_ rfl;clear he_;have n1_:=aS (aE HB.out hb);clear HB hb q2;have HB:=n1_;clear n1_;have q2:=iw (aS (aI B2.out HB.out))) | (go_at_call 9;(with_reducible refine (f_.calls s1 s2 s3 _ _ X3.out).mono ?_);rintro e_ w1_ ⟨rfl,hb⟩;have n1_:=aS (aE HB.out hb);clear HB hb q2;have HB:=n1_;clear n1_;have q2:=iw (aS (aI B2.out HB.out))))
  go_ret
  exact ⟨rfl,aE HB0.out HB.out⟩
 | true=>
 rw [if_pos rfl] at h
 split at h
 case isFalse=>cases h
 rename_i hp
 obtain ⟨hp,hlm⟩:=hp;subst hp;have HLM:=aS hlm;have X7:=aS h;clear h hlm
 go_wp2_with (first | (go_at_call 6;(with_reducible refine (cI.calls k true _ X1.out).mono ?_);rintro e_ w1_ ⟨rfl,hb⟩;have n1_:=aS (aE HB.out hb);clear HB hb q2;have HB:=n1_;clear n1_;have q2:=iw (aS (aI B2.out HB.out))) | (go_at_call 7;(with_reducible refine (bf.calls k A0 cp l _ _ (Kd.cH HR.out HB.out) HC.out X2.out).mono ?_);rintro e_ w1_ ⟨rfl,hd_⟩;have hb:=hd_.below;clear hd_;have n1_:=aS (aE HB.out hb);clear HB hb q2;have HB:=n1_;clear n1_;have q2:=iw (aS (aI B2.out HB.out))) | (go_at_call 8;(with_reducible refine (ak.calls s1 s2 s3 true _ X5.out).mono ?_);rintro e_ w2 ⟨hb,_,ht⟩;obtain ⟨g,rfl,ht2⟩:=ht rfl;have HT:=aS (ht2.FQ HB.out.size);clear ht ht2;have n1_:=aS (aE HB.out hb);clear HB hb q2;have HB:=n1_;clear n1_;have q2:=iw (aS (aI B2.out HB.out))) | (go_at_call 9;(with_reducible refine (f_.calls s1 s2 s3 _ _ X3.out).mono ?_);rintro e_ w1_ ⟨rfl,hb⟩;have n4_:=aS (HT.out.below hb);clear HT;have HT:=n4_;clear n4_;have n1_:=aS (aE HB.out hb);clear HB hb q2;have HB:=n1_;clear n1_;have q2:=iw (aS (aI B2.out HB.out))))
 clear q2 X1 X2 X3 X5
 go_loopw [7,8] (fun v7 v8 wr=>∃ (i:Nat) (x:(List au × Int × List (List (List au × List (List au) × List Int)))) (m:List au) (A8:Option Addr) (c8:Nat),v8 = .int .i64 (i:Int)∧v7 = .slice A8 m.length c8∧ah (i≤l.length)∧ah (av.lp k s1 s2 s3 (l.drop i) x m=some r)∧ah (av.DE wr w0.heap.size g s1 s2 s3 x (.slice A8 m.length c8) m)∧ah (Below w0.heap.size w0 wr)) (fun _ i _=>l.length - (intOf i).toNat)
 case atStart=>exact ⟨0,([],0,[]),[],none,0,rfl,rfl,⟨Nat.zero_le _⟩,X7,⟨av.DE.new HT.out⟩,HB⟩
 clear X7 HT HB
 case round=>
  obtain ⟨i,x,m,A8,c8,rfl,rfl,hi,HP,HT,HB⟩:=hrel
  by_cases hlt:i<l.length
  ·
   have hq1:(i:Int)<(l.length:Int):=by omega
   have hq0:(0:Int)≤(i:Int):=by omega
   obtain ⟨ad,e_,_⟩:=lE (Kd.cH HR.out HB.out) (i:Int) hq0 hq1;subst e_
   obtain ⟨a,hc⟩:∃ a,a=fA l (i:Int):=⟨_,rfl⟩
   have HXF:ah (∀ w',Below w0.heap.size w0 w'→w'.cell? (ad.add (i*6))=some (.int .i64 a.f0)∧w'.cell? ⟨(ad.add (i*6)).block,(ad.add (i*6)).off+1,none⟩=some (.string a.f1.f0)∧w'.cell? ⟨(ad.add (i*6)).block,(ad.add (i*6)).off+2,none⟩=some (.string a.f1.f1)∧w'.cell? ⟨(ad.add (i*6)).block,(ad.add (i*6)).off+3,none⟩=some (.int .i64 a.f1.f2)∧w'.cell? ⟨(ad.add (i*6)).block,(ad.add (i*6)).off+4,none⟩=some (.string a.f1.f3)∧w'.cell? ⟨(ad.add (i*6)).block,(ad.add (i*6)).off+5,none⟩=some (.bool a.f1.f4)):=aS (fun w' hb=>by
    obtain ⟨ad',e',hc'⟩:=lE (Kd.cH HR.out hb) (i:Int) hq0 hq1
    injection e' with e'
    subst e'
    rw [Int.toNat_natCast,← hc] at hc'
    exact hc')
   have ha:=HP.out;rw [List.drop_eq_getElem_cons hlt,show l[i]=a from (by rw [hc];unfold fA;rw [Int.toNat_natCast,List.getD_eq_getElem?_getD,List.getElem?_eq_getElem hlt];rfl)] at ha
   unfold av.lp at ha
   replace ha:=bU ha;obtain ⟨⟨x2,m2⟩,y1,ha⟩:=ha;replace ha:=bU ha;obtain ⟨ca,y2,ha⟩:=ha;replace ha:=bU ha;obtain ⟨e1,y3,ha⟩:=ha
   split at ha
   case isFalse=>cases ha
   rename_i hv
   subst hv;have Y1:=aS y1;have Y2:ah (cX.f k x2.1 x2.2.2=some ca):=aS y2;have Y3:ah (bG.f k ca m2=some true):=aS y3;have HP1:=aS ha
   have hix:∀ W:World,(Instr.indexAt 24 (.slice (some ad) l.length cp) (.int .i64 (i:Int))).run Tryz.prog W = .ok (.pointer (some (ad.add (i*6)))) W:=by
    obtain ⟨i0,hi0,hz⟩:=Option.map_eq_some_iff.1 Fc
    simp only [Prod.mk.injEq] at hz
    intro W
    have h1:=gH 24 36 huL hi0 6 hz.2.1 ad l.length cp (i:Int) (by omega) (by omega) W
    rwa [Int.toNat_natCast] at h1
   have hwr:wrap64 ((i:Int)+1)=(i:Int)+1:=by rw [←cC,IntKind.wrap_i64];have:=HLM.out;omega
   have HWR:=aS hwr;clear hc hi hq0 HP y1 y2 y3 ha hwr;refine wp_seq_k (fun Ka_ hKa_=>?_)
   go_cut [] (fun wc=>ah (av.DE wc w0.heap.size g s1 s2 s3 x (.slice A8 m.length c8) m)∧ah (Below w0.heap.size w0 wc))
   case first=>
    go_wp2
    go_meet
    case rel=>exact ⟨HT,HB⟩
   clear HT HB;obtain ⟨HT,HB⟩:=hcut
   rename World=>wa
   refine hKa_ _ _ ?_;refine wp_seq_k (fun Kb_ hKb_=>?_);refine wp_block ?_;refine wp_seq_k (fun K1_ hK1_=>?_)
   go_cut [9] (fun v9 wc=>∃ p9:Nat,v9 = .pointer (some ⟨p9,0,none⟩)∧ah (wc.heap[p9]? = some (.cells #[.int .i64 a.f0,.string a.f1.f0,.string a.f1.f1,.int .i64 a.f1.f2,.string a.f1.f3,.bool a.f1.f4] 36 (0,0)))∧ah (av.DE wc w0.heap.size g s1 s2 s3 x (.slice A8 m.length c8) m)∧ah (Below w0.heap.size w0 wc))
   case first=>
    obtain ⟨hx0,hx1,hx2,hx3,hx4,hx5⟩:=HXF.out _ HB.out
    go_wp2_with (first | ((with_reducible refine gD 9 ?_);refine dK 9 #[.int .i64 0,.string ⟨#[]⟩,.string ⟨#[]⟩,.int .i64 0,.string ⟨#[]⟩,.bool false] 36 ?_;intro p9 hg w2_ hb hbl;have B8:=aS hb;have G9:ah (wa.heap.size≤p9):=aS (by rw [hg];exact Nat.le_refl _);have HB1:=aS hbl;clear hg hb hbl) | ((with_reducible refine dO (t:=36) (p:=9) rfl ?_);refine wpList_store_row rfl 36 _ _ rfl p9 #[.int .i64 a.f0,.string a.f1.f0,.string a.f1.f1,.int .i64 a.f1.f2,.string a.f1.f3,.bool a.f1.f4] rfl rfl 36 _ B8.out (by kernel_rfl) rfl (by kernel_rfl) ?_;have B9:=aS (setRow_heap w2_ p9 _ #[.int .i64 a.f0,.string a.f1.f0,.string a.f1.f1,.int .i64 a.f1.f2,.string a.f1.f3,.bool a.f1.f4] _ _ B8.out);have HBS:=aS (cV HB1.out G9.out #[.int .i64 a.f0,.string a.f1.f0,.string a.f1.f1,.int .i64 a.f1.f2,.string a.f1.f3,.bool a.f1.f4]);clear B8 HB1;generalize World.setRow w2_ p9 #[.int .i64 a.f0,.string a.f1.f0,.string a.f1.f1,.int .i64 a.f1.f2,.string a.f1.f3,.bool a.f1.f4]=w3_ at B9 HBS ⊢;have HT2:=aS (HT.out.below HBS.out);have HB2:=aS (aE HB.out HBS.out);clear HBS))
    go_meet
    case rel=>exact ⟨p9,rfl,B9,HT2,HB2⟩
   clear HT HB hix;obtain ⟨p9,rfl,B9,HT,HB⟩:=hcut
   rename World=>w1
   refine hK1_ _ _ ?_;refine wp_seq_k (fun K2_ hK2_=>?_)
   go_cut [7] (fun v7 wc=>∃ (A8:Option Addr) (c8:Nat),v7 = .slice A8 m2.length c8∧ah (av.DE wc w0.heap.size g s1 s2 s3 x2 (.slice A8 m2.length c8) m2)∧ah (Below w0.heap.size w0 wc))
   case first=>
    have HBQ:=aS (Below.refl w1.heap.size w1);have B9_:=aS (aI B9.out HBQ.out);obtain ⟨hy0,hy1,hy2,hy3,hy4,hy5⟩:=av.c6 B9_;clear B9_;have h:=Y1.out
    unfold av.Au at h
    clear Y1
    by_cases d0:a.f0=0
    ·
     obtain ⟨e0,e0'⟩:=jh d0;rw [if_pos d0] at h;clear d0;replace h:=bU h;obtain ⟨o,z1,h⟩:=h;have Z1:=aS z1;clear z1
     cases o with
     | true=>
      rw [if_pos rfl] at h;replace h:=bU h;obtain ⟨m1,z2,h⟩:=h;replace h:=bU h;obtain ⟨⟨p1,p2',p3,p4⟩,z3,h⟩:=h
      split at h
      case isFalse=>cases h
      rename_i hv
      replace hv:p4=0:=hv;subst hv
      obtain h:=Option.some.inj h
      simp only [Prod.mk.injEq] at h
      obtain ⟨hx2_,hm2_⟩:=h;have HX2:=aS hx2_;subst hm2_;have Z2:=aS z2;have Z3:=aS z3;clear z2 z3 hx2_
      go_wp2_with (first | (go_at_call 10;(with_reducible refine (fC.calls a.f1.f0 a.f1.f1 a.f1.f2 a.f1.f3 a.f1.f4 true _ Z1.out).mono ?_);rintro r_ w3_ ⟨rfl,hb⟩;have n1_:=aS (HT.out.below hb);clear HT;have HT:=n1_;clear n1_;have n2_:=aS (aE HB.out hb);have n3_:=aS (aE HBQ.out hb);clear HB HBQ hy0 hy1 hy2 hy3 hy4 hy5;have HB:=n2_;have HBQ:=n3_;clear n2_ n3_;obtain ⟨hy0,hy1,hy2,hy3,hy4,hy5⟩:=av.c6 (aS (aI B9.out HBQ.out));clear hb) | (go_at_call 11;obtain ⟨o_,T_⟩:=HT.out;obtain ⟨A_,c_,e_,hl_,hC_⟩:=Kd.eZ T_.m;injection e_ with e1_ e2_ e3_;subst e1_ e3_;(with_reducible refine (aG.calls k A8 c8 m a.f1.f0 a.f1.f1 a.f1.f2 a.f1.f3 a.f1.f4 m1 _ hC_ hl_ Z2.out).mono ?_);rintro r_ w3_ ⟨v_,rfl,ho,hb⟩;obtain ⟨A9,c9,rfl,_⟩:=Kd.eZ ho;have n1_:=aS (T_.mem ho hb HB.out.size);clear HT;have HT:=n1_;clear n1_;clear T_ hC_ hl_ e2_;have n2_:=aS (aE HB.out hb);have n3_:=aS (aE HBQ.out hb);clear HB HBQ hy0 hy1 hy2 hy3 hy4 hy5;have HB:=n2_;have HBQ:=n3_;clear n2_ n3_;obtain ⟨hy0,hy1,hy2,hy3,hy4,hy5⟩:=av.c6 (aS (aI B9.out HBQ.out));clear ho hb) | (go_at_call 12;obtain ⟨o_,T_⟩:=HT.out;(with_reducible refine (cx.calls k g _ o_ s1 s2 s3 x.1 p1 x.2.1 p2' x.2.2 p3 a.f1.f0 a.f1.f1 a.f1.f2 a.f1.f3 a.f1.f4 0 _ T_.a Z3.out).mono ?_);rintro r_ w3_ ⟨rfl,ha_,hc_⟩;have n1_:=aS (T_.put (x':=(p1,p2',p3)) ha_ hc_ HB.out.size);have n2_:=aS (hc_.below HB.out HB.out.size (fun k hk=>(T_.la k hk).1));clear HT HB ha_ hc_ T_ HBQ hy0 hy1 hy2 hy3 hy4 hy5;have HT:=n1_;have HB:=n2_;clear n1_ n2_))
      go_meet
      case rel=>exact ⟨_,_,rfl,⟨by rw [←HX2.out];exact HT.out⟩,HB⟩
     | false=>
      rw [if_neg Bool.false_ne_true] at h;replace h:=bU h;obtain ⟨⟨p1,p2',p3,p4⟩,z3,h⟩:=h
      split at h
      case isFalse=>cases h
      rename_i hv
      replace hv:p4=1:=hv;subst hv
      obtain h:=Option.some.inj h
      simp only [Prod.mk.injEq] at h
      obtain ⟨hx2_,hm2_⟩:=h;have HX2:=aS hx2_;subst hm2_;have Z3:=aS z3;clear z3 hx2_
      go_wp2_with (first | (go_at_call 10;(with_reducible refine (fC.calls a.f1.f0 a.f1.f1 a.f1.f2 a.f1.f3 a.f1.f4 false _ Z1.out).mono ?_);rintro r_ w3_ ⟨rfl,hb⟩;have n1_:=aS (HT.out.below hb);clear HT;have HT:=n1_;clear n1_;have n2_:=aS (aE HB.out hb);have n3_:=aS (aE HBQ.out hb);clear HB HBQ hy0 hy1 hy2 hy3 hy4 hy5;have HB:=n2_;have HBQ:=n3_;clear n2_ n3_;obtain ⟨hy0,hy1,hy2,hy3,hy4,hy5⟩:=av.c6 (aS (aI B9.out HBQ.out));clear hb) | (go_at_call 12;obtain ⟨o_,T_⟩:=HT.out;(with_reducible refine (cx.calls k g _ o_ s1 s2 s3 x.1 p1 x.2.1 p2' x.2.2 p3 a.f1.f0 a.f1.f1 a.f1.f2 a.f1.f3 a.f1.f4 1 _ T_.a Z3.out).mono ?_);rintro r_ w3_ ⟨rfl,ha_,hc_⟩;have n1_:=aS (T_.put (x':=(p1,p2',p3)) ha_ hc_ HB.out.size);have n2_:=aS (hc_.below HB.out HB.out.size (fun k hk=>(T_.la k hk).1));clear HT HB ha_ hc_ T_ HBQ hy0 hy1 hy2 hy3 hy4 hy5;have HT:=n1_;have HB:=n2_;clear n1_ n2_))
      go_meet
      case rel=>exact ⟨_,_,rfl,⟨by rw [←HX2.out];exact HT.out⟩,HB⟩
    obtain ⟨e0,e0'⟩:=iT d0;rw [if_neg d0] at h;clear d0
    by_cases d1:a.f0=1
    ·
     obtain ⟨e1,e1'⟩:=jh d1;rw [if_pos d1] at h;clear d1;replace h:=bU h;obtain ⟨⟨p1,p2',p3⟩,z1,h⟩:=h
     obtain h:=Option.some.inj h
     simp only [Prod.mk.injEq] at h
     obtain ⟨hx2_,hm2_⟩:=h;have HX2:=aS hx2_;subst hm2_;have Z1:=aS z1;clear z1 hx2_
     go_wp2_with (first | (go_at_call 13;obtain ⟨o_,T_⟩:=HT.out;(with_reducible refine (bh.calls k g _ o_ s1 s2 s3 x.1 p1 x.2.1 p2' x.2.2 p3 _ T_.a Z1.out).mono ?_);rintro r_ w3_ ⟨rfl,ha_,hc_⟩;have n1_:=aS (T_.put (x':=(p1,p2',p3)) ha_ hc_ HB.out.size);have n2_:=aS (hc_.below HB.out HB.out.size (fun k hk=>(T_.la k hk).1));clear HT HB ha_ hc_ T_ HBQ hy0 hy1 hy2 hy3 hy4 hy5;have HT:=n1_;have HB:=n2_;clear n1_ n2_))
     go_meet
     case rel=>exact ⟨_,_,rfl,⟨by rw [←HX2.out];exact HT.out⟩,HB⟩
    obtain ⟨e1,e1'⟩:=iT d1;rw [if_neg d1] at h;clear d1
    by_cases d2:a.f0=2
    ·
     obtain ⟨e2,e2'⟩:=jh d2;rw [if_pos d2] at h;clear d2;replace h:=bU h;obtain ⟨v,z1,h⟩:=h;replace h:=bU h;obtain ⟨⟨q1,q2,q3,q4,q5,q6⟩,z2,h⟩:=h
     split at h
     case isFalse=>cases h
     rename_i hv
     obtain h:=Option.some.inj h
     simp only [Prod.mk.injEq] at h
     obtain ⟨hx2_,hm2_⟩:=h;have HX2:=aS hx2_;subst hm2_;have Z1:=aS z1;have Z2:=aS z2;obtain ⟨hv1,hv2,hv3⟩:=hv;clear z1 z2 hx2_
     rcases av.ways ⟨hv1,hv2,hv3⟩ with ⟨hb4,hs4,g6,g5⟩ | ⟨hb4,hs4,g6,g5⟩ | ⟨hb4,hs4,g6,g5⟩<;>(
      have HB4:=aS hb4;have HS4:=aS hs4;have hb1:(q4.toList == q4.toList)=true:=beq_self_eq_true _;have G5:=aS g5;have G6:=aS g6;clear hb4 hs4 hv1 hv2 hv3 g5 g6
      go_wp2_with (first | (go_at_call 14;obtain ⟨o_,T_⟩:=HT.out;(with_reducible refine (aU.calls k g _ o_ s1 s2 s3 x.1 x.2.1 x.2.2 a.f1.f0 a.f1.f1 a.f1.f2 v _ T_.a Z1.out).mono ?_);rintro r_ w3_ ⟨he_,hb⟩;rw [HS4.out,HB4.out] at he_;subst he_;have n1_:=aS (HT.out.below hb);clear HT T_;have HT:=n1_;clear n1_;have n2_:=aS (aE HB.out hb);have n3_:=aS (aE HBQ.out hb);clear HB HBQ hy0 hy1 hy2 hy3 hy4 hy5;have HB:=n2_;have HBQ:=n3_;clear n2_ n3_;obtain ⟨hy0,hy1,hy2,hy3,hy4,hy5⟩:=av.c6 (aS (aI B9.out HBQ.out));clear hb) | (go_at_call 15;obtain ⟨o_,T_⟩:=HT.out;obtain ⟨A_,c_,e_,hl_,hC_⟩:=Kd.eZ T_.m;injection e_ with e1_ e2_ e3_;subst e1_ e3_;(with_reducible refine (bE.calls k A8 c8 m a.f1.f0 a.f1.f1 a.f1.f2 _ _ _ _ _ _ _ hC_ hl_ Z2.out).mono ?_);rintro r_ w4_ ⟨rfl,hb⟩;have n1_:=aS (HT.out.below hb);clear HT;have HT:=n1_;clear n1_;clear T_ hC_ hl_ e2_;have n2_:=aS (aE HB.out hb);have n3_:=aS (aE HBQ.out hb);clear HB HBQ hy0 hy1 hy2 hy3 hy4 hy5;have HB:=n2_;have HBQ:=n3_;clear n2_ n3_;obtain ⟨hy0,hy1,hy2,hy3,hy4,hy5⟩:=av.c6 (aS (aI B9.out HBQ.out));clear hb) | ((with_reducible refine gD 13 ?_);refine dK 13 #[.string ⟨#[]⟩,.string ⟨#[]⟩,.int .i64 0,.string ⟨#[]⟩,.bool false] 34 ?_;intro p13 hg w5_ hb hbl;have B13:=aS hb;have G13:ah (w4_.heap.size≤p13):=aS (by rw [hg];exact Nat.le_refl _);have HB5:=aS hbl;clear hg hb hbl) | ((with_reducible refine dO (t:=34) (p:=13) rfl ?_);refine wpList_store_row rfl 34 _ _ rfl p13 #[.string q1,.string q2,.int .i64 q3,.string q4,.bool q5] rfl rfl 34 _ B13.out (by kernel_rfl) rfl (by kernel_rfl) ?_;have B14:=aS (setRow_heap w5_ p13 _ #[.string q1,.string q2,.int .i64 q3,.string q4,.bool q5] _ _ B13.out);have HBS:=aS (cV HB5.out G13.out #[.string q1,.string q2,.int .i64 q3,.string q4,.bool q5]);clear B13 HB5;generalize World.setRow w5_ p13 #[.string q1,.string q2,.int .i64 q3,.string q4,.bool q5]=w6_ at B14 HBS ⊢;have q13:=cO B14;have n1_:=aS (HT.out.below HBS.out);have n2_:=aS (aE HB.out HBS.out);clear HBS HT HB HBQ hy0 hy1 hy2 hy3 hy4 hy5;have HT:=n1_;have HB:=n2_;clear n1_ n2_;have g5:=G5.out;have g6:=G6.out))
      go_meet
      case rel=>exact ⟨_,_,rfl,⟨by rw [←HX2.out];exact HT.out⟩,HB⟩)
    obtain ⟨e2,e2'⟩:=iT d2;rw [if_neg d2] at h;clear d2;replace h:=bU h;obtain ⟨sa,z1,h⟩:=h;replace h:=bU h;obtain ⟨sb,z2,h⟩:=h;replace h:=bU h;obtain ⟨ee,z3,h⟩:=h
    split at h
    case isFalse=>cases h
    rename_i hv
    subst hv
    obtain h:=Option.some.inj h
    simp only [Prod.mk.injEq] at h
    obtain ⟨hx2_,hm2_⟩:=h;have HX2:=aS hx2_;subst hm2_;have Z1:=aS z1;have Z2:=aS z2;have Z3:=aS z3;clear z1 z2 z3 hx2_
    go_upto_region 27 with (fail)
    refine di (n:=24) (ds:=[]) (S:=fun w'=>w'.cell? ⟨p9,1,none⟩=some (.string a.f1.f0)∧w'.cell? ⟨p9,2,none⟩=some (.string a.f1.f1)∧w'.cell? ⟨p9,3,none⟩=some (.int .i64 a.f1.f2)) (bA 24 0) (by kernel_rfl) rfl rfl ⟨(aC (ar (aI B9.out HBQ.out)) 1).trans rfl,(aC (ar (aI B9.out HBQ.out)) 2).trans rfl,(aC (ar (aI B9.out HBQ.out)) 3).trans rfl⟩ (fun hHeld=>?_)
    generalize hw_:World.drew _=wd at hHeld ⊢
    have n1_:ah (av.DE wd w0.heap.size g s1 s2 s3 x (.slice A8 m.length c8) m):=aS (hw_▸HT.out.below (bH (Below.refl _ _)));have n2_:ah (Below w0.heap.size w0 wd):=aS (hw_▸aE HB.out (bH (Below.refl _ _)));have n3_:ah (Below w1.heap.size w1 wd):=aS (hw_▸aE HBQ.out (bH (Below.refl _ _)));clear hw_ HT HB HBQ hy0 hy1 hy2 hy3 hy4 hy5;have HT:=n1_;have HB:=n2_;have HBQ:=n3_;clear n1_ n2_ n3_;refine cD (T:=(true,[([],[]),([],[]),([1],[1]),([2],[2]),([],[]),([4],[4]),([5],[5]),([],[]),([7],[7]),([8],[8]),([0,3,6,9],[0,3,6,9]),([],[]),([],[]),([12],[12]),([13],[13]),([],[]),([15],[15]),([16],[16]),([],[]),([18],[18]),([19],[19]),([11,14,17,20,10],[11,14,17,20]),([10,21,21],[10,21]),([22],[22])])) (B:=[0,0,2,6,0,16,48,0,128,384,1023,0,0,4096,12288,0,32768,98304,0,262144,786432,2097151,4194303,8388607]) (by kernel_rfl) (by kernel_rfl) (fun HT_ HW_=>?_);refine aZ [(0,131),(1,132),(2,133),(3,134),(4,135),(5,136),(6,137),(7,138),(8,139),(9,140),(11,142),(12,143),(13,144),(14,145),(15,146),(16,147),(17,148),(18,149),(19,150),(20,151)] ?_
    iterate 20 (first | (refine ck HT_ ?_) | (refine dY HT_ HW_ hHeld ?_))
    refine bT (bA 24 2096127) (by kernel_rfl) ?_;refine dH 10 (N:=some 141) (bA 24 2097151) HT_ (fun K hK=>?_);obtain ⟨o_,T_⟩:=HT.out;refine gb Tryz.func17 #[.pointer (some ⟨g,0,none⟩),.string a.f1.f0,.string a.f1.f1,.int .i64 a.f1.f2] ?_
    with_reducible refine (bS.calls k g _ o_ s1 s2 s3 x.1 x.2.1 x.2.2 a.f1.f0 a.f1.f1 a.f1.f2 sa _ T_.a Z1.out).mono ?_
    rintro r_ w5_ ⟨v_,rfl,ho,hb⟩
    obtain ⟨Aa,ka,rfl,hcl,hC⟩:=Kd.eZ ho;refine ⟨_,rfl,?_⟩;have HCa:=aS hC;have HLa:=aS hcl;clear ho hC hcl T_;have n1_:=aS (HT.out.below hb);have n2_:=aS (aE HB.out hb);have n3_:=aS (aE HBQ.out hb);clear HT HB HBQ hb;have HT:=n1_;have HB:=n2_;have HBQ:=n3_;clear n1_ n2_ n3_;have B9_:=aS (aI B9.out HBQ.out);refine hK.out _ _ ⟨(aC B9_.out 1).trans rfl,(aC B9_.out 2).trans rfl,(aC B9_.out 3).trans rfl⟩ (fun hHeld=>?_);clear hK K;refine nm 141 ?_;clear B9_;refine dH 21 (N:=some 152) (bA 24 4194303) HT_ (fun K hK=>?_);obtain ⟨o_,T_⟩:=HT.out;obtain ⟨A_,c_,e_,hl_,hC_⟩:=Kd.eZ T_.m
    injection e_ with e1_ e2_ e3_
    subst e1_ e3_
    refine gb Tryz.func18 #[.slice A8 m.length c8,.string a.f1.f0,.string a.f1.f1,.int .i64 a.f1.f2] ?_
    with_reducible refine (bM.calls k A8 c8 m a.f1.f0 a.f1.f1 a.f1.f2 sb _ hC_ hl_ Z2.out).mono ?_
    rintro r_ w6_ ⟨v_,rfl,ho,hb⟩
    obtain ⟨Ab,kb,rfl,hcl,hC⟩:=Kd.eZ ho;refine ⟨_,rfl,?_⟩;have HCb:=aS hC;have HLb:=aS hcl;have n4_:=aS (Kd.cH HCa.out hb);clear HCa;have HCa:=n4_;clear n4_ ho hC hcl T_ hC_ hl_ e2_;have n1_:=aS (HT.out.below hb);have n2_:=aS (aE HB.out hb);have n3_:=aS (aE HBQ.out hb);clear HT HB HBQ hb;have HT:=n1_;have HB:=n2_;have HBQ:=n3_;clear n1_ n2_ n3_;have B9_:=aS (aI B9.out HBQ.out);refine hK.out _ _ ⟨(aC B9_.out 1).trans rfl,(aC B9_.out 2).trans rfl,(aC B9_.out 3).trans rfl⟩ (fun hHeld=>?_);clear hK K;refine nm 152 ?_;clear B9_;refine dH 22 (N:=some 153) (bA 24 8388607) HT_ (fun K hK=>?_);refine gb Tryz.func16 #[.slice Aa sa.length ka,.slice Ab sb.length kb] ?_
    with_reducible refine (bG.calls k Aa ka sa Ab kb sb true _ HCa.out HLa.out HCb.out HLb.out Z3.out).mono ?_
    rintro r_ w7_ ⟨rfl,hd_⟩
    have hb:=hd_.below;refine ⟨_,rfl,?_⟩;clear hd_ HCa HLa HCb HLb;have n1_:=aS (HT.out.below hb);have n2_:=aS (aE HB.out hb);have n3_:=aS (aE HBQ.out hb);clear HT HB HBQ hb;have HT:=n1_;have HB:=n2_;have HBQ:=n3_;clear n1_ n2_ n3_;have B9_:=aS (aI B9.out HBQ.out);refine hK.out _ _ ⟨(aC B9_.out 1).trans rfl,(aC B9_.out 2).trans rfl,(aC B9_.out 3).trans rfl⟩ (fun hHeld=>?_);clear hK K;refine nm 153 ?_;clear B9_;refine aZ [(23,154)] ?_
    iterate 1 (refine ck HT_ ?_)
    refine bT (bA 24 16777215) (by kernel_rfl) ?_;refine fX HT_ ?_;clear HT_ HW_ hHeld
    try go_wp2
    go_meet
    case rel=>exact ⟨_,_,rfl,⟨by rw [←HX2.out];exact HT.out⟩,HB⟩
   clear HT HB Y1 B9;obtain ⟨A8,c8,rfl,HT,HB⟩:=hcut
   rename World=>w2
   refine hK2_ _ _ ?_
   go_wp2_with (first | (go_at_call 19;obtain ⟨o_,T_⟩:=HT.out;(with_reducible refine (cX.calls k _ o_ g s1 s2 s3 x2.1 x2.2.1 x2.2.2 ca _ T_.a Y2.out).mono ?_);rintro r_ w4 ⟨u4,rfl,ho,hb⟩;obtain ⟨A4,c4,rfl,hcl,hC⟩:=Kd.eZ ho;have HL4:=aS hcl;have HC4:=aS hC;have n1_:=aS (HT.out.below hb);have n2_:=aS (aE HB.out hb);clear HT HB T_ ho hb hcl hC;have HT:=n1_;have HB:=n2_;clear n1_ n2_) | (go_at_call 16;obtain ⟨o_,T_⟩:=HT.out;obtain ⟨A_,c_,e_,hl_,hC_⟩:=Kd.eZ T_.m;injection e_ with e1_ e2_ e3_;subst e1_ e3_;(with_reducible refine (bG.calls k A4 c4 ca A8 c8 m2 true _ HC4.out HL4.out hC_ hl_ Y3.out).mono ?_);rintro r_ w5 ⟨rfl,hd_⟩;have hb:=hd_.below;have n1_:=aS (HT.out.below hb);have n2_:=aS (aE HB.out hb);clear HT HB HC4 HL4 hb hd_;clear T_ hC_ hl_ e2_;have HT:=n1_;have HB:=n2_;clear n1_ n2_))
   have hwr:=HWR.out
   go_roundw
   case rel=>exact ⟨i+1,x2,m2,A8,c8,by rw [hwr];rfl,rfl,⟨hlt⟩,HP1,HT,HB⟩
   case measure=>exact iV hwr hlt
  ·
   have hge:¬ ((i:Int)<(l.length:Int)):=by omega
   have ha:=HP.out;rw [List.drop_eq_nil_of_le (by omega)] at ha
   obtain rfl:=Option.some.inj ha
   clear ha HP hi
   go_wp2
   go_ret
   exact ⟨rfl,aE HB0.out HB.out⟩
def av.Pure:Prop:=∀ (a0_0:Int) (a0_1:Int) (a0_2:Int) (l1:List (jG)),(Lit.int .i64 a0_0).wf=true→(Lit.int .i64 a0_1).wf=true→(Lit.int .i64 a0_2).wf=true→(l1.length≤maxLen∧l1.length*72≤140737488351232∧∀ y0_ ∈ l1,((Lit.int .i64 y0_.f0).wf=true∧(y0_.f1.f0.size≤140737488351232∧y0_.f1.f1.size≤140737488351232∧(Lit.int .i64 y0_.f1.f2).wf=true∧y0_.f1.f3.size≤140737488351232∧True)))→∃ k,av.f k a0_0 a0_1 a0_2 l1=some true
theorem av.walk (P:av.Pure) (a0_0:Int) (a0_1:Int) (a0_2:Int) (A1:Option Addr) (c1:Nat) (l1:List (jG)) (w:World) (wf0_0:(Lit.int .i64 a0_0).wf=true) (wf0_1:(Lit.int .i64 a0_1).wf=true) (wf0_2:(Lit.int .i64 a0_2).wf=true) (wf1:(l1.length≤maxLen∧l1.length*72≤140737488351232∧∀ y0_ ∈ l1,((Lit.int .i64 y0_.f0).wf=true∧(y0_.f1.f0.size≤140737488351232∧y0_.f1.f1.size≤140737488351232∧(Lit.int .i64 y0_.f1.f2).wf=true∧y0_.f1.f3.size≤140737488351232∧True)))) (hr1:Kd.C pN w A1 l1.length l1) (hc1:l1.length≤c1) :
  Calls Tryz.prog 3 #[.agg #[.int .i64 a0_0,.int .i64 a0_1,.int .i64 a0_2],.slice A1 l1.length c1] w fun e w'=>e = .returned (.bool true)∧Below w.heap.size w w':=by
 obtain ⟨k,h⟩:=P a0_0 a0_1 a0_2 l1 wf0_0 wf0_1 wf0_2 wf1;refine (av.calls k a0_0 a0_1 a0_2 A1 c1 l1 true w hr1 hc1 h).mono ?_
 rintro e w' ⟨rfl,hd⟩
 exact ⟨rfl,hd⟩
end Go.Proofs.YtcbhfedcdnjljaaGreat.X

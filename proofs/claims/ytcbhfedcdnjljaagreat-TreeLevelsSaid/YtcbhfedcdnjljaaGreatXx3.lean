import Derived.Test.YtcbhfedcdnjljaaGreatXx2
set_option maxHeartbeats 8000000
set_option maxRecDepth 100000
set_option linter.unusedVariables false
set_option linter.unusedSimpArgs false
namespace Go.Proofs.YtcbhfedcdnjljaaGreat.X
open Go.RowKit Go.Proofs.YtcbhfedcdnjljaaGreatW.PrintWords Go.Proofs.YtcbhfedcdnjljaaGreatW.PrintLast Go.Proofs.YtcbhfedcdnjljaaGreatW.PrintMore
attribute [local go_sem] gZ g_ iW iZ gF gD ic ig iX
mutual
def aT.l0:Nat→List (av)→List (av)→Int→Int→Option (Bool)
 | 0,_,_,_,_=>none
 | k+1,x0,x5,x6,x7=>if x7<x6 then (if 0≤x7 then (if x7<(x5.length:Int) then ((eP.f ((af x5 x7).f0) ((af x5 x7).f1) ((af x5 x7).f2) ((af x5 x7).f3) ((af x5 x7).f4)).bind fun t152=>(if t152=true then (if x7 > 0 then (if 0≤(wrap64 (x7 - 1)) then (if (wrap64 (x7 - 1))<(x0.length:Int) then ((bU.f k ((af x0 (wrap64 (x7 - 1))).f0) ((af x0 (wrap64 (x7 - 1))).f1) ((af x0 (wrap64 (x7 - 1))).f2) ((af x0 (wrap64 (x7 - 1))).f3) ((af x0 (wrap64 (x7 - 1))).f4) ((af x5 x7).f0) ((af x5 x7).f1) ((af x5 x7).f2) ((af x5 x7).f3) ((af x5 x7).f4)).bind fun t154=>(aT.j1 k x0 x5 x6 x7 (decide (t154≥0)))) else (none)) else (none)) else (aT.j1 k x0 x5 x6 x7 false)) else (aT.j1 k x0 x5 x6 x7 true))) else (none)) else (none)) else (some true)
def aT.j1:Nat→List (av)→List (av)→Int→Int→Bool→Option (Bool)
 | 0,_,_,_,_,_=>none
 | k+1,x0,x5,x6,x7,x28=>if x28=true then (some false) else (aT.l0 k x0 x5 x6 (wrap64 (x7+1)))
end
def aT.f (k:Nat) (l0:List (av)):Option (Bool):=aT.l0 k l0 l0 (l0.length:Int) 0
theorem aT.cP:∀ k,(∀ y0 y1 y2 y3,aE (aT.l0 k y0 y1 y2 y3) (aT.l0 (k+1) y0 y1 y2 y3))∧(∀ y0 y1 y2 y3 y4,aE (aT.j1 k y0 y1 y2 y3 y4) (aT.j1 (k+1) y0 y1 y2 y3 y4))
 | 0=>⟨fun _ _ _ _ r h=>by simp [aT.l0] at h,fun _ _ _ _ _ r h=>by simp [aT.j1] at h⟩
 | k+1=>by
  obtain ⟨ih0,ih1⟩:=aT.cP k;refine ⟨?_,?_⟩
  ·
   intro y0 y1 y2 y3
   unfold aT.l0
   have m0:=@bU.mono;exact e8
  ·
   intro y0 y1 y2 y3 y4
   unfold aT.j1
   have m0:=@bU.mono;exact e8
theorem aT.mono:∀ a0 k,aE (aT.f k a0) (aT.f (k+1) a0):=by
 intro a0 k
 obtain ⟨ih0,ih1⟩:=aT.cP k
 unfold aT.f
 have m0:=@bU.mono;exact e8
def aT.T4:Bool × List (List Nat × List Nat):=(true,[([],[]),([0],[0]),([1],[1]),([2,1],[2]),([3],[3]),([4,3],[3,4]),([5,3,3],[3,5]),([6],[6]),([6],[6]),([8,6],[6,8]),([7,9,6],[6,7,9]),([10,6],[6,10]),([6],[6]),([11,12,6,6],[6,11,12]),([13,6],[6,13]),([6,14,3],[3,6,14]),([3,15],[3,15])])
def aT.B4:List Nat:=[0,1,3,7,15,31,63,127,127,383,1023,2047,127,8191,16383,32767,65535]
theorem aT.CO:fC .any (opsOf Tryz.f73 4)=aT.T4:=by kernel_rfl
theorem aT.Az:fY aT.T4.2 aT.B4=true:=by kernel_rfl
theorem aT.calls (k:Nat) (A0:Option Addr) (c0:Nat) (l0:List (av)) (r:Bool) (w:World) (hr0:Kd.C cC w A0 l0.length l0) (hc0:l0.length≤c0) (h:aT.f k l0=some r) :
  Calls Tryz.prog 73 #[.slice A0 l0.length c0] w fun e w'=>e = .returned (.bool r)∧Below w.heap.size w w':=by
 have hu34:=Tryz.underlying34;have HR0:=aS hr0;have HC0:=aS hc0;clear hr0 hc0;have HB:=aS (Below.refl w.heap.size w);have H:(aT.l0 k l0 l0 (l0.length:Int) 0)=some r:=h;clear h
 have H':=aS H
 clear H
 go_enter Tryz.func73,Tryz.ntmps73
 go_wp2
 go_loopg [7] k (fun kq v7 w'=>∃ (x7_1:Int),v7 = .int .i64 x7_1∧ak (aT.l0 kq l0 l0 (l0.length:Int) x7_1=some r)∧ak (kq≤k)∧ak (Below w.heap.size w w'))
 case atStart=>exact ⟨(0),dU,H',⟨Nat.le_refl _⟩,⟨ar⟩⟩
 case round=>
  clear H';obtain ⟨x7_1,rfl,HA,HK1,HB⟩:=hrel
  cases gk with
  | zero=>exact absurd HA.out (by simp [aT.l0])
  | succ k1=>
   have H:=HA.out;clear HA
   simp only [aT.l0] at H
   by_cases c2:x7_1<(l0.length:Int)
   ·
    rw [if_pos c2] at H;have c2b0:decide (x7_1<(l0.length:Int))=true:=decide_eq_true c2;clear c2
    by_cases c3:0≤x7_1
    ·
     rw [if_pos c3] at H;have c3b0:decide (0≤x7_1)=true:=decide_eq_true c3;clear c3
     by_cases c4:x7_1<(l0.length:Int)
     ·
      rw [if_pos c4] at H;have c4b0:decide (x7_1<(l0.length:Int))=true:=decide_eq_true c4;clear c4;have HC5:=aS H;clear H;have p150:0≤(x7_1:Int):=cG;have q150:x7_1<(l0.length:Int):=cG;obtain ⟨ad150,e150,hx150_0,hx150_1,hx150_2,hx150_3,hx150_4⟩:=eT HR0.out x7_1 p150 q150;cases e150;replace hx150_0:=bx ar hx150_0;replace hx150_1:=bx ar hx150_1;replace hx150_2:=bx ar hx150_2;replace hx150_3:=bx ar hx150_3;replace hx150_4:=bx ar hx150_4;replace p150:=eq_true p150;replace q150:=eq_true q150
      go_upto_region 4 with (first | ((with_reducible refine aX (N:=4) rfl ?_);refine aY ?hg (N:=4) ?hd (cs:=#[.string (⟨#[]⟩:ByteArray),.string (⟨#[]⟩:ByteArray),.int .i64 0,.string (⟨#[]⟩:ByteArray),.bool false]) (t:=34) ?hr ?_;(case hd=>rfl);(case hg=>rfl);(case hr=>first | (go_simp;done) | (go_simp;rfl));intro gb151 hg w6 hbox hb;have BK151:=aS (hbox);have GW151:=bsize hg;have GE151:=bsize hg;replace HB:=aM hb;clear hb hbox hg;have hcz7:=cR BK151))
      (try simp only [Act.put,dw,dx,lss])
      go_cut [28] (fun v28 wc=>∃ (kq:Nat) (x28_4:Bool),v28 = .bool x28_4∧ak (aT.j1 kq l0 l0 (l0.length:Int) x7_1 x28_4=some r)∧ak (kq≤k1)∧ak (wc.heap[gb151]? = some (.cells #[.string ((af l0 x7_1).f0),.string ((af l0 x7_1).f1),.int .i64 ((af l0 x7_1).f2),.string ((af l0 x7_1).f3),.bool ((af l0 x7_1).f4)] 34 (0,0)))∧ak (Below w.heap.size w wc))
      case first=>
       have H:=HC5.out;clear HC5;replace H:=bV H;obtain ⟨t152,A80,H⟩:=H;have A8:=aS A80;clear A80
       by_cases c9:t152=true
       ·
        subst c9
        replace H:=jQ H
        by_cases eU:x7_1 > 0
        ·
         rw [if_pos eU] at H;have c10b0:decide (0<x7_1)=true:=decide_eq_true eU;clear eU
         (first | rw [c10b0] | (simp only [bC,cm];rw [c10b0]) | skip)
         obtain ⟨ji11,hji11⟩:∃ j_:Int,(wrap64 (x7_1 - 1))=j_:=⟨_,rfl⟩
         replace H:(if 0≤(ji11) then (if (ji11)<(l0.length:Int) then ((bU.f k1 ((af l0 (ji11)).f0) ((af l0 (ji11)).f1) ((af l0 (ji11)).f2) ((af l0 (ji11)).f3) ((af l0 (ji11)).f4) ((af l0 x7_1).f0) ((af l0 x7_1).f1) ((af l0 x7_1).f2) ((af l0 x7_1).f3) ((af l0 x7_1).f4)).bind fun t154=>(aT.j1 k1 l0 l0 (l0.length:Int) x7_1 (decide (t154≥0)))) else (none)) else (none))=some r:=by first | (rw [hji11] at H;exact H) | (simp only [hji11] at H ⊢;exact H)
         (try rw [hji11] at A8)
         have hji11w:(IntKind.i64.wrap (x7_1 - 1))=ji11:=(bC _).trans hji11
         by_cases c12:0≤(ji11)
         ·
          rw [if_pos c12] at H;have c12b0:decide (0≤(ji11))=true:=decide_eq_true c12;clear c12
          by_cases c13:(ji11)<(l0.length:Int)
          ·
           rw [if_pos c13] at H;have c13b0:decide ((ji11)<(l0.length:Int))=true:=decide_eq_true c13;clear c13;replace H:=bV H;obtain ⟨t154,A140,H⟩:=H;have A14:=aS A140;clear A140
           have H':=aS H
           clear H
           try go_wp2
           have n0_:ak ((((((w6.setCell ⟨gb151,0,none⟩ (.string ((af l0 x7_1).f0))).setCell ⟨gb151,1,none⟩ (.string ((af l0 x7_1).f1))).setCell ⟨gb151,2,none⟩ (.int .i64 ((af l0 x7_1).f2))).setCell ⟨gb151,3,none⟩ (.string ((af l0 x7_1).f3))).setCell ⟨gb151,4,none⟩ (.bool ((af l0 x7_1).f4))).heap[gb151]? = some (.cells #[.string ((af l0 x7_1).f0),.string ((af l0 x7_1).f1),.int .i64 ((af l0 x7_1).f2),.string ((af l0 x7_1).f3),.bool ((af l0 x7_1).f4)] 34 (0,0))):=⟨by (with_reducible repeat (first | refine aA ?_ _ | refine au ?_ | refine ax ?_ _));refine bn (cs:=#[.string ((af l0 x7_1).f0),.string ((af l0 x7_1).f1),.int .i64 ((af l0 x7_1).f2),.string ((af l0 x7_1).f3),.bool false]) ?_ 4 _ rfl;(with_reducible repeat (first | refine aA ?_ _ | refine au ?_ | refine ax ?_ _));refine bn (cs:=#[.string ((af l0 x7_1).f0),.string ((af l0 x7_1).f1),.int .i64 ((af l0 x7_1).f2),.string (⟨#[]⟩:ByteArray),.bool false]) ?_ 3 _ rfl;(with_reducible repeat (first | refine aA ?_ _ | refine au ?_ | refine ax ?_ _));refine bn (cs:=#[.string ((af l0 x7_1).f0),.string ((af l0 x7_1).f1),.int .i64 0,.string (⟨#[]⟩:ByteArray),.bool false]) ?_ 2 _ rfl;(with_reducible repeat (first | refine aA ?_ _ | refine au ?_ | refine ax ?_ _));refine bn (cs:=#[.string ((af l0 x7_1).f0),.string (⟨#[]⟩:ByteArray),.int .i64 0,.string (⟨#[]⟩:ByteArray),.bool false]) ?_ 1 _ rfl;(with_reducible repeat (first | refine aA ?_ _ | refine au ?_ | refine ax ?_ _));refine bn (cs:=#[.string (⟨#[]⟩:ByteArray),.string (⟨#[]⟩:ByteArray),.int .i64 0,.string (⟨#[]⟩:ByteArray),.bool false]) ?_ 0 _ rfl;(with_reducible repeat (first | refine aA ?_ _ | refine au ?_ | refine ax ?_ _));exact BK151.out⟩;have n1_:ak (Below w.heap.size w (((((w6.setCell ⟨gb151,0,none⟩ (.string ((af l0 x7_1).f0))).setCell ⟨gb151,1,none⟩ (.string ((af l0 x7_1).f1))).setCell ⟨gb151,2,none⟩ (.int .i64 ((af l0 x7_1).f2))).setCell ⟨gb151,3,none⟩ (.string ((af l0 x7_1).f3))).setCell ⟨gb151,4,none⟩ (.bool ((af l0 x7_1).f4)))):=⟨ar⟩;(try clear BK151);(try clear HB)
           generalize (((((w6.setCell ⟨gb151,0,none⟩ (.string ((af l0 x7_1).f0))).setCell ⟨gb151,1,none⟩ (.string ((af l0 x7_1).f1))).setCell ⟨gb151,2,none⟩ (.int .i64 ((af l0 x7_1).f2))).setCell ⟨gb151,3,none⟩ (.string ((af l0 x7_1).f3))).setCell ⟨gb151,4,none⟩ (.bool ((af l0 x7_1).f4)))=w15 at n0_ n1_ ⊢
           have BK151:=n0_;have HB:=n1_;clear n0_ n1_;replace BK151:=aS (au BK151.out);replace HB:=aS (jG HB.out);have p153:0≤((ji11):Int):=cG;have q153:(ji11)<(l0.length:Int):=cG;obtain ⟨ad153,e153,hx153_0,hx153_1,hx153_2,hx153_3,hx153_4⟩:=eT HR0.out (ji11) p153 q153;have hw153_4:=hx153_4;have hw153_3:=hx153_3;have hw153_2:=hx153_2;have hw153_1:=hx153_1;have hw153_0:=hx153_0
           obtain rfl:ad150=ad153:=(by injection e153)
           replace hx153_0:=bx ar hx153_0;replace hx153_1:=bx ar hx153_1;replace hx153_2:=bx ar hx153_2;replace hx153_3:=bx ar hx153_3;replace hx153_4:=bx ar hx153_4;replace p153:=eq_true p153;replace q153:=eq_true q153;refine dz (n:=17) (S:=fun w'=>w'.cell? ⟨gb151,0,none⟩=some (.string ((af l0 x7_1).f0))∧w'.cell? ⟨gb151,1,none⟩=some (.string ((af l0 x7_1).f1))∧w'.cell? ⟨gb151,2,none⟩=some (.int .i64 ((af l0 x7_1).f2))∧w'.cell? ⟨gb151,3,none⟩=some (.string ((af l0 x7_1).f3))∧w'.cell? ⟨gb151,4,none⟩=some (.bool ((af l0 x7_1).f4))∧w'.cell? (ad150.add (((ji11)).toNat*5))=some (.string ((af l0 (ji11)).f0))∧w'.cell? ⟨(ad150.add (((ji11)).toNat*5)).block,(ad150.add (((ji11)).toNat*5)).off+1,none⟩=some (.string ((af l0 (ji11)).f1))∧w'.cell? ⟨(ad150.add (((ji11)).toNat*5)).block,(ad150.add (((ji11)).toNat*5)).off+2,none⟩=some (.int .i64 ((af l0 (ji11)).f2))∧w'.cell? ⟨(ad150.add (((ji11)).toNat*5)).block,(ad150.add (((ji11)).toNat*5)).off+3,none⟩=some (.string ((af l0 (ji11)).f3))∧w'.cell? ⟨(ad150.add (((ji11)).toNat*5)).block,(ad150.add (((ji11)).toNat*5)).off+4,none⟩=some (.bool ((af l0 (ji11)).f4))) (ds:=[]) (bA 17 0) (by kernel_rfl) rfl rfl ⟨bc BK151 0,bc BK151 1,bc BK151 2,bc BK151 3,bc BK151 4,(bx ar hw153_0),(bx ar hw153_1),(bx ar hw153_2),(bx ar hw153_3),(bx ar hw153_4)⟩ (fun hHeld=>?_);refine cH aT.CO aT.Az (fun HT_ HW_=>?_)
           generalize w15.drew=w16 at BK151 HB hx153_0 hx153_1 hx153_2 hx153_3 hx153_4 hHeld ⊢
           refine iw (i:=0) (N:=some 12) (v:=?_) (a':=?_) (bA 17 1) rfl rfl (iD HT_.out HW_.out (by kernel_rfl)) (fun _ _ _ h=>h) (Or.inl ⟨by rfl,?_⟩) hHeld ?_ ?_
           rotate_left
           ·
            rintro w' ⟨s0,s1,s2,s3,s4,s5,s6,s7,s8,s9⟩
            go_simp
            with_reducible rfl
           rotate_left
           ·
            simp only [Act.put,dw,dx,lss,bC,cm]
            rfl
           refine dJ 1 (N:=some 13) (bA 17 3) HT_ (fun K hK=>?_);refine ep Tryz.func27 (by kernel_rfl) rfl #[.agg #[.string ((af l0 x7_1).f0),.string ((af l0 x7_1).f1),.int .i64 ((af l0 x7_1).f2),.string ((af l0 x7_1).f3),.bool ((af l0 x7_1).f4)]] (by rfl) rfl rfl cD ?_
           with_reducible refine (eP.calls ((af l0 x7_1).f0) ((af l0 x7_1).f1) ((af l0 x7_1).f2) ((af l0 x7_1).f3) ((af l0 x7_1).f4) true _ A8.out).mono ?_
           rintro e w17 ⟨rfl,hb⟩
           refine ⟨_,rfl,?_⟩;replace BK151:=fA BK151 hb;replace HB:=aM hb;(try clear hb);(try clear hk);(try clear hi);refine hK.out _ _ ⟨bc BK151 0,bc BK151 1,bc BK151 2,bc BK151 3,bc BK151 4,(bx ar hw153_0),(bx ar hw153_1),(bx ar hw153_2),(bx ar hw153_3),(bx ar hw153_4)⟩ (fun hHeld=>?_);clear hK K;refine nm 13 ?_;refine aZ [(2,14),(3,15),(4,16),(5,17),(6,18),(7,19),(8,20),(9,21),(10,22),(11,23),(12,24)] ?_
           iterate 11 (first | (refine cr HT_ ?_) | (refine d_ HT_ HW_ hHeld ?_))
           refine bX (bA 17 8191) (by kernel_rfl) ?_;refine dJ 13 (N:=some 25) (bA 17 16383) HT_ (fun K hK=>?_);refine ep Tryz.func47 (by kernel_rfl) rfl #[.agg #[.string ((af l0 (ji11)).f0),.string ((af l0 (ji11)).f1),.int .i64 ((af l0 (ji11)).f2),.string ((af l0 (ji11)).f3),.bool ((af l0 (ji11)).f4)],.agg #[.string ((af l0 x7_1).f0),.string ((af l0 x7_1).f1),.int .i64 ((af l0 x7_1).f2),.string ((af l0 x7_1).f3),.bool ((af l0 x7_1).f4)]] (by rfl) rfl rfl (by (try simp only [List.map_toArray,List.map_cons,List.map_nil]);first | done | (simp only [hji11];rfl) | rfl | (simp only [lY,kX];rfl)) ?_
           with_reducible refine (bU.calls k1 ((af l0 (ji11)).f0) ((af l0 (ji11)).f1) ((af l0 (ji11)).f2) ((af l0 (ji11)).f3) ((af l0 (ji11)).f4) ((af l0 x7_1).f0) ((af l0 x7_1).f1) ((af l0 x7_1).f2) ((af l0 x7_1).f3) ((af l0 x7_1).f4) t154 _ A14.out).mono ?_
           rintro e w18 ⟨rfl,hb⟩
           refine ⟨_,rfl,?_⟩;replace BK151:=fA BK151 hb;replace HB:=aM hb;(try clear hb);(try clear hk);(try clear hi);refine hK.out _ _ ⟨bc BK151 0,bc BK151 1,bc BK151 2,bc BK151 3,bc BK151 4,(bx ar hw153_0),(bx ar hw153_1),(bx ar hw153_2),(bx ar hw153_3),(bx ar hw153_4)⟩ (fun hHeld=>?_);clear hK K;refine nm 25 ?_;refine aZ [(14,26),(15,27),(16,28)] ?_
           iterate 3 (refine cr HT_ ?_)
           refine bX (bA 17 131071) (by kernel_rfl) ?_;refine dQ (cX HT_.out (by kernel_rfl)) ?_
           try go_wp2
           go_meet
           case rel=>exact ⟨_,(decide (t154≥0)),dU,H',⟨by have:=HK1.out;first | omega | exact Nat.le_refl _⟩,⟨eB BK151.out⟩,⟨ar⟩⟩
          ·
           rw [if_neg c13] at H;exact absurd H (by simp)
         ·
          rw [if_neg c12] at H;exact absurd H (by simp)
        ·
         rw [if_neg eU] at H;have c10b0:decide (0<x7_1)=false:=decide_eq_false eU;clear eU
         (first | rw [c10b0] | (simp only [bC,cm];rw [c10b0]) | skip)
         have H':=aS H
         clear H
         try go_wp2
         have n0_:ak ((((((w6.setCell ⟨gb151,0,none⟩ (.string ((af l0 x7_1).f0))).setCell ⟨gb151,1,none⟩ (.string ((af l0 x7_1).f1))).setCell ⟨gb151,2,none⟩ (.int .i64 ((af l0 x7_1).f2))).setCell ⟨gb151,3,none⟩ (.string ((af l0 x7_1).f3))).setCell ⟨gb151,4,none⟩ (.bool ((af l0 x7_1).f4))).heap[gb151]? = some (.cells #[.string ((af l0 x7_1).f0),.string ((af l0 x7_1).f1),.int .i64 ((af l0 x7_1).f2),.string ((af l0 x7_1).f3),.bool ((af l0 x7_1).f4)] 34 (0,0))):=⟨by (with_reducible repeat (first | refine aA ?_ _ | refine au ?_ | refine ax ?_ _));refine bn (cs:=#[.string ((af l0 x7_1).f0),.string ((af l0 x7_1).f1),.int .i64 ((af l0 x7_1).f2),.string ((af l0 x7_1).f3),.bool false]) ?_ 4 _ rfl;(with_reducible repeat (first | refine aA ?_ _ | refine au ?_ | refine ax ?_ _));refine bn (cs:=#[.string ((af l0 x7_1).f0),.string ((af l0 x7_1).f1),.int .i64 ((af l0 x7_1).f2),.string (⟨#[]⟩:ByteArray),.bool false]) ?_ 3 _ rfl;(with_reducible repeat (first | refine aA ?_ _ | refine au ?_ | refine ax ?_ _));refine bn (cs:=#[.string ((af l0 x7_1).f0),.string ((af l0 x7_1).f1),.int .i64 0,.string (⟨#[]⟩:ByteArray),.bool false]) ?_ 2 _ rfl;(with_reducible repeat (first | refine aA ?_ _ | refine au ?_ | refine ax ?_ _));refine bn (cs:=#[.string ((af l0 x7_1).f0),.string (⟨#[]⟩:ByteArray),.int .i64 0,.string (⟨#[]⟩:ByteArray),.bool false]) ?_ 1 _ rfl;(with_reducible repeat (first | refine aA ?_ _ | refine au ?_ | refine ax ?_ _));refine bn (cs:=#[.string (⟨#[]⟩:ByteArray),.string (⟨#[]⟩:ByteArray),.int .i64 0,.string (⟨#[]⟩:ByteArray),.bool false]) ?_ 0 _ rfl;(with_reducible repeat (first | refine aA ?_ _ | refine au ?_ | refine ax ?_ _));exact BK151.out⟩;have n1_:ak (Below w.heap.size w (((((w6.setCell ⟨gb151,0,none⟩ (.string ((af l0 x7_1).f0))).setCell ⟨gb151,1,none⟩ (.string ((af l0 x7_1).f1))).setCell ⟨gb151,2,none⟩ (.int .i64 ((af l0 x7_1).f2))).setCell ⟨gb151,3,none⟩ (.string ((af l0 x7_1).f3))).setCell ⟨gb151,4,none⟩ (.bool ((af l0 x7_1).f4)))):=⟨ar⟩;(try clear BK151);(try clear HB)
         generalize (((((w6.setCell ⟨gb151,0,none⟩ (.string ((af l0 x7_1).f0))).setCell ⟨gb151,1,none⟩ (.string ((af l0 x7_1).f1))).setCell ⟨gb151,2,none⟩ (.int .i64 ((af l0 x7_1).f2))).setCell ⟨gb151,3,none⟩ (.string ((af l0 x7_1).f3))).setCell ⟨gb151,4,none⟩ (.bool ((af l0 x7_1).f4)))=w19 at n0_ n1_ ⊢
         have BK151:=n0_;have HB:=n1_;clear n0_ n1_;replace BK151:=aS (au BK151.out);replace HB:=aS (jG HB.out);refine dz (n:=17) (S:=fun w'=>w'.cell? ⟨gb151,0,none⟩=some (.string ((af l0 x7_1).f0))∧w'.cell? ⟨gb151,1,none⟩=some (.string ((af l0 x7_1).f1))∧w'.cell? ⟨gb151,2,none⟩=some (.int .i64 ((af l0 x7_1).f2))∧w'.cell? ⟨gb151,3,none⟩=some (.string ((af l0 x7_1).f3))∧w'.cell? ⟨gb151,4,none⟩=some (.bool ((af l0 x7_1).f4))) (ds:=[]) (bA 17 0) (by kernel_rfl) rfl rfl ⟨bc BK151 0,bc BK151 1,bc BK151 2,bc BK151 3,bc BK151 4⟩ (fun hHeld=>?_);refine cH aT.CO aT.Az (fun HT_ HW_=>?_)
         generalize w19.drew=w20 at BK151 HB hHeld ⊢
         refine iw (i:=0) (N:=some 12) (v:=?_) (a':=?_) (bA 17 1) rfl rfl (iD HT_.out HW_.out (by kernel_rfl)) (fun _ _ _ h=>h) (Or.inl ⟨by rfl,?_⟩) hHeld ?_ ?_
         rotate_left
         ·
          rintro w' ⟨s0,s1,s2,s3,s4⟩
          go_simp
          with_reducible rfl
         rotate_left
         ·
          simp only [Act.put,dw,dx,lss,bC,cm]
          rfl
         refine dJ 1 (N:=some 13) (bA 17 3) HT_ (fun K hK=>?_);refine ep Tryz.func27 (by kernel_rfl) rfl #[.agg #[.string ((af l0 x7_1).f0),.string ((af l0 x7_1).f1),.int .i64 ((af l0 x7_1).f2),.string ((af l0 x7_1).f3),.bool ((af l0 x7_1).f4)]] (by rfl) rfl rfl cD ?_
         with_reducible refine (eP.calls ((af l0 x7_1).f0) ((af l0 x7_1).f1) ((af l0 x7_1).f2) ((af l0 x7_1).f3) ((af l0 x7_1).f4) true _ A8.out).mono ?_
         rintro e w21 ⟨rfl,hb⟩
         refine ⟨_,rfl,?_⟩;replace BK151:=fA BK151 hb;replace HB:=aM hb;(try clear hb);(try clear hk);(try clear hi);refine hK.out _ _ ⟨bc BK151 0,bc BK151 1,bc BK151 2,bc BK151 3,bc BK151 4⟩ (fun hHeld=>?_);clear hK K;refine nm 13 ?_;refine aZ [(2,14),(3,15),(4,16),(5,17),(6,18),(7,19),(8,20),(9,21),(10,22),(11,23),(12,24),(13,25),(14,26),(15,27),(16,28)] ?_
         iterate 15 (first | (refine nH HT_ ?_) | (refine cr HT_ ?_))
         refine bX (bA 17 131071) (by kernel_rfl) ?_;refine dQ (cX HT_.out (by kernel_rfl)) ?_
         try go_wp2
         go_meet
         case rel=>exact ⟨_,(false),dU,H',⟨by have:=HK1.out;first | omega | exact Nat.le_refl _⟩,⟨eB BK151.out⟩,⟨ar⟩⟩
       ·
        replace c9:=Bool.eq_false_iff.mpr c9;subst c9
        replace H:=jO H
        have H':=aS H
        clear H
        try go_wp2
        have n0_:ak ((((((w6.setCell ⟨gb151,0,none⟩ (.string ((af l0 x7_1).f0))).setCell ⟨gb151,1,none⟩ (.string ((af l0 x7_1).f1))).setCell ⟨gb151,2,none⟩ (.int .i64 ((af l0 x7_1).f2))).setCell ⟨gb151,3,none⟩ (.string ((af l0 x7_1).f3))).setCell ⟨gb151,4,none⟩ (.bool ((af l0 x7_1).f4))).heap[gb151]? = some (.cells #[.string ((af l0 x7_1).f0),.string ((af l0 x7_1).f1),.int .i64 ((af l0 x7_1).f2),.string ((af l0 x7_1).f3),.bool ((af l0 x7_1).f4)] 34 (0,0))):=⟨by (with_reducible repeat (first | refine aA ?_ _ | refine au ?_ | refine ax ?_ _));refine bn (cs:=#[.string ((af l0 x7_1).f0),.string ((af l0 x7_1).f1),.int .i64 ((af l0 x7_1).f2),.string ((af l0 x7_1).f3),.bool false]) ?_ 4 _ rfl;(with_reducible repeat (first | refine aA ?_ _ | refine au ?_ | refine ax ?_ _));refine bn (cs:=#[.string ((af l0 x7_1).f0),.string ((af l0 x7_1).f1),.int .i64 ((af l0 x7_1).f2),.string (⟨#[]⟩:ByteArray),.bool false]) ?_ 3 _ rfl;(with_reducible repeat (first | refine aA ?_ _ | refine au ?_ | refine ax ?_ _));refine bn (cs:=#[.string ((af l0 x7_1).f0),.string ((af l0 x7_1).f1),.int .i64 0,.string (⟨#[]⟩:ByteArray),.bool false]) ?_ 2 _ rfl;(with_reducible repeat (first | refine aA ?_ _ | refine au ?_ | refine ax ?_ _));refine bn (cs:=#[.string ((af l0 x7_1).f0),.string (⟨#[]⟩:ByteArray),.int .i64 0,.string (⟨#[]⟩:ByteArray),.bool false]) ?_ 1 _ rfl;(with_reducible repeat (first | refine aA ?_ _ | refine au ?_ | refine ax ?_ _));refine bn (cs:=#[.string (⟨#[]⟩:ByteArray),.string (⟨#[]⟩:ByteArray),.int .i64 0,.string (⟨#[]⟩:ByteArray),.bool false]) ?_ 0 _ rfl;(with_reducible repeat (first | refine aA ?_ _ | refine au ?_ | refine ax ?_ _));exact BK151.out⟩;have n1_:ak (Below w.heap.size w (((((w6.setCell ⟨gb151,0,none⟩ (.string ((af l0 x7_1).f0))).setCell ⟨gb151,1,none⟩ (.string ((af l0 x7_1).f1))).setCell ⟨gb151,2,none⟩ (.int .i64 ((af l0 x7_1).f2))).setCell ⟨gb151,3,none⟩ (.string ((af l0 x7_1).f3))).setCell ⟨gb151,4,none⟩ (.bool ((af l0 x7_1).f4)))):=⟨ar⟩;(try clear BK151);(try clear HB)
        generalize (((((w6.setCell ⟨gb151,0,none⟩ (.string ((af l0 x7_1).f0))).setCell ⟨gb151,1,none⟩ (.string ((af l0 x7_1).f1))).setCell ⟨gb151,2,none⟩ (.int .i64 ((af l0 x7_1).f2))).setCell ⟨gb151,3,none⟩ (.string ((af l0 x7_1).f3))).setCell ⟨gb151,4,none⟩ (.bool ((af l0 x7_1).f4)))=w22 at n0_ n1_ ⊢
        have BK151:=n0_;have HB:=n1_;clear n0_ n1_;replace BK151:=aS (au BK151.out);replace HB:=aS (jG HB.out);refine dz (n:=17) (S:=fun w'=>w'.cell? ⟨gb151,0,none⟩=some (.string ((af l0 x7_1).f0))∧w'.cell? ⟨gb151,1,none⟩=some (.string ((af l0 x7_1).f1))∧w'.cell? ⟨gb151,2,none⟩=some (.int .i64 ((af l0 x7_1).f2))∧w'.cell? ⟨gb151,3,none⟩=some (.string ((af l0 x7_1).f3))∧w'.cell? ⟨gb151,4,none⟩=some (.bool ((af l0 x7_1).f4))) (ds:=[]) (bA 17 0) (by kernel_rfl) rfl rfl ⟨bc BK151 0,bc BK151 1,bc BK151 2,bc BK151 3,bc BK151 4⟩ (fun hHeld=>?_);refine cH aT.CO aT.Az (fun HT_ HW_=>?_)
        generalize w22.drew=w23 at BK151 HB hHeld ⊢
        refine iw (i:=0) (N:=some 12) (v:=?_) (a':=?_) (bA 17 1) rfl rfl (iD HT_.out HW_.out (by kernel_rfl)) (fun _ _ _ h=>h) (Or.inl ⟨by rfl,?_⟩) hHeld ?_ ?_
        rotate_left
        ·
         rintro w' ⟨s0,s1,s2,s3,s4⟩
         go_simp
         with_reducible rfl
        rotate_left
        ·
         simp only [Act.put,dw,dx,lss,bC,cm]
         rfl
        refine dJ 1 (N:=some 13) (bA 17 3) HT_ (fun K hK=>?_);refine ep Tryz.func27 (by kernel_rfl) rfl #[.agg #[.string ((af l0 x7_1).f0),.string ((af l0 x7_1).f1),.int .i64 ((af l0 x7_1).f2),.string ((af l0 x7_1).f3),.bool ((af l0 x7_1).f4)]] (by rfl) rfl rfl cD ?_
        with_reducible refine (eP.calls ((af l0 x7_1).f0) ((af l0 x7_1).f1) ((af l0 x7_1).f2) ((af l0 x7_1).f3) ((af l0 x7_1).f4) false _ A8.out).mono ?_
        rintro e w24 ⟨rfl,hb⟩
        refine ⟨_,rfl,?_⟩;replace BK151:=fA BK151 hb;replace HB:=aM hb;(try clear hb);(try clear hk);(try clear hi);refine hK.out _ _ ⟨bc BK151 0,bc BK151 1,bc BK151 2,bc BK151 3,bc BK151 4⟩ (fun hHeld=>?_);clear hK K;refine nm 13 ?_;refine aZ [(2,14),(3,15),(4,16),(5,17),(6,18),(7,19),(8,20),(9,21),(10,22),(11,23),(12,24),(13,25),(14,26),(15,27),(16,28)] ?_
        iterate 15 (first | (refine nH HT_ ?_) | (refine cr HT_ ?_))
        refine bX (bA 17 131071) (by kernel_rfl) ?_;refine dQ (cX HT_.out (by kernel_rfl)) ?_
        try go_wp2
        go_meet
        case rel=>exact ⟨_,(true),dU,H',⟨by have:=HK1.out;first | omega | exact Nat.le_refl _⟩,⟨eB BK151.out⟩,⟨ar⟩⟩
      case rest=>
       clear HC5;(try clear c2);(try clear c2b0);(try clear c3);(try clear c3b0);(try clear c4);(try clear c4b0);(try clear hcz7);(try clear hx150_0);(try clear hx150_1);(try clear hx150_2);(try clear hx150_3);(try clear hx150_4);(try clear p150);(try clear q150);obtain ⟨kq,x28_4,rfl,HA,HJ4,BK151,HB⟩:=hcut
       cases kq with
       | zero=>exact absurd HA.out (by simp [aT.j1])
       | succ kj4=>
        have H:=HA.out;clear HA
        simp only [aT.j1] at H
        by_cases c25:x28_4=true
        ·
         subst c25
         replace H:=jQ H
         obtain rfl:=Option.some.inj H
         go_wp2
         go_ret
         exact ⟨dN,ar⟩
        ·
         replace c25:=Bool.eq_false_iff.mpr c25;subst c25
         replace H:=jO H
         have H':=aS H
         clear H
         go_wp2
         go_roundg kj4
         case measure=>have:=HK1.out;have:=HJ4.out;omega
         case rel=>exact ⟨(wrap64 (x7_1+1)),dU,H',⟨by have:=HK1.out;have:=HJ4.out;omega⟩,⟨ar⟩⟩
     ·
      rw [if_neg c4] at H;exact absurd H (by simp)
    ·
     rw [if_neg c3] at H;exact absurd H (by simp)
   ·
    rw [if_neg c2] at H;have c2b0:decide (x7_1<(l0.length:Int))=false:=decide_eq_false c2;clear c2
    obtain rfl:=Option.some.inj H
    go_wp2
    go_ret
    exact ⟨dN,ar⟩
def cN.bit (w:Int):Int:=if Go.bits .and .u32 w 1=1 then Go.bits .xor .u32 (w / 2) 2197175160 else w / 2
def cN.go:Nat→Int→Int
 | 0,w=>w
 | m+1,w=>cN.go m (cN.bit w)
def cN.f (a0 a1:Int):Option Int:=some (cN.go 8 (Go.bits .xor .u32 a0 (a1 % 4294967296)))
theorem cN.Ck (a0:Int) (w:World):Calls Tryz.prog 109 #[.int .u32 a0] w fun e w'=>e = .returned (.int .u32 (cN.bit a0))∧Below w.heap.size w w':=by
 go_enter Tryz.func109,Tryz.ntmps109
 go_wp2_with fail
 ·
  rename_i h
  refine bodyPost_ret (ng rfl (.tmp .nil)) rfl ⟨?_,Below.refl _ _⟩;rw [cN.bit,if_pos (by simpa using h)]
  rfl
 ·
  rename_i h
  refine bodyPost_ret (ng rfl (.tmp .nil)) rfl ⟨?_,Below.refl _ _⟩;rw [cN.bit,if_neg (by simpa using h)]
  rfl
theorem cN.calls (a0 a1:Int) (r:Int) (w:World) (h:cN.f a0 a1=some r) :
  Calls Tryz.prog 108 #[.int .u32 a0,.int .u8 a1] w fun e w'=>e = .returned (.int .u32 r)∧Below w.heap.size w w':=by
 obtain rfl:=Option.some.inj h
 clear h
 go_enter Tryz.func108,Tryz.ntmps108
 go_wp2_with fail
 go_loopw [0,10] (fun v0 v10 w2=>∃ (i:Nat) (x:Int),v10 = .int .i64 (i:Int)∧v0 = .int .u32 x∧ak (i≤8)∧ak (cN.go (8 - i) x=cN.go 8 (Go.bits .xor .u32 a0 (a1 % 4294967296)))∧ak (Below w.heap.size w w2)) (fun _ i _=>8 - (intOf i).toNat)
 case atStart=>exact ⟨0,_,rfl,rfl,⟨by omega⟩,⟨rfl⟩,⟨Below.refl _ _⟩⟩
 case round=>
  obtain ⟨i,x,rfl,rfl,hi,HA,HB⟩:=hrel;have hi8:=hi.out
  by_cases hlt:i<8
  ·
   obtain ⟨m,hm⟩:∃ m,8 - i=m+1:=⟨7 - i,by omega⟩
   have ha:=HA.out;rw [hm,cN.go] at ha;have HA2:=aS ha;have HM:=aS hm;clear ha HA hm
   go_wp2_with (first
    | (go_at_call 109;(with_reducible refine (cN.Ck _ _).mono ?_);rintro e w3 ⟨rfl,hb⟩;have HB2:=aS hb;clear hb))
   go_roundw
   case rel=>
    have hm:=HM.out;exact ⟨i+1,_,by go_num,rfl,⟨by omega⟩,⟨by rw [show 8 - (i+1)=m by omega];exact HA2.out⟩,⟨aN HB.out HB2.out⟩⟩
   case measure=>simp [intOf];omega
  ·
   have hd:8 - i=0:=by omega
   have ha:=HA.out;rw [hd,cN.go] at ha;have HA2:=aS ha;clear ha HA hd
   go_wp2_with fail
   refine bodyPost_ret (ng rfl (.tmp .nil)) rfl ⟨?_,HB.out⟩;rw [←HA2.out]
   rfl
def dK.l0:Nat→Int→List Int→Int→Int→Option (Int)
 | 0,_,_,_,_=>none
 | k+1,x5,x10,x11,x12=>if x12<x11 then (if 0≤x12 then (if x12<(x10.length:Int) then ((cN.f x5 (rd x10 x12)).bind fun t156=>(dK.l0 k t156 x10 x11 (wrap64 (x12+1)))) else (none)) else (none)) else (some (Go.bits .xor .u32 x5 4294967295))
def dK.f (k:Nat) (a0:Int) (l1:List Int):Option (Int):=dK.l0 k (Go.bits .xor .u32 a0 4294967295) l1 (l1.length:Int) 0
theorem dK.cP:∀ k,(∀ y0 y1 y2 y3,aE (dK.l0 k y0 y1 y2 y3) (dK.l0 (k+1) y0 y1 y2 y3))
 | 0=>fun _ _ _ _ r h=>by simp [dK.l0] at h
 | k+1=>by
  have ih0:=dK.cP k
  ·
   intro y0 y1 y2 y3
   unfold dK.l0
   exact e8
theorem dK.mono:∀ a0 a1 k,aE (dK.f k a0 a1) (dK.f (k+1) a0 a1):=by
 intro a0 a1 k
 have ih0:=dK.cP k
 unfold dK.f
 exact e8
theorem dK.calls (k:Nat) (a0:Int) (A1:Option Addr) (c1:Nat) (l1:List Int) (r:Int) (w:World) (hr1:Kd.C (Kd.int .u8) w A1 l1.length l1) (hc1:l1.length≤c1) (h:dK.f k a0 l1=some r) :
  Calls Tryz.prog 107 #[.int .u32 a0,.slice A1 l1.length c1] w fun e w'=>e = .returned (.int .u32 r)∧Below w.heap.size w w':=by
 have HR1:=aS hr1;have HC1:=aS hc1;clear hr1 hc1;have HB:=aS (Below.refl w.heap.size w);have H:(dK.l0 k (Go.bits .xor .u32 a0 4294967295) l1 (l1.length:Int) 0)=some r:=h;clear h
 have H':=aS H
 clear H
 go_enter Tryz.func107,Tryz.ntmps107
 go_wp2
 go_loopg [5,12] k (fun kq v5 v12 w'=>∃ (x5_1:Int) (x12_1:Int),v5 = .int .u32 x5_1∧v12 = .int .i64 x12_1∧ak (dK.l0 kq x5_1 l1 (l1.length:Int) x12_1=some r)∧ak (kq≤k)∧ak (Below w.heap.size w w'))
 case atStart=>exact ⟨(Go.bits .xor .u32 a0 4294967295),(0),dU,dU,H',⟨Nat.le_refl _⟩,⟨ar⟩⟩
 case round=>
  clear H';(try clear c1);obtain ⟨x5_1,x12_1,rfl,rfl,HA,HK1,HB⟩:=hrel
  cases gk with
  | zero=>exact absurd HA.out (by simp [dK.l0])
  | succ k1=>
   have H:=HA.out;clear HA
   simp only [dK.l0] at H
   by_cases c3:x12_1<(l1.length:Int)
   ·
    rw [if_pos c3] at H;have c3b0:decide (x12_1<(l1.length:Int))=true:=decide_eq_true c3;clear c3
    by_cases c4:0≤x12_1
    ·
     rw [if_pos c4] at H;have c4b0:decide (0≤x12_1)=true:=decide_eq_true c4;clear c4
     by_cases c5:x12_1<(l1.length:Int)
     ·
      rw [if_pos c5] at H;have c5b0:decide (x12_1<(l1.length:Int))=true:=decide_eq_true c5;clear c5;replace H:=bV H;obtain ⟨t156,A60,H⟩:=H;have A6:=aS A60;clear A60
      have H':=aS H
      clear H;have p155:0≤(x12_1:Int):=cG;have q155:x12_1<(l1.length:Int):=cG;obtain ⟨ad155,e155,hx155_0⟩:=Kd.jj HR1.out x12_1 p155 q155;cases e155;replace hx155_0:=bx ar hx155_0;replace p155:=eq_true p155;replace q155:=eq_true q155
      go_wp2_with (first | ((with_reducible refine aC (f:=108) rfl ?_);refine bE (some 18) rfl rfl Tryz.func108 (by kernel_rfl) rfl #[.int .u32 x5_1,.int .u8 (rd l1 x12_1)] rfl cD ?_;(with_reducible refine (cN.calls x5_1 (rd l1 x12_1) t156 _ A6.out).mono ?_);rintro e w7 ⟨rfl,hb⟩;refine ⟨_,rfl,?_⟩;replace HB:=aM hb;(try clear hb);(try clear hk);(try clear hi)))
      go_roundg k1
      case measure=>have:=HK1.out;omega
      case rel=>exact ⟨(t156),(wrap64 (x12_1+1)),dU,dU,H',⟨by have:=HK1.out;omega⟩,⟨ar⟩⟩
     ·
      rw [if_neg c5] at H;exact absurd H (by simp)
    ·
     rw [if_neg c4] at H;exact absurd H (by simp)
   ·
    rw [if_neg c3] at H;have c3b0:decide (x12_1<(l1.length:Int))=false:=decide_eq_false c3;clear c3
    obtain rfl:=Option.some.inj H
    go_wp2
    go_ret
    exact ⟨dN,ar⟩
def fH.f (k:Nat) (l0:List Int):Option (Int):=(dK.f k 0 l0).bind fun t157=>(some t157)
theorem fH.mono:∀ a0 k,aE (fH.f k a0) (fH.f (k+1) a0):=by
 intro a0 k
 unfold fH.f
 have m0:=@dK.mono;exact e8
theorem fH.calls (k:Nat) (A0:Option Addr) (c0:Nat) (l0:List Int) (r:Int) (w:World) (hr0:Kd.C (Kd.int .u8) w A0 l0.length l0) (hc0:l0.length≤c0) (h:fH.f k l0=some r) :
  Calls Tryz.prog 104 #[.slice A0 l0.length c0] w fun e w'=>e = .returned (.int .u32 r)∧Below w.heap.size w w':=by
 have HR0:=aS hr0;have HC0:=aS hc0;clear hr0 hc0;have HB:=aS (Below.refl w.heap.size w);have H:((dK.f k 0 l0).bind fun t157=>(some t157))=some r:=h;clear h;replace H:=bV H;obtain ⟨t157,A20,H⟩:=H;have A2:=aS A20;clear A20
 obtain rfl:=Option.some.inj H
 go_enter Tryz.func104,Tryz.ntmps104
 go_wp2_with (first | ((with_reducible refine aC (f:=107) rfl ?_);refine bE (some 4) rfl rfl Tryz.func107 (by kernel_rfl) rfl #[.int .u32 0,.slice A0 l0.length c0] rfl cD ?_;(with_reducible refine (dK.calls k 0 _ _ l0 t157 _ ?side1 ?side2 A2.out).mono ?_);(case side1=>exact eN HR0.out);(case side2=>exact HC0.out);rintro e w3 ⟨rfl,hb⟩;refine ⟨_,rfl,?_⟩;replace HB:=aM hb;(try clear hb);(try clear hk);(try clear hi)))
 go_ret
 exact ⟨dN,ar⟩
def eC.f (k:Nat) (l0:List Int):Option (List Int):=(fH.f k l0).bind fun t158=>((eH.f (wrap64 (t158))).bind fun t159=>(some t159))
theorem eC.mono:∀ a0 k,aE (eC.f k a0) (eC.f (k+1) a0):=by
 intro a0 k
 unfold eC.f
 have m0:=@fH.mono;exact e8
theorem eC.calls (k:Nat) (A0:Option Addr) (c0:Nat) (l0:List Int) (r:List Int) (w:World) (hr0:Kd.C (Kd.int .u8) w A0 l0.length l0) (hc0:l0.length≤c0) (h:eC.f k l0=some r) :
  Calls Tryz.prog 102 #[.slice A0 l0.length c0] w fun e w'=>∃ v0_:Value,e = .returned (v0_)∧Kd.R (Kd.int .u8) 5 w' w.heap.size (fun _=>True) v0_ r∧Below w.heap.size w w':=by
 have HR0:=aS hr0;have HC0:=aS hc0;clear hr0 hc0;have HB:=aS (Below.refl w.heap.size w);have H:((fH.f k l0).bind fun t158=>((eH.f (wrap64 (t158))).bind fun t159=>(some t159)))=some r:=h;clear h;replace H:=bV H;obtain ⟨t158,A20,H⟩:=H;have A2:=aS A20;clear A20;replace H:=bV H;obtain ⟨t159,A30,H⟩:=H;have A3:=aS A30;clear A30
 obtain rfl:=Option.some.inj H
 go_enter Tryz.func102,Tryz.ntmps102
 go_wp2_with (first | ((with_reducible refine aC (f:=104) rfl ?_);refine bE (some 4) rfl rfl Tryz.func104 (by kernel_rfl) rfl #[.slice A0 l0.length c0] rfl cD ?_;(with_reducible refine (fH.calls k _ _ l0 t158 _ ?side1 ?side2 A2.out).mono ?_);(case side1=>exact eN HR0.out);(case side2=>exact HC0.out);rintro e w4 ⟨rfl,hb⟩;refine ⟨_,rfl,?_⟩;replace HB:=aM hb;(try clear hb);(try clear hk);(try clear hi)) | ((with_reducible refine aC (f:=86) rfl ?_);refine bE (some 6) rfl rfl Tryz.func86 (by kernel_rfl) rfl #[.int .i64 (wrap64 (t158))] rfl cD ?_;(with_reducible refine (eH.calls (wrap64 (t158)) t159 _ A3.out).mono ?_);rintro e w5 ⟨v160,rfl,ho0,hb⟩;refine ⟨_,rfl,?_⟩;have HO161:=aS (Kd.bf ho0 (ay ar));replace HB:=aM hb;(try clear hb);(try clear hk);(try clear hi);(try clear ho0)))
 go_ret
 exact ⟨_,dN,by (with_reducible repeat (first | apply Kd.bS | apply Kd.bO | apply Kd.bP));exact HO161.out,ar⟩
def fw.f (k:Nat) (l0:List Int):Option (List Int):=if (l0.length:Int) > 65535 then (some ([]:List Int)) else ((eH.f (l0.length:Int)).bind fun t162=>((eC.f k t162).bind fun t165=>((eC.f k l0).bind fun t168=>((cw.f (([t162,t165,t168,l0]:List (List Int)))).bind fun t174=>(some t174)))))
theorem fw.mono:∀ a0 k,aE (fw.f k a0) (fw.f (k+1) a0):=by
 intro a0 k
 unfold fw.f
 have m0:=@eC.mono;exact e8
theorem fw.calls (k:Nat) (P0_:Nat→Prop) (A0:Option Addr) (c0:Nat) (l0:List Int) (r:List Int) (w:World) (hs0:Kd.V (Kd.int .u8) 5 w w.heap.size (fun k_=>P0_ k_) (.slice A0 l0.length c0) l0) (h:fw.f k l0=some r) :
  Calls Tryz.prog 100 #[.slice A0 l0.length c0] w fun e w'=>∃ v0_:Value,e = .returned (v0_)∧Kd.R (Kd.int .u8) 5 w' w.heap.size (fun k_=>(w.heap.size≤k_)) v0_ r∧Below w.heap.size w w':=by
 have HO0:=aS (show Kd.V (Kd.int .u8) 5 w w.heap.size (fun k_=>(P0_ k_∨w.heap.size≤k_)) (.slice A0 l0.length c0) l0 from Kd.ez hs0 (fun k_ hk=>.inl hk));have HB:=aS (Below.refl w.heap.size w);have H:(if (l0.length:Int) > 65535 then (some ([]:List Int)) else ((eH.f (l0.length:Int)).bind fun t162=>((eC.f k t162).bind fun t165=>((eC.f k l0).bind fun t168=>((cw.f (([t162,t165,t168,l0]:List (List Int)))).bind fun t174=>(some t174))))))=some r:=h;clear h
 by_cases c2:(l0.length:Int) > 65535
 ·
  rw [if_pos c2] at H;have c2b0:decide (65535<(l0.length:Int))=true:=decide_eq_true c2;have c2b1:decide (65535<l0.length)=true:=decide_eq_true (by omega);clear c2
  obtain rfl:=Option.some.inj H
  go_enter Tryz.func100,Tryz.ntmps100
  go_wp2
  go_ret
  exact ⟨_,dN,by first | exact Kd.dX _ _ _ _ _ | exact Kd.gy _ _ _ _ _ | exact Kd.fN _ _ _ _ _ | exact Kd.gB _ _ _ _ _ | exact Kd.gA _ _ _ _ _,ar⟩
 ·
  rw [if_neg c2] at H;have c2b0:decide (65535<(l0.length:Int))=false:=decide_eq_false c2;have c2b1:decide (65535<l0.length)=false:=decide_eq_false (by omega);clear c2;replace H:=bV H;obtain ⟨t162,A30,H⟩:=H;have A3:=aS A30;clear A30;replace H:=bV H;obtain ⟨t165,A40,H⟩:=H;have A4:=aS A40;clear A40;replace H:=bV H;obtain ⟨t168,A50,H⟩:=H;have A5:=aS A50;clear A50
  obtain ⟨y171,hy171⟩:∃ y_:List (List Int),y_=(([t162,t165,t168,l0]:List (List Int))):=⟨_,rfl⟩
  (first | replace H:=j8 hy171 H | rw [←hy171] at H);have Ny171:=aS hy171;clear hy171;replace H:=bV H;obtain ⟨t174,A60,H⟩:=H;have A6:=aS A60;clear A60
  obtain rfl:=Option.some.inj H
  go_enter Tryz.func100,Tryz.ntmps100
  go_wp2_with (first | ((with_reducible refine aC (f:=86) rfl ?_);refine bE (some 9) rfl rfl Tryz.func86 (by kernel_rfl) rfl #[.int .i64 (l0.length:Int)] rfl cD ?_;(with_reducible refine (eH.calls (l0.length:Int) t162 _ A3.out).mono ?_);rintro e w7 ⟨v163,rfl,ho0,hb⟩;refine ⟨_,rfl,?_⟩;replace HO0:=aS (Kd.di (sel HO0.out) (dh ho0) hb);have HO164:=aS (Kd.bf (Kd.ko (M:=fun k_=>(w.heap.size≤k_)) ho0 (ay ar) (fun k_ h_=>h_)) (ay ar));replace HB:=aM hb;(try clear hb);(try clear hk);(try clear hi);(try clear ho0);obtain ⟨Ao8,co8,eo8⟩:=Kd.bq HO164.out;subst eo8) | ((with_reducible refine aC (f:=102) rfl ?_);refine bE (some 12) rfl rfl Tryz.func102 (by kernel_rfl) rfl #[.slice Ao8 t162.length co8] rfl cD ?_;(with_reducible refine (eC.calls k _ _ t162 t165 _ ?side1 ?side2 A4.out).mono ?_);(case side1=>exact eN ((Kd.bh HO164.out).2.2));(case side2=>exact (Kd.bh HO164.out).2.1);rintro e w9 ⟨v166,rfl,ho0,hb⟩;refine ⟨_,rfl,?_⟩;replace HO0:=aS (Kd.di (sel HO0.out) (dh ho0) hb);have HO167:=aS (Kd.bf (Kd.cI (Kd.ko (M:=fun k_=>(w.heap.size≤k_)) ho0 (ay ar) (fun k_ h_=>h_)) (Kd.cK (rel HO164.out))) (ay ar));replace HO164:=aS (Kd.bR (rel HO164.out) (dh ho0) hb);replace HB:=aM hb;(try clear hb);(try clear hk);(try clear hi);(try clear ho0)) | ((with_reducible refine aC (f:=102) rfl ?_);refine bE (some 14) rfl rfl Tryz.func102 (by kernel_rfl) rfl #[.slice A0 l0.length c0] rfl cD ?_;(with_reducible refine (eC.calls k _ _ l0 t168 _ ?side1 ?side2 A5.out).mono ?_);(case side1=>exact eN ((Kd.dI HO0.out).2.2));(case side2=>exact (Kd.dI HO0.out).2.1);rintro e w10 ⟨v169,rfl,ho0,hb⟩;refine ⟨_,rfl,?_⟩;replace HO0:=aS (Kd.di (sel HO0.out) (dh ho0) hb);have HO170:=aS (Kd.bf (Kd.cI (Kd.cI (Kd.ko (M:=fun k_=>(w.heap.size≤k_)) ho0 (ay ar) (fun k_ h_=>h_)) (Kd.cK (rel HO164.out))) (Kd.cK (rel HO167.out))) (ay ar));replace HO164:=aS (Kd.bR (rel HO164.out) (dh ho0) hb);replace HO167:=aS (Kd.bR (rel HO167.out) (dh ho0) hb);replace HB:=aM hb;(try clear hb);(try clear hk);(try clear hi);(try clear ho0);obtain ⟨Ao11,co11,eo11⟩:=Kd.bq HO167.out;subst eo11;obtain ⟨Ao12,co12,eo12⟩:=Kd.bq HO170.out;subst eo12) | ((with_reducible refine aX (N:=16) rfl ?_);refine Kd.Ah (Kd.slice 5 (Kd.int .u8)) _ 51 ?hg (N':=16) ?hd (xs:=([t162,t165,t168,l0]:List (List Int))) (inner:=[.slice Ao8 t162.length co8,.slice Ao11 t165.length co11,.slice Ao12 t168.length co12,.slice A0 l0.length c0]) (ok:=(fun k_=>(P0_ k_∨w.heap.size≤k_))) (okp:=(fun k_=>(P0_ k_∨w.heap.size≤k_))) ?hr ?hp (fun _ hk=>hk) ((show ∀ k_,w10.heap.size≤k_→(fun k_=>(P0_ k_∨w.heap.size≤k_)) k_ from fun k_ hk=>(.inr (Nat.le_trans (ay ar) hk))) _ (Nat.le_refl _)) (Below.refl _ _) (Nat.le_refl _) (by simp) ?_;(case hd=>rfl);(case hg=>rfl);(case hr=>first | (go_simp;done) | (go_simp;rfl));(case hp=>exact (bH.one (show Kd.FK (Kd.slice 5 (Kd.int .u8)) _ _ t162 [.slice Ao8 t162.length co8] from (Kd.eK (Kd.bh (Kd.aH (ok':=(fun k_=>(P0_ k_∨w.heap.size≤k_))) (HO164.out) (fun k_ hk=>(.inr (hk.1.1.1))))).2.1 (Kd.nR (Kd.aH (ok':=(fun k_=>(P0_ k_∨w.heap.size≤k_))) (HO164.out) (fun k_ hk=>(.inr (hk.1.1.1))))))) (bH.one (show Kd.FK (Kd.slice 5 (Kd.int .u8)) _ _ t165 [.slice Ao11 t165.length co11] from (Kd.eK (Kd.bh (Kd.aH (ok':=(fun k_=>(P0_ k_∨w.heap.size≤k_))) (HO167.out) (fun k_ hk=>(.inr (hk.1.1.1))))).2.1 (Kd.nR (Kd.aH (ok':=(fun k_=>(P0_ k_∨w.heap.size≤k_))) (HO167.out) (fun k_ hk=>(.inr (hk.1.1.1))))))) (bH.one (show Kd.FK (Kd.slice 5 (Kd.int .u8)) _ _ t168 [.slice Ao12 t168.length co12] from (Kd.eK (Kd.bh (Kd.aH (ok':=(fun k_=>(P0_ k_∨w.heap.size≤k_))) (HO170.out) (fun k_ hk=>(.inr (hk.1.1.1))))).2.1 (Kd.nR (Kd.aH (ok':=(fun k_=>(P0_ k_∨w.heap.size≤k_))) (HO170.out) (fun k_ hk=>(.inr (hk.1.1.1))))))) (bH.one (show Kd.FK (Kd.slice 5 (Kd.int .u8)) _ _ l0 [.slice A0 l0.length c0] from (Kd.eK (Kd.dI (Kd.ez (ok':=(fun k_=>(P0_ k_∨w.heap.size≤k_))) (HO0.out) (fun k_ hk=>hk.1.1.1))).2.1 (Kd.V_F (Kd.ez (ok':=(fun k_=>(P0_ k_∨w.heap.size≤k_))) (HO0.out) (fun k_ hk=>hk.1.1.1))))) (bH.none _ _))))));intro v172 w13 ho14 hb hg_ hnew_;clear hg_ hnew_;(first | rw [←Ny171.out] at ho14 | (simp only [Int.reduceToNat] at ho14;rw [←Ny171.out] at ho14));have n0_:=aS (Kd.di (sel HO0.out) (by first | exact Kd.ql ho14 | exact Kd.kL ho14 | exact Kd.fF ho14 | exact Kd.V_base ho14) hb);have n1_:=aS (Kd.pX ho14 (ay ar));have n2_:=aM hb;clear HO0;clear HB;clear HO164;clear HO167;clear HO170;have HO0:=n0_;have HO173:=n1_;have HB:=n2_;clear n0_ n1_ n2_;clear hb ho14;obtain ⟨Ao15,co15,eo15⟩:=Kd.qa HO173.out;subst eo15) | ((with_reducible refine aC (f:=84) rfl ?_);refine bE (some 17) rfl rfl Tryz.func84 (by kernel_rfl) rfl #[.slice Ao15 y171.length co15] rfl cD ?_;(with_reducible refine (cw.calls _ _ y171 t174 _ ?side1 ?side2 A6.out).mono ?_);(case side1=>exact eN ((Kd.jZ HO173.out).2.2));(case side2=>exact (Kd.jZ HO173.out).2.1);rintro e w16 ⟨v175,rfl,ho0,hb⟩;refine ⟨_,rfl,?_⟩;replace HO0:=aS (Kd.di (sel HO0.out) (dh ho0) hb);replace HO173:=aS (Kd.oR (by (with_reducible repeat (first | apply Kd.oH | apply Kd.oP | apply Kd.pZ));exact HO173.out) (dh ho0) hb);have HO176:=aS (Kd.bf (Kd.ko (M:=fun k_=>(w.heap.size≤k_)) ho0 (ay ar) (fun k_ h_=>h_)) (ay ar));replace HB:=aM hb;(try clear hb);(try clear hk);(try clear hi);(try clear ho0)))
  go_ret
  exact ⟨_,dN,by (with_reducible repeat (first | apply Kd.bS | apply Kd.bO | apply Kd.bP));exact Kd.aH HO176.out (fun _ hk=>hk.1),ar⟩
mutual
def cJ.j0:Nat→List (av)→Bool→Option (List Int × Int)
 | 0,_,_=>none
 | k+1,x0,x15=>if x15=true then (some (([]:List Int),1)) else ((eH.f (x0.length:Int)).bind fun t178=>(cJ.l0 k t178 x0 (x0.length:Int) 0))
def cJ.l0:Nat→List Int→List (av)→Int→Int→Option (List Int × Int)
 | 0,_,_,_,_=>none
 | k+1,x4,x19,x20,x21=>if x21<x20 then (if 0≤x21 then (if x21<(x19.length:Int) then ((dn.f ((af x19 x21).f0) ((af x19 x21).f1) ((af x19 x21).f2) ((af x19 x21).f3) ((af x19 x21).f4)).bind fun t183=>(if x4.length+t183.length<140737488355328 then (cJ.l0 k (x4++t183) x19 x20 (wrap64 (x21+1))) else (none))) else (none)) else (none)) else ((fw.f k x4).bind fun t189=>(if (t189.length:Int)=0 then (some (([]:List Int),1)) else (some (t189,0))))
end
def cJ.f (k:Nat) (l0:List (av)):Option (List Int × Int):=(aT.f k l0).bind fun t177=>(if t177=true then (cJ.j0 k l0 ((l0.length:Int) == 0)) else (cJ.j0 k l0 true))
theorem cJ.cP:∀ k,(∀ y0 y1,aE (cJ.j0 k y0 y1) (cJ.j0 (k+1) y0 y1))∧(∀ y0 y1 y2 y3,aE (cJ.l0 k y0 y1 y2 y3) (cJ.l0 (k+1) y0 y1 y2 y3))
 | 0=>⟨fun _ _ r h=>by simp [cJ.j0] at h,fun _ _ _ _ r h=>by simp [cJ.l0] at h⟩
 | k+1=>by
  obtain ⟨ih0,ih1⟩:=cJ.cP k;refine ⟨?_,?_⟩
  ·
   intro y0 y1
   unfold cJ.j0
   have m0:=@aT.mono;have m1:=@fw.mono;exact e8
  ·
   intro y0 y1 y2 y3
   unfold cJ.l0
   have m0:=@aT.mono;have m1:=@fw.mono;exact e8
theorem cJ.mono:∀ a0 k,aE (cJ.f k a0) (cJ.f (k+1) a0):=by
 intro a0 k
 obtain ⟨ih0,ih1⟩:=cJ.cP k
 unfold cJ.f
 have m0:=@aT.mono;have m1:=@fw.mono;exact e8
theorem cJ.calls (k:Nat) (A0:Option Addr) (c0:Nat) (l0:List (av)) (r1:List Int) (r2:Int) (w:World) (hr0:Kd.C cC w A0 l0.length l0) (hc0:l0.length≤c0) (h:cJ.f k l0=some (r1,r2)) :
  Calls Tryz.prog 98 #[.slice A0 l0.length c0] w fun e w'=>∃ v0_:Value,e = .returned (.tuple #[v0_,.int .i64 r2])∧Kd.R (Kd.int .u8) 5 w' w.heap.size (fun _=>True) v0_ r1∧Below w.heap.size w w':=by
 have hu34:=Tryz.underlying34;have HR0:=aS hr0;have HC0:=aS hc0;clear hr0 hc0;have HB:=aS (Below.refl w.heap.size w);have H:((aT.f k l0).bind fun t177=>(if t177=true then (cJ.j0 k l0 ((l0.length:Int) == 0)) else (cJ.j0 k l0 true)))=some (r1,r2):=h;clear h;have HC2:=aS H;clear H
 go_enter Tryz.func98,Tryz.ntmps98
 go_upto_region 1 with (fail)
 go_cut [15] (fun v15 wc=>∃ (kq:Nat) (x15_1:Bool),v15 = .bool x15_1∧ak (cJ.j0 kq l0 x15_1=some (r1,r2))∧ak (kq≤k)∧ak (Below w.heap.size w wc))
 case first=>
  have H:=HC2.out;clear HC2;replace H:=bV H;obtain ⟨t177,A30,H⟩:=H;have A3:=aS A30;clear A30
  by_cases c4:t177=true
  ·
   subst c4
   replace H:=jQ H
   have H':=aS H
   clear H
   go_wp2_with (first | ((with_reducible refine aC (f:=73) rfl ?_);refine bE (some 9) rfl rfl Tryz.func73 (by kernel_rfl) rfl #[.slice A0 l0.length c0] rfl cD ?_;(with_reducible refine (aT.calls k _ _ l0 true _ ?side1 ?side2 A3.out).mono ?_);(case side1=>exact eN (Kd.cW HR0.out HB.out));(case side2=>exact HC0.out);rintro e w5 ⟨rfl,hb⟩;refine ⟨_,rfl,?_⟩;replace HB:=aM hb;(try clear hb);(try clear hk);(try clear hi)))
   go_meet
   case rel=>exact ⟨_,(((l0.length:Int) == 0)),dU,H',⟨by first | omega | exact Nat.le_refl _⟩,⟨ar⟩⟩
  ·
   replace c4:=Bool.eq_false_iff.mpr c4;subst c4
   replace H:=jO H
   have H':=aS H
   clear H
   go_wp2_with (first | ((with_reducible refine aC (f:=73) rfl ?_);refine bE (some 9) rfl rfl Tryz.func73 (by kernel_rfl) rfl #[.slice A0 l0.length c0] rfl cD ?_;(with_reducible refine (aT.calls k _ _ l0 false _ ?side1 ?side2 A3.out).mono ?_);(case side1=>exact eN (Kd.cW HR0.out HB.out));(case side2=>exact HC0.out);rintro e w6 ⟨rfl,hb⟩;refine ⟨_,rfl,?_⟩;replace HB:=aM hb;(try clear hb);(try clear hk);(try clear hi)))
   go_meet
   case rel=>exact ⟨_,(true),dU,H',⟨by first | omega | exact Nat.le_refl _⟩,⟨ar⟩⟩
 case rest=>
  clear HC2;obtain ⟨kq,x15_1,rfl,HA,HJ1,HB⟩:=hcut
  cases kq with
  | zero=>exact absurd HA.out (by simp [cJ.j0])
  | succ kj1=>
   have H:=HA.out;clear HA
   simp only [cJ.j0] at H
   by_cases c7:x15_1=true
   ·
    subst c7
    replace H:=jQ H
    simp only [Option.some.injEq,Prod.mk.injEq] at H
    obtain ⟨rfl,rfl⟩:=H
    go_wp2
    go_ret2
    exact ⟨_,dN,by first | exact Kd.dX _ _ _ _ _ | exact Kd.gy _ _ _ _ _ | exact Kd.fN _ _ _ _ _ | exact Kd.gB _ _ _ _ _ | exact Kd.gA _ _ _ _ _,ar⟩
   ·
    replace c7:=Bool.eq_false_iff.mpr c7;subst c7
    replace H:=jO H;replace H:=bV H;obtain ⟨t178,A80,H⟩:=H;have A8:=aS A80;clear A80
    have H':=aS H
    clear H
    go_wp2_with (first | ((with_reducible refine aC (f:=86) rfl ?_);refine bE (some 18) rfl rfl Tryz.func86 (by kernel_rfl) rfl #[.int .i64 (l0.length:Int)] rfl cD ?_;(with_reducible refine (eH.calls (l0.length:Int) t178 _ A8.out).mono ?_);rintro e w9 ⟨v179,rfl,ho0,hb⟩;refine ⟨_,rfl,?_⟩;have HO180:=aS (Kd.bf ho0 (ay ar));replace HB:=aM hb;(try clear hb);(try clear hk);(try clear hi);(try clear ho0)))
    go_loopg [4,21] kj1 (fun kq v4 v21 w'=>∃ (x4_2:List Int) (x21_2:Int),v21 = .int .i64 x21_2∧ak (cJ.l0 kq x4_2 l0 (l0.length:Int) x21_2=some (r1,r2))∧ak (kq≤kj1)∧ak (Kd.R (Kd.int .u8) 5 w' w.heap.size (fun _=>True) v4 x4_2)∧ak (Below w.heap.size w w'))
    case atStart=>exact ⟨(t178),(0),dU,H',⟨Nat.le_refl _⟩,⟨by (with_reducible repeat (first | apply Kd.bS | apply Kd.bO | apply Kd.bP));exact HO180.out⟩,⟨ar⟩⟩
    case round=>
     clear H';(try clear c7);obtain ⟨x4_2,x21_2,rfl,HA,HK2,HO_4,HB⟩:=hrel
     cases gk with
     | zero=>exact absurd HA.out (by simp [cJ.l0])
     | succ k2=>
      have H:=HA.out;clear HA
      simp only [cJ.l0] at H
      by_cases eU:x21_2<(l0.length:Int)
      ·
       rw [if_pos eU] at H;have c10b0:decide (x21_2<(l0.length:Int))=true:=decide_eq_true eU;clear eU
       by_cases c11:0≤x21_2
       ·
        rw [if_pos c11] at H;have c11b0:decide (0≤x21_2)=true:=decide_eq_true c11;clear c11
        by_cases c12:x21_2<(l0.length:Int)
        ·
         rw [if_pos c12] at H;have c12b0:decide (x21_2<(l0.length:Int))=true:=decide_eq_true c12;clear c12;replace H:=bV H;obtain ⟨t183,A130,H⟩:=H;have A13:=aS A130;clear A130
         by_cases c14:x4_2.length+t183.length<140737488355328
         ·
          rw [if_pos c14] at H;have LMc14:=aS c14;clear c14
          obtain ⟨y186,hy186⟩:∃ y_:List Int,y_=(x4_2++t183):=⟨_,rfl⟩
          (first | replace H:=j8 hy186 H | rw [←hy186] at H);have Ny186:=aS hy186;clear hy186
          have H':=aS H
          clear H;have p181:0≤(x21_2:Int):=cG;have q181:x21_2<(l0.length:Int):=cG;obtain ⟨ad181,e181,hx181_0,hx181_1,hx181_2,hx181_3,hx181_4⟩:=eT HR0.out x21_2 p181 q181;cases e181;replace hx181_0:=bx ar hx181_0;replace hx181_1:=bx ar hx181_1;replace hx181_2:=bx ar hx181_2;replace hx181_3:=bx ar hx181_3;replace hx181_4:=bx ar hx181_4;replace p181:=eq_true p181;replace q181:=eq_true q181
          go_wp2_with (first | ((with_reducible refine aX (N:=6) rfl ?_);(try (refine eF (by rfl) ?_;dsimp only));refine aY ?hg (N:=6) ?hd (cs:=#[.string (⟨#[]⟩:ByteArray),.string (⟨#[]⟩:ByteArray),.int .i64 0,.string (⟨#[]⟩:ByteArray),.bool false]) (t:=34) ?hr ?_;(case hd=>rfl);(case hg=>rfl);(case hr=>first | (go_simp;done) | (go_simp;rfl));intro gb182 hg w15 hbox hb;replace HO_4:=aS (Kd.dA (rel HO_4.out) hb);have BK182:=aS (hbox);have GW182:=bsize hg;have GE182:=bsize hg;replace HB:=aM hb;clear hb hbox hg;have hcz16:=cR BK182) | ((with_reducible refine aC (f:=65) rfl ?_);refine bE (some 27) rfl rfl Tryz.func65 (by kernel_rfl) rfl #[.agg #[.string ((af l0 x21_2).f0),.string ((af l0 x21_2).f1),.int .i64 ((af l0 x21_2).f2),.string ((af l0 x21_2).f3),.bool ((af l0 x21_2).f4)]] rfl cD ?_;(with_reducible refine (dn.calls ((af l0 x21_2).f0) ((af l0 x21_2).f1) ((af l0 x21_2).f2) ((af l0 x21_2).f3) ((af l0 x21_2).f4) t183 _ A13.out).mono ?_);rintro e w17 ⟨v184,rfl,ho0,hb⟩;refine ⟨_,rfl,?_⟩;have HO185:=aS (Kd.bf (Kd.cI ho0 (Kd.cK (by (with_reducible repeat (first | apply Kd.bS | apply Kd.bO | apply Kd.bP));exact (Kd.aH (Kd.fj (p:=⟨gb182,4,none⟩) (Kd.fj (p:=⟨gb182,3,none⟩) (Kd.fj (p:=⟨gb182,2,none⟩) (Kd.fj (p:=⟨gb182,1,none⟩) (Kd.fj (p:=⟨gb182,0,none⟩) (Kd.gK HO_4.out BK182.out (by decide)) (fun _ hk=>hk.2) (.string ((af l0 x21_2).f0))) (fun _ hk=>hk.2) (.string ((af l0 x21_2).f1))) (fun _ hk=>hk.2) (.int .i64 ((af l0 x21_2).f2))) (fun _ hk=>hk.2) (.string ((af l0 x21_2).f3))) (fun _ hk=>hk.2) (.bool ((af l0 x21_2).f4))) (fun _ h_=>h_.1))))) (ay ar));replace HO_4:=aS (Kd.bR (by (with_reducible repeat (first | apply Kd.bS | apply Kd.bO | apply Kd.bP));exact (Kd.aH (Kd.fj (p:=⟨gb182,4,none⟩) (Kd.fj (p:=⟨gb182,3,none⟩) (Kd.fj (p:=⟨gb182,2,none⟩) (Kd.fj (p:=⟨gb182,1,none⟩) (Kd.fj (p:=⟨gb182,0,none⟩) (Kd.gK HO_4.out BK182.out (by decide)) (fun _ hk=>hk.2) (.string ((af l0 x21_2).f0))) (fun _ hk=>hk.2) (.string ((af l0 x21_2).f1))) (fun _ hk=>hk.2) (.int .i64 ((af l0 x21_2).f2))) (fun _ hk=>hk.2) (.string ((af l0 x21_2).f3))) (fun _ hk=>hk.2) (.bool ((af l0 x21_2).f4))) (fun _ h_=>h_.1))) (dh ho0) hb);replace BK182:=aS (aK (g:=gb182) (o:=.cells #[.string ((af l0 x21_2).f0),.string ((af l0 x21_2).f1),.int .i64 ((af l0 x21_2).f2),.string ((af l0 x21_2).f3),.bool ((af l0 x21_2).f4)] 34 (0,0)) (by (with_reducible repeat (first | refine aA ?_ _ | refine au ?_ | refine ax ?_ _));refine bn (cs:=#[.string ((af l0 x21_2).f0),.string ((af l0 x21_2).f1),.int .i64 ((af l0 x21_2).f2),.string ((af l0 x21_2).f3),.bool false]) ?_ 4 _ rfl;(with_reducible repeat (first | refine aA ?_ _ | refine au ?_ | refine ax ?_ _));refine bn (cs:=#[.string ((af l0 x21_2).f0),.string ((af l0 x21_2).f1),.int .i64 ((af l0 x21_2).f2),.string (⟨#[]⟩:ByteArray),.bool false]) ?_ 3 _ rfl;(with_reducible repeat (first | refine aA ?_ _ | refine au ?_ | refine ax ?_ _));refine bn (cs:=#[.string ((af l0 x21_2).f0),.string ((af l0 x21_2).f1),.int .i64 0,.string (⟨#[]⟩:ByteArray),.bool false]) ?_ 2 _ rfl;(with_reducible repeat (first | refine aA ?_ _ | refine au ?_ | refine ax ?_ _));refine bn (cs:=#[.string ((af l0 x21_2).f0),.string (⟨#[]⟩:ByteArray),.int .i64 0,.string (⟨#[]⟩:ByteArray),.bool false]) ?_ 1 _ rfl;(with_reducible repeat (first | refine aA ?_ _ | refine au ?_ | refine ax ?_ _));refine bn (cs:=#[.string (⟨#[]⟩:ByteArray),.string (⟨#[]⟩:ByteArray),.int .i64 0,.string (⟨#[]⟩:ByteArray),.bool false]) ?_ 0 _ rfl;(with_reducible repeat (first | refine aA ?_ _ | refine au ?_ | refine ax ?_ _));exact BK182.out) hb);replace HB:=aM hb;(try clear hb);(try clear hk);(try clear hi);(try clear ho0);obtain ⟨Ao19,co19,eo19⟩:=Kd.bq HO185.out;subst eo19) | ((with_reducible refine eZ (b:=.append) (xs:=#[.tmp 25,.tmp 27]) rfl ?_);(try (refine eF (by rfl) ?_;dsimp only));at_builtin;refine Kd.fW (Kd.int .u8) (w0:=w) w.heap.size rfl (.tmp 25) (.tmp 27) 51 5 (.int .u8 0) 1 rfl Tryz.underlying51 fE rfl (by decide) (by omega) u4 x4_2 t183 _ _ _ (fun k_=>some k_≠(.slice Ao19 t183.length co19:Value).ownBlock) (fun _=>False) rfl rfl ?aO ?aR (fun _ _ h=>h) (fun _ h=>h.elim) ?aF ?aB ?aS ?aL ?_;(case aR=>exact eN ((Kd.bh HO185.out).2.2));(case aB=>exact ar);(case aF=>exact (fun k_ hk=>Kd.gP (Kd.cK (rel HO185.out)) k_ hk));(case aO=>exact (rel (Kd.aH HO_4.out (fun _ hk=>hk.2))));(case aS=>exact (ay ar));(case aL=>have:=LMc14.out;omega);intro v187 w18 ho hb hg hat;rw [←Ny186.out] at ho;have n0_:=aS (er (g:=gb182) (o:=.cells #[.string ((af l0 x21_2).f0),.string ((af l0 x21_2).f1),.int .i64 ((af l0 x21_2).f2),.string ((af l0 x21_2).f3),.bool ((af l0 x21_2).f4)] 34 (0,0)) (eB BK182.out) hg (Kd.jH HO_4.out BK182.out (by decide)));have n1_:=aS (Kd.iV (ok:=(fun _=>True)) (rel HO185.out) hg hat);have n2_:=aS (hb);have n3_:=aS (ho);clear BK182;clear HO185;clear HB;clear HO_4;have BK182:=n0_;have HO185:=n1_;have HB:=n2_;have HO188:=n3_;clear n0_ n1_ n2_ n3_;clear ho hb hg hat))
          go_roundg k2
          case measure=>have:=HJ1.out;have:=HK2.out;omega
          case rel=>exact ⟨(y186),(wrap64 (x21_2+1)),dU,H',⟨by have:=HJ1.out;have:=HK2.out;omega⟩,⟨by (with_reducible repeat (first | apply Kd.bS | apply Kd.bO | apply Kd.bP));exact Kd.aH HO188.out (fun _ hk=>trivial)⟩,⟨ar⟩⟩
         ·
          rw [if_neg c14] at H;exact absurd H (by simp)
        ·
         rw [if_neg c12] at H;exact absurd H (by simp)
       ·
        rw [if_neg c11] at H;exact absurd H (by simp)
      ·
       rw [if_neg eU] at H;have c10b0:decide (x21_2<(l0.length:Int))=false:=decide_eq_false eU;clear eU;replace H:=bV H;obtain ⟨t189,A200,H⟩:=H;have A20:=aS A200;clear A200
       by_cases c21:(t189.length:Int)=0
       ·
        rw [if_pos c21] at H;obtain ⟨c21b0,c21b1⟩:=jE c21;clear c21
        simp only [Option.some.injEq,Prod.mk.injEq] at H
        obtain ⟨rfl,rfl⟩:=H;obtain ⟨Ao22,co22,eo22⟩:=Kd.bq HO_4.out;subst eo22
        go_wp2_with (first | ((with_reducible refine aC (f:=100) rfl ?_);refine bE (some 31) rfl rfl Tryz.func100 (by kernel_rfl) rfl #[.slice Ao22 x4_2.length co22] rfl cD ?_;(with_reducible refine (fw.calls k2 (fun k_=>some k_=(.slice Ao22 x4_2.length co22:Value).ownBlock) _ _ x4_2 t189 _ ?side1 A20.out).mono ?_);(case side1=>exact Kd.vT (Kd.jJ rfl (HO_4.out)));rintro e w23 ⟨v190,rfl,ho0,hb⟩;refine ⟨_,rfl,?_⟩;have HO191:=aS (Kd.bf (Kd.cI (Kd.aH (ok':=fun k_=>True) ho0 (fun _ hk_=>trivial)) (Kd.cK (rel HO_4.out))) (ay ar));replace HO_4:=aS (Kd.bR (rel HO_4.out) (dh ho0) hb);replace HB:=aM hb;(try clear hb);(try clear hk);(try clear hi);(try clear ho0);obtain ⟨Ao24,co24,eo24⟩:=Kd.bq HO191.out;subst eo24))
        go_ret2
        exact ⟨_,dN,by first | exact Kd.dX _ _ _ _ _ | exact Kd.gy _ _ _ _ _ | exact Kd.fN _ _ _ _ _ | exact Kd.gB _ _ _ _ _ | exact Kd.gA _ _ _ _ _,ar⟩
       ·
        rw [if_neg c21] at H;obtain ⟨c21b0,c21b1⟩:=ju c21
        have c21b2:¬ (t189=[]):=fun h_=>c21 (by rw [h_];rfl)
        simp only [Option.some.injEq,Prod.mk.injEq] at H
        obtain ⟨rfl,rfl⟩:=H;obtain ⟨Ao25,co25,eo25⟩:=Kd.bq HO_4.out;subst eo25
        go_wp2_with (first | ((with_reducible refine aC (f:=100) rfl ?_);refine bE (some 31) rfl rfl Tryz.func100 (by kernel_rfl) rfl #[.slice Ao25 x4_2.length co25] rfl cD ?_;(with_reducible refine (fw.calls k2 (fun k_=>some k_=(.slice Ao25 x4_2.length co25:Value).ownBlock) _ _ x4_2 t189 _ ?side1 A20.out).mono ?_);(case side1=>exact Kd.vT (Kd.jJ rfl (HO_4.out)));rintro e w26 ⟨v190,rfl,ho0,hb⟩;refine ⟨_,rfl,?_⟩;have HO191:=aS (Kd.bf (Kd.cI (Kd.aH (ok':=fun k_=>True) ho0 (fun _ hk_=>trivial)) (Kd.cK (rel HO_4.out))) (ay ar));replace HO_4:=aS (Kd.bR (rel HO_4.out) (dh ho0) hb);replace HB:=aM hb;(try clear hb);(try clear hk);(try clear hi);(try clear ho0);obtain ⟨Ao27,co27,eo27⟩:=Kd.bq HO191.out;subst eo27))
        go_ret2
        exact ⟨_,dN,by (with_reducible repeat (first | apply Kd.bS | apply Kd.bO | apply Kd.bP));exact Kd.aH HO191.out (fun _ hk=>trivial),ar⟩
def nS.f (a0_0:ByteArray) (a0_1:ByteArray) (a0_2:Int) (a0_3:ByteArray) (a0_4:Bool):Option (ByteArray × ByteArray × Int × ByteArray × Bool):=some (a0_0,a0_1,a0_2,(⟨#[]⟩:ByteArray),false)
theorem nS.calls (a0_0:ByteArray) (a0_1:ByteArray) (a0_2:Int) (a0_3:ByteArray) (a0_4:Bool) (r1:ByteArray) (r2:ByteArray) (r3:Int) (r4:ByteArray) (r5:Bool) (w:World) (h:nS.f a0_0 a0_1 a0_2 a0_3 a0_4=some (r1,r2,r3,r4,r5)) :
  Calls Tryz.prog 99 #[.agg #[.string a0_0,.string a0_1,.int .i64 a0_2,.string a0_3,.bool a0_4]] w fun e w'=>e = .returned (.agg #[.string r1,.string r2,.int .i64 r3,.string r4,.bool r5])∧Below w.heap.size w w':=by
 have hu34:=Tryz.underlying34;have HB:=aS (Below.refl w.heap.size w);have H:(some (a0_0,a0_1,a0_2,(⟨#[]⟩:ByteArray),false))=some (r1,r2,r3,r4,r5):=h;clear h
 simp only [Option.some.injEq,Prod.mk.injEq] at H
 obtain ⟨rfl,rfl,rfl,rfl,rfl⟩:=H
 go_enter Tryz.func99,Tryz.ntmps99
 go_wp2_with (first | ((with_reducible refine aX (N:=1) rfl ?_);refine aY ?hg (N:=1) ?hd (cs:=#[.string a0_0,.string a0_1,.int .i64 a0_2,.string a0_3,.bool a0_4]) (t:=34) ?hr ?_;(case hd=>rfl);(case hg=>rfl);(case hr=>first | (go_simp;done) | (go_simp;rfl));intro gb192 hg w2 hbox hb;have BK192:=aS (hbox);have GW192:=bsize hg;have GE192:=bsize hg;replace HB:=aM hb;clear hb hbox hg) | ((with_reducible refine aX (N:=2) rfl ?_);refine aY ?hg (N:=2) ?hd (cs:=#[.string (⟨#[]⟩:ByteArray),.string (⟨#[]⟩:ByteArray),.int .i64 0,.string (⟨#[]⟩:ByteArray),.bool false]) (t:=34) ?hr ?_;(case hd=>rfl);(case hg=>rfl);(case hr=>first | (go_simp;done) | (go_simp;rfl));intro gb193 hg w3 hbox hb;have BK193:=aS (hbox);have GW193:=bsize hg;have GE193:=bsize hg;replace HB:=aM hb;have NB192_193:=aS ((by rw [hg];exact Nat.ne_of_lt (dg (g:=gb192) (o:=.cells #[.string a0_0,.string a0_1,.int .i64 a0_2,.string a0_3,.bool a0_4] 34 (0,0)) (eB BK192.out)):gb192≠gb193));have NB193_192:=aS ((by rw [hg];exact Nat.ne_of_gt (dg (g:=gb192) (o:=.cells #[.string a0_0,.string a0_1,.int .i64 a0_2,.string a0_3,.bool a0_4] 34 (0,0)) (eB BK192.out)):gb193≠gb192));replace BK192:=fA BK192 hb;clear hb hbox hg;have hnb4:=NB192_193.out;have hnc4:=NB193_192.out;have hcz5:=cR BK192;have hcz6:=cR BK193))
 refine bodyPost_ret (results_cell_row rfl _ _ gb193 34 #[.string a0_0,.string a0_1,.int .i64 a0_2,.string (⟨#[]⟩:ByteArray),.bool false] (0,0) _ rfl (by (with_reducible repeat (first | refine aA ?_ _ | refine au ?_ | refine ax ?_ _));refine bn (cs:=#[.string a0_0,.string a0_1,.int .i64 a0_2,.string (⟨#[]⟩:ByteArray),.bool false]) ?_ 4 _ rfl;(with_reducible repeat (first | refine aA ?_ _ | refine au ?_ | refine ax ?_ _));refine bn (cs:=#[.string a0_0,.string a0_1,.int .i64 a0_2,.string (⟨#[]⟩:ByteArray),.bool false]) ?_ 3 _ rfl;(with_reducible repeat (first | refine aA ?_ _ | refine au ?_ | refine ax ?_ _));refine bn (cs:=#[.string a0_0,.string a0_1,.int .i64 0,.string (⟨#[]⟩:ByteArray),.bool false]) ?_ 2 _ rfl;(with_reducible repeat (first | refine aA ?_ _ | refine au ?_ | refine ax ?_ _));refine bn (cs:=#[.string a0_0,.string (⟨#[]⟩:ByteArray),.int .i64 0,.string (⟨#[]⟩:ByteArray),.bool false]) ?_ 1 _ rfl;(with_reducible repeat (first | refine aA ?_ _ | refine au ?_ | refine ax ?_ _));refine bn (cs:=#[.string (⟨#[]⟩:ByteArray),.string (⟨#[]⟩:ByteArray),.int .i64 0,.string (⟨#[]⟩:ByteArray),.bool false]) ?_ 0 _ rfl;(with_reducible repeat (first | refine aA ?_ _ | refine au ?_ | refine ax ?_ _));exact BK193.out) Tryz.underlying34 rfl (by kernel_rfl)) rfl ?_;exact ⟨dN,ar⟩
end Go.Proofs.YtcbhfedcdnjljaaGreat.X

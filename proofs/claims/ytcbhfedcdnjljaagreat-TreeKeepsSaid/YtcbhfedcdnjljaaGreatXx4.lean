import Derived.Test.YtcbhfedcdnjljaaGreatXx3
set_option maxHeartbeats 8000000
set_option maxRecDepth 100000
set_option linter.unusedVariables false
set_option linter.unusedSimpArgs false
namespace Go.Proofs.YtcbhfedcdnjljaaGreat.X
open Go.RowKit Go.Proofs.YtcbhfedcdnjljaaGreatW.PrintWords Go.Proofs.YtcbhfedcdnjljaaGreatW.PrintLast Go.Proofs.YtcbhfedcdnjljaaGreatW.PrintMore
attribute [local go_sem] gn gu iu ic fJ fN gA gC ig
mutual
def aQ.l0:Nat→List (au)→List (au)→Int→Int→Option (Bool)
 | 0,_,_,_,_=>none
 | k+1,x0,x5,x6,x7=>if x7<x6 then (if 0≤x7 then (if x7<(x5.length:Int) then ((eR.f ((af x5 x7).f0) ((af x5 x7).f1) ((af x5 x7).f2) ((af x5 x7).f3) ((af x5 x7).f4)).bind fun t152=>(if t152=true then (if x7 > 0 then (if 0≤(wrap64 (x7 - 1)) then (if (wrap64 (x7 - 1))<(x0.length:Int) then ((bT.f k ((af x0 (wrap64 (x7 - 1))).f0) ((af x0 (wrap64 (x7 - 1))).f1) ((af x0 (wrap64 (x7 - 1))).f2) ((af x0 (wrap64 (x7 - 1))).f3) ((af x0 (wrap64 (x7 - 1))).f4) ((af x5 x7).f0) ((af x5 x7).f1) ((af x5 x7).f2) ((af x5 x7).f3) ((af x5 x7).f4)).bind fun t154=>(aQ.j1 k x0 x5 x6 x7 (decide (t154≥0)))) else (none)) else (none)) else (aQ.j1 k x0 x5 x6 x7 false)) else (aQ.j1 k x0 x5 x6 x7 true))) else (none)) else (none)) else (some true)
def aQ.j1:Nat→List (au)→List (au)→Int→Int→Bool→Option (Bool)
 | 0,_,_,_,_,_=>none
 | k+1,x0,x5,x6,x7,x28=>if x28=true then (some false) else (aQ.l0 k x0 x5 x6 (wrap64 (x7+1)))
end
def aQ.f (k:Nat) (l0:List (au)):Option (Bool):=aQ.l0 k l0 l0 (l0.length:Int) 0
theorem aQ.cK:∀ k,(∀ y0 y1 y2 y3,aG (aQ.l0 k y0 y1 y2 y3) (aQ.l0 (k+1) y0 y1 y2 y3))∧(∀ y0 y1 y2 y3 y4,aG (aQ.j1 k y0 y1 y2 y3 y4) (aQ.j1 (k+1) y0 y1 y2 y3 y4))
 | 0=>⟨fun _ _ _ _ r h=>by simp [aQ.l0] at h,fun _ _ _ _ _ r h=>by simp [aQ.j1] at h⟩
 | k+1=>by
  obtain ⟨ih0,ih1⟩:=aQ.cK k;refine ⟨?_,?_⟩
  ·
   intro y0 y1 y2 y3
   unfold aQ.l0
   have m0:=@bT.mono;exact eN
  ·
   intro y0 y1 y2 y3 y4
   unfold aQ.j1
   have m0:=@bT.mono;exact eN
theorem aQ.mono:∀ a0 k,aG (aQ.f k a0) (aQ.f (k+1) a0):=by
 intro a0 k
 obtain ⟨ih0,ih1⟩:=aQ.cK k
 unfold aQ.f
 have m0:=@bT.mono;exact eN
def aQ.T4:Bool × List (List Nat × List Nat):=(true,[([],[]),([0],[0]),([1],[1]),([2,1],[2]),([3],[3]),([4,3],[3,4]),([5,3,3],[3,5]),([6],[6]),([6],[6]),([8,6],[6,8]),([7,9,6],[6,7,9]),([10,6],[6,10]),([6],[6]),([11,12,6,6],[6,11,12]),([13,6],[6,13]),([6,14,3],[3,6,14]),([3,15],[3,15])])
def aQ.B4:List Nat:=[0,1,3,7,15,31,63,127,127,383,1023,2047,127,8191,16383,32767,65535]
theorem aQ.CW:e8 .any (opsOf Tryz.f73 4)=aQ.T4:=by kernel_rfl
theorem aQ.zP:fE aQ.T4.2 aQ.B4=true:=by kernel_rfl
theorem aQ.calls (k:Nat) (A0:Option Addr) (c0:Nat) (l0:List (au)) (r:Bool) (w:World) (hr0:Kd.C bP w A0 l0.length l0) (hc0:l0.length≤c0) (h:aQ.f k l0=some r) :
  Calls Tryz.prog 73 #[.slice A0 l0.length c0] w fun e w'=>e = .returned (.bool r)∧Below w.heap.size w w':=by
 have hu34:=Tryz.underlying34;have HR0:=aS hr0;have HC0:=aS hc0;clear hr0 hc0;have HB:=aS (Below.refl w.heap.size w);have H:(aQ.l0 k l0 l0 (l0.length:Int) 0)=some r:=h;clear h
 have H':=aS H
 clear H
 go_enter Tryz.func73,Tryz.ntmps73
 go_wp2
 go_loopg [7] k (fun kq v7 w'=>∃ (x7_1:Int),v7 = .int .i64 x7_1∧ah (aQ.l0 kq l0 l0 (l0.length:Int) x7_1=some r)∧ah (kq≤k)∧ah (Below w.heap.size w w'))
 case atStart=>exact ⟨(0),dJ,H',⟨Nat.le_refl _⟩,⟨aq⟩⟩
 case round=>
  clear H';obtain ⟨x7_1,rfl,HA,HK1,HB⟩:=hrel
  cases gk with
  | zero=>exact absurd HA.out (by simp [aQ.l0])
  | succ k1=>
   have H:=HA.out;clear HA
   simp only [aQ.l0] at H
   by_cases c2:x7_1<(l0.length:Int)
   ·
    rw [if_pos c2] at H;have c2b0:decide (x7_1<(l0.length:Int))=true:=decide_eq_true c2;clear c2
    by_cases c3:0≤x7_1
    ·
     rw [if_pos c3] at H;have c3b0:decide (0≤x7_1)=true:=decide_eq_true c3;clear c3
     by_cases c4:x7_1<(l0.length:Int)
     ·
      rw [if_pos c4] at H;have c4b0:decide (x7_1<(l0.length:Int))=true:=decide_eq_true c4;clear c4;have HC5:=aS H;clear H;have p150:0≤(x7_1:Int):=cr;have q150:x7_1<(l0.length:Int):=cr;obtain ⟨ad150,e150,hx150_0,hx150_1,hx150_2,hx150_3,hx150_4⟩:=eO HR0.out x7_1 p150 q150;cases e150;replace hx150_0:=bx aq hx150_0;replace hx150_1:=bx aq hx150_1;replace hx150_2:=bx aq hx150_2;replace hx150_3:=bx aq hx150_3;replace hx150_4:=bx aq hx150_4;replace p150:=eq_true p150;replace q150:=eq_true q150
      go_upto_region 4 with (first | ((with_reducible refine bf (N:=4) rfl ?_);refine aZ ?hg (N:=4) ?hd (cs:=#[.string (⟨#[]⟩:ByteArray),.string (⟨#[]⟩:ByteArray),.int .i64 0,.string (⟨#[]⟩:ByteArray),.bool false]) (t:=34) ?hr ?_;(case hd=>rfl);(case hg=>rfl);(case hr=>first | (go_simp;done) | (go_simp;rfl));intro gb151 hg w6 hbox hb;have BK151:=aS (hbox);have GW151:=bsize hg;have GE151:=bsize hg;replace HB:=aM hb;clear hb hbox hg;have hcz7:=cU BK151))
      (try simp only [Act.put,dn,dm,lss])
      go_cut [28] (fun v28 wc=>∃ (kq:Nat) (x28_4:Bool),v28 = .bool x28_4∧ah (aQ.j1 kq l0 l0 (l0.length:Int) x7_1 x28_4=some r)∧ah (kq≤k1)∧ah (wc.heap[gb151]? = some (.cells #[.string ((af l0 x7_1).f0),.string ((af l0 x7_1).f1),.int .i64 ((af l0 x7_1).f2),.string ((af l0 x7_1).f3),.bool ((af l0 x7_1).f4)] 34 (0,0)))∧ah (Below w.heap.size w wc))
      case first=>
       have H:=HC5.out;clear HC5;replace H:=cD H;obtain ⟨t152,A80,H⟩:=H;have A8:=aS A80;clear A80
       by_cases c9:t152=true
       ·
        subst c9
        replace H:=jF H
        by_cases eU:x7_1 > 0
        ·
         rw [if_pos eU] at H;have c10b0:decide (0<x7_1)=true:=decide_eq_true eU;clear eU
         (first | rw [c10b0] | (simp only [bB,bX];rw [c10b0]) | skip)
         obtain ⟨ji11,hji11⟩:∃ j_:Int,(wrap64 (x7_1 - 1))=j_:=⟨_,rfl⟩
         replace H:(if 0≤(ji11) then (if (ji11)<(l0.length:Int) then ((bT.f k1 ((af l0 (ji11)).f0) ((af l0 (ji11)).f1) ((af l0 (ji11)).f2) ((af l0 (ji11)).f3) ((af l0 (ji11)).f4) ((af l0 x7_1).f0) ((af l0 x7_1).f1) ((af l0 x7_1).f2) ((af l0 x7_1).f3) ((af l0 x7_1).f4)).bind fun t154=>(aQ.j1 k1 l0 l0 (l0.length:Int) x7_1 (decide (t154≥0)))) else (none)) else (none))=some r:=by first | (rw [hji11] at H;exact H) | (simp only [hji11] at H ⊢;exact H)
         (try rw [hji11] at A8)
         have hji11w:(IntKind.i64.wrap (x7_1 - 1))=ji11:=(bB _).trans hji11
         by_cases c12:0≤(ji11)
         ·
          rw [if_pos c12] at H;have c12b0:decide (0≤(ji11))=true:=decide_eq_true c12;clear c12
          by_cases c13:(ji11)<(l0.length:Int)
          ·
           rw [if_pos c13] at H;have c13b0:decide ((ji11)<(l0.length:Int))=true:=decide_eq_true c13;clear c13;replace H:=cD H;obtain ⟨t154,A140,H⟩:=H;have A14:=aS A140;clear A140
           have H':=aS H
           clear H
           try go_wp2
           have n0_:ah ((((((w6.setCell ⟨gb151,0,none⟩ (.string ((af l0 x7_1).f0))).setCell ⟨gb151,1,none⟩ (.string ((af l0 x7_1).f1))).setCell ⟨gb151,2,none⟩ (.int .i64 ((af l0 x7_1).f2))).setCell ⟨gb151,3,none⟩ (.string ((af l0 x7_1).f3))).setCell ⟨gb151,4,none⟩ (.bool ((af l0 x7_1).f4))).heap[gb151]? = some (.cells #[.string ((af l0 x7_1).f0),.string ((af l0 x7_1).f1),.int .i64 ((af l0 x7_1).f2),.string ((af l0 x7_1).f3),.bool ((af l0 x7_1).f4)] 34 (0,0))):=⟨by (with_reducible repeat (first | refine ay ?_ _ | refine ar ?_ | refine ax ?_ _));refine bk (cs:=#[.string ((af l0 x7_1).f0),.string ((af l0 x7_1).f1),.int .i64 ((af l0 x7_1).f2),.string ((af l0 x7_1).f3),.bool false]) ?_ 4 _ rfl;(with_reducible repeat (first | refine ay ?_ _ | refine ar ?_ | refine ax ?_ _));refine bk (cs:=#[.string ((af l0 x7_1).f0),.string ((af l0 x7_1).f1),.int .i64 ((af l0 x7_1).f2),.string (⟨#[]⟩:ByteArray),.bool false]) ?_ 3 _ rfl;(with_reducible repeat (first | refine ay ?_ _ | refine ar ?_ | refine ax ?_ _));refine bk (cs:=#[.string ((af l0 x7_1).f0),.string ((af l0 x7_1).f1),.int .i64 0,.string (⟨#[]⟩:ByteArray),.bool false]) ?_ 2 _ rfl;(with_reducible repeat (first | refine ay ?_ _ | refine ar ?_ | refine ax ?_ _));refine bk (cs:=#[.string ((af l0 x7_1).f0),.string (⟨#[]⟩:ByteArray),.int .i64 0,.string (⟨#[]⟩:ByteArray),.bool false]) ?_ 1 _ rfl;(with_reducible repeat (first | refine ay ?_ _ | refine ar ?_ | refine ax ?_ _));refine bk (cs:=#[.string (⟨#[]⟩:ByteArray),.string (⟨#[]⟩:ByteArray),.int .i64 0,.string (⟨#[]⟩:ByteArray),.bool false]) ?_ 0 _ rfl;(with_reducible repeat (first | refine ay ?_ _ | refine ar ?_ | refine ax ?_ _));exact BK151.out⟩;have n1_:ah (Below w.heap.size w (((((w6.setCell ⟨gb151,0,none⟩ (.string ((af l0 x7_1).f0))).setCell ⟨gb151,1,none⟩ (.string ((af l0 x7_1).f1))).setCell ⟨gb151,2,none⟩ (.int .i64 ((af l0 x7_1).f2))).setCell ⟨gb151,3,none⟩ (.string ((af l0 x7_1).f3))).setCell ⟨gb151,4,none⟩ (.bool ((af l0 x7_1).f4)))):=⟨aq⟩;(try clear BK151);(try clear HB)
           generalize (((((w6.setCell ⟨gb151,0,none⟩ (.string ((af l0 x7_1).f0))).setCell ⟨gb151,1,none⟩ (.string ((af l0 x7_1).f1))).setCell ⟨gb151,2,none⟩ (.int .i64 ((af l0 x7_1).f2))).setCell ⟨gb151,3,none⟩ (.string ((af l0 x7_1).f3))).setCell ⟨gb151,4,none⟩ (.bool ((af l0 x7_1).f4)))=w15 at n0_ n1_ ⊢
           have BK151:=n0_;have HB:=n1_;clear n0_ n1_;replace BK151:=aS (ar BK151.out);replace HB:=aS (jE HB.out);have p153:0≤((ji11):Int):=cr;have q153:(ji11)<(l0.length:Int):=cr;obtain ⟨ad153,e153,hx153_0,hx153_1,hx153_2,hx153_3,hx153_4⟩:=eO HR0.out (ji11) p153 q153;have hw153_4:=hx153_4;have hw153_3:=hx153_3;have hw153_2:=hx153_2;have hw153_1:=hx153_1;have hw153_0:=hx153_0
           obtain rfl:ad150=ad153:=(by injection e153)
           replace hx153_0:=bx aq hx153_0;replace hx153_1:=bx aq hx153_1;replace hx153_2:=bx aq hx153_2;replace hx153_3:=bx aq hx153_3;replace hx153_4:=bx aq hx153_4;replace p153:=eq_true p153;replace q153:=eq_true q153;refine dA (n:=17) (S:=fun w'=>w'.cell? ⟨gb151,0,none⟩=some (.string ((af l0 x7_1).f0))∧w'.cell? ⟨gb151,1,none⟩=some (.string ((af l0 x7_1).f1))∧w'.cell? ⟨gb151,2,none⟩=some (.int .i64 ((af l0 x7_1).f2))∧w'.cell? ⟨gb151,3,none⟩=some (.string ((af l0 x7_1).f3))∧w'.cell? ⟨gb151,4,none⟩=some (.bool ((af l0 x7_1).f4))∧w'.cell? (ad150.add (((ji11)).toNat*5))=some (.string ((af l0 (ji11)).f0))∧w'.cell? ⟨(ad150.add (((ji11)).toNat*5)).block,(ad150.add (((ji11)).toNat*5)).off+1,none⟩=some (.string ((af l0 (ji11)).f1))∧w'.cell? ⟨(ad150.add (((ji11)).toNat*5)).block,(ad150.add (((ji11)).toNat*5)).off+2,none⟩=some (.int .i64 ((af l0 (ji11)).f2))∧w'.cell? ⟨(ad150.add (((ji11)).toNat*5)).block,(ad150.add (((ji11)).toNat*5)).off+3,none⟩=some (.string ((af l0 (ji11)).f3))∧w'.cell? ⟨(ad150.add (((ji11)).toNat*5)).block,(ad150.add (((ji11)).toNat*5)).off+4,none⟩=some (.bool ((af l0 (ji11)).f4))) (ds:=[]) (bA 17 0) (by kernel_rfl) rfl rfl ⟨bc BK151 0,bc BK151 1,bc BK151 2,bc BK151 3,bc BK151 4,(bx aq hw153_0),(bx aq hw153_1),(bx aq hw153_2),(bx aq hw153_3),(bx aq hw153_4)⟩ (fun hHeld=>?_);refine cI aQ.CW aQ.zP (fun HT_ HW_=>?_)
           generalize w15.drew=w16 at BK151 HB hx153_0 hx153_1 hx153_2 hx153_3 hx153_4 hHeld ⊢
           refine iv (i:=0) (N:=some 12) (v:=?_) (a':=?_) (bA 17 1) rfl rfl (iF HT_.out HW_.out (by kernel_rfl)) (fun _ _ _ h=>h) (Or.inl ⟨by rfl,?_⟩) hHeld ?_ ?_
           rotate_left
           ·
            rintro w' ⟨s0,s1,s2,s3,s4,s5,s6,s7,s8,s9⟩
            go_simp
            with_reducible rfl
           rotate_left
           ·
            simp only [Act.put,dn,dm,lss,bB,bX]
            rfl
           refine dH 1 (N:=some 13) (bA 17 3) HT_ (fun K hK=>?_);refine eu Tryz.func27 (by kernel_rfl) rfl #[.agg #[.string ((af l0 x7_1).f0),.string ((af l0 x7_1).f1),.int .i64 ((af l0 x7_1).f2),.string ((af l0 x7_1).f3),.bool ((af l0 x7_1).f4)]] (by rfl) rfl rfl cH ?_
           with_reducible refine (eR.calls ((af l0 x7_1).f0) ((af l0 x7_1).f1) ((af l0 x7_1).f2) ((af l0 x7_1).f3) ((af l0 x7_1).f4) true _ A8.out).mono ?_
           rintro e w17 ⟨rfl,hb⟩
           refine ⟨_,rfl,?_⟩;replace BK151:=fo BK151 hb;replace HB:=aM hb;(try clear hb);(try clear hk);(try clear hi);refine hK.out _ _ ⟨bc BK151 0,bc BK151 1,bc BK151 2,bc BK151 3,bc BK151 4,(bx aq hw153_0),(bx aq hw153_1),(bx aq hw153_2),(bx aq hw153_3),(bx aq hw153_4)⟩ (fun hHeld=>?_);clear hK K;refine nm 13 ?_;refine aY [(2,14),(3,15),(4,16),(5,17),(6,18),(7,19),(8,20),(9,21),(10,22),(11,23),(12,24)] ?_
           iterate 11 (first | (refine cw HT_ ?_) | (refine d9 HT_ HW_ hHeld ?_))
           refine bU (bA 17 8191) (by kernel_rfl) ?_;refine dH 13 (N:=some 25) (bA 17 16383) HT_ (fun K hK=>?_);refine eu Tryz.func47 (by kernel_rfl) rfl #[.agg #[.string ((af l0 (ji11)).f0),.string ((af l0 (ji11)).f1),.int .i64 ((af l0 (ji11)).f2),.string ((af l0 (ji11)).f3),.bool ((af l0 (ji11)).f4)],.agg #[.string ((af l0 x7_1).f0),.string ((af l0 x7_1).f1),.int .i64 ((af l0 x7_1).f2),.string ((af l0 x7_1).f3),.bool ((af l0 x7_1).f4)]] (by rfl) rfl rfl (by (try simp only [List.map_toArray,List.map_cons,List.map_nil]);first | done | (simp only [hji11];rfl) | rfl | (simp only [lV,kR];rfl)) ?_
           with_reducible refine (bT.calls k1 ((af l0 (ji11)).f0) ((af l0 (ji11)).f1) ((af l0 (ji11)).f2) ((af l0 (ji11)).f3) ((af l0 (ji11)).f4) ((af l0 x7_1).f0) ((af l0 x7_1).f1) ((af l0 x7_1).f2) ((af l0 x7_1).f3) ((af l0 x7_1).f4) t154 _ A14.out).mono ?_
           rintro e w18 ⟨rfl,hb⟩
           refine ⟨_,rfl,?_⟩;replace BK151:=fo BK151 hb;replace HB:=aM hb;(try clear hb);(try clear hk);(try clear hi);refine hK.out _ _ ⟨bc BK151 0,bc BK151 1,bc BK151 2,bc BK151 3,bc BK151 4,(bx aq hw153_0),(bx aq hw153_1),(bx aq hw153_2),(bx aq hw153_3),(bx aq hw153_4)⟩ (fun hHeld=>?_);clear hK K;refine nm 25 ?_;refine aY [(14,26),(15,27),(16,28)] ?_
           iterate 3 (refine cw HT_ ?_)
           refine bU (bA 17 131071) (by kernel_rfl) ?_;refine dQ (cY HT_.out (by kernel_rfl)) ?_
           try go_wp2
           go_meet
           case rel=>exact ⟨_,(decide (t154≥0)),dJ,H',⟨by have:=HK1.out;first | omega | exact Nat.le_refl _⟩,⟨dS BK151.out⟩,⟨aq⟩⟩
          ·
           rw [if_neg c13] at H;exact absurd H (by simp)
         ·
          rw [if_neg c12] at H;exact absurd H (by simp)
        ·
         rw [if_neg eU] at H;have c10b0:decide (0<x7_1)=false:=decide_eq_false eU;clear eU
         (first | rw [c10b0] | (simp only [bB,bX];rw [c10b0]) | skip)
         have H':=aS H
         clear H
         try go_wp2
         have n0_:ah ((((((w6.setCell ⟨gb151,0,none⟩ (.string ((af l0 x7_1).f0))).setCell ⟨gb151,1,none⟩ (.string ((af l0 x7_1).f1))).setCell ⟨gb151,2,none⟩ (.int .i64 ((af l0 x7_1).f2))).setCell ⟨gb151,3,none⟩ (.string ((af l0 x7_1).f3))).setCell ⟨gb151,4,none⟩ (.bool ((af l0 x7_1).f4))).heap[gb151]? = some (.cells #[.string ((af l0 x7_1).f0),.string ((af l0 x7_1).f1),.int .i64 ((af l0 x7_1).f2),.string ((af l0 x7_1).f3),.bool ((af l0 x7_1).f4)] 34 (0,0))):=⟨by (with_reducible repeat (first | refine ay ?_ _ | refine ar ?_ | refine ax ?_ _));refine bk (cs:=#[.string ((af l0 x7_1).f0),.string ((af l0 x7_1).f1),.int .i64 ((af l0 x7_1).f2),.string ((af l0 x7_1).f3),.bool false]) ?_ 4 _ rfl;(with_reducible repeat (first | refine ay ?_ _ | refine ar ?_ | refine ax ?_ _));refine bk (cs:=#[.string ((af l0 x7_1).f0),.string ((af l0 x7_1).f1),.int .i64 ((af l0 x7_1).f2),.string (⟨#[]⟩:ByteArray),.bool false]) ?_ 3 _ rfl;(with_reducible repeat (first | refine ay ?_ _ | refine ar ?_ | refine ax ?_ _));refine bk (cs:=#[.string ((af l0 x7_1).f0),.string ((af l0 x7_1).f1),.int .i64 0,.string (⟨#[]⟩:ByteArray),.bool false]) ?_ 2 _ rfl;(with_reducible repeat (first | refine ay ?_ _ | refine ar ?_ | refine ax ?_ _));refine bk (cs:=#[.string ((af l0 x7_1).f0),.string (⟨#[]⟩:ByteArray),.int .i64 0,.string (⟨#[]⟩:ByteArray),.bool false]) ?_ 1 _ rfl;(with_reducible repeat (first | refine ay ?_ _ | refine ar ?_ | refine ax ?_ _));refine bk (cs:=#[.string (⟨#[]⟩:ByteArray),.string (⟨#[]⟩:ByteArray),.int .i64 0,.string (⟨#[]⟩:ByteArray),.bool false]) ?_ 0 _ rfl;(with_reducible repeat (first | refine ay ?_ _ | refine ar ?_ | refine ax ?_ _));exact BK151.out⟩;have n1_:ah (Below w.heap.size w (((((w6.setCell ⟨gb151,0,none⟩ (.string ((af l0 x7_1).f0))).setCell ⟨gb151,1,none⟩ (.string ((af l0 x7_1).f1))).setCell ⟨gb151,2,none⟩ (.int .i64 ((af l0 x7_1).f2))).setCell ⟨gb151,3,none⟩ (.string ((af l0 x7_1).f3))).setCell ⟨gb151,4,none⟩ (.bool ((af l0 x7_1).f4)))):=⟨aq⟩;(try clear BK151);(try clear HB)
         generalize (((((w6.setCell ⟨gb151,0,none⟩ (.string ((af l0 x7_1).f0))).setCell ⟨gb151,1,none⟩ (.string ((af l0 x7_1).f1))).setCell ⟨gb151,2,none⟩ (.int .i64 ((af l0 x7_1).f2))).setCell ⟨gb151,3,none⟩ (.string ((af l0 x7_1).f3))).setCell ⟨gb151,4,none⟩ (.bool ((af l0 x7_1).f4)))=w19 at n0_ n1_ ⊢
         have BK151:=n0_;have HB:=n1_;clear n0_ n1_;replace BK151:=aS (ar BK151.out);replace HB:=aS (jE HB.out);refine dA (n:=17) (S:=fun w'=>w'.cell? ⟨gb151,0,none⟩=some (.string ((af l0 x7_1).f0))∧w'.cell? ⟨gb151,1,none⟩=some (.string ((af l0 x7_1).f1))∧w'.cell? ⟨gb151,2,none⟩=some (.int .i64 ((af l0 x7_1).f2))∧w'.cell? ⟨gb151,3,none⟩=some (.string ((af l0 x7_1).f3))∧w'.cell? ⟨gb151,4,none⟩=some (.bool ((af l0 x7_1).f4))) (ds:=[]) (bA 17 0) (by kernel_rfl) rfl rfl ⟨bc BK151 0,bc BK151 1,bc BK151 2,bc BK151 3,bc BK151 4⟩ (fun hHeld=>?_);refine cI aQ.CW aQ.zP (fun HT_ HW_=>?_)
         generalize w19.drew=w20 at BK151 HB hHeld ⊢
         refine iv (i:=0) (N:=some 12) (v:=?_) (a':=?_) (bA 17 1) rfl rfl (iF HT_.out HW_.out (by kernel_rfl)) (fun _ _ _ h=>h) (Or.inl ⟨by rfl,?_⟩) hHeld ?_ ?_
         rotate_left
         ·
          rintro w' ⟨s0,s1,s2,s3,s4⟩
          go_simp
          with_reducible rfl
         rotate_left
         ·
          simp only [Act.put,dn,dm,lss,bB,bX]
          rfl
         refine dH 1 (N:=some 13) (bA 17 3) HT_ (fun K hK=>?_);refine eu Tryz.func27 (by kernel_rfl) rfl #[.agg #[.string ((af l0 x7_1).f0),.string ((af l0 x7_1).f1),.int .i64 ((af l0 x7_1).f2),.string ((af l0 x7_1).f3),.bool ((af l0 x7_1).f4)]] (by rfl) rfl rfl cH ?_
         with_reducible refine (eR.calls ((af l0 x7_1).f0) ((af l0 x7_1).f1) ((af l0 x7_1).f2) ((af l0 x7_1).f3) ((af l0 x7_1).f4) true _ A8.out).mono ?_
         rintro e w21 ⟨rfl,hb⟩
         refine ⟨_,rfl,?_⟩;replace BK151:=fo BK151 hb;replace HB:=aM hb;(try clear hb);(try clear hk);(try clear hi);refine hK.out _ _ ⟨bc BK151 0,bc BK151 1,bc BK151 2,bc BK151 3,bc BK151 4⟩ (fun hHeld=>?_);clear hK K;refine nm 13 ?_;refine aY [(2,14),(3,15),(4,16),(5,17),(6,18),(7,19),(8,20),(9,21),(10,22),(11,23),(12,24),(13,25),(14,26),(15,27),(16,28)] ?_
         iterate 15 (first | (refine nJ HT_ ?_) | (refine cw HT_ ?_))
         refine bU (bA 17 131071) (by kernel_rfl) ?_;refine dQ (cY HT_.out (by kernel_rfl)) ?_
         try go_wp2
         go_meet
         case rel=>exact ⟨_,(false),dJ,H',⟨by have:=HK1.out;first | omega | exact Nat.le_refl _⟩,⟨dS BK151.out⟩,⟨aq⟩⟩
       ·
        replace c9:=Bool.eq_false_iff.mpr c9;subst c9
        replace H:=jD H
        have H':=aS H
        clear H
        try go_wp2
        have n0_:ah ((((((w6.setCell ⟨gb151,0,none⟩ (.string ((af l0 x7_1).f0))).setCell ⟨gb151,1,none⟩ (.string ((af l0 x7_1).f1))).setCell ⟨gb151,2,none⟩ (.int .i64 ((af l0 x7_1).f2))).setCell ⟨gb151,3,none⟩ (.string ((af l0 x7_1).f3))).setCell ⟨gb151,4,none⟩ (.bool ((af l0 x7_1).f4))).heap[gb151]? = some (.cells #[.string ((af l0 x7_1).f0),.string ((af l0 x7_1).f1),.int .i64 ((af l0 x7_1).f2),.string ((af l0 x7_1).f3),.bool ((af l0 x7_1).f4)] 34 (0,0))):=⟨by (with_reducible repeat (first | refine ay ?_ _ | refine ar ?_ | refine ax ?_ _));refine bk (cs:=#[.string ((af l0 x7_1).f0),.string ((af l0 x7_1).f1),.int .i64 ((af l0 x7_1).f2),.string ((af l0 x7_1).f3),.bool false]) ?_ 4 _ rfl;(with_reducible repeat (first | refine ay ?_ _ | refine ar ?_ | refine ax ?_ _));refine bk (cs:=#[.string ((af l0 x7_1).f0),.string ((af l0 x7_1).f1),.int .i64 ((af l0 x7_1).f2),.string (⟨#[]⟩:ByteArray),.bool false]) ?_ 3 _ rfl;(with_reducible repeat (first | refine ay ?_ _ | refine ar ?_ | refine ax ?_ _));refine bk (cs:=#[.string ((af l0 x7_1).f0),.string ((af l0 x7_1).f1),.int .i64 0,.string (⟨#[]⟩:ByteArray),.bool false]) ?_ 2 _ rfl;(with_reducible repeat (first | refine ay ?_ _ | refine ar ?_ | refine ax ?_ _));refine bk (cs:=#[.string ((af l0 x7_1).f0),.string (⟨#[]⟩:ByteArray),.int .i64 0,.string (⟨#[]⟩:ByteArray),.bool false]) ?_ 1 _ rfl;(with_reducible repeat (first | refine ay ?_ _ | refine ar ?_ | refine ax ?_ _));refine bk (cs:=#[.string (⟨#[]⟩:ByteArray),.string (⟨#[]⟩:ByteArray),.int .i64 0,.string (⟨#[]⟩:ByteArray),.bool false]) ?_ 0 _ rfl;(with_reducible repeat (first | refine ay ?_ _ | refine ar ?_ | refine ax ?_ _));exact BK151.out⟩;have n1_:ah (Below w.heap.size w (((((w6.setCell ⟨gb151,0,none⟩ (.string ((af l0 x7_1).f0))).setCell ⟨gb151,1,none⟩ (.string ((af l0 x7_1).f1))).setCell ⟨gb151,2,none⟩ (.int .i64 ((af l0 x7_1).f2))).setCell ⟨gb151,3,none⟩ (.string ((af l0 x7_1).f3))).setCell ⟨gb151,4,none⟩ (.bool ((af l0 x7_1).f4)))):=⟨aq⟩;(try clear BK151);(try clear HB)
        generalize (((((w6.setCell ⟨gb151,0,none⟩ (.string ((af l0 x7_1).f0))).setCell ⟨gb151,1,none⟩ (.string ((af l0 x7_1).f1))).setCell ⟨gb151,2,none⟩ (.int .i64 ((af l0 x7_1).f2))).setCell ⟨gb151,3,none⟩ (.string ((af l0 x7_1).f3))).setCell ⟨gb151,4,none⟩ (.bool ((af l0 x7_1).f4)))=w22 at n0_ n1_ ⊢
        have BK151:=n0_;have HB:=n1_;clear n0_ n1_;replace BK151:=aS (ar BK151.out);replace HB:=aS (jE HB.out);refine dA (n:=17) (S:=fun w'=>w'.cell? ⟨gb151,0,none⟩=some (.string ((af l0 x7_1).f0))∧w'.cell? ⟨gb151,1,none⟩=some (.string ((af l0 x7_1).f1))∧w'.cell? ⟨gb151,2,none⟩=some (.int .i64 ((af l0 x7_1).f2))∧w'.cell? ⟨gb151,3,none⟩=some (.string ((af l0 x7_1).f3))∧w'.cell? ⟨gb151,4,none⟩=some (.bool ((af l0 x7_1).f4))) (ds:=[]) (bA 17 0) (by kernel_rfl) rfl rfl ⟨bc BK151 0,bc BK151 1,bc BK151 2,bc BK151 3,bc BK151 4⟩ (fun hHeld=>?_);refine cI aQ.CW aQ.zP (fun HT_ HW_=>?_)
        generalize w22.drew=w23 at BK151 HB hHeld ⊢
        refine iv (i:=0) (N:=some 12) (v:=?_) (a':=?_) (bA 17 1) rfl rfl (iF HT_.out HW_.out (by kernel_rfl)) (fun _ _ _ h=>h) (Or.inl ⟨by rfl,?_⟩) hHeld ?_ ?_
        rotate_left
        ·
         rintro w' ⟨s0,s1,s2,s3,s4⟩
         go_simp
         with_reducible rfl
        rotate_left
        ·
         simp only [Act.put,dn,dm,lss,bB,bX]
         rfl
        refine dH 1 (N:=some 13) (bA 17 3) HT_ (fun K hK=>?_);refine eu Tryz.func27 (by kernel_rfl) rfl #[.agg #[.string ((af l0 x7_1).f0),.string ((af l0 x7_1).f1),.int .i64 ((af l0 x7_1).f2),.string ((af l0 x7_1).f3),.bool ((af l0 x7_1).f4)]] (by rfl) rfl rfl cH ?_
        with_reducible refine (eR.calls ((af l0 x7_1).f0) ((af l0 x7_1).f1) ((af l0 x7_1).f2) ((af l0 x7_1).f3) ((af l0 x7_1).f4) false _ A8.out).mono ?_
        rintro e w24 ⟨rfl,hb⟩
        refine ⟨_,rfl,?_⟩;replace BK151:=fo BK151 hb;replace HB:=aM hb;(try clear hb);(try clear hk);(try clear hi);refine hK.out _ _ ⟨bc BK151 0,bc BK151 1,bc BK151 2,bc BK151 3,bc BK151 4⟩ (fun hHeld=>?_);clear hK K;refine nm 13 ?_;refine aY [(2,14),(3,15),(4,16),(5,17),(6,18),(7,19),(8,20),(9,21),(10,22),(11,23),(12,24),(13,25),(14,26),(15,27),(16,28)] ?_
        iterate 15 (first | (refine nJ HT_ ?_) | (refine cw HT_ ?_))
        refine bU (bA 17 131071) (by kernel_rfl) ?_;refine dQ (cY HT_.out (by kernel_rfl)) ?_
        try go_wp2
        go_meet
        case rel=>exact ⟨_,(true),dJ,H',⟨by have:=HK1.out;first | omega | exact Nat.le_refl _⟩,⟨dS BK151.out⟩,⟨aq⟩⟩
      case rest=>
       clear HC5;(try clear c2);(try clear c2b0);(try clear c3);(try clear c3b0);(try clear c4);(try clear c4b0);(try clear hcz7);(try clear hx150_0);(try clear hx150_1);(try clear hx150_2);(try clear hx150_3);(try clear hx150_4);(try clear p150);(try clear q150);obtain ⟨kq,x28_4,rfl,HA,HJ4,BK151,HB⟩:=hcut
       cases kq with
       | zero=>exact absurd HA.out (by simp [aQ.j1])
       | succ kj4=>
        have H:=HA.out;clear HA
        simp only [aQ.j1] at H
        by_cases c25:x28_4=true
        ·
         subst c25
         replace H:=jF H
         obtain rfl:=Option.some.inj H
         go_wp2
         go_ret
         exact ⟨dR,aq⟩
        ·
         replace c25:=Bool.eq_false_iff.mpr c25;subst c25
         replace H:=jD H
         have H':=aS H
         clear H
         go_wp2
         go_roundg kj4
         case measure=>have:=HK1.out;have:=HJ4.out;omega
         case rel=>exact ⟨(wrap64 (x7_1+1)),dJ,H',⟨by have:=HK1.out;have:=HJ4.out;omega⟩,⟨aq⟩⟩
     ·
      rw [if_neg c4] at H;exact absurd H (by simp)
    ·
     rw [if_neg c3] at H;exact absurd H (by simp)
   ·
    rw [if_neg c2] at H;have c2b0:decide (x7_1<(l0.length:Int))=false:=decide_eq_false c2;clear c2
    obtain rfl:=Option.some.inj H
    go_wp2
    go_ret
    exact ⟨dR,aq⟩
def cR.bit (w:Int):Int:=if Go.bits .and .u32 w 1=1 then Go.bits .xor .u32 (w / 2) 2197175160 else w / 2
def cR.go:Nat→Int→Int
 | 0,w=>w
 | m+1,w=>cR.go m (cR.bit w)
def cR.f (a0 a1:Int):Option Int:=some (cR.go 8 (Go.bits .xor .u32 a0 (a1 % 4294967296)))
theorem cR.Cf (a0:Int) (w:World):Calls Tryz.prog 109 #[.int .u32 a0] w fun e w'=>e = .returned (.int .u32 (cR.bit a0))∧Below w.heap.size w w':=by
 go_enter Tryz.func109,Tryz.ntmps109
 go_wp2_with fail
 ·
  rename_i h
  refine bodyPost_ret (m9 rfl (.tmp .nil)) rfl ⟨?_,Below.refl _ _⟩;rw [cR.bit,if_pos (by simpa using h)]
  rfl
 ·
  rename_i h
  refine bodyPost_ret (m9 rfl (.tmp .nil)) rfl ⟨?_,Below.refl _ _⟩;rw [cR.bit,if_neg (by simpa using h)]
  rfl
theorem cR.calls (a0 a1:Int) (r:Int) (w:World) (h:cR.f a0 a1=some r) :
  Calls Tryz.prog 108 #[.int .u32 a0,.int .u8 a1] w fun e w'=>e = .returned (.int .u32 r)∧Below w.heap.size w w':=by
 obtain rfl:=Option.some.inj h
 clear h
 go_enter Tryz.func108,Tryz.ntmps108
 go_wp2_with fail
 go_loopw [0,10] (fun v0 v10 w2=>∃ (i:Nat) (x:Int),v10 = .int .i64 (i:Int)∧v0 = .int .u32 x∧ah (i≤8)∧ah (cR.go (8 - i) x=cR.go 8 (Go.bits .xor .u32 a0 (a1 % 4294967296)))∧ah (Below w.heap.size w w2)) (fun _ i _=>8 - (intOf i).toNat)
 case atStart=>exact ⟨0,_,rfl,rfl,⟨by omega⟩,⟨rfl⟩,⟨Below.refl _ _⟩⟩
 case round=>
  obtain ⟨i,x,rfl,rfl,hi,HA,HB⟩:=hrel;have hi8:=hi.out
  by_cases hlt:i<8
  ·
   obtain ⟨m,hm⟩:∃ m,8 - i=m+1:=⟨7 - i,by omega⟩
   have ha:=HA.out;rw [hm,cR.go] at ha;have HA2:=aS ha;have HM:=aS hm;clear ha HA hm
   go_wp2_with (first
    | (go_at_call 109;(with_reducible refine (cR.Cf _ _).mono ?_);rintro e w3 ⟨rfl,hb⟩;have HB2:=aS hb;clear hb))
   go_roundw
   case rel=>
    have hm:=HM.out;exact ⟨i+1,_,by go_num,rfl,⟨by omega⟩,⟨by rw [show 8 - (i+1)=m by omega];exact HA2.out⟩,⟨aJ HB.out HB2.out⟩⟩
   case measure=>simp [intOf];omega
  ·
   have hd:8 - i=0:=by omega
   have ha:=HA.out;rw [hd,cR.go] at ha;have HA2:=aS ha;clear ha HA hd
   go_wp2_with fail
   refine bodyPost_ret (m9 rfl (.tmp .nil)) rfl ⟨?_,HB.out⟩;rw [←HA2.out]
   rfl
def dK.l0:Nat→Int→List Int→Int→Int→Option (Int)
 | 0,_,_,_,_=>none
 | k+1,x5,x10,x11,x12=>if x12<x11 then (if 0≤x12 then (if x12<(x10.length:Int) then ((cR.f x5 (rd x10 x12)).bind fun t156=>(dK.l0 k t156 x10 x11 (wrap64 (x12+1)))) else (none)) else (none)) else (some (Go.bits .xor .u32 x5 4294967295))
def dK.f (k:Nat) (a0:Int) (l1:List Int):Option (Int):=dK.l0 k (Go.bits .xor .u32 a0 4294967295) l1 (l1.length:Int) 0
theorem dK.cK:∀ k,(∀ y0 y1 y2 y3,aG (dK.l0 k y0 y1 y2 y3) (dK.l0 (k+1) y0 y1 y2 y3))
 | 0=>fun _ _ _ _ r h=>by simp [dK.l0] at h
 | k+1=>by
  have ih0:=dK.cK k
  ·
   intro y0 y1 y2 y3
   unfold dK.l0
   exact eN
theorem dK.mono:∀ a0 a1 k,aG (dK.f k a0 a1) (dK.f (k+1) a0 a1):=by
 intro a0 a1 k
 have ih0:=dK.cK k
 unfold dK.f
 exact eN
theorem dK.calls (k:Nat) (a0:Int) (A1:Option Addr) (c1:Nat) (l1:List Int) (r:Int) (w:World) (hr1:Kd.C (Kd.int .u8) w A1 l1.length l1) (hc1:l1.length≤c1) (h:dK.f k a0 l1=some r) :
  Calls Tryz.prog 107 #[.int .u32 a0,.slice A1 l1.length c1] w fun e w'=>e = .returned (.int .u32 r)∧Below w.heap.size w w':=by
 have HR1:=aS hr1;have HC1:=aS hc1;clear hr1 hc1;have HB:=aS (Below.refl w.heap.size w);have H:(dK.l0 k (Go.bits .xor .u32 a0 4294967295) l1 (l1.length:Int) 0)=some r:=h;clear h
 have H':=aS H
 clear H
 go_enter Tryz.func107,Tryz.ntmps107
 go_wp2
 go_loopg [5,12] k (fun kq v5 v12 w'=>∃ (x5_1:Int) (x12_1:Int),v5 = .int .u32 x5_1∧v12 = .int .i64 x12_1∧ah (dK.l0 kq x5_1 l1 (l1.length:Int) x12_1=some r)∧ah (kq≤k)∧ah (Below w.heap.size w w'))
 case atStart=>exact ⟨(Go.bits .xor .u32 a0 4294967295),(0),dJ,dJ,H',⟨Nat.le_refl _⟩,⟨aq⟩⟩
 case round=>
  clear H';(try clear c1);obtain ⟨x5_1,x12_1,rfl,rfl,HA,HK1,HB⟩:=hrel
  cases gk with
  | zero=>exact absurd HA.out (by simp [dK.l0])
  | succ k1=>
   have H:=HA.out;clear HA
   simp only [dK.l0] at H
   by_cases c3:x12_1<(l1.length:Int)
   ·
    rw [if_pos c3] at H;have c3b0:decide (x12_1<(l1.length:Int))=true:=decide_eq_true c3;clear c3
    by_cases c4:0≤x12_1
    ·
     rw [if_pos c4] at H;have c4b0:decide (0≤x12_1)=true:=decide_eq_true c4;clear c4
     by_cases c5:x12_1<(l1.length:Int)
     ·
      rw [if_pos c5] at H;have c5b0:decide (x12_1<(l1.length:Int))=true:=decide_eq_true c5;clear c5;replace H:=cD H;obtain ⟨t156,A60,H⟩:=H;have A6:=aS A60;clear A60
      have H':=aS H
      clear H;have p155:0≤(x12_1:Int):=cr;have q155:x12_1<(l1.length:Int):=cr;obtain ⟨ad155,e155,hx155_0⟩:=Kd.jc HR1.out x12_1 p155 q155;cases e155;replace hx155_0:=bx aq hx155_0;replace p155:=eq_true p155;replace q155:=eq_true q155
      go_wp2_with (first | ((with_reducible refine aC (f:=108) rfl ?_);refine bE (some 18) rfl rfl Tryz.func108 (by kernel_rfl) rfl #[.int .u32 x5_1,.int .u8 (rd l1 x12_1)] rfl cH ?_;(with_reducible refine (cR.calls x5_1 (rd l1 x12_1) t156 _ A6.out).mono ?_);rintro e w7 ⟨rfl,hb⟩;refine ⟨_,rfl,?_⟩;replace HB:=aM hb;(try clear hb);(try clear hk);(try clear hi)))
      go_roundg k1
      case measure=>have:=HK1.out;omega
      case rel=>exact ⟨(t156),(wrap64 (x12_1+1)),dJ,dJ,H',⟨by have:=HK1.out;omega⟩,⟨aq⟩⟩
     ·
      rw [if_neg c5] at H;exact absurd H (by simp)
    ·
     rw [if_neg c4] at H;exact absurd H (by simp)
   ·
    rw [if_neg c3] at H;have c3b0:decide (x12_1<(l1.length:Int))=false:=decide_eq_false c3;clear c3
    obtain rfl:=Option.some.inj H
    go_wp2
    go_ret
    exact ⟨dR,aq⟩
def fA.f (k:Nat) (l0:List Int):Option (Int):=(dK.f k 0 l0).bind fun t157=>(some t157)
theorem fA.mono:∀ a0 k,aG (fA.f k a0) (fA.f (k+1) a0):=by
 intro a0 k
 unfold fA.f
 have m0:=@dK.mono;exact eN
theorem fA.calls (k:Nat) (A0:Option Addr) (c0:Nat) (l0:List Int) (r:Int) (w:World) (hr0:Kd.C (Kd.int .u8) w A0 l0.length l0) (hc0:l0.length≤c0) (h:fA.f k l0=some r) :
  Calls Tryz.prog 104 #[.slice A0 l0.length c0] w fun e w'=>e = .returned (.int .u32 r)∧Below w.heap.size w w':=by
 have HR0:=aS hr0;have HC0:=aS hc0;clear hr0 hc0;have HB:=aS (Below.refl w.heap.size w);have H:((dK.f k 0 l0).bind fun t157=>(some t157))=some r:=h;clear h;replace H:=cD H;obtain ⟨t157,A20,H⟩:=H;have A2:=aS A20;clear A20
 obtain rfl:=Option.some.inj H
 go_enter Tryz.func104,Tryz.ntmps104
 go_wp2_with (first | ((with_reducible refine aC (f:=107) rfl ?_);refine bE (some 4) rfl rfl Tryz.func107 (by kernel_rfl) rfl #[.int .u32 0,.slice A0 l0.length c0] rfl cH ?_;(with_reducible refine (dK.calls k 0 _ _ l0 t157 _ ?side1 ?side2 A2.out).mono ?_);(case side1=>exact eM HR0.out);(case side2=>exact HC0.out);rintro e w3 ⟨rfl,hb⟩;refine ⟨_,rfl,?_⟩;replace HB:=aM hb;(try clear hb);(try clear hk);(try clear hi)))
 go_ret
 exact ⟨dR,aq⟩
def eD.f (k:Nat) (l0:List Int):Option (List Int):=(fA.f k l0).bind fun t158=>((eH.f (wrap64 (t158))).bind fun t159=>(some t159))
theorem eD.mono:∀ a0 k,aG (eD.f k a0) (eD.f (k+1) a0):=by
 intro a0 k
 unfold eD.f
 have m0:=@fA.mono;exact eN
theorem eD.calls (k:Nat) (A0:Option Addr) (c0:Nat) (l0:List Int) (r:List Int) (w:World) (hr0:Kd.C (Kd.int .u8) w A0 l0.length l0) (hc0:l0.length≤c0) (h:eD.f k l0=some r) :
  Calls Tryz.prog 102 #[.slice A0 l0.length c0] w fun e w'=>∃ v0_:Value,e = .returned (v0_)∧Kd.R (Kd.int .u8) 5 w' w.heap.size (fun _=>True) v0_ r∧Below w.heap.size w w':=by
 have HR0:=aS hr0;have HC0:=aS hc0;clear hr0 hc0;have HB:=aS (Below.refl w.heap.size w);have H:((fA.f k l0).bind fun t158=>((eH.f (wrap64 (t158))).bind fun t159=>(some t159)))=some r:=h;clear h;replace H:=cD H;obtain ⟨t158,A20,H⟩:=H;have A2:=aS A20;clear A20;replace H:=cD H;obtain ⟨t159,A30,H⟩:=H;have A3:=aS A30;clear A30
 obtain rfl:=Option.some.inj H
 go_enter Tryz.func102,Tryz.ntmps102
 go_wp2_with (first | ((with_reducible refine aC (f:=104) rfl ?_);refine bE (some 4) rfl rfl Tryz.func104 (by kernel_rfl) rfl #[.slice A0 l0.length c0] rfl cH ?_;(with_reducible refine (fA.calls k _ _ l0 t158 _ ?side1 ?side2 A2.out).mono ?_);(case side1=>exact eM HR0.out);(case side2=>exact HC0.out);rintro e w4 ⟨rfl,hb⟩;refine ⟨_,rfl,?_⟩;replace HB:=aM hb;(try clear hb);(try clear hk);(try clear hi)) | ((with_reducible refine aC (f:=86) rfl ?_);refine bE (some 6) rfl rfl Tryz.func86 (by kernel_rfl) rfl #[.int .i64 (wrap64 (t158))] rfl cH ?_;(with_reducible refine (eH.calls (wrap64 (t158)) t159 _ A3.out).mono ?_);rintro e w5 ⟨v160,rfl,ho0,hb⟩;refine ⟨_,rfl,?_⟩;have HO161:=aS (Kd.bh ho0 (aA aq));replace HB:=aM hb;(try clear hb);(try clear hk);(try clear hi);(try clear ho0)))
 go_ret
 exact ⟨_,dR,by (with_reducible repeat (first | apply Kd.bF | apply Kd.bG | apply Kd.bH));exact HO161.out,aq⟩
def fk.f (k:Nat) (l0:List Int):Option (List Int):=if (l0.length:Int) > 65535 then (some ([]:List Int)) else ((eH.f (l0.length:Int)).bind fun t162=>((eD.f k t162).bind fun t165=>((eD.f k l0).bind fun t168=>((cA.f (([t162,t165,t168,l0]:List (List Int)))).bind fun t174=>(some t174)))))
theorem fk.mono:∀ a0 k,aG (fk.f k a0) (fk.f (k+1) a0):=by
 intro a0 k
 unfold fk.f
 have m0:=@eD.mono;exact eN
theorem fk.calls (k:Nat) (P0_:Nat→Prop) (A0:Option Addr) (c0:Nat) (l0:List Int) (r:List Int) (w:World) (hs0:Kd.V (Kd.int .u8) 5 w w.heap.size (fun k_=>P0_ k_) (.slice A0 l0.length c0) l0) (h:fk.f k l0=some r) :
  Calls Tryz.prog 100 #[.slice A0 l0.length c0] w fun e w'=>∃ v0_:Value,e = .returned (v0_)∧Kd.R (Kd.int .u8) 5 w' w.heap.size (fun k_=>(w.heap.size≤k_)) v0_ r∧Below w.heap.size w w':=by
 have HO0:=aS (show Kd.V (Kd.int .u8) 5 w w.heap.size (fun k_=>(P0_ k_∨w.heap.size≤k_)) (.slice A0 l0.length c0) l0 from Kd.eC hs0 (fun k_ hk=>.inl hk));have HB:=aS (Below.refl w.heap.size w);have H:(if (l0.length:Int) > 65535 then (some ([]:List Int)) else ((eH.f (l0.length:Int)).bind fun t162=>((eD.f k t162).bind fun t165=>((eD.f k l0).bind fun t168=>((cA.f (([t162,t165,t168,l0]:List (List Int)))).bind fun t174=>(some t174))))))=some r:=h;clear h
 by_cases c2:(l0.length:Int) > 65535
 ·
  rw [if_pos c2] at H;have c2b0:decide (65535<(l0.length:Int))=true:=decide_eq_true c2;have c2b1:decide (65535<l0.length)=true:=decide_eq_true (by omega);clear c2
  obtain rfl:=Option.some.inj H
  go_enter Tryz.func100,Tryz.ntmps100
  go_wp2
  go_ret
  exact ⟨_,dR,by first | exact Kd.er _ _ _ _ _ | exact Kd.gM _ _ _ _ _ | exact Kd.fO _ _ _ _ _ | exact Kd.gK _ _ _ _ _ | exact Kd.gN _ _ _ _ _,aq⟩
 ·
  rw [if_neg c2] at H;have c2b0:decide (65535<(l0.length:Int))=false:=decide_eq_false c2;have c2b1:decide (65535<l0.length)=false:=decide_eq_false (by omega);clear c2;replace H:=cD H;obtain ⟨t162,A30,H⟩:=H;have A3:=aS A30;clear A30;replace H:=cD H;obtain ⟨t165,A40,H⟩:=H;have A4:=aS A40;clear A40;replace H:=cD H;obtain ⟨t168,A50,H⟩:=H;have A5:=aS A50;clear A50
  obtain ⟨y171,hy171⟩:∃ y_:List (List Int),y_=(([t162,t165,t168,l0]:List (List Int))):=⟨_,rfl⟩
  (first | replace H:=jZ hy171 H | rw [←hy171] at H);have Ny171:=aS hy171;clear hy171;replace H:=cD H;obtain ⟨t174,A60,H⟩:=H;have A6:=aS A60;clear A60
  obtain rfl:=Option.some.inj H
  go_enter Tryz.func100,Tryz.ntmps100
  go_wp2_with (first | ((with_reducible refine aC (f:=86) rfl ?_);refine bE (some 9) rfl rfl Tryz.func86 (by kernel_rfl) rfl #[.int .i64 (l0.length:Int)] rfl cH ?_;(with_reducible refine (eH.calls (l0.length:Int) t162 _ A3.out).mono ?_);rintro e w7 ⟨v163,rfl,ho0,hb⟩;refine ⟨_,rfl,?_⟩;replace HO0:=aS (Kd.dw (sel HO0.out) (dr ho0) hb);have HO164:=aS (Kd.bh (Kd.j6 (M:=fun k_=>(w.heap.size≤k_)) ho0 (aA aq) (fun k_ h_=>h_)) (aA aq));replace HB:=aM hb;(try clear hb);(try clear hk);(try clear hi);(try clear ho0);obtain ⟨Ao8,co8,eo8⟩:=Kd.bn HO164.out;subst eo8) | ((with_reducible refine aC (f:=102) rfl ?_);refine bE (some 12) rfl rfl Tryz.func102 (by kernel_rfl) rfl #[.slice Ao8 t162.length co8] rfl cH ?_;(with_reducible refine (eD.calls k _ _ t162 t165 _ ?side1 ?side2 A4.out).mono ?_);(case side1=>exact eM ((Kd.aX HO164.out).2.2));(case side2=>exact (Kd.aX HO164.out).2.1);rintro e w9 ⟨v166,rfl,ho0,hb⟩;refine ⟨_,rfl,?_⟩;replace HO0:=aS (Kd.dw (sel HO0.out) (dr ho0) hb);have HO167:=aS (Kd.bh (Kd.cJ (Kd.j6 (M:=fun k_=>(w.heap.size≤k_)) ho0 (aA aq) (fun k_ h_=>h_)) (Kd.cN (rel HO164.out))) (aA aq));replace HO164:=aS (Kd.bR (rel HO164.out) (dr ho0) hb);replace HB:=aM hb;(try clear hb);(try clear hk);(try clear hi);(try clear ho0)) | ((with_reducible refine aC (f:=102) rfl ?_);refine bE (some 14) rfl rfl Tryz.func102 (by kernel_rfl) rfl #[.slice A0 l0.length c0] rfl cH ?_;(with_reducible refine (eD.calls k _ _ l0 t168 _ ?side1 ?side2 A5.out).mono ?_);(case side1=>exact eM ((Kd.dN HO0.out).2.2));(case side2=>exact (Kd.dN HO0.out).2.1);rintro e w10 ⟨v169,rfl,ho0,hb⟩;refine ⟨_,rfl,?_⟩;replace HO0:=aS (Kd.dw (sel HO0.out) (dr ho0) hb);have HO170:=aS (Kd.bh (Kd.cJ (Kd.cJ (Kd.j6 (M:=fun k_=>(w.heap.size≤k_)) ho0 (aA aq) (fun k_ h_=>h_)) (Kd.cN (rel HO164.out))) (Kd.cN (rel HO167.out))) (aA aq));replace HO164:=aS (Kd.bR (rel HO164.out) (dr ho0) hb);replace HO167:=aS (Kd.bR (rel HO167.out) (dr ho0) hb);replace HB:=aM hb;(try clear hb);(try clear hk);(try clear hi);(try clear ho0);obtain ⟨Ao11,co11,eo11⟩:=Kd.bn HO167.out;subst eo11;obtain ⟨Ao12,co12,eo12⟩:=Kd.bn HO170.out;subst eo12) | ((with_reducible refine bf (N:=16) rfl ?_);refine Kd.Au (Kd.slice 5 (Kd.int .u8)) _ 51 ?hg (N':=16) ?hd (xs:=([t162,t165,t168,l0]:List (List Int))) (inner:=[.slice Ao8 t162.length co8,.slice Ao11 t165.length co11,.slice Ao12 t168.length co12,.slice A0 l0.length c0]) (ok:=(fun k_=>(P0_ k_∨w.heap.size≤k_))) (okp:=(fun k_=>(P0_ k_∨w.heap.size≤k_))) ?hr ?hp (fun _ hk=>hk) ((show ∀ k_,w10.heap.size≤k_→(fun k_=>(P0_ k_∨w.heap.size≤k_)) k_ from fun k_ hk=>(.inr (Nat.le_trans (aA aq) hk))) _ (Nat.le_refl _)) (Below.refl _ _) (Nat.le_refl _) (by simp) ?_;(case hd=>rfl);(case hg=>rfl);(case hr=>first | (go_simp;done) | (go_simp;rfl));(case hp=>exact (bM.one (show Kd.FK (Kd.slice 5 (Kd.int .u8)) _ _ t162 [.slice Ao8 t162.length co8] from (Kd.eL (Kd.aX (Kd.aE (ok':=(fun k_=>(P0_ k_∨w.heap.size≤k_))) (HO164.out) (fun k_ hk=>(.inr (hk.1.1.1))))).2.1 (Kd.nN (Kd.aE (ok':=(fun k_=>(P0_ k_∨w.heap.size≤k_))) (HO164.out) (fun k_ hk=>(.inr (hk.1.1.1))))))) (bM.one (show Kd.FK (Kd.slice 5 (Kd.int .u8)) _ _ t165 [.slice Ao11 t165.length co11] from (Kd.eL (Kd.aX (Kd.aE (ok':=(fun k_=>(P0_ k_∨w.heap.size≤k_))) (HO167.out) (fun k_ hk=>(.inr (hk.1.1.1))))).2.1 (Kd.nN (Kd.aE (ok':=(fun k_=>(P0_ k_∨w.heap.size≤k_))) (HO167.out) (fun k_ hk=>(.inr (hk.1.1.1))))))) (bM.one (show Kd.FK (Kd.slice 5 (Kd.int .u8)) _ _ t168 [.slice Ao12 t168.length co12] from (Kd.eL (Kd.aX (Kd.aE (ok':=(fun k_=>(P0_ k_∨w.heap.size≤k_))) (HO170.out) (fun k_ hk=>(.inr (hk.1.1.1))))).2.1 (Kd.nN (Kd.aE (ok':=(fun k_=>(P0_ k_∨w.heap.size≤k_))) (HO170.out) (fun k_ hk=>(.inr (hk.1.1.1))))))) (bM.one (show Kd.FK (Kd.slice 5 (Kd.int .u8)) _ _ l0 [.slice A0 l0.length c0] from (Kd.eL (Kd.dN (Kd.eC (ok':=(fun k_=>(P0_ k_∨w.heap.size≤k_))) (HO0.out) (fun k_ hk=>hk.1.1.1))).2.1 (Kd.V_F (Kd.eC (ok':=(fun k_=>(P0_ k_∨w.heap.size≤k_))) (HO0.out) (fun k_ hk=>hk.1.1.1))))) (bM.none _ _))))));intro v172 w13 ho14 hb hg_ hnew_;clear hg_ hnew_;(first | rw [←Ny171.out] at ho14 | (simp only [Int.reduceToNat] at ho14;rw [←Ny171.out] at ho14));have n0_:=aS (Kd.dw (sel HO0.out) (by first | exact Kd.qb ho14 | exact Kd.kG ho14 | exact Kd.fF ho14 | exact Kd.V_base ho14) hb);have n1_:=aS (Kd.ql ho14 (aA aq));have n2_:=aM hb;clear HO0;clear HB;clear HO164;clear HO167;clear HO170;have HO0:=n0_;have HO173:=n1_;have HB:=n2_;clear n0_ n1_ n2_;clear hb ho14;obtain ⟨Ao15,co15,eo15⟩:=Kd.pU HO173.out;subst eo15) | ((with_reducible refine aC (f:=84) rfl ?_);refine bE (some 17) rfl rfl Tryz.func84 (by kernel_rfl) rfl #[.slice Ao15 y171.length co15] rfl cH ?_;(with_reducible refine (cA.calls _ _ y171 t174 _ ?side1 ?side2 A6.out).mono ?_);(case side1=>exact eM ((Kd.jW HO173.out).2.2));(case side2=>exact (Kd.jW HO173.out).2.1);rintro e w16 ⟨v175,rfl,ho0,hb⟩;refine ⟨_,rfl,?_⟩;replace HO0:=aS (Kd.dw (sel HO0.out) (dr ho0) hb);replace HO173:=aS (Kd.oX (by (with_reducible repeat (first | apply Kd.oJ | apply Kd.oM | apply Kd.qn));exact HO173.out) (dr ho0) hb);have HO176:=aS (Kd.bh (Kd.j6 (M:=fun k_=>(w.heap.size≤k_)) ho0 (aA aq) (fun k_ h_=>h_)) (aA aq));replace HB:=aM hb;(try clear hb);(try clear hk);(try clear hi);(try clear ho0)))
  go_ret
  exact ⟨_,dR,by (with_reducible repeat (first | apply Kd.bF | apply Kd.bG | apply Kd.bH));exact Kd.aE HO176.out (fun _ hk=>hk.1),aq⟩
mutual
def cM.j0:Nat→List (au)→Bool→Option (List Int × Int)
 | 0,_,_=>none
 | k+1,x0,x15=>if x15=true then (some (([]:List Int),1)) else ((eH.f (x0.length:Int)).bind fun t178=>(cM.l0 k t178 x0 (x0.length:Int) 0))
def cM.l0:Nat→List Int→List (au)→Int→Int→Option (List Int × Int)
 | 0,_,_,_,_=>none
 | k+1,x4,x19,x20,x21=>if x21<x20 then (if 0≤x21 then (if x21<(x19.length:Int) then ((dz.f ((af x19 x21).f0) ((af x19 x21).f1) ((af x19 x21).f2) ((af x19 x21).f3) ((af x19 x21).f4)).bind fun t183=>(if x4.length+t183.length<140737488355328 then (cM.l0 k (x4++t183) x19 x20 (wrap64 (x21+1))) else (none))) else (none)) else (none)) else ((fk.f k x4).bind fun t189=>(if (t189.length:Int)=0 then (some (([]:List Int),1)) else (some (t189,0))))
end
def cM.f (k:Nat) (l0:List (au)):Option (List Int × Int):=(aQ.f k l0).bind fun t177=>(if t177=true then (cM.j0 k l0 ((l0.length:Int) == 0)) else (cM.j0 k l0 true))
theorem cM.cK:∀ k,(∀ y0 y1,aG (cM.j0 k y0 y1) (cM.j0 (k+1) y0 y1))∧(∀ y0 y1 y2 y3,aG (cM.l0 k y0 y1 y2 y3) (cM.l0 (k+1) y0 y1 y2 y3))
 | 0=>⟨fun _ _ r h=>by simp [cM.j0] at h,fun _ _ _ _ r h=>by simp [cM.l0] at h⟩
 | k+1=>by
  obtain ⟨ih0,ih1⟩:=cM.cK k;refine ⟨?_,?_⟩
  ·
   intro y0 y1
   unfold cM.j0
   have m0:=@aQ.mono;have m1:=@fk.mono;exact eN
  ·
   intro y0 y1 y2 y3
   unfold cM.l0
   have m0:=@aQ.mono;have m1:=@fk.mono;exact eN
theorem cM.mono:∀ a0 k,aG (cM.f k a0) (cM.f (k+1) a0):=by
 intro a0 k
 obtain ⟨ih0,ih1⟩:=cM.cK k
 unfold cM.f
 have m0:=@aQ.mono;have m1:=@fk.mono;exact eN
theorem cM.calls (k:Nat) (A0:Option Addr) (c0:Nat) (l0:List (au)) (r1:List Int) (r2:Int) (w:World) (hr0:Kd.C bP w A0 l0.length l0) (hc0:l0.length≤c0) (h:cM.f k l0=some (r1,r2)) :
  Calls Tryz.prog 98 #[.slice A0 l0.length c0] w fun e w'=>∃ v0_:Value,e = .returned (.tuple #[v0_,.int .i64 r2])∧Kd.R (Kd.int .u8) 5 w' w.heap.size (fun _=>True) v0_ r1∧Below w.heap.size w w':=by
 have hu34:=Tryz.underlying34;have HR0:=aS hr0;have HC0:=aS hc0;clear hr0 hc0;have HB:=aS (Below.refl w.heap.size w);have H:((aQ.f k l0).bind fun t177=>(if t177=true then (cM.j0 k l0 ((l0.length:Int) == 0)) else (cM.j0 k l0 true)))=some (r1,r2):=h;clear h;have HC2:=aS H;clear H
 go_enter Tryz.func98,Tryz.ntmps98
 go_upto_region 1 with (fail)
 go_cut [15] (fun v15 wc=>∃ (kq:Nat) (x15_1:Bool),v15 = .bool x15_1∧ah (cM.j0 kq l0 x15_1=some (r1,r2))∧ah (kq≤k)∧ah (Below w.heap.size w wc))
 case first=>
  have H:=HC2.out;clear HC2;replace H:=cD H;obtain ⟨t177,A30,H⟩:=H;have A3:=aS A30;clear A30
  by_cases c4:t177=true
  ·
   subst c4
   replace H:=jF H
   have H':=aS H
   clear H
   go_wp2_with (first | ((with_reducible refine aC (f:=73) rfl ?_);refine bE (some 9) rfl rfl Tryz.func73 (by kernel_rfl) rfl #[.slice A0 l0.length c0] rfl cH ?_;(with_reducible refine (aQ.calls k _ _ l0 true _ ?side1 ?side2 A3.out).mono ?_);(case side1=>exact eM (Kd.cV HR0.out HB.out));(case side2=>exact HC0.out);rintro e w5 ⟨rfl,hb⟩;refine ⟨_,rfl,?_⟩;replace HB:=aM hb;(try clear hb);(try clear hk);(try clear hi)))
   go_meet
   case rel=>exact ⟨_,(((l0.length:Int) == 0)),dJ,H',⟨by first | omega | exact Nat.le_refl _⟩,⟨aq⟩⟩
  ·
   replace c4:=Bool.eq_false_iff.mpr c4;subst c4
   replace H:=jD H
   have H':=aS H
   clear H
   go_wp2_with (first | ((with_reducible refine aC (f:=73) rfl ?_);refine bE (some 9) rfl rfl Tryz.func73 (by kernel_rfl) rfl #[.slice A0 l0.length c0] rfl cH ?_;(with_reducible refine (aQ.calls k _ _ l0 false _ ?side1 ?side2 A3.out).mono ?_);(case side1=>exact eM (Kd.cV HR0.out HB.out));(case side2=>exact HC0.out);rintro e w6 ⟨rfl,hb⟩;refine ⟨_,rfl,?_⟩;replace HB:=aM hb;(try clear hb);(try clear hk);(try clear hi)))
   go_meet
   case rel=>exact ⟨_,(true),dJ,H',⟨by first | omega | exact Nat.le_refl _⟩,⟨aq⟩⟩
 case rest=>
  clear HC2;obtain ⟨kq,x15_1,rfl,HA,HJ1,HB⟩:=hcut
  cases kq with
  | zero=>exact absurd HA.out (by simp [cM.j0])
  | succ kj1=>
   have H:=HA.out;clear HA
   simp only [cM.j0] at H
   by_cases c7:x15_1=true
   ·
    subst c7
    replace H:=jF H
    simp only [Option.some.injEq,Prod.mk.injEq] at H
    obtain ⟨rfl,rfl⟩:=H
    go_wp2
    go_ret2
    exact ⟨_,dR,by first | exact Kd.er _ _ _ _ _ | exact Kd.gM _ _ _ _ _ | exact Kd.fO _ _ _ _ _ | exact Kd.gK _ _ _ _ _ | exact Kd.gN _ _ _ _ _,aq⟩
   ·
    replace c7:=Bool.eq_false_iff.mpr c7;subst c7
    replace H:=jD H;replace H:=cD H;obtain ⟨t178,A80,H⟩:=H;have A8:=aS A80;clear A80
    have H':=aS H
    clear H
    go_wp2_with (first | ((with_reducible refine aC (f:=86) rfl ?_);refine bE (some 18) rfl rfl Tryz.func86 (by kernel_rfl) rfl #[.int .i64 (l0.length:Int)] rfl cH ?_;(with_reducible refine (eH.calls (l0.length:Int) t178 _ A8.out).mono ?_);rintro e w9 ⟨v179,rfl,ho0,hb⟩;refine ⟨_,rfl,?_⟩;have HO180:=aS (Kd.bh ho0 (aA aq));replace HB:=aM hb;(try clear hb);(try clear hk);(try clear hi);(try clear ho0)))
    go_loopg [4,21] kj1 (fun kq v4 v21 w'=>∃ (x4_2:List Int) (x21_2:Int),v21 = .int .i64 x21_2∧ah (cM.l0 kq x4_2 l0 (l0.length:Int) x21_2=some (r1,r2))∧ah (kq≤kj1)∧ah (Kd.R (Kd.int .u8) 5 w' w.heap.size (fun _=>True) v4 x4_2)∧ah (Below w.heap.size w w'))
    case atStart=>exact ⟨(t178),(0),dJ,H',⟨Nat.le_refl _⟩,⟨by (with_reducible repeat (first | apply Kd.bF | apply Kd.bG | apply Kd.bH));exact HO180.out⟩,⟨aq⟩⟩
    case round=>
     clear H';(try clear c7);obtain ⟨x4_2,x21_2,rfl,HA,HK2,HO_4,HB⟩:=hrel
     cases gk with
     | zero=>exact absurd HA.out (by simp [cM.l0])
     | succ k2=>
      have H:=HA.out;clear HA
      simp only [cM.l0] at H
      by_cases eU:x21_2<(l0.length:Int)
      ·
       rw [if_pos eU] at H;have c10b0:decide (x21_2<(l0.length:Int))=true:=decide_eq_true eU;clear eU
       by_cases c11:0≤x21_2
       ·
        rw [if_pos c11] at H;have c11b0:decide (0≤x21_2)=true:=decide_eq_true c11;clear c11
        by_cases c12:x21_2<(l0.length:Int)
        ·
         rw [if_pos c12] at H;have c12b0:decide (x21_2<(l0.length:Int))=true:=decide_eq_true c12;clear c12;replace H:=cD H;obtain ⟨t183,A130,H⟩:=H;have A13:=aS A130;clear A130
         by_cases c14:x4_2.length+t183.length<140737488355328
         ·
          rw [if_pos c14] at H;have LMc14:=aS c14;clear c14
          obtain ⟨y186,hy186⟩:∃ y_:List Int,y_=(x4_2++t183):=⟨_,rfl⟩
          (first | replace H:=jZ hy186 H | rw [←hy186] at H);have Ny186:=aS hy186;clear hy186
          have H':=aS H
          clear H;have p181:0≤(x21_2:Int):=cr;have q181:x21_2<(l0.length:Int):=cr;obtain ⟨ad181,e181,hx181_0,hx181_1,hx181_2,hx181_3,hx181_4⟩:=eO HR0.out x21_2 p181 q181;cases e181;replace hx181_0:=bx aq hx181_0;replace hx181_1:=bx aq hx181_1;replace hx181_2:=bx aq hx181_2;replace hx181_3:=bx aq hx181_3;replace hx181_4:=bx aq hx181_4;replace p181:=eq_true p181;replace q181:=eq_true q181
          go_wp2_with (first | ((with_reducible refine bf (N:=6) rfl ?_);(try (refine eG (by rfl) ?_;dsimp only));refine aZ ?hg (N:=6) ?hd (cs:=#[.string (⟨#[]⟩:ByteArray),.string (⟨#[]⟩:ByteArray),.int .i64 0,.string (⟨#[]⟩:ByteArray),.bool false]) (t:=34) ?hr ?_;(case hd=>rfl);(case hg=>rfl);(case hr=>first | (go_simp;done) | (go_simp;rfl));intro gb182 hg w15 hbox hb;replace HO_4:=aS (Kd.dO (rel HO_4.out) hb);have BK182:=aS (hbox);have GW182:=bsize hg;have GE182:=bsize hg;replace HB:=aM hb;clear hb hbox hg;have hcz16:=cU BK182) | ((with_reducible refine aC (f:=65) rfl ?_);refine bE (some 27) rfl rfl Tryz.func65 (by kernel_rfl) rfl #[.agg #[.string ((af l0 x21_2).f0),.string ((af l0 x21_2).f1),.int .i64 ((af l0 x21_2).f2),.string ((af l0 x21_2).f3),.bool ((af l0 x21_2).f4)]] rfl cH ?_;(with_reducible refine (dz.calls ((af l0 x21_2).f0) ((af l0 x21_2).f1) ((af l0 x21_2).f2) ((af l0 x21_2).f3) ((af l0 x21_2).f4) t183 _ A13.out).mono ?_);rintro e w17 ⟨v184,rfl,ho0,hb⟩;refine ⟨_,rfl,?_⟩;have HO185:=aS (Kd.bh (Kd.cJ ho0 (Kd.cN (by (with_reducible repeat (first | apply Kd.bF | apply Kd.bG | apply Kd.bH));exact (Kd.aE (Kd.fp (p:=⟨gb182,4,none⟩) (Kd.fp (p:=⟨gb182,3,none⟩) (Kd.fp (p:=⟨gb182,2,none⟩) (Kd.fp (p:=⟨gb182,1,none⟩) (Kd.fp (p:=⟨gb182,0,none⟩) (Kd.gF HO_4.out BK182.out (by decide)) (fun _ hk=>hk.2) (.string ((af l0 x21_2).f0))) (fun _ hk=>hk.2) (.string ((af l0 x21_2).f1))) (fun _ hk=>hk.2) (.int .i64 ((af l0 x21_2).f2))) (fun _ hk=>hk.2) (.string ((af l0 x21_2).f3))) (fun _ hk=>hk.2) (.bool ((af l0 x21_2).f4))) (fun _ h_=>h_.1))))) (aA aq));replace HO_4:=aS (Kd.bR (by (with_reducible repeat (first | apply Kd.bF | apply Kd.bG | apply Kd.bH));exact (Kd.aE (Kd.fp (p:=⟨gb182,4,none⟩) (Kd.fp (p:=⟨gb182,3,none⟩) (Kd.fp (p:=⟨gb182,2,none⟩) (Kd.fp (p:=⟨gb182,1,none⟩) (Kd.fp (p:=⟨gb182,0,none⟩) (Kd.gF HO_4.out BK182.out (by decide)) (fun _ hk=>hk.2) (.string ((af l0 x21_2).f0))) (fun _ hk=>hk.2) (.string ((af l0 x21_2).f1))) (fun _ hk=>hk.2) (.int .i64 ((af l0 x21_2).f2))) (fun _ hk=>hk.2) (.string ((af l0 x21_2).f3))) (fun _ hk=>hk.2) (.bool ((af l0 x21_2).f4))) (fun _ h_=>h_.1))) (dr ho0) hb);replace BK182:=aS (aK (g:=gb182) (o:=.cells #[.string ((af l0 x21_2).f0),.string ((af l0 x21_2).f1),.int .i64 ((af l0 x21_2).f2),.string ((af l0 x21_2).f3),.bool ((af l0 x21_2).f4)] 34 (0,0)) (by (with_reducible repeat (first | refine ay ?_ _ | refine ar ?_ | refine ax ?_ _));refine bk (cs:=#[.string ((af l0 x21_2).f0),.string ((af l0 x21_2).f1),.int .i64 ((af l0 x21_2).f2),.string ((af l0 x21_2).f3),.bool false]) ?_ 4 _ rfl;(with_reducible repeat (first | refine ay ?_ _ | refine ar ?_ | refine ax ?_ _));refine bk (cs:=#[.string ((af l0 x21_2).f0),.string ((af l0 x21_2).f1),.int .i64 ((af l0 x21_2).f2),.string (⟨#[]⟩:ByteArray),.bool false]) ?_ 3 _ rfl;(with_reducible repeat (first | refine ay ?_ _ | refine ar ?_ | refine ax ?_ _));refine bk (cs:=#[.string ((af l0 x21_2).f0),.string ((af l0 x21_2).f1),.int .i64 0,.string (⟨#[]⟩:ByteArray),.bool false]) ?_ 2 _ rfl;(with_reducible repeat (first | refine ay ?_ _ | refine ar ?_ | refine ax ?_ _));refine bk (cs:=#[.string ((af l0 x21_2).f0),.string (⟨#[]⟩:ByteArray),.int .i64 0,.string (⟨#[]⟩:ByteArray),.bool false]) ?_ 1 _ rfl;(with_reducible repeat (first | refine ay ?_ _ | refine ar ?_ | refine ax ?_ _));refine bk (cs:=#[.string (⟨#[]⟩:ByteArray),.string (⟨#[]⟩:ByteArray),.int .i64 0,.string (⟨#[]⟩:ByteArray),.bool false]) ?_ 0 _ rfl;(with_reducible repeat (first | refine ay ?_ _ | refine ar ?_ | refine ax ?_ _));exact BK182.out) hb);replace HB:=aM hb;(try clear hb);(try clear hk);(try clear hi);(try clear ho0);obtain ⟨Ao19,co19,eo19⟩:=Kd.bn HO185.out;subst eo19) | ((with_reducible refine iH (b:=.append) (xs:=#[.tmp 25,.tmp 27]) rfl ?_);(try (refine eG (by rfl) ?_;dsimp only));at_builtin;refine Kd.jn (Kd.int .u8) (w0:=w) w.heap.size rfl (.tmp 25) (.tmp 27) 51 5 (.int .u8 0) 1 rfl Tryz.underlying51 gJ rfl (by decide) (by omega) u4 x4_2 t183 _ _ _ (fun k_=>some k_≠(.slice Ao19 t183.length co19:Value).ownBlock) (fun _=>False) rfl rfl ?aO ?aR (fun _ _ h=>h) (fun _ h=>h.elim) ?aF ?aB ?aS ?aL ?_;(case aR=>exact eM ((Kd.aX HO185.out).2.2));(case aB=>exact aq);(case aF=>exact (fun k_ hk=>Kd.gW (Kd.cN (rel HO185.out)) k_ hk));(case aO=>exact (rel (Kd.aE HO_4.out (fun _ hk=>hk.2))));(case aS=>exact (aA aq));(case aL=>have:=LMc14.out;omega);intro v187 w18 ho hb hg hat;rw [←Ny186.out] at ho;have n0_:=aS (ew (g:=gb182) (o:=.cells #[.string ((af l0 x21_2).f0),.string ((af l0 x21_2).f1),.int .i64 ((af l0 x21_2).f2),.string ((af l0 x21_2).f3),.bool ((af l0 x21_2).f4)] 34 (0,0)) (dS BK182.out) hg (Kd.lS HO_4.out BK182.out (by decide)));have n1_:=aS (Kd.iX (ok:=(fun _=>True)) (rel HO185.out) hg hat);have n2_:=aS (hb);have n3_:=aS (ho);clear BK182;clear HO185;clear HB;clear HO_4;have BK182:=n0_;have HO185:=n1_;have HB:=n2_;have HO188:=n3_;clear n0_ n1_ n2_ n3_;clear ho hb hg hat))
          go_roundg k2
          case measure=>have:=HJ1.out;have:=HK2.out;omega
          case rel=>exact ⟨(y186),(wrap64 (x21_2+1)),dJ,H',⟨by have:=HJ1.out;have:=HK2.out;omega⟩,⟨by (with_reducible repeat (first | apply Kd.bF | apply Kd.bG | apply Kd.bH));exact Kd.aE HO188.out (fun _ hk=>trivial)⟩,⟨aq⟩⟩
         ·
          rw [if_neg c14] at H;exact absurd H (by simp)
        ·
         rw [if_neg c12] at H;exact absurd H (by simp)
       ·
        rw [if_neg c11] at H;exact absurd H (by simp)
      ·
       rw [if_neg eU] at H;have c10b0:decide (x21_2<(l0.length:Int))=false:=decide_eq_false eU;clear eU;replace H:=cD H;obtain ⟨t189,A200,H⟩:=H;have A20:=aS A200;clear A200
       by_cases c21:(t189.length:Int)=0
       ·
        rw [if_pos c21] at H;obtain ⟨c21b0,c21b1⟩:=jG c21;clear c21
        simp only [Option.some.injEq,Prod.mk.injEq] at H
        obtain ⟨rfl,rfl⟩:=H;obtain ⟨Ao22,co22,eo22⟩:=Kd.bn HO_4.out;subst eo22
        go_wp2_with (first | ((with_reducible refine aC (f:=100) rfl ?_);refine bE (some 31) rfl rfl Tryz.func100 (by kernel_rfl) rfl #[.slice Ao22 x4_2.length co22] rfl cH ?_;(with_reducible refine (fk.calls k2 (fun k_=>some k_=(.slice Ao22 x4_2.length co22:Value).ownBlock) _ _ x4_2 t189 _ ?side1 A20.out).mono ?_);(case side1=>exact Kd.vL (Kd.jK rfl (HO_4.out)));rintro e w23 ⟨v190,rfl,ho0,hb⟩;refine ⟨_,rfl,?_⟩;have HO191:=aS (Kd.bh (Kd.cJ (Kd.aE (ok':=fun k_=>True) ho0 (fun _ hk_=>trivial)) (Kd.cN (rel HO_4.out))) (aA aq));replace HO_4:=aS (Kd.bR (rel HO_4.out) (dr ho0) hb);replace HB:=aM hb;(try clear hb);(try clear hk);(try clear hi);(try clear ho0);obtain ⟨Ao24,co24,eo24⟩:=Kd.bn HO191.out;subst eo24))
        go_ret2
        exact ⟨_,dR,by first | exact Kd.er _ _ _ _ _ | exact Kd.gM _ _ _ _ _ | exact Kd.fO _ _ _ _ _ | exact Kd.gK _ _ _ _ _ | exact Kd.gN _ _ _ _ _,aq⟩
       ·
        rw [if_neg c21] at H;obtain ⟨c21b0,c21b1⟩:=jr c21
        have c21b2:¬ (t189=[]):=fun h_=>c21 (by rw [h_];rfl)
        simp only [Option.some.injEq,Prod.mk.injEq] at H
        obtain ⟨rfl,rfl⟩:=H;obtain ⟨Ao25,co25,eo25⟩:=Kd.bn HO_4.out;subst eo25
        go_wp2_with (first | ((with_reducible refine aC (f:=100) rfl ?_);refine bE (some 31) rfl rfl Tryz.func100 (by kernel_rfl) rfl #[.slice Ao25 x4_2.length co25] rfl cH ?_;(with_reducible refine (fk.calls k2 (fun k_=>some k_=(.slice Ao25 x4_2.length co25:Value).ownBlock) _ _ x4_2 t189 _ ?side1 A20.out).mono ?_);(case side1=>exact Kd.vL (Kd.jK rfl (HO_4.out)));rintro e w26 ⟨v190,rfl,ho0,hb⟩;refine ⟨_,rfl,?_⟩;have HO191:=aS (Kd.bh (Kd.cJ (Kd.aE (ok':=fun k_=>True) ho0 (fun _ hk_=>trivial)) (Kd.cN (rel HO_4.out))) (aA aq));replace HO_4:=aS (Kd.bR (rel HO_4.out) (dr ho0) hb);replace HB:=aM hb;(try clear hb);(try clear hk);(try clear hi);(try clear ho0);obtain ⟨Ao27,co27,eo27⟩:=Kd.bn HO191.out;subst eo27))
        go_ret2
        exact ⟨_,dR,by (with_reducible repeat (first | apply Kd.bF | apply Kd.bG | apply Kd.bH));exact Kd.aE HO191.out (fun _ hk=>trivial),aq⟩
def nS.f (a0_0:ByteArray) (a0_1:ByteArray) (a0_2:Int) (a0_3:ByteArray) (a0_4:Bool):Option (ByteArray × ByteArray × Int × ByteArray × Bool):=some (a0_0,a0_1,a0_2,(⟨#[]⟩:ByteArray),false)
theorem nS.calls (a0_0:ByteArray) (a0_1:ByteArray) (a0_2:Int) (a0_3:ByteArray) (a0_4:Bool) (r1:ByteArray) (r2:ByteArray) (r3:Int) (r4:ByteArray) (r5:Bool) (w:World) (h:nS.f a0_0 a0_1 a0_2 a0_3 a0_4=some (r1,r2,r3,r4,r5)) :
  Calls Tryz.prog 99 #[.agg #[.string a0_0,.string a0_1,.int .i64 a0_2,.string a0_3,.bool a0_4]] w fun e w'=>e = .returned (.agg #[.string r1,.string r2,.int .i64 r3,.string r4,.bool r5])∧Below w.heap.size w w':=by
 have hu34:=Tryz.underlying34;have HB:=aS (Below.refl w.heap.size w);have H:(some (a0_0,a0_1,a0_2,(⟨#[]⟩:ByteArray),false))=some (r1,r2,r3,r4,r5):=h;clear h
 simp only [Option.some.injEq,Prod.mk.injEq] at H
 obtain ⟨rfl,rfl,rfl,rfl,rfl⟩:=H
 go_enter Tryz.func99,Tryz.ntmps99
 go_wp2_with (first | ((with_reducible refine bf (N:=1) rfl ?_);refine aZ ?hg (N:=1) ?hd (cs:=#[.string a0_0,.string a0_1,.int .i64 a0_2,.string a0_3,.bool a0_4]) (t:=34) ?hr ?_;(case hd=>rfl);(case hg=>rfl);(case hr=>first | (go_simp;done) | (go_simp;rfl));intro gb192 hg w2 hbox hb;have BK192:=aS (hbox);have GW192:=bsize hg;have GE192:=bsize hg;replace HB:=aM hb;clear hb hbox hg) | ((with_reducible refine bf (N:=2) rfl ?_);refine aZ ?hg (N:=2) ?hd (cs:=#[.string (⟨#[]⟩:ByteArray),.string (⟨#[]⟩:ByteArray),.int .i64 0,.string (⟨#[]⟩:ByteArray),.bool false]) (t:=34) ?hr ?_;(case hd=>rfl);(case hg=>rfl);(case hr=>first | (go_simp;done) | (go_simp;rfl));intro gb193 hg w3 hbox hb;have BK193:=aS (hbox);have GW193:=bsize hg;have GE193:=bsize hg;replace HB:=aM hb;have NB192_193:=aS ((by rw [hg];exact Nat.ne_of_lt (di (g:=gb192) (o:=.cells #[.string a0_0,.string a0_1,.int .i64 a0_2,.string a0_3,.bool a0_4] 34 (0,0)) (dS BK192.out)):gb192≠gb193));have NB193_192:=aS ((by rw [hg];exact Nat.ne_of_gt (di (g:=gb192) (o:=.cells #[.string a0_0,.string a0_1,.int .i64 a0_2,.string a0_3,.bool a0_4] 34 (0,0)) (dS BK192.out)):gb193≠gb192));replace BK192:=fo BK192 hb;clear hb hbox hg;have hnb4:=NB192_193.out;have hnc4:=NB193_192.out;have hcz5:=cU BK192;have hcz6:=cU BK193))
 refine bodyPost_ret (results_cell_row rfl _ _ gb193 34 #[.string a0_0,.string a0_1,.int .i64 a0_2,.string (⟨#[]⟩:ByteArray),.bool false] (0,0) _ rfl (by (with_reducible repeat (first | refine ay ?_ _ | refine ar ?_ | refine ax ?_ _));refine bk (cs:=#[.string a0_0,.string a0_1,.int .i64 a0_2,.string (⟨#[]⟩:ByteArray),.bool false]) ?_ 4 _ rfl;(with_reducible repeat (first | refine ay ?_ _ | refine ar ?_ | refine ax ?_ _));refine bk (cs:=#[.string a0_0,.string a0_1,.int .i64 a0_2,.string (⟨#[]⟩:ByteArray),.bool false]) ?_ 3 _ rfl;(with_reducible repeat (first | refine ay ?_ _ | refine ar ?_ | refine ax ?_ _));refine bk (cs:=#[.string a0_0,.string a0_1,.int .i64 0,.string (⟨#[]⟩:ByteArray),.bool false]) ?_ 2 _ rfl;(with_reducible repeat (first | refine ay ?_ _ | refine ar ?_ | refine ax ?_ _));refine bk (cs:=#[.string a0_0,.string (⟨#[]⟩:ByteArray),.int .i64 0,.string (⟨#[]⟩:ByteArray),.bool false]) ?_ 1 _ rfl;(with_reducible repeat (first | refine ay ?_ _ | refine ar ?_ | refine ax ?_ _));refine bk (cs:=#[.string (⟨#[]⟩:ByteArray),.string (⟨#[]⟩:ByteArray),.int .i64 0,.string (⟨#[]⟩:ByteArray),.bool false]) ?_ 0 _ rfl;(with_reducible repeat (first | refine ay ?_ _ | refine ar ?_ | refine ax ?_ _));exact BK193.out) Tryz.underlying34 rfl (by kernel_rfl)) rfl ?_;exact ⟨dR,aq⟩
end Go.Proofs.YtcbhfedcdnjljaaGreat.X

import Derived.Test.YtcbhfedcdnjljaaGreatXx1
import Derived.Test.YtcbhfedcdnjljaaGreatXx5
set_option maxHeartbeats 8000000
set_option maxRecDepth 100000
set_option linter.unusedVariables false
set_option linter.unusedSimpArgs false
namespace Go.Proofs.YtcbhfedcdnjljaaGreat.X
open Go.RowKit Go.Proofs.YtcbhfedcdnjljaaGreatW.PrintWords Go.Proofs.YtcbhfedcdnjljaaGreatW.PrintLast Go.Proofs.YtcbhfedcdnjljaaGreatW.PrintMore
attribute [local go_sem] lG lH mH mG kp ku lA lC mE
attribute [local go_sem high] D_
def bK.l0:Nat→List (List (au))→Int→Int→Int→ByteArray→ByteArray→Int→ByteArray→Bool→Option (Int × Bool)
 | 0,_,_,_,_,_,_,_,_,_=>none
 | k+1,x0,x8,x9,x10,x506000,x506001,x506002,x506003,x506004=>if x9<x10 then (if 0≤(wrap64 ((IntKind.u64.wrap (wrap64 (x9+x10))) / 2)) then (if (wrap64 ((IntKind.u64.wrap (wrap64 (x9+x10))) / 2))<(x0.length:Int) then ((cB.f k (aN x0 (wrap64 ((IntKind.u64.wrap (wrap64 (x9+x10))) / 2))) x506000 x506001 x506002 x506003 x506004).bind fun t507=>(if t507<0 then (bK.l0 k x0 x8 (wrap64 ((wrap64 ((IntKind.u64.wrap (wrap64 (x9+x10))) / 2))+1)) x10 x506000 x506001 x506002 x506003 x506004) else (bK.l0 k x0 x8 x9 (wrap64 ((IntKind.u64.wrap (wrap64 (x9+x10))) / 2)) x506000 x506001 x506002 x506003 x506004))) else (none)) else (none)) else (if x9<x8 then (if 0≤x9 then (if x9<(x0.length:Int) then ((cB.f k (aN x0 x9) x506000 x506001 x506002 x506003 x506004).bind fun t509=>(some (x9,(t509 == 0)))) else (none)) else (none)) else (some (x9,false)))
def bK.f (k:Nat) (l0:List (List (au))) (a1_0:ByteArray) (a1_1:ByteArray) (a1_2:Int) (a1_3:ByteArray) (a1_4:Bool)  : Option (Int × Bool):=bK.l0 k l0 (l0.length:Int) 0 (l0.length:Int) a1_0 a1_1 a1_2 a1_3 a1_4
theorem bK.cF:∀ k,(∀ y0 y1 y2 y3 y4 y5 y6 y7 y8,aH (bK.l0 k y0 y1 y2 y3 y4 y5 y6 y7 y8) (bK.l0 (k+1) y0 y1 y2 y3 y4 y5 y6 y7 y8))
 | 0=>fun _ _ _ _ _ _ _ _ _ r h=>by simp [bK.l0] at h
 | k+1=>by
  have ih0:=bK.cF k
  ·
   intro y0 y1 y2 y3 y4 y5 y6 y7 y8
   unfold bK.l0
   have m0:=@cB.mono;exact eF
theorem bK.mono:∀ a0 a1 a2 a3 a4 a5 k,aH (bK.f k a0 a1 a2 a3 a4 a5) (bK.f (k+1) a0 a1 a2 a3 a4 a5):=by
 intro a0 a1 a2 a3 a4 a5 k
 have ih0:=bK.cF k
 unfold bK.f
 have m0:=@cB.mono;exact eF
def bK.T5:Bool × List (List Nat × List Nat):=(true,[([],[]),([],[]),([],[]),([1,2],[1,2]),([3],[3]),([],[]),([0,4,5],[0,4,5]),([6],[6])])
def bK.B5:List Nat:=[0,0,0,6,14,0,63,127]
theorem bK.qX:e9 .any (opsOf Tryz.f78 5)=bK.T5:=by kernel_rfl
theorem bK.oJ:gj bK.T5.2 bK.B5=true:=by kernel_rfl
def bK.T8:Bool × List (List Nat × List Nat):=(true,[([],[]),([],[]),([],[]),([1,2],[1,2]),([3],[3]),([4],[4]),([4],[4]),([4],[4]),([6,7,4],[4,6,7]),([8,4],[4,8]),([4],[4]),([5,9,10,4,4],[4,5,9,10]),([11,4],[4,11]),([4,12],[4,12]),([0,11,0],[0]),([13,14,0,1,2,3,4,5,6,7,8,9,10,11,12,13,14],[13])])
def bK.B8:List Nat:=[0,0,0,6,14,30,30,30,222,478,30,2046,4094,8190,4095,32767]
theorem bK.tW:e9 .any (opsOf Tryz.f78 8)=bK.T8:=by kernel_rfl
theorem bK.rK:gj bK.T8.2 bK.B8=true:=by kernel_rfl
theorem bK.calls (k:Nat) (A0:Option Addr) (c0:Nat) (l0:List (List (au))) (a1_0:ByteArray) (a1_1:ByteArray) (a1_2:Int) (a1_3:ByteArray) (a1_4:Bool)  (r1:Int) (r2:Bool) (w:World) (hr0:Kd.C (Kd.slice 34 cm) w A0 l0.length l0) (hc0:l0.length≤c0) (h:bK.f k l0 a1_0 a1_1 a1_2 a1_3 a1_4=some (r1,r2)) :
  Calls Tryz.prog 78 #[.slice A0 l0.length c0,.agg #[.string a1_0,.string a1_1,.int .i64 a1_2,.string a1_3,.bool a1_4],.func (.func 79) #[] #[]] w fun e w'=>e = .returned (.tuple #[.int .i64 r1,.bool r2])∧Below w.heap.size w w':=by
 have hu34:=Tryz.underlying34;have HR0:=aS hr0;have HC0:=aS hc0;clear hr0 hc0;have HB:=aS (Below.refl w.heap.size w);have H:(bK.l0 k l0 (l0.length:Int) 0 (l0.length:Int) a1_0 a1_1 a1_2 a1_3 a1_4)=some (r1,r2):=h;clear h
 have H':=aS H
 clear H
 go_enter Tryz.func78,Tryz.ntmps78
 go_wp2_with (first | ((with_reducible refine gD 4 ?_);refine dK 4 #[.string a1_0,.string a1_1,.int .i64 a1_2,.string a1_3,.bool a1_4] 34 ?_;intro gb505 hg w4 hbox hb;have BK505:=aS (hbox);have GW505:=bsize hg;have GE505:=bsize hg;replace HB:=aM hb;clear hb hbox hg))
 go_loopg [9,10] k (fun kq v9 v10 w'=>∃ (x9_1:Int) (x10_1:Int),v9 = .int .i64 x9_1∧v10 = .int .i64 x10_1∧ah (bK.l0 kq l0 (l0.length:Int) x9_1 x10_1 a1_0 a1_1 a1_2 a1_3 a1_4=some (r1,r2))∧ah (kq≤k)∧ah (w'.heap[gb505]? = some (.cells #[.string a1_0,.string a1_1,.int .i64 a1_2,.string a1_3,.bool a1_4] 34 (0,0)))∧ah (Below w.heap.size w w'))
 case atStart=>exact ⟨(0),((l0.length:Int)),cG,cG,H',⟨Nat.le_refl _⟩,⟨eA BK505.out⟩,⟨aq⟩⟩
 case round=>
  clear H';obtain ⟨x9_1,x10_1,rfl,rfl,HA,HK1,BK505,HB⟩:=hrel
  cases gk with
  | zero=>exact absurd HA.out (by simp [bK.l0])
  | succ k1=>
   have H:=HA.out;clear HA
   simp only [bK.l0] at H
   by_cases c5:x9_1<x10_1
   ·
    rw [if_pos c5] at H;have c5b0:decide (x9_1<x10_1)=true:=decide_eq_true c5;clear c5
    obtain ⟨ji6,hji6⟩:∃ j_:Int,(wrap64 ((IntKind.u64.wrap (wrap64 (x9_1+x10_1))) / 2))=j_:=⟨_,rfl⟩
    replace H:(if 0≤(ji6) then (if (ji6)<(l0.length:Int) then ((cB.f k1 (aN l0 (ji6)) a1_0 a1_1 a1_2 a1_3 a1_4).bind fun t507=>(if t507<0 then (bK.l0 k1 l0 (l0.length:Int) (wrap64 ((ji6)+1)) x10_1 a1_0 a1_1 a1_2 a1_3 a1_4) else (bK.l0 k1 l0 (l0.length:Int) x9_1 ji6 a1_0 a1_1 a1_2 a1_3 a1_4))) else (none)) else (none))=some (r1,r2):=by first | (rw [hji6] at H;exact H) | (simp only [hji6] at H ⊢;exact H)
    have hji6w:(IntKind.i64.wrap ((IntKind.u64.wrap (wrap64 (x9_1+x10_1))) / 2))=ji6:=(cC _).trans hji6
    by_cases c7:0≤(ji6)
    ·
     rw [if_pos c7] at H;have c7b0:decide (0≤(ji6))=true:=decide_eq_true c7;clear c7
     by_cases c8:(ji6)<(l0.length:Int)
     ·
      rw [if_pos c8] at H;have c8b0:decide ((ji6)<(l0.length:Int))=true:=decide_eq_true c8;clear c8;replace H:=bU H;obtain ⟨t507,A90,H⟩:=H;have A9:=aS A90;clear A90
      by_cases ef:t507<0
      ·
       rw [if_pos ef] at H;have c10b0:decide (t507<0)=true:=decide_eq_true ef;clear ef
       have H':=aS H
       clear H
       try go_wp2
       replace BK505:=aS (ar BK505.out);replace HB:=aS (jS HB.out);have p506:0≤((ji6):Int):=bJ;have q506:(ji6)<(l0.length:Int):=bJ;obtain ⟨ad506,A506_0,c506_0,e506,hx506_0,hl506_0,hi506_0⟩:=rE HR0.out (ji6) p506 q506;have hw506_0:=hx506_0;cases e506;have hB_506_0:=aS hx506_0;replace hx506_0:=bx aq hx506_0;have HR506_0:=aS hi506_0;have HC506_0:=aS hl506_0;clear hi506_0 hl506_0;replace p506:=eq_true p506;replace q506:=eq_true q506;refine di (n:=8) (S:=fun w'=>w'.cell? ⟨gb505,0,none⟩=some (.string a1_0)∧w'.cell? ⟨gb505,1,none⟩=some (.string a1_1)∧w'.cell? ⟨gb505,2,none⟩=some (.int .i64 a1_2)∧w'.cell? ⟨gb505,3,none⟩=some (.string a1_3)∧w'.cell? ⟨gb505,4,none⟩=some (.bool a1_4)∧w'.cell? (ad506.add ((ji6)).toNat)=some (.slice A506_0 (aN l0 (ji6)).length c506_0)) (ds:=[]) (bA 8 0) (by kernel_rfl) rfl rfl ⟨bc BK505 0,bc BK505 1,bc BK505 2,bc BK505 3,bc BK505 4,(bx aq hw506_0)⟩ (fun hHeld=>?_);refine cD bK.qX bK.oJ (fun HT_ HW_=>?_)
       generalize wr.drew=w11 at BK505 HB HR506_0 hx506_0 hHeld ⊢
       refine aZ [(0,24),(1,25),(2,26),(3,27),(4,28),(5,29)] ?_
       iterate 6 (first | (refine ck HT_ ?_) | (refine dY HT_ HW_ hHeld ?_))
       refine bT (bA 8 63) (by kernel_rfl) ?_;refine dH 6 (N:=some 30) (bA 8 127) HT_ (fun K hK=>?_);refine Kd.qH Tryz.func79 (by kernel_rfl) rfl #[.slice A506_0 (aN l0 (ji6)).length c506_0,.agg #[.string a1_0,.string a1_1,.int .i64 a1_2,.string a1_3,.bool a1_4]] (by rfl) rfl rfl rfl (by (try simp only [List.map_toArray,List.map_cons,List.map_nil]);first | done | (simp only [hji6];rfl) | rfl | (simp only [mh,kY];rfl)) ?_
       with_reducible refine (cB.calls k1 _ _ (aN l0 (ji6)) a1_0 a1_1 a1_2 a1_3 a1_4 t507 _ ?side1 ?side2 A9.out).mono ?_
       (case side1=>exact eH (Kd.cH HR506_0.out HB.out))
       (case side2=>exact HC506_0.out)
       rintro e w12 ⟨rfl,hb⟩
       refine ⟨_,rfl,?_⟩;replace BK505:=fp BK505 hb;replace HB:=aM hb;(try clear hb);(try clear hk);(try clear hi);refine hK.out _ _ ⟨bc BK505 0,bc BK505 1,bc BK505 2,bc BK505 3,bc BK505 4,(bx aq hw506_0)⟩ (fun hHeld=>?_);clear hK K;refine nm 30 ?_;refine wj 7 31 (bA 8 255) HT_ ?_
       refine fX HT_ ?_
       try go_wp2
       go_roundg k1
       case measure=>have:=HK1.out;omega
       case rel=>exact ⟨(wrap64 ((ji6)+1)),(x10_1),(by first | rfl | (simp;done) | (simp only [←hji6]<;>(first | rfl | simp)) | (simp [*];done)),cG,H',⟨by have:=HK1.out;omega⟩,⟨eA BK505.out⟩,⟨aq⟩⟩
      ·
       rw [if_neg ef] at H;have c10b0:decide (t507<0)=false:=decide_eq_false ef;clear ef
       have H':=aS H
       clear H
       try go_wp2
       replace BK505:=aS (ar BK505.out);replace HB:=aS (jS HB.out);have p506:0≤((ji6):Int):=bJ;have q506:(ji6)<(l0.length:Int):=bJ;obtain ⟨ad506,A506_0,c506_0,e506,hx506_0,hl506_0,hi506_0⟩:=rE HR0.out (ji6) p506 q506;have hw506_0:=hx506_0;cases e506;have hB_506_0:=aS hx506_0;replace hx506_0:=bx aq hx506_0;have HR506_0:=aS hi506_0;have HC506_0:=aS hl506_0;clear hi506_0 hl506_0;replace p506:=eq_true p506;replace q506:=eq_true q506;refine di (n:=8) (S:=fun w'=>w'.cell? ⟨gb505,0,none⟩=some (.string a1_0)∧w'.cell? ⟨gb505,1,none⟩=some (.string a1_1)∧w'.cell? ⟨gb505,2,none⟩=some (.int .i64 a1_2)∧w'.cell? ⟨gb505,3,none⟩=some (.string a1_3)∧w'.cell? ⟨gb505,4,none⟩=some (.bool a1_4)∧w'.cell? (ad506.add ((ji6)).toNat)=some (.slice A506_0 (aN l0 (ji6)).length c506_0)) (ds:=[]) (bA 8 0) (by kernel_rfl) rfl rfl ⟨bc BK505 0,bc BK505 1,bc BK505 2,bc BK505 3,bc BK505 4,(bx aq hw506_0)⟩ (fun hHeld=>?_);refine cD bK.qX bK.oJ (fun HT_ HW_=>?_)
       generalize wr.drew=w13 at BK505 HB HR506_0 hx506_0 hHeld ⊢
       refine aZ [(0,24),(1,25),(2,26),(3,27),(4,28),(5,29)] ?_
       iterate 6 (first | (refine ck HT_ ?_) | (refine dY HT_ HW_ hHeld ?_))
       refine bT (bA 8 63) (by kernel_rfl) ?_;refine dH 6 (N:=some 30) (bA 8 127) HT_ (fun K hK=>?_);refine Kd.qH Tryz.func79 (by kernel_rfl) rfl #[.slice A506_0 (aN l0 (ji6)).length c506_0,.agg #[.string a1_0,.string a1_1,.int .i64 a1_2,.string a1_3,.bool a1_4]] (by rfl) rfl rfl rfl (by (try simp only [List.map_toArray,List.map_cons,List.map_nil]);first | done | (simp only [hji6];rfl) | rfl | (simp only [mh,kY];rfl)) ?_
       with_reducible refine (cB.calls k1 _ _ (aN l0 (ji6)) a1_0 a1_1 a1_2 a1_3 a1_4 t507 _ ?side1 ?side2 A9.out).mono ?_
       (case side1=>exact eH (Kd.cH HR506_0.out HB.out))
       (case side2=>exact HC506_0.out)
       rintro e w14 ⟨rfl,hb⟩
       refine ⟨_,rfl,?_⟩;replace BK505:=fp BK505 hb;replace HB:=aM hb;(try clear hb);(try clear hk);(try clear hi);refine hK.out _ _ ⟨bc BK505 0,bc BK505 1,bc BK505 2,bc BK505 3,bc BK505 4,(bx aq hw506_0)⟩ (fun hHeld=>?_);clear hK K;refine nm 30 ?_;refine wj 7 31 (bA 8 255) HT_ ?_
       refine fX HT_ ?_
       try go_wp2
       go_roundg k1
       case measure=>have:=HK1.out;omega
       case rel=>exact ⟨(x9_1),(ji6),cG,(by first | rfl | (simp;done) | (simp only [←hji6]<;>(first | rfl | simp)) | (simp [*];done)),H',⟨by have:=HK1.out;omega⟩,⟨eA BK505.out⟩,⟨aq⟩⟩
     ·
      rw [if_neg c8] at H;exact absurd H (by simp)
    ·
     rw [if_neg c7] at H;exact absurd H (by simp)
   ·
    rw [if_neg c5] at H;have c5b0:decide (x9_1<x10_1)=false:=decide_eq_false c5;clear c5
    by_cases c15:x9_1<(l0.length:Int)
    ·
     rw [if_pos c15] at H;have c15b0:decide (x9_1<(l0.length:Int))=true:=decide_eq_true c15;clear c15
     by_cases c16:0≤x9_1
     ·
      rw [if_pos c16] at H;have c16b0:decide (0≤x9_1)=true:=decide_eq_true c16;clear c16
      by_cases c17:x9_1<(l0.length:Int)
      ·
       rw [if_pos c17] at H;have c17b0:decide (x9_1<(l0.length:Int))=true:=decide_eq_true c17;clear c17;replace H:=bU H;obtain ⟨t509,A180,H⟩:=H;have A18:=aS A180;clear A180
       simp only [Option.some.injEq,Prod.mk.injEq] at H
       obtain ⟨rfl,rfl⟩:=H
       try go_wp2
       replace BK505:=aS (ar BK505.out);replace HB:=aS (jS HB.out);have p508:0≤(x9_1:Int):=bJ;have q508:x9_1<(l0.length:Int):=bJ;obtain ⟨ad508,A508_0,c508_0,e508,hx508_0,hl508_0,hi508_0⟩:=rE HR0.out x9_1 p508 q508;have hw508_0:=hx508_0;cases e508;have hB_508_0:=aS hx508_0;replace hx508_0:=bx aq hx508_0;have HR508_0:=aS hi508_0;have HC508_0:=aS hl508_0;clear hi508_0 hl508_0;replace p508:=eq_true p508;replace q508:=eq_true q508;refine di (n:=16) (S:=fun w'=>w'.cell? ⟨gb505,0,none⟩=some (.string a1_0)∧w'.cell? ⟨gb505,1,none⟩=some (.string a1_1)∧w'.cell? ⟨gb505,2,none⟩=some (.int .i64 a1_2)∧w'.cell? ⟨gb505,3,none⟩=some (.string a1_3)∧w'.cell? ⟨gb505,4,none⟩=some (.bool a1_4)∧w'.cell? (ad508.add (x9_1).toNat)=some (.slice A508_0 (aN l0 x9_1).length c508_0)) (ds:=[]) (bA 16 0) (by kernel_rfl) rfl rfl ⟨bc BK505 0,bc BK505 1,bc BK505 2,bc BK505 3,bc BK505 4,(bx aq hw508_0)⟩ (fun hHeld=>?_);refine cD bK.tW bK.rK (fun HT_ HW_=>?_)
       generalize wr.drew=w19 at BK505 HB HR508_0 hx508_0 hHeld ⊢
       refine aZ [(0,35),(1,36),(2,37),(3,38),(4,39),(5,40),(6,41),(7,42),(8,43),(9,44),(10,45)] ?_
       iterate 11 (first | (refine ck HT_ ?_) | (refine dY HT_ HW_ hHeld ?_))
       refine bT (bA 16 2047) (by kernel_rfl) ?_;refine dH 11 (N:=some 46) (bA 16 4095) HT_ (fun K hK=>?_);refine Kd.qH Tryz.func79 (by kernel_rfl) rfl #[.slice A508_0 (aN l0 x9_1).length c508_0,.agg #[.string a1_0,.string a1_1,.int .i64 a1_2,.string a1_3,.bool a1_4]] (by rfl) rfl rfl rfl D8 ?_
       with_reducible refine (cB.calls k1 _ _ (aN l0 x9_1) a1_0 a1_1 a1_2 a1_3 a1_4 t509 _ ?side1 ?side2 A18.out).mono ?_
       (case side1=>exact eH (Kd.cH HR508_0.out HB.out))
       (case side2=>exact HC508_0.out)
       rintro e w20 ⟨rfl,hb⟩
       refine ⟨_,rfl,?_⟩;replace BK505:=fp BK505 hb;replace HB:=aM hb;(try clear hb);(try clear hk);(try clear hi);refine hK.out _ _ ⟨bc BK505 0,bc BK505 1,bc BK505 2,bc BK505 3,bc BK505 4,(bx aq hw508_0)⟩ (fun hHeld=>?_);clear hK K;refine nm 46 ?_;refine aZ [(12,47),(13,48),(14,6),(15,7)] ?_
       iterate 4 (refine ck HT_ ?_)
       refine bT (bA 16 65535) (by kernel_rfl) ?_;refine fX HT_ ?_
       try go_wp2
       go_ret2
       exact ⟨dP,aq⟩
      ·
       rw [if_neg c17] at H;exact absurd H (by simp)
     ·
      rw [if_neg c16] at H;exact absurd H (by simp)
    ·
     rw [if_neg c15] at H;have c15b0:decide (x9_1<(l0.length:Int))=false:=decide_eq_false c15;clear c15
     simp only [Option.some.injEq,Prod.mk.injEq] at H
     obtain ⟨rfl,rfl⟩:=H
     try go_wp2
     replace BK505:=aS (ar BK505.out);replace HB:=aS (jS HB.out);refine di (n:=16) (S:=fun w'=>True) (ds:=[]) (bA 16 0) (by kernel_rfl) rfl rfl trivial (fun hHeld=>?_);refine cD bK.tW bK.rK (fun HT_ HW_=>?_)
     generalize wr.drew=w21 at BK505 HB hHeld ⊢
     refine aZ [(0,35),(1,36),(2,37),(3,38),(4,39),(5,40),(6,41),(7,42),(8,43),(9,44),(10,45),(11,46),(12,47),(13,48),(14,6),(15,7)] ?_
     iterate 16 (first | (refine nR HT_ ?_) | (refine ck HT_ ?_))
     refine bT (bA 16 65535) (by kernel_rfl) ?_;refine fX HT_ ?_
     try go_wp2
     go_ret2
     exact ⟨dP,aq⟩
def dA.f (k:Nat) (bs:List (List au)) (fl:List Int) (a b:ByteArray) (t:Int):Option (ByteArray × ByteArray × Int × ByteArray × Bool × Bool):=
 (eU.f k fl a b).bind fun m=>if m=true then (bK.f k bs a b t ⟨#[]⟩ false).bind fun q=>if q.1=(bs.length:Int) then some (⟨#[]⟩,⟨#[]⟩,0,⟨#[]⟩,false,false) else if 0≤q.1∧q.1<(bs.length:Int) then cA.f k (bs.getD q.1.toNat []) a b t else none else some (⟨#[]⟩,⟨#[]⟩,0,⟨#[]⟩,false,false)
theorem dA.mono:∀ a0 a1 a2 a3 a4 k,aH (dA.f k a0 a1 a2 a3 a4) (dA.f (k+1) a0 a1 a2 a3 a4):=fun _ _ _ _ _ _=>
 aH.bind (eU.mono _ _ _ _) fun _=>aH.ite (aH.bind (bK.mono _ _ _ _ _ _ _) fun _=>aH.ite (aH.refl _) (aH.ite (cA.mono _ _ _ _ _) (aH.refl _))) (aH.refl _)
theorem dA.at {w:World} {A:Option Addr} {n:Nat} {bs:List (List au)} (h:Kd.C (Kd.slice 34 cm) w A n bs) (i:Nat) (h1:i<n):∃ ad A0 c0,A=some ad∧w.cell? (ad.add i)=some (.slice A0 (bs.getD i []).length c0)∧(bs.getD i []).length≤c0∧Kd.C cm w A0 (bs.getD i []).length (bs.getD i []):=by
 obtain ⟨ad,c,e,_,hK,hc0⟩:=Kd.lR h ([]:List au) (i:Int) (by omega) (by omega);rw [Int.toNat_natCast] at hK hc0
 have hc:∀ j u,c[j]? = some u→w.cell? (ad.add (i*1+j))=some u:=hc0
 obtain ⟨A0,c0,rfl,l0,g0⟩:=hK;exact ⟨ad,A0,c0,e,by have hq:=hc 0 _ rfl;rwa [Nat.mul_one,Nat.add_zero] at hq,l0,g0⟩
theorem dA.calls (k:Nat) (g base:Nat) (l:List au) (bs:List (List au)) (fl:List Int) (a b:ByteArray) (t:Int) (r1 r2:ByteArray) (r3:Int) (r4:ByteArray) (r5 r6:Bool) (w:World) (hA:aJ.At w base g l bs fl) (h:dA.f k bs fl a b t=some (r1,r2,r3,r4,r5,r6)) :
  Calls Tryz.prog 55 #[.pointer (some ⟨g,0,none⟩),.string a,.string b,.int .i64 t] w fun e w'=>e = .returned (.tuple #[.agg #[.string r1,.string r2,.int .i64 r3,.string r4,.bool r5],.bool r6])∧Below w.heap.size w w':=by
 have hu26:=Tryz.underlying51;have hu22:=Tryz.underlying32;have hu39:=Tryz.underlying73;have hu70:=Tryz.underlying111;have hu42:=Tryz.underlying34
 have hsz:(Tryz.prog.info? 34).map (·.size)=some 5:=by
  obtain ⟨i0,hi0,hz⟩:=Option.map_eq_some_iff.1 eO
  simp only [Prod.mk.injEq] at hz
  rw [hi0];simp [hz.2.1]
 obtain ⟨vl,vb,vf,hA⟩:=hA;obtain ⟨Al,cl,rfl⟩:=Kd.bp hA.hl;obtain ⟨Ab,cb,rfl⟩:=Kd.bp hA.hb;obtain ⟨Af,cf,rfl⟩:=Kd.bp hA.hf;have HV:=aS hA;clear hA
 unfold dA.f at h
 replace h:=bU h;obtain ⟨m,x1,h⟩:=h;have X1:=aS x1;clear x1
 cases m with
 | false=>
  rw [if_neg Bool.false_ne_true] at h
  obtain h:=Option.some.inj h
  simp only [Prod.mk.injEq] at h
  obtain ⟨rfl,rfl,rfl,rfl,rfl,rfl⟩:=h
  go_enter Tryz.func55,Tryz.ntmps55
  go_wp2_with (first | ((with_reducible refine gD 8 ?_);refine dK 8 #[.string ⟨#[]⟩,.string ⟨#[]⟩,.int .i64 0,.string ⟨#[]⟩,.bool false] 34 ?_;intro g8 hg w1 hb hbl;have B8:=aS hb;have G8:ah (w.heap.size≤g8):=aS (by rw [hg];exact Nat.le_refl _);have HV1:=aS (HV.out.below hbl);have HB1:=aS hbl;clear hg hb hbl HV) | (go_at_call 77;(with_reducible refine (eU.calls k g base l bs fl a b false _ HV1.out.up X1.out).mono ?_);rintro e_ w2 ⟨rfl,hb⟩;have B82:=aS (aI B8.out hb);have HV2:=aS (HV1.out.below hb);have HB2:=aS (aE HB1.out hb);clear hb B8 HV1 HB1) | ((with_reducible refine dO (t:=34) (p:=8) rfl ?_);refine wpList_store_row rfl 34 _ _ rfl g8 #[.string ⟨#[]⟩,.string ⟨#[]⟩,.int .i64 0,.string ⟨#[]⟩,.bool false] rfl rfl 34 _ B82.out (by kernel_rfl) rfl (by kernel_rfl) ?_;have BZ:=aS (setRow_heap w2 g8 _ #[.string ⟨#[]⟩,.string ⟨#[]⟩,.int .i64 0,.string ⟨#[]⟩,.bool false] _ _ B82.out);have HZ:=aS (cV HB2.out G8.out #[.string ⟨#[]⟩,.string ⟨#[]⟩,.int .i64 0,.string ⟨#[]⟩,.bool false]);clear B82 HB2;generalize World.setRow w2 g8 #[.string ⟨#[]⟩,.string ⟨#[]⟩,.int .i64 0,.string ⟨#[]⟩,.bool false]=wz at BZ HZ ⊢))
  try simp only [Exit.inBlock,Exit.then]
  refine bodyPost_ret (jN rfl _ _ g8 34 #[.string ⟨#[]⟩,.string ⟨#[]⟩,.int .i64 0,.string ⟨#[]⟩,.bool false] (0,0) _ rfl BZ.out hu42 rfl (by kernel_rfl)) rfl ?_;exact ⟨rfl,HZ.out⟩
 | true=>
 rw [if_pos rfl] at h;replace h:=bU h;obtain ⟨⟨q1,q2⟩,x2,h⟩:=h;have X2:=aS x2;have H:=aS h;clear x2 h
 go_enter Tryz.func55,Tryz.ntmps55
 go_upto_region 4 with (first | ((with_reducible refine gD 8 ?_);refine dK 8 #[.string ⟨#[]⟩,.string ⟨#[]⟩,.int .i64 0,.string ⟨#[]⟩,.bool false] 34 ?_;intro g8 hg w1 hb hbl;have B8:=aS hb;have G8:ah (w.heap.size≤g8):=aS (by rw [hg];exact Nat.le_refl _);have HV1:=aS (HV.out.below hbl);have HB1:=aS hbl;clear hg hb hbl HV) | (go_at_call 77;(with_reducible refine (eU.calls k g base l bs fl a b true _ HV1.out.up X1.out).mono ?_);rintro e_ w2 ⟨rfl,hb⟩;have B82:=aS (aI B8.out hb);have HV2:=aS (HV1.out.below hb);have HB2:=aS (aE HB1.out hb);clear hb B8 HV1 HB1) | ((with_reducible refine gD 10 ?_);refine dK 10 #[.string ⟨#[]⟩,.string ⟨#[]⟩,.int .i64 0,.string ⟨#[]⟩,.bool false] 34 ?_;intro g10 hg w3 hb hbl;have B10:=aS hb;have G10:ah (w2.heap.size≤g10):=aS (by rw [hg];exact Nat.le_refl _);have HL3:=aS hbl;clear hg hb hbl) | ((with_reducible refine dO (t:=34) (p:=10) rfl ?_);refine wpList_store_row rfl 34 _ _ rfl g10 #[.string a,.string b,.int .i64 t,.string ⟨#[]⟩,.bool false] rfl rfl 34 _ B10.out (by kernel_rfl) rfl (by kernel_rfl) ?_;have BW:=aS (setRow_heap w3 g10 _ #[.string a,.string b,.int .i64 t,.string ⟨#[]⟩,.bool false] _ _ B10.out);have HS:=aS (cV HL3.out G10.out #[.string a,.string b,.int .i64 t,.string ⟨#[]⟩,.bool false]);have B83:=aS (aI B82.out HS.out);have HV3:=aS (HV2.out.below HS.out);have HB3:=aS (aE HB2.out HS.out);clear B10 HL3 HS G10 B82 HV2 HB2;generalize World.setRow w3 g10 #[.string a,.string b,.int .i64 t,.string ⟨#[]⟩,.bool false]=w4 at BW B83 HV3 HB3 ⊢))
 refine di (n:=11) (ds:=[]) (S:=fun w'=>w'.cell? ⟨g,1,none⟩=some (.slice Ab bs.length cb)∧w'.rangeAt g10 0 [.string a,.string b,.int .i64 t,.string ⟨#[]⟩,.bool false]) (bA 11 0) (by kernel_rfl) rfl rfl ⟨(aC (ar HV3.out.cU) 1).trans rfl,gY (ar BW.out)⟩ (fun hHeld=>?_)
 generalize hw_:World.drew _=wd at hHeld ⊢
 have HVd:ah (aJ.oD wd base g _ _ _ l bs fl):=aS (hw_▸HV3.out.below (bH (Below.refl _ _)));have HBd:ah (Below w.heap.size w wd):=aS (hw_▸aE HB3.out (bH (Below.refl _ _)));have B8d:ah (wd.heap[g8]? = _):=aS (hw_▸ar B83.out);have BWd:ah (wd.heap[g10]? = _):=aS (hw_▸ar BW.out);clear hw_ HV3 HB3 B83 BW;refine cD (T:=(true,[([],[]),([0],[0]),([1],[1]),([2],[2]),([],[]),([3,4],[3,4]),([5],[5]),([6],[6]),([6],[6]),([7,5,0,1,2,3,4,5,6,7],[7]),([8,9,0,1,2,3,4,5,6,7,8,9],[8])])) (B:=[0,1,3,7,0,31,63,127,127,255,1023]) (by kernel_rfl) (by kernel_rfl) (fun HT_ HW_=>?_);refine aZ [(0,24),(1,25),(2,26)] ?_
 iterate 3 (refine ck HT_ ?_)
 refine bT (bA 11 7) (by kernel_rfl) ?_;refine aZ [(3,27)] ?_
 iterate 1 (refine dY HT_ HW_ hHeld ?_)
 refine bT (bA 11 15) (by kernel_rfl) ?_;refine ij (i:=4) (N:=(some 28)) (v:=.agg #[.string a,.string b,.int .i64 t,.string ⟨#[]⟩,.bool false]) (a':=?_) (bA 11 31) rfl rfl (iz HT_.out HW_.out (by kernel_rfl)) (fun _ _ _ h=>h) (yieldsIf_load_mid (by rfl) 34 _ rfl g10 0 (by go_simp) _ _ (fun w' hw'=>hw'.2) hu42 rfl hsz) hHeld ?_ ?_
 rotate_left
 ·
  simp only [Act.put,eI,eG,lss,cC,dw]
  rfl
 refine dH 5 (N:=some 29) (bA 11 63) HT_ (fun K hK=>?_);refine gb Tryz.func78 #[.slice Ab bs.length cb,.agg #[.string a,.string b,.int .i64 t,.string ⟨#[]⟩,.bool false],.func (.func 79) #[] #[]] ?_
 with_reducible refine (bK.calls k Ab cb bs a b t ⟨#[]⟩ false q1 q2 _ (Kd.aY HVd.out.hb).2.2 (Kd.aY HVd.out.hb).2.1 X2.out).mono ?_
 rintro e_ w5 ⟨rfl,hb⟩
 refine ⟨_,rfl,?_⟩;have HV5:=aS (HVd.out.below hb);have HB5:=aS (aE HBd.out hb);have B85:=aS (aI B8d.out hb);have BW5:=aS (aI BWd.out hb);clear hb HVd HBd B8d BWd;refine hK.out _ _ ⟨(aC HV5.out.cU 1).trans rfl,gY BW5.out⟩ (fun hHeld=>?_);clear hK K;refine nm 29 ?_;refine aZ [(6,23),(7,30),(8,31),(9,11),(10,12)] ?_
 iterate 5 (refine ck HT_ ?_)
 refine bT (bA 11 2047) (by kernel_rfl) ?_;refine fX HT_ ?_;clear HT_ HW_ hHeld BW5;have h:=H.out;clear H;have q3:=iw (aS HV5.out.cU)
 by_cases he:q1=(bs.length:Int)
 ·
  rw [if_pos he] at h;obtain ⟨he1,he2⟩:=jh he
  obtain h:=Option.some.inj h
  simp only [Prod.mk.injEq] at h
  obtain ⟨rfl,rfl,rfl,rfl,rfl,rfl⟩:=h;clear he
  go_wp2_with (first | ((with_reducible refine dO (t:=34) (p:=8) rfl ?_);refine wpList_store_row rfl 34 _ _ rfl g8 #[.string ⟨#[]⟩,.string ⟨#[]⟩,.int .i64 0,.string ⟨#[]⟩,.bool false] rfl rfl 34 _ B85.out (by kernel_rfl) rfl (by kernel_rfl) ?_;have BZ:=aS (setRow_heap w5 g8 _ #[.string ⟨#[]⟩,.string ⟨#[]⟩,.int .i64 0,.string ⟨#[]⟩,.bool false] _ _ B85.out);have HZ:=aS (cV HB5.out G8.out #[.string ⟨#[]⟩,.string ⟨#[]⟩,.int .i64 0,.string ⟨#[]⟩,.bool false]);clear B85 HB5;generalize World.setRow w5 g8 #[.string ⟨#[]⟩,.string ⟨#[]⟩,.int .i64 0,.string ⟨#[]⟩,.bool false]=wz at BZ HZ ⊢))
  try simp only [Exit.inBlock,Exit.then]
  refine bodyPost_ret (jN rfl _ _ g8 34 #[.string ⟨#[]⟩,.string ⟨#[]⟩,.int .i64 0,.string ⟨#[]⟩,.bool false] (0,0) _ rfl BZ.out hu42 rfl (by kernel_rfl)) rfl ?_;exact ⟨rfl,HZ.out⟩
 rw [if_neg he] at h;obtain ⟨he1,he2⟩:=iT he;clear he
 by_cases hlim:0≤q1∧q1<(bs.length:Int)
 case neg=>rw [if_neg hlim] at h;cases h
 replace h:(if 0≤q1∧q1<(bs.length:Int) then cA.f k (bs.getD q1.toNat []) a b t else none)=some (r1,r2,r3,r4,r5,r6):=h;rw [if_pos hlim] at h
 obtain ⟨i,rfl⟩:∃ i:Nat,q1=(i:Int):=⟨q1.toNat,by omega⟩
 rw [Int.toNat_natCast] at h;have X3:=aS h;have hq0:=hlim.1;have hq1:=hlim.2;clear h hlim;obtain ⟨ad,An,cn,e_,hx,hnc,hn⟩:=dA.at (Kd.aY HV5.out.hb).2.2 i (by omega);subst e_
 obtain ⟨bi,hbi⟩:∃ x,x=bs.getD i []:=⟨_,rfl⟩
 rw [←hbi] at hx hnc hn X3;clear hbi
 have hix:∀ W:World,(Instr.indexAt 73 (.slice (some ad) bs.length cb) (.int .i64 (i:Int))).run Tryz.prog W = .ok (.pointer (some (ad.add i))) W:=by
  obtain ⟨i0,hi0,hz⟩:=Option.map_eq_some_iff.1 qj
  simp only [Prod.mk.injEq] at hz
  have:=gH 73 32 hu39 hi0 1 hz.2.1 ad bs.length cb (i:Int) hq0 hq1
  intro W
  have h1:=this W;rw [Nat.mul_one,Int.toNat_natCast] at h1;exact h1
 have HN:=aS hn;have HNc:=aS hnc;clear hn hnc hq0 HV5
 go_wp2_with (first | (go_at_call 76;(with_reducible refine (cA.calls k An cn bi a b t r1 r2 r3 r4 r5 r6 _ HN.out HNc.out X3.out).mono ?_);rintro e_ w7 ⟨rfl,hb⟩;have B87:=aS (aI B85.out hb);have HB7:=aS (aE HB5.out hb);clear hb B85 HB5) | ((with_reducible refine dO (t:=34) (p:=8) rfl ?_);refine wpList_store_row rfl 34 _ _ rfl g8 #[.string r1,.string r2,.int .i64 r3,.string r4,.bool r5] rfl rfl 34 _ B87.out (by kernel_rfl) rfl (by kernel_rfl) ?_;have BZ:=aS (setRow_heap w7 g8 _ #[.string r1,.string r2,.int .i64 r3,.string r4,.bool r5] _ _ B87.out);have HZ:=aS (cV HB7.out G8.out #[.string r1,.string r2,.int .i64 r3,.string r4,.bool r5]);clear B87 HB7;generalize World.setRow w7 g8 #[.string r1,.string r2,.int .i64 r3,.string r4,.bool r5]=wz at BZ HZ ⊢))
 try simp only [Exit.inBlock,Exit.then]
 refine bodyPost_ret (jN rfl _ _ g8 34 #[.string r1,.string r2,.int .i64 r3,.string r4,.bool r5] (0,0) _ rfl BZ.out hu42 rfl (by kernel_rfl)) rfl ?_;exact ⟨rfl,HZ.out⟩
-- pW dA
theorem jQ.nZ (k N pc pi:Nat) (gm basem:Nat) (xs:List au) (n:Int) (vm:Value) (c0 c1:ByteArray) (c2:Int) (c3:ByteArray) (c4 b:Bool) (r1 r2:ByteArray) (r3:Int) (r4:ByteArray) (r5 r6:Bool) (w:World) (hc:w.heap[pc]? = some (.cells #[.string c0,.string c1,.int .i64 c2,.string c3,.bool c4] 34 (0,0))) (hi:w.heap[pi]? = some (.cells #[.bool b] 4 (0,0))) (hN:N≤pi) (hNw:N≤w.heap.size) (hA:cg.At w basem gm xs n vm) (h:cA.f k xs c0 c1 c2=some (r1,r2,r3,r4,r5,r6)) :
  Calls Tryz.prog 45 #[.func (.func 54) #[.pointer (some ⟨gm,0,none⟩)] #[],.pointer (some ⟨pc,0,none⟩),.pointer (some ⟨pi,0,none⟩)] w fun e w'=>e = .returned (.bool (r6 && r3 == c2))∧Below N w w'∧w'.heap[pc]? = some (.cells #[.string c0,.string c1,.int .i64 c2,.string c3,.bool c4] 34 (0,0))∧w'.heap[pi]? = some (.cells #[.bool (r6 && r3 == c2)] 4 (0,0)):=by
 have hu26:=Tryz.underlying34;have BC:=aS hc;have BI:=aS hi;have HN:=aS hN;have HNw:=aS hNw;have HA:=aS hA;have X:=aS h;clear hc hi hN hNw hA h;have q0:=cO BC;have q1:=lX BI
 go_enter Tryz.func45,Tryz.ntmps45
 go_upto_region 2 with (first | (go_at_call 54;(with_reducible refine (pW.calls k gm basem xs n vm c0 c1 c2 r1 r2 r3 r4 r5 r6 _ HA.out X.out).mono ?_);rintro e_ w2 ⟨rfl,hb⟩;have BC2:=aS (aI BC.out hb);have BI2:=aS (aI BI.out hb);have HB2:=aS (hb.mono HNw.out);clear hb q0 q1) | ((with_reducible refine gD 5 ?_);refine dK 5 #[.string ⟨#[]⟩,.string ⟨#[]⟩,.int .i64 0,.string ⟨#[]⟩,.bool false] 34 ?_;intro p5 hg w3 hb hbl;have B5:=aS hb;have G5:ah (w2.heap.size≤p5):=aS (by rw [hg];exact Nat.le_refl _);have HL3:=aS hbl;clear hg hb hbl) | ((with_reducible refine dO (t:=34) (p:=5) rfl ?_);refine wpList_store_row rfl 34 _ _ rfl p5 #[.string r1,.string r2,.int .i64 r3,.string r4,.bool r5] rfl rfl 34 _ B5.out (by kernel_rfl) rfl (by kernel_rfl) ?_;have B6:=aS (setRow_heap w3 p5 _ #[.string r1,.string r2,.int .i64 r3,.string r4,.bool r5] _ _ B5.out);have HS:=aS (cV HL3.out G5.out #[.string r1,.string r2,.int .i64 r3,.string r4,.bool r5]);have BC4:=aS (aI BC2.out HS.out);have BI4:=aS (aI BI2.out HS.out);have HB4:=aS (HB2.out.trans (HS.out.mono (Nat.le_trans HNw.out HB2.out.size)));clear B5 HL3 HS G5 BC2 BI2 HB2;generalize World.setRow w3 p5 #[.string r1,.string r2,.int .i64 r3,.string r4,.bool r5]=w4 at B6 BC4 BI4 HB4 ⊢))
 have q2:=cO BC4;have q3:=lX BI4;have q5:=cO B6
 cases r6 with
 | false=>
  go_upto_region 3 with (fail)
  generalize hw_:World.setCell w4 ⟨pi,0,none⟩ (.bool false)=w5
  have BC5:ah (w5.heap[pc]? = _):=aS (hw_▸dR BC4.out (by intro e;have h1:=BC4.out;rw [e,BI4.out] at h1;injection h1 with h1;injection h1 with h1 h2;exact absurd h2 (by decide)) (.bool false) (p:=⟨pi,0,none⟩));have BI5:ah (w5.heap[pi]? = _):=aS (hw_▸bk BI4.out 0 (.bool false) rfl);have HB5:ah (Below N w w5):=aS (hw_▸HB4.out.setCell (p:=⟨pi,0,none⟩) HN.out _);clear hw_ BC4 BI4 HB4 q2 q3 q5;have q1:=lX BI5
  go_wp2
  go_ret
  exact ⟨rfl,HB5.out,BC5.out,BI5.out⟩
 | true=>
  by_cases he:r3=c2
  ·
   obtain ⟨he1,he2⟩:=jh he;subst he
   go_upto_region 3 with (fail)
   generalize hw_:World.setCell w4 ⟨pi,0,none⟩ (.bool true)=w5
   have BC5:ah (w5.heap[pc]? = _):=aS (hw_▸dR BC4.out (by intro e;have h1:=BC4.out;rw [e,BI4.out] at h1;injection h1 with h1;injection h1 with h1 h2;exact absurd h2 (by decide)) (.bool true) (p:=⟨pi,0,none⟩));have BI5:ah (w5.heap[pi]? = _):=aS (hw_▸bk BI4.out 0 (.bool true) rfl);have HB5:ah (Below N w w5):=aS (hw_▸HB4.out.setCell (p:=⟨pi,0,none⟩) HN.out _);clear hw_ BC4 BI4 HB4 q2 q3 q5;have q1:=lX BI5
   go_wp2
   go_ret
   exact ⟨by simp,HB5.out,BC5.out,by simpa using BI5.out⟩
  ·
   obtain ⟨he1,he2⟩:=iT he
   go_upto_region 3 with (fail)
   generalize hw_:World.setCell w4 ⟨pi,0,none⟩ (.bool false)=w5
   have BC5:ah (w5.heap[pc]? = _):=aS (hw_▸dR BC4.out (by intro e;have h1:=BC4.out;rw [e,BI4.out] at h1;injection h1 with h1;injection h1 with h1 h2;exact absurd h2 (by decide)) (.bool false) (p:=⟨pi,0,none⟩));have BI5:ah (w5.heap[pi]? = _):=aS (hw_▸bk BI4.out 0 (.bool false) rfl);have HB5:ah (Below N w w5):=aS (hw_▸HB4.out.setCell (p:=⟨pi,0,none⟩) HN.out _);clear hw_ BC4 BI4 HB4 q2 q3 q5;have q1:=lX BI5
   go_wp2
   go_ret
   have hbe:(true && r3 == c2)=false:=(by rw [Bool.true_and];exact beq_false_of_ne he);exact ⟨by rw [hbe];rfl,HB5.out,BC5.out,by rw [hbe];exact BI5.out⟩
theorem jQ.ou (k N pc pi:Nat) (gx:Nat) (l:List au) (bs:List (List au)) (fl:List Int) (c0 c1:ByteArray) (c2:Int) (c3:ByteArray) (c4 b:Bool) (r1 r2:ByteArray) (r3:Int) (r4:ByteArray) (r5 r6:Bool) (w:World) (hc:w.heap[pc]? = some (.cells #[.string c0,.string c1,.int .i64 c2,.string c3,.bool c4] 34 (0,0))) (hi:w.heap[pi]? = some (.cells #[.bool b] 4 (0,0))) (hN:N≤pi) (hNw:N≤w.heap.size) (hA:aJ.At w 0 gx l bs fl) (h:dA.f k bs fl c0 c1 c2=some (r1,r2,r3,r4,r5,r6)) :
  Calls Tryz.prog 45 #[.func (.func 55) #[.pointer (some ⟨gx,0,none⟩)] #[],.pointer (some ⟨pc,0,none⟩),.pointer (some ⟨pi,0,none⟩)] w fun e w'=>e = .returned (.bool (r6 && r3 == c2))∧Below N w w'∧w'.heap[pc]? = some (.cells #[.string c0,.string c1,.int .i64 c2,.string c3,.bool c4] 34 (0,0))∧w'.heap[pi]? = some (.cells #[.bool (r6 && r3 == c2)] 4 (0,0)):=by
 have hu26:=Tryz.underlying34;have BC:=aS hc;have BI:=aS hi;have HN:=aS hN;have HNw:=aS hNw;have HA:=aS hA;have X:=aS h;clear hc hi hN hNw hA h;have q0:=cO BC;have q1:=lX BI
 go_enter Tryz.func45,Tryz.ntmps45
 go_upto_region 2 with (first | (go_at_call 55;(with_reducible refine (dA.calls k gx 0 l bs fl c0 c1 c2 r1 r2 r3 r4 r5 r6 _ HA.out X.out).mono ?_);rintro e_ w2 ⟨rfl,hb⟩;have BC2:=aS (aI BC.out hb);have BI2:=aS (aI BI.out hb);have HB2:=aS (hb.mono HNw.out);clear hb q0 q1) | ((with_reducible refine gD 5 ?_);refine dK 5 #[.string ⟨#[]⟩,.string ⟨#[]⟩,.int .i64 0,.string ⟨#[]⟩,.bool false] 34 ?_;intro p5 hg w3 hb hbl;have B5:=aS hb;have G5:ah (w2.heap.size≤p5):=aS (by rw [hg];exact Nat.le_refl _);have HL3:=aS hbl;clear hg hb hbl) | ((with_reducible refine dO (t:=34) (p:=5) rfl ?_);refine wpList_store_row rfl 34 _ _ rfl p5 #[.string r1,.string r2,.int .i64 r3,.string r4,.bool r5] rfl rfl 34 _ B5.out (by kernel_rfl) rfl (by kernel_rfl) ?_;have B6:=aS (setRow_heap w3 p5 _ #[.string r1,.string r2,.int .i64 r3,.string r4,.bool r5] _ _ B5.out);have HS:=aS (cV HL3.out G5.out #[.string r1,.string r2,.int .i64 r3,.string r4,.bool r5]);have BC4:=aS (aI BC2.out HS.out);have BI4:=aS (aI BI2.out HS.out);have HB4:=aS (HB2.out.trans (HS.out.mono (Nat.le_trans HNw.out HB2.out.size)));clear B5 HL3 HS G5 BC2 BI2 HB2;generalize World.setRow w3 p5 #[.string r1,.string r2,.int .i64 r3,.string r4,.bool r5]=w4 at B6 BC4 BI4 HB4 ⊢))
 have q2:=cO BC4;have q3:=lX BI4;have q5:=cO B6
 cases r6 with
 | false=>
  go_upto_region 3 with (fail)
  generalize hw_:World.setCell w4 ⟨pi,0,none⟩ (.bool false)=w5
  have BC5:ah (w5.heap[pc]? = _):=aS (hw_▸dR BC4.out (by intro e;have h1:=BC4.out;rw [e,BI4.out] at h1;injection h1 with h1;injection h1 with h1 h2;exact absurd h2 (by decide)) (.bool false) (p:=⟨pi,0,none⟩));have BI5:ah (w5.heap[pi]? = _):=aS (hw_▸bk BI4.out 0 (.bool false) rfl);have HB5:ah (Below N w w5):=aS (hw_▸HB4.out.setCell (p:=⟨pi,0,none⟩) HN.out _);clear hw_ BC4 BI4 HB4 q2 q3 q5;have q1:=lX BI5
  go_wp2
  go_ret
  exact ⟨rfl,HB5.out,BC5.out,BI5.out⟩
 | true=>
  by_cases he:r3=c2
  ·
   obtain ⟨he1,he2⟩:=jh he;subst he
   go_upto_region 3 with (fail)
   generalize hw_:World.setCell w4 ⟨pi,0,none⟩ (.bool true)=w5
   have BC5:ah (w5.heap[pc]? = _):=aS (hw_▸dR BC4.out (by intro e;have h1:=BC4.out;rw [e,BI4.out] at h1;injection h1 with h1;injection h1 with h1 h2;exact absurd h2 (by decide)) (.bool true) (p:=⟨pi,0,none⟩));have BI5:ah (w5.heap[pi]? = _):=aS (hw_▸bk BI4.out 0 (.bool true) rfl);have HB5:ah (Below N w w5):=aS (hw_▸HB4.out.setCell (p:=⟨pi,0,none⟩) HN.out _);clear hw_ BC4 BI4 HB4 q2 q3 q5;have q1:=lX BI5
   go_wp2
   go_ret
   exact ⟨by simp,HB5.out,BC5.out,by simpa using BI5.out⟩
  ·
   obtain ⟨he1,he2⟩:=iT he
   go_upto_region 3 with (fail)
   generalize hw_:World.setCell w4 ⟨pi,0,none⟩ (.bool false)=w5
   have BC5:ah (w5.heap[pc]? = _):=aS (hw_▸dR BC4.out (by intro e;have h1:=BC4.out;rw [e,BI4.out] at h1;injection h1 with h1;injection h1 with h1 h2;exact absurd h2 (by decide)) (.bool false) (p:=⟨pi,0,none⟩));have BI5:ah (w5.heap[pi]? = _):=aS (hw_▸bk BI4.out 0 (.bool false) rfl);have HB5:ah (Below N w w5):=aS (hw_▸HB4.out.setCell (p:=⟨pi,0,none⟩) HN.out _);clear hw_ BC4 BI4 HB4 q2 q3 q5;have q1:=lX BI5
   go_wp2
   go_ret
   have hbe:(true && r3 == c2)=false:=(by rw [Bool.true_and];exact beq_false_of_ne he);exact ⟨by rw [hbe];rfl,HB5.out,BC5.out,by rw [hbe];exact BI5.out⟩
-- tree_Tree_find
def bQ.l1 (k:Nat) (a b:ByteArray) (t:Int):List (List au × List (List au) × List Int)→Option Bool
 | []=>some false
 | x :: r=>(dA.f k x.2.1 x.2.2 a b t).bind fun q=>if (q.2.2.2.2.2 && q.2.2.1 == t)=true then some true else bQ.l1 k a b t r
def bQ.l0 (k:Nat) (a b:ByteArray) (t:Int):List (List (List au × List (List au) × List Int))→Option Bool
 | []=>some false
 | l :: r=>(bQ.l1 k a b t l).bind fun e=>if e=true then some true else bQ.l0 k a b t r
def bQ.f (k:Nat) (xs:List au) (ls:List (List (List au × List (List au) × List Int))) (a b:ByteArray) (t:Int):Option Bool:=(cA.f k xs a b t).bind fun q=>if (q.2.2.2.2.2 && q.2.2.1 == t)=true then some true else bQ.l0 k a b t ls
theorem bQ.qC (k:Nat) (a b:ByteArray) (t:Int):∀ l,aH (bQ.l1 k a b t l) (bQ.l1 (k+1) a b t l)
 | []=>aH.refl _
 | x :: r=>aH.bind (dA.mono _ _ _ _ _ _) fun _=>aH.ite (aH.refl _) (bQ.qC k a b t r)
theorem bQ.qx (k:Nat) (a b:ByteArray) (t:Int):∀ l,aH (bQ.l0 k a b t l) (bQ.l0 (k+1) a b t l)
 | []=>aH.refl _
 | l :: r=>aH.bind (bQ.qC k a b t l) fun _=>aH.ite (aH.refl _) (bQ.qx k a b t r)
theorem bQ.mono:∀ a0 a1 a2 a3 a4 k,aH (bQ.f k a0 a1 a2 a3 a4) (bQ.f (k+1) a0 a1 a2 a3 a4):=fun _ _ _ _ _ k=>aH.bind (cA.mono _ _ _ _ _) fun _=>aH.ite (aH.refl _) (bQ.qx k _ _ _ _)
theorem bQ.find (k pc pi g base:Nat) (ok:Nat→Prop) (s1 s2 s3:Int) (xs:List au) (n:Int) (ls:List (List (List au × List (List au) × List Int))) (c0 c1:ByteArray) (c2:Int) (c3:ByteArray) (c4 r:Bool) (w0 w:World) (hA:ak.At w0 base ok g s1 s2 s3 xs n ls) (hb0:Below w0.heap.size w0 w) (hc:w.heap[pc]? = some (.cells #[.string c0,.string c1,.int .i64 c2,.string c3,.bool c4] 34 (0,0))) (hi:w.heap[pi]? = some (.cells #[.bool false] 4 (0,0))) (hpi:w0.heap.size≤pi) (h:bQ.f k xs ls c0 c1 c2=some r) :
  Calls Tryz.prog 35 #[.pointer (some ⟨g,0,none⟩),.func (.func 45) #[] #[.pointer (some ⟨pc,0,none⟩),.pointer (some ⟨pi,0,none⟩)]] w fun e w'=>e = .returned (.tuple #[])∧Below w0.heap.size w0 w'∧w'.heap[pi]? = some (.cells #[.bool r] 4 (0,0)):=by
 have hu30:=Tryz.underlying27;have hu51:=Tryz.underlying61;have hu23:=Tryz.underlying23;have hu49:=Tryz.underlying59;have hu53:=Tryz.underlying64;have hu24:=Tryz.underlying32;have hu61:=Tryz.underlying73;have hu75:=Tryz.underlying86
 have hmf:∀ (fn:Fn) (first cap:Array Value) (w:World),(Instr.makeFunc fn first cap).run Tryz.prog w = .ok (.func fn first cap) w:=fun _ _ _ _=>rfl
 obtain ⟨gm,vm,vl,vs,hA⟩:=hA;have HA:=aS hA;clear hA
 unfold bQ.f at h
 replace h:=bU h;obtain ⟨⟨r1,r2,r3,r4,r5,r6⟩,x1,h⟩:=h;have X1:=aS x1;have HB:=aS hb0;have BC:=aS hc;have BI:=aS hi;have HPI:=aS hpi;clear x1 hb0 hc hi hpi;obtain ⟨A,cl,rfl,hcl,hmx,hat⟩:=HA.out.at;have HL:=aS HA.out.len;have HMX:=aS hmx;have HAT:=aS hat;have HAW:=aS HA.out;have HA1:=aS (HA.out.below HB.out);clear hat hmx HA;have q0:=cO (aS HA1.out.cU);replace h:(if (r6 && r3 == c2)=true then some true else bQ.l0 k c0 c1 c2 ls)=some r:=h
 by_cases he:(r6 && r3 == c2)=true
 ·
  rw [if_pos he] at h
  obtain rfl:=Option.some.inj h
  have HE:=aS he;clear he h
  go_enter Tryz.func35,Tryz.ntmps35
  go_wp2_with (first | (go_at_call 45;(with_reducible refine (jQ.nZ k w0.heap.size pc pi gm base xs n vm c0 c1 c2 c3 c4 false r1 r2 r3 r4 r5 r6 _ BC.out BI.out HPI.out HB.out.size HA1.out.mem X1.out).mono ?_);rintro e_ w2 ⟨he_,hb,hc_,hi_⟩;rw [HE.out] at he_ hi_;subst he_;have HB2:=aS (HB.out.trans hb);have BC2:=aS hc_;have BI2:=aS hi_;clear hb hc_ hi_ q0;have q0:=cO (aS (HAW.out.below HB2.out).cU)))
  refine bodyPost_ret (results_none rfl _ _ _) rfl ?_;exact ⟨rfl,HB2.out,BI2.out⟩
 replace he:(r6 && r3 == c2)=false:=by simpa using he
 rw [if_neg (by rw [he];exact Bool.false_ne_true)] at h;have H:=aS h;have HE:=aS he;clear he h
 go_enter Tryz.func35,Tryz.ntmps35
 go_wp2_with (first | (go_at_call 45;(with_reducible refine (jQ.nZ k w0.heap.size pc pi gm base xs n vm c0 c1 c2 c3 c4 false r1 r2 r3 r4 r5 r6 _ BC.out BI.out HPI.out HB.out.size HA1.out.mem X1.out).mono ?_);rintro e_ w2 ⟨he_,hb,hc_,hi_⟩;rw [HE.out] at he_ hi_;subst he_;have HB2:=aS (HB.out.trans hb);have BC2:=aS hc_;have BI2:=aS hi_;clear hb hc_ hi_ q0;have q0:=cO (aS (HAW.out.below HB2.out).cU)))
 clear q0 X1 HB BC BI HE
 go_loopw [20] (fun v20 wr=>∃ (i:Nat),v20 = .int .i64 (i:Int)∧ah (i≤vs.length)∧ah (bQ.l0 k c0 c1 c2 (ls.drop i)=some r)∧ah (Below w0.heap.size w0 wr)∧ah (wr.heap[pc]? = some (.cells #[.string c0,.string c1,.int .i64 c2,.string c3,.bool c4] 34 (0,0)))∧ah (wr.heap[pi]? = some (.cells #[.bool false] 4 (0,0)))) (fun i _=>vs.length - (intOf i).toNat)
 case atStart=>exact ⟨0,rfl,⟨Nat.zero_le _⟩,H,HB2,BC2,BI2⟩
 case round=>
  clear H HB2 BC2 BI2;obtain ⟨i,rfl,hi,HA0,HBr,BC,BI⟩:=hrel
  by_cases hlt:i<vs.length
  ·
   have hq1:(i:Int)<(vs.length:Int):=by omega
   obtain ⟨ad,e_,hx⟩:=HAT.out wr (fun k _ hk=>HBr.out.block k hk) i hlt;subst e_;obtain ⟨Ai,ci,ei,hli,hCi⟩:=HAW.out.cells i hlt;rw [ei] at hx;have ha:=HA0.out;rw [ak.nu ls [] i (by rw [←HL.out];exact hlt)] at ha
   obtain ⟨li,hli_⟩:∃ x,x=ls.getD i []:=⟨_,rfl⟩
   rw [←hli_] at ha hx hli hCi
   unfold bQ.l0 at ha
   replace ha:=bU ha;obtain ⟨q,y1,ha⟩:=ha;have Y1:=aS y1;have HA1:=aS ha;have HCI:=aS hCi;have HLI:=aS hCi.2.1
   have hix:∀ W:World,(Instr.indexAt 59 (.slice (some ad) vs.length cl) (.int .i64 (i:Int))).run Tryz.prog W = .ok (.pointer (some (ad.add i))) W:=by
    obtain ⟨i0,hi0,hz⟩:=Option.map_eq_some_iff.1 mV
    simp only [Prod.mk.injEq] at hz
    intro W
    have h1:=gH 59 64 hu49 hi0 1 hz.2.1 ad vs.length cl (i:Int) (by omega) (by omega) W
    rwa [Nat.mul_one,Int.toNat_natCast] at h1
   have hwr:wrap64 ((i:Int)+1)=(i:Int)+1:=by rw [←cC,IntKind.wrap_i64];have:=HMX.out;omega
   clear y1 ha HA0 hCi hi hli_ ei hli
   go_wp2
   go_loopw [26] (fun v26 wi=>∃ (j:Nat),v26 = .int .i64 (j:Int)∧ah (j≤li.length)∧ah (bQ.l1 k c0 c1 c2 (li.drop j)=some q)∧ah (Below w0.heap.size w0 wi)∧ah (wi.heap[pc]? = some (.cells #[.string c0,.string c1,.int .i64 c2,.string c3,.bool c4] 34 (0,0)))∧ah (wi.heap[pi]? = some (.cells #[.bool false] 4 (0,0)))) (fun j _=>li.length - (intOf j).toNat)
   case atStart=>exact ⟨0,rfl,⟨Nat.zero_le _⟩,Y1,HBr,BC,BI⟩
   case round=>
    clear HBr Y1 hx BC BI;obtain ⟨j,rfl,hj,HP,HBr,BC,BI⟩:=hrel
    by_cases hlj:j<li.length
    ·
     have hj1:(j:Int)<(li.length:Int):=by omega
     obtain ⟨ad2,gx,e_,hy,hOP⟩:=ak.uP (Kd.cH HCI.out HBr.out) j hlj;subst e_;have ha:=HP.out;rw [ak.nu li ([],[],[]) j hlj] at ha
     obtain ⟨x,hx_⟩:∃ x,x=li.getD j ([],[],[]):=⟨_,rfl⟩
     rw [←hx_] at ha hOP
     unfold bQ.l1 at ha
     replace ha:=bU ha;obtain ⟨⟨r1,r2,r3,r4,r5,r6⟩,y2,ha⟩:=ha;replace ha:(if (r6 && r3 == c2)=true then some true else bQ.l1 k c0 c1 c2 (li.drop (j+1)))=some q:=ha;have Y2:=aS y2;have HOP:=aS hOP
     have hiy:∀ W:World,(Instr.indexAt 64 (.slice (some ad2) li.length ci) (.int .i64 (j:Int))).run Tryz.prog W = .ok (.pointer (some (ad2.add j))) W:=by
      obtain ⟨i0,hi0,hz⟩:=Option.map_eq_some_iff.1 qF
      simp only [Prod.mk.injEq] at hz
      intro W
      have h1:=gH 64 86 hu53 hi0 1 hz.2.1 ad2 li.length ci (j:Int) (by omega) (by omega) W
      rwa [Nat.mul_one,Int.toNat_natCast] at h1
     have hwj:wrap64 ((j:Int)+1)=(j:Int)+1:=by rw [←cC,IntKind.wrap_i64];have:=HLI.out;omega
     clear y2 HP hOP hj hx_
     by_cases he:(r6 && r3 == c2)=true
     ·
      rw [if_pos he] at ha
      obtain rfl:=Option.some.inj ha
      have HE:=aS he;have ha:=HA1.out;rw [if_pos rfl] at ha
      obtain rfl:=Option.some.inj ha
      clear he ha
      go_wp2_with (first | (go_at_call 45;(with_reducible refine (jQ.ou k w0.heap.size pc pi gx x.1 x.2.1 x.2.2 c0 c1 c2 c3 c4 false r1 r2 r3 r4 r5 r6 _ BC.out BI.out HPI.out HBr.out.size HOP.out Y2.out).mono ?_);rintro e_ w2 ⟨he_,hb,hc_,hi_⟩;rw [HE.out] at he_ hi_;subst he_;have HB2:=aS (HBr.out.trans hb);have BC2:=aS hc_;have BI2:=aS hi_;clear hb hc_ hi_))
      refine bodyPost_ret (results_none rfl _ _ _) rfl ?_;exact ⟨rfl,HB2.out,BI2.out⟩
     ·
      replace he:(r6 && r3 == c2)=false:=by simpa using he
      rw [if_neg (by rw [he];exact Bool.false_ne_true)] at ha;have HE:=aS he;have HP1:=aS ha;clear he ha
      go_wp2_with (first | (go_at_call 45;(with_reducible refine (jQ.ou k w0.heap.size pc pi gx x.1 x.2.1 x.2.2 c0 c1 c2 c3 c4 false r1 r2 r3 r4 r5 r6 _ BC.out BI.out HPI.out HBr.out.size HOP.out Y2.out).mono ?_);rintro e_ w2 ⟨he_,hb,hc_,hi_⟩;rw [HE.out] at he_ hi_;subst he_;have HB2:=aS (HBr.out.trans hb);have BC2:=aS hc_;have BI2:=aS hi_;clear hb hc_ hi_))
      go_roundw
      case rel=>exact ⟨j+1,by rw [hwj];rfl,⟨hlj⟩,HP1,HB2,BC2,BI2⟩
      case measure=>exact iV hwj hlj
    ·
     have hge:¬ ((j:Int)<(li.length:Int)):=by omega
     have ha:=HP.out;rw [List.drop_eq_nil_of_le (show li.length≤j by omega)] at ha
     unfold bQ.l1 at ha
     obtain e1:=Option.some.inj ha
     subst e1;have HA2:=HA1.out;rw [if_neg Bool.false_ne_true] at HA2;have HA3:=aS HA2;clear ha HP HA2
     go_wp2
     go_roundw
     case rel=>exact ⟨i+1,by rw [hwr];rfl,⟨hlt⟩,HA3,HBr,BC,BI⟩
     case measure=>exact iV hwr hlt
  ·
   have hge:¬ ((i:Int)<(vs.length:Int)):=by omega
   have ha:=HA0.out;rw [List.drop_eq_nil_of_le (show ls.length≤i by rw [←HL.out];omega)] at ha
   unfold bQ.l0 at ha
   obtain e1:=Option.some.inj ha
   subst e1
   go_wp2
   go_end0
   exact ⟨rfl,HBr.out,BI.out⟩
theorem bQ.calls (k g base:Nat) (ok:Nat→Prop) (s1 s2 s3:Int) (xs:List au) (n:Int) (ls:List (List (List au × List (List au) × List Int))) (c0 c1:ByteArray) (c2:Int) (c3:ByteArray) (c4 r:Bool) (w:World) (hA:ak.At w base ok g s1 s2 s3 xs n ls) (h:bQ.f k xs ls c0 c1 c2=some r) :
  Calls Tryz.prog 28 #[.pointer (some ⟨g,0,none⟩),.agg #[.string c0,.string c1,.int .i64 c2,.string c3,.bool c4]] w fun e w'=>e = .returned (.bool r)∧Below w.heap.size w w':=by
 have hu26:=Tryz.underlying34
 have hmf:∀ (fn:Fn) (first cap:Array Value) (w:World),(Instr.makeFunc fn first cap).run Tryz.prog w = .ok (.func fn first cap) w:=fun _ _ _ _=>rfl
 have HA:=aS hA;have X:=aS h;clear hA h
 go_enter Tryz.func28,Tryz.ntmps28
 go_upto_region 2 with (first | ((with_reducible refine gD 3 ?_);refine dK 3 #[.string c0,.string c1,.int .i64 c2,.string c3,.bool c4] 34 ?_;intro p3 hg w1 hb hbl;have B3:=aS hb;have HB1:=aS hbl;clear hg hb hbl) | ((with_reducible refine gD 5 ?_);refine dK 5 #[.bool false] 4 ?_;intro p5 hg w2 hb hbl;have B5:=aS hb;have G5:ah (w.heap.size≤p5):=aS (by rw [hg];exact HB1.out.size);have B32:=aS (aI B3.out hbl);have HB2:=aS (aE HB1.out hbl);clear hg hb hbl B3 HB1;have q1:=lX B5))
 generalize hw_:World.setCell w2 ⟨p5,0,none⟩ (.bool false)=w3
 have B33:ah (w3.heap[p3]? = _):=aS (hw_▸dR B32.out (by intro e;have h1:=B32.out;rw [e,B5.out] at h1;injection h1 with h1;injection h1 with h1 h2;exact absurd h2 (by decide)) (.bool false) (p:=⟨p5,0,none⟩));have B53:ah (w3.heap[p5]? = some (.cells #[.bool false] 4 (0,0))):=aS (hw_▸bk B5.out 0 (.bool false) rfl);have HB3:ah (Below w.heap.size w w3):=aS (hw_▸HB2.out.setCell (p:=⟨p5,0,none⟩) G5.out _);clear hw_ B32 B5 HB2 q1
 go_upto_region 3 with (first | (go_at_call 35;(with_reducible refine (bQ.find k p3 p5 g base ok s1 s2 s3 xs n ls c0 c1 c2 c3 c4 r w w3 HA.out HB3.out B33.out B53.out G5.out X.out).mono ?_);rintro e_ w9 ⟨rfl,hb,hi_⟩;have HB9:=aS hb;have BI9:=aS hi_;clear hb hi_))
 have q1:=lX BI9
 go_wp2
 go_ret
 exact ⟨rfl,HB9.out⟩
def gR.f (a0_0:ByteArray) (a0_1:ByteArray) (a0_2:Int) (a0_3:ByteArray) (a0_4:Bool):Option (Int):=(dh.f a0_0 a0_1 a0_2 a0_3 a0_4).bind fun t511=>(some (t511.length:Int))
theorem gR.calls (a0_0:ByteArray) (a0_1:ByteArray) (a0_2:Int) (a0_3:ByteArray) (a0_4:Bool) (r:Int) (w:World) (h:gR.f a0_0 a0_1 a0_2 a0_3 a0_4=some r) :
  Calls Tryz.prog 48 #[.agg #[.string a0_0,.string a0_1,.int .i64 a0_2,.string a0_3,.bool a0_4]] w fun e w'=>e = .returned (.int .i64 r)∧Below w.heap.size w w':=by
 have hu34:=Tryz.underlying34;have HB:=aS (Below.refl w.heap.size w);have H:((dh.f a0_0 a0_1 a0_2 a0_3 a0_4).bind fun t511=>(some (t511.length:Int)))=some r:=h;clear h;replace H:=bU H;obtain ⟨t511,A20,H⟩:=H;have A2:=aS A20;clear A20
 obtain rfl:=Option.some.inj H
 go_enter Tryz.func48,Tryz.ntmps48
 go_wp2_with (first | ((with_reducible refine gD 1 ?_);refine dK 1 #[.string a0_0,.string a0_1,.int .i64 a0_2,.string a0_3,.bool a0_4] 34 ?_;intro gb510 hg w3 hbox hb;have BK510:=aS (hbox);have GW510:=bsize hg;have GE510:=bsize hg;replace HB:=aM hb;clear hb hbox hg;have hcz4:=cO BK510) | ((with_reducible refine gC 65 ?_);refine dn 4 Tryz.func65 #[.agg #[.string a0_0,.string a0_1,.int .i64 a0_2,.string a0_3,.bool a0_4]] ?_;(with_reducible refine (dh.calls a0_0 a0_1 a0_2 a0_3 a0_4 t511 _ A2.out).mono ?_);rintro e w5 ⟨v512,rfl,ho0,hb⟩;refine ⟨_,rfl,?_⟩;have HO513:=aS (Kd.bn ho0 (aA aq));replace BK510:=fp BK510 hb;replace HB:=aM hb;(try clear hb);(try clear hk);(try clear hi);(try clear ho0);obtain ⟨Ao6,co6,eo6⟩:=Kd.bp HO513.out;subst eo6))
 go_ret
 exact ⟨dP,aq⟩
-- NOT PRINTED: function 66 (api_Cell_66)
-- NOT PRINTED: function 97 (api_Cell_97)
-- NOT PRINTED: function 88 (api_Cell_88)
-- NOT PRINTED: function 67 (api_Cell_67)
theorem zy.ins (w:World) (base:Nat) (ok:Nat→Prop) (v:Value) (xs:List au) (x:au) (i:Nat) (vb:Nat) (HO:Kd.R cm 34 w base ok v xs) (hfresh:∀ k,w.heap.size≤k→ok k) (hbase:base≤w.heap.size) (hi:i≤xs.length)
  (hvb:w.heap[vb]? = some (.cells [.string x.f0,.string x.f1,.int .i64 x.f2,.string x.f3,.bool x.f4].toArray 34 (0,0))) (hne:some vb≠v.ownBlock) (hl:(xs.length+1)*64≤140737488355328) :
  Calls Tryz.prog 49 #[v,.int .i64 i,.slice (some ⟨vb,0,none⟩) 1 1] w fun e w'=>∃ v1:Value,e = .returned v1∧Kd.R cm 34 w' base ok v1 (xs.take i++x :: xs.drop i)∧w.grownBy w' v.ownBlock∧(v1.ownBlock=v.ownBlock∨∃ b,v1.ownBlock=some b∧w.heap.size≤b):=by
 obtain ⟨A,c,rfl,hnc,hC⟩:=Kd.eZ HO;obtain ⟨i0,hi0,hz⟩:=Option.map_eq_some_iff.1 eO
 simp only [Prod.mk.injEq] at hz
 obtain ⟨hz0,hz1,hz2⟩:=hz;have u22:=Tryz.underlying32;have hcut1:=gI (P:=Tryz.prog) 32 34 .i64 u22 hi0 5 hz1 A xs.length c i (by omega) (by omega)
 rcases Nat.lt_or_ge i xs.length with hlt | hge
 case inr=>
  obtain rfl:i=xs.length:=by omega
  have HOa:=aS HO;have HX:=aS (BU (R:=(cm).K w) (x:=x) (size:=5) hvb rfl (sq w x));clear HO hC
  go_enter Tryz.func49,Tryz.ntmps49
  go_wp2_with (at_builtin;refine Kd.jl cm (Rr:=(cm).K w) (w0:=w) base rfl _ _ 32 34 _ _ rfl u22 eO rfl (by decide) (by decide) (.slice A xs.length c) xs [x] _ _ _ ok (fun _=>False) rfl rfl HOa.out HX.out (fun _ _ hp=>hp) (fun _ hk=>hk.elim) hfresh (Below.refl _ _) hbase (by omega) ?_;(intro v1 w1 ho hb hg hat);have AO:=aS ho;have AG:=aS hg;have AT:=aS hat;clear ho hb hg hat)
  all_goals (go_ret;refine ⟨v1,rfl,?_,(by first | exact AG.out | (cases A<;>exact AG.out)),(by first | exact AT.out | (cases A<;>exact AT.out))⟩;first | (rw [List.take_length,List.drop_length];exact AO.out) | exact AO.out)
 case inl=>
  clear hC;obtain ⟨hok,inner,hown,hr⟩:=HO
  rcases hown.2 with ⟨_,h0⟩ | ⟨g,cap,cur,hv,hbg,hh,_,hcm,hcs,htake⟩
  ·
   omega
  injection hv with ha _ hc
  subst ha;subst hc;have hone:=row_one hr;replace hcs:cur.size=c*5:=hcs;replace htake:cur.toList.take (xs.length*5)=inner:=htake;have hin:inner.length=xs.length*5:=hr.1
  have hdr:(inner.drop (i*5)).length=(xs.length - i)*5:=by rw [mh,hin,Nat.sub_mul]
  have hgv:g≠vb:=fun he=>hne (by rw [he];rfl)
  have hsz:(Tryz.prog.info? 34).map (·.size)=some 5:=by rw [hi0];simp [hz1]
  have hw1:IntKind.i64.wrap ((i:Int)+1)=(i:Int)+1:=by rw [IntKind.wrap_i64];omega
  have hw2:IntKind.i64.wrap ((xs.length:Int)+1)=(xs.length:Int)+1:=by rw [IntKind.wrap_i64];omega
  have hne0:¬ ((i:Int)=(xs.length:Int)):=by omega
  have hvc:∀ (W:World),W.heap[vb]? = w.heap[vb]?→∀ j v,[Value.string x.f0,.string x.f1,.int .i64 x.f2,.string x.f3,.bool x.f4][j]? = some v→W.cell? ((⟨vb,0,none⟩:Addr).add j)=some v:=fun W hW j v hj=>by
   rw [kg,Nat.zero_add,cell_of_row W vb j _ 34 (0,0) (hW.trans hvb)]
   simpa using hj
  have hic:∀ (W:World),W.heap[g]? = w.heap[g]?→∀ j v,(inner.drop (i*5))[j]? = some v→W.cell? ((⟨g,i*5,none⟩:Addr).add j)=some v:=fun W hW j v hj=>by
   rw [kg,cell_of_row W g _ cur 34 (0,0) (hW.trans hh)];rw [List.getElem?_drop,← htake,List.getElem?_take] at hj
   split at hj
   ·
    rw [←Array.getElem?_toList];exact hj
   ·
    cases hj
  have hvone:∀ v ∈ [Value.string x.f0,.string x.f1,.int .i64 x.f2,.string x.f3,.bool x.f4],v.oneCell'=true:=(cm).K_one (sq w x)
  have hione:∀ v ∈ inner.drop (i*5),v.oneCell'=true:=fun v hv=>hone v (List.mem_of_mem_drop hv)
  have mixed:Tryz.prog.follows .mixedOrders=true:=by kernel_rfl
  rcases Nat.lt_or_ge xs.length c with hroom | hroom
  case inl=>
   have hgt:¬ ((c:Int)<(xs.length:Int)+1):=by omega
   have hcut2:∀ W:World,(Instr.slice 32 (.slice (some ⟨g,0,none⟩) xs.length c) none (some (.int .i64 ((xs.length:Int)+1))) none).run Tryz.prog W = .ok (.slice (some ⟨g,0,none⟩) (xs.length+1) c) W:=C3 (P:=Tryz.prog) 32 34 .i64 u22 hi0 _ xs.length c ((xs.length:Int)+1) (by omega) (by omega)
   have hcut3:∀ W:World,(Instr.slice 32 (.slice (some ⟨g,0,none⟩) (xs.length+1) c) (some (.int .i64 ((i:Int)+1))) none none).run Tryz.prog W = .ok (.slice (some ⟨g,(i+1)*5,none⟩) (xs.length - i) (c - (i+1))) W:=fun W=>by
    have h:=gI (P:=Tryz.prog) 32 34 .i64 u22 hi0 5 hz1 (some ⟨g,0,none⟩) (xs.length+1) c ((i:Int)+1) (by omega) (by omega) W;rw [if_neg (by omega),Option.map_some,kg,Nat.zero_add] at h
    rw [h];congr 2<;>omega
   have hcut4:∀ W:World,(Instr.slice 32 (.slice (some ⟨g,0,none⟩) (xs.length+1) c) (some (.int .i64 (i:Int))) none none).run Tryz.prog W = .ok (.slice (some ⟨g,i*5,none⟩) (xs.length+1 - i) (c - i)) W:=fun W=>by
    have h:=gI (P:=Tryz.prog) 32 34 .i64 u22 hi0 5 hz1 (some ⟨g,0,none⟩) (xs.length+1) c (i:Int) (by omega) (by omega) W;rw [if_neg (by omega),Option.map_some,kg,Nat.zero_add] at h
    rw [h];congr 2
   have hov:∀ lb cb,(callFunc 66 #[.slice (some ⟨vb,0,none⟩) 1 1,.slice (some ⟨g,(i+1)*5,none⟩) lb cb]).run Tryz.prog w = .ok (.value (.bool false)) w:=fun lb cb=>by
    rw [run_callFunc_extern Tryz.func66 (by kernel_rfl) (by kernel_rfl) (by kernel_rfl) (e:=Extern.SlicesOverlaps.overlaps #[32,32] #[4]) (by kernel_rfl),
     Lib.run_overlaps_apart w 32 4 34 u22 5 (fun w=>by simp [sizeOf,typeInfo,hi0,hz1]) ⟨vb,0,none⟩ ⟨g,(i+1)*5,none⟩ 1 1 lb cb (Ne.symm hgv) 34 34 5 cur.size (by simp [World.shape?,hvb]) (by simp [World.shape?,hh]) (by omega) (dx hvb _) (dx hvb _)]
    rfl
   obtain ⟨cur',hb1,hb2,hb3,hb4⟩:=wY (w:=w.drew) (cs:=[Value.string x.f0,.string x.f1,.int .i64 x.f2,.string x.f3,.bool x.f4]) (n:=xs.length) (i:=i) (sz:=5) hh rfl hi (by omega) hcs;rw [htake] at hb1 hb3 hb4
   have hc1:∀ ty dc sc,(Builtin.copy_ #[32,32] ty #[.slice (some ⟨g,(i+1)*5,none⟩) (xs.length - i) dc,.slice (some ⟨g,i*5,none⟩) (xs.length+1 - i) sc]).run Tryz.prog w.drew = .ok (goInt (Nat.min (xs.length+1 - i) (xs.length - i))) (w.drew.setCells g ((i+1)*5) (inner.drop (i*5))):=fun ty dc sc=>
    mS w.drew _ _ ty 34 g _ _ dc 5 _ _ sc _ u22 hsz (by rw [hdr,show Nat.min (xs.length+1 - i) (xs.length - i)=xs.length - i from Nat.min_eq_right (by omega)]) (hic w.drew rfl) hh (by rw [hdr];omega) hione
   obtain ⟨c1,hd1,hd2,hd3⟩:=gU (inner.drop (i*5)) ((i+1)*5) w.drew cur hh (by rw [hdr];omega)
   obtain ⟨W1,hW1⟩:∃ W1,W1=w.drew.setCells g ((i+1)*5) (inner.drop (i*5)):=⟨_,rfl⟩
   rw [←hW1] at hc1 hd1 hb1 hb4
   have hc2:∀ ty dc,(Builtin.copy_ #[32,32] ty #[.slice (some ⟨g,i*5,none⟩) (xs.length+1 - i) dc,.slice (some ⟨vb,0,none⟩) 1 1]).run Tryz.prog W1 = .ok (goInt (Nat.min 1 (xs.length+1 - i))) (W1.setCells g (i*5) [Value.string x.f0,.string x.f1,.int .i64 x.f2,.string x.f3,.bool x.f4]):=fun ty dc=>
    mS W1 _ _ ty 34 g _ _ dc 5 _ _ 1 _ u22 hsz (by rw [show Nat.min 1 (xs.length+1 - i)=1 from Nat.min_eq_left (by omega)];rfl) (hvc W1 (by rw [hW1,gT _ _ vb (Ne.symm hgv)];rfl)) hd1 (by simp;omega) hvone
   obtain ⟨W2,hW2⟩:∃ W2,W2=W1.setCells g (i*5) [Value.string x.f0,.string x.f1,.int .i64 x.f2,.string x.f3,.bool x.f4]:=⟨_,rfl⟩
   rw [←hW2] at hc2 hb1 hb4;have R2:Kd.R cm 34 W2 base ok (.slice (some ⟨g,0,none⟩) (xs.length+1) c) (xs.take i++x :: xs.drop i):=D6 (d:=cm) rfl hr (ia w base (fun _=>True) x) hi hb1 hbg (by omega) hcm hb2 (hok g rfl) hb3;have RA:=aS R2;have RG:=aS (show w.grownBy W2 (some g) from ⟨hb4.os,hb4.tape,hb4.output,hb4.size,hb4.block⟩);clear R2 hb1 hb2 hb3 hb4 hd1 hd2 hd3 hW1 hW2 hr hok hown hh hcs htake hin hdr hic hvc hone hione hvone
   go_enter Tryz.func49,Tryz.ntmps49
   go_wp2_with (simp only [hov])
   go_region_law_o (refine step_copy_runI rfl _ _ 32 32 rfl _ _ (by simp [Act.eval,Act.put]) (by simp [Act.eval,Act.put]) (hc1 _ _ _) ?_)
   go_wp2_with (at_builtin;refine wpList_copy_runI _ rfl _ _ 32 32 rfl _ _ rfl rfl (hc2 _ _) ?_)
   go_ret
   exact ⟨_,rfl,RA.out,RG.out,.inl rfl⟩
  case inr=>
   obtain rfl:c=xs.length:=by omega
   have hgt:(xs.length:Int)<(xs.length:Int)+1:=by omega
   obtain ⟨G,hG⟩:∃ G,G=grownCap w (xs.length+1) xs.length 34:=⟨_,rfl⟩
   have hGn:xs.length+1≤G:=by rw [hG];exact grownCap_ge w _ _ _
   have hGm:G≤maxLen:=by rw [hG];exact grownCap_le_maxLen w _ _ _ (by unfold maxLen;omega)
   have hold:(Builtin.firstCells i0.size i (.slice (some ⟨g,0,none⟩) i xs.length)).run Tryz.prog w.drew = .ok (inner.take (i*5)).toArray w.drew:=by
    rw [hz1];refine run_firstCells_some (w:=w.drew) 5 i ⟨g,0,none⟩ i xs.length (inner.take (i*5)) (by rw [kY,hin];omega) (fun j v hj=>?_);rw [List.getElem?_take] at hj
    split at hj
    ·
     rw [kg,Nat.zero_add,cell_of_row w.drew g j cur 34 (0,0) hh];rw [←htake,List.getElem?_take] at hj
     split at hj
     ·
      rw [←Array.getElem?_toList];exact hj
     ·
      cases hj
    ·
     cases hj
   obtain ⟨ROW,hROW⟩:∃ ROW:Array Value,ROW=(inner.take (i*5)).toArray++Builtin.zeroCells (Value.agg #[.string ⟨#[]⟩,.string ⟨#[]⟩,.int .i64 0,.string ⟨#[]⟩,.bool false]).cells (xs.length+1 - i)++Builtin.zeroCells (Value.agg #[.string ⟨#[]⟩,.string ⟨#[]⟩,.int .i64 0,.string ⟨#[]⟩,.bool false]).cells (G - (xs.length+1)):=⟨_,rfl⟩
   have hk1:IntKind.i64.wrap ((xs.length:Int)+1 - (i:Int))=(xs.length:Int)+1 - (i:Int):=by rw [IntKind.wrap_i64];omega
   have hrz:∀ ty,(Builtin.append_ #[32,3] ty #[.slice (some ⟨g,0,none⟩) i xs.length,.int .i64 ((xs.length:Int)+1 - (i:Int))]).run Tryz.prog w = .ok (.slice (some ⟨w.heap.size,0,none⟩) (xs.length+1) G) (w.drew.alloc (.cells ROW 34)):=fun ty=>by
    have h:=Lib.run_append_grow_zeros (P:=Tryz.prog) w 32 3 ty 34 i0 _ .i64 .i64 u22 Tryz.underlying3 hi0 hz0 (some ⟨g,0,none⟩) i xs.length (inner.take (i*5)) hold (xs.length+1 - i) (by omega) (by omega) (by omega) (by omega) (by rw [hz2];omega) (by rw [hz2,show i+(xs.length+1 - i)=xs.length+1 by omega];exact growslice_fits (by omega) hl);rw [show i+(xs.length+1 - i)=xs.length+1 by omega,← hG,← hROW] at h;rw [show (xs.length:Int)+1 - (i:Int)=((xs.length+1 - i:Nat):Int) by omega];exact h
   have hRs:ROW.size=G*5:=by
    rw [hROW]
    simp only [Array.size_append,List.size_toArray,kY,hin,Builtin.zeroCells,Array.size_map,Array.size_range,Value.cells]
    simp [Value.cells]
    omega
   have hRt:ROW.toList.take (i*5)=inner.take (i*5):=by
    rw [hROW,Array.append_assoc,Array.toList_append];exact List.take_left' (by rw [kY,hin];omega)
   have hcutA:∀ W:World,(Instr.slice 32 (.slice (some ⟨g,0,none⟩) xs.length xs.length) none (some (.int .i64 (i:Int))) none).run Tryz.prog W = .ok (.slice (some ⟨g,0,none⟩) i xs.length) W:=jO (P:=Tryz.prog) 32 34 .i64 u22 hi0 _ xs.length xs.length (i:Int) (by omega) (by omega) (by omega)
   have hcutB:∀ W:World,(Instr.slice 32 (.slice (some ⟨w.heap.size,0,none⟩) (xs.length+1) G) (some (.int .i64 (i:Int))) none none).run Tryz.prog W = .ok (.slice (some ⟨w.heap.size,i*5,none⟩) (xs.length+1 - i) (G - i)) W:=fun W=>by
    have h:=gI (P:=Tryz.prog) 32 34 .i64 u22 hi0 5 hz1 (some ⟨w.heap.size,0,none⟩) (xs.length+1) G (i:Int) (by omega) (by omega) W;rw [if_neg (by omega),Option.map_some,kg,Nat.zero_add] at h
    rw [h];congr 2
   have hcutC:∀ W:World,(Instr.slice 32 (.slice (some ⟨w.heap.size,0,none⟩) (xs.length+1) G) (some (.int .i64 ((i:Int)+1))) none none).run Tryz.prog W = .ok (.slice (some ⟨w.heap.size,(i+1)*5,none⟩) (xs.length - i) (G - (i+1))) W:=fun W=>by
    have h:=gI (P:=Tryz.prog) 32 34 .i64 u22 hi0 5 hz1 (some ⟨w.heap.size,0,none⟩) (xs.length+1) G ((i:Int)+1) (by omega) (by omega) W;rw [if_neg (by omega),Option.map_some,kg,Nat.zero_add] at h
    rw [h];congr 2<;>omega
   have hcutD:∀ W:World,(Instr.slice 32 (.slice (some ⟨g,0,none⟩) xs.length xs.length) (some (.int .i64 (i:Int))) none none).run Tryz.prog W = .ok (.slice (some ⟨g,i*5,none⟩) (xs.length - i) (xs.length - i)) W:=fun W=>by
    have h:=gI (P:=Tryz.prog) 32 34 .i64 u22 hi0 5 hz1 (some ⟨g,0,none⟩) xs.length xs.length (i:Int) (by omega) (by omega) W;rw [if_neg (by omega),Option.map_some,kg,Nat.zero_add] at h
    rw [h];congr 2
   clear hcut1;have hgl:g<w.heap.size:=cR hh;have hvl:vb<w.heap.size:=cR hvb
   obtain ⟨W0,hW0⟩:∃ W0,W0=w.drew.alloc (.cells ROW 34):=⟨_,rfl⟩
   have hn0:W0.heap[w.heap.size]? = some (.cells ROW 34 (0,0)):=by rw [hW0];exact heap_alloc_new w.drew _
   have ho0:∀ k,k<w.heap.size→W0.heap[k]? = w.heap[k]?:=fun k hk=>by rw [hW0];exact heap_alloc_old w.drew _ hk
   obtain ⟨W1,hW1⟩:∃ W1,W1=W0.setCells w.heap.size (i*5) [Value.string x.f0,.string x.f1,.int .i64 x.f2,.string x.f3,.bool x.f4]:=⟨_,rfl⟩
   have hc1:∀ ty dc,(Builtin.copy_ #[32,32] ty #[.slice (some ⟨w.heap.size,i*5,none⟩) (xs.length+1 - i) dc,.slice (some ⟨vb,0,none⟩) 1 1]).run Tryz.prog W0 = .ok (goInt (Nat.min 1 (xs.length+1 - i))) W1:=fun ty dc=>by
    rw [hW1];exact mS W0 _ _ ty 34 w.heap.size _ _ dc 5 _ _ 1 _ u22 hsz (by rw [show Nat.min 1 (xs.length+1 - i)=1 from Nat.min_eq_left (by omega)];rfl) (hvc W0 (ho0 vb hvl)) hn0 (by simp;omega) hvone
   obtain ⟨c1,hd1,hd2,hd3⟩:=gU [Value.string x.f0,.string x.f1,.int .i64 x.f2,.string x.f3,.bool x.f4] (i*5) W0 ROW hn0 (by simp;omega);rw [←hW1] at hd1
   obtain ⟨W2,hW2⟩:∃ W2,W2=W1.drew.setCells w.heap.size ((i+1)*5) (inner.drop (i*5)):=⟨_,rfl⟩
   have hc2:∀ ty dc sc,(Builtin.copy_ #[32,32] ty #[.slice (some ⟨w.heap.size,(i+1)*5,none⟩) (xs.length - i) dc,.slice (some ⟨g,i*5,none⟩) (xs.length - i) sc]).run Tryz.prog W1.drew = .ok (goInt (Nat.min (xs.length - i) (xs.length - i))) W2:=fun ty dc sc=>by
    rw [hW2];exact mS W1.drew _ _ ty 34 w.heap.size _ _ dc 5 _ _ sc _ u22 hsz (by rw [hdr,show Nat.min (xs.length - i) (xs.length - i)=xs.length - i from Nat.min_self _]) (hic W1.drew (by show W1.heap[g]? = _;rw [hW1,gT _ _ g (by omega)];exact ho0 g hgl)) hd1 (by rw [hdr];omega) hione
   have hfin:W2=(W0.drew.setCells w.heap.size (i*5) [Value.string x.f0,.string x.f1,.int .i64 x.f2,.string x.f3,.bool x.f4]).setCells w.heap.size ((i+1)*5) (inner.drop (i*5)):=by rw [hW2,hW1,drew_setCells]
   obtain ⟨cur',hb1,hb2,hb3⟩:=yJ (w:=W0.drew) (g:=w.heap.size) (cs:=[Value.string x.f0,.string x.f1,.int .i64 x.f2,.string x.f3,.bool x.f4]) (n:=xs.length) (i:=i) (sz:=5) (c:=G) hn0 rfl hin hi hGn hRs hRt;rw [←hfin] at hb1;have R2:Kd.R cm 34 W2 base ok (.slice (some ⟨w.heap.size,0,none⟩) (xs.length+1) G) (xs.take i++x :: xs.drop i):=D6 (d:=cm) rfl hr (ia w base (fun _=>True) x) hi hb1 hbase hGn hGm hb2 (hfresh _ (Nat.le_refl _)) hb3;have RA:=aS R2;have s1:=iL w.heap.size (inner.drop (i*5)) ((i+1)*5) W1.drew;have s2:=iL w.heap.size [Value.string x.f0,.string x.f1,.int .i64 x.f2,.string x.f3,.bool x.f4] (i*5) W0
   have RG:ah (w.grownBy W2 (some g)):=aS ⟨by rw [hW2,s1.1];show W1.os=_;rw [hW1,s2.1,hW0];rfl,by rw [hW2,s1.2.1];show W1.tape=_;rw [hW1,s2.2.1,hW0];rfl,by rw [hW2,s1.2.2.1];show W1.output=_;rw [hW1,s2.2.2.1,hW0];rfl,
    by rw [hW2,s1.2.2.2];show _≤W1.heap.size;rw [hW1,s2.2.2.2,hW0];show _≤(w.heap.push _).size;rw [Array.size_push];omega,fun k hk _=>by rw [hW2,gT _ _ k (by omega)];show W1.heap[k]? = _;rw [hW1,gT _ _ k (by omega)];exact ho0 k hk⟩
   rw [←hW0] at hrz
   have hGi:¬ (G=i):=by omega
   clear s1 s2 R2 hfin hb1 hb2 hb3 hd1 hd2 hd3 hW1 hW2 hn0 ho0 hr hok hown hh hcs htake hin hdr hic hvc hone hione hvone hROW hRs hRt hG hold hW0
   go_enter Tryz.func49,Tryz.ntmps49
   go_wp2_with (first
    | (at_builtin;refine Lib.wpList_append_run _ rfl _ _ _ _ rfl _ _ rfl rfl _ _ (hrz _) ?_)
    | (at_builtin;refine wpList_copy_runI _ rfl _ _ 32 32 rfl _ _ rfl rfl (hc1 _ _) ?_))
   go_region_law_o (refine step_copy_runI rfl _ _ 32 32 rfl _ _ (by simp [Act.eval,Act.put]) (by simp [Act.eval,Act.put]) (hc2 _ _ _) ?_)
   go_wp2
   go_ret
   exact ⟨_,rfl,RA.out,RG.out,.inr ⟨_,rfl,Nat.le_refl _⟩⟩
def gW.f (k:Nat) (xs:List au) (n:Int) (c0 c1:ByteArray) (c2:Int) (c3:ByteArray) (c4:Bool):Option (List au × Int × Bool):=
 (eL.f c0 c1 c2 c3 c4).bind fun ok=>if ok=true then (br.f k xs c0 c1 c2 c3 c4).bind fun q=>if q.2=true then
  (if 0≤q.1∧q.1<(xs.length:Int) then (gR.f (af xs q.1).f0 (af xs q.1).f1 (af xs q.1).f2 (af xs q.1).f3 (af xs q.1).f4).bind fun a=>(gR.f c0 c1 c2 c3 c4).bind fun b=>some (xs.set q.1.toNat ⟨c0,c1,c2,c3,c4⟩,wrap64 (wrap64 (n - a)+b),true) else none)
  else (if 0≤q.1∧q.1≤(xs.length:Int)∧(xs.length+1)*64≤140737488355328 then (gR.f c0 c1 c2 c3 c4).bind fun b=>some (xs.take q.1.toNat++⟨c0,c1,c2,c3,c4⟩ :: xs.drop q.1.toNat,wrap64 (n+b),true) else none) else some (xs,n,false)
theorem gW.mono:∀ k a0 a1 a2 a3 a4 a5 a6,aH (gW.f k a0 a1 a2 a3 a4 a5 a6) (gW.f (k+1) a0 a1 a2 a3 a4 a5 a6):=fun k a0 a1 a2 a3 a4 a5 a6=>
 aH.bind (aH.refl _) fun _=>aH.ite (aH.bind (br.mono _ _ _ _ _ _ _) fun _=>aH.refl _) (aH.refl _)
theorem gW.calls (k g base:Nat) (xs:List au) (n:Int) (v:Value) (c0 c1:ByteArray) (c2:Int) (c3:ByteArray) (c4:Bool) (xs':List au) (n':Int) (r:Bool) (w:World) (hA:cg.At w base g xs n v) (h:gW.f k xs n c0 c1 c2 c3 c4=some (xs',n',r)) :
  Calls Tryz.prog 29 #[.pointer (some ⟨g,0,none⟩),.agg #[.string c0,.string c1,.int .i64 c2,.string c3,.bool c4]] w fun e w'=>e = .returned (.bool r)∧∃ v',cg.At w' base g xs' n' v'∧cg.Two w w' g v.ownBlock∧(v'.ownBlock=v.ownBlock∨∃ b,v'.ownBlock=some b∧w.heap.size≤b):=by
 have hu29:=Tryz.underlying34;have hu22:=Tryz.underlying32;have hu46:=Tryz.underlying78
 have hsz:(Tryz.prog.info? 34).map (·.size)=some 5:=by
  obtain ⟨i0,hi0,hz⟩:=Option.map_eq_some_iff.1 eO
  simp only [Prod.mk.injEq] at hz
  rw [hi0];simp [hz.2.1]
 obtain ⟨A,cc,rfl,hcl,_⟩:=hA.rows;have HA:=aS hA;have HL:=aS hcl;have H:=aS h;clear h hA hcl
 go_enter Tryz.func29,Tryz.ntmps29
 go_upto_region 1 with ((with_reducible refine gD 3 ?_);refine dK 3 #[.string c0,.string c1,.int .i64 c2,.string c3,.bool c4] 34 ?_;intro p3 hg w1 hb hbl;have B3:=aS hb;have P3:ah (w.heap.size≤p3):=aS (by rw [hg];exact Nat.le_refl _);have HA1:=aS (HA.out.below hbl);have TW:=aS (cg.Two.j5 hbl g (Value.slice A xs.length cc).ownBlock);clear hg hb hbl)
 have hpg:ah (p3≠g∧some p3≠(Value.slice A xs.length cc).ownBlock):=aS ⟨by have:=P3.out;have:=HA.out.lt;omega,fun he=>by have:=P3.out;have:=Kd.cP HA.out.2.2 p3 he.symm;omega⟩;have hgv:=aS HA.out.ne;have GW:=aS HA.out.lt;clear HA;have h:=H.out
 unfold gW.f at h
 clear H;replace h:=bU h;obtain ⟨ok,x1,h⟩:=h;have X1:=aS x1;have H:=aS h;clear x1 h;have q3:=cO B3
 cases ok with
 | false=>
  have h:=H.out;rw [if_neg Bool.false_ne_true] at h
  obtain h:=Option.some.inj h
  simp only [Prod.mk.injEq] at h
  obtain ⟨rfl,rfl,rfl⟩:=h;clear H
  go_wp2_with (go_at_call 27;(with_reducible refine (eL.calls c0 c1 c2 c3 c4 false _ X1.out).mono ?_);rintro e_ w2 ⟨rfl,hb⟩;have n0_:=aS (aI B3.out hb);have n1_:=aS (HA1.out.below hb);have n2_:=aS (TW.out.step hb);clear B3 HA1 TW q3;have B3:=n0_;have HA1:=n1_;have TW:=n2_;clear n0_ n1_ n2_;clear hb)
  go_ret
  exact ⟨rfl,_,HA1.out,TW.out,.inl rfl⟩
 | true=>
 have h:=H.out;rw [if_pos rfl] at h;clear H;replace h:=bU h;obtain ⟨⟨q1,q2⟩,x2,h⟩:=h;have X2:=aS x2;have H:=aS h;clear x2 h
 go_upto_region 3 with (go_at_call 27;(with_reducible refine (eL.calls c0 c1 c2 c3 c4 true _ X1.out).mono ?_);rintro e_ w2 ⟨rfl,hb⟩;have n0_:=aS (aI B3.out hb);have n1_:=aS (HA1.out.below hb);have n2_:=aS (TW.out.step hb);clear B3 HA1 TW q3;have B3:=n0_;have HA1:=n1_;have TW:=n2_;clear n0_ n1_ n2_;clear hb)
 refine di (n:=11) (ds:=[]) (S:=fun w'=>w'.cell? ⟨g,0,none⟩=some (.slice A xs.length cc)∧w'.rangeAt p3 0 [.string c0,.string c1,.int .i64 c2,.string c3,.bool c4]) (bA 11 0) (by kernel_rfl) rfl rfl ⟨(aC (ar HA1.out.2.1) 0).trans rfl,gY (ar B3.out)⟩ (fun hHeld=>?_)
 generalize hw_:World.drew _=w3 at hHeld ⊢
 have B3d:ah (w3.heap[p3]? = _):=aS (hw_▸ar B3.out);have HAd:ah (cg.At w3 base g _ _ _):=aS (hw_▸HA1.out.below (bH (Below.refl _ _)));have TWd:ah (cg.Two w w3 g _):=aS (hw_▸TW.out.step (bH (Below.refl _ _)));clear hw_ B3 HA1 TW;refine cD (T:=(true,[([],[]),([0],[0]),([1],[1]),([2],[2]),([],[]),([3,4],[3,4]),([5],[5]),([6],[6]),([6],[6]),([7,5,0,1,2,3,4,5,6,7],[7]),([8,9,0,1,2,3,4,5,6,7,8,9],[8])])) (B:=[0,1,3,7,0,31,63,127,127,255,1023]) (by kernel_rfl) (by kernel_rfl) (fun HT_ HW_=>?_);refine aZ [(0,11),(1,12),(2,13)] ?_
 iterate 3 (refine ck HT_ ?_)
 refine bT (bA 11 7) (by kernel_rfl) ?_;refine aZ [(3,14)] ?_
 iterate 1 (refine dY HT_ HW_ hHeld ?_)
 refine bT (bA 11 15) (by kernel_rfl) ?_;refine ij (i:=4) (N:=(some 15)) (v:=.agg #[.string c0,.string c1,.int .i64 c2,.string c3,.bool c4]) (a':=?_) (bA 11 31) rfl rfl (iz HT_.out HW_.out (by kernel_rfl)) (fun _ _ _ h=>h) (yieldsIf_load_mid (by rfl) 34 _ rfl p3 0 (by go_simp) _ _ (fun w' hw'=>hw'.2) hu29 rfl hsz) hHeld ?_ ?_
 rotate_left
 ·
  simp only [Act.put,eI,eG,lss,cC,dw]
  rfl
 refine dH 5 (N:=some 16) (bA 11 63) HT_ (fun K hK=>?_);refine gb Tryz.func46 #[.slice A xs.length cc,.agg #[.string c0,.string c1,.int .i64 c2,.string c3,.bool c4],.func (.func 47) #[] #[]] ?_
 with_reducible refine (br.calls k A cc xs c0 c1 c2 c3 c4 q1 q2 _ HAd.out.reads HL.out X2.out).mono ?_
 rintro e_ w4 ⟨rfl,hb⟩
 refine ⟨_,rfl,?_⟩;have B3:=aS (aI B3d.out hb);have HA1:=aS (HAd.out.below hb);have TW:=aS (TWd.out.step hb);clear hb B3d HAd TWd;refine hK.out _ _ ⟨(aC HA1.out.2.1 0).trans rfl,gY B3.out⟩ (fun hHeld=>?_);clear hK K;refine nm 16 ?_;refine aZ [(6,10),(7,17),(8,18),(9,5),(10,6)] ?_
 iterate 5 (refine ck HT_ ?_)
 refine bT (bA 11 2047) (by kernel_rfl) ?_;refine fX HT_ ?_;clear hHeld HT_ HW_
 cases q2 with
 | false=>
  have h:=H.out;clear H;replace h:(if 0≤q1∧q1≤(xs.length:Int)∧(xs.length+1)*64≤140737488355328 then (gR.f c0 c1 c2 c3 c4).bind fun b=>some (xs.take q1.toNat++⟨c0,c1,c2,c3,c4⟩ :: xs.drop q1.toNat,wrap64 (n+b),true) else none)=some (xs',n',r):=h
  by_cases hq:0≤q1∧q1≤(xs.length:Int)∧(xs.length+1)*64≤140737488355328
  case neg=>rw [if_neg hq] at h;cases h
  rw [if_pos hq] at h;replace h:=bU h;obtain ⟨b8,x8,h⟩:=h;have X8:=aS x8
  obtain h:=Option.some.inj h
  simp only [Prod.mk.injEq] at h
  obtain ⟨rfl,rfl,rfl⟩:=h;obtain ⟨i,rfl⟩:=Int.eq_ofNat_of_zero_le hq.1;have HQ:ah (i≤xs.length∧(xs.length+1)*64≤140737488355328):=aS ⟨by have:=hq.2.1;omega,hq.2.2⟩;clear x8 hq X2
  go_upto_region 7 with (fail)
  refine di (n:=12) (ds:=[8,11]) (S:=fun w'=>w'.cell? ⟨g,0,none⟩=some (.slice A xs.length cc)∧w'.rangeAt p3 0 [.string c0,.string c1,.int .i64 c2,.string c3,.bool c4]) (bA 12 0) (by kernel_rfl) rfl rfl ⟨(aC (ar HA1.out.2.1) 0).trans rfl,gY (ar B3.out)⟩ (fun hHeld=>?_)
  generalize hw_:World.drew _=w5 at hHeld ⊢
  have B3d:ah (w5.heap[p3]? = _):=aS (hw_▸ar B3.out);have HAd:ah (cg.At w5 base g _ _ _):=aS (hw_▸HA1.out.below (bH (Below.refl _ _)));have TWd:ah (cg.Two w w5 g _):=aS (hw_▸TW.out.step (bH (Below.refl _ _)));clear hw_ B3 HA1 TW;refine cD (T:=(true,[([],[]),([],[]),([1],[1]),([2],[2]),([3],[3]),([],[]),([],[]),([6],[6]),([4,5,7],[4,5,7]),([0,0,1,2,3,4,5,6,7,8],[0]),([9,0,1,2,3,4,5,6,7,8],[9]),([10,8,8,0,1,2,3,4,5,6,7,8],[8,10])])) (B:=[0,0,2,6,14,0,0,64,254,511,1023,2047]) (by kernel_rfl) (by kernel_rfl) (fun HT_ HW_=>?_);refine aZ [(0,42),(1,43),(2,44),(3,45),(5,47)] ?_
  iterate 5 (refine ck HT_ ?_)
  refine bT (bA 12 47) (by kernel_rfl) ?_;refine aZ [(4,46)] ?_
  iterate 1 (refine dY HT_ HW_ hHeld ?_)
  refine bT (bA 12 63) (by kernel_rfl) ?_;refine ij (i:=6) (N:=(some 48)) (v:=.agg #[.string c0,.string c1,.int .i64 c2,.string c3,.bool c4]) (a':=?_) (bA 12 127) rfl rfl (iz HT_.out HW_.out (by kernel_rfl)) (fun _ _ _ h=>h) (yieldsIf_load_mid (by rfl) 34 _ rfl p3 0 (by go_simp) _ _ (fun w' hw'=>hw'.2) hu29 rfl hsz) hHeld ?_ ?_
  rotate_left
  ·
   simp only [Act.put,eI,eG,lss,cC,dw]
   rfl
  refine dH 7 (N:=some 49) (bA 12 255) HT_ (fun K hK=>?_);refine mg (w1:=?_) (v:=?_) (by rfl) rfl ?_ ?_
  rotate_left 2
  ·
   go_simp
   constructor
   ·
    rfl
   ·
    rfl
  refine hK.out _ _ ⟨(aC (ax HAd.out.2.1 _) 0).trans rfl,gY (ax B3d.out _)⟩ (fun hHeld=>?_);clear hK K;refine nm 49 ?_;have hv6:=heap_alloc_new w5 (.cells [.string c0,.string c1,.int .i64 c2,.string c3,.bool c4].toArray 34 (0,0));have hbl6:=wH (Below.refl w5.heap.size w5) (.cells [.string c0,.string c1,.int .i64 c2,.string c3,.bool c4].toArray 34 (0,0));have hw5:=HAd.out;have VN:ah (some w5.heap.size≠(Value.slice A xs.length cc).ownBlock):=aS (fun he=>by have:=Kd.cP HAd.out.2.2 _ he.symm;omega);have HA1:=aS (HAd.out.below hbl6);have B3:=aS (aI B3d.out hbl6);have TW:=aS (TWd.out.step hbl6);have V6:=aS hv6;clear hv6 hbl6 hw5 HAd B3d TWd;refine jP (i:=8) (N:=(some 50)) (bA 12 511) rfl rfl (jW HT_.out (by kernel_rfl)) (by decide) (fun K hK=>?_)
  
  refine gb Tryz.func49 #[.slice A xs.length cc,.int .i64 i,.slice (some ⟨w5.heap.size,0,none⟩) 1 1] ?_;refine (zy.ins _ base (fun _=>True) (.slice A xs.length cc) xs (⟨c0,c1,c2,c3,c4⟩:au) i w5.heap.size HA1.out.2.2 (fun _ _=>trivial) (by have:=HA1.out.1;have:=HA1.out.lt;omega) HQ.out.1 V6.out VN.out HQ.out.2).mono ?_
  rintro e_ w7 ⟨v1,rfl,ho,hg,hat⟩
  refine ⟨_,rfl,?_⟩;have G7:=aS (eP HA1.out.2.1 hg HA1.out.ne);have B37:=aS (eP B3.out hg hpg.out.2);have R7:=aS ho;have T7:=aS (TW.out.trans (cg.Two.grown hg g) (.inl rfl));have AT:ah (v1.ownBlock=(Value.slice A xs.length cc).ownBlock∨∃ b,v1.ownBlock=some b∧w.heap.size≤b):=aS (hat.imp_right fun ⟨b,hb,hle⟩=>⟨b,hb,by have:=TW.out.size;omega⟩);have BG:=aS HA1.out.1;clear ho hg hat HA1 B3 TW V6 VN;refine hK.out _ _ ?_;clear hK K;refine nm 50 ?_;refine aZ [(9,51),(10,52)] ?_
  iterate 2 (refine ck HT_ ?_)
  refine bT (bA 12 2047) (by kernel_rfl) ?_;refine jP (i:=11) (N:=none) (bA 12 4095) rfl rfl (jW HT_.out (by kernel_rfl)) (by decide) (fun K hK=>?_);rw [if_pos (by rfl)]
  obtain ⟨ys,hys⟩:∃ ys,ys=xs.take i++(⟨c0,c1,c2,c3,c4⟩:au) :: xs.drop i:=⟨_,rfl⟩
  have R8:ah (Kd.R _ _ w7 base _ v1 ys):=aS (hys▸R7.out);have HY:=aS hys;clear hys R7;obtain ⟨A1,cc1,rfl⟩:=Kd.bp R8.out;have hfz:=dx G7.out 0;have hcl:=(aC G7.out 0).trans rfl;have HA1:ah (cg.At (w7.setCell ⟨g,0,none⟩ (.slice A1 ys.length cc1)) base g ys n (.slice A1 ys.length cc1)):=aS ⟨BG.out,bk G7.out 0 _ rfl,Kd.jF R8.out G7.out (by decide) 0 _⟩;have TW:=aS (T7.out.trans (cg.Two.set w7 g 0 (.slice A1 ys.length cc1) (Value.slice A xs.length cc).ownBlock) (.inl rfl));have B3:=aS (dR B37.out hpg.out.1 (.slice A1 ys.length cc1) (p:=⟨g,0,none⟩))
  unfold Oper.wp
  go_simp
  refine hK.out _ _ ?_;clear hK K;refine fX HT_ ?_;clear hfz hcl HT_ HW_ G7 B37 R8 T7 BG
  go_upto_region 8 with (fail)
  refine di (n:=10) (ds:=[9]) (S:=fun w'=>w'.cell? ⟨g,1,none⟩=some (.int .i64 n)∧w'.rangeAt p3 0 [.string c0,.string c1,.int .i64 c2,.string c3,.bool c4]) (bA 10 0) (by kernel_rfl) rfl rfl ⟨(aC (ar HA1.out.2.1) 1).trans rfl,gY (ar B3.out)⟩ (fun hHeld=>?_)
  generalize hw_:World.drew _=w20 at hHeld ⊢
  have B3d:ah (w20.heap[p3]? = _):=aS (hw_▸ar B3.out);have HAd:ah (cg.At w20 base g _ _ _):=aS (hw_▸HA1.out.below (bH (Below.refl _ _)));have TWd:ah (cg.Two w w20 g _):=aS (hw_▸TW.out.step (bH (Below.refl _ _)));clear hw_ B3 HA1 TW;refine cD (T:=(true,[([],[]),([0],[0]),([1],[1]),([2],[2]),([],[]),([4],[4]),([3,5],[3,5]),([0,0,1,2,3,4,5,6],[0]),([7,0,1,2,3,4,5,6],[7]),([8,6,5,0,1,2,3,4,5,6],[6,8])])) (B:=[0,1,3,7,0,16,63,127,255,511]) (by kernel_rfl) (by kernel_rfl) (fun HT_ HW_=>?_);refine aZ [(0,53),(1,54),(2,55)] ?_
  iterate 3 (refine ck HT_ ?_)
  refine bT (bA 10 7) (by kernel_rfl) ?_;refine aZ [(3,56)] ?_
  iterate 1 (refine dY HT_ HW_ hHeld ?_)
  refine bT (bA 10 15) (by kernel_rfl) ?_;refine ij (i:=4) (N:=(some 57)) (v:=.agg #[.string c0,.string c1,.int .i64 c2,.string c3,.bool c4]) (a':=?_) (bA 10 31) rfl rfl (iz HT_.out HW_.out (by kernel_rfl)) (fun _ _ _ h=>h) (yieldsIf_load_mid (by rfl) 34 _ rfl p3 0 (by go_simp) _ _ (fun w' hw'=>hw'.2) hu29 rfl hsz) hHeld ?_ ?_
  rotate_left
  ·
   simp only [Act.put,eI,eG,lss,cC,dw]
   rfl
  refine dH 5 (N:=some 58) (bA 10 63) HT_ (fun K hK=>?_);refine gb Tryz.func48 #[.agg #[.string c0,.string c1,.int .i64 c2,.string c3,.bool c4]] ?_
  with_reducible refine (gR.calls c0 c1 c2 c3 c4 b8 _ X8.out).mono ?_
  rintro e_ w21 ⟨rfl,hb⟩
  refine ⟨_,rfl,?_⟩;have B3:=aS (aI B3d.out hb);have HA1:=aS (HAd.out.below hb);have TW:=aS (TWd.out.step hb);clear hb B3d HAd TWd;refine hK.out _ _ ⟨(aC HA1.out.2.1 1).trans rfl,gY B3.out⟩ (fun hHeld=>?_);clear hK K;refine nm 58 ?_;refine aZ [(6,59),(7,60),(8,61)] ?_
  iterate 3 (refine ck HT_ ?_)
  refine bT (bA 10 511) (by kernel_rfl) ?_;refine jP (i:=9) (N:=none) (bA 10 1023) rfl rfl (jW HT_.out (by kernel_rfl)) (by decide) (fun K hK=>?_);rw [if_pos (by rfl)];have hfz:=dx HA1.out.2.1 1;have hcl:=(aC HA1.out.2.1 1).trans rfl;have HA2:ah (cg.At (w21.setCell ⟨g,1,none⟩ (.int .i64 (wrap64 (n+b8)))) base g ys (wrap64 (n+b8)) (.slice A1 ys.length cc1)):=aS ⟨HA1.out.1,bk HA1.out.2.1 1 _ rfl,Kd.jF HA1.out.2.2 HA1.out.2.1 (by decide) 1 _⟩;have TW2:=aS (TW.out.trans (cg.Two.set w21 g 1 (.int .i64 (wrap64 (n+b8))) (Value.slice A xs.length cc).ownBlock) (.inl rfl))
  unfold Oper.wp
  go_simp
  refine hK.out _ _ ?_;clear hK K;refine fX HT_ ?_;clear hfz hcl HT_ HW_
  go_wp2
  go_ret
  have e_:=HY.out;subst e_;exact ⟨rfl,_,HA2.out,TW2.out,AT.out⟩
 | true=>
  have h:=H.out;clear H;replace h:(if 0≤q1∧q1<(xs.length:Int) then (gR.f (af xs q1).f0 (af xs q1).f1 (af xs q1).f2 (af xs q1).f3 (af xs q1).f4).bind fun a=>(gR.f c0 c1 c2 c3 c4).bind fun b=>some (xs.set q1.toNat ⟨c0,c1,c2,c3,c4⟩,wrap64 (wrap64 (n - a)+b),true) else none)=some (xs',n',r):=h
  by_cases hq:0≤q1∧q1<(xs.length:Int)
  case neg=>rw [if_neg hq] at h;cases h
  rw [if_pos hq] at h;replace h:=bU h;obtain ⟨a5,x5,h⟩:=h;replace h:=bU h;obtain ⟨b8,x8,h⟩:=h;have X5:=aS x5;have X8:=aS x8
  obtain h:=Option.some.inj h
  simp only [Prod.mk.injEq] at h
  obtain ⟨rfl,rfl,rfl⟩:=h;clear x5 x8;have hq0:=hq.1;have hq1:=hq.2;obtain ⟨gr,cap,hv,_,_,cur_,hcur_⟩:=Kd.n_ HA1.out.2.2 (by omega)
  injection hv with ha _ hc
  subst ha;subst hc;have hne:ah (gr≠g∧p3≠gr):=aS ⟨fun he=>HA1.out.ne (by rw [he];rfl),fun he=>hpg.out.2 (by rw [he];rfl)⟩;have hn29:ah ((w4.heap[gr]? = some (.cells cur_ 34 (0,0)))):=aS hcur_;clear hq hcur_ X2
  have hix:∀ W:World,(Instr.indexAt 32 (.slice (some ⟨gr,0,none⟩) xs.length cc) (.int .i64 q1)).run Tryz.prog W = .ok (.pointer (some ⟨gr,q1.toNat*5,none⟩)) W:=by
   obtain ⟨i0,hi0,hz⟩:=Option.map_eq_some_iff.1 hsz;exact Dl 32 34 hu22 hi0 5 hz gr xs.length cc q1 hq0 hq1
  obtain ⟨ce,_,hcM,hcc,_⟩:=Kd.mW HA1.out.2.2 Ch q1 hq0 hq1
  obtain rfl:=wN hcM
  clear hcM
  obtain ⟨xi,hxi⟩:∃ xi,xi=af xs q1:=⟨_,rfl⟩
  have RC:ah (w4.rangeAt gr (q1.toNat*5) [.string xi.f0,.string xi.f1,.int .i64 xi.f2,.string xi.f3,.bool xi.f4]):=aS (fun j u hj=>hcc j u (by rw [hxi] at hj;exact hj));have X5:ah (gR.f xi.f0 xi.f1 xi.f2 xi.f3 xi.f4=some a5):=aS (by rw [hxi];exact X5.out);clear hcc hxi
  go_upto_region 5 with (fail)
  refine di (n:=16) (ds:=[15]) (S:=fun w'=>w'.cell? ⟨g,0,none⟩=some (.slice (some ⟨gr,0,none⟩) xs.length cc)∧w'.cell? ⟨g,1,none⟩=some (.int .i64 n)∧w'.rangeAt gr (q1.toNat*5) [.string xi.f0,.string xi.f1,.int .i64 xi.f2,.string xi.f3,.bool xi.f4]) (bA 16 0) (by kernel_rfl) rfl rfl ⟨(aC (ar HA1.out.2.1) 0).trans rfl,(aC (ar HA1.out.2.1) 1).trans rfl,fun j u hj=>RC.out j u hj⟩ (fun hHeld=>?_)
  generalize hw_:World.drew _=w8 at hHeld ⊢
  have B3d:ah (w8.heap[p3]? = _):=aS (hw_▸ar B3.out);have HAd:ah (cg.At w8 base g _ _ _):=aS (hw_▸HA1.out.below (bH (Below.refl _ _)));have TWd:ah (cg.Two w w8 g _):=aS (hw_▸TW.out.step (bH (Below.refl _ _)));clear hw_ B3 HA1 TW;clear RC;refine cD (T:=(true,[([],[]),([0],[0]),([1],[1]),([2],[2]),([],[]),([4],[4]),([5],[5]),([6],[6]),([],[]),([7,8],[7,8]),([9],[9]),([10],[10]),([3,11],[3,11]),([0,0,1,2,3,4,5,6,7,8,9,10,11,12],[0]),([13,0,1,2,3,4,5,6,7,8,9,10,11,12],[13]),([14,12,11,0,1,2,3,4,5,6,7,8,9,10,11,12],[12,14])])) (B:=[0,1,3,7,0,16,48,112,0,496,1008,2032,4095,8191,16383,32767]) (by kernel_rfl) (by kernel_rfl) (fun HT_ HW_=>?_);refine aZ [(0,20),(1,21),(2,22),(4,24),(5,25),(6,26),(8,28)] ?_
  iterate 7 (refine ck HT_ ?_)
  refine bT (bA 16 375) (by kernel_rfl) ?_;refine aZ [(3,23),(7,27)] ?_
  iterate 2 (refine dY HT_ HW_ hHeld ?_)
  refine bT (bA 16 511) (by kernel_rfl) ?_;refine aZ [(9,29)] ?_
  iterate 1 (refine ck HT_ ?_)
  refine bT (bA 16 1023) (by kernel_rfl) ?_;refine ij (i:=10) (N:=(some 30)) (v:=.agg #[.string xi.f0,.string xi.f1,.int .i64 xi.f2,.string xi.f3,.bool xi.f4]) (a':=?_) (bA 16 2047) rfl rfl (iz HT_.out HW_.out (by kernel_rfl)) (fun _ _ _ h=>h) (yieldsIf_load_mid (by rfl) 34 _ rfl gr (q1.toNat*5) (by go_simp) _ _ (fun w' hw'=>hw'.2.2) hu29 rfl hsz) hHeld ?_ ?_
  rotate_left
  ·
   simp only [Act.put,eI,eG,lss,cC,dw]
   rfl
  refine dH 11 (N:=some 31) (bA 16 4095) HT_ (fun K hK=>?_);refine gb Tryz.func48 #[.agg #[.string xi.f0,.string xi.f1,.int .i64 xi.f2,.string xi.f3,.bool xi.f4]] ?_
  with_reducible refine (gR.calls xi.f0 xi.f1 xi.f2 xi.f3 xi.f4 a5 _ X5.out).mono ?_
  rintro e_ w9 ⟨rfl,hb⟩
  refine ⟨_,rfl,?_⟩;have RC:=aS (show w9.rangeAt gr (q1.toNat*5) [.string xi.f0,.string xi.f1,.int .i64 xi.f2,.string xi.f3,.bool xi.f4] from fun j u hj=>mw hb (hHeld.2.2 j u hj));have B3:=aS (aI B3d.out hb);have HA1:=aS (HAd.out.below hb);have TW:=aS (TWd.out.step hb);clear hb B3d HAd TWd;refine hK.out _ _ ⟨(aC HA1.out.2.1 0).trans rfl,(aC HA1.out.2.1 1).trans rfl,RC.out⟩ (fun hHeld=>?_);clear hK K;refine nm 31 ?_;refine aZ [(12,32),(13,33),(14,34)] ?_
  iterate 3 (refine ck HT_ ?_)
  refine bT (bA 16 32767) (by kernel_rfl) ?_;refine jP (i:=15) (N:=none) (bA 16 65535) rfl rfl (jW HT_.out (by kernel_rfl)) (by decide) (fun K hK=>?_);rw [if_pos (by rfl)];have hfz:=dx HA1.out.2.1 1;have hcl:=(aC HA1.out.2.1 1).trans rfl;have HA2:ah (cg.At (w9.setCell ⟨g,1,none⟩ (.int .i64 (wrap64 (n - a5)))) base g xs (wrap64 (n - a5)) (.slice (some ⟨gr,0,none⟩) xs.length cc)):=aS ⟨HA1.out.1,bk HA1.out.2.1 1 _ rfl,Kd.jF HA1.out.2.2 HA1.out.2.1 (by decide) 1 _⟩;have TW2:=aS (TW.out.trans (cg.Two.set w9 g 1 (.int .i64 (wrap64 (n - a5))) (Value.slice (some ⟨gr,0,none⟩) xs.length cc).ownBlock) (.inl rfl));have B32:=aS (dR B3.out hpg.out.1 (.int .i64 (wrap64 (n - a5))) (p:=⟨g,1,none⟩))
  unfold Oper.wp
  go_simp
  refine hK.out _ _ ?_;clear hK K;refine fX HT_ ?_;clear hfz hcl HT_ HW_ HA1 TW B3 RC;have HA1:=aS HA2.out;have TW:=aS TW2.out;have B3:=aS B32.out;clear HA2 TW2 B32
  generalize w9.setCell ⟨g,1,none⟩ (.int .i64 (wrap64 (n - a5)))=w10 at HA1 TW B3 ⊢
  generalize hn5:wrap64 (n - a5)=n5 at HA1 ⊢
  have HN5:=aS hn5;clear hn5
  go_upto_region 6 with (fail)
  refine di (n:=8) (ds:=[7]) (S:=fun w'=>w'.cell? ⟨g,0,none⟩=some (.slice (some ⟨gr,0,none⟩) xs.length cc)∧w'.rangeAt p3 0 [.string c0,.string c1,.int .i64 c2,.string c3,.bool c4]) (bA 8 0) (by kernel_rfl) rfl rfl ⟨(aC (ar HA1.out.2.1) 0).trans rfl,gY (ar B3.out)⟩ (fun hHeld=>?_)
  generalize hw_:World.drew _=w11 at hHeld ⊢
  have B3d:ah (w11.heap[p3]? = _):=aS (hw_▸ar B3.out);have HAd:ah (cg.At w11 base g _ _ _):=aS (hw_▸HA1.out.below (bH (Below.refl _ _)));have TWd:ah (cg.Two w w11 g _):=aS (hw_▸TW.out.step (bH (Below.refl _ _)));clear hw_ B3 HA1 TW;refine cD (T:=(true,[([],[]),([0],[0]),([1],[1]),([2],[2]),([],[]),([],[]),([3,4,0,1,2,3,4,5],[3,4]),([6,5,0,1,2,3,4,5],[5,6])])) (B:=[0,1,3,7,0,0,63,127]) (by kernel_rfl) (by kernel_rfl) (fun HT_ HW_=>?_);refine aZ [(0,35),(1,36),(2,37),(4,39)] ?_
  iterate 4 (refine ck HT_ ?_)
  refine bT (bA 8 23) (by kernel_rfl) ?_;refine aZ [(3,38)] ?_
  iterate 1 (refine dY HT_ HW_ hHeld ?_)
  refine bT (bA 8 31) (by kernel_rfl) ?_;refine ij (i:=5) (N:=(some 40)) (v:=.agg #[.string c0,.string c1,.int .i64 c2,.string c3,.bool c4]) (a':=?_) (bA 8 63) rfl rfl (iz HT_.out HW_.out (by kernel_rfl)) (fun _ _ _ h=>h) (yieldsIf_load_mid (by rfl) 34 _ rfl p3 0 (by go_simp) _ _ (fun w' hw'=>hw'.2) hu29 rfl hsz) hHeld ?_ ?_
  rotate_left
  ·
   simp only [Act.put,eI,eG,lss,cC,dw]
   rfl
  refine aZ [(6,41)] ?_
  iterate 1 (refine ck HT_ ?_)
  refine bT (bA 8 127) (by kernel_rfl) ?_;refine jP (i:=7) (N:=none) (bA 8 255) rfl rfl (jW HT_.out (by kernel_rfl)) (by decide) (fun K hK=>?_);obtain ⟨ce,hcel,_,hcc,_⟩:=Kd.mW HAd.out.2.2 Ch q1 hq0 hq1
  obtain ⟨hr2,hg2⟩:=Kd.xk HAd.out.2.2 q1 hq0 hq1 (c:=ce) (seg:=[.string c0,.string c1,.int .i64 c2,.string c3,.bool c4]) (j:=0) (x':=(⟨c0,c1,c2,c3,c4⟩:au)) (okp:=fun _=>False) hcel hcc (Nat.le_refl 5) (by
   rw [List.take_zero,List.nil_append,List.drop_of_length_le (by rw [hcel];exact Nat.le_refl 5),List.append_nil]
   exact ia w11 base (fun _=>False) (⟨c0,c1,c2,c3,c4⟩:au)) (fun _ hk=>hk.elim)
  obtain ⟨ch,hh11⟩:=Kd.gu HAd.out.2.2 gr rfl;have hsz11:=uN HAd.out.2.2 hh11
  obtain ⟨w12,hw12⟩:∃ w12,w12=w11.setCells gr (q1.toNat*5) [.string c0,.string c1,.int .i64 c2,.string c3,.bool c4]:=⟨_,rfl⟩
  obtain ⟨ys,hys⟩:∃ ys,ys=xs.set q1.toNat (⟨c0,c1,c2,c3,c4⟩:au):=⟨_,rfl⟩
  replace hr2:Kd.R cm 34 w12 base (fun _=>True) (.slice (some ⟨gr,0,none⟩) xs.length cc) ys:=by rw [hw12,hys];exact hr2
  replace hg2:w11.grownBy w12 (some gr):=by rw [hw12];exact hg2
  refine oH (by rfl) 34 _ _ rfl rfl (by rfl) (.agg #[.string c0,.string c1,.int .i64 c2,.string c3,.bool c4]) (by rfl) [.string c0,.string c1,.int .i64 c2,.string c3,.bool c4] rfl hsz hh11 (by have h5:xs.length*5≤ch.size:=hsz11;show q1.toNat*5+5≤ch.size;omega) ((cm).K_one (sq w11 (⟨c0,c1,c2,c3,c4⟩:au))) ?_;have GA:=eP HAd.out.2.1 hg2 (fun he=>hne.out.1 (by injection he with he;exact he.symm));have B3:=aS (eP B3d.out hg2 (fun he=>hne.out.2 (by injection he)));have HA1:ah (cg.At w12 base g ys n5 (.slice (some ⟨gr,0,none⟩) xs.length cc)):=aS ⟨HAd.out.1,GA,hr2⟩;have TW:=aS (TWd.out.trans (cg.Two.grown hg2 g) (.inl rfl));have HY:=aS hys;rw [←hw12];clear hw12 hys hsz11;refine hK.out _ _ ?_;clear hK K;refine fX HT_ ?_;clear GA hr2 hg2 hcc hcel hh11 HT_ HW_ B3d HAd TWd hHeld
  go_upto_region 8 with (fail)
  refine di (n:=10) (ds:=[9]) (S:=fun w'=>w'.cell? ⟨g,1,none⟩=some (.int .i64 n5)∧w'.rangeAt p3 0 [.string c0,.string c1,.int .i64 c2,.string c3,.bool c4]) (bA 10 0) (by kernel_rfl) rfl rfl ⟨(aC (ar HA1.out.2.1) 1).trans rfl,gY (ar B3.out)⟩ (fun hHeld=>?_)
  generalize hw_:World.drew _=w20 at hHeld ⊢
  have B3d:ah (w20.heap[p3]? = _):=aS (hw_▸ar B3.out);have HAd:ah (cg.At w20 base g _ _ _):=aS (hw_▸HA1.out.below (bH (Below.refl _ _)));have TWd:ah (cg.Two w w20 g _):=aS (hw_▸TW.out.step (bH (Below.refl _ _)));clear hw_ B3 HA1 TW;refine cD (T:=(true,[([],[]),([0],[0]),([1],[1]),([2],[2]),([],[]),([4],[4]),([3,5],[3,5]),([0,0,1,2,3,4,5,6],[0]),([7,0,1,2,3,4,5,6],[7]),([8,6,5,0,1,2,3,4,5,6],[6,8])])) (B:=[0,1,3,7,0,16,63,127,255,511]) (by kernel_rfl) (by kernel_rfl) (fun HT_ HW_=>?_);refine aZ [(0,53),(1,54),(2,55)] ?_
  iterate 3 (refine ck HT_ ?_)
  refine bT (bA 10 7) (by kernel_rfl) ?_;refine aZ [(3,56)] ?_
  iterate 1 (refine dY HT_ HW_ hHeld ?_)
  refine bT (bA 10 15) (by kernel_rfl) ?_;refine ij (i:=4) (N:=(some 57)) (v:=.agg #[.string c0,.string c1,.int .i64 c2,.string c3,.bool c4]) (a':=?_) (bA 10 31) rfl rfl (iz HT_.out HW_.out (by kernel_rfl)) (fun _ _ _ h=>h) (yieldsIf_load_mid (by rfl) 34 _ rfl p3 0 (by go_simp) _ _ (fun w' hw'=>hw'.2) hu29 rfl hsz) hHeld ?_ ?_
  rotate_left
  ·
   simp only [Act.put,eI,eG,lss,cC,dw]
   rfl
  refine dH 5 (N:=some 58) (bA 10 63) HT_ (fun K hK=>?_);refine gb Tryz.func48 #[.agg #[.string c0,.string c1,.int .i64 c2,.string c3,.bool c4]] ?_
  with_reducible refine (gR.calls c0 c1 c2 c3 c4 b8 _ X8.out).mono ?_
  rintro e_ w21 ⟨rfl,hb⟩
  refine ⟨_,rfl,?_⟩;have B3:=aS (aI B3d.out hb);have HA1:=aS (HAd.out.below hb);have TW:=aS (TWd.out.step hb);clear hb B3d HAd TWd;refine hK.out _ _ ⟨(aC HA1.out.2.1 1).trans rfl,gY B3.out⟩ (fun hHeld=>?_);clear hK K;refine nm 58 ?_;refine aZ [(6,59),(7,60),(8,61)] ?_
  iterate 3 (refine ck HT_ ?_)
  refine bT (bA 10 511) (by kernel_rfl) ?_;refine jP (i:=9) (N:=none) (bA 10 1023) rfl rfl (jW HT_.out (by kernel_rfl)) (by decide) (fun K hK=>?_);rw [if_pos (by rfl)];have hfz:=dx HA1.out.2.1 1;have hcl:=(aC HA1.out.2.1 1).trans rfl;have HA2:ah (cg.At (w21.setCell ⟨g,1,none⟩ (.int .i64 (wrap64 (n5+b8)))) base g ys (wrap64 (n5+b8)) (.slice (some ⟨gr,0,none⟩) xs.length cc)):=aS ⟨HA1.out.1,bk HA1.out.2.1 1 _ rfl,Kd.jF HA1.out.2.2 HA1.out.2.1 (by decide) 1 _⟩;have TW2:=aS (TW.out.trans (cg.Two.set w21 g 1 (.int .i64 (wrap64 (n5+b8))) (Value.slice (some ⟨gr,0,none⟩) xs.length cc).ownBlock) (.inl rfl))
  unfold Oper.wp
  go_simp
  refine hK.out _ _ ?_;clear hK K;refine fX HT_ ?_;clear hfz hcl HT_ HW_
  go_wp2
  go_ret
  have e_:=HY.out;subst e_;have e2_:=HN5.out;subst e2_;exact ⟨rfl,_,HA2.out,TW2.out,.inl rfl⟩
theorem yB.calls (g base:Nat) (xs:List au) (n:Int) (v:Value) (w:World) (hA:cg.At w base g xs n v) :
  Calls Tryz.prog 30 #[.pointer (some ⟨g,0,none⟩)] w fun e w'=>e = .returned (.int .i64 n)∧Below w.heap.size w w':=by
 have hu46:=Tryz.underlying78;obtain ⟨A,cc,rfl,hcl,hC⟩:=hA.rows;have B:=aS hA.2.1;clear hA hcl hC;have q0:=Eb B
 go_enter Tryz.func30,Tryz.ntmps30
 go_wp2
 go_ret
 exact ⟨rfl,Below.refl _ _⟩
def cx.tail (k:Nat) (s1 s2 s3:Int) (xs:List au) (n:Int) (ls:List (List (List au × List (List au) × List Int))) (c0 c1:ByteArray) (c2:Int) (c3:ByteArray) (c4:Bool):Option (List au × Int × List (List (List au × List (List au) × List Int)) × Int):=
 (gW.f k xs n c0 c1 c2 c3 c4).bind fun p=>if s1≤p.2.1 then (bh.f k s2 s3 p.1 p.2.1 ls).bind fun q=>some (q.1,q.2.1,q.2.2,0) else some (p.1,p.2.1,ls,0)
def cx.f (k:Nat) (s1 s2 s3:Int) (xs:List au) (n:Int) (ls:List (List (List au × List (List au) × List Int))) (c0 c1:ByteArray) (c2:Int) (c3:ByteArray) (c4:Bool):Option (List au × Int × List (List (List au × List (List au) × List Int)) × Int):=
 (eL.f c0 c1 c2 c3 c4).bind fun o=>if o=true then (bQ.f k xs ls c0 c1 c2).bind fun hs=>if hs=true then cx.tail k s1 s2 s3 xs n ls c0 c1 c2 c3 c4 else (cX.f k xs ls).bind fun a=>if (a.length:Int)=400 then some (xs,n,ls,4) else cx.tail k s1 s2 s3 xs n ls c0 c1 c2 c3 c4 else some (xs,n,ls,1)
theorem cx.mK:∀ a0 a1 a2 a3 a4 a5 a6 a7 a8 a9 a10 k,aH (cx.tail k a0 a1 a2 a3 a4 a5 a6 a7 a8 a9 a10) (cx.tail (k+1) a0 a1 a2 a3 a4 a5 a6 a7 a8 a9 a10):=fun _ _ _ _ _ _ _ _ _ _ _ _=>aH.bind (gW.mono _ _ _ _ _ _ _ _) fun _=>aH.ite (aH.bind (bh.mono _ _ _ _ _ _) fun _=>aH.refl _) (aH.refl _)
theorem cx.mono:∀ a0 a1 a2 a3 a4 a5 a6 a7 a8 a9 a10 k,aH (cx.f k a0 a1 a2 a3 a4 a5 a6 a7 a8 a9 a10) (cx.f (k+1) a0 a1 a2 a3 a4 a5 a6 a7 a8 a9 a10):=fun _ _ _ _ _ _ _ _ _ _ _ _=>aH.bind (aH.refl _) fun _=>aH.ite (aH.bind (bQ.mono _ _ _ _ _ _) fun _=>aH.ite (cx.mK _ _ _ _ _ _ _ _ _ _ _ _) (aH.bind (cX.mono _ _ _) fun _=>aH.ite (aH.refl _) (cx.mK _ _ _ _ _ _ _ _ _ _ _ _))) (aH.refl _)
theorem cx.calls (k g base:Nat) (ok:Nat→Prop) (s1 s2 s3:Int) (xs xs':List au) (n n':Int) (ls ls':List (List (List au × List (List au) × List Int))) (c0 c1:ByteArray) (c2:Int) (c3:ByteArray) (c4:Bool) (r:Int) (w:World) (hA:ak.At w base ok g s1 s2 s3 xs n ls) (h:cx.f k s1 s2 s3 xs n ls c0 c1 c2 c3 c4=some (xs',n',ls',r)) :
  Calls Tryz.prog 12 #[.pointer (some ⟨g,0,none⟩),.agg #[.string c0,.string c1,.int .i64 c2,.string c3,.bool c4]] w fun e w'=>e = .returned (.int .i64 r)∧ak.At w' base (fun k=>ok k∨w.heap.size≤k) g s1 s2 s3 xs' n' ls'∧ak.fD w w' ok:=by
 have hu30:=Tryz.underlying27;have hu51:=Tryz.underlying61;have hu23:=Tryz.underlying23;have hu49:=Tryz.underlying59;have hu53:=Tryz.underlying64;have hu24:=Tryz.underlying32;have hu61:=Tryz.underlying73;have hu26:=Tryz.underlying34;have hu47:=Tryz.underlying57
 have hsz:(Tryz.prog.info? 34).map (·.size)=some 5:=by
  obtain ⟨i0,hi0,hz⟩:=Option.map_eq_some_iff.1 eO
  simp only [Prod.mk.injEq] at hz
  rw [hi0];simp [hz.2.1]
 have HT:=aS hA;clear hA;have H:=aS h;clear h
 go_enter Tryz.func12,Tryz.ntmps12
 refine wp_seq_k (fun K_ hK_=>?_)
 go_cut [3] (fun v3 wc=>∃ p3:Nat,v3 = .pointer (some ⟨p3,0,none⟩)∧ah (w.heap.size≤p3)∧ah (wc.heap[p3]? = some (.cells #[.string c0,.string c1,.int .i64 c2,.string c3,.bool c4] 34 (0,0)))∧ah (Below w.heap.size w wc))
 case first=>
  go_wp2_with (first | ((with_reducible refine gD 3 ?_);refine dK 3 #[.string c0,.string c1,.int .i64 c2,.string c3,.bool c4] 34 ?_;intro p3 hg w1 hb hbl;have B3:=aS hb;have G3:ah (w.heap.size≤p3):=aS (by rw [hg];exact Nat.le_refl _);have HB:=aS hbl;clear hg hb hbl;have q5:=cO B3))
  go_meet
  case rel=>exact ⟨p3,rfl,G3,B3,HB⟩
 obtain ⟨p3,rfl,G3,B3,HB⟩:=hcut
 rename World=>w1
 refine hK_ _ _ ?_;refine wp_seq_k (fun K2_ hK2_=>?_)
 go_cut [] (fun wc=>ah (cx.tail k s1 s2 s3 xs n ls c0 c1 c2 c3 c4=some (xs',n',ls',r))∧ah (wc.heap[p3]? = some (.cells #[.string c0,.string c1,.int .i64 c2,.string c3,.bool c4] 34 (0,0)))∧ah (Below w.heap.size w wc))
 case first=>
  have q5:=cO B3;have h:=H.out
  unfold cx.f at h
  replace h:=bU h;obtain ⟨o,x1,h⟩:=h;have X1:=aS x1;clear x1 H
  cases o with
  | false=>
   rw [if_neg Bool.false_ne_true] at h
   obtain h:=Option.some.inj h
   simp only [Prod.mk.injEq] at h
   obtain ⟨rfl,rfl,rfl,rfl⟩:=h
   go_wp2_with (first | (go_at_call 27;(with_reducible refine (eL.calls c0 c1 c2 c3 c4 false _ X1.out).mono ?_);rintro e_ w2 ⟨rfl,hb⟩;have n1_:=aS (aI B3.out hb);have n2_:=aS (aE HB.out hb);clear B3 HB hb q5;have B3:=n1_;have HB:=n2_;clear n1_ n2_;have q5:=cO B3))
   go_ret
   exact ⟨rfl,(HT.out.below HB.out).mono (fun _ hk=>.inl hk),ak.fD.j5 HB.out _⟩
  | true=>
  rw [if_pos rfl] at h;replace h:=bU h;obtain ⟨hs,x2,h⟩:=h;have X2:=aS x2;clear x2
  cases hs with
  | true=>
   rw [if_pos rfl] at h;have H:=aS h;clear h
   go_wp2_with (first | (go_at_call 27;(with_reducible refine (eL.calls c0 c1 c2 c3 c4 true _ X1.out).mono ?_);rintro e_ w2 ⟨rfl,hb⟩;have n1_:=aS (aI B3.out hb);have n2_:=aS (aE HB.out hb);clear B3 HB hb q5;have B3:=n1_;have HB:=n2_;clear n1_ n2_;have q5:=cO B3) | (go_at_call 28;(with_reducible refine (bQ.calls k g base ok s1 s2 s3 xs n ls c0 c1 c2 c3 c4 true _ (HT.out.below HB.out) X2.out).mono ?_);rintro e_ w3 ⟨rfl,hb⟩;have n1_:=aS (aI B3.out hb);have n2_:=aS (aE HB.out hb);clear B3 HB hb q5;have B3:=n1_;have HB:=n2_;clear n1_ n2_;have q5:=cO B3))
   go_meet
   case rel=>exact ⟨H,B3,HB⟩
  | false=>
  rw [if_neg Bool.false_ne_true] at h;replace h:=bU h;obtain ⟨a,x3,h⟩:=h;have X3:=aS x3;clear x3
  by_cases hl:(a.length:Int)=400
  ·
   rw [if_pos hl] at h;obtain ⟨hl1,hl2⟩:=jh hl
   obtain h:=Option.some.inj h
   simp only [Prod.mk.injEq] at h
   obtain ⟨rfl,rfl,rfl,rfl⟩:=h;clear hl
   go_wp2_with (first | (go_at_call 27;(with_reducible refine (eL.calls c0 c1 c2 c3 c4 true _ X1.out).mono ?_);rintro e_ w2 ⟨rfl,hb⟩;have n1_:=aS (aI B3.out hb);have n2_:=aS (aE HB.out hb);clear B3 HB hb q5;have B3:=n1_;have HB:=n2_;clear n1_ n2_;have q5:=cO B3) | (go_at_call 28;(with_reducible refine (bQ.calls k g base ok s1 s2 s3 xs n ls c0 c1 c2 c3 c4 false _ (HT.out.below HB.out) X2.out).mono ?_);rintro e_ w3 ⟨rfl,hb⟩;have n1_:=aS (aI B3.out hb);have n2_:=aS (aE HB.out hb);clear B3 HB hb q5;have B3:=n1_;have HB:=n2_;clear n1_ n2_;have q5:=cO B3) | (go_at_call 19;(with_reducible refine (cX.calls k base ok g s1 s2 s3 xs n ls a _ (HT.out.below HB.out) X3.out).mono ?_);rintro e_ w5 ⟨v5,rfl,ho,hb⟩;obtain ⟨Aa,ca,rfl⟩:=Kd.bp ho;have n1_:=aS (aI B3.out hb);have n2_:=aS (aE HB.out hb);clear B3 HB hb ho q5;have B3:=n1_;have HB:=n2_;clear n1_ n2_;have q5:=cO B3))
   go_ret
   exact ⟨rfl,(HT.out.below HB.out).mono (fun _ hk=>.inl hk),ak.fD.j5 HB.out _⟩
  ·
   rw [if_neg hl] at h;obtain ⟨hl1,hl2⟩:=iT hl;have H:=aS h;clear h hl
   go_wp2_with (first | (go_at_call 27;(with_reducible refine (eL.calls c0 c1 c2 c3 c4 true _ X1.out).mono ?_);rintro e_ w2 ⟨rfl,hb⟩;have n1_:=aS (aI B3.out hb);have n2_:=aS (aE HB.out hb);clear B3 HB hb q5;have B3:=n1_;have HB:=n2_;clear n1_ n2_;have q5:=cO B3) | (go_at_call 28;(with_reducible refine (bQ.calls k g base ok s1 s2 s3 xs n ls c0 c1 c2 c3 c4 false _ (HT.out.below HB.out) X2.out).mono ?_);rintro e_ w3 ⟨rfl,hb⟩;have n1_:=aS (aI B3.out hb);have n2_:=aS (aE HB.out hb);clear B3 HB hb q5;have B3:=n1_;have HB:=n2_;clear n1_ n2_;have q5:=cO B3) | (go_at_call 19;(with_reducible refine (cX.calls k base ok g s1 s2 s3 xs n ls a _ (HT.out.below HB.out) X3.out).mono ?_);rintro e_ w5 ⟨v5,rfl,ho,hb⟩;obtain ⟨Aa,ca,rfl⟩:=Kd.bp ho;have n1_:=aS (aI B3.out hb);have n2_:=aS (aE HB.out hb);clear B3 HB hb ho q5;have B3:=n1_;have HB:=n2_;clear n1_ n2_;have q5:=cO B3))
   go_meet
   case rel=>exact ⟨H,B3,HB⟩
 clear H B3 HB;obtain ⟨H,B3,HB⟩:=hcut
 rename World=>w4
 have h:=H.out
 unfold cx.tail at h
 replace h:=bU h;obtain ⟨⟨x5,n5,b5⟩,x1,h⟩:=h;have X1:=aS x1;have H2:=aS h;obtain ⟨gm,vm,vl,vs,hA⟩:=HT.out;have HA:=aS (hA.below HB.out);have q0:=cO (aS HA.out.cU);clear H h x1 hA
 go_upto_region 5 with (fail)
 refine di (n:=6) (ds:=[5]) (S:=fun w'=>w'.cell? ⟨g,3,none⟩=some (.pointer (some ⟨gm,0,none⟩))∧w'.rangeAt p3 0 [.string c0,.string c1,.int .i64 c2,.string c3,.bool c4]) (bA 6 0) (by kernel_rfl) rfl rfl ⟨(aC (ar HA.out.cU) 3).trans rfl,gY (ar B3.out)⟩ (fun hHeld=>?_)
 generalize hw_:World.drew _=wd at hHeld ⊢
 have HAd:ah (ak.eC wd base _ g gm vm _ vs vs s1 s2 s3 xs n ls):=aS (hw_▸HA.out.below (bH (Below.refl _ _)));have HBd:ah (Below w.heap.size w wd):=aS (hw_▸aE HB.out (bH (Below.refl _ _)));clear hw_ HA HB B3 q0;refine cD (T:=(true,[([],[]),([0],[0]),([1],[1]),([2],[2]),([],[]),([3,4],[3,4])])) (B:=[0,1,3,7,0,31]) (by kernel_rfl) (by kernel_rfl) (fun HT_ HW_=>?_);refine aZ [(0,20),(1,21),(2,22)] ?_
 iterate 3 (refine ck HT_ ?_)
 refine bT (bA 6 7) (by kernel_rfl) ?_;refine aZ [(3,23)] ?_
 iterate 1 (refine dY HT_ HW_ hHeld ?_)
 refine bT (bA 6 15) (by kernel_rfl) ?_;refine ij (i:=4) (N:=(some 24)) (v:=.agg #[.string c0,.string c1,.int .i64 c2,.string c3,.bool c4]) (a':=?_) (bA 6 31) rfl rfl (iz HT_.out HW_.out (by kernel_rfl)) (fun _ _ _ h=>h) (yieldsIf_load_mid (by rfl) 34 _ rfl p3 0 (by go_simp) _ _ (fun w' hw'=>hw'.2) hu26 rfl hsz) hHeld ?_ ?_
 rotate_left
 ·
  simp only [Act.put,eI,eG,lss,cC,dw]
  rfl
 refine jP (i:=5) (N:=(some 25)) (bA 6 63) rfl rfl (jW HT_.out (by kernel_rfl)) (by decide) (fun K hK=>?_);refine gb Tryz.func29 #[.pointer (some ⟨gm,0,none⟩),.agg #[.string c0,.string c1,.int .i64 c2,.string c3,.bool c4]] ?_
 with_reducible refine (gW.calls k gm base xs n vm c0 c1 c2 c3 c4 x5 n5 b5 _ HAd.out.mem X1.out).mono ?_
 rintro e_ w6 ⟨rfl,v5,ha_,ht_,hv_⟩
 refine ⟨_,rfl,?_⟩;obtain ⟨hu_,hc_⟩:=HAd.out.GV ha_ ht_ hv_ (ok':=(fun k=>ok k∨w.heap.size≤k)) (fun _ hk=>.inl hk) (fun k hk=>.inr (Nat.le_trans HBd.out.size hk));have HU:=aS hu_;have HC6:ah (ak.fD w w6 ok):=aS ((ak.fD.j5 HBd.out ok).trans hc_ (fun _ hk _=>hk));clear ha_ ht_ hv_ hu_ hc_ HAd HBd;refine hK.out _ _ ?_;clear hK K;refine nm 25 ?_;refine fX HT_ ?_;clear HT_ HW_ hHeld;have q0:=cO (aS HU.out.cU)
 go_upto_region 6 with (fail)
 refine di (n:=11) (ds:=[]) (S:=fun w'=>w'.cell? ⟨g,3,none⟩=some (.pointer (some ⟨gm,0,none⟩))∧w'.cell? ⟨g,0,none⟩=some (.int .i64 s1)) (bA 11 0) (by kernel_rfl) rfl rfl ⟨(aC (ar HU.out.cU) 3).trans rfl,(aC (ar HU.out.cU) 0).trans rfl⟩ (fun hHeld=>?_)
 generalize hw_:World.drew _=wd at hHeld ⊢
 have HV:ah (ak.eC wd base _ g gm _ _ vs vs s1 s2 s3 x5 n5 ls):=aS (hw_▸HU.out.below (bH (Below.refl _ _)));have HCv:ah (ak.fD w wd ok):=aS (hw_▸HC6.out.step (bH (Below.refl _ _)));clear hw_ HU HC6 q0;refine cD (T:=(true,[([],[]),([0],[0]),([1],[1]),([2],[2]),([3],[3]),([],[]),([5],[5]),([6],[6]),([7],[7]),([8],[8]),([4,9],[4,9])])) (B:=[0,1,3,7,15,0,32,96,224,480,1023]) (by kernel_rfl) (by kernel_rfl) (fun HT_ HW_=>?_);refine aZ [(0,26),(1,27),(2,28)] ?_
 iterate 3 (refine ck HT_ ?_)
 refine bT (bA 11 7) (by kernel_rfl) ?_;refine aZ [(3,29)] ?_
 iterate 1 (refine dY HT_ HW_ hHeld ?_)
 refine bT (bA 11 15) (by kernel_rfl) ?_;refine aZ [(5,31),(6,32),(7,33),(8,34)] ?_
 iterate 4 (refine ck HT_ ?_)
 refine bT (bA 11 495) (by kernel_rfl) ?_;refine aZ [(9,35)] ?_
 iterate 1 (refine dY HT_ HW_ hHeld ?_)
 refine bT (bA 11 1007) (by kernel_rfl) ?_;refine dH 4 (N:=some 30) (bA 11 1023) HT_ (fun K hK=>?_);refine gb Tryz.func30 #[.pointer (some ⟨gm,0,none⟩)] ?_
 with_reducible refine (yB.calls gm base x5 n5 _ _ HV.out.mem).mono ?_
 rintro e_ w7 ⟨rfl,hb⟩
 refine ⟨_,rfl,?_⟩;have HUd:=aS (HV.out.below hb);have HCd:=aS (HCv.out.step hb);clear hb HV HCv;refine hK.out _ _ ⟨(aC HUd.out.cU 3).trans rfl,(aC HUd.out.cU 0).trans rfl⟩ (fun hHeld=>?_);clear hK K;refine nm 30 ?_;refine aZ [(10,36)] ?_
 iterate 1 (refine ck HT_ ?_)
 refine bT (bA 11 2047) (by kernel_rfl) ?_;refine fX HT_ ?_;clear HT_ HW_ hHeld;have h:=H2.out;clear H2;replace h:(if s1≤n5 then (bh.f k s2 s3 x5 n5 ls).bind fun q=>some (q.1,q.2.1,q.2.2,(0:Int)) else some (x5,n5,ls,0))=some (xs',n',ls',r):=h
 by_cases hs:s1≤n5
 ·
  rw [if_pos hs] at h;replace h:=bU h;obtain ⟨⟨x6,n6,l6⟩,x2,h⟩:=h;have X2:=aS x2
  obtain h:=Option.some.inj h
  simp only [Prod.mk.injEq] at h
  obtain ⟨rfl,rfl,rfl,rfl⟩:=h;have hs1:decide (s1≤n5)=true:=decide_eq_true hs
  first | rw [hs1] | rw [show decide (n5≥s1)=true from hs1]
  clear x2 hs
  go_wp2_with (first | (go_at_call 13;(with_reducible refine (bh.calls k g base (fun k=>ok k∨w.heap.size≤k) s1 s2 s3 x5 x6 n5 n6 ls l6 _ HUd.out.up X2.out).mono ?_);rintro e_ w9 ⟨rfl,ha_,hc_⟩;have HT9:ah (ak.At w9 base (fun k=>ok k∨w.heap.size≤k) g s1 s2 s3 x6 n6 l6):=aS (ha_.mono (fun k hk=>hk.elim id (fun h=>.inr (Nat.le_trans HCd.out.size h))));have HC9:=aS (HCd.out.trans hc_ (fun k hk hlt=>hk.resolve_right (Nat.not_le_of_lt hlt)));clear ha_ hc_))
  try go_wp2
  go_ret
  exact ⟨rfl,HT9.out,HC9.out⟩
 ·
  rw [if_neg hs] at h
  obtain h:=Option.some.inj h
  simp only [Prod.mk.injEq] at h
  obtain ⟨rfl,rfl,rfl,rfl⟩:=h;have hs1:decide (s1≤n5)=false:=decide_eq_false hs
  first | rw [hs1] | rw [show decide (n5≥s1)=false from hs1]
  clear hs
  go_wp2
  go_ret
  exact ⟨rfl,HUd.out.up,HCd.out⟩
def bF.next (z r:au) (o:Bool):au:=if o=true∧z.f2<r.f2 then r else z
theorem bF.nZ (k N pa pb pt pz:Nat) (gm basem:Nat) (xs:List au) (n:Int) (vm:Value) (a b:ByteArray) (t:Int) (z:au) (r1 r2:ByteArray) (r3:Int) (r4:ByteArray) (r5 r6:Bool) (w:World) (ha:w.heap[pa]? = some (.cells #[.string a] 9 (0,0))) (hb:w.heap[pb]? = some (.cells #[.string b] 9 (0,0))) (ht:w.heap[pt]? = some (.cells #[.int .i64 t] 3 (0,0))) (hz:w.heap[pz]? = some (.cells #[.string z.f0,.string z.f1,.int .i64 z.f2,.string z.f3,.bool z.f4] 34 (0,0))) (hpz:pa<pz∧pb<pz∧pt<pz) (hN:N≤pz) (hNw:N≤w.heap.size) (hA:cg.At w basem gm xs n vm) (h:cA.f k xs a b t=some (r1,r2,r3,r4,r5,r6)) :
  Calls Tryz.prog 36 #[.func (.func 54) #[.pointer (some ⟨gm,0,none⟩)] #[],.pointer (some ⟨pa,0,none⟩),.pointer (some ⟨pb,0,none⟩),.pointer (some ⟨pt,0,none⟩),.pointer (some ⟨pz,0,none⟩)] w fun e w'=>e = .returned (.bool ((bF.next z (⟨r1,r2,r3,r4,r5⟩:au) r6).f2 == min t 4294967295))∧Below N w w'∧w'.heap[pa]? = some (.cells #[.string a] 9 (0,0))∧w'.heap[pb]? = some (.cells #[.string b] 9 (0,0))∧w'.heap[pt]? = some (.cells #[.int .i64 t] 3 (0,0))∧w'.heap[pz]? = some (.cells #[.string (bF.next z (⟨r1,r2,r3,r4,r5⟩:au) r6).f0,.string (bF.next z (⟨r1,r2,r3,r4,r5⟩:au) r6).f1,.int .i64 (bF.next z (⟨r1,r2,r3,r4,r5⟩:au) r6).f2,.string (bF.next z (⟨r1,r2,r3,r4,r5⟩:au) r6).f3,.bool (bF.next z (⟨r1,r2,r3,r4,r5⟩:au) r6).f4] 34 (0,0)):=by
 have hu26:=Tryz.underlying34;have BA:=aS ha;have BB:=aS hb;have BT:=aS ht;have BZ:=aS hz;have HPZ:=aS hpz;have HN:=aS hN;have HNw:=aS hNw;have HA:=aS hA;have X:=aS h;clear ha hb ht hz hpz hN hNw hA h;have q0:=lX BA;have q1:=lX BB;have q2:=lX BT;have q3:=cO BZ
 go_enter Tryz.func36,Tryz.ntmps36
 go_upto_region 2 with (first | (go_at_call 54;(with_reducible refine (pW.calls k gm basem xs n vm a b t r1 r2 r3 r4 r5 r6 _ HA.out X.out).mono ?_);rintro e_ w2 ⟨rfl,hb⟩;have BA2:=aS (aI BA.out hb);have BB2:=aS (aI BB.out hb);have BT2:=aS (aI BT.out hb);have BZ2:=aS (aI BZ.out hb);have HB2:=aS (hb.mono HNw.out);clear hb q0 q1 q2 q3 BA BB BT BZ) | ((with_reducible refine gD 7 ?_);refine dK 7 #[.string ⟨#[]⟩,.string ⟨#[]⟩,.int .i64 0,.string ⟨#[]⟩,.bool false] 34 ?_;intro p7 hg w3 hb hbl;have B7:=aS hb;have G7:ah (w2.heap.size≤p7):=aS (by rw [hg];exact Nat.le_refl _);have HL3:=aS hbl;clear hg hb hbl) | ((with_reducible refine dO (t:=34) (p:=7) rfl ?_);refine wpList_store_row rfl 34 _ _ rfl p7 #[.string r1,.string r2,.int .i64 r3,.string r4,.bool r5] rfl rfl 34 _ B7.out (by kernel_rfl) rfl (by kernel_rfl) ?_;have B8:=aS (setRow_heap w3 p7 _ #[.string r1,.string r2,.int .i64 r3,.string r4,.bool r5] _ _ B7.out);have HS:=aS (cV HL3.out G7.out #[.string r1,.string r2,.int .i64 r3,.string r4,.bool r5]);have BA4:=aS (aI BA2.out HS.out);have BB4:=aS (aI BB2.out HS.out);have BT4:=aS (aI BT2.out HS.out);have BZ4:=aS (aI BZ2.out HS.out);have HB4:=aS (HB2.out.trans (HS.out.mono (Nat.le_trans HNw.out HB2.out.size)));clear B7 HL3 HS G7 BA2 BB2 BT2 BZ2 HB2;generalize World.setRow w3 p7 #[.string r1,.string r2,.int .i64 r3,.string r4,.bool r5]=w4 at B8 BA4 BB4 BT4 BZ4 HB4 ⊢))
 have q3:=cO BZ4;have q4:=lX BT4;have q5:=cO B8
 cases r6 with
 | false=>
  have hn:bF.next z (⟨r1,r2,r3,r4,r5⟩:au) false=z:=if_neg (fun h=>Bool.noConfusion h.1)
  go_wp2
  all_goals
   go_ret
   try rw [hn]
   first | (rw [show min t (4294967295:Int)=4294967295 by omega];exact ⟨rfl,HB4.out,BA4.out,BB4.out,BT4.out,BZ4.out⟩) | (rw [show min t (4294967295:Int)=t by omega];exact ⟨rfl,HB4.out,BA4.out,BB4.out,BT4.out,BZ4.out⟩)
 | true=>
  by_cases hlt:z.f2<r3
  ·
   have hn:bF.next z (⟨r1,r2,r3,r4,r5⟩:au) true=⟨r1,r2,r3,r4,r5⟩:=if_pos ⟨rfl,hlt⟩
   go_wp2_with (first | ((with_reducible refine dO (t:=34) (p:=4) rfl ?_);refine wpList_store_row rfl 34 _ _ rfl pz #[.string r1,.string r2,.int .i64 r3,.string r4,.bool r5] rfl rfl 34 _ BZ4.out (by kernel_rfl) rfl (by kernel_rfl) ?_;have BZ5:=aS (setRow_heap w4 pz _ #[.string r1,.string r2,.int .i64 r3,.string r4,.bool r5] _ _ BZ4.out);have HP:=aS (cV (Below.refl pz w4) (Nat.le_refl pz) #[.string r1,.string r2,.int .i64 r3,.string r4,.bool r5]);have BA5:=aS ((HP.out.block pa HPZ.out.1).trans BA4.out);have BB5:=aS ((HP.out.block pb HPZ.out.2.1).trans BB4.out);have BT5:=aS ((HP.out.block pt HPZ.out.2.2).trans BT4.out);have HB5:=aS (cV HB4.out HN.out #[.string r1,.string r2,.int .i64 r3,.string r4,.bool r5]);clear HP BA4 BB4 BT4 BZ4 HB4 q3 q4 q5;generalize World.setRow w4 pz #[.string r1,.string r2,.int .i64 r3,.string r4,.bool r5]=w5 at BA5 BB5 BT5 BZ5 HB5 ⊢;have q3:=cO BZ5;have q4:=lX BT5))
   all_goals
    go_ret
    try rw [hn]
    first | (rw [show min t (4294967295:Int)=4294967295 by omega];exact ⟨rfl,HB5.out,BA5.out,BB5.out,BT5.out,BZ5.out⟩) | (rw [show min t (4294967295:Int)=t by omega];exact ⟨rfl,HB5.out,BA5.out,BB5.out,BT5.out,BZ5.out⟩)
  ·
   have hn:bF.next z (⟨r1,r2,r3,r4,r5⟩:au) true=z:=if_neg (fun h=>hlt h.2)
   go_wp2
   all_goals
    go_ret
    try rw [hn]
    first | (rw [show min t (4294967295:Int)=4294967295 by omega];exact ⟨rfl,HB4.out,BA4.out,BB4.out,BT4.out,BZ4.out⟩) | (rw [show min t (4294967295:Int)=t by omega];exact ⟨rfl,HB4.out,BA4.out,BB4.out,BT4.out,BZ4.out⟩)
theorem bF.ou (k N pa pb pt pz:Nat) (gx:Nat) (l:List au) (bs:List (List au)) (fl:List Int) (a b:ByteArray) (t:Int) (z:au) (r1 r2:ByteArray) (r3:Int) (r4:ByteArray) (r5 r6:Bool) (w:World) (ha:w.heap[pa]? = some (.cells #[.string a] 9 (0,0))) (hb:w.heap[pb]? = some (.cells #[.string b] 9 (0,0))) (ht:w.heap[pt]? = some (.cells #[.int .i64 t] 3 (0,0))) (hz:w.heap[pz]? = some (.cells #[.string z.f0,.string z.f1,.int .i64 z.f2,.string z.f3,.bool z.f4] 34 (0,0))) (hpz:pa<pz∧pb<pz∧pt<pz) (hN:N≤pz) (hNw:N≤w.heap.size) (hA:aJ.At w 0 gx l bs fl) (h:dA.f k bs fl a b t=some (r1,r2,r3,r4,r5,r6)) :
  Calls Tryz.prog 36 #[.func (.func 55) #[.pointer (some ⟨gx,0,none⟩)] #[],.pointer (some ⟨pa,0,none⟩),.pointer (some ⟨pb,0,none⟩),.pointer (some ⟨pt,0,none⟩),.pointer (some ⟨pz,0,none⟩)] w fun e w'=>e = .returned (.bool ((bF.next z (⟨r1,r2,r3,r4,r5⟩:au) r6).f2 == min t 4294967295))∧Below N w w'∧w'.heap[pa]? = some (.cells #[.string a] 9 (0,0))∧w'.heap[pb]? = some (.cells #[.string b] 9 (0,0))∧w'.heap[pt]? = some (.cells #[.int .i64 t] 3 (0,0))∧w'.heap[pz]? = some (.cells #[.string (bF.next z (⟨r1,r2,r3,r4,r5⟩:au) r6).f0,.string (bF.next z (⟨r1,r2,r3,r4,r5⟩:au) r6).f1,.int .i64 (bF.next z (⟨r1,r2,r3,r4,r5⟩:au) r6).f2,.string (bF.next z (⟨r1,r2,r3,r4,r5⟩:au) r6).f3,.bool (bF.next z (⟨r1,r2,r3,r4,r5⟩:au) r6).f4] 34 (0,0)):=by
 have hu26:=Tryz.underlying34;have BA:=aS ha;have BB:=aS hb;have BT:=aS ht;have BZ:=aS hz;have HPZ:=aS hpz;have HN:=aS hN;have HNw:=aS hNw;have HA:=aS hA;have X:=aS h;clear ha hb ht hz hpz hN hNw hA h;have q0:=lX BA;have q1:=lX BB;have q2:=lX BT;have q3:=cO BZ
 go_enter Tryz.func36,Tryz.ntmps36
 go_upto_region 2 with (first | (go_at_call 55;(with_reducible refine (dA.calls k gx 0 l bs fl a b t r1 r2 r3 r4 r5 r6 _ HA.out X.out).mono ?_);rintro e_ w2 ⟨rfl,hb⟩;have BA2:=aS (aI BA.out hb);have BB2:=aS (aI BB.out hb);have BT2:=aS (aI BT.out hb);have BZ2:=aS (aI BZ.out hb);have HB2:=aS (hb.mono HNw.out);clear hb q0 q1 q2 q3 BA BB BT BZ) | ((with_reducible refine gD 7 ?_);refine dK 7 #[.string ⟨#[]⟩,.string ⟨#[]⟩,.int .i64 0,.string ⟨#[]⟩,.bool false] 34 ?_;intro p7 hg w3 hb hbl;have B7:=aS hb;have G7:ah (w2.heap.size≤p7):=aS (by rw [hg];exact Nat.le_refl _);have HL3:=aS hbl;clear hg hb hbl) | ((with_reducible refine dO (t:=34) (p:=7) rfl ?_);refine wpList_store_row rfl 34 _ _ rfl p7 #[.string r1,.string r2,.int .i64 r3,.string r4,.bool r5] rfl rfl 34 _ B7.out (by kernel_rfl) rfl (by kernel_rfl) ?_;have B8:=aS (setRow_heap w3 p7 _ #[.string r1,.string r2,.int .i64 r3,.string r4,.bool r5] _ _ B7.out);have HS:=aS (cV HL3.out G7.out #[.string r1,.string r2,.int .i64 r3,.string r4,.bool r5]);have BA4:=aS (aI BA2.out HS.out);have BB4:=aS (aI BB2.out HS.out);have BT4:=aS (aI BT2.out HS.out);have BZ4:=aS (aI BZ2.out HS.out);have HB4:=aS (HB2.out.trans (HS.out.mono (Nat.le_trans HNw.out HB2.out.size)));clear B7 HL3 HS G7 BA2 BB2 BT2 BZ2 HB2;generalize World.setRow w3 p7 #[.string r1,.string r2,.int .i64 r3,.string r4,.bool r5]=w4 at B8 BA4 BB4 BT4 BZ4 HB4 ⊢))
 have q3:=cO BZ4;have q4:=lX BT4;have q5:=cO B8
 cases r6 with
 | false=>
  have hn:bF.next z (⟨r1,r2,r3,r4,r5⟩:au) false=z:=if_neg (fun h=>Bool.noConfusion h.1)
  go_wp2
  all_goals
   go_ret
   try rw [hn]
   first | (rw [show min t (4294967295:Int)=4294967295 by omega];exact ⟨rfl,HB4.out,BA4.out,BB4.out,BT4.out,BZ4.out⟩) | (rw [show min t (4294967295:Int)=t by omega];exact ⟨rfl,HB4.out,BA4.out,BB4.out,BT4.out,BZ4.out⟩)
 | true=>
  by_cases hlt:z.f2<r3
  ·
   have hn:bF.next z (⟨r1,r2,r3,r4,r5⟩:au) true=⟨r1,r2,r3,r4,r5⟩:=if_pos ⟨rfl,hlt⟩
   go_wp2_with (first | ((with_reducible refine dO (t:=34) (p:=4) rfl ?_);refine wpList_store_row rfl 34 _ _ rfl pz #[.string r1,.string r2,.int .i64 r3,.string r4,.bool r5] rfl rfl 34 _ BZ4.out (by kernel_rfl) rfl (by kernel_rfl) ?_;have BZ5:=aS (setRow_heap w4 pz _ #[.string r1,.string r2,.int .i64 r3,.string r4,.bool r5] _ _ BZ4.out);have HP:=aS (cV (Below.refl pz w4) (Nat.le_refl pz) #[.string r1,.string r2,.int .i64 r3,.string r4,.bool r5]);have BA5:=aS ((HP.out.block pa HPZ.out.1).trans BA4.out);have BB5:=aS ((HP.out.block pb HPZ.out.2.1).trans BB4.out);have BT5:=aS ((HP.out.block pt HPZ.out.2.2).trans BT4.out);have HB5:=aS (cV HB4.out HN.out #[.string r1,.string r2,.int .i64 r3,.string r4,.bool r5]);clear HP BA4 BB4 BT4 BZ4 HB4 q3 q4 q5;generalize World.setRow w4 pz #[.string r1,.string r2,.int .i64 r3,.string r4,.bool r5]=w5 at BA5 BB5 BT5 BZ5 HB5 ⊢;have q3:=cO BZ5;have q4:=lX BT5))
   all_goals
    go_ret
    try rw [hn]
    first | (rw [show min t (4294967295:Int)=4294967295 by omega];exact ⟨rfl,HB5.out,BA5.out,BB5.out,BT5.out,BZ5.out⟩) | (rw [show min t (4294967295:Int)=t by omega];exact ⟨rfl,HB5.out,BA5.out,BB5.out,BT5.out,BZ5.out⟩)
  ·
   have hn:bF.next z (⟨r1,r2,r3,r4,r5⟩:au) true=z:=if_neg (fun h=>hlt h.2)
   go_wp2
   all_goals
    go_ret
    try rw [hn]
    first | (rw [show min t (4294967295:Int)=4294967295 by omega];exact ⟨rfl,HB4.out,BA4.out,BB4.out,BT4.out,BZ4.out⟩) | (rw [show min t (4294967295:Int)=t by omega];exact ⟨rfl,HB4.out,BA4.out,BB4.out,BT4.out,BZ4.out⟩)
-- tree_Tree_find
def aU.l1 (k:Nat) (a b:ByteArray) (t:Int):List (List au × List (List au) × List Int)→au→Option (au × Bool)
 | [],z=>some (z,false)
 | x :: r,z=>(dA.f k x.2.1 x.2.2 a b t).bind fun q=>if ((bF.next z (⟨q.1,q.2.1,q.2.2.1,q.2.2.2.1,q.2.2.2.2.1⟩:au) q.2.2.2.2.2).f2 == min t 4294967295)=true then some (bF.next z (⟨q.1,q.2.1,q.2.2.1,q.2.2.2.1,q.2.2.2.2.1⟩:au) q.2.2.2.2.2,true) else aU.l1 k a b t r (bF.next z (⟨q.1,q.2.1,q.2.2.1,q.2.2.2.1,q.2.2.2.2.1⟩:au) q.2.2.2.2.2)
def aU.l0 (k:Nat) (a b:ByteArray) (t:Int):List (List (List au × List (List au) × List Int))→au→Option au
 | [],z=>some z
 | l :: r,z=>(aU.l1 k a b t l z).bind fun e=>if e.2=true then some e.1 else aU.l0 k a b t r e.1
def aU.z0:au:=⟨⟨#[]⟩,⟨#[]⟩,-1,⟨#[]⟩,true⟩
def aU.f (k:Nat) (xs:List au) (ls:List (List (List au × List (List au) × List Int))) (a b:ByteArray) (t:Int):Option au:=(cA.f k xs a b t).bind fun q=>if ((bF.next aU.z0 (⟨q.1,q.2.1,q.2.2.1,q.2.2.2.1,q.2.2.2.2.1⟩:au) q.2.2.2.2.2).f2 == min t 4294967295)=true then some (bF.next aU.z0 (⟨q.1,q.2.1,q.2.2.1,q.2.2.2.1,q.2.2.2.2.1⟩:au) q.2.2.2.2.2) else aU.l0 k a b t ls (bF.next aU.z0 (⟨q.1,q.2.1,q.2.2.1,q.2.2.2.1,q.2.2.2.2.1⟩:au) q.2.2.2.2.2)
theorem aU.qC (k:Nat) (a b:ByteArray) (t:Int):∀ l z,aH (aU.l1 k a b t l z) (aU.l1 (k+1) a b t l z)
 | [],_=>aH.refl _
 | x :: r,_=>aH.bind (dA.mono _ _ _ _ _ _) fun _=>aH.ite (aH.refl _) (aU.qC k a b t r _)
theorem aU.qx (k:Nat) (a b:ByteArray) (t:Int):∀ l z,aH (aU.l0 k a b t l z) (aU.l0 (k+1) a b t l z)
 | [],_=>aH.refl _
 | l :: r,_=>aH.bind (aU.qC k a b t l _) fun _=>aH.ite (aH.refl _) (aU.qx k a b t r _)
theorem aU.mono:∀ a0 a1 a2 a3 a4 k,aH (aU.f k a0 a1 a2 a3 a4) (aU.f (k+1) a0 a1 a2 a3 a4):=fun _ _ _ _ _ k=>aH.bind (cA.mono _ _ _ _ _) fun _=>aH.ite (aH.refl _) (aU.qx k _ _ _ _ _)
theorem aU.find (k pa pb pt pz g base:Nat) (ok:Nat→Prop) (s1 s2 s3:Int) (xs:List au) (n:Int) (ls:List (List (List au × List (List au) × List Int))) (c0 c1:ByteArray) (c2:Int) (r:au) (w0 w:World) (hA:ak.At w0 base ok g s1 s2 s3 xs n ls) (hb0:Below w0.heap.size w0 w) (ha:w.heap[pa]? = some (.cells #[.string c0] 9 (0,0))) (hb:w.heap[pb]? = some (.cells #[.string c1] 9 (0,0))) (ht:w.heap[pt]? = some (.cells #[.int .i64 c2] 3 (0,0))) (hz:w.heap[pz]? = some (.cells #[.string aU.z0.f0,.string aU.z0.f1,.int .i64 aU.z0.f2,.string aU.z0.f3,.bool aU.z0.f4] 34 (0,0))) (hpz:pa<pz∧pb<pz∧pt<pz) (hpi:w0.heap.size≤pz) (h:aU.f k xs ls c0 c1 c2=some r) :
  Calls Tryz.prog 35 #[.pointer (some ⟨g,0,none⟩),.func (.func 36) #[] #[.pointer (some ⟨pa,0,none⟩),.pointer (some ⟨pb,0,none⟩),.pointer (some ⟨pt,0,none⟩),.pointer (some ⟨pz,0,none⟩)]] w fun e w'=>e = .returned (.tuple #[])∧Below w0.heap.size w0 w'∧w'.heap[pz]? = some (.cells #[.string r.f0,.string r.f1,.int .i64 r.f2,.string r.f3,.bool r.f4] 34 (0,0)):=by
 have hu30:=Tryz.underlying27;have hu51:=Tryz.underlying61;have hu23:=Tryz.underlying23;have hu49:=Tryz.underlying59;have hu53:=Tryz.underlying64;have hu24:=Tryz.underlying32;have hu61:=Tryz.underlying73;have hu75:=Tryz.underlying86
 have hmf:∀ (fn:Fn) (first cap:Array Value) (w:World),(Instr.makeFunc fn first cap).run Tryz.prog w = .ok (.func fn first cap) w:=fun _ _ _ _=>rfl
 obtain ⟨gm,vm,vl,vs,hA⟩:=hA;have HA:=aS hA;clear hA
 unfold aU.f at h
 replace h:=bU h;obtain ⟨⟨r1,r2,r3,r4,r5,r6⟩,x1,h⟩:=h;have X1:=aS x1;have HB:=aS hb0;have BA:=aS ha;have BB:=aS hb;have BT:=aS ht;have BZ:=aS hz;have HPZ:=aS hpz;have HPI:=aS hpi;clear x1 hb0 ha hb ht hz hpz hpi
 obtain ⟨z,hz_⟩:∃ z,z=aU.z0:=⟨_,rfl⟩
 rw [←hz_] at BZ h;clear hz_;obtain ⟨A,cl,rfl,hcl,hmx,hat⟩:=HA.out.at;have HL:=aS HA.out.len;have HMX:=aS hmx;have HAT:=aS hat;have HAW:=aS HA.out;have HA1:=aS (HA.out.below HB.out);clear hat hmx HA;have q0:=cO (aS HA1.out.cU);replace h:(if ((bF.next z (⟨r1,r2,r3,r4,r5⟩:au) r6).f2 == min c2 4294967295)=true then some (bF.next z (⟨r1,r2,r3,r4,r5⟩:au) r6) else aU.l0 k c0 c1 c2 ls (bF.next z (⟨r1,r2,r3,r4,r5⟩:au) r6))=some r:=h
 obtain ⟨y,hy_⟩:∃ y,y=bF.next z (⟨r1,r2,r3,r4,r5⟩:au) r6:=⟨_,rfl⟩
 rw [←hy_] at h;have HY:=aS hy_;clear hy_
 by_cases he:(y.f2 == min c2 4294967295)=true
 ·
  rw [if_pos he] at h
  obtain rfl:=Option.some.inj h
  have HE:=aS he;clear he h
  go_enter Tryz.func35,Tryz.ntmps35
  go_wp2_with (first | (go_at_call 36;(with_reducible refine (bF.nZ k w0.heap.size pa pb pt pz gm base xs n vm c0 c1 c2 z r1 r2 r3 r4 r5 r6 _ BA.out BB.out BT.out BZ.out HPZ.out HPI.out HB.out.size HA1.out.mem X1.out).mono ?_);rintro e_ w2 ⟨he_,hb,ha_,hb_,ht_,hz_⟩;rw [←HY.out] at he_ hz_;rw [HE.out] at he_;subst he_;have HB2:=aS (HB.out.trans hb);have BA2:=aS ha_;have BB2:=aS hb_;have BT2:=aS ht_;have BZ2:=aS hz_;clear hb ha_ hb_ ht_ hz_ q0;have q0:=cO (aS (HAW.out.below HB2.out).cU)))
  refine bodyPost_ret (results_none rfl _ _ _) rfl ?_;exact ⟨rfl,HB2.out,BZ2.out⟩
 replace he:(y.f2 == min c2 4294967295)=false:=by simpa using he
 rw [if_neg (by rw [he];exact Bool.false_ne_true)] at h;have H:=aS h;have HE:=aS he;clear he h
 go_enter Tryz.func35,Tryz.ntmps35
 go_wp2_with (first | (go_at_call 36;(with_reducible refine (bF.nZ k w0.heap.size pa pb pt pz gm base xs n vm c0 c1 c2 z r1 r2 r3 r4 r5 r6 _ BA.out BB.out BT.out BZ.out HPZ.out HPI.out HB.out.size HA1.out.mem X1.out).mono ?_);rintro e_ w2 ⟨he_,hb,ha_,hb_,ht_,hz_⟩;rw [←HY.out] at he_ hz_;rw [HE.out] at he_;subst he_;have HB2:=aS (HB.out.trans hb);have BA2:=aS ha_;have BB2:=aS hb_;have BT2:=aS ht_;have BZ2:=aS hz_;clear hb ha_ hb_ ht_ hz_ q0;have q0:=cO (aS (HAW.out.below HB2.out).cU)))
 clear q0 X1 HB BA BB BT BZ HE HY
 go_loopw [20] (fun v20 wr=>∃ (i:Nat) (z:au),v20 = .int .i64 (i:Int)∧ah (i≤vs.length)∧ah (aU.l0 k c0 c1 c2 (ls.drop i) z=some r)∧ah (Below w0.heap.size w0 wr)∧ah (wr.heap[pa]? = some (.cells #[.string c0] 9 (0,0)))∧ah (wr.heap[pb]? = some (.cells #[.string c1] 9 (0,0)))∧ah (wr.heap[pt]? = some (.cells #[.int .i64 c2] 3 (0,0)))∧ah (wr.heap[pz]? = some (.cells #[.string z.f0,.string z.f1,.int .i64 z.f2,.string z.f3,.bool z.f4] 34 (0,0)))) (fun i _=>vs.length - (intOf i).toNat)
 case atStart=>exact ⟨0,y,rfl,⟨Nat.zero_le _⟩,H,HB2,BA2,BB2,BT2,BZ2⟩
 case round=>
  clear H HB2 BA2 BB2 BT2 BZ2;obtain ⟨i,z,rfl,hi,HA0,HBr,BA,BB,BT,BZ⟩:=hrel
  by_cases hlt:i<vs.length
  ·
   have hq1:(i:Int)<(vs.length:Int):=by omega
   obtain ⟨ad,e_,hx⟩:=HAT.out wr (fun k _ hk=>HBr.out.block k hk) i hlt;subst e_;obtain ⟨Ai,ci,ei,hli,hCi⟩:=HAW.out.cells i hlt;rw [ei] at hx;have ha:=HA0.out;rw [ak.nu ls [] i (by rw [←HL.out];exact hlt)] at ha
   obtain ⟨li,hli_⟩:∃ x,x=ls.getD i []:=⟨_,rfl⟩
   rw [←hli_] at ha hx hli hCi
   unfold aU.l0 at ha
   replace ha:=bU ha;obtain ⟨q,y1,ha⟩:=ha;have Y1:=aS y1;have HA1:=aS ha;have HCI:=aS hCi;have HLI:=aS hCi.2.1
   have hix:∀ W:World,(Instr.indexAt 59 (.slice (some ad) vs.length cl) (.int .i64 (i:Int))).run Tryz.prog W = .ok (.pointer (some (ad.add i))) W:=by
    obtain ⟨i0,hi0,hz⟩:=Option.map_eq_some_iff.1 mV
    simp only [Prod.mk.injEq] at hz
    intro W
    have h1:=gH 59 64 hu49 hi0 1 hz.2.1 ad vs.length cl (i:Int) (by omega) (by omega) W
    rwa [Nat.mul_one,Int.toNat_natCast] at h1
   have hwr:wrap64 ((i:Int)+1)=(i:Int)+1:=by rw [←cC,IntKind.wrap_i64];have:=HMX.out;omega
   clear y1 ha HA0 hCi hi hli_ ei hli
   go_wp2
   go_loopw [26] (fun v26 wi=>∃ (j:Nat) (z:au),v26 = .int .i64 (j:Int)∧ah (j≤li.length)∧ah (aU.l1 k c0 c1 c2 (li.drop j) z=some q)∧ah (Below w0.heap.size w0 wi)∧ah (wi.heap[pa]? = some (.cells #[.string c0] 9 (0,0)))∧ah (wi.heap[pb]? = some (.cells #[.string c1] 9 (0,0)))∧ah (wi.heap[pt]? = some (.cells #[.int .i64 c2] 3 (0,0)))∧ah (wi.heap[pz]? = some (.cells #[.string z.f0,.string z.f1,.int .i64 z.f2,.string z.f3,.bool z.f4] 34 (0,0)))) (fun j _=>li.length - (intOf j).toNat)
   case atStart=>exact ⟨0,z,rfl,⟨Nat.zero_le _⟩,Y1,HBr,BA,BB,BT,BZ⟩
   case round=>
    clear HBr Y1 hx BA BB BT BZ;obtain ⟨j,z,rfl,hj,HP,HBr,BA,BB,BT,BZ⟩:=hrel
    by_cases hlj:j<li.length
    ·
     have hj1:(j:Int)<(li.length:Int):=by omega
     obtain ⟨ad2,gx,e_,hy,hOP⟩:=ak.uP (Kd.cH HCI.out HBr.out) j hlj;subst e_;have ha:=HP.out;rw [ak.nu li ([],[],[]) j hlj] at ha
     obtain ⟨x,hx_⟩:∃ x,x=li.getD j ([],[],[]):=⟨_,rfl⟩
     rw [←hx_] at ha hOP
     unfold aU.l1 at ha
     replace ha:=bU ha;obtain ⟨⟨r1,r2,r3,r4,r5,r6⟩,y2,ha⟩:=ha;replace ha:(if ((bF.next z (⟨r1,r2,r3,r4,r5⟩:au) r6).f2 == min c2 4294967295)=true then some (bF.next z (⟨r1,r2,r3,r4,r5⟩:au) r6,true) else aU.l1 k c0 c1 c2 (li.drop (j+1)) (bF.next z (⟨r1,r2,r3,r4,r5⟩:au) r6))=some q:=ha
     obtain ⟨y,hy_⟩:∃ y,y=bF.next z (⟨r1,r2,r3,r4,r5⟩:au) r6:=⟨_,rfl⟩
     rw [←hy_] at ha;have HY:=aS hy_;clear hy_;have Y2:=aS y2;have HOP:=aS hOP
     have hiy:∀ W:World,(Instr.indexAt 64 (.slice (some ad2) li.length ci) (.int .i64 (j:Int))).run Tryz.prog W = .ok (.pointer (some (ad2.add j))) W:=by
      obtain ⟨i0,hi0,hz⟩:=Option.map_eq_some_iff.1 qF
      simp only [Prod.mk.injEq] at hz
      intro W
      have h1:=gH 64 86 hu53 hi0 1 hz.2.1 ad2 li.length ci (j:Int) (by omega) (by omega) W
      rwa [Nat.mul_one,Int.toNat_natCast] at h1
     have hwj:wrap64 ((j:Int)+1)=(j:Int)+1:=by rw [←cC,IntKind.wrap_i64];have:=HLI.out;omega
     clear y2 HP hOP hj hx_
     by_cases he:(y.f2 == min c2 4294967295)=true
     ·
      rw [if_pos he] at ha
      obtain rfl:=Option.some.inj ha
      have HE:=aS he;have ha:=HA1.out;rw [if_pos rfl] at ha
      obtain rfl:=Option.some.inj ha
      clear he ha
      go_wp2_with (first | (go_at_call 36;(with_reducible refine (bF.ou k w0.heap.size pa pb pt pz gx x.1 x.2.1 x.2.2 c0 c1 c2 z r1 r2 r3 r4 r5 r6 _ BA.out BB.out BT.out BZ.out HPZ.out HPI.out HBr.out.size HOP.out Y2.out).mono ?_);rintro e_ w2 ⟨he_,hb,ha_,hb_,ht_,hz_⟩;rw [←HY.out] at he_ hz_;rw [HE.out] at he_;subst he_;have HB2:=aS (HBr.out.trans hb);have BA2:=aS ha_;have BB2:=aS hb_;have BT2:=aS ht_;have BZ2:=aS hz_;clear hb ha_ hb_ ht_ hz_))
      refine bodyPost_ret (results_none rfl _ _ _) rfl ?_;exact ⟨rfl,HB2.out,BZ2.out⟩
     ·
      replace he:(y.f2 == min c2 4294967295)=false:=by simpa using he
      rw [if_neg (by rw [he];exact Bool.false_ne_true)] at ha;have HE:=aS he;have HP1:=aS ha;clear he ha
      go_wp2_with (first | (go_at_call 36;(with_reducible refine (bF.ou k w0.heap.size pa pb pt pz gx x.1 x.2.1 x.2.2 c0 c1 c2 z r1 r2 r3 r4 r5 r6 _ BA.out BB.out BT.out BZ.out HPZ.out HPI.out HBr.out.size HOP.out Y2.out).mono ?_);rintro e_ w2 ⟨he_,hb,ha_,hb_,ht_,hz_⟩;rw [←HY.out] at he_ hz_;rw [HE.out] at he_;subst he_;have HB2:=aS (HBr.out.trans hb);have BA2:=aS ha_;have BB2:=aS hb_;have BT2:=aS ht_;have BZ2:=aS hz_;clear hb ha_ hb_ ht_ hz_))
      go_roundw
      case rel=>exact ⟨j+1,y,by rw [hwj];rfl,⟨hlj⟩,HP1,HB2,BA2,BB2,BT2,BZ2⟩
      case measure=>exact iV hwj hlj
    ·
     have hge:¬ ((j:Int)<(li.length:Int)):=by omega
     have ha:=HP.out;rw [List.drop_eq_nil_of_le (show li.length≤j by omega)] at ha
     unfold aU.l1 at ha
     obtain e1:=Option.some.inj ha
     subst e1;have HA2:=HA1.out;rw [if_neg Bool.false_ne_true] at HA2;have HA3:=aS HA2;clear ha HP HA2
     go_wp2
     go_roundw
     case rel=>exact ⟨i+1,z,by rw [hwr];rfl,⟨hlt⟩,HA3,HBr,BA,BB,BT,BZ⟩
     case measure=>exact iV hwr hlt
  ·
   have hge:¬ ((i:Int)<(vs.length:Int)):=by omega
   have ha:=HA0.out;rw [List.drop_eq_nil_of_le (show ls.length≤i by rw [←HL.out];omega)] at ha
   unfold aU.l0 at ha
   obtain e1:=Option.some.inj ha
   subst e1
   go_wp2
   go_end0
   exact ⟨rfl,HBr.out,BZ.out⟩
theorem aU.calls (k g base:Nat) (ok:Nat→Prop) (s1 s2 s3:Int) (xs:List au) (n:Int) (ls:List (List (List au × List (List au) × List Int))) (c0 c1:ByteArray) (c2:Int) (r:au) (w:World) (hA:ak.At w base ok g s1 s2 s3 xs n ls) (h:aU.f k xs ls c0 c1 c2=some r) :
  Calls Tryz.prog 14 #[.pointer (some ⟨g,0,none⟩),.string c0,.string c1,.int .i64 c2] w fun e w'=>e = .returned (.tuple #[.string r.f3,.bool (!r.f4)])∧Below w.heap.size w w':=by
 have hu26:=Tryz.underlying34
 have hmf:∀ (fn:Fn) (first cap:Array Value) (w:World),(Instr.makeFunc fn first cap).run Tryz.prog w = .ok (.func fn first cap) w:=fun _ _ _ _=>rfl
 have HA:=aS hA;have X:=aS h;clear hA h
 go_enter Tryz.func14,Tryz.ntmps14
 go_upto_region 3 with (first | ((with_reducible refine gD 5 ?_);refine dK 5 #[.string c0] 9 ?_;intro p5 hg w1 hb hbl;have B5:=aS hb;have E5:ah (p5=w.heap.size):=aS hg;have HB1:=aS hbl;clear hg hb hbl) | ((with_reducible refine gD 6 ?_);refine dK 6 #[.string c1] 9 ?_;intro p6 hg w2 hb hbl;have B6:=aS hb;have B52:=aS (aI B5.out hbl);have HB2:=aS (aE HB1.out hbl);clear hg hb hbl B5 HB1) | ((with_reducible refine gD 7 ?_);refine dK 7 #[.int .i64 c2] 3 ?_;intro p7 hg w3 hb hbl;have B7:=aS hb;have B53:=aS (aI B52.out hbl);have B63:=aS (aI B6.out hbl);have HB3:=aS (aE HB2.out hbl);clear hg hb hbl B52 B6 HB2) | ((with_reducible refine gD 10 ?_);refine dK 10 #[.string ⟨#[]⟩,.string ⟨#[]⟩,.int .i64 0,.string ⟨#[]⟩,.bool false] 34 ?_;intro p10 hg w4 hb hbl;have B10:=aS hb;have G10:ah (p5<p10∧p6<p10∧p7<p10∧w.heap.size≤p10):=aS (by rw [hg];exact ⟨cR B53.out,cR B63.out,cR B7.out,HB3.out.size⟩);have B54:=aS (aI B53.out hbl);have B64:=aS (aI B63.out hbl);have B74:=aS (aI B7.out hbl);have HB4:=aS (aE HB3.out hbl);clear hg hb hbl B53 B63 B7 HB3 E5) | ((with_reducible refine dO (t:=34) (p:=10) rfl ?_);refine wpList_store_row rfl 34 _ _ rfl p10 #[.string ⟨#[]⟩,.string ⟨#[]⟩,.int .i64 (-1),.string ⟨#[]⟩,.bool true] rfl rfl 34 _ B10.out (by kernel_rfl) rfl (by kernel_rfl) ?_;have BZ:ah ((World.setRow w4 p10 #[.string ⟨#[]⟩,.string ⟨#[]⟩,.int .i64 (-1),.string ⟨#[]⟩,.bool true]).heap[p10]? = some (.cells #[.string aU.z0.f0,.string aU.z0.f1,.int .i64 aU.z0.f2,.string aU.z0.f3,.bool aU.z0.f4] 34 (0,0))):=aS (setRow_heap w4 p10 _ #[.string ⟨#[]⟩,.string ⟨#[]⟩,.int .i64 (-1),.string ⟨#[]⟩,.bool true] _ _ B10.out);have HP:=aS (cV (Below.refl p10 w4) (Nat.le_refl p10) #[.string ⟨#[]⟩,.string ⟨#[]⟩,.int .i64 (-1),.string ⟨#[]⟩,.bool true]);have B55:=aS ((HP.out.block p5 G10.out.1).trans B54.out);have B65:=aS ((HP.out.block p6 G10.out.2.1).trans B64.out);have B75:=aS ((HP.out.block p7 G10.out.2.2.1).trans B74.out);have HB5:=aS (cV HB4.out G10.out.2.2.2 #[.string ⟨#[]⟩,.string ⟨#[]⟩,.int .i64 (-1),.string ⟨#[]⟩,.bool true]);clear HP B54 B64 B74 HB4 B10;generalize World.setRow w4 p10 #[.string ⟨#[]⟩,.string ⟨#[]⟩,.int .i64 (-1),.string ⟨#[]⟩,.bool true]=w5 at B55 B65 B75 BZ HB5 ⊢) | (go_at_call 35;(with_reducible refine (aU.find k p5 p6 p7 p10 g base ok s1 s2 s3 xs n ls c0 c1 c2 r w w5 HA.out HB5.out B55.out B65.out B75.out BZ.out ⟨G10.out.1,G10.out.2.1,G10.out.2.2.1⟩ G10.out.2.2.2 X.out).mono ?_);rintro e_ w9 ⟨rfl,hb,hz_⟩;have HB9:=aS hb;have BZ9:=aS hz_;clear hb hz_))
 refine di (n:=7) (ds:=[]) (S:=fun w'=>w'.cell? ⟨p10,3,none⟩=some (.string r.f3)∧w'.cell? ⟨p10,4,none⟩=some (.bool r.f4)) (bA 7 0) (by kernel_rfl) rfl rfl ⟨(aC (ar BZ9.out) 3).trans rfl,(aC (ar BZ9.out) 4).trans rfl⟩ (fun hHeld=>?_)
 generalize hw_:World.drew _=wd at hHeld ⊢
 have HBd:ah (Below w.heap.size w wd):=aS (hw_▸aE HB9.out (bH (Below.refl _ _)));clear hw_ HB9 BZ9;refine cD (T:=(true,[([],[]),([0],[0]),([],[]),([2],[2]),([3],[3]),([1,0,1],[1]),([4,5,0,1,2,3,4,5],[4])])) (B:=[0,1,0,4,12,3,63]) (by kernel_rfl) (by kernel_rfl) (fun HT_ HW_=>?_);refine aZ [(0,15)] ?_
 iterate 1 (refine ck HT_ ?_)
 refine bT (bA 7 1) (by kernel_rfl) ?_;refine aZ [(1,16)] ?_
 iterate 1 (refine dY HT_ HW_ hHeld ?_)
 refine bT (bA 7 3) (by kernel_rfl) ?_;refine aZ [(2,17)] ?_
 iterate 1 (refine ck HT_ ?_)
 refine bT (bA 7 7) (by kernel_rfl) ?_;refine aZ [(3,18)] ?_
 iterate 1 (refine dY HT_ HW_ hHeld ?_)
 refine bT (bA 7 15) (by kernel_rfl) ?_;refine aZ [(4,19),(5,8),(6,9)] ?_
 iterate 3 (refine ck HT_ ?_)
 refine bT (bA 7 127) (by kernel_rfl) ?_;refine fX HT_ ?_;clear HT_ HW_ hHeld
 try go_wp2
 go_ret2
 exact ⟨rfl,HBd.out⟩
def kH.f (a0_0:ByteArray) (a0_1:ByteArray) (a0_2:Int) (a0_3:ByteArray) (a0_4:Bool) (a1_0:ByteArray) (a1_1:ByteArray) (a1_2:Int) (a1_3:ByteArray) (a1_4:Bool):Option (Bool):=if a0_0.toList=a1_0.toList then (some (a0_1.toList == a1_1.toList)) else (some false)
theorem kH.calls (a0_0:ByteArray) (a0_1:ByteArray) (a0_2:Int) (a0_3:ByteArray) (a0_4:Bool) (a1_0:ByteArray) (a1_1:ByteArray) (a1_2:Int) (a1_3:ByteArray) (a1_4:Bool) (r:Bool) (w:World) (h:kH.f a0_0 a0_1 a0_2 a0_3 a0_4 a1_0 a1_1 a1_2 a1_3 a1_4=some r) :
  Calls Tryz.prog 56 #[.agg #[.string a0_0,.string a0_1,.int .i64 a0_2,.string a0_3,.bool a0_4],.agg #[.string a1_0,.string a1_1,.int .i64 a1_2,.string a1_3,.bool a1_4]] w fun e w'=>e = .returned (.bool r)∧Below w.heap.size w w':=by
 have hu34:=Tryz.underlying34;have HB:=aS (Below.refl w.heap.size w);have H:(if a0_0.toList=a1_0.toList then (some (a0_1.toList == a1_1.toList)) else (some false))=some r:=h;clear h
 by_cases c3:a0_0.toList=a1_0.toList
 ·
  rw [if_pos c3] at H;obtain ⟨c3b0,c3b1⟩:=jh c3;clear c3
  obtain rfl:=Option.some.inj H
  go_enter Tryz.func56,Tryz.ntmps56
  go_wp2_with (first | ((with_reducible refine gD 2 ?_);refine dK 2 #[.string a0_0,.string a0_1,.int .i64 a0_2,.string a0_3,.bool a0_4] 34 ?_;intro gb514 hg w4 hbox hb;have BK514:=aS (hbox);have GW514:=bsize hg;have GE514:=bsize hg;replace HB:=aM hb;clear hb hbox hg) | ((with_reducible refine gD 3 ?_);refine dK 3 #[.string a1_0,.string a1_1,.int .i64 a1_2,.string a1_3,.bool a1_4] 34 ?_;intro gb515 hg w5 hbox hb;have BK515:=aS (hbox);have GW515:=bsize hg;have GE515:=bsize hg;replace HB:=aM hb;have NB514_515:=aS ((by rw [hg];exact Nat.ne_of_lt (cR (g:=gb514) (o:=.cells #[.string a0_0,.string a0_1,.int .i64 a0_2,.string a0_3,.bool a0_4] 34 (0,0)) (eA BK514.out)):gb514≠gb515));have NB515_514:=aS ((by rw [hg];exact Nat.ne_of_gt (cR (g:=gb514) (o:=.cells #[.string a0_0,.string a0_1,.int .i64 a0_2,.string a0_3,.bool a0_4] 34 (0,0)) (eA BK514.out)):gb515≠gb514));replace BK514:=fp BK514 hb;clear hb hbox hg;have hnb6:=NB514_515.out;have hnc6:=NB515_514.out;have hcz7:=cO BK514;have hcz8:=cO BK515))
  go_ret
  exact ⟨dP,aq⟩
 ·
  rw [if_neg c3] at H;obtain ⟨c3b0,c3b1⟩:=iT c3
  obtain rfl:=Option.some.inj H
  go_enter Tryz.func56,Tryz.ntmps56
  go_wp2_with (first | ((with_reducible refine gD 2 ?_);refine dK 2 #[.string a0_0,.string a0_1,.int .i64 a0_2,.string a0_3,.bool a0_4] 34 ?_;intro gb514 hg w9 hbox hb;have BK514:=aS (hbox);have GW514:=bsize hg;have GE514:=bsize hg;replace HB:=aM hb;clear hb hbox hg) | ((with_reducible refine gD 3 ?_);refine dK 3 #[.string a1_0,.string a1_1,.int .i64 a1_2,.string a1_3,.bool a1_4] 34 ?_;intro gb515 hg w10 hbox hb;have BK515:=aS (hbox);have GW515:=bsize hg;have GE515:=bsize hg;replace HB:=aM hb;have NB514_515:=aS ((by rw [hg];exact Nat.ne_of_lt (cR (g:=gb514) (o:=.cells #[.string a0_0,.string a0_1,.int .i64 a0_2,.string a0_3,.bool a0_4] 34 (0,0)) (eA BK514.out)):gb514≠gb515));have NB515_514:=aS ((by rw [hg];exact Nat.ne_of_gt (cR (g:=gb514) (o:=.cells #[.string a0_0,.string a0_1,.int .i64 a0_2,.string a0_3,.bool a0_4] 34 (0,0)) (eA BK514.out)):gb515≠gb514));replace BK514:=fp BK514 hb;clear hb hbox hg;have hnb11:=NB514_515.out;have hnc11:=NB515_514.out;have hcz12:=cO BK514;have hcz13:=cO BK515))
  go_ret
  exact ⟨dP,aq⟩
-- kH
def aT.sm (p c:au):Bool:=p.f0.toList == c.f0.toList && p.f1.toList == c.f1.toList
def aT.at_ (l:List au) (i:Nat):au:=af l (i:Int)
def aT.nw (l:List au) (t:Int) (i:Nat):Bool:=decide (i=0) || (!(aT.sm (aT.at_ l (i - 1)) (aT.at_ l i)) || decide ((aT.at_ l (i - 1)).f2 > t))
def aT.keep (l:List au) (t:Int) (i:Nat):Bool:=decide ((aT.at_ l i).f2≤t) && (aT.nw l t i && !(aT.at_ l i).f4)
def aT.pre (l:List au) (t:Int):Nat→List au
 | 0=>[]
 | i+1=>aT.pre l t i++if aT.keep l t i=true then [aT.at_ l i] else []
def aT.f (_:Nat) (l:List au) (t:Int):Option (List au):=if l.length<2199023255552 then some (aT.pre l t l.length) else none
theorem aT.mono:∀ a0 a1 k,aH (aT.f k a0 a1) (aT.f (k+1) a0 a1):=fun _ _ _=>aH.refl _
theorem aT.len (l:List au) (t:Int):∀ i,(aT.pre l t i).length≤i
 | 0=>Nat.le_refl _
 | i+1=>by
  have:=aT.len l t i
  unfold aT.pre
  split<;>simp<;>omega
theorem aT.same (p c:au):kH.f p.f0 p.f1 p.f2 p.f3 p.f4 c.f0 c.f1 c.f2 c.f3 c.f4=some (aT.sm p c):=by
 unfold kH.f aT.sm
 split
 ·
  next h=>rw [beq_iff_eq.2 h];rfl
 ·
  next h=>rw [beq_eq_false_iff_ne.2 h];rfl
theorem aT.calls (k:Nat) (A0:Option Addr) (c0:Nat) (l:List au) (t:Int) (r:List au) (w:World) (hr0:Kd.C cm w A0 l.length l) (hc0:l.length≤c0) (h:aT.f k l t=some r) :
  Calls Tryz.prog 37 #[.slice A0 l.length c0,.int .i64 t] w fun e w'=>∃ v0_:Value,e = .returned v0_∧Kd.R cm 34 w' w.heap.size (fun _=>True) v0_ r∧Below w.heap.size w w':=by
 have hu24:=Tryz.underlying32;have hu26:=Tryz.underlying34
 unfold aT.f at h
 by_cases hlim:l.length<2199023255552
 case neg=>rw [if_neg hlim] at h;cases h
 rw [if_pos hlim] at h
 obtain rfl:=Option.some.inj h
 have HC:=aS hr0;have HL:=aS hc0;have HLM:=aS hlim;clear hr0 hc0 hlim h
 go_enter Tryz.func37,Tryz.ntmps37
 go_wp2
 go_loopw [5,11] (fun v5 v11 wr=>∃ (i:Nat),v11 = .int .i64 (i:Int)∧ah (i≤l.length)∧ah (Kd.R cm 34 wr w.heap.size (fun _=>True) v5 (aT.pre l t i))∧ah (Below w.heap.size w wr)) (fun _ i _=>l.length - (intOf i).toNat)
 case atStart=>exact ⟨0,rfl,⟨Nat.zero_le _⟩,⟨Kd.d6 _ _ _ _ _⟩,⟨Below.refl _ _⟩⟩
 case round=>
  obtain ⟨i,rfl,hi,HR,HBr⟩:=hrel
  by_cases hlt:i<l.length
  ·
   have hq1:(i:Int)<(l.length:Int):=by omega
   have hq0:(0:Int)≤(i:Int):=by omega
   obtain ⟨ad,e_,hx0,hx1,hx2,hx3,hx4⟩:=dN (Kd.cH HC.out HBr.out) (i:Int) hq0 hq1;subst e_
   obtain ⟨x,hx⟩:∃ x,x=af l (i:Int):=⟨_,rfl⟩
   rw [←hx] at hx0 hx1 hx2 hx3 hx4;have HX:ah (x=aT.at_ l i):=aS hx;have HLA:ah ((aT.pre l t i).length<2199023255552):=aS (Nat.lt_of_le_of_lt (aT.len l t i) (by have:=HLM.out;omega))
   have hix:∀ W:World,(Instr.indexAt 32 (.slice (some ad) l.length c0) (.int .i64 (i:Int))).run Tryz.prog W = .ok (.pointer (some (ad.add (i*5)))) W:=by
    obtain ⟨i0,hi0,hz⟩:=Option.map_eq_some_iff.1 eO
    simp only [Prod.mk.injEq] at hz
    intro W
    have h1:=gH 32 34 hu24 hi0 5 hz.2.1 ad l.length c0 (i:Int) (by omega) (by omega) W
    rwa [Int.toNat_natCast] at h1
   have hwr:wrap64 ((i:Int)+1)=(i:Int)+1:=by rw [←cC,IntKind.wrap_i64];have:=HLM.out;omega
   rw [Int.toNat_natCast] at hx0 hx1 hx2 hx3 hx4;clear hx hi hq0
   go_upto_region 5 with (first | ((with_reducible refine gD 7 ?_);refine dK 7 #[.string ⟨#[]⟩,.string ⟨#[]⟩,.int .i64 0,.string ⟨#[]⟩,.bool false] 34 ?_;intro p7 hg w1 hb hbl;have B9:=aS hb;have G9:ah (wr.heap.size≤p7):=aS (by rw [hg];exact Nat.le_refl _);have HB1:=aS hbl;clear hg hb hbl) | ((with_reducible refine dO (t:=34) (p:=7) rfl ?_);refine wpList_store_row rfl 34 _ _ rfl p7 #[.string x.f0,.string x.f1,.int .i64 x.f2,.string x.f3,.bool x.f4] rfl rfl 34 _ B9.out (by kernel_rfl) rfl (by kernel_rfl) ?_;have n1_:=aS (setRow_heap w1 p7 _ #[.string x.f0,.string x.f1,.int .i64 x.f2,.string x.f3,.bool x.f4] _ _ B9.out);have HB2:=aS (cV HB1.out G9.out #[.string x.f0,.string x.f1,.int .i64 x.f2,.string x.f3,.bool x.f4]);clear B9 HB1;have B5:=n1_;clear n1_;generalize World.setRow w1 p7 #[.string x.f0,.string x.f1,.int .i64 x.f2,.string x.f3,.bool x.f4]=w2 at B5 HB2 ⊢;have HR2:=aS (Kd.dB HR.out HB2.out);have HB3:=aS (aE HBr.out HB2.out);clear HR HBr HB2;have q5:=cO B5))
   (try simp only [Act.put,eI,eG,lss])
   go_cut [8] (fun v8 wc=>∃ nb:Bool,v8 = .bool nb∧ah (nb=aT.nw l t i)∧ah (wc.heap[p7]? = some (.cells #[.string x.f0,.string x.f1,.int .i64 x.f2,.string x.f3,.bool x.f4] 34 (0,0)))∧ah (Kd.R cm 34 wc w.heap.size (fun _=>True) u5 (aT.pre l t i))∧ah (Below w.heap.size w wc))
   case first=>
    clear hwr hx0 hx1 hx2 hx3 hx4 q5
    by_cases c9:(i:Int)=0
    ·
     have HN:ah (true=aT.nw l t i):=aS (by unfold aT.nw;rw [decide_eq_true (show i=0 by omega)];rfl);obtain ⟨c9a,c9b⟩:=jh c9;clear c9;refine di (n:=23) (ds:=[]) (S:=fun w'=>True) (bA 23 0) (by kernel_rfl) rfl rfl trivial (fun hHeld=>?_)
     generalize hw_:World.drew _=wd at hHeld ⊢
     have n1_:=aS (hw_▸ar B5.out);have n2_:=aS (hw_▸Kd.bD HR2.out);have n3_:=aS (hw_▸aE HB3.out (bH (Below.refl _ _)));clear hw_ B5 HR2 HB3;have B5:=n1_;have HR2:=n2_;have HB3:=n3_;clear n1_ n2_ n3_;refine cD (T:=(true,[([],[]),([0],[0]),([1],[1]),([2],[2]),([2],[2]),([4,2],[2,4]),([3,5,2],[2,3,5]),([6,2],[2,6]),([2],[2]),([7,8,2,2],[2,7,8]),([9,2],[2,9]),([2,10],[2,10]),([11,9],[11]),([12],[12]),([12],[12]),([14,12],[12,14]),([13,15,12],[12,13,15]),([16,12],[12,16]),([17,12],[12,17]),([12],[12]),([18,19,12],[12,18,19]),([12,20],[12,20]),([21,12,0,1,2,3,4,5,6,7,8,9,10,11,12,13,14,15,16,17,18,19,20,21],[21])])) (B:=[0,1,3,7,7,23,63,127,7,511,1023,2047,4095,8191,8191,24575,65535,131071,262143,8191,1048575,2097151,4194303]) (by kernel_rfl) (by kernel_rfl) (fun HT_ HW_=>?_);refine aZ [(0,16),(1,17),(2,18),(3,19),(4,20),(5,21),(6,22),(7,23),(8,24),(9,25),(10,26),(11,27),(12,28),(13,29),(14,30),(15,31),(16,32),(17,33),(18,34),(19,35),(20,36),(21,37),(22,8)] ?_
     iterate 23 (first | (refine nR HT_ ?_) | (refine ck HT_ ?_))
     refine bT (bA 23 8388607) (by kernel_rfl) ?_;refine fX HT_ ?_;clear HT_ HW_ hHeld
     try go_wp2
     go_meet
     case rel=>exact ⟨true,rfl,HN,B5,HR2,HB3⟩
    ·
     obtain ⟨j,hj⟩:∃ j:Nat,j+1=i:=⟨i - 1,by omega⟩
     obtain ⟨y,hy⟩:∃ y,y=aT.at_ l j:=⟨_,rfl⟩
     obtain ⟨s,hs⟩:∃ s,s=aT.sm y x:=⟨_,rfl⟩
     have HSM:ah (kH.f y.f0 y.f1 y.f2 y.f3 y.f4 x.f0 x.f1 x.f2 x.f3 x.f4=some s):=aS (by rw [hs];exact aT.same y x);have HN:ah ((!s || decide (y.f2 > t))=aT.nw l t i):=aS (by unfold aT.nw;rw [decide_eq_false (show ¬ i=0 by omega),show i - 1=j by omega,← hy,← HX.out,← hs];rfl)
     have hjl:j<l.length:=by omega
     have HYF:ah (∀ w',Below w.heap.size w w'→w'.cell? (ad.add (j*5))=some (.string y.f0)∧w'.cell? ⟨(ad.add (j*5)).block,(ad.add (j*5)).off+1,none⟩=some (.string y.f1)∧w'.cell? ⟨(ad.add (j*5)).block,(ad.add (j*5)).off+2,none⟩=some (.int .i64 y.f2)∧w'.cell? ⟨(ad.add (j*5)).block,(ad.add (j*5)).off+3,none⟩=some (.string y.f3)∧w'.cell? ⟨(ad.add (j*5)).block,(ad.add (j*5)).off+4,none⟩=some (.bool y.f4)):=aS (fun w' hb=>by
      obtain ⟨ad',e',hc⟩:=dN (Kd.cH HC.out hb) (j:Int) (by omega) (by omega)
      injection e' with e'
      subst e'
      rw [Int.toNat_natCast,show af l (j:Int)=y from hy.symm] at hc
      exact hc)
     have hw1:IntKind.i64.wrap ((i:Int) - 1)=(j:Int):=by rw [IntKind.wrap_i64]<;>have:=HLM.out<;>omega
     have hixj:∀ W:World,(Instr.indexAt 32 (.slice (some ad) l.length c0) (.int .i64 (j:Int))).run Tryz.prog W = .ok (.pointer (some (ad.add (j*5)))) W:=by
      obtain ⟨i0,hi0,hz⟩:=Option.map_eq_some_iff.1 eO
      simp only [Prod.mk.injEq] at hz
      intro W
      have h1:=gH 32 34 hu24 hi0 5 hz.2.1 ad l.length c0 (j:Int) (by omega) (by omega) W
      rwa [Int.toNat_natCast] at h1
     obtain ⟨c9a,c9b⟩:=iT c9;clear c9 hj hs hy hix hjl hlt hq1;refine di (n:=23) (ds:=[]) (S:=fun w'=>(w'.cell? ⟨p7,0,none⟩=some (.string x.f0)∧w'.cell? ⟨p7,1,none⟩=some (.string x.f1)∧w'.cell? ⟨p7,2,none⟩=some (.int .i64 x.f2)∧w'.cell? ⟨p7,3,none⟩=some (.string x.f3)∧w'.cell? ⟨p7,4,none⟩=some (.bool x.f4))∧w'.cell? (ad.add (j*5))=some (.string y.f0)∧w'.cell? ⟨(ad.add (j*5)).block,(ad.add (j*5)).off+1,none⟩=some (.string y.f1)∧w'.cell? ⟨(ad.add (j*5)).block,(ad.add (j*5)).off+2,none⟩=some (.int .i64 y.f2)∧w'.cell? ⟨(ad.add (j*5)).block,(ad.add (j*5)).off+3,none⟩=some (.string y.f3)∧w'.cell? ⟨(ad.add (j*5)).block,(ad.add (j*5)).off+4,none⟩=some (.bool y.f4)) (bA 23 0) (by kernel_rfl) rfl rfl ⟨⟨(aC (ar B5.out) 0).trans rfl,(aC (ar B5.out) 1).trans rfl,(aC (ar B5.out) 2).trans rfl,(aC (ar B5.out) 3).trans rfl,(aC (ar B5.out) 4).trans rfl⟩,HYF.out _ (aE HB3.out (bH (Below.refl _ _)))⟩ (fun hHeld=>?_)
     generalize hw_:World.drew _=wd at hHeld ⊢
     have n1_:=aS (hw_▸ar B5.out);have n2_:=aS (hw_▸Kd.bD HR2.out);have n3_:=aS (hw_▸aE HB3.out (bH (Below.refl _ _)));clear hw_ B5 HR2 HB3;have B5:=n1_;have HR2:=n2_;have HB3:=n3_;clear n1_ n2_ n3_;refine cD (T:=(true,[([],[]),([0],[0]),([1],[1]),([2],[2]),([2],[2]),([4,2],[2,4]),([3,5,2],[2,3,5]),([6,2],[2,6]),([2],[2]),([7,8,2,2],[2,7,8]),([9,2],[2,9]),([2,10],[2,10]),([11,9],[11]),([12],[12]),([12],[12]),([14,12],[12,14]),([13,15,12],[12,13,15]),([16,12],[12,16]),([17,12],[12,17]),([12],[12]),([18,19,12],[12,18,19]),([12,20],[12,20]),([21,12,0,1,2,3,4,5,6,7,8,9,10,11,12,13,14,15,16,17,18,19,20,21],[21])])) (B:=[0,1,3,7,7,23,63,127,7,511,1023,2047,4095,8191,8191,24575,65535,131071,262143,8191,1048575,2097151,4194303]) (by kernel_rfl) (by kernel_rfl) (fun HT_ HW_=>?_);refine aZ [(0,16),(1,17),(2,18),(3,19),(4,20),(5,21),(6,22),(7,23),(8,24)] ?_
     iterate 9 (first | (refine ck HT_ ?_) | (refine dY HT_ HW_ hHeld ?_))
     refine bT (bA 23 511) (by kernel_rfl) ?_;refine dH 9 (N:=some 25) (bA 23 1023) HT_ (fun K hK=>?_);refine gb Tryz.func56 #[.agg #[.string y.f0,.string y.f1,.int .i64 y.f2,.string y.f3,.bool y.f4],.agg #[.string x.f0,.string x.f1,.int .i64 x.f2,.string x.f3,.bool x.f4]] ?_
     with_reducible refine (kH.calls y.f0 y.f1 y.f2 y.f3 y.f4 x.f0 x.f1 x.f2 x.f3 x.f4 s _ HSM.out).mono ?_
     rintro e_ w4 ⟨rfl,hb⟩
     refine ⟨_,rfl,?_⟩;have n1_:=aS (aI B5.out hb);have n2_:=aS (Kd.dB HR2.out hb);have n3_:=aS (aE HB3.out hb);clear B5 HR2 HB3 hb;have B5:=n1_;have HR2:=n2_;have HB3:=n3_;clear n1_ n2_ n3_;refine hK.out _ _ ⟨⟨(aC B5.out 0).trans rfl,(aC B5.out 1).trans rfl,(aC B5.out 2).trans rfl,(aC B5.out 3).trans rfl,(aC B5.out 4).trans rfl⟩,HYF.out _ HB3.out⟩ (fun hHeld=>?_);clear hK K;refine nm 25 ?_
     cases s with
     | false=>
      refine aZ [(10,26),(11,27),(12,28),(13,29),(14,30),(15,31),(16,32),(17,33),(18,34),(19,35),(20,36),(21,37),(22,8)] ?_
      iterate 13 (first | (refine nR HT_ ?_) | (refine ck HT_ ?_))
      refine bT (bA 23 8388607) (by kernel_rfl) ?_;refine fX HT_ ?_;clear HT_ HW_ hHeld
      try go_wp2
      go_meet
      case rel=>exact ⟨true,rfl,aS (by rw [←HN.out];rfl),B5,HR2,HB3⟩
     | true=>
      refine aZ [(10,26),(11,27),(12,28),(13,29),(14,30),(15,31),(16,32),(17,33),(18,34),(19,35),(20,36),(21,37),(22,8)] ?_
      iterate 13 (first | (refine ck HT_ ?_) | (refine dY HT_ HW_ hHeld ?_))
      refine bT (bA 23 8388607) (by kernel_rfl) ?_;refine fX HT_ ?_;clear HT_ HW_ hHeld
      try go_wp2
      go_meet
      case rel=>exact ⟨decide (y.f2 > t),rfl,aS (by rw [←HN.out];rfl),B5,HR2,HB3⟩
   case rest=>
    obtain ⟨nb,rfl,hn,B5,HR2,HB3⟩:=hcut;have q5:=cO B5;clear hx0 hx1 hx2 hx3 hx4 hix
    by_cases c8:x.f2≤t
    rotate_left
    ·
     have HP:ah (aT.keep l t i=false):=aS (by unfold aT.keep;rw [←HX.out,decide_eq_false c8];rfl);have c8b:decide (x.f2≤t)=false:=decide_eq_false c8;clear c8
     go_wp2_with (first | fail)
     go_roundw
     case rel=>exact ⟨i+1,by rw [hwr];rfl,⟨hlt⟩,⟨by unfold aT.pre;rw [HP.out,if_neg Bool.false_ne_true,List.append_nil];exact HR2.out⟩,HB3⟩
     case measure=>exact iV hwr hlt
    ·
     have c8b:decide (x.f2≤t)=true:=decide_eq_true c8;clear c8
     cases nb with
     | false=>
      have HP:ah (aT.keep l t i=false):=aS (by unfold aT.keep;rw [←hn.out,Bool.false_and,Bool.and_false])
      go_wp2_with (first | fail)
      go_roundw
      case rel=>exact ⟨i+1,by rw [hwr];rfl,⟨hlt⟩,⟨by unfold aT.pre;rw [HP.out,if_neg Bool.false_ne_true,List.append_nil];exact HR2.out⟩,HB3⟩
      case measure=>exact iV hwr hlt
     | true=>
      by_cases ef:(!x.f4)=true
      ·
       have HP:ah (aT.keep l t i=true):=aS (by unfold aT.keep;rw [←hn.out,← HX.out,c8b,ef];rfl)
       go_wp2_with (first | fail | (at_builtin;refine Kd.gJ cm (w0:=w) w.heap.size rfl _ _ 32 34 _ _ rfl hu24 eO rfl (by decide) (by decide) u5 (aT.pre l t i) x [.string x.f0,.string x.f1,.int .i64 x.f2,.string x.f3,.bool x.f4] (fun _=>True) (fun _=>False) rfl rfl (ia _ _ _ x) (fun _ hk=>hk.elim) (fun _ _=>trivial) HR2.out HB3.out HB3.out.size (by have:=HLA.out;clear hwr;omega) ?_;intro v8 w4 ho hb hg hat;have HR4:=aS ho;have HB4:=aS hb;clear ho hb hg hat HR2 HB3))
       go_roundw
       case rel=>exact ⟨i+1,by rw [hwr];rfl,⟨hlt⟩,⟨by unfold aT.pre;rw [HP.out,if_pos rfl,← HX.out];exact HR4.out⟩,HB4⟩
       case measure=>exact iV hwr hlt
      ·
       replace ef:(!x.f4)=false:=Bool.eq_false_iff.mpr ef;have HP:ah (aT.keep l t i=false):=aS (by unfold aT.keep;rw [←hn.out,← HX.out,c8b,ef];rfl)
       go_wp2_with (first | fail)
       go_roundw
       case rel=>exact ⟨i+1,by rw [hwr];rfl,⟨hlt⟩,⟨by unfold aT.pre;rw [HP.out,if_neg Bool.false_ne_true,List.append_nil];exact HR2.out⟩,HB3⟩
       case measure=>exact iV hwr hlt
  ·
   have e_:i=l.length:=by have:=hi.out;omega
   have hge:¬ ((i:Int)<(l.length:Int)):=by omega
   go_wp2
   go_ret
   exact ⟨_,rfl,by rw [←e_];exact HR.out,HBr.out⟩
def bS.keep (a b:ByteArray) (c:au):Bool:=!(Op.bytesLess c.f0.toList a.toList) && (b.toList == [] || Op.bytesLess c.f0.toList b.toList)
def bS.f (k:Nat) (xs:List au) (ls:List (List (List au × List (List au) × List Int))) (a b:ByteArray) (t:Int):Option (List au):=(cX.f k xs ls).bind fun c=>(aT.f k c t).bind fun v=>if v.length<2199023255552 then some (v.filter (bS.keep a b)) else none
theorem bS.mono:∀ a0 a1 a2 a3 a4 k,aH (bS.f k a0 a1 a2 a3 a4) (bS.f (k+1) a0 a1 a2 a3 a4):=fun _ _ _ _ _ _=>aH.bind (cX.mono _ _ _) fun _=>aH.bind (aT.mono _ _ _) fun _=>aH.refl _
attribute [local go_sem] EO
theorem bS.calls (k g base:Nat) (ok:Nat→Prop) (s1 s2 s3:Int) (xs:List au) (n:Int) (ls:List (List (List au × List (List au) × List Int))) (a b:ByteArray) (t:Int) (r:List au) (w:World) (hA:ak.At w base ok g s1 s2 s3 xs n ls) (h:bS.f k xs ls a b t=some r) :
  Calls Tryz.prog 17 #[.pointer (some ⟨g,0,none⟩),.string a,.string b,.int .i64 t] w fun e w'=>∃ v0_:Value,e = .returned v0_∧Kd.R cm 34 w' w.heap.size (fun _=>True) v0_ r∧Below w.heap.size w w':=by
 have hu24:=Tryz.underlying32;have hu26:=Tryz.underlying34
 unfold bS.f at h
 replace h:=bU h;obtain ⟨c,x1,h⟩:=h;replace h:=bU h;obtain ⟨vs,x2,h⟩:=h
 by_cases hlim:vs.length<2199023255552
 case neg=>rw [if_neg hlim] at h;cases h
 rw [if_pos hlim] at h
 obtain rfl:=Option.some.inj h
 have HA:=aS hA;have X1:=aS x1;have X2:=aS x2;have HLM:=aS hlim;clear hA x1 x2 hlim h
 go_enter Tryz.func17,Tryz.ntmps17
 go_wp2_with (first | (go_at_call 19;(with_reducible refine (cX.calls k base ok g s1 s2 s3 xs n ls c _ HA.out X1.out).mono ?_);rintro e_ w2 ⟨v2,rfl,ho,hb⟩;obtain ⟨Ac,cc,rfl,hcl,hC⟩:=Kd.eZ ho;have HCc:=aS hC;have HLc:=aS hcl;have HB1:=aS hb;clear ho hb hC hcl) | (go_at_call 37;(with_reducible refine (aT.calls k Ac cc c t vs _ HCc.out HLc.out X2.out).mono ?_);rintro e_ w3 ⟨v3,rfl,ho,hb⟩;obtain ⟨A,cv,rfl,hcl,hC⟩:=Kd.eZ ho;have HC:=aS hC;have HL:=aS hcl;have HB:=aS (aE HB1.out hb);clear ho hb hC hcl HB1 HCc HLc))
 go_loopw [9,17] (fun v9 v17 wr=>∃ (i:Nat),v17 = .int .i64 (i:Int)∧ah (i≤vs.length)∧ah (Kd.R cm 34 wr w3.heap.size (fun _=>True) v9 (vs.take i |>.filter (bS.keep a b)))∧ah (Below w3.heap.size w3 wr)) (fun _ i _=>vs.length - (intOf i).toNat)
 case atStart=>exact ⟨0,rfl,⟨Nat.zero_le _⟩,⟨Kd.d6 _ _ _ _ _⟩,⟨Below.refl _ _⟩⟩
 case round=>
  obtain ⟨i,rfl,hi,HR,HBr⟩:=hrel
  by_cases hlt:i<vs.length
  ·
   have hq1:(i:Int)<(vs.length:Int):=by omega
   have hq0:(0:Int)≤(i:Int):=by omega
   obtain ⟨ad,e_,hx0,hx1,hx2,hx3,hx4⟩:=dN (Kd.cH HC.out HBr.out) (i:Int) hq0 hq1;subst e_
   obtain ⟨x,hx⟩:∃ x,x=af vs (i:Int):=⟨_,rfl⟩
   rw [←hx] at hx0 hx1 hx2 hx3 hx4
   have hxe:x=vs[i]:=by rw [hx];unfold af;rw [Int.toNat_natCast,List.getD_eq_getElem?_getD,List.getElem?_eq_getElem hlt];rfl
   have HT:ah ((vs.take (i+1) |>.filter (bS.keep a b))=(vs.take i |>.filter (bS.keep a b))++if bS.keep a b x=true then [x] else []):=aS (by
    rw [List.take_succ_eq_append_getElem hlt,List.filter_append,← hxe]
    congr 1
    by_cases hk:bS.keep a b x=true<;>simp [hk])
   have HLA:ah ((vs.take i |>.filter (bS.keep a b)).length<2199023255552):=aS (Nat.lt_of_le_of_lt (List.length_filter_le _ _) (by rw [kY];have:=HLM.out;omega))
   have hix:∀ W:World,(Instr.indexAt 32 (.slice (some ad) vs.length cv) (.int .i64 (i:Int))).run Tryz.prog W = .ok (.pointer (some (ad.add (i*5)))) W:=by
    obtain ⟨i0,hi0,hz⟩:=Option.map_eq_some_iff.1 eO
    simp only [Prod.mk.injEq] at hz
    intro W
    have h1:=gH 32 34 hu24 hi0 5 hz.2.1 ad vs.length cv (i:Int) (by omega) (by omega) W
    rwa [Int.toNat_natCast] at h1
   have hwr:wrap64 ((i:Int)+1)=(i:Int)+1:=by rw [←cC,IntKind.wrap_i64];have:=HLM.out;omega
   rw [Int.toNat_natCast] at hx0 hx1 hx2 hx3 hx4;clear hx hxe hi hq0
   by_cases c8:Op.bytesLess x.f0.toList a.toList=true
   rotate_left
   ·
    replace c8:Op.bytesLess x.f0.toList a.toList=false:=by simpa using c8
    by_cases c9:b.toList=([]:List UInt8)
    rotate_left
    ·
     obtain ⟨c9a,c9b⟩:=iT c9
     by_cases ef:Op.bytesLess x.f0.toList b.toList=true
     rotate_left
     ·
      replace ef:Op.bytesLess x.f0.toList b.toList=false:=by simpa using ef
      have HP:ah (bS.keep a b x=false):=aS (by unfold bS.keep;rw [c8,c9a,ef];rfl)
      go_wp2_with (first | ((with_reducible refine gD 11 ?_);refine dK 11 #[.string ⟨#[]⟩,.string ⟨#[]⟩,.int .i64 0,.string ⟨#[]⟩,.bool false] 34 ?_;intro p9 hg w1 hb hbl;have B9:=aS hb;have G9:ah (wr.heap.size≤p9):=aS (by rw [hg];exact Nat.le_refl _);have HB1:=aS hbl;clear hg hb hbl) | ((with_reducible refine dO (t:=34) (p:=11) rfl ?_);refine wpList_store_row rfl 34 _ _ rfl p9 #[.string x.f0,.string x.f1,.int .i64 x.f2,.string x.f3,.bool x.f4] rfl rfl 34 _ B9.out (by kernel_rfl) rfl (by kernel_rfl) ?_;have B5:=aS (setRow_heap w1 p9 _ #[.string x.f0,.string x.f1,.int .i64 x.f2,.string x.f3,.bool x.f4] _ _ B9.out);have HB2:=aS (cV HB1.out G9.out #[.string x.f0,.string x.f1,.int .i64 x.f2,.string x.f3,.bool x.f4]);clear B9 HB1;generalize World.setRow w1 p9 #[.string x.f0,.string x.f1,.int .i64 x.f2,.string x.f3,.bool x.f4]=w2 at B5 HB2 ⊢;have HR2:=aS (Kd.dB HR.out HB2.out);have HB3:=aS (aE HBr.out HB2.out);clear HR HBr HB2;have q5:=cO B5))
      go_roundw
      case rel=>exact ⟨i+1,by rw [hwr];rfl,⟨hlt⟩,⟨by rw [HT.out,HP.out,if_neg Bool.false_ne_true,List.append_nil];exact HR2.out⟩,HB3⟩
      case measure=>exact iV hwr hlt
     ·
      have HP:ah (bS.keep a b x=true):=aS (by unfold bS.keep;rw [c8,c9a,ef];rfl)
      go_wp2_with (first | ((with_reducible refine gD 11 ?_);refine dK 11 #[.string ⟨#[]⟩,.string ⟨#[]⟩,.int .i64 0,.string ⟨#[]⟩,.bool false] 34 ?_;intro p9 hg w1 hb hbl;have B9:=aS hb;have G9:ah (wr.heap.size≤p9):=aS (by rw [hg];exact Nat.le_refl _);have HB1:=aS hbl;clear hg hb hbl) | ((with_reducible refine dO (t:=34) (p:=11) rfl ?_);refine wpList_store_row rfl 34 _ _ rfl p9 #[.string x.f0,.string x.f1,.int .i64 x.f2,.string x.f3,.bool x.f4] rfl rfl 34 _ B9.out (by kernel_rfl) rfl (by kernel_rfl) ?_;have B5:=aS (setRow_heap w1 p9 _ #[.string x.f0,.string x.f1,.int .i64 x.f2,.string x.f3,.bool x.f4] _ _ B9.out);have HB2:=aS (cV HB1.out G9.out #[.string x.f0,.string x.f1,.int .i64 x.f2,.string x.f3,.bool x.f4]);clear B9 HB1;generalize World.setRow w1 p9 #[.string x.f0,.string x.f1,.int .i64 x.f2,.string x.f3,.bool x.f4]=w2 at B5 HB2 ⊢;have HR2:=aS (Kd.dB HR.out HB2.out);have HB3:=aS (aE HBr.out HB2.out);clear HR HBr HB2;have q5:=cO B5) | (at_builtin;refine Kd.gJ cm (w0:=w3) w3.heap.size rfl _ _ 32 34 _ _ rfl hu24 eO rfl (by decide) (by decide) u9 (vs.take i |>.filter (bS.keep a b)) x [.string x.f0,.string x.f1,.int .i64 x.f2,.string x.f3,.bool x.f4] (fun _=>True) (fun _=>False) rfl rfl (ia _ _ _ x) (fun _ hk=>hk.elim) (fun _ _=>trivial) HR2.out HB3.out HB3.out.size (by have:=HLA.out;clear hwr;omega) ?_;intro v8 w4 ho hb hg hat;have HR4:=aS ho;have HB4:=aS hb;clear ho hb hg hat HR2 HB3))
      go_roundw
      case rel=>exact ⟨i+1,by rw [hwr];rfl,⟨hlt⟩,⟨by rw [HT.out,HP.out,if_pos rfl];exact HR4.out⟩,HB4⟩
      case measure=>exact iV hwr hlt
    ·
     have HP:ah (bS.keep a b x=true):=aS (by unfold bS.keep;rw [c8,c9];rfl);obtain ⟨c9a,c9b⟩:=jh c9;clear c9
     go_wp2_with (first | ((with_reducible refine gD 11 ?_);refine dK 11 #[.string ⟨#[]⟩,.string ⟨#[]⟩,.int .i64 0,.string ⟨#[]⟩,.bool false] 34 ?_;intro p9 hg w1 hb hbl;have B9:=aS hb;have G9:ah (wr.heap.size≤p9):=aS (by rw [hg];exact Nat.le_refl _);have HB1:=aS hbl;clear hg hb hbl) | ((with_reducible refine dO (t:=34) (p:=11) rfl ?_);refine wpList_store_row rfl 34 _ _ rfl p9 #[.string x.f0,.string x.f1,.int .i64 x.f2,.string x.f3,.bool x.f4] rfl rfl 34 _ B9.out (by kernel_rfl) rfl (by kernel_rfl) ?_;have B5:=aS (setRow_heap w1 p9 _ #[.string x.f0,.string x.f1,.int .i64 x.f2,.string x.f3,.bool x.f4] _ _ B9.out);have HB2:=aS (cV HB1.out G9.out #[.string x.f0,.string x.f1,.int .i64 x.f2,.string x.f3,.bool x.f4]);clear B9 HB1;generalize World.setRow w1 p9 #[.string x.f0,.string x.f1,.int .i64 x.f2,.string x.f3,.bool x.f4]=w2 at B5 HB2 ⊢;have HR2:=aS (Kd.dB HR.out HB2.out);have HB3:=aS (aE HBr.out HB2.out);clear HR HBr HB2;have q5:=cO B5) | (at_builtin;refine Kd.gJ cm (w0:=w3) w3.heap.size rfl _ _ 32 34 _ _ rfl hu24 eO rfl (by decide) (by decide) u9 (vs.take i |>.filter (bS.keep a b)) x [.string x.f0,.string x.f1,.int .i64 x.f2,.string x.f3,.bool x.f4] (fun _=>True) (fun _=>False) rfl rfl (ia _ _ _ x) (fun _ hk=>hk.elim) (fun _ _=>trivial) HR2.out HB3.out HB3.out.size (by have:=HLA.out;clear hwr;omega) ?_;intro v8 w4 ho hb hg hat;have HR4:=aS ho;have HB4:=aS hb;clear ho hb hg hat HR2 HB3))
     go_roundw
     case rel=>exact ⟨i+1,by rw [hwr];rfl,⟨hlt⟩,⟨by rw [HT.out,HP.out,if_pos rfl];exact HR4.out⟩,HB4⟩
     case measure=>exact iV hwr hlt
   ·
    have HP:ah (bS.keep a b x=false):=aS (by unfold bS.keep;rw [c8];rfl)
    go_wp2_with (first | ((with_reducible refine gD 11 ?_);refine dK 11 #[.string ⟨#[]⟩,.string ⟨#[]⟩,.int .i64 0,.string ⟨#[]⟩,.bool false] 34 ?_;intro p9 hg w1 hb hbl;have B9:=aS hb;have G9:ah (wr.heap.size≤p9):=aS (by rw [hg];exact Nat.le_refl _);have HB1:=aS hbl;clear hg hb hbl) | ((with_reducible refine dO (t:=34) (p:=11) rfl ?_);refine wpList_store_row rfl 34 _ _ rfl p9 #[.string x.f0,.string x.f1,.int .i64 x.f2,.string x.f3,.bool x.f4] rfl rfl 34 _ B9.out (by kernel_rfl) rfl (by kernel_rfl) ?_;have B5:=aS (setRow_heap w1 p9 _ #[.string x.f0,.string x.f1,.int .i64 x.f2,.string x.f3,.bool x.f4] _ _ B9.out);have HB2:=aS (cV HB1.out G9.out #[.string x.f0,.string x.f1,.int .i64 x.f2,.string x.f3,.bool x.f4]);clear B9 HB1;generalize World.setRow w1 p9 #[.string x.f0,.string x.f1,.int .i64 x.f2,.string x.f3,.bool x.f4]=w2 at B5 HB2 ⊢;have HR2:=aS (Kd.dB HR.out HB2.out);have HB3:=aS (aE HBr.out HB2.out);clear HR HBr HB2;have q5:=cO B5))
    go_roundw
    case rel=>exact ⟨i+1,by rw [hwr];rfl,⟨hlt⟩,⟨by rw [HT.out,HP.out,if_neg Bool.false_ne_true,List.append_nil];exact HR2.out⟩,HB3⟩
    case measure=>exact iV hwr hlt
  ·
   have e_:vs.take i=vs:=List.take_of_length_le (by omega)
   have hge:¬ ((i:Int)<(vs.length:Int)):=by omega
   go_wp2
   go_ret
   exact ⟨_,rfl,Kd.bn (by rw [←e_];exact HR.out) HB.out.size,aE HB.out HBr.out⟩
theorem o6.calls (base:Nat) (ok:Nat→Prop) (g:Nat) (s1 s2 s3:Int) (xs:List au) (n:Int) (ls:List (List (List au × List (List au) × List Int))) (w:World) (hA:ak.At w base ok g s1 s2 s3 xs n ls) (h:ls.length<2199023255552) :
  Calls Tryz.prog 22 #[.pointer (some ⟨g,0,none⟩)] w fun e w'=>∃ v0_:Value,e = .returned v0_∧Kd.R (Kd.int .i64) 3 w' w.heap.size (fun _=>True) v0_ (ls.map fun l=>(l.length:Int))∧Below w.heap.size w w':=by
 have hu30:=Tryz.underlying27;have hu51:=Tryz.underlying61;have hu23:=Tryz.underlying23;have hu49:=Tryz.underlying59;have hu53:=Tryz.underlying64;have hu24:=Tryz.underlying32;have hu61:=Tryz.underlying73;have hu43:=Tryz.underlying50;obtain ⟨gm,vm,vl,vs,hA⟩:=hA;have HA:=aS hA;clear hA;have HLM:=aS h;clear h;have q0:=cO (aS HA.out.cU);obtain ⟨A,cl,rfl,hcl,hmx,hat⟩:=HA.out.at;have HL:=aS HA.out.len;have HAT:=aS hat;clear hat hmx
 go_enter Tryz.func22,Tryz.ntmps22
 go_wp2
 clear q0
 go_loopw [3,11] (fun v3 v11 wr=>∃ (i:Nat),v11 = .int .i64 (i:Int)∧ah (i≤vs.length)∧ah (Kd.R (Kd.int .i64) 3 wr w.heap.size (fun _=>True) v3 ((ls.take i).map fun l=>(l.length:Int)))∧ah (Below w.heap.size w wr)) (fun _ i _=>vs.length - (intOf i).toNat)
 case atStart=>exact ⟨0,rfl,⟨Nat.zero_le _⟩,⟨Kd.d6 _ _ _ _ _⟩,⟨Below.refl _ _⟩⟩
 case round=>
  obtain ⟨i,rfl,hi,HR,HBr⟩:=hrel
  by_cases hlt:i<vs.length
  ·
   have hq1:(i:Int)<(vs.length:Int):=by omega
   obtain ⟨ad,e_,hx⟩:=HAT.out wr (fun k _ hk=>HBr.out.block k hk) i hlt;subst e_;obtain ⟨Ai,ci,ei,hli,hCi⟩:=HA.out.cells i hlt;rw [ei] at hx
   have HT:ah (((ls.take (i+1)).map fun l=>(l.length:Int))=((ls.take i).map fun l=>(l.length:Int))++[((ls.getD i []).length:Int)]):=aS (by
    rw [List.take_succ_eq_append_getElem (by rw [←HL.out];exact hlt),List.map_append,List.getD_eq_getElem?_getD,List.getElem?_eq_getElem (by rw [←HL.out];exact hlt)]
    rfl)
   have HG:ah (((ls.take i).map fun l=>(l.length:Int)).length<2199023255552):=aS (by rw [List.length_map,kY];have:=HLM.out;omega)
   generalize (ls.getD i []).length=nl at hx HT
   have hix:∀ W:World,(Instr.indexAt 59 (.slice (some ad) vs.length cl) (.int .i64 (i:Int))).run Tryz.prog W = .ok (.pointer (some (ad.add i))) W:=by
    obtain ⟨i0,hi0,hz⟩:=Option.map_eq_some_iff.1 mV
    simp only [Prod.mk.injEq] at hz
    intro W
    have h1:=gH 59 64 hu49 hi0 1 hz.2.1 ad vs.length cl (i:Int) (by omega) (by omega) W
    rwa [Nat.mul_one,Int.toNat_natCast] at h1
   have hwr:wrap64 ((i:Int)+1)=(i:Int)+1:=by rw [←cC,IntKind.wrap_i64];have:=HLM.out;have:=HL.out;omega
   clear hi ei hli hCi
   go_wp2_with (first | (at_builtin;refine Kd.gJ (Kd.int .i64) (w0:=w) w.heap.size rfl _ _ 50 3 (.int .i64 0) 8 rfl hu43 info3 rfl (by decide) (by decide) u3 _ (nl:Int) [.int .i64 (nl:Int)] (fun _=>True) (fun _=>False) rfl rfl rfl (fun _ hk=>hk.elim) (fun _ _=>trivial) HR.out HBr.out HBr.out.size (by have:=HG.out;clear hwr;omega) ?_;intro v8 w6 ho hb hg hat;rw [←HT.out] at ho;have HR2:=aS ho;have HB2:=aS hb;clear ho hb hg hat HR HBr))
   go_roundw
   case rel=>exact ⟨i+1,by rw [hwr];rfl,⟨hlt⟩,HR2,HB2⟩
   case measure=>exact iV hwr hlt
  ·
   have hge:¬ ((i:Int)<(vs.length:Int)):=by omega
   have e_:ls.take i=ls:=List.take_of_length_le (by rw [←HL.out];omega)
   go_wp2
   go_ret
   exact ⟨_,rfl,by rw [←e_];exact HR.out,HBr.out⟩
-- o6
def cI.tail (k:Nat) (xs:List au) (ls:List (List (List au × List (List au) × List Int))):Option Bool:=
 (aU.f k xs ls (⟨#[97]⟩:ByteArray) (⟨#[120]⟩:ByteArray) 3).bind fun v=>(aU.f k xs ls (⟨#[97]⟩:ByteArray) (⟨#[120]⟩:ByteArray) 9).bind fun i=>(cX.f k xs ls).bind fun c=>(bS.f k xs ls (⟨#[]⟩:ByteArray) (⟨#[]⟩:ByteArray) 2).bind fun s=>if v.f4=false∧v.f3=(⟨#[49]⟩:ByteArray)∧i.f4=true∧(ls.map fun l=>(l.length:Int))=[2]∧c.length=2∧s.length=1 then some true else none
def cI.f (k:Nat):Option Bool:=
 (ak.f 1 50 2).bind fun a=>(ak.f 0 0 0).bind fun b=>if a=true∧b=false then (cx.f k 1 50 2 [] 0 [] (⟨#[97]⟩:ByteArray) (⟨#[120]⟩:ByteArray) 1 (⟨#[49]⟩:ByteArray) false).bind fun p=>(cx.f k 1 50 2 p.1 p.2.1 p.2.2.1 (⟨#[97]⟩:ByteArray) (⟨#[120]⟩:ByteArray) 4 (⟨#[]⟩:ByteArray) true).bind fun q=>if p.2.2.2=0∧q.2.2.2=0 then cI.tail k q.1 q.2.2.1 else none else none
theorem cI.mK:∀ a0 a1 k,aH (cI.tail k a0 a1) (cI.tail (k+1) a0 a1):=fun _ _ _=>aH.bind (aU.mono _ _ _ _ _ _) fun _=>aH.bind (aU.mono _ _ _ _ _ _) fun _=>aH.bind (cX.mono _ _ _) fun _=>aH.bind (bS.mono _ _ _ _ _ _) fun _=>aH.refl _
theorem cI.mono:∀ k,aH (cI.f k) (cI.f (k+1)):=fun _=>aH.bind (aH.refl _) fun _=>aH.bind (aH.refl _) fun _=>aH.ite (aH.bind (cx.mono _ _ _ _ _ _ _ _ _ _ _ _) fun _=>aH.bind (cx.mono _ _ _ _ _ _ _ _ _ _ _ _) fun _=>aH.ite (cI.mK _ _ _) (aH.refl _)) (aH.refl _)
theorem cI.calls (k:Nat) (r:Bool) (w:World) (h:cI.f k=some r):Calls Tryz.prog 6 #[] w fun e w'=>e = .returned (.bool r)∧Below w.heap.size w w':=by
 have hu23:=Tryz.underlying23;have hu26:=Tryz.underlying34;have hu30:=Tryz.underlying27;have hu43:=Tryz.underlying50
 unfold cI.f at h
 replace h:=bU h;obtain ⟨a,x1,h⟩:=h;replace h:=bU h;obtain ⟨b,x2,h⟩:=h
 split at h
 case isFalse=>cases h
 rename_i hab
 obtain ⟨rfl,rfl⟩:=hab;replace h:=bU h;obtain ⟨⟨p1,p2,p3,p4⟩,x3,h⟩:=h;replace h:=bU h;obtain ⟨⟨q1,q2,q3,q4⟩,x4,h⟩:=h
 split at h
 case isFalse=>cases h
 rename_i hpq
 obtain ⟨hp,hq⟩:=hpq;replace hp:p4=0:=hp;replace hq:q4=0:=hq;subst hp;subst hq;replace h:cI.tail k q1 q3=some r:=h;replace x4:cx.f k 1 50 2 p1 p2 p3 (⟨#[97]⟩:ByteArray) (⟨#[120]⟩:ByteArray) 4 (⟨#[]⟩:ByteArray) true=some (q1,q2,q3,0):=x4
 unfold cI.tail at h
 replace h:=bU h;obtain ⟨v,x5,h⟩:=h;replace h:=bU h;obtain ⟨i,x6,h⟩:=h;replace h:=bU h;obtain ⟨c,x7,h⟩:=h;replace h:=bU h;obtain ⟨s,x8,h⟩:=h
 split at h
 case isFalse=>cases h
 rename_i hc
 obtain ⟨hv4,hv3,hi4,hl,hc2,hs1⟩:=hc
 obtain rfl:=Option.some.inj h
 have X1:=aS x1;have X2:=aS x2;have X3:=aS x3;have X4:=aS x4;have X5:=aS x5;have X6:=aS x6;have X7:=aS x7;have X8:=aS x8;have HL:=aS hl;have HV4:=aS hv4;have HV3:=aS hv3;have HI4:=aS hi4;have HC2:=aS hc2;have HS1:=aS hs1;have HLL:ah (q3.length<2199023255552):=aS (by have h1:=congrArg List.length hl;rw [List.length_map] at h1;rw [h1];decide);clear x1 x2 x3 x4 x5 x6 x7 x8 hl hv4 hv3 hi4 hc2 hs1 h
 go_enter Tryz.func6,Tryz.ntmps6
 go_wp2_with (first | (go_at_call 8;(with_reducible refine (ak.calls 1 50 2 true _ X1.out).mono ?_);rintro e_ w2 ⟨hb,_,ht⟩;obtain ⟨g,rfl,ht2⟩:=ht rfl;have HT:=aS ht2;have HB:=aS hb;clear ht ht2 hb) | (go_at_call 8;(with_reducible refine (ak.calls 0 0 0 false _ X2.out).mono ?_);rintro e_ w2 ⟨hb,he_,_⟩;obtain rfl:=he_ rfl;have n1_:=aS (HT.out.below hb);have n2_:=aS (aE HB.out hb);clear HT HB hb;have HT:=n1_;have HB:=n2_;clear n1_ n2_) | (go_at_call 12;(with_reducible refine (cx.calls k g _ (fun k=>w.heap.size≤k) 1 50 2 [] p1 0 p2 [] p3 (⟨#[97]⟩:ByteArray) (⟨#[120]⟩:ByteArray) 1 (⟨#[49]⟩:ByteArray) false 0 _ HT.out X3.out).mono ?_);rintro e_ w2 ⟨rfl,ha_,hc_⟩;have n1_:=aS (ha_.new HB.out.size);have n2_:=aS (hc_.below HB.out HB.out.size (fun _ hk=>hk));clear HT HB ha_ hc_;have HT:=n1_;have HB:=n2_;clear n1_ n2_) | (go_at_call 12;(with_reducible refine (cx.calls k g _ (fun k=>w.heap.size≤k) 1 50 2 p1 q1 p2 q2 p3 q3 (⟨#[97]⟩:ByteArray) (⟨#[120]⟩:ByteArray) 4 (⟨#[]⟩:ByteArray) true 0 _ HT.out X4.out).mono ?_);rintro e_ w2 ⟨rfl,ha_,hc_⟩;have n1_:=aS (ha_.new HB.out.size);have n2_:=aS (hc_.below HB.out HB.out.size (fun _ hk=>hk));clear HT HB ha_ hc_;have HT:=n1_;have HB:=n2_;clear n1_ n2_) | (go_at_call 14;(with_reducible refine (aU.calls k g _ _ 1 50 2 q1 q2 q3 (⟨#[97]⟩:ByteArray) (⟨#[120]⟩:ByteArray) 3 v _ HT.out X5.out).mono ?_);rintro e_ w2 ⟨he_,hb⟩;rw [HV4.out,HV3.out] at he_;subst he_;have n1_:=aS (HT.out.below hb);have n2_:=aS (aE HB.out hb);clear HT HB hb;have HT:=n1_;have HB:=n2_;clear n1_ n2_) | (go_at_call 14;(with_reducible refine (aU.calls k g _ _ 1 50 2 q1 q2 q3 (⟨#[97]⟩:ByteArray) (⟨#[120]⟩:ByteArray) 9 i _ HT.out X6.out).mono ?_);rintro e_ w2 ⟨he_,hb⟩;rw [HI4.out] at he_;subst he_;have n1_:=aS (HT.out.below hb);have n2_:=aS (aE HB.out hb);clear HT HB hb;have HT:=n1_;have HB:=n2_;clear n1_ n2_) | (go_at_call 22;(with_reducible refine (o6.calls _ _ g 1 50 2 q1 q2 q3 _ HT.out HLL.out).mono ?_);rintro e_ w2 ⟨v2,rfl,ho,hb⟩;rw [HL.out] at ho;obtain ⟨gl,cpl,rfl,_,_,_⟩:=Kd.n_ ho (by decide);have hl0:w2.cell? ⟨gl,0,none⟩=some (.int .i64 2):=(Kd.CM (0:Int) ho 0 (by decide) (by decide)).1;clear ho;have n1_:=aS (HT.out.below hb);have n2_:=aS (aE HB.out hb);clear HT HB hb;have HT:=n1_;have HB:=n2_;clear n1_ n2_) | (go_at_call 19;(with_reducible refine (cX.calls k _ _ g 1 50 2 q1 q2 q3 c _ HT.out X7.out).mono ?_);rintro e_ w2 ⟨v2,rfl,ho,hb⟩;obtain ⟨Ac,cc,rfl⟩:=Kd.bp ho;rw [HC2.out];clear ho;have n1_:=aS (HT.out.below hb);have n2_:=aS (aE HB.out hb);clear HT HB hb;have HT:=n1_;have HB:=n2_;clear n1_ n2_) | (go_at_call 17;(with_reducible refine (bS.calls k g _ _ 1 50 2 q1 q2 q3 (⟨#[]⟩:ByteArray) (⟨#[]⟩:ByteArray) 2 s _ HT.out X8.out).mono ?_);rintro e_ w2 ⟨v2,rfl,ho,hb⟩;obtain ⟨As,cs,rfl⟩:=Kd.bp ho;rw [HS1.out];clear ho;have n1_:=aS (HT.out.below hb);have n2_:=aS (aE HB.out hb);clear HT HB hb;have HT:=n1_;have HB:=n2_;clear n1_ n2_))
 go_ret
 exact ⟨rfl,HB.out⟩
mutual
def bf.l0:Nat→List (jG)→Int→Option (Bool)
 | 0,_,_=>none
 | k+1,x0,x3=>if x3<(x0.length:Int) then (bf.j1 k x0 x3 (decide (x3<100))) else (bf.j1 k x0 x3 false)
def bf.j1:Nat→List (jG)→Int→Bool→Option (Bool)
 | 0,_,_,_=>none
 | k+1,x0,x3,x11=>if x11=true then (if 0≤x3 then (if x3<(x0.length:Int) then (if (((fA x0 x3).f1.f0).size:Int) > 100 then (some false) else (if (((fA x0 x3).f1.f1).size:Int) > 100 then (some false) else (if (((fA x0 x3).f1.f3).size:Int) > 300 then (some false) else (bf.l0 k x0 (wrap64 (x3+1)))))) else (none)) else (none)) else (some (decide ((x0.length:Int)≤50)))
end
def bf.f (k:Nat) (l0:List (jG)):Option (Bool):=bf.l0 k l0 0
theorem bf.cF:∀ k,(∀ y0 y1,aH (bf.l0 k y0 y1) (bf.l0 (k+1) y0 y1))∧(∀ y0 y1 y2,aH (bf.j1 k y0 y1 y2) (bf.j1 (k+1) y0 y1 y2))
 | 0=>⟨fun _ _ r h=>by simp [bf.l0] at h,fun _ _ _ r h=>by simp [bf.j1] at h⟩
 | k+1=>by
  obtain ⟨ih0,ih1⟩:=bf.cF k;refine ⟨?_,?_⟩
  ·
   intro y0 y1
   unfold bf.l0
   exact eF
  ·
   intro y0 y1 y2
   unfold bf.j1
   exact eF
theorem bf.mono:∀ a0 k,aH (bf.f k a0) (bf.f (k+1) a0):=by
 intro a0 k
 obtain ⟨ih0,ih1⟩:=bf.cF k
 unfold bf.f
 exact eF
theorem bf.calls (k:Nat) (A0:Option Addr) (c0:Nat) (l0:List (jG)) (r:Bool) (w:World) (hr0:Kd.C pN w A0 l0.length l0) (hc0:l0.length≤c0) (h:bf.f k l0=some r) :
  Calls Tryz.prog 7 #[.slice A0 l0.length c0] w fun e w'=>e = .returned (.bool r)∧eJ w w':=by
 have HR0:=aS hr0;have HC0:=aS hc0;clear hr0 hc0;have H:(bf.l0 k l0 0)=some r:=h;clear h
 have H':=aS H
 clear H
 go_enter Tryz.func7,Tryz.ntmps7
 go_wp2
 go_loopg [3] k (fun kq v3 w'=>∃ (x3_1:Int),v3 = .int .i64 x3_1∧ah (bf.l0 kq l0 x3_1=some r)∧ah (kq≤k)∧eJ w w')
 case atStart=>exact ⟨(0),cG,H',⟨Nat.le_refl _⟩,fO⟩
 case round=>
  clear H';obtain ⟨x3_1,rfl,HA,HK1,⟨m1,rfl⟩⟩:=hrel
  cases gk with
  | zero=>exact absurd HA.out (by simp [bf.l0])
  | succ k1=>
   have H:=HA.out;clear HA
   simp only [bf.l0] at H
   have HC2:=aS H;clear H
   go_upto_region 2 with (fail)
   go_cut [11] (fun v11 wc=>∃ (kq:Nat) (x11_1:Bool),v11 = .bool x11_1∧ah (bf.j1 kq l0 x3_1 x11_1=some r)∧ah (kq≤k1)∧eJ w wc)
   case first=>
    have H:=HC2.out;clear HC2
    by_cases c3:x3_1<(l0.length:Int)
    ·
     rw [if_pos c3] at H;have c3b0:decide (x3_1<(l0.length:Int))=true:=decide_eq_true c3;clear c3
     (first | rw [c3b0] | (simp only [cC,dw];rw [c3b0]) | skip)
     have H':=aS H
     clear H
     go_wp2
     go_meet
     case rel=>exact ⟨_,(decide (x3_1<100)),cG,H',⟨by have:=HK1.out;first | omega | exact Nat.le_refl _⟩,fO⟩
    ·
     rw [if_neg c3] at H;have c3b0:decide (x3_1<(l0.length:Int))=false:=decide_eq_false c3;clear c3
     (first | rw [c3b0] | (simp only [cC,dw];rw [c3b0]) | skip)
     have H':=aS H
     clear H
     go_wp2
     go_meet
     case rel=>exact ⟨_,(false),cG,H',⟨by have:=HK1.out;first | omega | exact Nat.le_refl _⟩,fO⟩
   case rest=>
    clear HC2;obtain ⟨kq,x11_1,rfl,HA,HJ1,⟨mc1,rfl⟩⟩:=hcut
    cases kq with
    | zero=>exact absurd HA.out (by simp [bf.j1])
    | succ kj1=>
     have H:=HA.out;clear HA
     simp only [bf.j1] at H
     by_cases c4:x11_1=true
     ·
      subst c4
      replace H:=jy H
      by_cases c5:0≤x3_1
      ·
       rw [if_pos c5] at H;have c5b0:decide (0≤x3_1)=true:=decide_eq_true c5;clear c5
       by_cases c6:x3_1<(l0.length:Int)
       ·
        rw [if_pos c6] at H;have c6b0:decide (x3_1<(l0.length:Int))=true:=decide_eq_true c6;clear c6
        by_cases c7:(((fA l0 x3_1).f1.f0).size:Int) > 100
        ·
         rw [if_pos c7] at H;have c7b0:decide (100<(((fA l0 x3_1).f1.f0).size:Int))=true:=decide_eq_true c7;have c7b1:decide (100<((fA l0 x3_1).f1.f0).size)=true:=decide_eq_true (by omega);clear c7
         obtain rfl:=Option.some.inj H
         have p516:0≤(x3_1:Int):=bJ;have q516:x3_1<(l0.length:Int):=bJ;obtain ⟨ad516,e516,hx516_0,hx516_1,hx516_2,hx516_3,hx516_4,hx516_5⟩:=lE HR0.out x3_1 p516 q516;cases e516;replace p516:=eq_true p516;replace q516:=eq_true q516
         go_wp2
         go_ret
         exact ⟨cG,fO⟩
        ·
         rw [if_neg c7] at H;have c7b0:decide (100<(((fA l0 x3_1).f1.f0).size:Int))=false:=decide_eq_false c7;have c7b1:decide (100<((fA l0 x3_1).f1.f0).size)=false:=decide_eq_false (by omega);clear c7
         by_cases c8:(((fA l0 x3_1).f1.f1).size:Int) > 100
         ·
          rw [if_pos c8] at H;have c8b0:decide (100<(((fA l0 x3_1).f1.f1).size:Int))=true:=decide_eq_true c8;have c8b1:decide (100<((fA l0 x3_1).f1.f1).size)=true:=decide_eq_true (by omega);clear c8
          obtain rfl:=Option.some.inj H
          have p516:0≤(x3_1:Int):=bJ;have q516:x3_1<(l0.length:Int):=bJ;obtain ⟨ad516,e516,hx516_0,hx516_1,hx516_2,hx516_3,hx516_4,hx516_5⟩:=lE HR0.out x3_1 p516 q516;cases e516;replace p516:=eq_true p516;replace q516:=eq_true q516;have p517:0≤(x3_1:Int):=bJ;have q517:x3_1<(l0.length:Int):=bJ;obtain ⟨ad517,e517,hx517_0,hx517_1,hx517_2,hx517_3,hx517_4,hx517_5⟩:=lE HR0.out x3_1 p517 q517
          obtain rfl:ad516=ad517:=(by injection e517)
          replace p517:=eq_true p517;replace q517:=eq_true q517
          go_wp2
          go_ret
          exact ⟨cG,fO⟩
         ·
          rw [if_neg c8] at H;have c8b0:decide (100<(((fA l0 x3_1).f1.f1).size:Int))=false:=decide_eq_false c8;have c8b1:decide (100<((fA l0 x3_1).f1.f1).size)=false:=decide_eq_false (by omega);clear c8
          by_cases c9:(((fA l0 x3_1).f1.f3).size:Int) > 300
          ·
           rw [if_pos c9] at H;have c9b0:decide (300<(((fA l0 x3_1).f1.f3).size:Int))=true:=decide_eq_true c9;have c9b1:decide (300<((fA l0 x3_1).f1.f3).size)=true:=decide_eq_true (by omega);clear c9
           obtain rfl:=Option.some.inj H
           have p516:0≤(x3_1:Int):=bJ;have q516:x3_1<(l0.length:Int):=bJ;obtain ⟨ad516,e516,hx516_0,hx516_1,hx516_2,hx516_3,hx516_4,hx516_5⟩:=lE HR0.out x3_1 p516 q516;cases e516;replace p516:=eq_true p516;replace q516:=eq_true q516;have p517:0≤(x3_1:Int):=bJ;have q517:x3_1<(l0.length:Int):=bJ;obtain ⟨ad517,e517,hx517_0,hx517_1,hx517_2,hx517_3,hx517_4,hx517_5⟩:=lE HR0.out x3_1 p517 q517
           obtain rfl:ad516=ad517:=(by injection e517)
           replace p517:=eq_true p517;replace q517:=eq_true q517;have p518:0≤(x3_1:Int):=bJ;have q518:x3_1<(l0.length:Int):=bJ;obtain ⟨ad518,e518,hx518_0,hx518_1,hx518_2,hx518_3,hx518_4,hx518_5⟩:=lE HR0.out x3_1 p518 q518
           obtain rfl:ad516=ad518:=(by injection e518)
           replace p518:=eq_true p518;replace q518:=eq_true q518
           go_wp2
           go_ret
           exact ⟨cG,fO⟩
          ·
           rw [if_neg c9] at H;have c9b0:decide (300<(((fA l0 x3_1).f1.f3).size:Int))=false:=decide_eq_false c9;have c9b1:decide (300<((fA l0 x3_1).f1.f3).size)=false:=decide_eq_false (by omega);clear c9
           have H':=aS H
           clear H;have p516:0≤(x3_1:Int):=bJ;have q516:x3_1<(l0.length:Int):=bJ;obtain ⟨ad516,e516,hx516_0,hx516_1,hx516_2,hx516_3,hx516_4,hx516_5⟩:=lE HR0.out x3_1 p516 q516;cases e516;replace p516:=eq_true p516;replace q516:=eq_true q516;have p517:0≤(x3_1:Int):=bJ;have q517:x3_1<(l0.length:Int):=bJ;obtain ⟨ad517,e517,hx517_0,hx517_1,hx517_2,hx517_3,hx517_4,hx517_5⟩:=lE HR0.out x3_1 p517 q517
           obtain rfl:ad516=ad517:=(by injection e517)
           replace p517:=eq_true p517;replace q517:=eq_true q517;have p518:0≤(x3_1:Int):=bJ;have q518:x3_1<(l0.length:Int):=bJ;obtain ⟨ad518,e518,hx518_0,hx518_1,hx518_2,hx518_3,hx518_4,hx518_5⟩:=lE HR0.out x3_1 p518 q518
           obtain rfl:ad516=ad518:=(by injection e518)
           replace p518:=eq_true p518;replace q518:=eq_true q518
           go_wp2
           go_roundg kj1
           case measure=>have:=HK1.out;have:=HJ1.out;omega
           case rel=>exact ⟨(wrap64 (x3_1+1)),cG,H',⟨by have:=HK1.out;have:=HJ1.out;omega⟩,fO⟩
       ·
        rw [if_neg c6] at H;exact absurd H (by simp)
      ·
       rw [if_neg c5] at H;exact absurd H (by simp)
     ·
      replace c4:=Bool.eq_false_iff.mpr c4;subst c4
      replace H:=jw H
      obtain rfl:=Option.some.inj H
      go_wp2
      go_ret
      exact ⟨cG,fO⟩
def f_.f (a0_0:Int) (a0_1:Int) (a0_2:Int):Option (Bool):=if a0_0≥1 then (if a0_0≤4096 then (if a0_1≥1 then (if a0_1≤4096 then (if a0_2≥1 then (some (decide (a0_2≤8))) else (some false)) else (some false)) else (some false)) else (some false)) else (some false)
theorem f_.calls (a0_0:Int) (a0_1:Int) (a0_2:Int) (r:Bool) (w:World) (h:f_.f a0_0 a0_1 a0_2=some r) :
  Calls Tryz.prog 9 #[.agg #[.int .i64 a0_0,.int .i64 a0_1,.int .i64 a0_2]] w fun e w'=>e = .returned (.bool r)∧Below w.heap.size w w':=by
 have hu23:=Tryz.underlying23;have HB:=aS (Below.refl w.heap.size w);have H:(if a0_0≥1 then (if a0_0≤4096 then (if a0_1≥1 then (if a0_1≤4096 then (if a0_2≥1 then (some (decide (a0_2≤8))) else (some false)) else (some false)) else (some false)) else (some false)) else (some false))=some r:=h;clear h
 by_cases c2:a0_0≥1
 ·
  rw [if_pos c2] at H;have c2b0:decide (1≤a0_0)=true:=decide_eq_true c2;clear c2
  by_cases c3:a0_0≤4096
  ·
   rw [if_pos c3] at H;have c3b0:decide (a0_0≤4096)=true:=decide_eq_true c3;clear c3
   by_cases c4:a0_1≥1
   ·
    rw [if_pos c4] at H;have c4b0:decide (1≤a0_1)=true:=decide_eq_true c4;clear c4
    by_cases c5:a0_1≤4096
    ·
     rw [if_pos c5] at H;have c5b0:decide (a0_1≤4096)=true:=decide_eq_true c5;clear c5
     by_cases c6:a0_2≥1
     ·
      rw [if_pos c6] at H;have c6b0:decide (1≤a0_2)=true:=decide_eq_true c6;clear c6
      obtain rfl:=Option.some.inj H
      go_enter Tryz.func9,Tryz.ntmps9
      go_wp2_with (first | ((with_reducible refine gD 1 ?_);refine dK 1 #[.int .i64 a0_0,.int .i64 a0_1,.int .i64 a0_2] 23 ?_;intro gb519 hg w7 hbox hb;have BK519:=aS (hbox);have GW519:=bsize hg;have GE519:=bsize hg;replace HB:=aM hb;clear hb hbox hg;have hcz8:=iw BK519))
      go_ret
      exact ⟨dP,aq⟩
     ·
      rw [if_neg c6] at H;have c6b0:decide (1≤a0_2)=false:=decide_eq_false c6;clear c6
      obtain rfl:=Option.some.inj H
      go_enter Tryz.func9,Tryz.ntmps9
      go_wp2_with (first | ((with_reducible refine gD 1 ?_);refine dK 1 #[.int .i64 a0_0,.int .i64 a0_1,.int .i64 a0_2] 23 ?_;intro gb519 hg w9 hbox hb;have BK519:=aS (hbox);have GW519:=bsize hg;have GE519:=bsize hg;replace HB:=aM hb;clear hb hbox hg;have hcz10:=iw BK519))
      go_ret
      exact ⟨dP,aq⟩
    ·
     rw [if_neg c5] at H;have c5b0:decide (a0_1≤4096)=false:=decide_eq_false c5;clear c5
     obtain rfl:=Option.some.inj H
     go_enter Tryz.func9,Tryz.ntmps9
     go_wp2_with (first | ((with_reducible refine gD 1 ?_);refine dK 1 #[.int .i64 a0_0,.int .i64 a0_1,.int .i64 a0_2] 23 ?_;intro gb519 hg w11 hbox hb;have BK519:=aS (hbox);have GW519:=bsize hg;have GE519:=bsize hg;replace HB:=aM hb;clear hb hbox hg;have hcz12:=iw BK519))
     go_ret
     exact ⟨dP,aq⟩
   ·
    rw [if_neg c4] at H;have c4b0:decide (1≤a0_1)=false:=decide_eq_false c4;clear c4
    obtain rfl:=Option.some.inj H
    go_enter Tryz.func9,Tryz.ntmps9
    go_wp2_with (first | ((with_reducible refine gD 1 ?_);refine dK 1 #[.int .i64 a0_0,.int .i64 a0_1,.int .i64 a0_2] 23 ?_;intro gb519 hg w13 hbox hb;have BK519:=aS (hbox);have GW519:=bsize hg;have GE519:=bsize hg;replace HB:=aM hb;clear hb hbox hg;have hcz14:=iw BK519))
    go_ret
    exact ⟨dP,aq⟩
  ·
   rw [if_neg c3] at H;have c3b0:decide (a0_0≤4096)=false:=decide_eq_false c3;clear c3
   obtain rfl:=Option.some.inj H
   go_enter Tryz.func9,Tryz.ntmps9
   go_wp2_with (first | ((with_reducible refine gD 1 ?_);refine dK 1 #[.int .i64 a0_0,.int .i64 a0_1,.int .i64 a0_2] 23 ?_;intro gb519 hg w15 hbox hb;have BK519:=aS (hbox);have GW519:=bsize hg;have GE519:=bsize hg;replace HB:=aM hb;clear hb hbox hg;have hcz16:=iw BK519))
   go_ret
   exact ⟨dP,aq⟩
 ·
  rw [if_neg c2] at H;have c2b0:decide (1≤a0_0)=false:=decide_eq_false c2;clear c2
  obtain rfl:=Option.some.inj H
  go_enter Tryz.func9,Tryz.ntmps9
  go_wp2_with (first | ((with_reducible refine gD 1 ?_);refine dK 1 #[.int .i64 a0_0,.int .i64 a0_1,.int .i64 a0_2] 23 ?_;intro gb519 hg w17 hbox hb;have BK519:=aS (hbox);have GW519:=bsize hg;have GE519:=bsize hg;replace HB:=aM hb;clear hb hbox hg;have hcz18:=iw BK519))
  go_ret
  exact ⟨dP,aq⟩
def fC.f (a0_0:ByteArray) (a0_1:ByteArray) (a0_2:Int) (a0_3:ByteArray) (a0_4:Bool):Option (Bool):=if (a0_0.size:Int)<1 then (some false) else (if (a0_0.size:Int) > 64 then (some false) else (if (a0_1.size:Int)<1 then (some false) else (if (a0_1.size:Int) > 64 then (some false) else (if a0_2<0 then (some false) else (if a0_2 > 4294967295 then (some false) else (if (a0_3.size:Int)≤256 then (if a0_4=true then (some (a0_3.toList == ([]:List UInt8))) else (some true)) else (some false)))))))
theorem fC.calls (a0_0:ByteArray) (a0_1:ByteArray) (a0_2:Int) (a0_3:ByteArray) (a0_4:Bool) (r:Bool) (w:World) (h:fC.f a0_0 a0_1 a0_2 a0_3 a0_4=some r) :
  Calls Tryz.prog 10 #[.agg #[.string a0_0,.string a0_1,.int .i64 a0_2,.string a0_3,.bool a0_4]] w fun e w'=>e = .returned (.bool r)∧Below w.heap.size w w':=by
 have hu34:=Tryz.underlying34;have HB:=aS (Below.refl w.heap.size w);have H:(if (a0_0.size:Int)<1 then (some false) else (if (a0_0.size:Int) > 64 then (some false) else (if (a0_1.size:Int)<1 then (some false) else (if (a0_1.size:Int) > 64 then (some false) else (if a0_2<0 then (some false) else (if a0_2 > 4294967295 then (some false) else (if (a0_3.size:Int)≤256 then (if a0_4=true then (some (a0_3.toList == ([]:List UInt8))) else (some true)) else (some false))))))))=some r:=h;clear h
 by_cases c2:(a0_0.size:Int)<1
 ·
  rw [if_pos c2] at H;have c2b0:decide ((a0_0.size:Int)<1)=true:=decide_eq_true c2;have c2b1:decide (a0_0.size<1)=true:=decide_eq_true (by omega);clear c2
  obtain rfl:=Option.some.inj H
  go_enter Tryz.func10,Tryz.ntmps10
  go_wp2_with (first | ((with_reducible refine gD 1 ?_);(try (refine ez (by rfl) ?_;dsimp only));refine dK 1 #[.string a0_0,.string a0_1,.int .i64 a0_2,.string a0_3,.bool a0_4] 34 ?_;intro gb520 hg w3 hbox hb;have BK520:=aS (hbox);have GW520:=bsize hg;have GE520:=bsize hg;replace HB:=aM hb;clear hb hbox hg;have hcz4:=cO BK520))
  go_ret
  exact ⟨dP,aq⟩
 ·
  rw [if_neg c2] at H;have c2b0:decide ((a0_0.size:Int)<1)=false:=decide_eq_false c2;have c2b1:decide (a0_0.size<1)=false:=decide_eq_false (by omega);clear c2
  by_cases c5:(a0_0.size:Int) > 64
  ·
   rw [if_pos c5] at H;have c5b0:decide (64<(a0_0.size:Int))=true:=decide_eq_true c5;have c5b1:decide (64<a0_0.size)=true:=decide_eq_true (by omega);clear c5
   obtain rfl:=Option.some.inj H
   go_enter Tryz.func10,Tryz.ntmps10
   go_wp2_with (first | ((with_reducible refine gD 1 ?_);(try (refine ez (by rfl) ?_;dsimp only));refine dK 1 #[.string a0_0,.string a0_1,.int .i64 a0_2,.string a0_3,.bool a0_4] 34 ?_;intro gb520 hg w6 hbox hb;have BK520:=aS (hbox);have GW520:=bsize hg;have GE520:=bsize hg;replace HB:=aM hb;clear hb hbox hg;have hcz7:=cO BK520))
   go_ret
   exact ⟨dP,aq⟩
  ·
   rw [if_neg c5] at H;have c5b0:decide (64<(a0_0.size:Int))=false:=decide_eq_false c5;have c5b1:decide (64<a0_0.size)=false:=decide_eq_false (by omega);clear c5
   by_cases c8:(a0_1.size:Int)<1
   ·
    rw [if_pos c8] at H;have c8b0:decide ((a0_1.size:Int)<1)=true:=decide_eq_true c8;have c8b1:decide (a0_1.size<1)=true:=decide_eq_true (by omega);clear c8
    obtain rfl:=Option.some.inj H
    go_enter Tryz.func10,Tryz.ntmps10
    go_wp2_with (first | ((with_reducible refine gD 1 ?_);(try (refine ez (by rfl) ?_;dsimp only));refine dK 1 #[.string a0_0,.string a0_1,.int .i64 a0_2,.string a0_3,.bool a0_4] 34 ?_;intro gb520 hg w9 hbox hb;have BK520:=aS (hbox);have GW520:=bsize hg;have GE520:=bsize hg;replace HB:=aM hb;clear hb hbox hg;have hcz10:=cO BK520))
    go_ret
    exact ⟨dP,aq⟩
   ·
    rw [if_neg c8] at H;have c8b0:decide ((a0_1.size:Int)<1)=false:=decide_eq_false c8;have c8b1:decide (a0_1.size<1)=false:=decide_eq_false (by omega);clear c8
    by_cases c11:(a0_1.size:Int) > 64
    ·
     rw [if_pos c11] at H;have c11b0:decide (64<(a0_1.size:Int))=true:=decide_eq_true c11;have c11b1:decide (64<a0_1.size)=true:=decide_eq_true (by omega);clear c11
     obtain rfl:=Option.some.inj H
     go_enter Tryz.func10,Tryz.ntmps10
     go_wp2_with (first | ((with_reducible refine gD 1 ?_);(try (refine ez (by rfl) ?_;dsimp only));refine dK 1 #[.string a0_0,.string a0_1,.int .i64 a0_2,.string a0_3,.bool a0_4] 34 ?_;intro gb520 hg w12 hbox hb;have BK520:=aS (hbox);have GW520:=bsize hg;have GE520:=bsize hg;replace HB:=aM hb;clear hb hbox hg;have hcz13:=cO BK520))
     go_ret
     exact ⟨dP,aq⟩
    ·
     rw [if_neg c11] at H;have c11b0:decide (64<(a0_1.size:Int))=false:=decide_eq_false c11;have c11b1:decide (64<a0_1.size)=false:=decide_eq_false (by omega);clear c11
     by_cases c14:a0_2<0
     ·
      rw [if_pos c14] at H;have c14b0:decide (a0_2<0)=true:=decide_eq_true c14;clear c14
      obtain rfl:=Option.some.inj H
      go_enter Tryz.func10,Tryz.ntmps10
      go_wp2_with (first | ((with_reducible refine gD 1 ?_);(try (refine ez (by rfl) ?_;dsimp only));refine dK 1 #[.string a0_0,.string a0_1,.int .i64 a0_2,.string a0_3,.bool a0_4] 34 ?_;intro gb520 hg w15 hbox hb;have BK520:=aS (hbox);have GW520:=bsize hg;have GE520:=bsize hg;replace HB:=aM hb;clear hb hbox hg;have hcz16:=cO BK520))
      go_ret
      exact ⟨dP,aq⟩
     ·
      rw [if_neg c14] at H;have c14b0:decide (a0_2<0)=false:=decide_eq_false c14;clear c14
      by_cases c17:a0_2 > 4294967295
      ·
       rw [if_pos c17] at H;have c17b0:decide (4294967295<a0_2)=true:=decide_eq_true c17;clear c17
       obtain rfl:=Option.some.inj H
       go_enter Tryz.func10,Tryz.ntmps10
       go_wp2_with (first | ((with_reducible refine gD 1 ?_);(try (refine ez (by rfl) ?_;dsimp only));refine dK 1 #[.string a0_0,.string a0_1,.int .i64 a0_2,.string a0_3,.bool a0_4] 34 ?_;intro gb520 hg w18 hbox hb;have BK520:=aS (hbox);have GW520:=bsize hg;have GE520:=bsize hg;replace HB:=aM hb;clear hb hbox hg;have hcz19:=cO BK520))
       go_ret
       exact ⟨dP,aq⟩
      ·
       rw [if_neg c17] at H;have c17b0:decide (4294967295<a0_2)=false:=decide_eq_false c17;clear c17
       by_cases c20:(a0_3.size:Int)≤256
       ·
        rw [if_pos c20] at H;have c20b0:decide ((a0_3.size:Int)≤256)=true:=decide_eq_true c20;have c20b1:decide (a0_3.size≤256)=true:=decide_eq_true (by omega);clear c20
        by_cases c21:a0_4=true
        ·
         subst c21
         replace H:=jy H
         obtain rfl:=Option.some.inj H
         go_enter Tryz.func10,Tryz.ntmps10
         go_wp2_with (first | ((with_reducible refine gD 1 ?_);(try (refine ez (by rfl) ?_;dsimp only));refine dK 1 #[.string a0_0,.string a0_1,.int .i64 a0_2,.string a0_3,.bool true] 34 ?_;intro gb520 hg w22 hbox hb;have BK520:=aS (hbox);have GW520:=bsize hg;have GE520:=bsize hg;replace HB:=aM hb;clear hb hbox hg;have hcz23:=cO BK520))
         go_ret
         exact ⟨dP,aq⟩
        ·
         replace c21:=Bool.eq_false_iff.mpr c21;subst c21
         replace H:=jw H
         obtain rfl:=Option.some.inj H
         go_enter Tryz.func10,Tryz.ntmps10
         go_wp2_with (first | ((with_reducible refine gD 1 ?_);(try (refine ez (by rfl) ?_;dsimp only));refine dK 1 #[.string a0_0,.string a0_1,.int .i64 a0_2,.string a0_3,.bool false] 34 ?_;intro gb520 hg w24 hbox hb;have BK520:=aS (hbox);have GW520:=bsize hg;have GE520:=bsize hg;replace HB:=aM hb;clear hb hbox hg;have hcz25:=cO BK520))
         go_ret
         exact ⟨dP,aq⟩
       ·
        rw [if_neg c20] at H;have c20b0:decide ((a0_3.size:Int)≤256)=false:=decide_eq_false c20;have c20b1:decide (a0_3.size≤256)=false:=decide_eq_false (by omega);clear c20
        obtain rfl:=Option.some.inj H
        go_enter Tryz.func10,Tryz.ntmps10
        go_wp2_with (first | ((with_reducible refine gD 1 ?_);(try (refine ez (by rfl) ?_;dsimp only));refine dK 1 #[.string a0_0,.string a0_1,.int .i64 a0_2,.string a0_3,.bool a0_4] 34 ?_;intro gb520 hg w26 hbox hb;have BK520:=aS (hbox);have GW520:=bsize hg;have GE520:=bsize hg;replace HB:=aM hb;clear hb hbox hg;have hcz27:=cO BK520))
        go_ret
        exact ⟨dP,aq⟩
mutual
def aD.l0:Nat→ByteArray→ByteArray→Int→Option (Int)
 | 0,_,_,_=>none
 | k+1,x0,x1,x5=>if x5<(x0.size:Int) then (aD.j1 k x0 x1 x5 (decide (x5<(x1.size:Int)))) else (aD.j1 k x0 x1 x5 false)
def aD.j1:Nat→ByteArray→ByteArray→Int→Bool→Option (Int)
 | 0,_,_,_,_=>none
 | k+1,x0,x1,x5,x15=>if x15=true then (if 0≤x5 then (if x5<(x0.size:Int) then (if x5<(x1.size:Int) then (if (bt x0 x5)<(bt x1 x5) then (some (-1)) else (if (bt x0 x5) > (bt x1 x5) then (some 1) else (aD.l0 k x0 x1 (wrap64 (x5+1))))) else (none)) else (none)) else (none)) else (if (x0.size:Int)<(x1.size:Int) then (some (-1)) else (if (x0.size:Int) > (x1.size:Int) then (some 1) else (some 0)))
end
def aD.f (k:Nat) (a0:ByteArray) (a1:ByteArray):Option (Int):=aD.l0 k a0 a1 0
theorem aD.cF:∀ k,(∀ y0 y1 y2,aH (aD.l0 k y0 y1 y2) (aD.l0 (k+1) y0 y1 y2))∧(∀ y0 y1 y2 y3,aH (aD.j1 k y0 y1 y2 y3) (aD.j1 (k+1) y0 y1 y2 y3))
 | 0=>⟨fun _ _ _ r h=>by simp [aD.l0] at h,fun _ _ _ _ r h=>by simp [aD.j1] at h⟩
 | k+1=>by
  obtain ⟨ih0,ih1⟩:=aD.cF k;refine ⟨?_,?_⟩
  ·
   intro y0 y1 y2
   unfold aD.l0
   exact eF
  ·
   intro y0 y1 y2 y3
   unfold aD.j1
   exact eF
theorem aD.mono:∀ a0 a1 k,aH (aD.f k a0 a1) (aD.f (k+1) a0 a1):=by
 intro a0 a1 k
 obtain ⟨ih0,ih1⟩:=aD.cF k
 unfold aD.f
 exact eF
theorem aD.calls (k:Nat) (a0:ByteArray) (a1:ByteArray) (r:Int) (w:World) (h:aD.f k a0 a1=some r) :
  Calls Tryz.prog 39 #[.string a0,.string a1] w fun e w'=>e = .returned (.int .i64 r)∧eJ w w':=by
 have H:(aD.l0 k a0 a1 0)=some r:=h;clear h
 have H':=aS H
 clear H
 go_enter Tryz.func39,Tryz.ntmps39
 go_wp2
 repeat (go_quiet (fail);try go_wp2)
 go_loopg [5] k (fun kq v5 w'=>∃ (x5_1:Int),v5 = .int .i64 x5_1∧ah (aD.l0 kq a0 a1 x5_1=some r)∧ah (kq≤k)∧eJ w w')
 case atStart=>exact ⟨(0),cG,H',⟨Nat.le_refl _⟩,fO⟩
 case round=>
  clear H';obtain ⟨x5_1,rfl,HA,HK1,⟨m1,rfl⟩⟩:=hrel
  cases gk with
  | zero=>exact absurd HA.out (by simp [aD.l0])
  | succ k1=>
   have H:=HA.out;clear HA
   simp only [aD.l0] at H
   have HC3:=aS H;clear H
   go_upto_region 2 with (fail)
   repeat (go_quiet (fail);go_upto_region 2 with (fail))
   go_cut [15] (fun v15 wc=>∃ (kq:Nat) (x15_2:Bool),v15 = .bool x15_2∧ah (aD.j1 kq a0 a1 x5_1 x15_2=some r)∧ah (kq≤k1)∧eJ w wc)
   case first=>
    have H:=HC3.out;clear HC3
    by_cases c4:x5_1<(a0.size:Int)
    ·
     rw [if_pos c4] at H;have c4b0:decide (x5_1<(a0.size:Int))=true:=decide_eq_true c4;clear c4
     (first | rw [c4b0] | (simp only [cC,dw];rw [c4b0]) | skip)
     have H':=aS H
     clear H
     go_wp2
     repeat (go_quiet (fail);try go_wp2)
     go_meet
     case rel=>exact ⟨_,(decide (x5_1<(a1.size:Int))),cG,H',⟨by have:=HK1.out;first | omega | exact Nat.le_refl _⟩,fO⟩
    ·
     rw [if_neg c4] at H;have c4b0:decide (x5_1<(a0.size:Int))=false:=decide_eq_false c4;clear c4
     (first | rw [c4b0] | (simp only [cC,dw];rw [c4b0]) | skip)
     have H':=aS H
     clear H
     go_wp2
     repeat (go_quiet (fail);try go_wp2)
     go_meet
     case rel=>exact ⟨_,(false),cG,H',⟨by have:=HK1.out;first | omega | exact Nat.le_refl _⟩,fO⟩
   case rest=>
    clear HC3;obtain ⟨kq,x15_2,rfl,HA,HJ2,⟨mc2,rfl⟩⟩:=hcut
    cases kq with
    | zero=>exact absurd HA.out (by simp [aD.j1])
    | succ kj2=>
     have H:=HA.out;clear HA
     simp only [aD.j1] at H
     by_cases c5:x15_2=true
     ·
      subst c5
      replace H:=jy H
      by_cases c6:0≤x5_1
      ·
       rw [if_pos c6] at H;have c6b0:decide (0≤x5_1)=true:=decide_eq_true c6;clear c6
       by_cases c7:x5_1<(a0.size:Int)
       ·
        rw [if_pos c7] at H;have c7b0:decide (x5_1<(a0.size:Int))=true:=decide_eq_true c7;clear c7
        by_cases c9:x5_1<(a1.size:Int)
        ·
         rw [if_pos c9] at H;have c9b0:decide (x5_1<(a1.size:Int))=true:=decide_eq_true c9;clear c9
         by_cases c11:(bt a0 x5_1)<(bt a1 x5_1)
         ·
          rw [if_pos c11] at H;have c11b0:decide ((bt a0 x5_1)<(bt a1 x5_1))=true:=decide_eq_true c11;clear c11
          obtain rfl:=Option.some.inj H
          have p8:0≤(x5_1:Int):=bJ;have q8:x5_1<(a0.size:Int):=bJ;have hx8:=lM a0 x5_1;replace p8:=eq_true p8;replace q8:=eq_true q8;have p10:0≤(x5_1:Int):=bJ;have q10:x5_1<(a1.size:Int):=bJ;have hx10:=lM a1 x5_1;replace p10:=eq_true p10;replace q10:=eq_true q10
          go_wp2
          repeat (go_quiet (fail);try go_wp2)
          go_ret
          exact ⟨cG,fO⟩
         ·
          rw [if_neg c11] at H;have c11b0:decide ((bt a0 x5_1)<(bt a1 x5_1))=false:=decide_eq_false c11;clear c11
          by_cases c14:(bt a0 x5_1) > (bt a1 x5_1)
          ·
           rw [if_pos c14] at H;have c14b0:decide ((bt a1 x5_1)<(bt a0 x5_1))=true:=decide_eq_true c14;clear c14
           obtain rfl:=Option.some.inj H
           have p8:0≤(x5_1:Int):=bJ;have q8:x5_1<(a0.size:Int):=bJ;have hx8:=lM a0 x5_1;replace p8:=eq_true p8;replace q8:=eq_true q8;have p10:0≤(x5_1:Int):=bJ;have q10:x5_1<(a1.size:Int):=bJ;have hx10:=lM a1 x5_1;replace p10:=eq_true p10;replace q10:=eq_true q10;have p12:0≤(x5_1:Int):=bJ;have q12:x5_1<(a0.size:Int):=bJ;have hx12:=lM a0 x5_1;replace p12:=eq_true p12;replace q12:=eq_true q12;have p13:0≤(x5_1:Int):=bJ;have q13:x5_1<(a1.size:Int):=bJ;have hx13:=lM a1 x5_1;replace p13:=eq_true p13;replace q13:=eq_true q13
           go_wp2
           repeat (go_quiet (fail);try go_wp2)
           go_ret
           exact ⟨cG,fO⟩
          ·
           rw [if_neg c14] at H;have c14b0:decide ((bt a1 x5_1)<(bt a0 x5_1))=false:=decide_eq_false c14;clear c14
           have H':=aS H
           clear H;have p8:0≤(x5_1:Int):=bJ;have q8:x5_1<(a0.size:Int):=bJ;have hx8:=lM a0 x5_1;replace p8:=eq_true p8;replace q8:=eq_true q8;have p10:0≤(x5_1:Int):=bJ;have q10:x5_1<(a1.size:Int):=bJ;have hx10:=lM a1 x5_1;replace p10:=eq_true p10;replace q10:=eq_true q10;have p12:0≤(x5_1:Int):=bJ;have q12:x5_1<(a0.size:Int):=bJ;have hx12:=lM a0 x5_1;replace p12:=eq_true p12;replace q12:=eq_true q12;have p13:0≤(x5_1:Int):=bJ;have q13:x5_1<(a1.size:Int):=bJ;have hx13:=lM a1 x5_1;replace p13:=eq_true p13;replace q13:=eq_true q13
           go_wp2
           repeat (go_quiet (fail);try go_wp2)
           go_roundg kj2
           case measure=>have:=HK1.out;have:=HJ2.out;omega
           case rel=>exact ⟨(wrap64 (x5_1+1)),cG,H',⟨by have:=HK1.out;have:=HJ2.out;omega⟩,fO⟩
        ·
         rw [if_neg c9] at H;exact absurd H (by simp)
       ·
        rw [if_neg c7] at H;exact absurd H (by simp)
      ·
       rw [if_neg c6] at H;exact absurd H (by simp)
     ·
      replace c5:=Bool.eq_false_iff.mpr c5;subst c5
      replace H:=jw H
      by_cases c15:(a0.size:Int)<(a1.size:Int)
      ·
       rw [if_pos c15] at H;have c15b0:decide ((a0.size:Int)<(a1.size:Int))=true:=decide_eq_true c15;have c15b1:decide (a0.size<a1.size)=true:=decide_eq_true (Int.ofNat_lt.mp c15);clear c15
       obtain rfl:=Option.some.inj H
       go_wp2
       repeat (go_quiet (fail);try go_wp2)
       go_ret
       exact ⟨cG,fO⟩
      ·
       rw [if_neg c15] at H;have c15b0:decide ((a0.size:Int)<(a1.size:Int))=false:=decide_eq_false c15;have c15b1:decide (a0.size<a1.size)=false:=decide_eq_false (fun h=>c15 (Int.ofNat_lt.mpr h));clear c15
       by_cases c16:(a0.size:Int) > (a1.size:Int)
       ·
        rw [if_pos c16] at H;have c16b0:decide ((a1.size:Int)<(a0.size:Int))=true:=decide_eq_true c16;have c16b1:decide (a1.size<a0.size)=true:=decide_eq_true (Int.ofNat_lt.mp c16);clear c16
        obtain rfl:=Option.some.inj H
        go_wp2
        repeat (go_quiet (fail);try go_wp2)
        go_ret
        exact ⟨cG,fO⟩
       ·
        rw [if_neg c16] at H;have c16b0:decide ((a1.size:Int)<(a0.size:Int))=false:=decide_eq_false c16;have c16b1:decide (a1.size<a0.size)=false:=decide_eq_false (fun h=>c16 (Int.ofNat_lt.mpr h));clear c16
        obtain rfl:=Option.some.inj H
        go_wp2
        repeat (go_quiet (fail);try go_wp2)
        go_ret
        exact ⟨cG,fO⟩
def cQ.f (k:Nat) (a0_0:ByteArray) (a0_1:ByteArray) (a0_2:Int) (a0_3:ByteArray) (a0_4:Bool) (a1_0:ByteArray) (a1_1:ByteArray) (a1_2:Int) (a1_3:ByteArray) (a1_4:Bool):Option (Int):=if a0_0.toList=a1_0.toList then (if a0_1.toList=a1_1.toList then (if a0_2 > a1_2 then (some (-1)) else (if a0_2<a1_2 then (some 1) else (some 0))) else ((aD.f k a0_1 a1_1).bind fun t524=>(some t524))) else ((aD.f k a0_0 a1_0).bind fun t523=>(some t523))
theorem cQ.mono:∀ a0 a1 a2 a3 a4 a5 a6 a7 a8 a9 k,aH (cQ.f k a0 a1 a2 a3 a4 a5 a6 a7 a8 a9) (cQ.f (k+1) a0 a1 a2 a3 a4 a5 a6 a7 a8 a9):=by
 intro a0 a1 a2 a3 a4 a5 a6 a7 a8 a9 k
 unfold cQ.f
 have m0:=@aD.mono;exact eF
theorem cQ.calls (k:Nat) (a0_0:ByteArray) (a0_1:ByteArray) (a0_2:Int) (a0_3:ByteArray) (a0_4:Bool) (a1_0:ByteArray) (a1_1:ByteArray) (a1_2:Int) (a1_3:ByteArray) (a1_4:Bool) (r:Int) (w:World) (h:cQ.f k a0_0 a0_1 a0_2 a0_3 a0_4 a1_0 a1_1 a1_2 a1_3 a1_4=some r) :
  Calls Tryz.prog 26 #[.agg #[.string a0_0,.string a0_1,.int .i64 a0_2,.string a0_3,.bool a0_4],.agg #[.string a1_0,.string a1_1,.int .i64 a1_2,.string a1_3,.bool a1_4]] w fun e w'=>e = .returned (.int .i64 r)∧Below w.heap.size w w':=by
 have hu34:=Tryz.underlying34;have HB:=aS (Below.refl w.heap.size w);have H:(if a0_0.toList=a1_0.toList then (if a0_1.toList=a1_1.toList then (if a0_2 > a1_2 then (some (-1)) else (if a0_2<a1_2 then (some 1) else (some 0))) else ((aD.f k a0_1 a1_1).bind fun t524=>(some t524))) else ((aD.f k a0_0 a1_0).bind fun t523=>(some t523)))=some r:=h;clear h
 by_cases c3:a0_0.toList=a1_0.toList
 ·
  rw [if_pos c3] at H;obtain ⟨c3b0,c3b1⟩:=jh c3;clear c3
  by_cases c4:a0_1.toList=a1_1.toList
  ·
   rw [if_pos c4] at H;obtain ⟨c4b0,c4b1⟩:=jh c4;clear c4
   by_cases c5:a0_2 > a1_2
   ·
    rw [if_pos c5] at H;have c5b0:decide (a1_2<a0_2)=true:=decide_eq_true c5;clear c5
    obtain rfl:=Option.some.inj H
    go_enter Tryz.func26,Tryz.ntmps26
    go_wp2_with (first | ((with_reducible refine gD 2 ?_);refine dK 2 #[.string a0_0,.string a0_1,.int .i64 a0_2,.string a0_3,.bool a0_4] 34 ?_;intro gb521 hg w6 hbox hb;have BK521:=aS (hbox);have GW521:=bsize hg;have GE521:=bsize hg;replace HB:=aM hb;clear hb hbox hg) | ((with_reducible refine gD 3 ?_);refine dK 3 #[.string a1_0,.string a1_1,.int .i64 a1_2,.string a1_3,.bool a1_4] 34 ?_;intro gb522 hg w7 hbox hb;have BK522:=aS (hbox);have GW522:=bsize hg;have GE522:=bsize hg;replace HB:=aM hb;have NB521_522:=aS ((by rw [hg];exact Nat.ne_of_lt (cR (g:=gb521) (o:=.cells #[.string a0_0,.string a0_1,.int .i64 a0_2,.string a0_3,.bool a0_4] 34 (0,0)) (eA BK521.out)):gb521≠gb522));have NB522_521:=aS ((by rw [hg];exact Nat.ne_of_gt (cR (g:=gb521) (o:=.cells #[.string a0_0,.string a0_1,.int .i64 a0_2,.string a0_3,.bool a0_4] 34 (0,0)) (eA BK521.out)):gb522≠gb521));replace BK521:=fp BK521 hb;clear hb hbox hg;have hnb8:=NB521_522.out;have hnc8:=NB522_521.out;have hcz9:=cO BK521;have hcz10:=cO BK522))
    go_ret
    exact ⟨dP,aq⟩
   ·
    rw [if_neg c5] at H;have c5b0:decide (a1_2<a0_2)=false:=decide_eq_false c5;clear c5
    by_cases c11:a0_2<a1_2
    ·
     rw [if_pos c11] at H;have c11b0:decide (a0_2<a1_2)=true:=decide_eq_true c11;clear c11
     obtain rfl:=Option.some.inj H
     go_enter Tryz.func26,Tryz.ntmps26
     go_wp2_with (first | ((with_reducible refine gD 2 ?_);refine dK 2 #[.string a0_0,.string a0_1,.int .i64 a0_2,.string a0_3,.bool a0_4] 34 ?_;intro gb521 hg w12 hbox hb;have BK521:=aS (hbox);have GW521:=bsize hg;have GE521:=bsize hg;replace HB:=aM hb;clear hb hbox hg) | ((with_reducible refine gD 3 ?_);refine dK 3 #[.string a1_0,.string a1_1,.int .i64 a1_2,.string a1_3,.bool a1_4] 34 ?_;intro gb522 hg w13 hbox hb;have BK522:=aS (hbox);have GW522:=bsize hg;have GE522:=bsize hg;replace HB:=aM hb;have NB521_522:=aS ((by rw [hg];exact Nat.ne_of_lt (cR (g:=gb521) (o:=.cells #[.string a0_0,.string a0_1,.int .i64 a0_2,.string a0_3,.bool a0_4] 34 (0,0)) (eA BK521.out)):gb521≠gb522));have NB522_521:=aS ((by rw [hg];exact Nat.ne_of_gt (cR (g:=gb521) (o:=.cells #[.string a0_0,.string a0_1,.int .i64 a0_2,.string a0_3,.bool a0_4] 34 (0,0)) (eA BK521.out)):gb522≠gb521));replace BK521:=fp BK521 hb;clear hb hbox hg;have hnb14:=NB521_522.out;have hnc14:=NB522_521.out;have hcz15:=cO BK521;have hcz16:=cO BK522))
     go_ret
     exact ⟨dP,aq⟩
    ·
     rw [if_neg c11] at H;have c11b0:decide (a0_2<a1_2)=false:=decide_eq_false c11;clear c11
     obtain rfl:=Option.some.inj H
     go_enter Tryz.func26,Tryz.ntmps26
     go_wp2_with (first | ((with_reducible refine gD 2 ?_);refine dK 2 #[.string a0_0,.string a0_1,.int .i64 a0_2,.string a0_3,.bool a0_4] 34 ?_;intro gb521 hg w17 hbox hb;have BK521:=aS (hbox);have GW521:=bsize hg;have GE521:=bsize hg;replace HB:=aM hb;clear hb hbox hg) | ((with_reducible refine gD 3 ?_);refine dK 3 #[.string a1_0,.string a1_1,.int .i64 a1_2,.string a1_3,.bool a1_4] 34 ?_;intro gb522 hg w18 hbox hb;have BK522:=aS (hbox);have GW522:=bsize hg;have GE522:=bsize hg;replace HB:=aM hb;have NB521_522:=aS ((by rw [hg];exact Nat.ne_of_lt (cR (g:=gb521) (o:=.cells #[.string a0_0,.string a0_1,.int .i64 a0_2,.string a0_3,.bool a0_4] 34 (0,0)) (eA BK521.out)):gb521≠gb522));have NB522_521:=aS ((by rw [hg];exact Nat.ne_of_gt (cR (g:=gb521) (o:=.cells #[.string a0_0,.string a0_1,.int .i64 a0_2,.string a0_3,.bool a0_4] 34 (0,0)) (eA BK521.out)):gb522≠gb521));replace BK521:=fp BK521 hb;clear hb hbox hg;have hnb19:=NB521_522.out;have hnc19:=NB522_521.out;have hcz20:=cO BK521;have hcz21:=cO BK522))
     go_ret
     exact ⟨dP,aq⟩
  ·
   rw [if_neg c4] at H;obtain ⟨c4b0,c4b1⟩:=iT c4;replace H:=bU H;obtain ⟨t524,A220,H⟩:=H;have A22:=aS A220;clear A220
   obtain rfl:=Option.some.inj H
   go_enter Tryz.func26,Tryz.ntmps26
   go_wp2_with (first | ((with_reducible refine gD 2 ?_);refine dK 2 #[.string a0_0,.string a0_1,.int .i64 a0_2,.string a0_3,.bool a0_4] 34 ?_;intro gb521 hg w23 hbox hb;have BK521:=aS (hbox);have GW521:=bsize hg;have GE521:=bsize hg;replace HB:=aM hb;clear hb hbox hg) | ((with_reducible refine gD 3 ?_);refine dK 3 #[.string a1_0,.string a1_1,.int .i64 a1_2,.string a1_3,.bool a1_4] 34 ?_;intro gb522 hg w24 hbox hb;have BK522:=aS (hbox);have GW522:=bsize hg;have GE522:=bsize hg;replace HB:=aM hb;have NB521_522:=aS ((by rw [hg];exact Nat.ne_of_lt (cR (g:=gb521) (o:=.cells #[.string a0_0,.string a0_1,.int .i64 a0_2,.string a0_3,.bool a0_4] 34 (0,0)) (eA BK521.out)):gb521≠gb522));have NB522_521:=aS ((by rw [hg];exact Nat.ne_of_gt (cR (g:=gb521) (o:=.cells #[.string a0_0,.string a0_1,.int .i64 a0_2,.string a0_3,.bool a0_4] 34 (0,0)) (eA BK521.out)):gb522≠gb521));replace BK521:=fp BK521 hb;clear hb hbox hg;have hnb25:=NB521_522.out;have hnc25:=NB522_521.out;have hcz26:=cO BK521;have hcz27:=cO BK522) | ((with_reducible refine gC 39 ?_);refine dn 24 Tryz.func39 #[.string a0_1,.string a1_1] ?_;(with_reducible refine (aD.calls k a0_1 a1_1 t524 _ A22.out).mono ?_);rintro e w' ⟨rfl,⟨nd,rfl⟩⟩;refine ⟨_,rfl,?_⟩))
   go_ret
   exact ⟨dP,aq⟩
 ·
  rw [if_neg c3] at H;obtain ⟨c3b0,c3b1⟩:=iT c3;replace H:=bU H;obtain ⟨t523,A280,H⟩:=H;have A28:=aS A280;clear A280
  obtain rfl:=Option.some.inj H
  go_enter Tryz.func26,Tryz.ntmps26
  go_wp2_with (first | ((with_reducible refine gD 2 ?_);refine dK 2 #[.string a0_0,.string a0_1,.int .i64 a0_2,.string a0_3,.bool a0_4] 34 ?_;intro gb521 hg w29 hbox hb;have BK521:=aS (hbox);have GW521:=bsize hg;have GE521:=bsize hg;replace HB:=aM hb;clear hb hbox hg) | ((with_reducible refine gD 3 ?_);refine dK 3 #[.string a1_0,.string a1_1,.int .i64 a1_2,.string a1_3,.bool a1_4] 34 ?_;intro gb522 hg w30 hbox hb;have BK522:=aS (hbox);have GW522:=bsize hg;have GE522:=bsize hg;replace HB:=aM hb;have NB521_522:=aS ((by rw [hg];exact Nat.ne_of_lt (cR (g:=gb521) (o:=.cells #[.string a0_0,.string a0_1,.int .i64 a0_2,.string a0_3,.bool a0_4] 34 (0,0)) (eA BK521.out)):gb521≠gb522));have NB522_521:=aS ((by rw [hg];exact Nat.ne_of_gt (cR (g:=gb521) (o:=.cells #[.string a0_0,.string a0_1,.int .i64 a0_2,.string a0_3,.bool a0_4] 34 (0,0)) (eA BK521.out)):gb522≠gb521));replace BK521:=fp BK521 hb;clear hb hbox hg;have hnb31:=NB521_522.out;have hnc31:=NB522_521.out;have hcz32:=cO BK521;have hcz33:=cO BK522) | ((with_reducible refine gC 39 ?_);refine dn 14 Tryz.func39 #[.string a0_0,.string a1_0] ?_;(with_reducible refine (aD.calls k a0_0 a1_0 t523 _ A28.out).mono ?_);rintro e w' ⟨rfl,⟨nd,rfl⟩⟩;refine ⟨_,rfl,?_⟩))
  go_ret
  exact ⟨dP,aq⟩
-- cQ
def aG.cq (k:Nat) (x c:au):Option Int:=cQ.f k x.f0 x.f1 x.f2 x.f3 x.f4 c.f0 c.f1 c.f2 c.f3 c.f4
def aG.idx (k:Nat) (c:au):List au→Option Nat
 | []=>some 0
 | x :: t=>(aG.cq k x c).bind fun v=>if v = -1 then (aG.idx k c t).bind fun m=>some (m+1) else some 0
def aG.eqv (k:Nat) (c:au):List au→Option Bool
 | []=>some false
 | x :: _=>(aG.cq k x c).bind fun v=>some (v == 0)
def aG.f (k:Nat) (l:List au) (c0 c1:ByteArray) (c2:Int) (c3:ByteArray) (c4:Bool):Option (List au):=(aG.idx k ⟨c0,c1,c2,c3,c4⟩ l).bind fun n=>(aG.eqv k ⟨c0,c1,c2,c3,c4⟩ (l.drop n)).bind fun b=>if l.length<1099511627776 then some (l.take n++⟨c0,c1,c2,c3,c4⟩ :: l.drop (if b=true then n+1 else n)) else none
theorem aG.yu (k:Nat) (c:au):∀ l,aH (aG.idx k c l) (aG.idx (k+1) c l)
 | []=>aH.refl _
 | _ :: t=>aH.bind (cQ.mono _ _ _ _ _ _ _ _ _ _ _) fun _=>aH.ite (aH.bind (aG.yu k c t) fun _=>aH.refl _) (aH.refl _)
theorem aG.DQ (k:Nat) (c:au):∀ l,aH (aG.eqv k c l) (aG.eqv (k+1) c l)
 | []=>aH.refl _
 | _ :: _=>aH.bind (cQ.mono _ _ _ _ _ _ _ _ _ _ _) fun _=>aH.refl _
theorem aG.mono:∀ a0 a1 a2 a3 a4 a5 k,aH (aG.f k a0 a1 a2 a3 a4 a5) (aG.f (k+1) a0 a1 a2 a3 a4 a5):=fun _ _ _ _ _ _ _=>aH.bind (aG.yu _ _ _) fun _=>aH.bind (aG.DQ _ _ _) fun _=>aH.refl _
def aG.iv (k:Nat) (c:au) (l:List au) (n i:Nat):Prop:=∃ m,aG.idx k c (l.drop i)=some m∧i+m=n
def aG.nx (k:Nat) (c:au) (l:List au) (n:Nat) (b:Bool) (i:Nat):Prop:=(b=true∧aG.iv k c l n (i+1))∨(b=false∧i=n)
theorem aG.dr {l:List au} {i:Nat} (hlt:i<l.length):l.drop i=af l (i:Int) :: l.drop (i+1):=by
 rw [List.drop_eq_getElem_cons hlt]
 unfold af
 rw [Int.toNat_natCast,List.getD_eq_getElem?_getD,List.getElem?_eq_getElem hlt]
 rfl
theorem aG.le {k:Nat} {c:au}:∀ {l:List au} {n:Nat},aG.idx k c l=some n→n≤l.length
 | [],n,h=>by
  obtain rfl:=Option.some.inj h
  exact Nat.le_refl _
 | x :: t,n,h=>by
  unfold aG.idx at h
  obtain ⟨v,_,h⟩:=bU h
  by_cases hv:v = -1
  ·
   rw [if_pos hv] at h;obtain ⟨m,hm,h⟩:=bU h
   have:=aG.le hm
   have:=Option.some.inj h
   rw [List.length_cons]
   omega
  ·
   rw [if_neg hv] at h
   have:=Option.some.inj h
   omega
theorem aG.EL {k:Nat} {c:au} {l:List au} {n i:Nat} (h:aG.iv k c l n i) (hlt:i<l.length):∃ v,aG.cq k (af l (i:Int)) c=some v∧aG.nx k c l n (v == -1) i:=by
 obtain ⟨m,h,h2⟩:=h;rw [aG.dr hlt] at h
 unfold aG.idx at h
 obtain ⟨v,hv,h⟩:=bU h;refine ⟨v,hv,?_⟩
 by_cases hv1:v = -1
 ·
  rw [if_pos hv1] at h;obtain ⟨q,hq,h⟩:=bU h
  have:=Option.some.inj h
  exact .inl ⟨by rw [hv1];rfl,q,hq,by omega⟩
 ·
  rw [if_neg hv1] at h
  have:=Option.some.inj h
  exact .inr ⟨beq_false_of_ne hv1,by omega⟩
theorem aG.FO {k:Nat} {c:au} {l:List au} {n i:Nat} (h:aG.iv k c l n i) (hge:¬ i<l.length):i=n:=by
 obtain ⟨m,h,h2⟩:=h;rw [List.drop_eq_nil_of_le (by omega)] at h
 have:(0:Nat)=m:=Option.some.inj h
 omega
theorem aG.FN {w:World} {A0:Option Addr} {cp:Nat} {l:List au} (hr:Kd.C cm w A0 l.length l) (hc:l.length≤cp) {j:Nat} (hj:j≤l.length) {y:List au} (hy:y=l.drop j):∃ A c,(∀ W:World,(Instr.slice 32 (.slice A0 l.length cp) (some (.int .i64 (j:Int))) none none).run Tryz.prog W = .ok (.slice A y.length c) W)∧Kd.C cm w A y.length y:=by
 subst hy;obtain ⟨i0,hi0,_,hsz,_⟩:=info_parts eO;have h1:=gI (P:=Tryz.prog) 32 34 .i64 Tryz.underlying32 hi0 5 hsz A0 l.length cp (j:Int) (by omega) (by omega);have h2:=Kd.sx (m:=(j:Int).toNat) (c:=cp) hr (by omega) hc;rw [show l.length - (j:Int).toNat=(l.drop j).length from (by rw [mh];omega)] at h1;rw [Int.toNat_natCast] at h2;exact ⟨_,_,h1,by rw [Int.toNat_natCast];exact h2⟩
theorem aG.calls (k:Nat) (A0:Option Addr) (cp:Nat) (l:List au) (c0 c1:ByteArray) (c2:Int) (c3:ByteArray) (c4:Bool) (r:List au) (w:World) (hr0:Kd.C cm w A0 l.length l) (hc0:l.length≤cp) (h:aG.f k l c0 c1 c2 c3 c4=some r) :
  Calls Tryz.prog 11 #[.slice A0 l.length cp,.agg #[.string c0,.string c1,.int .i64 c2,.string c3,.bool c4]] w fun e w'=>∃ v0_:Value,e = .returned v0_∧Kd.R cm 34 w' w.heap.size (fun _=>True) v0_ r∧Below w.heap.size w w':=by
 have hu24:=Tryz.underlying32;have hu26:=Tryz.underlying34
 unfold aG.f at h
 obtain ⟨n,hn,h⟩:=bU h;obtain ⟨b,hb,h⟩:=bU h
 split at h
 case isFalse=>cases h
 rename_i hlm
 obtain rfl:=Option.some.inj h
 have hnl:=aG.le hn;have HR:=aS hr0;have HC:=aS hc0;have HN:=aS hn;have HE:=aS hb;have HLM:=aS hlm;have HNL:=aS hnl;clear hr0 hc0 h hn hb hlm hnl
 go_enter Tryz.func11,Tryz.ntmps11
 refine wp_seq_k (fun K_ hK_=>?_)
 go_cut [3,4] (fun v3 v4 wc=>∃ p3:Nat,v3 = .pointer (some ⟨p3,0,none⟩)∧v4 = .slice none 0 0∧ah (wc.heap[p3]? = some (.cells #[.string c0,.string c1,.int .i64 c2,.string c3,.bool c4] 34 (0,0)))∧ah (Below w.heap.size w wc))
 case first=>
  go_wp2_with (first | ((with_reducible refine gD 3 ?_);refine dK 3 #[.string c0,.string c1,.int .i64 c2,.string c3,.bool c4] 34 ?_;intro p3 hg w3_ hb hbl;have B3:=aS hb;have HB:=aS hbl;clear hg hb hbl))
  go_meet
  case rel=>exact ⟨p3,rfl,rfl,B3,HB⟩
 obtain ⟨p3,rfl,rfl,B3,HB⟩:=hcut
 rename World=>w1
 refine hK_ _ _ ?_;refine wp_seq_k (fun K2_ hK2_=>?_)
 go_cut [5] (fun v5 wc=>v5 = .int .i64 ((0:Nat):Int)∧ah (wc.heap[p3]? = some (.cells #[.string c0,.string c1,.int .i64 c2,.string c3,.bool c4] 34 (0,0)))∧ah (Below w.heap.size w wc))
 case first=>
  go_wp2
  go_meet
  case rel=>exact ⟨rfl,B3,HB⟩
 clear B3 HB;obtain ⟨rfl,B3,HB⟩:=hcut
 rename World=>w2
 refine hK2_ _ _ ?_;refine wp_seq_k (fun K3_ hK3_=>?_)
 go_cut [5] (fun v5 wc=>v5 = .int .i64 (n:Int)∧ah (wc.heap[p3]? = some (.cells #[.string c0,.string c1,.int .i64 c2,.string c3,.bool c4] 34 (0,0)))∧ah (Below w.heap.size w wc))
 case first=>
  go_wp2
  go_loopw [5] (fun v5 wr=>∃ (i:Nat),v5 = .int .i64 (i:Int)∧ah (i≤l.length)∧ah (aG.iv k (⟨c0,c1,c2,c3,c4⟩:au) l n i)∧ah (wr.heap[p3]? = some (.cells #[.string c0,.string c1,.int .i64 c2,.string c3,.bool c4] 34 (0,0)))∧ah (Below w.heap.size w wr)) (fun i _=>l.length - (intOf i).toNat)
  case atStart=>exact ⟨0,rfl,⟨Nat.zero_le _⟩,⟨n,HN.out,by omega⟩,B3,HB⟩
  clear B3 HB
  case round=>
   obtain ⟨i,rfl,hi,HI,B3,HB⟩:=hrel
   go_upto_region 2 with (fail)
   go_cut [19] (fun v19 wc=>∃ z:Bool,v19 = .bool z∧ah (aG.nx k (⟨c0,c1,c2,c3,c4⟩:au) l n z i)∧ah (z=true→i<l.length)∧ah (wc.heap[p3]? = some (.cells #[.string c0,.string c1,.int .i64 c2,.string c3,.bool c4] 34 (0,0)))∧ah (Below w.heap.size w wc))
   case first=>
    by_cases hlt:i<l.length
    ·
     have hq1:(i:Int)<(l.length:Int):=by omega
     have hq0:(0:Int)≤(i:Int):=by omega
     obtain ⟨ad,e_,_⟩:=dN (Kd.cH HR.out HB.out) (i:Int) hq0 hq1;subst e_
     obtain ⟨x,hx⟩:∃ x,x=af l (i:Int):=⟨_,rfl⟩
     have HXF:ah (∀ w',Below w.heap.size w w'→w'.cell? (ad.add (i*5))=some (.string x.f0)∧w'.cell? ⟨(ad.add (i*5)).block,(ad.add (i*5)).off+1,none⟩=some (.string x.f1)∧w'.cell? ⟨(ad.add (i*5)).block,(ad.add (i*5)).off+2,none⟩=some (.int .i64 x.f2)∧w'.cell? ⟨(ad.add (i*5)).block,(ad.add (i*5)).off+3,none⟩=some (.string x.f3)∧w'.cell? ⟨(ad.add (i*5)).block,(ad.add (i*5)).off+4,none⟩=some (.bool x.f4)):=aS (fun w' hb=>by
      obtain ⟨ad',e',hc'⟩:=dN (Kd.cH HR.out hb) (i:Int) hq0 hq1
      injection e' with e'
      subst e'
      rw [Int.toNat_natCast,← hx] at hc'
      exact hc')
     have hix:∀ W:World,(Instr.indexAt 32 (.slice (some ad) l.length cp) (.int .i64 (i:Int))).run Tryz.prog W = .ok (.pointer (some (ad.add (i*5)))) W:=by
      obtain ⟨i0,hi0,hz⟩:=Option.map_eq_some_iff.1 eO
      simp only [Prod.mk.injEq] at hz
      intro W
      have h1:=gH 32 34 hu24 hi0 5 hz.2.1 ad l.length cp (i:Int) (by omega) (by omega) W
      rwa [Int.toNat_natCast] at h1
     obtain ⟨v,hv,hnx⟩:=aG.EL HI.out hlt;rw [←hx] at hv;have XV:ah (cQ.f k x.f0 x.f1 x.f2 x.f3 x.f4 c0 c1 c2 c3 c4=some v):=aS hv;have HNX:=aS hnx;have HLT:=aS hlt;have d1:decide ((i:Int)<(l.length:Int))=true:=decide_eq_true hq1;clear hx hv hnx hlt hq0;replace B3:=aS (ar B3.out);replace HB:=aS (jS HB.out);obtain ⟨hw0,hw1,hw2,hw3,hw4⟩:=HXF.out _ HB.out;refine di (n:=13) (S:=fun w'=>w'.cell? ⟨p3,0,none⟩=some (.string c0)∧w'.cell? ⟨p3,1,none⟩=some (.string c1)∧w'.cell? ⟨p3,2,none⟩=some (.int .i64 c2)∧w'.cell? ⟨p3,3,none⟩=some (.string c3)∧w'.cell? ⟨p3,4,none⟩=some (.bool c4)∧w'.cell? (ad.add (i*5))=some (.string x.f0)∧w'.cell? ⟨(ad.add (i*5)).block,(ad.add (i*5)).off+1,none⟩=some (.string x.f1)∧w'.cell? ⟨(ad.add (i*5)).block,(ad.add (i*5)).off+2,none⟩=some (.int .i64 x.f2)∧w'.cell? ⟨(ad.add (i*5)).block,(ad.add (i*5)).off+3,none⟩=some (.string x.f3)∧w'.cell? ⟨(ad.add (i*5)).block,(ad.add (i*5)).off+4,none⟩=some (.bool x.f4)) (ds:=[]) (bA 13 0) (by kernel_rfl) rfl rfl ⟨bc B3 0,bc B3 1,bc B3 2,bc B3 3,bc B3 4,hw0,hw1,hw2,hw3,hw4⟩ (fun hHeld=>?_);refine cD (T:=(true,[([],[]),([],[]),([1],[1]),([0,2],[0,2]),([3],[3]),([4],[4]),([4],[4]),([5,6,4],[4,5,6]),([7,4],[4,7]),([4],[4]),([8,9,4,4],[4,8,9]),([10,4],[4,10]),([4,11],[4,11])])) (B:=[0,0,2,7,15,31,31,127,255,31,1023,2047,4095]) (by kernel_rfl) (by kernel_rfl) (fun HT_ HW_=>?_);clear hw0 hw1 hw2 hw3 hw4
     generalize wr.drew=w8 at B3 HB hHeld ⊢
     refine aZ [(0,7),(1,8),(2,9),(3,10),(4,11),(5,12),(6,13),(7,14),(8,15),(9,16)] ?_
     iterate 10 (first | (refine ck HT_ ?_) | (refine dY HT_ HW_ hHeld ?_))
     refine bT (bA 13 1023) (by kernel_rfl) ?_;refine dH 10 (N:=some 17) (bA 13 2047) HT_ (fun K hK=>?_);refine gb Tryz.func26 #[.agg #[.string x.f0,.string x.f1,.int .i64 x.f2,.string x.f3,.bool x.f4],.agg #[.string c0,.string c1,.int .i64 c2,.string c3,.bool c4]] ?_
     with_reducible refine (cQ.calls k x.f0 x.f1 x.f2 x.f3 x.f4 c0 c1 c2 c3 c4 v _ XV.out).mono ?_
     rintro e_ w9 ⟨rfl,hb⟩
     refine ⟨_,rfl,?_⟩;replace B3:=fp B3 hb;replace HB:=aM hb;clear hb;obtain ⟨hw0,hw1,hw2,hw3,hw4⟩:=HXF.out _ HB.out;refine hK.out _ _ ⟨bc B3 0,bc B3 1,bc B3 2,bc B3 3,bc B3 4,hw0,hw1,hw2,hw3,hw4⟩ (fun hHeld=>?_);clear hK K hw0 hw1 hw2 hw3 hw4;refine nm 17 ?_;refine aZ [(11,18),(12,19)] ?_
     iterate 2 (refine ck HT_ ?_)
     refine bT (bA 13 8191) (by kernel_rfl) ?_;refine fX HT_ ?_
     try go_wp2
     go_meet
     case rel=>exact ⟨v == -1,rfl,HNX,⟨fun _=>HLT.out⟩,B3,HB⟩
    ·
     have HNX:ah (aG.nx k (⟨c0,c1,c2,c3,c4⟩:au) l n false i):=aS (.inr ⟨rfl,aG.FO HI.out hlt⟩);have d1:decide ((i:Int)<(l.length:Int))=false:=decide_eq_false (by omega)
     have hq1:¬ ((i:Int)<(l.length:Int)):=by omega
     clear hlt;replace B3:=aS (ar B3.out);replace HB:=aS (jS HB.out);refine di (n:=13) (S:=fun w'=>True) (ds:=[]) (bA 13 0) (by kernel_rfl) rfl rfl trivial (fun hHeld=>?_);refine cD (T:=(true,[([],[]),([],[]),([1],[1]),([0,2],[0,2]),([3],[3]),([4],[4]),([4],[4]),([5,6,4],[4,5,6]),([7,4],[4,7]),([4],[4]),([8,9,4,4],[4,8,9]),([10,4],[4,10]),([4,11],[4,11])])) (B:=[0,0,2,7,15,31,31,127,255,31,1023,2047,4095]) (by kernel_rfl) (by kernel_rfl) (fun HT_ HW_=>?_)
     generalize wr.drew=w10 at B3 HB hHeld ⊢
     refine aZ [(0,7),(1,8),(2,9),(3,10),(4,11),(5,12),(6,13),(7,14),(8,15),(9,16),(10,17),(11,18),(12,19)] ?_
     iterate 13 (first | (refine nR HT_ ?_) | (refine ck HT_ ?_))
     refine bT (bA 13 8191) (by kernel_rfl) ?_;refine fX HT_ ?_
     try go_wp2
     go_meet
     case rel=>exact ⟨false,rfl,HNX,⟨fun h=>(by cases h)⟩,B3,HB⟩
   case rest=>
    clear B3 HB;obtain ⟨z,rfl,hnx,hz,B3,HB⟩:=hcut
    cases z with
    | true=>
     have hlt:=hz.out rfl;have HI1:ah (aG.iv k (⟨c0,c1,c2,c3,c4⟩:au) l n (i+1)):=aS (hnx.out.elim (fun h=>h.2) (fun h=>(by cases h.1)))
     have hwr:wrap64 ((i:Int)+1)=(i:Int)+1:=by rw [←cC,IntKind.wrap_i64];have:=HLM.out;omega
     clear hnx hz hi HI
     go_wp2
     go_roundw
     case rel=>exact ⟨i+1,by rw [hwr];rfl,⟨hlt⟩,HI1,B3,HB⟩
     case measure=>exact iV hwr hlt
    | false=>
     have e_:i=n:=hnx.out.elim (fun h=>(by cases h.1)) (fun h=>h.2);subst e_;clear hnx hz HI
     go_wp2
     go_meet
     case rel=>exact ⟨rfl,B3,HB⟩
 clear B3 HB;obtain ⟨rfl,B3,HB⟩:=hcut
 rename World=>w3
 refine hK3_ _ _ ?_;refine wp_seq_k (fun K4_ hK4_=>?_);have hnl:=HNL.out
 obtain ⟨ya,hya⟩:∃ y,y=l.drop (n):=⟨_,rfl⟩
 obtain ⟨Aa,ca,hcuta,hCa⟩:=aG.FN HR.out HC.out (j:=n) (by omega) hya;have HYa:=aS hya;clear hya
 go_cut [6] (fun v6 wc=>v6 = .slice Aa ya.length ca∧ah (wc.heap[p3]? = some (.cells #[.string c0,.string c1,.int .i64 c2,.string c3,.bool c4] 34 (0,0)))∧ah (Below w.heap.size w wc))
 case first=>
  go_wp2
  go_meet
  case rel=>exact ⟨rfl,B3,HB⟩
 clear B3 HB hcuta;obtain ⟨rfl,B3,HB⟩:=hcut
 rename World=>w4
 refine hK4_ _ _ ?_;refine wp_seq_k (fun K5_ hK5_=>?_)
 obtain ⟨y,hy⟩:∃ y,y=l.drop (if b=true then n+1 else n):=⟨_,rfl⟩
 have HY:=aS hy
 go_cut [6] (fun v6 wc=>∃ (A6:Option Addr) (c6:Nat),v6 = .slice A6 y.length c6∧ah (Kd.C cm w A6 y.length y)∧ah (wc.heap[p3]? = some (.cells #[.string c0,.string c1,.int .i64 c2,.string c3,.bool c4] 34 (0,0)))∧ah (Below w.heap.size w wc))
 case first=>
  have HCa:=aS hCa;clear hCa hy
  go_upto_region 5 with (fail)
  go_cut [37] (fun v37 wc=>v37 = .bool b∧ah (b=true→n<l.length)∧ah (wc.heap[p3]? = some (.cells #[.string c0,.string c1,.int .i64 c2,.string c3,.bool c4] 34 (0,0)))∧ah (Below w.heap.size w wc))
  case first=>
   by_cases hlt:n<l.length
   ·
    have hq1:(n:Int)<(l.length:Int):=by omega
    have hq0:(0:Int)≤(n:Int):=by omega
    obtain ⟨ad,e_,_⟩:=dN (Kd.cH HR.out HB.out) (n:Int) hq0 hq1;subst e_
    obtain ⟨x,hx⟩:∃ x,x=af l (n:Int):=⟨_,rfl⟩
    have HXF:ah (∀ w',Below w.heap.size w w'→w'.cell? (ad.add (n*5))=some (.string x.f0)∧w'.cell? ⟨(ad.add (n*5)).block,(ad.add (n*5)).off+1,none⟩=some (.string x.f1)∧w'.cell? ⟨(ad.add (n*5)).block,(ad.add (n*5)).off+2,none⟩=some (.int .i64 x.f2)∧w'.cell? ⟨(ad.add (n*5)).block,(ad.add (n*5)).off+3,none⟩=some (.string x.f3)∧w'.cell? ⟨(ad.add (n*5)).block,(ad.add (n*5)).off+4,none⟩=some (.bool x.f4)):=aS (fun w' hb=>by
     obtain ⟨ad',e',hc'⟩:=dN (Kd.cH HR.out hb) (n:Int) hq0 hq1
     injection e' with e'
     subst e'
     rw [Int.toNat_natCast,← hx] at hc'
     exact hc')
    have hix:∀ W:World,(Instr.indexAt 32 (.slice (some ad) l.length cp) (.int .i64 (n:Int))).run Tryz.prog W = .ok (.pointer (some (ad.add (n*5)))) W:=by
     obtain ⟨i0,hi0,hz⟩:=Option.map_eq_some_iff.1 eO
     simp only [Prod.mk.injEq] at hz
     intro W
     have h1:=gH 32 34 hu24 hi0 5 hz.2.1 ad l.length cp (n:Int) (by omega) (by omega) W
     rwa [Int.toNat_natCast] at h1
    have he:=HE.out;rw [aG.dr hlt,← hx] at he
    unfold aG.eqv at he
    obtain ⟨v,hv,he⟩:=bU he;have XV:ah (cQ.f k x.f0 x.f1 x.f2 x.f3 x.f4 c0 c1 c2 c3 c4=some v):=aS hv;have HV:=aS (Option.some.inj he);have HLT:=aS hlt;have d1:decide ((n:Int)<(l.length:Int))=true:=decide_eq_true hq1;clear hx hv he hlt hq0;replace B3:=aS (ar B3.out);replace HB:=aS (jS HB.out);obtain ⟨hw0,hw1,hw2,hw3,hw4⟩:=HXF.out _ HB.out;refine di (n:=13) (S:=fun w'=>w'.cell? ⟨p3,0,none⟩=some (.string c0)∧w'.cell? ⟨p3,1,none⟩=some (.string c1)∧w'.cell? ⟨p3,2,none⟩=some (.int .i64 c2)∧w'.cell? ⟨p3,3,none⟩=some (.string c3)∧w'.cell? ⟨p3,4,none⟩=some (.bool c4)∧w'.cell? (ad.add (n*5))=some (.string x.f0)∧w'.cell? ⟨(ad.add (n*5)).block,(ad.add (n*5)).off+1,none⟩=some (.string x.f1)∧w'.cell? ⟨(ad.add (n*5)).block,(ad.add (n*5)).off+2,none⟩=some (.int .i64 x.f2)∧w'.cell? ⟨(ad.add (n*5)).block,(ad.add (n*5)).off+3,none⟩=some (.string x.f3)∧w'.cell? ⟨(ad.add (n*5)).block,(ad.add (n*5)).off+4,none⟩=some (.bool x.f4)) (ds:=[]) (bA 13 0) (by kernel_rfl) rfl rfl ⟨bc B3 0,bc B3 1,bc B3 2,bc B3 3,bc B3 4,hw0,hw1,hw2,hw3,hw4⟩ (fun hHeld=>?_);refine cD (T:=(true,[([],[]),([],[]),([1],[1]),([0,2],[0,2]),([3],[3]),([4],[4]),([4],[4]),([5,6,4],[4,5,6]),([7,4],[4,7]),([4],[4]),([8,9,4,4],[4,8,9]),([10,4],[4,10]),([4,11],[4,11])])) (B:=[0,0,2,7,15,31,31,127,255,31,1023,2047,4095]) (by kernel_rfl) (by kernel_rfl) (fun HT_ HW_=>?_);clear hw0 hw1 hw2 hw3 hw4
    generalize w4.drew=w8 at B3 HB hHeld ⊢
    refine aZ [(0,25),(1,26),(2,27),(3,28),(4,29),(5,30),(6,31),(7,32),(8,33),(9,34)] ?_
    iterate 10 (first | (refine ck HT_ ?_) | (refine dY HT_ HW_ hHeld ?_))
    refine bT (bA 13 1023) (by kernel_rfl) ?_;refine dH 10 (N:=some 35) (bA 13 2047) HT_ (fun K hK=>?_);refine gb Tryz.func26 #[.agg #[.string x.f0,.string x.f1,.int .i64 x.f2,.string x.f3,.bool x.f4],.agg #[.string c0,.string c1,.int .i64 c2,.string c3,.bool c4]] ?_
    with_reducible refine (cQ.calls k x.f0 x.f1 x.f2 x.f3 x.f4 c0 c1 c2 c3 c4 v _ XV.out).mono ?_
    rintro e_ w9 ⟨rfl,hb⟩
    refine ⟨_,rfl,?_⟩;replace B3:=fp B3 hb;replace HB:=aM hb;clear hb;obtain ⟨hw0,hw1,hw2,hw3,hw4⟩:=HXF.out _ HB.out;refine hK.out _ _ ⟨bc B3 0,bc B3 1,bc B3 2,bc B3 3,bc B3 4,hw0,hw1,hw2,hw3,hw4⟩ (fun hHeld=>?_);clear hK K hw0 hw1 hw2 hw3 hw4;refine nm 35 ?_;refine aZ [(11,36),(12,37)] ?_
    iterate 2 (refine ck HT_ ?_)
    refine bT (bA 13 8191) (by kernel_rfl) ?_;refine fX HT_ ?_
    try go_wp2
    go_meet
    case rel=>exact ⟨by rw [HV.out],⟨fun _=>HLT.out⟩,B3,HB⟩
   ·
    have he:=HE.out;rw [List.drop_eq_nil_of_le (by omega)] at he
    obtain rfl:=Option.some.inj he
    have d1:decide ((n:Int)<(l.length:Int))=false:=decide_eq_false (by omega)
    have hq1:¬ ((n:Int)<(l.length:Int)):=by omega
    clear he hlt;replace B3:=aS (ar B3.out);replace HB:=aS (jS HB.out);refine di (n:=13) (S:=fun w'=>True) (ds:=[]) (bA 13 0) (by kernel_rfl) rfl rfl trivial (fun hHeld=>?_);refine cD (T:=(true,[([],[]),([],[]),([1],[1]),([0,2],[0,2]),([3],[3]),([4],[4]),([4],[4]),([5,6,4],[4,5,6]),([7,4],[4,7]),([4],[4]),([8,9,4,4],[4,8,9]),([10,4],[4,10]),([4,11],[4,11])])) (B:=[0,0,2,7,15,31,31,127,255,31,1023,2047,4095]) (by kernel_rfl) (by kernel_rfl) (fun HT_ HW_=>?_)
    generalize w4.drew=w10 at B3 HB hHeld ⊢
    refine aZ [(0,25),(1,26),(2,27),(3,28),(4,29),(5,30),(6,31),(7,32),(8,33),(9,34),(10,35),(11,36),(12,37)] ?_
    iterate 13 (first | (refine nR HT_ ?_) | (refine ck HT_ ?_))
    refine bT (bA 13 8191) (by kernel_rfl) ?_;refine fX HT_ ?_
    try go_wp2
    go_meet
    case rel=>exact ⟨rfl,⟨fun h=>(by cases h)⟩,B3,HB⟩
  case rest=>
   clear B3 HB;obtain ⟨rfl,hz,B3,HB⟩:=hcut
   cases b with
   | true=>
    have hlt:=hz.out rfl
    have hwr:wrap64 ((n:Int)+1)=(n:Int)+1:=by rw [←cC,IntKind.wrap_i64]<;>have:=HLM.out<;>omega
    obtain ⟨yb,hyb⟩:∃ y,y=l.drop (n+1):=⟨_,rfl⟩
    obtain ⟨Ab,cb,hcutb,hCb⟩:=aG.FN HR.out HC.out (j:=n+1) (by omega) hyb;have HYb:=aS hyb;clear hyb;have HCb:=aS hCb;rw [Int.natCast_succ] at hcutb;clear hz hCb
    have e:y=yb:=by rw [HY.out,if_pos rfl,HYb.out]
    subst e;clear hlt
    go_wp2
    go_meet
    case rel=>exact ⟨_,_,rfl,HCb,B3,HB⟩
   | false=>
    clear hz
    have e:y=ya:=by rw [HY.out,if_neg Bool.false_ne_true,HYa.out]
    subst e
    go_wp2
    go_meet
    case rel=>exact ⟨_,_,rfl,HCa,B3,HB⟩
 clear B3 HB hCa HE HN;obtain ⟨A6,c6,rfl,HR537,B3,HB⟩:=hcut
 rename World=>w5
 refine hK5_ _ _ ?_;rw [←hy];clear hy;have HYL:ah (y.length≤l.length):=aS (by rw [HY.out,mh];omega)
 obtain ⟨y538,hy538⟩:∃ y_:List au,y_=[]:=⟨_,rfl⟩
 obtain ⟨y541,hy541⟩:∃ y_:List au,y_=l.take (n:Int).toNat:=⟨_,rfl⟩
 obtain ⟨y545,hy545⟩:∃ y_:List au,y_=y538++y541:=⟨_,rfl⟩
 obtain ⟨y548,hy548⟩:∃ y_:List au,y_=[(⟨c0,c1,c2,c3,c4⟩:au)]:=⟨_,rfl⟩
 obtain ⟨y551,hy551⟩:∃ y_:List au,y_=y545++y548:=⟨_,rfl⟩
 obtain ⟨y554,hy554⟩:∃ y_:List au,y_=y551++y:=⟨_,rfl⟩
 have HRES:ah (y554=l.take n++(⟨c0,c1,c2,c3,c4⟩:au) :: y):=aS (by rw [hy554,hy551,hy545,hy548,hy541,hy538,Int.toNat_natCast];simp)
 have hl1:y541.length≤l.length:=by rw [hy541,kY];omega
 have LMc27:ah (y538.length+y541.length<2199023255552):=aS (by rw [hy538,List.length_nil];have:=HLM.out;omega);have LMc28:ah (y545.length+y548.length<2199023255552):=aS (by rw [hy545,hy548,hy538,List.nil_append,List.length_singleton];have:=HLM.out;omega);have LMc29:ah (y551.length+y.length<2199023255552):=aS (by rw [hy551,hy545,hy548,hy538,List.nil_append,List.length_append,List.length_singleton];have:=HLM.out;have:=HYL.out;omega);have Ny538:=aS hy538;have Ny541:=aS hy541;have Ny545:=aS hy545;have Ny548:=aS hy548;have Ny551:=aS hy551;have Ny554:=aS hy554;clear hy538 hy541 hy545 hy548 hy551 hy554 hl1
 go_upto_region 7 with (fail)
 replace B3:=aS (ar B3.out);replace HB:=aS (jS HB.out);have q32:((n:Int):Int)≤((l.length:Int):Int):=(by omega);obtain ⟨i032,hi032,_,hsz32,_⟩:=info_parts eO;have hroom32:l.length≤cp:=HC.out;have hC32:Kd.C cm _ A0 l.length l:=HR.out;have hcut32:=jO (P:=Tryz.prog) 32 34 .i64 hu24 hi032 A0 l.length cp (n:Int) (by omega) q32 hroom32;have hr32:=Kd.pI (m:=((n:Int):Int).toNat) hC32 (by omega);have hy32:y541.length=((n:Int):Int).toNat:=(by rw [Ny541.out,kY];omega);rw [←Ny541.out] at hr32;rw [←hy32] at hcut32;have HR544:=aS hr32;have HC544:=aS (show y541.length≤cp from by omega);clear hr32 hC32 hroom32 hi032 hsz32;have KY32:=aS hy32;clear hy32;replace q32:=eq_true q32;refine di (n:=11) (S:=fun w'=>w'.cell? ⟨p3,0,none⟩=some (.string c0)∧w'.cell? ⟨p3,1,none⟩=some (.string c1)∧w'.cell? ⟨p3,2,none⟩=some (.int .i64 c2)∧w'.cell? ⟨p3,3,none⟩=some (.string c3)∧w'.cell? ⟨p3,4,none⟩=some (.bool c4)) (ds:=[]) (bA 11 0) (by kernel_rfl) rfl rfl ⟨bc B3 0,bc B3 1,bc B3 2,bc B3 3,bc B3 4⟩ (fun hHeld=>?_);refine cD (T:=(true,[([],[]),([],[]),([],[]),([1,2],[1,2]),([0,3],[0,3]),([],[]),([5],[5]),([4,6,4],[4,6]),([],[]),([7,8,7],[7,8]),([9,9,0,1,2,3,4,5,6,7,8,9],[9])])) (B:=[0,0,0,6,15,0,32,127,0,511,1023]) (by kernel_rfl) (by kernel_rfl) (fun HT_ HW_=>?_)
 generalize w5.drew=w31 at B3 HB HR544 hHeld ⊢
 refine aZ [(1,43),(2,44),(3,45),(8,50),(5,47)] ?_
 iterate 5 (first | (refine ck HT_ ?_) | (refine dY HT_ HW_ hHeld ?_))
 refine bT (bA 11 302) (by kernel_rfl) ?_;refine AE (σ:=Value × Value × Value) 3 (bA 11 383) (fun s_=>[(42,s_.1),(46,s_.2.1),(48,s_.2.2)]) (fun s_ w'=>(w'.cell? ⟨p3,0,none⟩=some (.string c0)∧w'.cell? ⟨p3,1,none⟩=some (.string c1)∧w'.cell? ⟨p3,2,none⟩=some (.int .i64 c2)∧w'.cell? ⟨p3,3,none⟩=some (.string c3)∧w'.cell? ⟨p3,4,none⟩=some (.bool c4))∧(Kd.R cm 34 w' w.heap.size (fun k_=>some k_≠(s_.2.2:Value).ownBlock∧k_≠p3) s_.2.1 y545)∧(Kd.R cm 34 w' w.heap.size (fun k_=>some k_≠(s_.2.1:Value).ownBlock∧k_≠p3) s_.2.2 y548)∧(w'.heap[p3]? = some (.cells #[.string c0,.string c1,.int .i64 c2,.string c3,.bool c4] 34 (0,0)))∧(Below w.heap.size w w')) ?_ ?_
 rotate_left
 ·
  intro hCont
  refine xD (i:=0) (j:=6) (Ni:=some 42) (Nj:=some 48) (bA 11 303) (bA 11 366) rfl rfl rfl rfl (sj HT_.out (by kernel_rfl)) (by decide) (by decide) (fun K hK=>?_) (fun K hK=>?_)
  ·
   refine Cm cm 34 42 (([]:List (au))) [] ((bP.none _ _)) ?_
   intro v539 w33 ho34 hb hg_ hnew_
   clear hg_ hnew_
   (first | rw [←Ny538.out] at ho34 | (simp only [Int.reduceToNat] at ho34;rw [←Ny538.out] at ho34))
   have HO540:=aS (Kd.bn (Kd.qp ho34 (g:=p3) (o:=.cells #[.string c0,.string c1,.int .i64 c2,.string c3,.bool c4] 34 (0,0)) (eA B3.out)) (aA aq));replace B3:=fp B3 hb;replace HB:=aM hb;clear hb ho34;refine hK.out _ _ ⟨bc B3 0,bc B3 1,bc B3 2,bc B3 3,bc B3 4⟩ (fun hHeld=>?_);clear hK K;refine nm 42 ?_;refine xD (i:=4) (j:=6) (Ni:=some 46) (Nj:=some 48) (bA 11 319) (bA 11 367) rfl rfl rfl rfl (sj HT_.out (by kernel_rfl)) (by decide) (by decide) (fun K hK=>?_) (fun K hK=>?_)
   ·
    refine Kd.fL cm (w0:=w) w.heap.size (by rfl) (.tmp 42) (.tmp 45) 32 34 (.agg #[(.string ⟨#[]⟩),(.string ⟨#[]⟩),(.int .i64 0),(.string ⟨#[]⟩),(.bool false)]) 64 rfl hu24 eO rfl (by decide) (by omega) v539 y538 y541 _ _ _ (fun k_=>k_≠p3) (fun _=>False) rfl rfl ?aO ?aR (fun _ _ h=>h) (fun _ h=>h.elim) ?aF ?aB ?aS ?aL ?_
    (case aR=>exact eH (Kd.cH HR544.out HB.out))
    (case aB=>exact aq)
    (case aF=>exact (fun k_ hk=>Kd.nU (g:=p3) (o:=.cells #[.string c0,.string c1,.int .i64 c2,.string c3,.bool c4] 34 (0,0)) (eA B3.out) k_ hk))
    (case aO=>exact (rel (Kd.aK HO540.out (fun _ hk=>hk.2))))
    (case aS=>exact (aA aq))
    (case aL=>have:=LMc27.out;omega)
    intro v546 w35 ho hb hg hat
    rw [←Ny545.out] at ho;have n0_:=aS (eP (g:=p3) (o:=.cells #[.string c0,.string c1,.int .i64 c2,.string c3,.bool c4] 34 (0,0)) (eA B3.out) hg (Kd.qo HO540.out (fun _ hk=>hk.2)));have n1_:=aS (hb);have n2_:=aS (ho);clear B3;clear HB;clear HO540;have B3:=n0_;have HB:=n1_;have HO547:=n2_;clear n0_ n1_ n2_;clear ho hb hg hat;refine hK.out _ _ ⟨bc B3 0,bc B3 1,bc B3 2,bc B3 3,bc B3 4⟩ (fun hHeld=>?_);clear hK K;refine nm 46 ?_;refine dH 6 (N:=some 48) (bA 11 383) HT_ (fun K hK=>?_)
    refine Cm cm 34 48 (([(⟨c0,c1,c2,c3,c4⟩:au)]:List (au))) [.string c0,.string c1,.int .i64 c2,.string c3,.bool c4] ((bP.c5 (show Kd.M cm _ _ _ (⟨c0,c1,c2,c3,c4⟩:au) [.string c0,.string c1,.int .i64 c2,.string c3,.bool c4] from (ia _ _ _ (⟨c0,c1,c2,c3,c4⟩:au) )) (bP.none _ _))) ?_
    intro v549 w36 ho37 hb hg_ hnew_
    clear hg_ hnew_
    (first | rw [←Ny548.out] at ho37 | (simp only [Int.reduceToNat] at ho37;rw [←Ny548.out] at ho37))
    have HO550:=aS (Kd.bn (Kd.qp (Kd.cK ho37 (Kd.cP (rel HO547.out))) (g:=p3) (o:=.cells #[.string c0,.string c1,.int .i64 c2,.string c3,.bool c4] 34 (0,0)) (eA B3.out)) (aA aq));replace HO547:=aS (Kd.bY (rel HO547.out) (dm ho37) hb);replace B3:=fp B3 hb;replace HB:=aM hb;clear hb ho37;refine hK.out _ _ ⟨bc B3 0,bc B3 1,bc B3 2,bc B3 3,bc B3 4⟩ (fun hHeld=>?_);clear hK K;refine nm 48 ?_;exact kZ (by simp only [jT,Act.put,eI,eG,lss]) (hCont (v539,v546,v549) _ ⟨hHeld,(by (with_reducible repeat (first | apply Kd.bB | apply Kd.bC | apply Kd.bD));exact Kd.aK HO547.out (fun _ hk=>⟨hk.2,hk.1⟩)),(by (with_reducible repeat (first | apply Kd.bB | apply Kd.bC | apply Kd.bD));exact Kd.aK HO550.out (fun _ hk=>⟨hk.1.2,hk.2⟩)),(eA B3.out),aq⟩)
   ·
    refine Cm cm 34 48 (([(⟨c0,c1,c2,c3,c4⟩:au)]:List (au))) [.string c0,.string c1,.int .i64 c2,.string c3,.bool c4] ((bP.c5 (show Kd.M cm _ _ _ (⟨c0,c1,c2,c3,c4⟩:au) [.string c0,.string c1,.int .i64 c2,.string c3,.bool c4] from (ia _ _ _ (⟨c0,c1,c2,c3,c4⟩:au) )) (bP.none _ _))) ?_
    intro v549 w35 ho36 hb hg_ hnew_
    clear hg_ hnew_
    (first | rw [←Ny548.out] at ho36 | (simp only [Int.reduceToNat] at ho36;rw [←Ny548.out] at ho36))
    have HO550:=aS (Kd.bn (Kd.qp (Kd.cK ho36 (Kd.cP (rel HO540.out))) (g:=p3) (o:=.cells #[.string c0,.string c1,.int .i64 c2,.string c3,.bool c4] 34 (0,0)) (eA B3.out)) (aA aq));replace HO540:=aS (Kd.bY (rel HO540.out) (dm ho36) hb);replace B3:=fp B3 hb;replace HB:=aM hb;clear hb ho36;refine hK.out _ _ ⟨bc B3 0,bc B3 1,bc B3 2,bc B3 3,bc B3 4⟩ (fun hHeld=>?_);clear hK K;refine nm 48 ?_;refine dH 4 (N:=some 46) (bA 11 383) HT_ (fun K hK=>?_);refine Kd.fL cm (w0:=w) w.heap.size (by rfl) (.tmp 42) (.tmp 45) 32 34 (.agg #[(.string ⟨#[]⟩),(.string ⟨#[]⟩),(.int .i64 0),(.string ⟨#[]⟩),(.bool false)]) 64 rfl hu24 eO rfl (by decide) (by omega) v539 y538 y541 _ _ _ (fun k_=>some k_≠(v549:Value).ownBlock∧k_≠p3) (fun _=>False) rfl rfl ?aO ?aR (fun _ _ h=>h) (fun _ h=>h.elim) ?aF ?aB ?aS ?aL ?_
    (case aR=>exact eH (Kd.cH HR544.out HB.out))
    (case aB=>exact aq)
    (case aF=>exact (fun k_ hk=>⟨Kd.iD (Kd.cP (rel HO550.out)) k_ hk,Kd.nU (g:=p3) (o:=.cells #[.string c0,.string c1,.int .i64 c2,.string c3,.bool c4] 34 (0,0)) (eA B3.out) k_ hk⟩))
    (case aO=>exact (by (with_reducible repeat (first | apply Kd.bB | apply Kd.bC | apply Kd.bD));exact Kd.aK HO540.out (fun _ hk=>⟨hk.2,hk.1.2⟩)))
    (case aS=>exact (aA aq))
    (case aL=>have:=LMc27.out;omega)
    intro v546 w37 ho hb hg hat
    rw [←Ny545.out] at ho;have n0_:=aS (eP (g:=p3) (o:=.cells #[.string c0,.string c1,.int .i64 c2,.string c3,.bool c4] 34 (0,0)) (eA B3.out) hg (Kd.qo HO540.out (fun _ hk=>hk.1.2)));have n1_:=aS (Kd.ju (ok:=(fun k_=>k_≠p3)) (by (with_reducible repeat (first | apply Kd.bB | apply Kd.bC | apply Kd.bD));exact Kd.aK HO550.out (fun _ hk=>⟨hk.2,hk.1.2⟩)) hg hat);have n2_:=aS (hb);have n3_:=aS (ho);clear B3;clear HO550;clear HB;clear HO540;have B3:=n0_;have HO550:=n1_;have HB:=n2_;have HO547:=n3_;clear n0_ n1_ n2_ n3_;clear ho hb hg hat;refine hK.out _ _ ⟨bc B3 0,bc B3 1,bc B3 2,bc B3 3,bc B3 4⟩ (fun hHeld=>?_);clear hK K;refine nm 46 ?_;exact kZ (by simp only [jT,Act.put,eI,eG,lss]) (hCont (v539,v546,v549) _ ⟨hHeld,(rel HO547.out),(by (with_reducible repeat (first | apply Kd.bB | apply Kd.bC | apply Kd.bD));exact Kd.aK HO550.out (fun _ hk=>⟨hk.2,hk.1⟩)),(eA B3.out),aq⟩)
  ·
   refine Cm cm 34 48 (([(⟨c0,c1,c2,c3,c4⟩:au)]:List (au))) [.string c0,.string c1,.int .i64 c2,.string c3,.bool c4] ((bP.c5 (show Kd.M cm _ _ _ (⟨c0,c1,c2,c3,c4⟩:au) [.string c0,.string c1,.int .i64 c2,.string c3,.bool c4] from (ia _ _ _ (⟨c0,c1,c2,c3,c4⟩:au) )) (bP.none _ _))) ?_
   intro v549 w33 ho34 hb hg_ hnew_
   clear hg_ hnew_
   (first | rw [←Ny548.out] at ho34 | (simp only [Int.reduceToNat] at ho34;rw [←Ny548.out] at ho34))
   have HO550:=aS (Kd.bn (Kd.qp ho34 (g:=p3) (o:=.cells #[.string c0,.string c1,.int .i64 c2,.string c3,.bool c4] 34 (0,0)) (eA B3.out)) (aA aq));replace B3:=fp B3 hb;replace HB:=aM hb;clear hb ho34;refine hK.out _ _ ⟨bc B3 0,bc B3 1,bc B3 2,bc B3 3,bc B3 4⟩ (fun hHeld=>?_);clear hK K;refine nm 48 ?_;refine dH 0 (N:=some 42) (bA 11 367) HT_ (fun K hK=>?_)
   refine Cm cm 34 42 (([]:List (au))) [] ((bP.none _ _)) ?_
   intro v539 w35 ho36 hb hg_ hnew_
   clear hg_ hnew_
   (first | rw [←Ny538.out] at ho36 | (simp only [Int.reduceToNat] at ho36;rw [←Ny538.out] at ho36))
   have HO540:=aS (Kd.bn (Kd.qp (Kd.cK ho36 (Kd.cP (rel HO550.out))) (g:=p3) (o:=.cells #[.string c0,.string c1,.int .i64 c2,.string c3,.bool c4] 34 (0,0)) (eA B3.out)) (aA aq));replace HO550:=aS (Kd.bY (rel HO550.out) (dm ho36) hb);replace B3:=fp B3 hb;replace HB:=aM hb;clear hb ho36;refine hK.out _ _ ⟨bc B3 0,bc B3 1,bc B3 2,bc B3 3,bc B3 4⟩ (fun hHeld=>?_);clear hK K;refine nm 42 ?_;refine dH 4 (N:=some 46) (bA 11 383) HT_ (fun K hK=>?_);refine Kd.fL cm (w0:=w) w.heap.size (by rfl) (.tmp 42) (.tmp 45) 32 34 (.agg #[(.string ⟨#[]⟩),(.string ⟨#[]⟩),(.int .i64 0),(.string ⟨#[]⟩),(.bool false)]) 64 rfl hu24 eO rfl (by decide) (by omega) v539 y538 y541 _ _ _ (fun k_=>some k_≠(v549:Value).ownBlock∧k_≠p3) (fun _=>False) rfl rfl ?aO ?aR (fun _ _ h=>h) (fun _ h=>h.elim) ?aF ?aB ?aS ?aL ?_
   (case aR=>exact eH (Kd.cH HR544.out HB.out))
   (case aB=>exact aq)
   (case aF=>exact (fun k_ hk=>⟨Kd.iD (Kd.cP (rel HO550.out)) k_ hk,Kd.nU (g:=p3) (o:=.cells #[.string c0,.string c1,.int .i64 c2,.string c3,.bool c4] 34 (0,0)) (eA B3.out) k_ hk⟩))
   (case aO=>exact (by (with_reducible repeat (first | apply Kd.bB | apply Kd.bC | apply Kd.bD));exact Kd.aK HO540.out (fun _ hk=>⟨hk.1.2,hk.2⟩)))
   (case aS=>exact (aA aq))
   (case aL=>have:=LMc27.out;omega)
   intro v546 w37 ho hb hg hat
   rw [←Ny545.out] at ho;have n0_:=aS (eP (g:=p3) (o:=.cells #[.string c0,.string c1,.int .i64 c2,.string c3,.bool c4] 34 (0,0)) (eA B3.out) hg (Kd.qo HO540.out (fun _ hk=>hk.2)));have n1_:=aS (Kd.ju (ok:=(fun k_=>k_≠p3)) (by (with_reducible repeat (first | apply Kd.bB | apply Kd.bC | apply Kd.bD));exact Kd.aK HO550.out (fun _ hk=>⟨hk.1.2,hk.2⟩)) hg hat);have n2_:=aS (hb);have n3_:=aS (ho);clear B3;clear HO550;clear HB;clear HO540;have B3:=n0_;have HO550:=n1_;have HB:=n2_;have HO547:=n3_;clear n0_ n1_ n2_ n3_;clear ho hb hg hat;refine hK.out _ _ ⟨bc B3 0,bc B3 1,bc B3 2,bc B3 3,bc B3 4⟩ (fun hHeld=>?_);clear hK K;refine nm 46 ?_;exact kZ (by simp only [jT,Act.put,eI,eG,lss]) (hCont (v539,v546,v549) _ ⟨hHeld,(rel HO547.out),(by (with_reducible repeat (first | apply Kd.bB | apply Kd.bC | apply Kd.bD));exact Kd.aK HO550.out (fun _ hk=>⟨hk.2,hk.1⟩)),(eA B3.out),aq⟩)
 rintro ⟨v539,v546,v549⟩ w38 ⟨hS_,h0_,h1_,h2_,h3_⟩
 have n0_:ah (Kd.R cm 34 w38 w.heap.size (fun k_=>some k_≠(v549:Value).ownBlock∧k_≠p3) v546 y545):=⟨h0_⟩;have n1_:ah (Kd.R cm 34 w38 w.heap.size (fun k_=>some k_≠(v546:Value).ownBlock∧k_≠p3) v549 y548):=⟨h1_⟩;have n2_:ah (w38.heap[p3]? = some (.cells #[.string c0,.string c1,.int .i64 c2,.string c3,.bool c4] 34 (0,0))):=⟨h2_⟩;have n3_:ah (Below w.heap.size w w38):=⟨h3_⟩;clear B3;clear HB;clear h0_ h1_ h2_ h3_;have HO547:=n0_;have HO550:=n1_;have B3:=n2_;have HB:=n3_;clear n0_ n1_ n2_ n3_;have hHeld:w38.cell? ⟨p3,0,none⟩=some (.string c0)∧w38.cell? ⟨p3,1,none⟩=some (.string c1)∧w38.cell? ⟨p3,2,none⟩=some (.int .i64 c2)∧w38.cell? ⟨p3,3,none⟩=some (.string c3)∧w38.cell? ⟨p3,4,none⟩=some (.bool c4):=hS_;obtain ⟨Ao40,co40,eo40⟩:=Kd.bp HO550.out
 (first | subst eo40 | (injection eo40 with f1_ f2_ f3_;have f4_:=f1_.symm;have f5_:=f3_.symm;clear f1_ f2_ f3_;subst f4_;subst f5_))
 refine kZ (a':=?_) ?_ ?_
 rotate_left
 ·
  simp only [jT,Act.put,eI,eG,lss]
  rfl
 refine dH 7 (N:=some 49) (bA 11 511) HT_ (fun K hK=>?_);refine Kd.fL cm (w0:=w) w.heap.size (by rfl) (.tmp 46) (.tmp 48) 32 34 (.agg #[(.string ⟨#[]⟩),(.string ⟨#[]⟩),(.int .i64 0),(.string ⟨#[]⟩),(.bool false)]) 64 rfl hu24 eO rfl (by decide) (by omega) v546 y545 y548 _ _ _ (fun k_=>some k_≠(.slice Ao40 y548.length co40:Value).ownBlock∧k_≠p3) (fun _=>False) rfl rfl ?aO ?aR (fun _ _ h=>h) (fun _ h=>h.elim) ?aF ?aB ?aS ?aL ?_
 (case aR=>exact eH ((Kd.aY HO550.out).2.2))
 (case aB=>exact aq)
 (case aF=>exact (fun k_ hk=>⟨Kd.iD (Kd.cP (rel HO550.out)) k_ hk,Kd.nU (g:=p3) (o:=.cells #[.string c0,.string c1,.int .i64 c2,.string c3,.bool c4] 34 (0,0)) (eA B3.out) k_ hk⟩))
 (case aO=>exact (rel HO547.out))
 (case aS=>exact (aA aq))
 (case aL=>have:=LMc28.out;omega)
 intro v552 w39 ho hb hg hat
 rw [←Ny551.out] at ho;have n0_:=aS (eP (g:=p3) (o:=.cells #[.string c0,.string c1,.int .i64 c2,.string c3,.bool c4] 34 (0,0)) (eA B3.out) hg (Kd.qo HO547.out (fun _ hk=>hk.2)));have n1_:=aS (Kd.ju (ok:=(fun k_=>k_≠p3)) (by (with_reducible repeat (first | apply Kd.bB | apply Kd.bC | apply Kd.bD));exact Kd.aK HO550.out (fun _ hk=>⟨hk.2,hk.1⟩)) hg hat);have n2_:=aS (hb);have n3_:=aS (ho);clear B3;clear HO550;clear HB;clear HO547;have B3:=n0_;have HO550:=n1_;have HB:=n2_;have HO553:=n3_;clear n0_ n1_ n2_ n3_;clear ho hb hg hat;refine hK.out _ _ ⟨bc B3 0,bc B3 1,bc B3 2,bc B3 3,bc B3 4⟩ (fun hHeld=>?_);clear hK K;refine nm 49 ?_;refine dH 9 (N:=some 51) (bA 11 1023) HT_ (fun K hK=>?_);refine Kd.fL cm (w0:=w) w.heap.size (by rfl) (.tmp 49) (.tmp 50) 32 34 (.agg #[(.string ⟨#[]⟩),(.string ⟨#[]⟩),(.int .i64 0),(.string ⟨#[]⟩),(.bool false)]) 64 rfl hu24 eO rfl (by decide) (by omega) v552 y551 y _ _ _ (fun k_=>some k_≠(.slice Ao40 y548.length co40:Value).ownBlock∧k_≠p3) (fun _=>False) rfl rfl ?aO ?aR (fun _ _ h=>h) (fun _ h=>h.elim) ?aF ?aB ?aS ?aL ?_
 (case aR=>exact eH (Kd.cH HR537.out HB.out))
 (case aB=>exact aq)
 (case aF=>exact (fun k_ hk=>⟨Kd.iD (Kd.cP (rel HO550.out)) k_ hk,Kd.nU (g:=p3) (o:=.cells #[.string c0,.string c1,.int .i64 c2,.string c3,.bool c4] 34 (0,0)) (eA B3.out) k_ hk⟩))
 (case aO=>exact (rel HO553.out))
 (case aS=>exact (aA aq))
 (case aL=>have:=LMc29.out;omega)
 intro v555 w41 ho hb hg hat
 rw [←Ny554.out] at ho;have n0_:=aS (eP (g:=p3) (o:=.cells #[.string c0,.string c1,.int .i64 c2,.string c3,.bool c4] 34 (0,0)) (eA B3.out) hg (Kd.qo HO553.out (fun _ hk=>hk.2)));have n1_:=aS (Kd.ju (ok:=(fun k_=>k_≠p3)) (rel HO550.out) hg hat);have n2_:=aS (hb);have n3_:=aS (ho);clear B3;clear HO550;clear HB;clear HO553;have B3:=n0_;have HO550:=n1_;have HB:=n2_;have HO556:=n3_;clear n0_ n1_ n2_ n3_;clear ho hb hg hat;refine hK.out _ _ ⟨bc B3 0,bc B3 1,bc B3 2,bc B3 3,bc B3 4⟩ (fun hHeld=>?_);clear hK K;refine nm 51 ?_;refine wj 10 4 (bA 11 2047) HT_ ?_
 refine fX HT_ ?_
 try go_wp2
 go_ret
 exact ⟨_,rfl,by rw [←HRES.out];exact Kd.aK HO556.out (fun _ _=>trivial),aq⟩
def bE.yH (a b:ByteArray) (t:Int):List au→au→au
 | [],z=>z
 | x :: l,z=>bE.yH a b t l (if (x.f0.toList == a.toList && x.f1.toList == b.toList && decide (x.f2≤t) && decide (z.f2<x.f2))=true then x else z)
def bE.FH (z:au):ByteArray × ByteArray × Int × ByteArray × Bool × Bool:=if z.f2<0 then (⟨#[]⟩,⟨#[]⟩,0,⟨#[]⟩,false,false) else (z.f0,z.f1,z.f2,z.f3,z.f4,true)
def bE.f (_:Nat) (l:List au) (a b:ByteArray) (t:Int):Option (ByteArray × ByteArray × Int × ByteArray × Bool × Bool):=if l.length<1099511627776 then some (bE.FH (bE.yH a b t l (⟨⟨#[]⟩,⟨#[]⟩,-1,⟨#[]⟩,false⟩:au))) else none
theorem bE.mono:∀ a0 a1 a2 a3 k,aH (bE.f k a0 a1 a2 a3) (bE.f (k+1) a0 a1 a2 a3):=fun _ _ _ _ _=>aH.refl _
theorem bE.ways (b1 b2 b3 b4:Bool):(b1=true∧b2=true∧b3=true∧b4=true)∨((b1 && b2 && b3 && b4)=false∧(b1=false∨(b1=true∧b2=false)∨(b1=true∧b2=true∧b3=false)∨(b1=true∧b2=true∧b3=true∧b4=false))):=by
 cases b1<;>cases b2<;>cases b3<;>cases b4<;>decide
theorem bE.calls (k:Nat) (A0:Option Addr) (cp:Nat) (l:List au) (a b:ByteArray) (t:Int) (r1 r2:ByteArray) (r3:Int) (r4:ByteArray) (r5 r6:Bool) (w:World) (hr0:Kd.C cm w A0 l.length l) (hc0:l.length≤cp) (h:bE.f k l a b t=some (r1,r2,r3,r4,r5,r6)) :
  Calls Tryz.prog 15 #[.slice A0 l.length cp,.string a,.string b,.int .i64 t] w fun e w'=>e = .returned (.tuple #[.agg #[.string r1,.string r2,.int .i64 r3,.string r4,.bool r5],.bool r6])∧Below w.heap.size w w':=by
 have hu24:=Tryz.underlying32;have hu26:=Tryz.underlying34
 unfold bE.f at h
 split at h
 case isFalse=>cases h
 rename_i hlm
 obtain ⟨z9,hz9⟩:∃ z,z=bE.yH a b t l (⟨⟨#[]⟩,⟨#[]⟩,-1,⟨#[]⟩,false⟩:au):=⟨_,rfl⟩
 rw [←hz9] at h;have HZ9:=aS hz9.symm;have HRS:=aS (Option.some.inj h);have HR:=aS hr0;have HC:=aS hc0;have HLM:=aS hlm;clear hr0 hc0 h hlm hz9
 go_enter Tryz.func15,Tryz.ntmps15
 refine wp_seq_k (fun K_ hK_=>?_)
 go_cut [8,9] (fun v8 v9 wc=>∃ p8:Nat,v8 = .pointer (some ⟨p8,0,none⟩)∧v9 = .bool false∧ah (w.heap.size≤p8)∧ah (wc.heap[p8]? = some (.cells #[.string ⟨#[]⟩,.string ⟨#[]⟩,.int .i64 0,.string ⟨#[]⟩,.bool false] 34 (0,0)))∧ah (Below w.heap.size w wc))
 case first=>
  go_wp2_with (first | ((with_reducible refine gD 8 ?_);refine dK 8 #[.string ⟨#[]⟩,.string ⟨#[]⟩,.int .i64 0,.string ⟨#[]⟩,.bool false] 34 ?_;intro p8 hg w3_ hb hbl;have B8:=aS hb;have G8:ah (w.heap.size≤p8):=aS (by rw [hg];exact Nat.le_refl _);have HB:=aS hbl;clear hg hb hbl))
  go_meet
  case rel=>exact ⟨p8,rfl,rfl,G8,B8,HB⟩
 obtain ⟨p8,rfl,rfl,G8,B8,HB⟩:=hcut
 rename World=>w1
 refine hK_ _ _ ?_;refine wp_seq_k (fun K2_ hK2_=>?_)
 go_cut [10] (fun v10 wc=>∃ p10:Nat,v10 = .pointer (some ⟨p10,0,none⟩)∧ah (p8<p10)∧ah (wc.heap[p8]? = some (.cells #[.string ⟨#[]⟩,.string ⟨#[]⟩,.int .i64 0,.string ⟨#[]⟩,.bool false] 34 (0,0)))∧ah (wc.heap[p10]? = some (.cells #[.string ⟨#[]⟩,.string ⟨#[]⟩,.int .i64 (-1),.string ⟨#[]⟩,.bool false] 34 (0,0)))∧ah (Below w.heap.size w wc))
 case first=>
  go_wp2_with (first | ((with_reducible refine gD 10 ?_);refine dK 10 #[.string ⟨#[]⟩,.string ⟨#[]⟩,.int .i64 0,.string ⟨#[]⟩,.bool false] 34 ?_;intro p10 hg w3_ hb hbl;have B9:=aS hb;have GP:ah (p8<p10):=aS (by rw [hg];exact cR B8.out);have B8b:=aS (aI B8.out hbl);have HBb:=aS (aE HB.out hbl);clear hg hb hbl) | ((with_reducible refine dO (t:=34) (p:=10) rfl ?_);refine wpList_store_row rfl 34 _ _ rfl p10 #[.string ⟨#[]⟩,.string ⟨#[]⟩,.int .i64 (-1),.string ⟨#[]⟩,.bool false] rfl rfl 34 _ B9.out (by kernel_rfl) rfl (by kernel_rfl) ?_;have BN:=aS (setRow_heap w3_ p10 _ #[.string ⟨#[]⟩,.string ⟨#[]⟩,.int .i64 (-1),.string ⟨#[]⟩,.bool false] _ _ B9.out);have HS:=aS (cV (Below.refl p10 w3_) (Nat.le_refl _) #[.string ⟨#[]⟩,.string ⟨#[]⟩,.int .i64 (-1),.string ⟨#[]⟩,.bool false]);generalize World.setRow w3_ p10 #[.string ⟨#[]⟩,.string ⟨#[]⟩,.int .i64 (-1),.string ⟨#[]⟩,.bool false]=w9 at BN HS ⊢;have B8N:=aS ((HS.out.block p8 GP.out).trans B8b.out);have HBN:=aS (HBb.out.trans (HS.out.mono (Nat.le_trans G8.out (Nat.le_of_lt GP.out))));clear HS))
  go_meet
  case rel=>exact ⟨p10,rfl,GP,B8N,BN,HBN⟩
 clear B8 HB;obtain ⟨p10,rfl,GP,B8,B10,HB⟩:=hcut
 rename World=>w2
 refine hK2_ _ _ ?_
 go_wp2
 go_loopw [11] (fun v11 wr=>∃ (i:Nat) (z:au),v11 = .int .i64 (i:Int)∧ah (i≤l.length)∧ah (bE.yH a b t (l.drop i) z=z9)∧ah (wr.heap[p8]? = some (.cells #[.string ⟨#[]⟩,.string ⟨#[]⟩,.int .i64 0,.string ⟨#[]⟩,.bool false] 34 (0,0)))∧ah (wr.heap[p10]? = some (.cells #[.string z.f0,.string z.f1,.int .i64 z.f2,.string z.f3,.bool z.f4] 34 (0,0)))∧ah (Below w.heap.size w wr)) (fun i _=>l.length - (intOf i).toNat)
 case atStart=>exact ⟨0,(⟨⟨#[]⟩,⟨#[]⟩,-1,⟨#[]⟩,false⟩:au),rfl,⟨Nat.zero_le _⟩,HZ9,B8,B10,HB⟩
 clear B8 B10 HB
 case round=>
  obtain ⟨i,z,rfl,hi,HZ,B8,B10,HB⟩:=hrel;have q10:=cO B10
  by_cases hlt:i<l.length
  ·
   have hq1:(i:Int)<(l.length:Int):=by omega
   have hq0:(0:Int)≤(i:Int):=by omega
   obtain ⟨ad,e_,_⟩:=dN (Kd.cH HR.out HB.out) (i:Int) hq0 hq1;subst e_
   obtain ⟨x,hx⟩:∃ x,x=af l (i:Int):=⟨_,rfl⟩
   have HXF:ah (∀ w',Below w.heap.size w w'→w'.cell? (ad.add (i*5))=some (.string x.f0)∧w'.cell? ⟨(ad.add (i*5)).block,(ad.add (i*5)).off+1,none⟩=some (.string x.f1)∧w'.cell? ⟨(ad.add (i*5)).block,(ad.add (i*5)).off+2,none⟩=some (.int .i64 x.f2)∧w'.cell? ⟨(ad.add (i*5)).block,(ad.add (i*5)).off+3,none⟩=some (.string x.f3)∧w'.cell? ⟨(ad.add (i*5)).block,(ad.add (i*5)).off+4,none⟩=some (.bool x.f4)):=aS (fun w' hb=>by
    obtain ⟨ad',e',hc'⟩:=dN (Kd.cH HR.out hb) (i:Int) hq0 hq1
    injection e' with e'
    subst e'
    rw [Int.toNat_natCast,← hx] at hc'
    exact hc')
   obtain ⟨hx0,hx1,hx2,hx3,hx4⟩:=HXF.out _ HB.out;have hz:=HZ.out;rw [List.drop_eq_getElem_cons hlt,show l[i]=x from (by rw [hx];unfold af;rw [Int.toNat_natCast,List.getD_eq_getElem?_getD,List.getElem?_eq_getElem hlt];rfl)] at hz
   unfold bE.yH at hz
   obtain ⟨b1,hb1⟩:∃ b1,(x.f0.toList == a.toList)=b1:=⟨_,rfl⟩
   obtain ⟨b2,hb2⟩:∃ b2,(x.f1.toList == b.toList)=b2:=⟨_,rfl⟩
   obtain ⟨b3,hb3⟩:∃ b3,decide (x.f2≤t)=b3:=⟨_,rfl⟩
   obtain ⟨b4,hb4⟩:∃ b4,decide (z.f2<x.f2)=b4:=⟨_,rfl⟩
   rw [hb1,hb2,hb3,hb4] at hz
   have hix:∀ W:World,(Instr.indexAt 32 (.slice (some ad) l.length cp) (.int .i64 (i:Int))).run Tryz.prog W = .ok (.pointer (some (ad.add (i*5)))) W:=by
    obtain ⟨i0,hi0,hz⟩:=Option.map_eq_some_iff.1 eO
    simp only [Prod.mk.injEq] at hz
    intro W
    have h1:=gH 32 34 hu24 hi0 5 hz.2.1 ad l.length cp (i:Int) (by omega) (by omega) W
    rwa [Int.toNat_natCast] at h1
   have hwr:wrap64 ((i:Int)+1)=(i:Int)+1:=by rw [←cC,IntKind.wrap_i64];have:=HLM.out;omega
   clear hx hi hq0 HZ
   rcases bE.ways b1 b2 b3 b4 with ⟨rfl,rfl,rfl,rfl⟩ | ⟨hb,hw⟩
   ·
    rw [if_pos (show (true && true && true && true)=true from rfl)] at hz;have HZ1:=aS hz;clear hz
    go_upto_region 5 with (fail)
    go_quiet (fail)
    generalize hq_:World.drewN wr _=wq
    have B8q:ah (wq.heap[p8]? = some (.cells #[.string ⟨#[]⟩,.string ⟨#[]⟩,.int .i64 0,.string ⟨#[]⟩,.bool false] 34 (0,0))):=aS (hq_▸ay B8.out _);have B10q:ah (wq.heap[p10]? = some (.cells #[.string z.f0,.string z.f1,.int .i64 z.f2,.string z.f3,.bool z.f4] 34 (0,0))):=aS (hq_▸ay B10.out _);have HBq:ah (Below w.heap.size w wq):=aS (hq_▸DZ HB.out _);clear hq_ B8 B10 HB q10 hx0 hx1 hx2 hx3 hx4;obtain ⟨hx0,hx1,hx2,hx3,hx4⟩:=HXF.out _ HBq.out
    go_wp2_with (first | ((with_reducible refine dO (t:=34) (p:=10) rfl ?_);refine wpList_store_row rfl 34 _ _ rfl p10 #[.string x.f0,.string x.f1,.int .i64 x.f2,.string x.f3,.bool x.f4] rfl rfl 34 _ B10q.out (by kernel_rfl) rfl (by kernel_rfl) ?_;have BN:=aS (setRow_heap wq p10 _ #[.string x.f0,.string x.f1,.int .i64 x.f2,.string x.f3,.bool x.f4] _ _ B10q.out);have HS:=aS (cV (Below.refl p10 wq) (Nat.le_refl _) #[.string x.f0,.string x.f1,.int .i64 x.f2,.string x.f3,.bool x.f4]);generalize World.setRow wq p10 #[.string x.f0,.string x.f1,.int .i64 x.f2,.string x.f3,.bool x.f4]=w9 at BN HS ⊢;have B8N:=aS ((HS.out.block p8 GP.out).trans B8q.out);have HBN:=aS (HBq.out.trans (HS.out.mono (Nat.le_trans G8.out (Nat.le_of_lt GP.out))));clear HS))
    go_roundw
    case rel=>exact ⟨i+1,x,by rw [hwr];rfl,⟨hlt⟩,HZ1,B8N,BN,HBN⟩
    case measure=>exact iV hwr hlt
   ·
    rw [hb,if_neg Bool.false_ne_true] at hz;have HZ1:=aS hz;clear hz hb
    rcases hw with rfl | ⟨rfl,rfl⟩ | ⟨rfl,rfl,rfl⟩ | ⟨rfl,rfl,rfl,rfl⟩<;>(
     go_upto_region 5 with (fail)
     go_quiet (fail)
     go_wp2
     go_roundw
     case rel=>exact ⟨i+1,z,by rw [hwr];rfl,⟨hlt⟩,HZ1,⟨ay B8.out _⟩,⟨ay B10.out _⟩,⟨DZ HB.out _⟩⟩
     case measure=>exact iV hwr hlt)
  ·
   have hge:¬ ((i:Int)<(l.length:Int)):=by omega
   have hz:=HZ.out;rw [List.drop_eq_nil_of_le (by omega)] at hz
   obtain rfl:z=z9:=hz
   have h:=HRS.out
   unfold bE.FH at h
   clear hi
   by_cases c0:z.f2<0
   ·
    rw [if_pos c0] at h
    simp only [Prod.mk.injEq] at h
    obtain ⟨rfl,rfl,rfl,rfl,rfl,rfl⟩:=h;have d0:decide (z.f2<0)=true:=decide_eq_true c0;clear c0
    go_wp2_with (first | ((with_reducible refine dO (t:=34) (p:=8) rfl ?_);refine wpList_store_row rfl 34 _ _ rfl p8 #[.string ⟨#[]⟩,.string ⟨#[]⟩,.int .i64 0,.string ⟨#[]⟩,.bool false] rfl rfl 34 _ B8.out (by kernel_rfl) rfl (by kernel_rfl) ?_;have BN:=aS (setRow_heap wr p8 _ #[.string ⟨#[]⟩,.string ⟨#[]⟩,.int .i64 0,.string ⟨#[]⟩,.bool false] _ _ B8.out);have HS:=aS (cV (Below.refl p8 wr) (Nat.le_refl _) #[.string ⟨#[]⟩,.string ⟨#[]⟩,.int .i64 0,.string ⟨#[]⟩,.bool false]);generalize World.setRow wr p8 #[.string ⟨#[]⟩,.string ⟨#[]⟩,.int .i64 0,.string ⟨#[]⟩,.bool false]=w9 at BN HS ⊢;have HBN:=aS (HB.out.trans (HS.out.mono G8.out));clear HS))
    refine bodyPost_ret (jN rfl _ _ p8 34 #[.string ⟨#[]⟩,.string ⟨#[]⟩,.int .i64 0,.string ⟨#[]⟩,.bool false] (0,0) _ rfl BN.out hu26 rfl (by kernel_rfl)) rfl ?_;exact ⟨rfl,HBN.out⟩
   ·
    rw [if_neg c0] at h
    simp only [Prod.mk.injEq] at h
    obtain ⟨rfl,rfl,rfl,rfl,rfl,rfl⟩:=h;have d0:decide (z.f2<0)=false:=decide_eq_false c0;clear c0
    go_wp2_with (first | ((with_reducible refine dO (t:=34) (p:=8) rfl ?_);refine wpList_store_row rfl 34 _ _ rfl p8 #[.string z.f0,.string z.f1,.int .i64 z.f2,.string z.f3,.bool z.f4] rfl rfl 34 _ B8.out (by kernel_rfl) rfl (by kernel_rfl) ?_;have BN:=aS (setRow_heap wr p8 _ #[.string z.f0,.string z.f1,.int .i64 z.f2,.string z.f3,.bool z.f4] _ _ B8.out);have HS:=aS (cV (Below.refl p8 wr) (Nat.le_refl _) #[.string z.f0,.string z.f1,.int .i64 z.f2,.string z.f3,.bool z.f4]);generalize World.setRow wr p8 #[.string z.f0,.string z.f1,.int .i64 z.f2,.string z.f3,.bool z.f4]=w9 at BN HS ⊢;have HBN:=aS (HB.out.trans (HS.out.mono G8.out));clear HS))
    refine bodyPost_ret (jN rfl _ _ p8 34 #[.string z.f0,.string z.f1,.int .i64 z.f2,.string z.f3,.bool z.f4] (0,0) _ rfl BN.out hu26 rfl (by kernel_rfl)) rfl ?_;exact ⟨rfl,HBN.out⟩
def bG.l0:Nat→List (au)→List (au)→Int→Option (Bool)
 | 0,_,_,_=>none
 | k+1,x0,x1,x5=>if x5<(x0.length:Int) then (if 0≤x5 then (if x5<(x1.length:Int) then (if (!((((af x0 x5).f0).toList) == (((af x1 x5).f0).toList)) || (!((((af x0 x5).f1).toList) == (((af x1 x5).f1).toList)) || (!(((af x0 x5).f2) == ((af x1 x5).f2)) || (!((((af x0 x5).f3).toList) == (((af x1 x5).f3).toList)) || (!(((af x0 x5).f4) == ((af x1 x5).f4)))))))=true then (some false) else (bG.l0 k x0 x1 (wrap64 (x5+1)))) else (none)) else (none)) else (some true)
def bG.f (k:Nat) (l0:List (au)) (l1:List (au)):Option (Bool):=if (l0.length:Int)=(l1.length:Int) then (bG.l0 k l0 l1 0) else (some false)
theorem bG.cF:∀ k,(∀ y0 y1 y2,aH (bG.l0 k y0 y1 y2) (bG.l0 (k+1) y0 y1 y2))
 | 0=>fun _ _ _ r h=>by simp [bG.l0] at h
 | k+1=>by
  have ih0:=bG.cF k
  ·
   intro y0 y1 y2
   unfold bG.l0
   exact eF
theorem bG.mono:∀ a0 a1 k,aH (bG.f k a0 a1) (bG.f (k+1) a0 a1):=by
 intro a0 a1 k
 have ih0:=bG.cF k
 unfold bG.f
 exact eF
theorem bG.calls (k:Nat) (A0:Option Addr) (c0:Nat) (l0:List (au)) (A1:Option Addr) (c1:Nat) (l1:List (au)) (r:Bool) (w:World) (hr0:Kd.C cm w A0 l0.length l0) (hc0:l0.length≤c0) (hr1:Kd.C cm w A1 l1.length l1) (hc1:l1.length≤c1) (h:bG.f k l0 l1=some r) :
  Calls Tryz.prog 16 #[.slice A0 l0.length c0,.slice A1 l1.length c1] w fun e w'=>e = .returned (.bool r)∧eJ w w':=by
 have hu34:=Tryz.underlying34;have HR0:=aS hr0;have HC0:=aS hc0;clear hr0 hc0;have HR1:=aS hr1;have HC1:=aS hc1;clear hr1 hc1;have H:(if (l0.length:Int)=(l1.length:Int) then (bG.l0 k l0 l1 0) else (some false))=some r:=h;clear h
 by_cases c3:(l0.length:Int)=(l1.length:Int)
 ·
  rw [if_pos c3] at H;obtain ⟨c3b0,c3b1⟩:=jh c3
  have c3b2:(l0.length == l1.length)=true:=by first | simpa using c3 | (simp at c3 ⊢;omega)
  clear c3
  have H':=aS H
  clear H
  go_enter Tryz.func16,Tryz.ntmps16
  go_wp2
  repeat (go_quiet (fail);try go_wp2)
  go_loopg [5] k (fun kq v5 w'=>∃ (x5_1:Int),v5 = .int .i64 x5_1∧ah (bG.l0 kq l0 l1 x5_1=some r)∧ah (kq≤k)∧eJ w w')
  case atStart=>exact ⟨(0),cG,H',⟨Nat.le_refl _⟩,fO⟩
  case round=>
   clear H';(try clear c1);(try clear c3);(try clear c3b0);(try clear c3b1);(try clear c3b2);obtain ⟨x5_1,rfl,HA,HK1,⟨m1,rfl⟩⟩:=hrel
   cases gk with
   | zero=>exact absurd HA.out (by simp [bG.l0])
   | succ k1=>
    have H:=HA.out;clear HA
    simp only [bG.l0] at H
    by_cases c4:x5_1<(l0.length:Int)
    ·
     rw [if_pos c4] at H;have c4b0:decide (x5_1<(l0.length:Int))=true:=decide_eq_true c4;clear c4
     by_cases c5:0≤x5_1
     ·
      rw [if_pos c5] at H;have c5b0:decide (0≤x5_1)=true:=decide_eq_true c5;clear c5
      by_cases c6:x5_1<(l1.length:Int)
      ·
       rw [if_pos c6] at H;have c6b0:decide (x5_1<(l1.length:Int))=true:=decide_eq_true c6;clear c6
       by_cases c7:(!((((af l0 x5_1).f0).toList) == (((af l1 x5_1).f0).toList)) || (!((((af l0 x5_1).f1).toList) == (((af l1 x5_1).f1).toList)) || (!(((af l0 x5_1).f2) == ((af l1 x5_1).f2)) || (!((((af l0 x5_1).f3).toList) == (((af l1 x5_1).f3).toList)) || (!(((af l0 x5_1).f4) == ((af l1 x5_1).f4)))))))=true
       ·
        rw [if_pos c7] at H;have c7b0:(!((((af l0 x5_1).f0).toList) == (((af l1 x5_1).f0).toList)) || (!((((af l0 x5_1).f1).toList) == (((af l1 x5_1).f1).toList)) || (!(((af l0 x5_1).f2) == ((af l1 x5_1).f2)) || (!((((af l0 x5_1).f3).toList) == (((af l1 x5_1).f3).toList)) || (!(((af l0 x5_1).f4) == ((af l1 x5_1).f4)))))))=true:=c7;clear c7
        obtain rfl:=Option.some.inj H
        have p525:0≤(x5_1:Int):=bJ;have q525:x5_1<(l0.length:Int):=bJ;obtain ⟨ad525,e525,hx525_0,hx525_1,hx525_2,hx525_3,hx525_4⟩:=dN HR0.out x5_1 p525 q525;cases e525;replace p525:=eq_true p525;replace q525:=eq_true q525;have p526:0≤(x5_1:Int):=bJ;have q526:x5_1<(l1.length:Int):=bJ;obtain ⟨ad526,e526,hx526_0,hx526_1,hx526_2,hx526_3,hx526_4⟩:=dN HR1.out x5_1 p526 q526;cases e526;replace p526:=eq_true p526;replace q526:=eq_true q526
        go_wp2
        repeat (go_quiet (fail);try go_wp2)
        go_ret
        exact ⟨cG,fO⟩
       ·
        rw [if_neg c7] at H
        have c7b0:(!((((af l0 x5_1).f0).toList) == (((af l1 x5_1).f0).toList)) || (!((((af l0 x5_1).f1).toList) == (((af l1 x5_1).f1).toList)) || (!(((af l0 x5_1).f2) == ((af l1 x5_1).f2)) || (!((((af l0 x5_1).f3).toList) == (((af l1 x5_1).f3).toList)) || (!(((af l0 x5_1).f4) == ((af l1 x5_1).f4)))))))=false:=by simpa using c7
        clear c7
        have H':=aS H
        clear H;have p525:0≤(x5_1:Int):=bJ;have q525:x5_1<(l0.length:Int):=bJ;obtain ⟨ad525,e525,hx525_0,hx525_1,hx525_2,hx525_3,hx525_4⟩:=dN HR0.out x5_1 p525 q525;cases e525;replace p525:=eq_true p525;replace q525:=eq_true q525;have p526:0≤(x5_1:Int):=bJ;have q526:x5_1<(l1.length:Int):=bJ;obtain ⟨ad526,e526,hx526_0,hx526_1,hx526_2,hx526_3,hx526_4⟩:=dN HR1.out x5_1 p526 q526;cases e526;replace p526:=eq_true p526;replace q526:=eq_true q526
        go_wp2
        repeat (go_quiet (fail);try go_wp2)
        go_roundg k1
        case measure=>have:=HK1.out;omega
        case rel=>exact ⟨(wrap64 (x5_1+1)),cG,H',⟨by have:=HK1.out;omega⟩,fO⟩
      ·
       rw [if_neg c6] at H;exact absurd H (by simp)
     ·
      rw [if_neg c5] at H;exact absurd H (by simp)
    ·
     rw [if_neg c4] at H;have c4b0:decide (x5_1<(l0.length:Int))=false:=decide_eq_false c4;clear c4
     obtain rfl:=Option.some.inj H
     go_wp2
     repeat (go_quiet (fail);try go_wp2)
     go_ret
     exact ⟨cG,fO⟩
 ·
  rw [if_neg c3] at H;obtain ⟨c3b0,c3b1⟩:=iT c3
  have c3b2:(l0.length == l1.length)=false:=by first | simpa using c3 | (simp at c3 ⊢;omega)
  obtain rfl:=Option.some.inj H
  go_enter Tryz.func16,Tryz.ntmps16
  go_wp2
  repeat (go_quiet (fail);try go_wp2)
  go_ret
  exact ⟨cG,fO⟩
end Go.Proofs.YtcbhfedcdnjljaaGreat.X

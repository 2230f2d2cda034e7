import Derived.Test.YtcbhfedcdnjljaaGreatXx2
import Derived.Test.YtcbhfedcdnjljaaGreatXx3
set_option maxHeartbeats 8000000
set_option maxRecDepth 100000
set_option linter.unusedVariables false
set_option linter.unusedSimpArgs false
namespace Go.Proofs.YtcbhfedcdnjljaaGreat.X
open Go.RowKit Go.Proofs.YtcbhfedcdnjljaaGreatW.PrintWords Go.Proofs.YtcbhfedcdnjljaaGreatW.PrintLast Go.Proofs.YtcbhfedcdnjljaaGreatW.PrintMore
attribute [local go_sem] lG lH mH mG kp ku lA lC mE
attribute [local go_sem high] Fe
def bq.l0:Nat→List Int→Int→List Int→Int→Int→Option (Int × List Int × Bool)
 | 0,_,_,_,_,_=>none
 | k+1,x0,x5,x12,x13,x14=>if x14<x13 then (if 0≤x14 then (if x14<(x12.length:Int) then (bq.l0 k x0 (Go.bits .or .i64 (wrap64 (x5*256)) (wrap64 (rd x12 x14))) x12 x13 (wrap64 (x14+1))) else (none)) else (none)) else (if 4≤(x0.length:Int) then ((dD.f (x0.drop 4)).bind fun t282=>(some (x5,t282,true))) else (none))
def bq.f (k:Nat) (l0:List Int):Option (Int × List Int × Bool):=if (l0.length:Int)<4 then (some (0,([]:List Int),false)) else (if 4≤(l0.length:Int) then ((some (l0.take 4:List Int)).bind fun y273=>(bq.l0 k l0 0 y273 (y273.length:Int) 0)) else (none))
theorem bq.cF:∀ k,(∀ y0 y1 y2 y3 y4,aH (bq.l0 k y0 y1 y2 y3 y4) (bq.l0 (k+1) y0 y1 y2 y3 y4))
 | 0=>fun _ _ _ _ _ r h=>by simp [bq.l0] at h
 | k+1=>by
  have ih0:=bq.cF k
  ·
   intro y0 y1 y2 y3 y4
   unfold bq.l0
   exact eF
theorem bq.mono:∀ a0 k,aH (bq.f k a0) (bq.f (k+1) a0):=by
 intro a0 k
 have ih0:=bq.cF k
 unfold bq.f
 exact eF
theorem bq.calls (k:Nat) (A0:Option Addr) (c0:Nat) (l0:List Int) (r1:Int) (r2:List Int) (r3:Bool) (w:World) (hr0:Kd.C (Kd.int .u8) w A0 l0.length l0) (hc0:l0.length≤c0) (h:bq.f k l0=some (r1,r2,r3)) :
  Calls Tryz.prog 71 #[.slice A0 l0.length c0] w fun e w'=>∃ v1_:Value,e = .returned (.tuple #[.int .i64 r1,v1_,.bool r3])∧Kd.R (Kd.int .u8) 5 w' w.heap.size (fun _=>True) v1_ r2∧Below w.heap.size w w':=by
 have HR0:=aS hr0;have HC0:=aS hc0;clear hr0 hc0;have HB:=aS (Below.refl w.heap.size w);have H:(if (l0.length:Int)<4 then (some (0,([]:List Int),false)) else (if 4≤(l0.length:Int) then ((some (l0.take 4:List Int)).bind fun y273=>(bq.l0 k l0 0 y273 (y273.length:Int) 0)) else (none)))=some (r1,r2,r3):=h;clear h
 by_cases c2:(l0.length:Int)<4
 ·
  rw [if_pos c2] at H;have c2b0:decide ((l0.length:Int)<4)=true:=decide_eq_true c2;have c2b1:decide (l0.length<4)=true:=decide_eq_true (by omega);clear c2
  simp only [Option.some.injEq,Prod.mk.injEq] at H
  obtain ⟨rfl,rfl,rfl⟩:=H
  go_enter Tryz.func71,Tryz.ntmps71
  go_wp2
  go_ret3
  exact ⟨_,dP,by first | exact Kd.d6 _ _ _ _ _ | exact Kd.gB _ _ _ _ _ | exact Kd.fJ _ _ _ _ _ | exact Kd.gy _ _ _ _ _ | exact Kd.gE _ _ _ _ _,aq⟩
 ·
  rw [if_neg c2] at H;have c2b0:decide ((l0.length:Int)<4)=false:=decide_eq_false c2;have c2b1:decide (l0.length<4)=false:=decide_eq_false (by omega);clear c2
  by_cases c3:4≤(l0.length:Int)
  ·
   rw [if_pos c3] at H;have c3b0:=eq_true c3;have c3b1:decide (4≤(l0.length:Int))=true:=decide_eq_true c3;clear c3
   obtain ⟨y273,hy273⟩:∃ y_:List Int,y_=(l0.take 4):=⟨_,rfl⟩
   replace H:(bq.l0 k l0 0 y273 (y273.length:Int) 0)=some (r1,r2,r3):=pU hy273 H;have Ny273:=aS hy273;clear hy273
   have H':=aS H
   clear H;have q4:(4:Int)≤((l0.length:Int):Int):=bJ;obtain ⟨i04,hi04,_,hsz4,_⟩:=info_parts gL;have hroom4:l0.length≤c0:=HC0.out;have hC4:Kd.C (Kd.int .u8) _ A0 l0.length l0:=HR0.out;have hcut4:=jO (P:=Tryz.prog) 51 5 .i64 Tryz.underlying51 hi04 A0 l0.length c0 4 (by omega) q4 hroom4;have hr4:=Kd.pI (m:=4) hC4 (by omega);have hy4:y273.length=(4:Int).toNat:=(by rw [Ny273.out,kY];omega);rw [←Ny273.out] at hr4;rw [←hy4] at hcut4;have HR276:=aS hr4;have HC276:=aS (show y273.length≤c0 from by omega);clear hr4 hC4 hroom4 hi04 hsz4;have KY4:=aS hy4;clear hy4;replace q4:=eq_true q4
   go_enter Tryz.func71,Tryz.ntmps71
   go_wp2
   go_loopg [5,14] k (fun kq v5 v14 w'=>∃ (x5_1:Int) (x14_1:Int),v5 = .int .i64 x5_1∧v14 = .int .i64 x14_1∧ah (bq.l0 kq l0 x5_1 y273 (y273.length:Int) x14_1=some (r1,r2,r3))∧ah (kq≤k)∧ah (Below w.heap.size w w'))
   case atStart=>exact ⟨(0),(0),cG,cG,H',⟨Nat.le_refl _⟩,⟨aq⟩⟩
   case round=>
    clear H';(try clear c2);(try clear c2b0);(try clear c2b1);(try clear c3);(try clear c3b0);(try clear c3b1);(try clear q4);obtain ⟨x5_1,x14_1,rfl,rfl,HA,HK1,HB⟩:=hrel
    cases gk with
    | zero=>exact absurd HA.out (by simp [bq.l0])
    | succ k1=>
     have H:=HA.out;clear HA
     simp only [bq.l0] at H
     by_cases c5:x14_1<(y273.length:Int)
     ·
      rw [if_pos c5] at H;have c5b0:decide (x14_1<(y273.length:Int))=true:=decide_eq_true c5;clear c5
      by_cases c6:0≤x14_1
      ·
       rw [if_pos c6] at H;have c6b0:decide (0≤x14_1)=true:=decide_eq_true c6;clear c6
       by_cases c7:x14_1<(y273.length:Int)
       ·
        rw [if_pos c7] at H;have c7b0:decide (x14_1<(y273.length:Int))=true:=decide_eq_true c7;clear c7
        have H':=aS H
        clear H;have p277:0≤(x14_1:Int):=bJ;have q277:x14_1<(y273.length:Int):=bJ;obtain ⟨ad277,e277,hx277_0⟩:=Kd.iZ HR276.out x14_1 p277 q277;cases e277;replace hx277_0:=bx aq hx277_0;replace p277:=eq_true p277;replace q277:=eq_true q277
        go_wp2
        go_roundg k1
        case measure=>have:=HK1.out;omega
        case rel=>exact ⟨(Go.bits .or .i64 (wrap64 (x5_1*256)) (wrap64 (rd y273 x14_1))),(wrap64 (x14_1+1)),cG,cG,H',⟨by have:=HK1.out;omega⟩,⟨aq⟩⟩
       ·
        rw [if_neg c7] at H;exact absurd H (by simp)
      ·
       rw [if_neg c6] at H;exact absurd H (by simp)
     ·
      rw [if_neg c5] at H;have c5b0:decide (x14_1<(y273.length:Int))=false:=decide_eq_false c5;clear c5
      by_cases c8:4≤(l0.length:Int)
      ·
       rw [if_pos c8] at H;have c8b0:=eq_true c8;have c8b1:decide (4≤(l0.length:Int))=true:=decide_eq_true c8;clear c8
       obtain ⟨y278,hy278⟩:∃ y_:List Int,y_=(l0.drop 4):=⟨_,rfl⟩
       (first | replace H:=l9 hy278 H | rw [←hy278] at H);have Ny278:=aS hy278;clear hy278;replace H:=bU H;obtain ⟨t282,A90,H⟩:=H;have A9:=aS A90;clear A90
       simp only [Option.some.injEq,Prod.mk.injEq] at H
       obtain ⟨rfl,rfl,rfl⟩:=H;have q10:(4:Int)≤((l0.length:Int):Int):=bJ;obtain ⟨i010,hi010,_,hsz10,_⟩:=info_parts gL;have hroom10:l0.length≤c0:=HC0.out;have hC10:Kd.C (Kd.int .u8) _ A0 l0.length l0:=HR0.out;have hcut10:=gI (P:=Tryz.prog) 51 5 .i64 Tryz.underlying51 hi010 1 hsz10 A0 l0.length c0 4 (by omega) q10;have hr10:=Kd.sx (m:=(4:Int).toNat) (c:=c0) hC10 (by omega) hroom10
       obtain ⟨A10,hA10⟩:∃ A1_,A1_=(if c0=(4:Int).toNat then A0 else (A0:Option Addr).map (·.add ((4:Int).toNat*1))):=⟨_,rfl⟩
       obtain ⟨ef,hc10⟩:∃ c1_,c1_=c0 - (4:Int).toNat:=⟨_,rfl⟩
       have hy10:y278.length=l0.length - (4:Int).toNat:=(by rw [Ny278.out,mh]<;>omega);rw [show (l0).drop (4:Int).toNat=y278 from Ny278.out.symm] at hr10;replace hr10:Kd.C (Kd.int .u8) _ A10 y278.length y278:=(by rw [hA10];exact hr10);rw [←hy10,← hA10,← hc10] at hcut10;have HR281:=aS hr10;have HC281:=aS (show y278.length≤ef from by rw [hy10,hc10];exact Nat.sub_le_sub_right hroom10 _);clear hr10 hC10 hroom10 hi010 hsz10 hc10;have KY10:=aS hy10;have KA10:=aS hA10;clear hy10 hA10;replace q10:=eq_true q10
       go_wp2_with (first | ((with_reducible refine gC 92 ?_);refine dn 27 Tryz.func92 #[.slice A10 y278.length ef] ?_;(with_reducible refine (dD.calls _ _ y278 t282 _ ?side1 ?side2 A9.out).mono ?_);(case side1=>exact eH (Kd.cH HR281.out HB.out));(case side2=>exact HC281.out);rintro e w11 ⟨v283,rfl,ho0,hb⟩;refine ⟨_,rfl,?_⟩;have HO284:=aS (Kd.bn ho0 (aA aq));replace HB:=aM hb;(try clear hb);(try clear hk);(try clear hi);(try clear ho0)))
       go_ret3
       exact ⟨_,dP,by (with_reducible repeat (first | apply Kd.bB | apply Kd.bC | apply Kd.bD));exact HO284.out,aq⟩
      ·
       rw [if_neg c8] at H;exact absurd H (by simp)
  ·
   rw [if_neg c3] at H;exact absurd H (by simp)
def aV.l0:Nat→List Int→List Int→Int→Int→Option (Bool)
 | 0,_,_,_,_=>none
 | k+1,x0,x1,x12,x13=>if x13<x12 then (if 0≤x13 then (if x13<(x0.length:Int) then (if x13<(x1.length:Int) then (if (rd x0 x13)=(rd x1 x13) then (aV.l0 k x0 x1 x12 (wrap64 (x13+1))) else (some false)) else (none)) else (none)) else (none)) else (some true)
def aV.f (k:Nat) (l0:List Int) (l1:List Int):Option (Bool):=if (l0.length:Int)=(l1.length:Int) then (aV.l0 k l0 l1 (l0.length:Int) 0) else (some false)
theorem aV.cF:∀ k,(∀ y0 y1 y2 y3,aH (aV.l0 k y0 y1 y2 y3) (aV.l0 (k+1) y0 y1 y2 y3))
 | 0=>fun _ _ _ _ r h=>by simp [aV.l0] at h
 | k+1=>by
  have ih0:=aV.cF k
  ·
   intro y0 y1 y2 y3
   unfold aV.l0
   exact eF
theorem aV.mono:∀ a0 a1 k,aH (aV.f k a0 a1) (aV.f (k+1) a0 a1):=by
 intro a0 a1 k
 have ih0:=aV.cF k
 unfold aV.f
 exact eF
theorem aV.calls (k:Nat) (A0:Option Addr) (c0:Nat) (l0:List Int) (A1:Option Addr) (c1:Nat) (l1:List Int) (r:Bool) (w:World) (hr0:Kd.C (Kd.int .u8) w A0 l0.length l0) (hc0:l0.length≤c0) (hr1:Kd.C (Kd.int .u8) w A1 l1.length l1) (hc1:l1.length≤c1) (h:aV.f k l0 l1=some r) :
  Calls Tryz.prog 75 #[.slice A0 l0.length c0,.slice A1 l1.length c1] w fun e w'=>e = .returned (.bool r)∧eJ w w':=by
 have HR0:=aS hr0;have HC0:=aS hc0;clear hr0 hc0;have HR1:=aS hr1;have HC1:=aS hc1;clear hr1 hc1;have H:(if (l0.length:Int)=(l1.length:Int) then (aV.l0 k l0 l1 (l0.length:Int) 0) else (some false))=some r:=h;clear h
 by_cases c3:(l0.length:Int)=(l1.length:Int)
 ·
  rw [if_pos c3] at H;obtain ⟨c3b0,c3b1⟩:=jh c3
  have c3b2:(l0.length == l1.length)=true:=by first | simpa using c3 | (simp at c3 ⊢;omega)
  clear c3
  have H':=aS H
  clear H
  go_enter Tryz.func75,Tryz.ntmps75
  go_wp2
  repeat (go_quiet (fail);try go_wp2)
  go_loopg [13] k (fun kq v13 w'=>∃ (x13_1:Int),v13 = .int .i64 x13_1∧ah (aV.l0 kq l0 l1 (l0.length:Int) x13_1=some r)∧ah (kq≤k)∧eJ w w')
  case atStart=>exact ⟨(0),cG,H',⟨Nat.le_refl _⟩,fO⟩
  case round=>
   clear H';(try clear c1);(try clear c3);(try clear c3b0);(try clear c3b1);(try clear c3b2);obtain ⟨x13_1,rfl,HA,HK1,⟨m1,rfl⟩⟩:=hrel
   cases gk with
   | zero=>exact absurd HA.out (by simp [aV.l0])
   | succ k1=>
    have H:=HA.out;clear HA
    simp only [aV.l0] at H
    by_cases c4:x13_1<(l0.length:Int)
    ·
     rw [if_pos c4] at H;have c4b0:decide (x13_1<(l0.length:Int))=true:=decide_eq_true c4;clear c4
     by_cases c5:0≤x13_1
     ·
      rw [if_pos c5] at H;have c5b0:decide (0≤x13_1)=true:=decide_eq_true c5;clear c5
      by_cases c6:x13_1<(l0.length:Int)
      ·
       rw [if_pos c6] at H;have c6b0:decide (x13_1<(l0.length:Int))=true:=decide_eq_true c6;clear c6
       by_cases c7:x13_1<(l1.length:Int)
       ·
        rw [if_pos c7] at H;have c7b0:decide (x13_1<(l1.length:Int))=true:=decide_eq_true c7;clear c7
        by_cases c8:(rd l0 x13_1)=(rd l1 x13_1)
        ·
         rw [if_pos c8] at H;obtain ⟨c8b0,c8b1⟩:=jh c8;clear c8
         have H':=aS H
         clear H;have p285:0≤(x13_1:Int):=bJ;have q285:x13_1<(l0.length:Int):=bJ;obtain ⟨ad285,e285,hx285_0⟩:=Kd.iZ HR0.out x13_1 p285 q285;cases e285;replace p285:=eq_true p285;replace q285:=eq_true q285;have p286:0≤(x13_1:Int):=bJ;have q286:x13_1<(l1.length:Int):=bJ;obtain ⟨ad286,e286,hx286_0⟩:=Kd.iZ HR1.out x13_1 p286 q286;cases e286;replace p286:=eq_true p286;replace q286:=eq_true q286
         go_wp2
         repeat (go_quiet (fail);try go_wp2)
         go_roundg k1
         case measure=>have:=HK1.out;omega
         case rel=>exact ⟨(wrap64 (x13_1+1)),cG,H',⟨by have:=HK1.out;omega⟩,fO⟩
        ·
         rw [if_neg c8] at H;obtain ⟨c8b0,c8b1⟩:=iT c8
         obtain rfl:=Option.some.inj H
         have p285:0≤(x13_1:Int):=bJ;have q285:x13_1<(l0.length:Int):=bJ;obtain ⟨ad285,e285,hx285_0⟩:=Kd.iZ HR0.out x13_1 p285 q285;cases e285;replace p285:=eq_true p285;replace q285:=eq_true q285;have p286:0≤(x13_1:Int):=bJ;have q286:x13_1<(l1.length:Int):=bJ;obtain ⟨ad286,e286,hx286_0⟩:=Kd.iZ HR1.out x13_1 p286 q286;cases e286;replace p286:=eq_true p286;replace q286:=eq_true q286
         go_wp2
         repeat (go_quiet (fail);try go_wp2)
         go_ret
         exact ⟨cG,fO⟩
       ·
        rw [if_neg c7] at H;exact absurd H (by simp)
      ·
       rw [if_neg c6] at H;exact absurd H (by simp)
     ·
      rw [if_neg c5] at H;exact absurd H (by simp)
    ·
     rw [if_neg c4] at H;have c4b0:decide (x13_1<(l0.length:Int))=false:=decide_eq_false c4;clear c4
     obtain rfl:=Option.some.inj H
     go_wp2
     repeat (go_quiet (fail);try go_wp2)
     go_ret
     exact ⟨cG,fO⟩
 ·
  rw [if_neg c3] at H;obtain ⟨c3b0,c3b1⟩:=iT c3
  have c3b2:(l0.length == l1.length)=false:=by first | simpa using c3 | (simp at c3 ⊢;omega)
  obtain rfl:=Option.some.inj H
  go_enter Tryz.func75,Tryz.ntmps75
  go_wp2
  repeat (go_quiet (fail);try go_wp2)
  go_ret
  exact ⟨cG,fO⟩
def bW.j0:Nat→Int→List Int→Bool→Option (List Int × List Int × Bool)
 | 0,_,_,_=>none
 | k+1,x5,x8,x45=>if x45=true then (some (([]:List Int),([]:List Int),false)) else (if 0≤x5 then (if x5≤(x8.length:Int) then (some ((x8.take (x5:Int).toNat),(x8.drop (x5:Int).toNat),true)) else (none)) else (none))
def bW.f (k:Nat) (l0:List Int):Option (List Int × List Int × Bool):=if (l0.length:Int)<12 then (some (([]:List Int),([]:List Int),false)) else ((bq.f k l0).bind fun bt287=>(if 12≤(l0.length:Int) then ((dD.f (l0.drop 12)).bind fun t297=>(if bt287.1 > 65535 then (bW.j0 k bt287.1 t297 true) else (if bt287.1 > (t297.length:Int) then (bW.j0 k bt287.1 t297 true) else (if 4≤(l0.length:Int) then ((some (l0.take 4:List Int)).bind fun y305=>((d9.f k y305).bind fun t310=>(if 0≤bt287.1 then (if bt287.1≤(t297.length:Int) then ((d9.f k (t297.take (bt287.1:Int).toNat)).bind fun t318=>((bX.f (([y305,t310,t318]:List (List Int)))).bind fun t324=>((aV.f k (l0.take 12) t324).bind fun t327=>(bW.j0 k bt287.1 t297 (!t327))))) else (none)) else (none)))) else (none))))) else (none)))
theorem bW.cF:∀ k,(∀ y0 y1 y2,aH (bW.j0 k y0 y1 y2) (bW.j0 (k+1) y0 y1 y2))
 | 0=>fun _ _ _ r h=>by simp [bW.j0] at h
 | k+1=>by
  have ih0:=bW.cF k
  ·
   intro y0 y1 y2
   unfold bW.j0
   have m0:=@d9.mono;have m1:=@aV.mono;have m2:=@bq.mono;exact eF
theorem bW.mono:∀ a0 k,aH (bW.f k a0) (bW.f (k+1) a0):=by
 intro a0 k
 have ih0:=bW.cF k
 unfold bW.f
 have m0:=@d9.mono;have m1:=@aV.mono;have m2:=@bq.mono;exact eF
def bW.T5:Bool × List (List Nat × List Nat):=(true,[([],[]),([0],[0]),([1],[1]),([2],[2]),([2],[2]),([4,2],[2,4]),([3,5,2],[2,3,5]),([2,6],[2,6]),([7,2],[7]),([8],[8]),([9,8],[8,9]),([8],[8]),([11,8],[8,11]),([8],[8]),([13,8],[8,13]),([14,8,8],[8,14]),([8],[8]),([8],[8]),([16,17,8],[8,16,17]),([18,15,8],[8,18]),([12,15,19,8],[8,12,15,19]),([20,19,8],[8,20]),([10,21,21,8],[8,10,21]),([22,8],[8,22]),([8,23],[8,23])])
def bW.B5:List Nat:=[0,1,3,7,7,23,63,127,255,511,1023,511,2559,511,8703,25087,511,511,197119,516607,1047039,2095615,4194303,8388607,16777215]
theorem bW.qX:e9 .any (opsOf Tryz.f93 5)=bW.T5:=by kernel_rfl
theorem bW.oJ:gj bW.T5.2 bW.B5=true:=by kernel_rfl
def bW.T7:Bool × List (List Nat × List Nat):=(true,[([],[]),([],[]),([],[]),([0,1,2],[0,1,2]),([],[]),([],[]),([4,5],[4,5]),([3,0,1,2,3],[3]),([6,7,0,1,2,3,4,5,6,7],[6]),([8,0,1,2,3,4,5,6,7,8],[])])
def bW.B7:List Nat:=[0,0,0,7,0,0,48,15,255,511]
theorem bW.He:e9 .any (opsOf Tryz.f93 7)=bW.T7:=by kernel_rfl
theorem bW.F9:gj bW.T7.2 bW.B7=true:=by kernel_rfl
theorem bW.calls (k:Nat) (P0_:Nat→Prop) (A0:Option Addr) (c0:Nat) (l0:List Int) (r1:List Int) (r2:List Int) (r3:Bool) (w:World) (hs0:Kd.V (Kd.int .u8) 5 w w.heap.size (fun k_=>P0_ k_) (.slice A0 l0.length c0) l0) (h:bW.f k l0=some (r1,r2,r3)) :
  Calls Tryz.prog 93 #[.slice A0 l0.length c0] w fun e w'=>∃ v0_ v1_:Value,e = .returned (.tuple #[v0_,v1_,.bool r3])∧Kd.V (Kd.int .u8) 5 w' w.heap.size (fun k_=>(P0_ k_∨w.heap.size≤k_)) v0_ r1∧Kd.V (Kd.int .u8) 5 w' w.heap.size (fun k_=>(P0_ k_∨w.heap.size≤k_)) v1_ r2∧Below w.heap.size w w':=by
 have HO0:=aS (show Kd.V (Kd.int .u8) 5 w w.heap.size (fun k_=>(P0_ k_∨w.heap.size≤k_)) (.slice A0 l0.length c0) l0 from Kd.ep hs0 (fun k_ hk=>.inl hk));have HB:=aS (Below.refl w.heap.size w);have H:(if (l0.length:Int)<12 then (some (([]:List Int),([]:List Int),false)) else ((bq.f k l0).bind fun bt287=>(if 12≤(l0.length:Int) then ((dD.f (l0.drop 12)).bind fun t297=>(if bt287.1 > 65535 then (bW.j0 k bt287.1 t297 true) else (if bt287.1 > (t297.length:Int) then (bW.j0 k bt287.1 t297 true) else (if 4≤(l0.length:Int) then ((some (l0.take 4:List Int)).bind fun y305=>((d9.f k y305).bind fun t310=>(if 0≤bt287.1 then (if bt287.1≤(t297.length:Int) then ((d9.f k (t297.take (bt287.1:Int).toNat)).bind fun t318=>((bX.f (([y305,t310,t318]:List (List Int)))).bind fun t324=>((aV.f k (l0.take 12) t324).bind fun t327=>(bW.j0 k bt287.1 t297 (!t327))))) else (none)) else (none)))) else (none))))) else (none))))=some (r1,r2,r3):=h;clear h
 by_cases c2:(l0.length:Int)<12
 ·
  rw [if_pos c2] at H;have c2b0:decide ((l0.length:Int)<12)=true:=decide_eq_true c2;have c2b1:decide (l0.length<12)=true:=decide_eq_true (by omega);clear c2
  simp only [Option.some.injEq,Prod.mk.injEq] at H
  obtain ⟨rfl,rfl,rfl⟩:=H
  go_enter Tryz.func93,Tryz.ntmps93
  go_wp2
  go_ret3
  exact ⟨_,_,dP,Kd.fJ _ _ _ _ _,Kd.fJ _ _ _ _ _,aq⟩
 ·
  rw [if_neg c2] at H;have c2b0:decide ((l0.length:Int)<12)=false:=decide_eq_false c2;have c2b1:decide (l0.length<12)=false:=decide_eq_false (by omega);clear c2;replace H:=bU H;obtain ⟨⟨t287,t288,t289⟩,A30,H⟩:=H;(try dsimp only at H);have A3:=aS A30;clear A30
  by_cases c4:12≤(l0.length:Int)
  ·
   rw [if_pos c4] at H;have c4b0:=eq_true c4;have c4b1:decide (12≤(l0.length:Int))=true:=decide_eq_true c4;clear c4
   obtain ⟨y292,hy292⟩:∃ y_:List Int,y_=(l0.drop 12):=⟨_,rfl⟩
   (first | replace H:=l9 hy292 H | rw [←hy292] at H);have Ny292:=aS hy292;clear hy292;replace H:=bU H;obtain ⟨t297,A50,H⟩:=H;have A5:=aS A50;clear A50;have HC6:=aS H;clear H
   go_enter Tryz.func93,Tryz.ntmps93
   go_upto_region 5 with (first | ((with_reducible refine gC 71 ?_);refine dn 14 Tryz.func71 #[.slice A0 l0.length c0] ?_;(with_reducible refine (bq.calls k _ _ l0 t287 t288 t289 _ ?side1 ?side2 A3.out).mono ?_);(case side1=>exact eH ((Kd.dJ HO0.out).2.2));(case side2=>exact (Kd.dJ HO0.out).2.1);rintro e w7 ⟨v290,rfl,ho0,hb⟩;refine ⟨_,rfl,?_⟩;replace HO0:=aS (Kd.cZ (sel HO0.out) (dm ho0) hb);have HO291:=aS (Kd.bn (Kd.j6 (M:=fun k_=>(w.heap.size≤k_)) ho0 (aA aq) (fun k_ h_=>h_)) (aA aq));replace HB:=aM hb;(try clear hb);(try clear hk);(try clear hi);(try clear ho0);have q8:(12:Int)≤((l0.length:Int):Int):=bJ;obtain ⟨i08,hi08,_,hsz8,_⟩:=info_parts gL;have hroom8:l0.length≤c0:=(Kd.dJ HO0.out).2.1;have hC8:Kd.F (Kd.int .u8) _ _ A0 l0.length l0:=(Kd.oy (base:=w.heap.size) HO0.out).2.2;have hcut8:=gI (P:=Tryz.prog) 51 5 .i64 Tryz.underlying51 hi08 1 hsz8 A0 l0.length c0 12 (by omega) q8;have hr8:=Kd.Bo (m:=(12:Int).toNat) (c:=c0) hC8 (by omega) hroom8;obtain ⟨A8,hA8⟩:∃ A1_,A1_=(if c0=(12:Int).toNat then A0 else (A0:Option Addr).map (·.add ((12:Int).toNat*1))):=⟨_,rfl⟩;obtain ⟨c8,hc8⟩:∃ c1_,c1_=c0 - (12:Int).toNat:=⟨_,rfl⟩;have hy8:y292.length=l0.length - (12:Int).toNat:=(by rw [Ny292.out,mh]<;>omega);rw [show (l0).drop (12:Int).toNat=y292 from Ny292.out.symm] at hr8;replace hr8:Kd.F (Kd.int .u8) _ _ A8 y292.length y292:=(by rw [hA8];exact hr8);rw [←hy8,← hA8,← hc8] at hcut8;have HO296:=aS (show Kd.V (Kd.int .u8) 5 _ w.heap.size _ (.slice A8 y292.length c8) y292 from Kd.nE (by rw [hy8,hc8];exact Nat.sub_le_sub_right hroom8 _) hr8);have HC296:=aS (show y292.length≤c8 from by rw [hy8,hc8];exact Nat.sub_le_sub_right hroom8 _);clear hr8 hC8 hroom8 hi08 hsz8 hc8;have KY8:=aS hy8;have KA8:=aS hA8;clear hy8 hA8;replace q8:=eq_true q8) | ((with_reducible refine gC 92 ?_);refine dn 20 Tryz.func92 #[.slice A8 y292.length c8] ?_;(with_reducible refine (dD.calls _ _ y292 t297 _ ?side1 ?side2 A5.out).mono ?_);(case side1=>exact eH ((Kd.dJ HO296.out).2.2));(case side2=>exact (Kd.dJ HO296.out).2.1);rintro e w9 ⟨v298,rfl,ho0,hb⟩;refine ⟨_,rfl,?_⟩;replace HO0:=aS (Kd.cZ (sel HO0.out) (dm ho0) hb);replace HO296:=aS (Kd.cZ (sel HO296.out) (dm ho0) hb);have HO299:=aS (Kd.bn (Kd.cK (Kd.j6 (M:=fun k_=>(w.heap.size≤k_)) ho0 (aA aq) (fun k_ h_=>h_)) (Kd.cP (rel HO291.out))) (aA aq));replace HO291:=aS (Kd.bY (rel HO291.out) (dm ho0) hb);replace HB:=aM hb;(try clear hb);(try clear hk);(try clear hi);(try clear ho0)))
   (try simp only [Act.put,eI,eG,lss])
   go_cut [45] (fun v45 wc=>∃ (kq:Nat) (x45_5:Bool),v45 = .bool x45_5∧ah (bW.j0 kq t287 t297 x45_5=some (r1,r2,r3))∧ah (kq≤k)∧ah (Kd.R (Kd.int .u8) 5 wc w.heap.size (fun k_=>(w.heap.size≤k_)) v298 t297)∧ah (Below w.heap.size w wc))
   case first=>
    have H:=HC6.out;clear HC6
    by_cases ef:t287 > 65535
    ·
     rw [if_pos ef] at H;have c10b0:decide (65535<t287)=true:=decide_eq_true ef;clear ef
     (first | rw [c10b0] | (simp only [cC,dw];rw [c10b0]) | skip)
     have H':=aS H
     clear H
     try go_wp2
     replace HO0:=aS (Kd.eS HO0.out);replace HO291:=aS (Kd.bD HO291.out);replace HO296:=aS (Kd.eS HO296.out);replace HO299:=aS (Kd.bD HO299.out);replace HB:=aS (jS HB.out);refine di (n:=25) (S:=fun w'=>True) (ds:=[]) (bA 25 0) (by kernel_rfl) rfl rfl trivial (fun hHeld=>?_);refine cD bW.qX bW.oJ (fun HT_ HW_=>?_)
     generalize w9.drew=w11 at HO0 HO291 HO296 HO299 HB hHeld ⊢
     refine aZ [(0,21),(1,22),(2,23),(3,24),(4,25),(5,26),(6,27),(7,28),(8,29),(9,30),(10,31),(11,32),(12,33),(13,34),(14,35),(15,36),(16,37),(17,38),(18,39),(19,40),(20,41),(21,42),(22,43),(23,44),(24,45)] ?_
     iterate 25 (first | (refine nR HT_ ?_) | (refine ck HT_ ?_))
     refine bT (bA 25 33554431) (by kernel_rfl) ?_;refine fX HT_ ?_
     try go_wp2
     go_meet
     case rel=>exact ⟨_,(true),cG,H',⟨by first | omega | exact Nat.le_refl _⟩,⟨by (with_reducible repeat (first | apply Kd.bB | apply Kd.bC | apply Kd.bD));exact Kd.aK HO299.out (fun _ hk=>hk.1.1)⟩,⟨aq⟩⟩
    ·
     rw [if_neg ef] at H;have c10b0:decide (65535<t287)=false:=decide_eq_false ef;clear ef
     (first | rw [c10b0] | (simp only [cC,dw];rw [c10b0]) | skip)
     by_cases c12:t287 > (t297.length:Int)
     ·
      rw [if_pos c12] at H;have c12b0:decide ((t297.length:Int)<t287)=true:=decide_eq_true c12;clear c12
      have H':=aS H
      clear H
      try go_wp2
      replace HO0:=aS (Kd.eS HO0.out);replace HO291:=aS (Kd.bD HO291.out);replace HO296:=aS (Kd.eS HO296.out);replace HO299:=aS (Kd.bD HO299.out);replace HB:=aS (jS HB.out);obtain ⟨Ao14,co14,eo14⟩:=Kd.bp HO299.out
      (first | subst eo14 | (injection eo14 with f1_ f2_ f3_;have f4_:=f1_.symm;have f5_:=f3_.symm;clear f1_ f2_ f3_;subst f4_;subst f5_))
      refine di (n:=25) (S:=fun w'=>True) (ds:=[]) (bA 25 0) (by kernel_rfl) rfl rfl trivial (fun hHeld=>?_);refine cD bW.qX bW.oJ (fun HT_ HW_=>?_)
      generalize w9.drew=w13 at HO0 HO291 HO296 HO299 HB hHeld ⊢
      refine aZ [(0,21),(1,22),(2,23),(3,24),(4,25),(5,26),(6,27),(7,28),(8,29),(9,30),(10,31),(11,32),(12,33),(13,34),(14,35),(15,36),(16,37),(17,38),(18,39),(19,40),(20,41),(21,42),(22,43),(23,44),(24,45)] ?_
      iterate 25 (first | (refine nR HT_ ?_) | (refine ck HT_ ?_))
      refine bT (bA 25 33554431) (by kernel_rfl) ?_;refine fX HT_ ?_
      try go_wp2
      go_meet
      case rel=>exact ⟨_,(true),cG,H',⟨by first | omega | exact Nat.le_refl _⟩,⟨by (with_reducible repeat (first | apply Kd.bB | apply Kd.bC | apply Kd.bD));exact Kd.aK HO299.out (fun _ hk=>hk.1.1)⟩,⟨aq⟩⟩
     ·
      rw [if_neg c12] at H;have c12b0:decide ((t297.length:Int)<t287)=false:=decide_eq_false c12;clear c12;have c15b0:=eq_true (bJ:12≤(l0.length:Int))
      obtain ⟨y300,hy300⟩:∃ y_:List Int,y_=(l0.take 12):=⟨_,rfl⟩
      (first | replace H:=l9 hy300 H | rw [←hy300] at H);have Ny300:=aS hy300;clear hy300
      by_cases c16:4≤(l0.length:Int)
      ·
       rw [if_pos c16] at H;have c16b0:=eq_true c16;have c16b1:decide (4≤(l0.length:Int))=true:=decide_eq_true c16;clear c16
       obtain ⟨y305,hy305⟩:∃ y_:List Int,y_=(l0.take 4):=⟨_,rfl⟩
       replace H:((d9.f k y305).bind fun t310=>(if 0≤t287 then (if t287≤(t297.length:Int) then ((d9.f k (t297.take (t287:Int).toNat)).bind fun t318=>((bX.f (([y305,t310,t318]:List (List Int)))).bind fun t324=>((aV.f k y300 t324).bind fun t327=>(bW.j0 k t287 t297 (!t327))))) else (none)) else (none)))=some (r1,r2,r3):=pU hy305 H;have Ny305:=aS hy305;clear hy305;replace H:=bU H;obtain ⟨t310,A170,H⟩:=H;have A17:=aS A170;clear A170
       by_cases c18:0≤t287
       ·
        rw [if_pos c18] at H;have c18b0:=eq_true c18;have c18b1:decide (0≤t287)=true:=decide_eq_true c18;clear c18
        by_cases c19:t287≤(t297.length:Int)
        ·
         rw [if_pos c19] at H;have c19b0:=eq_true c19;have c19b1:decide (t287≤(t297.length:Int))=true:=decide_eq_true c19;clear c19
         obtain ⟨y313,hy313⟩:∃ y_:List Int,y_=(t297.take (t287:Int).toNat):=⟨_,rfl⟩
         replace H:((d9.f k y313).bind fun t318=>((bX.f (([y305,t310,t318]:List (List Int)))).bind fun t324=>((aV.f k y300 t324).bind fun t327=>(bW.j0 k t287 t297 (!t327)))))=some (r1,r2,r3):=pU hy313 H;have Ny313:=aS hy313;clear hy313;replace H:=bU H;obtain ⟨t318,A200,H⟩:=H;have A20:=aS A200;clear A200
         obtain ⟨y321,hy321⟩:∃ y_:List (List Int),y_=(([y305,t310,t318]:List (List Int))):=⟨_,rfl⟩
         (first | replace H:=l9 hy321 H | rw [←hy321] at H);have Ny321:=aS hy321;clear hy321;replace H:=bU H;obtain ⟨t324,A210,H⟩:=H;have A21:=aS A210;clear A210;replace H:=bU H;obtain ⟨t327,A220,H⟩:=H;have A22:=aS A220;clear A220
         have H':=aS H
         clear H
         try go_wp2
         replace HO0:=aS (Kd.eS HO0.out);replace HO291:=aS (Kd.bD HO291.out);replace HO296:=aS (Kd.eS HO296.out);replace HO299:=aS (Kd.bD HO299.out);replace HB:=aS (jS HB.out);obtain ⟨Ao24,co24,eo24⟩:=Kd.bp HO299.out
         (first | subst eo24 | (injection eo24 with f1_ f2_ f3_;have f4_:=f1_.symm;have f5_:=f3_.symm;clear f1_ f2_ f3_;subst f4_;subst f5_))
         have q25:(12:Int)≤((l0.length:Int):Int):=bJ;obtain ⟨i025,hi025,_,hsz25,_⟩:=info_parts gL;have hroom25:l0.length≤c0:=(Kd.dJ HO0.out).2.1;have hC25:Kd.F (Kd.int .u8) _ _ A0 l0.length l0:=(Kd.oy (base:=w.heap.size) HO0.out).2.2;have hcut25:=jO (P:=Tryz.prog) 51 5 .i64 Tryz.underlying51 hi025 A0 l0.length c0 12 (by omega) q25 hroom25;have hr25:=Kd.sH (m:=12) hC25 (by omega);have hy25:y300.length=(12:Int).toNat:=(by rw [Ny300.out,kY];omega);rw [←Ny300.out] at hr25;rw [←hy25] at hcut25;have HO304:=aS (show Kd.V (Kd.int .u8) 5 _ w.heap.size _ (.slice A0 y300.length c0) y300 from Kd.nE (by omega) hr25);have HC304:=aS (show y300.length≤c0 from by omega);clear hr25 hC25 hroom25 hi025 hsz25;have KY25:=aS hy25;clear hy25;replace q25:=eq_true q25;have q26:(4:Int)≤((l0.length:Int):Int):=bJ;obtain ⟨i026,hi026,_,hsz26,_⟩:=info_parts gL;have hroom26:l0.length≤c0:=(Kd.dJ HO0.out).2.1;have hC26:Kd.F (Kd.int .u8) _ _ A0 l0.length l0:=(Kd.oy (base:=w.heap.size) HO0.out).2.2;have hcut26:=jO (P:=Tryz.prog) 51 5 .i64 Tryz.underlying51 hi026 A0 l0.length c0 4 (by omega) q26 hroom26;have hr26:=Kd.sH (m:=4) hC26 (by omega);have hy26:y305.length=(4:Int).toNat:=(by rw [Ny305.out,kY];omega);rw [←Ny305.out] at hr26;rw [←hy26] at hcut26;have HO309:=aS (show Kd.V (Kd.int .u8) 5 _ w.heap.size _ (.slice A0 y305.length c0) y305 from Kd.nE (by omega) hr26);have HC309:=aS (show y305.length≤c0 from by omega);clear hr26 hC26 hroom26 hi026 hsz26;have KY26:=aS hy26;clear hy26;replace q26:=eq_true q26;have q27:(t287:Int)≤((t297.length:Int):Int):=bJ;obtain ⟨i027,hi027,_,hsz27,_⟩:=info_parts gL;have hroom27:t297.length≤co24:=(Kd.aY HO299.out).2.1;have hC27:Kd.F (Kd.int .u8) _ _ Ao24 t297.length t297:=(Kd.oy (base:=w.heap.size) (Kd.ep (ok':=(fun k_=>(((P0_ k_∨w.heap.size≤k_)∧True)∧some k_≠(v290:Value).ownBlock))) (Kd.wC HO299.out) (fun k_ hk=>⟨⟨(.inr (hk.1.1)),trivial⟩,hk.2⟩))).2.2;have hcut27:=jO (P:=Tryz.prog) 51 5 .i64 Tryz.underlying51 hi027 Ao24 t297.length co24 t287 (bJ) q27 hroom27;have hr27:=Kd.sH (m:=(t287:Int).toNat) hC27 (by omega);have hy27:y313.length=(t287:Int).toNat:=(by rw [Ny313.out,kY];omega);rw [←Ny313.out] at hr27;rw [←hy27] at hcut27;have HO317:=aS (show Kd.V (Kd.int .u8) 5 _ w.heap.size _ (.slice Ao24 y313.length co24) y313 from Kd.nE (by omega) hr27);have HC317:=aS (show y313.length≤co24 from by omega);clear hr27 hC27 hroom27 hi027 hsz27;have KY27:=aS hy27;clear hy27;replace q27:=eq_true q27;refine di (n:=25) (S:=fun w'=>True) (ds:=[]) (bA 25 0) (by kernel_rfl) rfl rfl trivial (fun hHeld=>?_);refine cD bW.qX bW.oJ (fun HT_ HW_=>?_)
         generalize w9.drew=w23 at HO0 HO291 HO296 HO299 HB HO304 HO309 HO317 hHeld ⊢
         refine aZ [(0,21),(1,22),(2,23),(3,24),(4,25),(5,26),(6,27),(7,28),(8,29),(9,30),(10,31),(11,32),(12,33),(13,34),(14,35),(16,37),(17,38),(18,39)] ?_
         iterate 18 (refine ck HT_ ?_)
         refine bT (bA 25 491519) (by kernel_rfl) ?_;refine dH 15 (N:=some 36) (bA 25 524287) HT_ (fun K hK=>?_);refine gb Tryz.func102 #[.slice A0 y305.length c0] ?_
         with_reducible refine (d9.calls k _ _ y305 t310 _ ?side1 ?side2 A17.out).mono ?_
         (case side1=>exact eH ((Kd.dJ HO309.out).2.2))
         (case side2=>exact (Kd.dJ HO309.out).2.1)
         rintro e w28 ⟨v311,rfl,ho0,hb⟩
         refine ⟨_,rfl,?_⟩;replace HO0:=aS (Kd.cZ (sel HO0.out) (dm ho0) hb);replace HO296:=aS (Kd.cZ (sel HO296.out) (dm ho0) hb);replace HO304:=aS (Kd.cZ (sel HO304.out) (dm ho0) hb);replace HO309:=aS (Kd.cZ (sel HO309.out) (dm ho0) hb);replace HO317:=aS (Kd.cZ (sel HO317.out) (dm ho0) hb);have HO312:=aS (Kd.bn (Kd.cK (Kd.cK (Kd.j6 (M:=fun k_=>(w.heap.size≤k_)) ho0 (aA aq) (fun k_ h_=>h_)) (Kd.cP (rel HO291.out))) (Kd.cP (rel HO299.out))) (aA aq));replace HO291:=aS (Kd.bY (rel HO291.out) (dm ho0) hb);replace HO299:=aS (Kd.bY (rel HO299.out) (dm ho0) hb);replace HB:=aM hb;(try clear hb);(try clear hk);(try clear hi);(try clear ho0);refine hK.out _ _ trivial (fun hHeld=>?_);clear hK K;refine nm 36 ?_;refine dH 19 (N:=some 40) (bA 25 1048575) HT_ (fun K hK=>?_);refine gb Tryz.func102 #[.slice Ao24 y313.length co24] ?_
         with_reducible refine (d9.calls k _ _ y313 t318 _ ?side1 ?side2 A20.out).mono ?_
         (case side1=>exact eH ((Kd.dJ HO317.out).2.2))
         (case side2=>exact (Kd.dJ HO317.out).2.1)
         rintro e w29 ⟨v319,rfl,ho0,hb⟩
         refine ⟨_,rfl,?_⟩;replace HO0:=aS (Kd.cZ (sel HO0.out) (dm ho0) hb);replace HO296:=aS (Kd.cZ (sel HO296.out) (dm ho0) hb);replace HO304:=aS (Kd.cZ (sel HO304.out) (dm ho0) hb);replace HO309:=aS (Kd.cZ (sel HO309.out) (dm ho0) hb);replace HO317:=aS (Kd.cZ (sel HO317.out) (dm ho0) hb);have HO320:=aS (Kd.bn (Kd.cK (Kd.cK (Kd.cK (Kd.j6 (M:=fun k_=>(w.heap.size≤k_)) ho0 (aA aq) (fun k_ h_=>h_)) (Kd.cP (rel HO291.out))) (Kd.cP (rel HO299.out))) (Kd.cP (rel HO312.out))) (aA aq));replace HO291:=aS (Kd.bY (rel HO291.out) (dm ho0) hb);replace HO299:=aS (Kd.bY (rel HO299.out) (dm ho0) hb);replace HO312:=aS (Kd.bY (rel HO312.out) (dm ho0) hb);replace HB:=aM hb;(try clear hb);(try clear hk);(try clear hi);(try clear ho0);obtain ⟨Ao30,co30,eo30⟩:=Kd.bp HO312.out
         (first | subst eo30 | (injection eo30 with f1_ f2_ f3_;have f4_:=f1_.symm;have f5_:=f3_.symm;clear f1_ f2_ f3_;subst f4_;subst f5_))
         obtain ⟨Ao31,co31,eo31⟩:=Kd.bp HO320.out
         (first | subst eo31 | (injection eo31 with f1_ f2_ f3_;have f4_:=f1_.symm;have f5_:=f3_.symm;clear f1_ f2_ f3_;subst f4_;subst f5_))
         refine hK.out _ _ trivial (fun hHeld=>?_);clear hK K;refine nm 40 ?_;refine dH 20 (N:=some 41) (bA 25 2097151) HT_ (fun K hK=>?_)
         refine Kd.uK (Kd.slice 5 (Kd.int .u8)) _ 51 ?hg (N':=41) ?hd (xs:=([y305,t310,t318]:List (List Int))) (inner:=[.slice A0 y305.length c0,.slice Ao30 t310.length co30,.slice Ao31 t318.length co31]) (ok:=(fun k_=>(P0_ k_∨w.heap.size≤k_)∧some k_≠(v290:Value).ownBlock∧some k_≠(.slice Ao24 t297.length co24:Value).ownBlock)) (okp:=(fun k_=>(P0_ k_∨w.heap.size≤k_)∧some k_≠(v290:Value).ownBlock∧some k_≠(.slice Ao24 t297.length co24:Value).ownBlock)) ?hr ?hp (fun _ hk=>hk) ((show ∀ k_,w29.heap.size≤k_→(fun k_=>(P0_ k_∨w.heap.size≤k_)∧some k_≠(v290:Value).ownBlock∧some k_≠(.slice Ao24 t297.length co24:Value).ownBlock) k_ from fun k_ hk=>⟨(.inr (Nat.le_trans (aA aq) hk)),Kd.iD (Kd.cP (rel HO291.out)) k_ hk,Kd.iD (Kd.cP (rel HO299.out)) k_ hk⟩) _ (Nat.le_refl _)) (Below.refl _ _) (Nat.le_refl _) (by simp) ?_;(case hd=>rfl);(case hg=>rfl);(case hr=>first | (go_simp;done) | (go_simp;rfl));(case hp=>exact (bP.one (show Kd.FK (Kd.slice 5 (Kd.int .u8)) _ _ y305 [.slice A0 y305.length c0] from (Kd.eE (Kd.dJ (Kd.ep (ok':=(fun k_=>(P0_ k_∨w.heap.size≤k_)∧some k_≠(v290:Value).ownBlock∧some k_≠(.slice Ao24 t297.length co24:Value).ownBlock)) (HO309.out) (fun k_ hk=>⟨hk.1.1.1.1,⟨hk.1.1.1.2,hk.1.1.2⟩⟩))).2.1 (Kd.V_F (Kd.ep (ok':=(fun k_=>(P0_ k_∨w.heap.size≤k_)∧some k_≠(v290:Value).ownBlock∧some k_≠(.slice Ao24 t297.length co24:Value).ownBlock)) (HO309.out) (fun k_ hk=>⟨hk.1.1.1.1,⟨hk.1.1.1.2,hk.1.1.2⟩⟩))))) (bP.one (show Kd.FK (Kd.slice 5 (Kd.int .u8)) _ _ t310 [.slice Ao30 t310.length co30] from (Kd.eE (Kd.aY (Kd.aK (ok':=(fun k_=>(P0_ k_∨w.heap.size≤k_)∧some k_≠(v290:Value).ownBlock∧some k_≠(.slice Ao24 t297.length co24:Value).ownBlock)) (HO312.out) (fun k_ hk=>⟨(.inr (hk.1.1.1.1)),⟨hk.1.1.2,hk.1.2⟩⟩))).2.1 (Kd.oq (Kd.aK (ok':=(fun k_=>(P0_ k_∨w.heap.size≤k_)∧some k_≠(v290:Value).ownBlock∧some k_≠(.slice Ao24 t297.length co24:Value).ownBlock)) (HO312.out) (fun k_ hk=>⟨(.inr (hk.1.1.1.1)),⟨hk.1.1.2,hk.1.2⟩⟩))))) (bP.one (show Kd.FK (Kd.slice 5 (Kd.int .u8)) _ _ t318 [.slice Ao31 t318.length co31] from (Kd.eE (Kd.aY (Kd.aK (ok':=(fun k_=>(P0_ k_∨w.heap.size≤k_)∧some k_≠(v290:Value).ownBlock∧some k_≠(.slice Ao24 t297.length co24:Value).ownBlock)) (HO320.out) (fun k_ hk=>⟨(.inr (hk.1.1.1.1)),⟨hk.1.1.2,hk.1.2⟩⟩))).2.1 (Kd.oq (Kd.aK (ok':=(fun k_=>(P0_ k_∨w.heap.size≤k_)∧some k_≠(v290:Value).ownBlock∧some k_≠(.slice Ao24 t297.length co24:Value).ownBlock)) (HO320.out) (fun k_ hk=>⟨(.inr (hk.1.1.1.1)),⟨hk.1.1.2,hk.1.2⟩⟩))))) (bP.none _ _)))))
         intro v322 w32 ho33 hb hg_ hnew_
         clear hg_ hnew_
         (first | rw [←Ny321.out] at ho33 | (simp only [Int.reduceToNat] at ho33;rw [←Ny321.out] at ho33))
         have n0_:=aS (Kd.cZ (sel HO0.out) (by first | exact Kd.qB ho33 | exact Kd.kJ ho33 | exact Kd.gi ho33 | exact Kd.V_base ho33) hb);have n1_:=aS (Kd.dB (rel HO291.out) hb);have n2_:=aS (Kd.cZ (sel HO296.out) (by first | exact Kd.qB ho33 | exact Kd.kJ ho33 | exact Kd.gi ho33 | exact Kd.V_base ho33) hb);have n3_:=aS (Kd.dB (rel HO299.out) hb);have n4_:=aS (Kd.cZ (sel HO304.out) (by first | exact Kd.qB ho33 | exact Kd.kJ ho33 | exact Kd.gi ho33 | exact Kd.V_base ho33) hb);have n5_:=aS (Kd.cZ (sel HO309.out) (by first | exact Kd.qB ho33 | exact Kd.kJ ho33 | exact Kd.gi ho33 | exact Kd.V_base ho33) hb);have n6_:=aS (Kd.cZ (sel HO317.out) (by first | exact Kd.qB ho33 | exact Kd.kJ ho33 | exact Kd.gi ho33 | exact Kd.V_base ho33) hb);have n7_:=aS (Kd.qz ho33 (aA aq));have n8_:=aM hb;clear HO0;clear HO291;clear HO296;clear HO299;clear HO304;clear HO309;clear HO317;clear HB;clear HO312;clear HO320;have HO0:=n0_;have HO291:=n1_;have HO296:=n2_;have HO299:=n3_;have HO304:=n4_;have HO309:=n5_;have HO317:=n6_;have HO323:=n7_;have HB:=n8_;clear n0_ n1_ n2_ n3_ n4_ n5_ n6_ n7_ n8_;clear hb ho33;obtain ⟨Ao34,co34,eo34⟩:=Kd.qq HO323.out
         (first | subst eo34 | (injection eo34 with f1_ f2_ f3_;have f4_:=f1_.symm;have f5_:=f3_.symm;clear f1_ f2_ f3_;subst f4_;subst f5_))
         refine hK.out _ _ trivial (fun hHeld=>?_);clear hK K;refine nm 41 ?_;refine dH 21 (N:=some 42) (bA 25 4194303) HT_ (fun K hK=>?_);refine gb Tryz.func84 #[.slice Ao34 y321.length co34] ?_
         with_reducible refine (bX.calls _ _ y321 t324 _ ?side1 ?side2 A21.out).mono ?_
         (case side1=>exact eH ((Kd.j3 HO323.out).2.2))
         (case side2=>exact (Kd.j3 HO323.out).2.1)
         rintro e w35 ⟨v325,rfl,ho0,hb⟩
         refine ⟨_,rfl,?_⟩;replace HO0:=aS (Kd.cZ (sel HO0.out) (dm ho0) hb);replace HO296:=aS (Kd.cZ (sel HO296.out) (dm ho0) hb);replace HO304:=aS (Kd.cZ (sel HO304.out) (dm ho0) hb);replace HO309:=aS (Kd.cZ (sel HO309.out) (dm ho0) hb);replace HO317:=aS (Kd.cZ (sel HO317.out) (dm ho0) hb);replace HO323:=aS (Kd.pG (by (with_reducible repeat (first | apply Kd.oR | apply Kd.oV | apply Kd.qv));exact HO323.out) (dm ho0) hb);have HO326:=aS (Kd.bn (Kd.cK (Kd.cK (Kd.j6 (M:=fun k_=>(w.heap.size≤k_)) ho0 (aA aq) (fun k_ h_=>h_)) (Kd.cP (rel HO291.out))) (Kd.cP (rel HO299.out))) (aA aq));replace HO291:=aS (Kd.bY (rel HO291.out) (dm ho0) hb);replace HO299:=aS (Kd.bY (rel HO299.out) (dm ho0) hb);replace HB:=aM hb;(try clear hb);(try clear hk);(try clear hi);(try clear ho0);obtain ⟨Ao36,co36,eo36⟩:=Kd.bp HO326.out
         (first | subst eo36 | (injection eo36 with f1_ f2_ f3_;have f4_:=f1_.symm;have f5_:=f3_.symm;clear f1_ f2_ f3_;subst f4_;subst f5_))
         refine hK.out _ _ trivial (fun hHeld=>?_);clear hK K;refine nm 42 ?_;refine dH 22 (N:=some 43) (bA 25 8388607) HT_ (fun K hK=>?_);refine gb Tryz.func75 #[.slice A0 y300.length c0,.slice Ao36 t324.length co36] ?_
         with_reducible refine (aV.calls k _ _ y300 _ _ t324 t327 _ ?side1 ?side2 ?side3 ?side4 A22.out).mono ?_
         (case side1=>exact eH ((Kd.dJ HO304.out).2.2))
         (case side2=>exact (Kd.dJ HO304.out).2.1)
         (case side3=>exact eH ((Kd.aY HO326.out).2.2))
         (case side4=>exact (Kd.aY HO326.out).2.1)
         rintro e w' ⟨rfl,⟨nd,rfl⟩⟩
         refine ⟨_,rfl,?_⟩;refine hK.out _ _ trivial (fun hHeld=>?_);clear hK K;refine nm 43 ?_;refine aZ [(23,44),(24,45)] ?_
         iterate 2 (refine ck HT_ ?_)
         refine bT (bA 25 33554431) (by kernel_rfl) ?_;refine fX HT_ ?_
         try go_wp2
         go_meet
         case rel=>exact ⟨_,(!t327),cG,H',⟨by first | omega | exact Nat.le_refl _⟩,⟨by (with_reducible repeat (first | apply Kd.bB | apply Kd.bC | apply Kd.bD));exact Kd.aK HO299.out (fun _ hk=>hk.1.1.1.1.1)⟩,⟨aq⟩⟩
        ·
         rw [if_neg c19] at H;exact absurd H (by simp)
       ·
        rw [if_neg c18] at H;exact absurd H (by simp)
      ·
       rw [if_neg c16] at H;exact absurd H (by simp)
   case rest=>
    clear HC6;(try clear c8);obtain ⟨kq,x45_5,rfl,HA,HJ5,HO_8,HB⟩:=hcut
    cases kq with
    | zero=>exact absurd HA.out (by simp [bW.j0])
    | succ kj5=>
     have H:=HA.out;clear HA
     simp only [bW.j0] at H
     by_cases c37:x45_5=true
     ·
      subst c37
      replace H:=jy H
      simp only [Option.some.injEq,Prod.mk.injEq] at H
      obtain ⟨rfl,rfl,rfl⟩:=H
      go_wp2
      go_ret3
      exact ⟨_,_,dP,Kd.fJ _ _ _ _ _,Kd.fJ _ _ _ _ _,aq⟩
     ·
      replace c37:=Bool.eq_false_iff.mpr c37;subst c37
      replace H:=jw H
      by_cases c38:0≤t287
      ·
       rw [if_pos c38] at H;have c38b0:=eq_true c38;have c38b1:decide (0≤t287)=true:=decide_eq_true c38;clear c38
       by_cases c39:t287≤(t297.length:Int)
       ·
        rw [if_pos c39] at H;have c39b0:=eq_true c39;have c39b1:decide (t287≤(t297.length:Int))=true:=decide_eq_true c39;clear c39
        obtain ⟨y328,hy328⟩:∃ y_:List Int,y_=(t297.take (t287:Int).toNat):=⟨_,rfl⟩
        replace H:(some (y328,(t297.drop (t287:Int).toNat),true))=some (r1,r2,r3):=pU hy328 H;have Ny328:=aS hy328;clear hy328;have c40b0:=eq_true (bJ:0≤t287);have c41b0:=eq_true (bJ:t287≤(t297.length:Int))
        obtain ⟨y333,hy333⟩:∃ y_:List Int,y_=(t297.drop (t287:Int).toNat):=⟨_,rfl⟩
        replace H:(some (y328,y333,true))=some (r1,r2,r3):=pU hy333 H;have Ny333:=aS hy333;clear hy333
        simp only [Option.some.injEq,Prod.mk.injEq] at H
        obtain ⟨rfl,rfl,rfl⟩:=H
        try go_wp2
        replace HO_8:=aS (Kd.bD HO_8.out);replace HB:=aS (jS HB.out);obtain ⟨Ao44,co44,eo44⟩:=Kd.bp HO_8.out
        (first | subst eo44 | (injection eo44 with f1_ f2_ f3_;have f4_:=f1_.symm;have f5_:=f3_.symm;clear f1_ f2_ f3_;subst f4_;subst f5_))
        have q43:(t287:Int)≤((t297.length:Int):Int):=bJ;obtain ⟨i043,hi043,_,hsz43,_⟩:=info_parts gL;have hroom43:t297.length≤co44:=(Kd.aY HO_8.out).2.1;have hC43:Kd.F (Kd.int .u8) _ _ Ao44 t297.length t297:=(Kd.oy (base:=w.heap.size) (Kd.ep (ok':=(fun k_=>(P0_ k_∨w.heap.size≤k_))) (Kd.wC HO_8.out) (fun k_ hk=>(.inr (hk))))).2.2;have hcut43:=E0 (P:=Tryz.prog) 51 5 .i64 Tryz.underlying51 hi043 Ao44 t297.length co44 t287 (bJ) q43 hroom43;have hr43:=Kd.sH (m:=(t287:Int).toNat) hC43 (by omega);have hy43:y328.length=(t287:Int).toNat:=(by rw [Ny328.out,kY];omega);rw [←Ny328.out] at hr43;rw [←hy43] at hcut43;have HO332:=aS (show Kd.V (Kd.int .u8) 5 _ w.heap.size _ (.slice Ao44 y328.length y328.length) y328 from Kd.nE (by omega) hr43);have HC332:=aS (show y328.length≤y328.length from by omega);clear hr43 hC43 hroom43 hi043 hsz43;have KY43:=aS hy43;clear hy43;replace q43:=eq_true q43;have q45:(t287:Int)≤((t297.length:Int):Int):=bJ;obtain ⟨i045,hi045,_,hsz45,_⟩:=info_parts gL;have hroom45:t297.length≤co44:=(Kd.aY HO_8.out).2.1;have hC45:Kd.F (Kd.int .u8) _ _ Ao44 t297.length t297:=(Kd.oy (base:=w.heap.size) (Kd.ep (ok':=(fun k_=>(P0_ k_∨w.heap.size≤k_))) (Kd.wC HO_8.out) (fun k_ hk=>(.inr (hk))))).2.2;have q045:(0:Int)≤(t287:Int):=bJ;have hcut45:=gI (P:=Tryz.prog) 51 5 .i64 Tryz.underlying51 hi045 1 hsz45 Ao44 t297.length co44 t287 q045 q45;have hr45:=Kd.Bo (m:=(t287:Int).toNat) (c:=co44) hC45 (by omega) hroom45
        obtain ⟨A45,hA45⟩:∃ A1_,A1_=(if co44=(t287:Int).toNat then Ao44 else (Ao44:Option Addr).map (·.add ((t287:Int).toNat*1))):=⟨_,rfl⟩
        obtain ⟨c45,hc45⟩:∃ c1_,c1_=co44 - (t287:Int).toNat:=⟨_,rfl⟩
        have hy45:y333.length=t297.length - (t287:Int).toNat:=(by rw [Ny333.out,mh]<;>omega);rw [show (t297).drop (t287:Int).toNat=y333 from Ny333.out.symm] at hr45;replace hr45:Kd.F (Kd.int .u8) _ _ A45 y333.length y333:=(by rw [hA45];exact hr45);rw [←hy45,← hA45,← hc45] at hcut45;have HO337:=aS (show Kd.V (Kd.int .u8) 5 _ w.heap.size _ (.slice A45 y333.length c45) y333 from Kd.nE (by rw [hy45,hc45];exact Nat.sub_le_sub_right hroom45 _) hr45);have HC337:=aS (show y333.length≤c45 from by rw [hy45,hc45];exact Nat.sub_le_sub_right hroom45 _);clear hr45 hC45 hroom45 hi045 hsz45 hc45;have KY45:=aS hy45;have KA45:=aS hA45;clear hy45 hA45;replace q45:=eq_true q45;refine di (n:=10) (S:=fun w'=>True) (ds:=[]) (bA 10 0) (by kernel_rfl) rfl rfl trivial (fun hHeld=>?_);refine cD bW.He bW.F9 (fun HT_ HW_=>?_)
        generalize wc.drew=w42 at HO_8 HB HO332 HO337 hHeld ⊢
        refine aZ [(0,46),(1,47),(2,48),(3,49),(4,50),(5,51),(6,52),(7,2),(8,3),(9,4)] ?_
        iterate 10 (refine ck HT_ ?_)
        refine bT (bA 10 1023) (by kernel_rfl) ?_;refine fX HT_ ?_
        try go_wp2
        go_ret3
        exact ⟨_,_,dP,by (with_reducible repeat (first | apply Kd.fw | apply Kd.fu | apply Kd.eS));exact HO332.out,by (with_reducible repeat (first | apply Kd.fw | apply Kd.fu | apply Kd.eS));exact HO337.out,aq⟩
       ·
        rw [if_neg c39] at H;exact absurd H (by simp)
      ·
       rw [if_neg c38] at H;exact absurd H (by simp)
  ·
   rw [if_neg c4] at H;exact absurd H (by simp)
def d_.f (k:Nat) (l0:List Int):Option (ByteArray × List Int × Bool):=(bq.f k l0).bind fun bt338=>(if bt338.2.2=true then (if bt338.1 > (bt338.2.1.length:Int) then (some ((⟨#[]⟩:ByteArray),([]:List Int),false)) else (if 0≤bt338.1 then (if bt338.1≤(bt338.2.1.length:Int) then (some (strOfNums (bt338.2.1.take (bt338.1:Int).toNat),(bt338.2.1.drop (bt338.1:Int).toNat),true)) else (none)) else (none))) else (some ((⟨#[]⟩:ByteArray),([]:List Int),false)))
theorem d_.mono:∀ a0 k,aH (d_.f k a0) (d_.f (k+1) a0):=by
 intro a0 k
 unfold d_.f
 have m0:=@bq.mono;exact eF
theorem d_.calls (k:Nat) (A0:Option Addr) (c0:Nat) (l0:List Int) (r1:ByteArray) (r2:List Int) (r3:Bool) (w:World) (hr0:Kd.C (Kd.int .u8) w A0 l0.length l0) (hc0:l0.length≤c0) (h:d_.f k l0=some (r1,r2,r3)) :
  Calls Tryz.prog 105 #[.slice A0 l0.length c0] w fun e w'=>∃ v1_:Value,e = .returned (.tuple #[.string r1,v1_,.bool r3])∧Kd.Q (Kd.int .u8) 5 w' w.heap.size (fun _=>True) v1_ r2∧Below w.heap.size w w':=by
 have HR0:=aS hr0;have HC0:=aS hc0;clear hr0 hc0;have HB:=aS (Below.refl w.heap.size w);have H:((bq.f k l0).bind fun bt338=>(if bt338.2.2=true then (if bt338.1 > (bt338.2.1.length:Int) then (some ((⟨#[]⟩:ByteArray),([]:List Int),false)) else (if 0≤bt338.1 then (if bt338.1≤(bt338.2.1.length:Int) then (some (strOfNums (bt338.2.1.take (bt338.1:Int).toNat),(bt338.2.1.drop (bt338.1:Int).toNat),true)) else (none)) else (none))) else (some ((⟨#[]⟩:ByteArray),([]:List Int),false))))=some (r1,r2,r3):=h;clear h;replace H:=bU H;obtain ⟨⟨t338,t339,t340⟩,A20,H⟩:=H;(try dsimp only at H);have A2:=aS A20;clear A20
 by_cases c3:t340=true
 ·
  subst c3
  replace H:=jy H
  by_cases c4:t338 > (t339.length:Int)
  ·
   rw [if_pos c4] at H;have c4b0:decide ((t339.length:Int)<t338)=true:=decide_eq_true c4;clear c4
   simp only [Option.some.injEq,Prod.mk.injEq] at H
   obtain ⟨rfl,rfl,rfl⟩:=H
   go_enter Tryz.func105,Tryz.ntmps105
   go_wp2_with (first | (go_at_call 71;(with_reducible refine (bq.calls k _ _ l0 t338 t339 true _ ?side1 ?side2 A2.out).mono ?_);(case side1=>exact eH HR0.out);(case side2=>exact HC0.out);rintro e w5 ⟨v341,rfl,ho0,hb⟩;have HO342:=aS (Kd.bn ho0 (aA aq));replace HB:=aM hb;(try clear hb);(try clear hk);(try clear hi);(try clear ho0);obtain ⟨Ao6,co6,eo6⟩:=Kd.bp HO342.out;subst eo6))
   repeat (go_quiet (first | (go_at_call 71;(with_reducible refine (bq.calls k _ _ l0 t338 t339 true _ ?side1 ?side2 A2.out).mono ?_);(case side1=>exact eH HR0.out);(case side2=>exact HC0.out);rintro e w5 ⟨v341,rfl,ho0,hb⟩;have HO342:=aS (Kd.bn ho0 (aA aq));replace HB:=aM hb;(try clear hb);(try clear hk);(try clear hi);(try clear ho0);obtain ⟨Ao6,co6,eo6⟩:=Kd.bp HO342.out;subst eo6));try go_wp2_with (first | (go_at_call 71;(with_reducible refine (bq.calls k _ _ l0 t338 t339 true _ ?side1 ?side2 A2.out).mono ?_);(case side1=>exact eH HR0.out);(case side2=>exact HC0.out);rintro e w5 ⟨v341,rfl,ho0,hb⟩;have HO342:=aS (Kd.bn ho0 (aA aq));replace HB:=aM hb;(try clear hb);(try clear hk);(try clear hi);(try clear ho0);obtain ⟨Ao6,co6,eo6⟩:=Kd.bp HO342.out;subst eo6)))
   go_ret3
   exact ⟨_,dP,Kd.lu (by first | exact Kd.d6 _ _ _ _ _ | exact Kd.gB _ _ _ _ _ | exact Kd.fJ _ _ _ _ _ | exact Kd.gy _ _ _ _ _ | exact Kd.gE _ _ _ _ _),aq⟩
  ·
   rw [if_neg c4] at H;have c4b0:decide ((t339.length:Int)<t338)=false:=decide_eq_false c4;clear c4
   by_cases c7:0≤t338
   ·
    rw [if_pos c7] at H;have c7b0:=eq_true c7;have c7b1:decide (0≤t338)=true:=decide_eq_true c7;clear c7
    by_cases c8:t338≤(t339.length:Int)
    ·
     rw [if_pos c8] at H;have c8b0:=eq_true c8;have c8b1:decide (t338≤(t339.length:Int))=true:=decide_eq_true c8;clear c8
     obtain ⟨y343,hy343⟩:∃ y_:List Int,y_=(t339.take (t338:Int).toNat):=⟨_,rfl⟩
     (first | replace H:=l9 hy343 H | rw [←hy343] at H);have Ny343:=aS hy343;clear hy343;have c9b0:=eq_true (bJ:t338≤(t339.length:Int))
     obtain ⟨y347,hy347⟩:∃ y_:List Int,y_=(t339.drop (t338:Int).toNat):=⟨_,rfl⟩
     replace H:(some (strOfNums y343,y347,true))=some (r1,r2,r3):=pU hy347 H;have Ny347:=aS hy347;clear hy347
     simp only [Option.some.injEq,Prod.mk.injEq] at H
     obtain ⟨rfl,rfl,rfl⟩:=H
     go_enter Tryz.func105,Tryz.ntmps105
     go_wp2_with (first | (go_at_call 71;(with_reducible refine (bq.calls k _ _ l0 t338 t339 true _ ?side1 ?side2 A2.out).mono ?_);(case side1=>exact eH HR0.out);(case side2=>exact HC0.out);rintro e w10 ⟨v341,rfl,ho0,hb⟩;have HO342:=aS (Kd.bn ho0 (aA aq));replace HB:=aM hb;(try clear hb);(try clear hk);(try clear hi);(try clear ho0);obtain ⟨Ao11,co11,eo11⟩:=Kd.bp HO342.out;subst eo11;have q12:(t338:Int)≤((t339.length:Int):Int):=bJ;obtain ⟨i012,hi012,_,hsz12,_⟩:=info_parts gL;have hroom12:t339.length≤co11:=(Kd.aY HO342.out).2.1;have hC12:Kd.C (Kd.int .u8) _ Ao11 t339.length t339:=(Kd.aY HO342.out).2.2;have hcut12:=jO (P:=Tryz.prog) 51 5 .i64 Tryz.underlying51 hi012 Ao11 t339.length co11 t338 (bJ) q12 hroom12;have hr12:=Kd.pI (m:=(t338:Int).toNat) hC12 (by omega);have hy12:y343.length=(t338:Int).toNat:=(by rw [Ny343.out,kY];omega);rw [←Ny343.out] at hr12;rw [←hy12] at hcut12;have HR346:=aS hr12;have HC346:=aS (show y343.length≤co11 from by omega);clear hr12 hC12 hroom12 hi012 hsz12;have KY12:=aS hy12;clear hy12;have KL12:=aS (show (t338:Int).toNat≤t339.length from by omega);replace q12:=eq_true q12;have hcv13:=Kd.jZ (P:=Tryz.prog) (A:=Ao11) (c:=co11) Tryz.underlying51 Tryz.underlying5 Tryz.underlying9 (by repeat (first | (with_reducible exact HR346.out) | (with_reducible refine Kd.nK ?_ _) | (with_reducible refine Kd.jJ ?_ _) | (with_reducible refine Kd.ot ?_) | exact HR346.out));have hcv14:=fun (m_:Nat)=>Kd.jZ (P:=Tryz.prog) (A:=Ao11) (c:=co11) Tryz.underlying51 Tryz.underlying5 Tryz.underlying9 (Kd.jJ ((by repeat (first | (with_reducible exact HR346.out) | (with_reducible refine Kd.nK ?_ _) | (with_reducible refine Kd.jJ ?_ _) | (with_reducible refine Kd.ot ?_) | exact HR346.out))) m_);have q15:(t338:Int)≤((t339.length:Int):Int):=bJ;obtain ⟨i015,hi015,_,hsz15,_⟩:=info_parts gL;have hcut15:=gI (P:=Tryz.prog) 51 5 .i64 Tryz.underlying51 hi015 1 hsz15 Ao11 t339.length co11 t338 (bJ) q15;have hr15:=Kd.uZ (k:=(t338:Int).toNat) (Kd.lu HO342.out) (by omega);obtain ⟨A15,hA15⟩:∃ A1_,A1_=(if co11=(t338:Int).toNat then Ao11 else (Ao11:Option Addr).map (·.add ((t338:Int).toNat*1))):=⟨_,rfl⟩;obtain ⟨c15,hc15⟩:∃ c1_,c1_=co11 - (t338:Int).toNat:=⟨_,rfl⟩;have hy15:y347.length=t339.length - (t338:Int).toNat:=(by rw [Ny347.out,mh]);rw [←Ny347.out] at hr15;rw [←hy15,← hA15,← hc15] at hcut15;replace hr15:Kd.Q (Kd.int .u8) 5 w10 w.heap.size (fun _=>True) (.slice A15 y347.length c15) y347:=(by rw [hA15,hc15,hy15];exact hr15);have HE15:ah ((Value.slice A15 y347.length c15).ownBlock=(.slice Ao11 t339.length co11:Value).ownBlock):=⟨by rw [hA15];split<;>(cases (Ao11:Option Addr)<;>first | rfl | simp [Value.ownBlock,kr])⟩;clear hy15 hi015 hsz15 HO342 hA15 hc15;have HO349:=aS hr15;clear hr15;replace q15:=eq_true q15))
     repeat (go_quiet (first | (go_at_call 71;(with_reducible refine (bq.calls k _ _ l0 t338 t339 true _ ?side1 ?side2 A2.out).mono ?_);(case side1=>exact eH HR0.out);(case side2=>exact HC0.out);rintro e w10 ⟨v341,rfl,ho0,hb⟩;have HO342:=aS (Kd.bn ho0 (aA aq));replace HB:=aM hb;(try clear hb);(try clear hk);(try clear hi);(try clear ho0);obtain ⟨Ao11,co11,eo11⟩:=Kd.bp HO342.out;subst eo11;have q12:(t338:Int)≤((t339.length:Int):Int):=bJ;obtain ⟨i012,hi012,_,hsz12,_⟩:=info_parts gL;have hroom12:t339.length≤co11:=(Kd.aY HO342.out).2.1;have hC12:Kd.C (Kd.int .u8) _ Ao11 t339.length t339:=(Kd.aY HO342.out).2.2;have hcut12:=jO (P:=Tryz.prog) 51 5 .i64 Tryz.underlying51 hi012 Ao11 t339.length co11 t338 (bJ) q12 hroom12;have hr12:=Kd.pI (m:=(t338:Int).toNat) hC12 (by omega);have hy12:y343.length=(t338:Int).toNat:=(by rw [Ny343.out,kY];omega);rw [←Ny343.out] at hr12;rw [←hy12] at hcut12;have HR346:=aS hr12;have HC346:=aS (show y343.length≤co11 from by omega);clear hr12 hC12 hroom12 hi012 hsz12;have KY12:=aS hy12;clear hy12;have KL12:=aS (show (t338:Int).toNat≤t339.length from by omega);replace q12:=eq_true q12;have hcv13:=Kd.jZ (P:=Tryz.prog) (A:=Ao11) (c:=co11) Tryz.underlying51 Tryz.underlying5 Tryz.underlying9 (by repeat (first | (with_reducible exact HR346.out) | (with_reducible refine Kd.nK ?_ _) | (with_reducible refine Kd.jJ ?_ _) | (with_reducible refine Kd.ot ?_) | exact HR346.out));have hcv14:=fun (m_:Nat)=>Kd.jZ (P:=Tryz.prog) (A:=Ao11) (c:=co11) Tryz.underlying51 Tryz.underlying5 Tryz.underlying9 (Kd.jJ ((by repeat (first | (with_reducible exact HR346.out) | (with_reducible refine Kd.nK ?_ _) | (with_reducible refine Kd.jJ ?_ _) | (with_reducible refine Kd.ot ?_) | exact HR346.out))) m_);have q15:(t338:Int)≤((t339.length:Int):Int):=bJ;obtain ⟨i015,hi015,_,hsz15,_⟩:=info_parts gL;have hcut15:=gI (P:=Tryz.prog) 51 5 .i64 Tryz.underlying51 hi015 1 hsz15 Ao11 t339.length co11 t338 (bJ) q15;have hr15:=Kd.uZ (k:=(t338:Int).toNat) (Kd.lu HO342.out) (by omega);obtain ⟨A15,hA15⟩:∃ A1_,A1_=(if co11=(t338:Int).toNat then Ao11 else (Ao11:Option Addr).map (·.add ((t338:Int).toNat*1))):=⟨_,rfl⟩;obtain ⟨c15,hc15⟩:∃ c1_,c1_=co11 - (t338:Int).toNat:=⟨_,rfl⟩;have hy15:y347.length=t339.length - (t338:Int).toNat:=(by rw [Ny347.out,mh]);rw [←Ny347.out] at hr15;rw [←hy15,← hA15,← hc15] at hcut15;replace hr15:Kd.Q (Kd.int .u8) 5 w10 w.heap.size (fun _=>True) (.slice A15 y347.length c15) y347:=(by rw [hA15,hc15,hy15];exact hr15);have HE15:ah ((Value.slice A15 y347.length c15).ownBlock=(.slice Ao11 t339.length co11:Value).ownBlock):=⟨by rw [hA15];split<;>(cases (Ao11:Option Addr)<;>first | rfl | simp [Value.ownBlock,kr])⟩;clear hy15 hi015 hsz15 HO342 hA15 hc15;have HO349:=aS hr15;clear hr15;replace q15:=eq_true q15));try go_wp2_with (first | (go_at_call 71;(with_reducible refine (bq.calls k _ _ l0 t338 t339 true _ ?side1 ?side2 A2.out).mono ?_);(case side1=>exact eH HR0.out);(case side2=>exact HC0.out);rintro e w10 ⟨v341,rfl,ho0,hb⟩;have HO342:=aS (Kd.bn ho0 (aA aq));replace HB:=aM hb;(try clear hb);(try clear hk);(try clear hi);(try clear ho0);obtain ⟨Ao11,co11,eo11⟩:=Kd.bp HO342.out;subst eo11;have q12:(t338:Int)≤((t339.length:Int):Int):=bJ;obtain ⟨i012,hi012,_,hsz12,_⟩:=info_parts gL;have hroom12:t339.length≤co11:=(Kd.aY HO342.out).2.1;have hC12:Kd.C (Kd.int .u8) _ Ao11 t339.length t339:=(Kd.aY HO342.out).2.2;have hcut12:=jO (P:=Tryz.prog) 51 5 .i64 Tryz.underlying51 hi012 Ao11 t339.length co11 t338 (bJ) q12 hroom12;have hr12:=Kd.pI (m:=(t338:Int).toNat) hC12 (by omega);have hy12:y343.length=(t338:Int).toNat:=(by rw [Ny343.out,kY];omega);rw [←Ny343.out] at hr12;rw [←hy12] at hcut12;have HR346:=aS hr12;have HC346:=aS (show y343.length≤co11 from by omega);clear hr12 hC12 hroom12 hi012 hsz12;have KY12:=aS hy12;clear hy12;have KL12:=aS (show (t338:Int).toNat≤t339.length from by omega);replace q12:=eq_true q12;have hcv13:=Kd.jZ (P:=Tryz.prog) (A:=Ao11) (c:=co11) Tryz.underlying51 Tryz.underlying5 Tryz.underlying9 (by repeat (first | (with_reducible exact HR346.out) | (with_reducible refine Kd.nK ?_ _) | (with_reducible refine Kd.jJ ?_ _) | (with_reducible refine Kd.ot ?_) | exact HR346.out));have hcv14:=fun (m_:Nat)=>Kd.jZ (P:=Tryz.prog) (A:=Ao11) (c:=co11) Tryz.underlying51 Tryz.underlying5 Tryz.underlying9 (Kd.jJ ((by repeat (first | (with_reducible exact HR346.out) | (with_reducible refine Kd.nK ?_ _) | (with_reducible refine Kd.jJ ?_ _) | (with_reducible refine Kd.ot ?_) | exact HR346.out))) m_);have q15:(t338:Int)≤((t339.length:Int):Int):=bJ;obtain ⟨i015,hi015,_,hsz15,_⟩:=info_parts gL;have hcut15:=gI (P:=Tryz.prog) 51 5 .i64 Tryz.underlying51 hi015 1 hsz15 Ao11 t339.length co11 t338 (bJ) q15;have hr15:=Kd.uZ (k:=(t338:Int).toNat) (Kd.lu HO342.out) (by omega);obtain ⟨A15,hA15⟩:∃ A1_,A1_=(if co11=(t338:Int).toNat then Ao11 else (Ao11:Option Addr).map (·.add ((t338:Int).toNat*1))):=⟨_,rfl⟩;obtain ⟨c15,hc15⟩:∃ c1_,c1_=co11 - (t338:Int).toNat:=⟨_,rfl⟩;have hy15:y347.length=t339.length - (t338:Int).toNat:=(by rw [Ny347.out,mh]);rw [←Ny347.out] at hr15;rw [←hy15,← hA15,← hc15] at hcut15;replace hr15:Kd.Q (Kd.int .u8) 5 w10 w.heap.size (fun _=>True) (.slice A15 y347.length c15) y347:=(by rw [hA15,hc15,hy15];exact hr15);have HE15:ah ((Value.slice A15 y347.length c15).ownBlock=(.slice Ao11 t339.length co11:Value).ownBlock):=⟨by rw [hA15];split<;>(cases (Ao11:Option Addr)<;>first | rfl | simp [Value.ownBlock,kr])⟩;clear hy15 hi015 hsz15 HO342 hA15 hc15;have HO349:=aS hr15;clear hr15;replace q15:=eq_true q15)))
     go_ret3
     exact ⟨_,dP,by (with_reducible repeat (first | apply Kd.dW | apply Kd.dV | apply Kd.ew));exact HO349.out,aq⟩
    ·
     rw [if_neg c8] at H;exact absurd H (by simp)
   ·
    rw [if_neg c7] at H;exact absurd H (by simp)
 ·
  replace c3:=Bool.eq_false_iff.mpr c3;subst c3
  replace H:=jw H
  simp only [Option.some.injEq,Prod.mk.injEq] at H
  obtain ⟨rfl,rfl,rfl⟩:=H
  go_enter Tryz.func105,Tryz.ntmps105
  go_wp2_with (first | (go_at_call 71;(with_reducible refine (bq.calls k _ _ l0 t338 t339 false _ ?side1 ?side2 A2.out).mono ?_);(case side1=>exact eH HR0.out);(case side2=>exact HC0.out);rintro e w16 ⟨v341,rfl,ho0,hb⟩;have HO342:=aS (Kd.bn ho0 (aA aq));replace HB:=aM hb;(try clear hb);(try clear hk);(try clear hi);(try clear ho0)))
  repeat (go_quiet (first | (go_at_call 71;(with_reducible refine (bq.calls k _ _ l0 t338 t339 false _ ?side1 ?side2 A2.out).mono ?_);(case side1=>exact eH HR0.out);(case side2=>exact HC0.out);rintro e w16 ⟨v341,rfl,ho0,hb⟩;have HO342:=aS (Kd.bn ho0 (aA aq));replace HB:=aM hb;(try clear hb);(try clear hk);(try clear hi);(try clear ho0)));try go_wp2_with (first | (go_at_call 71;(with_reducible refine (bq.calls k _ _ l0 t338 t339 false _ ?side1 ?side2 A2.out).mono ?_);(case side1=>exact eH HR0.out);(case side2=>exact HC0.out);rintro e w16 ⟨v341,rfl,ho0,hb⟩;have HO342:=aS (Kd.bn ho0 (aA aq));replace HB:=aM hb;(try clear hb);(try clear hk);(try clear hi);(try clear ho0))))
  go_ret3
  exact ⟨_,dP,Kd.lu (by first | exact Kd.d6 _ _ _ _ _ | exact Kd.gB _ _ _ _ _ | exact Kd.fJ _ _ _ _ _ | exact Kd.gy _ _ _ _ _ | exact Kd.gE _ _ _ _ _),aq⟩
def jC.f (l0:List Int):Option (Bool × List Int × Bool):=if (l0.length:Int)=0 then (some (false,([]:List Int),false)) else (if 0<(l0.length:Int) then (if (rd l0 0) > 1 then (some (false,([]:List Int),false)) else (if 1≤(l0.length:Int) then (some (((rd l0 0) == 1),(l0.drop (1:Int).toNat),true)) else (none))) else (none))
theorem jC.calls (P0_:Nat→Prop) (u9000_:Value) (l0:List Int) (r1:Bool) (r2:List Int) (r3:Bool) (w0 w:World) (hB:Below w0.heap.size w0 w) (ho0:Kd.R (Kd.int .u8) 5 w w0.heap.size P0_ u9000_ l0) (h:jC.f l0=some (r1,r2,r3)) :
  Calls Tryz.prog 106 #[u9000_] w fun e w'=>∃ v1_:Value,e = .returned (.tuple #[.bool r1,v1_,.bool r3])∧Kd.Q (Kd.int .u8) 5 w' w0.heap.size (fun k_=>(P0_ k_∨w.heap.size≤k_)) v1_ r2∧Below w0.heap.size w0 w'∧Kept w w' (fun k_=>P0_ k_):=by
 have HO0:=aS (show Kd.R (Kd.int .u8) 5 w w0.heap.size (fun k_=>(P0_ k_∨w.heap.size≤k_)) u9000_ l0 from Kd.aK ho0 (fun k_ hk=>(.inl hk)));have HK:=aS (Kept.refl w (fun k_=>P0_ k_));have HW0:=aS hB.size;have HB:=aS hB;clear hB;have H:(if (l0.length:Int)=0 then (some (false,([]:List Int),false)) else (if 0<(l0.length:Int) then (if (rd l0 0) > 1 then (some (false,([]:List Int),false)) else (if 1≤(l0.length:Int) then (some (((rd l0 0) == 1),(l0.drop (1:Int).toNat),true)) else (none))) else (none)))=some (r1,r2,r3):=h;clear h
 by_cases c2:(l0.length:Int)=0
 ·
  rw [if_pos c2] at H;obtain ⟨c2b0,c2b1⟩:=jh c2;clear c2
  simp only [Option.some.injEq,Prod.mk.injEq] at H
  obtain ⟨rfl,rfl,rfl⟩:=H;obtain ⟨Ao3,co3,eo3⟩:=Kd.bp HO0.out;subst eo3
  go_enter Tryz.func106,Tryz.ntmps106
  go_wp2
  repeat (go_quiet (fail);try go_wp2)
  go_ret3
  exact ⟨_,dP,Kd.lu (by first | exact Kd.d6 _ _ _ _ _ | exact Kd.gB _ _ _ _ _ | exact Kd.fJ _ _ _ _ _ | exact Kd.gy _ _ _ _ _ | exact Kd.gE _ _ _ _ _),aq,by repeat (first | (with_reducible first | exact HK.out | apply Kept.alloc | apply Kept.drewN | apply Kept.drew) | exact HK.out)⟩
 ·
  rw [if_neg c2] at H;obtain ⟨c2b0,c2b1⟩:=iT c2
  have c2b2:¬ (l0=[]):=fun h_=>c2 (by rw [h_];rfl)
  by_cases c4:0<(l0.length:Int)
  ·
   rw [if_pos c4] at H;have c4b0:decide (0<(l0.length:Int))=true:=decide_eq_true c4;have c4b1:decide (0<l0.length)=true:=decide_eq_true (by omega);clear c4
   by_cases c5:(rd l0 0) > 1
   ·
    rw [if_pos c5] at H;have c5b0:decide (1<(rd l0 0))=true:=decide_eq_true c5;clear c5
    simp only [Option.some.injEq,Prod.mk.injEq] at H
    obtain ⟨rfl,rfl,rfl⟩:=H;obtain ⟨Ao6,co6,eo6⟩:=Kd.bp HO0.out;subst eo6;have p350:0≤(0:Int):=(by omega);have q350:0<(l0.length:Int):=bJ;obtain ⟨ad350,e350,hx350_0⟩:=Kd.iZ (Kd.aY HO0.out).2.2 0 p350 q350;cases e350;have qi350:(0<l0.length)=True:=eq_true (by omega)
    (try rw [show ((0:Int)).toNat=0 from rfl] at hx350_0)
    (try rw [Addr.add_zero'] at hx350_0)
    replace p350:=eq_true p350;replace q350:=eq_true q350
    go_enter Tryz.func106,Tryz.ntmps106
    go_wp2
    repeat (go_quiet (fail);try go_wp2)
    go_ret3
    exact ⟨_,dP,Kd.lu (by first | exact Kd.d6 _ _ _ _ _ | exact Kd.gB _ _ _ _ _ | exact Kd.fJ _ _ _ _ _ | exact Kd.gy _ _ _ _ _ | exact Kd.gE _ _ _ _ _),aq,by repeat (first | (with_reducible first | exact HK.out | apply Kept.alloc | apply Kept.drewN | apply Kept.drew) | exact HK.out)⟩
   ·
    rw [if_neg c5] at H;have c5b0:decide (1<(rd l0 0))=false:=decide_eq_false c5;clear c5
    by_cases c7:1≤(l0.length:Int)
    ·
     rw [if_pos c7] at H;have c7b0:=eq_true c7;have c7b1:decide (1≤(l0.length:Int))=true:=decide_eq_true c7;clear c7
     obtain ⟨y352,hy352⟩:∃ y_:List Int,y_=(l0.drop (1:Int).toNat):=⟨_,rfl⟩
     replace H:(some (((rd l0 0) == 1),y352,true))=some (r1,r2,r3):=pU hy352 H;have Ny352:=aS hy352;clear hy352
     simp only [Option.some.injEq,Prod.mk.injEq] at H
     obtain ⟨rfl,rfl,rfl⟩:=H;obtain ⟨Ao8,co8,eo8⟩:=Kd.bp HO0.out;subst eo8;have p350:0≤(0:Int):=(by omega);have q350:0<(l0.length:Int):=bJ;obtain ⟨ad350,e350,hx350_0⟩:=Kd.iZ (Kd.aY HO0.out).2.2 0 p350 q350;cases e350;have qi350:(0<l0.length)=True:=eq_true (by omega)
     (try rw [show ((0:Int)).toNat=0 from rfl] at hx350_0)
     (try rw [Addr.add_zero'] at hx350_0)
     replace p350:=eq_true p350;replace q350:=eq_true q350;have p351:0≤(0:Int):=(by omega);have q351:0<(l0.length:Int):=bJ;obtain ⟨ad351,e351,hx351_0⟩:=Kd.iZ (Kd.aY HO0.out).2.2 0 p351 q351
     obtain rfl:ad350=ad351:=(by injection e351)
     have qi351:(0<l0.length)=True:=eq_true (by omega)
     (try rw [show ((0:Int)).toNat=0 from rfl] at hx351_0)
     (try rw [Addr.add_zero'] at hx351_0)
     replace p351:=eq_true p351;replace q351:=eq_true q351;have q9:(1:Int)≤((l0.length:Int):Int):=bJ;obtain ⟨i09,hi09,_,hsz9,_⟩:=info_parts gL;have hcut9:=gI (P:=Tryz.prog) 51 5 .i64 Tryz.underlying51 hi09 1 hsz9 (some ad350) l0.length co8 1 (by omega) q9;have hr9:=Kd.uZ (k:=(1:Int).toNat) (Kd.lu HO0.out) (by omega)
     obtain ⟨A9,hA9⟩:∃ A1_,A1_=(if co8=(1:Int).toNat then (some ad350) else ((some ad350):Option Addr).map (·.add ((1:Int).toNat*1))):=⟨_,rfl⟩
     obtain ⟨c9,hc9⟩:∃ c1_,c1_=co8 - (1:Int).toNat:=⟨_,rfl⟩
     have hy9:y352.length=l0.length - (1:Int).toNat:=(by rw [Ny352.out,mh]);rw [←Ny352.out] at hr9;rw [←hy9,← hA9,← hc9] at hcut9;replace hr9:Kd.Q (Kd.int .u8) 5 w w0.heap.size (fun k_=>(P0_ k_∨w.heap.size≤k_)) (.slice A9 y352.length c9) y352:=(by rw [hA9,hc9,hy9];exact hr9);have HE9:ah ((Value.slice A9 y352.length c9).ownBlock=(.slice (some ad350) l0.length co8:Value).ownBlock):=⟨by rw [hA9];split<;>(cases ((some ad350):Option Addr)<;>first | rfl | simp [Value.ownBlock,kr])⟩;clear hy9 hi09 hsz9 HO0 hA9 hc9;have HO354:=aS hr9;clear hr9;replace q9:=eq_true q9
     go_enter Tryz.func106,Tryz.ntmps106
     go_wp2
     repeat (go_quiet (fail);try go_wp2)
     go_ret3
     exact ⟨_,dP,by (with_reducible repeat (first | apply Kd.dW | apply Kd.dV | apply Kd.ew));exact HO354.out,aq,by repeat (first | (with_reducible first | exact HK.out | apply Kept.alloc | apply Kept.drewN | apply Kept.drew) | exact HK.out)⟩
    ·
     rw [if_neg c7] at H;exact absurd H (by simp)
  ·
   rw [if_neg c4] at H;exact absurd H (by simp)
def dX.j0:Nat→List Int→Bool→ByteArray→ByteArray→Int→ByteArray→Bool→Option (ByteArray × ByteArray × Int × ByteArray × Bool × List Int × Bool)
 | 0,_,_,_,_,_,_,_=>none
 | k+1,x0,x54,x357000,x357001,x357002,x357003,x357004=>if x54=true then (some ((⟨#[]⟩:ByteArray),(⟨#[]⟩:ByteArray),0,(⟨#[]⟩:ByteArray),false,([]:List Int),false)) else (some (x357000,x357001,x357002,x357003,x357004,x0,true))
def dX.f (k:Nat) (l0:List Int):Option (ByteArray × ByteArray × Int × ByteArray × Bool × List Int × Bool):=(d_.f k l0).bind fun bt358=>((d_.f k bt358.2.1).bind fun bt363=>((bq.f k bt363.2.1).bind fun bt368=>((jC.f bt368.2.1).bind fun bt373=>((d_.f k bt373.2.1).bind fun bt378=>(if (!bt358.2.2 || (!bt363.2.2 || (!bt368.2.2 || (!bt373.2.2 || (!bt378.2.2)))))=true then (dX.j0 k bt378.2.1 true bt358.1 bt363.1 bt368.1 bt378.1 bt373.1) else ((eL.f bt358.1 bt363.1 bt368.1 bt378.1 bt373.1).bind fun t383=>(dX.j0 k bt378.2.1 (!t383) bt358.1 bt363.1 bt368.1 bt378.1 bt373.1)))))))
theorem dX.cF:∀ k,(∀ y0 y1 y2 y3 y4 y5 y6,aH (dX.j0 k y0 y1 y2 y3 y4 y5 y6) (dX.j0 (k+1) y0 y1 y2 y3 y4 y5 y6))
 | 0=>fun _ _ _ _ _ _ _ r h=>by simp [dX.j0] at h
 | k+1=>by
  have ih0:=dX.cF k
  ·
   intro y0 y1 y2 y3 y4 y5 y6
   unfold dX.j0
   have m0:=@bq.mono;have m1:=@d_.mono;exact eF
theorem dX.mono:∀ a0 k,aH (dX.f k a0) (dX.f (k+1) a0):=by
 intro a0 k
 have ih0:=dX.cF k
 unfold dX.f
 have m0:=@bq.mono;have m1:=@d_.mono;exact eF
theorem dX.calls (k:Nat) (A0:Option Addr) (c0:Nat) (l0:List Int) (r1:ByteArray) (r2:ByteArray) (r3:Int) (r4:ByteArray) (r5:Bool) (r6:List Int) (r7:Bool) (w:World) (hr0:Kd.C (Kd.int .u8) w A0 l0.length l0) (hc0:l0.length≤c0) (h:dX.f k l0=some (r1,r2,r3,r4,r5,r6,r7)) :
  Calls Tryz.prog 103 #[.slice A0 l0.length c0] w fun e w'=>∃ v5_:Value,e = .returned (.tuple #[.agg #[.string r1,.string r2,.int .i64 r3,.string r4,.bool r5],v5_,.bool r7])∧Kd.Q (Kd.int .u8) 5 w' w.heap.size (fun _=>True) v5_ r6∧Below w.heap.size w w':=by
 have hu34:=Tryz.underlying34;have hu149:=Tryz.underlying149;have HR0:=aS hr0;have HC0:=aS hc0;clear hr0 hc0;have HB:=aS (Below.refl w.heap.size w);have H:((d_.f k l0).bind fun bt358=>((d_.f k bt358.2.1).bind fun bt363=>((bq.f k bt363.2.1).bind fun bt368=>((jC.f bt368.2.1).bind fun bt373=>((d_.f k bt373.2.1).bind fun bt378=>(if (!bt358.2.2 || (!bt363.2.2 || (!bt368.2.2 || (!bt373.2.2 || (!bt378.2.2)))))=true then (dX.j0 k bt378.2.1 true bt358.1 bt363.1 bt368.1 bt378.1 bt373.1) else ((eL.f bt358.1 bt363.1 bt368.1 bt378.1 bt373.1).bind fun t383=>(dX.j0 k bt378.2.1 (!t383) bt358.1 bt363.1 bt368.1 bt378.1 bt373.1))))))))=some (r1,r2,r3,r4,r5,r6,r7):=h;clear h;replace H:=bU H;obtain ⟨⟨t358,t359,t360⟩,A20,H⟩:=H;(try dsimp only at H);have A2:=aS A20;clear A20;replace H:=bU H;obtain ⟨⟨t363,t364,t365⟩,A30,H⟩:=H;(try dsimp only at H);have A3:=aS A30;clear A30;replace H:=bU H;obtain ⟨⟨t368,t369,t370⟩,A40,H⟩:=H;(try dsimp only at H);have A4:=aS A40;clear A40;replace H:=bU H;obtain ⟨⟨t373,t374,t377⟩,A50,H⟩:=H;(try dsimp only at H);have A5:=aS A50;clear A50;replace H:=bU H;obtain ⟨⟨t378,t379,t380⟩,A60,H⟩:=H;(try dsimp only at H);have A6:=aS A60;clear A60;have HC7:=aS H;clear H
 go_enter Tryz.func103,Tryz.ntmps103
 go_upto_region 8 with (first | ((with_reducible refine gD 2 ?_);refine dK 2 #[.string (⟨#[]⟩:ByteArray),.string (⟨#[]⟩:ByteArray),.int .i64 0,.string (⟨#[]⟩:ByteArray),.bool false] 34 ?_;intro gb355 hg w8 hbox hb;have BK355:=aS (hbox);have GW355:=bsize hg;have GE355:=bsize hg;replace HB:=aM hb;clear hb hbox hg) | ((with_reducible refine gD 5 ?_);refine dK 5 #[.string (⟨#[]⟩:ByteArray),.string (⟨#[]⟩:ByteArray),.int .i64 0,.string (⟨#[]⟩:ByteArray),.bool false] 34 ?_;intro gb356 hg w9 hbox hb;have BK356:=aS (hbox);have GW356:=bsize hg;have GE356:=bsize hg;replace HB:=aM hb;have NB355_356:=aS ((by rw [hg];exact Nat.ne_of_lt (cR (g:=gb355) (o:=.cells #[.string (⟨#[]⟩:ByteArray),.string (⟨#[]⟩:ByteArray),.int .i64 0,.string (⟨#[]⟩:ByteArray),.bool false] 34 (0,0)) (eA BK355.out)):gb355≠gb356));have NB356_355:=aS ((by rw [hg];exact Nat.ne_of_gt (cR (g:=gb355) (o:=.cells #[.string (⟨#[]⟩:ByteArray),.string (⟨#[]⟩:ByteArray),.int .i64 0,.string (⟨#[]⟩:ByteArray),.bool false] 34 (0,0)) (eA BK355.out)):gb356≠gb355));replace BK355:=fp BK355 hb;clear hb hbox hg) | ((with_reducible refine gD 6 ?_);refine dK 6 #[.bool false,.bool false,.bool false,.bool false,.bool false] 149 ?_;intro gb357 hg w10 hbox hb;have BK357:=aS (hbox);have GW357:=bsize hg;have GE357:=bsize hg;replace HB:=aM hb;have NB355_357:=aS ((by rw [hg];exact Nat.ne_of_lt (cR (g:=gb355) (o:=.cells #[.string (⟨#[]⟩:ByteArray),.string (⟨#[]⟩:ByteArray),.int .i64 0,.string (⟨#[]⟩:ByteArray),.bool false] 34 (0,0)) (eA BK355.out)):gb355≠gb357));have NB357_355:=aS ((by rw [hg];exact Nat.ne_of_gt (cR (g:=gb355) (o:=.cells #[.string (⟨#[]⟩:ByteArray),.string (⟨#[]⟩:ByteArray),.int .i64 0,.string (⟨#[]⟩:ByteArray),.bool false] 34 (0,0)) (eA BK355.out)):gb357≠gb355));replace BK355:=fp BK355 hb;have NB356_357:=aS ((by rw [hg];exact Nat.ne_of_lt (cR (g:=gb356) (o:=.cells #[.string (⟨#[]⟩:ByteArray),.string (⟨#[]⟩:ByteArray),.int .i64 0,.string (⟨#[]⟩:ByteArray),.bool false] 34 (0,0)) (eA BK356.out)):gb356≠gb357));have NB357_356:=aS ((by rw [hg];exact Nat.ne_of_gt (cR (g:=gb356) (o:=.cells #[.string (⟨#[]⟩:ByteArray),.string (⟨#[]⟩:ByteArray),.int .i64 0,.string (⟨#[]⟩:ByteArray),.bool false] 34 (0,0)) (eA BK356.out)):gb357≠gb356));replace BK356:=fp BK356 hb;clear hb hbox hg) | ((with_reducible refine gC 105 ?_);refine dn 9 Tryz.func105 #[.slice A0 l0.length c0] ?_;(with_reducible refine (d_.calls k _ _ l0 t358 t359 t360 _ ?side1 ?side2 A2.out).mono ?_);(case side1=>exact eH (Kd.cH HR0.out HB.out));(case side2=>exact HC0.out);rintro e w11 ⟨v361,rfl,ho0,hb⟩;refine ⟨_,rfl,?_⟩;have HO362:=aS (Kd.sX ho0 (aA aq));replace BK355:=fp BK355 hb;replace BK356:=fp BK356 hb;replace BK357:=fp BK357 hb;replace HB:=aM hb;(try clear hb);(try clear hk);(try clear hi);(try clear ho0);have hnb12:=NB356_355.out;have hnc12:=NB355_356.out;have hnb13:=NB356_357.out;have hnc13:=NB357_356.out;have hcz14:=cO BK356;have hnb15:=NB357_355.out;have hnc15:=NB355_357.out;have hcz16:=cO BK357;obtain ⟨Ao17,co17,eo17,_⟩:=Kd.qJ HO362.out;subst eo17) | ((with_reducible refine gC 105 ?_);refine dn 17 Tryz.func105 #[.slice Ao17 t359.length co17] ?_;(with_reducible refine (d_.calls k _ _ t359 t363 t364 t365 _ ?side1 ?side2 A3.out).mono ?_);(case side1=>refine (Kd.jk (e:=5) (base:=w.heap.size) (ok:=fun k_=>True) (n:=t359.length) (c:=co17) ?_).2.2;exact (by (with_reducible repeat (first | apply Kd.dW | apply Kd.dV | apply Kd.ew));exact (Kd.cW (Kd.cW (Kd.dG (p:=⟨gb357,0,none⟩) (Kd.dG (p:=⟨gb356,0,none⟩) (Kd.dg (Kd.dg HO362.out BK356.out (by decide)) BK357.out (by decide)) (fun _ hk=>hk.1.2) (.string t358)) (fun _ hk=>hk.2) (.bool t360)) (fun _ h_=>h_.1)) (fun _ h_=>h_.1))));(case side2=>exact (Kd.jk HO362.out).2.1);rintro e w18 ⟨v366,rfl,ho0,hb⟩;refine ⟨_,rfl,?_⟩;have HO367:=aS (Kd.sX (Kd.rY ho0 (Kd.ri (by (with_reducible repeat (first | apply Kd.dW | apply Kd.dV | apply Kd.ew));exact (Kd.cW (Kd.cW (Kd.dG (p:=⟨gb357,0,none⟩) (Kd.dG (p:=⟨gb356,0,none⟩) (Kd.dg (Kd.dg HO362.out BK356.out (by decide)) BK357.out (by decide)) (fun _ hk=>hk.1.2) (.string t358)) (fun _ hk=>hk.2) (.bool t360)) (fun _ h_=>h_.1)) (fun _ h_=>h_.1))))) (aA aq));replace HO362:=aS (Kd.mB (by (with_reducible repeat (first | apply Kd.dW | apply Kd.dV | apply Kd.ew));exact (Kd.cW (Kd.cW (Kd.dG (p:=⟨gb357,0,none⟩) (Kd.dG (p:=⟨gb356,0,none⟩) (Kd.dg (Kd.dg HO362.out BK356.out (by decide)) BK357.out (by decide)) (fun _ hk=>hk.1.2) (.string t358)) (fun _ hk=>hk.2) (.bool t360)) (fun _ h_=>h_.1)) (fun _ h_=>h_.1))) (by first | exact Kd.sI ho0 | exact Kd.kJ ho0 | exact Kd.gi ho0 | exact Kd.V_base ho0) hb);replace BK355:=aS (aI (g:=gb355) (o:=.cells #[.string (⟨#[]⟩:ByteArray),.string (⟨#[]⟩:ByteArray),.int .i64 0,.string (⟨#[]⟩:ByteArray),.bool false] 34 (0,0)) (by (with_reducible repeat (first | refine ay ?_ _ | refine ar ?_ | refine ax ?_ _));refine dR ?_ NB355_357.out _;(with_reducible repeat (first | refine ay ?_ _ | refine ar ?_ | refine ax ?_ _));refine dR ?_ NB355_356.out _;(with_reducible repeat (first | refine ay ?_ _ | refine ar ?_ | refine ax ?_ _));exact BK355.out) hb);replace BK356:=aS (aI (g:=gb356) (o:=.cells #[.string t358,.string (⟨#[]⟩:ByteArray),.int .i64 0,.string (⟨#[]⟩:ByteArray),.bool false] 34 (0,0)) (by (with_reducible repeat (first | refine ay ?_ _ | refine ar ?_ | refine ax ?_ _));refine dR ?_ NB356_357.out _;(with_reducible repeat (first | refine ay ?_ _ | refine ar ?_ | refine ax ?_ _));refine bk (cs:=#[.string (⟨#[]⟩:ByteArray),.string (⟨#[]⟩:ByteArray),.int .i64 0,.string (⟨#[]⟩:ByteArray),.bool false]) ?_ 0 _ rfl;(with_reducible repeat (first | refine ay ?_ _ | refine ar ?_ | refine ax ?_ _));exact BK356.out) hb);replace BK357:=aS (aI (g:=gb357) (o:=.cells #[.bool t360,.bool false,.bool false,.bool false,.bool false] 149 (0,0)) (by (with_reducible repeat (first | refine ay ?_ _ | refine ar ?_ | refine ax ?_ _));refine bk (cs:=#[.bool false,.bool false,.bool false,.bool false,.bool false]) ?_ 0 _ rfl;(with_reducible repeat (first | refine ay ?_ _ | refine ar ?_ | refine ax ?_ _));refine dR ?_ NB357_356.out _;(with_reducible repeat (first | refine ay ?_ _ | refine ar ?_ | refine ax ?_ _));exact BK357.out) hb);replace HB:=aM hb;(try clear hb);(try clear hk);(try clear hi);(try clear ho0);have hcz19:=cO BK356;have hcz20:=cO BK357;obtain ⟨Ao21,co21,eo21,_⟩:=Kd.qJ HO367.out;subst eo21) | ((with_reducible refine gC 71 ?_);refine dn 25 Tryz.func71 #[.slice Ao21 t364.length co21] ?_;(with_reducible refine (bq.calls k _ _ t364 t368 t369 t370 _ ?side1 ?side2 A4.out).mono ?_);(case side1=>refine (Kd.jk (e:=5) (base:=w.heap.size) (ok:=fun k_=>(True∧some k_≠(.slice Ao17 t359.length co17:Value).ownBlock)) (n:=t364.length) (c:=co21) ?_).2.2;exact (by (with_reducible repeat (first | apply Kd.dW | apply Kd.dV | apply Kd.ew));exact (Kd.cW (Kd.cW (Kd.dG (p:=⟨gb357,1,none⟩) (Kd.dG (p:=⟨gb356,1,none⟩) (Kd.dg (Kd.dg HO367.out BK356.out (by decide)) BK357.out (by decide)) (fun _ hk=>hk.1.2) (.string t363)) (fun _ hk=>hk.2) (.bool t365)) (fun _ h_=>h_.1)) (fun _ h_=>h_.1))));(case side2=>exact (Kd.jk HO367.out).2.1);rintro e w22 ⟨v371,rfl,ho0,hb⟩;refine ⟨_,rfl,?_⟩;have HO372:=aS (Kd.bn (Kd.cK (Kd.cK ho0 (Kd.ri (by (with_reducible repeat (first | apply Kd.dW | apply Kd.dV | apply Kd.ew));exact (Kd.cW (Kd.cW (Kd.dG (p:=⟨gb357,1,none⟩) (Kd.dG (p:=⟨gb356,1,none⟩) (Kd.dg (Kd.dg HO362.out BK356.out (by decide)) BK357.out (by decide)) (fun _ hk=>hk.1.2) (.string t363)) (fun _ hk=>hk.2) (.bool t365)) (fun _ h_=>h_.1)) (fun _ h_=>h_.1))))) (Kd.ri (by (with_reducible repeat (first | apply Kd.dW | apply Kd.dV | apply Kd.ew));exact (Kd.cW (Kd.cW (Kd.dG (p:=⟨gb357,1,none⟩) (Kd.dG (p:=⟨gb356,1,none⟩) (Kd.dg (Kd.dg HO367.out BK356.out (by decide)) BK357.out (by decide)) (fun _ hk=>hk.1.2) (.string t363)) (fun _ hk=>hk.2) (.bool t365)) (fun _ h_=>h_.1)) (fun _ h_=>h_.1))))) (aA aq));replace HO362:=aS (Kd.mB (by (with_reducible repeat (first | apply Kd.dW | apply Kd.dV | apply Kd.ew));exact (Kd.cW (Kd.cW (Kd.dG (p:=⟨gb357,1,none⟩) (Kd.dG (p:=⟨gb356,1,none⟩) (Kd.dg (Kd.dg HO362.out BK356.out (by decide)) BK357.out (by decide)) (fun _ hk=>hk.1.2) (.string t363)) (fun _ hk=>hk.2) (.bool t365)) (fun _ h_=>h_.1)) (fun _ h_=>h_.1))) (dm ho0) hb);replace HO367:=aS (Kd.mB (by (with_reducible repeat (first | apply Kd.dW | apply Kd.dV | apply Kd.ew));exact (Kd.cW (Kd.cW (Kd.dG (p:=⟨gb357,1,none⟩) (Kd.dG (p:=⟨gb356,1,none⟩) (Kd.dg (Kd.dg HO367.out BK356.out (by decide)) BK357.out (by decide)) (fun _ hk=>hk.1.2) (.string t363)) (fun _ hk=>hk.2) (.bool t365)) (fun _ h_=>h_.1)) (fun _ h_=>h_.1))) (dm ho0) hb);replace BK355:=aS (aI (g:=gb355) (o:=.cells #[.string (⟨#[]⟩:ByteArray),.string (⟨#[]⟩:ByteArray),.int .i64 0,.string (⟨#[]⟩:ByteArray),.bool false] 34 (0,0)) (by (with_reducible repeat (first | refine ay ?_ _ | refine ar ?_ | refine ax ?_ _));refine dR ?_ NB355_357.out _;(with_reducible repeat (first | refine ay ?_ _ | refine ar ?_ | refine ax ?_ _));refine dR ?_ NB355_356.out _;(with_reducible repeat (first | refine ay ?_ _ | refine ar ?_ | refine ax ?_ _));exact BK355.out) hb);replace BK356:=aS (aI (g:=gb356) (o:=.cells #[.string t358,.string t363,.int .i64 0,.string (⟨#[]⟩:ByteArray),.bool false] 34 (0,0)) (by (with_reducible repeat (first | refine ay ?_ _ | refine ar ?_ | refine ax ?_ _));refine dR ?_ NB356_357.out _;(with_reducible repeat (first | refine ay ?_ _ | refine ar ?_ | refine ax ?_ _));refine bk (cs:=#[.string t358,.string (⟨#[]⟩:ByteArray),.int .i64 0,.string (⟨#[]⟩:ByteArray),.bool false]) ?_ 1 _ rfl;(with_reducible repeat (first | refine ay ?_ _ | refine ar ?_ | refine ax ?_ _));exact BK356.out) hb);replace BK357:=aS (aI (g:=gb357) (o:=.cells #[.bool t360,.bool t365,.bool false,.bool false,.bool false] 149 (0,0)) (by (with_reducible repeat (first | refine ay ?_ _ | refine ar ?_ | refine ax ?_ _));refine bk (cs:=#[.bool t360,.bool false,.bool false,.bool false,.bool false]) ?_ 1 _ rfl;(with_reducible repeat (first | refine ay ?_ _ | refine ar ?_ | refine ax ?_ _));refine dR ?_ NB357_356.out _;(with_reducible repeat (first | refine ay ?_ _ | refine ar ?_ | refine ax ?_ _));exact BK357.out) hb);replace HB:=aM hb;(try clear hb);(try clear hk);(try clear hi);(try clear ho0);have hcz23:=cO BK356) | ((with_reducible refine dO (t:=3) (p:=29) rfl ?_);refine tK (t:=3) (p:=29) (v:=?vo_w24) (w1:=(w22.setCell ⟨gb356,2,none⟩ (.int .i64 t368))) ?hg ?ho ?hn ?hr ?_;(case ho=>rfl);(case hg=>rfl);(case hn=>rfl);(case hr=>first | (go_simp;done) | (go_simp;rfl));intro w24 hw;have n0_:ah (Kd.Q (Kd.int .u8) 5 w24 w.heap.size (fun k_=>some k_≠(.slice Ao21 t364.length co21:Value).ownBlock∧some k_≠(v371:Value).ownBlock) (.slice Ao17 t359.length co17) t359):=⟨(by rw [hw];exact (by (with_reducible repeat (first | apply Kd.dW | apply Kd.dV | apply Kd.ew));exact Kd.cW (Kd.dG (p:=⟨gb356,2,none⟩) (Kd.dg HO362.out BK356.out (by decide)) (fun _ hk=>hk.2) (.int .i64 t368)) (fun _ hk=>⟨hk.1.1.2,hk.1.2⟩)))⟩;have n1_:ah (Kd.Q (Kd.int .u8) 5 w24 w.heap.size (fun k_=>some k_≠(.slice Ao17 t359.length co17:Value).ownBlock∧some k_≠(v371:Value).ownBlock) (.slice Ao21 t364.length co21) t364):=⟨(by rw [hw];exact (by (with_reducible repeat (first | apply Kd.dW | apply Kd.dV | apply Kd.ew));exact Kd.cW (Kd.dG (p:=⟨gb356,2,none⟩) (Kd.dg HO367.out BK356.out (by decide)) (fun _ hk=>hk.2) (.int .i64 t368)) (fun _ hk=>⟨hk.1.1.2,hk.1.2⟩)))⟩;have n2_:ah (Kd.R (Kd.int .u8) 5 w24 w.heap.size (fun k_=>some k_≠(.slice Ao17 t359.length co17:Value).ownBlock∧some k_≠(.slice Ao21 t364.length co21:Value).ownBlock) v371 t369):=⟨(by rw [hw];exact (by (with_reducible repeat (first | apply Kd.bB | apply Kd.bC | apply Kd.bD));exact Kd.aK (Kd.fe (p:=⟨gb356,2,none⟩) (Kd.gP HO372.out BK356.out (by decide)) (fun _ hk=>hk.2) (.int .i64 t368)) (fun _ hk=>⟨hk.1.1.2,hk.1.2⟩)))⟩;have n3_:ah (w24.heap[gb355]? = some (.cells #[.string (⟨#[]⟩:ByteArray),.string (⟨#[]⟩:ByteArray),.int .i64 0,.string (⟨#[]⟩:ByteArray),.bool false] 34 (0,0))):=⟨(by rw [hw];exact (by (with_reducible repeat (first | refine ay ?_ _ | refine ar ?_ | refine ax ?_ _));refine dR ?_ NB355_356.out _;(with_reducible repeat (first | refine ay ?_ _ | refine ar ?_ | refine ax ?_ _));exact BK355.out))⟩;have n4_:ah (w24.heap[gb356]? = some (.cells #[.string t358,.string t363,.int .i64 t368,.string (⟨#[]⟩:ByteArray),.bool false] 34 (0,0))):=⟨(by rw [hw];exact (by (with_reducible repeat (first | refine ay ?_ _ | refine ar ?_ | refine ax ?_ _));refine bk (cs:=#[.string t358,.string t363,.int .i64 0,.string (⟨#[]⟩:ByteArray),.bool false]) ?_ 2 _ rfl;(with_reducible repeat (first | refine ay ?_ _ | refine ar ?_ | refine ax ?_ _));exact BK356.out))⟩;have n5_:ah (w24.heap[gb357]? = some (.cells #[.bool t360,.bool t365,.bool false,.bool false,.bool false] 149 (0,0))):=⟨(by rw [hw];exact (by (with_reducible repeat (first | refine ay ?_ _ | refine ar ?_ | refine ax ?_ _));refine dR ?_ NB357_356.out _;(with_reducible repeat (first | refine ay ?_ _ | refine ar ?_ | refine ax ?_ _));exact BK357.out))⟩;have n6_:ah (Below w.heap.size w w24):=⟨(by rw [hw];exact aq)⟩;clear hw;clear HO362;clear HO367;clear HO372;clear BK355;clear BK356;clear BK357;clear HB;have HO362:=n0_;have HO367:=n1_;have HO372:=n2_;have BK355:=n3_;have BK356:=n4_;have BK357:=n5_;have HB:=n6_;clear n0_ n1_ n2_ n3_ n4_ n5_ n6_;have hcz25:=cO BK357) | ((with_reducible refine dO (t:=4) (p:=30) rfl ?_);refine tK (t:=4) (p:=30) (v:=?vo_w26) (w1:=(w24.setCell ⟨gb357,2,none⟩ (.bool t370))) ?hg ?ho ?hn ?hr ?_;(case ho=>rfl);(case hg=>rfl);(case hn=>rfl);(case hr=>first | (go_simp;done) | (go_simp;rfl));intro w26 hw;have n0_:ah (Kd.Q (Kd.int .u8) 5 w26 w.heap.size (fun k_=>some k_≠(.slice Ao21 t364.length co21:Value).ownBlock∧some k_≠(v371:Value).ownBlock) (.slice Ao17 t359.length co17) t359):=⟨(by rw [hw];exact (by (with_reducible repeat (first | apply Kd.dW | apply Kd.dV | apply Kd.ew));exact Kd.cW (Kd.dG (p:=⟨gb357,2,none⟩) (Kd.dg HO362.out BK357.out (by decide)) (fun _ hk=>hk.2) (.bool t370)) (fun _ hk=>⟨hk.1.1,hk.1.2⟩)))⟩;have n1_:ah (Kd.Q (Kd.int .u8) 5 w26 w.heap.size (fun k_=>some k_≠(.slice Ao17 t359.length co17:Value).ownBlock∧some k_≠(v371:Value).ownBlock) (.slice Ao21 t364.length co21) t364):=⟨(by rw [hw];exact (by (with_reducible repeat (first | apply Kd.dW | apply Kd.dV | apply Kd.ew));exact Kd.cW (Kd.dG (p:=⟨gb357,2,none⟩) (Kd.dg HO367.out BK357.out (by decide)) (fun _ hk=>hk.2) (.bool t370)) (fun _ hk=>⟨hk.1.1,hk.1.2⟩)))⟩;have n2_:ah (Kd.R (Kd.int .u8) 5 w26 w.heap.size (fun k_=>some k_≠(.slice Ao17 t359.length co17:Value).ownBlock∧some k_≠(.slice Ao21 t364.length co21:Value).ownBlock) v371 t369):=⟨(by rw [hw];exact (by (with_reducible repeat (first | apply Kd.bB | apply Kd.bC | apply Kd.bD));exact Kd.aK (Kd.fe (p:=⟨gb357,2,none⟩) (Kd.gP HO372.out BK357.out (by decide)) (fun _ hk=>hk.2) (.bool t370)) (fun _ hk=>⟨hk.1.1,hk.1.2⟩)))⟩;have n3_:ah (w26.heap[gb355]? = some (.cells #[.string (⟨#[]⟩:ByteArray),.string (⟨#[]⟩:ByteArray),.int .i64 0,.string (⟨#[]⟩:ByteArray),.bool false] 34 (0,0))):=⟨(by rw [hw];exact (by (with_reducible repeat (first | refine ay ?_ _ | refine ar ?_ | refine ax ?_ _));refine dR ?_ NB355_357.out _;(with_reducible repeat (first | refine ay ?_ _ | refine ar ?_ | refine ax ?_ _));exact BK355.out))⟩;have n4_:ah (w26.heap[gb356]? = some (.cells #[.string t358,.string t363,.int .i64 t368,.string (⟨#[]⟩:ByteArray),.bool false] 34 (0,0))):=⟨(by rw [hw];exact (by (with_reducible repeat (first | refine ay ?_ _ | refine ar ?_ | refine ax ?_ _));refine dR ?_ NB356_357.out _;(with_reducible repeat (first | refine ay ?_ _ | refine ar ?_ | refine ax ?_ _));exact BK356.out))⟩;have n5_:ah (w26.heap[gb357]? = some (.cells #[.bool t360,.bool t365,.bool t370,.bool false,.bool false] 149 (0,0))):=⟨(by rw [hw];exact (by (with_reducible repeat (first | refine ay ?_ _ | refine ar ?_ | refine ax ?_ _));refine bk (cs:=#[.bool t360,.bool t365,.bool false,.bool false,.bool false]) ?_ 2 _ rfl;(with_reducible repeat (first | refine ay ?_ _ | refine ar ?_ | refine ax ?_ _));exact BK357.out))⟩;have n6_:ah (Below w.heap.size w w26):=⟨(by rw [hw];exact aq)⟩;clear hw;clear HO362;clear HO367;clear HO372;clear BK355;clear BK356;clear BK357;clear HB;have HO362:=n0_;have HO367:=n1_;have HO372:=n2_;have BK355:=n3_;have BK356:=n4_;have BK357:=n5_;have HB:=n6_;clear n0_ n1_ n2_ n3_ n4_ n5_ n6_;obtain ⟨Ao27,co27,eo27⟩:=Kd.bp HO372.out;subst eo27) | ((with_reducible refine gC 106 ?_);refine dn 33 Tryz.func106 #[.slice Ao27 t369.length co27] ?_;(with_reducible refine (jC.calls (fun k_=>some k_=(.slice Ao27 t369.length co27:Value).ownBlock) (.slice Ao27 t369.length co27) t369 t373 t374 t377 w _ ?side1 ?side2 A5.out).mono ?_);(case side1=>repeat (first | (with_reducible first | exact HB.out | apply wH | apply DZ | apply jS | refine lf ?_ GE355.out | refine lf ?_ GE356.out | refine lf ?_ GE357.out) | exact HB.out));(case side2=>exact Kd.jL rfl HO372.out);rintro e w28 ⟨v375,rfl,ho0,hb,hkp⟩;refine ⟨_,rfl,?_⟩;have n0_:=aS (tP (eA BK355.out) hkp (fun hs_=>(fun e_=>(Kd.lZ HO372.out BK355.out (by decide)) e_) hs_));have n1_:=aS (tP (eA BK356.out) hkp (fun hs_=>(fun e_=>(Kd.lZ HO372.out BK356.out (by decide)) e_) hs_));have n2_:=aS (tP (eA BK357.out) hkp (fun hs_=>(fun e_=>(Kd.lZ HO372.out BK357.out (by decide)) e_) hs_));have n3_:=aS (Kd.cW (ok':=fun k_=>some k_≠(.slice Ao21 t364.length co21:Value).ownBlock∧some k_≠(v375:Value).ownBlock) (Kd.Av (HO362.out) hkp (fun k_ hk_ hs_=>(hk_.2) hs_)) (fun k_ hk_=>⟨hk_.1.1,fun e_=>Or.elim (ho0.1 k_ e_.symm) (fun hs_=>hk_.2.1 hs_) (fun hn_=>Nat.not_le.2 hk_.2.2 hn_)⟩));have n4_:=aS (Kd.cW (ok':=fun k_=>some k_≠(.slice Ao17 t359.length co17:Value).ownBlock∧some k_≠(v375:Value).ownBlock) (Kd.Av (HO367.out) hkp (fun k_ hk_ hs_=>(hk_.2) hs_)) (fun k_ hk_=>⟨hk_.1.1,fun e_=>Or.elim (ho0.1 k_ e_.symm) (fun hs_=>hk_.2.1 hs_) (fun hn_=>Nat.not_le.2 hk_.2.2 hn_)⟩));have n5_:=aS (Kd.cW (ok':=fun k_=>some k_≠(.slice Ao17 t359.length co17:Value).ownBlock∧some k_≠(.slice Ao21 t364.length co21:Value).ownBlock) ho0 (fun k_ hk_=>⟨Or.elim hk_ (fun hs_=>fun e_=>(((HO362.out).1 k_ e_.symm).2) hs_) (fun hn_=>(Kd.iD (Kd.ri (by (with_reducible repeat (first | apply Kd.dW | apply Kd.dV | apply Kd.ew));exact HO362.out)) k_ hn_)),Or.elim hk_ (fun hs_=>fun e_=>(((HO367.out).1 k_ e_.symm).2) hs_) (fun hn_=>(Kd.iD (Kd.ri (by (with_reducible repeat (first | apply Kd.dW | apply Kd.dV | apply Kd.ew));exact HO367.out)) k_ hn_))⟩));have n6_:=aS (hb);clear BK355;clear BK356;clear BK357;clear HO362;clear HO367;clear HB;clear HO372;have BK355:=n0_;have BK356:=n1_;have BK357:=n2_;have HO362:=n3_;have HO367:=n4_;have HO376:=n5_;have HB:=n6_;clear n0_ n1_ n2_ n3_ n4_ n5_ n6_;(try clear hb);(try clear hkp);(try clear ho0);have hcz29:=cO BK356;have hcz30:=cO BK357;obtain ⟨Ao31,co31,eo31,_⟩:=Kd.qJ HO376.out;subst eo31) | ((with_reducible refine gC 105 ?_);refine dn 41 Tryz.func105 #[.slice Ao31 t374.length co31] ?_;(with_reducible refine (d_.calls k _ _ t374 t378 t379 t380 _ ?side1 ?side2 A6.out).mono ?_);(case side1=>refine (Kd.jk (e:=5) (base:=w.heap.size) (ok:=fun k_=>(some k_≠(.slice Ao17 t359.length co17:Value).ownBlock∧some k_≠(.slice Ao21 t364.length co21:Value).ownBlock)) (n:=t374.length) (c:=co31) ?_).2.2;exact (by (with_reducible repeat (first | apply Kd.dW | apply Kd.dV | apply Kd.ew));exact (Kd.cW (Kd.cW (Kd.dG (p:=⟨gb357,3,none⟩) (Kd.dG (p:=⟨gb356,4,none⟩) (Kd.dg (Kd.dg HO376.out BK356.out (by decide)) BK357.out (by decide)) (fun _ hk=>hk.1.2) (.bool t373)) (fun _ hk=>hk.2) (.bool t377)) (fun _ h_=>h_.1)) (fun _ h_=>h_.1))));(case side2=>exact (Kd.jk HO376.out).2.1);rintro e w32 ⟨v381,rfl,ho0,hb⟩;refine ⟨_,rfl,?_⟩;have HO382:=aS (Kd.sX (Kd.rY (Kd.rY (Kd.rY ho0 (Kd.ri (by (with_reducible repeat (first | apply Kd.dW | apply Kd.dV | apply Kd.ew));exact (Kd.cW (Kd.cW (Kd.dG (p:=⟨gb357,3,none⟩) (Kd.dG (p:=⟨gb356,4,none⟩) (Kd.dg (Kd.dg HO362.out BK356.out (by decide)) BK357.out (by decide)) (fun _ hk=>hk.1.2) (.bool t373)) (fun _ hk=>hk.2) (.bool t377)) (fun _ h_=>h_.1)) (fun _ h_=>h_.1))))) (Kd.ri (by (with_reducible repeat (first | apply Kd.dW | apply Kd.dV | apply Kd.ew));exact (Kd.cW (Kd.cW (Kd.dG (p:=⟨gb357,3,none⟩) (Kd.dG (p:=⟨gb356,4,none⟩) (Kd.dg (Kd.dg HO367.out BK356.out (by decide)) BK357.out (by decide)) (fun _ hk=>hk.1.2) (.bool t373)) (fun _ hk=>hk.2) (.bool t377)) (fun _ h_=>h_.1)) (fun _ h_=>h_.1))))) (Kd.ri (by (with_reducible repeat (first | apply Kd.dW | apply Kd.dV | apply Kd.ew));exact (Kd.cW (Kd.cW (Kd.dG (p:=⟨gb357,3,none⟩) (Kd.dG (p:=⟨gb356,4,none⟩) (Kd.dg (Kd.dg HO376.out BK356.out (by decide)) BK357.out (by decide)) (fun _ hk=>hk.1.2) (.bool t373)) (fun _ hk=>hk.2) (.bool t377)) (fun _ h_=>h_.1)) (fun _ h_=>h_.1))))) (aA aq));replace HO362:=aS (Kd.mB (by (with_reducible repeat (first | apply Kd.dW | apply Kd.dV | apply Kd.ew));exact (Kd.cW (Kd.cW (Kd.dG (p:=⟨gb357,3,none⟩) (Kd.dG (p:=⟨gb356,4,none⟩) (Kd.dg (Kd.dg HO362.out BK356.out (by decide)) BK357.out (by decide)) (fun _ hk=>hk.1.2) (.bool t373)) (fun _ hk=>hk.2) (.bool t377)) (fun _ h_=>h_.1)) (fun _ h_=>h_.1))) (by first | exact Kd.sI ho0 | exact Kd.kJ ho0 | exact Kd.gi ho0 | exact Kd.V_base ho0) hb);replace HO367:=aS (Kd.mB (by (with_reducible repeat (first | apply Kd.dW | apply Kd.dV | apply Kd.ew));exact (Kd.cW (Kd.cW (Kd.dG (p:=⟨gb357,3,none⟩) (Kd.dG (p:=⟨gb356,4,none⟩) (Kd.dg (Kd.dg HO367.out BK356.out (by decide)) BK357.out (by decide)) (fun _ hk=>hk.1.2) (.bool t373)) (fun _ hk=>hk.2) (.bool t377)) (fun _ h_=>h_.1)) (fun _ h_=>h_.1))) (by first | exact Kd.sI ho0 | exact Kd.kJ ho0 | exact Kd.gi ho0 | exact Kd.V_base ho0) hb);replace HO376:=aS (Kd.mB (by (with_reducible repeat (first | apply Kd.dW | apply Kd.dV | apply Kd.ew));exact (Kd.cW (Kd.cW (Kd.dG (p:=⟨gb357,3,none⟩) (Kd.dG (p:=⟨gb356,4,none⟩) (Kd.dg (Kd.dg HO376.out BK356.out (by decide)) BK357.out (by decide)) (fun _ hk=>hk.1.2) (.bool t373)) (fun _ hk=>hk.2) (.bool t377)) (fun _ h_=>h_.1)) (fun _ h_=>h_.1))) (by first | exact Kd.sI ho0 | exact Kd.kJ ho0 | exact Kd.gi ho0 | exact Kd.V_base ho0) hb);replace BK355:=aS (aI (g:=gb355) (o:=.cells #[.string (⟨#[]⟩:ByteArray),.string (⟨#[]⟩:ByteArray),.int .i64 0,.string (⟨#[]⟩:ByteArray),.bool false] 34 (0,0)) (by (with_reducible repeat (first | refine ay ?_ _ | refine ar ?_ | refine ax ?_ _));refine dR ?_ NB355_357.out _;(with_reducible repeat (first | refine ay ?_ _ | refine ar ?_ | refine ax ?_ _));refine dR ?_ NB355_356.out _;(with_reducible repeat (first | refine ay ?_ _ | refine ar ?_ | refine ax ?_ _));exact BK355.out) hb);replace BK356:=aS (aI (g:=gb356) (o:=.cells #[.string t358,.string t363,.int .i64 t368,.string (⟨#[]⟩:ByteArray),.bool t373] 34 (0,0)) (by (with_reducible repeat (first | refine ay ?_ _ | refine ar ?_ | refine ax ?_ _));refine dR ?_ NB356_357.out _;(with_reducible repeat (first | refine ay ?_ _ | refine ar ?_ | refine ax ?_ _));refine bk (cs:=#[.string t358,.string t363,.int .i64 t368,.string (⟨#[]⟩:ByteArray),.bool false]) ?_ 4 _ rfl;(with_reducible repeat (first | refine ay ?_ _ | refine ar ?_ | refine ax ?_ _));exact BK356.out) hb);replace BK357:=aS (aI (g:=gb357) (o:=.cells #[.bool t360,.bool t365,.bool t370,.bool t377,.bool false] 149 (0,0)) (by (with_reducible repeat (first | refine ay ?_ _ | refine ar ?_ | refine ax ?_ _));refine bk (cs:=#[.bool t360,.bool t365,.bool t370,.bool false,.bool false]) ?_ 3 _ rfl;(with_reducible repeat (first | refine ay ?_ _ | refine ar ?_ | refine ax ?_ _));refine dR ?_ NB357_356.out _;(with_reducible repeat (first | refine ay ?_ _ | refine ar ?_ | refine ax ?_ _));exact BK357.out) hb);replace HB:=aM hb;(try clear hb);(try clear hk);(try clear hi);(try clear ho0);have hcz33:=cO BK356;have hcz34:=cO BK357))
 (try simp only [Act.put,eI,eG,lss])
 go_cut [54] (fun v54 wc=>∃ (kq:Nat) (x54_6:Bool),v54 = .bool x54_6∧ah (dX.j0 kq t379 x54_6 t358 t363 t368 t378 t373=some (r1,r2,r3,r4,r5,r6,r7))∧ah (kq≤k)∧ah (Kd.Q (Kd.int .u8) 5 wc w.heap.size (fun _=>True) v381 t379)∧ah (wc.heap[gb355]? = some (.cells #[.string (⟨#[]⟩:ByteArray),.string (⟨#[]⟩:ByteArray),.int .i64 0,.string (⟨#[]⟩:ByteArray),.bool false] 34 (0,0)))∧ah (wc.heap[gb356]? = some (.cells #[.string t358,.string t363,.int .i64 t368,.string t378,.bool t373] 34 (0,0)))∧ah (wc.heap[gb357]? = some (.cells #[.bool t360,.bool t365,.bool t370,.bool t377,.bool t380] 149 (0,0)))∧ah (Below w.heap.size w wc))
 case first=>
  have H:=HC7.out;clear HC7
  by_cases c35:(!t360 || (!t365 || (!t370 || (!t377 || (!t380)))))=true
  ·
   rw [if_pos c35] at H;have c35b0:(!t360 || (!t365 || (!t370 || (!t377 || (!t380)))))=true:=c35;clear c35
   (first | rw [c35b0] | (simp only [cC,dw];rw [c35b0]) | skip)
   have H':=aS H
   clear H;have hnb36:=NB357_355.out;have hnc36:=NB355_357.out;have hnb37:=NB357_356.out;have hnc37:=NB356_357.out;have hcz38:=cO BK357
   go_wp2
   go_meet
   case rel=>exact ⟨_,(true),cG,H',⟨by first | omega | exact Nat.le_refl _⟩,⟨by (with_reducible repeat (first | apply Kd.dW | apply Kd.dV | apply Kd.ew));exact Kd.cW (Kd.dG (p:=⟨gb357,4,none⟩) (Kd.dG (p:=⟨gb356,3,none⟩) (Kd.dg (Kd.dg HO382.out BK356.out (by decide)) BK357.out (by decide)) (fun _ hk=>hk.1.2) (.string t378)) (fun _ hk=>hk.2) (.bool t380)) (fun _ hk=>trivial)⟩,⟨by (with_reducible repeat (first | refine ay ?_ _ | refine ar ?_ | refine ax ?_ _));refine dR ?_ NB355_357.out _;(with_reducible repeat (first | refine ay ?_ _ | refine ar ?_ | refine ax ?_ _));refine dR ?_ NB355_356.out _;(with_reducible repeat (first | refine ay ?_ _ | refine ar ?_ | refine ax ?_ _));exact BK355.out⟩,⟨by (with_reducible repeat (first | refine ay ?_ _ | refine ar ?_ | refine ax ?_ _));refine dR ?_ NB356_357.out _;(with_reducible repeat (first | refine ay ?_ _ | refine ar ?_ | refine ax ?_ _));refine bk (cs:=#[.string t358,.string t363,.int .i64 t368,.string (⟨#[]⟩:ByteArray),.bool t373]) ?_ 3 _ rfl;(with_reducible repeat (first | refine ay ?_ _ | refine ar ?_ | refine ax ?_ _));exact BK356.out⟩,⟨by (with_reducible repeat (first | refine ay ?_ _ | refine ar ?_ | refine ax ?_ _));refine bk (cs:=#[.bool t360,.bool t365,.bool t370,.bool t377,.bool false]) ?_ 4 _ rfl;(with_reducible repeat (first | refine ay ?_ _ | refine ar ?_ | refine ax ?_ _));refine dR ?_ NB357_356.out _;(with_reducible repeat (first | refine ay ?_ _ | refine ar ?_ | refine ax ?_ _));exact BK357.out⟩,⟨aq⟩⟩
  ·
   rw [if_neg c35] at H
   have c35b0:(!t360 || (!t365 || (!t370 || (!t377 || (!t380)))))=false:=by simpa using c35
   clear c35
   (first | rw [c35b0] | (simp only [cC,dw];rw [c35b0]) | skip)
   replace H:=bU H;obtain ⟨t383,A390,H⟩:=H;have A39:=aS A390;clear A390
   have H':=aS H
   clear H;have hnb40:=NB357_355.out;have hnc40:=NB355_357.out;have hnb41:=NB357_356.out;have hnc41:=NB356_357.out;have hcz42:=cO BK357;have hnb43:=NB356_355.out;have hnc43:=NB355_356.out;have hcz44:=cO BK356
   go_wp2_with (first | (go_at_call 27;(with_reducible refine (eL.calls t358 t363 t368 t378 t373 t383 _ A39.out).mono ?_);rintro e w45 ⟨rfl,hb⟩;replace HO362:=aS (Kd.mL (by (with_reducible repeat (first | apply Kd.dW | apply Kd.dV | apply Kd.ew));exact (Kd.cW (Kd.cW (Kd.dG (p:=⟨gb357,4,none⟩) (Kd.dG (p:=⟨gb356,3,none⟩) (Kd.dg (Kd.dg HO362.out BK356.out (by decide)) BK357.out (by decide)) (fun _ hk=>hk.1.2) (.string t378)) (fun _ hk=>hk.2) (.bool t380)) (fun _ h_=>h_.1)) (fun _ h_=>h_.1))) hb);replace HO367:=aS (Kd.mL (by (with_reducible repeat (first | apply Kd.dW | apply Kd.dV | apply Kd.ew));exact (Kd.cW (Kd.cW (Kd.dG (p:=⟨gb357,4,none⟩) (Kd.dG (p:=⟨gb356,3,none⟩) (Kd.dg (Kd.dg HO367.out BK356.out (by decide)) BK357.out (by decide)) (fun _ hk=>hk.1.2) (.string t378)) (fun _ hk=>hk.2) (.bool t380)) (fun _ h_=>h_.1)) (fun _ h_=>h_.1))) hb);replace HO376:=aS (Kd.mL (by (with_reducible repeat (first | apply Kd.dW | apply Kd.dV | apply Kd.ew));exact (Kd.cW (Kd.cW (Kd.dG (p:=⟨gb357,4,none⟩) (Kd.dG (p:=⟨gb356,3,none⟩) (Kd.dg (Kd.dg HO376.out BK356.out (by decide)) BK357.out (by decide)) (fun _ hk=>hk.1.2) (.string t378)) (fun _ hk=>hk.2) (.bool t380)) (fun _ h_=>h_.1)) (fun _ h_=>h_.1))) hb);replace HO382:=aS (Kd.mL (by (with_reducible repeat (first | apply Kd.dW | apply Kd.dV | apply Kd.ew));exact (Kd.cW (Kd.cW (Kd.dG (p:=⟨gb357,4,none⟩) (Kd.dG (p:=⟨gb356,3,none⟩) (Kd.dg (Kd.dg HO382.out BK356.out (by decide)) BK357.out (by decide)) (fun _ hk=>hk.1.2) (.string t378)) (fun _ hk=>hk.2) (.bool t380)) (fun _ h_=>h_.1)) (fun _ h_=>h_.1))) hb);replace BK355:=aS (aI (g:=gb355) (o:=.cells #[.string (⟨#[]⟩:ByteArray),.string (⟨#[]⟩:ByteArray),.int .i64 0,.string (⟨#[]⟩:ByteArray),.bool false] 34 (0,0)) (by (with_reducible repeat (first | refine ay ?_ _ | refine ar ?_ | refine ax ?_ _));refine dR ?_ NB355_357.out _;(with_reducible repeat (first | refine ay ?_ _ | refine ar ?_ | refine ax ?_ _));refine dR ?_ NB355_356.out _;(with_reducible repeat (first | refine ay ?_ _ | refine ar ?_ | refine ax ?_ _));exact BK355.out) hb);replace BK356:=aS (aI (g:=gb356) (o:=.cells #[.string t358,.string t363,.int .i64 t368,.string t378,.bool t373] 34 (0,0)) (by (with_reducible repeat (first | refine ay ?_ _ | refine ar ?_ | refine ax ?_ _));refine dR ?_ NB356_357.out _;(with_reducible repeat (first | refine ay ?_ _ | refine ar ?_ | refine ax ?_ _));refine bk (cs:=#[.string t358,.string t363,.int .i64 t368,.string (⟨#[]⟩:ByteArray),.bool t373]) ?_ 3 _ rfl;(with_reducible repeat (first | refine ay ?_ _ | refine ar ?_ | refine ax ?_ _));exact BK356.out) hb);replace BK357:=aS (aI (g:=gb357) (o:=.cells #[.bool t360,.bool t365,.bool t370,.bool t377,.bool t380] 149 (0,0)) (by (with_reducible repeat (first | refine ay ?_ _ | refine ar ?_ | refine ax ?_ _));refine bk (cs:=#[.bool t360,.bool t365,.bool t370,.bool t377,.bool false]) ?_ 4 _ rfl;(with_reducible repeat (first | refine ay ?_ _ | refine ar ?_ | refine ax ?_ _));refine dR ?_ NB357_356.out _;(with_reducible repeat (first | refine ay ?_ _ | refine ar ?_ | refine ax ?_ _));exact BK357.out) hb);replace HB:=aM hb;(try clear hb);(try clear hk);(try clear hi)))
   go_meet
   case rel=>exact ⟨_,(!t383),cG,H',⟨by first | omega | exact Nat.le_refl _⟩,⟨by (with_reducible repeat (first | apply Kd.dW | apply Kd.dV | apply Kd.ew));exact Kd.cW HO382.out (fun _ hk=>trivial)⟩,⟨eA BK355.out⟩,⟨eA BK356.out⟩,⟨eA BK357.out⟩,⟨aq⟩⟩
 case rest=>
  clear HC7;(try clear hcz14);(try clear hcz16);(try clear hcz19);(try clear hcz20);(try clear hcz23);(try clear hcz25);(try clear hcz29);(try clear hcz30);(try clear hcz33);(try clear hcz34);obtain ⟨kq,x54_6,rfl,HA,HJ6,HO_0,BK355,BK356,BK357,HB⟩:=hcut
  cases kq with
  | zero=>exact absurd HA.out (by simp [dX.j0])
  | succ kj6=>
   have H:=HA.out;clear HA
   simp only [dX.j0] at H
   by_cases c46:x54_6=true
   ·
    subst c46
    replace H:=jy H
    simp only [Option.some.injEq,Prod.mk.injEq] at H
    obtain ⟨rfl,rfl,rfl,rfl,rfl,rfl,rfl⟩:=H;have hnb47:=NB355_356.out;have hnc47:=NB356_355.out;have hnb48:=NB355_357.out;have hnc48:=NB357_355.out;have hcz49:=cO BK355
    go_wp2
    refine bodyPost_ret (tL rfl _ _ gb355 34 #[.string (⟨#[]⟩:ByteArray),.string (⟨#[]⟩:ByteArray),.int .i64 0,.string (⟨#[]⟩:ByteArray),.bool false] (0,0) _ rfl (by (with_reducible repeat (first | refine ay ?_ _ | refine ar ?_ | refine ax ?_ _));refine bk (cs:=#[.string (⟨#[]⟩:ByteArray),.string (⟨#[]⟩:ByteArray),.int .i64 0,.string (⟨#[]⟩:ByteArray),.bool false]) ?_ 4 _ rfl;(with_reducible repeat (first | refine ay ?_ _ | refine ar ?_ | refine ax ?_ _));refine bk (cs:=#[.string (⟨#[]⟩:ByteArray),.string (⟨#[]⟩:ByteArray),.int .i64 0,.string (⟨#[]⟩:ByteArray),.bool false]) ?_ 3 _ rfl;(with_reducible repeat (first | refine ay ?_ _ | refine ar ?_ | refine ax ?_ _));refine bk (cs:=#[.string (⟨#[]⟩:ByteArray),.string (⟨#[]⟩:ByteArray),.int .i64 0,.string (⟨#[]⟩:ByteArray),.bool false]) ?_ 2 _ rfl;(with_reducible repeat (first | refine ay ?_ _ | refine ar ?_ | refine ax ?_ _));refine bk (cs:=#[.string (⟨#[]⟩:ByteArray),.string (⟨#[]⟩:ByteArray),.int .i64 0,.string (⟨#[]⟩:ByteArray),.bool false]) ?_ 1 _ rfl;(with_reducible repeat (first | refine ay ?_ _ | refine ar ?_ | refine ax ?_ _));refine bk (cs:=#[.string (⟨#[]⟩:ByteArray),.string (⟨#[]⟩:ByteArray),.int .i64 0,.string (⟨#[]⟩:ByteArray),.bool false]) ?_ 0 _ rfl;(with_reducible repeat (first | refine ay ?_ _ | refine ar ?_ | refine ax ?_ _));exact BK355.out) Tryz.underlying34 rfl (by kernel_rfl)) rfl ?_;exact ⟨_,dP,Kd.lu (by first | exact Kd.d6 _ _ _ _ _ | exact Kd.gB _ _ _ _ _ | exact Kd.fJ _ _ _ _ _ | exact Kd.gy _ _ _ _ _ | exact Kd.gE _ _ _ _ _),aq⟩
   ·
    replace c46:=Bool.eq_false_iff.mpr c46;subst c46
    replace H:=jw H
    simp only [Option.some.injEq,Prod.mk.injEq] at H
    obtain ⟨rfl,rfl,rfl,rfl,rfl,rfl,rfl⟩:=H;have hnb50:=NB356_355.out;have hnc50:=NB355_356.out;have hnb51:=NB356_357.out;have hnc51:=NB357_356.out;have hcz52:=cO BK356;have hnb53:=NB355_357.out;have hnc53:=NB357_355.out;have hcz54:=cO BK355
    go_wp2
    refine bodyPost_ret (tL rfl _ _ gb355 34 #[.string t358,.string t363,.int .i64 t368,.string t378,.bool t373] (0,0) _ rfl (by (with_reducible repeat (first | refine ay ?_ _ | refine ar ?_ | refine ax ?_ _));refine bk (cs:=#[.string t358,.string t363,.int .i64 t368,.string t378,.bool false]) ?_ 4 _ rfl;(with_reducible repeat (first | refine ay ?_ _ | refine ar ?_ | refine ax ?_ _));refine bk (cs:=#[.string t358,.string t363,.int .i64 t368,.string (⟨#[]⟩:ByteArray),.bool false]) ?_ 3 _ rfl;(with_reducible repeat (first | refine ay ?_ _ | refine ar ?_ | refine ax ?_ _));refine bk (cs:=#[.string t358,.string t363,.int .i64 0,.string (⟨#[]⟩:ByteArray),.bool false]) ?_ 2 _ rfl;(with_reducible repeat (first | refine ay ?_ _ | refine ar ?_ | refine ax ?_ _));refine bk (cs:=#[.string t358,.string (⟨#[]⟩:ByteArray),.int .i64 0,.string (⟨#[]⟩:ByteArray),.bool false]) ?_ 1 _ rfl;(with_reducible repeat (first | refine ay ?_ _ | refine ar ?_ | refine ax ?_ _));refine bk (cs:=#[.string (⟨#[]⟩:ByteArray),.string (⟨#[]⟩:ByteArray),.int .i64 0,.string (⟨#[]⟩:ByteArray),.bool false]) ?_ 0 _ rfl;(with_reducible repeat (first | refine ay ?_ _ | refine ar ?_ | refine ax ?_ _));exact BK355.out) Tryz.underlying34 rfl (by kernel_rfl)) rfl ?_;exact ⟨_,dP,by (with_reducible repeat (first | apply Kd.dW | apply Kd.dV | apply Kd.ew));exact Kd.cW (Kd.dG (p:=⟨gb355,4,none⟩) (Kd.dG (p:=⟨gb355,3,none⟩) (Kd.dG (p:=⟨gb355,2,none⟩) (Kd.dG (p:=⟨gb355,1,none⟩) (Kd.dG (p:=⟨gb355,0,none⟩) (Kd.dg HO_0.out BK355.out (by decide)) (fun _ hk=>hk.2) (.string t358)) (fun _ hk=>hk.2) (.string t363)) (fun _ hk=>hk.2) (.int .i64 t368)) (fun _ hk=>hk.2) (.string t378)) (fun _ hk=>hk.2) (.bool t373)) (fun _ hk=>trivial),aq⟩
def cT.l0:Nat→List Int→Int→Bool→List (au)→Option ((List (au)) × Bool)
 | 0,_,_,_,_=>none
 | k+1,x0,x4,x5,x6=>if x5=true then (if x4 > 0 then ((dX.f k x0).bind fun bt390=>(if x6.length<2199023255552 then (cT.l0 k bt390.2.2.2.2.2.1 (wrap64 (x4 - 1)) bt390.2.2.2.2.2.2 (x6++[(⟨bt390.1,bt390.2.1,bt390.2.2.1,bt390.2.2.2.1,bt390.2.2.2.2.1⟩:au)])) else (none))) else (some (x6,((x0.length:Int) == 0)))) else (some (x6,false))
def cT.f (k:Nat) (l0:List Int):Option ((List (au)) × Bool):=(bq.f k l0).bind fun bt384=>(cT.l0 k bt384.2.1 bt384.1 bt384.2.2 ([]:List (au)))
theorem cT.cF:∀ k,(∀ y0 y1 y2 y3,aH (cT.l0 k y0 y1 y2 y3) (cT.l0 (k+1) y0 y1 y2 y3))
 | 0=>fun _ _ _ _ r h=>by simp [cT.l0] at h
 | k+1=>by
  have ih0:=cT.cF k
  ·
   intro y0 y1 y2 y3
   unfold cT.l0
   have m0:=@dX.mono;have m1:=@bq.mono;exact eF
theorem cT.mono:∀ a0 k,aH (cT.f k a0) (cT.f (k+1) a0):=by
 intro a0 k
 have ih0:=cT.cF k
 unfold cT.f
 have m0:=@dX.mono;have m1:=@bq.mono;exact eF
theorem cT.calls (k:Nat) (A0:Option Addr) (c0:Nat) (l0:List Int) (r1:List (au)) (r2:Bool) (w:World) (hr0:Kd.C (Kd.int .u8) w A0 l0.length l0) (hc0:l0.length≤c0) (h:cT.f k l0=some (r1,r2)) :
  Calls Tryz.prog 94 #[.slice A0 l0.length c0] w fun e w'=>∃ v0_:Value,e = .returned (.tuple #[v0_,.bool r2])∧Kd.R cm 34 w' w.heap.size (fun _=>True) v0_ r1∧Below w.heap.size w w':=by
 have hu34:=Tryz.underlying34;have HR0:=aS hr0;have HC0:=aS hc0;clear hr0 hc0;have HB:=aS (Below.refl w.heap.size w);have H:((bq.f k l0).bind fun bt384=>(cT.l0 k bt384.2.1 bt384.1 bt384.2.2 ([]:List (au))))=some (r1,r2):=h;clear h;replace H:=bU H;obtain ⟨⟨t384,t385,t386⟩,A20,H⟩:=H;(try dsimp only at H);have A2:=aS A20;clear A20
 have H':=aS H
 clear H
 go_enter Tryz.func94,Tryz.ntmps94
 go_wp2_with (first | ((with_reducible refine gC 71 ?_);refine dn 10 Tryz.func71 #[.slice A0 l0.length c0] ?_;(with_reducible refine (bq.calls k _ _ l0 t384 t385 t386 _ ?side1 ?side2 A2.out).mono ?_);(case side1=>exact eH HR0.out);(case side2=>exact HC0.out);rintro e w3 ⟨v387,rfl,ho0,hb⟩;refine ⟨_,rfl,?_⟩;have HO388:=aS (Kd.bn ho0 (aA aq));replace HB:=aM hb;(try clear hb);(try clear hk);(try clear hi);(try clear ho0)))
 go_loopg [0,4,5,6] k (fun kq v0 v4 v5 v6 w'=>∃ (x0_1:List Int) (x4_1:Int) (x5_1:Bool) (x6_1:List (au)),v4 = .int .i64 x4_1∧v5 = .bool x5_1∧ah (cT.l0 kq x0_1 x4_1 x5_1 x6_1=some (r1,r2))∧ah (kq≤k)∧ah (Kd.Q (Kd.int .u8) 5 w' w.heap.size (fun _=>True) v0 x0_1)∧ah (Kd.R cm 34 w' w.heap.size (fun _=>True) v6 x6_1)∧ah (Below w.heap.size w w'))
 case atStart=>exact ⟨(t385),(t384),(t386),(([]:List (au))),cG,cG,H',⟨Nat.le_refl _⟩,⟨Kd.lu (rel HO388.out)⟩,⟨by first | exact Kd.d6 _ _ _ _ _ | exact Kd.gB _ _ _ _ _ | exact Kd.fJ _ _ _ _ _ | exact Kd.gy _ _ _ _ _ | exact Kd.gE _ _ _ _ _⟩,⟨aq⟩⟩
 case round=>
  clear H';obtain ⟨x0_1,x4_1,x5_1,x6_1,rfl,rfl,HA,HK1,HO_0,HO_6,HB⟩:=hrel
  cases gk with
  | zero=>exact absurd HA.out (by simp [cT.l0])
  | succ k1=>
   have H:=HA.out;clear HA
   simp only [cT.l0] at H
   by_cases c4:x5_1=true
   ·
    subst c4
    replace H:=jy H
    by_cases c5:x4_1 > 0
    ·
     rw [if_pos c5] at H;have c5b0:decide (0<x4_1)=true:=decide_eq_true c5;clear c5;replace H:=bU H;obtain ⟨⟨t390,t391,t392,t393,t394,t395,t398⟩,A60,H⟩:=H;(try dsimp only at H);have A6:=aS A60;clear A60
     by_cases c7:x6_1.length<2199023255552
     ·
      rw [if_pos c7] at H;have LMc7:=aS c7;clear c7
      obtain ⟨y399,hy399⟩:∃ y_:List (au),y_=(x6_1++[(⟨t390,t391,t392,t393,t394⟩:au)]):=⟨_,rfl⟩
      (first | replace H:=l9 hy399 H | rw [←hy399] at H);have Ny399:=aS hy399;clear hy399
      have H':=aS H
      clear H
      go_wp2_with (first | ((with_reducible refine gD 7 ?_);(try (refine ez (by rfl) ?_;dsimp only));refine dK 7 #[.string (⟨#[]⟩:ByteArray),.string (⟨#[]⟩:ByteArray),.int .i64 0,.string (⟨#[]⟩:ByteArray),.bool false] 34 ?_;intro gb389 hg w8 hbox hb;replace HO_0:=aS (Kd.mL (by (with_reducible repeat (first | apply Kd.dW | apply Kd.dV | apply Kd.ew));exact HO_0.out) hb);replace HO_6:=aS (Kd.dB (Kd.DR (rel HO_6.out) gb389 (Nat.le_of_eq hg.symm)) hb);have BK389:=aS (hbox);have GW389:=bsize hg;have GE389:=bsize hg;replace HB:=aM hb;clear hb hbox hg;obtain ⟨Ao9,co9,eo9,_⟩:=Kd.qJ HO_0.out;subst eo9) | ((with_reducible refine gC 103 ?_);refine dn 23 Tryz.func103 #[.slice Ao9 x0_1.length co9] ?_;(with_reducible refine (dX.calls k1 _ _ x0_1 t390 t391 t392 t393 t394 t395 t398 _ ?side1 ?side2 A6.out).mono ?_);(case side1=>exact eH ((Kd.jk HO_0.out).2.2));(case side2=>exact (Kd.jk HO_0.out).2.1);rintro e w10 ⟨v396,rfl,ho0,hb⟩;refine ⟨_,rfl,?_⟩;replace HO_6:=aS (Kd.dB (rel HO_6.out) hb);have HO397:=aS (Kd.sX (Kd.rY ho0 (Kd.ri (by (with_reducible repeat (first | apply Kd.dW | apply Kd.dV | apply Kd.ew));exact HO_0.out))) (aA aq));replace HO_0:=aS (Kd.mB (by (with_reducible repeat (first | apply Kd.dW | apply Kd.dV | apply Kd.ew));exact HO_0.out) (by first | exact Kd.sI ho0 | exact Kd.kJ ho0 | exact Kd.gi ho0 | exact Kd.V_base ho0) hb);replace BK389:=fp BK389 hb;replace HB:=aM hb;(try clear hb);(try clear hk);(try clear hi);(try clear ho0);have hcz11:=cO BK389) | ((with_reducible refine fS (b:=.append) (xs:=#[.tmp 27,.tmp 29]) rfl ?_);(try (refine ez (by rfl) ?_;dsimp only));at_builtin;refine Kd.gJ cm (w0:=w) w.heap.size rfl (.tmp 27) (.tmp 29) 32 34 (.agg #[(.string ⟨#[]⟩),(.string ⟨#[]⟩),(.int .i64 0),(.string ⟨#[]⟩),(.bool false)]) 64 rfl Tryz.underlying32 eO rfl (by decide) (by omega) u6 x6_1 (⟨t390,t391,t392,t393,t394⟩:au) [.string t390,.string t391,.int .i64 t392,.string t393,.bool t394] (fun k_=>k_≠gb389) (fun _=>False) rfl (by first | (go_simp;done) | (go_simp;rfl)) ?aP (fun _ hk=>hk.elim) ?aF ?aO ?aB ?aS ?aL ?_;(case aP=>exact ia _ _ _ (⟨t390,t391,t392,t393,t394⟩:au));(case aB=>exact aq);(case aF=>exact (fun k_ hk=>Kd.nU (g:=gb389) (o:=.cells #[.string t390,.string t391,.int .i64 t392,.string t393,.bool t394] 34 (0,0)) (by (with_reducible repeat (first | refine ay ?_ _ | refine ar ?_ | refine ax ?_ _));refine bk (cs:=#[.string t390,.string t391,.int .i64 t392,.string t393,.bool false]) ?_ 4 _ rfl;(with_reducible repeat (first | refine ay ?_ _ | refine ar ?_ | refine ax ?_ _));refine bk (cs:=#[.string t390,.string t391,.int .i64 t392,.string (⟨#[]⟩:ByteArray),.bool false]) ?_ 3 _ rfl;(with_reducible repeat (first | refine ay ?_ _ | refine ar ?_ | refine ax ?_ _));refine bk (cs:=#[.string t390,.string t391,.int .i64 0,.string (⟨#[]⟩:ByteArray),.bool false]) ?_ 2 _ rfl;(with_reducible repeat (first | refine ay ?_ _ | refine ar ?_ | refine ax ?_ _));refine bk (cs:=#[.string t390,.string (⟨#[]⟩:ByteArray),.int .i64 0,.string (⟨#[]⟩:ByteArray),.bool false]) ?_ 1 _ rfl;(with_reducible repeat (first | refine ay ?_ _ | refine ar ?_ | refine ax ?_ _));refine bk (cs:=#[.string (⟨#[]⟩:ByteArray),.string (⟨#[]⟩:ByteArray),.int .i64 0,.string (⟨#[]⟩:ByteArray),.bool false]) ?_ 0 _ rfl;(with_reducible repeat (first | refine ay ?_ _ | refine ar ?_ | refine ax ?_ _));exact BK389.out) k_ hk));(case aO=>exact (by (with_reducible repeat (first | apply Kd.bB | apply Kd.bC | apply Kd.bD));exact Kd.aK (Kd.fe (p:=⟨gb389,4,none⟩) (Kd.fe (p:=⟨gb389,3,none⟩) (Kd.fe (p:=⟨gb389,2,none⟩) (Kd.fe (p:=⟨gb389,1,none⟩) (Kd.fe (p:=⟨gb389,0,none⟩) (Kd.aK HO_6.out (fun k_ hk=>(⟨hk,hk.2⟩:_∧k_≠gb389))) (fun _ hk=>hk.2) (.string t390)) (fun _ hk=>hk.2) (.string t391)) (fun _ hk=>hk.2) (.int .i64 t392)) (fun _ hk=>hk.2) (.string t393)) (fun _ hk=>hk.2) (.bool t394)) (fun _ hk=>hk.1.2)));(case aS=>exact (aA aq));(case aL=>have:=LMc7.out;omega);intro v400 w12 ho hb hg hat;rw [←Ny399.out] at ho;have n0_:=aS (Kd.zT (by (with_reducible repeat (first | apply Kd.dW | apply Kd.dV | apply Kd.ew));exact (Kd.cW (Kd.dG (p:=⟨gb389,4,none⟩) (Kd.dG (p:=⟨gb389,3,none⟩) (Kd.dG (p:=⟨gb389,2,none⟩) (Kd.dG (p:=⟨gb389,1,none⟩) (Kd.dG (p:=⟨gb389,0,none⟩) (Kd.dg HO_0.out BK389.out (by decide)) (fun _ hk=>hk.2) (.string t390)) (fun _ hk=>hk.2) (.string t391)) (fun _ hk=>hk.2) (.int .i64 t392)) (fun _ hk=>hk.2) (.string t393)) (fun _ hk=>hk.2) (.bool t394)) (fun _ h_=>h_.1))) (Kd.gu (by (with_reducible repeat (first | apply Kd.bB | apply Kd.bC | apply Kd.bD));exact (Kd.aK (Kd.fe (p:=⟨gb389,4,none⟩) (Kd.fe (p:=⟨gb389,3,none⟩) (Kd.fe (p:=⟨gb389,2,none⟩) (Kd.fe (p:=⟨gb389,1,none⟩) (Kd.fe (p:=⟨gb389,0,none⟩) (Kd.aK HO_6.out (fun k_ hk=>(⟨hk,hk.2⟩:_∧k_≠gb389))) (fun _ hk=>hk.2) (.string t390)) (fun _ hk=>hk.2) (.string t391)) (fun _ hk=>hk.2) (.int .i64 t392)) (fun _ hk=>hk.2) (.string t393)) (fun _ hk=>hk.2) (.bool t394)) (fun _ h_=>h_.1)))) (by decide) hg);have n1_:=aS (eP (g:=gb389) (o:=.cells #[.string t390,.string t391,.int .i64 t392,.string t393,.bool t394] 34 (0,0)) (by (with_reducible repeat (first | refine ay ?_ _ | refine ar ?_ | refine ax ?_ _));refine bk (cs:=#[.string t390,.string t391,.int .i64 t392,.string t393,.bool false]) ?_ 4 _ rfl;(with_reducible repeat (first | refine ay ?_ _ | refine ar ?_ | refine ax ?_ _));refine bk (cs:=#[.string t390,.string t391,.int .i64 t392,.string (⟨#[]⟩:ByteArray),.bool false]) ?_ 3 _ rfl;(with_reducible repeat (first | refine ay ?_ _ | refine ar ?_ | refine ax ?_ _));refine bk (cs:=#[.string t390,.string t391,.int .i64 0,.string (⟨#[]⟩:ByteArray),.bool false]) ?_ 2 _ rfl;(with_reducible repeat (first | refine ay ?_ _ | refine ar ?_ | refine ax ?_ _));refine bk (cs:=#[.string t390,.string (⟨#[]⟩:ByteArray),.int .i64 0,.string (⟨#[]⟩:ByteArray),.bool false]) ?_ 1 _ rfl;(with_reducible repeat (first | refine ay ?_ _ | refine ar ?_ | refine ax ?_ _));refine bk (cs:=#[.string (⟨#[]⟩:ByteArray),.string (⟨#[]⟩:ByteArray),.int .i64 0,.string (⟨#[]⟩:ByteArray),.bool false]) ?_ 0 _ rfl;(with_reducible repeat (first | refine ay ?_ _ | refine ar ?_ | refine ax ?_ _));exact BK389.out) hg (Kd.qo HO_6.out (fun _ hk=>hk.2)));have n2_:=aS (Kd.zT (by (with_reducible repeat (first | apply Kd.dW | apply Kd.dV | apply Kd.ew));exact (Kd.cW (Kd.dG (p:=⟨gb389,4,none⟩) (Kd.dG (p:=⟨gb389,3,none⟩) (Kd.dG (p:=⟨gb389,2,none⟩) (Kd.dG (p:=⟨gb389,1,none⟩) (Kd.dG (p:=⟨gb389,0,none⟩) (Kd.dg HO397.out BK389.out (by decide)) (fun _ hk=>hk.2) (.string t390)) (fun _ hk=>hk.2) (.string t391)) (fun _ hk=>hk.2) (.int .i64 t392)) (fun _ hk=>hk.2) (.string t393)) (fun _ hk=>hk.2) (.bool t394)) (fun _ h_=>h_.1))) (Kd.gu (by (with_reducible repeat (first | apply Kd.bB | apply Kd.bC | apply Kd.bD));exact (Kd.aK (Kd.fe (p:=⟨gb389,4,none⟩) (Kd.fe (p:=⟨gb389,3,none⟩) (Kd.fe (p:=⟨gb389,2,none⟩) (Kd.fe (p:=⟨gb389,1,none⟩) (Kd.fe (p:=⟨gb389,0,none⟩) (Kd.aK HO_6.out (fun k_ hk=>(⟨hk,hk.2⟩:_∧k_≠gb389))) (fun _ hk=>hk.2) (.string t390)) (fun _ hk=>hk.2) (.string t391)) (fun _ hk=>hk.2) (.int .i64 t392)) (fun _ hk=>hk.2) (.string t393)) (fun _ hk=>hk.2) (.bool t394)) (fun _ h_=>h_.1)))) (by decide) hg);have n3_:=aS (hb);have n4_:=aS (ho);clear HO_0;clear BK389;clear HO397;clear HB;clear HO_6;have HO_0:=n0_;have BK389:=n1_;have HO397:=n2_;have HB:=n3_;have HO401:=n4_;clear n0_ n1_ n2_ n3_ n4_;clear ho hb hg hat))
      go_roundg k1
      case measure=>have:=HK1.out;omega
      case rel=>exact ⟨(t395),(wrap64 (x4_1 - 1)),(t398),(y399),cG,cG,H',⟨by have:=HK1.out;omega⟩,⟨by (with_reducible repeat (first | apply Kd.dW | apply Kd.dV | apply Kd.ew));exact Kd.cW HO397.out (fun _ hk=>trivial)⟩,⟨by (with_reducible repeat (first | apply Kd.bB | apply Kd.bC | apply Kd.bD));exact Kd.aK HO401.out (fun _ hk=>trivial)⟩,⟨aq⟩⟩
     ·
      rw [if_neg c7] at H;exact absurd H (by simp)
    ·
     rw [if_neg c5] at H;have c5b0:decide (0<x4_1)=false:=decide_eq_false c5;clear c5
     simp only [Option.some.injEq,Prod.mk.injEq] at H
     obtain ⟨rfl,rfl⟩:=H;obtain ⟨Ao13,co13,eo13,_⟩:=Kd.qJ HO_0.out;subst eo13
     go_wp2
     go_ret2
     exact ⟨_,dP,by (with_reducible repeat (first | apply Kd.bB | apply Kd.bC | apply Kd.bD));exact HO_6.out,aq⟩
   ·
    replace c4:=Bool.eq_false_iff.mpr c4;subst c4
    replace H:=jw H
    simp only [Option.some.injEq,Prod.mk.injEq] at H
    obtain ⟨rfl,rfl⟩:=H
    go_wp2
    go_ret2
    exact ⟨_,dP,by (with_reducible repeat (first | apply Kd.bB | apply Kd.bC | apply Kd.bD));exact HO_6.out,aq⟩
def dI.j0:Nat→List Int→List (au)→Bool→Option ((List (au)) × List Int × Int)
 | 0,_,_,_=>none
 | k+1,x6,x8,x33=>if x33=true then (some (([]:List (au)),([]:List Int),2)) else ((dD.f x6).bind fun t414=>(some (x8,t414,0)))
def dI.f (k:Nat) (l0:List Int):Option ((List (au)) × List Int × Int):=(bW.f k l0).bind fun bt402=>(if bt402.2.2=true then ((cT.f k bt402.1).bind fun bt409=>(if bt409.2=true then (if (bt409.1.length:Int)=0 then (dI.j0 k bt402.2.1 bt409.1 true) else ((aQ.f k bt409.1).bind fun t413=>(dI.j0 k bt402.2.1 bt409.1 (!t413)))) else (dI.j0 k bt402.2.1 bt409.1 true))) else (some (([]:List (au)),([]:List Int),2)))
theorem dI.cF:∀ k,(∀ y0 y1 y2,aH (dI.j0 k y0 y1 y2) (dI.j0 (k+1) y0 y1 y2))
 | 0=>fun _ _ _ r h=>by simp [dI.j0] at h
 | k+1=>by
  have ih0:=dI.cF k
  ·
   intro y0 y1 y2
   unfold dI.j0
   have m0:=@cT.mono;have m1:=@aQ.mono;have m2:=@bW.mono;exact eF
theorem dI.mono:∀ a0 k,aH (dI.f k a0) (dI.f (k+1) a0):=by
 intro a0 k
 have ih0:=dI.cF k
 unfold dI.f
 have m0:=@cT.mono;have m1:=@aQ.mono;have m2:=@bW.mono;exact eF
theorem dI.calls (k:Nat) (A0:Option Addr) (c0:Nat) (l0:List Int) (r1:List (au)) (r2:List Int) (r3:Int) (w:World) (hr0:Kd.C (Kd.int .u8) w A0 l0.length l0) (hc0:l0.length≤c0) (h:dI.f k l0=some (r1,r2,r3)) :
  Calls Tryz.prog 72 #[.slice A0 l0.length c0] w fun e w'=>∃ v0_ v1_:Value,e = .returned (.tuple #[v0_,v1_,.int .i64 r3])∧Kd.R cm 34 w' w.heap.size (fun _=>True) v0_ r1∧Kd.R (Kd.int .u8) 5 w' w.heap.size (fun _=>True) v1_ r2∧Below w.heap.size w w':=by
 have HR0:=aS hr0;have HC0:=aS hc0;clear hr0 hc0;have HB:=aS (Below.refl w.heap.size w);have H:((bW.f k l0).bind fun bt402=>(if bt402.2.2=true then ((cT.f k bt402.1).bind fun bt409=>(if bt409.2=true then (if (bt409.1.length:Int)=0 then (dI.j0 k bt402.2.1 bt409.1 true) else ((aQ.f k bt409.1).bind fun t413=>(dI.j0 k bt402.2.1 bt409.1 (!t413)))) else (dI.j0 k bt402.2.1 bt409.1 true))) else (some (([]:List (au)),([]:List Int),2))))=some (r1,r2,r3):=h;clear h;replace H:=bU H;obtain ⟨⟨t402,t405,t408⟩,A20,H⟩:=H;(try dsimp only at H);have A2:=aS A20;clear A20
 by_cases c3:t408=true
 ·
  subst c3
  replace H:=jy H;replace H:=bU H;obtain ⟨⟨t409,t410⟩,A40,H⟩:=H;(try dsimp only at H);have A4:=aS A40;clear A40;have HC5:=aS H;clear H
  go_enter Tryz.func72,Tryz.ntmps72
  go_upto_region 5 with (first | ((with_reducible refine gC 93 ?_);refine dn 11 Tryz.func93 #[.slice A0 l0.length c0] ?_;(with_reducible refine (bW.calls k (fun k_=>k_<w.heap.size) _ _ l0 t402 t405 true _ ?side1 A2.out).mono ?_);(case side1=>exact Kd.nE HC0.out (Kd.mC (Kd.CJ (Kd.kF .u8) HR0.out) aq));rintro e w6 ⟨v403,v406,rfl,ho0,ho1,hb⟩;refine ⟨_,rfl,?_⟩;have HO404:=aS (Kd.sW (Kd.ep (ok':=fun k_=>True) ho0 (fun k_ hk_=>trivial)) (aA aq));have HO407:=aS (Kd.sW (Kd.ep (ok':=fun k_=>True) ho1 (fun k_ hk_=>trivial)) (aA aq));replace HB:=aM hb;(try clear hb);(try clear hk);(try clear hi);(try clear ho0);(try clear ho1);obtain ⟨Ao7,co7,eo7⟩:=Kd.mI HO404.out;subst eo7) | ((with_reducible refine gC 94 ?_);refine dn 19 Tryz.func94 #[.slice Ao7 t402.length co7] ?_;(with_reducible refine (cT.calls k _ _ t402 t409 t410 _ ?side1 ?side2 A4.out).mono ?_);(case side1=>exact eH ((Kd.dJ HO404.out).2.2));(case side2=>exact (Kd.dJ HO404.out).2.1);rintro e w8 ⟨v411,rfl,ho0,hb⟩;refine ⟨_,rfl,?_⟩;replace HO404:=aS (Kd.cZ (sel HO404.out) (dm ho0) hb);replace HO407:=aS (Kd.cZ (sel HO407.out) (dm ho0) hb);have HO412:=aS (Kd.bn ho0 (aA aq));replace HB:=aM hb;(try clear hb);(try clear hk);(try clear hi);(try clear ho0)))
  (try simp only [Act.put,eI,eG,lss])
  go_cut [33] (fun v33 wc=>∃ (kq:Nat) (x33_4:Bool),v33 = .bool x33_4∧ah (dI.j0 kq t405 t409 x33_4=some (r1,r2,r3))∧ah (kq≤k)∧ah (Kd.V (Kd.int .u8) 5 wc w.heap.size (fun k_=>some k_≠(v411:Value).ownBlock) v406 t405)∧ah (Kd.R cm 34 wc w.heap.size (fun _=>True) v411 t409)∧ah (Below w.heap.size w wc))
  case first=>
   have H:=HC5.out;clear HC5
   by_cases c9:t410=true
   ·
    subst c9
    replace H:=jy H
    by_cases ef:(t409.length:Int)=0
    ·
     rw [if_pos ef] at H;obtain ⟨c10b0,c10b1⟩:=jh ef;clear ef
     (first | rw [c10b0] | (simp only [cC,dw];rw [c10b0]) | skip)
     have H':=aS H
     clear H;obtain ⟨Ao11,co11,eo11⟩:=Kd.bp HO412.out;subst eo11
     go_wp2
     go_meet
     case rel=>exact ⟨_,(true),cG,H',⟨by first | omega | exact Nat.le_refl _⟩,⟨by (with_reducible repeat (first | apply Kd.fw | apply Kd.fu | apply Kd.eS));exact Kd.ep HO407.out (fun _ hk=>hk.2)⟩,⟨by (with_reducible repeat (first | apply Kd.bB | apply Kd.bC | apply Kd.bD));exact HO412.out⟩,⟨aq⟩⟩
    ·
     rw [if_neg ef] at H;obtain ⟨c10b0,c10b1⟩:=iT ef
     have c10b2:¬ (t409=[]):=fun h_=>ef (by rw [h_];rfl)
     (first | rw [c10b0] | (simp only [cC,dw];rw [c10b0]) | skip)
     replace H:=bU H;obtain ⟨t413,A120,H⟩:=H;have A12:=aS A120;clear A120
     have H':=aS H
     clear H;obtain ⟨Ao13,co13,eo13⟩:=Kd.bp HO412.out;subst eo13
     go_wp2_with (first | (go_at_call 73;(with_reducible refine (aQ.calls k _ _ t409 t413 _ ?side1 ?side2 A12.out).mono ?_);(case side1=>exact eH ((Kd.aY HO412.out).2.2));(case side2=>exact (Kd.aY HO412.out).2.1);rintro e w14 ⟨rfl,hb⟩;replace HO404:=aS (Kd.kV (sel HO404.out) hb);replace HO407:=aS (Kd.kV (sel HO407.out) hb);replace HO412:=aS (Kd.dB (rel HO412.out) hb);replace HB:=aM hb;(try clear hb);(try clear hk);(try clear hi)))
     go_meet
     case rel=>exact ⟨_,(!t413),cG,H',⟨by first | omega | exact Nat.le_refl _⟩,⟨by (with_reducible repeat (first | apply Kd.fw | apply Kd.fu | apply Kd.eS));exact Kd.ep HO407.out (fun _ hk=>hk.2)⟩,⟨by (with_reducible repeat (first | apply Kd.bB | apply Kd.bC | apply Kd.bD));exact HO412.out⟩,⟨aq⟩⟩
   ·
    replace c9:=Bool.eq_false_iff.mpr c9;subst c9
    replace H:=jw H
    have H':=aS H
    clear H
    go_wp2
    go_meet
    case rel=>exact ⟨_,(true),cG,H',⟨by first | omega | exact Nat.le_refl _⟩,⟨by (with_reducible repeat (first | apply Kd.fw | apply Kd.fu | apply Kd.eS));exact Kd.ep HO407.out (fun _ hk=>hk.2)⟩,⟨by (with_reducible repeat (first | apply Kd.bB | apply Kd.bC | apply Kd.bD));exact HO412.out⟩,⟨aq⟩⟩
  case rest=>
   clear HC5;(try clear c3);obtain ⟨kq,x33_4,rfl,HA,HJ4,HO_6,HO_8,HB⟩:=hcut
   cases kq with
   | zero=>exact absurd HA.out (by simp [dI.j0])
   | succ kj4=>
    have H:=HA.out;clear HA
    simp only [dI.j0] at H
    by_cases c15:x33_4=true
    ·
     subst c15
     replace H:=jy H
     simp only [Option.some.injEq,Prod.mk.injEq] at H
     obtain ⟨rfl,rfl,rfl⟩:=H
     go_wp2
     go_ret3
     exact ⟨_,_,dP,by first | exact Kd.d6 _ _ _ _ _ | exact Kd.gB _ _ _ _ _ | exact Kd.fJ _ _ _ _ _ | exact Kd.gy _ _ _ _ _ | exact Kd.gE _ _ _ _ _,by first | exact Kd.d6 _ _ _ _ _ | exact Kd.gB _ _ _ _ _ | exact Kd.fJ _ _ _ _ _ | exact Kd.gy _ _ _ _ _ | exact Kd.gE _ _ _ _ _,aq⟩
    ·
     replace c15:=Bool.eq_false_iff.mpr c15;subst c15
     replace H:=jw H;replace H:=bU H;obtain ⟨t414,A160,H⟩:=H;have A16:=aS A160;clear A160
     simp only [Option.some.injEq,Prod.mk.injEq] at H
     obtain ⟨rfl,rfl,rfl⟩:=H;obtain ⟨Ao17,co17,eo17⟩:=Kd.mI HO_6.out;subst eo17
     go_wp2_with (first | ((with_reducible refine gC 92 ?_);refine dn 36 Tryz.func92 #[.slice Ao17 t405.length co17] ?_;(with_reducible refine (dD.calls _ _ t405 t414 _ ?side1 ?side2 A16.out).mono ?_);(case side1=>exact eH ((Kd.dJ HO_6.out).2.2));(case side2=>exact (Kd.dJ HO_6.out).2.1);rintro e w18 ⟨v415,rfl,ho0,hb⟩;refine ⟨_,rfl,?_⟩;replace HO_6:=aS (Kd.cZ (sel HO_6.out) (dm ho0) hb);replace HO_8:=aS (Kd.dB (rel HO_8.out) hb);have HO416:=aS (Kd.bn ho0 (aA aq));replace HB:=aM hb;(try clear hb);(try clear hk);(try clear hi);(try clear ho0)))
     go_ret3
     exact ⟨_,_,dP,by (with_reducible repeat (first | apply Kd.bB | apply Kd.bC | apply Kd.bD));exact HO_8.out,by (with_reducible repeat (first | apply Kd.bB | apply Kd.bC | apply Kd.bD));exact HO416.out,aq⟩
 ·
  replace c3:=Bool.eq_false_iff.mpr c3;subst c3
  replace H:=jw H
  simp only [Option.some.injEq,Prod.mk.injEq] at H
  obtain ⟨rfl,rfl,rfl⟩:=H
  go_enter Tryz.func72,Tryz.ntmps72
  go_wp2_with (first | ((with_reducible refine gC 93 ?_);refine dn 11 Tryz.func93 #[.slice A0 l0.length c0] ?_;(with_reducible refine (bW.calls k (fun k_=>k_<w.heap.size) _ _ l0 t402 t405 false _ ?side1 A2.out).mono ?_);(case side1=>exact Kd.nE HC0.out (Kd.mC (Kd.CJ (Kd.kF .u8) HR0.out) aq));rintro e w19 ⟨v403,v406,rfl,ho0,ho1,hb⟩;refine ⟨_,rfl,?_⟩;have HO404:=aS (Kd.sW (Kd.ep (ok':=fun k_=>True) ho0 (fun k_ hk_=>trivial)) (aA aq));have HO407:=aS (Kd.sW (Kd.ep (ok':=fun k_=>True) ho1 (fun k_ hk_=>trivial)) (aA aq));replace HB:=aM hb;(try clear hb);(try clear hk);(try clear hi);(try clear ho0);(try clear ho1)))
  go_ret3
  exact ⟨_,_,dP,by first | exact Kd.d6 _ _ _ _ _ | exact Kd.gB _ _ _ _ _ | exact Kd.fJ _ _ _ _ _ | exact Kd.gy _ _ _ _ _ | exact Kd.gE _ _ _ _ _,by first | exact Kd.d6 _ _ _ _ _ | exact Kd.gB _ _ _ _ _ | exact Kd.fJ _ _ _ _ _ | exact Kd.gy _ _ _ _ _ | exact Kd.gE _ _ _ _ _,aq⟩
mutual
def aW.l0:Nat→List (List (au))→Int→Int→List (List (au))→Int→Int→Option (Bool)
 | 0,_,_,_,_,_,_=>none
 | k+1,x0,x3,x4,x10,x11,x12=>if x12<x11 then (if 0≤x12 then (if x12<(x10.length:Int) then (aW.l1 k x0 x3 x4 x12 (aN x10 x12) 0 x10 x11 x12 (aN x10 x12) ((aN x10 x12).length:Int) 0) else (none)) else (none)) else (some (decide (x3≤x4)))
def aW.l1:Nat→List (List (au))→Int→Int→Int→List (au)→Int→List (List (au))→Int→Int→List (au)→Int→Int→Option (Bool)
 | 0,_,_,_,_,_,_,_,_,_,_,_,_=>none
 | k+1,x0,x3,x4,x5,x6,x7,x10,x11,x12,x17,x18,x19=>if x19<x18 then (if 0≤x19 then (if x19<(x17.length:Int) then (if x19=(wrap64 ((x6.length:Int) - 1)) then (aW.j2 k x0 x3 x4 x5 x6 x7 x19 x10 x11 x12 x17 x18 x19 (decide (x5<(wrap64 ((x0.length:Int) - 1)))) ((af x17 x19).f0) ((af x17 x19).f1) ((af x17 x19).f2) ((af x17 x19).f3) ((af x17 x19).f4)) else (aW.j2 k x0 x3 x4 x5 x6 x7 x19 x10 x11 x12 x17 x18 x19 false ((af x17 x19).f0) ((af x17 x19).f1) ((af x17 x19).f2) ((af x17 x19).f3) ((af x17 x19).f4))) else (none)) else (none)) else (aW.l0 k x0 x3 x4 x10 x11 (wrap64 (x12+1)))
def aW.j2:Nat→List (List (au))→Int→Int→Int→List (au)→Int→Int→List (List (au))→Int→Int→List (au)→Int→Int→Bool→ByteArray→ByteArray→Int→ByteArray→Bool→Option (Bool)
 | 0,_,_,_,_,_,_,_,_,_,_,_,_,_,_,_,_,_,_,_=>none
 | k+1,x0,x3,x4,x5,x6,x7,x8,x10,x11,x12,x17,x18,x19,x35,x420000,x420001,x420002,x420003,x420004=>if x35=true then ((dh.f x420000 x420001 x420002 x420003 x420004).bind fun t420=>(if x8 > 0 then ((dh.f x420000 x420001 x420002 x420003 x420004).bind fun t423=>(aW.l1 k x0 (mx x3 (wrap64 (x7+1))) (mn x4 (wrap64 (x7+(t420.length:Int)))) x5 x6 (wrap64 (x7+(t423.length:Int))) x10 x11 x12 x17 x18 (wrap64 (x19+1)))) else ((dh.f x420000 x420001 x420002 x420003 x420004).bind fun t426=>(aW.l1 k x0 x3 (mn x4 (wrap64 (x7+(t420.length:Int)))) x5 x6 (wrap64 (x7+(t426.length:Int))) x10 x11 x12 x17 x18 (wrap64 (x19+1)))))) else (if x8 > 0 then ((dh.f x420000 x420001 x420002 x420003 x420004).bind fun t429=>(aW.l1 k x0 (mx x3 (wrap64 (x7+1))) x4 x5 x6 (wrap64 (x7+(t429.length:Int))) x10 x11 x12 x17 x18 (wrap64 (x19+1)))) else ((dh.f x420000 x420001 x420002 x420003 x420004).bind fun t432=>(aW.l1 k x0 x3 x4 x5 x6 (wrap64 (x7+(t432.length:Int))) x10 x11 x12 x17 x18 (wrap64 (x19+1)))))
end
def aW.f (k:Nat) (l0:List (List (au))):Option (Bool):=aW.l0 k l0 1 4294967296 l0 (l0.length:Int) 0
theorem aW.cF:∀ k,(∀ y0 y1 y2 y3 y4 y5,aH (aW.l0 k y0 y1 y2 y3 y4 y5) (aW.l0 (k+1) y0 y1 y2 y3 y4 y5))∧(∀ y0 y1 y2 y3 y4 y5 y6 y7 y8 y9 y10 y11,aH (aW.l1 k y0 y1 y2 y3 y4 y5 y6 y7 y8 y9 y10 y11) (aW.l1 (k+1) y0 y1 y2 y3 y4 y5 y6 y7 y8 y9 y10 y11))∧(∀ y0 y1 y2 y3 y4 y5 y6 y7 y8 y9 y10 y11 y12 y13 y14 y15 y16 y17 y18,aH (aW.j2 k y0 y1 y2 y3 y4 y5 y6 y7 y8 y9 y10 y11 y12 y13 y14 y15 y16 y17 y18) (aW.j2 (k+1) y0 y1 y2 y3 y4 y5 y6 y7 y8 y9 y10 y11 y12 y13 y14 y15 y16 y17 y18))
 | 0=>⟨fun _ _ _ _ _ _ r h=>by simp [aW.l0] at h,fun _ _ _ _ _ _ _ _ _ _ _ _ r h=>by simp [aW.l1] at h,fun _ _ _ _ _ _ _ _ _ _ _ _ _ _ _ _ _ _ _ r h=>by simp [aW.j2] at h⟩
 | k+1=>by
  obtain ⟨ih0,ih1,ih2⟩:=aW.cF k;refine ⟨?_,?_,?_⟩
  ·
   intro y0 y1 y2 y3 y4 y5
   unfold aW.l0
   exact eF
  ·
   intro y0 y1 y2 y3 y4 y5 y6 y7 y8 y9 y10 y11
   unfold aW.l1
   exact eF
  ·
   intro y0 y1 y2 y3 y4 y5 y6 y7 y8 y9 y10 y11 y12 y13 y14 y15 y16 y17 y18
   unfold aW.j2
   exact eF
theorem aW.mono:∀ a0 k,aH (aW.f k a0) (aW.f (k+1) a0):=by
 intro a0 k
 obtain ⟨ih0,ih1,ih2⟩:=aW.cF k
 unfold aW.f
 exact eF
theorem aW.calls (k:Nat) (A0:Option Addr) (c0:Nat) (l0:List (List (au))) (r:Bool) (w:World) (hr0:Kd.C (Kd.slice 34 cm) w A0 l0.length l0) (hc0:l0.length≤c0) (h:aW.f k l0=some r) :
  Calls Tryz.prog 74 #[.slice A0 l0.length c0] w fun e w'=>e = .returned (.bool r)∧Below w.heap.size w w':=by
 have hu34:=Tryz.underlying34;have HR0:=aS hr0;have HC0:=aS hc0;clear hr0 hc0;have HB:=aS (Below.refl w.heap.size w);have H:(aW.l0 k l0 1 4294967296 l0 (l0.length:Int) 0)=some r:=h;clear h
 have H':=aS H
 clear H
 go_enter Tryz.func74,Tryz.ntmps74
 go_wp2
 go_loopg [3,4,12] k (fun kq v3 v4 v12 w'=>∃ (x3_1:Int) (x4_1:Int) (x12_1:Int),v3 = .int .i64 x3_1∧v4 = .int .i64 x4_1∧v12 = .int .i64 x12_1∧ah (aW.l0 kq l0 x3_1 x4_1 l0 (l0.length:Int) x12_1=some r)∧ah (kq≤k)∧ah (Below w.heap.size w w'))
 case atStart=>exact ⟨(1),(4294967296),(0),cG,cG,cG,H',⟨Nat.le_refl _⟩,⟨aq⟩⟩
 case round=>
  clear H';obtain ⟨x3_1,x4_1,x12_1,rfl,rfl,rfl,HA,HK1,HB⟩:=hrel
  cases gk with
  | zero=>exact absurd HA.out (by simp [aW.l0])
  | succ k1=>
   have H:=HA.out;clear HA
   simp only [aW.l0] at H
   by_cases c2:x12_1<(l0.length:Int)
   ·
    rw [if_pos c2] at H;have c2b0:decide (x12_1<(l0.length:Int))=true:=decide_eq_true c2;clear c2
    by_cases c3:0≤x12_1
    ·
     rw [if_pos c3] at H;have c3b0:decide (0≤x12_1)=true:=decide_eq_true c3;clear c3
     by_cases c4:x12_1<(l0.length:Int)
     ·
      rw [if_pos c4] at H;have c4b0:decide (x12_1<(l0.length:Int))=true:=decide_eq_true c4;clear c4
      have H':=aS H
      clear H;have p417:0≤(x12_1:Int):=bJ;have q417:x12_1<(l0.length:Int):=bJ;obtain ⟨ad417,A417_0,c417_0,e417,hx417_0,hl417_0,hi417_0⟩:=rE HR0.out x12_1 p417 q417;cases e417;have hB_417_0:=aS hx417_0;replace hx417_0:=bx aq hx417_0;have HR417_0:=aS hi417_0;have HC417_0:=aS hl417_0;clear hi417_0 hl417_0;replace p417:=eq_true p417;replace q417:=eq_true q417
      go_wp2
      go_loopg [3,4,7,19] k1 (fun kq v3 v4 v7 v19 w'=>∃ (x3_2:Int) (x4_2:Int) (x7_2:Int) (x19_2:Int),v3 = .int .i64 x3_2∧v4 = .int .i64 x4_2∧v7 = .int .i64 x7_2∧v19 = .int .i64 x19_2∧ah (aW.l1 kq l0 x3_2 x4_2 x12_1 (aN l0 x12_1) x7_2 l0 (l0.length:Int) x12_1 (aN l0 x12_1) ((aN l0 x12_1).length:Int) x19_2=some r)∧ah (kq≤k1)∧ah (Below w.heap.size w w'))
      case atStart=>exact ⟨(x3_1),(x4_1),(0),(0),cG,cG,cG,cG,H',⟨Nat.le_refl _⟩,⟨aq⟩⟩
      case round=>
       clear H';(try clear c2);(try clear c2b0);(try clear c3);(try clear c3b0);(try clear c4);(try clear c4b0);(try clear hx417_0);(try clear p417);(try clear q417);obtain ⟨x3_2,x4_2,x7_2,x19_2,rfl,rfl,rfl,rfl,HA,HK2,HB⟩:=hrel
       cases gk with
       | zero=>exact absurd HA.out (by simp [aW.l1])
       | succ k2=>
        have H:=HA.out;clear HA
        simp only [aW.l1] at H
        by_cases c5:x19_2<((aN l0 x12_1).length:Int)
        ·
         rw [if_pos c5] at H;have c5b0:decide (x19_2<((aN l0 x12_1).length:Int))=true:=decide_eq_true c5;clear c5
         by_cases c6:0≤x19_2
         ·
          rw [if_pos c6] at H;have c6b0:decide (0≤x19_2)=true:=decide_eq_true c6;clear c6
          by_cases c7:x19_2<((aN l0 x12_1).length:Int)
          ·
           rw [if_pos c7] at H;have c7b0:decide (x19_2<((aN l0 x12_1).length:Int))=true:=decide_eq_true c7;clear c7;have HC8:=aS H;clear H;have p418:0≤(x19_2:Int):=bJ;have q418:x19_2<((aN l0 x12_1).length:Int):=bJ;obtain ⟨ad418,e418,hx418_0,hx418_1,hx418_2,hx418_3,hx418_4⟩:=dN HR417_0.out x19_2 p418 q418;cases e418;replace hx418_0:=bx aq hx418_0;replace hx418_1:=bx aq hx418_1;replace hx418_2:=bx aq hx418_2;replace hx418_3:=bx aq hx418_3;replace hx418_4:=bx aq hx418_4;replace p418:=eq_true p418;replace q418:=eq_true q418
           go_upto_region 9 with (first | ((with_reducible refine gD 9 ?_);(try (refine ez (by rfl) ?_;dsimp only));refine dK 9 #[.string (⟨#[]⟩:ByteArray),.string (⟨#[]⟩:ByteArray),.int .i64 0,.string (⟨#[]⟩:ByteArray),.bool false] 34 ?_;intro gb419 hg w9 hbox hb;have BK419:=aS (hbox);have GW419:=bsize hg;have GE419:=bsize hg;replace HB:=aM hb;clear hb hbox hg;have hcz10:=cO BK419))
           (try simp only [Act.put,eI,eG,lss])
           go_cut [35] (fun v35 wc=>∃ (kq:Nat) (x35_7:Bool),v35 = .bool x35_7∧ah (aW.j2 kq l0 x3_2 x4_2 x12_1 (aN l0 x12_1) x7_2 x19_2 l0 (l0.length:Int) x12_1 (aN l0 x12_1) ((aN l0 x12_1).length:Int) x19_2 x35_7 ((af (aN l0 x12_1) x19_2).f0) ((af (aN l0 x12_1) x19_2).f1) ((af (aN l0 x12_1) x19_2).f2) ((af (aN l0 x12_1) x19_2).f3) ((af (aN l0 x12_1) x19_2).f4)=some r)∧ah (kq≤k2)∧ah (wc.heap[gb419]? = some (.cells #[.string ((af (aN l0 x12_1) x19_2).f0),.string ((af (aN l0 x12_1) x19_2).f1),.int .i64 ((af (aN l0 x12_1) x19_2).f2),.string ((af (aN l0 x12_1) x19_2).f3),.bool ((af (aN l0 x12_1) x19_2).f4)] 34 (0,0)))∧ah (Below w.heap.size w wc))
           case first=>
            have H:=HC8.out;clear HC8
            by_cases c11:x19_2=(wrap64 (((aN l0 x12_1).length:Int) - 1))
            ·
             rw [if_pos c11] at H;obtain ⟨c11b0,c11b1⟩:=jh c11;clear c11
             (first | rw [c11b0] | (simp only [cC,dw];rw [c11b0]) | skip)
             have H':=aS H
             clear H
             go_wp2
             go_meet
             case rel=>exact ⟨_,(decide (x12_1<(wrap64 ((l0.length:Int) - 1)))),cG,H',⟨by have:=HK1.out;have:=HK2.out;first | omega | exact Nat.le_refl _⟩,⟨by (with_reducible repeat (first | refine ay ?_ _ | refine ar ?_ | refine ax ?_ _));refine bk (cs:=#[.string ((af (aN l0 x12_1) x19_2).f0),.string ((af (aN l0 x12_1) x19_2).f1),.int .i64 ((af (aN l0 x12_1) x19_2).f2),.string ((af (aN l0 x12_1) x19_2).f3),.bool false]) ?_ 4 _ rfl;(with_reducible repeat (first | refine ay ?_ _ | refine ar ?_ | refine ax ?_ _));refine bk (cs:=#[.string ((af (aN l0 x12_1) x19_2).f0),.string ((af (aN l0 x12_1) x19_2).f1),.int .i64 ((af (aN l0 x12_1) x19_2).f2),.string (⟨#[]⟩:ByteArray),.bool false]) ?_ 3 _ rfl;(with_reducible repeat (first | refine ay ?_ _ | refine ar ?_ | refine ax ?_ _));refine bk (cs:=#[.string ((af (aN l0 x12_1) x19_2).f0),.string ((af (aN l0 x12_1) x19_2).f1),.int .i64 0,.string (⟨#[]⟩:ByteArray),.bool false]) ?_ 2 _ rfl;(with_reducible repeat (first | refine ay ?_ _ | refine ar ?_ | refine ax ?_ _));refine bk (cs:=#[.string ((af (aN l0 x12_1) x19_2).f0),.string (⟨#[]⟩:ByteArray),.int .i64 0,.string (⟨#[]⟩:ByteArray),.bool false]) ?_ 1 _ rfl;(with_reducible repeat (first | refine ay ?_ _ | refine ar ?_ | refine ax ?_ _));refine bk (cs:=#[.string (⟨#[]⟩:ByteArray),.string (⟨#[]⟩:ByteArray),.int .i64 0,.string (⟨#[]⟩:ByteArray),.bool false]) ?_ 0 _ rfl;(with_reducible repeat (first | refine ay ?_ _ | refine ar ?_ | refine ax ?_ _));exact BK419.out⟩,⟨aq⟩⟩
            ·
             rw [if_neg c11] at H;obtain ⟨c11b0,c11b1⟩:=iT c11
             (first | rw [c11b0] | (simp only [cC,dw];rw [c11b0]) | skip)
             have H':=aS H
             clear H
             go_wp2
             go_meet
             case rel=>exact ⟨_,(false),cG,H',⟨by have:=HK1.out;have:=HK2.out;first | omega | exact Nat.le_refl _⟩,⟨by (with_reducible repeat (first | refine ay ?_ _ | refine ar ?_ | refine ax ?_ _));refine bk (cs:=#[.string ((af (aN l0 x12_1) x19_2).f0),.string ((af (aN l0 x12_1) x19_2).f1),.int .i64 ((af (aN l0 x12_1) x19_2).f2),.string ((af (aN l0 x12_1) x19_2).f3),.bool false]) ?_ 4 _ rfl;(with_reducible repeat (first | refine ay ?_ _ | refine ar ?_ | refine ax ?_ _));refine bk (cs:=#[.string ((af (aN l0 x12_1) x19_2).f0),.string ((af (aN l0 x12_1) x19_2).f1),.int .i64 ((af (aN l0 x12_1) x19_2).f2),.string (⟨#[]⟩:ByteArray),.bool false]) ?_ 3 _ rfl;(with_reducible repeat (first | refine ay ?_ _ | refine ar ?_ | refine ax ?_ _));refine bk (cs:=#[.string ((af (aN l0 x12_1) x19_2).f0),.string ((af (aN l0 x12_1) x19_2).f1),.int .i64 0,.string (⟨#[]⟩:ByteArray),.bool false]) ?_ 2 _ rfl;(with_reducible repeat (first | refine ay ?_ _ | refine ar ?_ | refine ax ?_ _));refine bk (cs:=#[.string ((af (aN l0 x12_1) x19_2).f0),.string (⟨#[]⟩:ByteArray),.int .i64 0,.string (⟨#[]⟩:ByteArray),.bool false]) ?_ 1 _ rfl;(with_reducible repeat (first | refine ay ?_ _ | refine ar ?_ | refine ax ?_ _));refine bk (cs:=#[.string (⟨#[]⟩:ByteArray),.string (⟨#[]⟩:ByteArray),.int .i64 0,.string (⟨#[]⟩:ByteArray),.bool false]) ?_ 0 _ rfl;(with_reducible repeat (first | refine ay ?_ _ | refine ar ?_ | refine ax ?_ _));exact BK419.out⟩,⟨aq⟩⟩
           case rest=>
            clear HC8;(try clear c2);(try clear c2b0);(try clear c3);(try clear c3b0);(try clear c4);(try clear c4b0);(try clear c5);(try clear c5b0);(try clear c6);(try clear c6b0);(try clear c7);(try clear c7b0);(try clear hcz10);(try clear hx417_0);(try clear hx418_0);(try clear hx418_1);(try clear hx418_2);(try clear hx418_3);(try clear hx418_4);(try clear p417);(try clear p418);(try clear q417);(try clear q418);obtain ⟨kq,x35_7,rfl,HA,HJ7,BK419,HB⟩:=hcut
            cases kq with
            | zero=>exact absurd HA.out (by simp [aW.j2])
            | succ kj7=>
             have H:=HA.out;clear HA
             simp only [aW.j2] at H
             by_cases c12:x35_7=true
             ·
              subst c12
              replace H:=jy H;replace H:=bU H;obtain ⟨t420,A130,H⟩:=H;have A13:=aS A130;clear A130
              obtain ⟨ji14,hji14⟩:∃ j_:Int,(mn x4_2 (wrap64 (x7_2+(t420.length:Int))))=j_:=⟨_,rfl⟩
              replace H:(if x19_2 > 0 then ((dh.f ((af (aN l0 x12_1) x19_2).f0) ((af (aN l0 x12_1) x19_2).f1) ((af (aN l0 x12_1) x19_2).f2) ((af (aN l0 x12_1) x19_2).f3) ((af (aN l0 x12_1) x19_2).f4)).bind fun t423=>(aW.l1 kj7 l0 (mx x3_2 (wrap64 (x7_2+1))) ji14 x12_1 (aN l0 x12_1) (wrap64 (x7_2+(t423.length:Int))) l0 (l0.length:Int) x12_1 (aN l0 x12_1) ((aN l0 x12_1).length:Int) (wrap64 (x19_2+1)))) else ((dh.f ((af (aN l0 x12_1) x19_2).f0) ((af (aN l0 x12_1) x19_2).f1) ((af (aN l0 x12_1) x19_2).f2) ((af (aN l0 x12_1) x19_2).f3) ((af (aN l0 x12_1) x19_2).f4)).bind fun t426=>(aW.l1 kj7 l0 x3_2 ji14 x12_1 (aN l0 x12_1) (wrap64 (x7_2+(t426.length:Int))) l0 (l0.length:Int) x12_1 (aN l0 x12_1) ((aN l0 x12_1).length:Int) (wrap64 (x19_2+1)))))=some r:=by first | (rw [hji14] at H;exact H) | (simp only [hji14] at H ⊢;exact H)
              (try rw [hji14] at A13)
              have hji14_:(if (wrap64 (x7_2+(t420.length:Int)))<x4_2 then (wrap64 (x7_2+(t420.length:Int))) else x4_2)=ji14:=hji14
              by_cases c15:x19_2 > 0
              ·
               rw [if_pos c15] at H;have c15b0:decide (0<x19_2)=true:=decide_eq_true c15;clear c15
               obtain ⟨ji16,hji16⟩:∃ j_:Int,(mx x3_2 (wrap64 (x7_2+1)))=j_:=⟨_,rfl⟩
               replace H:((dh.f ((af (aN l0 x12_1) x19_2).f0) ((af (aN l0 x12_1) x19_2).f1) ((af (aN l0 x12_1) x19_2).f2) ((af (aN l0 x12_1) x19_2).f3) ((af (aN l0 x12_1) x19_2).f4)).bind fun t423=>(aW.l1 kj7 l0 ji16 ji14 x12_1 (aN l0 x12_1) (wrap64 (x7_2+(t423.length:Int))) l0 (l0.length:Int) x12_1 (aN l0 x12_1) ((aN l0 x12_1).length:Int) (wrap64 (x19_2+1))))=some r:=by first | (rw [hji16] at H;exact H) | (simp only [hji16] at H ⊢;exact H)
               (try rw [hji16] at A13)
               have hji16_:(if x3_2<(wrap64 (x7_2+1)) then (wrap64 (x7_2+1)) else x3_2)=ji16:=hji16;replace H:=bU H;obtain ⟨t423,A170,H⟩:=H;have A17:=aS A170;clear A170
               have H':=aS H
               clear H;have hcz18:=cO BK419
               go_wp2_with (first | ((with_reducible refine gC 65 ?_);refine dn 39 Tryz.func65 #[.agg #[.string ((af (aN l0 x12_1) x19_2).f0),.string ((af (aN l0 x12_1) x19_2).f1),.int .i64 ((af (aN l0 x12_1) x19_2).f2),.string ((af (aN l0 x12_1) x19_2).f3),.bool ((af (aN l0 x12_1) x19_2).f4)]] ?_;(with_reducible refine (dh.calls ((af (aN l0 x12_1) x19_2).f0) ((af (aN l0 x12_1) x19_2).f1) ((af (aN l0 x12_1) x19_2).f2) ((af (aN l0 x12_1) x19_2).f3) ((af (aN l0 x12_1) x19_2).f4) t420 _ A13.out).mono ?_);rintro e w19 ⟨v421,rfl,ho0,hb⟩;refine ⟨_,rfl,?_⟩;have HO422:=aS (Kd.bn ho0 (aA aq));replace BK419:=fp BK419 hb;replace HB:=aM hb;(try clear hb);(try clear hk);(try clear hi);(try clear ho0);obtain ⟨Ao20,co20,eo20⟩:=Kd.bp HO422.out;subst eo20;have hcz21:=cO BK419) | ((with_reducible refine gC 65 ?_);refine dn 51 Tryz.func65 #[.agg #[.string ((af (aN l0 x12_1) x19_2).f0),.string ((af (aN l0 x12_1) x19_2).f1),.int .i64 ((af (aN l0 x12_1) x19_2).f2),.string ((af (aN l0 x12_1) x19_2).f3),.bool ((af (aN l0 x12_1) x19_2).f4)]] ?_;(with_reducible refine (dh.calls ((af (aN l0 x12_1) x19_2).f0) ((af (aN l0 x12_1) x19_2).f1) ((af (aN l0 x12_1) x19_2).f2) ((af (aN l0 x12_1) x19_2).f3) ((af (aN l0 x12_1) x19_2).f4) t423 _ A17.out).mono ?_);rintro e w22 ⟨v424,rfl,ho0,hb⟩;refine ⟨_,rfl,?_⟩;have HO425:=aS (Kd.bn (Kd.cK ho0 (Kd.cP (rel HO422.out))) (aA aq));replace HO422:=aS (Kd.bY (rel HO422.out) (dm ho0) hb);replace BK419:=fp BK419 hb;replace HB:=aM hb;(try clear hb);(try clear hk);(try clear hi);(try clear ho0);obtain ⟨Ao23,co23,eo23⟩:=Kd.bp HO425.out;subst eo23))
               go_roundg kj7
               case measure=>have:=HK1.out;have:=HK2.out;have:=HJ7.out;omega
               case rel=>exact ⟨(ji16),(ji14),(wrap64 (x7_2+(t423.length:Int))),(wrap64 (x19_2+1)),(by first | rfl | (simp;done) | (simp only [←hji16]<;>(first | rfl | simp)) | (simp [*];done)),(by first | rfl | (simp;done) | (simp only [←hji14]<;>(first | rfl | simp)) | (simp [*];done)),cG,cG,H',⟨by have:=HK1.out;have:=HK2.out;have:=HJ7.out;omega⟩,⟨aq⟩⟩
              ·
               rw [if_neg c15] at H;have c15b0:decide (0<x19_2)=false:=decide_eq_false c15;clear c15;replace H:=bU H;obtain ⟨t426,A240,H⟩:=H;have A24:=aS A240;clear A240
               have H':=aS H
               clear H;have hcz25:=cO BK419
               go_wp2_with (first | ((with_reducible refine gC 65 ?_);refine dn 39 Tryz.func65 #[.agg #[.string ((af (aN l0 x12_1) x19_2).f0),.string ((af (aN l0 x12_1) x19_2).f1),.int .i64 ((af (aN l0 x12_1) x19_2).f2),.string ((af (aN l0 x12_1) x19_2).f3),.bool ((af (aN l0 x12_1) x19_2).f4)]] ?_;(with_reducible refine (dh.calls ((af (aN l0 x12_1) x19_2).f0) ((af (aN l0 x12_1) x19_2).f1) ((af (aN l0 x12_1) x19_2).f2) ((af (aN l0 x12_1) x19_2).f3) ((af (aN l0 x12_1) x19_2).f4) t420 _ A13.out).mono ?_);rintro e w26 ⟨v421,rfl,ho0,hb⟩;refine ⟨_,rfl,?_⟩;have HO422:=aS (Kd.bn ho0 (aA aq));replace BK419:=fp BK419 hb;replace HB:=aM hb;(try clear hb);(try clear hk);(try clear hi);(try clear ho0);obtain ⟨Ao27,co27,eo27⟩:=Kd.bp HO422.out;subst eo27;have hcz28:=cO BK419) | ((with_reducible refine gC 65 ?_);refine dn 51 Tryz.func65 #[.agg #[.string ((af (aN l0 x12_1) x19_2).f0),.string ((af (aN l0 x12_1) x19_2).f1),.int .i64 ((af (aN l0 x12_1) x19_2).f2),.string ((af (aN l0 x12_1) x19_2).f3),.bool ((af (aN l0 x12_1) x19_2).f4)]] ?_;(with_reducible refine (dh.calls ((af (aN l0 x12_1) x19_2).f0) ((af (aN l0 x12_1) x19_2).f1) ((af (aN l0 x12_1) x19_2).f2) ((af (aN l0 x12_1) x19_2).f3) ((af (aN l0 x12_1) x19_2).f4) t426 _ A24.out).mono ?_);rintro e w29 ⟨v427,rfl,ho0,hb⟩;refine ⟨_,rfl,?_⟩;have HO428:=aS (Kd.bn (Kd.cK ho0 (Kd.cP (rel HO422.out))) (aA aq));replace HO422:=aS (Kd.bY (rel HO422.out) (dm ho0) hb);replace BK419:=fp BK419 hb;replace HB:=aM hb;(try clear hb);(try clear hk);(try clear hi);(try clear ho0);obtain ⟨Ao30,co30,eo30⟩:=Kd.bp HO428.out;subst eo30))
               go_roundg kj7
               case measure=>have:=HK1.out;have:=HK2.out;have:=HJ7.out;omega
               case rel=>exact ⟨(x3_2),(ji14),(wrap64 (x7_2+(t426.length:Int))),(wrap64 (x19_2+1)),cG,(by first | rfl | (simp;done) | (simp only [←hji14]<;>(first | rfl | simp)) | (simp [*];done)),cG,cG,H',⟨by have:=HK1.out;have:=HK2.out;have:=HJ7.out;omega⟩,⟨aq⟩⟩
             ·
              replace c12:=Bool.eq_false_iff.mpr c12;subst c12
              replace H:=jw H
              by_cases c31:x19_2 > 0
              ·
               rw [if_pos c31] at H;have c31b0:decide (0<x19_2)=true:=decide_eq_true c31;clear c31
               obtain ⟨ji32,hji32⟩:∃ j_:Int,(mx x3_2 (wrap64 (x7_2+1)))=j_:=⟨_,rfl⟩
               replace H:((dh.f ((af (aN l0 x12_1) x19_2).f0) ((af (aN l0 x12_1) x19_2).f1) ((af (aN l0 x12_1) x19_2).f2) ((af (aN l0 x12_1) x19_2).f3) ((af (aN l0 x12_1) x19_2).f4)).bind fun t429=>(aW.l1 kj7 l0 ji32 x4_2 x12_1 (aN l0 x12_1) (wrap64 (x7_2+(t429.length:Int))) l0 (l0.length:Int) x12_1 (aN l0 x12_1) ((aN l0 x12_1).length:Int) (wrap64 (x19_2+1))))=some r:=by first | (rw [hji32] at H;exact H) | (simp only [hji32] at H ⊢;exact H)
               have hji32_:(if x3_2<(wrap64 (x7_2+1)) then (wrap64 (x7_2+1)) else x3_2)=ji32:=hji32;replace H:=bU H;obtain ⟨t429,A330,H⟩:=H;have A33:=aS A330;clear A330
               have H':=aS H
               clear H;have hcz34:=cO BK419
               go_wp2_with (first | ((with_reducible refine gC 65 ?_);refine dn 51 Tryz.func65 #[.agg #[.string ((af (aN l0 x12_1) x19_2).f0),.string ((af (aN l0 x12_1) x19_2).f1),.int .i64 ((af (aN l0 x12_1) x19_2).f2),.string ((af (aN l0 x12_1) x19_2).f3),.bool ((af (aN l0 x12_1) x19_2).f4)]] ?_;(with_reducible refine (dh.calls ((af (aN l0 x12_1) x19_2).f0) ((af (aN l0 x12_1) x19_2).f1) ((af (aN l0 x12_1) x19_2).f2) ((af (aN l0 x12_1) x19_2).f3) ((af (aN l0 x12_1) x19_2).f4) t429 _ A33.out).mono ?_);rintro e w35 ⟨v430,rfl,ho0,hb⟩;refine ⟨_,rfl,?_⟩;have HO431:=aS (Kd.bn ho0 (aA aq));replace BK419:=fp BK419 hb;replace HB:=aM hb;(try clear hb);(try clear hk);(try clear hi);(try clear ho0);obtain ⟨Ao36,co36,eo36⟩:=Kd.bp HO431.out;subst eo36))
               go_roundg kj7
               case measure=>have:=HK1.out;have:=HK2.out;have:=HJ7.out;omega
               case rel=>exact ⟨(ji32),(x4_2),(wrap64 (x7_2+(t429.length:Int))),(wrap64 (x19_2+1)),(by first | rfl | (simp;done) | (simp only [←hji32]<;>(first | rfl | simp)) | (simp [*];done)),cG,cG,cG,H',⟨by have:=HK1.out;have:=HK2.out;have:=HJ7.out;omega⟩,⟨aq⟩⟩
              ·
               rw [if_neg c31] at H;have c31b0:decide (0<x19_2)=false:=decide_eq_false c31;clear c31;replace H:=bU H;obtain ⟨t432,A370,H⟩:=H;have A37:=aS A370;clear A370
               have H':=aS H
               clear H;have hcz38:=cO BK419
               go_wp2_with (first | ((with_reducible refine gC 65 ?_);refine dn 51 Tryz.func65 #[.agg #[.string ((af (aN l0 x12_1) x19_2).f0),.string ((af (aN l0 x12_1) x19_2).f1),.int .i64 ((af (aN l0 x12_1) x19_2).f2),.string ((af (aN l0 x12_1) x19_2).f3),.bool ((af (aN l0 x12_1) x19_2).f4)]] ?_;(with_reducible refine (dh.calls ((af (aN l0 x12_1) x19_2).f0) ((af (aN l0 x12_1) x19_2).f1) ((af (aN l0 x12_1) x19_2).f2) ((af (aN l0 x12_1) x19_2).f3) ((af (aN l0 x12_1) x19_2).f4) t432 _ A37.out).mono ?_);rintro e w39 ⟨v433,rfl,ho0,hb⟩;refine ⟨_,rfl,?_⟩;have HO434:=aS (Kd.bn ho0 (aA aq));replace BK419:=fp BK419 hb;replace HB:=aM hb;(try clear hb);(try clear hk);(try clear hi);(try clear ho0);obtain ⟨Ao40,co40,eo40⟩:=Kd.bp HO434.out;subst eo40))
               go_roundg kj7
               case measure=>have:=HK1.out;have:=HK2.out;have:=HJ7.out;omega
               case rel=>exact ⟨(x3_2),(x4_2),(wrap64 (x7_2+(t432.length:Int))),(wrap64 (x19_2+1)),cG,cG,cG,cG,H',⟨by have:=HK1.out;have:=HK2.out;have:=HJ7.out;omega⟩,⟨aq⟩⟩
          ·
           rw [if_neg c7] at H;exact absurd H (by simp)
         ·
          rw [if_neg c6] at H;exact absurd H (by simp)
        ·
         rw [if_neg c5] at H;have c5b0:decide (x19_2<((aN l0 x12_1).length:Int))=false:=decide_eq_false c5;clear c5
         have H':=aS H
         clear H
         go_wp2
         go_roundg k2
         case measure=>have:=HK1.out;have:=HK2.out;omega
         case rel=>exact ⟨(x3_2),(x4_2),(wrap64 (x12_1+1)),cG,cG,cG,H',⟨by have:=HK1.out;have:=HK2.out;omega⟩,⟨aq⟩⟩
     ·
      rw [if_neg c4] at H;exact absurd H (by simp)
    ·
     rw [if_neg c3] at H;exact absurd H (by simp)
   ·
    rw [if_neg c2] at H;have c2b0:decide (x12_1<(l0.length:Int))=false:=decide_eq_false c2;clear c2
    obtain rfl:=Option.some.inj H
    go_wp2
    go_ret
    exact ⟨dP,aq⟩
structure aJ.oD (w:World) (base g:Nat) (vl vb vf:Value) (l:List au) (bs:List (List au)) (fl:List Int):Prop where
 ge:base≤g
 cU:w.heap[g]? = some (.cells #[vl,vb,vf] 111 (0,0))
 hl:Kd.R cm 34 w base (fun _=>True) vl l
 hb:Kd.R (Kd.slice 34 cm) 32 w base (fun _=>True) vb bs
 hf:Kd.R (Kd.int .u8) 5 w base (fun _=>True) vf fl
def aJ.At (w:World) (base g:Nat) (l:List au) (bs:List (List au)) (fl:List Int):Prop:=∃ vl vb vf,aJ.oD w base g vl vb vf l bs fl
section
variable {w w1:World} {base b g:Nat} {vl vb vf:Value} {l:List au} {bs:List (List au)} {fl:List Int}
theorem aJ.oD.step (h:aJ.oD w base g vl vb vf l bs fl) (hm:∀ k,base≤k→k<w.heap.size→w1.heap[k]? = w.heap[k]?):aJ.oD w1 base g vl vb vf l bs fl:=
 ⟨h.ge,(hm g h.ge (cR h.cU)).trans h.cU,Kd.aK (Kd.jU (Kd.eu h.hl) (fun k hk hlt=>hm k hk.2.1 hlt)) (fun _ _=>trivial),
  Kd.aK (Kd.jU (Kd.eu h.hb) (fun k hk hlt=>hm k hk.2.1 hlt)) (fun _ _=>trivial),Kd.aK (Kd.jU (Kd.eu h.hf) (fun k hk hlt=>hm k hk.2.1 hlt)) (fun _ _=>trivial)⟩
theorem aJ.oD.below (h:aJ.oD w base g vl vb vf l bs fl) (hb:Below w.heap.size w w1):aJ.oD w1 base g vl vb vf l bs fl:=h.step (fun k _ hk=>hb.block k hk)
theorem aJ.oD.lower (h:aJ.oD w base g vl vb vf l bs fl) (hb:b≤base):aJ.oD w b g vl vb vf l bs fl:=
 ⟨Nat.le_trans hb h.ge,h.cU,Kd.bn h.hl hb,Kd.bn h.hb hb,Kd.bn h.hf hb⟩
theorem aJ.oD.up (h:aJ.oD w base g vl vb vf l bs fl):aJ.At w base g l bs fl:=⟨vl,vb,vf,h⟩
theorem aJ.At.step (h:aJ.At w base g l bs fl) (hm:∀ k,base≤k→k<w.heap.size→w1.heap[k]? = w.heap[k]?):aJ.At w1 base g l bs fl:=by
 obtain ⟨vl,vb,vf,h⟩:=h;exact ⟨vl,vb,vf,h.step hm⟩
theorem aJ.At.below (h:aJ.At w base g l bs fl) (hb:Below w.heap.size w w1):aJ.At w1 base g l bs fl:=h.step (fun k _ hk=>hb.block k hk)
theorem aJ.At.lower (h:aJ.At w base g l bs fl) (hb:b≤base):aJ.At w b g l bs fl:=by
 obtain ⟨vl,vb,vf,h⟩:=h;exact ⟨vl,vb,vf,h.lower hb⟩
end
structure aJ.St (w0 w:World) (g:Nat) (vl vb v9:Value) (l:List au) (bs:List (List au)) (rest:List Int):Prop where
 ge:w0.heap.size≤g
 cU:w.heap[g]? = some (.cells #[vl,vb,.slice none 0 0] 111 (0,0))
 hl:Kd.R cm 34 w w0.heap.size (fun _=>True) vl l
 hb:Kd.R (Kd.slice 34 cm) 32 w w0.heap.size (fun k=>some k≠vl.ownBlock) vb bs
 hr:Kd.V (Kd.int .u8) 5 w w0.heap.size (fun k=>some k≠vl.ownBlock∧some k≠vb.ownBlock∧k≠g) v9 rest
 below:Below w0.heap.size w0 w
section
variable {w0 w W W1 W2:World} {g N:Nat} {vl vb v9 vl1 vb1 vr vn:Value} {l ll1:List au} {bs bs1:List (List au)} {rest r1:List Int}
theorem aJ.St.on (h:aJ.St w0 w g vl vb v9 l bs rest) (hb:Below w.heap.size w W):aJ.St w0 W g vl vb v9 l bs rest:=
 ⟨h.ge,aI h.cU hb,Kd.dB h.hl hb,Kd.dB h.hb hb,Kd.kV h.hr hb,aE h.below hb⟩
theorem aJ.St.mid (h:aJ.St w0 W g vl vb v9 l bs rest) (hg1:W.grownBy W1 vb.ownBlock):Kd.R cm 34 W1 w0.heap.size (fun _=>True) vl l∧W1.heap[g]? = some (.cells #[vl,vb,.slice none 0 0] 111 (0,0)):=
 ⟨Kd.aK (Kd.qA (Kd.jL rfl h.hl) hg1 (fun k hk=>by
  obtain ⟨cells,hc⟩:=Kd.gu h.hl k hk.symm
  exact Kd.lZ h.hb hc (by decide))) (fun _ _=>trivial),eP h.cU hg1 (Kd.lZ h.hb h.cU (by decide))⟩
theorem aJ.St.next (h:aJ.St w0 W g vl vb v9 l bs rest) (hr:Kd.R (Kd.int .u8) 5 W N (fun _=>True) vr r1) (hvl:∀ k,vl.ownBlock=some k→k<N) (hvb:∀ k,vb.ownBlock=some k→k<N) (hgN:g<N)
  (ho1:Kd.R (Kd.slice 34 cm) 32 W1 w0.heap.size (fun k=>some k≠vl.ownBlock) vb1 bs1) (hg1:W.grownBy W1 vb.ownBlock) (hat1:vb1.ownBlock=vb.ownBlock∨∃ b,vb1.ownBlock=some b∧W.heap.size≤b)
  (ho2:Kd.R cm 34 W2 w0.heap.size (fun _=>True) vl1 ll1) (hg2:W1.grownBy W2 vl.ownBlock) (hat2:vl1.ownBlock=vl.ownBlock∨∃ b,vl1.ownBlock=some b∧W1.heap.size≤b) (hb2:Below w0.heap.size w0 W2) :
  aJ.St w0 ((W2.setCell ⟨g,1,none⟩ vb1).setCell ⟨g,0,none⟩ vl1) g vl1 vb1 vr ll1 bs1 r1:=by
 obtain ⟨hl1,hG1⟩:=h.mid hg1;have hG2:=eP hG1 hg2 (Kd.lZ hl1 hG1 (by decide));have hG3:(W2.setCell ⟨g,1,none⟩ vb1).heap[g]? = some (.cells #[vl,vb1,.slice none 0 0] 111 (0,0)):=bk hG2 1 vb1 rfl;have hG4:((W2.setCell ⟨g,1,none⟩ vb1).setCell ⟨g,0,none⟩ vl1).heap[g]? = some (.cells #[vl1,vb1,.slice none 0 0] 111 (0,0)):=bk hG3 0 vl1 rfl;refine ⟨h.ge,hG4,Kd.jF (Kd.jF ho2 hG2 (by decide) 1 vb1) hG3 (by decide) 0 vl1,?_,?_,lf (lf hb2 h.ge) h.ge⟩
 ·
  refine Kd.jF (Kd.jF (Kd.aK (Kd.qA (Kd.eu ho1) hg2 (fun k hk=>hk.1)) (fun k hk=>?_)) hG2 (by decide) 1 vb1) hG3 (by decide) 0 vl1
  rcases hat2 with e | ⟨b,e,hle⟩
  ·
   rw [e];exact hk.1
  ·
   rw [e];intro he;injection he with he;have:=hk.2.2.1;omega
 ·
  have hb0:∀ k,some k=vr.ownBlock→N≤k∧k<W.heap.size:=fun k hk=>⟨Kd.gi hr k hk.symm,Kd.cP hr k hk.symm⟩
  have r1':=Kd.qA (Kd.jL rfl hr) hg1 (fun k hk he=>by have:=hb0 k hk;have:=hvb k he.symm;omega)
  have r2:=Kd.qA r1' hg2 (fun k hk he=>by have:=hb0 k hk;have:=hvl k he.symm;omega);have r3:=Kd.jF (Kd.jF r2 hG2 (by decide) 1 vb1) hG3 (by decide) 0 vl1;refine Kd.ep (Kd.wC r3) (fun k hk=>?_);have hk1:=hb0 k hk;have hsz:=hg1.size;refine ⟨fun he=>?_,fun he=>?_,by omega⟩
  ·
   rcases hat2 with e | ⟨b,e,hle⟩
   ·
    have:=hvl k (by rw [←e];exact he.symm);omega
   ·
    rw [e] at he;injection he with he;omega
  ·
   rcases hat1 with e | ⟨b,e,hle⟩
   ·
    have:=hvb k (by rw [←e];exact he.symm);omega
   ·
    rw [e] at he;injection he with he;omega
end
def aJ.lp:Nat→List Int→List au→List (List au)→Option (Option (List au × List (List au)))
 | 0,_,_,_=>none
 | k+1,rest,l,bs=>if (rest.length:Int)=0 then some (some (l,bs)) else (dI.f k rest).bind fun q=>if q.2.2=0 then (if (l.length+q.1.length)*64≤140737488355328∧(bs.length+1)*24≤140737488355328 then aJ.lp k q.2.1 (l++q.1) (bs++[q.1]) else none) else some none
theorem aJ.lO:∀ k rest l bs,aH (aJ.lp k rest l bs) (aJ.lp (k+1) rest l bs)
 | 0,_,_,_=>aH.none _
 | k+1,rest,l,bs=>by
  unfold aJ.lp
  exact aH.ite (aH.refl _) (aH.bind (dI.mono _ _) fun _=>aH.ite (aH.ite (aJ.lO k _ _ _) (aH.refl _)) (aH.refl _))
def aJ.tail (k:Nat) (b:List Int) (l:List au) (bs:List (List au)):Option (Option (List au × List (List au) × List Int)):=
 (cM.f k l).bind fun fl=>(aQ.f k l).bind fun so=>if so=true then (aW.f k bs).bind fun cu=>if cu=true then (fq.f k bs fl).bind fun y=>if y.2=0 then (aV.f k y.1 b).bind fun eq=>if eq=true then some (some (l,bs,fl)) else some none else some none else some none else some none
def aJ.f (k:Nat) (b:List Int):Option (Option (List au × List (List au) × List Int)):=
 if (b.length:Int)<4 then some none else (bq.f k (b.drop (b.length - 4))).bind fun q=>
  if wrap64 (wrap64 ((b.length:Int) - 4) - q.1)<0 then some none else if wrap64 (wrap64 ((b.length:Int) - 4) - q.1)≤(b.length:Int) then (aJ.lp k (b.take (wrap64 (wrap64 ((b.length:Int) - 4) - q.1)).toNat) [] []).bind fun s=>match s with
   | none=>some none
   | some (l,bs)=>aJ.tail k b l bs else none
theorem aJ.mK (k b l bs):aH (aJ.tail k b l bs) (aJ.tail (k+1) b l bs):=
 aH.bind (cM.mono _ _) fun _=>aH.bind (aQ.mono _ _) fun _=>aH.ite (aH.bind (aW.mono _ _) fun _=>aH.ite (aH.bind (fq.mono _ _ _) fun _=>aH.ite (aH.bind (aV.mono _ _ _) fun _=>aH.refl _) (aH.refl _)) (aH.refl _)) (aH.refl _)
theorem aJ.mono:∀ a0 k,aH (aJ.f k a0) (aJ.f (k+1) a0):=fun b k=>
 aH.ite (aH.refl _) (aH.bind (bq.mono _ _) fun _=>aH.ite (aH.refl _) (aH.ite (aH.bind (aJ.lO _ _ _ _) fun s=>by
  cases s with
  | none=>exact aH.refl _
  | some p=>exact aJ.mK _ _ _ _) (aH.refl _)))
def aJ.Res (w w':World) (e:Ending):Option (List au × List (List au) × List Int)→Prop
 | none=>e = .returned (.tuple #[.pointer none,.int .i64 2])∧Below w.heap.size w w'
 | some (l,bs,fl)=>∃ g:Nat,e = .returned (.tuple #[.pointer (some ⟨g,0,none⟩),.int .i64 0])∧aJ.At w' w.heap.size g l bs fl∧Below w.heap.size w w'
theorem aJ.calls (k:Nat) (A0:Option Addr) (c0:Nat) (b:List Int) (o:Option (List au × List (List au) × List Int)) (w:World) (hr0:Kd.C (Kd.int .u8) w A0 b.length b) (hc0:b.length≤c0) (h:aJ.f k b=some o) :
  Calls Tryz.prog 51 #[.slice A0 b.length c0] w fun e w'=>aJ.Res w w' e o:=by
 have hu26:=Tryz.underlying51;have hu22:=Tryz.underlying32;have hu39:=Tryz.underlying73;have hu70:=Tryz.underlying111;have hmx:b.length≤9223372036854775807:=hr0.2.1;have HR:=aS hr0;have HC:=aS hc0;have HMX:=aS hmx;clear hr0 hc0 hmx
 unfold aJ.f at h
 by_cases h4:(b.length:Int)<4
 ·
  rw [if_pos h4] at h
  obtain rfl:=Option.some.inj h
  have d4:decide ((b.length:Int)<4)=true:=decide_eq_true h4;have e4:decide (b.length<4)=true:=decide_eq_true (by omega);clear h h4
  go_enter Tryz.func51,Tryz.ntmps51
  go_wp2
  go_ret2
  exact ⟨rfl,Below.refl _ _⟩
 rw [if_neg h4] at h;have d4:decide ((b.length:Int)<4)=false:=decide_eq_false h4;have e4:decide (b.length<4)=false:=decide_eq_false (by omega)
 have hw4:wrap64 ((b.length:Int) - 4)=(b.length:Int) - 4:=by rw [←cC,IntKind.wrap_i64];have:=HMX.out;omega
 replace h:=bU h;obtain ⟨⟨q1,q2,q3⟩,x1,h⟩:=h;rw [hw4] at h
 replace h:(if wrap64 ((b.length:Int) - 4 - q1)<0 then some none else if wrap64 ((b.length:Int) - 4 - q1)≤(b.length:Int) then (aJ.lp k (b.take (wrap64 ((b.length:Int) - 4 - q1)).toNat) [] []).bind fun s=>match s with
   | none=>some none
   | some (l,bs)=>aJ.tail k b l bs else none)=some o:=h
 have X1:=aS x1;have H:=aS h;have H4:=aS h4;clear x1 h h4;obtain ⟨ii,hii,_,hsz,_⟩:=info_parts gL;have hcut1:=gI (P:=Tryz.prog) 51 5 .i64 hu26 hii 1 hsz A0 b.length c0 ((b.length:Int) - 4) (by have:=H4.out;omega) (by omega);have HCd:=aS (Kd.sx HR.out (m:=((b.length:Int) - 4).toNat) (by omega) HC.out)
 have hl4:b.length - ((b.length:Int) - 4).toNat=4:=by have:=H4.out;omega
 have hd4:((b.length:Int) - 4).toNat=b.length - 4:=by have:=H4.out;omega
 rw [show ((Kd.int .u8):Kd Int).sz=1 from rfl] at HCd;rw [hl4,hd4] at hcut1;rw [hd4] at HCd
 have hd5:(b.drop (b.length - 4)).length=4:=by rw [mh];have:=H4.out;omega
 obtain ⟨bd,hbd⟩:∃ bd,bd=b.drop (b.length - 4):=⟨_,rfl⟩
 rw [←hbd] at HCd X1 hd5
 generalize (if c0=b.length - 4 then A0 else A0.map (·.add ((b.length - 4)*1)))=Ad at hcut1 HCd
 obtain ⟨cd,hcd⟩:∃ cd,c0 - (b.length - 4)=cd:=⟨_,rfl⟩
 rw [hcd,← hd5] at hcut1;have HD5:ah (bd.length≤cd):=aS (by rw [hd5];have:=HC.out;have:=H4.out;omega);clear hbd hl4 hd4 hd5 hcd
 go_enter Tryz.func51,Tryz.ntmps51
 go_upto_region 5 with (first | (go_at_call 71;(with_reducible refine (bq.calls k Ad cd bd q1 q2 q3 _ HCd.out HD5.out X1.out).mono ?_);rintro e_ w2 ⟨v2,rfl,ho,hb⟩;have HB2:=aS hb;clear ho hb))
 clear hcut1;have h:=H.out;clear H
 obtain ⟨end_,he_⟩:∃ x,wrap64 ((b.length:Int) - 4 - q1)=x:=⟨_,rfl⟩
 rw [he_] at h
 by_cases hneg:end_<0
 ·
  rw [if_pos hneg] at h
  obtain rfl:=Option.some.inj h
  have d5:decide (end_<0)=true:=decide_eq_true hneg;clear h hneg
  go_wp2
  go_ret2
  exact ⟨rfl,HB2.out⟩
 rw [if_neg hneg] at h;have d5:decide (end_<0)=false:=decide_eq_false hneg
 by_cases hle:end_≤(b.length:Int)
 case neg=>rw [if_neg hle] at h;cases h
 rw [if_pos hle] at h;replace h:=bU h;obtain ⟨s,x2,h⟩:=h;have HE:=aS (And.intro (show 0≤end_ by omega) hle);have H:=aS h;have X2:=aS x2;clear h x2 hneg hle;have hcut2:=jO (P:=Tryz.prog) 51 5 .i64 hu26 hii A0 b.length c0 end_ HE.out.1 HE.out.2 HC.out;have HCt:=aS (Kd.pI HR.out (m:=end_.toNat) (by have:=HE.out;omega))
 have hl2:(b.take end_.toNat).length=end_.toNat:=by rw [kY];have:=HE.out;omega
 obtain ⟨bt,hbt⟩:∃ bt,bt=b.take end_.toNat:=⟨_,rfl⟩
 rw [←hbt] at HCt X2 hl2;rw [←hl2] at hcut2;have HL2:ah (bt.length≤c0):=aS (by rw [hl2];have:=HE.out;have:=HC.out;omega);clear hbt hl2
 go_upto_region 8 with (first | ((with_reducible refine gD 36 ?_);refine dK 36 #[.slice none 0 0,.slice none 0 0,.slice none 0 0] 111 ?_;intro g hg w3 hb hbl;have HG:=aS hb;have GE:ah (w2.heap.size≤g):=aS (by rw [hg];exact Nat.le_refl _);have HB3:=aS hbl;clear hg hb hbl))
 go_wp2
 have HS0:ah (aJ.St w w3 g (.slice none 0 0) (.slice none 0 0) (.slice A0 bt.length c0) [] [] bt):=aS ⟨Nat.le_trans HB2.out.size GE.out,HG.out,Kd.d6 _ _ _ _ _,Kd.d6 _ _ _ _ _,
  Kd.ep (Kd.kV (Kd.nE HL2.out (Kd.CJ (Kd.kF .u8) HCt.out)) (aE HB2.out HB3.out)) (fun k hk=>⟨by simp [Value.ownBlock],by simp [Value.ownBlock],by have:=HB2.out.size;have:=GE.out;omega⟩),aE HB2.out HB3.out⟩
 clear hcut2 HCt HL2 HG GE HB2 HB3 d4 e4 d5 he_ hw4
 go_loopg [9] k (fun kq v9 wr=>∃ (vl vb:Value) (rest:List Int) (l:List au) (bs:List (List au)),ah (aJ.lp kq rest l bs=some s)∧ah (kq≤k)∧ah (aJ.St w wr g vl vb v9 l bs rest))
 case atStart=>exact ⟨_,_,bt,[],[],X2,⟨Nat.le_refl _⟩,HS0⟩
 case round=>
  clear HS0 X2;obtain ⟨vl,vb,rest,l,bs,HA,HK,HS⟩:=hrel
  cases gk with
  | zero=>exact absurd HA.out (by simp [aJ.lp])
  | succ k1=>
  have ha:=HA.out
  unfold aJ.lp at ha
  clear HA;obtain ⟨A9,c9,rfl⟩:=Kd.mI HS.out.hr
  by_cases hz:(rest.length:Int)=0
  ·
   rw [if_pos hz] at ha
   obtain rfl:=Option.some.inj ha
   have d0:decide (0<(rest.length:Int))=false:=decide_eq_false (by omega);have d1:decide (0<rest.length)=false:=decide_eq_false (by omega);clear ha hz;have h:aJ.tail k b l bs=some o:=H.out;clear H
   unfold aJ.tail at h
   replace h:=bU h;obtain ⟨fl,x3,h⟩:=h;have X3:=aS x3;have H:=aS h;clear x3 h;have q3:=iw (aS HS.out.cU);obtain ⟨Al,cl,rfl⟩:=Kd.bp HS.out.hl;obtain ⟨Ab,cb,rfl⟩:=Kd.bp HS.out.hb
   go_upto_region 15 with (first | (go_at_call 70;(with_reducible refine (cM.calls k Al cl l fl _ (Kd.aY HS.out.hl).2.2 (Kd.aY HS.out.hl).2.1 X3.out).mono ?_);rintro e_ w5 ⟨vf,rfl,ho,hb⟩;obtain ⟨Af,cf,rfl⟩:=Kd.bp ho;have HF:=aS ho;have HS5:=aS (HS.out.on hb);clear ho hb q3;have q3:=iw (aS HS5.out.cU)))
   clear q3;have HV:ah (aJ.oD (w5.setCell ⟨g,2,none⟩ (.slice Af fl.length cf)) w.heap.size g (.slice Al l.length cl) (.slice Ab bs.length cb) (.slice Af fl.length cf) l bs fl):=aS ⟨HS5.out.ge,bk HS5.out.cU 2 (.slice Af fl.length cf) rfl,Kd.jF HS5.out.hl HS5.out.cU (by decide) 2 (.slice Af fl.length cf),Kd.aK (Kd.jF HS5.out.hb HS5.out.cU (by decide) 2 (.slice Af fl.length cf)) (fun _ _=>trivial),Kd.jF (Kd.bn HF.out (Nat.le_trans HS.out.below.size (Nat.le_refl _))) HS5.out.cU (by decide) 2 (.slice Af fl.length cf)⟩;have HB:=aS (lf (j:=2) (v:=.slice Af fl.length cf) HS5.out.below HS5.out.ge);clear HS HS5 HF
   generalize w5.setCell ⟨g,2,none⟩ (.slice Af fl.length cf)=w6 at HV HB ⊢
   have h:=H.out;clear H;replace h:=bU h;obtain ⟨so,x4,h⟩:=h;have X4:=aS x4;have q3:=iw (aS HV.out.cU);clear x4
   cases so with
   | false=>
    rw [if_neg Bool.false_ne_true] at h
    obtain rfl:=Option.some.inj h
    clear h
    go_wp2_with (first | (go_at_call 73;(with_reducible refine (aQ.calls k Al cl l false _ (Kd.aY HV.out.hl).2.2 (Kd.aY HV.out.hl).2.1 X4.out).mono ?_);rintro e_ w7_ ⟨rfl,hb⟩;replace HV:=aS (HV.out.below hb);replace HB:=aS (aE HB.out hb);clear hb q3;have q3:=iw (aS HV.out.cU)))
    go_ret2
    exact ⟨rfl,HB.out⟩
   | true=>
   rw [if_pos rfl] at h;replace h:=bU h;obtain ⟨cu,x5,h⟩:=h;have X5:=aS x5;clear x5
   cases cu with
   | false=>
    rw [if_neg Bool.false_ne_true] at h
    obtain rfl:=Option.some.inj h
    clear h
    go_wp2_with (first | (go_at_call 73;(with_reducible refine (aQ.calls k Al cl l true _ (Kd.aY HV.out.hl).2.2 (Kd.aY HV.out.hl).2.1 X4.out).mono ?_);rintro e_ w7_ ⟨rfl,hb⟩;replace HV:=aS (HV.out.below hb);replace HB:=aS (aE HB.out hb);clear hb q3;have q3:=iw (aS HV.out.cU)) | (go_at_call 74;(with_reducible refine (aW.calls k Ab cb bs false _ (Kd.aY HV.out.hb).2.2 (Kd.aY HV.out.hb).2.1 X5.out).mono ?_);rintro e_ w8_ ⟨rfl,hb⟩;replace HV:=aS (HV.out.below hb);replace HB:=aS (aE HB.out hb);clear hb q3;have q3:=iw (aS HV.out.cU)))
    go_ret2
    exact ⟨rfl,HB.out⟩
   | true=>
   rw [if_pos rfl] at h;replace h:=bU h;obtain ⟨⟨y1,y2⟩,x6,h⟩:=h;have X6:=aS x6;have H:=aS h;clear x6 h
   go_upto_region 17 with (first | (go_at_call 73;(with_reducible refine (aQ.calls k Al cl l true _ (Kd.aY HV.out.hl).2.2 (Kd.aY HV.out.hl).2.1 X4.out).mono ?_);rintro e_ w7_ ⟨rfl,hb⟩;replace HV:=aS (HV.out.below hb);replace HB:=aS (aE HB.out hb);clear hb q3;have q3:=iw (aS HV.out.cU)) | (go_at_call 74;(with_reducible refine (aW.calls k Ab cb bs true _ (Kd.aY HV.out.hb).2.2 (Kd.aY HV.out.hb).2.1 X5.out).mono ?_);rintro e_ w8_ ⟨rfl,hb⟩;replace HV:=aS (HV.out.below hb);replace HB:=aS (aE HB.out hb);clear hb q3;have q3:=iw (aS HV.out.cU)))
   refine di (n:=14) (ds:=[]) (S:=fun w'=>w'.cell? ⟨g,1,none⟩=some (.slice Ab bs.length cb)∧w'.cell? ⟨g,2,none⟩=some (.slice Af fl.length cf)) (bA 14 0) (by kernel_rfl) rfl rfl ⟨(aC (ar HV.out.cU) 1).trans rfl,(aC (ar HV.out.cU) 2).trans rfl⟩ (fun hHeld=>?_)
   generalize hw_:World.drew _=wd at hHeld ⊢
   have HVd:ah (aJ.oD wd w.heap.size g _ _ _ l bs fl):=aS (hw_▸HV.out.below (bH (Below.refl _ _)));have HBd:ah (Below w.heap.size w wd):=aS (hw_▸aE HB.out (bH (Below.refl _ _)));clear hw_ HV HB q3;refine cD (T:=(true,[([],[]),([0],[0]),([1],[1]),([2],[2]),([],[]),([4],[4]),([5],[5]),([6],[6]),([3,7],[3,7]),([8],[8]),([9],[9]),([9],[9]),([10,8,0,1,2,3,4,5,6,7,8,9,10],[10]),([11,12,0,1,2,3,4,5,6,7,8,9,10,11,12],[11])])) (B:=[0,1,3,7,0,16,48,112,255,511,1023,1023,2047,8191]) (by kernel_rfl) (by kernel_rfl) (fun HT_ HW_=>?_);refine aZ [(0,94),(1,95),(2,96)] ?_
   iterate 3 (refine ck HT_ ?_)
   refine bT (bA 14 7) (by kernel_rfl) ?_;refine aZ [(3,97)] ?_
   iterate 1 (refine dY HT_ HW_ hHeld ?_)
   refine bT (bA 14 15) (by kernel_rfl) ?_;refine aZ [(4,98),(5,99),(6,100)] ?_
   iterate 3 (refine ck HT_ ?_)
   refine bT (bA 14 127) (by kernel_rfl) ?_;refine aZ [(7,101)] ?_
   iterate 1 (refine dY HT_ HW_ hHeld ?_)
   refine bT (bA 14 255) (by kernel_rfl) ?_;refine dH 8 (N:=some 102) (bA 14 511) HT_ (fun K hK=>?_);refine gb Tryz.func69 #[.slice Ab bs.length cb,.slice Af fl.length cf] ?_
   with_reducible refine (fq.calls k Ab cb bs Af cf fl y1 y2 _ (Kd.aY HVd.out.hb).2.2 (Kd.aY HVd.out.hb).2.1 (Kd.aY HVd.out.hf).2.2 (Kd.aY HVd.out.hf).2.1 X6.out).mono ?_
   rintro e_ w9 ⟨vy,rfl,ho,hb⟩
   refine ⟨_,rfl,?_⟩;obtain ⟨Ay,cy,rfl⟩:=Kd.bp ho;have HY:=aS (Kd.aY ho);have HV:=aS (HVd.out.below hb);have HB:=aS (aE HBd.out hb);clear ho hb HVd HBd;refine hK.out _ _ ⟨(aC HV.out.cU 1).trans rfl,(aC HV.out.cU 2).trans rfl⟩ (fun hHeld=>?_);clear hK K;refine nm 102 ?_;refine aZ [(9,93),(10,103),(11,104),(12,13),(13,14)] ?_
   iterate 5 (refine ck HT_ ?_)
   refine bT (bA 14 16383) (by kernel_rfl) ?_;refine fX HT_ ?_;clear HT_ HW_ hHeld;have h:=H.out;clear H
   by_cases he:y2=0
   rotate_left
   ·
    rw [if_neg he] at h
    obtain rfl:=Option.some.inj h
    obtain ⟨he1,he2⟩:=iT he;clear he h
    go_wp2
    go_ret2
    exact ⟨rfl,HB.out⟩
   rw [if_pos he] at h;obtain ⟨he1,he2⟩:=jh he;replace h:=bU h;obtain ⟨eq,x7,h⟩:=h;have X7:=aS x7;clear x7 he
   cases eq with
   | false=>
    rw [if_neg Bool.false_ne_true] at h
    obtain rfl:=Option.some.inj h
    clear h
    go_wp2_with (first | (go_at_call 75;(with_reducible refine (aV.calls k Ay cy y1 A0 c0 b false _ HY.out.2.2 HY.out.2.1 (Kd.cH HR.out HB.out) HC.out X7.out).mono ?_);rintro e_ w9_ ⟨rfl,hb'⟩;have hb:=hb'.below;have n0_:=aS (HV.out.below hb);have n1_:=aS (aE HB.out hb);clear HV HB;have HV:=n0_;have HB:=n1_;clear n0_ n1_ hb hb' HY))
    go_ret2
    exact ⟨rfl,HB.out⟩
   | true=>
    rw [if_pos rfl] at h
    obtain rfl:=Option.some.inj h
    clear h
    go_wp2_with (first | (go_at_call 75;(with_reducible refine (aV.calls k Ay cy y1 A0 c0 b true _ HY.out.2.2 HY.out.2.1 (Kd.cH HR.out HB.out) HC.out X7.out).mono ?_);rintro e_ w9_ ⟨rfl,hb'⟩;have hb:=hb'.below;have n0_:=aS (HV.out.below hb);have n1_:=aS (aE HB.out hb);clear HV HB;have HV:=n0_;have HB:=n1_;clear n0_ n1_ hb hb' HY))
    go_ret2
    exact ⟨g,rfl,⟨_,_,_,HV.out⟩,HB.out⟩
  ·
   rw [if_neg hz] at ha;have d0:decide (0<(rest.length:Int))=true:=decide_eq_true (by omega);have d1:decide (0<rest.length)=true:=decide_eq_true (by omega);replace ha:=bU ha;obtain ⟨⟨l1,r1,e1⟩,y1,ha⟩:=ha;have Y1:=aS y1;have HA:=aS ha;clear hz y1 ha
   go_upto_region 11 with (first | (go_at_call 72;(with_reducible refine (dI.calls k1 A9 c9 rest l1 r1 e1 _ (Kd.dJ HS.out.hr).2.2 (Kd.dJ HS.out.hr).2.1 Y1.out).mono ?_);rintro e_ w4 ⟨vn,vr,rfl,hn,hr,hb⟩;have HN:=aS hn;have HRr:=aS hr;have HS4:=aS (HS.out.on hb);clear hn hr hb))
   have ha:=HA.out;clear HA
   by_cases he:e1=0
   rotate_left
   ·
    rw [if_neg he] at ha
    obtain rfl:=Option.some.inj ha
    obtain ⟨he1,he2⟩:=iT he
    obtain rfl:=Option.some.inj (show some none=some o from H.out)
    clear he ha
    go_wp2
    go_ret2
    exact ⟨rfl,HS4.out.below⟩
   rw [if_pos he] at ha;obtain ⟨he1,he2⟩:=jh he
   by_cases hlim:(l.length+l1.length)*64≤140737488355328∧(bs.length+1)*24≤140737488355328
   case neg=>rw [if_neg hlim] at ha;cases ha
   rw [if_pos hlim] at ha
   obtain ⟨bs1,hbs1⟩:∃ x,x=bs++[l1]:=⟨_,rfl⟩
   obtain ⟨ll1,hll1⟩:∃ x,x=l++l1:=⟨_,rfl⟩
   replace ha:aJ.lp k1 r1 ll1 bs1=some s:=by rw [hbs1,hll1];exact ha
   have HBS:=aS hbs1;have HLS:=aS hll1;have HA:=aS ha;have HLM:=aS hlim;clear he ha hlim hbs1 hll1;have hvl:ah (∀ k,vl.ownBlock=some k→k<wr.heap.size):=aS (fun k hk=>Kd.cP HS.out.hl k hk);have hvb:ah (∀ k,vb.ownBlock=some k→k<wr.heap.size):=aS (fun k hk=>Kd.cP HS.out.hb k hk);have hgN:ah (g<wr.heap.size):=aS (cR HS.out.cU);have hwN:ah (w.heap.size≤wr.heap.size):=aS HS.out.below.size;clear HS
   go_upto_region 13 with (fail)
   refine di (n:=23) (ds:=[18,21]) (S:=fun w'=>w'.cell? ⟨g,0,none⟩=some vl∧w'.cell? ⟨g,1,none⟩=some vb) (bA 23 0) (by kernel_rfl) rfl rfl ⟨(aC (ar HS4.out.cU) 0).trans rfl,(aC (ar HS4.out.cU) 1).trans rfl⟩ (fun hHeld=>?_)
   generalize hw_:World.drew _=w5 at hHeld ⊢
   have HS5:ah (aJ.St w w5 g vl vb _ l bs rest):=aS (hw_▸HS4.out.on (bH (Below.refl _ _)));have HN5:ah (Kd.R cm 34 w5 wr.heap.size (fun _=>True) vn l1):=aS (hw_▸Kd.dB HN.out (bH (Below.refl _ _)));have HR5:ah (Kd.R (Kd.int .u8) 5 w5 wr.heap.size (fun _=>True) vr r1):=aS (hw_▸Kd.dB HRr.out (bH (Below.refl _ _)));clear hw_ HS4 HN HRr;obtain ⟨An,cn,rfl⟩:=Kd.bp HN5.out;refine cD (T:=(true,[([],[]),([],[]),([],[]),([2],[2]),([3],[3]),([4],[4]),([],[]),([6],[6]),([5,7],[5,7]),([],[]),([9],[9]),([10],[10]),([11],[11]),([],[]),([12,13,8],[12,13]),([],[]),([0,0,2,3,4,5,6,7,8,12,14],[0]),([16,0,2,3,4,5,6,7,8,12,14],[16]),([17,8,14,0,2,3,4,5,6,7,8,12,14],[8,17]),([1,0,1,2,3,4,5,6,7,8,9,10,11,12,13,14,16,17,18],[1]),([19,0,1,2,3,4,5,6,7,8,9,10,11,12,13,14,16,17,18],[19]),([20,14,18,0,1,2,3,4,5,6,7,8,9,10,11,12,13,14,16,17,18],[14,20]),([15,21,0,1,2,3,4,5,6,7,8,9,10,11,12,13,14,15,16,17,18,19,20,21],[15])])) (B:=[0,0,0,4,12,28,0,64,252,0,512,1536,3584,0,16380,0,32765,98301,229373,491519,1015807,2064383,4194303]) (by kernel_rfl) (by kernel_rfl) (fun HT_ HW_=>?_);refine aZ [(0,51),(1,52),(2,53),(3,54),(4,55)] ?_
   iterate 5 (refine ck HT_ ?_)
   refine bT (bA 23 31) (by kernel_rfl) ?_;refine aZ [(5,56)] ?_
   iterate 1 (refine dY HT_ HW_ hHeld ?_)
   refine bT (bA 23 63) (by kernel_rfl) ?_;refine aZ [(6,57),(9,60),(10,61),(11,62)] ?_
   iterate 4 (refine ck HT_ ?_)
   refine bT (bA 23 3711) (by kernel_rfl) ?_;refine aZ [(12,63)] ?_
   iterate 1 (refine dY HT_ HW_ hHeld ?_)
   refine bT (bA 23 7807) (by kernel_rfl) ?_;refine aZ [(13,64),(15,66)] ?_
   iterate 2 (refine ck HT_ ?_)
   refine bT (bA 23 48767) (by kernel_rfl) ?_;refine dH 7 (N:=some 58) (bA 23 48895) HT_ (fun K hK=>?_);refine mg (w1:=?_) (v:=?_) (by rfl) rfl ?_ ?_
   rotate_left 2
   ·
    go_simp
    constructor
    ·
     rfl
    ·
     rfl
   refine hK.out _ _ ⟨(aC (ax HS5.out.cU _) 0).trans rfl,(aC (ax HS5.out.cU _) 1).trans rfl⟩ (fun hHeld=>?_);clear hK K;refine nm 58 ?_;refine dH 8 (N:=some 59) (bA 23 49151) HT_ (fun K hK=>?_);refine Kd.ox (Kd.slice 34 cm) (w0:=w) w.heap.size (by rfl) (.tmp 56) (.tmp 58) 73 32 (.slice none 0 0) 24 rfl hu39 qj rfl (by decide) (by decide) vb bs l1 [.slice An l1.length cn] (fun k=>some k≠vl.ownBlock) (fun k=>wr.heap.size≤k) rfl rfl ⟨_,rfl,Kd.bn (Kd.aK (Kd.eu HN5.out) (fun k hk=>hk.2.1)) hwN.out⟩ (fun k hk=>⟨fun he=>by have:=hvl.out k he.symm;omega,fun he=>by have:=hvb.out k he.symm;omega⟩) (fun k hk he=>by have:=Kd.cP HS5.out.hl k he.symm;omega) HS5.out.hb HS5.out.below HS5.out.below.size HLM.out.2 ?_
   intro vb1 w6 ho hb hg hat
   rw [←HBS.out] at ho;obtain ⟨Ab1,cb1,rfl⟩:=Kd.bp ho;have HB1:=aS ho;have HD6:=aS hb;have HG1:=aS hg;have HT1:=aS hat;have HM:=aS (HS5.out.mid hg);have HN6:=aS (Kd.qA (Kd.jL rfl HN5.out) hg (fun k hk he=>by have h1:=Kd.gi HN5.out k hk.symm;have h2:=hvb.out k he.symm;omega));clear ho hb hg hat HN5;refine hK.out _ _ ⟨(aC HM.out.2 0).trans rfl,(aC HM.out.2 1).trans rfl⟩ (fun hHeld=>?_);clear hK K;refine nm 59 ?_;refine dH 14 (N:=some 65) (bA 23 65535) HT_ (fun K hK=>?_);refine Kd.fL cm (w0:=w) w.heap.size (by rfl) (.tmp 63) (.tmp 64) 32 34 (.agg #[(.string ⟨#[]⟩),(.string ⟨#[]⟩),(.int .i64 0),(.string ⟨#[]⟩),(.bool false)]) 64 rfl hu22 eO rfl (by decide) (by decide) vl l l1 _ _ _ (fun _=>True) (fun _=>False) rfl rfl HM.out.1 (Kd.aY HN6.out).2.2 (fun x cs hk=>?hKM) (fun _ hk=>hk.elim) (fun _ _=>trivial) HD6.out HD6.out.size HLM.out.1 ?_
   (case hKM=>obtain rfl:=t8 hk;exact ia _ _ _ x)
   intro vl1 w7 ho hb hg hat
   rw [←HLS.out] at ho;obtain ⟨Al1,cl1,rfl⟩:=Kd.bp ho;have HG2:=aS (eP HM.out.2 hg (Kd.lZ HM.out.1 HM.out.2 (by decide)));have HSn:=aS (HS5.out.next HR5.out hvl.out hvb.out hgN.out HB1.out HG1.out HT1.out ho hg hat hb);have HQ:ah ((w7.setCell ⟨g,1,none⟩ (.slice Ab1 bs1.length cb1)).heap[g]? = some (.cells #[vl,.slice Ab1 bs1.length cb1,.slice none 0 0] 111 (0,0))):=aS (bk HG2.out 1 (.slice Ab1 bs1.length cb1) rfl);clear ho hb hg hat HM HB1 HD6 HG1 HT1 HN6 HS5 HR5;refine hK.out _ _ ⟨(aC HG2.out 0).trans rfl,(aC HG2.out 1).trans rfl⟩ (fun hHeld=>?_);clear hK K;refine nm 65 ?_;refine aZ [(16,67),(17,68)] ?_
   iterate 2 (refine ck HT_ ?_)
   refine bT (bA 23 262143) (by kernel_rfl) ?_;refine jP (i:=18) (N:=none) (bA 23 524287) rfl rfl (jW HT_.out (by kernel_rfl)) (by decide) (fun K hK=>?_);rw [if_pos (by rfl)];have hfz:=dx HG2.out 1;have hcl:=(aC HG2.out 1).trans rfl
   unfold Oper.wp
   go_simp
   refine hK.out _ _ ?_;clear hK K hfz hcl;refine aZ [(19,69),(20,70)] ?_
   iterate 2 (refine ck HT_ ?_)
   refine bT (bA 23 2097151) (by kernel_rfl) ?_;refine jP (i:=21) (N:=none) (bA 23 4194303) rfl rfl (jW HT_.out (by kernel_rfl)) (by decide) (fun K hK=>?_);rw [if_pos (by rfl)];have hfz:=dx HQ.out 0;have hcl:=(aC HQ.out 0).trans rfl
   unfold Oper.wp
   go_simp
   refine hK.out _ _ ?_;clear hK K hfz hcl;refine aZ [(22,9)] ?_
   iterate 1 (refine ck HT_ ?_)
   refine bT (bA 23 8388607) (by kernel_rfl) ?_;refine fX HT_ ?_;clear HT_ HW_ hHeld HG2 HQ
   generalize World.setCell _ _ _=w8 at HSn ⊢
   try go_wp2
   try simp only [Exit.inBlock,Exit.then]
   go_roundg k1
   case measure=>have:=HK.out;omega
   case rel=>exact ⟨_,_,r1,ll1,bs1,HA,⟨by have:=HK.out;omega⟩,HSn⟩
def ak.gZ (w:World) (base:Nat) (ok:Nat→Prop) (x:(List au × List (List au) × List Int)) (cs:List Value):Prop:=∃ g vl vb vf,cs=[.pointer (some ⟨g,0,none⟩)]∧ok g∧base≤g∧w.heap[g]? = some (.cells #[vl,vb,vf] 111 (0,0))∧Kd.R cm 34 w base ok vl x.1∧Kd.R (Kd.slice 34 cm) 32 w base ok vb x.2.1∧Kd.R (Kd.int .u8) 5 w base ok vf x.2.2
section
variable {w w1:World} {base b:Nat} {ok ok':Nat→Prop} {x:(List au × List (List au) × List Int)} {cs:List Value}
theorem ak.gZ.mono (hok:∀ k,ok k→ok' k) (h:ak.gZ w base ok x cs):ak.gZ w base ok' x cs:=by
 obtain ⟨g,vl,vb,vf,e,h1,h2,h3,h4,h5,h6⟩:=h;exact ⟨g,vl,vb,vf,e,hok _ h1,h2,h3,Kd.aK h4 hok,Kd.aK h5 hok,Kd.aK h6 hok⟩
theorem ak.gZ.move (hm:∀ k,ok k→w1.heap[k]? = w.heap[k]?) (h:ak.gZ w base ok x cs):ak.gZ w1 base ok x cs:=by
 obtain ⟨g,vl,vb,vf,e,h1,h2,h3,h4,h5,h6⟩:=h;exact ⟨g,vl,vb,vf,e,h1,h2,(hm g h1).trans h3,Kd.mo h4 hm,Kd.mo h5 hm,Kd.mo h6 hm⟩
theorem ak.gZ.lower (hb:b≤base) (h:ak.gZ w base ok x cs):ak.gZ w b ok x cs:=by
 obtain ⟨g,vl,vb,vf,e,h1,h2,h3,h4,h5,h6⟩:=h;exact ⟨g,vl,vb,vf,e,h1,Nat.le_trans hb h2,h3,Kd.bn h4 hb,Kd.bn h5 hb,Kd.bn h6 hb⟩
theorem ak.gZ.bound (h:ak.gZ w base ok x cs):ak.gZ w base (fun k=>ok k∧base≤k∧k<w.heap.size∧∃ q,q ∈ [111,34,32,5]∧∃ cells,w.heap[k]? = some (.cells cells q (0,0))) x cs:=by
 obtain ⟨g,vl,vb,vf,e,h1,h2,h3,h4,h5,h6⟩:=h;refine ⟨g,vl,vb,vf,e,⟨h1,h2,cR h3,_,List.mem_cons_self,_,h3⟩,h2,h3,Kd.aK (Kd.eu h4) (fun k hk=>?_),Kd.aK (Kd.eu h5) (fun k hk=>?_),Kd.aK (Kd.eu h6) (fun k hk=>?_)⟩
 all_goals
  obtain ⟨k1,k2,k3,q,hq,k4⟩:=hk;refine ⟨k1,k2,k3,q,?_,k4⟩
  first | (replace hq:q ∈ [34]:=hq;simp only [List.mem_cons,List.mem_nil_iff,or_false] at hq ⊢;simp only [hq,true_or,or_true]) | (replace hq:q ∈ [32,34]:=hq;simp only [List.mem_cons,List.mem_nil_iff,or_false] at hq ⊢;rcases hq with hq | hq<;>simp only [hq,true_or,or_true]) | (replace hq:q ∈ [5]:=hq;simp only [List.mem_cons,List.mem_nil_iff,or_false] at hq ⊢;simp only [hq,true_or,or_true])
theorem ak.gZ.step (h:ak.gZ w base ok x cs) (hm:∀ k,ok k→k<w.heap.size→w1.heap[k]? = w.heap[k]?):ak.gZ w1 base ok x cs:=
 ak.gZ.mono (fun _ hk=>hk.1) (ak.gZ.move (fun k hk=>hm k hk.1 hk.2.2.1) (ak.gZ.bound h))
end
def ak.mY:Kd (List au × List (List au) × List Int) where
 sz:=1
 E:=[111,34,32,5]
 K w x cs:=ak.gZ w 0 (fun _=>True) x cs
 M w base ok x cs:=ak.gZ w base ok x cs
 K_len:=by rintro w x cs ⟨g,vl,vb,vf,rfl,_⟩;rfl
 K_one:=by
  rintro w x cs ⟨g,vl,vb,vf,rfl,_⟩ u hu
  rw [List.mem_singleton.1 hu]
  rfl
 K_below:=fun hb h=>h.step (fun k _ hk=>hb.block k hk)
 K_of_M:=fun h=>ak.gZ.mono (fun _ _=>trivial) (ak.gZ.lower (Nat.zero_le _) h)
 M_mono:=fun hok h=>h.mono hok
 M_bound:=fun h=>h.bound
 M_move:=fun hm h=>h.move hm
 M_lower:=fun hb h=>h.lower hb
def ak.vX:Kd Value where
 sz:=1
 E:=[]
 K _ x cs:=cs=[x]∧x.oneCell'=true
 M _ _ _ x cs:=cs=[x]∧x.oneCell'=true
 K_len:=by rintro w x cs ⟨rfl,_⟩;rfl
 K_one:=by
  rintro w x cs ⟨rfl,h⟩ u hu
  rw [List.mem_singleton.1 hu];exact h
 K_below:=fun _ h=>h
 K_of_M:=fun h=>h
 M_mono:=fun _ h=>h
 M_bound:=fun h=>h
 M_move:=fun _ h=>h
 M_lower:=fun _ h=>h
structure ak.Rows (w:World) (base:Nat) (ok:Nat→Prop) (vs:List Value) (ls:List (List (List au × List (List au) × List Int))):Prop where
 len:vs.length=ls.length
 rows:∀ i,i<vs.length→Kd.R ak.mY 86 w base ok (vs.getD i (.slice none 0 0)) (ls.getD i [])
 apart:∀ i j,i<j→j<vs.length→∀ k,(vs.getD i (.slice none 0 0)).ownBlock=some k→(vs.getD j (.slice none 0 0)).ownBlock≠some k
structure ak.eC (w:World) (base:Nat) (ok:Nat→Prop) (g gm:Nat) (vm vl:Value) (vs us:List Value) (s1 s2 s3:Int) (xs:List au) (n:Int) (ls:List (List (List au × List (List au) × List Int))):Prop where
 ge:base≤g
 okg:ok g
 cU:w.heap[g]? = some (.cells #[.int .i64 s1,.int .i64 s2,.int .i64 s3,.pointer (some ⟨gm,0,none⟩),vl] 61 (0,0))
 gem:base≤gm
 okm:ok gm
 blm:w.heap[gm]? = some (.cells #[vm,.int .i64 n] 78 (0,0))
 row:Kd.R cm 34 w base ok vm xs
 out:Kd.R ak.vX 64 w base ok vl vs
 all:vs.length=us.length
 rs:ak.Rows w base (fun k=>ok k∧some k≠vm.ownBlock) us ls
def ak.At (w:World) (base:Nat) (ok:Nat→Prop) (g:Nat) (s1 s2 s3:Int) (xs:List au) (n:Int) (ls:List (List (List au × List (List au) × List Int))):Prop:=∃ gm vm vl vs,ak.eC w base ok g gm vm vl vs vs s1 s2 s3 xs n ls
structure ak.fD (w w1:World) (ok:Nat→Prop):Prop where
 os:w1.os=w.os
 tape:w1.tape=w.tape
 output:w1.output=w.output
 size:w.heap.size≤w1.heap.size
 block:∀ k,k<w.heap.size→¬ ok k→w1.heap[k]? = w.heap[k]?
section
variable {w w1 w2:World} {base b g gm:Nat} {ok ok':Nat→Prop} {vm vl:Value} {vs us:List Value} {s1 s2 s3:Int} {xs:List au} {n:Int} {ls:List (List (List au × List (List au) × List Int))}
theorem ak.Rows.step (h:ak.Rows w base ok us ls) (hm:∀ k,ok k→k<w.heap.size→w1.heap[k]? = w.heap[k]?):ak.Rows w1 base ok us ls:=⟨h.len,fun i hi=>Kd.jU (h.rows i hi) hm,h.apart⟩
theorem ak.Rows.mono (h:ak.Rows w base ok us ls) (hok:∀ k,ok k→ok' k):ak.Rows w base ok' us ls:=⟨h.len,fun i hi=>Kd.aK (h.rows i hi) hok,h.apart⟩
theorem ak.Rows.bound (h:ak.Rows w base ok us ls):ak.Rows w base (fun k=>ok k∧k<w.heap.size) us ls:=⟨h.len,fun i hi=>Kd.aK (Kd.eu (h.rows i hi)) (fun _ hk=>⟨hk.1,hk.2.2.1⟩),h.apart⟩
theorem ak.Rows.lower (h:ak.Rows w base ok us ls) (hb:b≤base):ak.Rows w b ok us ls:=⟨h.len,fun i hi=>Kd.bn (h.rows i hi) hb,h.apart⟩
theorem ak.eC.step (h:ak.eC w base ok g gm vm vl vs us s1 s2 s3 xs n ls) (hm:∀ k,ok k→k<w.heap.size→w1.heap[k]? = w.heap[k]?):ak.eC w1 base ok g gm vm vl vs us s1 s2 s3 xs n ls:=
 ⟨h.ge,h.okg,(hm g h.okg (cR h.cU)).trans h.cU,h.gem,h.okm,(hm gm h.okm (cR h.blm)).trans h.blm,Kd.jU h.row hm,Kd.jU h.out hm,h.all,h.rs.step (fun k hk=>hm k hk.1)⟩
theorem ak.eC.below (h:ak.eC w base ok g gm vm vl vs us s1 s2 s3 xs n ls) (hb:Below w.heap.size w w1):ak.eC w1 base ok g gm vm vl vs us s1 s2 s3 xs n ls:=h.step (fun k _ hk=>hb.block k hk)
theorem ak.eC.mono (h:ak.eC w base ok g gm vm vl vs us s1 s2 s3 xs n ls) (hok:∀ k,ok k→ok' k):ak.eC w base ok' g gm vm vl vs us s1 s2 s3 xs n ls:=
 ⟨h.ge,hok _ h.okg,h.cU,h.gem,hok _ h.okm,h.blm,Kd.aK h.row hok,Kd.aK h.out hok,h.all,h.rs.mono (fun k hk=>⟨hok k hk.1,hk.2⟩)⟩
theorem ak.eC.bound (h:ak.eC w base ok g gm vm vl vs us s1 s2 s3 xs n ls):ak.eC w base (fun k=>ok k∧k<w.heap.size) g gm vm vl vs us s1 s2 s3 xs n ls:=
 ⟨h.ge,⟨h.okg,cR h.cU⟩,h.cU,h.gem,⟨h.okm,cR h.blm⟩,h.blm,Kd.aK (Kd.eu h.row) (fun _ hk=>⟨hk.1,hk.2.2.1⟩),Kd.aK (Kd.eu h.out) (fun _ hk=>⟨hk.1,hk.2.2.1⟩),h.all,h.rs.bound.mono (fun _ hk=>⟨⟨hk.1.1,hk.2⟩,hk.1.2⟩)⟩
theorem ak.eC.lower (h:ak.eC w base ok g gm vm vl vs us s1 s2 s3 xs n ls) (hb:b≤base):ak.eC w b ok g gm vm vl vs us s1 s2 s3 xs n ls:=
 ⟨Nat.le_trans hb h.ge,h.okg,h.cU,Nat.le_trans hb h.gem,h.okm,h.blm,Kd.bn h.row hb,Kd.bn h.out hb,h.all,h.rs.lower hb⟩
theorem ak.eC.mem (h:ak.eC w base ok g gm vm vl vs us s1 s2 s3 xs n ls):cg.At w base gm xs n vm:=⟨h.gem,h.blm,Kd.aK h.row (fun _ _=>trivial)⟩
theorem ak.eC.cells (h:ak.eC w base ok g gm vm vl vs us s1 s2 s3 xs n ls) (i:Nat) (hi:i<vs.length):∃ A c,us.getD i (.slice none 0 0) = .slice A (ls.getD i []).length c∧(ls.getD i []).length≤c∧Kd.C ak.mY w A (ls.getD i []).length (ls.getD i []):=Kd.eZ (h.rs.rows i (by rw [←h.all];exact hi))
theorem ak.eC.len (h:ak.eC w base ok g gm vm vl vs us s1 s2 s3 xs n ls):vs.length=ls.length:=h.all.trans h.rs.len
theorem ak.eC.up (h:ak.eC w base ok g gm vm vl vs vs s1 s2 s3 xs n ls):ak.At w base ok g s1 s2 s3 xs n ls:=⟨gm,vm,vl,vs,h⟩
theorem ak.At.below (h:ak.At w base ok g s1 s2 s3 xs n ls) (hb:Below w.heap.size w w1):ak.At w1 base ok g s1 s2 s3 xs n ls:=by
 obtain ⟨gm,vm,vl,vs,h⟩:=h;exact ak.eC.up (h.below hb)
theorem ak.At.step (h:ak.At w base ok g s1 s2 s3 xs n ls) (hm:∀ k,ok k→k<w.heap.size→w1.heap[k]? = w.heap[k]?):ak.At w1 base ok g s1 s2 s3 xs n ls:=by
 obtain ⟨gm,vm,vl,vs,h⟩:=h;exact ak.eC.up (h.step hm)
theorem ak.At.mono (h:ak.At w base ok g s1 s2 s3 xs n ls) (hok:∀ k,ok k→ok' k):ak.At w base ok' g s1 s2 s3 xs n ls:=by
 obtain ⟨gm,vm,vl,vs,h⟩:=h;exact ak.eC.up (h.mono hok)
theorem ak.At.bound (h:ak.At w base ok g s1 s2 s3 xs n ls):ak.At w base (fun k=>ok k∧k<w.heap.size) g s1 s2 s3 xs n ls:=by
 obtain ⟨gm,vm,vl,vs,h⟩:=h;exact ak.eC.up h.bound
theorem ak.At.lower (h:ak.At w base ok g s1 s2 s3 xs n ls) (hb:b≤base):ak.At w b ok g s1 s2 s3 xs n ls:=by
 obtain ⟨gm,vm,vl,vs,h⟩:=h;exact ak.eC.up (h.lower hb)
theorem ak.At.new {N:Nat} (h:ak.At w1 base (fun k=>N≤k∨w.heap.size≤k) g s1 s2 s3 xs n ls) (hN:N≤w.heap.size):ak.At w1 base (fun k=>N≤k) g s1 s2 s3 xs n ls:=h.mono (fun _ hk=>hk.elim id (Nat.le_trans hN))
theorem ak.At.FQ {N:Nat} (h:ak.At w1 base (fun k=>base≤k) g s1 s2 s3 xs n ls) (hN:N≤base):ak.At w1 N (fun k=>N≤k) g s1 s2 s3 xs n ls:=(h.lower hN).mono (fun _ hk=>Nat.le_trans hN hk)
theorem ak.fD.refl (w:World) (ok:Nat→Prop):ak.fD w w ok:=⟨rfl,rfl,rfl,Nat.le_refl _,fun _ _ _=>rfl⟩
theorem ak.fD.trans (h:ak.fD w w1 ok) (h1:ak.fD w1 w2 ok') (hok:∀ k,ok' k→k<w.heap.size→ok k):ak.fD w w2 ok:=
 ⟨h1.os.trans h.os,h1.tape.trans h.tape,h1.output.trans h.output,Nat.le_trans h.size h1.size,fun k hk hn=>(h1.block k (Nat.lt_of_lt_of_le hk h.size) (fun ho=>hn (hok k ho hk))).trans (h.block k hk hn)⟩
theorem ak.fD.step (h:ak.fD w w1 ok) (hb:Below w1.heap.size w1 w2):ak.fD w w2 ok:=
 ⟨hb.os.trans h.os,hb.tape.trans h.tape,hb.output.trans h.output,Nat.le_trans h.size hb.size,fun k hk hn=>(hb.block k (Nat.lt_of_lt_of_le hk h.size)).trans (h.block k hk hn)⟩
theorem ak.fD.j5 (h:Below w.heap.size w w1) (ok:Nat→Prop):ak.fD w w1 ok:=(ak.fD.refl w ok).step h
theorem ak.fD.below (h:ak.fD w w1 ok) {w0:World} (hb:Below b w0 w) (h0:b≤w.heap.size) (hok:∀ k,ok k→b≤k):Below b w0 w1:=
 hb.trans ⟨h.os,h.tape,h.output,h.size,fun k hk=>h.block k (Nat.lt_of_lt_of_le hk h0) (fun ho=>by have:=hok k ho;omega)⟩
theorem ak.fD.set (w:World) (g j:Nat) (u:Value) (hg:ok g):ak.fD w (w.setCell ⟨g,j,none⟩ u) ok:=⟨rfl,rfl,rfl,by simp [World.setCell],fun k _ hk=>Below.heap_setCell w ⟨g,j,none⟩ u k (fun e=>hk (e▸hg))⟩
theorem ak.fD.grown {row_:Option Nat} (h:w.grownBy w1 row_) (hok:∀ k,row_=some k→ok k):ak.fD w w1 ok:=⟨h.os,h.tape,h.output,h.size,fun k hk hn=>h.block k hk (fun e=>hn (hok k e.symm))⟩
end
section
variable {w w1:World} {base g gm:Nat} {ok:Nat→Prop} {vm vl:Value} {vs us:List Value} {s1 s2 s3:Int} {xs:List au} {n:Int} {ls:List (List (List au × List (List au) × List Int))}
theorem ak.eC.at (h:ak.eC w base ok g gm vm vl vs us s1 s2 s3 xs n ls):∃ A c,vl = .slice A vs.length c∧vs.length≤c∧vs.length≤9223372036854775807∧∀ W:World,(∀ k,ok k→k<w.heap.size→W.heap[k]? = w.heap[k]?)→∀ i,i<vs.length→∃ ad,A=some ad∧W.cell? (ad.add i)=some (vs.getD i (.slice none 0 0)):=by
 obtain ⟨A,c,e,hc,hC⟩:=Kd.eZ h.out;refine ⟨A,c,e,hc,hC.2.1,fun W hW i hi=>?_⟩;obtain ⟨A',c',e',_,hC'⟩:=Kd.eZ (h.step hW).out;rw [e] at e'
 cases e'
 obtain ⟨ad,cs,e1,_,hK,hc0⟩:=Kd.lR hC' (.slice none 0 0:Value) (i:Int) (by omega) (by omega);rw [Int.toNat_natCast] at hK hc0
 have hc1:∀ j u,cs[j]? = some u→W.cell? (ad.add (i*1+j))=some u:=hc0
 have hcs:cs=[vs.getD i (.slice none 0 0)]:=hK.1;exact ⟨ad,e1,by have hq:=hc1 0 _ (by rw [hcs];rfl);rwa [Nat.mul_one,Nat.add_zero] at hq⟩
theorem ak.uP {A:Option Addr} {l:List (List au × List (List au) × List Int)} (h:Kd.C ak.mY w A l.length l) (i:Nat) (hi:i<l.length):∃ ad gx,A=some ad∧w.cell? (ad.add i)=some (.pointer (some ⟨gx,0,none⟩))∧aJ.At w 0 gx (l.getD i ([],[],[])).1 (l.getD i ([],[],[])).2.1 (l.getD i ([],[],[])).2.2:=by
 obtain ⟨ad,cs,e1,_,hK,hc0⟩:=Kd.lR h (([],[],[]):(List au × List (List au) × List Int)) (i:Int) (by omega) (by omega);rw [Int.toNat_natCast] at hK hc0
 have hc1:∀ j u,cs[j]? = some u→w.cell? (ad.add (i*1+j))=some u:=hc0
 obtain ⟨gx,vl,vb,vf,e,_,h2,h3,h4,h5,h6⟩:=hK;subst e;exact ⟨ad,gx,e1,by have hq:=hc1 0 _ rfl;rwa [Nat.mul_one,Nat.add_zero] at hq,vl,vb,vf,h2,h3,h4,h5,h6⟩
end
theorem ak.EB {w:World} {base g:Nat} {x:(List au × List (List au) × List Int)} (h:aJ.At w base g x.1 x.2.1 x.2.2):ak.gZ w base (fun _=>True) x [.pointer (some ⟨g,0,none⟩)]:=by
 obtain ⟨vl,vb,vf,h⟩:=h;exact ⟨g,vl,vb,vf,rfl,trivial,h.ge,h.cU,h.hl,h.hb,h.hf⟩
theorem ak.z8 {α:Type} (d:Kd α) {W:World} {base e:Nat} {xs:List α} {inner:List Value} {okp:Nat→Prop} (hrep:bP (d.M W base okp) d.sz xs inner) (hbase:base≤W.heap.size) (hm:xs.length≤9223372036854775807) :
  d.R e (W.alloc (.cells inner.toArray e)) base (fun _=>True) (.slice (some ⟨W.heap.size,0,none⟩) xs.length xs.length) xs:=by
 refine ⟨fun k _=>trivial,inner,?_,?_⟩
 ·
  have h2:=World.ownsRow_lit (base:=base) (e:=e) (size:=d.sz) W inner.toArray xs.length hbase (by simpa [maxLen] using hm) (by simpa using hrep.1)
  simpa using h2
 ·
  refine hrep.gK (fun p c hp=>d.M_mono (fun k hk=>⟨trivial,fun he=>?_⟩) (Kd.vU (d.M_bound hp) (wH (Below.refl _ _) _)))
  have h3:k=W.heap.size:=by simpa [Value.ownBlock] using he
  have:=hk.2.2.1
  omega
theorem ak.nu {α:Type} (l:List α) (z:α) (i:Nat) (h:i<l.length):l.drop i=l.getD i z :: l.drop (i+1):=by
 rw [List.drop_eq_getElem_cons h,List.getD_eq_getElem?_getD,List.getElem?_eq_getElem h]
 rfl
section
variable {w w1:World} {base b g gm:Nat} {ok ok':Nat→Prop} {vm vl:Value} {vs us:List Value} {s1 s2 s3:Int} {xs:List au} {n:Int} {ls:List (List (List au × List (List au) × List Int))} {row:Option Nat}
theorem ak.sS {α:Type} {d:Kd α} {e e':Nat} {v:Value} {l:List α} (h:d.R e w base ok v l) (hg:w.grownBy w1 row) (hty:∀ k,row=some k→∃ cells,w.heap[k]? = some (.cells cells e' (0,0))) (hne:∀ k,row=some k→v.ownBlock≠some k) (ht:∀ q,q ∈ d.E→q≠e'):d.R e w1 base ok v l:=by
 obtain ⟨h0,inner,ho,hr⟩:=h;refine ⟨h0,inner,yA ho (fun k hk=>hg.block k (xT ho k hk) (fun e=>hne k e.symm hk)),hr.gK (fun p c hp=>d.M_mono (fun k hk=>hk.1) (d.M_move (fun k hk=>?_) (d.M_bound hp)))⟩;obtain ⟨_,_,hlt,q,hq,cells,hc⟩:=hk;refine hg.block k hlt (fun e1=>?_);obtain ⟨cells',hc'⟩:=hty k e1.symm;rw [hc] at hc'
 injection hc' with hc'
 injection hc' with _ hc'
 exact ht q hq hc'
theorem ak.mR {t e':Nat} {cells:Array Value} (hb:w.heap[g]? = some (.cells cells t (0,0))) (hty:∀ k,row=some k→∃ cells,w.heap[k]? = some (.cells cells e' (0,0))) (ht:t≠e'):some g≠row:=fun e=>by
 obtain ⟨cells',hc'⟩:=hty g e.symm;rw [hb] at hc'
 injection hc' with hc'
 injection hc' with _ hc'
 exact ht hc'
theorem ak.om {α:Type} {d:Kd α} {e e':Nat} {v:Value} {l:List α} (h:d.R e w base ok v l) (hty:∀ k,row=some k→∃ cells,w.heap[k]? = some (.cells cells e' (0,0))) (ht:e≠e'):∀ k,row=some k→v.ownBlock≠some k:=fun k hk hv=>by
 obtain ⟨cells,hc⟩:=Kd.gu h k hv;exact ak.mR hc hty ht hk.symm
theorem ak.kD {α:Type} (l:List α) (i j:Nat) (x z:α) (hi:i<l.length):(l.set i x).getD j z=if i=j then x else l.getD j z:=by
 rw [List.getD_eq_getElem?_getD,List.getElem?_set,List.getD_eq_getElem?_getD]
 by_cases h:i=j
 ·
  subst h;rw [if_pos rfl,if_pos hi,if_pos rfl]
  rfl
 ·
  rw [if_neg h,if_neg h]
theorem ak.Rows.put (h:ak.Rows w base ok us ls) (i:Nat) (hi:i<us.length) {v:Value} {l:List (List au × List (List au) × List Int)} (hv:Kd.R ak.mY 86 w base ok v l) (hap:∀ j,j<us.length→∀ k,(us.getD j (.slice none 0 0)).ownBlock=some k→v.ownBlock≠some k):ak.Rows w base ok (us.set i v) (ls.set i l):=by
 have hl:i<ls.length:=h.len▸hi;refine ⟨by rw [List.length_set,List.length_set,h.len],fun j hj=>?_,fun j m hjm hm k hk=>?_⟩
 ·
  rw [List.length_set] at hj;rw [ak.kD _ _ _ _ _ hi,ak.kD _ _ _ _ _ hl]
  by_cases e:i=j
  ·
   rw [if_pos e,if_pos e];exact hv
  ·
   rw [if_neg e,if_neg e];exact h.rows j hj
 ·
  rw [List.length_set] at hm;rw [ak.kD _ _ _ _ _ hi] at hk ⊢
  by_cases e:i=j
  ·
   rw [if_pos e] at hk;rw [if_neg (by omega)]
   exact fun hk'=>hap m hm k hk' hk
  ·
   rw [if_neg e] at hk
   by_cases e2:i=m
   ·
    rw [if_pos e2];exact hap j (by omega) k hk
   ·
    rw [if_neg e2];exact h.apart j m hjm hm k hk
theorem ak.Rows.nil (h:ak.Rows w base ok us ls) (i:Nat) (hi:i<us.length):ak.Rows w base ok (us.set i (.slice none 0 0)) (ls.set i []):=h.put i hi (Kd.d6 _ _ _ _ _) (fun _ _ _ _=>by simp [Value.ownBlock])
theorem ak.sN {α:Type} (l:List α) (x z:α) (j:Nat):(l++[x]).getD j z=if j<l.length then l.getD j z else if j=l.length then x else z:=by
 rw [List.getD_eq_getElem?_getD,List.getD_eq_getElem?_getD]
 by_cases h:j<l.length
 ·
  rw [if_pos h,List.getElem?_append_left h]
 ·
  rw [if_neg h,List.getElem?_append_right (by omega)]
  by_cases e:j=l.length
  ·
   rw [if_pos e,e,Nat.sub_self];rfl
  ·
   rw [if_neg e,List.getElem?_eq_none (by simp only [List.length_singleton];omega)];rfl
theorem ak.Rows.snoc (h:ak.Rows w base ok us ls):ak.Rows w base ok (us++[.slice none 0 0]) (ls++[[]]):=by
 have hl:=h.len;refine ⟨by rw [List.length_append,List.length_append,hl];rfl,fun j hj=>?_,fun j m hjm hm k hk=>?_⟩
 ·
  rw [ak.sN,ak.sN,← hl]
  by_cases e:j<us.length
  ·
   rw [if_pos e,if_pos e];exact h.rows j e
  ·
   rw [if_neg e,if_neg e]
   simp only [ite_self]
   exact Kd.d6 _ _ _ _ _
 ·
  rw [ak.sN] at hk ⊢
  by_cases e:m<us.length
  ·
   rw [if_pos e];rw [if_pos (by omega)] at hk;exact h.apart j m hjm e k hk
  ·
   rw [if_neg e]
   simp only [ite_self]
   simp [Value.ownBlock]
theorem ak.Rows.far (h:ak.Rows w base ok us ls) {e':Nat} (hg:w.grownBy w1 row) (hty:∀ k,row=some k→∃ cells,w.heap[k]? = some (.cells cells e' (0,0))) (hne:∀ j,j<us.length→∀ k,row=some k→(us.getD j (.slice none 0 0)).ownBlock≠some k) (ht:∀ q,q ∈ [111,34,32,5]→q≠e'):ak.Rows w1 base ok us ls:=
 ⟨h.len,fun j hj=>ak.sS (h.rows j hj) hg hty (hne j hj) ht,h.apart⟩
theorem ak.CT (go i:Nat):Addr.add ⟨go,0,none⟩ i=⟨go,i,none⟩:=by
 unfold Addr.add
 by_cases h0:i=0<;>simp [h0]
theorem ak.zJ {v:Value} {l:List (List au × List (List au) × List Int)} (h:Kd.R ak.mY 86 w base ok v l) (hty:∀ k,row=some k→∃ cells,w.heap[k]? = some (.cells cells 86 (0,0))) {A:Option Addr} {m c:Nat} (e:v = .slice A m c):eY (fun x cs=>ak.gZ w 0 (fun k=>some k≠row) x cs) 1 w A l.length l:=by
 obtain ⟨A',c',e',_,hr⟩:=eX.reads h.2;rw [e] at e'
 cases e'
 refine hr.gK (Below.refl _ _) (fun x cs hm=>ak.gZ.mono (fun k hk=>?_) (ak.gZ.lower (Nat.zero_le _) (ak.gZ.bound hm)));obtain ⟨_,_,_,q,hq,cells,hc⟩:=hk
 exact ak.mR hc hty (by
  intro e
  subst e
  exact absurd hq (by decide))
theorem ak.eC.far (h:ak.eC w base ok g gm vm vl vs us s1 s2 s3 xs n ls) {e':Nat} {vl':Value} {vs' us':List Value} {ls':List (List (List au × List (List au) × List Int))} (hg:w.grownBy w1 row) (hty:∀ k,row=some k→∃ cells,w.heap[k]? = some (.cells cells e' (0,0))) (ht:∀ q,q ∈ [61,78,34]→q≠e') (hblk:w1.heap[g]? = w.heap[g]?→w1.heap[g]? = some (.cells #[.int .i64 s1,.int .i64 s2,.int .i64 s3,.pointer (some ⟨gm,0,none⟩),vl'] 61 (0,0)))
  (hok:∀ k,ok k→ok' k) (out:Kd.R ak.vX 64 w1 base ok' vl' vs') (all:vs'.length=us'.length) (rs:ak.Rows w1 base (fun k=>ok' k∧some k≠vm.ownBlock) us' ls'):ak.eC w1 base ok' g gm vm vl' vs' us' s1 s2 s3 xs n ls':=
 ⟨h.ge,hok _ h.okg,hblk (hg.block g (cR h.cU) (ak.mR h.cU hty (ht _ (by simp)))),h.gem,hok _ h.okm,(hg.block gm (cR h.blm) (ak.mR h.blm hty (ht _ (by simp)))).trans h.blm,
  Kd.aK (ak.sS h.row hg hty (ak.om h.row hty (ht _ (by simp))) (by intro q hq;cases hq)) hok,out,all,rs⟩
theorem ak.eC.Gk (h:ak.eC w base ok g gm vm vl vs vs s1 s2 s3 xs n ls) (i:Nat) (hi:i+1<vs.length) (hg:w.grownBy w1 (vs.getD i (.slice none 0 0)).ownBlock):ak.eC w1 base ok g gm vm vl vs ((vs.set i (.slice none 0 0)).set (i+1) (.slice none 0 0)) s1 s2 s3 xs n ((ls.set i []).set (i+1) []):=by
 have hty:∀ k,(vs.getD i (.slice none 0 0)).ownBlock=some k→∃ cells,w.heap[k]? = some (.cells cells 86 (0,0)):=Kd.gu (h.rs.rows i (by omega))
 refine h.far (row:=(vs.getD i (.slice none 0 0)).ownBlock) hg hty (by decide) (fun e=>e.trans h.cU) (fun _ hk=>hk) (ak.sS h.out hg hty (ak.om h.out hty (by decide)) (by intro q hq;cases hq)) (by simp) (((h.rs.nil i (by omega)).nil (i+1) (by rw [List.length_set];exact hi)).far hg hty (fun j hj k hk=>?_) (by decide));rw [List.length_set,List.length_set] at hj;rw [ak.kD _ _ _ _ _ (by rw [List.length_set];exact hi),ak.kD _ _ _ _ _ (by omega)]
 by_cases e1:i+1=j
 ·
  rw [if_pos e1];simp [Value.ownBlock]
 ·
  rw [if_neg e1]
  by_cases e2:i=j
  ·
   rw [if_pos e2];simp [Value.ownBlock]
  ·
   rw [if_neg e2]
   rcases Nat.lt_or_ge i j with h3 | h3
   ·
    exact h.rs.apart i j h3 hj k hk
   ·
    exact fun hk'=>h.rs.apart j i (by omega) (by omega) k hk' hk
theorem ak.eC.tell (h:ak.eC w base ok g gm vm vl vs us s1 s2 s3 xs n ls) (i:Nat) (hi:i<us.length) {v:Value} {l:List (List au × List (List au) × List Int)} (hv:Kd.R ak.mY 86 w base (fun k=>ok k∧some k≠vm.ownBlock) v l) (hap:∀ j,j<us.length→∀ k,(us.getD j (.slice none 0 0)).ownBlock=some k→v.ownBlock≠some k):ak.eC w base ok g gm vm vl vs (us.set i v) s1 s2 s3 xs n (ls.set i l):=
 ⟨h.ge,h.okg,h.cU,h.gem,h.okm,h.blm,h.row,h.out,by rw [List.length_set];exact h.all,h.rs.put i hi hv hap⟩
theorem ak.eC.put {go c:Nat} (h:ak.eC w base ok g gm vm (.slice (some ⟨go,0,none⟩) vs.length c) vs us s1 s2 s3 xs n ls) (i:Nat) (hi:i<vs.length) (v:Value) (hv:v.oneCell'=true):ak.eC (w.setCells go i [v]) base ok g gm vm (.slice (some ⟨go,0,none⟩) vs.length c) (vs.set i v) us s1 s2 s3 xs n ls∧w.grownBy (w.setCells go i [v]) (some go):=by
 obtain ⟨c0,hc1,hc2,hc3,_⟩:=Kd.mW h.out (.slice none 0 0) (i:Int) (by omega) (by omega);rw [Int.toNat_natCast] at hc3;have hc0:c0=[vs.getD i (.slice none 0 0)]:=hc2.1
 obtain ⟨h1,h2⟩:=Kd.xk h.out (i:Int) (by omega) (by omega) (c:=c0) (seg:=[v]) (j:=0) (x':=v) (okp:=fun _=>False) hc1 (by rw [Int.toNat_natCast];exact hc3) (Nat.le_refl 1) (by
  rw [hc0]
  exact ⟨rfl,hv⟩) (fun _ hk=>hk.elim)
 rw [Int.toNat_natCast] at h1 h2;replace h1:Kd.R ak.vX 64 (w.setCells go (i*1+0) [v]) base ok (.slice (some ⟨go,0,none⟩) vs.length c) (vs.set i v):=h1;replace h2:w.grownBy (w.setCells go (i*1+0) [v]) (some go):=h2;rw [Nat.mul_one,Nat.add_zero] at h1 h2
 have hty:∀ k,some go=some k→∃ cells,w.heap[k]? = some (.cells cells 64 (0,0)):=fun k hk=>Kd.gu h.out k hk
 refine ⟨?_,h2⟩;have hf:=h.far (row:=some go) h2 hty (by decide) (fun e=>e.trans h.cU) (fun _ hk=>hk) (vs':=vs.set i v) h1 (by rw [List.length_set];exact h.all) (h.rs.far h2 hty (fun j hj=>ak.om (h.rs.rows j hj) hty (by decide)) (by decide));exact hf
theorem ak.BQ {v:Value} {l:List (List au × List (List au) × List Int)} (h:Kd.R ak.mY 86 w base ok v l) (hb:Below w.heap.size w w1) {A:Option Addr} {m c:Nat} (e:v = .slice A m c):eY (fun x cs=>ak.gZ w1 base (fun k=>ok k∧k<w.heap.size) x cs) 1 w1 A l.length l:=by
 obtain ⟨A',c',e',_,hr⟩:=eX.reads h.2;rw [e] at e'
 cases e'
 exact hr.gK hb (fun x cs hm=>(ak.gZ.mono (fun k hk=>⟨hk.1.1,hk.2.2.1⟩) (ak.gZ.bound hm)).step (fun k _ hk=>hb.block k hk))
theorem ak.eC.GU (h:ak.eC w base ok g gm vm vl vs us s1 s2 s3 xs n ls) {gm':Nat} (hge:base≤gm') (hok:ok gm') (hbm:w.heap[gm']? = some (.cells #[.slice none 0 0,.int .i64 0] 78 (0,0))):ak.eC (w.setCell ⟨g,3,none⟩ (.pointer (some ⟨gm',0,none⟩))) base ok g gm' (.slice none 0 0) vl vs us s1 s2 s3 [] 0 ls:=by
 have hne:gm'≠g:=fun e=>by
  have hb:=h.cU;rw [e,hb] at hbm
  injection hbm with hbm
  injection hbm with _ hbm
  exact absurd hbm (by decide)
 have hr:=h.rs.mono (ok':=fun k=>ok k∧some k≠(Value.slice none 0 0).ownBlock) (fun k hk=>⟨hk.1,by simp [Value.ownBlock]⟩);exact ⟨h.ge,h.okg,bk h.cU 3 _ rfl,hge,hok,dR hbm hne _ (p:=⟨g,3,none⟩),Kd.d6 _ _ _ _ _,Kd.jF h.out h.cU (by decide) 3 _,h.all,⟨hr.len,fun i hi=>Kd.jF (hr.rows i hi) h.cU (by decide) 3 _,hr.apart⟩⟩
theorem ak.eC.GV (h:ak.eC w base ok g gm vm vl vs us s1 s2 s3 xs n ls) {vm':Value} {xs':List au} {n':Int} (ha:cg.At w1 base gm xs' n' vm') (ht:cg.Two w w1 gm vm.ownBlock) (hv:vm'.ownBlock=vm.ownBlock∨∃ b,vm'.ownBlock=some b∧w.heap.size≤b) (hok:∀ k,ok k→ok' k) (hnew:∀ k,w.heap.size≤k→ok' k):ak.eC w1 base ok' g gm vm' vl vs us s1 s2 s3 xs' n' ls∧ak.fD w w1 ok:=by
 have hty:=Kd.gu h.row
 have hg:g≠gm:=fun e=>by
  have hb:=h.cU;rw [e,h.blm] at hb
  injection hb with hb
  injection hb with _ hb
  exact absurd hb (by decide)
 refine ⟨⟨h.ge,hok _ h.okg,(ht.block g (cR h.cU) hg (ak.mR h.cU hty (by decide))).trans h.cU,h.gem,hok _ h.okm,ha.2.1,Kd.Fj rfl ha.2.2 (fun k hk=>?_),?_,h.all,⟨h.rs.len,fun i hi=>?_,h.rs.apart⟩⟩,⟨ht.os,ht.tape,ht.output,ht.size,fun k hk hn=>ht.block k hk (fun e=>hn (e▸h.okm)) (fun e=>hn (h.row.1 k e.symm))⟩⟩
 ·
  rcases hv with e | ⟨b,e,hle⟩
  ·
   exact hok k (h.row.1 k (e▸hk))
  ·
   rw [e] at hk;injection hk with hk;exact hnew k (hk▸hle)
 ·
  refine Kd.aK (Kd.jU (Kd.gP (Kd.o8 h.out hty (by decide)) h.blm (by decide)) (fun k hk hlt=>ht.block k hlt hk.2 hk.1.2)) (fun k hk=>hok k hk.1.1)
 ·
  refine Kd.aK (Kd.jU (Kd.eu (Kd.gP (h.rs.rows i hi) h.blm (by decide))) (fun k hk hlt=>ht.block k hlt hk.1.2 hk.1.1.2)) (fun k hk=>⟨hok k hk.1.1.1,?_⟩)
  rcases hv with e | ⟨b,e,hle⟩
  ·
   rw [e];exact hk.1.1.2
  ·
   rw [e];intro he;injection he with he;have:=hk.2.2.1;omega
theorem ak.eC.snoc (h:ak.eC w base ok g gm vm vl vs us s1 s2 s3 xs n ls) {v1:Value} (ho:Kd.R ak.vX 64 w1 base ok' v1 (vs++[.slice none 0 0])) (hg:w.grownBy w1 vl.ownBlock) (hok:∀ k,ok k→ok' k):ak.eC (w1.setCell ⟨g,4,none⟩ v1) base ok' g gm vm v1 (vs++[.slice none 0 0]) (us++[.slice none 0 0]) s1 s2 s3 xs n (ls++[[]]):=by
 have hty:=Kd.gu h.out;have h1:=h.far (row:=vl.ownBlock) hg hty (by decide) (fun e=>e.trans h.cU) hok (vl':=vl) (vs':=vs++[.slice none 0 0]) (us':=us++[.slice none 0 0]) (ls':=ls++[[]]) (w1:=w1);have hb:w1.heap[g]? = some (.cells #[.int .i64 s1,.int .i64 s2,.int .i64 s3,.pointer (some ⟨gm,0,none⟩),vl] 61 (0,0)):=(hg.block g (cR h.cU) (ak.mR h.cU hty (by decide))).trans h.cU;have hm:w1.heap[gm]? = some (.cells #[vm,.int .i64 n] 78 (0,0)):=(hg.block gm (cR h.blm) (ak.mR h.blm hty (by decide))).trans h.blm;have hr:=Kd.aK (ak.sS h.row hg hty (ak.om h.row hty (by decide)) (by intro q hq;cases hq)) hok;have hs:=((h.rs.far hg hty (fun j hj=>ak.om (h.rs.rows j hj) hty (by decide)) (by decide)).mono (ok':=fun k=>ok' k∧some k≠vm.ownBlock) (fun k hk=>⟨hok k hk.1,hk.2⟩)).snoc
 have hne:gm≠g:=fun e=>by
  rw [e,hb] at hm
  injection hm with hm
  injection hm with _ hm
  exact absurd hm (by decide)
 exact ⟨h.ge,hok _ h.okg,bk hb 4 v1 rfl,h.gem,hok _ h.okm,dR hm hne v1 (p:=⟨g,4,none⟩),Kd.jF hr hb (by decide) 4 v1,Kd.jF ho hb (by decide) 4 v1,by simp [h.all],⟨hs.len,fun i hi=>Kd.jF (hs.rows i hi) hb (by decide) 4 v1,hs.apart⟩⟩
end
def ak.f (s1 s2 s3:Int):Option Bool:=(eV.f s1 4096).bind fun a=>(eV.f s2 4096).bind fun b=>(eV.f s3 8).bind fun c=>some (a && b && c)
theorem ak.calls (s1 s2 s3:Int) (r:Bool) (w:World) (h:ak.f s1 s2 s3=some r):Calls Tryz.prog 8 #[.agg #[.int .i64 s1,.int .i64 s2,.int .i64 s3]] w fun e w'=>Below w.heap.size w w'∧(r=false→e = .returned (.tuple #[.pointer none,.int .i64 1]))∧(r=true→∃ g,e = .returned (.tuple #[.pointer (some ⟨g,0,none⟩),.int .i64 0])∧ak.At w' w.heap.size (fun k=>w.heap.size≤k) g s1 s2 s3 [] 0 []):=by
 have hu30:=Tryz.underlying27;have hu51:=Tryz.underlying61;have hu23:=Tryz.underlying23;have hu49:=Tryz.underlying59;have hu53:=Tryz.underlying64;have hu24:=Tryz.underlying32;have hu61:=Tryz.underlying73
 have hsz:(Tryz.prog.info? 23).map (·.size)=some 3:=by
  obtain ⟨i0,hi0,hz⟩:=Option.map_eq_some_iff.1 FB
  simp only [Prod.mk.injEq] at hz
  rw [hi0];simp [hz.2.1]
 unfold ak.f at h
 replace h:=bU h;obtain ⟨a,x1,h⟩:=h;replace h:=bU h;obtain ⟨b,x2,h⟩:=h;replace h:=bU h;obtain ⟨c,x3,h⟩:=h
 obtain rfl:=Option.some.inj h
 have X1:=aS x1;have X2:=aS x2;have X3:=aS x3;clear x1 x2 x3 h
 cases a with
 | false=>
  go_enter Tryz.func8,Tryz.ntmps8
  go_wp2_with (first | ((with_reducible refine gD 1 ?_);refine dK 1 #[.int .i64 s1,.int .i64 s2,.int .i64 s3] 23 ?_;intro p1 hg w1 hb hbl;have B1:=aS hb;have HB:=aS hbl;clear hg hb hbl;have q0:=iw B1) | (go_at_call 24;(with_reducible refine (eV.calls s1 4096 false _ X1.out).mono ?_);rintro e_ w_ ⟨rfl,hb⟩;have n1_:=aS (aI B1.out hb.below);have n2_:=aS (aE HB.out hb.below);clear B1 HB hb q0;have B1:=n1_;have HB:=n2_;clear n1_ n2_;have q0:=iw B1))
  go_ret2
  exact ⟨HB.out,fun _=>rfl,fun h=>Bool.noConfusion h⟩
 | true=>
 cases b with
 | false=>
  go_enter Tryz.func8,Tryz.ntmps8
  go_wp2_with (first | ((with_reducible refine gD 1 ?_);refine dK 1 #[.int .i64 s1,.int .i64 s2,.int .i64 s3] 23 ?_;intro p1 hg w1 hb hbl;have B1:=aS hb;have HB:=aS hbl;clear hg hb hbl;have q0:=iw B1) | (go_at_call 24;(with_reducible refine (eV.calls s1 4096 true _ X1.out).mono ?_);rintro e_ w_ ⟨rfl,hb⟩;have n1_:=aS (aI B1.out hb.below);have n2_:=aS (aE HB.out hb.below);clear B1 HB hb q0;have B1:=n1_;have HB:=n2_;clear n1_ n2_;have q0:=iw B1) | (go_at_call 24;(with_reducible refine (eV.calls s2 4096 false _ X2.out).mono ?_);rintro e_ w_ ⟨rfl,hb⟩;have n1_:=aS (aI B1.out hb.below);have n2_:=aS (aE HB.out hb.below);clear B1 HB hb q0;have B1:=n1_;have HB:=n2_;clear n1_ n2_;have q0:=iw B1))
  go_ret2
  exact ⟨HB.out,fun _=>rfl,fun h=>Bool.noConfusion h⟩
 | true=>
 cases c with
 | false=>
  go_enter Tryz.func8,Tryz.ntmps8
  go_wp2_with (first | ((with_reducible refine gD 1 ?_);refine dK 1 #[.int .i64 s1,.int .i64 s2,.int .i64 s3] 23 ?_;intro p1 hg w1 hb hbl;have B1:=aS hb;have HB:=aS hbl;clear hg hb hbl;have q0:=iw B1) | (go_at_call 24;(with_reducible refine (eV.calls s1 4096 true _ X1.out).mono ?_);rintro e_ w_ ⟨rfl,hb⟩;have n1_:=aS (aI B1.out hb.below);have n2_:=aS (aE HB.out hb.below);clear B1 HB hb q0;have B1:=n1_;have HB:=n2_;clear n1_ n2_;have q0:=iw B1) | (go_at_call 24;(with_reducible refine (eV.calls s2 4096 true _ X2.out).mono ?_);rintro e_ w_ ⟨rfl,hb⟩;have n1_:=aS (aI B1.out hb.below);have n2_:=aS (aE HB.out hb.below);clear B1 HB hb q0;have B1:=n1_;have HB:=n2_;clear n1_ n2_;have q0:=iw B1) | (go_at_call 24;(with_reducible refine (eV.calls s3 8 false _ X3.out).mono ?_);rintro e_ w_ ⟨rfl,hb⟩;have n1_:=aS (aI B1.out hb.below);have n2_:=aS (aE HB.out hb.below);clear B1 HB hb q0;have B1:=n1_;have HB:=n2_;clear n1_ n2_;have q0:=iw B1))
  go_ret2
  exact ⟨HB.out,fun _=>rfl,fun h=>Bool.noConfusion h⟩
 | true=>
 go_enter Tryz.func8,Tryz.ntmps8
 go_upto_region 4 with (first | ((with_reducible refine gD 1 ?_);refine dK 1 #[.int .i64 s1,.int .i64 s2,.int .i64 s3] 23 ?_;intro p1 hg w1 hb hbl;have B1:=aS hb;have HB:=aS hbl;clear hg hb hbl;have q0:=iw B1) | (go_at_call 24;(with_reducible refine (eV.calls s1 4096 true _ X1.out).mono ?_);rintro e_ w_ ⟨rfl,hb⟩;have n1_:=aS (aI B1.out hb.below);have n2_:=aS (aE HB.out hb.below);clear B1 HB hb q0;have B1:=n1_;have HB:=n2_;clear n1_ n2_;have q0:=iw B1) | (go_at_call 24;(with_reducible refine (eV.calls s2 4096 true _ X2.out).mono ?_);rintro e_ w_ ⟨rfl,hb⟩;have n1_:=aS (aI B1.out hb.below);have n2_:=aS (aE HB.out hb.below);clear B1 HB hb q0;have B1:=n1_;have HB:=n2_;clear n1_ n2_;have q0:=iw B1) | (go_at_call 24;(with_reducible refine (eV.calls s3 8 true _ X3.out).mono ?_);rintro e_ w_ ⟨rfl,hb⟩;have n1_:=aS (aI B1.out hb.below);have n2_:=aS (aE HB.out hb.below);clear B1 HB hb q0;have B1:=n1_;have HB:=n2_;clear n1_ n2_;have q0:=iw B1))
 refine di (n:=6) (ds:=[]) (S:=fun w'=>w'.rangeAt p1 0 [.int .i64 s1,.int .i64 s2,.int .i64 s3]) (bA 6 0) (by kernel_rfl) rfl rfl (gY (ar B1.out)) (fun hHeld=>?_)
 generalize hw_:World.drew _=wd at hHeld ⊢
 have B1d:ah (wd.heap[p1]? = _):=aS (hw_▸ar B1.out);have HBd:ah (Below w.heap.size w wd):=aS (hw_▸aE HB.out (bH (Below.refl _ _)));clear hw_ HB B1;refine cD (T:=(true,[([],[]),([],[]),([0,1],[0,1]),([2],[2]),([3,1,0,1,2,3],[3]),([4,0,1,2,3,4],[])])) (B:=[0,0,3,7,15,31]) (by kernel_rfl) (by kernel_rfl) (fun HT_ HW_=>?_);refine ij (i:=0) (N:=(some 24)) (v:=.agg #[.int .i64 s1,.int .i64 s2,.int .i64 s3]) (a':=?_) (bA 6 1) rfl rfl (iz HT_.out HW_.out (by kernel_rfl)) (fun _ _ _ h=>h) (yieldsIf_load_mid (by rfl) 23 _ rfl p1 0 (by go_simp) _ _ (fun w' hw'=>hw') hu23 rfl hsz) hHeld ?_ ?_
 rotate_left
 ·
  simp only [Act.put,eI,eG,lss,cC,dw]
  rfl
 refine dH 1 (N:=some 25) (bA 6 3) HT_ (fun K hK=>?_);refine gb Tryz.func25 #[] ?_
 with_reducible refine (cg.calls _).mono ?_
 rintro e_ w2 ⟨gm,rfl,hm,hb⟩
 refine ⟨_,rfl,?_⟩;have HM:=aS (hm.lower HBd.out.size);have B1:=aS (aI B1d.out hb);have HB2:=aS (aE HBd.out hb);clear hm hb B1d HBd;refine hK.out _ _ (gY B1.out) (fun hHeld=>?_);clear hK K;refine nm 25 ?_;refine aZ [(2,26)] ?_
 iterate 1 (refine ck HT_ ?_)
 refine bT (bA 6 7) (by kernel_rfl) ?_;refine dH 3 (N:=some 27) (bA 6 15) HT_ (fun K hK=>?_);refine Db (by rfl) (N:=27) rfl (cs:=#[.int .i64 s1,.int .i64 s2,.int .i64 s3,.pointer (some ⟨gm,0,none⟩),.slice none 0 0]) (t:=61) ?hr ?_
 (case hr=>(first | (go_simp;done) | (go_simp;rfl)))
 intro gt hg w3 hk hbl
 have HT:ah (ak.At w3 w.heap.size (fun k=>w.heap.size≤k) gt s1 s2 s3 [] 0 []):=aS ⟨gm,_,_,[],by rw [hg];exact HB2.out.size,by rw [hg];exact HB2.out.size,hk,HM.out.1,HM.out.1,aI HM.out.2.1 hbl,Kd.d6 _ _ _ _ _,Kd.d6 _ _ _ _ _,rfl,rfl,fun i hi=>absurd hi (Nat.not_lt_zero i),fun i j _ hj=>absurd hj (Nat.not_lt_zero j)⟩;have HB:=aS (aE HB2.out hbl);have B13:=aS (aI B1.out hbl);clear hg hk hbl HM HB2 B1;refine hK.out _ _ (gY B13.out) (fun hHeld=>?_);clear hK K;refine nm 27 ?_;refine aZ [(4,2),(5,3)] ?_
 iterate 2 (refine ck HT_ ?_)
 refine bT (bA 6 63) (by kernel_rfl) ?_;refine fX HT_ ?_;clear HT_ HW_ hHeld B13
 try go_wp2
 go_ret2
 exact ⟨HB.out,fun h=>Bool.noConfusion h,fun _=>⟨gt,rfl,HT.out⟩⟩
theorem tu.calls (g base:Nat) (xs:List au) (n:Int) (v:Value) (w:World) (hA:cg.At w base g xs n v) :
  Calls Tryz.prog 31 #[.pointer (some ⟨g,0,none⟩)] w fun e w'=>e = .returned (.int .i64 (xs.length:Int))∧Below w.heap.size w w':=by
 have hu46:=Tryz.underlying78;have hu22:=Tryz.underlying32;obtain ⟨A,cc,rfl,hcl,hC⟩:=hA.rows;have B:=aS hA.2.1;clear hA hcl hC;have q0:=Eb B
 go_enter Tryz.func31,Tryz.ntmps31
 go_wp2
 go_ret
 exact ⟨rfl,Below.refl _ _⟩
def eN.f (l0:List (au)):Option (List (au)):=if l0.length*64≤140737488355328 then some l0 else none
theorem eN.calls (A0:Option Addr) (c0:Nat) (l0 r:List (au)) (w:World) (hr0:Kd.C cm w A0 l0.length l0) (hc0:l0.length≤c0) (h:eN.f l0=some r) :
  Calls Tryz.prog 52 #[.slice A0 l0.length c0] w fun e w'=>∃ v0_:Value,e = .returned (v0_)∧Kd.R cm 34 w' w.heap.size (fun _=>True) v0_ r∧Below w.heap.size w w':=by
 unfold eN.f at h
 split at h
 ·
  rename_i hlim
  obtain rfl:=Option.some.inj h
  clear h;have HL:=aS hlim;clear hlim;have HR:=aS hr0;clear hr0;have HC:=aS hc0;clear hc0
  cases A0 with
  | none=>
   have hl:l0=[]:=by
    rcases Nat.eq_zero_or_pos l0.length with h0 | h0
    ·
     exact List.eq_nil_of_length_eq_zero h0
    ·
     obtain ⟨ad,h,_⟩:=HR.out.2.2 h0;cases h
   subst hl
   have hq:=fun (w:World) (n c n' c':Nat)=>Lib.run_eql_slice_nil (P:=Tryz.prog) w 32 34 none n c n' c' Tryz.underlying32
   go_enter Tryz.func52,Tryz.ntmps52
   go_wp2
   go_ret
   exact ⟨_,rfl,Kd.d6 _ _ _ _ _,Below.refl _ _⟩
  | some ad=>
   have hq:=fun (w:World) (n c n' c':Nat)=>Lib.run_eql_slice_nil (P:=Tryz.prog) w 32 34 (some ad) n c n' c' Tryz.underlying32
   go_enter Tryz.func52,Tryz.ntmps52
   go_wp2_with (first
    | ((with_reducible refine gD 5 ?_);refine Kd.rI cm _ 34 ?hg (N:=5) ?hd (xs:=[]) (inner:=[]) (ok:=fun _=>True) (okp:=fun _=>True) ?hr ?hp (fun _ hk=>hk) trivial (Below.refl _ _) (Nat.le_refl _) (by simp) ?_;(case hd=>rfl);(case hg=>rfl);(case hr=>first | (go_simp;done) | (go_simp;rfl));(case hp=>exact bP.none _ _);intro v1 w1 ho hb hg_ hnew_;clear hg_ hnew_;have HO:=aS ho;have HB:=aS hb;clear ho hb)
    | (at_builtin;refine Kd.jl cm (Rr:=(cm).K w) (w0:=w) w.heap.size rfl (.tmp 5) _ 32 34 _ _ rfl Tryz.underlying32 eO rfl (by decide) (by decide) v1 [] l0 (some ad) l0.length c0 (fun _=>True) (fun _=>False) rfl rfl HO.out (HR.out.gK HB.out (fun _ _ hp=>hp)) (fun _ _ hp=>hp) (fun _ hk=>hk.elim) (fun _ _=>trivial) HB.out HB.out.size (by have:=HL.out;simp;omega) ?_;intro v2 w2 ho hb hg hat;clear hg hat;have HO2:=aS ho;have HB2:=aS hb;clear ho hb))
   go_ret
   exact ⟨_,rfl,HO2.out,HB2.out⟩
 ·
  cases h
end Go.Proofs.YtcbhfedcdnjljaaGreat.X

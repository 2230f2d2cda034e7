import Derived.Test.YtcbhfedcdnjljaaGreatXx4
set_option maxHeartbeats 8000000
set_option maxRecDepth 100000
set_option linter.unusedVariables false
set_option linter.unusedSimpArgs false
namespace Go.Proofs.YtcbhfedcdnjljaaGreat.X
open Go.RowKit Go.Proofs.YtcbhfedcdnjljaaGreatW.PrintWords Go.Proofs.YtcbhfedcdnjljaaGreatW.PrintLast Go.Proofs.YtcbhfedcdnjljaaGreatW.PrintMore
attribute [local go_sem] gZ g_ iW iZ gF gD ic ig iX
def aW.l0:Nat→List Int→List Int→Int→Int→Option (Bool)
 | 0,_,_,_,_=>none
 | k+1,x0,x1,x12,x13=>if x13<x12 then (if 0≤x13 then (if x13<(x0.length:Int) then (if x13<(x1.length:Int) then (if (rd x0 x13)=(rd x1 x13) then (aW.l0 k x0 x1 x12 (wrap64 (x13+1))) else (some false)) else (none)) else (none)) else (none)) else (some true)
def aW.f (k:Nat) (l0:List Int) (l1:List Int):Option (Bool):=if (l0.length:Int)=(l1.length:Int) then (aW.l0 k l0 l1 (l0.length:Int) 0) else (some false)
theorem aW.cP:∀ k,(∀ y0 y1 y2 y3,aE (aW.l0 k y0 y1 y2 y3) (aW.l0 (k+1) y0 y1 y2 y3))
 | 0=>fun _ _ _ _ r h=>by simp [aW.l0] at h
 | k+1=>by
  have ih0:=aW.cP k
  ·
   intro y0 y1 y2 y3
   unfold aW.l0
   exact e8
theorem aW.mono:∀ a0 a1 k,aE (aW.f k a0 a1) (aW.f (k+1) a0 a1):=by
 intro a0 a1 k
 have ih0:=aW.cP k
 unfold aW.f
 exact e8
theorem aW.calls (k:Nat) (A0:Option Addr) (c0:Nat) (l0:List Int) (A1:Option Addr) (c1:Nat) (l1:List Int) (r:Bool) (w:World) (hr0:Kd.C (Kd.int .u8) w A0 l0.length l0) (hc0:l0.length≤c0) (hr1:Kd.C (Kd.int .u8) w A1 l1.length l1) (hc1:l1.length≤c1) (h:aW.f k l0 l1=some r) :
  Calls Tryz.prog 75 #[.slice A0 l0.length c0,.slice A1 l1.length c1] w fun e w'=>e = .returned (.bool r)∧bF w w':=by
 have HR0:=aS hr0;have HC0:=aS hc0;clear hr0 hc0;have HR1:=aS hr1;have HC1:=aS hc1;clear hr1 hc1;have H:(if (l0.length:Int)=(l1.length:Int) then (aW.l0 k l0 l1 (l0.length:Int) 0) else (some false))=some r:=h;clear h
 by_cases c3:(l0.length:Int)=(l1.length:Int)
 ·
  rw [if_pos c3] at H;obtain ⟨c3b0,c3b1⟩:=jE c3
  have c3b2:(l0.length == l1.length)=true:=by first | simpa using c3 | (simp at c3 ⊢;omega)
  clear c3
  have H':=aS H
  clear H
  go_enter Tryz.func75,Tryz.ntmps75
  go_wp2
  repeat (go_quiet (fail);try go_wp2)
  go_loopg [13] k (fun kq v13 w'=>∃ (x13_1:Int),v13 = .int .i64 x13_1∧ak (aW.l0 kq l0 l1 (l0.length:Int) x13_1=some r)∧ak (kq≤k)∧bF w w')
  case atStart=>exact ⟨(0),dU,H',⟨Nat.le_refl _⟩,by repeat (first | exact bF.refl _ | apply bF.step)⟩
  case round=>
   clear H';(try clear c1);(try clear c3);(try clear c3b0);(try clear c3b1);(try clear c3b2);obtain ⟨x13_1,rfl,HA,HK1,⟨m1,rfl⟩⟩:=hrel
   cases gk with
   | zero=>exact absurd HA.out (by simp [aW.l0])
   | succ k1=>
    have H:=HA.out;clear HA
    simp only [aW.l0] at H
    by_cases c4:x13_1<(l0.length:Int)
    ·
     rw [if_pos c4] at H;have c4b0:decide (x13_1<(l0.length:Int))=true:=decide_eq_true c4;clear c4
     by_cases c5:0≤x13_1
     ·
      rw [if_pos c5] at H;have c5b0:decide (0≤x13_1)=true:=decide_eq_true c5;clear c5
      by_cases c6:x13_1<(l0.length:Int)
      ·
       rw [if_pos c6] at H;have c6b0:decide (x13_1<(l0.length:Int))=true:=decide_eq_true c6;clear c6
       by_cases c7:x13_1<(l1.length:Int)
       ·
        rw [if_pos c7] at H;have c7b0:decide (x13_1<(l1.length:Int))=true:=decide_eq_true c7;clear c7
        by_cases c8:(rd l0 x13_1)=(rd l1 x13_1)
        ·
         rw [if_pos c8] at H;obtain ⟨c8b0,c8b1⟩:=jE c8;clear c8
         have H':=aS H
         clear H;have p285:0≤(x13_1:Int):=cG;have q285:x13_1<(l0.length:Int):=cG;obtain ⟨ad285,e285,hx285_0⟩:=Kd.jj HR0.out x13_1 p285 q285;cases e285;replace p285:=eq_true p285;replace q285:=eq_true q285;have p286:0≤(x13_1:Int):=cG;have q286:x13_1<(l1.length:Int):=cG;obtain ⟨ad286,e286,hx286_0⟩:=Kd.jj HR1.out x13_1 p286 q286;cases e286;replace p286:=eq_true p286;replace q286:=eq_true q286
         go_wp2
         repeat (go_quiet (fail);try go_wp2)
         go_roundg k1
         case measure=>have:=HK1.out;omega
         case rel=>exact ⟨(wrap64 (x13_1+1)),dU,H',⟨by have:=HK1.out;omega⟩,by repeat (first | exact bF.refl _ | apply bF.step)⟩
        ·
         rw [if_neg c8] at H;obtain ⟨c8b0,c8b1⟩:=ju c8
         obtain rfl:=Option.some.inj H
         have p285:0≤(x13_1:Int):=cG;have q285:x13_1<(l0.length:Int):=cG;obtain ⟨ad285,e285,hx285_0⟩:=Kd.jj HR0.out x13_1 p285 q285;cases e285;replace p285:=eq_true p285;replace q285:=eq_true q285;have p286:0≤(x13_1:Int):=cG;have q286:x13_1<(l1.length:Int):=cG;obtain ⟨ad286,e286,hx286_0⟩:=Kd.jj HR1.out x13_1 p286 q286;cases e286;replace p286:=eq_true p286;replace q286:=eq_true q286
         go_wp2
         repeat (go_quiet (fail);try go_wp2)
         go_ret
         exact ⟨by first | rfl | (simp;done) | (simp [*];done) | (simp;exact (by decide:∀ a_ b_:Bool,(a_ == b_)=(!a_ != b_)) _ _),by repeat (first | exact bF.refl _ | apply bF.step)⟩
       ·
        rw [if_neg c7] at H;exact absurd H (by simp)
      ·
       rw [if_neg c6] at H;exact absurd H (by simp)
     ·
      rw [if_neg c5] at H;exact absurd H (by simp)
    ·
     rw [if_neg c4] at H;have c4b0:decide (x13_1<(l0.length:Int))=false:=decide_eq_false c4;clear c4
     obtain rfl:=Option.some.inj H
     go_wp2
     repeat (go_quiet (fail);try go_wp2)
     go_ret
     exact ⟨by first | rfl | (simp;done) | (simp [*];done) | (simp;exact (by decide:∀ a_ b_:Bool,(a_ == b_)=(!a_ != b_)) _ _),by repeat (first | exact bF.refl _ | apply bF.step)⟩
 ·
  rw [if_neg c3] at H;obtain ⟨c3b0,c3b1⟩:=ju c3
  have c3b2:(l0.length == l1.length)=false:=by first | simpa using c3 | (simp at c3 ⊢;omega)
  obtain rfl:=Option.some.inj H
  go_enter Tryz.func75,Tryz.ntmps75
  go_wp2
  repeat (go_quiet (fail);try go_wp2)
  go_ret
  exact ⟨by first | rfl | (simp;done) | (simp [*];done) | (simp;exact (by decide:∀ a_ b_:Bool,(a_ == b_)=(!a_ != b_)) _ _),by repeat (first | exact bF.refl _ | apply bF.step)⟩
def bZ.j0:Nat→Int→List Int→Bool→Option (List Int × List Int × Bool)
 | 0,_,_,_=>none
 | k+1,x5,x8,x45=>if x45=true then (some (([]:List Int),([]:List Int),false)) else (if 0≤x5 then (if x5≤(x8.length:Int) then (some ((x8.take (x5:Int).toNat),(x8.drop (x5:Int).toNat),true)) else (none)) else (none))
def bZ.f (k:Nat) (l0:List Int):Option (List Int × List Int × Bool):=if (l0.length:Int)<12 then (some (([]:List Int),([]:List Int),false)) else ((bw.f k l0).bind fun bt287=>(if 12≤(l0.length:Int) then ((dH.f (l0.drop 12)).bind fun t297=>(if bt287.1 > 65535 then (bZ.j0 k bt287.1 t297 true) else (if bt287.1 > (t297.length:Int) then (bZ.j0 k bt287.1 t297 true) else (if 4≤(l0.length:Int) then ((some (l0.take 4:List Int)).bind fun y305=>((eC.f k y305).bind fun t310=>(if 0≤bt287.1 then (if bt287.1≤(t297.length:Int) then ((eC.f k (t297.take (bt287.1:Int).toNat)).bind fun t318=>((cw.f (([y305,t310,t318]:List (List Int)))).bind fun t324=>((aW.f k (l0.take 12) t324).bind fun t327=>(bZ.j0 k bt287.1 t297 (!t327))))) else (none)) else (none)))) else (none))))) else (none)))
theorem bZ.cP:∀ k,(∀ y0 y1 y2,aE (bZ.j0 k y0 y1 y2) (bZ.j0 (k+1) y0 y1 y2))
 | 0=>fun _ _ _ r h=>by simp [bZ.j0] at h
 | k+1=>by
  have ih0:=bZ.cP k
  ·
   intro y0 y1 y2
   unfold bZ.j0
   have m0:=@eC.mono;have m1:=@aW.mono;have m2:=@bw.mono;exact e8
theorem bZ.mono:∀ a0 k,aE (bZ.f k a0) (bZ.f (k+1) a0):=by
 intro a0 k
 have ih0:=bZ.cP k
 unfold bZ.f
 have m0:=@eC.mono;have m1:=@aW.mono;have m2:=@bw.mono;exact e8
def bZ.T5:Bool × List (List Nat × List Nat):=(true,[([],[]),([0],[0]),([1],[1]),([2],[2]),([2],[2]),([4,2],[2,4]),([3,5,2],[2,3,5]),([2,6],[2,6]),([7,2],[7]),([8],[8]),([9,8],[8,9]),([8],[8]),([11,8],[8,11]),([8],[8]),([13,8],[8,13]),([14,8,8],[8,14]),([8],[8]),([8],[8]),([16,17,8],[8,16,17]),([18,15,8],[8,18]),([12,15,19,8],[8,12,15,19]),([20,19,8],[8,20]),([10,21,21,8],[8,10,21]),([22,8],[8,22]),([8,23],[8,23])])
def bZ.B5:List Nat:=[0,1,3,7,7,23,63,127,255,511,1023,511,2559,511,8703,25087,511,511,197119,516607,1047039,2095615,4194303,8388607,16777215]
theorem bZ.qY:fC .any (opsOf Tryz.f93 5)=bZ.T5:=by kernel_rfl
theorem bZ.oy:fY bZ.T5.2 bZ.B5=true:=by kernel_rfl
def bZ.T7:Bool × List (List Nat × List Nat):=(true,[([],[]),([],[]),([],[]),([0,1,2],[0,1,2]),([],[]),([],[]),([4,5],[4,5]),([3,0,1,2,3],[3]),([6,7,0,1,2,3,4,5,6,7],[6]),([8,0,1,2,3,4,5,6,7,8],[])])
def bZ.B7:List Nat:=[0,0,0,7,0,0,48,15,255,511]
theorem bZ.Fy:fC .any (opsOf Tryz.f93 7)=bZ.T7:=by kernel_rfl
theorem bZ.EW:fY bZ.T7.2 bZ.B7=true:=by kernel_rfl
theorem bZ.calls (k:Nat) (P0_:Nat→Prop) (A0:Option Addr) (c0:Nat) (l0:List Int) (r1:List Int) (r2:List Int) (r3:Bool) (w:World) (hs0:Kd.V (Kd.int .u8) 5 w w.heap.size (fun k_=>P0_ k_) (.slice A0 l0.length c0) l0) (h:bZ.f k l0=some (r1,r2,r3)) :
  Calls Tryz.prog 93 #[.slice A0 l0.length c0] w fun e w'=>∃ v0_ v1_:Value,e = .returned (.tuple #[v0_,v1_,.bool r3])∧Kd.V (Kd.int .u8) 5 w' w.heap.size (fun k_=>(P0_ k_∨w.heap.size≤k_)) v0_ r1∧Kd.V (Kd.int .u8) 5 w' w.heap.size (fun k_=>(P0_ k_∨w.heap.size≤k_)) v1_ r2∧Below w.heap.size w w':=by
 have HO0:=aS (show Kd.V (Kd.int .u8) 5 w w.heap.size (fun k_=>(P0_ k_∨w.heap.size≤k_)) (.slice A0 l0.length c0) l0 from Kd.ez hs0 (fun k_ hk=>.inl hk));have HB:=aS (Below.refl w.heap.size w);have H:(if (l0.length:Int)<12 then (some (([]:List Int),([]:List Int),false)) else ((bw.f k l0).bind fun bt287=>(if 12≤(l0.length:Int) then ((dH.f (l0.drop 12)).bind fun t297=>(if bt287.1 > 65535 then (bZ.j0 k bt287.1 t297 true) else (if bt287.1 > (t297.length:Int) then (bZ.j0 k bt287.1 t297 true) else (if 4≤(l0.length:Int) then ((some (l0.take 4:List Int)).bind fun y305=>((eC.f k y305).bind fun t310=>(if 0≤bt287.1 then (if bt287.1≤(t297.length:Int) then ((eC.f k (t297.take (bt287.1:Int).toNat)).bind fun t318=>((cw.f (([y305,t310,t318]:List (List Int)))).bind fun t324=>((aW.f k (l0.take 12) t324).bind fun t327=>(bZ.j0 k bt287.1 t297 (!t327))))) else (none)) else (none)))) else (none))))) else (none))))=some (r1,r2,r3):=h;clear h
 by_cases c2:(l0.length:Int)<12
 ·
  rw [if_pos c2] at H;have c2b0:decide ((l0.length:Int)<12)=true:=decide_eq_true c2;have c2b1:decide (l0.length<12)=true:=decide_eq_true (by omega);clear c2
  simp only [Option.some.injEq,Prod.mk.injEq] at H
  obtain ⟨rfl,rfl,rfl⟩:=H
  go_enter Tryz.func93,Tryz.ntmps93
  go_wp2
  go_ret3
  exact ⟨_,_,dN,Kd.fN _ _ _ _ _,Kd.fN _ _ _ _ _,ar⟩
 ·
  rw [if_neg c2] at H;have c2b0:decide ((l0.length:Int)<12)=false:=decide_eq_false c2;have c2b1:decide (l0.length<12)=false:=decide_eq_false (by omega);clear c2;replace H:=bV H;obtain ⟨⟨t287,t288,t289⟩,A30,H⟩:=H;(try dsimp only at H);have A3:=aS A30;clear A30
  by_cases c4:12≤(l0.length:Int)
  ·
   rw [if_pos c4] at H;have c4b0:=eq_true c4;have c4b1:decide (12≤(l0.length:Int))=true:=decide_eq_true c4;clear c4
   obtain ⟨y292,hy292⟩:∃ y_:List Int,y_=(l0.drop 12):=⟨_,rfl⟩
   (first | replace H:=j8 hy292 H | rw [←hy292] at H);have Ny292:=aS hy292;clear hy292;replace H:=bV H;obtain ⟨t297,A50,H⟩:=H;have A5:=aS A50;clear A50;have HC6:=aS H;clear H
   go_enter Tryz.func93,Tryz.ntmps93
   go_upto_region 5 with (first | ((with_reducible refine aC (f:=71) rfl ?_);refine bE (some 14) rfl rfl Tryz.func71 (by kernel_rfl) rfl #[.slice A0 l0.length c0] rfl cD ?_;(with_reducible refine (bw.calls k _ _ l0 t287 t288 t289 _ ?side1 ?side2 A3.out).mono ?_);(case side1=>exact eN ((Kd.dI HO0.out).2.2));(case side2=>exact (Kd.dI HO0.out).2.1);rintro e w7 ⟨v290,rfl,ho0,hb⟩;refine ⟨_,rfl,?_⟩;replace HO0:=aS (Kd.di (sel HO0.out) (dh ho0) hb);have HO291:=aS (Kd.bf (Kd.ko (M:=fun k_=>(w.heap.size≤k_)) ho0 (ay ar) (fun k_ h_=>h_)) (ay ar));replace HB:=aM hb;(try clear hb);(try clear hk);(try clear hi);(try clear ho0);have q8:(12:Int)≤((l0.length:Int):Int):=cG;obtain ⟨i08,hi08,_,hsz8,_⟩:=info_parts fE;have hroom8:l0.length≤c0:=(Kd.dI HO0.out).2.1;have hC8:Kd.F (Kd.int .u8) _ _ A0 l0.length l0:=(Kd.nY (base:=w.heap.size) HO0.out).2.2;have hcut8:=gG (P:=Tryz.prog) 51 5 .i64 Tryz.underlying51 hi08 1 hsz8 A0 l0.length c0 12 (by omega) q8;have hr8:=Kd.AB (m:=(12:Int).toNat) (c:=c0) hC8 (by omega) hroom8;obtain ⟨A8,hA8⟩:∃ A1_,A1_=(if c0=(12:Int).toNat then A0 else (A0:Option Addr).map (·.add ((12:Int).toNat*1))):=⟨_,rfl⟩;obtain ⟨c8,hc8⟩:∃ c1_,c1_=c0 - (12:Int).toNat:=⟨_,rfl⟩;have hy8:y292.length=l0.length - (12:Int).toNat:=(by rw [Ny292.out,lY]<;>omega);rw [show (l0).drop (12:Int).toNat=y292 from Ny292.out.symm] at hr8;replace hr8:Kd.F (Kd.int .u8) _ _ A8 y292.length y292:=(by rw [hA8];exact hr8);rw [←hy8,← hA8,← hc8] at hcut8;have HO296:=aS (show Kd.V (Kd.int .u8) 5 _ w.heap.size _ (.slice A8 y292.length c8) y292 from Kd.nA (by rw [hy8,hc8];exact Nat.sub_le_sub_right hroom8 _) hr8);have HC296:=aS (show y292.length≤c8 from by rw [hy8,hc8];exact Nat.sub_le_sub_right hroom8 _);clear hr8 hC8 hroom8 hi08 hsz8 hc8;have KY8:=aS hy8;have KA8:=aS hA8;clear hy8 hA8;replace q8:=eq_true q8) | ((with_reducible refine aC (f:=92) rfl ?_);refine bE (some 20) rfl rfl Tryz.func92 (by kernel_rfl) rfl #[.slice A8 y292.length c8] rfl cD ?_;(with_reducible refine (dH.calls _ _ y292 t297 _ ?side1 ?side2 A5.out).mono ?_);(case side1=>exact eN ((Kd.dI HO296.out).2.2));(case side2=>exact (Kd.dI HO296.out).2.1);rintro e w9 ⟨v298,rfl,ho0,hb⟩;refine ⟨_,rfl,?_⟩;replace HO0:=aS (Kd.di (sel HO0.out) (dh ho0) hb);replace HO296:=aS (Kd.di (sel HO296.out) (dh ho0) hb);have HO299:=aS (Kd.bf (Kd.cI (Kd.ko (M:=fun k_=>(w.heap.size≤k_)) ho0 (ay ar) (fun k_ h_=>h_)) (Kd.cK (rel HO291.out))) (ay ar));replace HO291:=aS (Kd.bR (rel HO291.out) (dh ho0) hb);replace HB:=aM hb;(try clear hb);(try clear hk);(try clear hi);(try clear ho0)))
   (try simp only [Act.put,dw,dx,lss])
   go_cut [45] (fun v45 wc=>∃ (kq:Nat) (x45_5:Bool),v45 = .bool x45_5∧ak (bZ.j0 kq t287 t297 x45_5=some (r1,r2,r3))∧ak (kq≤k)∧ak (Kd.R (Kd.int .u8) 5 wc w.heap.size (fun k_=>(w.heap.size≤k_)) v298 t297)∧ak (Below w.heap.size w wc))
   case first=>
    have H:=HC6.out;clear HC6
    by_cases eU:t287 > 65535
    ·
     rw [if_pos eU] at H;have c10b0:decide (65535<t287)=true:=decide_eq_true eU;clear eU
     (first | rw [c10b0] | (simp only [bC,cm];rw [c10b0]) | skip)
     have H':=aS H
     clear H
     try go_wp2
     replace HO0:=aS (Kd.eM HO0.out);replace HO291:=aS (Kd.bP HO291.out);replace HO296:=aS (Kd.eM HO296.out);replace HO299:=aS (Kd.bP HO299.out);replace HB:=aS (jG HB.out);refine dz (n:=25) (S:=fun w'=>True) (ds:=[]) (bA 25 0) (by kernel_rfl) rfl rfl trivial (fun hHeld=>?_);refine cH bZ.qY bZ.oy (fun HT_ HW_=>?_)
     generalize w9.drew=w11 at HO0 HO291 HO296 HO299 HB hHeld ⊢
     refine aZ [(0,21),(1,22),(2,23),(3,24),(4,25),(5,26),(6,27),(7,28),(8,29),(9,30),(10,31),(11,32),(12,33),(13,34),(14,35),(15,36),(16,37),(17,38),(18,39),(19,40),(20,41),(21,42),(22,43),(23,44),(24,45)] ?_
     iterate 25 (first | (refine nH HT_ ?_) | (refine cr HT_ ?_))
     refine bX (bA 25 33554431) (by kernel_rfl) ?_;refine dQ (cX HT_.out (by kernel_rfl)) ?_
     try go_wp2
     go_meet
     case rel=>exact ⟨_,(true),dU,H',⟨by first | omega | exact Nat.le_refl _⟩,⟨by (with_reducible repeat (first | apply Kd.bS | apply Kd.bO | apply Kd.bP));exact Kd.aH HO299.out (fun _ hk=>hk.1.1)⟩,⟨ar⟩⟩
    ·
     rw [if_neg eU] at H;have c10b0:decide (65535<t287)=false:=decide_eq_false eU;clear eU
     (first | rw [c10b0] | (simp only [bC,cm];rw [c10b0]) | skip)
     by_cases c12:t287 > (t297.length:Int)
     ·
      rw [if_pos c12] at H;have c12b0:decide ((t297.length:Int)<t287)=true:=decide_eq_true c12;clear c12
      have H':=aS H
      clear H
      try go_wp2
      replace HO0:=aS (Kd.eM HO0.out);replace HO291:=aS (Kd.bP HO291.out);replace HO296:=aS (Kd.eM HO296.out);replace HO299:=aS (Kd.bP HO299.out);replace HB:=aS (jG HB.out);obtain ⟨Ao14,co14,eo14⟩:=Kd.bq HO299.out
      (first | subst eo14 | (injection eo14 with f1_ f2_ f3_;have f4_:=f1_.symm;have f5_:=f3_.symm;clear f1_ f2_ f3_;subst f4_;subst f5_))
      refine dz (n:=25) (S:=fun w'=>True) (ds:=[]) (bA 25 0) (by kernel_rfl) rfl rfl trivial (fun hHeld=>?_);refine cH bZ.qY bZ.oy (fun HT_ HW_=>?_)
      generalize w9.drew=w13 at HO0 HO291 HO296 HO299 HB hHeld ⊢
      refine aZ [(0,21),(1,22),(2,23),(3,24),(4,25),(5,26),(6,27),(7,28),(8,29),(9,30),(10,31),(11,32),(12,33),(13,34),(14,35),(15,36),(16,37),(17,38),(18,39),(19,40),(20,41),(21,42),(22,43),(23,44),(24,45)] ?_
      iterate 25 (first | (refine nH HT_ ?_) | (refine cr HT_ ?_))
      refine bX (bA 25 33554431) (by kernel_rfl) ?_;refine dQ (cX HT_.out (by kernel_rfl)) ?_
      try go_wp2
      go_meet
      case rel=>exact ⟨_,(true),dU,H',⟨by first | omega | exact Nat.le_refl _⟩,⟨by (with_reducible repeat (first | apply Kd.bS | apply Kd.bO | apply Kd.bP));exact Kd.aH HO299.out (fun _ hk=>hk.1.1)⟩,⟨ar⟩⟩
     ·
      rw [if_neg c12] at H;have c12b0:decide ((t297.length:Int)<t287)=false:=decide_eq_false c12;clear c12;have c15b0:=eq_true (cG:12≤(l0.length:Int))
      obtain ⟨y300,hy300⟩:∃ y_:List Int,y_=(l0.take 12):=⟨_,rfl⟩
      (first | replace H:=j8 hy300 H | rw [←hy300] at H);have Ny300:=aS hy300;clear hy300
      by_cases c16:4≤(l0.length:Int)
      ·
       rw [if_pos c16] at H;have c16b0:=eq_true c16;have c16b1:decide (4≤(l0.length:Int))=true:=decide_eq_true c16;clear c16
       obtain ⟨y305,hy305⟩:∃ y_:List Int,y_=(l0.take 4):=⟨_,rfl⟩
       (first | replace H:=j8 hy305 H | rw [←hy305] at H);have Ny305:=aS hy305;clear hy305;replace H:=bV H;obtain ⟨t310,A170,H⟩:=H;have A17:=aS A170;clear A170
       by_cases c18:0≤t287
       ·
        rw [if_pos c18] at H;have c18b0:=eq_true c18;have c18b1:decide (0≤t287)=true:=decide_eq_true c18;clear c18
        by_cases c19:t287≤(t297.length:Int)
        ·
         rw [if_pos c19] at H;have c19b0:=eq_true c19;have c19b1:decide (t287≤(t297.length:Int))=true:=decide_eq_true c19;clear c19
         obtain ⟨y313,hy313⟩:∃ y_:List Int,y_=(t297.take (t287:Int).toNat):=⟨_,rfl⟩
         replace H:((eC.f k y313).bind fun t318=>((cw.f (([y305,t310,t318]:List (List Int)))).bind fun t324=>((aW.f k y300 t324).bind fun t327=>(bZ.j0 k t287 t297 (!t327)))))=some (r1,r2,r3):=pE hy313 H;have Ny313:=aS hy313;clear hy313;replace H:=bV H;obtain ⟨t318,A200,H⟩:=H;have A20:=aS A200;clear A200
         obtain ⟨y321,hy321⟩:∃ y_:List (List Int),y_=(([y305,t310,t318]:List (List Int))):=⟨_,rfl⟩
         (first | replace H:=j8 hy321 H | rw [←hy321] at H);have Ny321:=aS hy321;clear hy321;replace H:=bV H;obtain ⟨t324,A210,H⟩:=H;have A21:=aS A210;clear A210;replace H:=bV H;obtain ⟨t327,A220,H⟩:=H;have A22:=aS A220;clear A220
         have H':=aS H
         clear H
         try go_wp2
         replace HO0:=aS (Kd.eM HO0.out);replace HO291:=aS (Kd.bP HO291.out);replace HO296:=aS (Kd.eM HO296.out);replace HO299:=aS (Kd.bP HO299.out);replace HB:=aS (jG HB.out);obtain ⟨Ao24,co24,eo24⟩:=Kd.bq HO299.out
         (first | subst eo24 | (injection eo24 with f1_ f2_ f3_;have f4_:=f1_.symm;have f5_:=f3_.symm;clear f1_ f2_ f3_;subst f4_;subst f5_))
         have q25:(12:Int)≤((l0.length:Int):Int):=cG;obtain ⟨i025,hi025,_,hsz25,_⟩:=info_parts fE;have hroom25:l0.length≤c0:=(Kd.dI HO0.out).2.1;have hC25:Kd.F (Kd.int .u8) _ _ A0 l0.length l0:=(Kd.nY (base:=w.heap.size) HO0.out).2.2;have hcut25:=jR (P:=Tryz.prog) 51 5 .i64 Tryz.underlying51 hi025 A0 l0.length c0 12 (by omega) q25 hroom25;have hr25:=Kd.rW (m:=12) hC25 (by omega);have hy25:y300.length=(12:Int).toNat:=(by rw [Ny300.out,kX];omega);rw [←Ny300.out] at hr25;rw [←hy25] at hcut25;have HO304:=aS (show Kd.V (Kd.int .u8) 5 _ w.heap.size _ (.slice A0 y300.length c0) y300 from Kd.nA (by omega) hr25);have HC304:=aS (show y300.length≤c0 from by omega);clear hr25 hC25 hroom25 hi025 hsz25;have KY25:=aS hy25;clear hy25;replace q25:=eq_true q25;have q26:(4:Int)≤((l0.length:Int):Int):=cG;obtain ⟨i026,hi026,_,hsz26,_⟩:=info_parts fE;have hroom26:l0.length≤c0:=(Kd.dI HO0.out).2.1;have hC26:Kd.F (Kd.int .u8) _ _ A0 l0.length l0:=(Kd.nY (base:=w.heap.size) HO0.out).2.2;have hcut26:=jR (P:=Tryz.prog) 51 5 .i64 Tryz.underlying51 hi026 A0 l0.length c0 4 (by omega) q26 hroom26;have hr26:=Kd.rW (m:=4) hC26 (by omega);have hy26:y305.length=(4:Int).toNat:=(by rw [Ny305.out,kX];omega);rw [←Ny305.out] at hr26;rw [←hy26] at hcut26;have HO309:=aS (show Kd.V (Kd.int .u8) 5 _ w.heap.size _ (.slice A0 y305.length c0) y305 from Kd.nA (by omega) hr26);have HC309:=aS (show y305.length≤c0 from by omega);clear hr26 hC26 hroom26 hi026 hsz26;have KY26:=aS hy26;clear hy26;replace q26:=eq_true q26;have q27:(t287:Int)≤((t297.length:Int):Int):=cG;obtain ⟨i027,hi027,_,hsz27,_⟩:=info_parts fE;have hroom27:t297.length≤co24:=(Kd.bh HO299.out).2.1;have hC27:Kd.F (Kd.int .u8) _ _ Ao24 t297.length t297:=(Kd.nY (base:=w.heap.size) (Kd.ez (ok':=(fun k_=>(((P0_ k_∨w.heap.size≤k_)∧True)∧some k_≠(v290:Value).ownBlock))) (Kd.vT HO299.out) (fun k_ hk=>⟨⟨(.inr (hk.1.1)),trivial⟩,hk.2⟩))).2.2;have hcut27:=jR (P:=Tryz.prog) 51 5 .i64 Tryz.underlying51 hi027 Ao24 t297.length co24 t287 (cG) q27 hroom27;have hr27:=Kd.rW (m:=(t287:Int).toNat) hC27 (by omega);have hy27:y313.length=(t287:Int).toNat:=(by rw [Ny313.out,kX];omega);rw [←Ny313.out] at hr27;rw [←hy27] at hcut27;have HO317:=aS (show Kd.V (Kd.int .u8) 5 _ w.heap.size _ (.slice Ao24 y313.length co24) y313 from Kd.nA (by omega) hr27);have HC317:=aS (show y313.length≤co24 from by omega);clear hr27 hC27 hroom27 hi027 hsz27;have KY27:=aS hy27;clear hy27;replace q27:=eq_true q27;refine dz (n:=25) (S:=fun w'=>True) (ds:=[]) (bA 25 0) (by kernel_rfl) rfl rfl trivial (fun hHeld=>?_);refine cH bZ.qY bZ.oy (fun HT_ HW_=>?_)
         generalize w9.drew=w23 at HO0 HO291 HO296 HO299 HB HO304 HO309 HO317 hHeld ⊢
         refine aZ [(0,21),(1,22),(2,23),(3,24),(4,25),(5,26),(6,27),(7,28),(8,29),(9,30),(10,31),(11,32),(12,33),(13,34),(14,35),(16,37),(17,38),(18,39)] ?_
         iterate 18 (refine cr HT_ ?_)
         refine bX (bA 25 491519) (by kernel_rfl) ?_;refine dJ 15 (N:=some 36) (bA 25 524287) HT_ (fun K hK=>?_);refine ep Tryz.func102 (by kernel_rfl) rfl #[.slice A0 y305.length c0] (by rfl) rfl rfl cD ?_
         with_reducible refine (eC.calls k _ _ y305 t310 _ ?side1 ?side2 A17.out).mono ?_
         (case side1=>exact eN ((Kd.dI HO309.out).2.2))
         (case side2=>exact (Kd.dI HO309.out).2.1)
         rintro e w28 ⟨v311,rfl,ho0,hb⟩
         refine ⟨_,rfl,?_⟩;replace HO0:=aS (Kd.di (sel HO0.out) (dh ho0) hb);replace HO296:=aS (Kd.di (sel HO296.out) (dh ho0) hb);replace HO304:=aS (Kd.di (sel HO304.out) (dh ho0) hb);replace HO309:=aS (Kd.di (sel HO309.out) (dh ho0) hb);replace HO317:=aS (Kd.di (sel HO317.out) (dh ho0) hb);have HO312:=aS (Kd.bf (Kd.cI (Kd.cI (Kd.ko (M:=fun k_=>(w.heap.size≤k_)) ho0 (ay ar) (fun k_ h_=>h_)) (Kd.cK (rel HO291.out))) (Kd.cK (rel HO299.out))) (ay ar));replace HO291:=aS (Kd.bR (rel HO291.out) (dh ho0) hb);replace HO299:=aS (Kd.bR (rel HO299.out) (dh ho0) hb);replace HB:=aM hb;(try clear hb);(try clear hk);(try clear hi);(try clear ho0);refine hK.out _ _ trivial (fun hHeld=>?_);clear hK K;refine nm 36 ?_;refine dJ 19 (N:=some 40) (bA 25 1048575) HT_ (fun K hK=>?_);refine ep Tryz.func102 (by kernel_rfl) rfl #[.slice Ao24 y313.length co24] (by rfl) rfl rfl cD ?_
         with_reducible refine (eC.calls k _ _ y313 t318 _ ?side1 ?side2 A20.out).mono ?_
         (case side1=>exact eN ((Kd.dI HO317.out).2.2))
         (case side2=>exact (Kd.dI HO317.out).2.1)
         rintro e w29 ⟨v319,rfl,ho0,hb⟩
         refine ⟨_,rfl,?_⟩;replace HO0:=aS (Kd.di (sel HO0.out) (dh ho0) hb);replace HO296:=aS (Kd.di (sel HO296.out) (dh ho0) hb);replace HO304:=aS (Kd.di (sel HO304.out) (dh ho0) hb);replace HO309:=aS (Kd.di (sel HO309.out) (dh ho0) hb);replace HO317:=aS (Kd.di (sel HO317.out) (dh ho0) hb);have HO320:=aS (Kd.bf (Kd.cI (Kd.cI (Kd.cI (Kd.ko (M:=fun k_=>(w.heap.size≤k_)) ho0 (ay ar) (fun k_ h_=>h_)) (Kd.cK (rel HO291.out))) (Kd.cK (rel HO299.out))) (Kd.cK (rel HO312.out))) (ay ar));replace HO291:=aS (Kd.bR (rel HO291.out) (dh ho0) hb);replace HO299:=aS (Kd.bR (rel HO299.out) (dh ho0) hb);replace HO312:=aS (Kd.bR (rel HO312.out) (dh ho0) hb);replace HB:=aM hb;(try clear hb);(try clear hk);(try clear hi);(try clear ho0);obtain ⟨Ao30,co30,eo30⟩:=Kd.bq HO312.out
         (first | subst eo30 | (injection eo30 with f1_ f2_ f3_;have f4_:=f1_.symm;have f5_:=f3_.symm;clear f1_ f2_ f3_;subst f4_;subst f5_))
         obtain ⟨Ao31,co31,eo31⟩:=Kd.bq HO320.out
         (first | subst eo31 | (injection eo31 with f1_ f2_ f3_;have f4_:=f1_.symm;have f5_:=f3_.symm;clear f1_ f2_ f3_;subst f4_;subst f5_))
         refine hK.out _ _ trivial (fun hHeld=>?_);clear hK K;refine nm 40 ?_;refine dJ 20 (N:=some 41) (bA 25 2097151) HT_ (fun K hK=>?_)
         refine Kd.t7 (Kd.slice 5 (Kd.int .u8)) _ 51 ?hg (N':=41) ?hd (xs:=([y305,t310,t318]:List (List Int))) (inner:=[.slice A0 y305.length c0,.slice Ao30 t310.length co30,.slice Ao31 t318.length co31]) (ok:=(fun k_=>(P0_ k_∨w.heap.size≤k_)∧some k_≠(v290:Value).ownBlock∧some k_≠(.slice Ao24 t297.length co24:Value).ownBlock)) (okp:=(fun k_=>(P0_ k_∨w.heap.size≤k_)∧some k_≠(v290:Value).ownBlock∧some k_≠(.slice Ao24 t297.length co24:Value).ownBlock)) ?hr ?hp (fun _ hk=>hk) ((show ∀ k_,w29.heap.size≤k_→(fun k_=>(P0_ k_∨w.heap.size≤k_)∧some k_≠(v290:Value).ownBlock∧some k_≠(.slice Ao24 t297.length co24:Value).ownBlock) k_ from fun k_ hk=>⟨(.inr (Nat.le_trans (ay ar) hk)),Kd.gP (Kd.cK (rel HO291.out)) k_ hk,Kd.gP (Kd.cK (rel HO299.out)) k_ hk⟩) _ (Nat.le_refl _)) (Below.refl _ _) (Nat.le_refl _) (by simp) ?_;(case hd=>rfl);(case hg=>rfl);(case hr=>first | (go_simp;done) | (go_simp;rfl));(case hp=>exact (bH.one (show Kd.FK (Kd.slice 5 (Kd.int .u8)) _ _ y305 [.slice A0 y305.length c0] from (Kd.eK (Kd.dI (Kd.ez (ok':=(fun k_=>(P0_ k_∨w.heap.size≤k_)∧some k_≠(v290:Value).ownBlock∧some k_≠(.slice Ao24 t297.length co24:Value).ownBlock)) (HO309.out) (fun k_ hk=>⟨hk.1.1.1.1,⟨hk.1.1.1.2,hk.1.1.2⟩⟩))).2.1 (Kd.V_F (Kd.ez (ok':=(fun k_=>(P0_ k_∨w.heap.size≤k_)∧some k_≠(v290:Value).ownBlock∧some k_≠(.slice Ao24 t297.length co24:Value).ownBlock)) (HO309.out) (fun k_ hk=>⟨hk.1.1.1.1,⟨hk.1.1.1.2,hk.1.1.2⟩⟩))))) (bH.one (show Kd.FK (Kd.slice 5 (Kd.int .u8)) _ _ t310 [.slice Ao30 t310.length co30] from (Kd.eK (Kd.bh (Kd.aH (ok':=(fun k_=>(P0_ k_∨w.heap.size≤k_)∧some k_≠(v290:Value).ownBlock∧some k_≠(.slice Ao24 t297.length co24:Value).ownBlock)) (HO312.out) (fun k_ hk=>⟨(.inr (hk.1.1.1.1)),⟨hk.1.1.2,hk.1.2⟩⟩))).2.1 (Kd.nR (Kd.aH (ok':=(fun k_=>(P0_ k_∨w.heap.size≤k_)∧some k_≠(v290:Value).ownBlock∧some k_≠(.slice Ao24 t297.length co24:Value).ownBlock)) (HO312.out) (fun k_ hk=>⟨(.inr (hk.1.1.1.1)),⟨hk.1.1.2,hk.1.2⟩⟩))))) (bH.one (show Kd.FK (Kd.slice 5 (Kd.int .u8)) _ _ t318 [.slice Ao31 t318.length co31] from (Kd.eK (Kd.bh (Kd.aH (ok':=(fun k_=>(P0_ k_∨w.heap.size≤k_)∧some k_≠(v290:Value).ownBlock∧some k_≠(.slice Ao24 t297.length co24:Value).ownBlock)) (HO320.out) (fun k_ hk=>⟨(.inr (hk.1.1.1.1)),⟨hk.1.1.2,hk.1.2⟩⟩))).2.1 (Kd.nR (Kd.aH (ok':=(fun k_=>(P0_ k_∨w.heap.size≤k_)∧some k_≠(v290:Value).ownBlock∧some k_≠(.slice Ao24 t297.length co24:Value).ownBlock)) (HO320.out) (fun k_ hk=>⟨(.inr (hk.1.1.1.1)),⟨hk.1.1.2,hk.1.2⟩⟩))))) (bH.none _ _)))))
         intro v322 w32 ho33 hb hg_ hnew_
         clear hg_ hnew_
         (first | rw [←Ny321.out] at ho33 | (simp only [Int.reduceToNat] at ho33;rw [←Ny321.out] at ho33))
         have n0_:=aS (Kd.di (sel HO0.out) (by first | exact Kd.ql ho33 | exact Kd.kL ho33 | exact Kd.fF ho33 | exact Kd.V_base ho33) hb);have n1_:=aS (Kd.dA (rel HO291.out) hb);have n2_:=aS (Kd.di (sel HO296.out) (by first | exact Kd.ql ho33 | exact Kd.kL ho33 | exact Kd.fF ho33 | exact Kd.V_base ho33) hb);have n3_:=aS (Kd.dA (rel HO299.out) hb);have n4_:=aS (Kd.di (sel HO304.out) (by first | exact Kd.ql ho33 | exact Kd.kL ho33 | exact Kd.fF ho33 | exact Kd.V_base ho33) hb);have n5_:=aS (Kd.di (sel HO309.out) (by first | exact Kd.ql ho33 | exact Kd.kL ho33 | exact Kd.fF ho33 | exact Kd.V_base ho33) hb);have n6_:=aS (Kd.di (sel HO317.out) (by first | exact Kd.ql ho33 | exact Kd.kL ho33 | exact Kd.fF ho33 | exact Kd.V_base ho33) hb);have n7_:=aS (Kd.pX ho33 (ay ar));have n8_:=aM hb;clear HO0;clear HO291;clear HO296;clear HO299;clear HO304;clear HO309;clear HO317;clear HB;clear HO312;clear HO320;have HO0:=n0_;have HO291:=n1_;have HO296:=n2_;have HO299:=n3_;have HO304:=n4_;have HO309:=n5_;have HO317:=n6_;have HO323:=n7_;have HB:=n8_;clear n0_ n1_ n2_ n3_ n4_ n5_ n6_ n7_ n8_;clear hb ho33;obtain ⟨Ao34,co34,eo34⟩:=Kd.qa HO323.out
         (first | subst eo34 | (injection eo34 with f1_ f2_ f3_;have f4_:=f1_.symm;have f5_:=f3_.symm;clear f1_ f2_ f3_;subst f4_;subst f5_))
         refine hK.out _ _ trivial (fun hHeld=>?_);clear hK K;refine nm 41 ?_;refine dJ 21 (N:=some 42) (bA 25 4194303) HT_ (fun K hK=>?_);refine ep Tryz.func84 (by kernel_rfl) rfl #[.slice Ao34 y321.length co34] (by rfl) rfl rfl cD ?_
         with_reducible refine (cw.calls _ _ y321 t324 _ ?side1 ?side2 A21.out).mono ?_
         (case side1=>exact eN ((Kd.jZ HO323.out).2.2))
         (case side2=>exact (Kd.jZ HO323.out).2.1)
         rintro e w35 ⟨v325,rfl,ho0,hb⟩
         refine ⟨_,rfl,?_⟩;replace HO0:=aS (Kd.di (sel HO0.out) (dh ho0) hb);replace HO296:=aS (Kd.di (sel HO296.out) (dh ho0) hb);replace HO304:=aS (Kd.di (sel HO304.out) (dh ho0) hb);replace HO309:=aS (Kd.di (sel HO309.out) (dh ho0) hb);replace HO317:=aS (Kd.di (sel HO317.out) (dh ho0) hb);replace HO323:=aS (Kd.oR (by (with_reducible repeat (first | apply Kd.oH | apply Kd.oP | apply Kd.pZ));exact HO323.out) (dh ho0) hb);have HO326:=aS (Kd.bf (Kd.cI (Kd.cI (Kd.ko (M:=fun k_=>(w.heap.size≤k_)) ho0 (ay ar) (fun k_ h_=>h_)) (Kd.cK (rel HO291.out))) (Kd.cK (rel HO299.out))) (ay ar));replace HO291:=aS (Kd.bR (rel HO291.out) (dh ho0) hb);replace HO299:=aS (Kd.bR (rel HO299.out) (dh ho0) hb);replace HB:=aM hb;(try clear hb);(try clear hk);(try clear hi);(try clear ho0);obtain ⟨Ao36,co36,eo36⟩:=Kd.bq HO326.out
         (first | subst eo36 | (injection eo36 with f1_ f2_ f3_;have f4_:=f1_.symm;have f5_:=f3_.symm;clear f1_ f2_ f3_;subst f4_;subst f5_))
         refine hK.out _ _ trivial (fun hHeld=>?_);clear hK K;refine nm 42 ?_;refine dJ 22 (N:=some 43) (bA 25 8388607) HT_ (fun K hK=>?_);refine ep Tryz.func75 (by kernel_rfl) rfl #[.slice A0 y300.length c0,.slice Ao36 t324.length co36] (by rfl) rfl rfl cD ?_
         with_reducible refine (aW.calls k _ _ y300 _ _ t324 t327 _ ?side1 ?side2 ?side3 ?side4 A22.out).mono ?_
         (case side1=>exact eN ((Kd.dI HO304.out).2.2))
         (case side2=>exact (Kd.dI HO304.out).2.1)
         (case side3=>exact eN ((Kd.bh HO326.out).2.2))
         (case side4=>exact (Kd.bh HO326.out).2.1)
         rintro e w' ⟨rfl,⟨nd,rfl⟩⟩
         refine ⟨_,rfl,?_⟩;refine hK.out _ _ trivial (fun hHeld=>?_);clear hK K;refine nm 43 ?_;refine aZ [(23,44),(24,45)] ?_
         iterate 2 (refine cr HT_ ?_)
         refine bX (bA 25 33554431) (by kernel_rfl) ?_;refine dQ (cX HT_.out (by kernel_rfl)) ?_
         try go_wp2
         go_meet
         case rel=>exact ⟨_,(!t327),dU,H',⟨by first | omega | exact Nat.le_refl _⟩,⟨by (with_reducible repeat (first | apply Kd.bS | apply Kd.bO | apply Kd.bP));exact Kd.aH HO299.out (fun _ hk=>hk.1.1.1.1.1)⟩,⟨ar⟩⟩
        ·
         rw [if_neg c19] at H;exact absurd H (by simp)
       ·
        rw [if_neg c18] at H;exact absurd H (by simp)
      ·
       rw [if_neg c16] at H;exact absurd H (by simp)
   case rest=>
    clear HC6;(try clear c8);obtain ⟨kq,x45_5,rfl,HA,HJ5,HO_8,HB⟩:=hcut
    cases kq with
    | zero=>exact absurd HA.out (by simp [bZ.j0])
    | succ kj5=>
     have H:=HA.out;clear HA
     simp only [bZ.j0] at H
     by_cases c37:x45_5=true
     ·
      subst c37
      replace H:=jQ H
      simp only [Option.some.injEq,Prod.mk.injEq] at H
      obtain ⟨rfl,rfl,rfl⟩:=H
      go_wp2
      go_ret3
      exact ⟨_,_,dN,Kd.fN _ _ _ _ _,Kd.fN _ _ _ _ _,ar⟩
     ·
      replace c37:=Bool.eq_false_iff.mpr c37;subst c37
      replace H:=jO H
      by_cases c38:0≤t287
      ·
       rw [if_pos c38] at H;have c38b0:=eq_true c38;have c38b1:decide (0≤t287)=true:=decide_eq_true c38;clear c38
       by_cases c39:t287≤(t297.length:Int)
       ·
        rw [if_pos c39] at H;have c39b0:=eq_true c39;have c39b1:decide (t287≤(t297.length:Int))=true:=decide_eq_true c39;clear c39
        obtain ⟨y328,hy328⟩:∃ y_:List Int,y_=(t297.take (t287:Int).toNat):=⟨_,rfl⟩
        replace H:(some (y328,(t297.drop (t287:Int).toNat),true))=some (r1,r2,r3):=pE hy328 H;have Ny328:=aS hy328;clear hy328;have c40b0:=eq_true (cG:0≤t287);have c41b0:=eq_true (cG:t287≤(t297.length:Int))
        obtain ⟨y333,hy333⟩:∃ y_:List Int,y_=(t297.drop (t287:Int).toNat):=⟨_,rfl⟩
        replace H:(some (y328,y333,true))=some (r1,r2,r3):=pE hy333 H;have Ny333:=aS hy333;clear hy333
        simp only [Option.some.injEq,Prod.mk.injEq] at H
        obtain ⟨rfl,rfl,rfl⟩:=H
        try go_wp2
        replace HO_8:=aS (Kd.bP HO_8.out);replace HB:=aS (jG HB.out);obtain ⟨Ao44,co44,eo44⟩:=Kd.bq HO_8.out
        (first | subst eo44 | (injection eo44 with f1_ f2_ f3_;have f4_:=f1_.symm;have f5_:=f3_.symm;clear f1_ f2_ f3_;subst f4_;subst f5_))
        have q43:(t287:Int)≤((t297.length:Int):Int):=cG;obtain ⟨i043,hi043,_,hsz43,_⟩:=info_parts fE;have hroom43:t297.length≤co44:=(Kd.bh HO_8.out).2.1;have hC43:Kd.F (Kd.int .u8) _ _ Ao44 t297.length t297:=(Kd.nY (base:=w.heap.size) (Kd.ez (ok':=(fun k_=>(P0_ k_∨w.heap.size≤k_))) (Kd.vT HO_8.out) (fun k_ hk=>(.inr (hk))))).2.2;have hcut43:=DZ (P:=Tryz.prog) 51 5 .i64 Tryz.underlying51 hi043 Ao44 t297.length co44 t287 (cG) q43 hroom43;have hr43:=Kd.rW (m:=(t287:Int).toNat) hC43 (by omega);have hy43:y328.length=(t287:Int).toNat:=(by rw [Ny328.out,kX];omega);rw [←Ny328.out] at hr43;rw [←hy43] at hcut43;have HO332:=aS (show Kd.V (Kd.int .u8) 5 _ w.heap.size _ (.slice Ao44 y328.length y328.length) y328 from Kd.nA (by omega) hr43);have HC332:=aS (show y328.length≤y328.length from by omega);clear hr43 hC43 hroom43 hi043 hsz43;have KY43:=aS hy43;clear hy43;replace q43:=eq_true q43;have q45:(t287:Int)≤((t297.length:Int):Int):=cG;obtain ⟨i045,hi045,_,hsz45,_⟩:=info_parts fE;have hroom45:t297.length≤co44:=(Kd.bh HO_8.out).2.1;have hC45:Kd.F (Kd.int .u8) _ _ Ao44 t297.length t297:=(Kd.nY (base:=w.heap.size) (Kd.ez (ok':=(fun k_=>(P0_ k_∨w.heap.size≤k_))) (Kd.vT HO_8.out) (fun k_ hk=>(.inr (hk))))).2.2;have q045:(0:Int)≤(t287:Int):=cG;have hcut45:=gG (P:=Tryz.prog) 51 5 .i64 Tryz.underlying51 hi045 1 hsz45 Ao44 t297.length co44 t287 q045 q45;have hr45:=Kd.AB (m:=(t287:Int).toNat) (c:=co44) hC45 (by omega) hroom45
        obtain ⟨A45,hA45⟩:∃ A1_,A1_=(if co44=(t287:Int).toNat then Ao44 else (Ao44:Option Addr).map (·.add ((t287:Int).toNat*1))):=⟨_,rfl⟩
        obtain ⟨c45,hc45⟩:∃ c1_,c1_=co44 - (t287:Int).toNat:=⟨_,rfl⟩
        have hy45:y333.length=t297.length - (t287:Int).toNat:=(by rw [Ny333.out,lY]<;>omega);rw [show (t297).drop (t287:Int).toNat=y333 from Ny333.out.symm] at hr45;replace hr45:Kd.F (Kd.int .u8) _ _ A45 y333.length y333:=(by rw [hA45];exact hr45);rw [←hy45,← hA45,← hc45] at hcut45;have HO337:=aS (show Kd.V (Kd.int .u8) 5 _ w.heap.size _ (.slice A45 y333.length c45) y333 from Kd.nA (by rw [hy45,hc45];exact Nat.sub_le_sub_right hroom45 _) hr45);have HC337:=aS (show y333.length≤c45 from by rw [hy45,hc45];exact Nat.sub_le_sub_right hroom45 _);clear hr45 hC45 hroom45 hi045 hsz45 hc45;have KY45:=aS hy45;have KA45:=aS hA45;clear hy45 hA45;replace q45:=eq_true q45;refine dz (n:=10) (S:=fun w'=>True) (ds:=[]) (bA 10 0) (by kernel_rfl) rfl rfl trivial (fun hHeld=>?_);refine cH bZ.Fy bZ.EW (fun HT_ HW_=>?_)
        generalize wc.drew=w42 at HO_8 HB HO332 HO337 hHeld ⊢
        refine aZ [(0,46),(1,47),(2,48),(3,49),(4,50),(5,51),(6,52),(7,2),(8,3),(9,4)] ?_
        iterate 10 (refine cr HT_ ?_)
        refine bX (bA 10 1023) (by kernel_rfl) ?_;refine dQ (cX HT_.out (by kernel_rfl)) ?_
        try go_wp2
        go_ret3
        exact ⟨_,_,dN,by (with_reducible repeat (first | apply Kd.fq | apply Kd.fp | apply Kd.eM));exact HO332.out,by (with_reducible repeat (first | apply Kd.fq | apply Kd.fp | apply Kd.eM));exact HO337.out,ar⟩
       ·
        rw [if_neg c39] at H;exact absurd H (by simp)
      ·
       rw [if_neg c38] at H;exact absurd H (by simp)
  ·
   rw [if_neg c4] at H;exact absurd H (by simp)
def eA.f (k:Nat) (l0:List Int):Option (ByteArray × List Int × Bool):=(bw.f k l0).bind fun bt338=>(if bt338.2.2=true then (if bt338.1 > (bt338.2.1.length:Int) then (some ((⟨#[]⟩:ByteArray),([]:List Int),false)) else (if 0≤bt338.1 then (if bt338.1≤(bt338.2.1.length:Int) then (some (strOfNums (bt338.2.1.take (bt338.1:Int).toNat),(bt338.2.1.drop (bt338.1:Int).toNat),true)) else (none)) else (none))) else (some ((⟨#[]⟩:ByteArray),([]:List Int),false)))
theorem eA.mono:∀ a0 k,aE (eA.f k a0) (eA.f (k+1) a0):=by
 intro a0 k
 unfold eA.f
 have m0:=@bw.mono;exact e8
theorem eA.calls (k:Nat) (A0:Option Addr) (c0:Nat) (l0:List Int) (r1:ByteArray) (r2:List Int) (r3:Bool) (w:World) (hr0:Kd.C (Kd.int .u8) w A0 l0.length l0) (hc0:l0.length≤c0) (h:eA.f k l0=some (r1,r2,r3)) :
  Calls Tryz.prog 105 #[.slice A0 l0.length c0] w fun e w'=>∃ v1_:Value,e = .returned (.tuple #[.string r1,v1_,.bool r3])∧Kd.Q (Kd.int .u8) 5 w' w.heap.size (fun _=>True) v1_ r2∧Below w.heap.size w w':=by
 have HR0:=aS hr0;have HC0:=aS hc0;clear hr0 hc0;have HB:=aS (Below.refl w.heap.size w);have H:((bw.f k l0).bind fun bt338=>(if bt338.2.2=true then (if bt338.1 > (bt338.2.1.length:Int) then (some ((⟨#[]⟩:ByteArray),([]:List Int),false)) else (if 0≤bt338.1 then (if bt338.1≤(bt338.2.1.length:Int) then (some (strOfNums (bt338.2.1.take (bt338.1:Int).toNat),(bt338.2.1.drop (bt338.1:Int).toNat),true)) else (none)) else (none))) else (some ((⟨#[]⟩:ByteArray),([]:List Int),false))))=some (r1,r2,r3):=h;clear h;replace H:=bV H;obtain ⟨⟨t338,t339,t340⟩,A20,H⟩:=H;(try dsimp only at H);have A2:=aS A20;clear A20
 by_cases c3:t340=true
 ·
  subst c3
  replace H:=jQ H
  by_cases c4:t338 > (t339.length:Int)
  ·
   rw [if_pos c4] at H;have c4b0:decide ((t339.length:Int)<t338)=true:=decide_eq_true c4;clear c4
   simp only [Option.some.injEq,Prod.mk.injEq] at H
   obtain ⟨rfl,rfl,rfl⟩:=H
   go_enter Tryz.func105,Tryz.ntmps105
   go_wp2_with (first | (go_at_call 71;(with_reducible refine (bw.calls k _ _ l0 t338 t339 true _ ?side1 ?side2 A2.out).mono ?_);(case side1=>exact eN HR0.out);(case side2=>exact HC0.out);rintro e w5 ⟨v341,rfl,ho0,hb⟩;have HO342:=aS (Kd.bf ho0 (ay ar));replace HB:=aM hb;(try clear hb);(try clear hk);(try clear hi);(try clear ho0);obtain ⟨Ao6,co6,eo6⟩:=Kd.bq HO342.out;subst eo6))
   repeat (go_quiet (first | (go_at_call 71;(with_reducible refine (bw.calls k _ _ l0 t338 t339 true _ ?side1 ?side2 A2.out).mono ?_);(case side1=>exact eN HR0.out);(case side2=>exact HC0.out);rintro e w5 ⟨v341,rfl,ho0,hb⟩;have HO342:=aS (Kd.bf ho0 (ay ar));replace HB:=aM hb;(try clear hb);(try clear hk);(try clear hi);(try clear ho0);obtain ⟨Ao6,co6,eo6⟩:=Kd.bq HO342.out;subst eo6));try go_wp2_with (first | (go_at_call 71;(with_reducible refine (bw.calls k _ _ l0 t338 t339 true _ ?side1 ?side2 A2.out).mono ?_);(case side1=>exact eN HR0.out);(case side2=>exact HC0.out);rintro e w5 ⟨v341,rfl,ho0,hb⟩;have HO342:=aS (Kd.bf ho0 (ay ar));replace HB:=aM hb;(try clear hb);(try clear hk);(try clear hi);(try clear ho0);obtain ⟨Ao6,co6,eo6⟩:=Kd.bq HO342.out;subst eo6)))
   go_ret3
   exact ⟨_,dN,Kd.lu (by first | exact Kd.dX _ _ _ _ _ | exact Kd.gy _ _ _ _ _ | exact Kd.fN _ _ _ _ _ | exact Kd.gB _ _ _ _ _ | exact Kd.gA _ _ _ _ _),ar⟩
  ·
   rw [if_neg c4] at H;have c4b0:decide ((t339.length:Int)<t338)=false:=decide_eq_false c4;clear c4
   by_cases c7:0≤t338
   ·
    rw [if_pos c7] at H;have c7b0:=eq_true c7;have c7b1:decide (0≤t338)=true:=decide_eq_true c7;clear c7
    by_cases c8:t338≤(t339.length:Int)
    ·
     rw [if_pos c8] at H;have c8b0:=eq_true c8;have c8b1:decide (t338≤(t339.length:Int))=true:=decide_eq_true c8;clear c8
     obtain ⟨y343,hy343⟩:∃ y_:List Int,y_=(t339.take (t338:Int).toNat):=⟨_,rfl⟩
     (first | replace H:=j8 hy343 H | rw [←hy343] at H);have Ny343:=aS hy343;clear hy343;have c9b0:=eq_true (cG:t338≤(t339.length:Int))
     obtain ⟨y347,hy347⟩:∃ y_:List Int,y_=(t339.drop (t338:Int).toNat):=⟨_,rfl⟩
     replace H:(some (strOfNums y343,y347,true))=some (r1,r2,r3):=pE hy347 H;have Ny347:=aS hy347;clear hy347
     simp only [Option.some.injEq,Prod.mk.injEq] at H
     obtain ⟨rfl,rfl,rfl⟩:=H
     go_enter Tryz.func105,Tryz.ntmps105
     go_wp2_with (first | (go_at_call 71;(with_reducible refine (bw.calls k _ _ l0 t338 t339 true _ ?side1 ?side2 A2.out).mono ?_);(case side1=>exact eN HR0.out);(case side2=>exact HC0.out);rintro e w10 ⟨v341,rfl,ho0,hb⟩;have HO342:=aS (Kd.bf ho0 (ay ar));replace HB:=aM hb;(try clear hb);(try clear hk);(try clear hi);(try clear ho0);obtain ⟨Ao11,co11,eo11⟩:=Kd.bq HO342.out;subst eo11;have q12:(t338:Int)≤((t339.length:Int):Int):=cG;obtain ⟨i012,hi012,_,hsz12,_⟩:=info_parts fE;have hroom12:t339.length≤co11:=(Kd.bh HO342.out).2.1;have hC12:Kd.C (Kd.int .u8) _ Ao11 t339.length t339:=(Kd.bh HO342.out).2.2;have hcut12:=jR (P:=Tryz.prog) 51 5 .i64 Tryz.underlying51 hi012 Ao11 t339.length co11 t338 (cG) q12 hroom12;have hr12:=Kd.oT (m:=(t338:Int).toNat) hC12 (by omega);have hy12:y343.length=(t338:Int).toNat:=(by rw [Ny343.out,kX];omega);rw [←Ny343.out] at hr12;rw [←hy12] at hcut12;have HR346:=aS hr12;have HC346:=aS (show y343.length≤co11 from by omega);clear hr12 hC12 hroom12 hi012 hsz12;have KY12:=aS hy12;clear hy12;have KL12:=aS (show (t338:Int).toNat≤t339.length from by omega);replace q12:=eq_true q12;have hcv13:=Kd.j3 (P:=Tryz.prog) (A:=Ao11) (c:=co11) Tryz.underlying51 Tryz.underlying5 Tryz.underlying9 (by repeat (first | (with_reducible exact HR346.out) | (with_reducible refine Kd.nC ?_ _) | (with_reducible refine Kd.jL ?_ _) | (with_reducible refine Kd.nX ?_) | exact HR346.out));have hcv14:=fun (m_:Nat)=>Kd.j3 (P:=Tryz.prog) (A:=Ao11) (c:=co11) Tryz.underlying51 Tryz.underlying5 Tryz.underlying9 (Kd.jL ((by repeat (first | (with_reducible exact HR346.out) | (with_reducible refine Kd.nC ?_ _) | (with_reducible refine Kd.jL ?_ _) | (with_reducible refine Kd.nX ?_) | exact HR346.out))) m_);have q15:(t338:Int)≤((t339.length:Int):Int):=cG;obtain ⟨i015,hi015,_,hsz15,_⟩:=info_parts fE;have hcut15:=gG (P:=Tryz.prog) 51 5 .i64 Tryz.underlying51 hi015 1 hsz15 Ao11 t339.length co11 t338 (cG) q15;have hr15:=Kd.tT (k:=(t338:Int).toNat) (Kd.lu HO342.out) (by omega);obtain ⟨A15,hA15⟩:∃ A1_,A1_=(if co11=(t338:Int).toNat then Ao11 else (Ao11:Option Addr).map (·.add ((t338:Int).toNat*1))):=⟨_,rfl⟩;obtain ⟨c15,hc15⟩:∃ c1_,c1_=co11 - (t338:Int).toNat:=⟨_,rfl⟩;have hy15:y347.length=t339.length - (t338:Int).toNat:=(by rw [Ny347.out,lY]);rw [←Ny347.out] at hr15;rw [←hy15,← hA15,← hc15] at hcut15;replace hr15:Kd.Q (Kd.int .u8) 5 w10 w.heap.size (fun _=>True) (.slice A15 y347.length c15) y347:=(by rw [hA15,hc15,hy15];exact hr15);have HE15:ak ((Value.slice A15 y347.length c15).ownBlock=(.slice Ao11 t339.length co11:Value).ownBlock):=⟨by rw [hA15];split<;>(cases (Ao11:Option Addr)<;>first | rfl | simp [Value.ownBlock,kr])⟩;clear hy15 hi015 hsz15 HO342 hA15 hc15;have HO349:=aS hr15;clear hr15;replace q15:=eq_true q15))
     repeat (go_quiet (first | (go_at_call 71;(with_reducible refine (bw.calls k _ _ l0 t338 t339 true _ ?side1 ?side2 A2.out).mono ?_);(case side1=>exact eN HR0.out);(case side2=>exact HC0.out);rintro e w10 ⟨v341,rfl,ho0,hb⟩;have HO342:=aS (Kd.bf ho0 (ay ar));replace HB:=aM hb;(try clear hb);(try clear hk);(try clear hi);(try clear ho0);obtain ⟨Ao11,co11,eo11⟩:=Kd.bq HO342.out;subst eo11;have q12:(t338:Int)≤((t339.length:Int):Int):=cG;obtain ⟨i012,hi012,_,hsz12,_⟩:=info_parts fE;have hroom12:t339.length≤co11:=(Kd.bh HO342.out).2.1;have hC12:Kd.C (Kd.int .u8) _ Ao11 t339.length t339:=(Kd.bh HO342.out).2.2;have hcut12:=jR (P:=Tryz.prog) 51 5 .i64 Tryz.underlying51 hi012 Ao11 t339.length co11 t338 (cG) q12 hroom12;have hr12:=Kd.oT (m:=(t338:Int).toNat) hC12 (by omega);have hy12:y343.length=(t338:Int).toNat:=(by rw [Ny343.out,kX];omega);rw [←Ny343.out] at hr12;rw [←hy12] at hcut12;have HR346:=aS hr12;have HC346:=aS (show y343.length≤co11 from by omega);clear hr12 hC12 hroom12 hi012 hsz12;have KY12:=aS hy12;clear hy12;have KL12:=aS (show (t338:Int).toNat≤t339.length from by omega);replace q12:=eq_true q12;have hcv13:=Kd.j3 (P:=Tryz.prog) (A:=Ao11) (c:=co11) Tryz.underlying51 Tryz.underlying5 Tryz.underlying9 (by repeat (first | (with_reducible exact HR346.out) | (with_reducible refine Kd.nC ?_ _) | (with_reducible refine Kd.jL ?_ _) | (with_reducible refine Kd.nX ?_) | exact HR346.out));have hcv14:=fun (m_:Nat)=>Kd.j3 (P:=Tryz.prog) (A:=Ao11) (c:=co11) Tryz.underlying51 Tryz.underlying5 Tryz.underlying9 (Kd.jL ((by repeat (first | (with_reducible exact HR346.out) | (with_reducible refine Kd.nC ?_ _) | (with_reducible refine Kd.jL ?_ _) | (with_reducible refine Kd.nX ?_) | exact HR346.out))) m_);have q15:(t338:Int)≤((t339.length:Int):Int):=cG;obtain ⟨i015,hi015,_,hsz15,_⟩:=info_parts fE;have hcut15:=gG (P:=Tryz.prog) 51 5 .i64 Tryz.underlying51 hi015 1 hsz15 Ao11 t339.length co11 t338 (cG) q15;have hr15:=Kd.tT (k:=(t338:Int).toNat) (Kd.lu HO342.out) (by omega);obtain ⟨A15,hA15⟩:∃ A1_,A1_=(if co11=(t338:Int).toNat then Ao11 else (Ao11:Option Addr).map (·.add ((t338:Int).toNat*1))):=⟨_,rfl⟩;obtain ⟨c15,hc15⟩:∃ c1_,c1_=co11 - (t338:Int).toNat:=⟨_,rfl⟩;have hy15:y347.length=t339.length - (t338:Int).toNat:=(by rw [Ny347.out,lY]);rw [←Ny347.out] at hr15;rw [←hy15,← hA15,← hc15] at hcut15;replace hr15:Kd.Q (Kd.int .u8) 5 w10 w.heap.size (fun _=>True) (.slice A15 y347.length c15) y347:=(by rw [hA15,hc15,hy15];exact hr15);have HE15:ak ((Value.slice A15 y347.length c15).ownBlock=(.slice Ao11 t339.length co11:Value).ownBlock):=⟨by rw [hA15];split<;>(cases (Ao11:Option Addr)<;>first | rfl | simp [Value.ownBlock,kr])⟩;clear hy15 hi015 hsz15 HO342 hA15 hc15;have HO349:=aS hr15;clear hr15;replace q15:=eq_true q15));try go_wp2_with (first | (go_at_call 71;(with_reducible refine (bw.calls k _ _ l0 t338 t339 true _ ?side1 ?side2 A2.out).mono ?_);(case side1=>exact eN HR0.out);(case side2=>exact HC0.out);rintro e w10 ⟨v341,rfl,ho0,hb⟩;have HO342:=aS (Kd.bf ho0 (ay ar));replace HB:=aM hb;(try clear hb);(try clear hk);(try clear hi);(try clear ho0);obtain ⟨Ao11,co11,eo11⟩:=Kd.bq HO342.out;subst eo11;have q12:(t338:Int)≤((t339.length:Int):Int):=cG;obtain ⟨i012,hi012,_,hsz12,_⟩:=info_parts fE;have hroom12:t339.length≤co11:=(Kd.bh HO342.out).2.1;have hC12:Kd.C (Kd.int .u8) _ Ao11 t339.length t339:=(Kd.bh HO342.out).2.2;have hcut12:=jR (P:=Tryz.prog) 51 5 .i64 Tryz.underlying51 hi012 Ao11 t339.length co11 t338 (cG) q12 hroom12;have hr12:=Kd.oT (m:=(t338:Int).toNat) hC12 (by omega);have hy12:y343.length=(t338:Int).toNat:=(by rw [Ny343.out,kX];omega);rw [←Ny343.out] at hr12;rw [←hy12] at hcut12;have HR346:=aS hr12;have HC346:=aS (show y343.length≤co11 from by omega);clear hr12 hC12 hroom12 hi012 hsz12;have KY12:=aS hy12;clear hy12;have KL12:=aS (show (t338:Int).toNat≤t339.length from by omega);replace q12:=eq_true q12;have hcv13:=Kd.j3 (P:=Tryz.prog) (A:=Ao11) (c:=co11) Tryz.underlying51 Tryz.underlying5 Tryz.underlying9 (by repeat (first | (with_reducible exact HR346.out) | (with_reducible refine Kd.nC ?_ _) | (with_reducible refine Kd.jL ?_ _) | (with_reducible refine Kd.nX ?_) | exact HR346.out));have hcv14:=fun (m_:Nat)=>Kd.j3 (P:=Tryz.prog) (A:=Ao11) (c:=co11) Tryz.underlying51 Tryz.underlying5 Tryz.underlying9 (Kd.jL ((by repeat (first | (with_reducible exact HR346.out) | (with_reducible refine Kd.nC ?_ _) | (with_reducible refine Kd.jL ?_ _) | (with_reducible refine Kd.nX ?_) | exact HR346.out))) m_);have q15:(t338:Int)≤((t339.length:Int):Int):=cG;obtain ⟨i015,hi015,_,hsz15,_⟩:=info_parts fE;have hcut15:=gG (P:=Tryz.prog) 51 5 .i64 Tryz.underlying51 hi015 1 hsz15 Ao11 t339.length co11 t338 (cG) q15;have hr15:=Kd.tT (k:=(t338:Int).toNat) (Kd.lu HO342.out) (by omega);obtain ⟨A15,hA15⟩:∃ A1_,A1_=(if co11=(t338:Int).toNat then Ao11 else (Ao11:Option Addr).map (·.add ((t338:Int).toNat*1))):=⟨_,rfl⟩;obtain ⟨c15,hc15⟩:∃ c1_,c1_=co11 - (t338:Int).toNat:=⟨_,rfl⟩;have hy15:y347.length=t339.length - (t338:Int).toNat:=(by rw [Ny347.out,lY]);rw [←Ny347.out] at hr15;rw [←hy15,← hA15,← hc15] at hcut15;replace hr15:Kd.Q (Kd.int .u8) 5 w10 w.heap.size (fun _=>True) (.slice A15 y347.length c15) y347:=(by rw [hA15,hc15,hy15];exact hr15);have HE15:ak ((Value.slice A15 y347.length c15).ownBlock=(.slice Ao11 t339.length co11:Value).ownBlock):=⟨by rw [hA15];split<;>(cases (Ao11:Option Addr)<;>first | rfl | simp [Value.ownBlock,kr])⟩;clear hy15 hi015 hsz15 HO342 hA15 hc15;have HO349:=aS hr15;clear hr15;replace q15:=eq_true q15)))
     go_ret3
     exact ⟨_,dN,by (with_reducible repeat (first | apply Kd.d7 | apply Kd.d6 | apply Kd.eE));exact HO349.out,ar⟩
    ·
     rw [if_neg c8] at H;exact absurd H (by simp)
   ·
    rw [if_neg c7] at H;exact absurd H (by simp)
 ·
  replace c3:=Bool.eq_false_iff.mpr c3;subst c3
  replace H:=jO H
  simp only [Option.some.injEq,Prod.mk.injEq] at H
  obtain ⟨rfl,rfl,rfl⟩:=H
  go_enter Tryz.func105,Tryz.ntmps105
  go_wp2_with (first | (go_at_call 71;(with_reducible refine (bw.calls k _ _ l0 t338 t339 false _ ?side1 ?side2 A2.out).mono ?_);(case side1=>exact eN HR0.out);(case side2=>exact HC0.out);rintro e w16 ⟨v341,rfl,ho0,hb⟩;have HO342:=aS (Kd.bf ho0 (ay ar));replace HB:=aM hb;(try clear hb);(try clear hk);(try clear hi);(try clear ho0)))
  repeat (go_quiet (first | (go_at_call 71;(with_reducible refine (bw.calls k _ _ l0 t338 t339 false _ ?side1 ?side2 A2.out).mono ?_);(case side1=>exact eN HR0.out);(case side2=>exact HC0.out);rintro e w16 ⟨v341,rfl,ho0,hb⟩;have HO342:=aS (Kd.bf ho0 (ay ar));replace HB:=aM hb;(try clear hb);(try clear hk);(try clear hi);(try clear ho0)));try go_wp2_with (first | (go_at_call 71;(with_reducible refine (bw.calls k _ _ l0 t338 t339 false _ ?side1 ?side2 A2.out).mono ?_);(case side1=>exact eN HR0.out);(case side2=>exact HC0.out);rintro e w16 ⟨v341,rfl,ho0,hb⟩;have HO342:=aS (Kd.bf ho0 (ay ar));replace HB:=aM hb;(try clear hb);(try clear hk);(try clear hi);(try clear ho0))))
  go_ret3
  exact ⟨_,dN,Kd.lu (by first | exact Kd.dX _ _ _ _ _ | exact Kd.gy _ _ _ _ _ | exact Kd.fN _ _ _ _ _ | exact Kd.gB _ _ _ _ _ | exact Kd.gA _ _ _ _ _),ar⟩
end Go.Proofs.YtcbhfedcdnjljaaGreat.X

import Derived.Test.YtcbhfedcdnjljaaGreatXx5
set_option maxHeartbeats 8000000
set_option maxRecDepth 100000
set_option linter.unusedVariables false
set_option linter.unusedSimpArgs false
namespace Go.Proofs.YtcbhfedcdnjljaaGreat.X
open Go.RowKit Go.Proofs.YtcbhfedcdnjljaaGreatW.PrintWords Go.Proofs.YtcbhfedcdnjljaaGreatW.PrintLast Go.Proofs.YtcbhfedcdnjljaaGreatW.PrintMore
attribute [local go_sem] gn gu iu ic fJ fN gA gC ig
def aW.l0:Nat→List Int→List Int→Int→Int→Option (Bool)
 | 0,_,_,_,_=>none
 | k+1,x0,x1,x12,x13=>if x13<x12 then (if 0≤x13 then (if x13<(x0.length:Int) then (if x13<(x1.length:Int) then (if (rd x0 x13)=(rd x1 x13) then (aW.l0 k x0 x1 x12 (wrap64 (x13+1))) else (some false)) else (none)) else (none)) else (none)) else (some true)
def aW.f (k:Nat) (l0:List Int) (l1:List Int):Option (Bool):=if (l0.length:Int)=(l1.length:Int) then (aW.l0 k l0 l1 (l0.length:Int) 0) else (some false)
theorem aW.cK:∀ k,(∀ y0 y1 y2 y3,aG (aW.l0 k y0 y1 y2 y3) (aW.l0 (k+1) y0 y1 y2 y3))
 | 0=>fun _ _ _ _ r h=>by simp [aW.l0] at h
 | k+1=>by
  have ih0:=aW.cK k
  ·
   intro y0 y1 y2 y3
   unfold aW.l0
   exact eN
theorem aW.mono:∀ a0 a1 k,aG (aW.f k a0 a1) (aW.f (k+1) a0 a1):=by
 intro a0 a1 k
 have ih0:=aW.cK k
 unfold aW.f
 exact eN
theorem aW.calls (k:Nat) (A0:Option Addr) (c0:Nat) (l0:List Int) (A1:Option Addr) (c1:Nat) (l1:List Int) (r:Bool) (w:World) (hr0:Kd.C (Kd.int .u8) w A0 l0.length l0) (hc0:l0.length≤c0) (hr1:Kd.C (Kd.int .u8) w A1 l1.length l1) (hc1:l1.length≤c1) (h:aW.f k l0 l1=some r) :
  Calls Tryz.prog 75 #[.slice A0 l0.length c0,.slice A1 l1.length c1] w fun e w'=>e = .returned (.bool r)∧bw w w':=by
 have HR0:=aS hr0;have HC0:=aS hc0;clear hr0 hc0;have HR1:=aS hr1;have HC1:=aS hc1;clear hr1 hc1;have H:(if (l0.length:Int)=(l1.length:Int) then (aW.l0 k l0 l1 (l0.length:Int) 0) else (some false))=some r:=h;clear h
 by_cases c3:(l0.length:Int)=(l1.length:Int)
 ·
  rw [if_pos c3] at H;obtain ⟨c3b0,c3b1⟩:=jG c3
  have c3b2:(l0.length == l1.length)=true:=by first | simpa using c3 | (simp at c3 ⊢;omega)
  clear c3
  have H':=aS H
  clear H
  go_enter Tryz.func75,Tryz.ntmps75
  go_wp2
  repeat (go_quiet (fail);try go_wp2)
  go_loopg [13] k (fun kq v13 w'=>∃ (x13_1:Int),v13 = .int .i64 x13_1∧ah (aW.l0 kq l0 l1 (l0.length:Int) x13_1=some r)∧ah (kq≤k)∧bw w w')
  case atStart=>exact ⟨(0),dJ,H',⟨Nat.le_refl _⟩,by repeat (first | exact bw.refl _ | apply bw.step)⟩
  case round=>
   clear H';(try clear c1);(try clear c3);(try clear c3b0);(try clear c3b1);(try clear c3b2);obtain ⟨x13_1,rfl,HA,HK1,⟨m1,rfl⟩⟩:=hrel
   cases gk with
   | zero=>exact absurd HA.out (by simp [aW.l0])
   | succ k1=>
    have H:=HA.out;clear HA
    simp only [aW.l0] at H
    by_cases c4:x13_1<(l0.length:Int)
    ·
     rw [if_pos c4] at H;have c4b0:decide (x13_1<(l0.length:Int))=true:=decide_eq_true c4;clear c4
     by_cases c5:0≤x13_1
     ·
      rw [if_pos c5] at H;have c5b0:decide (0≤x13_1)=true:=decide_eq_true c5;clear c5
      by_cases c6:x13_1<(l0.length:Int)
      ·
       rw [if_pos c6] at H;have c6b0:decide (x13_1<(l0.length:Int))=true:=decide_eq_true c6;clear c6
       by_cases c7:x13_1<(l1.length:Int)
       ·
        rw [if_pos c7] at H;have c7b0:decide (x13_1<(l1.length:Int))=true:=decide_eq_true c7;clear c7
        by_cases c8:(rd l0 x13_1)=(rd l1 x13_1)
        ·
         rw [if_pos c8] at H;obtain ⟨c8b0,c8b1⟩:=jG c8;clear c8
         have H':=aS H
         clear H;have p285:0≤(x13_1:Int):=cr;have q285:x13_1<(l0.length:Int):=cr;obtain ⟨ad285,e285,hx285_0⟩:=Kd.jc HR0.out x13_1 p285 q285;cases e285;replace p285:=eq_true p285;replace q285:=eq_true q285;have p286:0≤(x13_1:Int):=cr;have q286:x13_1<(l1.length:Int):=cr;obtain ⟨ad286,e286,hx286_0⟩:=Kd.jc HR1.out x13_1 p286 q286;cases e286;replace p286:=eq_true p286;replace q286:=eq_true q286
         go_wp2
         repeat (go_quiet (fail);try go_wp2)
         go_roundg k1
         case measure=>have:=HK1.out;omega
         case rel=>exact ⟨(wrap64 (x13_1+1)),dJ,H',⟨by have:=HK1.out;omega⟩,by repeat (first | exact bw.refl _ | apply bw.step)⟩
        ·
         rw [if_neg c8] at H;obtain ⟨c8b0,c8b1⟩:=jr c8
         obtain rfl:=Option.some.inj H
         have p285:0≤(x13_1:Int):=cr;have q285:x13_1<(l0.length:Int):=cr;obtain ⟨ad285,e285,hx285_0⟩:=Kd.jc HR0.out x13_1 p285 q285;cases e285;replace p285:=eq_true p285;replace q285:=eq_true q285;have p286:0≤(x13_1:Int):=cr;have q286:x13_1<(l1.length:Int):=cr;obtain ⟨ad286,e286,hx286_0⟩:=Kd.jc HR1.out x13_1 p286 q286;cases e286;replace p286:=eq_true p286;replace q286:=eq_true q286
         go_wp2
         repeat (go_quiet (fail);try go_wp2)
         go_ret
         exact ⟨by first | rfl | (simp;done) | (simp [*];done) | (simp;exact (by decide:∀ a_ b_:Bool,(a_ == b_)=(!a_ != b_)) _ _),by repeat (first | exact bw.refl _ | apply bw.step)⟩
       ·
        rw [if_neg c7] at H;exact absurd H (by simp)
      ·
       rw [if_neg c6] at H;exact absurd H (by simp)
     ·
      rw [if_neg c5] at H;exact absurd H (by simp)
    ·
     rw [if_neg c4] at H;have c4b0:decide (x13_1<(l0.length:Int))=false:=decide_eq_false c4;clear c4
     obtain rfl:=Option.some.inj H
     go_wp2
     repeat (go_quiet (fail);try go_wp2)
     go_ret
     exact ⟨by first | rfl | (simp;done) | (simp [*];done) | (simp;exact (by decide:∀ a_ b_:Bool,(a_ == b_)=(!a_ != b_)) _ _),by repeat (first | exact bw.refl _ | apply bw.step)⟩
 ·
  rw [if_neg c3] at H;obtain ⟨c3b0,c3b1⟩:=jr c3
  have c3b2:(l0.length == l1.length)=false:=by first | simpa using c3 | (simp at c3 ⊢;omega)
  obtain rfl:=Option.some.inj H
  go_enter Tryz.func75,Tryz.ntmps75
  go_wp2
  repeat (go_quiet (fail);try go_wp2)
  go_ret
  exact ⟨by first | rfl | (simp;done) | (simp [*];done) | (simp;exact (by decide:∀ a_ b_:Bool,(a_ == b_)=(!a_ != b_)) _ _),by repeat (first | exact bw.refl _ | apply bw.step)⟩
def ck.j0:Nat→Int→List Int→Bool→Option (List Int × List Int × Bool)
 | 0,_,_,_=>none
 | k+1,x5,x8,x45=>if x45=true then (some (([]:List Int),([]:List Int),false)) else (if 0≤x5 then (if x5≤(x8.length:Int) then (some ((x8.take (x5:Int).toNat),(x8.drop (x5:Int).toNat),true)) else (none)) else (none))
def ck.f (k:Nat) (l0:List Int):Option (List Int × List Int × Bool):=if (l0.length:Int)<12 then (some (([]:List Int),([]:List Int),false)) else ((br.f k l0).bind fun bt287=>(if 12≤(l0.length:Int) then ((dI.f (l0.drop 12)).bind fun t297=>(if bt287.1 > 65535 then (ck.j0 k bt287.1 t297 true) else (if bt287.1 > (t297.length:Int) then (ck.j0 k bt287.1 t297 true) else (if 4≤(l0.length:Int) then ((some (l0.take 4:List Int)).bind fun y305=>((eD.f k y305).bind fun t310=>(if 0≤bt287.1 then (if bt287.1≤(t297.length:Int) then ((eD.f k (t297.take (bt287.1:Int).toNat)).bind fun t318=>((cA.f (([y305,t310,t318]:List (List Int)))).bind fun t324=>((aW.f k (l0.take 12) t324).bind fun t327=>(ck.j0 k bt287.1 t297 (!t327))))) else (none)) else (none)))) else (none))))) else (none)))
theorem ck.cK:∀ k,(∀ y0 y1 y2,aG (ck.j0 k y0 y1 y2) (ck.j0 (k+1) y0 y1 y2))
 | 0=>fun _ _ _ r h=>by simp [ck.j0] at h
 | k+1=>by
  have ih0:=ck.cK k
  ·
   intro y0 y1 y2
   unfold ck.j0
   have m0:=@eD.mono;have m1:=@aW.mono;have m2:=@br.mono;exact eN
theorem ck.mono:∀ a0 k,aG (ck.f k a0) (ck.f (k+1) a0):=by
 intro a0 k
 have ih0:=ck.cK k
 unfold ck.f
 have m0:=@eD.mono;have m1:=@aW.mono;have m2:=@br.mono;exact eN
def ck.T5:Bool × List (List Nat × List Nat):=(true,[([],[]),([0],[0]),([1],[1]),([2],[2]),([2],[2]),([4,2],[2,4]),([3,5,2],[2,3,5]),([2,6],[2,6]),([7,2],[7]),([8],[8]),([9,8],[8,9]),([8],[8]),([11,8],[8,11]),([8],[8]),([13,8],[8,13]),([14,8,8],[8,14]),([8],[8]),([8],[8]),([16,17,8],[8,16,17]),([18,15,8],[8,18]),([12,15,19,8],[8,12,15,19]),([20,19,8],[8,20]),([10,21,21,8],[8,10,21]),([22,8],[8,22]),([8,23],[8,23])])
def ck.B5:List Nat:=[0,1,3,7,7,23,63,127,255,511,1023,511,2559,511,8703,25087,511,511,197119,516607,1047039,2095615,4194303,8388607,16777215]
theorem ck.n_:e8 .any (opsOf Tryz.f93 5)=ck.T5:=by kernel_rfl
theorem ck.mo:fE ck.T5.2 ck.B5=true:=by kernel_rfl
def ck.T7:Bool × List (List Nat × List Nat):=(true,[([],[]),([],[]),([],[]),([0,1,2],[0,1,2]),([],[]),([],[]),([4,5],[4,5]),([3,0,1,2,3],[3]),([6,7,0,1,2,3,4,5,6,7],[6]),([8,0,1,2,3,4,5,6,7,8],[])])
def ck.B7:List Nat:=[0,0,0,7,0,0,48,15,255,511]
theorem ck.zT:e8 .any (opsOf Tryz.f93 7)=ck.T7:=by kernel_rfl
theorem ck.wk:fE ck.T7.2 ck.B7=true:=by kernel_rfl
theorem ck.calls (k:Nat) (P0_:Nat→Prop) (A0:Option Addr) (c0:Nat) (l0:List Int) (r1:List Int) (r2:List Int) (r3:Bool) (w:World) (hs0:Kd.V (Kd.int .u8) 5 w w.heap.size (fun k_=>P0_ k_) (.slice A0 l0.length c0) l0) (h:ck.f k l0=some (r1,r2,r3)) :
  Calls Tryz.prog 93 #[.slice A0 l0.length c0] w fun e w'=>∃ v0_ v1_:Value,e = .returned (.tuple #[v0_,v1_,.bool r3])∧Kd.V (Kd.int .u8) 5 w' w.heap.size (fun k_=>(P0_ k_∨w.heap.size≤k_)) v0_ r1∧Kd.V (Kd.int .u8) 5 w' w.heap.size (fun k_=>(P0_ k_∨w.heap.size≤k_)) v1_ r2∧Below w.heap.size w w':=by
 have HO0:=aS (show Kd.V (Kd.int .u8) 5 w w.heap.size (fun k_=>(P0_ k_∨w.heap.size≤k_)) (.slice A0 l0.length c0) l0 from Kd.eC hs0 (fun k_ hk=>.inl hk));have HB:=aS (Below.refl w.heap.size w);have H:(if (l0.length:Int)<12 then (some (([]:List Int),([]:List Int),false)) else ((br.f k l0).bind fun bt287=>(if 12≤(l0.length:Int) then ((dI.f (l0.drop 12)).bind fun t297=>(if bt287.1 > 65535 then (ck.j0 k bt287.1 t297 true) else (if bt287.1 > (t297.length:Int) then (ck.j0 k bt287.1 t297 true) else (if 4≤(l0.length:Int) then ((some (l0.take 4:List Int)).bind fun y305=>((eD.f k y305).bind fun t310=>(if 0≤bt287.1 then (if bt287.1≤(t297.length:Int) then ((eD.f k (t297.take (bt287.1:Int).toNat)).bind fun t318=>((cA.f (([y305,t310,t318]:List (List Int)))).bind fun t324=>((aW.f k (l0.take 12) t324).bind fun t327=>(ck.j0 k bt287.1 t297 (!t327))))) else (none)) else (none)))) else (none))))) else (none))))=some (r1,r2,r3):=h;clear h
 by_cases c2:(l0.length:Int)<12
 ·
  rw [if_pos c2] at H;have c2b0:decide ((l0.length:Int)<12)=true:=decide_eq_true c2;have c2b1:decide (l0.length<12)=true:=decide_eq_true (by omega);clear c2
  simp only [Option.some.injEq,Prod.mk.injEq] at H
  obtain ⟨rfl,rfl,rfl⟩:=H
  go_enter Tryz.func93,Tryz.ntmps93
  go_wp2
  go_ret3
  exact ⟨_,_,dR,Kd.fO _ _ _ _ _,Kd.fO _ _ _ _ _,aq⟩
 ·
  rw [if_neg c2] at H;have c2b0:decide ((l0.length:Int)<12)=false:=decide_eq_false c2;have c2b1:decide (l0.length<12)=false:=decide_eq_false (by omega);clear c2;replace H:=cD H;obtain ⟨⟨t287,t288,t289⟩,A30,H⟩:=H;(try dsimp only at H);have A3:=aS A30;clear A30
  by_cases c4:12≤(l0.length:Int)
  ·
   rw [if_pos c4] at H;have c4b0:=eq_true c4;have c4b1:decide (12≤(l0.length:Int))=true:=decide_eq_true c4;clear c4
   obtain ⟨y292,hy292⟩:∃ y_:List Int,y_=(l0.drop 12):=⟨_,rfl⟩
   (first | replace H:=jZ hy292 H | rw [←hy292] at H);have Ny292:=aS hy292;clear hy292;replace H:=cD H;obtain ⟨t297,A50,H⟩:=H;have A5:=aS A50;clear A50;have HC6:=aS H;clear H
   go_enter Tryz.func93,Tryz.ntmps93
   go_upto_region 5 with (first | ((with_reducible refine aC (f:=71) rfl ?_);refine bE (some 14) rfl rfl Tryz.func71 (by kernel_rfl) rfl #[.slice A0 l0.length c0] rfl cH ?_;(with_reducible refine (br.calls k _ _ l0 t287 t288 t289 _ ?side1 ?side2 A3.out).mono ?_);(case side1=>exact eM ((Kd.dN HO0.out).2.2));(case side2=>exact (Kd.dN HO0.out).2.1);rintro e w7 ⟨v290,rfl,ho0,hb⟩;refine ⟨_,rfl,?_⟩;replace HO0:=aS (Kd.dw (sel HO0.out) (dr ho0) hb);have HO291:=aS (Kd.bh (Kd.j6 (M:=fun k_=>(w.heap.size≤k_)) ho0 (aA aq) (fun k_ h_=>h_)) (aA aq));replace HB:=aM hb;(try clear hb);(try clear hk);(try clear hi);(try clear ho0);have q8:(12:Int)≤((l0.length:Int):Int):=cr;obtain ⟨i08,hi08,_,hsz8,_⟩:=info_parts gJ;have hroom8:l0.length≤c0:=(Kd.dN HO0.out).2.1;have hC8:Kd.F (Kd.int .u8) _ _ A0 l0.length l0:=(Kd.om (base:=w.heap.size) HO0.out).2.2;have hcut8:=fY (P:=Tryz.prog) 51 5 .i64 Tryz.underlying51 hi08 1 hsz8 A0 l0.length c0 12 (by omega) q8;have hr8:=Kd.zV (m:=(12:Int).toNat) (c:=c0) hC8 (by omega) hroom8;obtain ⟨A8,hA8⟩:∃ A1_,A1_=(if c0=(12:Int).toNat then A0 else (A0:Option Addr).map (·.add ((12:Int).toNat*1))):=⟨_,rfl⟩;obtain ⟨c8,hc8⟩:∃ c1_,c1_=c0 - (12:Int).toNat:=⟨_,rfl⟩;have hy8:y292.length=l0.length - (12:Int).toNat:=(by rw [Ny292.out,lV]<;>omega);rw [show (l0).drop (12:Int).toNat=y292 from Ny292.out.symm] at hr8;replace hr8:Kd.F (Kd.int .u8) _ _ A8 y292.length y292:=(by rw [hA8];exact hr8);rw [←hy8,← hA8,← hc8] at hcut8;have HO296:=aS (show Kd.V (Kd.int .u8) 5 _ w.heap.size _ (.slice A8 y292.length c8) y292 from Kd.ni (by rw [hy8,hc8];exact Nat.sub_le_sub_right hroom8 _) hr8);have HC296:=aS (show y292.length≤c8 from by rw [hy8,hc8];exact Nat.sub_le_sub_right hroom8 _);clear hr8 hC8 hroom8 hi08 hsz8 hc8;have KY8:=aS hy8;have KA8:=aS hA8;clear hy8 hA8;replace q8:=eq_true q8) | ((with_reducible refine aC (f:=92) rfl ?_);refine bE (some 20) rfl rfl Tryz.func92 (by kernel_rfl) rfl #[.slice A8 y292.length c8] rfl cH ?_;(with_reducible refine (dI.calls _ _ y292 t297 _ ?side1 ?side2 A5.out).mono ?_);(case side1=>exact eM ((Kd.dN HO296.out).2.2));(case side2=>exact (Kd.dN HO296.out).2.1);rintro e w9 ⟨v298,rfl,ho0,hb⟩;refine ⟨_,rfl,?_⟩;replace HO0:=aS (Kd.dw (sel HO0.out) (dr ho0) hb);replace HO296:=aS (Kd.dw (sel HO296.out) (dr ho0) hb);have HO299:=aS (Kd.bh (Kd.cJ (Kd.j6 (M:=fun k_=>(w.heap.size≤k_)) ho0 (aA aq) (fun k_ h_=>h_)) (Kd.cN (rel HO291.out))) (aA aq));replace HO291:=aS (Kd.bR (rel HO291.out) (dr ho0) hb);replace HB:=aM hb;(try clear hb);(try clear hk);(try clear hi);(try clear ho0)))
   (try simp only [Act.put,dn,dm,lss])
   go_cut [45] (fun v45 wc=>∃ (kq:Nat) (x45_5:Bool),v45 = .bool x45_5∧ah (ck.j0 kq t287 t297 x45_5=some (r1,r2,r3))∧ah (kq≤k)∧ah (Kd.R (Kd.int .u8) 5 wc w.heap.size (fun k_=>(w.heap.size≤k_)) v298 t297)∧ah (Below w.heap.size w wc))
   case first=>
    have H:=HC6.out;clear HC6
    by_cases eU:t287 > 65535
    ·
     rw [if_pos eU] at H;have c10b0:decide (65535<t287)=true:=decide_eq_true eU;clear eU
     (first | rw [c10b0] | (simp only [bB,bX];rw [c10b0]) | skip)
     have H':=aS H
     clear H
     try go_wp2
     replace HO0:=aS (Kd.eW HO0.out);replace HO291:=aS (Kd.bH HO291.out);replace HO296:=aS (Kd.eW HO296.out);replace HO299:=aS (Kd.bH HO299.out);replace HB:=aS (jE HB.out);refine dA (n:=25) (S:=fun w'=>True) (ds:=[]) (bA 25 0) (by kernel_rfl) rfl rfl trivial (fun hHeld=>?_);refine cI ck.n_ ck.mo (fun HT_ HW_=>?_)
     generalize w9.drew=w11 at HO0 HO291 HO296 HO299 HB hHeld ⊢
     refine aY [(0,21),(1,22),(2,23),(3,24),(4,25),(5,26),(6,27),(7,28),(8,29),(9,30),(10,31),(11,32),(12,33),(13,34),(14,35),(15,36),(16,37),(17,38),(18,39),(19,40),(20,41),(21,42),(22,43),(23,44),(24,45)] ?_
     iterate 25 (first | (refine nJ HT_ ?_) | (refine cw HT_ ?_))
     refine bU (bA 25 33554431) (by kernel_rfl) ?_;refine dQ (cY HT_.out (by kernel_rfl)) ?_
     try go_wp2
     go_meet
     case rel=>exact ⟨_,(true),dJ,H',⟨by first | omega | exact Nat.le_refl _⟩,⟨by (with_reducible repeat (first | apply Kd.bF | apply Kd.bG | apply Kd.bH));exact Kd.aE HO299.out (fun _ hk=>hk.1.1)⟩,⟨aq⟩⟩
    ·
     rw [if_neg eU] at H;have c10b0:decide (65535<t287)=false:=decide_eq_false eU;clear eU
     (first | rw [c10b0] | (simp only [bB,bX];rw [c10b0]) | skip)
     by_cases c12:t287 > (t297.length:Int)
     ·
      rw [if_pos c12] at H;have c12b0:decide ((t297.length:Int)<t287)=true:=decide_eq_true c12;clear c12
      have H':=aS H
      clear H
      try go_wp2
      replace HO0:=aS (Kd.eW HO0.out);replace HO291:=aS (Kd.bH HO291.out);replace HO296:=aS (Kd.eW HO296.out);replace HO299:=aS (Kd.bH HO299.out);replace HB:=aS (jE HB.out);obtain ⟨Ao14,co14,eo14⟩:=Kd.bn HO299.out
      (first | subst eo14 | (injection eo14 with f1_ f2_ f3_;have f4_:=f1_.symm;have f5_:=f3_.symm;clear f1_ f2_ f3_;subst f4_;subst f5_))
      refine dA (n:=25) (S:=fun w'=>True) (ds:=[]) (bA 25 0) (by kernel_rfl) rfl rfl trivial (fun hHeld=>?_);refine cI ck.n_ ck.mo (fun HT_ HW_=>?_)
      generalize w9.drew=w13 at HO0 HO291 HO296 HO299 HB hHeld ⊢
      refine aY [(0,21),(1,22),(2,23),(3,24),(4,25),(5,26),(6,27),(7,28),(8,29),(9,30),(10,31),(11,32),(12,33),(13,34),(14,35),(15,36),(16,37),(17,38),(18,39),(19,40),(20,41),(21,42),(22,43),(23,44),(24,45)] ?_
      iterate 25 (first | (refine nJ HT_ ?_) | (refine cw HT_ ?_))
      refine bU (bA 25 33554431) (by kernel_rfl) ?_;refine dQ (cY HT_.out (by kernel_rfl)) ?_
      try go_wp2
      go_meet
      case rel=>exact ⟨_,(true),dJ,H',⟨by first | omega | exact Nat.le_refl _⟩,⟨by (with_reducible repeat (first | apply Kd.bF | apply Kd.bG | apply Kd.bH));exact Kd.aE HO299.out (fun _ hk=>hk.1.1)⟩,⟨aq⟩⟩
     ·
      rw [if_neg c12] at H;have c12b0:decide ((t297.length:Int)<t287)=false:=decide_eq_false c12;clear c12;have c15b0:=eq_true (cr:12≤(l0.length:Int))
      obtain ⟨y300,hy300⟩:∃ y_:List Int,y_=(l0.take 12):=⟨_,rfl⟩
      (first | replace H:=jZ hy300 H | rw [←hy300] at H);have Ny300:=aS hy300;clear hy300
      by_cases c16:4≤(l0.length:Int)
      ·
       rw [if_pos c16] at H;have c16b0:=eq_true c16;have c16b1:decide (4≤(l0.length:Int))=true:=decide_eq_true c16;clear c16
       obtain ⟨y305,hy305⟩:∃ y_:List Int,y_=(l0.take 4):=⟨_,rfl⟩
       (first | replace H:=jZ hy305 H | rw [←hy305] at H);have Ny305:=aS hy305;clear hy305;replace H:=cD H;obtain ⟨t310,A170,H⟩:=H;have A17:=aS A170;clear A170
       by_cases c18:0≤t287
       ·
        rw [if_pos c18] at H;have c18b0:=eq_true c18;have c18b1:decide (0≤t287)=true:=decide_eq_true c18;clear c18
        by_cases c19:t287≤(t297.length:Int)
        ·
         rw [if_pos c19] at H;have c19b0:=eq_true c19;have c19b1:decide (t287≤(t297.length:Int))=true:=decide_eq_true c19;clear c19
         obtain ⟨y313,hy313⟩:∃ y_:List Int,y_=(t297.take (t287:Int).toNat):=⟨_,rfl⟩
         replace H:((eD.f k y313).bind fun t318=>((cA.f (([y305,t310,t318]:List (List Int)))).bind fun t324=>((aW.f k y300 t324).bind fun t327=>(ck.j0 k t287 t297 (!t327)))))=some (r1,r2,r3):=m8 hy313 H;have Ny313:=aS hy313;clear hy313;replace H:=cD H;obtain ⟨t318,A200,H⟩:=H;have A20:=aS A200;clear A200
         obtain ⟨y321,hy321⟩:∃ y_:List (List Int),y_=(([y305,t310,t318]:List (List Int))):=⟨_,rfl⟩
         (first | replace H:=jZ hy321 H | rw [←hy321] at H);have Ny321:=aS hy321;clear hy321;replace H:=cD H;obtain ⟨t324,A210,H⟩:=H;have A21:=aS A210;clear A210;replace H:=cD H;obtain ⟨t327,A220,H⟩:=H;have A22:=aS A220;clear A220
         have H':=aS H
         clear H
         try go_wp2
         replace HO0:=aS (Kd.eW HO0.out);replace HO291:=aS (Kd.bH HO291.out);replace HO296:=aS (Kd.eW HO296.out);replace HO299:=aS (Kd.bH HO299.out);replace HB:=aS (jE HB.out);obtain ⟨Ao24,co24,eo24⟩:=Kd.bn HO299.out
         (first | subst eo24 | (injection eo24 with f1_ f2_ f3_;have f4_:=f1_.symm;have f5_:=f3_.symm;clear f1_ f2_ f3_;subst f4_;subst f5_))
         have q25:(12:Int)≤((l0.length:Int):Int):=cr;obtain ⟨i025,hi025,_,hsz25,_⟩:=info_parts gJ;have hroom25:l0.length≤c0:=(Kd.dN HO0.out).2.1;have hC25:Kd.F (Kd.int .u8) _ _ A0 l0.length l0:=(Kd.om (base:=w.heap.size) HO0.out).2.2;have hcut25:=jv (P:=Tryz.prog) 51 5 .i64 Tryz.underlying51 hi025 A0 l0.length c0 12 (by omega) q25 hroom25;have hr25:=Kd.rY (m:=12) hC25 (by omega);have hy25:y300.length=(12:Int).toNat:=(by rw [Ny300.out,kR];omega);rw [←Ny300.out] at hr25;rw [←hy25] at hcut25;have HO304:=aS (show Kd.V (Kd.int .u8) 5 _ w.heap.size _ (.slice A0 y300.length c0) y300 from Kd.ni (by omega) hr25);have HC304:=aS (show y300.length≤c0 from by omega);clear hr25 hC25 hroom25 hi025 hsz25;have KY25:=aS hy25;clear hy25;replace q25:=eq_true q25;have q26:(4:Int)≤((l0.length:Int):Int):=cr;obtain ⟨i026,hi026,_,hsz26,_⟩:=info_parts gJ;have hroom26:l0.length≤c0:=(Kd.dN HO0.out).2.1;have hC26:Kd.F (Kd.int .u8) _ _ A0 l0.length l0:=(Kd.om (base:=w.heap.size) HO0.out).2.2;have hcut26:=jv (P:=Tryz.prog) 51 5 .i64 Tryz.underlying51 hi026 A0 l0.length c0 4 (by omega) q26 hroom26;have hr26:=Kd.rY (m:=4) hC26 (by omega);have hy26:y305.length=(4:Int).toNat:=(by rw [Ny305.out,kR];omega);rw [←Ny305.out] at hr26;rw [←hy26] at hcut26;have HO309:=aS (show Kd.V (Kd.int .u8) 5 _ w.heap.size _ (.slice A0 y305.length c0) y305 from Kd.ni (by omega) hr26);have HC309:=aS (show y305.length≤c0 from by omega);clear hr26 hC26 hroom26 hi026 hsz26;have KY26:=aS hy26;clear hy26;replace q26:=eq_true q26;have q27:(t287:Int)≤((t297.length:Int):Int):=cr;obtain ⟨i027,hi027,_,hsz27,_⟩:=info_parts gJ;have hroom27:t297.length≤co24:=(Kd.aX HO299.out).2.1;have hC27:Kd.F (Kd.int .u8) _ _ Ao24 t297.length t297:=(Kd.om (base:=w.heap.size) (Kd.eC (ok':=(fun k_=>(((P0_ k_∨w.heap.size≤k_)∧True)∧some k_≠(v290:Value).ownBlock))) (Kd.vL HO299.out) (fun k_ hk=>⟨⟨(.inr (hk.1.1)),trivial⟩,hk.2⟩))).2.2;have hcut27:=jv (P:=Tryz.prog) 51 5 .i64 Tryz.underlying51 hi027 Ao24 t297.length co24 t287 (cr) q27 hroom27;have hr27:=Kd.rY (m:=(t287:Int).toNat) hC27 (by omega);have hy27:y313.length=(t287:Int).toNat:=(by rw [Ny313.out,kR];omega);rw [←Ny313.out] at hr27;rw [←hy27] at hcut27;have HO317:=aS (show Kd.V (Kd.int .u8) 5 _ w.heap.size _ (.slice Ao24 y313.length co24) y313 from Kd.ni (by omega) hr27);have HC317:=aS (show y313.length≤co24 from by omega);clear hr27 hC27 hroom27 hi027 hsz27;have KY27:=aS hy27;clear hy27;replace q27:=eq_true q27;refine dA (n:=25) (S:=fun w'=>True) (ds:=[]) (bA 25 0) (by kernel_rfl) rfl rfl trivial (fun hHeld=>?_);refine cI ck.n_ ck.mo (fun HT_ HW_=>?_)
         generalize w9.drew=w23 at HO0 HO291 HO296 HO299 HB HO304 HO309 HO317 hHeld ⊢
         refine aY [(0,21),(1,22),(2,23),(3,24),(4,25),(5,26),(6,27),(7,28),(8,29),(9,30),(10,31),(11,32),(12,33),(13,34),(14,35),(16,37),(17,38),(18,39)] ?_
         iterate 18 (refine cw HT_ ?_)
         refine bU (bA 25 491519) (by kernel_rfl) ?_;refine dH 15 (N:=some 36) (bA 25 524287) HT_ (fun K hK=>?_);refine eu Tryz.func102 (by kernel_rfl) rfl #[.slice A0 y305.length c0] (by rfl) rfl rfl cH ?_
         with_reducible refine (eD.calls k _ _ y305 t310 _ ?side1 ?side2 A17.out).mono ?_
         (case side1=>exact eM ((Kd.dN HO309.out).2.2))
         (case side2=>exact (Kd.dN HO309.out).2.1)
         rintro e w28 ⟨v311,rfl,ho0,hb⟩
         refine ⟨_,rfl,?_⟩;replace HO0:=aS (Kd.dw (sel HO0.out) (dr ho0) hb);replace HO296:=aS (Kd.dw (sel HO296.out) (dr ho0) hb);replace HO304:=aS (Kd.dw (sel HO304.out) (dr ho0) hb);replace HO309:=aS (Kd.dw (sel HO309.out) (dr ho0) hb);replace HO317:=aS (Kd.dw (sel HO317.out) (dr ho0) hb);have HO312:=aS (Kd.bh (Kd.cJ (Kd.cJ (Kd.j6 (M:=fun k_=>(w.heap.size≤k_)) ho0 (aA aq) (fun k_ h_=>h_)) (Kd.cN (rel HO291.out))) (Kd.cN (rel HO299.out))) (aA aq));replace HO291:=aS (Kd.bR (rel HO291.out) (dr ho0) hb);replace HO299:=aS (Kd.bR (rel HO299.out) (dr ho0) hb);replace HB:=aM hb;(try clear hb);(try clear hk);(try clear hi);(try clear ho0);refine hK.out _ _ trivial (fun hHeld=>?_);clear hK K;refine nm 36 ?_;refine dH 19 (N:=some 40) (bA 25 1048575) HT_ (fun K hK=>?_);refine eu Tryz.func102 (by kernel_rfl) rfl #[.slice Ao24 y313.length co24] (by rfl) rfl rfl cH ?_
         with_reducible refine (eD.calls k _ _ y313 t318 _ ?side1 ?side2 A20.out).mono ?_
         (case side1=>exact eM ((Kd.dN HO317.out).2.2))
         (case side2=>exact (Kd.dN HO317.out).2.1)
         rintro e w29 ⟨v319,rfl,ho0,hb⟩
         refine ⟨_,rfl,?_⟩;replace HO0:=aS (Kd.dw (sel HO0.out) (dr ho0) hb);replace HO296:=aS (Kd.dw (sel HO296.out) (dr ho0) hb);replace HO304:=aS (Kd.dw (sel HO304.out) (dr ho0) hb);replace HO309:=aS (Kd.dw (sel HO309.out) (dr ho0) hb);replace HO317:=aS (Kd.dw (sel HO317.out) (dr ho0) hb);have HO320:=aS (Kd.bh (Kd.cJ (Kd.cJ (Kd.cJ (Kd.j6 (M:=fun k_=>(w.heap.size≤k_)) ho0 (aA aq) (fun k_ h_=>h_)) (Kd.cN (rel HO291.out))) (Kd.cN (rel HO299.out))) (Kd.cN (rel HO312.out))) (aA aq));replace HO291:=aS (Kd.bR (rel HO291.out) (dr ho0) hb);replace HO299:=aS (Kd.bR (rel HO299.out) (dr ho0) hb);replace HO312:=aS (Kd.bR (rel HO312.out) (dr ho0) hb);replace HB:=aM hb;(try clear hb);(try clear hk);(try clear hi);(try clear ho0);obtain ⟨Ao30,co30,eo30⟩:=Kd.bn HO312.out
         (first | subst eo30 | (injection eo30 with f1_ f2_ f3_;have f4_:=f1_.symm;have f5_:=f3_.symm;clear f1_ f2_ f3_;subst f4_;subst f5_))
         obtain ⟨Ao31,co31,eo31⟩:=Kd.bn HO320.out
         (first | subst eo31 | (injection eo31 with f1_ f2_ f3_;have f4_:=f1_.symm;have f5_:=f3_.symm;clear f1_ f2_ f3_;subst f4_;subst f5_))
         refine hK.out _ _ trivial (fun hHeld=>?_);clear hK K;refine nm 40 ?_;refine dH 20 (N:=some 41) (bA 25 2097151) HT_ (fun K hK=>?_)
         refine Kd.uf (Kd.slice 5 (Kd.int .u8)) _ 51 ?hg (N':=41) ?hd (xs:=([y305,t310,t318]:List (List Int))) (inner:=[.slice A0 y305.length c0,.slice Ao30 t310.length co30,.slice Ao31 t318.length co31]) (ok:=(fun k_=>(P0_ k_∨w.heap.size≤k_)∧some k_≠(v290:Value).ownBlock∧some k_≠(.slice Ao24 t297.length co24:Value).ownBlock)) (okp:=(fun k_=>(P0_ k_∨w.heap.size≤k_)∧some k_≠(v290:Value).ownBlock∧some k_≠(.slice Ao24 t297.length co24:Value).ownBlock)) ?hr ?hp (fun _ hk=>hk) ((show ∀ k_,w29.heap.size≤k_→(fun k_=>(P0_ k_∨w.heap.size≤k_)∧some k_≠(v290:Value).ownBlock∧some k_≠(.slice Ao24 t297.length co24:Value).ownBlock) k_ from fun k_ hk=>⟨(.inr (Nat.le_trans (aA aq) hk)),Kd.gW (Kd.cN (rel HO291.out)) k_ hk,Kd.gW (Kd.cN (rel HO299.out)) k_ hk⟩) _ (Nat.le_refl _)) (Below.refl _ _) (Nat.le_refl _) (by simp) ?_;(case hd=>rfl);(case hg=>rfl);(case hr=>first | (go_simp;done) | (go_simp;rfl));(case hp=>exact (bM.one (show Kd.FK (Kd.slice 5 (Kd.int .u8)) _ _ y305 [.slice A0 y305.length c0] from (Kd.eL (Kd.dN (Kd.eC (ok':=(fun k_=>(P0_ k_∨w.heap.size≤k_)∧some k_≠(v290:Value).ownBlock∧some k_≠(.slice Ao24 t297.length co24:Value).ownBlock)) (HO309.out) (fun k_ hk=>⟨hk.1.1.1.1,⟨hk.1.1.1.2,hk.1.1.2⟩⟩))).2.1 (Kd.V_F (Kd.eC (ok':=(fun k_=>(P0_ k_∨w.heap.size≤k_)∧some k_≠(v290:Value).ownBlock∧some k_≠(.slice Ao24 t297.length co24:Value).ownBlock)) (HO309.out) (fun k_ hk=>⟨hk.1.1.1.1,⟨hk.1.1.1.2,hk.1.1.2⟩⟩))))) (bM.one (show Kd.FK (Kd.slice 5 (Kd.int .u8)) _ _ t310 [.slice Ao30 t310.length co30] from (Kd.eL (Kd.aX (Kd.aE (ok':=(fun k_=>(P0_ k_∨w.heap.size≤k_)∧some k_≠(v290:Value).ownBlock∧some k_≠(.slice Ao24 t297.length co24:Value).ownBlock)) (HO312.out) (fun k_ hk=>⟨(.inr (hk.1.1.1.1)),⟨hk.1.1.2,hk.1.2⟩⟩))).2.1 (Kd.nN (Kd.aE (ok':=(fun k_=>(P0_ k_∨w.heap.size≤k_)∧some k_≠(v290:Value).ownBlock∧some k_≠(.slice Ao24 t297.length co24:Value).ownBlock)) (HO312.out) (fun k_ hk=>⟨(.inr (hk.1.1.1.1)),⟨hk.1.1.2,hk.1.2⟩⟩))))) (bM.one (show Kd.FK (Kd.slice 5 (Kd.int .u8)) _ _ t318 [.slice Ao31 t318.length co31] from (Kd.eL (Kd.aX (Kd.aE (ok':=(fun k_=>(P0_ k_∨w.heap.size≤k_)∧some k_≠(v290:Value).ownBlock∧some k_≠(.slice Ao24 t297.length co24:Value).ownBlock)) (HO320.out) (fun k_ hk=>⟨(.inr (hk.1.1.1.1)),⟨hk.1.1.2,hk.1.2⟩⟩))).2.1 (Kd.nN (Kd.aE (ok':=(fun k_=>(P0_ k_∨w.heap.size≤k_)∧some k_≠(v290:Value).ownBlock∧some k_≠(.slice Ao24 t297.length co24:Value).ownBlock)) (HO320.out) (fun k_ hk=>⟨(.inr (hk.1.1.1.1)),⟨hk.1.1.2,hk.1.2⟩⟩))))) (bM.none _ _)))))
         intro v322 w32 ho33 hb hg_ hnew_
         clear hg_ hnew_
         (first | rw [←Ny321.out] at ho33 | (simp only [Int.reduceToNat] at ho33;rw [←Ny321.out] at ho33))
         have n0_:=aS (Kd.dw (sel HO0.out) (by first | exact Kd.qb ho33 | exact Kd.kG ho33 | exact Kd.fF ho33 | exact Kd.V_base ho33) hb);have n1_:=aS (Kd.dO (rel HO291.out) hb);have n2_:=aS (Kd.dw (sel HO296.out) (by first | exact Kd.qb ho33 | exact Kd.kG ho33 | exact Kd.fF ho33 | exact Kd.V_base ho33) hb);have n3_:=aS (Kd.dO (rel HO299.out) hb);have n4_:=aS (Kd.dw (sel HO304.out) (by first | exact Kd.qb ho33 | exact Kd.kG ho33 | exact Kd.fF ho33 | exact Kd.V_base ho33) hb);have n5_:=aS (Kd.dw (sel HO309.out) (by first | exact Kd.qb ho33 | exact Kd.kG ho33 | exact Kd.fF ho33 | exact Kd.V_base ho33) hb);have n6_:=aS (Kd.dw (sel HO317.out) (by first | exact Kd.qb ho33 | exact Kd.kG ho33 | exact Kd.fF ho33 | exact Kd.V_base ho33) hb);have n7_:=aS (Kd.ql ho33 (aA aq));have n8_:=aM hb;clear HO0;clear HO291;clear HO296;clear HO299;clear HO304;clear HO309;clear HO317;clear HB;clear HO312;clear HO320;have HO0:=n0_;have HO291:=n1_;have HO296:=n2_;have HO299:=n3_;have HO304:=n4_;have HO309:=n5_;have HO317:=n6_;have HO323:=n7_;have HB:=n8_;clear n0_ n1_ n2_ n3_ n4_ n5_ n6_ n7_ n8_;clear hb ho33;obtain ⟨Ao34,co34,eo34⟩:=Kd.pU HO323.out
         (first | subst eo34 | (injection eo34 with f1_ f2_ f3_;have f4_:=f1_.symm;have f5_:=f3_.symm;clear f1_ f2_ f3_;subst f4_;subst f5_))
         refine hK.out _ _ trivial (fun hHeld=>?_);clear hK K;refine nm 41 ?_;refine dH 21 (N:=some 42) (bA 25 4194303) HT_ (fun K hK=>?_);refine eu Tryz.func84 (by kernel_rfl) rfl #[.slice Ao34 y321.length co34] (by rfl) rfl rfl cH ?_
         with_reducible refine (cA.calls _ _ y321 t324 _ ?side1 ?side2 A21.out).mono ?_
         (case side1=>exact eM ((Kd.jW HO323.out).2.2))
         (case side2=>exact (Kd.jW HO323.out).2.1)
         rintro e w35 ⟨v325,rfl,ho0,hb⟩
         refine ⟨_,rfl,?_⟩;replace HO0:=aS (Kd.dw (sel HO0.out) (dr ho0) hb);replace HO296:=aS (Kd.dw (sel HO296.out) (dr ho0) hb);replace HO304:=aS (Kd.dw (sel HO304.out) (dr ho0) hb);replace HO309:=aS (Kd.dw (sel HO309.out) (dr ho0) hb);replace HO317:=aS (Kd.dw (sel HO317.out) (dr ho0) hb);replace HO323:=aS (Kd.oX (by (with_reducible repeat (first | apply Kd.oJ | apply Kd.oM | apply Kd.qn));exact HO323.out) (dr ho0) hb);have HO326:=aS (Kd.bh (Kd.cJ (Kd.cJ (Kd.j6 (M:=fun k_=>(w.heap.size≤k_)) ho0 (aA aq) (fun k_ h_=>h_)) (Kd.cN (rel HO291.out))) (Kd.cN (rel HO299.out))) (aA aq));replace HO291:=aS (Kd.bR (rel HO291.out) (dr ho0) hb);replace HO299:=aS (Kd.bR (rel HO299.out) (dr ho0) hb);replace HB:=aM hb;(try clear hb);(try clear hk);(try clear hi);(try clear ho0);obtain ⟨Ao36,co36,eo36⟩:=Kd.bn HO326.out
         (first | subst eo36 | (injection eo36 with f1_ f2_ f3_;have f4_:=f1_.symm;have f5_:=f3_.symm;clear f1_ f2_ f3_;subst f4_;subst f5_))
         refine hK.out _ _ trivial (fun hHeld=>?_);clear hK K;refine nm 42 ?_;refine dH 22 (N:=some 43) (bA 25 8388607) HT_ (fun K hK=>?_);refine eu Tryz.func75 (by kernel_rfl) rfl #[.slice A0 y300.length c0,.slice Ao36 t324.length co36] (by rfl) rfl rfl cH ?_
         with_reducible refine (aW.calls k _ _ y300 _ _ t324 t327 _ ?side1 ?side2 ?side3 ?side4 A22.out).mono ?_
         (case side1=>exact eM ((Kd.dN HO304.out).2.2))
         (case side2=>exact (Kd.dN HO304.out).2.1)
         (case side3=>exact eM ((Kd.aX HO326.out).2.2))
         (case side4=>exact (Kd.aX HO326.out).2.1)
         rintro e w' ⟨rfl,⟨nd,rfl⟩⟩
         refine ⟨_,rfl,?_⟩;refine hK.out _ _ trivial (fun hHeld=>?_);clear hK K;refine nm 43 ?_;refine aY [(23,44),(24,45)] ?_
         iterate 2 (refine cw HT_ ?_)
         refine bU (bA 25 33554431) (by kernel_rfl) ?_;refine dQ (cY HT_.out (by kernel_rfl)) ?_
         try go_wp2
         go_meet
         case rel=>exact ⟨_,(!t327),dJ,H',⟨by first | omega | exact Nat.le_refl _⟩,⟨by (with_reducible repeat (first | apply Kd.bF | apply Kd.bG | apply Kd.bH));exact Kd.aE HO299.out (fun _ hk=>hk.1.1.1.1.1)⟩,⟨aq⟩⟩
        ·
         rw [if_neg c19] at H;exact absurd H (by simp)
       ·
        rw [if_neg c18] at H;exact absurd H (by simp)
      ·
       rw [if_neg c16] at H;exact absurd H (by simp)
   case rest=>
    clear HC6;(try clear c8);obtain ⟨kq,x45_5,rfl,HA,HJ5,HO_8,HB⟩:=hcut
    cases kq with
    | zero=>exact absurd HA.out (by simp [ck.j0])
    | succ kj5=>
     have H:=HA.out;clear HA
     simp only [ck.j0] at H
     by_cases c37:x45_5=true
     ·
      subst c37
      replace H:=jF H
      simp only [Option.some.injEq,Prod.mk.injEq] at H
      obtain ⟨rfl,rfl,rfl⟩:=H
      go_wp2
      go_ret3
      exact ⟨_,_,dR,Kd.fO _ _ _ _ _,Kd.fO _ _ _ _ _,aq⟩
     ·
      replace c37:=Bool.eq_false_iff.mpr c37;subst c37
      replace H:=jD H
      by_cases c38:0≤t287
      ·
       rw [if_pos c38] at H;have c38b0:=eq_true c38;have c38b1:decide (0≤t287)=true:=decide_eq_true c38;clear c38
       by_cases c39:t287≤(t297.length:Int)
       ·
        rw [if_pos c39] at H;have c39b0:=eq_true c39;have c39b1:decide (t287≤(t297.length:Int))=true:=decide_eq_true c39;clear c39
        obtain ⟨y328,hy328⟩:∃ y_:List Int,y_=(t297.take (t287:Int).toNat):=⟨_,rfl⟩
        replace H:(some (y328,(t297.drop (t287:Int).toNat),true))=some (r1,r2,r3):=m8 hy328 H;have Ny328:=aS hy328;clear hy328;have c40b0:=eq_true (cr:0≤t287);have c41b0:=eq_true (cr:t287≤(t297.length:Int))
        obtain ⟨y333,hy333⟩:∃ y_:List Int,y_=(t297.drop (t287:Int).toNat):=⟨_,rfl⟩
        replace H:(some (y328,y333,true))=some (r1,r2,r3):=m8 hy333 H;have Ny333:=aS hy333;clear hy333
        simp only [Option.some.injEq,Prod.mk.injEq] at H
        obtain ⟨rfl,rfl,rfl⟩:=H
        try go_wp2
        replace HO_8:=aS (Kd.bH HO_8.out);replace HB:=aS (jE HB.out);obtain ⟨Ao44,co44,eo44⟩:=Kd.bn HO_8.out
        (first | subst eo44 | (injection eo44 with f1_ f2_ f3_;have f4_:=f1_.symm;have f5_:=f3_.symm;clear f1_ f2_ f3_;subst f4_;subst f5_))
        have q43:(t287:Int)≤((t297.length:Int):Int):=cr;obtain ⟨i043,hi043,_,hsz43,_⟩:=info_parts gJ;have hroom43:t297.length≤co44:=(Kd.aX HO_8.out).2.1;have hC43:Kd.F (Kd.int .u8) _ _ Ao44 t297.length t297:=(Kd.om (base:=w.heap.size) (Kd.eC (ok':=(fun k_=>(P0_ k_∨w.heap.size≤k_))) (Kd.vL HO_8.out) (fun k_ hk=>(.inr (hk))))).2.2;have hcut43:=DW (P:=Tryz.prog) 51 5 .i64 Tryz.underlying51 hi043 Ao44 t297.length co44 t287 (cr) q43 hroom43;have hr43:=Kd.rY (m:=(t287:Int).toNat) hC43 (by omega);have hy43:y328.length=(t287:Int).toNat:=(by rw [Ny328.out,kR];omega);rw [←Ny328.out] at hr43;rw [←hy43] at hcut43;have HO332:=aS (show Kd.V (Kd.int .u8) 5 _ w.heap.size _ (.slice Ao44 y328.length y328.length) y328 from Kd.ni (by omega) hr43);have HC332:=aS (show y328.length≤y328.length from by omega);clear hr43 hC43 hroom43 hi043 hsz43;have KY43:=aS hy43;clear hy43;replace q43:=eq_true q43;have q45:(t287:Int)≤((t297.length:Int):Int):=cr;obtain ⟨i045,hi045,_,hsz45,_⟩:=info_parts gJ;have hroom45:t297.length≤co44:=(Kd.aX HO_8.out).2.1;have hC45:Kd.F (Kd.int .u8) _ _ Ao44 t297.length t297:=(Kd.om (base:=w.heap.size) (Kd.eC (ok':=(fun k_=>(P0_ k_∨w.heap.size≤k_))) (Kd.vL HO_8.out) (fun k_ hk=>(.inr (hk))))).2.2;have q045:(0:Int)≤(t287:Int):=cr;have hcut45:=fY (P:=Tryz.prog) 51 5 .i64 Tryz.underlying51 hi045 1 hsz45 Ao44 t297.length co44 t287 q045 q45;have hr45:=Kd.zV (m:=(t287:Int).toNat) (c:=co44) hC45 (by omega) hroom45
        obtain ⟨A45,hA45⟩:∃ A1_,A1_=(if co44=(t287:Int).toNat then Ao44 else (Ao44:Option Addr).map (·.add ((t287:Int).toNat*1))):=⟨_,rfl⟩
        obtain ⟨c45,hc45⟩:∃ c1_,c1_=co44 - (t287:Int).toNat:=⟨_,rfl⟩
        have hy45:y333.length=t297.length - (t287:Int).toNat:=(by rw [Ny333.out,lV]<;>omega);rw [show (t297).drop (t287:Int).toNat=y333 from Ny333.out.symm] at hr45;replace hr45:Kd.F (Kd.int .u8) _ _ A45 y333.length y333:=(by rw [hA45];exact hr45);rw [←hy45,← hA45,← hc45] at hcut45;have HO337:=aS (show Kd.V (Kd.int .u8) 5 _ w.heap.size _ (.slice A45 y333.length c45) y333 from Kd.ni (by rw [hy45,hc45];exact Nat.sub_le_sub_right hroom45 _) hr45);have HC337:=aS (show y333.length≤c45 from by rw [hy45,hc45];exact Nat.sub_le_sub_right hroom45 _);clear hr45 hC45 hroom45 hi045 hsz45 hc45;have KY45:=aS hy45;have KA45:=aS hA45;clear hy45 hA45;replace q45:=eq_true q45;refine dA (n:=10) (S:=fun w'=>True) (ds:=[]) (bA 10 0) (by kernel_rfl) rfl rfl trivial (fun hHeld=>?_);refine cI ck.zT ck.wk (fun HT_ HW_=>?_)
        generalize wc.drew=w42 at HO_8 HB HO332 HO337 hHeld ⊢
        refine aY [(0,46),(1,47),(2,48),(3,49),(4,50),(5,51),(6,52),(7,2),(8,3),(9,4)] ?_
        iterate 10 (refine cw HT_ ?_)
        refine bU (bA 10 1023) (by kernel_rfl) ?_;refine dQ (cY HT_.out (by kernel_rfl)) ?_
        try go_wp2
        go_ret3
        exact ⟨_,_,dR,by (with_reducible repeat (first | apply Kd.fu | apply Kd.fw | apply Kd.eW));exact HO332.out,by (with_reducible repeat (first | apply Kd.fu | apply Kd.fw | apply Kd.eW));exact HO337.out,aq⟩
       ·
        rw [if_neg c39] at H;exact absurd H (by simp)
      ·
       rw [if_neg c38] at H;exact absurd H (by simp)
  ·
   rw [if_neg c4] at H;exact absurd H (by simp)
def eA.f (k:Nat) (l0:List Int):Option (ByteArray × List Int × Bool):=(br.f k l0).bind fun bt338=>(if bt338.2.2=true then (if bt338.1 > (bt338.2.1.length:Int) then (some ((⟨#[]⟩:ByteArray),([]:List Int),false)) else (if 0≤bt338.1 then (if bt338.1≤(bt338.2.1.length:Int) then (some (strOfNums (bt338.2.1.take (bt338.1:Int).toNat),(bt338.2.1.drop (bt338.1:Int).toNat),true)) else (none)) else (none))) else (some ((⟨#[]⟩:ByteArray),([]:List Int),false)))
theorem eA.mono:∀ a0 k,aG (eA.f k a0) (eA.f (k+1) a0):=by
 intro a0 k
 unfold eA.f
 have m0:=@br.mono;exact eN
theorem eA.calls (k:Nat) (A0:Option Addr) (c0:Nat) (l0:List Int) (r1:ByteArray) (r2:List Int) (r3:Bool) (w:World) (hr0:Kd.C (Kd.int .u8) w A0 l0.length l0) (hc0:l0.length≤c0) (h:eA.f k l0=some (r1,r2,r3)) :
  Calls Tryz.prog 105 #[.slice A0 l0.length c0] w fun e w'=>∃ v1_:Value,e = .returned (.tuple #[.string r1,v1_,.bool r3])∧Kd.Q (Kd.int .u8) 5 w' w.heap.size (fun _=>True) v1_ r2∧Below w.heap.size w w':=by
 have HR0:=aS hr0;have HC0:=aS hc0;clear hr0 hc0;have HB:=aS (Below.refl w.heap.size w);have H:((br.f k l0).bind fun bt338=>(if bt338.2.2=true then (if bt338.1 > (bt338.2.1.length:Int) then (some ((⟨#[]⟩:ByteArray),([]:List Int),false)) else (if 0≤bt338.1 then (if bt338.1≤(bt338.2.1.length:Int) then (some (strOfNums (bt338.2.1.take (bt338.1:Int).toNat),(bt338.2.1.drop (bt338.1:Int).toNat),true)) else (none)) else (none))) else (some ((⟨#[]⟩:ByteArray),([]:List Int),false))))=some (r1,r2,r3):=h;clear h;replace H:=cD H;obtain ⟨⟨t338,t339,t340⟩,A20,H⟩:=H;(try dsimp only at H);have A2:=aS A20;clear A20
 by_cases c3:t340=true
 ·
  subst c3
  replace H:=jF H
  by_cases c4:t338 > (t339.length:Int)
  ·
   rw [if_pos c4] at H;have c4b0:decide ((t339.length:Int)<t338)=true:=decide_eq_true c4;clear c4
   simp only [Option.some.injEq,Prod.mk.injEq] at H
   obtain ⟨rfl,rfl,rfl⟩:=H
   go_enter Tryz.func105,Tryz.ntmps105
   go_wp2_with (first | (go_at_call 71;(with_reducible refine (br.calls k _ _ l0 t338 t339 true _ ?side1 ?side2 A2.out).mono ?_);(case side1=>exact eM HR0.out);(case side2=>exact HC0.out);rintro e w5 ⟨v341,rfl,ho0,hb⟩;have HO342:=aS (Kd.bh ho0 (aA aq));replace HB:=aM hb;(try clear hb);(try clear hk);(try clear hi);(try clear ho0);obtain ⟨Ao6,co6,eo6⟩:=Kd.bn HO342.out;subst eo6))
   repeat (go_quiet (first | (go_at_call 71;(with_reducible refine (br.calls k _ _ l0 t338 t339 true _ ?side1 ?side2 A2.out).mono ?_);(case side1=>exact eM HR0.out);(case side2=>exact HC0.out);rintro e w5 ⟨v341,rfl,ho0,hb⟩;have HO342:=aS (Kd.bh ho0 (aA aq));replace HB:=aM hb;(try clear hb);(try clear hk);(try clear hi);(try clear ho0);obtain ⟨Ao6,co6,eo6⟩:=Kd.bn HO342.out;subst eo6));try go_wp2_with (first | (go_at_call 71;(with_reducible refine (br.calls k _ _ l0 t338 t339 true _ ?side1 ?side2 A2.out).mono ?_);(case side1=>exact eM HR0.out);(case side2=>exact HC0.out);rintro e w5 ⟨v341,rfl,ho0,hb⟩;have HO342:=aS (Kd.bh ho0 (aA aq));replace HB:=aM hb;(try clear hb);(try clear hk);(try clear hi);(try clear ho0);obtain ⟨Ao6,co6,eo6⟩:=Kd.bn HO342.out;subst eo6)))
   go_ret3
   exact ⟨_,dR,Kd.lA (by first | exact Kd.er _ _ _ _ _ | exact Kd.gM _ _ _ _ _ | exact Kd.fO _ _ _ _ _ | exact Kd.gK _ _ _ _ _ | exact Kd.gN _ _ _ _ _),aq⟩
  ·
   rw [if_neg c4] at H;have c4b0:decide ((t339.length:Int)<t338)=false:=decide_eq_false c4;clear c4
   by_cases c7:0≤t338
   ·
    rw [if_pos c7] at H;have c7b0:=eq_true c7;have c7b1:decide (0≤t338)=true:=decide_eq_true c7;clear c7
    by_cases c8:t338≤(t339.length:Int)
    ·
     rw [if_pos c8] at H;have c8b0:=eq_true c8;have c8b1:decide (t338≤(t339.length:Int))=true:=decide_eq_true c8;clear c8
     obtain ⟨y343,hy343⟩:∃ y_:List Int,y_=(t339.take (t338:Int).toNat):=⟨_,rfl⟩
     (first | replace H:=jZ hy343 H | rw [←hy343] at H);have Ny343:=aS hy343;clear hy343;have c9b0:=eq_true (cr:t338≤(t339.length:Int))
     obtain ⟨y347,hy347⟩:∃ y_:List Int,y_=(t339.drop (t338:Int).toNat):=⟨_,rfl⟩
     replace H:(some (strOfNums y343,y347,true))=some (r1,r2,r3):=m8 hy347 H;have Ny347:=aS hy347;clear hy347
     simp only [Option.some.injEq,Prod.mk.injEq] at H
     obtain ⟨rfl,rfl,rfl⟩:=H
     go_enter Tryz.func105,Tryz.ntmps105
     go_wp2_with (first | (go_at_call 71;(with_reducible refine (br.calls k _ _ l0 t338 t339 true _ ?side1 ?side2 A2.out).mono ?_);(case side1=>exact eM HR0.out);(case side2=>exact HC0.out);rintro e w10 ⟨v341,rfl,ho0,hb⟩;have HO342:=aS (Kd.bh ho0 (aA aq));replace HB:=aM hb;(try clear hb);(try clear hk);(try clear hi);(try clear ho0);obtain ⟨Ao11,co11,eo11⟩:=Kd.bn HO342.out;subst eo11;have q12:(t338:Int)≤((t339.length:Int):Int):=cr;obtain ⟨i012,hi012,_,hsz12,_⟩:=info_parts gJ;have hroom12:t339.length≤co11:=(Kd.aX HO342.out).2.1;have hC12:Kd.C (Kd.int .u8) _ Ao11 t339.length t339:=(Kd.aX HO342.out).2.2;have hcut12:=jv (P:=Tryz.prog) 51 5 .i64 Tryz.underlying51 hi012 Ao11 t339.length co11 t338 (cr) q12 hroom12;have hr12:=Kd.nP (m:=(t338:Int).toNat) hC12 (by omega);have hy12:y343.length=(t338:Int).toNat:=(by rw [Ny343.out,kR];omega);rw [←Ny343.out] at hr12;rw [←hy12] at hcut12;have HR346:=aS hr12;have HC346:=aS (show y343.length≤co11 from by omega);clear hr12 hC12 hroom12 hi012 hsz12;have KY12:=aS hy12;clear hy12;have KL12:=aS (show (t338:Int).toNat≤t339.length from by omega);replace q12:=eq_true q12;have hcv13:=Kd.jT (P:=Tryz.prog) (A:=Ao11) (c:=co11) Tryz.underlying51 Tryz.underlying5 Tryz.underlying9 (by repeat (first | (with_reducible exact HR346.out) | (with_reducible refine Kd.nB ?_ _) | (with_reducible refine Kd.jI ?_ _) | (with_reducible refine Kd.nX ?_) | exact HR346.out));have hcv14:=fun (m_:Nat)=>Kd.jT (P:=Tryz.prog) (A:=Ao11) (c:=co11) Tryz.underlying51 Tryz.underlying5 Tryz.underlying9 (Kd.jI ((by repeat (first | (with_reducible exact HR346.out) | (with_reducible refine Kd.nB ?_ _) | (with_reducible refine Kd.jI ?_ _) | (with_reducible refine Kd.nX ?_) | exact HR346.out))) m_);have q15:(t338:Int)≤((t339.length:Int):Int):=cr;obtain ⟨i015,hi015,_,hsz15,_⟩:=info_parts gJ;have hcut15:=fY (P:=Tryz.prog) 51 5 .i64 Tryz.underlying51 hi015 1 hsz15 Ao11 t339.length co11 t338 (cr) q15;have hr15:=Kd.uE (k:=(t338:Int).toNat) (Kd.lA HO342.out) (by omega);obtain ⟨A15,hA15⟩:∃ A1_,A1_=(if co11=(t338:Int).toNat then Ao11 else (Ao11:Option Addr).map (·.add ((t338:Int).toNat*1))):=⟨_,rfl⟩;obtain ⟨c15,hc15⟩:∃ c1_,c1_=co11 - (t338:Int).toNat:=⟨_,rfl⟩;have hy15:y347.length=t339.length - (t338:Int).toNat:=(by rw [Ny347.out,lV]);rw [←Ny347.out] at hr15;rw [←hy15,← hA15,← hc15] at hcut15;replace hr15:Kd.Q (Kd.int .u8) 5 w10 w.heap.size (fun _=>True) (.slice A15 y347.length c15) y347:=(by rw [hA15,hc15,hy15];exact hr15);have HE15:ah ((Value.slice A15 y347.length c15).ownBlock=(.slice Ao11 t339.length co11:Value).ownBlock):=⟨by rw [hA15];split<;>(cases (Ao11:Option Addr)<;>first | rfl | simp [Value.ownBlock,ko])⟩;clear hy15 hi015 hsz15 HO342 hA15 hc15;have HO349:=aS hr15;clear hr15;replace q15:=eq_true q15))
     repeat (go_quiet (first | (go_at_call 71;(with_reducible refine (br.calls k _ _ l0 t338 t339 true _ ?side1 ?side2 A2.out).mono ?_);(case side1=>exact eM HR0.out);(case side2=>exact HC0.out);rintro e w10 ⟨v341,rfl,ho0,hb⟩;have HO342:=aS (Kd.bh ho0 (aA aq));replace HB:=aM hb;(try clear hb);(try clear hk);(try clear hi);(try clear ho0);obtain ⟨Ao11,co11,eo11⟩:=Kd.bn HO342.out;subst eo11;have q12:(t338:Int)≤((t339.length:Int):Int):=cr;obtain ⟨i012,hi012,_,hsz12,_⟩:=info_parts gJ;have hroom12:t339.length≤co11:=(Kd.aX HO342.out).2.1;have hC12:Kd.C (Kd.int .u8) _ Ao11 t339.length t339:=(Kd.aX HO342.out).2.2;have hcut12:=jv (P:=Tryz.prog) 51 5 .i64 Tryz.underlying51 hi012 Ao11 t339.length co11 t338 (cr) q12 hroom12;have hr12:=Kd.nP (m:=(t338:Int).toNat) hC12 (by omega);have hy12:y343.length=(t338:Int).toNat:=(by rw [Ny343.out,kR];omega);rw [←Ny343.out] at hr12;rw [←hy12] at hcut12;have HR346:=aS hr12;have HC346:=aS (show y343.length≤co11 from by omega);clear hr12 hC12 hroom12 hi012 hsz12;have KY12:=aS hy12;clear hy12;have KL12:=aS (show (t338:Int).toNat≤t339.length from by omega);replace q12:=eq_true q12;have hcv13:=Kd.jT (P:=Tryz.prog) (A:=Ao11) (c:=co11) Tryz.underlying51 Tryz.underlying5 Tryz.underlying9 (by repeat (first | (with_reducible exact HR346.out) | (with_reducible refine Kd.nB ?_ _) | (with_reducible refine Kd.jI ?_ _) | (with_reducible refine Kd.nX ?_) | exact HR346.out));have hcv14:=fun (m_:Nat)=>Kd.jT (P:=Tryz.prog) (A:=Ao11) (c:=co11) Tryz.underlying51 Tryz.underlying5 Tryz.underlying9 (Kd.jI ((by repeat (first | (with_reducible exact HR346.out) | (with_reducible refine Kd.nB ?_ _) | (with_reducible refine Kd.jI ?_ _) | (with_reducible refine Kd.nX ?_) | exact HR346.out))) m_);have q15:(t338:Int)≤((t339.length:Int):Int):=cr;obtain ⟨i015,hi015,_,hsz15,_⟩:=info_parts gJ;have hcut15:=fY (P:=Tryz.prog) 51 5 .i64 Tryz.underlying51 hi015 1 hsz15 Ao11 t339.length co11 t338 (cr) q15;have hr15:=Kd.uE (k:=(t338:Int).toNat) (Kd.lA HO342.out) (by omega);obtain ⟨A15,hA15⟩:∃ A1_,A1_=(if co11=(t338:Int).toNat then Ao11 else (Ao11:Option Addr).map (·.add ((t338:Int).toNat*1))):=⟨_,rfl⟩;obtain ⟨c15,hc15⟩:∃ c1_,c1_=co11 - (t338:Int).toNat:=⟨_,rfl⟩;have hy15:y347.length=t339.length - (t338:Int).toNat:=(by rw [Ny347.out,lV]);rw [←Ny347.out] at hr15;rw [←hy15,← hA15,← hc15] at hcut15;replace hr15:Kd.Q (Kd.int .u8) 5 w10 w.heap.size (fun _=>True) (.slice A15 y347.length c15) y347:=(by rw [hA15,hc15,hy15];exact hr15);have HE15:ah ((Value.slice A15 y347.length c15).ownBlock=(.slice Ao11 t339.length co11:Value).ownBlock):=⟨by rw [hA15];split<;>(cases (Ao11:Option Addr)<;>first | rfl | simp [Value.ownBlock,ko])⟩;clear hy15 hi015 hsz15 HO342 hA15 hc15;have HO349:=aS hr15;clear hr15;replace q15:=eq_true q15));try go_wp2_with (first | (go_at_call 71;(with_reducible refine (br.calls k _ _ l0 t338 t339 true _ ?side1 ?side2 A2.out).mono ?_);(case side1=>exact eM HR0.out);(case side2=>exact HC0.out);rintro e w10 ⟨v341,rfl,ho0,hb⟩;have HO342:=aS (Kd.bh ho0 (aA aq));replace HB:=aM hb;(try clear hb);(try clear hk);(try clear hi);(try clear ho0);obtain ⟨Ao11,co11,eo11⟩:=Kd.bn HO342.out;subst eo11;have q12:(t338:Int)≤((t339.length:Int):Int):=cr;obtain ⟨i012,hi012,_,hsz12,_⟩:=info_parts gJ;have hroom12:t339.length≤co11:=(Kd.aX HO342.out).2.1;have hC12:Kd.C (Kd.int .u8) _ Ao11 t339.length t339:=(Kd.aX HO342.out).2.2;have hcut12:=jv (P:=Tryz.prog) 51 5 .i64 Tryz.underlying51 hi012 Ao11 t339.length co11 t338 (cr) q12 hroom12;have hr12:=Kd.nP (m:=(t338:Int).toNat) hC12 (by omega);have hy12:y343.length=(t338:Int).toNat:=(by rw [Ny343.out,kR];omega);rw [←Ny343.out] at hr12;rw [←hy12] at hcut12;have HR346:=aS hr12;have HC346:=aS (show y343.length≤co11 from by omega);clear hr12 hC12 hroom12 hi012 hsz12;have KY12:=aS hy12;clear hy12;have KL12:=aS (show (t338:Int).toNat≤t339.length from by omega);replace q12:=eq_true q12;have hcv13:=Kd.jT (P:=Tryz.prog) (A:=Ao11) (c:=co11) Tryz.underlying51 Tryz.underlying5 Tryz.underlying9 (by repeat (first | (with_reducible exact HR346.out) | (with_reducible refine Kd.nB ?_ _) | (with_reducible refine Kd.jI ?_ _) | (with_reducible refine Kd.nX ?_) | exact HR346.out));have hcv14:=fun (m_:Nat)=>Kd.jT (P:=Tryz.prog) (A:=Ao11) (c:=co11) Tryz.underlying51 Tryz.underlying5 Tryz.underlying9 (Kd.jI ((by repeat (first | (with_reducible exact HR346.out) | (with_reducible refine Kd.nB ?_ _) | (with_reducible refine Kd.jI ?_ _) | (with_reducible refine Kd.nX ?_) | exact HR346.out))) m_);have q15:(t338:Int)≤((t339.length:Int):Int):=cr;obtain ⟨i015,hi015,_,hsz15,_⟩:=info_parts gJ;have hcut15:=fY (P:=Tryz.prog) 51 5 .i64 Tryz.underlying51 hi015 1 hsz15 Ao11 t339.length co11 t338 (cr) q15;have hr15:=Kd.uE (k:=(t338:Int).toNat) (Kd.lA HO342.out) (by omega);obtain ⟨A15,hA15⟩:∃ A1_,A1_=(if co11=(t338:Int).toNat then Ao11 else (Ao11:Option Addr).map (·.add ((t338:Int).toNat*1))):=⟨_,rfl⟩;obtain ⟨c15,hc15⟩:∃ c1_,c1_=co11 - (t338:Int).toNat:=⟨_,rfl⟩;have hy15:y347.length=t339.length - (t338:Int).toNat:=(by rw [Ny347.out,lV]);rw [←Ny347.out] at hr15;rw [←hy15,← hA15,← hc15] at hcut15;replace hr15:Kd.Q (Kd.int .u8) 5 w10 w.heap.size (fun _=>True) (.slice A15 y347.length c15) y347:=(by rw [hA15,hc15,hy15];exact hr15);have HE15:ah ((Value.slice A15 y347.length c15).ownBlock=(.slice Ao11 t339.length co11:Value).ownBlock):=⟨by rw [hA15];split<;>(cases (Ao11:Option Addr)<;>first | rfl | simp [Value.ownBlock,ko])⟩;clear hy15 hi015 hsz15 HO342 hA15 hc15;have HO349:=aS hr15;clear hr15;replace q15:=eq_true q15)))
     go_ret3
     exact ⟨_,dR,by (with_reducible repeat (first | apply Kd.dZ | apply Kd.d6 | apply Kd.eF));exact HO349.out,aq⟩
    ·
     rw [if_neg c8] at H;exact absurd H (by simp)
   ·
    rw [if_neg c7] at H;exact absurd H (by simp)
 ·
  replace c3:=Bool.eq_false_iff.mpr c3;subst c3
  replace H:=jD H
  simp only [Option.some.injEq,Prod.mk.injEq] at H
  obtain ⟨rfl,rfl,rfl⟩:=H
  go_enter Tryz.func105,Tryz.ntmps105
  go_wp2_with (first | (go_at_call 71;(with_reducible refine (br.calls k _ _ l0 t338 t339 false _ ?side1 ?side2 A2.out).mono ?_);(case side1=>exact eM HR0.out);(case side2=>exact HC0.out);rintro e w16 ⟨v341,rfl,ho0,hb⟩;have HO342:=aS (Kd.bh ho0 (aA aq));replace HB:=aM hb;(try clear hb);(try clear hk);(try clear hi);(try clear ho0)))
  repeat (go_quiet (first | (go_at_call 71;(with_reducible refine (br.calls k _ _ l0 t338 t339 false _ ?side1 ?side2 A2.out).mono ?_);(case side1=>exact eM HR0.out);(case side2=>exact HC0.out);rintro e w16 ⟨v341,rfl,ho0,hb⟩;have HO342:=aS (Kd.bh ho0 (aA aq));replace HB:=aM hb;(try clear hb);(try clear hk);(try clear hi);(try clear ho0)));try go_wp2_with (first | (go_at_call 71;(with_reducible refine (br.calls k _ _ l0 t338 t339 false _ ?side1 ?side2 A2.out).mono ?_);(case side1=>exact eM HR0.out);(case side2=>exact HC0.out);rintro e w16 ⟨v341,rfl,ho0,hb⟩;have HO342:=aS (Kd.bh ho0 (aA aq));replace HB:=aM hb;(try clear hb);(try clear hk);(try clear hi);(try clear ho0))))
  go_ret3
  exact ⟨_,dR,Kd.lA (by first | exact Kd.er _ _ _ _ _ | exact Kd.gM _ _ _ _ _ | exact Kd.fO _ _ _ _ _ | exact Kd.gK _ _ _ _ _ | exact Kd.gN _ _ _ _ _),aq⟩
end Go.Proofs.YtcbhfedcdnjljaaGreat.X

import Derived.Test.YtcbhfedcdnjljaaGreatXx13
set_option maxHeartbeats 8000000
set_option maxRecDepth 100000
set_option linter.unusedVariables false
set_option linter.unusedSimpArgs false
namespace Go.Proofs.YtcbhfedcdnjljaaGreat.X
open Go.RowKit Go.Proofs.YtcbhfedcdnjljaaGreatW.PrintWords Go.Proofs.YtcbhfedcdnjljaaGreatW.PrintLast Go.Proofs.YtcbhfedcdnjljaaGreatW.PrintMore
attribute [local go_sem] gZ g_ iW iZ gF gD ic ig iX
def bQ.l0:Nat→List (av)→Int→Option (Bool)
 | 0,_,_=>none
 | k+1,x0,x3=>if x3<(x0.length:Int) then (if 0≤x3 then ((gh.f ((af x0 x3).f0) ((af x0 x3).f1) ((af x0 x3).f2) ((af x0 x3).f3) ((af x0 x3).f4)).bind fun t523=>(if t523=true then (bQ.l0 k x0 (wrap64 (x3+1))) else (some false))) else (none)) else (some true)
def bQ.f (k:Nat) (l0:List (av)):Option (Bool):=if (l0.length:Int) > 80 then (some false) else (bQ.l0 k l0 0)
theorem bQ.cP:∀ k,(∀ y0 y1,aE (bQ.l0 k y0 y1) (bQ.l0 (k+1) y0 y1))
 | 0=>fun _ _ r h=>by simp [bQ.l0] at h
 | k+1=>by
  have ih0:=bQ.cP k
  ·
   intro y0 y1
   unfold bQ.l0
   exact e8
theorem bQ.mono:∀ a0 k,aE (bQ.f k a0) (bQ.f (k+1) a0):=by
 intro a0 k
 have ih0:=bQ.cP k
 unfold bQ.f
 exact e8
theorem bQ.calls (k:Nat) (A0:Option Addr) (c0:Nat) (l0:List (av)) (r:Bool) (w:World) (hr0:Kd.C cC w A0 l0.length l0) (hc0:l0.length≤c0) (h:bQ.f k l0=some r) :
  Calls Tryz.prog 20 #[.slice A0 l0.length c0] w fun e w'=>e = .returned (.bool r)∧Below w.heap.size w w':=by
 have hu34:=Tryz.underlying34;have HR0:=aS hr0;have HC0:=aS hc0;clear hr0 hc0;have HB:=aS (Below.refl w.heap.size w);have H:(if (l0.length:Int) > 80 then (some false) else (bQ.l0 k l0 0))=some r:=h;clear h
 by_cases c2:(l0.length:Int) > 80
 ·
  rw [if_pos c2] at H;have c2b0:decide (80<(l0.length:Int))=true:=decide_eq_true c2;have c2b1:decide (80<l0.length)=true:=decide_eq_true (by omega);clear c2
  obtain rfl:=Option.some.inj H
  go_enter Tryz.func20,Tryz.ntmps20
  go_wp2
  go_ret
  exact ⟨dN,ar⟩
 ·
  rw [if_neg c2] at H;have c2b0:decide (80<(l0.length:Int))=false:=decide_eq_false c2;have c2b1:decide (80<l0.length)=false:=decide_eq_false (by omega);clear c2
  have H':=aS H
  clear H
  go_enter Tryz.func20,Tryz.ntmps20
  go_wp2
  go_loopg [3] k (fun kq v3 w'=>∃ (x3_1:Int),v3 = .int .i64 x3_1∧ak (bQ.l0 kq l0 x3_1=some r)∧ak (kq≤k)∧ak (Below w.heap.size w w'))
  case atStart=>exact ⟨(0),dU,H',⟨Nat.le_refl _⟩,⟨ar⟩⟩
  case round=>
   clear H';(try clear c2);(try clear c2b0);(try clear c2b1);obtain ⟨x3_1,rfl,HA,HK1,HB⟩:=hrel
   cases gk with
   | zero=>exact absurd HA.out (by simp [bQ.l0])
   | succ k1=>
    have H:=HA.out;clear HA
    simp only [bQ.l0] at H
    by_cases c3:x3_1<(l0.length:Int)
    ·
     rw [if_pos c3] at H;have c3b0:decide (x3_1<(l0.length:Int))=true:=decide_eq_true c3;clear c3
     by_cases c4:0≤x3_1
     ·
      rw [if_pos c4] at H;have c4b0:decide (0≤x3_1)=true:=decide_eq_true c4;clear c4;replace H:=bV H;obtain ⟨t523,A50,H⟩:=H;have A5:=aS A50;clear A50
      by_cases c6:t523=true
      ·
       subst c6
       replace H:=jQ H
       have H':=aS H
       clear H;have p522:0≤(x3_1:Int):=cG;have q522:x3_1<(l0.length:Int):=cG;obtain ⟨ad522,e522,hx522_0,hx522_1,hx522_2,hx522_3,hx522_4⟩:=eT HR0.out x3_1 p522 q522;cases e522;replace hx522_0:=bx ar hx522_0;replace hx522_1:=bx ar hx522_1;replace hx522_2:=bx ar hx522_2;replace hx522_3:=bx ar hx522_3;replace hx522_4:=bx ar hx522_4;replace p522:=eq_true p522;replace q522:=eq_true q522
       go_wp2_with (first | ((with_reducible refine aC (f:=10) rfl ?_);refine bE (some 17) rfl rfl Tryz.func10 (by kernel_rfl) rfl #[.agg #[.string ((af l0 x3_1).f0),.string ((af l0 x3_1).f1),.int .i64 ((af l0 x3_1).f2),.string ((af l0 x3_1).f3),.bool ((af l0 x3_1).f4)]] rfl cD ?_;(with_reducible refine (gh.calls ((af l0 x3_1).f0) ((af l0 x3_1).f1) ((af l0 x3_1).f2) ((af l0 x3_1).f3) ((af l0 x3_1).f4) true _ A5.out).mono ?_);rintro e w7 ⟨rfl,hb⟩;refine ⟨_,rfl,?_⟩;replace HB:=aM hb;(try clear hb);(try clear hk);(try clear hi)))
       go_roundg k1
       case measure=>have:=HK1.out;omega
       case rel=>exact ⟨(wrap64 (x3_1+1)),dU,H',⟨by have:=HK1.out;omega⟩,⟨ar⟩⟩
      ·
       replace c6:=Bool.eq_false_iff.mpr c6;subst c6
       replace H:=jO H
       obtain rfl:=Option.some.inj H
       have p522:0≤(x3_1:Int):=cG;have q522:x3_1<(l0.length:Int):=cG;obtain ⟨ad522,e522,hx522_0,hx522_1,hx522_2,hx522_3,hx522_4⟩:=eT HR0.out x3_1 p522 q522;cases e522;replace hx522_0:=bx ar hx522_0;replace hx522_1:=bx ar hx522_1;replace hx522_2:=bx ar hx522_2;replace hx522_3:=bx ar hx522_3;replace hx522_4:=bx ar hx522_4;replace p522:=eq_true p522;replace q522:=eq_true q522
       go_wp2_with (first | ((with_reducible refine aC (f:=10) rfl ?_);refine bE (some 17) rfl rfl Tryz.func10 (by kernel_rfl) rfl #[.agg #[.string ((af l0 x3_1).f0),.string ((af l0 x3_1).f1),.int .i64 ((af l0 x3_1).f2),.string ((af l0 x3_1).f3),.bool ((af l0 x3_1).f4)]] rfl cD ?_;(with_reducible refine (gh.calls ((af l0 x3_1).f0) ((af l0 x3_1).f1) ((af l0 x3_1).f2) ((af l0 x3_1).f3) ((af l0 x3_1).f4) false _ A5.out).mono ?_);rintro e w8 ⟨rfl,hb⟩;refine ⟨_,rfl,?_⟩;replace HB:=aM hb;(try clear hb);(try clear hk);(try clear hi)))
       go_ret
       exact ⟨dN,ar⟩
     ·
      rw [if_neg c4] at H;exact absurd H (by simp)
    ·
     rw [if_neg c3] at H;have c3b0:decide (x3_1<(l0.length:Int))=false:=decide_eq_false c3;clear c3
     obtain rfl:=Option.some.inj H
     go_wp2
     go_ret
     exact ⟨dN,ar⟩
def fI.f (a0:Int):Option (List Int):=if a0<0 then (some ([]:List Int)) else (if a0 > 4294967295 then (some ([]:List Int)) else (some (([(wrap64 (Int.tdiv a0 16777216)) % 256,(Int.tmod (wrap64 (Int.tdiv a0 65536)) 256) % 256,(Int.tmod (wrap64 (Int.tdiv a0 256)) 256) % 256,(Int.tmod a0 256) % 256]:List Int))))
theorem fI.calls (a0:Int) (r:List Int) (w:World) (h:fI.f a0=some r) :
  Calls Tryz.prog 43 #[.int .i64 a0] w fun e w'=>∃ v0_:Value,e = .returned (v0_)∧Kd.R (Kd.int .u8) 5 w' w.heap.size (fun _=>True) v0_ r∧Below w.heap.size w w':=by
 have HB:=aS (Below.refl w.heap.size w);have H:(if a0<0 then (some ([]:List Int)) else (if a0 > 4294967295 then (some ([]:List Int)) else (some (([(wrap64 (Int.tdiv a0 16777216)) % 256,(Int.tmod (wrap64 (Int.tdiv a0 65536)) 256) % 256,(Int.tmod (wrap64 (Int.tdiv a0 256)) 256) % 256,(Int.tmod a0 256) % 256]:List Int)))))=some r:=h;clear h
 by_cases c2:a0<0
 ·
  rw [if_pos c2] at H;have c2b0:decide (a0<0)=true:=decide_eq_true c2;clear c2
  obtain rfl:=Option.some.inj H
  go_enter Tryz.func43,Tryz.ntmps43
  go_wp2
  go_ret
  exact ⟨_,dN,by first | exact Kd.dX _ _ _ _ _ | exact Kd.gy _ _ _ _ _ | exact Kd.fN _ _ _ _ _ | exact Kd.gB _ _ _ _ _ | exact Kd.gA _ _ _ _ _,ar⟩
 ·
  rw [if_neg c2] at H;have c2b0:decide (a0<0)=false:=decide_eq_false c2;clear c2
  by_cases c3:a0 > 4294967295
  ·
   rw [if_pos c3] at H;have c3b0:decide (4294967295<a0)=true:=decide_eq_true c3;clear c3
   obtain rfl:=Option.some.inj H
   go_enter Tryz.func43,Tryz.ntmps43
   go_wp2
   go_ret
   exact ⟨_,dN,by first | exact Kd.dX _ _ _ _ _ | exact Kd.gy _ _ _ _ _ | exact Kd.fN _ _ _ _ _ | exact Kd.gB _ _ _ _ _ | exact Kd.gA _ _ _ _ _,ar⟩
  ·
   rw [if_neg c3] at H;have c3b0:decide (4294967295<a0)=false:=decide_eq_false c3;clear c3
   obtain ⟨y524,hy524⟩:∃ y_:List Int,y_=(([(wrap64 (Int.tdiv a0 16777216)) % 256,(Int.tmod (wrap64 (Int.tdiv a0 65536)) 256) % 256,(Int.tmod (wrap64 (Int.tdiv a0 256)) 256) % 256,(Int.tmod a0 256) % 256]:List Int)):=⟨_,rfl⟩
   replace H:(some y524)=some r:=pE hy524 H;have Ny524:=aS hy524;clear hy524
   obtain rfl:=Option.some.inj H
   go_enter Tryz.func43,Tryz.ntmps43
   go_wp2_with (first | ((with_reducible refine aX (N:=23) rfl ?_);refine Kd.pH (Kd.int .u8) _ 5 ?hg (N:=23) ?hd (xs:=([(wrap64 (Int.tdiv a0 16777216)) % 256,(Int.tmod (wrap64 (Int.tdiv a0 65536)) 256) % 256,(Int.tmod (wrap64 (Int.tdiv a0 256)) 256) % 256,(Int.tmod a0 256) % 256]:List Int)) (inner:=[.int .u8 ((wrap64 (Int.tdiv a0 16777216)) % 256),.int .u8 ((Int.tmod (wrap64 (Int.tdiv a0 65536)) 256) % 256),.int .u8 ((Int.tmod (wrap64 (Int.tdiv a0 256)) 256) % 256),.int .u8 ((Int.tmod a0 256) % 256)]) (ok:=fun _=>True) (okp:=fun _=>True) ?hr ?hp (fun _ hk=>hk) trivial (Below.refl _ _) (Nat.le_refl _) (by simp) ?_;(case hd=>rfl);(case hg=>rfl);(case hr=>first | (go_simp;done) | (go_simp;rfl));(case hp=>exact (bH.one (show Kd.M (Kd.int .u8) _ _ _ ((wrap64 (Int.tdiv a0 16777216)) % 256) [.int .u8 ((wrap64 (Int.tdiv a0 16777216)) % 256)] from rfl) (bH.one (show Kd.M (Kd.int .u8) _ _ _ ((Int.tmod (wrap64 (Int.tdiv a0 65536)) 256) % 256) [.int .u8 ((Int.tmod (wrap64 (Int.tdiv a0 65536)) 256) % 256)] from rfl) (bH.one (show Kd.M (Kd.int .u8) _ _ _ ((Int.tmod (wrap64 (Int.tdiv a0 256)) 256) % 256) [.int .u8 ((Int.tmod (wrap64 (Int.tdiv a0 256)) 256) % 256)] from rfl) (bH.one (show Kd.M (Kd.int .u8) _ _ _ ((Int.tmod a0 256) % 256) [.int .u8 ((Int.tmod a0 256) % 256)] from rfl) (bH.none _ _))))));intro v525 w4 ho5 hb hg_ hnew_;clear hg_ hnew_;(first | rw [←Ny524.out] at ho5 | (simp only [Int.reduceToNat] at ho5;rw [←Ny524.out] at ho5));have HO526:=aS (Kd.bf ho5 (ay ar));replace HB:=aM hb;clear hb ho5))
   go_ret
   exact ⟨_,dN,by (with_reducible repeat (first | apply Kd.bS | apply Kd.bO | apply Kd.bP));exact HO526.out,ar⟩
def dV.f (a0:ByteArray):Option (List Int):=(fI.f (a0.size:Int)).bind fun t527=>(if a0.size≤9223372036854775807 then ((some (bytesOf a0:List Int)).bind fun y530=>(if t527.length+y530.length<140737488355328 then (some (t527++y530)) else (none))) else (none))
theorem dV.calls (a0:ByteArray) (r:List Int) (w:World) (h:dV.f a0=some r) :
  Calls Tryz.prog 42 #[.string a0] w fun e w'=>∃ v0_:Value,e = .returned (v0_)∧Kd.R (Kd.int .u8) 5 w' w.heap.size (fun _=>True) v0_ r∧Below w.heap.size w w':=by
 have HB:=aS (Below.refl w.heap.size w);have H:((fI.f (a0.size:Int)).bind fun t527=>(if a0.size≤9223372036854775807 then ((some (bytesOf a0:List Int)).bind fun y530=>(if t527.length+y530.length<140737488355328 then (some (t527++y530)) else (none))) else (none)))=some r:=h;clear h;replace H:=bV H;obtain ⟨t527,A20,H⟩:=H;have A2:=aS A20;clear A20
 by_cases c3:a0.size≤9223372036854775807
 ·
  rw [if_pos c3] at H;have c3b0:=eq_true c3;have c3b1:decide (a0.size≤9223372036854775807)=true:=decide_eq_true c3
  try have c3b2:(9223372036854775807<a0.size)=False:=eq_false (Nat.not_lt.2 c3)
  clear c3
  obtain ⟨y530,hy530⟩:∃ y_:List Int,y_=(bytesOf a0):=⟨_,rfl⟩
  (first | replace H:=j8 hy530 H | rw [←hy530] at H);have Ny530:=aS hy530;clear hy530
  by_cases c4:t527.length+y530.length<140737488355328
  ·
   rw [if_pos c4] at H;have LMc4:=aS c4;clear c4
   obtain ⟨y533,hy533⟩:∃ y_:List Int,y_=(t527++y530):=⟨_,rfl⟩
   replace H:(some y533)=some r:=pE hy533 H;have Ny533:=aS hy533;clear hy533
   obtain rfl:=Option.some.inj H
   go_enter Tryz.func42,Tryz.ntmps42
   go_wp2_with (first | ((with_reducible refine aC (f:=43) rfl ?_);refine bE (some 5) rfl rfl Tryz.func43 (by kernel_rfl) rfl #[.int .i64 (a0.size:Int)] rfl cD ?_;(with_reducible refine (fI.calls (a0.size:Int) t527 _ A2.out).mono ?_);rintro e w5 ⟨v528,rfl,ho0,hb⟩;refine ⟨_,rfl,?_⟩;have HO529:=aS (Kd.bf ho0 (ay ar));replace HB:=aM hb;(try clear hb);(try clear hk);(try clear hi);(try clear ho0)) | ((with_reducible refine aX (N:=7) rfl ?_);refine Kd.zF rfl (N:=7) rfl 9 51 5 _ a0 rfl rfl Tryz.underlying9 Tryz.underlying51 Tryz.underlying5 (cG) ?_;intro v531 w6 ho7 hb;rw [←Ny530.out] at ho7;have HO532:=aS (Kd.pV (Kd.ez (ok':=fun k_=>some k_≠(v528:Value).ownBlock) ho7 (fun k_ hk_=>(Kd.gP (Kd.cK (rel HO529.out)) k_ hk_))) (ay ar));replace HO529:=aS (Kd.dA (rel HO529.out) hb);replace HB:=aM hb;clear hb ho7;obtain ⟨Ao9,co9,eo9⟩:=Kd.lI HO532.out;subst eo9) | ((with_reducible refine eZ (b:=.append) (xs:=#[.tmp 5,.tmp 7]) rfl ?_);at_builtin;refine Kd.fW (Kd.int .u8) (w0:=w) w.heap.size rfl (.tmp 5) (.tmp 7) 51 5 (.int .u8 0) 1 rfl Tryz.underlying51 fE rfl (by decide) (by omega) v528 t527 y530 _ _ _ (fun _=>True) (fun _=>False) rfl rfl ?aO ?aR (fun _ _ h=>h) (fun _ h=>h.elim) ?aF ?aB ?aS ?aL ?_;(case aR=>exact eN ((Kd.dI HO532.out).2.2));(case aB=>exact ar);(case aF=>exact (fun _ _=>trivial));(case aO=>exact (rel HO529.out));(case aS=>exact (ay ar));(case aL=>have:=LMc4.out;omega);intro v534 w8 ho hb hg hat;rw [←Ny533.out] at ho;have n0_:=aS (Kd.mh (ok:=(fun _=>True)) (by (with_reducible repeat (first | apply Kd.fq | apply Kd.fp | apply Kd.eM));exact Kd.ez HO532.out (fun _ hk=>⟨trivial,hk⟩)) hg hat);have n1_:=aS (hb);have n2_:=aS (ho);clear HO532;clear HB;clear HO529;have HO532:=n0_;have HB:=n1_;have HO535:=n2_;clear n0_ n1_ n2_;clear ho hb hg hat))
   go_ret
   exact ⟨_,dN,by (with_reducible repeat (first | apply Kd.bS | apply Kd.bO | apply Kd.bP));exact HO535.out,ar⟩
  ·
   rw [if_neg c4] at H;exact absurd H (by simp)
 ·
  rw [if_neg c3] at H;exact absurd H (by simp)
mutual
def bk.j0:Nat→List Int→ByteArray→ByteArray→Int→ByteArray→Bool→Option (List Int)
 | 0,_,_,_,_,_,_=>none
 | k+1,x3,x537000,x537001,x537002,x537003,x537004=>(fI.f x537002).bind fun t546=>(if x3.length+t546.length<140737488355328 then (bk.j1 k (x3++t546) x537000 x537001 x537002 x537003 x537004) else (none))
def bk.j1:Nat→List Int→ByteArray→ByteArray→Int→ByteArray→Bool→Option (List Int)
 | 0,_,_,_,_,_,_=>none
 | k+1,x3,x537000,x537001,x537002,x537003,x537004=>if x537004=true then (if x3.length<140737488355328 then ((some (x3++[1]:List Int)).bind fun y552=>((dV.f x537003).bind fun t555=>(if y552.length+t555.length<140737488355328 then (some (y552++t555)) else (none)))) else (none)) else (if x3.length<140737488355328 then ((some (x3++[0]:List Int)).bind fun y561=>((dV.f x537003).bind fun t564=>(if y561.length+t564.length<140737488355328 then (some (y561++t564)) else (none)))) else (none))
end
def bk.f (k:Nat) (a0_0:ByteArray) (a0_1:ByteArray) (a0_2:Int) (a0_3:ByteArray) (a0_4:Bool):Option (List Int):=(dV.f a0_0).bind fun t537=>((dV.f a0_1).bind fun t540=>(if t537.length+t540.length<140737488355328 then (bk.j0 k (t537++t540) a0_0 a0_1 a0_2 a0_3 a0_4) else (none)))
theorem bk.cP:∀ k,(∀ y0 y1 y2 y3 y4 y5,aE (bk.j0 k y0 y1 y2 y3 y4 y5) (bk.j0 (k+1) y0 y1 y2 y3 y4 y5))∧(∀ y0 y1 y2 y3 y4 y5,aE (bk.j1 k y0 y1 y2 y3 y4 y5) (bk.j1 (k+1) y0 y1 y2 y3 y4 y5))
 | 0=>⟨fun _ _ _ _ _ _ r h=>by simp [bk.j0] at h,fun _ _ _ _ _ _ r h=>by simp [bk.j1] at h⟩
 | k+1=>by
  obtain ⟨ih0,ih1⟩:=bk.cP k;refine ⟨?_,?_⟩
  ·
   intro y0 y1 y2 y3 y4 y5
   unfold bk.j0
   exact e8
  ·
   intro y0 y1 y2 y3 y4 y5
   unfold bk.j1
   exact e8
theorem bk.mono:∀ a0 a1 a2 a3 a4 k,aE (bk.f k a0 a1 a2 a3 a4) (bk.f (k+1) a0 a1 a2 a3 a4):=by
 intro a0 a1 a2 a3 a4 k
 obtain ⟨ih0,ih1⟩:=bk.cP k
 unfold bk.f
 exact e8
def bk.T1:Bool × List (List Nat × List Nat):=(true,[([],[]),([0],[0]),([1],[1]),([],[]),([3],[3]),([4,2],[4]),([2,5,5],[2,5]),([6,6,0,1,2,3,4,5,6],[6])])
def bk.B1:List Nat:=[0,1,3,0,8,31,63,127]
theorem bk.o4:fC .any (opsOf Tryz.f21 1)=bk.T1:=by kernel_rfl
theorem bk.mY:fY bk.T1.2 bk.B1=true:=by kernel_rfl
theorem bk.calls (k:Nat) (a0_0:ByteArray) (a0_1:ByteArray) (a0_2:Int) (a0_3:ByteArray) (a0_4:Bool) (r:List Int) (w:World) (h:bk.f k a0_0 a0_1 a0_2 a0_3 a0_4=some r) :
  Calls Tryz.prog 21 #[.agg #[.string a0_0,.string a0_1,.int .i64 a0_2,.string a0_3,.bool a0_4]] w fun e w'=>∃ v0_:Value,e = .returned (v0_)∧Kd.R (Kd.int .u8) 5 w' w.heap.size (fun _=>True) v0_ r∧Below w.heap.size w w':=by
 have hu34:=Tryz.underlying34;have HB:=aS (Below.refl w.heap.size w);have H:((dV.f a0_0).bind fun t537=>((dV.f a0_1).bind fun t540=>(if t537.length+t540.length<140737488355328 then (bk.j0 k (t537++t540) a0_0 a0_1 a0_2 a0_3 a0_4) else (none))))=some r:=h;clear h;have HC2:=aS H;clear H
 go_enter Tryz.func21,Tryz.ntmps21
 go_upto_region 1 with (first | ((with_reducible refine aX (N:=1) rfl ?_);refine aY ?hg (N:=1) ?hd (cs:=#[.string a0_0,.string a0_1,.int .i64 a0_2,.string a0_3,.bool a0_4]) (t:=34) ?hr ?_;(case hd=>rfl);(case hg=>rfl);(case hr=>first | (go_simp;done) | (go_simp;rfl));intro gb536 hg w3 hbox hb;have BK536:=aS (hbox);have GW536:=bsize hg;have GE536:=bsize hg;replace HB:=aM hb;clear hb hbox hg))
 (try simp only [Act.put,dw,dx,lss])
 go_cut [3] (fun v3 wc=>∃ (kq:Nat) (x3_1:List Int),ak (bk.j0 kq x3_1 a0_0 a0_1 a0_2 a0_3 a0_4=some r)∧ak (kq≤k)∧ak (Kd.R (Kd.int .u8) 5 wc w.heap.size (fun _=>True) v3 x3_1)∧ak (wc.heap[gb536]? = some (.cells #[.string a0_0,.string a0_1,.int .i64 a0_2,.string a0_3,.bool a0_4] 34 (0,0)))∧ak (Below w.heap.size w wc))
 case first=>
  have H:=HC2.out;clear HC2;replace H:=bV H;obtain ⟨t537,A40,H⟩:=H;have A4:=aS A40;clear A40;replace H:=bV H;obtain ⟨t540,A50,H⟩:=H;have A5:=aS A50;clear A50
  by_cases c6:t537.length+t540.length<140737488355328
  ·
   rw [if_pos c6] at H;have LMc6:=aS c6;clear c6
   obtain ⟨y543,hy543⟩:∃ y_:List Int,y_=(t537++t540):=⟨_,rfl⟩
   (first | replace H:=j8 hy543 H | rw [←hy543] at H);have Ny543:=aS hy543;clear hy543
   have H':=aS H
   clear H
   try go_wp2
   replace BK536:=aS (au BK536.out);replace HB:=aS (jG HB.out);refine dz (n:=8) (S:=fun w'=>w'.cell? ⟨gb536,0,none⟩=some (.string a0_0)∧w'.cell? ⟨gb536,1,none⟩=some (.string a0_1)∧w'.cell? ⟨gb536,2,none⟩=some (.int .i64 a0_2)∧w'.cell? ⟨gb536,3,none⟩=some (.string a0_3)∧w'.cell? ⟨gb536,4,none⟩=some (.bool a0_4)) (ds:=[]) (bA 8 0) (by kernel_rfl) rfl rfl ⟨bc BK536 0,bc BK536 1,bc BK536 2,bc BK536 3,bc BK536 4⟩ (fun hHeld=>?_);refine cH bk.o4 bk.mY (fun HT_ HW_=>?_)
   generalize w3.drew=w7 at BK536 HB hHeld ⊢
   refine aZ [(0,4),(3,7),(1,5),(4,8)] ?_
   iterate 4 (first | (refine cr HT_ ?_) | (refine d_ HT_ HW_ hHeld ?_))
   refine bX (bA 8 27) (by kernel_rfl) ?_;refine dJ 2 (N:=some 6) (bA 8 31) HT_ (fun K hK=>?_);refine ep Tryz.func42 (by kernel_rfl) rfl #[.string a0_0] (by rfl) rfl rfl cD ?_
   with_reducible refine (dV.calls a0_0 t537 _ A4.out).mono ?_
   rintro e w8 ⟨v538,rfl,ho0,hb⟩
   refine ⟨_,rfl,?_⟩;have HO539:=aS (Kd.bf ho0 (ay ar));replace BK536:=fA BK536 hb;replace HB:=aM hb;(try clear hb);(try clear hk);(try clear hi);(try clear ho0);refine hK.out _ _ ⟨bc BK536 0,bc BK536 1,bc BK536 2,bc BK536 3,bc BK536 4⟩ (fun hHeld=>?_);clear hK K;refine nm 6 ?_;refine dJ 5 (N:=some 9) (bA 8 63) HT_ (fun K hK=>?_);refine ep Tryz.func42 (by kernel_rfl) rfl #[.string a0_1] (by rfl) rfl rfl cD ?_
   with_reducible refine (dV.calls a0_1 t540 _ A5.out).mono ?_
   rintro e w9 ⟨v541,rfl,ho0,hb⟩
   refine ⟨_,rfl,?_⟩;have HO542:=aS (Kd.bf (Kd.cI ho0 (Kd.cK (rel HO539.out))) (ay ar));replace HO539:=aS (Kd.bR (rel HO539.out) (dh ho0) hb);replace BK536:=fA BK536 hb;replace HB:=aM hb;(try clear hb);(try clear hk);(try clear hi);(try clear ho0);obtain ⟨Ao11,co11,eo11⟩:=Kd.bq HO542.out
   (first | subst eo11 | (injection eo11 with f1_ f2_ f3_;have f4_:=f1_.symm;have f5_:=f3_.symm;clear f1_ f2_ f3_;subst f4_;subst f5_))
   refine hK.out _ _ ⟨bc BK536 0,bc BK536 1,bc BK536 2,bc BK536 3,bc BK536 4⟩ (fun hHeld=>?_);clear hK K;refine nm 9 ?_;refine dJ 6 (N:=some 10) (bA 8 127) HT_ (fun K hK=>?_);refine Kd.fu (Kd.int .u8) (w0:=w) w.heap.size (by rfl) (.tmp 6) (.tmp 9) 51 5 (.int .u8 0) 1 rfl Tryz.underlying51 fE rfl (by decide) (by omega) v538 t537 t540 _ _ _ (fun k_=>some k_≠(.slice Ao11 t540.length co11:Value).ownBlock) (fun _=>False) rfl rfl ?aO ?aR (fun _ _ h=>h) (fun _ h=>h.elim) ?aF ?aB ?aS ?aL ?_
   (case aR=>exact eN ((Kd.bh HO542.out).2.2))
   (case aB=>exact ar)
   (case aF=>exact (fun k_ hk=>Kd.gP (Kd.cK (rel HO542.out)) k_ hk))
   (case aO=>exact (rel (Kd.aH HO539.out (fun _ hk=>hk.2))))
   (case aS=>exact (ay ar))
   (case aL=>have:=LMc6.out;omega)
   intro v544 w10 ho hb hg hat
   rw [←Ny543.out] at ho;have n0_:=aS (er (g:=gb536) (o:=.cells #[.string a0_0,.string a0_1,.int .i64 a0_2,.string a0_3,.bool a0_4] 34 (0,0)) (eB BK536.out) hg (Kd.jH HO539.out BK536.out (by decide)));have n1_:=aS (Kd.iV (ok:=(fun _=>True)) (rel HO542.out) hg hat);have n2_:=aS (hb);have n3_:=aS (ho);clear BK536;clear HO542;clear HB;clear HO539;have BK536:=n0_;have HO542:=n1_;have HB:=n2_;have HO545:=n3_;clear n0_ n1_ n2_ n3_;clear ho hb hg hat;refine hK.out _ _ ⟨bc BK536 0,bc BK536 1,bc BK536 2,bc BK536 3,bc BK536 4⟩ (fun hHeld=>?_);clear hK K;refine nm 10 ?_;refine dB (i:=7) (N:=some 3) (v:=?_) (a':=?_) (bA 8 255) rfl rfl (lE HT_.out (by kernel_rfl)) (fun _ _ _ h=>h) (Or.inl ⟨by rfl,?_⟩) ?_ ?_
   rotate_left
   ·
    intro w'
    go_simp
    with_reducible rfl
   rotate_left
   ·
    simp only [Act.put,dw,dx,lss,bC,cm]
    rfl
   refine dQ (cX HT_.out (by kernel_rfl)) ?_
   try go_wp2
   go_meet
   case rel=>exact ⟨_,(y543),H',⟨by first | omega | exact Nat.le_refl _⟩,⟨by (with_reducible repeat (first | apply Kd.bS | apply Kd.bO | apply Kd.bP));exact Kd.aH HO545.out (fun _ hk=>trivial)⟩,⟨eB BK536.out⟩,⟨ar⟩⟩
  ·
   rw [if_neg c6] at H;exact absurd H (by simp)
 case rest=>
  clear HC2;obtain ⟨kq,x3_1,HA,HJ1,HO_3,BK536,HB⟩:=hcut
  cases kq with
  | zero=>exact absurd HA.out (by simp [bk.j0])
  | succ kj1=>
   have H:=HA.out;clear HA
   simp only [bk.j0] at H
   have HC12:=aS H;clear H
   go_upto_region 2 with (fail)
   go_cut [3] (fun v3 wc=>∃ (kq:Nat) (x3_11:List Int),ak (bk.j1 kq x3_11 a0_0 a0_1 a0_2 a0_3 a0_4=some r)∧ak (kq≤kj1)∧ak (Kd.R (Kd.int .u8) 5 wc w.heap.size (fun _=>True) v3 x3_11)∧ak (wc.heap[gb536]? = some (.cells #[.string a0_0,.string a0_1,.int .i64 a0_2,.string a0_3,.bool a0_4] 34 (0,0)))∧ak (Below w.heap.size w wc))
   case first=>
    have H:=HC12.out;clear HC12;replace H:=bV H;obtain ⟨t546,A130,H⟩:=H;have A13:=aS A130;clear A130
    by_cases c14:x3_1.length+t546.length<140737488355328
    ·
     rw [if_pos c14] at H;have LMc14:=aS c14;clear c14
     obtain ⟨y549,hy549⟩:∃ y_:List Int,y_=(x3_1++t546):=⟨_,rfl⟩
     (first | replace H:=j8 hy549 H | rw [←hy549] at H);have Ny549:=aS hy549;clear hy549
     have H':=aS H
     clear H;have hcz15:=cR BK536
     go_wp2_with (first | ((with_reducible refine aC (f:=43) rfl ?_);refine bE (some 14) rfl rfl Tryz.func43 (by kernel_rfl) rfl #[.int .i64 a0_2] rfl cD ?_;(with_reducible refine (fI.calls a0_2 t546 _ A13.out).mono ?_);rintro e w16 ⟨v547,rfl,ho0,hb⟩;refine ⟨_,rfl,?_⟩;have HO548:=aS (Kd.bf (Kd.cI ho0 (Kd.cK (rel HO_3.out))) (ay ar));replace HO_3:=aS (Kd.bR (rel HO_3.out) (dh ho0) hb);replace BK536:=fA BK536 hb;replace HB:=aM hb;(try clear hb);(try clear hk);(try clear hi);(try clear ho0);obtain ⟨Ao18,co18,eo18⟩:=Kd.bq HO548.out;subst eo18) | ((with_reducible refine eZ (b:=.append) (xs:=#[.tmp 11,.tmp 14]) rfl ?_);at_builtin;refine Kd.fW (Kd.int .u8) (w0:=w) w.heap.size rfl (.tmp 11) (.tmp 14) 51 5 (.int .u8 0) 1 rfl Tryz.underlying51 fE rfl (by decide) (by omega) u3 x3_1 t546 _ _ _ (fun k_=>some k_≠(.slice Ao18 t546.length co18:Value).ownBlock) (fun _=>False) rfl rfl ?aO ?aR (fun _ _ h=>h) (fun _ h=>h.elim) ?aF ?aB ?aS ?aL ?_;(case aR=>exact eN ((Kd.bh HO548.out).2.2));(case aB=>exact ar);(case aF=>exact (fun k_ hk=>Kd.gP (Kd.cK (rel HO548.out)) k_ hk));(case aO=>exact (rel (Kd.aH HO_3.out (fun _ hk=>hk.2))));(case aS=>exact (ay ar));(case aL=>have:=LMc14.out;omega);intro v550 w17 ho hb hg hat;rw [←Ny549.out] at ho;have n0_:=aS (er (g:=gb536) (o:=.cells #[.string a0_0,.string a0_1,.int .i64 a0_2,.string a0_3,.bool a0_4] 34 (0,0)) (eB BK536.out) hg (Kd.jH HO_3.out BK536.out (by decide)));have n1_:=aS (Kd.iV (ok:=(fun _=>True)) (rel HO548.out) hg hat);have n2_:=aS (hb);have n3_:=aS (ho);clear BK536;clear HO548;clear HB;clear HO_3;have BK536:=n0_;have HO548:=n1_;have HB:=n2_;have HO551:=n3_;clear n0_ n1_ n2_ n3_;clear ho hb hg hat))
     go_meet
     case rel=>exact ⟨_,(y549),H',⟨by have:=HJ1.out;first | omega | exact Nat.le_refl _⟩,⟨by (with_reducible repeat (first | apply Kd.bS | apply Kd.bO | apply Kd.bP));exact Kd.aH HO551.out (fun _ hk=>trivial)⟩,⟨eB BK536.out⟩,⟨ar⟩⟩
    ·
     rw [if_neg c14] at H;exact absurd H (by simp)
   case rest=>
    clear HC12;obtain ⟨kq,x3_11,HA,HJ11,HO_3,BK536,HB⟩:=hcut
    cases kq with
    | zero=>exact absurd HA.out (by simp [bk.j1])
    | succ kj11=>
     have H:=HA.out;clear HA
     simp only [bk.j1] at H
     by_cases c19:a0_4=true
     ·
      subst c19
      replace H:=jQ H
      by_cases c20:x3_11.length<140737488355328
      ·
       rw [if_pos c20] at H;have LMc20:=aS c20;clear c20
       obtain ⟨y552,hy552⟩:∃ y_:List Int,y_=(x3_11++[1]):=⟨_,rfl⟩
       (first | replace H:=j8 hy552 H | rw [←hy552] at H);have Ny552:=aS hy552;clear hy552;replace H:=bV H;obtain ⟨t555,A210,H⟩:=H;have A21:=aS A210;clear A210
       by_cases c22:y552.length+t555.length<140737488355328
       ·
        rw [if_pos c22] at H;have LMc22:=aS c22;clear c22
        obtain ⟨y558,hy558⟩:∃ y_:List Int,y_=(y552++t555):=⟨_,rfl⟩
        replace H:(some y558)=some r:=pE hy558 H;have Ny558:=aS hy558;clear hy558
        obtain rfl:=Option.some.inj H
        have hcz23:=cR BK536
        go_wp2_with (first | ((with_reducible refine eZ (b:=.append) (xs:=#[.tmp 18,.tmp 19]) rfl ?_);at_builtin;refine Kd.gC (Kd.int .u8) (w0:=w) w.heap.size rfl (.tmp 18) (.tmp 19) 51 5 (.int .u8 0) 1 rfl Tryz.underlying51 fE rfl (by decide) (by omega) u3 x3_11 1 [.int .u8 1] (fun _=>True) (fun _=>False) rfl rfl ?aP (fun _ hk=>hk.elim) ?aF ?aO ?aB ?aS ?aL ?_;(case aP=>exact rfl);(case aB=>exact ar);(case aF=>exact (fun _ _=>trivial));(case aO=>exact (rel HO_3.out));(case aS=>exact (ay ar));(case aL=>have:=LMc20.out;omega);intro v553 w24 ho hb hg hat;rw [←Ny552.out] at ho;have n0_:=aS (er (g:=gb536) (o:=.cells #[.string a0_0,.string a0_1,.int .i64 a0_2,.string a0_3,.bool true] 34 (0,0)) (eB BK536.out) hg (Kd.jH HO_3.out BK536.out (by decide)));have n1_:=aS (hb);have n2_:=aS (ho);clear BK536;clear HB;clear HO_3;have BK536:=n0_;have HB:=n1_;have HO554:=n2_;clear n0_ n1_ n2_;clear ho hb hg hat;have hcz25:=cR BK536) | ((with_reducible refine aC (f:=42) rfl ?_);refine bE (some 27) rfl rfl Tryz.func42 (by kernel_rfl) rfl #[.string a0_3] rfl cD ?_;(with_reducible refine (dV.calls a0_3 t555 _ A21.out).mono ?_);rintro e w26 ⟨v556,rfl,ho0,hb⟩;refine ⟨_,rfl,?_⟩;have HO557:=aS (Kd.bf (Kd.cI ho0 (Kd.cK (rel HO554.out))) (ay ar));replace HO554:=aS (Kd.bR (rel HO554.out) (dh ho0) hb);replace BK536:=fA BK536 hb;replace HB:=aM hb;(try clear hb);(try clear hk);(try clear hi);(try clear ho0);obtain ⟨Ao28,co28,eo28⟩:=Kd.bq HO557.out;subst eo28) | ((with_reducible refine eZ (b:=.append) (xs:=#[.tmp 24,.tmp 27]) rfl ?_);at_builtin;refine Kd.fW (Kd.int .u8) (w0:=w) w.heap.size rfl (.tmp 24) (.tmp 27) 51 5 (.int .u8 0) 1 rfl Tryz.underlying51 fE rfl (by decide) (by omega) v553 y552 t555 _ _ _ (fun k_=>some k_≠(.slice Ao28 t555.length co28:Value).ownBlock) (fun _=>False) rfl rfl ?aO ?aR (fun _ _ h=>h) (fun _ h=>h.elim) ?aF ?aB ?aS ?aL ?_;(case aR=>exact eN ((Kd.bh HO557.out).2.2));(case aB=>exact ar);(case aF=>exact (fun k_ hk=>Kd.gP (Kd.cK (rel HO557.out)) k_ hk));(case aO=>exact (rel (Kd.aH HO554.out (fun _ hk=>hk.2))));(case aS=>exact (ay ar));(case aL=>have:=LMc22.out;omega);intro v559 w27 ho hb hg hat;rw [←Ny558.out] at ho;have n0_:=aS (er (g:=gb536) (o:=.cells #[.string a0_0,.string a0_1,.int .i64 a0_2,.string a0_3,.bool true] 34 (0,0)) (eB BK536.out) hg (Kd.jH HO554.out BK536.out (by decide)));have n1_:=aS (Kd.iV (ok:=(fun _=>True)) (rel HO557.out) hg hat);have n2_:=aS (hb);have n3_:=aS (ho);clear BK536;clear HO557;clear HB;clear HO554;have BK536:=n0_;have HO557:=n1_;have HB:=n2_;have HO560:=n3_;clear n0_ n1_ n2_ n3_;clear ho hb hg hat))
        go_ret
        exact ⟨_,dN,by (with_reducible repeat (first | apply Kd.bS | apply Kd.bO | apply Kd.bP));exact Kd.aH HO560.out (fun _ hk=>trivial),ar⟩
       ·
        rw [if_neg c22] at H;exact absurd H (by simp)
      ·
       rw [if_neg c20] at H;exact absurd H (by simp)
     ·
      replace c19:=Bool.eq_false_iff.mpr c19;subst c19
      replace H:=jO H
      by_cases c29:x3_11.length<140737488355328
      ·
       rw [if_pos c29] at H;have LMc29:=aS c29;clear c29
       obtain ⟨y561,hy561⟩:∃ y_:List Int,y_=(x3_11++[0]):=⟨_,rfl⟩
       (first | replace H:=j8 hy561 H | rw [←hy561] at H);have Ny561:=aS hy561;clear hy561;replace H:=bV H;obtain ⟨t564,A300,H⟩:=H;have A30:=aS A300;clear A300
       by_cases c31:y561.length+t564.length<140737488355328
       ·
        rw [if_pos c31] at H;have LMc31:=aS c31;clear c31
        obtain ⟨y567,hy567⟩:∃ y_:List Int,y_=(y561++t564):=⟨_,rfl⟩
        replace H:(some y567)=some r:=pE hy567 H;have Ny567:=aS hy567;clear hy567
        obtain rfl:=Option.some.inj H
        have hcz32:=cR BK536
        go_wp2_with (first | ((with_reducible refine eZ (b:=.append) (xs:=#[.tmp 21,.tmp 22]) rfl ?_);at_builtin;refine Kd.gC (Kd.int .u8) (w0:=w) w.heap.size rfl (.tmp 21) (.tmp 22) 51 5 (.int .u8 0) 1 rfl Tryz.underlying51 fE rfl (by decide) (by omega) u3 x3_11 0 [.int .u8 0] (fun _=>True) (fun _=>False) rfl rfl ?aP (fun _ hk=>hk.elim) ?aF ?aO ?aB ?aS ?aL ?_;(case aP=>exact rfl);(case aB=>exact ar);(case aF=>exact (fun _ _=>trivial));(case aO=>exact (rel HO_3.out));(case aS=>exact (ay ar));(case aL=>have:=LMc29.out;omega);intro v562 w33 ho hb hg hat;rw [←Ny561.out] at ho;have n0_:=aS (er (g:=gb536) (o:=.cells #[.string a0_0,.string a0_1,.int .i64 a0_2,.string a0_3,.bool false] 34 (0,0)) (eB BK536.out) hg (Kd.jH HO_3.out BK536.out (by decide)));have n1_:=aS (hb);have n2_:=aS (ho);clear BK536;clear HB;clear HO_3;have BK536:=n0_;have HB:=n1_;have HO563:=n2_;clear n0_ n1_ n2_;clear ho hb hg hat;have hcz34:=cR BK536) | ((with_reducible refine aC (f:=42) rfl ?_);refine bE (some 27) rfl rfl Tryz.func42 (by kernel_rfl) rfl #[.string a0_3] rfl cD ?_;(with_reducible refine (dV.calls a0_3 t564 _ A30.out).mono ?_);rintro e w35 ⟨v565,rfl,ho0,hb⟩;refine ⟨_,rfl,?_⟩;have HO566:=aS (Kd.bf (Kd.cI ho0 (Kd.cK (rel HO563.out))) (ay ar));replace HO563:=aS (Kd.bR (rel HO563.out) (dh ho0) hb);replace BK536:=fA BK536 hb;replace HB:=aM hb;(try clear hb);(try clear hk);(try clear hi);(try clear ho0);obtain ⟨Ao37,co37,eo37⟩:=Kd.bq HO566.out;subst eo37) | ((with_reducible refine eZ (b:=.append) (xs:=#[.tmp 24,.tmp 27]) rfl ?_);at_builtin;refine Kd.fW (Kd.int .u8) (w0:=w) w.heap.size rfl (.tmp 24) (.tmp 27) 51 5 (.int .u8 0) 1 rfl Tryz.underlying51 fE rfl (by decide) (by omega) v562 y561 t564 _ _ _ (fun k_=>some k_≠(.slice Ao37 t564.length co37:Value).ownBlock) (fun _=>False) rfl rfl ?aO ?aR (fun _ _ h=>h) (fun _ h=>h.elim) ?aF ?aB ?aS ?aL ?_;(case aR=>exact eN ((Kd.bh HO566.out).2.2));(case aB=>exact ar);(case aF=>exact (fun k_ hk=>Kd.gP (Kd.cK (rel HO566.out)) k_ hk));(case aO=>exact (rel (Kd.aH HO563.out (fun _ hk=>hk.2))));(case aS=>exact (ay ar));(case aL=>have:=LMc31.out;omega);intro v568 w36 ho hb hg hat;rw [←Ny567.out] at ho;have n0_:=aS (er (g:=gb536) (o:=.cells #[.string a0_0,.string a0_1,.int .i64 a0_2,.string a0_3,.bool false] 34 (0,0)) (eB BK536.out) hg (Kd.jH HO563.out BK536.out (by decide)));have n1_:=aS (Kd.iV (ok:=(fun _=>True)) (rel HO566.out) hg hat);have n2_:=aS (hb);have n3_:=aS (ho);clear BK536;clear HO566;clear HB;clear HO563;have BK536:=n0_;have HO566:=n1_;have HB:=n2_;have HO569:=n3_;clear n0_ n1_ n2_ n3_;clear ho hb hg hat))
        go_ret
        exact ⟨_,dN,by (with_reducible repeat (first | apply Kd.bS | apply Kd.bO | apply Kd.bP));exact Kd.aH HO569.out (fun _ hk=>trivial),ar⟩
       ·
        rw [if_neg c31] at H;exact absurd H (by simp)
      ·
       rw [if_neg c29] at H;exact absurd H (by simp)
structure ah.tO (w:World) (base:Nat) (o:Nat→Prop) (g:Nat) (s1 s2 s3:Int) (x:(List av × Int × List (List (List av × List (List av) × List Int)))) (vl:Value) (lv:List Int) (vm:Value) (m:List av):Prop where
 la:∀ k,o k→base≤k∧k<w.heap.size
 a:aq.At w base o g s1 s2 s3 x.1 x.2.1 x.2.2
 l:Kd.R (Kd.int .i64) 3 w base (fun k=>¬ o k∧some k≠vm.ownBlock) vl lv
 m:Kd.R cC 34 w base (fun k=>¬ o k) vm m
def ah.TE (w:World) (base g:Nat) (s1 s2 s3:Int) (x:(List av × Int × List (List (List av × List (List av) × List Int)))) (vl:Value) (lv:List Int) (vm:Value) (m:List av):Prop:=∃ o,ah.tO w base o g s1 s2 s3 x vl lv vm m
section
variable {w w2:World} {base g:Nat} {s1 s2 s3:Int} {x x':(List av × Int × List (List (List av × List (List av) × List Int)))} {vl vl' vm vm':Value} {lv lv':List Int} {m m':List av} {o:Nat→Prop}
theorem ah.TE.below (h:ah.TE w base g s1 s2 s3 x vl lv vm m) (hb:Below w.heap.size w w2):ah.TE w2 base g s1 s2 s3 x vl lv vm m:=by
 obtain ⟨o,h⟩:=h;exact ⟨o,fun k hk=>⟨(h.la k hk).1,Nat.lt_of_lt_of_le (h.la k hk).2 hb.size⟩,h.a.below hb,Kd.dA h.l hb,Kd.dA h.m hb⟩
theorem ah.TE.new {x:(List av × Int × List (List (List av × List (List av) × List Int)))} (ha:aq.At w base (fun k=>base≤k) g s1 s2 s3 x.1 x.2.1 x.2.2):ah.TE w base g s1 s2 s3 x (.slice none 0 0) [] (.slice none 0 0) []:=⟨_,fun _ hk=>hk,ha.bound,Kd.dX _ _ _ _ _,Kd.dX _ _ _ _ _⟩
theorem ah.tO.put (h:ah.tO w base o g s1 s2 s3 x vl lv vm m) (ha:aq.At w2 base (fun k=>o k∨w.heap.size≤k) g s1 s2 s3 x'.1 x'.2.1 x'.2.2) (hc:aq.fG w w2 o) (hb:base≤w.heap.size):ah.TE w2 base g s1 s2 s3 x' vl lv vm m:=by
 have hn:∀ k,¬ o k→k<w.heap.size→¬ ((o k∨w.heap.size≤k)∧k<w2.heap.size):=fun k h1 h2 h3=>h3.1.elim h1 (Nat.not_le_of_lt h2)
 have ho:∀ k,¬ ((o k∨w.heap.size≤k)∧k<w2.heap.size)→k<w.heap.size→¬ o k:=fun k h1 h2 h3=>h1 ⟨.inl h3,Nat.lt_of_lt_of_le h2 hc.size⟩
 exact ⟨_,fun k hk=>⟨hk.1.elim (fun h1=>(h.la k h1).1) (Nat.le_trans hb),hk.2⟩,ha.bound,Kd.jD (Kd.aH (Kd.ew h.l) (fun k hk=>⟨hn k hk.1.1 hk.2.2.1,hk.1.2⟩)) (fun k hk hlt=>hc.block k hlt (ho k hk.1 hlt)),Kd.jD (Kd.aH (Kd.ew h.m) (fun k hk=>hn k hk.1 hk.2.2.1)) (fun k hk hlt=>hc.block k hlt (ho k hk hlt))⟩
theorem ah.tO.mem (h:ah.tO w base o g s1 s2 s3 x vl lv vm m) (hr:Kd.R cC 34 w2 w.heap.size (fun _=>True) vm' m') (hb:Below w.heap.size w w2) (hge:base≤w.heap.size):ah.TE w2 base g s1 s2 s3 x vl lv vm' m':=
 ⟨o,fun k hk=>⟨(h.la k hk).1,Nat.lt_of_lt_of_le (h.la k hk).2 hb.size⟩,h.a.below hb,Kd.dA (Kd.aH (Kd.ew h.l) (fun k hk=>⟨hk.1.1,fun e=>Nat.not_le_of_lt hk.2.2.1 (Kd.fF hr k e.symm)⟩)) hb,Kd.bf (Kd.aH (Kd.ew hr) (fun k hk ho=>Nat.not_le_of_lt (h.la k ho).2 hk.2.1)) hge⟩
theorem ah.TE.drop (h:ah.TE w base g s1 s2 s3 x vl lv vm m):ah.TE w base g s1 s2 s3 x vl lv (.slice none 0 0) []:=by
 obtain ⟨o,h⟩:=h;exact ⟨o,h.la,h.a,Kd.aH h.l (fun k hk=>⟨hk.1,by simp [Value.ownBlock]⟩),Kd.dX _ _ _ _ _⟩
theorem ah.tO.lit (h:ah.tO w base o g s1 s2 s3 x vl lv vm m) (hr:Kd.R (Kd.int .i64) 3 w2 w.heap.size (fun _=>True) vl' lv') (hb:Below w.heap.size w w2) (hge:base≤w.heap.size):ah.TE w2 base g s1 s2 s3 x vl' lv' vm m:=
 ⟨o,fun k hk=>⟨(h.la k hk).1,Nat.lt_of_lt_of_le (h.la k hk).2 hb.size⟩,h.a.below hb,Kd.bf (Kd.aH (Kd.ew hr) (fun k hk=>⟨fun ho=>Nat.not_le_of_lt (h.la k ho).2 hk.2.1,fun e=>Nat.not_le_of_lt (Kd.cK h.m k e.symm) hk.2.1⟩)) hge,Kd.dA h.m hb⟩
theorem ah.TE.store {gl n c:Nat} (h:ah.TE w base g s1 s2 s3 x (.slice (some ⟨gl,0,none⟩) n c) lv vm m) (j:Nat) (z:Int):ah.TE (w.setCell ⟨gl,j,none⟩ (.int .i64 z)) base g s1 s2 s3 x (.slice (some ⟨gl,0,none⟩) n c) (lv.set j z) vm m:=by
 obtain ⟨o,h⟩:=h;have hl:=h.l.1 gl rfl;have hp:=Kd.Cb h.l (j:Int) z;rw [Int.toNat_natCast] at hp;refine ⟨o,fun k hk=>⟨(h.la k hk).1,by have:=(h.la k hk).2;simpa using this⟩,h.a.step (fun k ho _=>Below.heap_setCell w _ _ k (fun e=>hl.1 (by have e1:k=gl:=e;rw [←e1];exact ho))),hp,?_⟩;exact Kd.aH (Kd.fj (Kd.wX (ok:=fun k=>¬ o k∧k≠gl) rfl h.m (fun k hk=>⟨h.m.1 k hk,fun e=>hl.2 (by rw [←e];exact hk.symm)⟩)) (fun k hk=>hk.2) _) (fun _ hk=>hk.1)
theorem ah.tO.app (h:ah.tO w base o g s1 s2 s3 x vl lv vm m) (hr:Kd.R (Kd.int .i64) 3 w2 base (fun k=>¬ o k∧some k≠vm.ownBlock) vl' lv') (hg:w.grownBy w2 vl.ownBlock):ah.TE w2 base g s1 s2 s3 x vl' lv' vm m:=by
 refine ⟨o,fun k hk=>⟨(h.la k hk).1,Nat.lt_of_lt_of_le (h.la k hk).2 hg.size⟩,h.a.step (fun k ho hlt=>hg.block k hlt (fun e=>(h.l.1 k e.symm).1 ho)),hr,?_⟩;exact Kd.aH (Kd.oO (Kd.wX (ok:=fun k=>¬ o k∧some k≠vl.ownBlock) rfl h.m (fun k hk=>⟨h.m.1 k hk,fun e=>(h.l.1 k e.symm).2 hk.symm⟩)) hg (fun k hk=>hk.2)) (fun _ hk=>hk.1)
end
def ah.zI (fan:Int) (i:Nat) (v:List Int):List Int:=if fan<v.getD i 0 then (if i+1=v.length then v.set i 0++[0] else v.set i 0).set (i+1) 1 else v
def ah.go (fan:Int):Nat→Nat→List Int→Option (List Int)
 | 0,_,_=>none
 | f+1,i,v=>if i<v.length then (if v.length<1099511627776 then ah.go fan f (i+1) (ah.zI fan i v) else none) else some v
def ah.gl (v:List Int):List Int:=if v.length=0 then [0] else v
def ah.inc (v:List Int):List Int:=(ah.gl v).set 0 (wrap64 ((ah.gl v).getD 0 0+1))
def ah.Br (k:Nat) (s1 fan n:Int) (m:List av) (v:List Int):Option (List av × List Int):=if s1≤n then (ah.go fan k 0 (ah.inc v)).bind fun q=>some ([],q) else some (m,v)
def ah.rP (k:Nat):List av→Int→Option Int
 | [],n=>some n
 | c :: r,n=>(bk.f k c.f0 c.f1 c.f2 c.f3 c.f4).bind fun b=>ah.rP k r (wrap64 (n+b.length))
def ah.lp (k:Nat) (s1 s2 s3:Int):List av→(List av × Int × List (List (List av × List (List av) × List Int)))→List av→List Int→Option Bool
 | [],_,_,_=>some true
 | c :: r,x,m,v=>(aD.f k m c.f0 c.f1 c.f2 c.f3 c.f4).bind fun m1=>(ah.rP k m1 0).bind fun n=>(ah.Br k s1 s3 n m1 v).bind fun q=>(cB.f k s1 s2 s3 x.1 x.2.1 x.2.2 c.f0 c.f1 c.f2 c.f3 c.f4).bind fun p=>if m1.length<1099511627776∧p.2.2.2=0∧p.2.2.1.length<1099511627776∧(p.2.2.1.map fun l=>(l.length:Int))=q.2 then ah.lp k s1 s2 s3 r (p.1,p.2.1,p.2.2.1) q.1 q.2 else none
def ah.main (k:Nat) (s1 s2 s3:Int) (l:List av):Option Bool:=
 (aq.f s1 s2 s3).bind fun p=>if p=true then ah.lp k s1 s2 s3 l ([],0,[]) [] [] else none
def ah.f (k:Nat) (s1 s2 s3:Int) (l:List av):Option Bool:=
 (cO.f k).bind fun w=>if w=true then (bQ.f k l).bind fun o=>(gb.f s1 s2 s3).bind fun p=>if (o && !decide (40<l.length) && p)=true then ah.main k s1 s2 s3 l else some true else none
theorem ah.ways {a b c:Bool} (h:¬ (a && !b && c)=true):a=false∨(a=true∧b=true)∨(a=true∧b=false∧c=false):=by
 revert h
 cases a<;>cases b<;>cases c<;>decide
theorem ah.way {a b c:Bool} (h:(a && !b && c)=true):a=true∧b=false∧c=true:=by
 revert h
 cases a<;>cases b<;>cases c<;>decide
theorem ah.zx (fan:Int):∀ f i v,aE (ah.go fan f i v) (ah.go fan (f+1) i v)
 | 0,_,_=>aE.none _
 | f+1,_,_=>aE.ite (aE.ite (ah.zx fan f _ _) (aE.refl _)) (aE.refl _)
theorem ah.xq (k:Nat):∀ l n,aE (ah.rP k l n) (ah.rP (k+1) l n)
 | [],_=>aE.refl _
 | _ :: r,_=>aE.bind (bk.mono _ _ _ _ _ _) fun _=>ah.xq k r _
theorem ah.lQ (k:Nat) (s1 s2 s3:Int):∀ l x m v,aE (ah.lp k s1 s2 s3 l x m v) (ah.lp (k+1) s1 s2 s3 l x m v)
 | [],_,_,_=>aE.refl _
 | c :: r,_,_,_=>aE.bind (aD.mono _ _ _ _ _ _ _) fun _=>aE.bind (ah.xq _ _ _) fun _=>aE.bind (aE.ite (aE.bind (ah.zx _ _ _ _) fun _=>aE.refl _) (aE.refl _)) fun _=>aE.bind (cB.mono _ _ _ _ _ _ _ _ _ _ _ _) fun _=>aE.ite (ah.lQ k s1 s2 s3 r _ _ _) (aE.refl _)
theorem ah.mono:∀ a0 a1 a2 a3 k,aE (ah.f k a0 a1 a2 a3) (ah.f (k+1) a0 a1 a2 a3):=fun _ _ _ _ _=>aE.bind (cO.mono _) fun _=>aE.ite (aE.bind (bQ.mono _ _) fun _=>aE.bind (aE.refl _) fun _=>aE.ite (aE.bind (aE.refl _) fun _=>aE.ite (ah.lQ _ _ _ _ _ _ _ _) (aE.refl _)) (aE.refl _)) (aE.refl _)
theorem ah.dr {l:List av} {i:Nat} (hlt:i<l.length):l.drop i=af l (i:Int) :: l.drop (i+1):=by
 rw [List.drop_eq_getElem_cons hlt]
 unfold af
 rw [Int.toNat_natCast,List.getD_eq_getElem?_getD,List.getElem?_eq_getElem hlt]
 rfl
theorem ah.ix {gl n c i:Nat} (h:i<n):∀ W:World,(Instr.indexAt 50 (.slice (some ⟨gl,0,none⟩) n c) (.int .i64 (i:Int))).run Tryz.prog W = .ok (.pointer (some ⟨gl,i,none⟩)) W:=by
 obtain ⟨i0,hi0,hz⟩:=Option.map_eq_some_iff.1 info3
 simp only [Prod.mk.injEq] at hz
 have:=ye 50 3 Tryz.underlying50 hi0 1 hz.2.1 gl n c (i:Int) (by omega) (by omega)
 simpa using this
theorem ah.calls (k:Nat) (s1 s2 s3:Int) (A0:Option Addr) (cp:Nat) (l:List av) (r:Bool) (w:World) (hr0:Kd.C cC w A0 l.length l) (hc0:l.length≤cp) (h:ah.f k s1 s2 s3 l=some r) :
  Calls Tryz.prog 4 #[.agg #[.int .i64 s1,.int .i64 s2,.int .i64 s3],.slice A0 l.length cp] w fun e w'=>e = .returned (.bool r)∧Below w.heap.size w w':=by
 have hu23:=Tryz.underlying23;have hu24:=Tryz.underlying32;have hu26:=Tryz.underlying34;have hu30:=Tryz.underlying27;have hu43:=Tryz.underlying50;have HR0:=aS hr0;have HC:=aS hc0;have H:=aS h;clear hr0 hc0 h
 go_enter Tryz.func4,Tryz.ntmps4
 refine wp_seq_k (fun K_ hK_=>?_)
 go_cut [2,4] (fun v2 v4 wc=>∃ p2:Nat,v2 = .pointer (some ⟨p2,0,none⟩)∧v4 = .bool false∧ak (wc.heap[p2]? = some (.cells #[.int .i64 s1,.int .i64 s2,.int .i64 s3] 23 (0,0)))∧ak (Below w.heap.size w wc))
 case first=>
  clear H
  go_wp2_with (first | ((with_reducible refine aX (N:=2) rfl ?_);refine aY ?hg (N:=2) ?hd (cs:=#[.int .i64 s1,.int .i64 s2,.int .i64 s3]) (t:=23) ?hr ?_;(case hd=>rfl);(case hg=>rfl);(case hr=>(first | (go_simp;done) | (go_simp;rfl)));intro p2 hg w4_ hb hbl;have B2:=aS hb;have HB:=aS hbl;clear hg hb hbl))
  go_meet
  case rel=>exact ⟨p2,rfl,rfl,B2,HB⟩
 obtain ⟨p2,rfl,rfl,B2,HB0⟩:=hcut
 rename World=>w0
 refine hK_ _ _ ?_;have HR:=aS (Kd.cW HR0.out HB0.out);have HB:=aS (Below.refl w0.heap.size w0);have q2:=iC B2;have h:=H.out;clear H HR0
 unfold ah.f at h
 replace h:=bV h;obtain ⟨t,x1,h⟩:=h
 cases t with
 | false=>rw [if_neg Bool.false_ne_true] at h;cases h
 | true=>
 rw [if_pos rfl] at h;replace h:=bV h;obtain ⟨o,x2,h⟩:=h;replace h:=bV h;obtain ⟨p,x3,h⟩:=h;have X1:=aS x1;have X2:=aS x2;have X3:=aS x3
 have z40:decide ((40:Int)<(l.length:Int))=decide (40<l.length):=by rw [Bool.eq_iff_iff,decide_eq_true_iff,decide_eq_true_iff];omega
 clear x1 x2 x3
 by_cases hg:(o && !decide (40<l.length) && p)=true
 case neg=>
  rw [if_neg hg] at h
  obtain rfl:=Option.some.inj h
  clear h
  rcases ah.ways hg with rfl | ⟨rfl,y1⟩ | ⟨rfl,y1,rfl⟩<;>(clear hg;go_wp2_with (first | (go_at_call 6;(with_reducible refine (cO.calls k true _ X1.out).mono ?_);rintro e_ w1_ ⟨rfl,hb⟩;have n1_:=aS (aN HB.out hb);clear HB hb q2;have HB:=n1_;clear n1_;have q2:=iC (aS (aK B2.out HB.out))) | (go_at_call 20;(with_reducible refine (bQ.calls k A0 cp l _ _ (Kd.cW HR.out HB.out) HC.out X2.out).mono ?_);rintro e_ w1_ ⟨rfl,hb⟩;have n1_:=aS (aN HB.out hb);clear HB hb q2;have HB:=n1_;clear n1_;have q2:=iC (aS (aK B2.out HB.out))) | (go_at_call 9;(with_reducible refine (gb.calls s1 s2 s3 _ _ X3.out).mono ?_);rintro e_ w1_ ⟨rfl,hb⟩;have n1_:=aS (aN HB.out hb);clear HB hb q2;have HB:=n1_;clear n1_;have q2:=iC (aS (aK B2.out HB.out))));go_ret;exact ⟨rfl,aN HB0.out HB.out⟩)
 rw [if_pos hg] at h;obtain ⟨rfl,y1,rfl⟩:=ah.way hg;have HLM:ak (l.length≤40):=aS (Nat.le_of_not_lt (of_decide_eq_false y1))
 unfold ah.main at h
 replace h:=bV h;obtain ⟨a,x5,h⟩:=h
 split at h
 case isFalse=>cases h
 rename_i hab
 obtain rfl:=hab
 have X5:=aS x5;have X7:=aS h;clear x5 h hg
 go_wp2_with (first | (go_at_call 6;(with_reducible refine (cO.calls k true _ X1.out).mono ?_);rintro e_ w1_ ⟨rfl,hb⟩;have n1_:=aS (aN HB.out hb);clear HB hb q2;have HB:=n1_;clear n1_;have q2:=iC (aS (aK B2.out HB.out))) | (go_at_call 20;(with_reducible refine (bQ.calls k A0 cp l _ _ (Kd.cW HR.out HB.out) HC.out X2.out).mono ?_);rintro e_ w1_ ⟨rfl,hb⟩;have n1_:=aS (aN HB.out hb);clear HB hb q2;have HB:=n1_;clear n1_;have q2:=iC (aS (aK B2.out HB.out))) | (go_at_call 9;(with_reducible refine (gb.calls s1 s2 s3 _ _ X3.out).mono ?_);rintro e_ w1_ ⟨rfl,hb⟩;have n1_:=aS (aN HB.out hb);clear HB hb q2;have HB:=n1_;clear n1_;have q2:=iC (aS (aK B2.out HB.out))) | (go_at_call 8;(with_reducible refine (aq.calls s1 s2 s3 true _ X5.out).mono ?_);rintro e_ w2 ⟨hb,_,ht⟩;obtain ⟨g,rfl,ht2⟩:=ht rfl;have HT:=aS (ht2.EG HB.out.size);clear ht ht2;have n1_:=aS (aN HB.out hb);clear HB hb q2;have HB:=n1_;clear n1_;have q2:=iC (aS (aK B2.out HB.out))))
 clear q2 X1 X2 X3 X5 z40 y1
 go_loopw [7,8,9] (fun v7 v8 v9 wr=>∃ (i:Nat) (x:(List av × Int × List (List (List av × List (List av) × List Int)))) (lv:List Int) (m:List av) (A7:Option Addr) (c7:Nat) (A8:Option Addr) (c8:Nat),v9 = .int .i64 (i:Int)∧v7 = .slice A7 lv.length c7∧v8 = .slice A8 m.length c8∧ak (i≤l.length)∧ak (ah.lp k s1 s2 s3 (l.drop i) x m lv=some r)∧ak (ah.TE wr w0.heap.size g s1 s2 s3 x (.slice A7 lv.length c7) lv (.slice A8 m.length c8) m)∧ak (Below w0.heap.size w0 wr)) (fun _ _ i _=>l.length - (intOf i).toNat)
 case atStart=>exact ⟨0,([],0,[]),[],[],none,0,none,0,rfl,rfl,rfl,⟨Nat.zero_le _⟩,X7,⟨ah.TE.new HT.out⟩,HB⟩
 clear X7 HT HB
 case round=>
  obtain ⟨i,x,lv,m,A7,c7,A8,c8,rfl,rfl,rfl,hi,HP,HT,HB⟩:=hrel
  by_cases hlt:i<l.length
  ·
   have hq1:(i:Int)<(l.length:Int):=by omega
   have hq0:(0:Int)≤(i:Int):=by omega
   obtain ⟨ad,e_,_⟩:=eT (Kd.cW HR.out HB.out) (i:Int) hq0 hq1;subst e_
   obtain ⟨c,hc⟩:∃ c,c=af l (i:Int):=⟨_,rfl⟩
   have HXF:ak (∀ w',Below w0.heap.size w0 w'→w'.cell? (ad.add (i*5))=some (.string c.f0)∧w'.cell? ⟨(ad.add (i*5)).block,(ad.add (i*5)).off+1,none⟩=some (.string c.f1)∧w'.cell? ⟨(ad.add (i*5)).block,(ad.add (i*5)).off+2,none⟩=some (.int .i64 c.f2)∧w'.cell? ⟨(ad.add (i*5)).block,(ad.add (i*5)).off+3,none⟩=some (.string c.f3)∧w'.cell? ⟨(ad.add (i*5)).block,(ad.add (i*5)).off+4,none⟩=some (.bool c.f4)):=aS (fun w' hb=>by
    obtain ⟨ad',e',hc'⟩:=eT (Kd.cW HR.out hb) (i:Int) hq0 hq1
    injection e' with e'
    subst e'
    rw [Int.toNat_natCast,← hc] at hc'
    exact hc')
   have ha:=HP.out;rw [ah.dr hlt,← hc] at ha
   unfold ah.lp at ha
   replace ha:=bV ha;obtain ⟨m1,y1,ha⟩:=ha;replace ha:=bV ha;obtain ⟨n1,y2,ha⟩:=ha;replace ha:=bV ha;obtain ⟨⟨m2,lv2⟩,y3,ha⟩:=ha;replace ha:=bV ha;obtain ⟨⟨p1,p2,p3,p4'⟩,y4,ha⟩:=ha
   split at ha
   case isFalse=>cases ha
   rename_i hv
   obtain ⟨hm1,hv1,hv2,hv3⟩:=hv;replace hv1:p4'=0:=hv1;subst hv1;have Y1:=aS y1;have Y2:=aS y2;have Y3:=aS y3;have Y4:=aS y4;have HM1:=aS hm1;have HV2:ak (p3.length<1099511627776):=aS hv2;have HV3:ak ((p3.map fun l=>(l.length:Int))=lv2):=aS hv3;have HP1:=aS ha
   have hix:∀ W:World,(Instr.indexAt 32 (.slice (some ad) l.length cp) (.int .i64 (i:Int))).run Tryz.prog W = .ok (.pointer (some (ad.add (i*5)))) W:=by
    obtain ⟨i0,hi0,hz⟩:=Option.map_eq_some_iff.1 fe
    simp only [Prod.mk.injEq] at hz
    intro W
    have h1:=gH 32 34 hu24 hi0 5 hz.2.1 ad l.length cp (i:Int) (by omega) (by omega) W
    rwa [Int.toNat_natCast] at h1
   have hwr:wrap64 ((i:Int)+1)=(i:Int)+1:=by rw [←bC,IntKind.wrap_i64];have:=HLM.out;omega
   have HWR:=aS hwr;clear hc hi hq0 HP y1 y2 y3 y4 hm1 hv2 hv3 ha hwr;refine wp_seq_k (fun Ka_ hKa_=>?_)
   go_cut [] (fun wc=>ak (ah.TE wc w0.heap.size g s1 s2 s3 x (.slice A7 lv.length c7) lv (.slice A8 m.length c8) m)∧ak (Below w0.heap.size w0 wc))
   case first=>
    go_wp2
    go_meet
    case rel=>exact ⟨HT,HB⟩
   clear HT HB;obtain ⟨HT,HB⟩:=hcut
   rename World=>wa
   refine hKa_ _ _ ?_;refine wp_seq_k (fun Kb_ hKb_=>?_);refine wp_block ?_;refine wp_seq_k (fun K1_ hK1_=>?_)
   go_cut [8] (fun v8 wc=>∃ (A9:Option Addr) (c9:Nat),v8 = .slice A9 m1.length c9∧ak (ah.TE wc w0.heap.size g s1 s2 s3 x (.slice A7 lv.length c7) lv (.slice A9 m1.length c9) m1)∧ak (Below w0.heap.size w0 wc))
   case first=>
    obtain ⟨hx0,hx1,hx2,hx3,hx4⟩:=HXF.out _ HB.out
    go_wp2_with (first | (go_at_call 11;obtain ⟨o_,T_⟩:=HT.out;obtain ⟨A_,c_,e_,hl_,hC_⟩:=Kd.fT T_.m;injection e_ with e1_ e2_ e3_;subst e1_ e3_;(with_reducible refine (aD.calls k A8 c8 m c.f0 c.f1 c.f2 c.f3 c.f4 m1 _ hC_ hl_ Y1.out).mono ?_);rintro r_ w2 ⟨v_,rfl,ho,hb⟩;obtain ⟨A9,c9,rfl,_⟩:=Kd.fT ho;have HT1:=aS (T_.mem ho hb HB.out.size);have HB1:=aS (aN HB.out hb);clear ho hb T_ hC_ hl_ e2_ hx0 hx1 hx2 hx3 hx4))
    go_meet
    case rel=>exact ⟨A9,c9,rfl,HT1,HB1⟩
   clear HT HB Y1;obtain ⟨A8,c8,rfl,HT,HB⟩:=hcut
   rename World=>w1
   refine hK1_ _ _ ?_;refine wp_seq_k (fun K2_ hK2_=>?_)
   go_cut [10] (fun v10 wc=>v10 = .int .i64 0∧ak (ah.TE wc w0.heap.size g s1 s2 s3 x (.slice A7 lv.length c7) lv (.slice A8 m1.length c8) m1)∧ak (Below w0.heap.size w0 wc))
   case first=>
    go_wp2
    go_meet
    case rel=>exact ⟨rfl,HT,HB⟩
   clear HT HB;obtain ⟨rfl,HT,HB⟩:=hcut
   rename World=>wb
   refine hK2_ _ _ ?_;refine wp_seq_k (fun K3_ hK3_=>?_)
   go_cut [10] (fun v10 wc=>v10 = .int .i64 n1∧ak (ah.TE wc w0.heap.size g s1 s2 s3 x (.slice A7 lv.length c7) lv (.slice A8 m1.length c8) m1)∧ak (Below w0.heap.size w0 wc))
   case first=>
    go_wp2
    go_loopw [10,11] (fun v10 v11 wq=>∃ (j:Nat) (n:Int),v11 = .int .i64 (j:Int)∧v10 = .int .i64 n∧ak (j≤m1.length)∧ak (ah.rP k (m1.drop j) n=some n1)∧ak (ah.TE wq w0.heap.size g s1 s2 s3 x (.slice A7 lv.length c7) lv (.slice A8 m1.length c8) m1)∧ak (Below w0.heap.size w0 wq)) (fun _ j _=>m1.length - (intOf j).toNat)
    case atStart=>exact ⟨0,0,rfl,rfl,⟨Nat.zero_le _⟩,Y2,HT,HB⟩
    clear HT HB
    case round=>
     obtain ⟨j,n,rfl,rfl,hj,HS,HT,HB⟩:=hrel
     by_cases hjl:j<m1.length
     ·
      have hq1:(j:Int)<(m1.length:Int):=by omega
      have hq0:(0:Int)≤(j:Int):=by omega
      obtain ⟨o_,T_⟩:=HT.out;obtain ⟨A_,c_,e_,hl_,hC_⟩:=Kd.fT T_.m
      injection e_ with e1_ e2_ e3_
      subst e1_ e3_
      obtain ⟨am,e_,hx0,hx1,hx2,hx3,hx4⟩:=eT hC_ (j:Int) hq0 hq1;subst e_
      obtain ⟨d,hd⟩:∃ d,d=af m1 (j:Int):=⟨_,rfl⟩
      rw [←hd] at hx0 hx1 hx2 hx3 hx4;rw [Int.toNat_natCast] at hx0 hx1 hx2 hx3 hx4;have ha:=HS.out;rw [ah.dr hjl,← hd] at ha
      unfold ah.rP at ha
      replace ha:=bV ha;obtain ⟨bb,z1,ha⟩:=ha;have Z1:=aS z1;have HS1:=aS ha
      have hiy:∀ W:World,(Instr.indexAt 32 (.slice (some am) m1.length c8) (.int .i64 (j:Int))).run Tryz.prog W = .ok (.pointer (some (am.add (j*5)))) W:=by
       obtain ⟨i0,hi0,hz⟩:=Option.map_eq_some_iff.1 fe
       simp only [Prod.mk.injEq] at hz
       intro W
       have h1:=gH 32 34 hu24 hi0 5 hz.2.1 am m1.length c8 (j:Int) (by omega) (by omega) W
       rwa [Int.toNat_natCast] at h1
      have hwj:wrap64 ((j:Int)+1)=(j:Int)+1:=by rw [←bC,IntKind.wrap_i64];have:=HM1.out;omega
      clear hix hd ha z1 hj hq0 T_ hC_ hl_ e2_ HS
      go_wp2_with (first | (go_at_call 21;(with_reducible refine (bk.calls k d.f0 d.f1 d.f2 d.f3 d.f4 bb _ Z1.out).mono ?_);rintro r_ w2 ⟨v_,rfl,ho,hb⟩;obtain ⟨A9,c9,rfl,_⟩:=Kd.fT ho;have n1_:=aS (HT.out.below hb);have n2_:=aS (aN HB.out hb);clear ho hb HT HB hx0 hx1 hx2 hx3 hx4;have HT:=n1_;have HB:=n2_;clear n1_ n2_))
      go_roundw
      case rel=>exact ⟨j+1,wrap64 (n+bb.length),by rw [hwj];rfl,rfl,⟨hjl⟩,HS1,HT,HB⟩
      case measure=>exact ja hwj hjl
     ·
      have hge:¬ ((j:Int)<(m1.length:Int)):=by omega
      have ha:=HS.out;rw [List.drop_eq_nil_of_le (by omega)] at ha
      obtain rfl:=Option.some.inj ha
      clear ha HS hj
      go_wp2
      go_meet
      case rel=>exact ⟨rfl,HT,HB⟩
   clear HT HB Y2;obtain ⟨rfl,HT,HB⟩:=hcut
   rename World=>w2
   refine hK3_ _ _ ?_;refine wp_seq_k (fun K4_ hK4_=>?_)
   go_cut [7,8] (fun v7 v8 wc=>∃ (A7:Option Addr) (c7:Nat) (A8:Option Addr) (c8:Nat),v7 = .slice A7 lv2.length c7∧v8 = .slice A8 m2.length c8∧ak (ah.TE wc w0.heap.size g s1 s2 s3 x (.slice A7 lv2.length c7) lv2 (.slice A8 m2.length c8) m2)∧ak (Below w0.heap.size w0 wc))
   case first=>
    clear hix;have q2:=iC (aS (aK B2.out HB.out));have h3:=Y3.out
    unfold ah.Br at h3
    by_cases hs:s1≤n1
    rotate_left
    ·
     rw [if_neg hs] at h3
     obtain h3:=Option.some.inj h3
     simp only [Prod.mk.injEq] at h3
     obtain ⟨rfl,rfl⟩:=h3;have hs1:decide (s1≤n1)=false:=decide_eq_false hs;clear Y3
     go_wp2
     go_meet
     case rel=>exact ⟨_,_,_,_,rfl,rfl,HT,HB⟩
    rw [if_pos hs] at h3;replace h3:=bV h3;obtain ⟨q_,y3,h3⟩:=h3
    obtain h3:=Option.some.inj h3
    simp only [Prod.mk.injEq] at h3
    obtain ⟨rfl,hq_⟩:=h3;rw [hq_] at y3;have hs1:decide (s1≤n1)=true:=decide_eq_true hs;have Y5:=aS y3;clear Y3 y3 hs hq_;refine wp_seq_k (fun K5_ hK5_=>?_)
    go_cut [73] (fun v73 wc=>v73 = .bool true∧ak (ah.TE wc w0.heap.size g s1 s2 s3 x (.slice A7 lv.length c7) lv (.slice A8 m1.length c8) m1)∧ak (Below w0.heap.size w0 wc))
    case first=>
     go_wp2
     go_meet
     case rel=>exact ⟨by first | rfl | (rw [hs1]) | (simp [hs1]),HT,HB⟩
    clear q2 hs1 HT HB;obtain ⟨rfl,HT,HB⟩:=hcut
    rename World=>wd
    refine hK5_ _ _ ?_;refine wp_cond_true rfl ?_;refine wp_seq_k (fun K6_ hK6_=>?_)
    go_cut [8] (fun v8 wc=>v8 = .slice none 0 0∧ak (ah.TE wc w0.heap.size g s1 s2 s3 x (.slice A7 lv.length c7) lv (.slice none 0 0) [])∧ak (Below w0.heap.size w0 wc))
    case first=>
     go_wp2
     go_meet
     case rel=>exact ⟨rfl,⟨ah.TE.drop HT.out⟩,HB⟩
    clear HT HB;obtain ⟨rfl,HT,HB⟩:=hcut
    rename World=>we
    refine hK6_ _ _ ?_;refine wp_seq_k (fun K7_ hK7_=>?_)
    obtain ⟨lg,hlg⟩:∃ y,y=ah.gl lv:=⟨_,rfl⟩
    have HLG:=aS hlg
    have hgp:0<lg.length:=by
     rw [hlg]
     unfold ah.gl
     split
     ·
      exact Nat.zero_lt_one
     ·
      omega
    go_cut [7] (fun v7 wc=>∃ (gl:Nat) (c7:Nat),v7 = .slice (some ⟨gl,0,none⟩) lg.length c7∧ak (ah.TE wc w0.heap.size g s1 s2 s3 x (.slice (some ⟨gl,0,none⟩) lg.length c7) lg (.slice none 0 0) [])∧ak (Below w0.heap.size w0 wc))
    case first=>
     by_cases he:lv.length=0
     ·
      have HE:ak (lg=[0]):=aS (by rw [hlg];unfold ah.gl;rw [if_pos he]);obtain ⟨he1,he2⟩:=jE (show (lv.length:Int)=0 by omega);clear he hlg hgp
      go_wp2
      obtain ⟨o_,T_⟩:=HT.out;have ho:=aq.uL (Kd.int .i64) (W:=we) (base:=we.heap.size) (e:=3) (xs:=[(0:Int)]) (inner:=[.int .i64 0]) (okp:=fun _=>True) (show bH ((Kd.int .i64).M we we.heap.size (fun _=>True)) 1 [(0:Int)] [.int .i64 0] from bH.one rfl (bH.none _ _)) (Nat.le_refl _) (by decide);have hal:=tQ (Below.refl we.heap.size we) (.cells #[.int .i64 0] 3 (0,0));have HT1:=aS (T_.lit ho hal HB.out.size);have HB1:=aS (aN HB.out hal);clear ho hal T_
      have HLL:lg.length=1:=by rw [HE.out];rfl
      go_meet
      case rel=>exact ⟨_,1,by rw [HLL],⟨by rw [HLL,HE.out];exact HT1.out⟩,HB1⟩
     ·
      have HE:lg=lv:=by rw [hlg];unfold ah.gl;rw [if_neg he]
      obtain ⟨he1,he2⟩:=ju (show ¬ (lv.length:Int)=0 by omega);subst HE;obtain ⟨o_,T_⟩:=HT.out;obtain ⟨gl,cl,e_,_,_,_⟩:=Kd.kp T_.l hgp
      injection e_ with e1_ e2_ e3_
      subst e1_ e3_
      clear he hlg hgp T_ e2_
      go_wp2
      go_meet
      case rel=>exact ⟨gl,_,rfl,HT,HB⟩
    clear HT HB hlg;obtain ⟨gl,cl,rfl,HT,HB⟩:=hcut
    rename World=>w3
    refine hK7_ _ _ ?_;refine wp_seq_k (fun K8_ hK8_=>?_)
    obtain ⟨li,hli⟩:∃ y,y=ah.inc lv:=⟨_,rfl⟩
    have HLI:ak (li=lg.set 0 (wrap64 (lg.getD 0 0+1))):=aS (by rw [hli];unfold ah.inc;rw [←HLG.out])
    have hlen:li.length=lg.length:=by rw [HLI.out,List.length_set]
    have HGE:ak (w0.heap.size≤gl):=aS (by obtain ⟨o_,T_⟩:=HT.out;exact Kd.fF T_.l gl rfl);rw [←hli] at Y5
    go_cut [] (fun wc=>ak (ah.TE wc w0.heap.size g s1 s2 s3 x (.slice (some ⟨gl,0,none⟩) lg.length cl) li (.slice none 0 0) [])∧ak (Below w0.heap.size w0 wc))
    case first=>
     obtain ⟨o_,T_⟩:=HT.out;have hcf:=Kd.m8 (enc:=Value.int .i64) (d:=(0:Int)) T_.l ((0:Nat):Int) (by omega) (by omega);obtain ⟨hce,hfr⟩:=hcf
     obtain ⟨z,hz⟩:∃ z:Int,z=lg.getD 0 0:=⟨_,rfl⟩
     have hce1:w3.cell? ⟨gl,0,none⟩=some (.int .i64 z):=by rw [hz];exact hce
     have hfr1:w3.frozen? ⟨gl,0,none⟩=false:=hfr;have hixl:=ah.ix (gl:=gl) (c:=cl) hgp;rw [Int.natCast_zero] at hixl;have HZ:=aS hz;clear hce hfr hz T_ hli hlen
     go_wp2
     go_meet
     case rel=>exact ⟨⟨by rw [HLI.out,← HZ.out];exact ah.TE.store HT.out 0 _⟩,⟨HB.out.setCell (p:=⟨gl,0,none⟩) HGE.out _⟩⟩
    clear HT HB hli;obtain ⟨HT,HB⟩:=hcut
    rename World=>w4
    rw [←hlen] at HT ⊢;refine hK8_ _ _ ?_;clear hlen hgp HLI HLG HGE
    go_wp2
    go_loopg [7,12] k (fun kq v7 v12 wq=>∃ (j:Nat) (v:List Int) (A7:Option Addr) (c7:Nat),v12 = .int .i64 (j:Int)∧v7 = .slice A7 v.length c7∧ak (ah.go s3 kq j v=some lv2)∧ak (ah.TE wq w0.heap.size g s1 s2 s3 x (.slice A7 v.length c7) v (.slice none 0 0) [])∧ak (Below w0.heap.size w0 wq))
    case atStart=>exact ⟨0,li,_,_,rfl,rfl,Y5,HT,HB⟩
    clear HT HB Y5
    case round=>
     obtain ⟨j,v,A7,c7,rfl,rfl,HS,HT,HB⟩:=hrel
     cases gk with
     | zero=>exact absurd HS.out (by simp [ah.go])
     | succ kq=>
      have ha:=HS.out
      unfold ah.go at ha
      by_cases hjl:j<v.length
      rotate_left
      ·
       rw [if_neg hjl] at ha
       obtain rfl:=Option.some.inj ha
       have hge:¬ ((j:Int)<(v.length:Int)):=by omega
       clear ha HS
       go_wp2
       go_meet
       case rel=>exact ⟨_,_,none,0,rfl,rfl,HT,HB⟩
      rw [if_pos hjl] at ha
      split at ha
      case isFalse=>cases ha
      rename_i hvl
      have HVL:=aS hvl
      have hq1:(j:Int)<(v.length:Int):=by omega
      obtain ⟨o_,T_⟩:=HT.out;obtain ⟨gq,cq,e_,_,_,_⟩:=Kd.kp T_.l (by omega)
      injection e_ with e1_ e2_ e3_
      subst e1_ e3_
      obtain ⟨hce,hfr⟩:=Kd.m8 (enc:=Value.int .i64) (d:=(0:Int)) T_.l (j:Int) (by omega) (by omega);rw [Int.toNat_natCast] at hce hfr
      obtain ⟨z,hz⟩:∃ z:Int,z=v.getD j 0:=⟨_,rfl⟩
      have hce1:wr.cell? ⟨gq,j,none⟩=some (.int .i64 z):=by rw [hz,hce];unfold mo;rw [Int.toNat_natCast]
      have HGE:ak (w0.heap.size≤gq):=aS (Kd.fF T_.l gq rfl);have hixl:=ah.ix (gl:=gq) (c:=c7) hjl;have q2:=iC (aS (aK B2.out HB.out))
      have hwj:wrap64 ((j:Int)+1)=(j:Int)+1:=by rw [←bC,IntKind.wrap_i64];have:=HVL.out;omega
      clear hce HS e2_ hvl
      by_cases hf:s3<z
      ·
       have HS1:ak (ah.go s3 kq (j+1) ((if j+1=v.length then v.set j 0++[0] else v.set j 0).set (j+1) 1)=some lv2):=aS (by rw [←ha];unfold ah.zI;rw [←hz,if_pos hf]);have d1:decide (s3<z)=true:=decide_eq_true hf;clear ha hz T_ hf
       go_upto_region 25 with (fail)
       go_quiet (fail)
       go_upto_region 27 with (fail)
       generalize hw_:World.setCell _ _ _=w6
       have HT6:ak (ah.TE w6 w0.heap.size g s1 s2 s3 x (.slice (some ⟨gq,0,none⟩) v.length c7) (v.set j 0) (.slice none 0 0) []):=aS (hw_▸(HT.out.below (vD (Below.refl _ _) _)).store j 0);have HB6:ak (Below w0.heap.size w0 w6):=aS (hw_▸(vD HB.out _).setCell (p:=⟨gq,j,none⟩) HGE.out _);clear hw_ HT HB q2 hce1 hfr hixl d1
       obtain ⟨u,hu⟩:∃ u,u=v.set j 0:=⟨_,rfl⟩
       rw [←hu] at HT6 HS1
       have hul:u.length=v.length:=by rw [hu,List.length_set]
       clear hu
       by_cases hl1:j+1=v.length
       ·
        obtain ⟨he1,he2⟩:=jE (show (j:Int)+1=(v.length:Int) by omega);rw [if_pos hl1] at HS1;obtain ⟨o_,T_⟩:=HT6.out;have HTR:=aS T_;clear T_
        have hlim:u.length<1099511627776:=by rw [hul];exact HVL.out
        have HLIM:=aS hlim;clear hlim
        go_upto_region 29 with (first | (at_builtin;refine Kd.gC (Kd.int .i64) (w0:=w0) w0.heap.size rfl _ _ 50 3 (.int .i64 0) 8 rfl hu43 info3 rfl (by decide) (by decide) (.slice (some ⟨gq,0,none⟩) v.length c7) u (0:Int) [.int .i64 0] (fun k=>¬ o_ k∧some k≠(Value.slice none 0 0).ownBlock) (fun _=>False) rfl rfl rfl (fun _ hk=>hk.elim) (fun k hk=>⟨fun ho=>Nat.not_le_of_lt (HTR.out.la _ ho).2 (by omega),by simp [Value.ownBlock]⟩) HTR.out.l HB6.out HB6.out.size (by have:=HLIM.out;omega) ?_;intro v8 w7 ho hb hg hat;have HO7:=aS ho;have HB7:=aS hb;have HT7:=aS (HTR.out.app ho hg);clear ho hb hg hat HT6 HB6))
        obtain ⟨u2,hu2⟩:∃ y,y=u++[0]:=⟨_,rfl⟩
        have hu2l:u2.length=v.length+1:=by rw [hu2,List.length_append,List.length_singleton,hul]
        rw [←hu2] at HO7 HT7 HS1;obtain ⟨g7,c9,rfl,_,_,_⟩:=Kd.kp HO7.out (by omega);obtain ⟨hce,hfr⟩:=Kd.m8 (enc:=Value.int .i64) (d:=(0:Int)) HO7.out ((j+1:Nat):Int) (by omega) (by omega);rw [Int.toNat_natCast] at hce hfr
        obtain ⟨z2,hz2⟩:∃ z:Int,z=mo 0 u2 ((j+1:Nat):Int):=⟨_,rfl⟩
        rw [←hz2] at hce;have HGE7:ak (w0.heap.size≤g7):=aS (Kd.fF HO7.out g7 rfl);have hixl:=ah.ix (gl:=g7) (n:=u2.length) (c:=c9) (i:=j+1) (by omega);rw [Int.natCast_succ] at hixl;clear hu2 hz2 HO7 HTR hl1 hu2l hul
        go_wp2
        go_roundg kq
        case measure=>exact Nat.lt_succ_self _
        case rel=>exact ⟨j+1,_,some ⟨g7,0,none⟩,c9,by first | rfl | (rw [hwj];rfl),by rw [List.length_set],HS1,⟨by rw [List.length_set];exact ah.TE.store HT7.out (j+1) 1⟩,⟨HB7.out.setCell (p:=⟨g7,j+1,none⟩) HGE7.out _⟩⟩
       ·
        obtain ⟨he1,he2⟩:=ju (show ¬ (j:Int)+1=(v.length:Int) by omega);rw [if_neg hl1] at HS1
        have hj1:j+1<v.length:=by omega
        obtain ⟨o_,T_⟩:=HT6.out;obtain ⟨hce,hfr⟩:=Kd.m8 (enc:=Value.int .i64) (d:=(0:Int)) T_.l ((j+1:Nat):Int) (by omega) (by omega);rw [Int.toNat_natCast] at hce hfr
        obtain ⟨z2,hz2⟩:∃ z:Int,z=mo 0 u ((j+1:Nat):Int):=⟨_,rfl⟩
        rw [←hz2] at hce;have hixl:=ah.ix (gl:=gq) (c:=c7) hj1;rw [Int.natCast_succ] at hixl;clear hz2 T_ hl1
        go_wp2
        go_roundg kq
        case measure=>exact Nat.lt_succ_self _
        case rel=>exact ⟨j+1,_,some ⟨gq,0,none⟩,c7,by first | rfl | (rw [hwj];rfl),by rw [List.length_set,hul],HS1,⟨by rw [List.length_set,hul];exact ah.TE.store HT6.out (j+1) 1⟩,⟨HB6.out.setCell (p:=⟨gq,j+1,none⟩) HGE.out _⟩⟩
      ·
       have HS1:ak (ah.go s3 kq (j+1) v=some lv2):=aS (by rw [←ha];unfold ah.zI;rw [←hz,if_neg hf]);have d1:decide (s3<z)=false:=decide_eq_false hf;clear ha hz T_
       go_upto_region 25 with (fail)
       go_quiet (fail)
       go_wp2
       go_roundg kq
       case measure=>exact Nat.lt_succ_self _
       case rel=>exact ⟨j+1,v,_,_,by first | rfl | (rw [hwj];rfl),rfl,HS1,⟨HT.out.below (vD (Below.refl _ _) _)⟩,⟨vD HB.out _⟩⟩
   clear HT HB Y3;obtain ⟨A7,c7,A8,c8,rfl,rfl,HT,HB⟩:=hcut
   rename World=>w5
   refine hK4_ _ _ ?_;obtain ⟨hx0,hx1,hx2,hx3,hx4⟩:=HXF.out _ HB.out
   go_wp2_with (first | (go_at_call 12;obtain ⟨o_,T_⟩:=HT.out;(with_reducible refine (cB.calls k g _ o_ s1 s2 s3 x.1 p1 x.2.1 p2 x.2.2 p3 c.f0 c.f1 c.f2 c.f3 c.f4 0 _ T_.a Y4.out).mono ?_);rintro r_ w2 ⟨rfl,ha_,hc_⟩;have n1_:ak (ah.TE w2 w0.heap.size g s1 s2 s3 (p1,p2,p3) (.slice A7 lv2.length c7) lv2 (.slice A8 m2.length c8) m2):=aS (T_.put ha_ hc_ HB.out.size);have n2_:=aS (hc_.below HB.out HB.out.size (fun k hk=>(T_.la k hk).1));clear HT HB ha_ hc_ hx0 hx1 hx2 hx3 hx4 T_;have HT:=n1_;have HB:=n2_;clear n1_ n2_) | (go_at_call 22;obtain ⟨o_,T_⟩:=HT.out;obtain ⟨wl_,hwl_⟩:∃ y,y=w2:=⟨_,rfl⟩;(with_reducible refine (mq.calls _ _ g s1 s2 s3 p1 p2 p3 _ T_.a (by have:=HV2.out;omega)).mono ?_);rintro r_ w6 ⟨v6,rfl,ho,hb⟩;rw [HV3.out] at ho;obtain ⟨A9,c9,rfl,_⟩:=Kd.fT ho;subst hwl_;have HLVL:ak (lv2.length<1099511627776):=aS (by rw [←HV3.out,List.length_map];exact HV2.out);have HG:=aS ho;have n1_:=aS (HT.out.below hb);have n2_:=aS (aN HB.out hb);clear ho hb HT HB T_;have HT:=n1_;have HB:=n2_;clear n1_ n2_))
   clear hix
   go_loopw [14] (fun v14 wq=>∃ (j:Nat),v14 = .int .i64 (j:Int)∧ak (j≤lv2.length)∧ak (Kd.R (Kd.int .i64) 3 wq wl_.heap.size (fun _=>True) (.slice A9 lv2.length c9) lv2)∧ak (ah.TE wq w0.heap.size g s1 s2 s3 (p1,p2,p3) (.slice A7 lv2.length c7) lv2 (.slice A8 m2.length c8) m2)∧ak (Below w0.heap.size w0 wq)) (fun j _=>lv2.length - (intOf j).toNat)
   case atStart=>exact ⟨0,rfl,⟨Nat.zero_le _⟩,HG,HT,HB⟩
   clear HT HB HG
   case round=>
    obtain ⟨j,rfl,hj,HG,HT,HB⟩:=hrel
    by_cases hjl:j<lv2.length
    ·
     have hq1:(j:Int)<(lv2.length:Int):=by omega
     obtain ⟨o_,T_⟩:=HT.out;obtain ⟨gq,cq,e_,_,_,_⟩:=Kd.kp T_.l (by omega)
     injection e_ with e1_ e2_ e3_
     subst e1_ e3_
     obtain ⟨gg,cg,e_,_,_,_⟩:=Kd.kp HG.out (by omega)
     injection e_ with e1_ e4_ e3_
     subst e1_ e3_
     obtain ⟨hce,hfr⟩:=Kd.m8 (enc:=Value.int .i64) (d:=(0:Int)) T_.l (j:Int) (by omega) (by omega);obtain ⟨hcg,hfg⟩:=Kd.m8 (enc:=Value.int .i64) (d:=(0:Int)) HG.out (j:Int) (by omega) (by omega);rw [Int.toNat_natCast] at hce hfr hcg hfg
     obtain ⟨z,hz⟩:∃ z:Int,z=mo 0 lv2 (j:Int):=⟨_,rfl⟩
     rw [←hz] at hce hcg;have hixl:=ah.ix (gl:=gq) (c:=c7) hjl;have hixg:=ah.ix (gl:=gg) (c:=c9) hjl
     have hwj:wrap64 ((j:Int)+1)=(j:Int)+1:=by rw [←bC,IntKind.wrap_i64];have:=HLVL.out;omega
     clear hz T_ e2_ e4_ hfr hfg hj
     go_upto_region 38 with (fail)
     go_quiet (fail)
     go_wp2
     go_roundw
     case rel=>exact ⟨j+1,by rw [hwj];rfl,⟨hjl⟩,⟨Kd.bO HG.out _⟩,⟨HT.out.below (vD (Below.refl _ _) _)⟩,⟨vD HB.out _⟩⟩
     case measure=>exact ja hwj hjl
    ·
     have hge:¬ ((j:Int)<(lv2.length:Int)):=by omega
     have hwr:=HWR.out;clear hj
     go_wp2
     go_roundw
     case rel=>exact ⟨i+1,(p1,p2,p3),lv2,m2,A7,c7,A8,c8,by rw [hwr];rfl,rfl,rfl,⟨hlt⟩,HP1,HT,HB⟩
     case measure=>exact ja hwr hlt
  ·
   have hge:¬ ((i:Int)<(l.length:Int)):=by omega
   have ha:=HP.out;rw [List.drop_eq_nil_of_le (by omega)] at ha
   obtain rfl:=Option.some.inj ha
   clear ha HP hi
   go_wp2
   go_ret
   exact ⟨rfl,aN HB0.out HB.out⟩
def ah.Pure:Prop:=∀ (a0_0:Int) (a0_1:Int) (a0_2:Int) (l1:List (av)),(Lit.int .i64 a0_0).wf=true→(Lit.int .i64 a0_1).wf=true→(Lit.int .i64 a0_2).wf=true→(l1.length≤maxLen∧l1.length*64≤140737488351232∧∀ y0_ ∈ l1,(y0_.f0.size≤140737488351232∧y0_.f1.size≤140737488351232∧(Lit.int .i64 y0_.f2).wf=true∧y0_.f3.size≤140737488351232∧True))→∃ k,ah.f k a0_0 a0_1 a0_2 l1=some true
theorem ah.walk (P:ah.Pure) (a0_0:Int) (a0_1:Int) (a0_2:Int) (A1:Option Addr) (c1:Nat) (l1:List (av)) (w:World) (wf0_0:(Lit.int .i64 a0_0).wf=true) (wf0_1:(Lit.int .i64 a0_1).wf=true) (wf0_2:(Lit.int .i64 a0_2).wf=true) (wf1:(l1.length≤maxLen∧l1.length*64≤140737488351232∧∀ y0_ ∈ l1,(y0_.f0.size≤140737488351232∧y0_.f1.size≤140737488351232∧(Lit.int .i64 y0_.f2).wf=true∧y0_.f3.size≤140737488351232∧True))) (hr1:Kd.C cC w A1 l1.length l1) (hc1:l1.length≤c1) :
  Calls Tryz.prog 4 #[.agg #[.int .i64 a0_0,.int .i64 a0_1,.int .i64 a0_2],.slice A1 l1.length c1] w fun e w'=>e = .returned (.bool true)∧Below w.heap.size w w':=by
 obtain ⟨k,h⟩:=P a0_0 a0_1 a0_2 l1 wf0_0 wf0_1 wf0_2 wf1;refine (ah.calls k a0_0 a0_1 a0_2 A1 c1 l1 true w hr1 hc1 h).mono ?_
 rintro e w' ⟨rfl,hd⟩
 exact ⟨rfl,hd⟩
end Go.Proofs.YtcbhfedcdnjljaaGreat.X

import Derived.Test.YtcbhfedcdnjljaaGreatXx14
set_option maxHeartbeats 8000000
set_option maxRecDepth 100000
set_option linter.unusedVariables false
set_option linter.unusedSimpArgs false
namespace Go.Proofs.YtcbhfedcdnjljaaGreat.X
open Go.RowKit Go.Proofs.YtcbhfedcdnjljaaGreatW.PrintWords Go.Proofs.YtcbhfedcdnjljaaGreatW.PrintLast Go.Proofs.YtcbhfedcdnjljaaGreatW.PrintMore
attribute [local go_sem] gn gu iu ic fJ fN gA gC ig
mutual
def av.l0:Nat→List (au)→Int→ByteArray→ByteArray→Int→ByteArray→Bool→Option ((List (au)))
 | 0,_,_,_,_,_,_,_=>none
 | k+1,x0,x5,x527000,x527001,x527002,x527003,x527004=>if x5<(x0.length:Int) then (if 0≤x5 then ((cT.f k ((af x0 x5).f0) ((af x0 x5).f1) ((af x0 x5).f2) ((af x0 x5).f3) ((af x0 x5).f4) x527000 x527001 x527002 x527003 x527004).bind fun t528=>(av.j1 k x0 x5 (t528 == (-1)) x527000 x527001 x527002 x527003 x527004)) else (none)) else (av.j1 k x0 x5 false x527000 x527001 x527002 x527003 x527004)
def av.j1:Nat→List (au)→Int→Bool→ByteArray→ByteArray→Int→ByteArray→Bool→Option ((List (au)))
 | 0,_,_,_,_,_,_,_,_=>none
 | k+1,x0,x5,x19,x527000,x527001,x527002,x527003,x527004=>if x19=true then (av.l0 k x0 (wrap64 (x5+1)) x527000 x527001 x527002 x527003 x527004) else (if 0≤x5 then (if x5≤(x0.length:Int) then ((some (x0.drop (x5:Int).toNat:List (au))).bind fun y529=>(if x5<(x0.length:Int) then ((cT.f k ((af x0 x5).f0) ((af x0 x5).f1) ((af x0 x5).f2) ((af x0 x5).f3) ((af x0 x5).f4) x527000 x527001 x527002 x527003 x527004).bind fun t534=>(av.j2 k x0 x5 y529 (t534 == 0) x527000 x527001 x527002 x527003 x527004)) else (av.j2 k x0 x5 y529 false x527000 x527001 x527002 x527003 x527004))) else (none)) else (none))
def av.j2:Nat→List (au)→Int→List (au)→Bool→ByteArray→ByteArray→Int→ByteArray→Bool→Option ((List (au)))
 | 0,_,_,_,_,_,_,_,_,_=>none
 | k+1,x0,x5,x6,x37,x527000,x527001,x527002,x527003,x527004=>if x37=true then (if 0≤(wrap64 (x5+1)) then (if (wrap64 (x5+1))≤(x0.length:Int) then ((some (x0.drop ((wrap64 (x5+1)):Int).toNat:List (au))).bind fun y535=>((some (([]:List (au)):List (au))).bind fun y539=>(if 0≤x5 then (if x5≤(x0.length:Int) then ((some (x0.take (x5:Int).toNat:List (au))).bind fun y542=>(if y539.length+y542.length<2199023255552 then ((some (y539++y542:List (au))).bind fun y546=>((some (([(⟨x527000,x527001,x527002,x527003,x527004⟩:au)]:List (au)):List (au))).bind fun y549=>(if y546.length+y549.length<2199023255552 then ((some (y546++y549:List (au))).bind fun y552=>(if y552.length+y535.length<2199023255552 then (some (y552++y535)) else (none))) else (none)))) else (none))) else (none)) else (none)))) else (none)) else (none)) else ((some (([]:List (au)):List (au))).bind fun y558=>(if 0≤x5 then (if x5≤(x0.length:Int) then ((some (x0.take (x5:Int).toNat:List (au))).bind fun y561=>(if y558.length+y561.length<2199023255552 then ((some (y558++y561:List (au))).bind fun y565=>((some (([(⟨x527000,x527001,x527002,x527003,x527004⟩:au)]:List (au)):List (au))).bind fun y568=>(if y565.length+y568.length<2199023255552 then ((some (y565++y568:List (au))).bind fun y571=>(if y571.length+x6.length<2199023255552 then (some (y571++x6)) else (none))) else (none)))) else (none))) else (none)) else (none)))
end
def av.f (k:Nat) (l0:List (au)) (a1_0:ByteArray) (a1_1:ByteArray) (a1_2:Int) (a1_3:ByteArray) (a1_4:Bool):Option ((List (au))):=av.l0 k l0 0 a1_0 a1_1 a1_2 a1_3 a1_4
theorem av.cK:∀ k,(∀ y0 y1 y2 y3 y4 y5 y6,aG (av.l0 k y0 y1 y2 y3 y4 y5 y6) (av.l0 (k+1) y0 y1 y2 y3 y4 y5 y6))∧(∀ y0 y1 y2 y3 y4 y5 y6 y7,aG (av.j1 k y0 y1 y2 y3 y4 y5 y6 y7) (av.j1 (k+1) y0 y1 y2 y3 y4 y5 y6 y7))∧(∀ y0 y1 y2 y3 y4 y5 y6 y7 y8,aG (av.j2 k y0 y1 y2 y3 y4 y5 y6 y7 y8) (av.j2 (k+1) y0 y1 y2 y3 y4 y5 y6 y7 y8))
 | 0=>⟨fun _ _ _ _ _ _ _ r h=>by simp [av.l0] at h,fun _ _ _ _ _ _ _ _ r h=>by simp [av.j1] at h,fun _ _ _ _ _ _ _ _ _ r h=>by simp [av.j2] at h⟩
 | k+1=>by
  obtain ⟨ih0,ih1,ih2⟩:=av.cK k;refine ⟨?_,?_,?_⟩
  ·
   intro y0 y1 y2 y3 y4 y5 y6
   unfold av.l0
   have m0:=@cT.mono;exact eN
  ·
   intro y0 y1 y2 y3 y4 y5 y6 y7
   unfold av.j1
   have m0:=@cT.mono;exact eN
  ·
   intro y0 y1 y2 y3 y4 y5 y6 y7 y8
   unfold av.j2
   have m0:=@cT.mono;exact eN
theorem av.mono:∀ a0 a1 a2 a3 a4 a5 k,aG (av.f k a0 a1 a2 a3 a4 a5) (av.f (k+1) a0 a1 a2 a3 a4 a5):=by
 intro a0 a1 a2 a3 a4 a5 k
 obtain ⟨ih0,ih1,ih2⟩:=av.cK k
 unfold av.f
 have m0:=@cT.mono;exact eN
def av.T2:Bool × List (List Nat × List Nat):=(true,[([],[]),([],[]),([1],[1]),([0,2],[0,2]),([3],[3]),([4],[4]),([4],[4]),([5,6,4],[4,5,6]),([7,4],[4,7]),([4],[4]),([8,9,4,4],[4,8,9]),([10,4],[4,10]),([4,11],[4,11])])
def av.B2:List Nat:=[0,0,2,7,15,31,31,127,255,31,1023,2047,4095]
theorem av.EA:e8 .any (opsOf Tryz.f11 2)=av.T2:=by kernel_rfl
theorem av.Dj:fE av.T2.2 av.B2=true:=by kernel_rfl
def av.T5:Bool × List (List Nat × List Nat):=(true,[([],[]),([],[]),([1],[1]),([0,2],[0,2]),([3],[3]),([4],[4]),([4],[4]),([5,6,4],[4,5,6]),([7,4],[4,7]),([4],[4]),([8,9,4,4],[4,8,9]),([10,4],[4,10]),([4,11],[4,11])])
def av.B5:List Nat:=[0,0,2,7,15,31,31,127,255,31,1023,2047,4095]
theorem av.n_:e8 .any (opsOf Tryz.f11 5)=av.T5:=by kernel_rfl
theorem av.mo:fE av.T5.2 av.B5=true:=by kernel_rfl
def av.T7:Bool × List (List Nat × List Nat):=(true,[([],[]),([],[]),([],[]),([1,2],[1,2]),([0,3],[0,3]),([],[]),([5],[5]),([4,6,4],[4,6]),([],[]),([7,8,7],[7,8]),([9,9,0,1,2,3,4,5,6,7,8,9],[9])])
def av.B7:List Nat:=[0,0,0,6,15,0,32,127,0,511,1023]
theorem av.zT:e8 .any (opsOf Tryz.f11 7)=av.T7:=by kernel_rfl
theorem av.wk:fE av.T7.2 av.B7=true:=by kernel_rfl
theorem av.calls (k:Nat) (A0:Option Addr) (c0:Nat) (l0:List (au)) (a1_0:ByteArray) (a1_1:ByteArray) (a1_2:Int) (a1_3:ByteArray) (a1_4:Bool) (r:List (au)) (w:World) (hr0:Kd.C bP w A0 l0.length l0) (hc0:l0.length≤c0) (h:av.f k l0 a1_0 a1_1 a1_2 a1_3 a1_4=some r) :
  Calls Tryz.prog 11 #[.slice A0 l0.length c0,.agg #[.string a1_0,.string a1_1,.int .i64 a1_2,.string a1_3,.bool a1_4]] w fun e w'=>∃ v0_:Value,e = .returned (v0_)∧Kd.R bP 34 w' w.heap.size (fun _=>True) v0_ r∧Below w.heap.size w w':=by
 have hu34:=Tryz.underlying34;have HR0:=aS hr0;have HC0:=aS hc0;clear hr0 hc0;have HB:=aS (Below.refl w.heap.size w);have H:(av.l0 k l0 0 a1_0 a1_1 a1_2 a1_3 a1_4)=some r:=h;clear h
 have H':=aS H
 clear H
 go_enter Tryz.func11,Tryz.ntmps11
 go_wp2_with (first | ((with_reducible refine bf (N:=3) rfl ?_);refine aZ ?hg (N:=3) ?hd (cs:=#[.string a1_0,.string a1_1,.int .i64 a1_2,.string a1_3,.bool a1_4]) (t:=34) ?hr ?_;(case hd=>rfl);(case hg=>rfl);(case hr=>first | (go_simp;done) | (go_simp;rfl));intro gb526 hg w3 hbox hb;have BK526:=aS (hbox);have GW526:=bsize hg;have GE526:=bsize hg;replace HB:=aM hb;clear hb hbox hg))
 go_loopg [5] k (fun kq v5 w'=>∃ (x5_1:Int),v5 = .int .i64 x5_1∧ah (av.l0 kq l0 x5_1 a1_0 a1_1 a1_2 a1_3 a1_4=some r)∧ah (kq≤k)∧ah (w'.heap[gb526]? = some (.cells #[.string a1_0,.string a1_1,.int .i64 a1_2,.string a1_3,.bool a1_4] 34 (0,0)))∧ah (Below w.heap.size w w'))
 case atStart=>exact ⟨(0),dJ,H',⟨Nat.le_refl _⟩,⟨dS BK526.out⟩,⟨aq⟩⟩
 case round=>
  clear H';obtain ⟨x5_1,rfl,HA,HK1,BK526,HB⟩:=hrel
  cases gk with
  | zero=>exact absurd HA.out (by simp [av.l0])
  | succ k1=>
   have H:=HA.out;clear HA
   simp only [av.l0] at H
   have HC4:=aS H;clear H
   go_upto_region 2 with (fail)
   go_cut [19] (fun v19 wc=>∃ (kq:Nat) (x19_3:Bool),v19 = .bool x19_3∧ah (av.j1 kq l0 x5_1 x19_3 a1_0 a1_1 a1_2 a1_3 a1_4=some r)∧ah (kq≤k1)∧ah (wc.heap[gb526]? = some (.cells #[.string a1_0,.string a1_1,.int .i64 a1_2,.string a1_3,.bool a1_4] 34 (0,0)))∧ah (Below w.heap.size w wc))
   case first=>
    have H:=HC4.out;clear HC4
    by_cases c5:x5_1<(l0.length:Int)
    ·
     rw [if_pos c5] at H;have c5b0:decide (x5_1<(l0.length:Int))=true:=decide_eq_true c5;clear c5
     (first | rw [c5b0] | (simp only [bB,bX];rw [c5b0]) | skip)
     by_cases c6:0≤x5_1
     ·
      rw [if_pos c6] at H;have c6b0:decide (0≤x5_1)=true:=decide_eq_true c6;clear c6;replace H:=cD H;obtain ⟨t528,A70,H⟩:=H;have A7:=aS A70;clear A70
      have H':=aS H
      clear H
      try go_wp2
      replace BK526:=aS (ar BK526.out);replace HB:=aS (jE HB.out);have p527:0≤(x5_1:Int):=cr;have q527:x5_1<(l0.length:Int):=cr;obtain ⟨ad527,e527,hx527_0,hx527_1,hx527_2,hx527_3,hx527_4⟩:=eO HR0.out x5_1 p527 q527;have hw527_4:=hx527_4;have hw527_3:=hx527_3;have hw527_2:=hx527_2;have hw527_1:=hx527_1;have hw527_0:=hx527_0;cases e527;replace hx527_0:=bx aq hx527_0;replace hx527_1:=bx aq hx527_1;replace hx527_2:=bx aq hx527_2;replace hx527_3:=bx aq hx527_3;replace hx527_4:=bx aq hx527_4;replace p527:=eq_true p527;replace q527:=eq_true q527;refine dA (n:=13) (S:=fun w'=>w'.cell? ⟨gb526,0,none⟩=some (.string a1_0)∧w'.cell? ⟨gb526,1,none⟩=some (.string a1_1)∧w'.cell? ⟨gb526,2,none⟩=some (.int .i64 a1_2)∧w'.cell? ⟨gb526,3,none⟩=some (.string a1_3)∧w'.cell? ⟨gb526,4,none⟩=some (.bool a1_4)∧w'.cell? (ad527.add ((x5_1).toNat*5))=some (.string ((af l0 x5_1).f0))∧w'.cell? ⟨(ad527.add ((x5_1).toNat*5)).block,(ad527.add ((x5_1).toNat*5)).off+1,none⟩=some (.string ((af l0 x5_1).f1))∧w'.cell? ⟨(ad527.add ((x5_1).toNat*5)).block,(ad527.add ((x5_1).toNat*5)).off+2,none⟩=some (.int .i64 ((af l0 x5_1).f2))∧w'.cell? ⟨(ad527.add ((x5_1).toNat*5)).block,(ad527.add ((x5_1).toNat*5)).off+3,none⟩=some (.string ((af l0 x5_1).f3))∧w'.cell? ⟨(ad527.add ((x5_1).toNat*5)).block,(ad527.add ((x5_1).toNat*5)).off+4,none⟩=some (.bool ((af l0 x5_1).f4))) (ds:=[]) (bA 13 0) (by kernel_rfl) rfl rfl ⟨bc BK526 0,bc BK526 1,bc BK526 2,bc BK526 3,bc BK526 4,(bx aq hw527_0),(bx aq hw527_1),(bx aq hw527_2),(bx aq hw527_3),(bx aq hw527_4)⟩ (fun hHeld=>?_);refine cI av.EA av.Dj (fun HT_ HW_=>?_)
      generalize wr.drew=w8 at BK526 HB hx527_0 hx527_1 hx527_2 hx527_3 hx527_4 hHeld ⊢
      refine aY [(0,7),(1,8),(2,9),(3,10),(4,11),(5,12),(6,13),(7,14),(8,15),(9,16)] ?_
      iterate 10 (first | (refine cw HT_ ?_) | (refine d9 HT_ HW_ hHeld ?_))
      refine bU (bA 13 1023) (by kernel_rfl) ?_;refine dH 10 (N:=some 17) (bA 13 2047) HT_ (fun K hK=>?_);refine eu Tryz.func26 (by kernel_rfl) rfl #[.agg #[.string ((af l0 x5_1).f0),.string ((af l0 x5_1).f1),.int .i64 ((af l0 x5_1).f2),.string ((af l0 x5_1).f3),.bool ((af l0 x5_1).f4)],.agg #[.string a1_0,.string a1_1,.int .i64 a1_2,.string a1_3,.bool a1_4]] (by rfl) rfl rfl cH ?_
      with_reducible refine (cT.calls k1 ((af l0 x5_1).f0) ((af l0 x5_1).f1) ((af l0 x5_1).f2) ((af l0 x5_1).f3) ((af l0 x5_1).f4) a1_0 a1_1 a1_2 a1_3 a1_4 t528 _ A7.out).mono ?_
      rintro e w9 ⟨rfl,hb⟩
      refine ⟨_,rfl,?_⟩;replace BK526:=fo BK526 hb;replace HB:=aM hb;(try clear hb);(try clear hk);(try clear hi);refine hK.out _ _ ⟨bc BK526 0,bc BK526 1,bc BK526 2,bc BK526 3,bc BK526 4,(bx aq hw527_0),(bx aq hw527_1),(bx aq hw527_2),(bx aq hw527_3),(bx aq hw527_4)⟩ (fun hHeld=>?_);clear hK K;refine nm 17 ?_;refine aY [(11,18),(12,19)] ?_
      iterate 2 (refine cw HT_ ?_)
      refine bU (bA 13 8191) (by kernel_rfl) ?_;refine dQ (cY HT_.out (by kernel_rfl)) ?_
      try go_wp2
      go_meet
      case rel=>exact ⟨_,((t528 == (-1))),dJ,H',⟨by have:=HK1.out;first | omega | exact Nat.le_refl _⟩,⟨dS BK526.out⟩,⟨aq⟩⟩
     ·
      rw [if_neg c6] at H;exact absurd H (by simp)
    ·
     rw [if_neg c5] at H;have c5b0:decide (x5_1<(l0.length:Int))=false:=decide_eq_false c5;clear c5
     (first | rw [c5b0] | (simp only [bB,bX];rw [c5b0]) | skip)
     have H':=aS H
     clear H
     try go_wp2
     replace BK526:=aS (ar BK526.out);replace HB:=aS (jE HB.out);refine dA (n:=13) (S:=fun w'=>True) (ds:=[]) (bA 13 0) (by kernel_rfl) rfl rfl trivial (fun hHeld=>?_);refine cI av.EA av.Dj (fun HT_ HW_=>?_)
     generalize wr.drew=w10 at BK526 HB hHeld ⊢
     refine aY [(0,7),(1,8),(2,9),(3,10),(4,11),(5,12),(6,13),(7,14),(8,15),(9,16),(10,17),(11,18),(12,19)] ?_
     iterate 13 (first | (refine nJ HT_ ?_) | (refine cw HT_ ?_))
     refine bU (bA 13 8191) (by kernel_rfl) ?_;refine dQ (cY HT_.out (by kernel_rfl)) ?_
     try go_wp2
     go_meet
     case rel=>exact ⟨_,(false),dJ,H',⟨by have:=HK1.out;first | omega | exact Nat.le_refl _⟩,⟨dS BK526.out⟩,⟨aq⟩⟩
   case rest=>
    clear HC4;obtain ⟨kq,x19_3,rfl,HA,HJ3,BK526,HB⟩:=hcut
    cases kq with
    | zero=>exact absurd HA.out (by simp [av.j1])
    | succ kj3=>
     have H:=HA.out;clear HA
     simp only [av.j1] at H
     by_cases c11:x19_3=true
     ·
      subst c11
      replace H:=jF H
      have H':=aS H
      clear H
      go_wp2
      go_roundg kj3
      case measure=>have:=HK1.out;have:=HJ3.out;omega
      case rel=>exact ⟨(wrap64 (x5_1+1)),dJ,H',⟨by have:=HK1.out;have:=HJ3.out;omega⟩,⟨dS BK526.out⟩,⟨aq⟩⟩
     ·
      replace c11:=Bool.eq_false_iff.mpr c11;subst c11
      replace H:=jD H
      by_cases c12:0≤x5_1
      ·
       rw [if_pos c12] at H;have c12b0:=eq_true c12;have c12b1:decide (0≤x5_1)=true:=decide_eq_true c12;clear c12
       by_cases c13:x5_1≤(l0.length:Int)
       ·
        rw [if_pos c13] at H;have c13b0:=eq_true c13;have c13b1:decide (x5_1≤(l0.length:Int))=true:=decide_eq_true c13;clear c13
        obtain ⟨y529,hy529⟩:∃ y_:List (au),y_=(l0.drop (x5_1:Int).toNat):=⟨_,rfl⟩
        (first | replace H:=jZ hy529 H | rw [←hy529] at H);have Ny529:=aS hy529;clear hy529;have HC14:=aS H;clear H;have q15:(x5_1:Int)≤((l0.length:Int):Int):=cr;obtain ⟨i015,hi015,_,hsz15,_⟩:=info_parts eB;have hroom15:l0.length≤c0:=HC0.out;have hC15:Kd.C bP _ A0 l0.length l0:=HR0.out;have q015:(0:Int)≤(x5_1:Int):=cr;have hcut15:=fY (P:=Tryz.prog) 32 34 .i64 Tryz.underlying32 hi015 5 hsz15 A0 l0.length c0 x5_1 q015 q15;have hr15:=Kd.qx (m:=(x5_1:Int).toNat) (c:=c0) hC15 (by omega) hroom15
        obtain ⟨A15,hA15⟩:∃ A1_,A1_=(if c0=(x5_1:Int).toNat then A0 else (A0:Option Addr).map (·.add ((x5_1:Int).toNat*5))):=⟨_,rfl⟩
        obtain ⟨c15,hc15⟩:∃ c1_,c1_=c0 - (x5_1:Int).toNat:=⟨_,rfl⟩
        have hy15:y529.length=l0.length - (x5_1:Int).toNat:=(by rw [Ny529.out,lV]<;>omega);rw [show (l0).drop (x5_1:Int).toNat=y529 from Ny529.out.symm] at hr15;replace hr15:Kd.C bP _ A15 y529.length y529:=(by rw [hA15];exact hr15);rw [←hy15,← hA15,← hc15] at hcut15;have HR532:=aS hr15;have HC532:=aS (show y529.length≤c15 from by rw [hy15,hc15];exact Nat.sub_le_sub_right hroom15 _);clear hr15 hC15 hroom15 hi015 hsz15 hc15;have KY15:=aS hy15;have KA15:=aS hA15;clear hy15 hA15;replace q15:=eq_true q15
        go_upto_region 5 with (fail)
        go_cut [37] (fun v37 wc=>∃ (kq:Nat) (x37_13:Bool),v37 = .bool x37_13∧ah (av.j2 kq l0 x5_1 y529 x37_13 a1_0 a1_1 a1_2 a1_3 a1_4=some r)∧ah (kq≤kj3)∧ah (wc.heap[gb526]? = some (.cells #[.string a1_0,.string a1_1,.int .i64 a1_2,.string a1_3,.bool a1_4] 34 (0,0)))∧ah (Below w.heap.size w wc))
        case first=>
         have H:=HC14.out;clear HC14
         by_cases c16:x5_1<(l0.length:Int)
         ·
          rw [if_pos c16] at H;have c16b0:decide (x5_1<(l0.length:Int))=true:=decide_eq_true c16;clear c16
          (first | rw [c16b0] | (simp only [bB,bX];rw [c16b0]) | skip)
          replace H:=cD H;obtain ⟨t534,A170,H⟩:=H;have A17:=aS A170;clear A170
          have H':=aS H
          clear H
          try go_wp2
          replace BK526:=aS (ar BK526.out);replace HB:=aS (jE HB.out);have p533:0≤(x5_1:Int):=cr;have q533:x5_1<(l0.length:Int):=cr;obtain ⟨ad533,e533,hx533_0,hx533_1,hx533_2,hx533_3,hx533_4⟩:=eO HR0.out x5_1 p533 q533;have hw533_4:=hx533_4;have hw533_3:=hx533_3;have hw533_2:=hx533_2;have hw533_1:=hx533_1;have hw533_0:=hx533_0;cases e533;replace hx533_0:=bx aq hx533_0;replace hx533_1:=bx aq hx533_1;replace hx533_2:=bx aq hx533_2;replace hx533_3:=bx aq hx533_3;replace hx533_4:=bx aq hx533_4;replace p533:=eq_true p533;replace q533:=eq_true q533;refine dA (n:=13) (S:=fun w'=>w'.cell? ⟨gb526,0,none⟩=some (.string a1_0)∧w'.cell? ⟨gb526,1,none⟩=some (.string a1_1)∧w'.cell? ⟨gb526,2,none⟩=some (.int .i64 a1_2)∧w'.cell? ⟨gb526,3,none⟩=some (.string a1_3)∧w'.cell? ⟨gb526,4,none⟩=some (.bool a1_4)∧w'.cell? (ad533.add ((x5_1).toNat*5))=some (.string ((af l0 x5_1).f0))∧w'.cell? ⟨(ad533.add ((x5_1).toNat*5)).block,(ad533.add ((x5_1).toNat*5)).off+1,none⟩=some (.string ((af l0 x5_1).f1))∧w'.cell? ⟨(ad533.add ((x5_1).toNat*5)).block,(ad533.add ((x5_1).toNat*5)).off+2,none⟩=some (.int .i64 ((af l0 x5_1).f2))∧w'.cell? ⟨(ad533.add ((x5_1).toNat*5)).block,(ad533.add ((x5_1).toNat*5)).off+3,none⟩=some (.string ((af l0 x5_1).f3))∧w'.cell? ⟨(ad533.add ((x5_1).toNat*5)).block,(ad533.add ((x5_1).toNat*5)).off+4,none⟩=some (.bool ((af l0 x5_1).f4))) (ds:=[]) (bA 13 0) (by kernel_rfl) rfl rfl ⟨bc BK526 0,bc BK526 1,bc BK526 2,bc BK526 3,bc BK526 4,(bx aq hw533_0),(bx aq hw533_1),(bx aq hw533_2),(bx aq hw533_3),(bx aq hw533_4)⟩ (fun hHeld=>?_);refine cI av.n_ av.mo (fun HT_ HW_=>?_)
          generalize wc.drew=w18 at BK526 HB hx533_0 hx533_1 hx533_2 hx533_3 hx533_4 hHeld ⊢
          refine aY [(0,25),(1,26),(2,27),(3,28),(4,29),(5,30),(6,31),(7,32),(8,33),(9,34)] ?_
          iterate 10 (first | (refine cw HT_ ?_) | (refine d9 HT_ HW_ hHeld ?_))
          refine bU (bA 13 1023) (by kernel_rfl) ?_;refine dH 10 (N:=some 35) (bA 13 2047) HT_ (fun K hK=>?_);refine eu Tryz.func26 (by kernel_rfl) rfl #[.agg #[.string ((af l0 x5_1).f0),.string ((af l0 x5_1).f1),.int .i64 ((af l0 x5_1).f2),.string ((af l0 x5_1).f3),.bool ((af l0 x5_1).f4)],.agg #[.string a1_0,.string a1_1,.int .i64 a1_2,.string a1_3,.bool a1_4]] (by rfl) rfl rfl cH ?_
          with_reducible refine (cT.calls kj3 ((af l0 x5_1).f0) ((af l0 x5_1).f1) ((af l0 x5_1).f2) ((af l0 x5_1).f3) ((af l0 x5_1).f4) a1_0 a1_1 a1_2 a1_3 a1_4 t534 _ A17.out).mono ?_
          rintro e w19 ⟨rfl,hb⟩
          refine ⟨_,rfl,?_⟩;replace BK526:=fo BK526 hb;replace HB:=aM hb;(try clear hb);(try clear hk);(try clear hi);refine hK.out _ _ ⟨bc BK526 0,bc BK526 1,bc BK526 2,bc BK526 3,bc BK526 4,(bx aq hw533_0),(bx aq hw533_1),(bx aq hw533_2),(bx aq hw533_3),(bx aq hw533_4)⟩ (fun hHeld=>?_);clear hK K;refine nm 35 ?_;refine aY [(11,36),(12,37)] ?_
          iterate 2 (refine cw HT_ ?_)
          refine bU (bA 13 8191) (by kernel_rfl) ?_;refine dQ (cY HT_.out (by kernel_rfl)) ?_
          try go_wp2
          go_meet
          case rel=>exact ⟨_,((t534 == 0)),dJ,H',⟨by have:=HK1.out;have:=HJ3.out;first | omega | exact Nat.le_refl _⟩,⟨dS BK526.out⟩,⟨aq⟩⟩
         ·
          rw [if_neg c16] at H;have c16b0:decide (x5_1<(l0.length:Int))=false:=decide_eq_false c16;clear c16
          (first | rw [c16b0] | (simp only [bB,bX];rw [c16b0]) | skip)
          have H':=aS H
          clear H
          try go_wp2
          replace BK526:=aS (ar BK526.out);replace HB:=aS (jE HB.out);refine dA (n:=13) (S:=fun w'=>True) (ds:=[]) (bA 13 0) (by kernel_rfl) rfl rfl trivial (fun hHeld=>?_);refine cI av.n_ av.mo (fun HT_ HW_=>?_)
          generalize wc.drew=w20 at BK526 HB hHeld ⊢
          refine aY [(0,25),(1,26),(2,27),(3,28),(4,29),(5,30),(6,31),(7,32),(8,33),(9,34),(10,35),(11,36),(12,37)] ?_
          iterate 13 (first | (refine nJ HT_ ?_) | (refine cw HT_ ?_))
          refine bU (bA 13 8191) (by kernel_rfl) ?_;refine dQ (cY HT_.out (by kernel_rfl)) ?_
          try go_wp2
          go_meet
          case rel=>exact ⟨_,(false),dJ,H',⟨by have:=HK1.out;have:=HJ3.out;first | omega | exact Nat.le_refl _⟩,⟨dS BK526.out⟩,⟨aq⟩⟩
        case rest=>
         clear HC14;(try clear c11);(try clear c12);(try clear c12b0);(try clear c12b1);(try clear c13);(try clear c13b0);(try clear c13b1);(try clear c15);(try clear q15);(try clear q015);obtain ⟨kq,x37_13,rfl,HA,HJ13,BK526,HB⟩:=hcut
         cases kq with
         | zero=>exact absurd HA.out (by simp [av.j2])
         | succ kj13=>
          have H:=HA.out;clear HA
          simp only [av.j2] at H
          by_cases c21:x37_13=true
          ·
           subst c21
           replace H:=jF H
           obtain ⟨ji22,hji22⟩:∃ j_:Int,(wrap64 (x5_1+1))=j_:=⟨_,rfl⟩
           replace H:(if 0≤(ji22) then (if (ji22)≤(l0.length:Int) then ((some (l0.drop ((ji22):Int).toNat:List (au))).bind fun y535=>((some (([]:List (au)):List (au))).bind fun y539=>(if 0≤x5_1 then (if x5_1≤(l0.length:Int) then ((some (l0.take (x5_1:Int).toNat:List (au))).bind fun y542=>(if y539.length+y542.length<2199023255552 then ((some (y539++y542:List (au))).bind fun y546=>((some (([(⟨a1_0,a1_1,a1_2,a1_3,a1_4⟩:au)]:List (au)):List (au))).bind fun y549=>(if y546.length+y549.length<2199023255552 then ((some (y546++y549:List (au))).bind fun y552=>(if y552.length+y535.length<2199023255552 then (some (y552++y535)) else (none))) else (none)))) else (none))) else (none)) else (none)))) else (none)) else (none))=some r:=by first | (rw [hji22] at H;exact H) | (simp only [hji22] at H ⊢;exact H)
           have hji22w:(IntKind.i64.wrap (x5_1+1))=ji22:=(bB _).trans hji22
           by_cases c23:0≤(ji22)
           ·
            rw [if_pos c23] at H;have c23b0:=eq_true c23;have c23b1:decide (0≤(ji22))=true:=decide_eq_true c23;clear c23
            by_cases c24:(ji22)≤(l0.length:Int)
            ·
             rw [if_pos c24] at H;have c24b0:=eq_true c24;have c24b1:decide ((ji22)≤(l0.length:Int))=true:=decide_eq_true c24;clear c24
             obtain ⟨y535,hy535⟩:∃ y_:List (au),y_=(l0.drop ((ji22):Int).toNat):=⟨_,rfl⟩
             (first | replace H:=jZ hy535 H | rw [←hy535] at H);have Ny535:=aS hy535;clear hy535
             obtain ⟨y539,hy539⟩:∃ y_:List (au),y_=(([]:List (au))):=⟨_,rfl⟩
             replace H:(if 0≤x5_1 then (if x5_1≤(l0.length:Int) then ((some (l0.take (x5_1:Int).toNat:List (au))).bind fun y542=>(if y539.length+y542.length<2199023255552 then ((some (y539++y542:List (au))).bind fun y546=>((some (([(⟨a1_0,a1_1,a1_2,a1_3,a1_4⟩:au)]:List (au)):List (au))).bind fun y549=>(if y546.length+y549.length<2199023255552 then ((some (y546++y549:List (au))).bind fun y552=>(if y552.length+y535.length<2199023255552 then (some (y552++y535)) else (none))) else (none)))) else (none))) else (none)) else (none))=some r:=m8 hy539 H;have Ny539:=aS hy539;clear hy539
             by_cases c25:0≤x5_1
             ·
              rw [if_pos c25] at H;have c25b0:=eq_true c25;have c25b1:decide (0≤x5_1)=true:=decide_eq_true c25;clear c25
              by_cases c26:x5_1≤(l0.length:Int)
              ·
               rw [if_pos c26] at H;have c26b0:=eq_true c26;have c26b1:decide (x5_1≤(l0.length:Int))=true:=decide_eq_true c26;clear c26
               obtain ⟨y542,hy542⟩:∃ y_:List (au),y_=(l0.take (x5_1:Int).toNat):=⟨_,rfl⟩
               replace H:(if y539.length+y542.length<2199023255552 then ((some (y539++y542:List (au))).bind fun y546=>((some (([(⟨a1_0,a1_1,a1_2,a1_3,a1_4⟩:au)]:List (au)):List (au))).bind fun y549=>(if y546.length+y549.length<2199023255552 then ((some (y546++y549:List (au))).bind fun y552=>(if y552.length+y535.length<2199023255552 then (some (y552++y535)) else (none))) else (none)))) else (none))=some r:=m8 hy542 H;have Ny542:=aS hy542;clear hy542
               by_cases c27:y539.length+y542.length<2199023255552
               ·
                rw [if_pos c27] at H;have LMc27:=aS c27;clear c27
                obtain ⟨y546,hy546⟩:∃ y_:List (au),y_=(y539++y542):=⟨_,rfl⟩
                (first | replace H:=jZ hy546 H | rw [←hy546] at H);have Ny546:=aS hy546;clear hy546
                obtain ⟨y549,hy549⟩:∃ y_:List (au),y_=(([(⟨a1_0,a1_1,a1_2,a1_3,a1_4⟩:au)]:List (au))):=⟨_,rfl⟩
                replace H:(if y546.length+y549.length<2199023255552 then ((some (y546++y549:List (au))).bind fun y552=>(if y552.length+y535.length<2199023255552 then (some (y552++y535)) else (none))) else (none))=some r:=m8 hy549 H;have Ny549:=aS hy549;clear hy549
                by_cases c28:y546.length+y549.length<2199023255552
                ·
                 rw [if_pos c28] at H;have LMc28:=aS c28;clear c28
                 obtain ⟨y552,hy552⟩:∃ y_:List (au),y_=(y546++y549):=⟨_,rfl⟩
                 (first | replace H:=jZ hy552 H | rw [←hy552] at H);have Ny552:=aS hy552;clear hy552
                 by_cases c29:y552.length+y535.length<2199023255552
                 ·
                  rw [if_pos c29] at H;have LMc29:=aS c29;clear c29
                  obtain ⟨y555,hy555⟩:∃ y_:List (au),y_=(y552++y535):=⟨_,rfl⟩
                  replace H:(some y555)=some r:=m8 hy555 H;have Ny555:=aS hy555;clear hy555
                  obtain rfl:=Option.some.inj H
                  have q30:((ji22):Int)≤((l0.length:Int):Int):=cr;obtain ⟨i030,hi030,_,hsz30,_⟩:=info_parts eB;have hroom30:l0.length≤c0:=HC0.out;have hC30:Kd.C bP _ A0 l0.length l0:=HR0.out;have q030:(0:Int)≤((ji22):Int):=cr;have hcut30:=fY (P:=Tryz.prog) 32 34 .i64 Tryz.underlying32 hi030 5 hsz30 A0 l0.length c0 (ji22) q030 q30;have hr30:=Kd.qx (m:=((ji22):Int).toNat) (c:=c0) hC30 (by omega) hroom30
                  obtain ⟨A30,hA30⟩:∃ A1_,A1_=(if c0=((ji22):Int).toNat then A0 else (A0:Option Addr).map (·.add (((ji22):Int).toNat*5))):=⟨_,rfl⟩
                  obtain ⟨c30,hc30⟩:∃ c1_,c1_=c0 - ((ji22):Int).toNat:=⟨_,rfl⟩
                  have hy30:y535.length=l0.length - ((ji22):Int).toNat:=(by rw [Ny535.out,lV]<;>omega);rw [show (l0).drop ((ji22):Int).toNat=y535 from Ny535.out.symm] at hr30;replace hr30:Kd.C bP _ A30 y535.length y535:=(by rw [hA30];exact hr30);rw [←hy30,← hA30,← hc30] at hcut30;have HR538:=aS hr30;have HC538:=aS (show y535.length≤c30 from by rw [hy30,hc30];exact Nat.sub_le_sub_right hroom30 _);clear hr30 hC30 hroom30 hi030 hsz30 hc30;have KY30:=aS hy30;have KA30:=aS hA30;clear hy30 hA30;replace q30:=eq_true q30
                  try go_wp2
                  replace BK526:=aS (ar BK526.out);replace HB:=aS (jE HB.out);have q32:(x5_1:Int)≤((l0.length:Int):Int):=cr;obtain ⟨i032,hi032,_,hsz32,_⟩:=info_parts eB;have hroom32:l0.length≤c0:=HC0.out;have hC32:Kd.C bP _ A0 l0.length l0:=HR0.out;have hcut32:=jv (P:=Tryz.prog) 32 34 .i64 Tryz.underlying32 hi032 A0 l0.length c0 x5_1 (cr) q32 hroom32;have hr32:=Kd.nP (m:=(x5_1:Int).toNat) hC32 (by omega);have hy32:y542.length=(x5_1:Int).toNat:=(by rw [Ny542.out,kR];omega);rw [←Ny542.out] at hr32;rw [←hy32] at hcut32;have HR545:=aS hr32;have HC545:=aS (show y542.length≤c0 from by omega);clear hr32 hC32 hroom32 hi032 hsz32;have KY32:=aS hy32;clear hy32;replace q32:=eq_true q32;refine dA (n:=11) (S:=fun w'=>w'.cell? ⟨gb526,0,none⟩=some (.string a1_0)∧w'.cell? ⟨gb526,1,none⟩=some (.string a1_1)∧w'.cell? ⟨gb526,2,none⟩=some (.int .i64 a1_2)∧w'.cell? ⟨gb526,3,none⟩=some (.string a1_3)∧w'.cell? ⟨gb526,4,none⟩=some (.bool a1_4)) (ds:=[]) (bA 11 0) (by kernel_rfl) rfl rfl ⟨bc BK526 0,bc BK526 1,bc BK526 2,bc BK526 3,bc BK526 4⟩ (fun hHeld=>?_);refine cI av.zT av.wk (fun HT_ HW_=>?_)
                  generalize wc.drew=w31 at BK526 HB HR545 hHeld ⊢
                  refine aY [(1,43),(2,44),(3,45),(8,50),(5,47)] ?_
                  iterate 5 (first | (refine cw HT_ ?_) | (refine d9 HT_ HW_ hHeld ?_))
                  refine bU (bA 11 302) (by kernel_rfl) ?_;refine wo (σ:=Value × Value × Value) 3 (bA 11 383) (fun s_=>[(42,s_.1),(46,s_.2.1),(48,s_.2.2)]) (fun s_ w'=>(w'.cell? ⟨gb526,0,none⟩=some (.string a1_0)∧w'.cell? ⟨gb526,1,none⟩=some (.string a1_1)∧w'.cell? ⟨gb526,2,none⟩=some (.int .i64 a1_2)∧w'.cell? ⟨gb526,3,none⟩=some (.string a1_3)∧w'.cell? ⟨gb526,4,none⟩=some (.bool a1_4))∧(Kd.R bP 34 w' w.heap.size (fun k_=>some k_≠(s_.2.2:Value).ownBlock∧k_≠gb526) s_.2.1 y546)∧(Kd.R bP 34 w' w.heap.size (fun k_=>some k_≠(s_.2.1:Value).ownBlock∧k_≠gb526) s_.2.2 y549)∧(w'.heap[gb526]? = some (.cells #[.string a1_0,.string a1_1,.int .i64 a1_2,.string a1_3,.bool a1_4] 34 (0,0)))∧(Below w.heap.size w w')) ?_ ?_
                  rotate_left
                  ·
                   intro hCont
                   refine tq (i:=0) (j:=6) (Ni:=some 42) (Nj:=some 48) (bA 11 303) (bA 11 366) rfl rfl rfl rfl (oT HT_.out (by kernel_rfl)) (by decide) (by decide) (fun K hK=>?_) (fun K hK=>?_)
                   ·
                    skip
                    refine Kd.fP bP _ 34 ?hg (N:=42) ?hd (xs:=([]:List (au))) (inner:=[]) (ok:=fun _=>True) (okp:=fun _=>True) ?hr ?hp (fun _ hk=>hk) trivial (Below.refl _ _) (Nat.le_refl _) (by simp) ?_;(case hd=>rfl);(case hg=>rfl);(case hr=>first | (go_simp;done) | (go_simp;rfl));(case hp=>exact (bM.none _ _))
                    intro v540 w33 ho34 hb hg_ hnew_
                    clear hg_ hnew_
                    (first | rw [←Ny539.out] at ho34 | (simp only [Int.reduceToNat] at ho34;rw [←Ny539.out] at ho34))
                    have HO541:=aS (Kd.bh (Kd.lB ho34 (g:=gb526) (o:=.cells #[.string a1_0,.string a1_1,.int .i64 a1_2,.string a1_3,.bool a1_4] 34 (0,0)) (dS BK526.out)) (aA aq));replace BK526:=fo BK526 hb;replace HB:=aM hb;clear hb ho34;refine hK.out _ _ ⟨bc BK526 0,bc BK526 1,bc BK526 2,bc BK526 3,bc BK526 4⟩ (fun hHeld=>?_);clear hK K;refine nm 42 ?_;refine tq (i:=4) (j:=6) (Ni:=some 46) (Nj:=some 48) (bA 11 319) (bA 11 367) rfl rfl rfl rfl (oT HT_.out (by kernel_rfl)) (by decide) (by decide) (fun K hK=>?_) (fun K hK=>?_)
                    ·
                     skip
                     refine Kd.ef bP (w0:=w) w.heap.size (by rfl) (.tmp 42) (.tmp 45) 32 34 (.agg #[(.string ⟨#[]⟩),(.string ⟨#[]⟩),(.int .i64 0),(.string ⟨#[]⟩),(.bool false)]) 64 rfl Tryz.underlying32 eB rfl (by decide) (by omega) v540 y539 y542 _ _ _ (fun k_=>k_≠gb526) (fun _=>False) rfl rfl ?aO ?aR (fun _ _ h=>h) (fun _ h=>h.elim) ?aF ?aB ?aS ?aL ?_
                     (case aR=>exact eM (Kd.cV HR545.out HB.out))
                     (case aB=>exact aq)
                     (case aF=>exact (fun k_ hk=>Kd.j7 (g:=gb526) (o:=.cells #[.string a1_0,.string a1_1,.int .i64 a1_2,.string a1_3,.bool a1_4] 34 (0,0)) (dS BK526.out) k_ hk))
                     (case aO=>exact (rel (Kd.aE HO541.out (fun _ hk=>hk.2))))
                     (case aS=>exact (aA aq))
                     (case aL=>have:=LMc27.out;omega)
                     intro v547 w35 ho hb hg hat
                     rw [←Ny546.out] at ho;have n0_:=aS (ew (g:=gb526) (o:=.cells #[.string a1_0,.string a1_1,.int .i64 a1_2,.string a1_3,.bool a1_4] 34 (0,0)) (dS BK526.out) hg (Kd.lq HO541.out (fun _ hk=>hk.2)));have n1_:=aS (hb);have n2_:=aS (ho);clear BK526;clear HB;clear HO541;have BK526:=n0_;have HB:=n1_;have HO548:=n2_;clear n0_ n1_ n2_;clear ho hb hg hat;refine hK.out _ _ ⟨bc BK526 0,bc BK526 1,bc BK526 2,bc BK526 3,bc BK526 4⟩ (fun hHeld=>?_);clear hK K;refine nm 46 ?_;refine dH 6 (N:=some 48) (bA 11 383) HT_ (fun K hK=>?_)
                     refine Kd.fP bP _ 34 ?hg (N:=48) ?hd (xs:=([(⟨a1_0,a1_1,a1_2,a1_3,a1_4⟩:au)]:List (au))) (inner:=[.string a1_0,.string a1_1,.int .i64 a1_2,.string a1_3,.bool a1_4]) (ok:=fun _=>True) (okp:=fun _=>True) ?hr ?hp (fun _ hk=>hk) trivial (Below.refl _ _) (Nat.le_refl _) (by simp) ?_;(case hd=>rfl);(case hg=>rfl);(case hr=>first | (go_simp;done) | (go_simp;rfl));(case hp=>exact (bM.c5 (show Kd.M bP _ _ _ (⟨a1_0,a1_1,a1_2,a1_3,a1_4⟩:au) [.string a1_0,.string a1_1,.int .i64 a1_2,.string a1_3,.bool a1_4] from (gT _ _ _ (⟨a1_0,a1_1,a1_2,a1_3,a1_4⟩:au) )) (bM.none _ _)))
                     intro v550 w36 ho37 hb hg_ hnew_
                     clear hg_ hnew_
                     (first | rw [←Ny549.out] at ho37 | (simp only [Int.reduceToNat] at ho37;rw [←Ny549.out] at ho37))
                     have HO551:=aS (Kd.bh (Kd.lB (Kd.cJ ho37 (Kd.cN (rel HO548.out))) (g:=gb526) (o:=.cells #[.string a1_0,.string a1_1,.int .i64 a1_2,.string a1_3,.bool a1_4] 34 (0,0)) (dS BK526.out)) (aA aq));replace HO548:=aS (Kd.bR (rel HO548.out) (dr ho37) hb);replace BK526:=fo BK526 hb;replace HB:=aM hb;clear hb ho37;refine hK.out _ _ ⟨bc BK526 0,bc BK526 1,bc BK526 2,bc BK526 3,bc BK526 4⟩ (fun hHeld=>?_);clear hK K;refine nm 48 ?_;exact jA (by simp only [iW,Act.put,dn,dm,lss]) (hCont (v540,v547,v550) _ ⟨hHeld,(by (with_reducible repeat (first | apply Kd.bF | apply Kd.bG | apply Kd.bH));exact Kd.aE HO548.out (fun _ hk=>⟨hk.2,hk.1⟩)),(by (with_reducible repeat (first | apply Kd.bF | apply Kd.bG | apply Kd.bH));exact Kd.aE HO551.out (fun _ hk=>⟨hk.1.2,hk.2⟩)),(dS BK526.out),aq⟩)
                    ·
                     skip
                     refine Kd.fP bP _ 34 ?hg (N:=48) ?hd (xs:=([(⟨a1_0,a1_1,a1_2,a1_3,a1_4⟩:au)]:List (au))) (inner:=[.string a1_0,.string a1_1,.int .i64 a1_2,.string a1_3,.bool a1_4]) (ok:=fun _=>True) (okp:=fun _=>True) ?hr ?hp (fun _ hk=>hk) trivial (Below.refl _ _) (Nat.le_refl _) (by simp) ?_;(case hd=>rfl);(case hg=>rfl);(case hr=>first | (go_simp;done) | (go_simp;rfl));(case hp=>exact (bM.c5 (show Kd.M bP _ _ _ (⟨a1_0,a1_1,a1_2,a1_3,a1_4⟩:au) [.string a1_0,.string a1_1,.int .i64 a1_2,.string a1_3,.bool a1_4] from (gT _ _ _ (⟨a1_0,a1_1,a1_2,a1_3,a1_4⟩:au) )) (bM.none _ _)))
                     intro v550 w35 ho36 hb hg_ hnew_
                     clear hg_ hnew_
                     (first | rw [←Ny549.out] at ho36 | (simp only [Int.reduceToNat] at ho36;rw [←Ny549.out] at ho36))
                     have HO551:=aS (Kd.bh (Kd.lB (Kd.cJ ho36 (Kd.cN (rel HO541.out))) (g:=gb526) (o:=.cells #[.string a1_0,.string a1_1,.int .i64 a1_2,.string a1_3,.bool a1_4] 34 (0,0)) (dS BK526.out)) (aA aq));replace HO541:=aS (Kd.bR (rel HO541.out) (dr ho36) hb);replace BK526:=fo BK526 hb;replace HB:=aM hb;clear hb ho36;refine hK.out _ _ ⟨bc BK526 0,bc BK526 1,bc BK526 2,bc BK526 3,bc BK526 4⟩ (fun hHeld=>?_);clear hK K;refine nm 48 ?_;refine dH 4 (N:=some 46) (bA 11 383) HT_ (fun K hK=>?_);refine Kd.ef bP (w0:=w) w.heap.size (by rfl) (.tmp 42) (.tmp 45) 32 34 (.agg #[(.string ⟨#[]⟩),(.string ⟨#[]⟩),(.int .i64 0),(.string ⟨#[]⟩),(.bool false)]) 64 rfl Tryz.underlying32 eB rfl (by decide) (by omega) v540 y539 y542 _ _ _ (fun k_=>some k_≠(v550:Value).ownBlock∧k_≠gb526) (fun _=>False) rfl rfl ?aO ?aR (fun _ _ h=>h) (fun _ h=>h.elim) ?aF ?aB ?aS ?aL ?_
                     (case aR=>exact eM (Kd.cV HR545.out HB.out))
                     (case aB=>exact aq)
                     (case aF=>exact (fun k_ hk=>⟨Kd.gW (Kd.cN (rel HO551.out)) k_ hk,Kd.j7 (g:=gb526) (o:=.cells #[.string a1_0,.string a1_1,.int .i64 a1_2,.string a1_3,.bool a1_4] 34 (0,0)) (dS BK526.out) k_ hk⟩))
                     (case aO=>exact (by (with_reducible repeat (first | apply Kd.bF | apply Kd.bG | apply Kd.bH));exact Kd.aE HO541.out (fun _ hk=>⟨hk.2,hk.1.2⟩)))
                     (case aS=>exact (aA aq))
                     (case aL=>have:=LMc27.out;omega)
                     intro v547 w37 ho hb hg hat
                     rw [←Ny546.out] at ho;have n0_:=aS (ew (g:=gb526) (o:=.cells #[.string a1_0,.string a1_1,.int .i64 a1_2,.string a1_3,.bool a1_4] 34 (0,0)) (dS BK526.out) hg (Kd.lq HO541.out (fun _ hk=>hk.1.2)));have n1_:=aS (Kd.iX (ok:=(fun k_=>k_≠gb526)) (by (with_reducible repeat (first | apply Kd.bF | apply Kd.bG | apply Kd.bH));exact Kd.aE HO551.out (fun _ hk=>⟨hk.2,hk.1.2⟩)) hg hat);have n2_:=aS (hb);have n3_:=aS (ho);clear BK526;clear HO551;clear HB;clear HO541;have BK526:=n0_;have HO551:=n1_;have HB:=n2_;have HO548:=n3_;clear n0_ n1_ n2_ n3_;clear ho hb hg hat;refine hK.out _ _ ⟨bc BK526 0,bc BK526 1,bc BK526 2,bc BK526 3,bc BK526 4⟩ (fun hHeld=>?_);clear hK K;refine nm 46 ?_;exact jA (by simp only [iW,Act.put,dn,dm,lss]) (hCont (v540,v547,v550) _ ⟨hHeld,(rel HO548.out),(by (with_reducible repeat (first | apply Kd.bF | apply Kd.bG | apply Kd.bH));exact Kd.aE HO551.out (fun _ hk=>⟨hk.2,hk.1⟩)),(dS BK526.out),aq⟩)
                   ·
                    skip
                    refine Kd.fP bP _ 34 ?hg (N:=48) ?hd (xs:=([(⟨a1_0,a1_1,a1_2,a1_3,a1_4⟩:au)]:List (au))) (inner:=[.string a1_0,.string a1_1,.int .i64 a1_2,.string a1_3,.bool a1_4]) (ok:=fun _=>True) (okp:=fun _=>True) ?hr ?hp (fun _ hk=>hk) trivial (Below.refl _ _) (Nat.le_refl _) (by simp) ?_;(case hd=>rfl);(case hg=>rfl);(case hr=>first | (go_simp;done) | (go_simp;rfl));(case hp=>exact (bM.c5 (show Kd.M bP _ _ _ (⟨a1_0,a1_1,a1_2,a1_3,a1_4⟩:au) [.string a1_0,.string a1_1,.int .i64 a1_2,.string a1_3,.bool a1_4] from (gT _ _ _ (⟨a1_0,a1_1,a1_2,a1_3,a1_4⟩:au) )) (bM.none _ _)))
                    intro v550 w33 ho34 hb hg_ hnew_
                    clear hg_ hnew_
                    (first | rw [←Ny549.out] at ho34 | (simp only [Int.reduceToNat] at ho34;rw [←Ny549.out] at ho34))
                    have HO551:=aS (Kd.bh (Kd.lB ho34 (g:=gb526) (o:=.cells #[.string a1_0,.string a1_1,.int .i64 a1_2,.string a1_3,.bool a1_4] 34 (0,0)) (dS BK526.out)) (aA aq));replace BK526:=fo BK526 hb;replace HB:=aM hb;clear hb ho34;refine hK.out _ _ ⟨bc BK526 0,bc BK526 1,bc BK526 2,bc BK526 3,bc BK526 4⟩ (fun hHeld=>?_);clear hK K;refine nm 48 ?_;refine dH 0 (N:=some 42) (bA 11 367) HT_ (fun K hK=>?_)
                    refine Kd.fP bP _ 34 ?hg (N:=42) ?hd (xs:=([]:List (au))) (inner:=[]) (ok:=fun _=>True) (okp:=fun _=>True) ?hr ?hp (fun _ hk=>hk) trivial (Below.refl _ _) (Nat.le_refl _) (by simp) ?_;(case hd=>rfl);(case hg=>rfl);(case hr=>first | (go_simp;done) | (go_simp;rfl));(case hp=>exact (bM.none _ _))
                    intro v540 w35 ho36 hb hg_ hnew_
                    clear hg_ hnew_
                    (first | rw [←Ny539.out] at ho36 | (simp only [Int.reduceToNat] at ho36;rw [←Ny539.out] at ho36))
                    have HO541:=aS (Kd.bh (Kd.lB (Kd.cJ ho36 (Kd.cN (rel HO551.out))) (g:=gb526) (o:=.cells #[.string a1_0,.string a1_1,.int .i64 a1_2,.string a1_3,.bool a1_4] 34 (0,0)) (dS BK526.out)) (aA aq));replace HO551:=aS (Kd.bR (rel HO551.out) (dr ho36) hb);replace BK526:=fo BK526 hb;replace HB:=aM hb;clear hb ho36;refine hK.out _ _ ⟨bc BK526 0,bc BK526 1,bc BK526 2,bc BK526 3,bc BK526 4⟩ (fun hHeld=>?_);clear hK K;refine nm 42 ?_;refine dH 4 (N:=some 46) (bA 11 383) HT_ (fun K hK=>?_);refine Kd.ef bP (w0:=w) w.heap.size (by rfl) (.tmp 42) (.tmp 45) 32 34 (.agg #[(.string ⟨#[]⟩),(.string ⟨#[]⟩),(.int .i64 0),(.string ⟨#[]⟩),(.bool false)]) 64 rfl Tryz.underlying32 eB rfl (by decide) (by omega) v540 y539 y542 _ _ _ (fun k_=>some k_≠(v550:Value).ownBlock∧k_≠gb526) (fun _=>False) rfl rfl ?aO ?aR (fun _ _ h=>h) (fun _ h=>h.elim) ?aF ?aB ?aS ?aL ?_
                    (case aR=>exact eM (Kd.cV HR545.out HB.out))
                    (case aB=>exact aq)
                    (case aF=>exact (fun k_ hk=>⟨Kd.gW (Kd.cN (rel HO551.out)) k_ hk,Kd.j7 (g:=gb526) (o:=.cells #[.string a1_0,.string a1_1,.int .i64 a1_2,.string a1_3,.bool a1_4] 34 (0,0)) (dS BK526.out) k_ hk⟩))
                    (case aO=>exact (by (with_reducible repeat (first | apply Kd.bF | apply Kd.bG | apply Kd.bH));exact Kd.aE HO541.out (fun _ hk=>⟨hk.1.2,hk.2⟩)))
                    (case aS=>exact (aA aq))
                    (case aL=>have:=LMc27.out;omega)
                    intro v547 w37 ho hb hg hat
                    rw [←Ny546.out] at ho;have n0_:=aS (ew (g:=gb526) (o:=.cells #[.string a1_0,.string a1_1,.int .i64 a1_2,.string a1_3,.bool a1_4] 34 (0,0)) (dS BK526.out) hg (Kd.lq HO541.out (fun _ hk=>hk.2)));have n1_:=aS (Kd.iX (ok:=(fun k_=>k_≠gb526)) (by (with_reducible repeat (first | apply Kd.bF | apply Kd.bG | apply Kd.bH));exact Kd.aE HO551.out (fun _ hk=>⟨hk.1.2,hk.2⟩)) hg hat);have n2_:=aS (hb);have n3_:=aS (ho);clear BK526;clear HO551;clear HB;clear HO541;have BK526:=n0_;have HO551:=n1_;have HB:=n2_;have HO548:=n3_;clear n0_ n1_ n2_ n3_;clear ho hb hg hat;refine hK.out _ _ ⟨bc BK526 0,bc BK526 1,bc BK526 2,bc BK526 3,bc BK526 4⟩ (fun hHeld=>?_);clear hK K;refine nm 46 ?_;exact jA (by simp only [iW,Act.put,dn,dm,lss]) (hCont (v540,v547,v550) _ ⟨hHeld,(rel HO548.out),(by (with_reducible repeat (first | apply Kd.bF | apply Kd.bG | apply Kd.bH));exact Kd.aE HO551.out (fun _ hk=>⟨hk.2,hk.1⟩)),(dS BK526.out),aq⟩)
                  rintro ⟨v540,v547,v550⟩ w38 ⟨hS_,h0_,h1_,h2_,h3_⟩
                  have n0_:ah (Kd.R bP 34 w38 w.heap.size (fun k_=>some k_≠(v550:Value).ownBlock∧k_≠gb526) v547 y546):=⟨h0_⟩;have n1_:ah (Kd.R bP 34 w38 w.heap.size (fun k_=>some k_≠(v547:Value).ownBlock∧k_≠gb526) v550 y549):=⟨h1_⟩;have n2_:ah (w38.heap[gb526]? = some (.cells #[.string a1_0,.string a1_1,.int .i64 a1_2,.string a1_3,.bool a1_4] 34 (0,0))):=⟨h2_⟩;have n3_:ah (Below w.heap.size w w38):=⟨h3_⟩;clear BK526;clear HB;clear h0_ h1_ h2_ h3_;have HO548:=n0_;have HO551:=n1_;have BK526:=n2_;have HB:=n3_;clear n0_ n1_ n2_ n3_;have hHeld:w38.cell? ⟨gb526,0,none⟩=some (.string a1_0)∧w38.cell? ⟨gb526,1,none⟩=some (.string a1_1)∧w38.cell? ⟨gb526,2,none⟩=some (.int .i64 a1_2)∧w38.cell? ⟨gb526,3,none⟩=some (.string a1_3)∧w38.cell? ⟨gb526,4,none⟩=some (.bool a1_4):=hS_;obtain ⟨Ao40,co40,eo40⟩:=Kd.bn HO551.out
                  (first | subst eo40 | (injection eo40 with f1_ f2_ f3_;have f4_:=f1_.symm;have f5_:=f3_.symm;clear f1_ f2_ f3_;subst f4_;subst f5_))
                  refine jA (a':=?_) ?_ ?_
                  rotate_left
                  ·
                   simp only [iW,Act.put,dn,dm,lss]
                   rfl
                  refine dH 7 (N:=some 49) (bA 11 511) HT_ (fun K hK=>?_);refine Kd.ef bP (w0:=w) w.heap.size (by rfl) (.tmp 46) (.tmp 48) 32 34 (.agg #[(.string ⟨#[]⟩),(.string ⟨#[]⟩),(.int .i64 0),(.string ⟨#[]⟩),(.bool false)]) 64 rfl Tryz.underlying32 eB rfl (by decide) (by omega) v547 y546 y549 _ _ _ (fun k_=>some k_≠(.slice Ao40 y549.length co40:Value).ownBlock∧k_≠gb526) (fun _=>False) rfl rfl ?aO ?aR (fun _ _ h=>h) (fun _ h=>h.elim) ?aF ?aB ?aS ?aL ?_
                  (case aR=>exact eM ((Kd.aX HO551.out).2.2))
                  (case aB=>exact aq)
                  (case aF=>exact (fun k_ hk=>⟨Kd.gW (Kd.cN (rel HO551.out)) k_ hk,Kd.j7 (g:=gb526) (o:=.cells #[.string a1_0,.string a1_1,.int .i64 a1_2,.string a1_3,.bool a1_4] 34 (0,0)) (dS BK526.out) k_ hk⟩))
                  (case aO=>exact (rel HO548.out))
                  (case aS=>exact (aA aq))
                  (case aL=>have:=LMc28.out;omega)
                  intro v553 w39 ho hb hg hat
                  rw [←Ny552.out] at ho;have n0_:=aS (ew (g:=gb526) (o:=.cells #[.string a1_0,.string a1_1,.int .i64 a1_2,.string a1_3,.bool a1_4] 34 (0,0)) (dS BK526.out) hg (Kd.lq HO548.out (fun _ hk=>hk.2)));have n1_:=aS (Kd.iX (ok:=(fun k_=>k_≠gb526)) (by (with_reducible repeat (first | apply Kd.bF | apply Kd.bG | apply Kd.bH));exact Kd.aE HO551.out (fun _ hk=>⟨hk.2,hk.1⟩)) hg hat);have n2_:=aS (hb);have n3_:=aS (ho);clear BK526;clear HO551;clear HB;clear HO548;have BK526:=n0_;have HO551:=n1_;have HB:=n2_;have HO554:=n3_;clear n0_ n1_ n2_ n3_;clear ho hb hg hat;refine hK.out _ _ ⟨bc BK526 0,bc BK526 1,bc BK526 2,bc BK526 3,bc BK526 4⟩ (fun hHeld=>?_);clear hK K;refine nm 49 ?_;refine dH 9 (N:=some 51) (bA 11 1023) HT_ (fun K hK=>?_);refine Kd.ef bP (w0:=w) w.heap.size (by rfl) (.tmp 49) (.tmp 50) 32 34 (.agg #[(.string ⟨#[]⟩),(.string ⟨#[]⟩),(.int .i64 0),(.string ⟨#[]⟩),(.bool false)]) 64 rfl Tryz.underlying32 eB rfl (by decide) (by omega) v553 y552 y535 _ _ _ (fun k_=>some k_≠(.slice Ao40 y549.length co40:Value).ownBlock∧k_≠gb526) (fun _=>False) rfl rfl ?aO ?aR (fun _ _ h=>h) (fun _ h=>h.elim) ?aF ?aB ?aS ?aL ?_
                  (case aR=>exact eM (Kd.cV HR538.out HB.out))
                  (case aB=>exact aq)
                  (case aF=>exact (fun k_ hk=>⟨Kd.gW (Kd.cN (rel HO551.out)) k_ hk,Kd.j7 (g:=gb526) (o:=.cells #[.string a1_0,.string a1_1,.int .i64 a1_2,.string a1_3,.bool a1_4] 34 (0,0)) (dS BK526.out) k_ hk⟩))
                  (case aO=>exact (rel HO554.out))
                  (case aS=>exact (aA aq))
                  (case aL=>have:=LMc29.out;omega)
                  intro v556 w41 ho hb hg hat
                  rw [←Ny555.out] at ho;have n0_:=aS (ew (g:=gb526) (o:=.cells #[.string a1_0,.string a1_1,.int .i64 a1_2,.string a1_3,.bool a1_4] 34 (0,0)) (dS BK526.out) hg (Kd.lq HO554.out (fun _ hk=>hk.2)));have n1_:=aS (Kd.iX (ok:=(fun k_=>k_≠gb526)) (rel HO551.out) hg hat);have n2_:=aS (hb);have n3_:=aS (ho);clear BK526;clear HO551;clear HB;clear HO554;have BK526:=n0_;have HO551:=n1_;have HB:=n2_;have HO557:=n3_;clear n0_ n1_ n2_ n3_;clear ho hb hg hat;refine hK.out _ _ ⟨bc BK526 0,bc BK526 1,bc BK526 2,bc BK526 3,bc BK526 4⟩ (fun hHeld=>?_);clear hK K;refine nm 51 ?_;refine dB (i:=10) (N:=some 4) (v:=?_) (a':=?_) (bA 11 2047) rfl rfl (kY HT_.out (by kernel_rfl)) (fun _ _ _ h=>h) (Or.inl ⟨by rfl,?_⟩) ?_ ?_
                  rotate_left
                  ·
                   intro w'
                   go_simp
                   with_reducible rfl
                  rotate_left
                  ·
                   simp only [Act.put,dn,dm,lss,bB,bX]
                   rfl
                  refine dQ (cY HT_.out (by kernel_rfl)) ?_
                  try go_wp2
                  go_ret
                  exact ⟨_,by first | rfl | (simp [gP,gS]<;>rfl) | (simp only [←hji22];first | rfl | (simp [gP,gS]<;>rfl)) | (simp [*,gP,gS]<;>rfl),by (with_reducible repeat (first | apply Kd.bF | apply Kd.bG | apply Kd.bH));exact Kd.aE HO557.out (fun _ hk=>trivial),aq⟩
                 ·
                  rw [if_neg c29] at H;exact absurd H (by simp)
                ·
                 rw [if_neg c28] at H;exact absurd H (by simp)
               ·
                rw [if_neg c27] at H;exact absurd H (by simp)
              ·
               rw [if_neg c26] at H;exact absurd H (by simp)
             ·
              rw [if_neg c25] at H;exact absurd H (by simp)
            ·
             rw [if_neg c24] at H;exact absurd H (by simp)
           ·
            rw [if_neg c23] at H;exact absurd H (by simp)
          ·
           replace c21:=Bool.eq_false_iff.mpr c21;subst c21
           replace H:=jD H
           obtain ⟨y558,hy558⟩:∃ y_:List (au),y_=(([]:List (au))):=⟨_,rfl⟩
           replace H:(if 0≤x5_1 then (if x5_1≤(l0.length:Int) then ((some (l0.take (x5_1:Int).toNat:List (au))).bind fun y561=>(if y558.length+y561.length<2199023255552 then ((some (y558++y561:List (au))).bind fun y565=>((some (([(⟨a1_0,a1_1,a1_2,a1_3,a1_4⟩:au)]:List (au)):List (au))).bind fun y568=>(if y565.length+y568.length<2199023255552 then ((some (y565++y568:List (au))).bind fun y571=>(if y571.length+y529.length<2199023255552 then (some (y571++y529)) else (none))) else (none)))) else (none))) else (none)) else (none))=some r:=m8 hy558 H;have Ny558:=aS hy558;clear hy558
           by_cases c42:0≤x5_1
           ·
            rw [if_pos c42] at H;have c42b0:=eq_true c42;have c42b1:decide (0≤x5_1)=true:=decide_eq_true c42;clear c42
            by_cases c43:x5_1≤(l0.length:Int)
            ·
             rw [if_pos c43] at H;have c43b0:=eq_true c43;have c43b1:decide (x5_1≤(l0.length:Int))=true:=decide_eq_true c43;clear c43
             obtain ⟨y561,hy561⟩:∃ y_:List (au),y_=(l0.take (x5_1:Int).toNat):=⟨_,rfl⟩
             replace H:(if y558.length+y561.length<2199023255552 then ((some (y558++y561:List (au))).bind fun y565=>((some (([(⟨a1_0,a1_1,a1_2,a1_3,a1_4⟩:au)]:List (au)):List (au))).bind fun y568=>(if y565.length+y568.length<2199023255552 then ((some (y565++y568:List (au))).bind fun y571=>(if y571.length+y529.length<2199023255552 then (some (y571++y529)) else (none))) else (none)))) else (none))=some r:=m8 hy561 H;have Ny561:=aS hy561;clear hy561
             by_cases c44:y558.length+y561.length<2199023255552
             ·
              rw [if_pos c44] at H;have LMc44:=aS c44;clear c44
              obtain ⟨y565,hy565⟩:∃ y_:List (au),y_=(y558++y561):=⟨_,rfl⟩
              (first | replace H:=jZ hy565 H | rw [←hy565] at H);have Ny565:=aS hy565;clear hy565
              obtain ⟨y568,hy568⟩:∃ y_:List (au),y_=(([(⟨a1_0,a1_1,a1_2,a1_3,a1_4⟩:au)]:List (au))):=⟨_,rfl⟩
              replace H:(if y565.length+y568.length<2199023255552 then ((some (y565++y568:List (au))).bind fun y571=>(if y571.length+y529.length<2199023255552 then (some (y571++y529)) else (none))) else (none))=some r:=m8 hy568 H;have Ny568:=aS hy568;clear hy568
              by_cases c45:y565.length+y568.length<2199023255552
              ·
               rw [if_pos c45] at H;have LMc45:=aS c45;clear c45
               obtain ⟨y571,hy571⟩:∃ y_:List (au),y_=(y565++y568):=⟨_,rfl⟩
               (first | replace H:=jZ hy571 H | rw [←hy571] at H);have Ny571:=aS hy571;clear hy571
               by_cases c46:y571.length+y529.length<2199023255552
               ·
                rw [if_pos c46] at H;have LMc46:=aS c46;clear c46
                obtain ⟨y574,hy574⟩:∃ y_:List (au),y_=(y571++y529):=⟨_,rfl⟩
                replace H:(some y574)=some r:=m8 hy574 H;have Ny574:=aS hy574;clear hy574
                obtain rfl:=Option.some.inj H
                try go_wp2
                replace BK526:=aS (ar BK526.out);replace HB:=aS (jE HB.out);have q48:(x5_1:Int)≤((l0.length:Int):Int):=cr;obtain ⟨i048,hi048,_,hsz48,_⟩:=info_parts eB;have hroom48:l0.length≤c0:=HC0.out;have hC48:Kd.C bP _ A0 l0.length l0:=HR0.out;have hcut48:=jv (P:=Tryz.prog) 32 34 .i64 Tryz.underlying32 hi048 A0 l0.length c0 x5_1 (cr) q48 hroom48;have hr48:=Kd.nP (m:=(x5_1:Int).toNat) hC48 (by omega);have hy48:y561.length=(x5_1:Int).toNat:=(by rw [Ny561.out,kR];omega);rw [←Ny561.out] at hr48;rw [←hy48] at hcut48;have HR564:=aS hr48;have HC564:=aS (show y561.length≤c0 from by omega);clear hr48 hC48 hroom48 hi048 hsz48;have KY48:=aS hy48;clear hy48;replace q48:=eq_true q48;refine dA (n:=11) (S:=fun w'=>w'.cell? ⟨gb526,0,none⟩=some (.string a1_0)∧w'.cell? ⟨gb526,1,none⟩=some (.string a1_1)∧w'.cell? ⟨gb526,2,none⟩=some (.int .i64 a1_2)∧w'.cell? ⟨gb526,3,none⟩=some (.string a1_3)∧w'.cell? ⟨gb526,4,none⟩=some (.bool a1_4)) (ds:=[]) (bA 11 0) (by kernel_rfl) rfl rfl ⟨bc BK526 0,bc BK526 1,bc BK526 2,bc BK526 3,bc BK526 4⟩ (fun hHeld=>?_);refine cI av.zT av.wk (fun HT_ HW_=>?_)
                generalize wc.drew=w47 at BK526 HB HR564 hHeld ⊢
                refine aY [(1,43),(2,44),(3,45),(8,50),(5,47)] ?_
                iterate 5 (first | (refine cw HT_ ?_) | (refine d9 HT_ HW_ hHeld ?_))
                refine bU (bA 11 302) (by kernel_rfl) ?_;refine wo (σ:=Value × Value × Value) 3 (bA 11 383) (fun s_=>[(42,s_.1),(46,s_.2.1),(48,s_.2.2)]) (fun s_ w'=>(w'.cell? ⟨gb526,0,none⟩=some (.string a1_0)∧w'.cell? ⟨gb526,1,none⟩=some (.string a1_1)∧w'.cell? ⟨gb526,2,none⟩=some (.int .i64 a1_2)∧w'.cell? ⟨gb526,3,none⟩=some (.string a1_3)∧w'.cell? ⟨gb526,4,none⟩=some (.bool a1_4))∧(Kd.R bP 34 w' w.heap.size (fun k_=>some k_≠(s_.2.2:Value).ownBlock∧k_≠gb526) s_.2.1 y565)∧(Kd.R bP 34 w' w.heap.size (fun k_=>some k_≠(s_.2.1:Value).ownBlock∧k_≠gb526) s_.2.2 y568)∧(w'.heap[gb526]? = some (.cells #[.string a1_0,.string a1_1,.int .i64 a1_2,.string a1_3,.bool a1_4] 34 (0,0)))∧(Below w.heap.size w w')) ?_ ?_
                rotate_left
                ·
                 intro hCont
                 refine tq (i:=0) (j:=6) (Ni:=some 42) (Nj:=some 48) (bA 11 303) (bA 11 366) rfl rfl rfl rfl (oT HT_.out (by kernel_rfl)) (by decide) (by decide) (fun K hK=>?_) (fun K hK=>?_)
                 ·
                  skip
                  refine Kd.fP bP _ 34 ?hg (N:=42) ?hd (xs:=([]:List (au))) (inner:=[]) (ok:=fun _=>True) (okp:=fun _=>True) ?hr ?hp (fun _ hk=>hk) trivial (Below.refl _ _) (Nat.le_refl _) (by simp) ?_;(case hd=>rfl);(case hg=>rfl);(case hr=>first | (go_simp;done) | (go_simp;rfl));(case hp=>exact (bM.none _ _))
                  intro v559 w49 ho50 hb hg_ hnew_
                  clear hg_ hnew_
                  (first | rw [←Ny558.out] at ho50 | (simp only [Int.reduceToNat] at ho50;rw [←Ny558.out] at ho50))
                  have HO560:=aS (Kd.bh (Kd.lB ho50 (g:=gb526) (o:=.cells #[.string a1_0,.string a1_1,.int .i64 a1_2,.string a1_3,.bool a1_4] 34 (0,0)) (dS BK526.out)) (aA aq));replace BK526:=fo BK526 hb;replace HB:=aM hb;clear hb ho50;refine hK.out _ _ ⟨bc BK526 0,bc BK526 1,bc BK526 2,bc BK526 3,bc BK526 4⟩ (fun hHeld=>?_);clear hK K;refine nm 42 ?_;refine tq (i:=4) (j:=6) (Ni:=some 46) (Nj:=some 48) (bA 11 319) (bA 11 367) rfl rfl rfl rfl (oT HT_.out (by kernel_rfl)) (by decide) (by decide) (fun K hK=>?_) (fun K hK=>?_)
                  ·
                   skip
                   refine Kd.ef bP (w0:=w) w.heap.size (by rfl) (.tmp 42) (.tmp 45) 32 34 (.agg #[(.string ⟨#[]⟩),(.string ⟨#[]⟩),(.int .i64 0),(.string ⟨#[]⟩),(.bool false)]) 64 rfl Tryz.underlying32 eB rfl (by decide) (by omega) v559 y558 y561 _ _ _ (fun k_=>k_≠gb526) (fun _=>False) rfl rfl ?aO ?aR (fun _ _ h=>h) (fun _ h=>h.elim) ?aF ?aB ?aS ?aL ?_
                   (case aR=>exact eM (Kd.cV HR564.out HB.out))
                   (case aB=>exact aq)
                   (case aF=>exact (fun k_ hk=>Kd.j7 (g:=gb526) (o:=.cells #[.string a1_0,.string a1_1,.int .i64 a1_2,.string a1_3,.bool a1_4] 34 (0,0)) (dS BK526.out) k_ hk))
                   (case aO=>exact (rel (Kd.aE HO560.out (fun _ hk=>hk.2))))
                   (case aS=>exact (aA aq))
                   (case aL=>have:=LMc44.out;omega)
                   intro v566 w51 ho hb hg hat
                   rw [←Ny565.out] at ho;have n0_:=aS (ew (g:=gb526) (o:=.cells #[.string a1_0,.string a1_1,.int .i64 a1_2,.string a1_3,.bool a1_4] 34 (0,0)) (dS BK526.out) hg (Kd.lq HO560.out (fun _ hk=>hk.2)));have n1_:=aS (hb);have n2_:=aS (ho);clear BK526;clear HB;clear HO560;have BK526:=n0_;have HB:=n1_;have HO567:=n2_;clear n0_ n1_ n2_;clear ho hb hg hat;refine hK.out _ _ ⟨bc BK526 0,bc BK526 1,bc BK526 2,bc BK526 3,bc BK526 4⟩ (fun hHeld=>?_);clear hK K;refine nm 46 ?_;refine dH 6 (N:=some 48) (bA 11 383) HT_ (fun K hK=>?_)
                   refine Kd.fP bP _ 34 ?hg (N:=48) ?hd (xs:=([(⟨a1_0,a1_1,a1_2,a1_3,a1_4⟩:au)]:List (au))) (inner:=[.string a1_0,.string a1_1,.int .i64 a1_2,.string a1_3,.bool a1_4]) (ok:=fun _=>True) (okp:=fun _=>True) ?hr ?hp (fun _ hk=>hk) trivial (Below.refl _ _) (Nat.le_refl _) (by simp) ?_;(case hd=>rfl);(case hg=>rfl);(case hr=>first | (go_simp;done) | (go_simp;rfl));(case hp=>exact (bM.c5 (show Kd.M bP _ _ _ (⟨a1_0,a1_1,a1_2,a1_3,a1_4⟩:au) [.string a1_0,.string a1_1,.int .i64 a1_2,.string a1_3,.bool a1_4] from (gT _ _ _ (⟨a1_0,a1_1,a1_2,a1_3,a1_4⟩:au) )) (bM.none _ _)))
                   intro v569 w52 ho53 hb hg_ hnew_
                   clear hg_ hnew_
                   (first | rw [←Ny568.out] at ho53 | (simp only [Int.reduceToNat] at ho53;rw [←Ny568.out] at ho53))
                   have HO570:=aS (Kd.bh (Kd.lB (Kd.cJ ho53 (Kd.cN (rel HO567.out))) (g:=gb526) (o:=.cells #[.string a1_0,.string a1_1,.int .i64 a1_2,.string a1_3,.bool a1_4] 34 (0,0)) (dS BK526.out)) (aA aq));replace HO567:=aS (Kd.bR (rel HO567.out) (dr ho53) hb);replace BK526:=fo BK526 hb;replace HB:=aM hb;clear hb ho53;refine hK.out _ _ ⟨bc BK526 0,bc BK526 1,bc BK526 2,bc BK526 3,bc BK526 4⟩ (fun hHeld=>?_);clear hK K;refine nm 48 ?_;exact jA (by simp only [iW,Act.put,dn,dm,lss]) (hCont (v559,v566,v569) _ ⟨hHeld,(by (with_reducible repeat (first | apply Kd.bF | apply Kd.bG | apply Kd.bH));exact Kd.aE HO567.out (fun _ hk=>⟨hk.2,hk.1⟩)),(by (with_reducible repeat (first | apply Kd.bF | apply Kd.bG | apply Kd.bH));exact Kd.aE HO570.out (fun _ hk=>⟨hk.1.2,hk.2⟩)),(dS BK526.out),aq⟩)
                  ·
                   skip
                   refine Kd.fP bP _ 34 ?hg (N:=48) ?hd (xs:=([(⟨a1_0,a1_1,a1_2,a1_3,a1_4⟩:au)]:List (au))) (inner:=[.string a1_0,.string a1_1,.int .i64 a1_2,.string a1_3,.bool a1_4]) (ok:=fun _=>True) (okp:=fun _=>True) ?hr ?hp (fun _ hk=>hk) trivial (Below.refl _ _) (Nat.le_refl _) (by simp) ?_;(case hd=>rfl);(case hg=>rfl);(case hr=>first | (go_simp;done) | (go_simp;rfl));(case hp=>exact (bM.c5 (show Kd.M bP _ _ _ (⟨a1_0,a1_1,a1_2,a1_3,a1_4⟩:au) [.string a1_0,.string a1_1,.int .i64 a1_2,.string a1_3,.bool a1_4] from (gT _ _ _ (⟨a1_0,a1_1,a1_2,a1_3,a1_4⟩:au) )) (bM.none _ _)))
                   intro v569 w51 ho52 hb hg_ hnew_
                   clear hg_ hnew_
                   (first | rw [←Ny568.out] at ho52 | (simp only [Int.reduceToNat] at ho52;rw [←Ny568.out] at ho52))
                   have HO570:=aS (Kd.bh (Kd.lB (Kd.cJ ho52 (Kd.cN (rel HO560.out))) (g:=gb526) (o:=.cells #[.string a1_0,.string a1_1,.int .i64 a1_2,.string a1_3,.bool a1_4] 34 (0,0)) (dS BK526.out)) (aA aq));replace HO560:=aS (Kd.bR (rel HO560.out) (dr ho52) hb);replace BK526:=fo BK526 hb;replace HB:=aM hb;clear hb ho52;refine hK.out _ _ ⟨bc BK526 0,bc BK526 1,bc BK526 2,bc BK526 3,bc BK526 4⟩ (fun hHeld=>?_);clear hK K;refine nm 48 ?_;refine dH 4 (N:=some 46) (bA 11 383) HT_ (fun K hK=>?_);refine Kd.ef bP (w0:=w) w.heap.size (by rfl) (.tmp 42) (.tmp 45) 32 34 (.agg #[(.string ⟨#[]⟩),(.string ⟨#[]⟩),(.int .i64 0),(.string ⟨#[]⟩),(.bool false)]) 64 rfl Tryz.underlying32 eB rfl (by decide) (by omega) v559 y558 y561 _ _ _ (fun k_=>some k_≠(v569:Value).ownBlock∧k_≠gb526) (fun _=>False) rfl rfl ?aO ?aR (fun _ _ h=>h) (fun _ h=>h.elim) ?aF ?aB ?aS ?aL ?_
                   (case aR=>exact eM (Kd.cV HR564.out HB.out))
                   (case aB=>exact aq)
                   (case aF=>exact (fun k_ hk=>⟨Kd.gW (Kd.cN (rel HO570.out)) k_ hk,Kd.j7 (g:=gb526) (o:=.cells #[.string a1_0,.string a1_1,.int .i64 a1_2,.string a1_3,.bool a1_4] 34 (0,0)) (dS BK526.out) k_ hk⟩))
                   (case aO=>exact (by (with_reducible repeat (first | apply Kd.bF | apply Kd.bG | apply Kd.bH));exact Kd.aE HO560.out (fun _ hk=>⟨hk.2,hk.1.2⟩)))
                   (case aS=>exact (aA aq))
                   (case aL=>have:=LMc44.out;omega)
                   intro v566 w53 ho hb hg hat
                   rw [←Ny565.out] at ho;have n0_:=aS (ew (g:=gb526) (o:=.cells #[.string a1_0,.string a1_1,.int .i64 a1_2,.string a1_3,.bool a1_4] 34 (0,0)) (dS BK526.out) hg (Kd.lq HO560.out (fun _ hk=>hk.1.2)));have n1_:=aS (Kd.iX (ok:=(fun k_=>k_≠gb526)) (by (with_reducible repeat (first | apply Kd.bF | apply Kd.bG | apply Kd.bH));exact Kd.aE HO570.out (fun _ hk=>⟨hk.2,hk.1.2⟩)) hg hat);have n2_:=aS (hb);have n3_:=aS (ho);clear BK526;clear HO570;clear HB;clear HO560;have BK526:=n0_;have HO570:=n1_;have HB:=n2_;have HO567:=n3_;clear n0_ n1_ n2_ n3_;clear ho hb hg hat;refine hK.out _ _ ⟨bc BK526 0,bc BK526 1,bc BK526 2,bc BK526 3,bc BK526 4⟩ (fun hHeld=>?_);clear hK K;refine nm 46 ?_;exact jA (by simp only [iW,Act.put,dn,dm,lss]) (hCont (v559,v566,v569) _ ⟨hHeld,(rel HO567.out),(by (with_reducible repeat (first | apply Kd.bF | apply Kd.bG | apply Kd.bH));exact Kd.aE HO570.out (fun _ hk=>⟨hk.2,hk.1⟩)),(dS BK526.out),aq⟩)
                 ·
                  skip
                  refine Kd.fP bP _ 34 ?hg (N:=48) ?hd (xs:=([(⟨a1_0,a1_1,a1_2,a1_3,a1_4⟩:au)]:List (au))) (inner:=[.string a1_0,.string a1_1,.int .i64 a1_2,.string a1_3,.bool a1_4]) (ok:=fun _=>True) (okp:=fun _=>True) ?hr ?hp (fun _ hk=>hk) trivial (Below.refl _ _) (Nat.le_refl _) (by simp) ?_;(case hd=>rfl);(case hg=>rfl);(case hr=>first | (go_simp;done) | (go_simp;rfl));(case hp=>exact (bM.c5 (show Kd.M bP _ _ _ (⟨a1_0,a1_1,a1_2,a1_3,a1_4⟩:au) [.string a1_0,.string a1_1,.int .i64 a1_2,.string a1_3,.bool a1_4] from (gT _ _ _ (⟨a1_0,a1_1,a1_2,a1_3,a1_4⟩:au) )) (bM.none _ _)))
                  intro v569 w49 ho50 hb hg_ hnew_
                  clear hg_ hnew_
                  (first | rw [←Ny568.out] at ho50 | (simp only [Int.reduceToNat] at ho50;rw [←Ny568.out] at ho50))
                  have HO570:=aS (Kd.bh (Kd.lB ho50 (g:=gb526) (o:=.cells #[.string a1_0,.string a1_1,.int .i64 a1_2,.string a1_3,.bool a1_4] 34 (0,0)) (dS BK526.out)) (aA aq));replace BK526:=fo BK526 hb;replace HB:=aM hb;clear hb ho50;refine hK.out _ _ ⟨bc BK526 0,bc BK526 1,bc BK526 2,bc BK526 3,bc BK526 4⟩ (fun hHeld=>?_);clear hK K;refine nm 48 ?_;refine dH 0 (N:=some 42) (bA 11 367) HT_ (fun K hK=>?_)
                  refine Kd.fP bP _ 34 ?hg (N:=42) ?hd (xs:=([]:List (au))) (inner:=[]) (ok:=fun _=>True) (okp:=fun _=>True) ?hr ?hp (fun _ hk=>hk) trivial (Below.refl _ _) (Nat.le_refl _) (by simp) ?_;(case hd=>rfl);(case hg=>rfl);(case hr=>first | (go_simp;done) | (go_simp;rfl));(case hp=>exact (bM.none _ _))
                  intro v559 w51 ho52 hb hg_ hnew_
                  clear hg_ hnew_
                  (first | rw [←Ny558.out] at ho52 | (simp only [Int.reduceToNat] at ho52;rw [←Ny558.out] at ho52))
                  have HO560:=aS (Kd.bh (Kd.lB (Kd.cJ ho52 (Kd.cN (rel HO570.out))) (g:=gb526) (o:=.cells #[.string a1_0,.string a1_1,.int .i64 a1_2,.string a1_3,.bool a1_4] 34 (0,0)) (dS BK526.out)) (aA aq));replace HO570:=aS (Kd.bR (rel HO570.out) (dr ho52) hb);replace BK526:=fo BK526 hb;replace HB:=aM hb;clear hb ho52;refine hK.out _ _ ⟨bc BK526 0,bc BK526 1,bc BK526 2,bc BK526 3,bc BK526 4⟩ (fun hHeld=>?_);clear hK K;refine nm 42 ?_;refine dH 4 (N:=some 46) (bA 11 383) HT_ (fun K hK=>?_);refine Kd.ef bP (w0:=w) w.heap.size (by rfl) (.tmp 42) (.tmp 45) 32 34 (.agg #[(.string ⟨#[]⟩),(.string ⟨#[]⟩),(.int .i64 0),(.string ⟨#[]⟩),(.bool false)]) 64 rfl Tryz.underlying32 eB rfl (by decide) (by omega) v559 y558 y561 _ _ _ (fun k_=>some k_≠(v569:Value).ownBlock∧k_≠gb526) (fun _=>False) rfl rfl ?aO ?aR (fun _ _ h=>h) (fun _ h=>h.elim) ?aF ?aB ?aS ?aL ?_
                  (case aR=>exact eM (Kd.cV HR564.out HB.out))
                  (case aB=>exact aq)
                  (case aF=>exact (fun k_ hk=>⟨Kd.gW (Kd.cN (rel HO570.out)) k_ hk,Kd.j7 (g:=gb526) (o:=.cells #[.string a1_0,.string a1_1,.int .i64 a1_2,.string a1_3,.bool a1_4] 34 (0,0)) (dS BK526.out) k_ hk⟩))
                  (case aO=>exact (by (with_reducible repeat (first | apply Kd.bF | apply Kd.bG | apply Kd.bH));exact Kd.aE HO560.out (fun _ hk=>⟨hk.1.2,hk.2⟩)))
                  (case aS=>exact (aA aq))
                  (case aL=>have:=LMc44.out;omega)
                  intro v566 w53 ho hb hg hat
                  rw [←Ny565.out] at ho;have n0_:=aS (ew (g:=gb526) (o:=.cells #[.string a1_0,.string a1_1,.int .i64 a1_2,.string a1_3,.bool a1_4] 34 (0,0)) (dS BK526.out) hg (Kd.lq HO560.out (fun _ hk=>hk.2)));have n1_:=aS (Kd.iX (ok:=(fun k_=>k_≠gb526)) (by (with_reducible repeat (first | apply Kd.bF | apply Kd.bG | apply Kd.bH));exact Kd.aE HO570.out (fun _ hk=>⟨hk.1.2,hk.2⟩)) hg hat);have n2_:=aS (hb);have n3_:=aS (ho);clear BK526;clear HO570;clear HB;clear HO560;have BK526:=n0_;have HO570:=n1_;have HB:=n2_;have HO567:=n3_;clear n0_ n1_ n2_ n3_;clear ho hb hg hat;refine hK.out _ _ ⟨bc BK526 0,bc BK526 1,bc BK526 2,bc BK526 3,bc BK526 4⟩ (fun hHeld=>?_);clear hK K;refine nm 46 ?_;exact jA (by simp only [iW,Act.put,dn,dm,lss]) (hCont (v559,v566,v569) _ ⟨hHeld,(rel HO567.out),(by (with_reducible repeat (first | apply Kd.bF | apply Kd.bG | apply Kd.bH));exact Kd.aE HO570.out (fun _ hk=>⟨hk.2,hk.1⟩)),(dS BK526.out),aq⟩)
                rintro ⟨v559,v566,v569⟩ w54 ⟨hS_,h0_,h1_,h2_,h3_⟩
                have n0_:ah (Kd.R bP 34 w54 w.heap.size (fun k_=>some k_≠(v569:Value).ownBlock∧k_≠gb526) v566 y565):=⟨h0_⟩;have n1_:ah (Kd.R bP 34 w54 w.heap.size (fun k_=>some k_≠(v566:Value).ownBlock∧k_≠gb526) v569 y568):=⟨h1_⟩;have n2_:ah (w54.heap[gb526]? = some (.cells #[.string a1_0,.string a1_1,.int .i64 a1_2,.string a1_3,.bool a1_4] 34 (0,0))):=⟨h2_⟩;have n3_:ah (Below w.heap.size w w54):=⟨h3_⟩;clear BK526;clear HB;clear h0_ h1_ h2_ h3_;have HO567:=n0_;have HO570:=n1_;have BK526:=n2_;have HB:=n3_;clear n0_ n1_ n2_ n3_;have hHeld:w54.cell? ⟨gb526,0,none⟩=some (.string a1_0)∧w54.cell? ⟨gb526,1,none⟩=some (.string a1_1)∧w54.cell? ⟨gb526,2,none⟩=some (.int .i64 a1_2)∧w54.cell? ⟨gb526,3,none⟩=some (.string a1_3)∧w54.cell? ⟨gb526,4,none⟩=some (.bool a1_4):=hS_;obtain ⟨Ao56,co56,eo56⟩:=Kd.bn HO570.out
                (first | subst eo56 | (injection eo56 with f1_ f2_ f3_;have f4_:=f1_.symm;have f5_:=f3_.symm;clear f1_ f2_ f3_;subst f4_;subst f5_))
                refine jA (a':=?_) ?_ ?_
                rotate_left
                ·
                 simp only [iW,Act.put,dn,dm,lss]
                 rfl
                refine dH 7 (N:=some 49) (bA 11 511) HT_ (fun K hK=>?_);refine Kd.ef bP (w0:=w) w.heap.size (by rfl) (.tmp 46) (.tmp 48) 32 34 (.agg #[(.string ⟨#[]⟩),(.string ⟨#[]⟩),(.int .i64 0),(.string ⟨#[]⟩),(.bool false)]) 64 rfl Tryz.underlying32 eB rfl (by decide) (by omega) v566 y565 y568 _ _ _ (fun k_=>some k_≠(.slice Ao56 y568.length co56:Value).ownBlock∧k_≠gb526) (fun _=>False) rfl rfl ?aO ?aR (fun _ _ h=>h) (fun _ h=>h.elim) ?aF ?aB ?aS ?aL ?_
                (case aR=>exact eM ((Kd.aX HO570.out).2.2))
                (case aB=>exact aq)
                (case aF=>exact (fun k_ hk=>⟨Kd.gW (Kd.cN (rel HO570.out)) k_ hk,Kd.j7 (g:=gb526) (o:=.cells #[.string a1_0,.string a1_1,.int .i64 a1_2,.string a1_3,.bool a1_4] 34 (0,0)) (dS BK526.out) k_ hk⟩))
                (case aO=>exact (rel HO567.out))
                (case aS=>exact (aA aq))
                (case aL=>have:=LMc45.out;omega)
                intro v572 w55 ho hb hg hat
                rw [←Ny571.out] at ho;have n0_:=aS (ew (g:=gb526) (o:=.cells #[.string a1_0,.string a1_1,.int .i64 a1_2,.string a1_3,.bool a1_4] 34 (0,0)) (dS BK526.out) hg (Kd.lq HO567.out (fun _ hk=>hk.2)));have n1_:=aS (Kd.iX (ok:=(fun k_=>k_≠gb526)) (by (with_reducible repeat (first | apply Kd.bF | apply Kd.bG | apply Kd.bH));exact Kd.aE HO570.out (fun _ hk=>⟨hk.2,hk.1⟩)) hg hat);have n2_:=aS (hb);have n3_:=aS (ho);clear BK526;clear HO570;clear HB;clear HO567;have BK526:=n0_;have HO570:=n1_;have HB:=n2_;have HO573:=n3_;clear n0_ n1_ n2_ n3_;clear ho hb hg hat;refine hK.out _ _ ⟨bc BK526 0,bc BK526 1,bc BK526 2,bc BK526 3,bc BK526 4⟩ (fun hHeld=>?_);clear hK K;refine nm 49 ?_;refine dH 9 (N:=some 51) (bA 11 1023) HT_ (fun K hK=>?_);refine Kd.ef bP (w0:=w) w.heap.size (by rfl) (.tmp 49) (.tmp 50) 32 34 (.agg #[(.string ⟨#[]⟩),(.string ⟨#[]⟩),(.int .i64 0),(.string ⟨#[]⟩),(.bool false)]) 64 rfl Tryz.underlying32 eB rfl (by decide) (by omega) v572 y571 y529 _ _ _ (fun k_=>some k_≠(.slice Ao56 y568.length co56:Value).ownBlock∧k_≠gb526) (fun _=>False) rfl rfl ?aO ?aR (fun _ _ h=>h) (fun _ h=>h.elim) ?aF ?aB ?aS ?aL ?_
                (case aR=>exact eM (Kd.cV HR532.out HB.out))
                (case aB=>exact aq)
                (case aF=>exact (fun k_ hk=>⟨Kd.gW (Kd.cN (rel HO570.out)) k_ hk,Kd.j7 (g:=gb526) (o:=.cells #[.string a1_0,.string a1_1,.int .i64 a1_2,.string a1_3,.bool a1_4] 34 (0,0)) (dS BK526.out) k_ hk⟩))
                (case aO=>exact (rel HO573.out))
                (case aS=>exact (aA aq))
                (case aL=>have:=LMc46.out;omega)
                intro v575 w57 ho hb hg hat
                rw [←Ny574.out] at ho;have n0_:=aS (ew (g:=gb526) (o:=.cells #[.string a1_0,.string a1_1,.int .i64 a1_2,.string a1_3,.bool a1_4] 34 (0,0)) (dS BK526.out) hg (Kd.lq HO573.out (fun _ hk=>hk.2)));have n1_:=aS (Kd.iX (ok:=(fun k_=>k_≠gb526)) (rel HO570.out) hg hat);have n2_:=aS (hb);have n3_:=aS (ho);clear BK526;clear HO570;clear HB;clear HO573;have BK526:=n0_;have HO570:=n1_;have HB:=n2_;have HO576:=n3_;clear n0_ n1_ n2_ n3_;clear ho hb hg hat;refine hK.out _ _ ⟨bc BK526 0,bc BK526 1,bc BK526 2,bc BK526 3,bc BK526 4⟩ (fun hHeld=>?_);clear hK K;refine nm 51 ?_;refine dB (i:=10) (N:=some 4) (v:=?_) (a':=?_) (bA 11 2047) rfl rfl (kY HT_.out (by kernel_rfl)) (fun _ _ _ h=>h) (Or.inl ⟨by rfl,?_⟩) ?_ ?_
                rotate_left
                ·
                 intro w'
                 go_simp
                 with_reducible rfl
                rotate_left
                ·
                 simp only [Act.put,dn,dm,lss,bB,bX]
                 rfl
                refine dQ (cY HT_.out (by kernel_rfl)) ?_
                try go_wp2
                go_ret
                exact ⟨_,dR,by (with_reducible repeat (first | apply Kd.bF | apply Kd.bG | apply Kd.bH));exact Kd.aE HO576.out (fun _ hk=>trivial),aq⟩
               ·
                rw [if_neg c46] at H;exact absurd H (by simp)
              ·
               rw [if_neg c45] at H;exact absurd H (by simp)
             ·
              rw [if_neg c44] at H;exact absurd H (by simp)
            ·
             rw [if_neg c43] at H;exact absurd H (by simp)
           ·
            rw [if_neg c42] at H;exact absurd H (by simp)
       ·
        rw [if_neg c13] at H;exact absurd H (by simp)
      ·
       rw [if_neg c12] at H;exact absurd H (by simp)
end Go.Proofs.YtcbhfedcdnjljaaGreat.X

import Derived.Test.YtcbhfedcdnjljaaGreatXx10
set_option maxHeartbeats 8000000
set_option maxRecDepth 100000
set_option linter.unusedVariables false
set_option linter.unusedSimpArgs false
namespace Go.Proofs.YtcbhfedcdnjljaaGreat.X
open Go.RowKit Go.Proofs.YtcbhfedcdnjljaaGreatW.PrintWords Go.Proofs.YtcbhfedcdnjljaaGreatW.PrintLast Go.Proofs.YtcbhfedcdnjljaaGreatW.PrintMore
attribute [local go_sem] gZ g_ iW iZ gF gD ic ig iX
def cE.j0:Nat→List (av)→Int→Bool→Option (ByteArray × ByteArray × Int × ByteArray × Bool × Bool)
 | 0,_,_,_=>none
 | k+1,x0,x10,x42=>if x42=true then (some ((⟨#[]⟩:ByteArray),(⟨#[]⟩:ByteArray),0,(⟨#[]⟩:ByteArray),false,false)) else (if 0≤x10 then (if x10<(x0.length:Int) then (some ((af x0 x10).f0,(af x0 x10).f1,(af x0 x10).f2,(af x0 x10).f3,(af x0 x10).f4,true)) else (none)) else (none))
def cE.f (k:Nat) (l0:List (av)) (a1:ByteArray) (a2:ByteArray) (a3:Int):Option (ByteArray × ByteArray × Int × ByteArray × Bool × Bool):=(bB.f k l0 a1 a2 a3 (⟨#[]⟩:ByteArray) false).bind fun bt492=>(if bt492.1=(l0.length:Int) then (cE.j0 k l0 bt492.1 true) else (if 0≤bt492.1 then (if bt492.1<(l0.length:Int) then (if ((af l0 bt492.1).f0).toList=a1.toList then (cE.j0 k l0 bt492.1 (((af l0 bt492.1).f1).toList != a2.toList)) else (cE.j0 k l0 bt492.1 true)) else (none)) else (none)))
theorem cE.cP:∀ k,(∀ y0 y1 y2,aE (cE.j0 k y0 y1 y2) (cE.j0 (k+1) y0 y1 y2))
 | 0=>fun _ _ _ r h=>by simp [cE.j0] at h
 | k+1=>by
  have ih0:=cE.cP k
  ·
   intro y0 y1 y2
   unfold cE.j0
   have m0:=@bB.mono;exact e8
theorem cE.mono:∀ a0 a1 a2 a3 k,aE (cE.f k a0 a1 a2 a3) (cE.f (k+1) a0 a1 a2 a3):=by
 intro a0 a1 a2 a3 k
 have ih0:=cE.cP k
 unfold cE.f
 have m0:=@bB.mono;exact e8
theorem cE.calls (k:Nat) (A0:Option Addr) (c0:Nat) (l0:List (av)) (a1:ByteArray) (a2:ByteArray) (a3:Int) (r1:ByteArray) (r2:ByteArray) (r3:Int) (r4:ByteArray) (r5:Bool) (r6:Bool) (w:World) (hr0:Kd.C cC w A0 l0.length l0) (hc0:l0.length≤c0) (h:cE.f k l0 a1 a2 a3=some (r1,r2,r3,r4,r5,r6)) :
  Calls Tryz.prog 76 #[.slice A0 l0.length c0,.string a1,.string a2,.int .i64 a3] w fun e w'=>e = .returned (.tuple #[.agg #[.string r1,.string r2,.int .i64 r3,.string r4,.bool r5],.bool r6])∧Below w.heap.size w w':=by
 have hu34:=Tryz.underlying34;have HR0:=aS hr0;have HC0:=aS hc0;clear hr0 hc0;have HB:=aS (Below.refl w.heap.size w);have H:((bB.f k l0 a1 a2 a3 (⟨#[]⟩:ByteArray) false).bind fun bt492=>(if bt492.1=(l0.length:Int) then (cE.j0 k l0 bt492.1 true) else (if 0≤bt492.1 then (if bt492.1<(l0.length:Int) then (if ((af l0 bt492.1).f0).toList=a1.toList then (cE.j0 k l0 bt492.1 (((af l0 bt492.1).f1).toList != a2.toList)) else (cE.j0 k l0 bt492.1 true)) else (none)) else (none))))=some (r1,r2,r3,r4,r5,r6):=h;clear h;replace H:=bV H;obtain ⟨⟨t492,t493⟩,A50,H⟩:=H;(try dsimp only at H);have A5:=aS A50;clear A50;have HC6:=aS H;clear H
 go_enter Tryz.func76,Tryz.ntmps76
 go_upto_region 2 with (first | ((with_reducible refine aX (N:=8) rfl ?_);refine aY ?hg (N:=8) ?hd (cs:=#[.string (⟨#[]⟩:ByteArray),.string (⟨#[]⟩:ByteArray),.int .i64 0,.string (⟨#[]⟩:ByteArray),.bool false]) (t:=34) ?hr ?_;(case hd=>rfl);(case hg=>rfl);(case hr=>first | (go_simp;done) | (go_simp;rfl));intro gb491 hg w7 hbox hb;have BK491:=aS (hbox);have GW491:=bsize hg;have GE491:=bsize hg;replace HB:=aM hb;clear hb hbox hg) | ((with_reducible refine aC (f:=46) rfl ?_);refine bE (some 18) rfl rfl Tryz.func46 (by kernel_rfl) rfl #[.slice A0 l0.length c0,.agg #[.string a1,.string a2,.int .i64 a3,.string (⟨#[]⟩:ByteArray),.bool false],.func (.func 47) #[] #[]] rfl cD ?_;(with_reducible refine (bB.calls k _ _ l0 a1 a2 a3 (⟨#[]⟩:ByteArray) false  t492 t493 _ ?side1 ?side2 A5.out).mono ?_);(case side1=>exact eN (Kd.cW HR0.out HB.out));(case side2=>exact HC0.out);rintro e w8 ⟨rfl,hb⟩;refine ⟨_,rfl,?_⟩;replace BK491:=fA BK491 hb;replace HB:=aM hb;(try clear hb);(try clear hk);(try clear hi)))
 (try simp only [Act.put,dw,dx,lss])
 go_cut [42] (fun v42 wc=>∃ (kq:Nat) (x42_5:Bool),v42 = .bool x42_5∧ak (cE.j0 kq l0 t492 x42_5=some (r1,r2,r3,r4,r5,r6))∧ak (kq≤k)∧ak (wc.heap[gb491]? = some (.cells #[.string (⟨#[]⟩:ByteArray),.string (⟨#[]⟩:ByteArray),.int .i64 0,.string (⟨#[]⟩:ByteArray),.bool false] 34 (0,0)))∧ak (Below w.heap.size w wc))
 case first=>
  have H:=HC6.out;clear HC6
  by_cases c9:t492=(l0.length:Int)
  ·
   rw [if_pos c9] at H;obtain ⟨c9b0,c9b1⟩:=jE c9;clear c9
   (first | rw [c9b0] | (simp only [bC,cm];rw [c9b0]) | skip)
   have H':=aS H
   clear H
   go_wp2
   go_meet
   case rel=>exact ⟨_,(true),dU,H',⟨by first | omega | exact Nat.le_refl _⟩,⟨eB BK491.out⟩,⟨ar⟩⟩
  ·
   rw [if_neg c9] at H;obtain ⟨c9b0,c9b1⟩:=ju c9
   (first | rw [c9b0] | (simp only [bC,cm];rw [c9b0]) | skip)
   by_cases eU:0≤t492
   ·
    rw [if_pos eU] at H;have c10b0:decide (0≤t492)=true:=decide_eq_true eU;clear eU
    by_cases c11:t492<(l0.length:Int)
    ·
     rw [if_pos c11] at H;have c11b0:decide (t492<(l0.length:Int))=true:=decide_eq_true c11;clear c11
     by_cases c12:((af l0 t492).f0).toList=a1.toList
     ·
      rw [if_pos c12] at H;obtain ⟨c12b0,c12b1⟩:=jE c12;clear c12
      have H':=aS H
      clear H;have p494:0≤(t492:Int):=cG;have q494:t492<(l0.length:Int):=cG;obtain ⟨ad494,e494,hx494_0,hx494_1,hx494_2,hx494_3,hx494_4⟩:=eT HR0.out t492 p494 q494;cases e494;replace hx494_0:=bx ar hx494_0;replace hx494_1:=bx ar hx494_1;replace hx494_2:=bx ar hx494_2;replace hx494_3:=bx ar hx494_3;replace hx494_4:=bx ar hx494_4;replace p494:=eq_true p494;replace q494:=eq_true q494;have p495:0≤(t492:Int):=cG;have q495:t492<(l0.length:Int):=cG;obtain ⟨ad495,e495,hx495_0,hx495_1,hx495_2,hx495_3,hx495_4⟩:=eT HR0.out t492 p495 q495
      obtain rfl:ad494=ad495:=(by injection e495)
      replace hx495_0:=bx ar hx495_0;replace hx495_1:=bx ar hx495_1;replace hx495_2:=bx ar hx495_2;replace hx495_3:=bx ar hx495_3;replace hx495_4:=bx ar hx495_4;replace p495:=eq_true p495;replace q495:=eq_true q495
      go_wp2
      go_meet
      case rel=>exact ⟨_,((((af l0 t492).f1).toList != a2.toList)),dU,H',⟨by first | omega | exact Nat.le_refl _⟩,⟨eB BK491.out⟩,⟨ar⟩⟩
     ·
      rw [if_neg c12] at H;obtain ⟨c12b0,c12b1⟩:=ju c12
      have H':=aS H
      clear H;have p494:0≤(t492:Int):=cG;have q494:t492<(l0.length:Int):=cG;obtain ⟨ad494,e494,hx494_0,hx494_1,hx494_2,hx494_3,hx494_4⟩:=eT HR0.out t492 p494 q494;cases e494;replace hx494_0:=bx ar hx494_0;replace hx494_1:=bx ar hx494_1;replace hx494_2:=bx ar hx494_2;replace hx494_3:=bx ar hx494_3;replace hx494_4:=bx ar hx494_4;replace p494:=eq_true p494;replace q494:=eq_true q494
      go_wp2
      go_meet
      case rel=>exact ⟨_,(true),dU,H',⟨by first | omega | exact Nat.le_refl _⟩,⟨eB BK491.out⟩,⟨ar⟩⟩
    ·
     rw [if_neg c11] at H;exact absurd H (by simp)
   ·
    rw [if_neg eU] at H;exact absurd H (by simp)
 case rest=>
  clear HC6;obtain ⟨kq,x42_5,rfl,HA,HJ5,BK491,HB⟩:=hcut
  cases kq with
  | zero=>exact absurd HA.out (by simp [cE.j0])
  | succ kj5=>
   have H:=HA.out;clear HA
   simp only [cE.j0] at H
   by_cases c13:x42_5=true
   ·
    subst c13
    replace H:=jQ H
    simp only [Option.some.injEq,Prod.mk.injEq] at H
    obtain ⟨rfl,rfl,rfl,rfl,rfl,rfl⟩:=H;have hcz14:=cR BK491
    go_wp2
    refine bodyPost_ret (lP rfl _ _ gb491 34 #[.string (⟨#[]⟩:ByteArray),.string (⟨#[]⟩:ByteArray),.int .i64 0,.string (⟨#[]⟩:ByteArray),.bool false] (0,0) _ rfl (by (with_reducible repeat (first | refine aA ?_ _ | refine au ?_ | refine ax ?_ _));refine bn (cs:=#[.string (⟨#[]⟩:ByteArray),.string (⟨#[]⟩:ByteArray),.int .i64 0,.string (⟨#[]⟩:ByteArray),.bool false]) ?_ 4 _ rfl;(with_reducible repeat (first | refine aA ?_ _ | refine au ?_ | refine ax ?_ _));refine bn (cs:=#[.string (⟨#[]⟩:ByteArray),.string (⟨#[]⟩:ByteArray),.int .i64 0,.string (⟨#[]⟩:ByteArray),.bool false]) ?_ 3 _ rfl;(with_reducible repeat (first | refine aA ?_ _ | refine au ?_ | refine ax ?_ _));refine bn (cs:=#[.string (⟨#[]⟩:ByteArray),.string (⟨#[]⟩:ByteArray),.int .i64 0,.string (⟨#[]⟩:ByteArray),.bool false]) ?_ 2 _ rfl;(with_reducible repeat (first | refine aA ?_ _ | refine au ?_ | refine ax ?_ _));refine bn (cs:=#[.string (⟨#[]⟩:ByteArray),.string (⟨#[]⟩:ByteArray),.int .i64 0,.string (⟨#[]⟩:ByteArray),.bool false]) ?_ 1 _ rfl;(with_reducible repeat (first | refine aA ?_ _ | refine au ?_ | refine ax ?_ _));refine bn (cs:=#[.string (⟨#[]⟩:ByteArray),.string (⟨#[]⟩:ByteArray),.int .i64 0,.string (⟨#[]⟩:ByteArray),.bool false]) ?_ 0 _ rfl;(with_reducible repeat (first | refine aA ?_ _ | refine au ?_ | refine ax ?_ _));exact BK491.out) Tryz.underlying34 rfl (by kernel_rfl)) rfl ?_;exact ⟨dN,ar⟩
   ·
    replace c13:=Bool.eq_false_iff.mpr c13;subst c13
    replace H:=jO H
    by_cases c15:0≤t492
    ·
     rw [if_pos c15] at H;have c15b0:decide (0≤t492)=true:=decide_eq_true c15;clear c15
     by_cases c16:t492<(l0.length:Int)
     ·
      rw [if_pos c16] at H;have c16b0:decide (t492<(l0.length:Int))=true:=decide_eq_true c16;clear c16
      simp only [Option.some.injEq,Prod.mk.injEq] at H
      obtain ⟨rfl,rfl,rfl,rfl,rfl,rfl⟩:=H;have p496:0≤(t492:Int):=cG;have q496:t492<(l0.length:Int):=cG;obtain ⟨ad496,e496,hx496_0,hx496_1,hx496_2,hx496_3,hx496_4⟩:=eT HR0.out t492 p496 q496;cases e496;replace hx496_0:=bx ar hx496_0;replace hx496_1:=bx ar hx496_1;replace hx496_2:=bx ar hx496_2;replace hx496_3:=bx ar hx496_3;replace hx496_4:=bx ar hx496_4;replace p496:=eq_true p496;replace q496:=eq_true q496;have hcz17:=cR BK491
      go_wp2
      refine bodyPost_ret (lP rfl _ _ gb491 34 #[.string ((af l0 t492).f0),.string ((af l0 t492).f1),.int .i64 ((af l0 t492).f2),.string ((af l0 t492).f3),.bool ((af l0 t492).f4)] (0,0) _ rfl (by (with_reducible repeat (first | refine aA ?_ _ | refine au ?_ | refine ax ?_ _));refine bn (cs:=#[.string ((af l0 t492).f0),.string ((af l0 t492).f1),.int .i64 ((af l0 t492).f2),.string ((af l0 t492).f3),.bool false]) ?_ 4 _ rfl;(with_reducible repeat (first | refine aA ?_ _ | refine au ?_ | refine ax ?_ _));refine bn (cs:=#[.string ((af l0 t492).f0),.string ((af l0 t492).f1),.int .i64 ((af l0 t492).f2),.string (⟨#[]⟩:ByteArray),.bool false]) ?_ 3 _ rfl;(with_reducible repeat (first | refine aA ?_ _ | refine au ?_ | refine ax ?_ _));refine bn (cs:=#[.string ((af l0 t492).f0),.string ((af l0 t492).f1),.int .i64 0,.string (⟨#[]⟩:ByteArray),.bool false]) ?_ 2 _ rfl;(with_reducible repeat (first | refine aA ?_ _ | refine au ?_ | refine ax ?_ _));refine bn (cs:=#[.string ((af l0 t492).f0),.string (⟨#[]⟩:ByteArray),.int .i64 0,.string (⟨#[]⟩:ByteArray),.bool false]) ?_ 1 _ rfl;(with_reducible repeat (first | refine aA ?_ _ | refine au ?_ | refine ax ?_ _));refine bn (cs:=#[.string (⟨#[]⟩:ByteArray),.string (⟨#[]⟩:ByteArray),.int .i64 0,.string (⟨#[]⟩:ByteArray),.bool false]) ?_ 0 _ rfl;(with_reducible repeat (first | refine aA ?_ _ | refine au ?_ | refine ax ?_ _));exact BK491.out) Tryz.underlying34 rfl (by kernel_rfl)) rfl ?_;exact ⟨dN,ar⟩
     ·
      rw [if_neg c16] at H;exact absurd H (by simp)
    ·
     rw [if_neg c15] at H;exact absurd H (by simp)
theorem pJ.calls (k g base:Nat) (xs:List av) (n:Int) (v:Value) (a1 a2:ByteArray) (a3:Int) (r1 r2:ByteArray) (r3:Int) (r4:ByteArray) (r5 r6:Bool) (w:World) (hA:ck.At w base g xs n v) (h:cE.f k xs a1 a2 a3=some (r1,r2,r3,r4,r5,r6)) :
  Calls Tryz.prog 54 #[.pointer (some ⟨g,0,none⟩),.string a1,.string a2,.int .i64 a3] w fun e w'=>e = .returned (.tuple #[.agg #[.string r1,.string r2,.int .i64 r3,.string r4,.bool r5],.bool r6])∧Below w.heap.size w w':=by
 have hu46:=Tryz.underlying78;have hu29:=Tryz.underlying34;obtain ⟨A,cc,rfl,hcl,hC⟩:=hA.rows;have B:=aS hA.2.1;have HC:=aS hC;have HL:=aS hcl;have X:=aS h;clear hA hcl hC h
 go_enter Tryz.func54,Tryz.ntmps54
 go_upto_region 1 with ((with_reducible refine aX (N:=8) rfl ?_);refine aY ?hg (N:=8) ?hd (cs:=#[.string ⟨#[]⟩,.string ⟨#[]⟩,.int .i64 0,.string ⟨#[]⟩,.bool false]) (t:=34) ?hr ?_;(case hd=>rfl);(case hg=>rfl);(case hr=>(first | (go_simp;done) | (go_simp;rfl)));intro p3 hg w1 hb hbl;have B3:=aS hb;have GE:ak (w.heap.size≤p3):=aS (by rw [hg];exact Nat.le_refl _);have HB:=aS hbl;have B1:=aS (aK B.out hbl);have HC1:=aS (Kd.cW HC.out hbl);clear hg hb hbl B HC)
 have q0:=Dl B1
 go_wp2_with (first | (go_at_call 76;(with_reducible refine (cE.calls k A cc xs a1 a2 a3 r1 r2 r3 r4 r5 r6 _ HC1.out HL.out X.out).mono ?_);rintro e_ w2 ⟨rfl,hb⟩;have B4:=aS (aK B3.out hb);have HB2:=aS (aN HB.out hb);clear B3 HB hb) | ((with_reducible refine eG (t:=34) (p:=8) rfl ?_);refine wpList_store_row rfl 34 _ _ rfl p3 #[.string r1,.string r2,.int .i64 r3,.string r4,.bool r5] rfl rfl 34 _ B4.out (by kernel_rfl) rfl (by kernel_rfl) ?_;have B5:=aS (setRow_heap w2 p3 _ #[.string r1,.string r2,.int .i64 r3,.string r4,.bool r5] _ _ B4.out);have HB3:=aS (dS HB2.out GE.out #[.string r1,.string r2,.int .i64 r3,.string r4,.bool r5]);clear B4 HB2;generalize World.setRow w2 p3 #[.string r1,.string r2,.int .i64 r3,.string r4,.bool r5]=w3 at B5 HB3 ⊢;have q5:=cR B5))
 try simp only [Exit.inBlock,Exit.then]
 refine bodyPost_ret (lP rfl _ _ p3 34 #[.string r1,.string r2,.int .i64 r3,.string r4,.bool r5] (0,0) _ rfl B5.out hu29 rfl (by kernel_rfl)) rfl ?_;exact ⟨rfl,HB3.out⟩
def dO.l0:Nat→List Int→List Int→Int→Int→Option (Bool)
 | 0,_,_,_,_=>none
 | k+1,x0,x14,x15,x16=>if x16<x15 then (if 0≤x16 then (if x16<(x14.length:Int) then (if 0≤(wrap64 (Int.tdiv (rd x14 x16) 8)) then (if (wrap64 (Int.tdiv (rd x14 x16) 8))<(x0.length:Int) then (if 0≤(Int.tmod (rd x14 x16) 8) then (if (Go.bits .and .u8 (shr .u8 (rd x0 (wrap64 (Int.tdiv (rd x14 x16) 8))) (Int.tmod (rd x14 x16) 8)) 1)=0 then (some false) else (dO.l0 k x0 x14 x15 (wrap64 (x16+1)))) else (none)) else (none)) else (none)) else (none)) else (none)) else (some true)
def dO.f (k:Nat) (l0:List Int) (a1:ByteArray):Option (Bool):=if (l0.length:Int)=0 then (some true) else ((cL.f k a1 (wrap64 (8*(l0.length:Int)))).bind fun t497=>(dO.l0 k l0 t497 (t497.length:Int) 0))
theorem dO.cP:∀ k,(∀ y0 y1 y2 y3,aE (dO.l0 k y0 y1 y2 y3) (dO.l0 (k+1) y0 y1 y2 y3))
 | 0=>fun _ _ _ _ r h=>by simp [dO.l0] at h
 | k+1=>by
  have ih0:=dO.cP k
  ·
   intro y0 y1 y2 y3
   unfold dO.l0
   have m0:=@cL.mono;exact e8
theorem dO.mono:∀ a0 a1 k,aE (dO.f k a0 a1) (dO.f (k+1) a0 a1):=by
 intro a0 a1 k
 have ih0:=dO.cP k
 unfold dO.f
 have m0:=@cL.mono;exact e8
theorem dO.calls (k:Nat) (A0:Option Addr) (c0:Nat) (l0:List Int) (a1:ByteArray) (r:Bool) (w:World) (hr0:Kd.C (Kd.int .u8) w A0 l0.length l0) (hc0:l0.length≤c0) (h:dO.f k l0 a1=some r) :
  Calls Tryz.prog 95 #[.slice A0 l0.length c0,.string a1] w fun e w'=>e = .returned (.bool r)∧Below w.heap.size w w':=by
 have HR0:=aS hr0;have HC0:=aS hc0;clear hr0 hc0;have HB:=aS (Below.refl w.heap.size w);have H:(if (l0.length:Int)=0 then (some true) else ((cL.f k a1 (wrap64 (8*(l0.length:Int)))).bind fun t497=>(dO.l0 k l0 t497 (t497.length:Int) 0)))=some r:=h;clear h
 by_cases c3:(l0.length:Int)=0
 ·
  rw [if_pos c3] at H;obtain ⟨c3b0,c3b1⟩:=jE c3;clear c3
  obtain rfl:=Option.some.inj H
  go_enter Tryz.func95,Tryz.ntmps95
  go_wp2
  go_ret
  exact ⟨dN,ar⟩
 ·
  rw [if_neg c3] at H;obtain ⟨c3b0,c3b1⟩:=ju c3
  have c3b2:¬ (l0=[]):=fun h_=>c3 (by rw [h_];rfl)
  replace H:=bV H;obtain ⟨t497,A40,H⟩:=H;have A4:=aS A40;clear A40
  have H':=aS H
  clear H
  go_enter Tryz.func95,Tryz.ntmps95
  go_wp2_with (first | ((with_reducible refine aC (f:=101) rfl ?_);refine bE (some 14) rfl rfl Tryz.func101 (by kernel_rfl) rfl #[.string a1,.int .i64 (wrap64 (8*(l0.length:Int)))] rfl cD ?_;(with_reducible refine (cL.calls k a1 (wrap64 (8*(l0.length:Int))) t497 _ A4.out).mono ?_);rintro e w5 ⟨v498,rfl,ho0,hb⟩;refine ⟨_,rfl,?_⟩;have HO499:=aS (Kd.bf ho0 (ay ar));replace HB:=aM hb;(try clear hb);(try clear hk);(try clear hi);(try clear ho0);obtain ⟨Ao6,co6,eo6⟩:=Kd.bq HO499.out;subst eo6))
  go_loopg [16] k (fun kq v16 w'=>∃ (x16_1:Int),v16 = .int .i64 x16_1∧ak (dO.l0 kq l0 t497 (t497.length:Int) x16_1=some r)∧ak (kq≤k)∧ak (Kd.R (Kd.int .i64) 3 w' w.heap.size (fun _=>True) (.slice Ao6 t497.length co6) t497)∧ak (Below w.heap.size w w'))
  case atStart=>exact ⟨(0),dU,H',⟨Nat.le_refl _⟩,⟨by (with_reducible repeat (first | apply Kd.bS | apply Kd.bO | apply Kd.bP));exact HO499.out⟩,⟨ar⟩⟩
  case round=>
   clear H';(try clear c3);(try clear c3b0);(try clear c3b1);(try clear c3b2);obtain ⟨x16_1,rfl,HA,HK1,HO_14,HB⟩:=hrel
   cases gk with
   | zero=>exact absurd HA.out (by simp [dO.l0])
   | succ k1=>
    have H:=HA.out;clear HA
    simp only [dO.l0] at H
    by_cases c7:x16_1<(t497.length:Int)
    ·
     rw [if_pos c7] at H;have c7b0:decide (x16_1<(t497.length:Int))=true:=decide_eq_true c7;clear c7
     by_cases c8:0≤x16_1
     ·
      rw [if_pos c8] at H;have c8b0:decide (0≤x16_1)=true:=decide_eq_true c8;clear c8
      by_cases c9:x16_1<(t497.length:Int)
      ·
       rw [if_pos c9] at H;have c9b0:decide (x16_1<(t497.length:Int))=true:=decide_eq_true c9;clear c9
       obtain ⟨ji10,hji10⟩:∃ j_:Int,(wrap64 (Int.tdiv (rd t497 x16_1) 8))=j_:=⟨_,rfl⟩
       replace H:(if 0≤(ji10) then (if (ji10)<(l0.length:Int) then (if 0≤(Int.tmod (rd t497 x16_1) 8) then (if (Go.bits .and .u8 (shr .u8 (rd l0 (ji10)) (Int.tmod (rd t497 x16_1) 8)) 1)=0 then (some false) else (dO.l0 k1 l0 t497 (t497.length:Int) (wrap64 (x16_1+1)))) else (none)) else (none)) else (none))=some r:=by first | (rw [hji10] at H;exact H) | (simp only [hji10] at H ⊢;exact H)
       have hji10w:(IntKind.i64.wrap (Int.tdiv (rd t497 x16_1) 8))=ji10:=(bC _).trans hji10
       by_cases c11:0≤(ji10)
       ·
        rw [if_pos c11] at H;have c11b0:decide (0≤(ji10))=true:=decide_eq_true c11;clear c11
        by_cases c12:(ji10)<(l0.length:Int)
        ·
         rw [if_pos c12] at H;have c12b0:decide ((ji10)<(l0.length:Int))=true:=decide_eq_true c12;clear c12
         obtain ⟨ji13,hji13⟩:∃ j_:Int,(Int.tmod (rd t497 x16_1) 8)=j_:=⟨_,rfl⟩
         replace H:(if 0≤(ji13) then (if (Go.bits .and .u8 (shr .u8 (rd l0 (ji10)) (ji13)) 1)=0 then (some false) else (dO.l0 k1 l0 t497 (t497.length:Int) (wrap64 (x16_1+1)))) else (none))=some r:=by first | (rw [hji13] at H;exact H) | (simp only [hji13] at H ⊢;exact H)
         by_cases c14:0≤(ji13)
         ·
          rw [if_pos c14] at H;have c14b0:=eq_true c14;have c14b1:decide (0≤(ji13))=true:=decide_eq_true c14;clear c14
          obtain ⟨ji15,hji15⟩:∃ j_:Int,(shr .u8 (rd l0 (ji10)) (ji13))=j_:=⟨_,rfl⟩
          replace H:(if (Go.bits .and .u8 (ji15) 1)=0 then (some false) else (dO.l0 k1 l0 t497 (t497.length:Int) (wrap64 (x16_1+1))))=some r:=by first | (rw [hji15] at H;exact H) | (simp only [hji15] at H ⊢;exact H)
          have hji15_:((rd l0 (ji10)) / 2 ^ min (ji13).toNat 8)=ji15:=hji15;have hji15z:(ji13)≤8→((rd l0 (ji10)) / 2 ^ (ji13).toNat)=ji15:=BH hji15
          by_cases c16:(Go.bits .and .u8 (ji15) 1)=0
          ·
           rw [if_pos c16] at H;obtain ⟨c16b0,c16b1⟩:=jE c16;clear c16
           obtain rfl:=Option.some.inj H
           have p500:0≤(x16_1:Int):=cG;have q500:x16_1<(t497.length:Int):=cG;obtain ⟨ad500,e500,hx500_0⟩:=Kd.jj (Kd.bh HO_14.out).2.2 x16_1 p500 q500;cases e500;replace p500:=eq_true p500;replace q500:=eq_true q500;have p501:0≤((ji10):Int):=cG;have q501:(ji10)<(l0.length:Int):=cG;obtain ⟨ad501,e501,hx501_0⟩:=Kd.jj HR0.out (ji10) p501 q501;cases e501;replace hx501_0:=bx ar hx501_0;replace p501:=eq_true p501;replace q501:=eq_true q501
           go_wp2
           go_ret
           exact ⟨by first | rfl | (simp [jd,jh]<;>rfl) | (simp only [←hji10,← hji13,← hji15];first | rfl | (simp [jd,jh]<;>rfl)) | (simp [*,jd,jh]<;>rfl),ar⟩
          ·
           rw [if_neg c16] at H;obtain ⟨c16b0,c16b1⟩:=ju c16
           have H':=aS H
           clear H;have p500:0≤(x16_1:Int):=cG;have q500:x16_1<(t497.length:Int):=cG;obtain ⟨ad500,e500,hx500_0⟩:=Kd.jj (Kd.bh HO_14.out).2.2 x16_1 p500 q500;cases e500;replace p500:=eq_true p500;replace q500:=eq_true q500;have p501:0≤((ji10):Int):=cG;have q501:(ji10)<(l0.length:Int):=cG;obtain ⟨ad501,e501,hx501_0⟩:=Kd.jj HR0.out (ji10) p501 q501;cases e501;replace hx501_0:=bx ar hx501_0;replace p501:=eq_true p501;replace q501:=eq_true q501
           go_wp2
           go_roundg k1
           case measure=>have:=HK1.out;omega
           case rel=>exact ⟨(wrap64 (x16_1+1)),dU,H',⟨by have:=HK1.out;omega⟩,⟨by (with_reducible repeat (first | apply Kd.bS | apply Kd.bO | apply Kd.bP));exact HO_14.out⟩,⟨ar⟩⟩
         ·
          rw [if_neg c14] at H;exact absurd H (by simp)
        ·
         rw [if_neg c12] at H;exact absurd H (by simp)
       ·
        rw [if_neg c11] at H;exact absurd H (by simp)
      ·
       rw [if_neg c9] at H;exact absurd H (by simp)
     ·
      rw [if_neg c8] at H;exact absurd H (by simp)
    ·
     rw [if_neg c7] at H;have c7b0:decide (x16_1<(t497.length:Int))=false:=decide_eq_false c7;clear c7
     obtain rfl:=Option.some.inj H
     go_wp2
     go_ret
     exact ⟨dN,ar⟩
def eX.f (k:Nat) (fl:List Int) (a b:ByteArray):Option Bool:=(fB.f a b).bind fun s=>dO.f k fl s
theorem eX.mono:∀ a0 a1 a2 k,aE (eX.f k a0 a1 a2) (eX.f (k+1) a0 a1 a2):=fun _ _ _ _=>aE.bind (aE.refl _) fun _=>dO.mono _ _ _
theorem eX.calls (k:Nat) (g base:Nat) (l:List av) (bs:List (List av)) (fl:List Int) (a b:ByteArray) (r:Bool) (w:World) (hA:aJ.At w base g l bs fl) (h:eX.f k fl a b=some r) :
  Calls Tryz.prog 77 #[.pointer (some ⟨g,0,none⟩),.string a,.string b] w fun e w'=>e = .returned (.bool r)∧Below w.heap.size w w':=by
 have hu26:=Tryz.underlying51;have hu22:=Tryz.underlying32;have hu39:=Tryz.underlying73;have hu70:=Tryz.underlying111;have hu42:=Tryz.underlying34;obtain ⟨vl,vb,vf,hA⟩:=hA;obtain ⟨Al,cl,rfl⟩:=Kd.bq hA.hl;obtain ⟨Ab,cb,rfl⟩:=Kd.bq hA.hb;obtain ⟨Af,cf,rfl⟩:=Kd.bq hA.hf;have HV:=aS hA;clear hA
 unfold eX.f at h
 replace h:=bV h;obtain ⟨s,x1,h⟩:=h;have X1:=aS x1;have X2:=aS h;have HB:=aS (Below.refl w.heap.size w);clear x1 h
 go_enter Tryz.func77,Tryz.ntmps77
 go_upto_region 1 with (fail)
 refine dz (n:=9) (ds:=[]) (S:=fun w'=>w'.cell? ⟨g,2,none⟩=some (.slice Af fl.length cf)) (bA 9 0) (by kernel_rfl) rfl rfl ((aG (au HV.out.cY) 2).trans rfl) (fun hHeld=>?_)
 generalize hw_:World.drew _=wd at hHeld ⊢
 have HVd:ak (aJ.ot wd base g _ _ _ l bs fl):=aS (hw_▸HV.out.below (bN (Below.refl _ _)));have HBd:ak (Below w.heap.size w wd):=aS (hw_▸aN HB.out (bN (Below.refl _ _)));clear hw_ HV HB;refine cH (T:=(true,[([],[]),([0],[0]),([1],[1]),([2],[2]),([],[]),([],[]),([4,5],[4,5]),([3,6,6],[3,6]),([7,7,0,1,2,3,4,5,6,7],[7])])) (B:=[0,1,3,7,0,0,48,127,255]) (by kernel_rfl) (by kernel_rfl) (fun HT_ HW_=>?_);refine aZ [(0,7),(1,8),(2,9)] ?_
 iterate 3 (refine cr HT_ ?_)
 refine bX (bA 9 7) (by kernel_rfl) ?_;refine aZ [(3,10)] ?_
 iterate 1 (refine d_ HT_ HW_ hHeld ?_)
 refine bX (bA 9 15) (by kernel_rfl) ?_;refine aZ [(4,11),(5,12)] ?_
 iterate 2 (refine cr HT_ ?_)
 refine bX (bA 9 63) (by kernel_rfl) ?_;refine dJ 6 (N:=some 13) (bA 9 127) HT_ (fun K hK=>?_);refine ep Tryz.func90 (by kernel_rfl) rfl #[.string a,.string b] (by rfl) rfl rfl cD ?_
 with_reducible refine (fB.calls a b s _ X1.out).mono ?_
 rintro e_ w2 ⟨rfl,hb⟩
 refine ⟨_,rfl,?_⟩;have HV:=aS (HVd.out.below hb);have HB:=aS (aN HBd.out hb);clear hb HVd HBd;refine hK.out _ _ ((aG HV.out.cY 2).trans rfl) (fun hHeld=>?_);clear hK K;refine nm 13 ?_;refine dJ 7 (N:=some 14) (bA 9 255) HT_ (fun K hK=>?_);refine ep Tryz.func95 (by kernel_rfl) rfl #[.slice Af fl.length cf,.string s] (by rfl) rfl rfl cD ?_
 with_reducible refine (dO.calls k Af cf fl s r _ (Kd.bh HV.out.hf).2.2 (Kd.bh HV.out.hf).2.1 X2.out).mono ?_
 rintro e_ w3 ⟨rfl,hb⟩
 refine ⟨_,rfl,?_⟩;have HVd:=aS (HV.out.below hb);have HBd:=aS (aN HB.out hb);clear hb HV HB;refine hK.out _ _ ((aG HVd.out.cY 2).trans rfl) (fun hHeld=>?_);clear hK K;refine nm 14 ?_;refine aZ [(8,6)] ?_
 iterate 1 (refine cr HT_ ?_)
 refine bX (bA 9 511) (by kernel_rfl) ?_;refine dQ (cX HT_.out (by kernel_rfl)) ?_;clear HT_ HW_ hHeld
 try go_wp2
 go_ret
 exact ⟨rfl,HBd.out⟩
def cF.f (k:Nat) (l0:List (av)) (a1_0:ByteArray) (a1_1:ByteArray) (a1_2:Int) (a1_3:ByteArray) (a1_4:Bool):Option (Int):=if 0≤(wrap64 ((l0.length:Int) - 1)) then (if (wrap64 ((l0.length:Int) - 1))<(l0.length:Int) then ((bU.f k ((af l0 (wrap64 ((l0.length:Int) - 1))).f0) ((af l0 (wrap64 ((l0.length:Int) - 1))).f1) ((af l0 (wrap64 ((l0.length:Int) - 1))).f2) ((af l0 (wrap64 ((l0.length:Int) - 1))).f3) ((af l0 (wrap64 ((l0.length:Int) - 1))).f4) a1_0 a1_1 a1_2 a1_3 a1_4).bind fun t504=>(some t504)) else (none)) else (none)
theorem cF.mono:∀ a0 a1 a2 a3 a4 a5 k,aE (cF.f k a0 a1 a2 a3 a4 a5) (cF.f (k+1) a0 a1 a2 a3 a4 a5):=by
 intro a0 a1 a2 a3 a4 a5 k
 unfold cF.f
 have m0:=@bU.mono;exact e8
def cF.T1:Bool × List (List Nat × List Nat):=(true,[([],[]),([],[]),([1],[1]),([2],[2]),([0,3],[0,3]),([4],[4]),([],[]),([5,6],[5,6]),([7,7,0,1,2,3,4,5,6,7],[7])])
def cF.B1:List Nat:=[0,0,2,6,15,31,0,127,255]
theorem cF.o4:fC .any (opsOf Tryz.f79 1)=cF.T1:=by kernel_rfl
theorem cF.mY:fY cF.T1.2 cF.B1=true:=by kernel_rfl
theorem cF.calls (k:Nat) (A0:Option Addr) (c0:Nat) (l0:List (av)) (a1_0:ByteArray) (a1_1:ByteArray) (a1_2:Int) (a1_3:ByteArray) (a1_4:Bool) (r:Int) (w:World) (hr0:Kd.C cC w A0 l0.length l0) (hc0:l0.length≤c0) (h:cF.f k l0 a1_0 a1_1 a1_2 a1_3 a1_4=some r) :
  Calls Tryz.prog 79 #[.slice A0 l0.length c0,.agg #[.string a1_0,.string a1_1,.int .i64 a1_2,.string a1_3,.bool a1_4]] w fun e w'=>e = .returned (.int .i64 r)∧Below w.heap.size w w':=by
 have hu34:=Tryz.underlying34;have HR0:=aS hr0;have HC0:=aS hc0;clear hr0 hc0;have HB:=aS (Below.refl w.heap.size w);have H:(if 0≤(wrap64 ((l0.length:Int) - 1)) then (if (wrap64 ((l0.length:Int) - 1))<(l0.length:Int) then ((bU.f k ((af l0 (wrap64 ((l0.length:Int) - 1))).f0) ((af l0 (wrap64 ((l0.length:Int) - 1))).f1) ((af l0 (wrap64 ((l0.length:Int) - 1))).f2) ((af l0 (wrap64 ((l0.length:Int) - 1))).f3) ((af l0 (wrap64 ((l0.length:Int) - 1))).f4) a1_0 a1_1 a1_2 a1_3 a1_4).bind fun t504=>(some t504)) else (none)) else (none))=some r:=h;clear h
 obtain ⟨ji3,hji3⟩:∃ j_:Int,(wrap64 ((l0.length:Int) - 1))=j_:=⟨_,rfl⟩
 replace H:(if 0≤(ji3) then (if (ji3)<(l0.length:Int) then ((bU.f k ((af l0 (ji3)).f0) ((af l0 (ji3)).f1) ((af l0 (ji3)).f2) ((af l0 (ji3)).f3) ((af l0 (ji3)).f4) a1_0 a1_1 a1_2 a1_3 a1_4).bind fun t504=>(some t504)) else (none)) else (none))=some r:=by first | (rw [hji3] at H;exact H) | (simp only [hji3] at H ⊢;exact H)
 have hji3w:(IntKind.i64.wrap ((l0.length:Int) - 1))=ji3:=(bC _).trans hji3
 by_cases c4:0≤(ji3)
 ·
  rw [if_pos c4] at H;have c4b0:decide (0≤(ji3))=true:=decide_eq_true c4;clear c4
  by_cases c5:(ji3)<(l0.length:Int)
  ·
   rw [if_pos c5] at H;have c5b0:decide ((ji3)<(l0.length:Int))=true:=decide_eq_true c5;clear c5;replace H:=bV H;obtain ⟨t504,A60,H⟩:=H;have A6:=aS A60;clear A60
   obtain rfl:=Option.some.inj H
   go_enter Tryz.func79,Tryz.ntmps79
   try go_wp2_with (first | ((with_reducible refine aX (N:=3) rfl ?_);refine aY ?hg (N:=3) ?hd (cs:=#[.string a1_0,.string a1_1,.int .i64 a1_2,.string a1_3,.bool a1_4]) (t:=34) ?hr ?_;(case hd=>rfl);(case hg=>rfl);(case hr=>first | (go_simp;done) | (go_simp;rfl));intro gb502 hg w7 hbox hb;have BK502:=aS (hbox);have GW502:=bsize hg;have GE502:=bsize hg;replace HB:=aM hb;clear hb hbox hg))
   replace BK502:=aS (au BK502.out);replace HB:=aS (jG HB.out);have p503:0≤((ji3):Int):=cG;have q503:(ji3)<(l0.length:Int):=cG;obtain ⟨ad503,e503,hx503_0,hx503_1,hx503_2,hx503_3,hx503_4⟩:=eT HR0.out (ji3) p503 q503;have hw503_4:=hx503_4;have hw503_3:=hx503_3;have hw503_2:=hx503_2;have hw503_1:=hx503_1;have hw503_0:=hx503_0;cases e503;replace hx503_0:=bx ar hx503_0;replace hx503_1:=bx ar hx503_1;replace hx503_2:=bx ar hx503_2;replace hx503_3:=bx ar hx503_3;replace hx503_4:=bx ar hx503_4;replace p503:=eq_true p503;replace q503:=eq_true q503;refine dz (n:=9) (S:=fun w'=>w'.cell? ⟨gb502,0,none⟩=some (.string a1_0)∧w'.cell? ⟨gb502,1,none⟩=some (.string a1_1)∧w'.cell? ⟨gb502,2,none⟩=some (.int .i64 a1_2)∧w'.cell? ⟨gb502,3,none⟩=some (.string a1_3)∧w'.cell? ⟨gb502,4,none⟩=some (.bool a1_4)∧w'.cell? (ad503.add (((ji3)).toNat*5))=some (.string ((af l0 (ji3)).f0))∧w'.cell? ⟨(ad503.add (((ji3)).toNat*5)).block,(ad503.add (((ji3)).toNat*5)).off+1,none⟩=some (.string ((af l0 (ji3)).f1))∧w'.cell? ⟨(ad503.add (((ji3)).toNat*5)).block,(ad503.add (((ji3)).toNat*5)).off+2,none⟩=some (.int .i64 ((af l0 (ji3)).f2))∧w'.cell? ⟨(ad503.add (((ji3)).toNat*5)).block,(ad503.add (((ji3)).toNat*5)).off+3,none⟩=some (.string ((af l0 (ji3)).f3))∧w'.cell? ⟨(ad503.add (((ji3)).toNat*5)).block,(ad503.add (((ji3)).toNat*5)).off+4,none⟩=some (.bool ((af l0 (ji3)).f4))) (ds:=[]) (bA 9 0) (by kernel_rfl) rfl rfl ⟨bc BK502 0,bc BK502 1,bc BK502 2,bc BK502 3,bc BK502 4,(bx ar hw503_0),(bx ar hw503_1),(bx ar hw503_2),(bx ar hw503_3),(bx ar hw503_4)⟩ (fun hHeld=>?_);refine cH cF.o4 cF.mY (fun HT_ HW_=>?_)
   generalize w7.drew=w8 at BK502 HB hx503_0 hx503_1 hx503_2 hx503_3 hx503_4 hHeld ⊢
   refine aZ [(0,5),(1,6),(2,7),(3,8),(4,9),(5,10),(6,11)] ?_
   iterate 7 (first | (refine cr HT_ ?_) | (refine d_ HT_ HW_ hHeld ?_))
   refine bX (bA 9 127) (by kernel_rfl) ?_;refine dJ 7 (N:=some 12) (bA 9 255) HT_ (fun K hK=>?_);refine ep Tryz.func47 (by kernel_rfl) rfl #[.agg #[.string ((af l0 (ji3)).f0),.string ((af l0 (ji3)).f1),.int .i64 ((af l0 (ji3)).f2),.string ((af l0 (ji3)).f3),.bool ((af l0 (ji3)).f4)],.agg #[.string a1_0,.string a1_1,.int .i64 a1_2,.string a1_3,.bool a1_4]] (by rfl) rfl rfl (by (try simp only [List.map_toArray,List.map_cons,List.map_nil]);first | done | (simp only [hji3];rfl) | rfl | (simp only [lY,kX];rfl)) ?_
   with_reducible refine (bU.calls k ((af l0 (ji3)).f0) ((af l0 (ji3)).f1) ((af l0 (ji3)).f2) ((af l0 (ji3)).f3) ((af l0 (ji3)).f4) a1_0 a1_1 a1_2 a1_3 a1_4 t504 _ A6.out).mono ?_
   rintro e w9 ⟨rfl,hb⟩
   refine ⟨_,rfl,?_⟩;replace BK502:=fA BK502 hb;replace HB:=aM hb;(try clear hb);(try clear hk);(try clear hi);refine hK.out _ _ ⟨bc BK502 0,bc BK502 1,bc BK502 2,bc BK502 3,bc BK502 4,(bx ar hw503_0),(bx ar hw503_1),(bx ar hw503_2),(bx ar hw503_3),(bx ar hw503_4)⟩ (fun hHeld=>?_);clear hK K;refine nm 12 ?_;refine dB (i:=8) (N:=some 4) (v:=?_) (a':=?_) (bA 9 511) rfl rfl (lE HT_.out (by kernel_rfl)) (fun _ _ _ h=>h) (Or.inl ⟨by rfl,?_⟩) ?_ ?_
   rotate_left
   ·
    intro w'
    go_simp
    with_reducible rfl
   rotate_left
   ·
    simp only [Act.put,dw,dx,lss,bC,cm]
    rfl
   refine dQ (cX HT_.out (by kernel_rfl)) ?_
   try go_wp2
   go_ret
   exact ⟨by first | rfl | (simp [jd,jh]<;>rfl) | (simp only [←hji3];first | rfl | (simp [jd,jh]<;>rfl)) | (simp [*,jd,jh]<;>rfl),ar⟩
  ·
   rw [if_neg c5] at H;exact absurd H (by simp)
 ·
  rw [if_neg c4] at H;exact absurd H (by simp)
def bI.l0:Nat→List (List (av))→Int→Int→Int→ByteArray→ByteArray→Int→ByteArray→Bool→Option (Int × Bool)
 | 0,_,_,_,_,_,_,_,_,_=>none
 | k+1,x0,x8,x9,x10,x506000,x506001,x506002,x506003,x506004=>if x9<x10 then (if 0≤(wrap64 ((IntKind.u64.wrap (wrap64 (x9+x10))) / 2)) then (if (wrap64 ((IntKind.u64.wrap (wrap64 (x9+x10))) / 2))<(x0.length:Int) then ((cF.f k (aQ x0 (wrap64 ((IntKind.u64.wrap (wrap64 (x9+x10))) / 2))) x506000 x506001 x506002 x506003 x506004).bind fun t507=>(if t507<0 then (bI.l0 k x0 x8 (wrap64 ((wrap64 ((IntKind.u64.wrap (wrap64 (x9+x10))) / 2))+1)) x10 x506000 x506001 x506002 x506003 x506004) else (bI.l0 k x0 x8 x9 (wrap64 ((IntKind.u64.wrap (wrap64 (x9+x10))) / 2)) x506000 x506001 x506002 x506003 x506004))) else (none)) else (none)) else (if x9<x8 then (if 0≤x9 then (if x9<(x0.length:Int) then ((cF.f k (aQ x0 x9) x506000 x506001 x506002 x506003 x506004).bind fun t509=>(some (x9,(t509 == 0)))) else (none)) else (none)) else (some (x9,false)))
def bI.f (k:Nat) (l0:List (List (av))) (a1_0:ByteArray) (a1_1:ByteArray) (a1_2:Int) (a1_3:ByteArray) (a1_4:Bool)  : Option (Int × Bool):=bI.l0 k l0 (l0.length:Int) 0 (l0.length:Int) a1_0 a1_1 a1_2 a1_3 a1_4
theorem bI.cP:∀ k,(∀ y0 y1 y2 y3 y4 y5 y6 y7 y8,aE (bI.l0 k y0 y1 y2 y3 y4 y5 y6 y7 y8) (bI.l0 (k+1) y0 y1 y2 y3 y4 y5 y6 y7 y8))
 | 0=>fun _ _ _ _ _ _ _ _ _ r h=>by simp [bI.l0] at h
 | k+1=>by
  have ih0:=bI.cP k
  ·
   intro y0 y1 y2 y3 y4 y5 y6 y7 y8
   unfold bI.l0
   have m0:=@cF.mono;exact e8
theorem bI.mono:∀ a0 a1 a2 a3 a4 a5 k,aE (bI.f k a0 a1 a2 a3 a4 a5) (bI.f (k+1) a0 a1 a2 a3 a4 a5):=by
 intro a0 a1 a2 a3 a4 a5 k
 have ih0:=bI.cP k
 unfold bI.f
 have m0:=@cF.mono;exact e8
def bI.T5:Bool × List (List Nat × List Nat):=(true,[([],[]),([],[]),([],[]),([1,2],[1,2]),([3],[3]),([],[]),([0,4,5],[0,4,5]),([6],[6])])
def bI.B5:List Nat:=[0,0,0,6,14,0,63,127]
theorem bI.qY:fC .any (opsOf Tryz.f78 5)=bI.T5:=by kernel_rfl
theorem bI.oy:fY bI.T5.2 bI.B5=true:=by kernel_rfl
def bI.T8:Bool × List (List Nat × List Nat):=(true,[([],[]),([],[]),([],[]),([1,2],[1,2]),([3],[3]),([4],[4]),([4],[4]),([4],[4]),([6,7,4],[4,6,7]),([8,4],[4,8]),([4],[4]),([5,9,10,4,4],[4,5,9,10]),([11,4],[4,11]),([4,12],[4,12]),([0,11,0],[0]),([13,14,0,1,2,3,4,5,6,7,8,9,10,11,12,13,14],[13])])
def bI.B8:List Nat:=[0,0,0,6,14,30,30,30,222,478,30,2046,4094,8190,4095,32767]
theorem bI.sX:fC .any (opsOf Tryz.f78 8)=bI.T8:=by kernel_rfl
theorem bI.qN:fY bI.T8.2 bI.B8=true:=by kernel_rfl
theorem bI.calls (k:Nat) (A0:Option Addr) (c0:Nat) (l0:List (List (av))) (a1_0:ByteArray) (a1_1:ByteArray) (a1_2:Int) (a1_3:ByteArray) (a1_4:Bool)  (r1:Int) (r2:Bool) (w:World) (hr0:Kd.C (Kd.slice 34 cC) w A0 l0.length l0) (hc0:l0.length≤c0) (h:bI.f k l0 a1_0 a1_1 a1_2 a1_3 a1_4=some (r1,r2)) :
  Calls Tryz.prog 78 #[.slice A0 l0.length c0,.agg #[.string a1_0,.string a1_1,.int .i64 a1_2,.string a1_3,.bool a1_4],.func (.func 79) #[] #[]] w fun e w'=>e = .returned (.tuple #[.int .i64 r1,.bool r2])∧Below w.heap.size w w':=by
 have hu34:=Tryz.underlying34;have HR0:=aS hr0;have HC0:=aS hc0;clear hr0 hc0;have HB:=aS (Below.refl w.heap.size w);have H:(bI.l0 k l0 (l0.length:Int) 0 (l0.length:Int) a1_0 a1_1 a1_2 a1_3 a1_4)=some (r1,r2):=h;clear h
 have H':=aS H
 clear H
 go_enter Tryz.func78,Tryz.ntmps78
 go_wp2_with (first | ((with_reducible refine aX (N:=4) rfl ?_);refine aY ?hg (N:=4) ?hd (cs:=#[.string a1_0,.string a1_1,.int .i64 a1_2,.string a1_3,.bool a1_4]) (t:=34) ?hr ?_;(case hd=>rfl);(case hg=>rfl);(case hr=>first | (go_simp;done) | (go_simp;rfl));intro gb505 hg w4 hbox hb;have BK505:=aS (hbox);have GW505:=bsize hg;have GE505:=bsize hg;replace HB:=aM hb;clear hb hbox hg))
 go_loopg [9,10] k (fun kq v9 v10 w'=>∃ (x9_1:Int) (x10_1:Int),v9 = .int .i64 x9_1∧v10 = .int .i64 x10_1∧ak (bI.l0 kq l0 (l0.length:Int) x9_1 x10_1 a1_0 a1_1 a1_2 a1_3 a1_4=some (r1,r2))∧ak (kq≤k)∧ak (w'.heap[gb505]? = some (.cells #[.string a1_0,.string a1_1,.int .i64 a1_2,.string a1_3,.bool a1_4] 34 (0,0)))∧ak (Below w.heap.size w w'))
 case atStart=>exact ⟨(0),((l0.length:Int)),dU,dU,H',⟨Nat.le_refl _⟩,⟨eB BK505.out⟩,⟨ar⟩⟩
 case round=>
  clear H';obtain ⟨x9_1,x10_1,rfl,rfl,HA,HK1,BK505,HB⟩:=hrel
  cases gk with
  | zero=>exact absurd HA.out (by simp [bI.l0])
  | succ k1=>
   have H:=HA.out;clear HA
   simp only [bI.l0] at H
   by_cases c5:x9_1<x10_1
   ·
    rw [if_pos c5] at H;have c5b0:decide (x9_1<x10_1)=true:=decide_eq_true c5;clear c5
    obtain ⟨ji6,hji6⟩:∃ j_:Int,(wrap64 ((IntKind.u64.wrap (wrap64 (x9_1+x10_1))) / 2))=j_:=⟨_,rfl⟩
    replace H:(if 0≤(ji6) then (if (ji6)<(l0.length:Int) then ((cF.f k1 (aQ l0 (ji6)) a1_0 a1_1 a1_2 a1_3 a1_4).bind fun t507=>(if t507<0 then (bI.l0 k1 l0 (l0.length:Int) (wrap64 ((ji6)+1)) x10_1 a1_0 a1_1 a1_2 a1_3 a1_4) else (bI.l0 k1 l0 (l0.length:Int) x9_1 ji6 a1_0 a1_1 a1_2 a1_3 a1_4))) else (none)) else (none))=some (r1,r2):=by first | (rw [hji6] at H;exact H) | (simp only [hji6] at H ⊢;exact H)
    have hji6w:(IntKind.i64.wrap ((IntKind.u64.wrap (wrap64 (x9_1+x10_1))) / 2))=ji6:=(bC _).trans hji6
    by_cases c7:0≤(ji6)
    ·
     rw [if_pos c7] at H;have c7b0:decide (0≤(ji6))=true:=decide_eq_true c7;clear c7
     by_cases c8:(ji6)<(l0.length:Int)
     ·
      rw [if_pos c8] at H;have c8b0:decide ((ji6)<(l0.length:Int))=true:=decide_eq_true c8;clear c8;replace H:=bV H;obtain ⟨t507,A90,H⟩:=H;have A9:=aS A90;clear A90
      by_cases eU:t507<0
      ·
       rw [if_pos eU] at H;have c10b0:decide (t507<0)=true:=decide_eq_true eU;clear eU
       have H':=aS H
       clear H
       try go_wp2
       replace BK505:=aS (au BK505.out);replace HB:=aS (jG HB.out);have p506:0≤((ji6):Int):=cG;have q506:(ji6)<(l0.length:Int):=cG;obtain ⟨ad506,A506_0,c506_0,e506,hx506_0,hl506_0,hi506_0⟩:=qZ HR0.out (ji6) p506 q506;have hw506_0:=hx506_0;cases e506;have hB_506_0:=aS hx506_0;replace hx506_0:=bx ar hx506_0;have HR506_0:=aS hi506_0;have HC506_0:=aS hl506_0;clear hi506_0 hl506_0;replace p506:=eq_true p506;replace q506:=eq_true q506;refine dz (n:=8) (S:=fun w'=>w'.cell? ⟨gb505,0,none⟩=some (.string a1_0)∧w'.cell? ⟨gb505,1,none⟩=some (.string a1_1)∧w'.cell? ⟨gb505,2,none⟩=some (.int .i64 a1_2)∧w'.cell? ⟨gb505,3,none⟩=some (.string a1_3)∧w'.cell? ⟨gb505,4,none⟩=some (.bool a1_4)∧w'.cell? (ad506.add ((ji6)).toNat)=some (.slice A506_0 (aQ l0 (ji6)).length c506_0)) (ds:=[]) (bA 8 0) (by kernel_rfl) rfl rfl ⟨bc BK505 0,bc BK505 1,bc BK505 2,bc BK505 3,bc BK505 4,(bx ar hw506_0)⟩ (fun hHeld=>?_);refine cH bI.qY bI.oy (fun HT_ HW_=>?_)
       generalize wr.drew=w11 at BK505 HB HR506_0 hx506_0 hHeld ⊢
       refine aZ [(0,24),(1,25),(2,26),(3,27),(4,28),(5,29)] ?_
       iterate 6 (first | (refine cr HT_ ?_) | (refine d_ HT_ HW_ hHeld ?_))
       refine bX (bA 8 63) (by kernel_rfl) ?_;refine dJ 6 (N:=some 30) (bA 8 127) HT_ (fun K hK=>?_);refine Kd.pP Tryz.func79 (by kernel_rfl) rfl #[.slice A506_0 (aQ l0 (ji6)).length c506_0,.agg #[.string a1_0,.string a1_1,.int .i64 a1_2,.string a1_3,.bool a1_4]] (by rfl) rfl rfl rfl (by (try simp only [List.map_toArray,List.map_cons,List.map_nil]);first | done | (simp only [hji6];rfl) | rfl | (simp only [lY,kX];rfl)) ?_
       with_reducible refine (cF.calls k1 _ _ (aQ l0 (ji6)) a1_0 a1_1 a1_2 a1_3 a1_4 t507 _ ?side1 ?side2 A9.out).mono ?_
       (case side1=>exact eN (Kd.cW HR506_0.out HB.out))
       (case side2=>exact HC506_0.out)
       rintro e w12 ⟨rfl,hb⟩
       refine ⟨_,rfl,?_⟩;replace BK505:=fA BK505 hb;replace HB:=aM hb;(try clear hb);(try clear hk);(try clear hi);refine hK.out _ _ ⟨bc BK505 0,bc BK505 1,bc BK505 2,bc BK505 3,bc BK505 4,(bx ar hw506_0)⟩ (fun hHeld=>?_);clear hK K;refine nm 30 ?_;refine dB (i:=7) (N:=some 31) (v:=?_) (a':=?_) (bA 8 255) rfl rfl (lE HT_.out (by kernel_rfl)) (fun _ _ _ h=>h) (Or.inl ⟨by rfl,?_⟩) ?_ ?_
       rotate_left
       ·
        intro w'
        go_simp
        with_reducible rfl
       rotate_left
       ·
        simp only [Act.put,dw,dx,lss,bC,cm]
        rfl
       refine dQ (cX HT_.out (by kernel_rfl)) ?_
       try go_wp2
       go_roundg k1
       case measure=>have:=HK1.out;omega
       case rel=>exact ⟨(wrap64 ((ji6)+1)),(x10_1),(by first | rfl | (simp;done) | (simp only [←hji6]<;>(first | rfl | simp)) | (simp [*];done)),dU,H',⟨by have:=HK1.out;omega⟩,⟨eB BK505.out⟩,⟨ar⟩⟩
      ·
       rw [if_neg eU] at H;have c10b0:decide (t507<0)=false:=decide_eq_false eU;clear eU
       have H':=aS H
       clear H
       try go_wp2
       replace BK505:=aS (au BK505.out);replace HB:=aS (jG HB.out);have p506:0≤((ji6):Int):=cG;have q506:(ji6)<(l0.length:Int):=cG;obtain ⟨ad506,A506_0,c506_0,e506,hx506_0,hl506_0,hi506_0⟩:=qZ HR0.out (ji6) p506 q506;have hw506_0:=hx506_0;cases e506;have hB_506_0:=aS hx506_0;replace hx506_0:=bx ar hx506_0;have HR506_0:=aS hi506_0;have HC506_0:=aS hl506_0;clear hi506_0 hl506_0;replace p506:=eq_true p506;replace q506:=eq_true q506;refine dz (n:=8) (S:=fun w'=>w'.cell? ⟨gb505,0,none⟩=some (.string a1_0)∧w'.cell? ⟨gb505,1,none⟩=some (.string a1_1)∧w'.cell? ⟨gb505,2,none⟩=some (.int .i64 a1_2)∧w'.cell? ⟨gb505,3,none⟩=some (.string a1_3)∧w'.cell? ⟨gb505,4,none⟩=some (.bool a1_4)∧w'.cell? (ad506.add ((ji6)).toNat)=some (.slice A506_0 (aQ l0 (ji6)).length c506_0)) (ds:=[]) (bA 8 0) (by kernel_rfl) rfl rfl ⟨bc BK505 0,bc BK505 1,bc BK505 2,bc BK505 3,bc BK505 4,(bx ar hw506_0)⟩ (fun hHeld=>?_);refine cH bI.qY bI.oy (fun HT_ HW_=>?_)
       generalize wr.drew=w13 at BK505 HB HR506_0 hx506_0 hHeld ⊢
       refine aZ [(0,24),(1,25),(2,26),(3,27),(4,28),(5,29)] ?_
       iterate 6 (first | (refine cr HT_ ?_) | (refine d_ HT_ HW_ hHeld ?_))
       refine bX (bA 8 63) (by kernel_rfl) ?_;refine dJ 6 (N:=some 30) (bA 8 127) HT_ (fun K hK=>?_);refine Kd.pP Tryz.func79 (by kernel_rfl) rfl #[.slice A506_0 (aQ l0 (ji6)).length c506_0,.agg #[.string a1_0,.string a1_1,.int .i64 a1_2,.string a1_3,.bool a1_4]] (by rfl) rfl rfl rfl (by (try simp only [List.map_toArray,List.map_cons,List.map_nil]);first | done | (simp only [hji6];rfl) | rfl | (simp only [lY,kX];rfl)) ?_
       with_reducible refine (cF.calls k1 _ _ (aQ l0 (ji6)) a1_0 a1_1 a1_2 a1_3 a1_4 t507 _ ?side1 ?side2 A9.out).mono ?_
       (case side1=>exact eN (Kd.cW HR506_0.out HB.out))
       (case side2=>exact HC506_0.out)
       rintro e w14 ⟨rfl,hb⟩
       refine ⟨_,rfl,?_⟩;replace BK505:=fA BK505 hb;replace HB:=aM hb;(try clear hb);(try clear hk);(try clear hi);refine hK.out _ _ ⟨bc BK505 0,bc BK505 1,bc BK505 2,bc BK505 3,bc BK505 4,(bx ar hw506_0)⟩ (fun hHeld=>?_);clear hK K;refine nm 30 ?_;refine dB (i:=7) (N:=some 31) (v:=?_) (a':=?_) (bA 8 255) rfl rfl (lE HT_.out (by kernel_rfl)) (fun _ _ _ h=>h) (Or.inl ⟨by rfl,?_⟩) ?_ ?_
       rotate_left
       ·
        intro w'
        go_simp
        with_reducible rfl
       rotate_left
       ·
        simp only [Act.put,dw,dx,lss,bC,cm]
        rfl
       refine dQ (cX HT_.out (by kernel_rfl)) ?_
       try go_wp2
       go_roundg k1
       case measure=>have:=HK1.out;omega
       case rel=>exact ⟨(x9_1),(ji6),dU,(by first | rfl | (simp;done) | (simp only [←hji6]<;>(first | rfl | simp)) | (simp [*];done)),H',⟨by have:=HK1.out;omega⟩,⟨eB BK505.out⟩,⟨ar⟩⟩
     ·
      rw [if_neg c8] at H;exact absurd H (by simp)
    ·
     rw [if_neg c7] at H;exact absurd H (by simp)
   ·
    rw [if_neg c5] at H;have c5b0:decide (x9_1<x10_1)=false:=decide_eq_false c5;clear c5
    by_cases c15:x9_1<(l0.length:Int)
    ·
     rw [if_pos c15] at H;have c15b0:decide (x9_1<(l0.length:Int))=true:=decide_eq_true c15;clear c15
     by_cases c16:0≤x9_1
     ·
      rw [if_pos c16] at H;have c16b0:decide (0≤x9_1)=true:=decide_eq_true c16;clear c16
      by_cases c17:x9_1<(l0.length:Int)
      ·
       rw [if_pos c17] at H;have c17b0:decide (x9_1<(l0.length:Int))=true:=decide_eq_true c17;clear c17;replace H:=bV H;obtain ⟨t509,A180,H⟩:=H;have A18:=aS A180;clear A180
       simp only [Option.some.injEq,Prod.mk.injEq] at H
       obtain ⟨rfl,rfl⟩:=H
       try go_wp2
       replace BK505:=aS (au BK505.out);replace HB:=aS (jG HB.out);have p508:0≤(x9_1:Int):=cG;have q508:x9_1<(l0.length:Int):=cG;obtain ⟨ad508,A508_0,c508_0,e508,hx508_0,hl508_0,hi508_0⟩:=qZ HR0.out x9_1 p508 q508;have hw508_0:=hx508_0;cases e508;have hB_508_0:=aS hx508_0;replace hx508_0:=bx ar hx508_0;have HR508_0:=aS hi508_0;have HC508_0:=aS hl508_0;clear hi508_0 hl508_0;replace p508:=eq_true p508;replace q508:=eq_true q508;refine dz (n:=16) (S:=fun w'=>w'.cell? ⟨gb505,0,none⟩=some (.string a1_0)∧w'.cell? ⟨gb505,1,none⟩=some (.string a1_1)∧w'.cell? ⟨gb505,2,none⟩=some (.int .i64 a1_2)∧w'.cell? ⟨gb505,3,none⟩=some (.string a1_3)∧w'.cell? ⟨gb505,4,none⟩=some (.bool a1_4)∧w'.cell? (ad508.add (x9_1).toNat)=some (.slice A508_0 (aQ l0 x9_1).length c508_0)) (ds:=[]) (bA 16 0) (by kernel_rfl) rfl rfl ⟨bc BK505 0,bc BK505 1,bc BK505 2,bc BK505 3,bc BK505 4,(bx ar hw508_0)⟩ (fun hHeld=>?_);refine cH bI.sX bI.qN (fun HT_ HW_=>?_)
       generalize wr.drew=w19 at BK505 HB HR508_0 hx508_0 hHeld ⊢
       refine aZ [(0,35),(1,36),(2,37),(3,38),(4,39),(5,40),(6,41),(7,42),(8,43),(9,44),(10,45)] ?_
       iterate 11 (first | (refine cr HT_ ?_) | (refine d_ HT_ HW_ hHeld ?_))
       refine bX (bA 16 2047) (by kernel_rfl) ?_;refine dJ 11 (N:=some 46) (bA 16 4095) HT_ (fun K hK=>?_);refine Kd.pP Tryz.func79 (by kernel_rfl) rfl #[.slice A508_0 (aQ l0 x9_1).length c508_0,.agg #[.string a1_0,.string a1_1,.int .i64 a1_2,.string a1_3,.bool a1_4]] (by rfl) rfl rfl rfl cD ?_
       with_reducible refine (cF.calls k1 _ _ (aQ l0 x9_1) a1_0 a1_1 a1_2 a1_3 a1_4 t509 _ ?side1 ?side2 A18.out).mono ?_
       (case side1=>exact eN (Kd.cW HR508_0.out HB.out))
       (case side2=>exact HC508_0.out)
       rintro e w20 ⟨rfl,hb⟩
       refine ⟨_,rfl,?_⟩;replace BK505:=fA BK505 hb;replace HB:=aM hb;(try clear hb);(try clear hk);(try clear hi);refine hK.out _ _ ⟨bc BK505 0,bc BK505 1,bc BK505 2,bc BK505 3,bc BK505 4,(bx ar hw508_0)⟩ (fun hHeld=>?_);clear hK K;refine nm 46 ?_;refine aZ [(12,47),(13,48),(14,6),(15,7)] ?_
       iterate 4 (refine cr HT_ ?_)
       refine bX (bA 16 65535) (by kernel_rfl) ?_;refine dQ (cX HT_.out (by kernel_rfl)) ?_
       try go_wp2
       go_ret2
       exact ⟨dN,ar⟩
      ·
       rw [if_neg c17] at H;exact absurd H (by simp)
     ·
      rw [if_neg c16] at H;exact absurd H (by simp)
    ·
     rw [if_neg c15] at H;have c15b0:decide (x9_1<(l0.length:Int))=false:=decide_eq_false c15;clear c15
     simp only [Option.some.injEq,Prod.mk.injEq] at H
     obtain ⟨rfl,rfl⟩:=H
     try go_wp2
     replace BK505:=aS (au BK505.out);replace HB:=aS (jG HB.out);refine dz (n:=16) (S:=fun w'=>True) (ds:=[]) (bA 16 0) (by kernel_rfl) rfl rfl trivial (fun hHeld=>?_);refine cH bI.sX bI.qN (fun HT_ HW_=>?_)
     generalize wr.drew=w21 at BK505 HB hHeld ⊢
     refine aZ [(0,35),(1,36),(2,37),(3,38),(4,39),(5,40),(6,41),(7,42),(8,43),(9,44),(10,45),(11,46),(12,47),(13,48),(14,6),(15,7)] ?_
     iterate 16 (first | (refine nH HT_ ?_) | (refine cr HT_ ?_))
     refine bX (bA 16 65535) (by kernel_rfl) ?_;refine dQ (cX HT_.out (by kernel_rfl)) ?_
     try go_wp2
     go_ret2
     exact ⟨dN,ar⟩
def dG.f (k:Nat) (bs:List (List av)) (fl:List Int) (a b:ByteArray) (t:Int):Option (ByteArray × ByteArray × Int × ByteArray × Bool × Bool):=
 (eX.f k fl a b).bind fun m=>if m=true then (bI.f k bs a b t ⟨#[]⟩ false).bind fun q=>if q.1=(bs.length:Int) then some (⟨#[]⟩,⟨#[]⟩,0,⟨#[]⟩,false,false) else if 0≤q.1∧q.1<(bs.length:Int) then cE.f k (bs.getD q.1.toNat []) a b t else none else some (⟨#[]⟩,⟨#[]⟩,0,⟨#[]⟩,false,false)
theorem dG.mono:∀ a0 a1 a2 a3 a4 k,aE (dG.f k a0 a1 a2 a3 a4) (dG.f (k+1) a0 a1 a2 a3 a4):=fun _ _ _ _ _ _=>
 aE.bind (eX.mono _ _ _ _) fun _=>aE.ite (aE.bind (bI.mono _ _ _ _ _ _ _) fun _=>aE.ite (aE.refl _) (aE.ite (cE.mono _ _ _ _ _) (aE.refl _))) (aE.refl _)
theorem dG.at {w:World} {A:Option Addr} {n:Nat} {bs:List (List av)} (h:Kd.C (Kd.slice 34 cC) w A n bs) (i:Nat) (h1:i<n):∃ ad A0 c0,A=some ad∧w.cell? (ad.add i)=some (.slice A0 (bs.getD i []).length c0)∧(bs.getD i []).length≤c0∧Kd.C cC w A0 (bs.getD i []).length (bs.getD i []):=by
 obtain ⟨ad,c,e,_,hK,hc0⟩:=Kd.mF h ([]:List av) (i:Int) (by omega) (by omega);rw [Int.toNat_natCast] at hK hc0
 have hc:∀ j u,c[j]? = some u→w.cell? (ad.add (i*1+j))=some u:=hc0
 obtain ⟨A0,c0,rfl,l0,g0⟩:=hK;exact ⟨ad,A0,c0,e,by have hq:=hc 0 _ rfl;rwa [Nat.mul_one,Nat.add_zero] at hq,l0,g0⟩
theorem dG.calls (k:Nat) (g base:Nat) (l:List av) (bs:List (List av)) (fl:List Int) (a b:ByteArray) (t:Int) (r1 r2:ByteArray) (r3:Int) (r4:ByteArray) (r5 r6:Bool) (w:World) (hA:aJ.At w base g l bs fl) (h:dG.f k bs fl a b t=some (r1,r2,r3,r4,r5,r6)) :
  Calls Tryz.prog 55 #[.pointer (some ⟨g,0,none⟩),.string a,.string b,.int .i64 t] w fun e w'=>e = .returned (.tuple #[.agg #[.string r1,.string r2,.int .i64 r3,.string r4,.bool r5],.bool r6])∧Below w.heap.size w w':=by
 have hu26:=Tryz.underlying51;have hu22:=Tryz.underlying32;have hu39:=Tryz.underlying73;have hu70:=Tryz.underlying111;have hu42:=Tryz.underlying34
 have hsz:(Tryz.prog.info? 34).map (·.size)=some 5:=by
  obtain ⟨i0,hi0,hz⟩:=Option.map_eq_some_iff.1 fe
  simp only [Prod.mk.injEq] at hz
  rw [hi0];simp [hz.2.1]
 obtain ⟨vl,vb,vf,hA⟩:=hA;obtain ⟨Al,cl,rfl⟩:=Kd.bq hA.hl;obtain ⟨Ab,cb,rfl⟩:=Kd.bq hA.hb;obtain ⟨Af,cf,rfl⟩:=Kd.bq hA.hf;have HV:=aS hA;clear hA
 unfold dG.f at h
 replace h:=bV h;obtain ⟨m,x1,h⟩:=h;have X1:=aS x1;clear x1
 cases m with
 | false=>
  rw [if_neg Bool.false_ne_true] at h
  obtain h:=Option.some.inj h
  simp only [Prod.mk.injEq] at h
  obtain ⟨rfl,rfl,rfl,rfl,rfl,rfl⟩:=h
  go_enter Tryz.func55,Tryz.ntmps55
  go_wp2_with (first | ((with_reducible refine aX (N:=8) rfl ?_);refine aY ?hg (N:=8) ?hd (cs:=#[.string ⟨#[]⟩,.string ⟨#[]⟩,.int .i64 0,.string ⟨#[]⟩,.bool false]) (t:=34) ?hr ?_;(case hd=>rfl);(case hg=>rfl);(case hr=>(first | (go_simp;done) | (go_simp;rfl)));intro g8 hg w1 hb hbl;have B8:=aS hb;have G8:ak (w.heap.size≤g8):=aS (by rw [hg];exact Nat.le_refl _);have HV1:=aS (HV.out.below hbl);have HB1:=aS hbl;clear hg hb hbl HV) | (go_at_call 77;(with_reducible refine (eX.calls k g base l bs fl a b false _ HV1.out.up X1.out).mono ?_);rintro e_ w2 ⟨rfl,hb⟩;have B82:=aS (aK B8.out hb);have HV2:=aS (HV1.out.below hb);have HB2:=aS (aN HB1.out hb);clear hb B8 HV1 HB1) | ((with_reducible refine eG (t:=34) (p:=8) rfl ?_);refine wpList_store_row rfl 34 _ _ rfl g8 #[.string ⟨#[]⟩,.string ⟨#[]⟩,.int .i64 0,.string ⟨#[]⟩,.bool false] rfl rfl 34 _ B82.out (by kernel_rfl) rfl (by kernel_rfl) ?_;have BZ:=aS (setRow_heap w2 g8 _ #[.string ⟨#[]⟩,.string ⟨#[]⟩,.int .i64 0,.string ⟨#[]⟩,.bool false] _ _ B82.out);have HZ:=aS (dS HB2.out G8.out #[.string ⟨#[]⟩,.string ⟨#[]⟩,.int .i64 0,.string ⟨#[]⟩,.bool false]);clear B82 HB2;generalize World.setRow w2 g8 #[.string ⟨#[]⟩,.string ⟨#[]⟩,.int .i64 0,.string ⟨#[]⟩,.bool false]=wz at BZ HZ ⊢))
  try simp only [Exit.inBlock,Exit.then]
  refine bodyPost_ret (lP rfl _ _ g8 34 #[.string ⟨#[]⟩,.string ⟨#[]⟩,.int .i64 0,.string ⟨#[]⟩,.bool false] (0,0) _ rfl BZ.out hu42 rfl (by kernel_rfl)) rfl ?_;exact ⟨rfl,HZ.out⟩
 | true=>
 rw [if_pos rfl] at h;replace h:=bV h;obtain ⟨⟨q1,q2⟩,x2,h⟩:=h;have X2:=aS x2;have H:=aS h;clear x2 h
 go_enter Tryz.func55,Tryz.ntmps55
 go_upto_region 4 with (first | ((with_reducible refine aX (N:=8) rfl ?_);refine aY ?hg (N:=8) ?hd (cs:=#[.string ⟨#[]⟩,.string ⟨#[]⟩,.int .i64 0,.string ⟨#[]⟩,.bool false]) (t:=34) ?hr ?_;(case hd=>rfl);(case hg=>rfl);(case hr=>(first | (go_simp;done) | (go_simp;rfl)));intro g8 hg w1 hb hbl;have B8:=aS hb;have G8:ak (w.heap.size≤g8):=aS (by rw [hg];exact Nat.le_refl _);have HV1:=aS (HV.out.below hbl);have HB1:=aS hbl;clear hg hb hbl HV) | (go_at_call 77;(with_reducible refine (eX.calls k g base l bs fl a b true _ HV1.out.up X1.out).mono ?_);rintro e_ w2 ⟨rfl,hb⟩;have B82:=aS (aK B8.out hb);have HV2:=aS (HV1.out.below hb);have HB2:=aS (aN HB1.out hb);clear hb B8 HV1 HB1) | ((with_reducible refine aX (N:=10) rfl ?_);refine aY ?hg (N:=10) ?hd (cs:=#[.string ⟨#[]⟩,.string ⟨#[]⟩,.int .i64 0,.string ⟨#[]⟩,.bool false]) (t:=34) ?hr ?_;(case hd=>rfl);(case hg=>rfl);(case hr=>(first | (go_simp;done) | (go_simp;rfl)));intro g10 hg w3 hb hbl;have B10:=aS hb;have G10:ak (w2.heap.size≤g10):=aS (by rw [hg];exact Nat.le_refl _);have HL3:=aS hbl;clear hg hb hbl) | ((with_reducible refine eG (t:=34) (p:=10) rfl ?_);refine wpList_store_row rfl 34 _ _ rfl g10 #[.string a,.string b,.int .i64 t,.string ⟨#[]⟩,.bool false] rfl rfl 34 _ B10.out (by kernel_rfl) rfl (by kernel_rfl) ?_;have BW:=aS (setRow_heap w3 g10 _ #[.string a,.string b,.int .i64 t,.string ⟨#[]⟩,.bool false] _ _ B10.out);have HS:=aS (dS HL3.out G10.out #[.string a,.string b,.int .i64 t,.string ⟨#[]⟩,.bool false]);have B83:=aS (aK B82.out HS.out);have HV3:=aS (HV2.out.below HS.out);have HB3:=aS (aN HB2.out HS.out);clear B10 HL3 HS G10 B82 HV2 HB2;generalize World.setRow w3 g10 #[.string a,.string b,.int .i64 t,.string ⟨#[]⟩,.bool false]=w4 at BW B83 HV3 HB3 ⊢))
 refine dz (n:=11) (ds:=[]) (S:=fun w'=>w'.cell? ⟨g,1,none⟩=some (.slice Ab bs.length cb)∧w'.rangeAt g10 0 [.string a,.string b,.int .i64 t,.string ⟨#[]⟩,.bool false]) (bA 11 0) (by kernel_rfl) rfl rfl ⟨(aG (au HV3.out.cY) 1).trans rfl,ia (au BW.out)⟩ (fun hHeld=>?_)
 generalize hw_:World.drew _=wd at hHeld ⊢
 have HVd:ak (aJ.ot wd base g _ _ _ l bs fl):=aS (hw_▸HV3.out.below (bN (Below.refl _ _)));have HBd:ak (Below w.heap.size w wd):=aS (hw_▸aN HB3.out (bN (Below.refl _ _)));have B8d:ak (wd.heap[g8]? = _):=aS (hw_▸au B83.out);have BWd:ak (wd.heap[g10]? = _):=aS (hw_▸au BW.out);clear hw_ HV3 HB3 B83 BW;refine cH (T:=(true,[([],[]),([0],[0]),([1],[1]),([2],[2]),([],[]),([3,4],[3,4]),([5],[5]),([6],[6]),([6],[6]),([7,5,0,1,2,3,4,5,6,7],[7]),([8,9,0,1,2,3,4,5,6,7,8,9],[8])])) (B:=[0,1,3,7,0,31,63,127,127,255,1023]) (by kernel_rfl) (by kernel_rfl) (fun HT_ HW_=>?_);refine aZ [(0,24),(1,25),(2,26)] ?_
 iterate 3 (refine cr HT_ ?_)
 refine bX (bA 11 7) (by kernel_rfl) ?_;refine aZ [(3,27)] ?_
 iterate 1 (refine d_ HT_ HW_ hHeld ?_)
 refine bX (bA 11 15) (by kernel_rfl) ?_;refine iw (i:=4) (N:=(some 28)) (v:=.agg #[.string a,.string b,.int .i64 t,.string ⟨#[]⟩,.bool false]) (a':=?_) (bA 11 31) rfl rfl (iD HT_.out HW_.out (by kernel_rfl)) (fun _ _ _ h=>h) (yieldsIf_load_mid (by rfl) 34 _ rfl g10 0 (by go_simp) _ _ (fun w' hw'=>hw'.2) hu42 rfl hsz) hHeld ?_ ?_
 rotate_left
 ·
  simp only [Act.put,dw,dx,lss,bC,cm]
  rfl
 refine dJ 5 (N:=some 29) (bA 11 63) HT_ (fun K hK=>?_);refine ep Tryz.func78 (by kernel_rfl) rfl #[.slice Ab bs.length cb,.agg #[.string a,.string b,.int .i64 t,.string ⟨#[]⟩,.bool false],.func (.func 79) #[] #[]] (by rfl) rfl rfl cD ?_
 with_reducible refine (bI.calls k Ab cb bs a b t ⟨#[]⟩ false q1 q2 _ (Kd.bh HVd.out.hb).2.2 (Kd.bh HVd.out.hb).2.1 X2.out).mono ?_
 rintro e_ w5 ⟨rfl,hb⟩
 refine ⟨_,rfl,?_⟩;have HV5:=aS (HVd.out.below hb);have HB5:=aS (aN HBd.out hb);have B85:=aS (aK B8d.out hb);have BW5:=aS (aK BWd.out hb);clear hb HVd HBd B8d BWd;refine hK.out _ _ ⟨(aG HV5.out.cY 1).trans rfl,ia BW5.out⟩ (fun hHeld=>?_);clear hK K;refine nm 29 ?_;refine aZ [(6,23),(7,30),(8,31),(9,11),(10,12)] ?_
 iterate 5 (refine cr HT_ ?_)
 refine bX (bA 11 2047) (by kernel_rfl) ?_;refine dQ (cX HT_.out (by kernel_rfl)) ?_;clear HT_ HW_ hHeld BW5;have h:=H.out;clear H;have q3:=iC (aS HV5.out.cY)
 by_cases he:q1=(bs.length:Int)
 ·
  rw [if_pos he] at h;obtain ⟨he1,he2⟩:=jE he
  obtain h:=Option.some.inj h
  simp only [Prod.mk.injEq] at h
  obtain ⟨rfl,rfl,rfl,rfl,rfl,rfl⟩:=h;clear he
  go_wp2_with (first | ((with_reducible refine eG (t:=34) (p:=8) rfl ?_);refine wpList_store_row rfl 34 _ _ rfl g8 #[.string ⟨#[]⟩,.string ⟨#[]⟩,.int .i64 0,.string ⟨#[]⟩,.bool false] rfl rfl 34 _ B85.out (by kernel_rfl) rfl (by kernel_rfl) ?_;have BZ:=aS (setRow_heap w5 g8 _ #[.string ⟨#[]⟩,.string ⟨#[]⟩,.int .i64 0,.string ⟨#[]⟩,.bool false] _ _ B85.out);have HZ:=aS (dS HB5.out G8.out #[.string ⟨#[]⟩,.string ⟨#[]⟩,.int .i64 0,.string ⟨#[]⟩,.bool false]);clear B85 HB5;generalize World.setRow w5 g8 #[.string ⟨#[]⟩,.string ⟨#[]⟩,.int .i64 0,.string ⟨#[]⟩,.bool false]=wz at BZ HZ ⊢))
  try simp only [Exit.inBlock,Exit.then]
  refine bodyPost_ret (lP rfl _ _ g8 34 #[.string ⟨#[]⟩,.string ⟨#[]⟩,.int .i64 0,.string ⟨#[]⟩,.bool false] (0,0) _ rfl BZ.out hu42 rfl (by kernel_rfl)) rfl ?_;exact ⟨rfl,HZ.out⟩
 rw [if_neg he] at h;obtain ⟨he1,he2⟩:=ju he;clear he
 by_cases hlim:0≤q1∧q1<(bs.length:Int)
 case neg=>rw [if_neg hlim] at h;cases h
 replace h:(if 0≤q1∧q1<(bs.length:Int) then cE.f k (bs.getD q1.toNat []) a b t else none)=some (r1,r2,r3,r4,r5,r6):=h;rw [if_pos hlim] at h
 obtain ⟨i,rfl⟩:∃ i:Nat,q1=(i:Int):=⟨q1.toNat,by omega⟩
 rw [Int.toNat_natCast] at h;have X3:=aS h;have hq0:=hlim.1;have hq1:=hlim.2;clear h hlim;obtain ⟨ad,An,cn,e_,hx,hnc,hn⟩:=dG.at (Kd.bh HV5.out.hb).2.2 i (by omega);subst e_
 obtain ⟨bi,hbi⟩:∃ x,x=bs.getD i []:=⟨_,rfl⟩
 rw [←hbi] at hx hnc hn X3;clear hbi
 have hix:∀ W:World,(Instr.indexAt 73 (.slice (some ad) bs.length cb) (.int .i64 (i:Int))).run Tryz.prog W = .ok (.pointer (some (ad.add i))) W:=by
  obtain ⟨i0,hi0,hz⟩:=Option.map_eq_some_iff.1 qd
  simp only [Prod.mk.injEq] at hz
  have:=gH 73 32 hu39 hi0 1 hz.2.1 ad bs.length cb (i:Int) hq0 hq1
  intro W
  have h1:=this W;rw [Nat.mul_one,Int.toNat_natCast] at h1;exact h1
 have HN:=aS hn;have HNc:=aS hnc;clear hn hnc hq0 HV5
 go_wp2_with (first | (go_at_call 76;(with_reducible refine (cE.calls k An cn bi a b t r1 r2 r3 r4 r5 r6 _ HN.out HNc.out X3.out).mono ?_);rintro e_ w7 ⟨rfl,hb⟩;have B87:=aS (aK B85.out hb);have HB7:=aS (aN HB5.out hb);clear hb B85 HB5) | ((with_reducible refine eG (t:=34) (p:=8) rfl ?_);refine wpList_store_row rfl 34 _ _ rfl g8 #[.string r1,.string r2,.int .i64 r3,.string r4,.bool r5] rfl rfl 34 _ B87.out (by kernel_rfl) rfl (by kernel_rfl) ?_;have BZ:=aS (setRow_heap w7 g8 _ #[.string r1,.string r2,.int .i64 r3,.string r4,.bool r5] _ _ B87.out);have HZ:=aS (dS HB7.out G8.out #[.string r1,.string r2,.int .i64 r3,.string r4,.bool r5]);clear B87 HB7;generalize World.setRow w7 g8 #[.string r1,.string r2,.int .i64 r3,.string r4,.bool r5]=wz at BZ HZ ⊢))
 try simp only [Exit.inBlock,Exit.then]
 refine bodyPost_ret (lP rfl _ _ g8 34 #[.string r1,.string r2,.int .i64 r3,.string r4,.bool r5] (0,0) _ rfl BZ.out hu42 rfl (by kernel_rfl)) rfl ?_;exact ⟨rfl,HZ.out⟩
-- pJ dG
end Go.Proofs.YtcbhfedcdnjljaaGreat.X

import Derived.Test.YtcbhfedcdnjljaaGreatXx1
import Derived.Test.YtcbhfedcdnjljaaGreatXx5
set_option maxHeartbeats 8000000
set_option maxRecDepth 100000
set_option linter.unusedVariables false
set_option linter.unusedSimpArgs false
namespace Go.Proofs.YtcbhfedcdnjljaaGreat.X
open Go.RowKit Go.Proofs.YtcbhfedcdnjljaaGreatW.PrintWords Go.Proofs.YtcbhfedcdnjljaaGreatW.PrintLast Go.Proofs.YtcbhfedcdnjljaaGreatW.PrintMore
attribute [local go_sem] gZ g_ iW iZ gF gD ic ig iX
attribute [local go_sem high] Ep
def jC.f (l0:List Int):Option (Bool × List Int × Bool):=if (l0.length:Int)=0 then (some (false,([]:List Int),false)) else (if 0<(l0.length:Int) then (if (rd l0 0) > 1 then (some (false,([]:List Int),false)) else (if 1≤(l0.length:Int) then (some (((rd l0 0) == 1),(l0.drop (1:Int).toNat),true)) else (none))) else (none))
theorem jC.calls (P0_:Nat→Prop) (u9000_:Value) (l0:List Int) (r1:Bool) (r2:List Int) (r3:Bool) (w0 w:World) (hB:Below w0.heap.size w0 w) (ho0:Kd.R (Kd.int .u8) 5 w w0.heap.size P0_ u9000_ l0) (h:jC.f l0=some (r1,r2,r3)) :
  Calls Tryz.prog 106 #[u9000_] w fun e w'=>∃ v1_:Value,e = .returned (.tuple #[.bool r1,v1_,.bool r3])∧Kd.Q (Kd.int .u8) 5 w' w0.heap.size (fun k_=>(P0_ k_∨w.heap.size≤k_)) v1_ r2∧Below w0.heap.size w0 w'∧Kept w w' (fun k_=>P0_ k_):=by
 have HO0:=aS (show Kd.R (Kd.int .u8) 5 w w0.heap.size (fun k_=>(P0_ k_∨w.heap.size≤k_)) u9000_ l0 from Kd.aH ho0 (fun k_ hk=>(.inl hk)));have HK:=aS (Kept.refl w (fun k_=>P0_ k_));have HW0:=aS hB.size;have HB:=aS hB;clear hB;have H:(if (l0.length:Int)=0 then (some (false,([]:List Int),false)) else (if 0<(l0.length:Int) then (if (rd l0 0) > 1 then (some (false,([]:List Int),false)) else (if 1≤(l0.length:Int) then (some (((rd l0 0) == 1),(l0.drop (1:Int).toNat),true)) else (none))) else (none)))=some (r1,r2,r3):=h;clear h
 by_cases c2:(l0.length:Int)=0
 ·
  rw [if_pos c2] at H;obtain ⟨c2b0,c2b1⟩:=jE c2;clear c2
  simp only [Option.some.injEq,Prod.mk.injEq] at H
  obtain ⟨rfl,rfl,rfl⟩:=H;obtain ⟨Ao3,co3,eo3⟩:=Kd.bq HO0.out;subst eo3
  go_enter Tryz.func106,Tryz.ntmps106
  go_wp2
  repeat (go_quiet (fail);try go_wp2)
  go_ret3
  exact ⟨_,dN,Kd.lu (by first | exact Kd.dX _ _ _ _ _ | exact Kd.gy _ _ _ _ _ | exact Kd.fN _ _ _ _ _ | exact Kd.gB _ _ _ _ _ | exact Kd.gA _ _ _ _ _),ar,by repeat (first | (with_reducible first | exact HK.out | apply Kept.alloc | apply Kept.drewN | apply Kept.drew) | exact HK.out)⟩
 ·
  rw [if_neg c2] at H;obtain ⟨c2b0,c2b1⟩:=ju c2
  have c2b2:¬ (l0=[]):=fun h_=>c2 (by rw [h_];rfl)
  by_cases c4:0<(l0.length:Int)
  ·
   rw [if_pos c4] at H;have c4b0:decide (0<(l0.length:Int))=true:=decide_eq_true c4;have c4b1:decide (0<l0.length)=true:=decide_eq_true (by omega);clear c4
   by_cases c5:(rd l0 0) > 1
   ·
    rw [if_pos c5] at H;have c5b0:decide (1<(rd l0 0))=true:=decide_eq_true c5;clear c5
    simp only [Option.some.injEq,Prod.mk.injEq] at H
    obtain ⟨rfl,rfl,rfl⟩:=H;obtain ⟨Ao6,co6,eo6⟩:=Kd.bq HO0.out;subst eo6;have p350:0≤(0:Int):=(by omega);have q350:0<(l0.length:Int):=cG;obtain ⟨ad350,e350,hx350_0⟩:=Kd.jj (Kd.bh HO0.out).2.2 0 p350 q350;cases e350;have qi350:(0<l0.length)=True:=eq_true (by omega)
    (try rw [show ((0:Int)).toNat=0 from rfl] at hx350_0)
    (try rw [Addr.add_zero'] at hx350_0)
    replace p350:=eq_true p350;replace q350:=eq_true q350
    go_enter Tryz.func106,Tryz.ntmps106
    go_wp2
    repeat (go_quiet (fail);try go_wp2)
    go_ret3
    exact ⟨_,dN,Kd.lu (by first | exact Kd.dX _ _ _ _ _ | exact Kd.gy _ _ _ _ _ | exact Kd.fN _ _ _ _ _ | exact Kd.gB _ _ _ _ _ | exact Kd.gA _ _ _ _ _),ar,by repeat (first | (with_reducible first | exact HK.out | apply Kept.alloc | apply Kept.drewN | apply Kept.drew) | exact HK.out)⟩
   ·
    rw [if_neg c5] at H;have c5b0:decide (1<(rd l0 0))=false:=decide_eq_false c5;clear c5
    by_cases c7:1≤(l0.length:Int)
    ·
     rw [if_pos c7] at H;have c7b0:=eq_true c7;have c7b1:decide (1≤(l0.length:Int))=true:=decide_eq_true c7;clear c7
     obtain ⟨y352,hy352⟩:∃ y_:List Int,y_=(l0.drop (1:Int).toNat):=⟨_,rfl⟩
     replace H:(some (((rd l0 0) == 1),y352,true))=some (r1,r2,r3):=pE hy352 H;have Ny352:=aS hy352;clear hy352
     simp only [Option.some.injEq,Prod.mk.injEq] at H
     obtain ⟨rfl,rfl,rfl⟩:=H;obtain ⟨Ao8,co8,eo8⟩:=Kd.bq HO0.out;subst eo8;have p350:0≤(0:Int):=(by omega);have q350:0<(l0.length:Int):=cG;obtain ⟨ad350,e350,hx350_0⟩:=Kd.jj (Kd.bh HO0.out).2.2 0 p350 q350;cases e350;have qi350:(0<l0.length)=True:=eq_true (by omega)
     (try rw [show ((0:Int)).toNat=0 from rfl] at hx350_0)
     (try rw [Addr.add_zero'] at hx350_0)
     replace p350:=eq_true p350;replace q350:=eq_true q350;have p351:0≤(0:Int):=(by omega);have q351:0<(l0.length:Int):=cG;obtain ⟨ad351,e351,hx351_0⟩:=Kd.jj (Kd.bh HO0.out).2.2 0 p351 q351
     obtain rfl:ad350=ad351:=(by injection e351)
     have qi351:(0<l0.length)=True:=eq_true (by omega)
     (try rw [show ((0:Int)).toNat=0 from rfl] at hx351_0)
     (try rw [Addr.add_zero'] at hx351_0)
     replace p351:=eq_true p351;replace q351:=eq_true q351;have q9:(1:Int)≤((l0.length:Int):Int):=cG;obtain ⟨i09,hi09,_,hsz9,_⟩:=info_parts fE;have hcut9:=gG (P:=Tryz.prog) 51 5 .i64 Tryz.underlying51 hi09 1 hsz9 (some ad350) l0.length co8 1 (by omega) q9;have hr9:=Kd.tT (k:=(1:Int).toNat) (Kd.lu HO0.out) (by omega)
     obtain ⟨A9,hA9⟩:∃ A1_,A1_=(if co8=(1:Int).toNat then (some ad350) else ((some ad350):Option Addr).map (·.add ((1:Int).toNat*1))):=⟨_,rfl⟩
     obtain ⟨c9,hc9⟩:∃ c1_,c1_=co8 - (1:Int).toNat:=⟨_,rfl⟩
     have hy9:y352.length=l0.length - (1:Int).toNat:=(by rw [Ny352.out,lY]);rw [←Ny352.out] at hr9;rw [←hy9,← hA9,← hc9] at hcut9;replace hr9:Kd.Q (Kd.int .u8) 5 w w0.heap.size (fun k_=>(P0_ k_∨w.heap.size≤k_)) (.slice A9 y352.length c9) y352:=(by rw [hA9,hc9,hy9];exact hr9);have HE9:ak ((Value.slice A9 y352.length c9).ownBlock=(.slice (some ad350) l0.length co8:Value).ownBlock):=⟨by rw [hA9];split<;>(cases ((some ad350):Option Addr)<;>first | rfl | simp [Value.ownBlock,kr])⟩;clear hy9 hi09 hsz9 HO0 hA9 hc9;have HO354:=aS hr9;clear hr9;replace q9:=eq_true q9
     go_enter Tryz.func106,Tryz.ntmps106
     go_wp2
     repeat (go_quiet (fail);try go_wp2)
     go_ret3
     exact ⟨_,dN,by (with_reducible repeat (first | apply Kd.d7 | apply Kd.d6 | apply Kd.eE));exact HO354.out,ar,by repeat (first | (with_reducible first | exact HK.out | apply Kept.alloc | apply Kept.drewN | apply Kept.drew) | exact HK.out)⟩
    ·
     rw [if_neg c7] at H;exact absurd H (by simp)
  ·
   rw [if_neg c4] at H;exact absurd H (by simp)
def d9.j0:Nat→List Int→Bool→ByteArray→ByteArray→Int→ByteArray→Bool→Option (ByteArray × ByteArray × Int × ByteArray × Bool × List Int × Bool)
 | 0,_,_,_,_,_,_,_=>none
 | k+1,x0,x54,x357000,x357001,x357002,x357003,x357004=>if x54=true then (some ((⟨#[]⟩:ByteArray),(⟨#[]⟩:ByteArray),0,(⟨#[]⟩:ByteArray),false,([]:List Int),false)) else (some (x357000,x357001,x357002,x357003,x357004,x0,true))
def d9.f (k:Nat) (l0:List Int):Option (ByteArray × ByteArray × Int × ByteArray × Bool × List Int × Bool):=(eA.f k l0).bind fun bt358=>((eA.f k bt358.2.1).bind fun bt363=>((bw.f k bt363.2.1).bind fun bt368=>((jC.f bt368.2.1).bind fun bt373=>((eA.f k bt373.2.1).bind fun bt378=>(if (!bt358.2.2 || (!bt363.2.2 || (!bt368.2.2 || (!bt373.2.2 || (!bt378.2.2)))))=true then (d9.j0 k bt378.2.1 true bt358.1 bt363.1 bt368.1 bt378.1 bt373.1) else ((eP.f bt358.1 bt363.1 bt368.1 bt378.1 bt373.1).bind fun t383=>(d9.j0 k bt378.2.1 (!t383) bt358.1 bt363.1 bt368.1 bt378.1 bt373.1)))))))
theorem d9.cP:∀ k,(∀ y0 y1 y2 y3 y4 y5 y6,aE (d9.j0 k y0 y1 y2 y3 y4 y5 y6) (d9.j0 (k+1) y0 y1 y2 y3 y4 y5 y6))
 | 0=>fun _ _ _ _ _ _ _ r h=>by simp [d9.j0] at h
 | k+1=>by
  have ih0:=d9.cP k
  ·
   intro y0 y1 y2 y3 y4 y5 y6
   unfold d9.j0
   have m0:=@bw.mono;have m1:=@eA.mono;exact e8
theorem d9.mono:∀ a0 k,aE (d9.f k a0) (d9.f (k+1) a0):=by
 intro a0 k
 have ih0:=d9.cP k
 unfold d9.f
 have m0:=@bw.mono;have m1:=@eA.mono;exact e8
theorem d9.calls (k:Nat) (A0:Option Addr) (c0:Nat) (l0:List Int) (r1:ByteArray) (r2:ByteArray) (r3:Int) (r4:ByteArray) (r5:Bool) (r6:List Int) (r7:Bool) (w:World) (hr0:Kd.C (Kd.int .u8) w A0 l0.length l0) (hc0:l0.length≤c0) (h:d9.f k l0=some (r1,r2,r3,r4,r5,r6,r7)) :
  Calls Tryz.prog 103 #[.slice A0 l0.length c0] w fun e w'=>∃ v5_:Value,e = .returned (.tuple #[.agg #[.string r1,.string r2,.int .i64 r3,.string r4,.bool r5],v5_,.bool r7])∧Kd.Q (Kd.int .u8) 5 w' w.heap.size (fun _=>True) v5_ r6∧Below w.heap.size w w':=by
 have hu34:=Tryz.underlying34;have hu149:=Tryz.underlying149;have HR0:=aS hr0;have HC0:=aS hc0;clear hr0 hc0;have HB:=aS (Below.refl w.heap.size w);have H:((eA.f k l0).bind fun bt358=>((eA.f k bt358.2.1).bind fun bt363=>((bw.f k bt363.2.1).bind fun bt368=>((jC.f bt368.2.1).bind fun bt373=>((eA.f k bt373.2.1).bind fun bt378=>(if (!bt358.2.2 || (!bt363.2.2 || (!bt368.2.2 || (!bt373.2.2 || (!bt378.2.2)))))=true then (d9.j0 k bt378.2.1 true bt358.1 bt363.1 bt368.1 bt378.1 bt373.1) else ((eP.f bt358.1 bt363.1 bt368.1 bt378.1 bt373.1).bind fun t383=>(d9.j0 k bt378.2.1 (!t383) bt358.1 bt363.1 bt368.1 bt378.1 bt373.1))))))))=some (r1,r2,r3,r4,r5,r6,r7):=h;clear h;replace H:=bV H;obtain ⟨⟨t358,t359,t360⟩,A20,H⟩:=H;(try dsimp only at H);have A2:=aS A20;clear A20;replace H:=bV H;obtain ⟨⟨t363,t364,t365⟩,A30,H⟩:=H;(try dsimp only at H);have A3:=aS A30;clear A30;replace H:=bV H;obtain ⟨⟨t368,t369,t370⟩,A40,H⟩:=H;(try dsimp only at H);have A4:=aS A40;clear A40;replace H:=bV H;obtain ⟨⟨t373,t374,t377⟩,A50,H⟩:=H;(try dsimp only at H);have A5:=aS A50;clear A50;replace H:=bV H;obtain ⟨⟨t378,t379,t380⟩,A60,H⟩:=H;(try dsimp only at H);have A6:=aS A60;clear A60;have HC7:=aS H;clear H
 go_enter Tryz.func103,Tryz.ntmps103
 go_upto_region 8 with (first | ((with_reducible refine aX (N:=2) rfl ?_);refine aY ?hg (N:=2) ?hd (cs:=#[.string (⟨#[]⟩:ByteArray),.string (⟨#[]⟩:ByteArray),.int .i64 0,.string (⟨#[]⟩:ByteArray),.bool false]) (t:=34) ?hr ?_;(case hd=>rfl);(case hg=>rfl);(case hr=>first | (go_simp;done) | (go_simp;rfl));intro gb355 hg w8 hbox hb;have BK355:=aS (hbox);have GW355:=bsize hg;have GE355:=bsize hg;replace HB:=aM hb;clear hb hbox hg) | ((with_reducible refine aX (N:=5) rfl ?_);refine aY ?hg (N:=5) ?hd (cs:=#[.string (⟨#[]⟩:ByteArray),.string (⟨#[]⟩:ByteArray),.int .i64 0,.string (⟨#[]⟩:ByteArray),.bool false]) (t:=34) ?hr ?_;(case hd=>rfl);(case hg=>rfl);(case hr=>first | (go_simp;done) | (go_simp;rfl));intro gb356 hg w9 hbox hb;have BK356:=aS (hbox);have GW356:=bsize hg;have GE356:=bsize hg;replace HB:=aM hb;have NB355_356:=aS ((by rw [hg];exact Nat.ne_of_lt (dg (g:=gb355) (o:=.cells #[.string (⟨#[]⟩:ByteArray),.string (⟨#[]⟩:ByteArray),.int .i64 0,.string (⟨#[]⟩:ByteArray),.bool false] 34 (0,0)) (eB BK355.out)):gb355≠gb356));have NB356_355:=aS ((by rw [hg];exact Nat.ne_of_gt (dg (g:=gb355) (o:=.cells #[.string (⟨#[]⟩:ByteArray),.string (⟨#[]⟩:ByteArray),.int .i64 0,.string (⟨#[]⟩:ByteArray),.bool false] 34 (0,0)) (eB BK355.out)):gb356≠gb355));replace BK355:=fA BK355 hb;clear hb hbox hg) | ((with_reducible refine aX (N:=6) rfl ?_);refine aY ?hg (N:=6) ?hd (cs:=#[.bool false,.bool false,.bool false,.bool false,.bool false]) (t:=149) ?hr ?_;(case hd=>rfl);(case hg=>rfl);(case hr=>first | (go_simp;done) | (go_simp;rfl));intro gb357 hg w10 hbox hb;have BK357:=aS (hbox);have GW357:=bsize hg;have GE357:=bsize hg;replace HB:=aM hb;have NB355_357:=aS ((by rw [hg];exact Nat.ne_of_lt (dg (g:=gb355) (o:=.cells #[.string (⟨#[]⟩:ByteArray),.string (⟨#[]⟩:ByteArray),.int .i64 0,.string (⟨#[]⟩:ByteArray),.bool false] 34 (0,0)) (eB BK355.out)):gb355≠gb357));have NB357_355:=aS ((by rw [hg];exact Nat.ne_of_gt (dg (g:=gb355) (o:=.cells #[.string (⟨#[]⟩:ByteArray),.string (⟨#[]⟩:ByteArray),.int .i64 0,.string (⟨#[]⟩:ByteArray),.bool false] 34 (0,0)) (eB BK355.out)):gb357≠gb355));replace BK355:=fA BK355 hb;have NB356_357:=aS ((by rw [hg];exact Nat.ne_of_lt (dg (g:=gb356) (o:=.cells #[.string (⟨#[]⟩:ByteArray),.string (⟨#[]⟩:ByteArray),.int .i64 0,.string (⟨#[]⟩:ByteArray),.bool false] 34 (0,0)) (eB BK356.out)):gb356≠gb357));have NB357_356:=aS ((by rw [hg];exact Nat.ne_of_gt (dg (g:=gb356) (o:=.cells #[.string (⟨#[]⟩:ByteArray),.string (⟨#[]⟩:ByteArray),.int .i64 0,.string (⟨#[]⟩:ByteArray),.bool false] 34 (0,0)) (eB BK356.out)):gb357≠gb356));replace BK356:=fA BK356 hb;clear hb hbox hg) | ((with_reducible refine aC (f:=105) rfl ?_);refine bE (some 9) rfl rfl Tryz.func105 (by kernel_rfl) rfl #[.slice A0 l0.length c0] rfl cD ?_;(with_reducible refine (eA.calls k _ _ l0 t358 t359 t360 _ ?side1 ?side2 A2.out).mono ?_);(case side1=>exact eN (Kd.cW HR0.out HB.out));(case side2=>exact HC0.out);rintro e w11 ⟨v361,rfl,ho0,hb⟩;refine ⟨_,rfl,?_⟩;have HO362:=aS (Kd.sn ho0 (ay ar));replace BK355:=fA BK355 hb;replace BK356:=fA BK356 hb;replace BK357:=fA BK357 hb;replace HB:=aM hb;(try clear hb);(try clear hk);(try clear hi);(try clear ho0);have hnb12:=NB356_355.out;have hnc12:=NB355_356.out;have hnb13:=NB356_357.out;have hnc13:=NB357_356.out;have hcz14:=cR BK356;have hnb15:=NB357_355.out;have hnc15:=NB355_357.out;have hcz16:=cR BK357;obtain ⟨Ao17,co17,eo17,_⟩:=Kd.qv HO362.out;subst eo17) | ((with_reducible refine aC (f:=105) rfl ?_);refine bE (some 17) rfl rfl Tryz.func105 (by kernel_rfl) rfl #[.slice Ao17 t359.length co17] rfl cD ?_;(with_reducible refine (eA.calls k _ _ t359 t363 t364 t365 _ ?side1 ?side2 A3.out).mono ?_);(case side1=>refine (Kd.js (e:=5) (base:=w.heap.size) (ok:=fun k_=>True) (n:=t359.length) (c:=co17) ?_).2.2;exact (by (with_reducible repeat (first | apply Kd.d7 | apply Kd.d6 | apply Kd.eE));exact (Kd.cZ (Kd.cZ (Kd.dL (p:=⟨gb357,0,none⟩) (Kd.dL (p:=⟨gb356,0,none⟩) (Kd.dm (Kd.dm HO362.out BK356.out (by decide)) BK357.out (by decide)) (fun _ hk=>hk.1.2) (.string t358)) (fun _ hk=>hk.2) (.bool t360)) (fun _ h_=>h_.1)) (fun _ h_=>h_.1))));(case side2=>exact (Kd.js HO362.out).2.1);rintro e w18 ⟨v366,rfl,ho0,hb⟩;refine ⟨_,rfl,?_⟩;have HO367:=aS (Kd.sn (Kd.rR ho0 (Kd.qD (by (with_reducible repeat (first | apply Kd.d7 | apply Kd.d6 | apply Kd.eE));exact (Kd.cZ (Kd.cZ (Kd.dL (p:=⟨gb357,0,none⟩) (Kd.dL (p:=⟨gb356,0,none⟩) (Kd.dm (Kd.dm HO362.out BK356.out (by decide)) BK357.out (by decide)) (fun _ hk=>hk.1.2) (.string t358)) (fun _ hk=>hk.2) (.bool t360)) (fun _ h_=>h_.1)) (fun _ h_=>h_.1))))) (ay ar));replace HO362:=aS (Kd.mr (by (with_reducible repeat (first | apply Kd.d7 | apply Kd.d6 | apply Kd.eE));exact (Kd.cZ (Kd.cZ (Kd.dL (p:=⟨gb357,0,none⟩) (Kd.dL (p:=⟨gb356,0,none⟩) (Kd.dm (Kd.dm HO362.out BK356.out (by decide)) BK357.out (by decide)) (fun _ hk=>hk.1.2) (.string t358)) (fun _ hk=>hk.2) (.bool t360)) (fun _ h_=>h_.1)) (fun _ h_=>h_.1))) (by first | exact Kd.rF ho0 | exact Kd.kL ho0 | exact Kd.fF ho0 | exact Kd.V_base ho0) hb);replace BK355:=aS (aK (g:=gb355) (o:=.cells #[.string (⟨#[]⟩:ByteArray),.string (⟨#[]⟩:ByteArray),.int .i64 0,.string (⟨#[]⟩:ByteArray),.bool false] 34 (0,0)) (by (with_reducible repeat (first | refine aA ?_ _ | refine au ?_ | refine ax ?_ _));refine dW ?_ NB355_357.out _;(with_reducible repeat (first | refine aA ?_ _ | refine au ?_ | refine ax ?_ _));refine dW ?_ NB355_356.out _;(with_reducible repeat (first | refine aA ?_ _ | refine au ?_ | refine ax ?_ _));exact BK355.out) hb);replace BK356:=aS (aK (g:=gb356) (o:=.cells #[.string t358,.string (⟨#[]⟩:ByteArray),.int .i64 0,.string (⟨#[]⟩:ByteArray),.bool false] 34 (0,0)) (by (with_reducible repeat (first | refine aA ?_ _ | refine au ?_ | refine ax ?_ _));refine dW ?_ NB356_357.out _;(with_reducible repeat (first | refine aA ?_ _ | refine au ?_ | refine ax ?_ _));refine bn (cs:=#[.string (⟨#[]⟩:ByteArray),.string (⟨#[]⟩:ByteArray),.int .i64 0,.string (⟨#[]⟩:ByteArray),.bool false]) ?_ 0 _ rfl;(with_reducible repeat (first | refine aA ?_ _ | refine au ?_ | refine ax ?_ _));exact BK356.out) hb);replace BK357:=aS (aK (g:=gb357) (o:=.cells #[.bool t360,.bool false,.bool false,.bool false,.bool false] 149 (0,0)) (by (with_reducible repeat (first | refine aA ?_ _ | refine au ?_ | refine ax ?_ _));refine bn (cs:=#[.bool false,.bool false,.bool false,.bool false,.bool false]) ?_ 0 _ rfl;(with_reducible repeat (first | refine aA ?_ _ | refine au ?_ | refine ax ?_ _));refine dW ?_ NB357_356.out _;(with_reducible repeat (first | refine aA ?_ _ | refine au ?_ | refine ax ?_ _));exact BK357.out) hb);replace HB:=aM hb;(try clear hb);(try clear hk);(try clear hi);(try clear ho0);have hcz19:=cR BK356;have hcz20:=cR BK357;obtain ⟨Ao21,co21,eo21,_⟩:=Kd.qv HO367.out;subst eo21) | ((with_reducible refine aC (f:=71) rfl ?_);refine bE (some 25) rfl rfl Tryz.func71 (by kernel_rfl) rfl #[.slice Ao21 t364.length co21] rfl cD ?_;(with_reducible refine (bw.calls k _ _ t364 t368 t369 t370 _ ?side1 ?side2 A4.out).mono ?_);(case side1=>refine (Kd.js (e:=5) (base:=w.heap.size) (ok:=fun k_=>(True∧some k_≠(.slice Ao17 t359.length co17:Value).ownBlock)) (n:=t364.length) (c:=co21) ?_).2.2;exact (by (with_reducible repeat (first | apply Kd.d7 | apply Kd.d6 | apply Kd.eE));exact (Kd.cZ (Kd.cZ (Kd.dL (p:=⟨gb357,1,none⟩) (Kd.dL (p:=⟨gb356,1,none⟩) (Kd.dm (Kd.dm HO367.out BK356.out (by decide)) BK357.out (by decide)) (fun _ hk=>hk.1.2) (.string t363)) (fun _ hk=>hk.2) (.bool t365)) (fun _ h_=>h_.1)) (fun _ h_=>h_.1))));(case side2=>exact (Kd.js HO367.out).2.1);rintro e w22 ⟨v371,rfl,ho0,hb⟩;refine ⟨_,rfl,?_⟩;have HO372:=aS (Kd.bf (Kd.cI (Kd.cI ho0 (Kd.qD (by (with_reducible repeat (first | apply Kd.d7 | apply Kd.d6 | apply Kd.eE));exact (Kd.cZ (Kd.cZ (Kd.dL (p:=⟨gb357,1,none⟩) (Kd.dL (p:=⟨gb356,1,none⟩) (Kd.dm (Kd.dm HO362.out BK356.out (by decide)) BK357.out (by decide)) (fun _ hk=>hk.1.2) (.string t363)) (fun _ hk=>hk.2) (.bool t365)) (fun _ h_=>h_.1)) (fun _ h_=>h_.1))))) (Kd.qD (by (with_reducible repeat (first | apply Kd.d7 | apply Kd.d6 | apply Kd.eE));exact (Kd.cZ (Kd.cZ (Kd.dL (p:=⟨gb357,1,none⟩) (Kd.dL (p:=⟨gb356,1,none⟩) (Kd.dm (Kd.dm HO367.out BK356.out (by decide)) BK357.out (by decide)) (fun _ hk=>hk.1.2) (.string t363)) (fun _ hk=>hk.2) (.bool t365)) (fun _ h_=>h_.1)) (fun _ h_=>h_.1))))) (ay ar));replace HO362:=aS (Kd.mr (by (with_reducible repeat (first | apply Kd.d7 | apply Kd.d6 | apply Kd.eE));exact (Kd.cZ (Kd.cZ (Kd.dL (p:=⟨gb357,1,none⟩) (Kd.dL (p:=⟨gb356,1,none⟩) (Kd.dm (Kd.dm HO362.out BK356.out (by decide)) BK357.out (by decide)) (fun _ hk=>hk.1.2) (.string t363)) (fun _ hk=>hk.2) (.bool t365)) (fun _ h_=>h_.1)) (fun _ h_=>h_.1))) (dh ho0) hb);replace HO367:=aS (Kd.mr (by (with_reducible repeat (first | apply Kd.d7 | apply Kd.d6 | apply Kd.eE));exact (Kd.cZ (Kd.cZ (Kd.dL (p:=⟨gb357,1,none⟩) (Kd.dL (p:=⟨gb356,1,none⟩) (Kd.dm (Kd.dm HO367.out BK356.out (by decide)) BK357.out (by decide)) (fun _ hk=>hk.1.2) (.string t363)) (fun _ hk=>hk.2) (.bool t365)) (fun _ h_=>h_.1)) (fun _ h_=>h_.1))) (dh ho0) hb);replace BK355:=aS (aK (g:=gb355) (o:=.cells #[.string (⟨#[]⟩:ByteArray),.string (⟨#[]⟩:ByteArray),.int .i64 0,.string (⟨#[]⟩:ByteArray),.bool false] 34 (0,0)) (by (with_reducible repeat (first | refine aA ?_ _ | refine au ?_ | refine ax ?_ _));refine dW ?_ NB355_357.out _;(with_reducible repeat (first | refine aA ?_ _ | refine au ?_ | refine ax ?_ _));refine dW ?_ NB355_356.out _;(with_reducible repeat (first | refine aA ?_ _ | refine au ?_ | refine ax ?_ _));exact BK355.out) hb);replace BK356:=aS (aK (g:=gb356) (o:=.cells #[.string t358,.string t363,.int .i64 0,.string (⟨#[]⟩:ByteArray),.bool false] 34 (0,0)) (by (with_reducible repeat (first | refine aA ?_ _ | refine au ?_ | refine ax ?_ _));refine dW ?_ NB356_357.out _;(with_reducible repeat (first | refine aA ?_ _ | refine au ?_ | refine ax ?_ _));refine bn (cs:=#[.string t358,.string (⟨#[]⟩:ByteArray),.int .i64 0,.string (⟨#[]⟩:ByteArray),.bool false]) ?_ 1 _ rfl;(with_reducible repeat (first | refine aA ?_ _ | refine au ?_ | refine ax ?_ _));exact BK356.out) hb);replace BK357:=aS (aK (g:=gb357) (o:=.cells #[.bool t360,.bool t365,.bool false,.bool false,.bool false] 149 (0,0)) (by (with_reducible repeat (first | refine aA ?_ _ | refine au ?_ | refine ax ?_ _));refine bn (cs:=#[.bool t360,.bool false,.bool false,.bool false,.bool false]) ?_ 1 _ rfl;(with_reducible repeat (first | refine aA ?_ _ | refine au ?_ | refine ax ?_ _));refine dW ?_ NB357_356.out _;(with_reducible repeat (first | refine aA ?_ _ | refine au ?_ | refine ax ?_ _));exact BK357.out) hb);replace HB:=aM hb;(try clear hb);(try clear hk);(try clear hi);(try clear ho0);have hcz23:=cR BK356) | ((with_reducible refine eG (t:=3) (p:=29) rfl ?_);refine sJ (t:=3) (p:=29) (v:=?vo_w24) (w1:=(w22.setCell ⟨gb356,2,none⟩ (.int .i64 t368))) ?hg ?ho ?hn ?hr ?_;(case ho=>rfl);(case hg=>rfl);(case hn=>rfl);(case hr=>first | (go_simp;done) | (go_simp;rfl));intro w24 hw;have n0_:ak (Kd.Q (Kd.int .u8) 5 w24 w.heap.size (fun k_=>some k_≠(.slice Ao21 t364.length co21:Value).ownBlock∧some k_≠(v371:Value).ownBlock) (.slice Ao17 t359.length co17) t359):=⟨(by rw [hw];exact (by (with_reducible repeat (first | apply Kd.d7 | apply Kd.d6 | apply Kd.eE));exact Kd.cZ (Kd.dL (p:=⟨gb356,2,none⟩) (Kd.dm HO362.out BK356.out (by decide)) (fun _ hk=>hk.2) (.int .i64 t368)) (fun _ hk=>⟨hk.1.1.2,hk.1.2⟩)))⟩;have n1_:ak (Kd.Q (Kd.int .u8) 5 w24 w.heap.size (fun k_=>some k_≠(.slice Ao17 t359.length co17:Value).ownBlock∧some k_≠(v371:Value).ownBlock) (.slice Ao21 t364.length co21) t364):=⟨(by rw [hw];exact (by (with_reducible repeat (first | apply Kd.d7 | apply Kd.d6 | apply Kd.eE));exact Kd.cZ (Kd.dL (p:=⟨gb356,2,none⟩) (Kd.dm HO367.out BK356.out (by decide)) (fun _ hk=>hk.2) (.int .i64 t368)) (fun _ hk=>⟨hk.1.1.2,hk.1.2⟩)))⟩;have n2_:ak (Kd.R (Kd.int .u8) 5 w24 w.heap.size (fun k_=>some k_≠(.slice Ao17 t359.length co17:Value).ownBlock∧some k_≠(.slice Ao21 t364.length co21:Value).ownBlock) v371 t369):=⟨(by rw [hw];exact (by (with_reducible repeat (first | apply Kd.bS | apply Kd.bO | apply Kd.bP));exact Kd.aH (Kd.fj (p:=⟨gb356,2,none⟩) (Kd.gK HO372.out BK356.out (by decide)) (fun _ hk=>hk.2) (.int .i64 t368)) (fun _ hk=>⟨hk.1.1.2,hk.1.2⟩)))⟩;have n3_:ak (w24.heap[gb355]? = some (.cells #[.string (⟨#[]⟩:ByteArray),.string (⟨#[]⟩:ByteArray),.int .i64 0,.string (⟨#[]⟩:ByteArray),.bool false] 34 (0,0))):=⟨(by rw [hw];exact (by (with_reducible repeat (first | refine aA ?_ _ | refine au ?_ | refine ax ?_ _));refine dW ?_ NB355_356.out _;(with_reducible repeat (first | refine aA ?_ _ | refine au ?_ | refine ax ?_ _));exact BK355.out))⟩;have n4_:ak (w24.heap[gb356]? = some (.cells #[.string t358,.string t363,.int .i64 t368,.string (⟨#[]⟩:ByteArray),.bool false] 34 (0,0))):=⟨(by rw [hw];exact (by (with_reducible repeat (first | refine aA ?_ _ | refine au ?_ | refine ax ?_ _));refine bn (cs:=#[.string t358,.string t363,.int .i64 0,.string (⟨#[]⟩:ByteArray),.bool false]) ?_ 2 _ rfl;(with_reducible repeat (first | refine aA ?_ _ | refine au ?_ | refine ax ?_ _));exact BK356.out))⟩;have n5_:ak (w24.heap[gb357]? = some (.cells #[.bool t360,.bool t365,.bool false,.bool false,.bool false] 149 (0,0))):=⟨(by rw [hw];exact (by (with_reducible repeat (first | refine aA ?_ _ | refine au ?_ | refine ax ?_ _));refine dW ?_ NB357_356.out _;(with_reducible repeat (first | refine aA ?_ _ | refine au ?_ | refine ax ?_ _));exact BK357.out))⟩;have n6_:ak (Below w.heap.size w w24):=⟨(by rw [hw];exact ar)⟩;clear hw;clear HO362;clear HO367;clear HO372;clear BK355;clear BK356;clear BK357;clear HB;have HO362:=n0_;have HO367:=n1_;have HO372:=n2_;have BK355:=n3_;have BK356:=n4_;have BK357:=n5_;have HB:=n6_;clear n0_ n1_ n2_ n3_ n4_ n5_ n6_;have hcz25:=cR BK357) | ((with_reducible refine eG (t:=4) (p:=30) rfl ?_);refine sJ (t:=4) (p:=30) (v:=?vo_w26) (w1:=(w24.setCell ⟨gb357,2,none⟩ (.bool t370))) ?hg ?ho ?hn ?hr ?_;(case ho=>rfl);(case hg=>rfl);(case hn=>rfl);(case hr=>first | (go_simp;done) | (go_simp;rfl));intro w26 hw;have n0_:ak (Kd.Q (Kd.int .u8) 5 w26 w.heap.size (fun k_=>some k_≠(.slice Ao21 t364.length co21:Value).ownBlock∧some k_≠(v371:Value).ownBlock) (.slice Ao17 t359.length co17) t359):=⟨(by rw [hw];exact (by (with_reducible repeat (first | apply Kd.d7 | apply Kd.d6 | apply Kd.eE));exact Kd.cZ (Kd.dL (p:=⟨gb357,2,none⟩) (Kd.dm HO362.out BK357.out (by decide)) (fun _ hk=>hk.2) (.bool t370)) (fun _ hk=>⟨hk.1.1,hk.1.2⟩)))⟩;have n1_:ak (Kd.Q (Kd.int .u8) 5 w26 w.heap.size (fun k_=>some k_≠(.slice Ao17 t359.length co17:Value).ownBlock∧some k_≠(v371:Value).ownBlock) (.slice Ao21 t364.length co21) t364):=⟨(by rw [hw];exact (by (with_reducible repeat (first | apply Kd.d7 | apply Kd.d6 | apply Kd.eE));exact Kd.cZ (Kd.dL (p:=⟨gb357,2,none⟩) (Kd.dm HO367.out BK357.out (by decide)) (fun _ hk=>hk.2) (.bool t370)) (fun _ hk=>⟨hk.1.1,hk.1.2⟩)))⟩;have n2_:ak (Kd.R (Kd.int .u8) 5 w26 w.heap.size (fun k_=>some k_≠(.slice Ao17 t359.length co17:Value).ownBlock∧some k_≠(.slice Ao21 t364.length co21:Value).ownBlock) v371 t369):=⟨(by rw [hw];exact (by (with_reducible repeat (first | apply Kd.bS | apply Kd.bO | apply Kd.bP));exact Kd.aH (Kd.fj (p:=⟨gb357,2,none⟩) (Kd.gK HO372.out BK357.out (by decide)) (fun _ hk=>hk.2) (.bool t370)) (fun _ hk=>⟨hk.1.1,hk.1.2⟩)))⟩;have n3_:ak (w26.heap[gb355]? = some (.cells #[.string (⟨#[]⟩:ByteArray),.string (⟨#[]⟩:ByteArray),.int .i64 0,.string (⟨#[]⟩:ByteArray),.bool false] 34 (0,0))):=⟨(by rw [hw];exact (by (with_reducible repeat (first | refine aA ?_ _ | refine au ?_ | refine ax ?_ _));refine dW ?_ NB355_357.out _;(with_reducible repeat (first | refine aA ?_ _ | refine au ?_ | refine ax ?_ _));exact BK355.out))⟩;have n4_:ak (w26.heap[gb356]? = some (.cells #[.string t358,.string t363,.int .i64 t368,.string (⟨#[]⟩:ByteArray),.bool false] 34 (0,0))):=⟨(by rw [hw];exact (by (with_reducible repeat (first | refine aA ?_ _ | refine au ?_ | refine ax ?_ _));refine dW ?_ NB356_357.out _;(with_reducible repeat (first | refine aA ?_ _ | refine au ?_ | refine ax ?_ _));exact BK356.out))⟩;have n5_:ak (w26.heap[gb357]? = some (.cells #[.bool t360,.bool t365,.bool t370,.bool false,.bool false] 149 (0,0))):=⟨(by rw [hw];exact (by (with_reducible repeat (first | refine aA ?_ _ | refine au ?_ | refine ax ?_ _));refine bn (cs:=#[.bool t360,.bool t365,.bool false,.bool false,.bool false]) ?_ 2 _ rfl;(with_reducible repeat (first | refine aA ?_ _ | refine au ?_ | refine ax ?_ _));exact BK357.out))⟩;have n6_:ak (Below w.heap.size w w26):=⟨(by rw [hw];exact ar)⟩;clear hw;clear HO362;clear HO367;clear HO372;clear BK355;clear BK356;clear BK357;clear HB;have HO362:=n0_;have HO367:=n1_;have HO372:=n2_;have BK355:=n3_;have BK356:=n4_;have BK357:=n5_;have HB:=n6_;clear n0_ n1_ n2_ n3_ n4_ n5_ n6_;obtain ⟨Ao27,co27,eo27⟩:=Kd.bq HO372.out;subst eo27) | ((with_reducible refine aC (f:=106) rfl ?_);refine bE (some 33) rfl rfl Tryz.func106 (by kernel_rfl) rfl #[.slice Ao27 t369.length co27] rfl cD ?_;(with_reducible refine (jC.calls (fun k_=>some k_=(.slice Ao27 t369.length co27:Value).ownBlock) (.slice Ao27 t369.length co27) t369 t373 t374 t377 w _ ?side1 ?side2 A5.out).mono ?_);(case side1=>repeat (first | (with_reducible first | exact HB.out | apply tQ | apply vD | apply jG | refine lF ?_ GE355.out | refine lF ?_ GE356.out | refine lF ?_ GE357.out) | exact HB.out));(case side2=>exact Kd.jJ rfl HO372.out);rintro e w28 ⟨v375,rfl,ho0,hb,hkp⟩;refine ⟨_,rfl,?_⟩;have n0_:=aS (tH (eB BK355.out) hkp (fun hs_=>(fun e_=>(Kd.jH HO372.out BK355.out (by decide)) e_) hs_));have n1_:=aS (tH (eB BK356.out) hkp (fun hs_=>(fun e_=>(Kd.jH HO372.out BK356.out (by decide)) e_) hs_));have n2_:=aS (tH (eB BK357.out) hkp (fun hs_=>(fun e_=>(Kd.jH HO372.out BK357.out (by decide)) e_) hs_));have n3_:=aS (Kd.cZ (ok':=fun k_=>some k_≠(.slice Ao21 t364.length co21:Value).ownBlock∧some k_≠(v375:Value).ownBlock) (Kd.zf (HO362.out) hkp (fun k_ hk_ hs_=>(hk_.2) hs_)) (fun k_ hk_=>⟨hk_.1.1,fun e_=>Or.elim (ho0.1 k_ e_.symm) (fun hs_=>hk_.2.1 hs_) (fun hn_=>Nat.not_le.2 hk_.2.2 hn_)⟩));have n4_:=aS (Kd.cZ (ok':=fun k_=>some k_≠(.slice Ao17 t359.length co17:Value).ownBlock∧some k_≠(v375:Value).ownBlock) (Kd.zf (HO367.out) hkp (fun k_ hk_ hs_=>(hk_.2) hs_)) (fun k_ hk_=>⟨hk_.1.1,fun e_=>Or.elim (ho0.1 k_ e_.symm) (fun hs_=>hk_.2.1 hs_) (fun hn_=>Nat.not_le.2 hk_.2.2 hn_)⟩));have n5_:=aS (Kd.cZ (ok':=fun k_=>some k_≠(.slice Ao17 t359.length co17:Value).ownBlock∧some k_≠(.slice Ao21 t364.length co21:Value).ownBlock) ho0 (fun k_ hk_=>⟨Or.elim hk_ (fun hs_=>fun e_=>(((HO362.out).1 k_ e_.symm).2) hs_) (fun hn_=>(Kd.gP (Kd.qD (by (with_reducible repeat (first | apply Kd.d7 | apply Kd.d6 | apply Kd.eE));exact HO362.out)) k_ hn_)),Or.elim hk_ (fun hs_=>fun e_=>(((HO367.out).1 k_ e_.symm).2) hs_) (fun hn_=>(Kd.gP (Kd.qD (by (with_reducible repeat (first | apply Kd.d7 | apply Kd.d6 | apply Kd.eE));exact HO367.out)) k_ hn_))⟩));have n6_:=aS (hb);clear BK355;clear BK356;clear BK357;clear HO362;clear HO367;clear HB;clear HO372;have BK355:=n0_;have BK356:=n1_;have BK357:=n2_;have HO362:=n3_;have HO367:=n4_;have HO376:=n5_;have HB:=n6_;clear n0_ n1_ n2_ n3_ n4_ n5_ n6_;(try clear hb);(try clear hkp);(try clear ho0);have hcz29:=cR BK356;have hcz30:=cR BK357;obtain ⟨Ao31,co31,eo31,_⟩:=Kd.qv HO376.out;subst eo31) | ((with_reducible refine aC (f:=105) rfl ?_);refine bE (some 41) rfl rfl Tryz.func105 (by kernel_rfl) rfl #[.slice Ao31 t374.length co31] rfl cD ?_;(with_reducible refine (eA.calls k _ _ t374 t378 t379 t380 _ ?side1 ?side2 A6.out).mono ?_);(case side1=>refine (Kd.js (e:=5) (base:=w.heap.size) (ok:=fun k_=>(some k_≠(.slice Ao17 t359.length co17:Value).ownBlock∧some k_≠(.slice Ao21 t364.length co21:Value).ownBlock)) (n:=t374.length) (c:=co31) ?_).2.2;exact (by (with_reducible repeat (first | apply Kd.d7 | apply Kd.d6 | apply Kd.eE));exact (Kd.cZ (Kd.cZ (Kd.dL (p:=⟨gb357,3,none⟩) (Kd.dL (p:=⟨gb356,4,none⟩) (Kd.dm (Kd.dm HO376.out BK356.out (by decide)) BK357.out (by decide)) (fun _ hk=>hk.1.2) (.bool t373)) (fun _ hk=>hk.2) (.bool t377)) (fun _ h_=>h_.1)) (fun _ h_=>h_.1))));(case side2=>exact (Kd.js HO376.out).2.1);rintro e w32 ⟨v381,rfl,ho0,hb⟩;refine ⟨_,rfl,?_⟩;have HO382:=aS (Kd.sn (Kd.rR (Kd.rR (Kd.rR ho0 (Kd.qD (by (with_reducible repeat (first | apply Kd.d7 | apply Kd.d6 | apply Kd.eE));exact (Kd.cZ (Kd.cZ (Kd.dL (p:=⟨gb357,3,none⟩) (Kd.dL (p:=⟨gb356,4,none⟩) (Kd.dm (Kd.dm HO362.out BK356.out (by decide)) BK357.out (by decide)) (fun _ hk=>hk.1.2) (.bool t373)) (fun _ hk=>hk.2) (.bool t377)) (fun _ h_=>h_.1)) (fun _ h_=>h_.1))))) (Kd.qD (by (with_reducible repeat (first | apply Kd.d7 | apply Kd.d6 | apply Kd.eE));exact (Kd.cZ (Kd.cZ (Kd.dL (p:=⟨gb357,3,none⟩) (Kd.dL (p:=⟨gb356,4,none⟩) (Kd.dm (Kd.dm HO367.out BK356.out (by decide)) BK357.out (by decide)) (fun _ hk=>hk.1.2) (.bool t373)) (fun _ hk=>hk.2) (.bool t377)) (fun _ h_=>h_.1)) (fun _ h_=>h_.1))))) (Kd.qD (by (with_reducible repeat (first | apply Kd.d7 | apply Kd.d6 | apply Kd.eE));exact (Kd.cZ (Kd.cZ (Kd.dL (p:=⟨gb357,3,none⟩) (Kd.dL (p:=⟨gb356,4,none⟩) (Kd.dm (Kd.dm HO376.out BK356.out (by decide)) BK357.out (by decide)) (fun _ hk=>hk.1.2) (.bool t373)) (fun _ hk=>hk.2) (.bool t377)) (fun _ h_=>h_.1)) (fun _ h_=>h_.1))))) (ay ar));replace HO362:=aS (Kd.mr (by (with_reducible repeat (first | apply Kd.d7 | apply Kd.d6 | apply Kd.eE));exact (Kd.cZ (Kd.cZ (Kd.dL (p:=⟨gb357,3,none⟩) (Kd.dL (p:=⟨gb356,4,none⟩) (Kd.dm (Kd.dm HO362.out BK356.out (by decide)) BK357.out (by decide)) (fun _ hk=>hk.1.2) (.bool t373)) (fun _ hk=>hk.2) (.bool t377)) (fun _ h_=>h_.1)) (fun _ h_=>h_.1))) (by first | exact Kd.rF ho0 | exact Kd.kL ho0 | exact Kd.fF ho0 | exact Kd.V_base ho0) hb);replace HO367:=aS (Kd.mr (by (with_reducible repeat (first | apply Kd.d7 | apply Kd.d6 | apply Kd.eE));exact (Kd.cZ (Kd.cZ (Kd.dL (p:=⟨gb357,3,none⟩) (Kd.dL (p:=⟨gb356,4,none⟩) (Kd.dm (Kd.dm HO367.out BK356.out (by decide)) BK357.out (by decide)) (fun _ hk=>hk.1.2) (.bool t373)) (fun _ hk=>hk.2) (.bool t377)) (fun _ h_=>h_.1)) (fun _ h_=>h_.1))) (by first | exact Kd.rF ho0 | exact Kd.kL ho0 | exact Kd.fF ho0 | exact Kd.V_base ho0) hb);replace HO376:=aS (Kd.mr (by (with_reducible repeat (first | apply Kd.d7 | apply Kd.d6 | apply Kd.eE));exact (Kd.cZ (Kd.cZ (Kd.dL (p:=⟨gb357,3,none⟩) (Kd.dL (p:=⟨gb356,4,none⟩) (Kd.dm (Kd.dm HO376.out BK356.out (by decide)) BK357.out (by decide)) (fun _ hk=>hk.1.2) (.bool t373)) (fun _ hk=>hk.2) (.bool t377)) (fun _ h_=>h_.1)) (fun _ h_=>h_.1))) (by first | exact Kd.rF ho0 | exact Kd.kL ho0 | exact Kd.fF ho0 | exact Kd.V_base ho0) hb);replace BK355:=aS (aK (g:=gb355) (o:=.cells #[.string (⟨#[]⟩:ByteArray),.string (⟨#[]⟩:ByteArray),.int .i64 0,.string (⟨#[]⟩:ByteArray),.bool false] 34 (0,0)) (by (with_reducible repeat (first | refine aA ?_ _ | refine au ?_ | refine ax ?_ _));refine dW ?_ NB355_357.out _;(with_reducible repeat (first | refine aA ?_ _ | refine au ?_ | refine ax ?_ _));refine dW ?_ NB355_356.out _;(with_reducible repeat (first | refine aA ?_ _ | refine au ?_ | refine ax ?_ _));exact BK355.out) hb);replace BK356:=aS (aK (g:=gb356) (o:=.cells #[.string t358,.string t363,.int .i64 t368,.string (⟨#[]⟩:ByteArray),.bool t373] 34 (0,0)) (by (with_reducible repeat (first | refine aA ?_ _ | refine au ?_ | refine ax ?_ _));refine dW ?_ NB356_357.out _;(with_reducible repeat (first | refine aA ?_ _ | refine au ?_ | refine ax ?_ _));refine bn (cs:=#[.string t358,.string t363,.int .i64 t368,.string (⟨#[]⟩:ByteArray),.bool false]) ?_ 4 _ rfl;(with_reducible repeat (first | refine aA ?_ _ | refine au ?_ | refine ax ?_ _));exact BK356.out) hb);replace BK357:=aS (aK (g:=gb357) (o:=.cells #[.bool t360,.bool t365,.bool t370,.bool t377,.bool false] 149 (0,0)) (by (with_reducible repeat (first | refine aA ?_ _ | refine au ?_ | refine ax ?_ _));refine bn (cs:=#[.bool t360,.bool t365,.bool t370,.bool false,.bool false]) ?_ 3 _ rfl;(with_reducible repeat (first | refine aA ?_ _ | refine au ?_ | refine ax ?_ _));refine dW ?_ NB357_356.out _;(with_reducible repeat (first | refine aA ?_ _ | refine au ?_ | refine ax ?_ _));exact BK357.out) hb);replace HB:=aM hb;(try clear hb);(try clear hk);(try clear hi);(try clear ho0);have hcz33:=cR BK356;have hcz34:=cR BK357))
 (try simp only [Act.put,dw,dx,lss])
 go_cut [54] (fun v54 wc=>∃ (kq:Nat) (x54_6:Bool),v54 = .bool x54_6∧ak (d9.j0 kq t379 x54_6 t358 t363 t368 t378 t373=some (r1,r2,r3,r4,r5,r6,r7))∧ak (kq≤k)∧ak (Kd.Q (Kd.int .u8) 5 wc w.heap.size (fun _=>True) v381 t379)∧ak (wc.heap[gb355]? = some (.cells #[.string (⟨#[]⟩:ByteArray),.string (⟨#[]⟩:ByteArray),.int .i64 0,.string (⟨#[]⟩:ByteArray),.bool false] 34 (0,0)))∧ak (wc.heap[gb356]? = some (.cells #[.string t358,.string t363,.int .i64 t368,.string t378,.bool t373] 34 (0,0)))∧ak (wc.heap[gb357]? = some (.cells #[.bool t360,.bool t365,.bool t370,.bool t377,.bool t380] 149 (0,0)))∧ak (Below w.heap.size w wc))
 case first=>
  have H:=HC7.out;clear HC7
  by_cases c35:(!t360 || (!t365 || (!t370 || (!t377 || (!t380)))))=true
  ·
   rw [if_pos c35] at H;have c35b0:(!t360 || (!t365 || (!t370 || (!t377 || (!t380)))))=true:=c35;clear c35
   (first | rw [c35b0] | (simp only [bC,cm];rw [c35b0]) | skip)
   have H':=aS H
   clear H;have hnb36:=NB357_355.out;have hnc36:=NB355_357.out;have hnb37:=NB357_356.out;have hnc37:=NB356_357.out;have hcz38:=cR BK357
   go_wp2
   go_meet
   case rel=>exact ⟨_,(true),dU,H',⟨by first | omega | exact Nat.le_refl _⟩,⟨by (with_reducible repeat (first | apply Kd.d7 | apply Kd.d6 | apply Kd.eE));exact Kd.cZ (Kd.dL (p:=⟨gb357,4,none⟩) (Kd.dL (p:=⟨gb356,3,none⟩) (Kd.dm (Kd.dm HO382.out BK356.out (by decide)) BK357.out (by decide)) (fun _ hk=>hk.1.2) (.string t378)) (fun _ hk=>hk.2) (.bool t380)) (fun _ hk=>trivial)⟩,⟨by (with_reducible repeat (first | refine aA ?_ _ | refine au ?_ | refine ax ?_ _));refine dW ?_ NB355_357.out _;(with_reducible repeat (first | refine aA ?_ _ | refine au ?_ | refine ax ?_ _));refine dW ?_ NB355_356.out _;(with_reducible repeat (first | refine aA ?_ _ | refine au ?_ | refine ax ?_ _));exact BK355.out⟩,⟨by (with_reducible repeat (first | refine aA ?_ _ | refine au ?_ | refine ax ?_ _));refine dW ?_ NB356_357.out _;(with_reducible repeat (first | refine aA ?_ _ | refine au ?_ | refine ax ?_ _));refine bn (cs:=#[.string t358,.string t363,.int .i64 t368,.string (⟨#[]⟩:ByteArray),.bool t373]) ?_ 3 _ rfl;(with_reducible repeat (first | refine aA ?_ _ | refine au ?_ | refine ax ?_ _));exact BK356.out⟩,⟨by (with_reducible repeat (first | refine aA ?_ _ | refine au ?_ | refine ax ?_ _));refine bn (cs:=#[.bool t360,.bool t365,.bool t370,.bool t377,.bool false]) ?_ 4 _ rfl;(with_reducible repeat (first | refine aA ?_ _ | refine au ?_ | refine ax ?_ _));refine dW ?_ NB357_356.out _;(with_reducible repeat (first | refine aA ?_ _ | refine au ?_ | refine ax ?_ _));exact BK357.out⟩,⟨ar⟩⟩
  ·
   rw [if_neg c35] at H
   have c35b0:(!t360 || (!t365 || (!t370 || (!t377 || (!t380)))))=false:=by simpa using c35
   clear c35
   (first | rw [c35b0] | (simp only [bC,cm];rw [c35b0]) | skip)
   replace H:=bV H;obtain ⟨t383,A390,H⟩:=H;have A39:=aS A390;clear A390
   have H':=aS H
   clear H;have hnb40:=NB357_355.out;have hnc40:=NB355_357.out;have hnb41:=NB357_356.out;have hnc41:=NB356_357.out;have hcz42:=cR BK357;have hnb43:=NB356_355.out;have hnc43:=NB355_356.out;have hcz44:=cR BK356
   go_wp2_with (first | (go_at_call 27;(with_reducible refine (eP.calls t358 t363 t368 t378 t373 t383 _ A39.out).mono ?_);rintro e w45 ⟨rfl,hb⟩;replace HO362:=aS (Kd.mz (by (with_reducible repeat (first | apply Kd.d7 | apply Kd.d6 | apply Kd.eE));exact (Kd.cZ (Kd.cZ (Kd.dL (p:=⟨gb357,4,none⟩) (Kd.dL (p:=⟨gb356,3,none⟩) (Kd.dm (Kd.dm HO362.out BK356.out (by decide)) BK357.out (by decide)) (fun _ hk=>hk.1.2) (.string t378)) (fun _ hk=>hk.2) (.bool t380)) (fun _ h_=>h_.1)) (fun _ h_=>h_.1))) hb);replace HO367:=aS (Kd.mz (by (with_reducible repeat (first | apply Kd.d7 | apply Kd.d6 | apply Kd.eE));exact (Kd.cZ (Kd.cZ (Kd.dL (p:=⟨gb357,4,none⟩) (Kd.dL (p:=⟨gb356,3,none⟩) (Kd.dm (Kd.dm HO367.out BK356.out (by decide)) BK357.out (by decide)) (fun _ hk=>hk.1.2) (.string t378)) (fun _ hk=>hk.2) (.bool t380)) (fun _ h_=>h_.1)) (fun _ h_=>h_.1))) hb);replace HO376:=aS (Kd.mz (by (with_reducible repeat (first | apply Kd.d7 | apply Kd.d6 | apply Kd.eE));exact (Kd.cZ (Kd.cZ (Kd.dL (p:=⟨gb357,4,none⟩) (Kd.dL (p:=⟨gb356,3,none⟩) (Kd.dm (Kd.dm HO376.out BK356.out (by decide)) BK357.out (by decide)) (fun _ hk=>hk.1.2) (.string t378)) (fun _ hk=>hk.2) (.bool t380)) (fun _ h_=>h_.1)) (fun _ h_=>h_.1))) hb);replace HO382:=aS (Kd.mz (by (with_reducible repeat (first | apply Kd.d7 | apply Kd.d6 | apply Kd.eE));exact (Kd.cZ (Kd.cZ (Kd.dL (p:=⟨gb357,4,none⟩) (Kd.dL (p:=⟨gb356,3,none⟩) (Kd.dm (Kd.dm HO382.out BK356.out (by decide)) BK357.out (by decide)) (fun _ hk=>hk.1.2) (.string t378)) (fun _ hk=>hk.2) (.bool t380)) (fun _ h_=>h_.1)) (fun _ h_=>h_.1))) hb);replace BK355:=aS (aK (g:=gb355) (o:=.cells #[.string (⟨#[]⟩:ByteArray),.string (⟨#[]⟩:ByteArray),.int .i64 0,.string (⟨#[]⟩:ByteArray),.bool false] 34 (0,0)) (by (with_reducible repeat (first | refine aA ?_ _ | refine au ?_ | refine ax ?_ _));refine dW ?_ NB355_357.out _;(with_reducible repeat (first | refine aA ?_ _ | refine au ?_ | refine ax ?_ _));refine dW ?_ NB355_356.out _;(with_reducible repeat (first | refine aA ?_ _ | refine au ?_ | refine ax ?_ _));exact BK355.out) hb);replace BK356:=aS (aK (g:=gb356) (o:=.cells #[.string t358,.string t363,.int .i64 t368,.string t378,.bool t373] 34 (0,0)) (by (with_reducible repeat (first | refine aA ?_ _ | refine au ?_ | refine ax ?_ _));refine dW ?_ NB356_357.out _;(with_reducible repeat (first | refine aA ?_ _ | refine au ?_ | refine ax ?_ _));refine bn (cs:=#[.string t358,.string t363,.int .i64 t368,.string (⟨#[]⟩:ByteArray),.bool t373]) ?_ 3 _ rfl;(with_reducible repeat (first | refine aA ?_ _ | refine au ?_ | refine ax ?_ _));exact BK356.out) hb);replace BK357:=aS (aK (g:=gb357) (o:=.cells #[.bool t360,.bool t365,.bool t370,.bool t377,.bool t380] 149 (0,0)) (by (with_reducible repeat (first | refine aA ?_ _ | refine au ?_ | refine ax ?_ _));refine bn (cs:=#[.bool t360,.bool t365,.bool t370,.bool t377,.bool false]) ?_ 4 _ rfl;(with_reducible repeat (first | refine aA ?_ _ | refine au ?_ | refine ax ?_ _));refine dW ?_ NB357_356.out _;(with_reducible repeat (first | refine aA ?_ _ | refine au ?_ | refine ax ?_ _));exact BK357.out) hb);replace HB:=aM hb;(try clear hb);(try clear hk);(try clear hi)))
   go_meet
   case rel=>exact ⟨_,(!t383),dU,H',⟨by first | omega | exact Nat.le_refl _⟩,⟨by (with_reducible repeat (first | apply Kd.d7 | apply Kd.d6 | apply Kd.eE));exact Kd.cZ HO382.out (fun _ hk=>trivial)⟩,⟨eB BK355.out⟩,⟨eB BK356.out⟩,⟨eB BK357.out⟩,⟨ar⟩⟩
 case rest=>
  clear HC7;(try clear hcz14);(try clear hcz16);(try clear hcz19);(try clear hcz20);(try clear hcz23);(try clear hcz25);(try clear hcz29);(try clear hcz30);(try clear hcz33);(try clear hcz34);obtain ⟨kq,x54_6,rfl,HA,HJ6,HO_0,BK355,BK356,BK357,HB⟩:=hcut
  cases kq with
  | zero=>exact absurd HA.out (by simp [d9.j0])
  | succ kj6=>
   have H:=HA.out;clear HA
   simp only [d9.j0] at H
   by_cases c46:x54_6=true
   ·
    subst c46
    replace H:=jQ H
    simp only [Option.some.injEq,Prod.mk.injEq] at H
    obtain ⟨rfl,rfl,rfl,rfl,rfl,rfl,rfl⟩:=H;have hnb47:=NB355_356.out;have hnc47:=NB356_355.out;have hnb48:=NB355_357.out;have hnc48:=NB357_355.out;have hcz49:=cR BK355
    go_wp2
    refine bodyPost_ret (sR rfl _ _ gb355 34 #[.string (⟨#[]⟩:ByteArray),.string (⟨#[]⟩:ByteArray),.int .i64 0,.string (⟨#[]⟩:ByteArray),.bool false] (0,0) _ rfl (by (with_reducible repeat (first | refine aA ?_ _ | refine au ?_ | refine ax ?_ _));refine bn (cs:=#[.string (⟨#[]⟩:ByteArray),.string (⟨#[]⟩:ByteArray),.int .i64 0,.string (⟨#[]⟩:ByteArray),.bool false]) ?_ 4 _ rfl;(with_reducible repeat (first | refine aA ?_ _ | refine au ?_ | refine ax ?_ _));refine bn (cs:=#[.string (⟨#[]⟩:ByteArray),.string (⟨#[]⟩:ByteArray),.int .i64 0,.string (⟨#[]⟩:ByteArray),.bool false]) ?_ 3 _ rfl;(with_reducible repeat (first | refine aA ?_ _ | refine au ?_ | refine ax ?_ _));refine bn (cs:=#[.string (⟨#[]⟩:ByteArray),.string (⟨#[]⟩:ByteArray),.int .i64 0,.string (⟨#[]⟩:ByteArray),.bool false]) ?_ 2 _ rfl;(with_reducible repeat (first | refine aA ?_ _ | refine au ?_ | refine ax ?_ _));refine bn (cs:=#[.string (⟨#[]⟩:ByteArray),.string (⟨#[]⟩:ByteArray),.int .i64 0,.string (⟨#[]⟩:ByteArray),.bool false]) ?_ 1 _ rfl;(with_reducible repeat (first | refine aA ?_ _ | refine au ?_ | refine ax ?_ _));refine bn (cs:=#[.string (⟨#[]⟩:ByteArray),.string (⟨#[]⟩:ByteArray),.int .i64 0,.string (⟨#[]⟩:ByteArray),.bool false]) ?_ 0 _ rfl;(with_reducible repeat (first | refine aA ?_ _ | refine au ?_ | refine ax ?_ _));exact BK355.out) Tryz.underlying34 rfl (by kernel_rfl)) rfl ?_;exact ⟨_,dN,Kd.lu (by first | exact Kd.dX _ _ _ _ _ | exact Kd.gy _ _ _ _ _ | exact Kd.fN _ _ _ _ _ | exact Kd.gB _ _ _ _ _ | exact Kd.gA _ _ _ _ _),ar⟩
   ·
    replace c46:=Bool.eq_false_iff.mpr c46;subst c46
    replace H:=jO H
    simp only [Option.some.injEq,Prod.mk.injEq] at H
    obtain ⟨rfl,rfl,rfl,rfl,rfl,rfl,rfl⟩:=H;have hnb50:=NB356_355.out;have hnc50:=NB355_356.out;have hnb51:=NB356_357.out;have hnc51:=NB357_356.out;have hcz52:=cR BK356;have hnb53:=NB355_357.out;have hnc53:=NB357_355.out;have hcz54:=cR BK355
    go_wp2
    refine bodyPost_ret (sR rfl _ _ gb355 34 #[.string t358,.string t363,.int .i64 t368,.string t378,.bool t373] (0,0) _ rfl (by (with_reducible repeat (first | refine aA ?_ _ | refine au ?_ | refine ax ?_ _));refine bn (cs:=#[.string t358,.string t363,.int .i64 t368,.string t378,.bool false]) ?_ 4 _ rfl;(with_reducible repeat (first | refine aA ?_ _ | refine au ?_ | refine ax ?_ _));refine bn (cs:=#[.string t358,.string t363,.int .i64 t368,.string (⟨#[]⟩:ByteArray),.bool false]) ?_ 3 _ rfl;(with_reducible repeat (first | refine aA ?_ _ | refine au ?_ | refine ax ?_ _));refine bn (cs:=#[.string t358,.string t363,.int .i64 0,.string (⟨#[]⟩:ByteArray),.bool false]) ?_ 2 _ rfl;(with_reducible repeat (first | refine aA ?_ _ | refine au ?_ | refine ax ?_ _));refine bn (cs:=#[.string t358,.string (⟨#[]⟩:ByteArray),.int .i64 0,.string (⟨#[]⟩:ByteArray),.bool false]) ?_ 1 _ rfl;(with_reducible repeat (first | refine aA ?_ _ | refine au ?_ | refine ax ?_ _));refine bn (cs:=#[.string (⟨#[]⟩:ByteArray),.string (⟨#[]⟩:ByteArray),.int .i64 0,.string (⟨#[]⟩:ByteArray),.bool false]) ?_ 0 _ rfl;(with_reducible repeat (first | refine aA ?_ _ | refine au ?_ | refine ax ?_ _));exact BK355.out) Tryz.underlying34 rfl (by kernel_rfl)) rfl ?_;exact ⟨_,dN,by (with_reducible repeat (first | apply Kd.d7 | apply Kd.d6 | apply Kd.eE));exact Kd.cZ (Kd.dL (p:=⟨gb355,4,none⟩) (Kd.dL (p:=⟨gb355,3,none⟩) (Kd.dL (p:=⟨gb355,2,none⟩) (Kd.dL (p:=⟨gb355,1,none⟩) (Kd.dL (p:=⟨gb355,0,none⟩) (Kd.dm HO_0.out BK355.out (by decide)) (fun _ hk=>hk.2) (.string t358)) (fun _ hk=>hk.2) (.string t363)) (fun _ hk=>hk.2) (.int .i64 t368)) (fun _ hk=>hk.2) (.string t378)) (fun _ hk=>hk.2) (.bool t373)) (fun _ hk=>trivial),ar⟩
def cV.l0:Nat→List Int→Int→Bool→List (av)→Option ((List (av)) × Bool)
 | 0,_,_,_,_=>none
 | k+1,x0,x4,x5,x6=>if x5=true then (if x4 > 0 then ((d9.f k x0).bind fun bt390=>(if x6.length<2199023255552 then (cV.l0 k bt390.2.2.2.2.2.1 (wrap64 (x4 - 1)) bt390.2.2.2.2.2.2 (x6++[(⟨bt390.1,bt390.2.1,bt390.2.2.1,bt390.2.2.2.1,bt390.2.2.2.2.1⟩:av)])) else (none))) else (some (x6,((x0.length:Int) == 0)))) else (some (x6,false))
def cV.f (k:Nat) (l0:List Int):Option ((List (av)) × Bool):=(bw.f k l0).bind fun bt384=>(cV.l0 k bt384.2.1 bt384.1 bt384.2.2 ([]:List (av)))
theorem cV.cP:∀ k,(∀ y0 y1 y2 y3,aE (cV.l0 k y0 y1 y2 y3) (cV.l0 (k+1) y0 y1 y2 y3))
 | 0=>fun _ _ _ _ r h=>by simp [cV.l0] at h
 | k+1=>by
  have ih0:=cV.cP k
  ·
   intro y0 y1 y2 y3
   unfold cV.l0
   have m0:=@d9.mono;have m1:=@bw.mono;exact e8
theorem cV.mono:∀ a0 k,aE (cV.f k a0) (cV.f (k+1) a0):=by
 intro a0 k
 have ih0:=cV.cP k
 unfold cV.f
 have m0:=@d9.mono;have m1:=@bw.mono;exact e8
theorem cV.calls (k:Nat) (A0:Option Addr) (c0:Nat) (l0:List Int) (r1:List (av)) (r2:Bool) (w:World) (hr0:Kd.C (Kd.int .u8) w A0 l0.length l0) (hc0:l0.length≤c0) (h:cV.f k l0=some (r1,r2)) :
  Calls Tryz.prog 94 #[.slice A0 l0.length c0] w fun e w'=>∃ v0_:Value,e = .returned (.tuple #[v0_,.bool r2])∧Kd.R cC 34 w' w.heap.size (fun _=>True) v0_ r1∧Below w.heap.size w w':=by
 have hu34:=Tryz.underlying34;have HR0:=aS hr0;have HC0:=aS hc0;clear hr0 hc0;have HB:=aS (Below.refl w.heap.size w);have H:((bw.f k l0).bind fun bt384=>(cV.l0 k bt384.2.1 bt384.1 bt384.2.2 ([]:List (av))))=some (r1,r2):=h;clear h;replace H:=bV H;obtain ⟨⟨t384,t385,t386⟩,A20,H⟩:=H;(try dsimp only at H);have A2:=aS A20;clear A20
 have H':=aS H
 clear H
 go_enter Tryz.func94,Tryz.ntmps94
 go_wp2_with (first | ((with_reducible refine aC (f:=71) rfl ?_);refine bE (some 10) rfl rfl Tryz.func71 (by kernel_rfl) rfl #[.slice A0 l0.length c0] rfl cD ?_;(with_reducible refine (bw.calls k _ _ l0 t384 t385 t386 _ ?side1 ?side2 A2.out).mono ?_);(case side1=>exact eN HR0.out);(case side2=>exact HC0.out);rintro e w3 ⟨v387,rfl,ho0,hb⟩;refine ⟨_,rfl,?_⟩;have HO388:=aS (Kd.bf ho0 (ay ar));replace HB:=aM hb;(try clear hb);(try clear hk);(try clear hi);(try clear ho0)))
 go_loopg [0,4,5,6] k (fun kq v0 v4 v5 v6 w'=>∃ (x0_1:List Int) (x4_1:Int) (x5_1:Bool) (x6_1:List (av)),v4 = .int .i64 x4_1∧v5 = .bool x5_1∧ak (cV.l0 kq x0_1 x4_1 x5_1 x6_1=some (r1,r2))∧ak (kq≤k)∧ak (Kd.Q (Kd.int .u8) 5 w' w.heap.size (fun _=>True) v0 x0_1)∧ak (Kd.R cC 34 w' w.heap.size (fun _=>True) v6 x6_1)∧ak (Below w.heap.size w w'))
 case atStart=>exact ⟨(t385),(t384),(t386),(([]:List (av))),dU,dU,H',⟨Nat.le_refl _⟩,⟨Kd.lu (rel HO388.out)⟩,⟨by first | exact Kd.dX _ _ _ _ _ | exact Kd.gy _ _ _ _ _ | exact Kd.fN _ _ _ _ _ | exact Kd.gB _ _ _ _ _ | exact Kd.gA _ _ _ _ _⟩,⟨ar⟩⟩
 case round=>
  clear H';obtain ⟨x0_1,x4_1,x5_1,x6_1,rfl,rfl,HA,HK1,HO_0,HO_6,HB⟩:=hrel
  cases gk with
  | zero=>exact absurd HA.out (by simp [cV.l0])
  | succ k1=>
   have H:=HA.out;clear HA
   simp only [cV.l0] at H
   by_cases c4:x5_1=true
   ·
    subst c4
    replace H:=jQ H
    by_cases c5:x4_1 > 0
    ·
     rw [if_pos c5] at H;have c5b0:decide (0<x4_1)=true:=decide_eq_true c5;clear c5;replace H:=bV H;obtain ⟨⟨t390,t391,t392,t393,t394,t395,t398⟩,A60,H⟩:=H;(try dsimp only at H);have A6:=aS A60;clear A60
     by_cases c7:x6_1.length<2199023255552
     ·
      rw [if_pos c7] at H;have LMc7:=aS c7;clear c7
      obtain ⟨y399,hy399⟩:∃ y_:List (av),y_=(x6_1++[(⟨t390,t391,t392,t393,t394⟩:av)]):=⟨_,rfl⟩
      (first | replace H:=j8 hy399 H | rw [←hy399] at H);have Ny399:=aS hy399;clear hy399
      have H':=aS H
      clear H
      go_wp2_with (first | ((with_reducible refine aX (N:=7) rfl ?_);(try (refine eF (by rfl) ?_;dsimp only));refine aY ?hg (N:=7) ?hd (cs:=#[.string (⟨#[]⟩:ByteArray),.string (⟨#[]⟩:ByteArray),.int .i64 0,.string (⟨#[]⟩:ByteArray),.bool false]) (t:=34) ?hr ?_;(case hd=>rfl);(case hg=>rfl);(case hr=>first | (go_simp;done) | (go_simp;rfl));intro gb389 hg w8 hbox hb;replace HO_0:=aS (Kd.mz (by (with_reducible repeat (first | apply Kd.d7 | apply Kd.d6 | apply Kd.eE));exact HO_0.out) hb);replace HO_6:=aS (Kd.dA (Kd.CN (rel HO_6.out) gb389 (Nat.le_of_eq hg.symm)) hb);have BK389:=aS (hbox);have GW389:=bsize hg;have GE389:=bsize hg;replace HB:=aM hb;clear hb hbox hg;obtain ⟨Ao9,co9,eo9,_⟩:=Kd.qv HO_0.out;subst eo9) | ((with_reducible refine aC (f:=103) rfl ?_);refine bE (some 23) rfl rfl Tryz.func103 (by kernel_rfl) rfl #[.slice Ao9 x0_1.length co9] rfl cD ?_;(with_reducible refine (d9.calls k1 _ _ x0_1 t390 t391 t392 t393 t394 t395 t398 _ ?side1 ?side2 A6.out).mono ?_);(case side1=>exact eN ((Kd.js HO_0.out).2.2));(case side2=>exact (Kd.js HO_0.out).2.1);rintro e w10 ⟨v396,rfl,ho0,hb⟩;refine ⟨_,rfl,?_⟩;replace HO_6:=aS (Kd.dA (rel HO_6.out) hb);have HO397:=aS (Kd.sn (Kd.rR ho0 (Kd.qD (by (with_reducible repeat (first | apply Kd.d7 | apply Kd.d6 | apply Kd.eE));exact HO_0.out))) (ay ar));replace HO_0:=aS (Kd.mr (by (with_reducible repeat (first | apply Kd.d7 | apply Kd.d6 | apply Kd.eE));exact HO_0.out) (by first | exact Kd.rF ho0 | exact Kd.kL ho0 | exact Kd.fF ho0 | exact Kd.V_base ho0) hb);replace BK389:=fA BK389 hb;replace HB:=aM hb;(try clear hb);(try clear hk);(try clear hi);(try clear ho0);have hcz11:=cR BK389) | ((with_reducible refine eZ (b:=.append) (xs:=#[.tmp 27,.tmp 29]) rfl ?_);(try (refine eF (by rfl) ?_;dsimp only));at_builtin;refine Kd.gC cC (w0:=w) w.heap.size rfl (.tmp 27) (.tmp 29) 32 34 (.agg #[(.string ⟨#[]⟩),(.string ⟨#[]⟩),(.int .i64 0),(.string ⟨#[]⟩),(.bool false)]) 64 rfl Tryz.underlying32 fe rfl (by decide) (by omega) u6 x6_1 (⟨t390,t391,t392,t393,t394⟩:av) [.string t390,.string t391,.int .i64 t392,.string t393,.bool t394] (fun k_=>k_≠gb389) (fun _=>False) rfl (by first | (go_simp;done) | (go_simp;rfl)) ?aP (fun _ hk=>hk.elim) ?aF ?aO ?aB ?aS ?aL ?_;(case aP=>exact jx _ _ _ (⟨t390,t391,t392,t393,t394⟩:av));(case aB=>exact ar);(case aF=>exact (fun k_ hk=>Kd.nQ (g:=gb389) (o:=.cells #[.string t390,.string t391,.int .i64 t392,.string t393,.bool t394] 34 (0,0)) (by (with_reducible repeat (first | refine aA ?_ _ | refine au ?_ | refine ax ?_ _));refine bn (cs:=#[.string t390,.string t391,.int .i64 t392,.string t393,.bool false]) ?_ 4 _ rfl;(with_reducible repeat (first | refine aA ?_ _ | refine au ?_ | refine ax ?_ _));refine bn (cs:=#[.string t390,.string t391,.int .i64 t392,.string (⟨#[]⟩:ByteArray),.bool false]) ?_ 3 _ rfl;(with_reducible repeat (first | refine aA ?_ _ | refine au ?_ | refine ax ?_ _));refine bn (cs:=#[.string t390,.string t391,.int .i64 0,.string (⟨#[]⟩:ByteArray),.bool false]) ?_ 2 _ rfl;(with_reducible repeat (first | refine aA ?_ _ | refine au ?_ | refine ax ?_ _));refine bn (cs:=#[.string t390,.string (⟨#[]⟩:ByteArray),.int .i64 0,.string (⟨#[]⟩:ByteArray),.bool false]) ?_ 1 _ rfl;(with_reducible repeat (first | refine aA ?_ _ | refine au ?_ | refine ax ?_ _));refine bn (cs:=#[.string (⟨#[]⟩:ByteArray),.string (⟨#[]⟩:ByteArray),.int .i64 0,.string (⟨#[]⟩:ByteArray),.bool false]) ?_ 0 _ rfl;(with_reducible repeat (first | refine aA ?_ _ | refine au ?_ | refine ax ?_ _));exact BK389.out) k_ hk));(case aO=>exact (by (with_reducible repeat (first | apply Kd.bS | apply Kd.bO | apply Kd.bP));exact Kd.aH (Kd.fj (p:=⟨gb389,4,none⟩) (Kd.fj (p:=⟨gb389,3,none⟩) (Kd.fj (p:=⟨gb389,2,none⟩) (Kd.fj (p:=⟨gb389,1,none⟩) (Kd.fj (p:=⟨gb389,0,none⟩) (Kd.aH HO_6.out (fun k_ hk=>(⟨hk,hk.2⟩:_∧k_≠gb389))) (fun _ hk=>hk.2) (.string t390)) (fun _ hk=>hk.2) (.string t391)) (fun _ hk=>hk.2) (.int .i64 t392)) (fun _ hk=>hk.2) (.string t393)) (fun _ hk=>hk.2) (.bool t394)) (fun _ hk=>hk.1.2)));(case aS=>exact (ay ar));(case aL=>have:=LMc7.out;omega);intro v400 w12 ho hb hg hat;rw [←Ny399.out] at ho;have n0_:=aS (Kd.zu (by (with_reducible repeat (first | apply Kd.d7 | apply Kd.d6 | apply Kd.eE));exact (Kd.cZ (Kd.dL (p:=⟨gb389,4,none⟩) (Kd.dL (p:=⟨gb389,3,none⟩) (Kd.dL (p:=⟨gb389,2,none⟩) (Kd.dL (p:=⟨gb389,1,none⟩) (Kd.dL (p:=⟨gb389,0,none⟩) (Kd.dm HO_0.out BK389.out (by decide)) (fun _ hk=>hk.2) (.string t390)) (fun _ hk=>hk.2) (.string t391)) (fun _ hk=>hk.2) (.int .i64 t392)) (fun _ hk=>hk.2) (.string t393)) (fun _ hk=>hk.2) (.bool t394)) (fun _ h_=>h_.1))) (Kd.gn (by (with_reducible repeat (first | apply Kd.bS | apply Kd.bO | apply Kd.bP));exact (Kd.aH (Kd.fj (p:=⟨gb389,4,none⟩) (Kd.fj (p:=⟨gb389,3,none⟩) (Kd.fj (p:=⟨gb389,2,none⟩) (Kd.fj (p:=⟨gb389,1,none⟩) (Kd.fj (p:=⟨gb389,0,none⟩) (Kd.aH HO_6.out (fun k_ hk=>(⟨hk,hk.2⟩:_∧k_≠gb389))) (fun _ hk=>hk.2) (.string t390)) (fun _ hk=>hk.2) (.string t391)) (fun _ hk=>hk.2) (.int .i64 t392)) (fun _ hk=>hk.2) (.string t393)) (fun _ hk=>hk.2) (.bool t394)) (fun _ h_=>h_.1)))) (by decide) hg);have n1_:=aS (er (g:=gb389) (o:=.cells #[.string t390,.string t391,.int .i64 t392,.string t393,.bool t394] 34 (0,0)) (by (with_reducible repeat (first | refine aA ?_ _ | refine au ?_ | refine ax ?_ _));refine bn (cs:=#[.string t390,.string t391,.int .i64 t392,.string t393,.bool false]) ?_ 4 _ rfl;(with_reducible repeat (first | refine aA ?_ _ | refine au ?_ | refine ax ?_ _));refine bn (cs:=#[.string t390,.string t391,.int .i64 t392,.string (⟨#[]⟩:ByteArray),.bool false]) ?_ 3 _ rfl;(with_reducible repeat (first | refine aA ?_ _ | refine au ?_ | refine ax ?_ _));refine bn (cs:=#[.string t390,.string t391,.int .i64 0,.string (⟨#[]⟩:ByteArray),.bool false]) ?_ 2 _ rfl;(with_reducible repeat (first | refine aA ?_ _ | refine au ?_ | refine ax ?_ _));refine bn (cs:=#[.string t390,.string (⟨#[]⟩:ByteArray),.int .i64 0,.string (⟨#[]⟩:ByteArray),.bool false]) ?_ 1 _ rfl;(with_reducible repeat (first | refine aA ?_ _ | refine au ?_ | refine ax ?_ _));refine bn (cs:=#[.string (⟨#[]⟩:ByteArray),.string (⟨#[]⟩:ByteArray),.int .i64 0,.string (⟨#[]⟩:ByteArray),.bool false]) ?_ 0 _ rfl;(with_reducible repeat (first | refine aA ?_ _ | refine au ?_ | refine ax ?_ _));exact BK389.out) hg (Kd.qp HO_6.out (fun _ hk=>hk.2)));have n2_:=aS (Kd.zu (by (with_reducible repeat (first | apply Kd.d7 | apply Kd.d6 | apply Kd.eE));exact (Kd.cZ (Kd.dL (p:=⟨gb389,4,none⟩) (Kd.dL (p:=⟨gb389,3,none⟩) (Kd.dL (p:=⟨gb389,2,none⟩) (Kd.dL (p:=⟨gb389,1,none⟩) (Kd.dL (p:=⟨gb389,0,none⟩) (Kd.dm HO397.out BK389.out (by decide)) (fun _ hk=>hk.2) (.string t390)) (fun _ hk=>hk.2) (.string t391)) (fun _ hk=>hk.2) (.int .i64 t392)) (fun _ hk=>hk.2) (.string t393)) (fun _ hk=>hk.2) (.bool t394)) (fun _ h_=>h_.1))) (Kd.gn (by (with_reducible repeat (first | apply Kd.bS | apply Kd.bO | apply Kd.bP));exact (Kd.aH (Kd.fj (p:=⟨gb389,4,none⟩) (Kd.fj (p:=⟨gb389,3,none⟩) (Kd.fj (p:=⟨gb389,2,none⟩) (Kd.fj (p:=⟨gb389,1,none⟩) (Kd.fj (p:=⟨gb389,0,none⟩) (Kd.aH HO_6.out (fun k_ hk=>(⟨hk,hk.2⟩:_∧k_≠gb389))) (fun _ hk=>hk.2) (.string t390)) (fun _ hk=>hk.2) (.string t391)) (fun _ hk=>hk.2) (.int .i64 t392)) (fun _ hk=>hk.2) (.string t393)) (fun _ hk=>hk.2) (.bool t394)) (fun _ h_=>h_.1)))) (by decide) hg);have n3_:=aS (hb);have n4_:=aS (ho);clear HO_0;clear BK389;clear HO397;clear HB;clear HO_6;have HO_0:=n0_;have BK389:=n1_;have HO397:=n2_;have HB:=n3_;have HO401:=n4_;clear n0_ n1_ n2_ n3_ n4_;clear ho hb hg hat))
      go_roundg k1
      case measure=>have:=HK1.out;omega
      case rel=>exact ⟨(t395),(wrap64 (x4_1 - 1)),(t398),(y399),dU,dU,H',⟨by have:=HK1.out;omega⟩,⟨by (with_reducible repeat (first | apply Kd.d7 | apply Kd.d6 | apply Kd.eE));exact Kd.cZ HO397.out (fun _ hk=>trivial)⟩,⟨by (with_reducible repeat (first | apply Kd.bS | apply Kd.bO | apply Kd.bP));exact Kd.aH HO401.out (fun _ hk=>trivial)⟩,⟨ar⟩⟩
     ·
      rw [if_neg c7] at H;exact absurd H (by simp)
    ·
     rw [if_neg c5] at H;have c5b0:decide (0<x4_1)=false:=decide_eq_false c5;clear c5
     simp only [Option.some.injEq,Prod.mk.injEq] at H
     obtain ⟨rfl,rfl⟩:=H;obtain ⟨Ao13,co13,eo13,_⟩:=Kd.qv HO_0.out;subst eo13
     go_wp2
     go_ret2
     exact ⟨_,dN,by (with_reducible repeat (first | apply Kd.bS | apply Kd.bO | apply Kd.bP));exact HO_6.out,ar⟩
   ·
    replace c4:=Bool.eq_false_iff.mpr c4;subst c4
    replace H:=jO H
    simp only [Option.some.injEq,Prod.mk.injEq] at H
    obtain ⟨rfl,rfl⟩:=H
    go_wp2
    go_ret2
    exact ⟨_,dN,by (with_reducible repeat (first | apply Kd.bS | apply Kd.bO | apply Kd.bP));exact HO_6.out,ar⟩
def dM.j0:Nat→List Int→List (av)→Bool→Option ((List (av)) × List Int × Int)
 | 0,_,_,_=>none
 | k+1,x6,x8,x33=>if x33=true then (some (([]:List (av)),([]:List Int),2)) else ((dH.f x6).bind fun t414=>(some (x8,t414,0)))
def dM.f (k:Nat) (l0:List Int):Option ((List (av)) × List Int × Int):=(bZ.f k l0).bind fun bt402=>(if bt402.2.2=true then ((cV.f k bt402.1).bind fun bt409=>(if bt409.2=true then (if (bt409.1.length:Int)=0 then (dM.j0 k bt402.2.1 bt409.1 true) else ((aT.f k bt409.1).bind fun t413=>(dM.j0 k bt402.2.1 bt409.1 (!t413)))) else (dM.j0 k bt402.2.1 bt409.1 true))) else (some (([]:List (av)),([]:List Int),2)))
theorem dM.cP:∀ k,(∀ y0 y1 y2,aE (dM.j0 k y0 y1 y2) (dM.j0 (k+1) y0 y1 y2))
 | 0=>fun _ _ _ r h=>by simp [dM.j0] at h
 | k+1=>by
  have ih0:=dM.cP k
  ·
   intro y0 y1 y2
   unfold dM.j0
   have m0:=@cV.mono;have m1:=@aT.mono;have m2:=@bZ.mono;exact e8
theorem dM.mono:∀ a0 k,aE (dM.f k a0) (dM.f (k+1) a0):=by
 intro a0 k
 have ih0:=dM.cP k
 unfold dM.f
 have m0:=@cV.mono;have m1:=@aT.mono;have m2:=@bZ.mono;exact e8
theorem dM.calls (k:Nat) (A0:Option Addr) (c0:Nat) (l0:List Int) (r1:List (av)) (r2:List Int) (r3:Int) (w:World) (hr0:Kd.C (Kd.int .u8) w A0 l0.length l0) (hc0:l0.length≤c0) (h:dM.f k l0=some (r1,r2,r3)) :
  Calls Tryz.prog 72 #[.slice A0 l0.length c0] w fun e w'=>∃ v0_ v1_:Value,e = .returned (.tuple #[v0_,v1_,.int .i64 r3])∧Kd.R cC 34 w' w.heap.size (fun _=>True) v0_ r1∧Kd.R (Kd.int .u8) 5 w' w.heap.size (fun _=>True) v1_ r2∧Below w.heap.size w w':=by
 have HR0:=aS hr0;have HC0:=aS hc0;clear hr0 hc0;have HB:=aS (Below.refl w.heap.size w);have H:((bZ.f k l0).bind fun bt402=>(if bt402.2.2=true then ((cV.f k bt402.1).bind fun bt409=>(if bt409.2=true then (if (bt409.1.length:Int)=0 then (dM.j0 k bt402.2.1 bt409.1 true) else ((aT.f k bt409.1).bind fun t413=>(dM.j0 k bt402.2.1 bt409.1 (!t413)))) else (dM.j0 k bt402.2.1 bt409.1 true))) else (some (([]:List (av)),([]:List Int),2))))=some (r1,r2,r3):=h;clear h;replace H:=bV H;obtain ⟨⟨t402,t405,t408⟩,A20,H⟩:=H;(try dsimp only at H);have A2:=aS A20;clear A20
 by_cases c3:t408=true
 ·
  subst c3
  replace H:=jQ H;replace H:=bV H;obtain ⟨⟨t409,t410⟩,A40,H⟩:=H;(try dsimp only at H);have A4:=aS A40;clear A40;have HC5:=aS H;clear H
  go_enter Tryz.func72,Tryz.ntmps72
  go_upto_region 5 with (first | ((with_reducible refine aC (f:=93) rfl ?_);refine bE (some 11) rfl rfl Tryz.func93 (by kernel_rfl) rfl #[.slice A0 l0.length c0] rfl cD ?_;(with_reducible refine (bZ.calls k (fun k_=>k_<w.heap.size) _ _ l0 t402 t405 true _ ?side1 A2.out).mono ?_);(case side1=>exact Kd.nA HC0.out (Kd.mD (Kd.Cj (Kd.lq .u8) HR0.out) ar));rintro e w6 ⟨v403,v406,rfl,ho0,ho1,hb⟩;refine ⟨_,rfl,?_⟩;have HO404:=aS (Kd.pV (Kd.ez (ok':=fun k_=>True) ho0 (fun k_ hk_=>trivial)) (ay ar));have HO407:=aS (Kd.pV (Kd.ez (ok':=fun k_=>True) ho1 (fun k_ hk_=>trivial)) (ay ar));replace HB:=aM hb;(try clear hb);(try clear hk);(try clear hi);(try clear ho0);(try clear ho1);obtain ⟨Ao7,co7,eo7⟩:=Kd.lI HO404.out;subst eo7) | ((with_reducible refine aC (f:=94) rfl ?_);refine bE (some 19) rfl rfl Tryz.func94 (by kernel_rfl) rfl #[.slice Ao7 t402.length co7] rfl cD ?_;(with_reducible refine (cV.calls k _ _ t402 t409 t410 _ ?side1 ?side2 A4.out).mono ?_);(case side1=>exact eN ((Kd.dI HO404.out).2.2));(case side2=>exact (Kd.dI HO404.out).2.1);rintro e w8 ⟨v411,rfl,ho0,hb⟩;refine ⟨_,rfl,?_⟩;replace HO404:=aS (Kd.di (sel HO404.out) (dh ho0) hb);replace HO407:=aS (Kd.di (sel HO407.out) (dh ho0) hb);have HO412:=aS (Kd.bf ho0 (ay ar));replace HB:=aM hb;(try clear hb);(try clear hk);(try clear hi);(try clear ho0)))
  (try simp only [Act.put,dw,dx,lss])
  go_cut [33] (fun v33 wc=>∃ (kq:Nat) (x33_4:Bool),v33 = .bool x33_4∧ak (dM.j0 kq t405 t409 x33_4=some (r1,r2,r3))∧ak (kq≤k)∧ak (Kd.V (Kd.int .u8) 5 wc w.heap.size (fun k_=>some k_≠(v411:Value).ownBlock) v406 t405)∧ak (Kd.R cC 34 wc w.heap.size (fun _=>True) v411 t409)∧ak (Below w.heap.size w wc))
  case first=>
   have H:=HC5.out;clear HC5
   by_cases c9:t410=true
   ·
    subst c9
    replace H:=jQ H
    by_cases eU:(t409.length:Int)=0
    ·
     rw [if_pos eU] at H;obtain ⟨c10b0,c10b1⟩:=jE eU;clear eU
     (first | rw [c10b0] | (simp only [bC,cm];rw [c10b0]) | skip)
     have H':=aS H
     clear H;obtain ⟨Ao11,co11,eo11⟩:=Kd.bq HO412.out;subst eo11
     go_wp2
     go_meet
     case rel=>exact ⟨_,(true),dU,H',⟨by first | omega | exact Nat.le_refl _⟩,⟨by (with_reducible repeat (first | apply Kd.fq | apply Kd.fp | apply Kd.eM));exact Kd.ez HO407.out (fun _ hk=>hk.2)⟩,⟨by (with_reducible repeat (first | apply Kd.bS | apply Kd.bO | apply Kd.bP));exact HO412.out⟩,⟨ar⟩⟩
    ·
     rw [if_neg eU] at H;obtain ⟨c10b0,c10b1⟩:=ju eU
     have c10b2:¬ (t409=[]):=fun h_=>eU (by rw [h_];rfl)
     (first | rw [c10b0] | (simp only [bC,cm];rw [c10b0]) | skip)
     replace H:=bV H;obtain ⟨t413,A120,H⟩:=H;have A12:=aS A120;clear A120
     have H':=aS H
     clear H;obtain ⟨Ao13,co13,eo13⟩:=Kd.bq HO412.out;subst eo13
     go_wp2_with (first | (go_at_call 73;(with_reducible refine (aT.calls k _ _ t409 t413 _ ?side1 ?side2 A12.out).mono ?_);(case side1=>exact eN ((Kd.bh HO412.out).2.2));(case side2=>exact (Kd.bh HO412.out).2.1);rintro e w14 ⟨rfl,hb⟩;replace HO404:=aS (Kd.kS (sel HO404.out) hb);replace HO407:=aS (Kd.kS (sel HO407.out) hb);replace HO412:=aS (Kd.dA (rel HO412.out) hb);replace HB:=aM hb;(try clear hb);(try clear hk);(try clear hi)))
     go_meet
     case rel=>exact ⟨_,(!t413),dU,H',⟨by first | omega | exact Nat.le_refl _⟩,⟨by (with_reducible repeat (first | apply Kd.fq | apply Kd.fp | apply Kd.eM));exact Kd.ez HO407.out (fun _ hk=>hk.2)⟩,⟨by (with_reducible repeat (first | apply Kd.bS | apply Kd.bO | apply Kd.bP));exact HO412.out⟩,⟨ar⟩⟩
   ·
    replace c9:=Bool.eq_false_iff.mpr c9;subst c9
    replace H:=jO H
    have H':=aS H
    clear H
    go_wp2
    go_meet
    case rel=>exact ⟨_,(true),dU,H',⟨by first | omega | exact Nat.le_refl _⟩,⟨by (with_reducible repeat (first | apply Kd.fq | apply Kd.fp | apply Kd.eM));exact Kd.ez HO407.out (fun _ hk=>hk.2)⟩,⟨by (with_reducible repeat (first | apply Kd.bS | apply Kd.bO | apply Kd.bP));exact HO412.out⟩,⟨ar⟩⟩
  case rest=>
   clear HC5;(try clear c3);obtain ⟨kq,x33_4,rfl,HA,HJ4,HO_6,HO_8,HB⟩:=hcut
   cases kq with
   | zero=>exact absurd HA.out (by simp [dM.j0])
   | succ kj4=>
    have H:=HA.out;clear HA
    simp only [dM.j0] at H
    by_cases c15:x33_4=true
    ·
     subst c15
     replace H:=jQ H
     simp only [Option.some.injEq,Prod.mk.injEq] at H
     obtain ⟨rfl,rfl,rfl⟩:=H
     go_wp2
     go_ret3
     exact ⟨_,_,dN,by first | exact Kd.dX _ _ _ _ _ | exact Kd.gy _ _ _ _ _ | exact Kd.fN _ _ _ _ _ | exact Kd.gB _ _ _ _ _ | exact Kd.gA _ _ _ _ _,by first | exact Kd.dX _ _ _ _ _ | exact Kd.gy _ _ _ _ _ | exact Kd.fN _ _ _ _ _ | exact Kd.gB _ _ _ _ _ | exact Kd.gA _ _ _ _ _,ar⟩
    ·
     replace c15:=Bool.eq_false_iff.mpr c15;subst c15
     replace H:=jO H;replace H:=bV H;obtain ⟨t414,A160,H⟩:=H;have A16:=aS A160;clear A160
     simp only [Option.some.injEq,Prod.mk.injEq] at H
     obtain ⟨rfl,rfl,rfl⟩:=H;obtain ⟨Ao17,co17,eo17⟩:=Kd.lI HO_6.out;subst eo17
     go_wp2_with (first | ((with_reducible refine aC (f:=92) rfl ?_);refine bE (some 36) rfl rfl Tryz.func92 (by kernel_rfl) rfl #[.slice Ao17 t405.length co17] rfl cD ?_;(with_reducible refine (dH.calls _ _ t405 t414 _ ?side1 ?side2 A16.out).mono ?_);(case side1=>exact eN ((Kd.dI HO_6.out).2.2));(case side2=>exact (Kd.dI HO_6.out).2.1);rintro e w18 ⟨v415,rfl,ho0,hb⟩;refine ⟨_,rfl,?_⟩;replace HO_6:=aS (Kd.di (sel HO_6.out) (dh ho0) hb);replace HO_8:=aS (Kd.dA (rel HO_8.out) hb);have HO416:=aS (Kd.bf ho0 (ay ar));replace HB:=aM hb;(try clear hb);(try clear hk);(try clear hi);(try clear ho0)))
     go_ret3
     exact ⟨_,_,dN,by (with_reducible repeat (first | apply Kd.bS | apply Kd.bO | apply Kd.bP));exact HO_8.out,by (with_reducible repeat (first | apply Kd.bS | apply Kd.bO | apply Kd.bP));exact HO416.out,ar⟩
 ·
  replace c3:=Bool.eq_false_iff.mpr c3;subst c3
  replace H:=jO H
  simp only [Option.some.injEq,Prod.mk.injEq] at H
  obtain ⟨rfl,rfl,rfl⟩:=H
  go_enter Tryz.func72,Tryz.ntmps72
  go_wp2_with (first | ((with_reducible refine aC (f:=93) rfl ?_);refine bE (some 11) rfl rfl Tryz.func93 (by kernel_rfl) rfl #[.slice A0 l0.length c0] rfl cD ?_;(with_reducible refine (bZ.calls k (fun k_=>k_<w.heap.size) _ _ l0 t402 t405 false _ ?side1 A2.out).mono ?_);(case side1=>exact Kd.nA HC0.out (Kd.mD (Kd.Cj (Kd.lq .u8) HR0.out) ar));rintro e w19 ⟨v403,v406,rfl,ho0,ho1,hb⟩;refine ⟨_,rfl,?_⟩;have HO404:=aS (Kd.pV (Kd.ez (ok':=fun k_=>True) ho0 (fun k_ hk_=>trivial)) (ay ar));have HO407:=aS (Kd.pV (Kd.ez (ok':=fun k_=>True) ho1 (fun k_ hk_=>trivial)) (ay ar));replace HB:=aM hb;(try clear hb);(try clear hk);(try clear hi);(try clear ho0);(try clear ho1)))
  go_ret3
  exact ⟨_,_,dN,by first | exact Kd.dX _ _ _ _ _ | exact Kd.gy _ _ _ _ _ | exact Kd.fN _ _ _ _ _ | exact Kd.gB _ _ _ _ _ | exact Kd.gA _ _ _ _ _,by first | exact Kd.dX _ _ _ _ _ | exact Kd.gy _ _ _ _ _ | exact Kd.fN _ _ _ _ _ | exact Kd.gB _ _ _ _ _ | exact Kd.gA _ _ _ _ _,ar⟩
mutual
def aV.l0:Nat→List (List (av))→Int→Int→List (List (av))→Int→Int→Option (Bool)
 | 0,_,_,_,_,_,_=>none
 | k+1,x0,x3,x4,x10,x11,x12=>if x12<x11 then (if 0≤x12 then (if x12<(x10.length:Int) then (aV.l1 k x0 x3 x4 x12 (aQ x10 x12) 0 x10 x11 x12 (aQ x10 x12) ((aQ x10 x12).length:Int) 0) else (none)) else (none)) else (some (decide (x3≤x4)))
def aV.l1:Nat→List (List (av))→Int→Int→Int→List (av)→Int→List (List (av))→Int→Int→List (av)→Int→Int→Option (Bool)
 | 0,_,_,_,_,_,_,_,_,_,_,_,_=>none
 | k+1,x0,x3,x4,x5,x6,x7,x10,x11,x12,x17,x18,x19=>if x19<x18 then (if 0≤x19 then (if x19<(x17.length:Int) then (if x19=(wrap64 ((x6.length:Int) - 1)) then (aV.j2 k x0 x3 x4 x5 x6 x7 x19 x10 x11 x12 x17 x18 x19 (decide (x5<(wrap64 ((x0.length:Int) - 1)))) ((af x17 x19).f0) ((af x17 x19).f1) ((af x17 x19).f2) ((af x17 x19).f3) ((af x17 x19).f4)) else (aV.j2 k x0 x3 x4 x5 x6 x7 x19 x10 x11 x12 x17 x18 x19 false ((af x17 x19).f0) ((af x17 x19).f1) ((af x17 x19).f2) ((af x17 x19).f3) ((af x17 x19).f4))) else (none)) else (none)) else (aV.l0 k x0 x3 x4 x10 x11 (wrap64 (x12+1)))
def aV.j2:Nat→List (List (av))→Int→Int→Int→List (av)→Int→Int→List (List (av))→Int→Int→List (av)→Int→Int→Bool→ByteArray→ByteArray→Int→ByteArray→Bool→Option (Bool)
 | 0,_,_,_,_,_,_,_,_,_,_,_,_,_,_,_,_,_,_,_=>none
 | k+1,x0,x3,x4,x5,x6,x7,x8,x10,x11,x12,x17,x18,x19,x35,x420000,x420001,x420002,x420003,x420004=>if x35=true then ((dn.f x420000 x420001 x420002 x420003 x420004).bind fun t420=>(if x8 > 0 then ((dn.f x420000 x420001 x420002 x420003 x420004).bind fun t423=>(aV.l1 k x0 (mx x3 (wrap64 (x7+1))) (mn x4 (wrap64 (x7+(t420.length:Int)))) x5 x6 (wrap64 (x7+(t423.length:Int))) x10 x11 x12 x17 x18 (wrap64 (x19+1)))) else ((dn.f x420000 x420001 x420002 x420003 x420004).bind fun t426=>(aV.l1 k x0 x3 (mn x4 (wrap64 (x7+(t420.length:Int)))) x5 x6 (wrap64 (x7+(t426.length:Int))) x10 x11 x12 x17 x18 (wrap64 (x19+1)))))) else (if x8 > 0 then ((dn.f x420000 x420001 x420002 x420003 x420004).bind fun t429=>(aV.l1 k x0 (mx x3 (wrap64 (x7+1))) x4 x5 x6 (wrap64 (x7+(t429.length:Int))) x10 x11 x12 x17 x18 (wrap64 (x19+1)))) else ((dn.f x420000 x420001 x420002 x420003 x420004).bind fun t432=>(aV.l1 k x0 x3 x4 x5 x6 (wrap64 (x7+(t432.length:Int))) x10 x11 x12 x17 x18 (wrap64 (x19+1)))))
end
def aV.f (k:Nat) (l0:List (List (av))):Option (Bool):=aV.l0 k l0 1 4294967296 l0 (l0.length:Int) 0
theorem aV.cP:∀ k,(∀ y0 y1 y2 y3 y4 y5,aE (aV.l0 k y0 y1 y2 y3 y4 y5) (aV.l0 (k+1) y0 y1 y2 y3 y4 y5))∧(∀ y0 y1 y2 y3 y4 y5 y6 y7 y8 y9 y10 y11,aE (aV.l1 k y0 y1 y2 y3 y4 y5 y6 y7 y8 y9 y10 y11) (aV.l1 (k+1) y0 y1 y2 y3 y4 y5 y6 y7 y8 y9 y10 y11))∧(∀ y0 y1 y2 y3 y4 y5 y6 y7 y8 y9 y10 y11 y12 y13 y14 y15 y16 y17 y18,aE (aV.j2 k y0 y1 y2 y3 y4 y5 y6 y7 y8 y9 y10 y11 y12 y13 y14 y15 y16 y17 y18) (aV.j2 (k+1) y0 y1 y2 y3 y4 y5 y6 y7 y8 y9 y10 y11 y12 y13 y14 y15 y16 y17 y18))
 | 0=>⟨fun _ _ _ _ _ _ r h=>by simp [aV.l0] at h,fun _ _ _ _ _ _ _ _ _ _ _ _ r h=>by simp [aV.l1] at h,fun _ _ _ _ _ _ _ _ _ _ _ _ _ _ _ _ _ _ _ r h=>by simp [aV.j2] at h⟩
 | k+1=>by
  obtain ⟨ih0,ih1,ih2⟩:=aV.cP k;refine ⟨?_,?_,?_⟩
  ·
   intro y0 y1 y2 y3 y4 y5
   unfold aV.l0
   exact e8
  ·
   intro y0 y1 y2 y3 y4 y5 y6 y7 y8 y9 y10 y11
   unfold aV.l1
   exact e8
  ·
   intro y0 y1 y2 y3 y4 y5 y6 y7 y8 y9 y10 y11 y12 y13 y14 y15 y16 y17 y18
   unfold aV.j2
   exact e8
theorem aV.mono:∀ a0 k,aE (aV.f k a0) (aV.f (k+1) a0):=by
 intro a0 k
 obtain ⟨ih0,ih1,ih2⟩:=aV.cP k
 unfold aV.f
 exact e8
theorem aV.calls (k:Nat) (A0:Option Addr) (c0:Nat) (l0:List (List (av))) (r:Bool) (w:World) (hr0:Kd.C (Kd.slice 34 cC) w A0 l0.length l0) (hc0:l0.length≤c0) (h:aV.f k l0=some r) :
  Calls Tryz.prog 74 #[.slice A0 l0.length c0] w fun e w'=>e = .returned (.bool r)∧Below w.heap.size w w':=by
 have hu34:=Tryz.underlying34;have HR0:=aS hr0;have HC0:=aS hc0;clear hr0 hc0;have HB:=aS (Below.refl w.heap.size w);have H:(aV.l0 k l0 1 4294967296 l0 (l0.length:Int) 0)=some r:=h;clear h
 have H':=aS H
 clear H
 go_enter Tryz.func74,Tryz.ntmps74
 go_wp2
 go_loopg [3,4,12] k (fun kq v3 v4 v12 w'=>∃ (x3_1:Int) (x4_1:Int) (x12_1:Int),v3 = .int .i64 x3_1∧v4 = .int .i64 x4_1∧v12 = .int .i64 x12_1∧ak (aV.l0 kq l0 x3_1 x4_1 l0 (l0.length:Int) x12_1=some r)∧ak (kq≤k)∧ak (Below w.heap.size w w'))
 case atStart=>exact ⟨(1),(4294967296),(0),dU,dU,dU,H',⟨Nat.le_refl _⟩,⟨ar⟩⟩
 case round=>
  clear H';obtain ⟨x3_1,x4_1,x12_1,rfl,rfl,rfl,HA,HK1,HB⟩:=hrel
  cases gk with
  | zero=>exact absurd HA.out (by simp [aV.l0])
  | succ k1=>
   have H:=HA.out;clear HA
   simp only [aV.l0] at H
   by_cases c2:x12_1<(l0.length:Int)
   ·
    rw [if_pos c2] at H;have c2b0:decide (x12_1<(l0.length:Int))=true:=decide_eq_true c2;clear c2
    by_cases c3:0≤x12_1
    ·
     rw [if_pos c3] at H;have c3b0:decide (0≤x12_1)=true:=decide_eq_true c3;clear c3
     by_cases c4:x12_1<(l0.length:Int)
     ·
      rw [if_pos c4] at H;have c4b0:decide (x12_1<(l0.length:Int))=true:=decide_eq_true c4;clear c4
      have H':=aS H
      clear H;have p417:0≤(x12_1:Int):=cG;have q417:x12_1<(l0.length:Int):=cG;obtain ⟨ad417,A417_0,c417_0,e417,hx417_0,hl417_0,hi417_0⟩:=qZ HR0.out x12_1 p417 q417;cases e417;have hB_417_0:=aS hx417_0;replace hx417_0:=bx ar hx417_0;have HR417_0:=aS hi417_0;have HC417_0:=aS hl417_0;clear hi417_0 hl417_0;replace p417:=eq_true p417;replace q417:=eq_true q417
      go_wp2
      go_loopg [3,4,7,19] k1 (fun kq v3 v4 v7 v19 w'=>∃ (x3_2:Int) (x4_2:Int) (x7_2:Int) (x19_2:Int),v3 = .int .i64 x3_2∧v4 = .int .i64 x4_2∧v7 = .int .i64 x7_2∧v19 = .int .i64 x19_2∧ak (aV.l1 kq l0 x3_2 x4_2 x12_1 (aQ l0 x12_1) x7_2 l0 (l0.length:Int) x12_1 (aQ l0 x12_1) ((aQ l0 x12_1).length:Int) x19_2=some r)∧ak (kq≤k1)∧ak (Below w.heap.size w w'))
      case atStart=>exact ⟨(x3_1),(x4_1),(0),(0),dU,dU,dU,dU,H',⟨Nat.le_refl _⟩,⟨ar⟩⟩
      case round=>
       clear H';(try clear c2);(try clear c2b0);(try clear c3);(try clear c3b0);(try clear c4);(try clear c4b0);(try clear hx417_0);(try clear p417);(try clear q417);obtain ⟨x3_2,x4_2,x7_2,x19_2,rfl,rfl,rfl,rfl,HA,HK2,HB⟩:=hrel
       cases gk with
       | zero=>exact absurd HA.out (by simp [aV.l1])
       | succ k2=>
        have H:=HA.out;clear HA
        simp only [aV.l1] at H
        by_cases c5:x19_2<((aQ l0 x12_1).length:Int)
        ·
         rw [if_pos c5] at H;have c5b0:decide (x19_2<((aQ l0 x12_1).length:Int))=true:=decide_eq_true c5;clear c5
         by_cases c6:0≤x19_2
         ·
          rw [if_pos c6] at H;have c6b0:decide (0≤x19_2)=true:=decide_eq_true c6;clear c6
          by_cases c7:x19_2<((aQ l0 x12_1).length:Int)
          ·
           rw [if_pos c7] at H;have c7b0:decide (x19_2<((aQ l0 x12_1).length:Int))=true:=decide_eq_true c7;clear c7;have HC8:=aS H;clear H;have p418:0≤(x19_2:Int):=cG;have q418:x19_2<((aQ l0 x12_1).length:Int):=cG;obtain ⟨ad418,e418,hx418_0,hx418_1,hx418_2,hx418_3,hx418_4⟩:=eT HR417_0.out x19_2 p418 q418;cases e418;replace hx418_0:=bx ar hx418_0;replace hx418_1:=bx ar hx418_1;replace hx418_2:=bx ar hx418_2;replace hx418_3:=bx ar hx418_3;replace hx418_4:=bx ar hx418_4;replace p418:=eq_true p418;replace q418:=eq_true q418
           go_upto_region 9 with (first | ((with_reducible refine aX (N:=9) rfl ?_);(try (refine eF (by rfl) ?_;dsimp only));refine aY ?hg (N:=9) ?hd (cs:=#[.string (⟨#[]⟩:ByteArray),.string (⟨#[]⟩:ByteArray),.int .i64 0,.string (⟨#[]⟩:ByteArray),.bool false]) (t:=34) ?hr ?_;(case hd=>rfl);(case hg=>rfl);(case hr=>first | (go_simp;done) | (go_simp;rfl));intro gb419 hg w9 hbox hb;have BK419:=aS (hbox);have GW419:=bsize hg;have GE419:=bsize hg;replace HB:=aM hb;clear hb hbox hg;have hcz10:=cR BK419))
           (try simp only [Act.put,dw,dx,lss])
           go_cut [35] (fun v35 wc=>∃ (kq:Nat) (x35_7:Bool),v35 = .bool x35_7∧ak (aV.j2 kq l0 x3_2 x4_2 x12_1 (aQ l0 x12_1) x7_2 x19_2 l0 (l0.length:Int) x12_1 (aQ l0 x12_1) ((aQ l0 x12_1).length:Int) x19_2 x35_7 ((af (aQ l0 x12_1) x19_2).f0) ((af (aQ l0 x12_1) x19_2).f1) ((af (aQ l0 x12_1) x19_2).f2) ((af (aQ l0 x12_1) x19_2).f3) ((af (aQ l0 x12_1) x19_2).f4)=some r)∧ak (kq≤k2)∧ak (wc.heap[gb419]? = some (.cells #[.string ((af (aQ l0 x12_1) x19_2).f0),.string ((af (aQ l0 x12_1) x19_2).f1),.int .i64 ((af (aQ l0 x12_1) x19_2).f2),.string ((af (aQ l0 x12_1) x19_2).f3),.bool ((af (aQ l0 x12_1) x19_2).f4)] 34 (0,0)))∧ak (Below w.heap.size w wc))
           case first=>
            have H:=HC8.out;clear HC8
            by_cases c11:x19_2=(wrap64 (((aQ l0 x12_1).length:Int) - 1))
            ·
             rw [if_pos c11] at H;obtain ⟨c11b0,c11b1⟩:=jE c11;clear c11
             (first | rw [c11b0] | (simp only [bC,cm];rw [c11b0]) | skip)
             have H':=aS H
             clear H
             go_wp2
             go_meet
             case rel=>exact ⟨_,(decide (x12_1<(wrap64 ((l0.length:Int) - 1)))),dU,H',⟨by have:=HK1.out;have:=HK2.out;first | omega | exact Nat.le_refl _⟩,⟨by (with_reducible repeat (first | refine aA ?_ _ | refine au ?_ | refine ax ?_ _));refine bn (cs:=#[.string ((af (aQ l0 x12_1) x19_2).f0),.string ((af (aQ l0 x12_1) x19_2).f1),.int .i64 ((af (aQ l0 x12_1) x19_2).f2),.string ((af (aQ l0 x12_1) x19_2).f3),.bool false]) ?_ 4 _ rfl;(with_reducible repeat (first | refine aA ?_ _ | refine au ?_ | refine ax ?_ _));refine bn (cs:=#[.string ((af (aQ l0 x12_1) x19_2).f0),.string ((af (aQ l0 x12_1) x19_2).f1),.int .i64 ((af (aQ l0 x12_1) x19_2).f2),.string (⟨#[]⟩:ByteArray),.bool false]) ?_ 3 _ rfl;(with_reducible repeat (first | refine aA ?_ _ | refine au ?_ | refine ax ?_ _));refine bn (cs:=#[.string ((af (aQ l0 x12_1) x19_2).f0),.string ((af (aQ l0 x12_1) x19_2).f1),.int .i64 0,.string (⟨#[]⟩:ByteArray),.bool false]) ?_ 2 _ rfl;(with_reducible repeat (first | refine aA ?_ _ | refine au ?_ | refine ax ?_ _));refine bn (cs:=#[.string ((af (aQ l0 x12_1) x19_2).f0),.string (⟨#[]⟩:ByteArray),.int .i64 0,.string (⟨#[]⟩:ByteArray),.bool false]) ?_ 1 _ rfl;(with_reducible repeat (first | refine aA ?_ _ | refine au ?_ | refine ax ?_ _));refine bn (cs:=#[.string (⟨#[]⟩:ByteArray),.string (⟨#[]⟩:ByteArray),.int .i64 0,.string (⟨#[]⟩:ByteArray),.bool false]) ?_ 0 _ rfl;(with_reducible repeat (first | refine aA ?_ _ | refine au ?_ | refine ax ?_ _));exact BK419.out⟩,⟨ar⟩⟩
            ·
             rw [if_neg c11] at H;obtain ⟨c11b0,c11b1⟩:=ju c11
             (first | rw [c11b0] | (simp only [bC,cm];rw [c11b0]) | skip)
             have H':=aS H
             clear H
             go_wp2
             go_meet
             case rel=>exact ⟨_,(false),dU,H',⟨by have:=HK1.out;have:=HK2.out;first | omega | exact Nat.le_refl _⟩,⟨by (with_reducible repeat (first | refine aA ?_ _ | refine au ?_ | refine ax ?_ _));refine bn (cs:=#[.string ((af (aQ l0 x12_1) x19_2).f0),.string ((af (aQ l0 x12_1) x19_2).f1),.int .i64 ((af (aQ l0 x12_1) x19_2).f2),.string ((af (aQ l0 x12_1) x19_2).f3),.bool false]) ?_ 4 _ rfl;(with_reducible repeat (first | refine aA ?_ _ | refine au ?_ | refine ax ?_ _));refine bn (cs:=#[.string ((af (aQ l0 x12_1) x19_2).f0),.string ((af (aQ l0 x12_1) x19_2).f1),.int .i64 ((af (aQ l0 x12_1) x19_2).f2),.string (⟨#[]⟩:ByteArray),.bool false]) ?_ 3 _ rfl;(with_reducible repeat (first | refine aA ?_ _ | refine au ?_ | refine ax ?_ _));refine bn (cs:=#[.string ((af (aQ l0 x12_1) x19_2).f0),.string ((af (aQ l0 x12_1) x19_2).f1),.int .i64 0,.string (⟨#[]⟩:ByteArray),.bool false]) ?_ 2 _ rfl;(with_reducible repeat (first | refine aA ?_ _ | refine au ?_ | refine ax ?_ _));refine bn (cs:=#[.string ((af (aQ l0 x12_1) x19_2).f0),.string (⟨#[]⟩:ByteArray),.int .i64 0,.string (⟨#[]⟩:ByteArray),.bool false]) ?_ 1 _ rfl;(with_reducible repeat (first | refine aA ?_ _ | refine au ?_ | refine ax ?_ _));refine bn (cs:=#[.string (⟨#[]⟩:ByteArray),.string (⟨#[]⟩:ByteArray),.int .i64 0,.string (⟨#[]⟩:ByteArray),.bool false]) ?_ 0 _ rfl;(with_reducible repeat (first | refine aA ?_ _ | refine au ?_ | refine ax ?_ _));exact BK419.out⟩,⟨ar⟩⟩
           case rest=>
            clear HC8;(try clear c2);(try clear c2b0);(try clear c3);(try clear c3b0);(try clear c4);(try clear c4b0);(try clear c5);(try clear c5b0);(try clear c6);(try clear c6b0);(try clear c7);(try clear c7b0);(try clear hcz10);(try clear hx417_0);(try clear hx418_0);(try clear hx418_1);(try clear hx418_2);(try clear hx418_3);(try clear hx418_4);(try clear p417);(try clear p418);(try clear q417);(try clear q418);obtain ⟨kq,x35_7,rfl,HA,HJ7,BK419,HB⟩:=hcut
            cases kq with
            | zero=>exact absurd HA.out (by simp [aV.j2])
            | succ kj7=>
             have H:=HA.out;clear HA
             simp only [aV.j2] at H
             by_cases c12:x35_7=true
             ·
              subst c12
              replace H:=jQ H;replace H:=bV H;obtain ⟨t420,A130,H⟩:=H;have A13:=aS A130;clear A130
              obtain ⟨ji14,hji14⟩:∃ j_:Int,(mn x4_2 (wrap64 (x7_2+(t420.length:Int))))=j_:=⟨_,rfl⟩
              replace H:(if x19_2 > 0 then ((dn.f ((af (aQ l0 x12_1) x19_2).f0) ((af (aQ l0 x12_1) x19_2).f1) ((af (aQ l0 x12_1) x19_2).f2) ((af (aQ l0 x12_1) x19_2).f3) ((af (aQ l0 x12_1) x19_2).f4)).bind fun t423=>(aV.l1 kj7 l0 (mx x3_2 (wrap64 (x7_2+1))) ji14 x12_1 (aQ l0 x12_1) (wrap64 (x7_2+(t423.length:Int))) l0 (l0.length:Int) x12_1 (aQ l0 x12_1) ((aQ l0 x12_1).length:Int) (wrap64 (x19_2+1)))) else ((dn.f ((af (aQ l0 x12_1) x19_2).f0) ((af (aQ l0 x12_1) x19_2).f1) ((af (aQ l0 x12_1) x19_2).f2) ((af (aQ l0 x12_1) x19_2).f3) ((af (aQ l0 x12_1) x19_2).f4)).bind fun t426=>(aV.l1 kj7 l0 x3_2 ji14 x12_1 (aQ l0 x12_1) (wrap64 (x7_2+(t426.length:Int))) l0 (l0.length:Int) x12_1 (aQ l0 x12_1) ((aQ l0 x12_1).length:Int) (wrap64 (x19_2+1)))))=some r:=by first | (rw [hji14] at H;exact H) | (simp only [hji14] at H ⊢;exact H)
              (try rw [hji14] at A13)
              have hji14_:(if (wrap64 (x7_2+(t420.length:Int)))<x4_2 then (wrap64 (x7_2+(t420.length:Int))) else x4_2)=ji14:=hji14
              by_cases c15:x19_2 > 0
              ·
               rw [if_pos c15] at H;have c15b0:decide (0<x19_2)=true:=decide_eq_true c15;clear c15
               obtain ⟨ji16,hji16⟩:∃ j_:Int,(mx x3_2 (wrap64 (x7_2+1)))=j_:=⟨_,rfl⟩
               replace H:((dn.f ((af (aQ l0 x12_1) x19_2).f0) ((af (aQ l0 x12_1) x19_2).f1) ((af (aQ l0 x12_1) x19_2).f2) ((af (aQ l0 x12_1) x19_2).f3) ((af (aQ l0 x12_1) x19_2).f4)).bind fun t423=>(aV.l1 kj7 l0 ji16 ji14 x12_1 (aQ l0 x12_1) (wrap64 (x7_2+(t423.length:Int))) l0 (l0.length:Int) x12_1 (aQ l0 x12_1) ((aQ l0 x12_1).length:Int) (wrap64 (x19_2+1))))=some r:=by first | (rw [hji16] at H;exact H) | (simp only [hji16] at H ⊢;exact H)
               (try rw [hji16] at A13)
               have hji16_:(if x3_2<(wrap64 (x7_2+1)) then (wrap64 (x7_2+1)) else x3_2)=ji16:=hji16;replace H:=bV H;obtain ⟨t423,A170,H⟩:=H;have A17:=aS A170;clear A170
               have H':=aS H
               clear H;have hcz18:=cR BK419
               go_wp2_with (first | ((with_reducible refine aC (f:=65) rfl ?_);refine bE (some 39) rfl rfl Tryz.func65 (by kernel_rfl) rfl #[.agg #[.string ((af (aQ l0 x12_1) x19_2).f0),.string ((af (aQ l0 x12_1) x19_2).f1),.int .i64 ((af (aQ l0 x12_1) x19_2).f2),.string ((af (aQ l0 x12_1) x19_2).f3),.bool ((af (aQ l0 x12_1) x19_2).f4)]] rfl cD ?_;(with_reducible refine (dn.calls ((af (aQ l0 x12_1) x19_2).f0) ((af (aQ l0 x12_1) x19_2).f1) ((af (aQ l0 x12_1) x19_2).f2) ((af (aQ l0 x12_1) x19_2).f3) ((af (aQ l0 x12_1) x19_2).f4) t420 _ A13.out).mono ?_);rintro e w19 ⟨v421,rfl,ho0,hb⟩;refine ⟨_,rfl,?_⟩;have HO422:=aS (Kd.bf ho0 (ay ar));replace BK419:=fA BK419 hb;replace HB:=aM hb;(try clear hb);(try clear hk);(try clear hi);(try clear ho0);obtain ⟨Ao20,co20,eo20⟩:=Kd.bq HO422.out;subst eo20;have hcz21:=cR BK419) | ((with_reducible refine aC (f:=65) rfl ?_);refine bE (some 51) rfl rfl Tryz.func65 (by kernel_rfl) rfl #[.agg #[.string ((af (aQ l0 x12_1) x19_2).f0),.string ((af (aQ l0 x12_1) x19_2).f1),.int .i64 ((af (aQ l0 x12_1) x19_2).f2),.string ((af (aQ l0 x12_1) x19_2).f3),.bool ((af (aQ l0 x12_1) x19_2).f4)]] rfl cD ?_;(with_reducible refine (dn.calls ((af (aQ l0 x12_1) x19_2).f0) ((af (aQ l0 x12_1) x19_2).f1) ((af (aQ l0 x12_1) x19_2).f2) ((af (aQ l0 x12_1) x19_2).f3) ((af (aQ l0 x12_1) x19_2).f4) t423 _ A17.out).mono ?_);rintro e w22 ⟨v424,rfl,ho0,hb⟩;refine ⟨_,rfl,?_⟩;have HO425:=aS (Kd.bf (Kd.cI ho0 (Kd.cK (rel HO422.out))) (ay ar));replace HO422:=aS (Kd.bR (rel HO422.out) (dh ho0) hb);replace BK419:=fA BK419 hb;replace HB:=aM hb;(try clear hb);(try clear hk);(try clear hi);(try clear ho0);obtain ⟨Ao23,co23,eo23⟩:=Kd.bq HO425.out;subst eo23))
               go_roundg kj7
               case measure=>have:=HK1.out;have:=HK2.out;have:=HJ7.out;omega
               case rel=>exact ⟨(ji16),(ji14),(wrap64 (x7_2+(t423.length:Int))),(wrap64 (x19_2+1)),(by first | rfl | (simp;done) | (simp only [←hji16]<;>(first | rfl | simp)) | (simp [*];done)),(by first | rfl | (simp;done) | (simp only [←hji14]<;>(first | rfl | simp)) | (simp [*];done)),dU,dU,H',⟨by have:=HK1.out;have:=HK2.out;have:=HJ7.out;omega⟩,⟨ar⟩⟩
              ·
               rw [if_neg c15] at H;have c15b0:decide (0<x19_2)=false:=decide_eq_false c15;clear c15;replace H:=bV H;obtain ⟨t426,A240,H⟩:=H;have A24:=aS A240;clear A240
               have H':=aS H
               clear H;have hcz25:=cR BK419
               go_wp2_with (first | ((with_reducible refine aC (f:=65) rfl ?_);refine bE (some 39) rfl rfl Tryz.func65 (by kernel_rfl) rfl #[.agg #[.string ((af (aQ l0 x12_1) x19_2).f0),.string ((af (aQ l0 x12_1) x19_2).f1),.int .i64 ((af (aQ l0 x12_1) x19_2).f2),.string ((af (aQ l0 x12_1) x19_2).f3),.bool ((af (aQ l0 x12_1) x19_2).f4)]] rfl cD ?_;(with_reducible refine (dn.calls ((af (aQ l0 x12_1) x19_2).f0) ((af (aQ l0 x12_1) x19_2).f1) ((af (aQ l0 x12_1) x19_2).f2) ((af (aQ l0 x12_1) x19_2).f3) ((af (aQ l0 x12_1) x19_2).f4) t420 _ A13.out).mono ?_);rintro e w26 ⟨v421,rfl,ho0,hb⟩;refine ⟨_,rfl,?_⟩;have HO422:=aS (Kd.bf ho0 (ay ar));replace BK419:=fA BK419 hb;replace HB:=aM hb;(try clear hb);(try clear hk);(try clear hi);(try clear ho0);obtain ⟨Ao27,co27,eo27⟩:=Kd.bq HO422.out;subst eo27;have hcz28:=cR BK419) | ((with_reducible refine aC (f:=65) rfl ?_);refine bE (some 51) rfl rfl Tryz.func65 (by kernel_rfl) rfl #[.agg #[.string ((af (aQ l0 x12_1) x19_2).f0),.string ((af (aQ l0 x12_1) x19_2).f1),.int .i64 ((af (aQ l0 x12_1) x19_2).f2),.string ((af (aQ l0 x12_1) x19_2).f3),.bool ((af (aQ l0 x12_1) x19_2).f4)]] rfl cD ?_;(with_reducible refine (dn.calls ((af (aQ l0 x12_1) x19_2).f0) ((af (aQ l0 x12_1) x19_2).f1) ((af (aQ l0 x12_1) x19_2).f2) ((af (aQ l0 x12_1) x19_2).f3) ((af (aQ l0 x12_1) x19_2).f4) t426 _ A24.out).mono ?_);rintro e w29 ⟨v427,rfl,ho0,hb⟩;refine ⟨_,rfl,?_⟩;have HO428:=aS (Kd.bf (Kd.cI ho0 (Kd.cK (rel HO422.out))) (ay ar));replace HO422:=aS (Kd.bR (rel HO422.out) (dh ho0) hb);replace BK419:=fA BK419 hb;replace HB:=aM hb;(try clear hb);(try clear hk);(try clear hi);(try clear ho0);obtain ⟨Ao30,co30,eo30⟩:=Kd.bq HO428.out;subst eo30))
               go_roundg kj7
               case measure=>have:=HK1.out;have:=HK2.out;have:=HJ7.out;omega
               case rel=>exact ⟨(x3_2),(ji14),(wrap64 (x7_2+(t426.length:Int))),(wrap64 (x19_2+1)),dU,(by first | rfl | (simp;done) | (simp only [←hji14]<;>(first | rfl | simp)) | (simp [*];done)),dU,dU,H',⟨by have:=HK1.out;have:=HK2.out;have:=HJ7.out;omega⟩,⟨ar⟩⟩
             ·
              replace c12:=Bool.eq_false_iff.mpr c12;subst c12
              replace H:=jO H
              by_cases c31:x19_2 > 0
              ·
               rw [if_pos c31] at H;have c31b0:decide (0<x19_2)=true:=decide_eq_true c31;clear c31
               obtain ⟨ji32,hji32⟩:∃ j_:Int,(mx x3_2 (wrap64 (x7_2+1)))=j_:=⟨_,rfl⟩
               replace H:((dn.f ((af (aQ l0 x12_1) x19_2).f0) ((af (aQ l0 x12_1) x19_2).f1) ((af (aQ l0 x12_1) x19_2).f2) ((af (aQ l0 x12_1) x19_2).f3) ((af (aQ l0 x12_1) x19_2).f4)).bind fun t429=>(aV.l1 kj7 l0 ji32 x4_2 x12_1 (aQ l0 x12_1) (wrap64 (x7_2+(t429.length:Int))) l0 (l0.length:Int) x12_1 (aQ l0 x12_1) ((aQ l0 x12_1).length:Int) (wrap64 (x19_2+1))))=some r:=by first | (rw [hji32] at H;exact H) | (simp only [hji32] at H ⊢;exact H)
               have hji32_:(if x3_2<(wrap64 (x7_2+1)) then (wrap64 (x7_2+1)) else x3_2)=ji32:=hji32;replace H:=bV H;obtain ⟨t429,A330,H⟩:=H;have A33:=aS A330;clear A330
               have H':=aS H
               clear H;have hcz34:=cR BK419
               go_wp2_with (first | ((with_reducible refine aC (f:=65) rfl ?_);refine bE (some 51) rfl rfl Tryz.func65 (by kernel_rfl) rfl #[.agg #[.string ((af (aQ l0 x12_1) x19_2).f0),.string ((af (aQ l0 x12_1) x19_2).f1),.int .i64 ((af (aQ l0 x12_1) x19_2).f2),.string ((af (aQ l0 x12_1) x19_2).f3),.bool ((af (aQ l0 x12_1) x19_2).f4)]] rfl cD ?_;(with_reducible refine (dn.calls ((af (aQ l0 x12_1) x19_2).f0) ((af (aQ l0 x12_1) x19_2).f1) ((af (aQ l0 x12_1) x19_2).f2) ((af (aQ l0 x12_1) x19_2).f3) ((af (aQ l0 x12_1) x19_2).f4) t429 _ A33.out).mono ?_);rintro e w35 ⟨v430,rfl,ho0,hb⟩;refine ⟨_,rfl,?_⟩;have HO431:=aS (Kd.bf ho0 (ay ar));replace BK419:=fA BK419 hb;replace HB:=aM hb;(try clear hb);(try clear hk);(try clear hi);(try clear ho0);obtain ⟨Ao36,co36,eo36⟩:=Kd.bq HO431.out;subst eo36))
               go_roundg kj7
               case measure=>have:=HK1.out;have:=HK2.out;have:=HJ7.out;omega
               case rel=>exact ⟨(ji32),(x4_2),(wrap64 (x7_2+(t429.length:Int))),(wrap64 (x19_2+1)),(by first | rfl | (simp;done) | (simp only [←hji32]<;>(first | rfl | simp)) | (simp [*];done)),dU,dU,dU,H',⟨by have:=HK1.out;have:=HK2.out;have:=HJ7.out;omega⟩,⟨ar⟩⟩
              ·
               rw [if_neg c31] at H;have c31b0:decide (0<x19_2)=false:=decide_eq_false c31;clear c31;replace H:=bV H;obtain ⟨t432,A370,H⟩:=H;have A37:=aS A370;clear A370
               have H':=aS H
               clear H;have hcz38:=cR BK419
               go_wp2_with (first | ((with_reducible refine aC (f:=65) rfl ?_);refine bE (some 51) rfl rfl Tryz.func65 (by kernel_rfl) rfl #[.agg #[.string ((af (aQ l0 x12_1) x19_2).f0),.string ((af (aQ l0 x12_1) x19_2).f1),.int .i64 ((af (aQ l0 x12_1) x19_2).f2),.string ((af (aQ l0 x12_1) x19_2).f3),.bool ((af (aQ l0 x12_1) x19_2).f4)]] rfl cD ?_;(with_reducible refine (dn.calls ((af (aQ l0 x12_1) x19_2).f0) ((af (aQ l0 x12_1) x19_2).f1) ((af (aQ l0 x12_1) x19_2).f2) ((af (aQ l0 x12_1) x19_2).f3) ((af (aQ l0 x12_1) x19_2).f4) t432 _ A37.out).mono ?_);rintro e w39 ⟨v433,rfl,ho0,hb⟩;refine ⟨_,rfl,?_⟩;have HO434:=aS (Kd.bf ho0 (ay ar));replace BK419:=fA BK419 hb;replace HB:=aM hb;(try clear hb);(try clear hk);(try clear hi);(try clear ho0);obtain ⟨Ao40,co40,eo40⟩:=Kd.bq HO434.out;subst eo40))
               go_roundg kj7
               case measure=>have:=HK1.out;have:=HK2.out;have:=HJ7.out;omega
               case rel=>exact ⟨(x3_2),(x4_2),(wrap64 (x7_2+(t432.length:Int))),(wrap64 (x19_2+1)),dU,dU,dU,dU,H',⟨by have:=HK1.out;have:=HK2.out;have:=HJ7.out;omega⟩,⟨ar⟩⟩
          ·
           rw [if_neg c7] at H;exact absurd H (by simp)
         ·
          rw [if_neg c6] at H;exact absurd H (by simp)
        ·
         rw [if_neg c5] at H;have c5b0:decide (x19_2<((aQ l0 x12_1).length:Int))=false:=decide_eq_false c5;clear c5
         have H':=aS H
         clear H
         go_wp2
         go_roundg k2
         case measure=>have:=HK1.out;have:=HK2.out;omega
         case rel=>exact ⟨(x3_2),(x4_2),(wrap64 (x12_1+1)),dU,dU,dU,H',⟨by have:=HK1.out;have:=HK2.out;omega⟩,⟨ar⟩⟩
     ·
      rw [if_neg c4] at H;exact absurd H (by simp)
    ·
     rw [if_neg c3] at H;exact absurd H (by simp)
   ·
    rw [if_neg c2] at H;have c2b0:decide (x12_1<(l0.length:Int))=false:=decide_eq_false c2;clear c2
    obtain rfl:=Option.some.inj H
    go_wp2
    go_ret
    exact ⟨dN,ar⟩
end Go.Proofs.YtcbhfedcdnjljaaGreat.X

import Derived.Test.YtcbhfedcdnjljaaGreatXx7
set_option maxHeartbeats 8000000
set_option maxRecDepth 100000
set_option linter.unusedVariables false
set_option linter.unusedSimpArgs false
namespace Go.Proofs.YtcbhfedcdnjljaaGreat.X
open Go.RowKit Go.Proofs.YtcbhfedcdnjljaaGreatW.PrintWords Go.Proofs.YtcbhfedcdnjljaaGreatW.PrintLast Go.Proofs.YtcbhfedcdnjljaaGreatW.PrintMore
attribute [local go_sem] gZ g_ iW iZ gF gD ic ig iX
mutual
def bD.j0:Nat→List (av)→Int→Bool→Option ((List (List (av))) × Int)
 | 0,_,_,_=>none
 | k+1,x0,x1,x16=>if x16=true then (some (([]:List (List (av))),1)) else (bD.l0 k x0 x1 ([]:List (List (av))))
def bD.l0:Nat→List (av)→Int→List (List (av))→Option ((List (List (av))) × Int)
 | 0,_,_,_=>none
 | k+1,x0,x1,x6=>if (x0.length:Int) > 0 then (bD.l1 k x0 x1 x6 0 x0 (x0.length:Int) 0) else (some (x6,0))
def bD.l1:Nat→List (av)→Int→List (List (av))→Int→List (av)→Int→Int→Option ((List (List (av))) × Int)
 | 0,_,_,_,_,_,_,_=>none
 | k+1,x0,x1,x6,x7,x20,x21,x22=>if x22<x21 then (if 0≤x22 then (if x22<(x20.length:Int) then ((dn.f ((af x20 x22).f0) ((af x20 x22).f1) ((af x20 x22).f2) ((af x20 x22).f3) ((af x20 x22).f4)).bind fun t444=>(if (wrap64 (x7+(t444.length:Int)))≥x1 then (if 0≤(wrap64 (x22+1)) then (if (wrap64 (x22+1))≤(x0.length:Int) then ((eW.f (x0.take ((wrap64 (x22+1)):Int).toNat)).bind fun t452=>(if x6.length<5864062014805 then (bD.l0 k (x0.drop ((wrap64 (x22+1)):Int).toNat) x1 (x6++[t452])) else (none))) else (none)) else (none)) else (bD.l1 k x0 x1 x6 (wrap64 (x7+(t444.length:Int))) x20 x21 (wrap64 (x22+1))))) else (none)) else (none)) else ((eW.f x0).bind fun t436=>(if x6.length<5864062014805 then (some ((x6++[t436]),0)) else (none)))
end
def bD.f (k:Nat) (l0:List (av)) (a1:Int):Option ((List (List (av))) × Int):=(aT.f k l0).bind fun t435=>(if t435=true then (bD.j0 k l0 a1 (decide (a1<1))) else (bD.j0 k l0 a1 true))
theorem bD.cP:∀ k,(∀ y0 y1 y2,aE (bD.j0 k y0 y1 y2) (bD.j0 (k+1) y0 y1 y2))∧(∀ y0 y1 y2,aE (bD.l0 k y0 y1 y2) (bD.l0 (k+1) y0 y1 y2))∧(∀ y0 y1 y2 y3 y4 y5 y6,aE (bD.l1 k y0 y1 y2 y3 y4 y5 y6) (bD.l1 (k+1) y0 y1 y2 y3 y4 y5 y6))
 | 0=>⟨fun _ _ _ r h=>by simp [bD.j0] at h,fun _ _ _ r h=>by simp [bD.l0] at h,fun _ _ _ _ _ _ _ r h=>by simp [bD.l1] at h⟩
 | k+1=>by
  obtain ⟨ih0,ih1,ih2⟩:=bD.cP k;refine ⟨?_,?_,?_⟩
  ·
   intro y0 y1 y2
   unfold bD.j0
   have m0:=@aT.mono;exact e8
  ·
   intro y0 y1 y2
   unfold bD.l0
   have m0:=@aT.mono;exact e8
  ·
   intro y0 y1 y2 y3 y4 y5 y6
   unfold bD.l1
   have m0:=@aT.mono;exact e8
theorem bD.mono:∀ a0 a1 k,aE (bD.f k a0 a1) (bD.f (k+1) a0 a1):=by
 intro a0 a1 k
 obtain ⟨ih0,ih1,ih2⟩:=bD.cP k
 unfold bD.f
 have m0:=@aT.mono;exact e8
def bD.T11:Bool × List (List Nat × List Nat):=(true,[([],[]),([],[]),([],[]),([2],[2]),([1,3],[1,3]),([4],[4]),([5],[5]),([0,6,5],[0,6]),([],[]),([],[]),([9],[9]),([8,10],[8,10]),([7,7,0,1,2,3,4,5,6,7],[0,7]),([11,12,0,1,2,3,4,5,6,7,8,9,10,11,12],[1,8,11])])
def bD.B11:List Nat:=[0,0,0,4,14,30,62,127,0,0,512,1792,255,8191]
theorem bD.E7:fC .any (opsOf Tryz.f68 11)=bD.T11:=by kernel_rfl
theorem bD.EO:fY bD.T11.2 bD.B11=true:=by kernel_rfl
theorem bD.calls (k:Nat) (P0_:Nat→Prop) (A0:Option Addr) (c0:Nat) (l0:List (av)) (a1:Int) (r1:List (List (av))) (r2:Int) (w:World) (hs0:Kd.V cC 34 w w.heap.size (fun k_=>P0_ k_) (.slice A0 l0.length c0) l0) (h:bD.f k l0 a1=some (r1,r2)) :
  Calls Tryz.prog 68 #[.slice A0 l0.length c0,.int .i64 a1] w fun e w'=>∃ v0_:Value,e = .returned (.tuple #[v0_,.int .i64 r2])∧Kd.S (Kd.slice 34 cC) 32 w' w.heap.size (fun k_=>(w.heap.size≤k_)) v0_ r1∧Below w.heap.size w w':=by
 have hu34:=Tryz.underlying34;have HO0:=aS (show Kd.V cC 34 w w.heap.size (fun k_=>(P0_ k_∨w.heap.size≤k_)) (.slice A0 l0.length c0) l0 from Kd.ez hs0 (fun k_ hk=>.inl hk));have HB:=aS (Below.refl w.heap.size w);have H:((aT.f k l0).bind fun t435=>(if t435=true then (bD.j0 k l0 a1 (decide (a1<1))) else (bD.j0 k l0 a1 true)))=some (r1,r2):=h;clear h;have HC3:=aS H;clear H
 go_enter Tryz.func68,Tryz.ntmps68
 go_upto_region 1 with (fail)
 apply wp_scope_straight
 go_upto_region 1 with (fail)
 go_cut [16] (fun v16 wc=>∃ (kq:Nat) (x16_2:Bool),v16 = .bool x16_2∧ak (bD.j0 kq l0 a1 x16_2=some (r1,r2))∧ak (kq≤k)∧ak (Kd.V cC 34 wc w.heap.size (fun k_=>(P0_ k_∨w.heap.size≤k_)) (.slice A0 l0.length c0) l0)∧ak (Below w.heap.size w wc))
 case first=>
  have H:=HC3.out;clear HC3;replace H:=bV H;obtain ⟨t435,A40,H⟩:=H;have A4:=aS A40;clear A40
  by_cases c5:t435=true
  ·
   subst c5
   replace H:=jQ H
   have H':=aS H
   clear H
   go_wp2_with (first | ((with_reducible refine aC (f:=73) rfl ?_);refine bE (some 11) rfl rfl Tryz.func73 (by kernel_rfl) rfl #[.slice A0 l0.length c0] rfl cD ?_;(with_reducible refine (aT.calls k _ _ l0 true _ ?side1 ?side2 A4.out).mono ?_);(case side1=>exact eN ((Kd.dI HO0.out).2.2));(case side2=>exact (Kd.dI HO0.out).2.1);rintro e w6 ⟨rfl,hb⟩;refine ⟨_,rfl,?_⟩;replace HO0:=aS (Kd.kS (sel HO0.out) hb);replace HB:=aM hb;(try clear hb);(try clear hk);(try clear hi)))
   go_meet
   case rel=>exact ⟨_,(decide (a1<1)),dU,H',⟨by first | omega | exact Nat.le_refl _⟩,⟨by (with_reducible repeat (first | apply Kd.fq | apply Kd.fp | apply Kd.eM));exact HO0.out⟩,⟨ar⟩⟩
  ·
   replace c5:=Bool.eq_false_iff.mpr c5;subst c5
   replace H:=jO H
   have H':=aS H
   clear H
   go_wp2_with (first | ((with_reducible refine aC (f:=73) rfl ?_);refine bE (some 11) rfl rfl Tryz.func73 (by kernel_rfl) rfl #[.slice A0 l0.length c0] rfl cD ?_;(with_reducible refine (aT.calls k _ _ l0 false _ ?side1 ?side2 A4.out).mono ?_);(case side1=>exact eN ((Kd.dI HO0.out).2.2));(case side2=>exact (Kd.dI HO0.out).2.1);rintro e w7 ⟨rfl,hb⟩;refine ⟨_,rfl,?_⟩;replace HO0:=aS (Kd.kS (sel HO0.out) hb);replace HB:=aM hb;(try clear hb);(try clear hk);(try clear hi)))
   go_meet
   case rel=>exact ⟨_,(true),dU,H',⟨by first | omega | exact Nat.le_refl _⟩,⟨by (with_reducible repeat (first | apply Kd.fq | apply Kd.fp | apply Kd.eM));exact HO0.out⟩,⟨ar⟩⟩
 case rest=>
  clear HC3;obtain ⟨kq,x16_2,rfl,HA,HJ2,HO_0,HB⟩:=hcut
  cases kq with
  | zero=>exact absurd HA.out (by simp [bD.j0])
  | succ kj2=>
   have H:=HA.out;clear HA
   simp only [bD.j0] at H
   by_cases c8:x16_2=true
   ·
    subst c8
    replace H:=jQ H
    simp only [Option.some.injEq,Prod.mk.injEq] at H
    obtain ⟨rfl,rfl⟩:=H
    go_wp2
    (try simp only [Exit.noGoto_ret])
    go_ret2
    exact ⟨_,dN,by first | exact Kd.gA _ _ _ _ _ | exact Kd.gy _ _ _ _ _ | exact Kd.fN _ _ _ _ _ | exact Kd.gB _ _ _ _ _ | exact Kd.dX _ _ _ _ _,ar⟩
   ·
    replace c8:=Bool.eq_false_iff.mpr c8;subst c8
    replace H:=jO H
    have H':=aS H
    clear H
    go_wp2
    apply wp_label
    go_wp2
    go_loopg [0,6] kj2 (fun kq v0 v6 w'=>∃ (x0_2:List (av)) (x6_2:List (List (av))),ak (bD.l0 kq x0_2 a1 x6_2=some (r1,r2))∧ak (kq≤kj2)∧ak (Kd.V cC 34 w' w.heap.size (fun k_=>(P0_ k_∨w.heap.size≤k_)∧some k_≠(v6:Value).ownBlock) v0 x0_2)∧ak (Kd.S (Kd.slice 34 cC) 32 w' w.heap.size (fun k_=>(w.heap.size≤k_)) v6 x6_2)∧ak (Below w.heap.size w w'))
    case atStart=>exact ⟨(l0),(([]:List (List (av)))),H',⟨Nat.le_refl _⟩,⟨by (with_reducible repeat (first | apply Kd.fq | apply Kd.fp | apply Kd.eM));exact Kd.ez HO_0.out (fun _ hk=>⟨hk,(by simp [Value.ownBlock])⟩)⟩,⟨by first | exact Kd.gA _ _ _ _ _ | exact Kd.gy _ _ _ _ _ | exact Kd.fN _ _ _ _ _ | exact Kd.gB _ _ _ _ _ | exact Kd.dX _ _ _ _ _⟩,⟨ar⟩⟩
    case round=>
     clear H';(try clear c8);(try clear HO_0);(try clear HB);obtain ⟨x0_2,x6_2,HA,HK2,HO_0,HO_6,HB⟩:=hrel
     cases gk with
     | zero=>exact absurd HA.out (by simp [bD.l0])
     | succ k2=>
      have H:=HA.out;clear HA
      simp only [bD.l0] at H
      by_cases c9:(x0_2.length:Int) > 0
      ·
       rw [if_pos c9] at H;have c9b0:decide (0<(x0_2.length:Int))=true:=decide_eq_true c9;have c9b1:decide (0<x0_2.length)=true:=decide_eq_true (by omega);clear c9
       have H':=aS H
       clear H;obtain ⟨Ao10,co10,eo10⟩:=Kd.lI HO_0.out;subst eo10
       go_wp2
       go_loopg [0,6,7,22] k2 (fun kq v0 v6 v7 v22 w'=>∃ (x0_3:List (av)) (x6_3:List (List (av))) (x7_3:Int) (x22_3:Int),v7 = .int .i64 x7_3∧v22 = .int .i64 x22_3∧ak (bD.l1 kq x0_3 a1 x6_3 x7_3 x0_2 (x0_2.length:Int) x22_3=some (r1,r2))∧ak (kq≤k2)∧ak (Kd.V cC 34 w' w.heap.size (fun k_=>(P0_ k_∨w.heap.size≤k_)∧some k_≠(v6:Value).ownBlock) v0 x0_3)∧ak (Kd.S (Kd.slice 34 cC) 32 w' w.heap.size (fun k_=>(w.heap.size≤k_)) v6 x6_3)∧ak (Kd.V cC 34 w' w.heap.size (fun k_=>(P0_ k_∨w.heap.size≤k_)∧some k_≠(v6:Value).ownBlock) (.slice Ao10 x0_2.length co10) x0_2)∧ak (Below w.heap.size w w'))
       case atStart=>exact ⟨(x0_2),(x6_2),(0),(0),dU,dU,H',⟨Nat.le_refl _⟩,⟨by (with_reducible repeat (first | apply Kd.fq | apply Kd.fp | apply Kd.eM));exact HO_0.out⟩,⟨by (with_reducible repeat (first | apply Kd.iK | apply Kd.iL | apply Kd.jk));exact HO_6.out⟩,⟨by (with_reducible repeat (first | apply Kd.fq | apply Kd.fp | apply Kd.eM));exact HO_0.out⟩,⟨ar⟩⟩
       case round=>
        clear H';(try clear c8);(try clear c9);(try clear c9b0);(try clear c9b1);(try clear HO_0);(try clear HO_6);(try clear HB);obtain ⟨x0_3,x6_3,x7_3,x22_3,rfl,rfl,HA,HK3,HO_0,HO_6,HO_20,HB⟩:=hrel
        cases gk with
        | zero=>exact absurd HA.out (by simp [bD.l1])
        | succ k3=>
         have H:=HA.out;clear HA
         simp only [bD.l1] at H
         by_cases c11:x22_3<(x0_2.length:Int)
         ·
          rw [if_pos c11] at H;have c11b0:decide (x22_3<(x0_2.length:Int))=true:=decide_eq_true c11;clear c11
          by_cases c12:0≤x22_3
          ·
           rw [if_pos c12] at H;have c12b0:decide (0≤x22_3)=true:=decide_eq_true c12;clear c12
           by_cases c13:x22_3<(x0_2.length:Int)
           ·
            rw [if_pos c13] at H;have c13b0:decide (x22_3<(x0_2.length:Int))=true:=decide_eq_true c13;clear c13;replace H:=bV H;obtain ⟨t444,A140,H⟩:=H;have A14:=aS A140;clear A140
            by_cases c15:(wrap64 (x7_3+(t444.length:Int)))≥a1
            ·
             rw [if_pos c15] at H;have c15b0:decide (a1≤(wrap64 (x7_3+(t444.length:Int))))=true:=decide_eq_true c15;clear c15
             obtain ⟨ji16,hji16⟩:∃ j_:Int,(wrap64 (x22_3+1))=j_:=⟨_,rfl⟩
             replace H:(if 0≤(ji16) then (if (ji16)≤(x0_3.length:Int) then ((eW.f (x0_3.take ((ji16):Int).toNat)).bind fun t452=>(if x6_3.length<5864062014805 then (bD.l0 k3 (x0_3.drop ((ji16):Int).toNat) a1 (x6_3++[t452])) else (none))) else (none)) else (none))=some (r1,r2):=by first | (rw [hji16] at H;exact H) | (simp only [hji16] at H ⊢;exact H)
             (try rw [hji16] at A14)
             have hji16w:(IntKind.i64.wrap (x22_3+1))=ji16:=(bC _).trans hji16
             by_cases c17:0≤(ji16)
             ·
              rw [if_pos c17] at H;have c17b0:=eq_true c17;have c17b1:decide (0≤(ji16))=true:=decide_eq_true c17;clear c17
              by_cases c18:(ji16)≤(x0_3.length:Int)
              ·
               rw [if_pos c18] at H;have c18b0:=eq_true c18;have c18b1:decide ((ji16)≤(x0_3.length:Int))=true:=decide_eq_true c18;clear c18
               obtain ⟨y447,hy447⟩:∃ y_:List (av),y_=(x0_3.take ((ji16):Int).toNat):=⟨_,rfl⟩
               (first | replace H:=j8 hy447 H | rw [←hy447] at H);have Ny447:=aS hy447;clear hy447;replace H:=bV H;obtain ⟨t452,A190,H⟩:=H;have A19:=aS A190;clear A190
               by_cases c20:x6_3.length<5864062014805
               ·
                rw [if_pos c20] at H;have LMc20:=aS c20;clear c20
                obtain ⟨y455,hy455⟩:∃ y_:List (List (av)),y_=(x6_3++[t452]):=⟨_,rfl⟩
                (first | replace H:=j8 hy455 H | rw [←hy455] at H);have Ny455:=aS hy455;clear hy455;have c21b0:=eq_true (cG:0≤(ji16));have c22b0:=eq_true (cG:(ji16)≤(x0_3.length:Int))
                obtain ⟨y458,hy458⟩:∃ y_:List (av),y_=(x0_3.drop ((ji16):Int).toNat):=⟨_,rfl⟩
                replace H:(bD.l0 k3 y458 a1 y455)=some (r1,r2):=pE hy458 H;have Ny458:=aS hy458;clear hy458
                have H':=aS H
                clear H;have p442:0≤(x22_3:Int):=cG;have q442:x22_3<(x0_2.length:Int):=cG;obtain ⟨ad442,e442,hx442_0,hx442_1,hx442_2,hx442_3,hx442_4⟩:=eT (Kd.dI HO_20.out).2.2 x22_3 p442 q442;cases e442;replace p442:=eq_true p442;replace q442:=eq_true q442
                try go_wp2_with (first | ((with_reducible refine aX (N:=9) rfl ?_);refine aY ?hg (N:=9) ?hd (cs:=#[.string (⟨#[]⟩:ByteArray),.string (⟨#[]⟩:ByteArray),.int .i64 0,.string (⟨#[]⟩:ByteArray),.bool false]) (t:=34) ?hr ?_;(case hd=>rfl);(case hg=>rfl);(case hr=>first | (go_simp;done) | (go_simp;rfl));intro gb443 hg w23 hbox hb;replace HO_0:=aS (Kd.kS (Kd.qO (sel HO_0.out) gb443 (Nat.le_of_eq hg.symm)) hb);replace HO_6:=aS (Kd.lO (Kd.xu (by (with_reducible repeat (first | apply Kd.iK | apply Kd.iL | apply Kd.jk));exact HO_6.out) gb443 (Nat.le_of_eq hg.symm)) hb);replace HO_20:=aS (Kd.kS (Kd.qO (sel HO_20.out) gb443 (Nat.le_of_eq hg.symm)) hb);have BK443:=aS (hbox);have GW443:=bsize hg;have GE443:=bsize hg;replace HB:=aM hb;clear hb hbox hg;have hcz24:=cR BK443) | ((with_reducible refine aC (f:=65) rfl ?_);refine bE (some 29) rfl rfl Tryz.func65 (by kernel_rfl) rfl #[.agg #[.string ((af x0_2 x22_3).f0),.string ((af x0_2 x22_3).f1),.int .i64 ((af x0_2 x22_3).f2),.string ((af x0_2 x22_3).f3),.bool ((af x0_2 x22_3).f4)]] rfl cD ?_;(with_reducible refine (dn.calls ((af x0_2 x22_3).f0) ((af x0_2 x22_3).f1) ((af x0_2 x22_3).f2) ((af x0_2 x22_3).f3) ((af x0_2 x22_3).f4) t444 _ A14.out).mono ?_);rintro e w25 ⟨v445,rfl,ho0,hb⟩;refine ⟨_,rfl,?_⟩;replace HO_0:=aS (Kd.di (by (with_reducible repeat (first | apply Kd.fq | apply Kd.fp | apply Kd.eM));exact (Kd.ez (Kd.jm (p:=⟨gb443,4,none⟩) (Kd.jm (p:=⟨gb443,3,none⟩) (Kd.jm (p:=⟨gb443,2,none⟩) (Kd.jm (p:=⟨gb443,1,none⟩) (Kd.jm (p:=⟨gb443,0,none⟩) (Kd.ez HO_0.out (fun k_ hk=>(⟨hk,hk.2⟩:_∧k_≠gb443))) (fun _ hk=>hk.2) (.string ((af x0_2 x22_3).f0))) (fun _ hk=>hk.2) (.string ((af x0_2 x22_3).f1))) (fun _ hk=>hk.2) (.int .i64 ((af x0_2 x22_3).f2))) (fun _ hk=>hk.2) (.string ((af x0_2 x22_3).f3))) (fun _ hk=>hk.2) (.bool ((af x0_2 x22_3).f4))) (fun _ h_=>h_.1))) (dh ho0) hb);replace HO_6:=aS (Kd.lO (by (with_reducible repeat (first | apply Kd.iK | apply Kd.iL | apply Kd.jk));exact (Kd.kN (Kd.nG (p:=⟨gb443,4,none⟩) (Kd.nG (p:=⟨gb443,3,none⟩) (Kd.nG (p:=⟨gb443,2,none⟩) (Kd.nG (p:=⟨gb443,1,none⟩) (Kd.nG (p:=⟨gb443,0,none⟩) (Kd.kN HO_6.out (fun k_ hk=>(⟨hk,hk.2⟩:_∧k_≠gb443))) (fun _ hk=>hk.2) (.string ((af x0_2 x22_3).f0))) (fun _ hk=>hk.2) (.string ((af x0_2 x22_3).f1))) (fun _ hk=>hk.2) (.int .i64 ((af x0_2 x22_3).f2))) (fun _ hk=>hk.2) (.string ((af x0_2 x22_3).f3))) (fun _ hk=>hk.2) (.bool ((af x0_2 x22_3).f4))) (fun _ h_=>h_.1))) hb);replace HO_20:=aS (Kd.di (by (with_reducible repeat (first | apply Kd.fq | apply Kd.fp | apply Kd.eM));exact (Kd.ez (Kd.jm (p:=⟨gb443,4,none⟩) (Kd.jm (p:=⟨gb443,3,none⟩) (Kd.jm (p:=⟨gb443,2,none⟩) (Kd.jm (p:=⟨gb443,1,none⟩) (Kd.jm (p:=⟨gb443,0,none⟩) (Kd.ez HO_20.out (fun k_ hk=>(⟨hk,hk.2⟩:_∧k_≠gb443))) (fun _ hk=>hk.2) (.string ((af x0_2 x22_3).f0))) (fun _ hk=>hk.2) (.string ((af x0_2 x22_3).f1))) (fun _ hk=>hk.2) (.int .i64 ((af x0_2 x22_3).f2))) (fun _ hk=>hk.2) (.string ((af x0_2 x22_3).f3))) (fun _ hk=>hk.2) (.bool ((af x0_2 x22_3).f4))) (fun _ h_=>h_.1))) (dh ho0) hb);have HO446:=aS (Kd.bf (Kd.ko (M:=fun k_=>(w.heap.size≤k_)) ho0 (ay ar) (fun k_ h_=>h_)) (ay ar));replace BK443:=aS (aK (g:=gb443) (o:=.cells #[.string ((af x0_2 x22_3).f0),.string ((af x0_2 x22_3).f1),.int .i64 ((af x0_2 x22_3).f2),.string ((af x0_2 x22_3).f3),.bool ((af x0_2 x22_3).f4)] 34 (0,0)) (by (with_reducible repeat (first | refine aA ?_ _ | refine au ?_ | refine ax ?_ _));refine bn (cs:=#[.string ((af x0_2 x22_3).f0),.string ((af x0_2 x22_3).f1),.int .i64 ((af x0_2 x22_3).f2),.string ((af x0_2 x22_3).f3),.bool false]) ?_ 4 _ rfl;(with_reducible repeat (first | refine aA ?_ _ | refine au ?_ | refine ax ?_ _));refine bn (cs:=#[.string ((af x0_2 x22_3).f0),.string ((af x0_2 x22_3).f1),.int .i64 ((af x0_2 x22_3).f2),.string (⟨#[]⟩:ByteArray),.bool false]) ?_ 3 _ rfl;(with_reducible repeat (first | refine aA ?_ _ | refine au ?_ | refine ax ?_ _));refine bn (cs:=#[.string ((af x0_2 x22_3).f0),.string ((af x0_2 x22_3).f1),.int .i64 0,.string (⟨#[]⟩:ByteArray),.bool false]) ?_ 2 _ rfl;(with_reducible repeat (first | refine aA ?_ _ | refine au ?_ | refine ax ?_ _));refine bn (cs:=#[.string ((af x0_2 x22_3).f0),.string (⟨#[]⟩:ByteArray),.int .i64 0,.string (⟨#[]⟩:ByteArray),.bool false]) ?_ 1 _ rfl;(with_reducible repeat (first | refine aA ?_ _ | refine au ?_ | refine ax ?_ _));refine bn (cs:=#[.string (⟨#[]⟩:ByteArray),.string (⟨#[]⟩:ByteArray),.int .i64 0,.string (⟨#[]⟩:ByteArray),.bool false]) ?_ 0 _ rfl;(with_reducible repeat (first | refine aA ?_ _ | refine au ?_ | refine ax ?_ _));exact BK443.out) hb);replace HB:=aM hb;(try clear hb);(try clear hk);(try clear hi);(try clear ho0);obtain ⟨Ao26,co26,eo26⟩:=Kd.bq HO446.out;subst eo26))
                replace HO_0:=aS (Kd.eM HO_0.out);replace HO_6:=aS (Kd.jk HO_6.out);replace HO_20:=aS (Kd.eM HO_20.out);replace HO446:=aS (Kd.bP HO446.out);replace BK443:=aS (au BK443.out);replace HB:=aS (jG HB.out);obtain ⟨Ao29,co29,eo29⟩:=Kd.lI HO_0.out
                (first | subst eo29 | (injection eo29 with f1_ f2_ f3_;have f4_:=f1_.symm;have f5_:=f3_.symm;clear f1_ f2_ f3_;subst f4_;subst f5_))
                have q28:((ji16):Int)≤((x0_3.length:Int):Int):=cG;obtain ⟨i028,hi028,_,hsz28,_⟩:=info_parts fe;have hroom28:x0_3.length≤co29:=(Kd.dI HO_0.out).2.1;have hC28:Kd.F cC _ _ Ao29 x0_3.length x0_3:=(Kd.nY (base:=w.heap.size) HO_0.out).2.2;have hcut28:=jR (P:=Tryz.prog) 32 34 .i64 Tryz.underlying32 hi028 Ao29 x0_3.length co29 (ji16) (cG) q28 hroom28;have hr28:=Kd.rW (m:=((ji16):Int).toNat) hC28 (by omega);have hy28:y447.length=((ji16):Int).toNat:=(by rw [Ny447.out,kX];omega);rw [←Ny447.out] at hr28;rw [←hy28] at hcut28;have HO451:=aS (show Kd.V cC 34 _ w.heap.size _ (.slice Ao29 y447.length co29) y447 from Kd.nA (by omega) hr28);have HC451:=aS (show y447.length≤co29 from by omega);clear hr28 hC28 hroom28 hi028 hsz28;have KY28:=aS hy28;clear hy28;replace q28:=eq_true q28;have q30:((ji16):Int)≤((x0_3.length:Int):Int):=cG;obtain ⟨i030,hi030,_,hsz30,_⟩:=info_parts fe;have hroom30:x0_3.length≤co29:=(Kd.dI HO_0.out).2.1;have hC30:Kd.F cC _ _ Ao29 x0_3.length x0_3:=(Kd.nY (base:=w.heap.size) HO_0.out).2.2;have q030:(0:Int)≤((ji16):Int):=cG;have hcut30:=gG (P:=Tryz.prog) 32 34 .i64 Tryz.underlying32 hi030 5 hsz30 Ao29 x0_3.length co29 (ji16) q030 q30;have hr30:=Kd.AB (m:=((ji16):Int).toNat) (c:=co29) hC30 (by omega) hroom30
                obtain ⟨A30,hA30⟩:∃ A1_,A1_=(if co29=((ji16):Int).toNat then Ao29 else (Ao29:Option Addr).map (·.add (((ji16):Int).toNat*5))):=⟨_,rfl⟩
                obtain ⟨c30,hc30⟩:∃ c1_,c1_=co29 - ((ji16):Int).toNat:=⟨_,rfl⟩
                have hy30:y458.length=x0_3.length - ((ji16):Int).toNat:=(by rw [Ny458.out,lY]<;>omega);rw [show (x0_3).drop ((ji16):Int).toNat=y458 from Ny458.out.symm] at hr30;replace hr30:Kd.F cC _ _ A30 y458.length y458:=(by rw [hA30];exact hr30);rw [←hy30,← hA30,← hc30] at hcut30;have HO462:=aS (show Kd.V cC 34 _ w.heap.size _ (.slice A30 y458.length c30) y458 from Kd.nA (by rw [hy30,hc30];exact Nat.sub_le_sub_right hroom30 _) hr30);have HC462:=aS (show y458.length≤c30 from by rw [hy30,hc30];exact Nat.sub_le_sub_right hroom30 _);clear hr30 hC30 hroom30 hi030 hsz30 hc30;have KY30:=aS hy30;have KA30:=aS hA30;clear hy30 hA30;replace q30:=eq_true q30;refine dz (n:=14) (S:=fun w'=>True) (ds:=[]) (bA 14 0) (by kernel_rfl) rfl rfl trivial (fun hHeld=>?_);refine cH bD.E7 bD.EO (fun HT_ HW_=>?_)
                generalize w25.drew=w27 at HO_0 HO_6 HO_20 HO446 BK443 HB HO451 HO462 hHeld ⊢
                refine aZ [(0,35),(1,36),(2,37),(3,38),(4,39),(8,43),(9,44),(10,45),(11,46)] ?_
                iterate 9 (refine cr HT_ ?_)
                refine bX (bA 14 3871) (by kernel_rfl) ?_;refine dJ 5 (N:=some 40) (bA 14 3903) HT_ (fun K hK=>?_);refine ep Tryz.func52 (by kernel_rfl) rfl #[.slice Ao29 y447.length co29] (by rfl) rfl rfl cD ?_
                with_reducible refine (eW.calls _ _ y447 t452 _ ?side1 ?side2 A19.out).mono ?_
                (case side1=>exact eN ((Kd.dI HO451.out).2.2))
                (case side2=>exact (Kd.dI HO451.out).2.1)
                rintro e w31 ⟨v453,rfl,ho0,hb⟩
                refine ⟨_,rfl,?_⟩;replace HO_0:=aS (Kd.di (sel HO_0.out) (dh ho0) hb);replace HO_6:=aS (Kd.xR (by (with_reducible repeat (first | apply Kd.iK | apply Kd.iL | apply Kd.jk));exact HO_6.out) (dh ho0) hb);replace HO_20:=aS (Kd.di (sel HO_20.out) (dh ho0) hb);replace HO446:=aS (Kd.dA (rel HO446.out) hb);replace HO451:=aS (Kd.di (sel HO451.out) (dh ho0) hb);replace HO462:=aS (Kd.di (sel HO462.out) (dh ho0) hb);have HO454:=aS (Kd.bf (Kd.pQ (Kd.ko (M:=fun k_=>(w.heap.size≤k_)) ho0 (ay ar) (fun k_ h_=>h_)) (g:=gb443) (o:=.cells #[.string ((af x0_2 x22_3).f0),.string ((af x0_2 x22_3).f1),.int .i64 ((af x0_2 x22_3).f2),.string ((af x0_2 x22_3).f3),.bool ((af x0_2 x22_3).f4)] 34 (0,0)) (eB BK443.out)) (ay ar));replace BK443:=fA BK443 hb;replace HB:=aM hb;(try clear hb);(try clear hk);(try clear hi);(try clear ho0);obtain ⟨Ao33,co33,eo33⟩:=Kd.bq HO454.out
                (first | subst eo33 | (injection eo33 with f1_ f2_ f3_;have f4_:=f1_.symm;have f5_:=f3_.symm;clear f1_ f2_ f3_;subst f4_;subst f5_))
                refine hK.out _ _ trivial (fun hHeld=>?_);clear hK K;refine nm 40 ?_;refine dJ 6 (N:=some 41) (bA 14 3967) HT_ (fun K hK=>?_);refine lX (w1:=?_) (v:=?_) (by rfl) rfl ?_ ?_
                rotate_left 2
                ·
                 go_simp
                 constructor
                 ·
                  rfl
                 ·
                  rfl
                refine hK.out _ _ trivial (fun hHeld=>?_);clear hK K;refine nm 41 ?_;refine dJ 7 (N:=some 42) (bA 14 4095) HT_ (fun K hK=>?_);refine Kd.vU (Kd.slice 34 cC) (w0:=w) w.heap.size (by rfl) (.tmp 35) (.tmp 41) 73 32 (.slice none 0 0) 24 rfl Tryz.underlying73 qd rfl (by decide) (by omega) u6 x6_3 t452 [.slice Ao33 t452.length co33] (fun k_=>(w.heap.size≤k_)∧k_≠gb443) (fun k_=>some k_=(.slice Ao33 t452.length co33:Value).ownBlock) rfl rfl ?aP (fun k_ hk_=>((Kd.aH (ok':=fun k_=>((fun k_=>(w.heap.size≤k_)∧k_≠gb443)) k_∧some k_≠(u6:Value).ownBlock) (Kd.oY (HO454.out) (Kd.qm HO_6.out) (by decide)) (fun k_ hk=>⟨⟨hk.1.1.1,hk.1.2⟩,hk.2⟩))).1 k_ hk_.symm) ?aF ?aO ?aB ?aS ?aL ?_
                (case aP=>exact Kd.tU (Kd.aH (Kd.jJ rfl (Kd.aH (ok':=fun k_=>((fun k_=>(w.heap.size≤k_)∧k_≠gb443)) k_∧some k_≠(u6:Value).ownBlock) (Kd.oY (HO454.out) (Kd.qm HO_6.out) (by decide)) (fun k_ hk=>⟨⟨hk.1.1.1,hk.1.2⟩,hk.2⟩))) (fun _ h_=>h_)))
                (case aB=>exact ar)
                (case aF=>exact (fun k_ hk=>⟨(Nat.le_trans (ay ar) hk),Kd.nQ (g:=gb443) (o:=.cells #[.string ((af x0_2 x22_3).f0),.string ((af x0_2 x22_3).f1),.int .i64 ((af x0_2 x22_3).f2),.string ((af x0_2 x22_3).f3),.bool ((af x0_2 x22_3).f4)] 34 (0,0)) (eB BK443.out) k_ hk⟩))
                (case aO=>exact (by (with_reducible repeat (first | apply Kd.iK | apply Kd.iL | apply Kd.jk));exact Kd.kN HO_6.out (fun k_ hk=>⟨⟨hk.1.1,hk.1.2⟩,fun e_=>hk.2 e_⟩)))
                (case aS=>exact (ay ar))
                (case aL=>have:=LMc20.out;omega)
                intro v456 w32 ho hb hg hat
                rw [←Ny455.out] at ho;have n0_:=aS (Kd.mh (ok:=(fun k_=>(P0_ k_∨w.heap.size≤k_)∧some k_≠(.slice Ao26 t444.length co26:Value).ownBlock∧some k_≠(.slice Ao33 t452.length co33:Value).ownBlock∧k_≠gb443)) (by (with_reducible repeat (first | apply Kd.fq | apply Kd.fp | apply Kd.eM));exact Kd.ez HO_0.out (fun _ hk=>⟨⟨hk.1.1.1.1,⟨hk.1.2,⟨hk.2,hk.1.1.2⟩⟩⟩,hk.1.1.1.2⟩)) hg hat);have n1_:=aS (Kd.mh (ok:=(fun k_=>(P0_ k_∨w.heap.size≤k_)∧some k_≠(.slice Ao26 t444.length co26:Value).ownBlock∧some k_≠(.slice Ao33 t452.length co33:Value).ownBlock∧k_≠gb443)) (by (with_reducible repeat (first | apply Kd.fq | apply Kd.fp | apply Kd.eM));exact Kd.ez HO_20.out (fun _ hk=>⟨⟨hk.1.1.1.1,⟨hk.1.2,⟨hk.2,hk.1.1.2⟩⟩⟩,hk.1.1.1.2⟩)) hg hat);have n2_:=aS (er (g:=gb443) (o:=.cells #[.string ((af x0_2 x22_3).f0),.string ((af x0_2 x22_3).f1),.int .i64 ((af x0_2 x22_3).f2),.string ((af x0_2 x22_3).f3),.bool ((af x0_2 x22_3).f4)] 34 (0,0)) (eB BK443.out) hg (Kd.FB HO_6.out BK443.out (by decide)));have n3_:=aS (Kd.ze (rel HO446.out) (Kd.qm (by (with_reducible repeat (first | apply Kd.iK | apply Kd.iL | apply Kd.jk));exact HO_6.out)) (by decide) hg);have n4_:=aS (Kd.mh (ok:=(fun k_=>(P0_ k_∨w.heap.size≤k_)∧some k_≠(.slice Ao26 t444.length co26:Value).ownBlock∧some k_≠(.slice Ao33 t452.length co33:Value).ownBlock∧k_≠gb443)) (by (with_reducible repeat (first | apply Kd.fq | apply Kd.fp | apply Kd.eM));exact Kd.ez HO451.out (fun _ hk=>⟨⟨hk.1.1.1.1,⟨hk.1.2,⟨hk.2,hk.1.1.2⟩⟩⟩,hk.1.1.1.2⟩)) hg hat);have n5_:=aS (Kd.mh (ok:=(fun k_=>(P0_ k_∨w.heap.size≤k_)∧some k_≠(.slice Ao26 t444.length co26:Value).ownBlock∧some k_≠(.slice Ao33 t452.length co33:Value).ownBlock∧k_≠gb443)) (by (with_reducible repeat (first | apply Kd.fq | apply Kd.fp | apply Kd.eM));exact Kd.ez HO462.out (fun _ hk=>⟨⟨hk.1.1.1.1,⟨hk.1.2,⟨hk.2,hk.1.1.2⟩⟩⟩,hk.1.1.1.2⟩)) hg hat);have n6_:=aS (hb);have n7_:=aS (ho);clear HO_0;clear HO_20;clear BK443;clear HO446;clear HO451;clear HO462;clear HB;clear HO_6;clear HO454;have HO_0:=n0_;have HO_20:=n1_;have BK443:=n2_;have HO446:=n3_;have HO451:=n4_;have HO462:=n5_;have HB:=n6_;have HO457:=n7_;clear n0_ n1_ n2_ n3_ n4_ n5_ n6_ n7_;clear ho hb hg hat;refine hK.out _ _ trivial (fun hHeld=>?_);clear hK K;refine nm 42 ?_;refine aZ [(12,6),(13,0)] ?_
                iterate 2 (refine cr HT_ ?_)
                refine bX (bA 14 16383) (by kernel_rfl) ?_;refine dQ (cX HT_.out (by kernel_rfl)) ?_
                try go_wp2
                go_roundg k3
                case measure=>have:=HJ2.out;have:=HK2.out;have:=HK3.out;omega
                case rel=>exact ⟨(y458),(y455),H',⟨by have:=HJ2.out;have:=HK2.out;have:=HK3.out;omega⟩,⟨by (with_reducible repeat (first | apply Kd.fq | apply Kd.fp | apply Kd.eM));exact Kd.ez HO462.out (fun _ hk=>⟨hk.1.1,hk.2⟩)⟩,⟨by (with_reducible repeat (first | apply Kd.iK | apply Kd.iL | apply Kd.jk));exact Kd.kN HO457.out (fun _ hk=>hk.1)⟩,⟨ar⟩⟩
               ·
                rw [if_neg c20] at H;exact absurd H (by simp)
              ·
               rw [if_neg c18] at H;exact absurd H (by simp)
             ·
              rw [if_neg c17] at H;exact absurd H (by simp)
            ·
             rw [if_neg c15] at H;have c15b0:decide (a1≤(wrap64 (x7_3+(t444.length:Int))))=false:=decide_eq_false c15;clear c15
             have H':=aS H
             clear H;have p442:0≤(x22_3:Int):=cG;have q442:x22_3<(x0_2.length:Int):=cG;obtain ⟨ad442,e442,hx442_0,hx442_1,hx442_2,hx442_3,hx442_4⟩:=eT (Kd.dI HO_20.out).2.2 x22_3 p442 q442;cases e442;replace p442:=eq_true p442;replace q442:=eq_true q442
             go_wp2_with (first | ((with_reducible refine aX (N:=9) rfl ?_);refine aY ?hg (N:=9) ?hd (cs:=#[.string (⟨#[]⟩:ByteArray),.string (⟨#[]⟩:ByteArray),.int .i64 0,.string (⟨#[]⟩:ByteArray),.bool false]) (t:=34) ?hr ?_;(case hd=>rfl);(case hg=>rfl);(case hr=>first | (go_simp;done) | (go_simp;rfl));intro gb443 hg w34 hbox hb;replace HO_0:=aS (Kd.kS (Kd.qO (sel HO_0.out) gb443 (Nat.le_of_eq hg.symm)) hb);replace HO_6:=aS (Kd.lO (Kd.xu (by (with_reducible repeat (first | apply Kd.iK | apply Kd.iL | apply Kd.jk));exact HO_6.out) gb443 (Nat.le_of_eq hg.symm)) hb);replace HO_20:=aS (Kd.kS (Kd.qO (sel HO_20.out) gb443 (Nat.le_of_eq hg.symm)) hb);have BK443:=aS (hbox);have GW443:=bsize hg;have GE443:=bsize hg;replace HB:=aM hb;clear hb hbox hg;have hcz35:=cR BK443) | ((with_reducible refine aC (f:=65) rfl ?_);refine bE (some 29) rfl rfl Tryz.func65 (by kernel_rfl) rfl #[.agg #[.string ((af x0_2 x22_3).f0),.string ((af x0_2 x22_3).f1),.int .i64 ((af x0_2 x22_3).f2),.string ((af x0_2 x22_3).f3),.bool ((af x0_2 x22_3).f4)]] rfl cD ?_;(with_reducible refine (dn.calls ((af x0_2 x22_3).f0) ((af x0_2 x22_3).f1) ((af x0_2 x22_3).f2) ((af x0_2 x22_3).f3) ((af x0_2 x22_3).f4) t444 _ A14.out).mono ?_);rintro e w36 ⟨v445,rfl,ho0,hb⟩;refine ⟨_,rfl,?_⟩;replace HO_0:=aS (Kd.di (by (with_reducible repeat (first | apply Kd.fq | apply Kd.fp | apply Kd.eM));exact (Kd.ez (Kd.jm (p:=⟨gb443,4,none⟩) (Kd.jm (p:=⟨gb443,3,none⟩) (Kd.jm (p:=⟨gb443,2,none⟩) (Kd.jm (p:=⟨gb443,1,none⟩) (Kd.jm (p:=⟨gb443,0,none⟩) (Kd.ez HO_0.out (fun k_ hk=>(⟨hk,hk.2⟩:_∧k_≠gb443))) (fun _ hk=>hk.2) (.string ((af x0_2 x22_3).f0))) (fun _ hk=>hk.2) (.string ((af x0_2 x22_3).f1))) (fun _ hk=>hk.2) (.int .i64 ((af x0_2 x22_3).f2))) (fun _ hk=>hk.2) (.string ((af x0_2 x22_3).f3))) (fun _ hk=>hk.2) (.bool ((af x0_2 x22_3).f4))) (fun _ h_=>h_.1))) (dh ho0) hb);replace HO_6:=aS (Kd.lO (by (with_reducible repeat (first | apply Kd.iK | apply Kd.iL | apply Kd.jk));exact (Kd.kN (Kd.nG (p:=⟨gb443,4,none⟩) (Kd.nG (p:=⟨gb443,3,none⟩) (Kd.nG (p:=⟨gb443,2,none⟩) (Kd.nG (p:=⟨gb443,1,none⟩) (Kd.nG (p:=⟨gb443,0,none⟩) (Kd.kN HO_6.out (fun k_ hk=>(⟨hk,hk.2⟩:_∧k_≠gb443))) (fun _ hk=>hk.2) (.string ((af x0_2 x22_3).f0))) (fun _ hk=>hk.2) (.string ((af x0_2 x22_3).f1))) (fun _ hk=>hk.2) (.int .i64 ((af x0_2 x22_3).f2))) (fun _ hk=>hk.2) (.string ((af x0_2 x22_3).f3))) (fun _ hk=>hk.2) (.bool ((af x0_2 x22_3).f4))) (fun _ h_=>h_.1))) hb);replace HO_20:=aS (Kd.di (by (with_reducible repeat (first | apply Kd.fq | apply Kd.fp | apply Kd.eM));exact (Kd.ez (Kd.jm (p:=⟨gb443,4,none⟩) (Kd.jm (p:=⟨gb443,3,none⟩) (Kd.jm (p:=⟨gb443,2,none⟩) (Kd.jm (p:=⟨gb443,1,none⟩) (Kd.jm (p:=⟨gb443,0,none⟩) (Kd.ez HO_20.out (fun k_ hk=>(⟨hk,hk.2⟩:_∧k_≠gb443))) (fun _ hk=>hk.2) (.string ((af x0_2 x22_3).f0))) (fun _ hk=>hk.2) (.string ((af x0_2 x22_3).f1))) (fun _ hk=>hk.2) (.int .i64 ((af x0_2 x22_3).f2))) (fun _ hk=>hk.2) (.string ((af x0_2 x22_3).f3))) (fun _ hk=>hk.2) (.bool ((af x0_2 x22_3).f4))) (fun _ h_=>h_.1))) (dh ho0) hb);have HO446:=aS (Kd.bf (Kd.ko (M:=fun k_=>(w.heap.size≤k_)) ho0 (ay ar) (fun k_ h_=>h_)) (ay ar));replace BK443:=aS (aK (g:=gb443) (o:=.cells #[.string ((af x0_2 x22_3).f0),.string ((af x0_2 x22_3).f1),.int .i64 ((af x0_2 x22_3).f2),.string ((af x0_2 x22_3).f3),.bool ((af x0_2 x22_3).f4)] 34 (0,0)) (by (with_reducible repeat (first | refine aA ?_ _ | refine au ?_ | refine ax ?_ _));refine bn (cs:=#[.string ((af x0_2 x22_3).f0),.string ((af x0_2 x22_3).f1),.int .i64 ((af x0_2 x22_3).f2),.string ((af x0_2 x22_3).f3),.bool false]) ?_ 4 _ rfl;(with_reducible repeat (first | refine aA ?_ _ | refine au ?_ | refine ax ?_ _));refine bn (cs:=#[.string ((af x0_2 x22_3).f0),.string ((af x0_2 x22_3).f1),.int .i64 ((af x0_2 x22_3).f2),.string (⟨#[]⟩:ByteArray),.bool false]) ?_ 3 _ rfl;(with_reducible repeat (first | refine aA ?_ _ | refine au ?_ | refine ax ?_ _));refine bn (cs:=#[.string ((af x0_2 x22_3).f0),.string ((af x0_2 x22_3).f1),.int .i64 0,.string (⟨#[]⟩:ByteArray),.bool false]) ?_ 2 _ rfl;(with_reducible repeat (first | refine aA ?_ _ | refine au ?_ | refine ax ?_ _));refine bn (cs:=#[.string ((af x0_2 x22_3).f0),.string (⟨#[]⟩:ByteArray),.int .i64 0,.string (⟨#[]⟩:ByteArray),.bool false]) ?_ 1 _ rfl;(with_reducible repeat (first | refine aA ?_ _ | refine au ?_ | refine ax ?_ _));refine bn (cs:=#[.string (⟨#[]⟩:ByteArray),.string (⟨#[]⟩:ByteArray),.int .i64 0,.string (⟨#[]⟩:ByteArray),.bool false]) ?_ 0 _ rfl;(with_reducible repeat (first | refine aA ?_ _ | refine au ?_ | refine ax ?_ _));exact BK443.out) hb);replace HB:=aM hb;(try clear hb);(try clear hk);(try clear hi);(try clear ho0);obtain ⟨Ao37,co37,eo37⟩:=Kd.bq HO446.out;subst eo37))
             go_roundg k3
             case measure=>have:=HJ2.out;have:=HK2.out;have:=HK3.out;omega
             case rel=>exact ⟨(x0_3),(x6_3),(wrap64 (x7_3+(t444.length:Int))),(wrap64 (x22_3+1)),dU,dU,H',⟨by have:=HJ2.out;have:=HK2.out;have:=HK3.out;omega⟩,⟨by (with_reducible repeat (first | apply Kd.fq | apply Kd.fp | apply Kd.eM));exact Kd.ez HO_0.out (fun _ hk=>⟨hk.1.1.1,hk.1.1.2⟩)⟩,⟨by (with_reducible repeat (first | apply Kd.iK | apply Kd.iL | apply Kd.jk));exact Kd.kN HO_6.out (fun _ hk=>hk.1)⟩,⟨by (with_reducible repeat (first | apply Kd.fq | apply Kd.fp | apply Kd.eM));exact Kd.ez HO_20.out (fun _ hk=>⟨hk.1.1.1,hk.1.1.2⟩)⟩,⟨ar⟩⟩
           ·
            rw [if_neg c13] at H;exact absurd H (by simp)
          ·
           rw [if_neg c12] at H;exact absurd H (by simp)
         ·
          rw [if_neg c11] at H;have c11b0:decide (x22_3<(x0_2.length:Int))=false:=decide_eq_false c11;clear c11;replace H:=bV H;obtain ⟨t436,A380,H⟩:=H;have A38:=aS A380;clear A380
          by_cases c39:x6_3.length<5864062014805
          ·
           rw [if_pos c39] at H;have LMc39:=aS c39;clear c39
           obtain ⟨y439,hy439⟩:∃ y_:List (List (av)),y_=(x6_3++[t436]):=⟨_,rfl⟩
           replace H:(some (y439,0))=some (r1,r2):=pE hy439 H;have Ny439:=aS hy439;clear hy439
           simp only [Option.some.injEq,Prod.mk.injEq] at H
           obtain ⟨rfl,rfl⟩:=H;obtain ⟨Ao40,co40,eo40⟩:=Kd.lI HO_0.out;subst eo40
           go_wp2_with (first | ((with_reducible refine aC (f:=52) rfl ?_);refine bE (some 50) rfl rfl Tryz.func52 (by kernel_rfl) rfl #[.slice Ao40 x0_3.length co40] rfl cD ?_;(with_reducible refine (eW.calls _ _ x0_3 t436 _ ?side1 ?side2 A38.out).mono ?_);(case side1=>exact eN ((Kd.dI HO_0.out).2.2));(case side2=>exact (Kd.dI HO_0.out).2.1);rintro e w41 ⟨v437,rfl,ho0,hb⟩;refine ⟨_,rfl,?_⟩;replace HO_0:=aS (Kd.di (sel HO_0.out) (dh ho0) hb);replace HO_6:=aS (Kd.xR (by (with_reducible repeat (first | apply Kd.iK | apply Kd.iL | apply Kd.jk));exact HO_6.out) (dh ho0) hb);replace HO_20:=aS (Kd.di (sel HO_20.out) (dh ho0) hb);have HO438:=aS (Kd.bf (Kd.ko (M:=fun k_=>(w.heap.size≤k_)) ho0 (ay ar) (fun k_ h_=>h_)) (ay ar));replace HB:=aM hb;(try clear hb);(try clear hk);(try clear hi);(try clear ho0);obtain ⟨Ao43,co43,eo43⟩:=Kd.bq HO438.out;subst eo43) | ((with_reducible refine eZ (b:=.append) (xs:=#[.tmp 48,.tmp 51]) rfl ?_);at_builtin;refine Kd.Cu (Kd.slice 34 cC) (w0:=w) w.heap.size rfl (.tmp 48) (.tmp 51) 73 32 (.slice none 0 0) 24 rfl Tryz.underlying73 qd rfl (by decide) (by omega) u6 x6_3 t436 [.slice Ao43 t436.length co43] (fun k_=>(w.heap.size≤k_)) (fun k_=>some k_=(.slice Ao43 t436.length co43:Value).ownBlock) rfl rfl ?aP (fun k_ hk_=>((Kd.aH (ok':=fun k_=>((fun k_=>(w.heap.size≤k_))) k_∧some k_≠(u6:Value).ownBlock) (Kd.oY (HO438.out) (Kd.qm HO_6.out) (by decide)) (fun k_ hk=>⟨hk.1.1,hk.2⟩))).1 k_ hk_.symm) ?aF ?aO ?aB ?aS ?aL ?_;(case aP=>exact Kd.tU (Kd.aH (Kd.jJ rfl (Kd.aH (ok':=fun k_=>((fun k_=>(w.heap.size≤k_))) k_∧some k_≠(u6:Value).ownBlock) (Kd.oY (HO438.out) (Kd.qm HO_6.out) (by decide)) (fun k_ hk=>⟨hk.1.1,hk.2⟩))) (fun _ h_=>h_)));(case aB=>exact ar);(case aF=>exact (fun k_ hk=>(Nat.le_trans (ay ar) hk)));(case aO=>exact (by (with_reducible repeat (first | apply Kd.iK | apply Kd.iL | apply Kd.jk));exact Kd.kN HO_6.out (fun k_ hk=>⟨hk.1,fun e_=>hk.2 e_⟩)));(case aS=>exact (ay ar));(case aL=>have:=LMc39.out;omega);intro v440 w42 ho hb hg hat;rw [←Ny439.out] at ho;have n0_:=aS (Kd.mh (ok:=(fun k_=>(P0_ k_∨w.heap.size≤k_)∧some k_≠(.slice Ao43 t436.length co43:Value).ownBlock)) (by (with_reducible repeat (first | apply Kd.fq | apply Kd.fp | apply Kd.eM));exact Kd.ez HO_0.out (fun _ hk=>⟨⟨hk.1.1,hk.2⟩,hk.1.2⟩)) hg hat);have n1_:=aS (Kd.mh (ok:=(fun k_=>(P0_ k_∨w.heap.size≤k_)∧some k_≠(.slice Ao43 t436.length co43:Value).ownBlock)) (by (with_reducible repeat (first | apply Kd.fq | apply Kd.fp | apply Kd.eM));exact Kd.ez HO_20.out (fun _ hk=>⟨⟨hk.1.1,hk.2⟩,hk.1.2⟩)) hg hat);have n2_:=aS (hb);have n3_:=aS (ho);clear HO_0;clear HO_20;clear HB;clear HO_6;clear HO438;have HO_0:=n0_;have HO_20:=n1_;have HB:=n2_;have HO441:=n3_;clear n0_ n1_ n2_ n3_;clear ho hb hg hat))
           (try simp only [Exit.noGoto_ret])
           go_ret2
           exact ⟨_,dN,by (with_reducible repeat (first | apply Kd.iK | apply Kd.iL | apply Kd.jk));exact HO441.out,ar⟩
          ·
           rw [if_neg c39] at H;exact absurd H (by simp)
      ·
       rw [if_neg c9] at H;have c9b0:decide (0<(x0_2.length:Int))=false:=decide_eq_false c9;have c9b1:decide (0<x0_2.length)=false:=decide_eq_false (by omega);clear c9
       simp only [Option.some.injEq,Prod.mk.injEq] at H
       obtain ⟨rfl,rfl⟩:=H;obtain ⟨Ao44,co44,eo44⟩:=Kd.lI HO_0.out;subst eo44
       go_wp2
       (try simp only [Exit.noGoto_ret])
       go_ret2
       exact ⟨_,dN,by (with_reducible repeat (first | apply Kd.iK | apply Kd.iL | apply Kd.jk));exact HO_6.out,ar⟩
def gX.f (k:Nat) (l0:List (av)) (a1:Int):Option (List Int × Int):=(bD.f k l0 a1).bind fun bt463=>(if bt463.2=0 then ((cM.f k l0).bind fun t467=>((fD.f k bt463.1 t467).bind fun bt470=>(some (bt470.1,bt470.2)))) else (some (([]:List Int),bt463.2)))
theorem gX.mono:∀ a0 a1 k,aE (gX.f k a0 a1) (gX.f (k+1) a0 a1):=by
 intro a0 a1 k
 unfold gX.f
 have m0:=@bD.mono;have m1:=@fD.mono;have m2:=@cM.mono;exact e8
theorem gX.calls (k:Nat) (A0:Option Addr) (c0:Nat) (l0:List (av)) (a1:Int) (r1:List Int) (r2:Int) (w:World) (hr0:Kd.C cC w A0 l0.length l0) (hc0:l0.length≤c0) (h:gX.f k l0 a1=some (r1,r2)) :
  Calls Tryz.prog 50 #[.slice A0 l0.length c0,.int .i64 a1] w fun e w'=>∃ v0_:Value,e = .returned (.tuple #[v0_,.int .i64 r2])∧Kd.R (Kd.int .u8) 5 w' w.heap.size (fun _=>True) v0_ r1∧Below w.heap.size w w':=by
 have HR0:=aS hr0;have HC0:=aS hc0;clear hr0 hc0;have HB:=aS (Below.refl w.heap.size w);have H:((bD.f k l0 a1).bind fun bt463=>(if bt463.2=0 then ((cM.f k l0).bind fun t467=>((fD.f k bt463.1 t467).bind fun bt470=>(some (bt470.1,bt470.2)))) else (some (([]:List Int),bt463.2))))=some (r1,r2):=h;clear h;replace H:=bV H;obtain ⟨⟨t463,t466⟩,A30,H⟩:=H;(try dsimp only at H);have A3:=aS A30;clear A30
 by_cases c4:t466=0
 ·
  rw [if_pos c4] at H;obtain ⟨c4b0,c4b1⟩:=jE c4;clear c4;replace H:=bV H;obtain ⟨t467,A50,H⟩:=H;have A5:=aS A50;clear A50;replace H:=bV H;obtain ⟨⟨t470,t471⟩,A60,H⟩:=H;(try dsimp only at H);have A6:=aS A60;clear A60
  simp only [Option.some.injEq,Prod.mk.injEq] at H
  obtain ⟨rfl,rfl⟩:=H
  go_enter Tryz.func50,Tryz.ntmps50
  go_wp2_with (first | ((with_reducible refine aC (f:=68) rfl ?_);refine bE (some 11) rfl rfl Tryz.func68 (by kernel_rfl) rfl #[.slice A0 l0.length c0,.int .i64 a1] rfl cD ?_;(with_reducible refine (bD.calls k (fun k_=>k_<w.heap.size) _ _ l0 a1 t463 t466 _ ?side1 A3.out).mono ?_);(case side1=>exact Kd.nA HC0.out (Kd.mD (Kd.Cj tw HR0.out) ar));rintro e w7 ⟨v464,rfl,ho0,hb⟩;refine ⟨_,rfl,?_⟩;have HO465:=aS (Kd.zQ (Kd.kN (ok':=fun k_=>True) ho0 (fun _ hk_=>trivial)) (ay ar));replace HB:=aM hb;(try clear hb);(try clear hk);(try clear hi);(try clear ho0)) | ((with_reducible refine aC (f:=70) rfl ?_);refine bE (some 19) rfl rfl Tryz.func70 (by kernel_rfl) rfl #[.slice A0 l0.length c0] rfl cD ?_;(with_reducible refine (cM.calls k _ _ l0 t467 _ ?side1 ?side2 A5.out).mono ?_);(case side1=>exact eN (Kd.cW HR0.out HB.out));(case side2=>exact HC0.out);rintro e w8 ⟨v468,rfl,ho0,hb⟩;refine ⟨_,rfl,?_⟩;replace HO465:=aS (Kd.lO (by (with_reducible repeat (first | apply Kd.iK | apply Kd.iL | apply Kd.jk));exact HO465.out) hb);have HO469:=aS (Kd.bf ho0 (ay ar));replace HB:=aM hb;(try clear hb);(try clear hk);(try clear hi);(try clear ho0);obtain ⟨Ao9,co9,eo9⟩:=Kd.Ee HO465.out;subst eo9;obtain ⟨Ao10,co10,eo10⟩:=Kd.bq HO469.out;subst eo10) | ((with_reducible refine aC (f:=69) rfl ?_);refine bE (some 20) rfl rfl Tryz.func69 (by kernel_rfl) rfl #[.slice Ao9 t463.length co9,.slice Ao10 t467.length co10] rfl cD ?_;(with_reducible refine (fD.calls k _ _ t463 _ _ t467 t470 t471 _ ?side1 ?side2 ?side3 ?side4 A6.out).mono ?_);(case side1=>exact eN ((Kd.wS HO465.out).2.2));(case side2=>exact (Kd.wS HO465.out).2.1);(case side3=>exact eN ((Kd.bh HO469.out).2.2));(case side4=>exact (Kd.bh HO469.out).2.1);rintro e w11 ⟨v472,rfl,ho0,hb⟩;refine ⟨_,rfl,?_⟩;replace HO465:=aS (Kd.lO (by (with_reducible repeat (first | apply Kd.iK | apply Kd.iL | apply Kd.jk));exact HO465.out) hb);have HO473:=aS (Kd.bf (Kd.cI ho0 (Kd.cK (rel HO469.out))) (ay ar));replace HO469:=aS (Kd.bR (rel HO469.out) (dh ho0) hb);replace HB:=aM hb;(try clear hb);(try clear hk);(try clear hi);(try clear ho0)))
  go_ret2
  exact ⟨_,dN,by (with_reducible repeat (first | apply Kd.bS | apply Kd.bO | apply Kd.bP));exact Kd.aH HO473.out (fun _ hk=>trivial),ar⟩
 ·
  rw [if_neg c4] at H;obtain ⟨c4b0,c4b1⟩:=ju c4
  simp only [Option.some.injEq,Prod.mk.injEq] at H
  obtain ⟨rfl,rfl⟩:=H
  go_enter Tryz.func50,Tryz.ntmps50
  go_wp2_with (first | ((with_reducible refine aC (f:=68) rfl ?_);refine bE (some 11) rfl rfl Tryz.func68 (by kernel_rfl) rfl #[.slice A0 l0.length c0,.int .i64 a1] rfl cD ?_;(with_reducible refine (bD.calls k (fun k_=>k_<w.heap.size) _ _ l0 a1 t463 t466 _ ?side1 A3.out).mono ?_);(case side1=>exact Kd.nA HC0.out (Kd.mD (Kd.Cj tw HR0.out) ar));rintro e w12 ⟨v464,rfl,ho0,hb⟩;refine ⟨_,rfl,?_⟩;have HO465:=aS (Kd.zQ (Kd.kN (ok':=fun k_=>True) ho0 (fun _ hk_=>trivial)) (ay ar));replace HB:=aM hb;(try clear hb);(try clear hk);(try clear hi);(try clear ho0)))
  go_ret2
  exact ⟨_,dN,by first | exact Kd.dX _ _ _ _ _ | exact Kd.gy _ _ _ _ _ | exact Kd.fN _ _ _ _ _ | exact Kd.gB _ _ _ _ _ | exact Kd.gA _ _ _ _ _,ar⟩
def eJ.f (k:Nat) (l:List av) (b:Int):Option (List av × List (List av) × List Int):=if l=[] then none else (gX.f k l b).bind fun q=>if q.2=0 then (aJ.f k q.1).bind fun o=>o else none
theorem eJ.mono:∀ a0 a1 k,aE (eJ.f k a0 a1) (eJ.f (k+1) a0 a1):=fun _ _ _=>aE.ite (aE.refl _) (aE.bind (gX.mono _ _ _) fun _=>aE.ite (aE.bind (aJ.mono _ _) fun _=>aE.refl _) (aE.refl _))
theorem eJ.calls (k g:Nat) (s1 s2 s3:Int) (u1 u2:Value) (A0:Option Addr) (c0:Nat) (l:List av) (r:(List av × List (List av) × List Int)) (w:World) (hA:w.heap[g]? = some (.cells #[.int .i64 s1,.int .i64 s2,.int .i64 s3,u1,u2] 61 (0,0))) (hr0:Kd.C cC w A0 l.length l) (hc0:l.length≤c0) (h:eJ.f k l s2=some r) :
  Calls Tryz.prog 32 #[.pointer (some ⟨g,0,none⟩),.slice A0 l.length c0] w fun e w'=>∃ v0_:Value,e = .returned v0_∧Kd.R aq.mK 86 w' w.heap.size (fun _=>True) v0_ [r]∧Below w.heap.size w w':=by
 have hu30:=Tryz.underlying27;have hu51:=Tryz.underlying61;have hu23:=Tryz.underlying23;have hu49:=Tryz.underlying59;have hu53:=Tryz.underlying64;have hu24:=Tryz.underlying32;have hu61:=Tryz.underlying73;have hu75:=Tryz.underlying86;have hu31:=Tryz.underlying28;have HA:=aS hA;clear hA;obtain ⟨rl,rb,rf⟩:=r
 unfold eJ.f at h
 by_cases he:l=[]
 ·
  rw [if_pos he] at h;cases h
 rw [if_neg he] at h;replace h:=bV h;obtain ⟨⟨b,e0⟩,x1,h⟩:=h
 by_cases h0:e0=0
 case neg=>rw [if_neg h0] at h;cases h
 rw [if_pos h0] at h;replace h0:e0=0:=h0;subst h0;replace h:=bV h;obtain ⟨o,x2,h⟩:=h;subst h;have X1:=aS x1;have X2:=aS x2;have HR:=aS hr0;have HC:=aS hc0
 have hnz:(l.length:Int)≠0:=by have:=List.length_pos_iff.2 he;omega
 obtain ⟨hn1,hn2⟩:=ju hnz;have q0:=cR HA;clear x1 x2 hr0 hc0 hnz he
 go_enter Tryz.func32,Tryz.ntmps32
 go_wp2_with (first | (go_at_call 50;(with_reducible refine (gX.calls k A0 c0 l s2 b 0 _ HR.out HC.out X1.out).mono ?_);rintro e_ w2 ⟨v2,rfl,ho,hb⟩;obtain ⟨Ab,cb,rfl,hcl,hC⟩:=Kd.fT ho;have HLb:=aS hcl;have HCb:=aS hC;have HB2:=aS hb;clear ho hb hcl hC) | (go_at_call 51;(with_reducible refine (aJ.calls k Ab cb b (some (rl,rb,rf)) _ HCb.out HLb.out X2.out).mono ?_);rintro e_ w3 ⟨gx,rfl,ha,hb⟩;have HX:=aS (ha.lower HB2.out.size);have HB3':=aS (aN HB2.out hb);clear ha hb HB2 HCb HLb))
 go_ret
 exact ⟨_,rfl,aq.uL aq.mK (xs:=[(rl,rb,rf)]) (inner:=[.pointer (some ⟨gx,0,none⟩)]) (bH.one (aq.D7 HX.out) (bH.none _ _)) HB3'.out.size (by simp),tQ HB3'.out _⟩
theorem q7.calls (g base:Nat) (xs r:List av) (n:Int) (v:Value) (w:World) (hA:ck.At w base g xs n v) (h:eW.f xs=some r) :
  Calls Tryz.prog 33 #[.pointer (some ⟨g,0,none⟩)] w fun e w'=>∃ v0_:Value,e = .returned v0_∧Kd.R cC 34 w' w.heap.size (fun _=>True) v0_ r∧Below w.heap.size w w':=by
 have hu46:=Tryz.underlying78;obtain ⟨A,cc,rfl,hcl,hC⟩:=hA.rows;have B:=aS hA.2.1;have HC:=aS hC;have HL:=aS hcl;have X:=aS h;clear hA hcl hC h;have q0:=Dl B
 go_enter Tryz.func33,Tryz.ntmps33
 go_wp2_with (go_at_call 52;(with_reducible refine (eW.calls A cc xs r _ HC.out HL.out X.out).mono ?_);rintro e_ w2 ⟨v0,rfl,ho,hb⟩;have HO:=aS ho;have HB:=aS hb;clear ho hb)
 go_ret
 exact ⟨v0,rfl,HO.out,HB.out⟩
def bJ.f (k:Nat) (l0:List (ef)) (a1:Int) (a2:Int):Option (Bool):=if 0≤a1 then (if a1<(l0.length:Int) then (if 0<(((bY l0 a1).f0).length:Int) then (if 0≤a2 then (if a2<(l0.length:Int) then (if 0<(((bY l0 a2).f0).length:Int) then ((bU.f k ((af ((bY l0 a1).f0) 0).f0) ((af ((bY l0 a1).f0) 0).f1) ((af ((bY l0 a1).f0) 0).f2) ((af ((bY l0 a1).f0) 0).f3) ((af ((bY l0 a1).f0) 0).f4) ((af ((bY l0 a2).f0) 0).f0) ((af ((bY l0 a2).f0) 0).f1) ((af ((bY l0 a2).f0) 0).f2) ((af ((bY l0 a2).f0) 0).f3) ((af ((bY l0 a2).f0) 0).f4)).bind fun t478=>((fM.f ((bY l0 a1).f1) ((bY l0 a2).f1)).bind fun t481=>((cx.f k (([t478,t481]:List Int))).bind fun t485=>(some (decide (t485<0)))))) else (none)) else (none)) else (none)) else (none)) else (none)) else (none)
theorem bJ.mono:∀ a0 a1 a2 k,aE (bJ.f k a0 a1 a2) (bJ.f (k+1) a0 a1 a2):=by
 intro a0 a1 a2 k
 unfold bJ.f
 have m0:=@bU.mono;have m1:=@cx.mono;exact e8
def bJ.T1:Bool × List (List Nat × List Nat):=(true,[([],[]),([],[]),([0,1],[0,1]),([2],[2]),([3],[3]),([4],[4]),([5],[5]),([],[]),([],[]),([7,8],[7,8]),([9],[9]),([10],[10]),([11],[11]),([12],[12]),([6,13],[6,13]),([],[]),([],[]),([15,16],[15,16]),([17],[17]),([18],[18]),([],[]),([],[]),([20,21],[20,21]),([22],[22]),([23],[23]),([19,24,14],[19,24]),([14,25],[14,25]),([26,25],[26]),([27],[27]),([28,27,0,1,2,3,4,5,6,7,8,9,10,11,12,13,14,15,16,17,18,19,20,21,22,23,24,25,26,27,28],[28])])
def bJ.B1:List Nat:=[0,0,3,7,15,31,63,0,0,384,896,1920,3968,8064,16383,0,0,98304,229376,491520,0,0,3145728,7340032,15728640,33554431,67108863,134217727,268435455,536870911]
theorem bJ.o4:fC .any (opsOf Tryz.f127 1)=bJ.T1:=by kernel_rfl
theorem bJ.mY:fY bJ.T1.2 bJ.B1=true:=by kernel_rfl
theorem bJ.calls (k:Nat) (A0:Option Addr) (c0:Nat) (l0:List (ef)) (a1:Int) (a2:Int) (r:Bool) (w:World) (hr0:Kd.C qw w A0 l0.length l0) (hc0:l0.length≤c0) (h:bJ.f k l0 a1 a2=some r) :
  Calls Tryz.prog 127 #[.slice A0 l0.length c0,.int .i64 a1,.int .i64 a2] w fun e w'=>e = .returned (.bool r)∧Below w.heap.size w w':=by
 have hu34:=Tryz.underlying34;have HR0:=aS hr0;have HC0:=aS hc0;clear hr0 hc0;have HB:=aS (Below.refl w.heap.size w);have H:(if 0≤a1 then (if a1<(l0.length:Int) then (if 0<(((bY l0 a1).f0).length:Int) then (if 0≤a2 then (if a2<(l0.length:Int) then (if 0<(((bY l0 a2).f0).length:Int) then ((bU.f k ((af ((bY l0 a1).f0) 0).f0) ((af ((bY l0 a1).f0) 0).f1) ((af ((bY l0 a1).f0) 0).f2) ((af ((bY l0 a1).f0) 0).f3) ((af ((bY l0 a1).f0) 0).f4) ((af ((bY l0 a2).f0) 0).f0) ((af ((bY l0 a2).f0) 0).f1) ((af ((bY l0 a2).f0) 0).f2) ((af ((bY l0 a2).f0) 0).f3) ((af ((bY l0 a2).f0) 0).f4)).bind fun t478=>((fM.f ((bY l0 a1).f1) ((bY l0 a2).f1)).bind fun t481=>((cx.f k (([t478,t481]:List Int))).bind fun t485=>(some (decide (t485<0)))))) else (none)) else (none)) else (none)) else (none)) else (none)) else (none))=some r:=h;clear h
 by_cases c4:0≤a1
 ·
  rw [if_pos c4] at H;have c4b0:decide (0≤a1)=true:=decide_eq_true c4;clear c4
  by_cases c5:a1<(l0.length:Int)
  ·
   rw [if_pos c5] at H;have c5b0:decide (a1<(l0.length:Int))=true:=decide_eq_true c5;clear c5
   by_cases c6:0<(((bY l0 a1).f0).length:Int)
   ·
    rw [if_pos c6] at H;have c6b0:decide (0<(((bY l0 a1).f0).length:Int))=true:=decide_eq_true c6;have c6b1:decide (0<((bY l0 a1).f0).length)=true:=decide_eq_true (by omega);clear c6
    by_cases c7:0≤a2
    ·
     rw [if_pos c7] at H;have c7b0:decide (0≤a2)=true:=decide_eq_true c7;clear c7
     by_cases c8:a2<(l0.length:Int)
     ·
      rw [if_pos c8] at H;have c8b0:decide (a2<(l0.length:Int))=true:=decide_eq_true c8;clear c8
      by_cases c9:0<(((bY l0 a2).f0).length:Int)
      ·
       rw [if_pos c9] at H;have c9b0:decide (0<(((bY l0 a2).f0).length:Int))=true:=decide_eq_true c9;have c9b1:decide (0<((bY l0 a2).f0).length)=true:=decide_eq_true (by omega);clear c9;replace H:=bV H;obtain ⟨t478,A100,H⟩:=H;have A10:=aS A100;clear A100;replace H:=bV H;obtain ⟨t481,A110,H⟩:=H;have A11:=aS A110;clear A110
       obtain ⟨y482,hy482⟩:∃ y_:List Int,y_=(([t478,t481]:List Int)):=⟨_,rfl⟩
       (first | replace H:=j8 hy482 H | rw [←hy482] at H);have Ny482:=aS hy482;clear hy482;replace H:=bV H;obtain ⟨t485,A120,H⟩:=H;have A12:=aS A120;clear A120
       obtain rfl:=Option.some.inj H
       go_enter Tryz.func127,Tryz.ntmps127
       try go_wp2
       replace HB:=aS (jG HB.out);have p474:0≤(a1:Int):=cG;have q474:a1<(l0.length:Int):=cG;obtain ⟨ad474,A474_0,c474_0,e474,hx474_0,hx474_1,hl474_0,hi474_0⟩:=ul HR0.out a1 p474 q474;have hw474_1:=hx474_1;have hw474_0:=hx474_0;cases e474;have hB_474_0:=aS hx474_0;replace hx474_0:=bx ar hx474_0;replace hx474_1:=bx ar hx474_1;have HR474_0:=aS hi474_0;have HC474_0:=aS hl474_0;clear hi474_0 hl474_0;replace p474:=eq_true p474;replace q474:=eq_true q474;have p475:0≤(0:Int):=(by omega);have q475:0<(((bY l0 a1).f0).length:Int):=cG;obtain ⟨ad475,e475,hx475_0,hx475_1,hx475_2,hx475_3,hx475_4⟩:=eT HR474_0.out 0 p475 q475;have hw475_4:=hx475_4
       (try rw [show ((0:Int)).toNat=0 from rfl] at hw475_4)
       (try rw [show 0*5=0 from rfl] at hw475_4)
       (try rw [Addr.add_zero'] at hw475_4)
       have hw475_3:=hx475_3
       (try rw [show ((0:Int)).toNat=0 from rfl] at hw475_3)
       (try rw [show 0*5=0 from rfl] at hw475_3)
       (try rw [Addr.add_zero'] at hw475_3)
       have hw475_2:=hx475_2
       (try rw [show ((0:Int)).toNat=0 from rfl] at hw475_2)
       (try rw [show 0*5=0 from rfl] at hw475_2)
       (try rw [Addr.add_zero'] at hw475_2)
       have hw475_1:=hx475_1
       (try rw [show ((0:Int)).toNat=0 from rfl] at hw475_1)
       (try rw [show 0*5=0 from rfl] at hw475_1)
       (try rw [Addr.add_zero'] at hw475_1)
       have hw475_0:=hx475_0
       (try rw [show ((0:Int)).toNat=0 from rfl] at hw475_0)
       (try rw [show 0*5=0 from rfl] at hw475_0)
       (try rw [Addr.add_zero'] at hw475_0)
       cases e475;have qi475:(0<((bY l0 a1).f0).length)=True:=eq_true (by omega)
       (try rw [show ((0:Int)).toNat=0 from rfl] at hx475_0)
       (try rw [show 0*5=0 from rfl] at hx475_0)
       (try rw [Addr.add_zero'] at hx475_0)
       (try rw [show ((0:Int)).toNat=0 from rfl] at hx475_1)
       (try rw [show 0*5=0 from rfl] at hx475_1)
       (try rw [Addr.add_zero'] at hx475_1)
       (try rw [show ((0:Int)).toNat=0 from rfl] at hx475_2)
       (try rw [show 0*5=0 from rfl] at hx475_2)
       (try rw [Addr.add_zero'] at hx475_2)
       (try rw [show ((0:Int)).toNat=0 from rfl] at hx475_3)
       (try rw [show 0*5=0 from rfl] at hx475_3)
       (try rw [Addr.add_zero'] at hx475_3)
       (try rw [show ((0:Int)).toNat=0 from rfl] at hx475_4)
       (try rw [show 0*5=0 from rfl] at hx475_4)
       (try rw [Addr.add_zero'] at hx475_4)
       replace hx475_0:=bx ar hx475_0;replace hx475_1:=bx ar hx475_1;replace hx475_2:=bx ar hx475_2;replace hx475_3:=bx ar hx475_3;replace hx475_4:=bx ar hx475_4;replace p475:=eq_true p475;replace q475:=eq_true q475;have p476:0≤(a2:Int):=cG;have q476:a2<(l0.length:Int):=cG;obtain ⟨ad476,A476_0,c476_0,e476,hx476_0,hx476_1,hl476_0,hi476_0⟩:=ul HR0.out a2 p476 q476;have hw476_1:=hx476_1;have hw476_0:=hx476_0
       obtain rfl:ad474=ad476:=(by injection e476)
       have hB_476_0:=aS hx476_0;replace hx476_0:=bx ar hx476_0;replace hx476_1:=bx ar hx476_1;have HR476_0:=aS hi476_0;have HC476_0:=aS hl476_0;clear hi476_0 hl476_0;replace p476:=eq_true p476;replace q476:=eq_true q476;have p477:0≤(0:Int):=(by omega);have q477:0<(((bY l0 a2).f0).length:Int):=cG;obtain ⟨ad477,e477,hx477_0,hx477_1,hx477_2,hx477_3,hx477_4⟩:=eT HR476_0.out 0 p477 q477;have hw477_4:=hx477_4
       (try rw [show ((0:Int)).toNat=0 from rfl] at hw477_4)
       (try rw [show 0*5=0 from rfl] at hw477_4)
       (try rw [Addr.add_zero'] at hw477_4)
       have hw477_3:=hx477_3
       (try rw [show ((0:Int)).toNat=0 from rfl] at hw477_3)
       (try rw [show 0*5=0 from rfl] at hw477_3)
       (try rw [Addr.add_zero'] at hw477_3)
       have hw477_2:=hx477_2
       (try rw [show ((0:Int)).toNat=0 from rfl] at hw477_2)
       (try rw [show 0*5=0 from rfl] at hw477_2)
       (try rw [Addr.add_zero'] at hw477_2)
       have hw477_1:=hx477_1
       (try rw [show ((0:Int)).toNat=0 from rfl] at hw477_1)
       (try rw [show 0*5=0 from rfl] at hw477_1)
       (try rw [Addr.add_zero'] at hw477_1)
       have hw477_0:=hx477_0
       (try rw [show ((0:Int)).toNat=0 from rfl] at hw477_0)
       (try rw [show 0*5=0 from rfl] at hw477_0)
       (try rw [Addr.add_zero'] at hw477_0)
       cases e477;have qi477:(0<((bY l0 a2).f0).length)=True:=eq_true (by omega)
       (try rw [show ((0:Int)).toNat=0 from rfl] at hx477_0)
       (try rw [show 0*5=0 from rfl] at hx477_0)
       (try rw [Addr.add_zero'] at hx477_0)
       (try rw [show ((0:Int)).toNat=0 from rfl] at hx477_1)
       (try rw [show 0*5=0 from rfl] at hx477_1)
       (try rw [Addr.add_zero'] at hx477_1)
       (try rw [show ((0:Int)).toNat=0 from rfl] at hx477_2)
       (try rw [show 0*5=0 from rfl] at hx477_2)
       (try rw [Addr.add_zero'] at hx477_2)
       (try rw [show ((0:Int)).toNat=0 from rfl] at hx477_3)
       (try rw [show 0*5=0 from rfl] at hx477_3)
       (try rw [Addr.add_zero'] at hx477_3)
       (try rw [show ((0:Int)).toNat=0 from rfl] at hx477_4)
       (try rw [show 0*5=0 from rfl] at hx477_4)
       (try rw [Addr.add_zero'] at hx477_4)
       replace hx477_0:=bx ar hx477_0;replace hx477_1:=bx ar hx477_1;replace hx477_2:=bx ar hx477_2;replace hx477_3:=bx ar hx477_3;replace hx477_4:=bx ar hx477_4;replace p477:=eq_true p477;replace q477:=eq_true q477;have p479:0≤(a1:Int):=cG;have q479:a1<(l0.length:Int):=cG;obtain ⟨ad479,A479_0,c479_0,e479,hx479_0,hx479_1,hl479_0,hi479_0⟩:=ul HR0.out a1 p479 q479;have hw479_1:=hx479_1;have hw479_0:=hx479_0
       obtain rfl:ad474=ad479:=(by injection e479)
       have hB_479_0:=aS hx479_0;replace hx479_0:=bx ar hx479_0;replace hx479_1:=bx ar hx479_1;have HR479_0:=aS hi479_0;have HC479_0:=aS hl479_0;clear hi479_0 hl479_0;replace p479:=eq_true p479;replace q479:=eq_true q479;have ea_:=Option.some.inj (hx474_0.symm.trans hx479_0)
       injection ea_ with ea_ en_ ec_
       subst ea_;subst ec_;clear en_;have p480:0≤(a2:Int):=cG;have q480:a2<(l0.length:Int):=cG;obtain ⟨ad480,A480_0,c480_0,e480,hx480_0,hx480_1,hl480_0,hi480_0⟩:=ul HR0.out a2 p480 q480;have hw480_1:=hx480_1;have hw480_0:=hx480_0
       obtain rfl:ad474=ad480:=(by injection e480)
       have hB_480_0:=aS hx480_0;replace hx480_0:=bx ar hx480_0;replace hx480_1:=bx ar hx480_1;have HR480_0:=aS hi480_0;have HC480_0:=aS hl480_0;clear hi480_0 hl480_0;replace p480:=eq_true p480;replace q480:=eq_true q480;have ea_:=Option.some.inj (hx476_0.symm.trans hx480_0)
       injection ea_ with ea_ en_ ec_
       subst ea_;subst ec_;clear en_;refine dz (n:=30) (S:=fun w'=>w'.cell? (ad474.add ((a1).toNat*2))=some (.slice (some ad475) ((bY l0 a1).f0).length c474_0)∧w'.cell? ⟨(ad474.add ((a1).toNat*2)).block,(ad474.add ((a1).toNat*2)).off+1,none⟩=some (.int .i64 ((bY l0 a1).f1))∧w'.cell? ad475=some (.string ((af ((bY l0 a1).f0) 0).f0))∧w'.cell? ⟨ad475.block,ad475.off+1,none⟩=some (.string ((af ((bY l0 a1).f0) 0).f1))∧w'.cell? ⟨ad475.block,ad475.off+2,none⟩=some (.int .i64 ((af ((bY l0 a1).f0) 0).f2))∧w'.cell? ⟨ad475.block,ad475.off+3,none⟩=some (.string ((af ((bY l0 a1).f0) 0).f3))∧w'.cell? ⟨ad475.block,ad475.off+4,none⟩=some (.bool ((af ((bY l0 a1).f0) 0).f4))∧w'.cell? (ad474.add ((a2).toNat*2))=some (.slice (some ad477) ((bY l0 a2).f0).length c476_0)∧w'.cell? ⟨(ad474.add ((a2).toNat*2)).block,(ad474.add ((a2).toNat*2)).off+1,none⟩=some (.int .i64 ((bY l0 a2).f1))∧w'.cell? ad477=some (.string ((af ((bY l0 a2).f0) 0).f0))∧w'.cell? ⟨ad477.block,ad477.off+1,none⟩=some (.string ((af ((bY l0 a2).f0) 0).f1))∧w'.cell? ⟨ad477.block,ad477.off+2,none⟩=some (.int .i64 ((af ((bY l0 a2).f0) 0).f2))∧w'.cell? ⟨ad477.block,ad477.off+3,none⟩=some (.string ((af ((bY l0 a2).f0) 0).f3))∧w'.cell? ⟨ad477.block,ad477.off+4,none⟩=some (.bool ((af ((bY l0 a2).f0) 0).f4))∧w'.cell? (ad474.add ((a1).toNat*2))=some (.slice (some ad475) ((bY l0 a1).f0).length c474_0)∧w'.cell? ⟨(ad474.add ((a1).toNat*2)).block,(ad474.add ((a1).toNat*2)).off+1,none⟩=some (.int .i64 ((bY l0 a1).f1))∧w'.cell? (ad474.add ((a2).toNat*2))=some (.slice (some ad477) ((bY l0 a2).f0).length c476_0)∧w'.cell? ⟨(ad474.add ((a2).toNat*2)).block,(ad474.add ((a2).toNat*2)).off+1,none⟩=some (.int .i64 ((bY l0 a2).f1))) (ds:=[]) (bA 30 0) (by kernel_rfl) rfl rfl ⟨(bx ar hw474_0),(bx ar hw474_1),(bx ar hw475_0),(bx ar hw475_1),(bx ar hw475_2),(bx ar hw475_3),(bx ar hw475_4),(bx ar hw476_0),(bx ar hw476_1),(bx ar hw477_0),(bx ar hw477_1),(bx ar hw477_2),(bx ar hw477_3),(bx ar hw477_4),(bx ar hw479_0),(bx ar hw479_1),(bx ar hw480_0),(bx ar hw480_1)⟩ (fun hHeld=>?_);refine cH bJ.o4 bJ.mY (fun HT_ HW_=>?_)
       generalize w.drew=w13 at HB HR474_0 HR476_0 HR479_0 HR480_0 hx474_0 hx474_1 hx475_0 hx475_1 hx475_2 hx475_3 hx475_4 hx476_0 hx476_1 hx477_0 hx477_1 hx477_2 hx477_3 hx477_4 hx479_0 hx479_1 hx480_0 hx480_1 hHeld ⊢
       refine aZ [(0,7),(1,8),(2,9),(3,10),(7,14),(8,15),(9,16),(10,17),(15,22),(16,23),(17,24),(18,25),(20,27),(21,28),(22,29),(23,30),(4,11),(5,12),(6,13),(11,18),(12,19),(13,20),(19,26),(24,31)] ?_
       iterate 24 (first | (refine cr HT_ ?_) | (refine d_ HT_ HW_ hHeld ?_))
       refine bX (bA 30 33538047) (by kernel_rfl) ?_;refine dJ 14 (N:=some 21) (bA 30 33554431) HT_ (fun K hK=>?_);refine ep Tryz.func47 (by kernel_rfl) rfl #[.agg #[.string ((af ((bY l0 a1).f0) 0).f0),.string ((af ((bY l0 a1).f0) 0).f1),.int .i64 ((af ((bY l0 a1).f0) 0).f2),.string ((af ((bY l0 a1).f0) 0).f3),.bool ((af ((bY l0 a1).f0) 0).f4)],.agg #[.string ((af ((bY l0 a2).f0) 0).f0),.string ((af ((bY l0 a2).f0) 0).f1),.int .i64 ((af ((bY l0 a2).f0) 0).f2),.string ((af ((bY l0 a2).f0) 0).f3),.bool ((af ((bY l0 a2).f0) 0).f4)]] (by rfl) rfl rfl cD ?_
       with_reducible refine (bU.calls k ((af ((bY l0 a1).f0) 0).f0) ((af ((bY l0 a1).f0) 0).f1) ((af ((bY l0 a1).f0) 0).f2) ((af ((bY l0 a1).f0) 0).f3) ((af ((bY l0 a1).f0) 0).f4) ((af ((bY l0 a2).f0) 0).f0) ((af ((bY l0 a2).f0) 0).f1) ((af ((bY l0 a2).f0) 0).f2) ((af ((bY l0 a2).f0) 0).f3) ((af ((bY l0 a2).f0) 0).f4) t478 _ A10.out).mono ?_
       rintro e w14 ⟨rfl,hb⟩
       refine ⟨_,rfl,?_⟩;replace HB:=aM hb;(try clear hb);(try clear hk);(try clear hi);refine hK.out _ _ ⟨(bx ar hw474_0),(bx ar hw474_1),(bx ar hw475_0),(bx ar hw475_1),(bx ar hw475_2),(bx ar hw475_3),(bx ar hw475_4),(bx ar hw476_0),(bx ar hw476_1),(bx ar hw477_0),(bx ar hw477_1),(bx ar hw477_2),(bx ar hw477_3),(bx ar hw477_4),(bx ar hw479_0),(bx ar hw479_1),(bx ar hw480_0),(bx ar hw480_1)⟩ (fun hHeld=>?_);clear hK K;refine nm 21 ?_;refine dJ 25 (N:=some 32) (bA 30 67108863) HT_ (fun K hK=>?_);refine ep Tryz.func64 (by kernel_rfl) rfl #[.int .i64 ((bY l0 a1).f1),.int .i64 ((bY l0 a2).f1)] (by rfl) rfl rfl cD ?_
       with_reducible refine (fM.calls ((bY l0 a1).f1) ((bY l0 a2).f1) t481 _ A11.out).mono ?_
       rintro e w' ⟨rfl,⟨nd,rfl⟩⟩
       refine ⟨_,rfl,?_⟩;refine hK.out _ _ ⟨(bx ar hw474_0),(bx ar hw474_1),(bx ar hw475_0),(bx ar hw475_1),(bx ar hw475_2),(bx ar hw475_3),(bx ar hw475_4),(bx ar hw476_0),(bx ar hw476_1),(bx ar hw477_0),(bx ar hw477_1),(bx ar hw477_2),(bx ar hw477_3),(bx ar hw477_4),(bx ar hw479_0),(bx ar hw479_1),(bx ar hw480_0),(bx ar hw480_1)⟩ (fun hHeld=>?_);clear hK K;refine nm 32 ?_;refine dJ 26 (N:=some 33) (bA 30 134217727) HT_ (fun K hK=>?_)
       refine Kd.i_ (Kd.int .i64) _ 3 ?hg (N:=33) ?hd (xs:=([t478,t481]:List Int)) (inner:=[.int .i64 t478,.int .i64 t481]) (ok:=fun _=>True) (okp:=fun _=>True) ?hr ?hp (fun _ hk=>hk) trivial (Below.refl _ _) (Nat.le_refl _) (by simp) ?_;(case hd=>rfl);(case hg=>rfl);(case hr=>first | (go_simp;done) | (go_simp;rfl));(case hp=>exact (bH.one (show Kd.M (Kd.int .i64) _ _ _ t478 [.int .i64 t478] from rfl) (bH.one (show Kd.M (Kd.int .i64) _ _ _ t481 [.int .i64 t481] from rfl) (bH.none _ _))))
       intro v483 w15 ho16 hb hg_ hnew_
       clear hg_ hnew_
       (first | rw [←Ny482.out] at ho16 | (simp only [Int.reduceToNat] at ho16;rw [←Ny482.out] at ho16))
       have HO484:=aS (Kd.bf ho16 (ay ar));replace HB:=aM hb;clear hb ho16;obtain ⟨Ao17,co17,eo17⟩:=Kd.bq HO484.out
       (first | subst eo17 | (injection eo17 with f1_ f2_ f3_;have f4_:=f1_.symm;have f5_:=f3_.symm;clear f1_ f2_ f3_;subst f4_;subst f5_))
       refine hK.out _ _ ⟨(bx ar hw474_0),(bx ar hw474_1),(bx ar hw475_0),(bx ar hw475_1),(bx ar hw475_2),(bx ar hw475_3),(bx ar hw475_4),(bx ar hw476_0),(bx ar hw476_1),(bx ar hw477_0),(bx ar hw477_1),(bx ar hw477_2),(bx ar hw477_3),(bx ar hw477_4),(bx ar hw479_0),(bx ar hw479_1),(bx ar hw480_0),(bx ar hw480_1)⟩ (fun hHeld=>?_);clear hK K;refine nm 33 ?_;refine dJ 27 (N:=some 34) (bA 30 268435455) HT_ (fun K hK=>?_);refine ep Tryz.func62 (by kernel_rfl) rfl #[.slice Ao17 y482.length co17] (by rfl) rfl rfl cD ?_
       with_reducible refine (cx.calls k _ _ y482 t485 _ ?side1 ?side2 A12.out).mono ?_
       (case side1=>exact eN ((Kd.bh HO484.out).2.2))
       (case side2=>exact (Kd.bh HO484.out).2.1)
       rintro e w' ⟨rfl,⟨nd,rfl⟩⟩
       refine ⟨_,rfl,?_⟩;refine hK.out _ _ ⟨(bx ar hw474_0),(bx ar hw474_1),(bx ar hw475_0),(bx ar hw475_1),(bx ar hw475_2),(bx ar hw475_3),(bx ar hw475_4),(bx ar hw476_0),(bx ar hw476_1),(bx ar hw477_0),(bx ar hw477_1),(bx ar hw477_2),(bx ar hw477_3),(bx ar hw477_4),(bx ar hw479_0),(bx ar hw479_1),(bx ar hw480_0),(bx ar hw480_1)⟩ (fun hHeld=>?_);clear hK K;refine nm 34 ?_;refine aZ [(28,35),(29,6)] ?_
       iterate 2 (refine cr HT_ ?_)
       refine bX (bA 30 1073741823) (by kernel_rfl) ?_;refine dQ (cX HT_.out (by kernel_rfl)) ?_
       try go_wp2
       go_ret
       exact ⟨dN,ar⟩
      ·
       rw [if_neg c9] at H;exact absurd H (by simp)
     ·
      rw [if_neg c8] at H;exact absurd H (by simp)
    ·
     rw [if_neg c7] at H;exact absurd H (by simp)
   ·
    rw [if_neg c6] at H;exact absurd H (by simp)
  ·
   rw [if_neg c5] at H;exact absurd H (by simp)
 ·
  rw [if_neg c4] at H;exact absurd H (by simp)
-- NOT PRINTED: function 130 (merge_queue_Swap)
-- NOT PRINTED: function 80 (heap_up)
-- NOT PRINTED: function 129 (merge_queue_Push)
-- NOT PRINTED: function 58 (heap_Push)
def mW.f (l0:List (ef)):Option (Int):=some (l0.length:Int)
theorem mW.calls (A0:Option Addr) (c0:Nat) (l0:List (ef)) (r:Int) (w:World) (hr0:Kd.C qw w A0 l0.length l0) (hc0:l0.length≤c0) (h:mW.f l0=some r) :
  Calls Tryz.prog 59 #[.slice A0 l0.length c0] w fun e w'=>e = .returned (.int .i64 r)∧bF w w':=by
 have HR0:=aS hr0;have HC0:=aS hc0;clear hr0 hc0;have H:(some (l0.length:Int))=some r:=h;clear h
 obtain rfl:=Option.some.inj H
 go_enter Tryz.func59,Tryz.ntmps59
 go_wp2
 go_ret
 exact ⟨by first | rfl | (simp;done) | (simp [*];done) | (simp;exact (by decide:∀ a_ b_:Bool,(a_ == b_)=(!a_ != b_)) _ _),by repeat (first | exact bF.refl _ | apply bF.step)⟩
-- NOT PRINTED: function 81 (heap_down)
-- NOT PRINTED: function 128 (merge_queue_Pop)
-- NOT PRINTED: function 60 (heap_Pop)
-- NOT PRINTED: function 61 (heap_Fix)
end Go.Proofs.YtcbhfedcdnjljaaGreat.X

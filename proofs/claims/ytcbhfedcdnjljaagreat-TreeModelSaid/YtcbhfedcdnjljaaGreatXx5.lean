import Derived.Test.YtcbhfedcdnjljaaGreatXx4
set_option maxHeartbeats 8000000
set_option maxRecDepth 100000
set_option linter.unusedVariables false
set_option linter.unusedSimpArgs false
namespace Go.Proofs.YtcbhfedcdnjljaaGreat.X
open Go.RowKit Go.Proofs.YtcbhfedcdnjljaaGreatW.PrintWords Go.Proofs.YtcbhfedcdnjljaaGreatW.PrintLast Go.Proofs.YtcbhfedcdnjljaaGreatW.PrintMore
attribute [local go_sem] lG lH mH mG kp ku lA lC mE
mutual
def bw.j0:Nat→List (au)→Int→Bool→Option ((List (List (au))) × Int)
 | 0,_,_,_=>none
 | k+1,x0,x1,x16=>if x16=true then (some (([]:List (List (au))),1)) else (bw.l0 k x0 x1 ([]:List (List (au))))
def bw.l0:Nat→List (au)→Int→List (List (au))→Option ((List (List (au))) × Int)
 | 0,_,_,_=>none
 | k+1,x0,x1,x6=>if (x0.length:Int) > 0 then (bw.l1 k x0 x1 x6 0 x0 (x0.length:Int) 0) else (some (x6,0))
def bw.l1:Nat→List (au)→Int→List (List (au))→Int→List (au)→Int→Int→Option ((List (List (au))) × Int)
 | 0,_,_,_,_,_,_,_=>none
 | k+1,x0,x1,x6,x7,x20,x21,x22=>if x22<x21 then (if 0≤x22 then (if x22<(x20.length:Int) then ((dh.f ((af x20 x22).f0) ((af x20 x22).f1) ((af x20 x22).f2) ((af x20 x22).f3) ((af x20 x22).f4)).bind fun t444=>(if (wrap64 (x7+(t444.length:Int)))≥x1 then (if 0≤(wrap64 (x22+1)) then (if (wrap64 (x22+1))≤(x0.length:Int) then ((eN.f (x0.take ((wrap64 (x22+1)):Int).toNat)).bind fun t452=>(if x6.length<5864062014805 then (bw.l0 k (x0.drop ((wrap64 (x22+1)):Int).toNat) x1 (x6++[t452])) else (none))) else (none)) else (none)) else (bw.l1 k x0 x1 x6 (wrap64 (x7+(t444.length:Int))) x20 x21 (wrap64 (x22+1))))) else (none)) else (none)) else ((eN.f x0).bind fun t436=>(if x6.length<5864062014805 then (some ((x6++[t436]),0)) else (none)))
end
def bw.f (k:Nat) (l0:List (au)) (a1:Int):Option ((List (List (au))) × Int):=(aQ.f k l0).bind fun t435=>(if t435=true then (bw.j0 k l0 a1 (decide (a1<1))) else (bw.j0 k l0 a1 true))
theorem bw.cF:∀ k,(∀ y0 y1 y2,aH (bw.j0 k y0 y1 y2) (bw.j0 (k+1) y0 y1 y2))∧(∀ y0 y1 y2,aH (bw.l0 k y0 y1 y2) (bw.l0 (k+1) y0 y1 y2))∧(∀ y0 y1 y2 y3 y4 y5 y6,aH (bw.l1 k y0 y1 y2 y3 y4 y5 y6) (bw.l1 (k+1) y0 y1 y2 y3 y4 y5 y6))
 | 0=>⟨fun _ _ _ r h=>by simp [bw.j0] at h,fun _ _ _ r h=>by simp [bw.l0] at h,fun _ _ _ _ _ _ _ r h=>by simp [bw.l1] at h⟩
 | k+1=>by
  obtain ⟨ih0,ih1,ih2⟩:=bw.cF k;refine ⟨?_,?_,?_⟩
  ·
   intro y0 y1 y2
   unfold bw.j0
   have m0:=@aQ.mono;exact eF
  ·
   intro y0 y1 y2
   unfold bw.l0
   have m0:=@aQ.mono;exact eF
  ·
   intro y0 y1 y2 y3 y4 y5 y6
   unfold bw.l1
   have m0:=@aQ.mono;exact eF
theorem bw.mono:∀ a0 a1 k,aH (bw.f k a0 a1) (bw.f (k+1) a0 a1):=by
 intro a0 a1 k
 obtain ⟨ih0,ih1,ih2⟩:=bw.cF k
 unfold bw.f
 have m0:=@aQ.mono;exact eF
def bw.T11:Bool × List (List Nat × List Nat):=(true,[([],[]),([],[]),([],[]),([2],[2]),([1,3],[1,3]),([4],[4]),([5],[5]),([0,6,5],[0,6]),([],[]),([],[]),([9],[9]),([8,10],[8,10]),([7,7,0,1,2,3,4,5,6,7],[0,7]),([11,12,0,1,2,3,4,5,6,7,8,9,10,11,12],[1,8,11])])
def bw.B11:List Nat:=[0,0,0,4,14,30,62,127,0,0,512,1792,255,8191]
theorem bw.Ge:e9 .any (opsOf Tryz.f68 11)=bw.T11:=by kernel_rfl
theorem bw.FI:gj bw.T11.2 bw.B11=true:=by kernel_rfl
theorem bw.calls (k:Nat) (P0_:Nat→Prop) (A0:Option Addr) (c0:Nat) (l0:List (au)) (a1:Int) (r1:List (List (au))) (r2:Int) (w:World) (hs0:Kd.V cm 34 w w.heap.size (fun k_=>P0_ k_) (.slice A0 l0.length c0) l0) (h:bw.f k l0 a1=some (r1,r2)) :
  Calls Tryz.prog 68 #[.slice A0 l0.length c0,.int .i64 a1] w fun e w'=>∃ v0_:Value,e = .returned (.tuple #[v0_,.int .i64 r2])∧Kd.S (Kd.slice 34 cm) 32 w' w.heap.size (fun k_=>(w.heap.size≤k_)) v0_ r1∧Below w.heap.size w w':=by
 have hu34:=Tryz.underlying34;have HO0:=aS (show Kd.V cm 34 w w.heap.size (fun k_=>(P0_ k_∨w.heap.size≤k_)) (.slice A0 l0.length c0) l0 from Kd.ep hs0 (fun k_ hk=>.inl hk));have HB:=aS (Below.refl w.heap.size w);have H:((aQ.f k l0).bind fun t435=>(if t435=true then (bw.j0 k l0 a1 (decide (a1<1))) else (bw.j0 k l0 a1 true)))=some (r1,r2):=h;clear h;have HC3:=aS H;clear H
 go_enter Tryz.func68,Tryz.ntmps68
 go_upto_region 1 with (fail)
 apply wp_scope_straight
 go_upto_region 1 with (fail)
 go_cut [16] (fun v16 wc=>∃ (kq:Nat) (x16_2:Bool),v16 = .bool x16_2∧ah (bw.j0 kq l0 a1 x16_2=some (r1,r2))∧ah (kq≤k)∧ah (Kd.V cm 34 wc w.heap.size (fun k_=>(P0_ k_∨w.heap.size≤k_)) (.slice A0 l0.length c0) l0)∧ah (Below w.heap.size w wc))
 case first=>
  have H:=HC3.out;clear HC3;replace H:=bU H;obtain ⟨t435,A40,H⟩:=H;have A4:=aS A40;clear A40
  by_cases c5:t435=true
  ·
   subst c5
   replace H:=jy H
   have H':=aS H
   clear H
   go_wp2_with (first | ((with_reducible refine gC 73 ?_);refine dn 11 Tryz.func73 #[.slice A0 l0.length c0] ?_;(with_reducible refine (aQ.calls k _ _ l0 true _ ?side1 ?side2 A4.out).mono ?_);(case side1=>exact eH ((Kd.dJ HO0.out).2.2));(case side2=>exact (Kd.dJ HO0.out).2.1);rintro e w6 ⟨rfl,hb⟩;refine ⟨_,rfl,?_⟩;replace HO0:=aS (Kd.kV (sel HO0.out) hb);replace HB:=aM hb;(try clear hb);(try clear hk);(try clear hi)))
   go_meet
   case rel=>exact ⟨_,(decide (a1<1)),cG,H',⟨by first | omega | exact Nat.le_refl _⟩,⟨by (with_reducible repeat (first | apply Kd.fw | apply Kd.fu | apply Kd.eS));exact HO0.out⟩,⟨aq⟩⟩
  ·
   replace c5:=Bool.eq_false_iff.mpr c5;subst c5
   replace H:=jw H
   have H':=aS H
   clear H
   go_wp2_with (first | ((with_reducible refine gC 73 ?_);refine dn 11 Tryz.func73 #[.slice A0 l0.length c0] ?_;(with_reducible refine (aQ.calls k _ _ l0 false _ ?side1 ?side2 A4.out).mono ?_);(case side1=>exact eH ((Kd.dJ HO0.out).2.2));(case side2=>exact (Kd.dJ HO0.out).2.1);rintro e w7 ⟨rfl,hb⟩;refine ⟨_,rfl,?_⟩;replace HO0:=aS (Kd.kV (sel HO0.out) hb);replace HB:=aM hb;(try clear hb);(try clear hk);(try clear hi)))
   go_meet
   case rel=>exact ⟨_,(true),cG,H',⟨by first | omega | exact Nat.le_refl _⟩,⟨by (with_reducible repeat (first | apply Kd.fw | apply Kd.fu | apply Kd.eS));exact HO0.out⟩,⟨aq⟩⟩
 case rest=>
  clear HC3;obtain ⟨kq,x16_2,rfl,HA,HJ2,HO_0,HB⟩:=hcut
  cases kq with
  | zero=>exact absurd HA.out (by simp [bw.j0])
  | succ kj2=>
   have H:=HA.out;clear HA
   simp only [bw.j0] at H
   by_cases c8:x16_2=true
   ·
    subst c8
    replace H:=jy H
    simp only [Option.some.injEq,Prod.mk.injEq] at H
    obtain ⟨rfl,rfl⟩:=H
    go_wp2
    (try simp only [Exit.noGoto_ret])
    go_ret2
    exact ⟨_,dP,by first | exact Kd.gE _ _ _ _ _ | exact Kd.gB _ _ _ _ _ | exact Kd.fJ _ _ _ _ _ | exact Kd.gy _ _ _ _ _ | exact Kd.d6 _ _ _ _ _,aq⟩
   ·
    replace c8:=Bool.eq_false_iff.mpr c8;subst c8
    replace H:=jw H
    have H':=aS H
    clear H
    go_wp2
    apply wp_label
    go_wp2
    go_loopg [0,6] kj2 (fun kq v0 v6 w'=>∃ (x0_2:List (au)) (x6_2:List (List (au))),ah (bw.l0 kq x0_2 a1 x6_2=some (r1,r2))∧ah (kq≤kj2)∧ah (Kd.V cm 34 w' w.heap.size (fun k_=>(P0_ k_∨w.heap.size≤k_)∧some k_≠(v6:Value).ownBlock) v0 x0_2)∧ah (Kd.S (Kd.slice 34 cm) 32 w' w.heap.size (fun k_=>(w.heap.size≤k_)) v6 x6_2)∧ah (Below w.heap.size w w'))
    case atStart=>exact ⟨(l0),(([]:List (List (au)))),H',⟨Nat.le_refl _⟩,⟨by (with_reducible repeat (first | apply Kd.fw | apply Kd.fu | apply Kd.eS));exact Kd.ep HO_0.out (fun _ hk=>⟨hk,(by simp [Value.ownBlock])⟩)⟩,⟨by first | exact Kd.gE _ _ _ _ _ | exact Kd.gB _ _ _ _ _ | exact Kd.fJ _ _ _ _ _ | exact Kd.gy _ _ _ _ _ | exact Kd.d6 _ _ _ _ _⟩,⟨aq⟩⟩
    case round=>
     clear H';(try clear c8);(try clear HO_0);(try clear HB);obtain ⟨x0_2,x6_2,HA,HK2,HO_0,HO_6,HB⟩:=hrel
     cases gk with
     | zero=>exact absurd HA.out (by simp [bw.l0])
     | succ k2=>
      have H:=HA.out;clear HA
      simp only [bw.l0] at H
      by_cases c9:(x0_2.length:Int) > 0
      ·
       rw [if_pos c9] at H;have c9b0:decide (0<(x0_2.length:Int))=true:=decide_eq_true c9;have c9b1:decide (0<x0_2.length)=true:=decide_eq_true (by omega);clear c9
       have H':=aS H
       clear H;obtain ⟨Ao10,co10,eo10⟩:=Kd.mI HO_0.out;subst eo10
       go_wp2
       go_loopg [0,6,7,22] k2 (fun kq v0 v6 v7 v22 w'=>∃ (x0_3:List (au)) (x6_3:List (List (au))) (x7_3:Int) (x22_3:Int),v7 = .int .i64 x7_3∧v22 = .int .i64 x22_3∧ah (bw.l1 kq x0_3 a1 x6_3 x7_3 x0_2 (x0_2.length:Int) x22_3=some (r1,r2))∧ah (kq≤k2)∧ah (Kd.V cm 34 w' w.heap.size (fun k_=>(P0_ k_∨w.heap.size≤k_)∧some k_≠(v6:Value).ownBlock) v0 x0_3)∧ah (Kd.S (Kd.slice 34 cm) 32 w' w.heap.size (fun k_=>(w.heap.size≤k_)) v6 x6_3)∧ah (Kd.V cm 34 w' w.heap.size (fun k_=>(P0_ k_∨w.heap.size≤k_)∧some k_≠(v6:Value).ownBlock) (.slice Ao10 x0_2.length co10) x0_2)∧ah (Below w.heap.size w w'))
       case atStart=>exact ⟨(x0_2),(x6_2),(0),(0),cG,cG,H',⟨Nat.le_refl _⟩,⟨by (with_reducible repeat (first | apply Kd.fw | apply Kd.fu | apply Kd.eS));exact HO_0.out⟩,⟨by (with_reducible repeat (first | apply Kd.iI | apply Kd.iJ | apply Kd.i_));exact HO_6.out⟩,⟨by (with_reducible repeat (first | apply Kd.fw | apply Kd.fu | apply Kd.eS));exact HO_0.out⟩,⟨aq⟩⟩
       case round=>
        clear H';(try clear c8);(try clear c9);(try clear c9b0);(try clear c9b1);(try clear HO_0);(try clear HO_6);(try clear HB);obtain ⟨x0_3,x6_3,x7_3,x22_3,rfl,rfl,HA,HK3,HO_0,HO_6,HO_20,HB⟩:=hrel
        cases gk with
        | zero=>exact absurd HA.out (by simp [bw.l1])
        | succ k3=>
         have H:=HA.out;clear HA
         simp only [bw.l1] at H
         by_cases c11:x22_3<(x0_2.length:Int)
         ·
          rw [if_pos c11] at H;have c11b0:decide (x22_3<(x0_2.length:Int))=true:=decide_eq_true c11;clear c11
          by_cases c12:0≤x22_3
          ·
           rw [if_pos c12] at H;have c12b0:decide (0≤x22_3)=true:=decide_eq_true c12;clear c12
           by_cases c13:x22_3<(x0_2.length:Int)
           ·
            rw [if_pos c13] at H;have c13b0:decide (x22_3<(x0_2.length:Int))=true:=decide_eq_true c13;clear c13;replace H:=bU H;obtain ⟨t444,A140,H⟩:=H;have A14:=aS A140;clear A140
            by_cases c15:(wrap64 (x7_3+(t444.length:Int)))≥a1
            ·
             rw [if_pos c15] at H;have c15b0:decide (a1≤(wrap64 (x7_3+(t444.length:Int))))=true:=decide_eq_true c15;clear c15
             obtain ⟨ji16,hji16⟩:∃ j_:Int,(wrap64 (x22_3+1))=j_:=⟨_,rfl⟩
             replace H:(if 0≤(ji16) then (if (ji16)≤(x0_3.length:Int) then ((eN.f (x0_3.take ((ji16):Int).toNat)).bind fun t452=>(if x6_3.length<5864062014805 then (bw.l0 k3 (x0_3.drop ((ji16):Int).toNat) a1 (x6_3++[t452])) else (none))) else (none)) else (none))=some (r1,r2):=by first | (rw [hji16] at H;exact H) | (simp only [hji16] at H ⊢;exact H)
             (try rw [hji16] at A14)
             have hji16w:(IntKind.i64.wrap (x22_3+1))=ji16:=(cC _).trans hji16
             by_cases c17:0≤(ji16)
             ·
              rw [if_pos c17] at H;have c17b0:=eq_true c17;have c17b1:decide (0≤(ji16))=true:=decide_eq_true c17;clear c17
              by_cases c18:(ji16)≤(x0_3.length:Int)
              ·
               rw [if_pos c18] at H;have c18b0:=eq_true c18;have c18b1:decide ((ji16)≤(x0_3.length:Int))=true:=decide_eq_true c18;clear c18
               obtain ⟨y447,hy447⟩:∃ y_:List (au),y_=(x0_3.take ((ji16):Int).toNat):=⟨_,rfl⟩
               (first | replace H:=l9 hy447 H | rw [←hy447] at H);have Ny447:=aS hy447;clear hy447;replace H:=bU H;obtain ⟨t452,A190,H⟩:=H;have A19:=aS A190;clear A190
               by_cases c20:x6_3.length<5864062014805
               ·
                rw [if_pos c20] at H;have LMc20:=aS c20;clear c20
                obtain ⟨y455,hy455⟩:∃ y_:List (List (au)),y_=(x6_3++[t452]):=⟨_,rfl⟩
                (first | replace H:=l9 hy455 H | rw [←hy455] at H);have Ny455:=aS hy455;clear hy455;have c21b0:=eq_true (bJ:0≤(ji16));have c22b0:=eq_true (bJ:(ji16)≤(x0_3.length:Int))
                obtain ⟨y458,hy458⟩:∃ y_:List (au),y_=(x0_3.drop ((ji16):Int).toNat):=⟨_,rfl⟩
                replace H:(bw.l0 k3 y458 a1 y455)=some (r1,r2):=pU hy458 H;have Ny458:=aS hy458;clear hy458
                have H':=aS H
                clear H;have p442:0≤(x22_3:Int):=bJ;have q442:x22_3<(x0_2.length:Int):=bJ;obtain ⟨ad442,e442,hx442_0,hx442_1,hx442_2,hx442_3,hx442_4⟩:=dN (Kd.dJ HO_20.out).2.2 x22_3 p442 q442;cases e442;replace p442:=eq_true p442;replace q442:=eq_true q442
                try go_wp2_with (first | ((with_reducible refine gD 9 ?_);refine dK 9 #[.string (⟨#[]⟩:ByteArray),.string (⟨#[]⟩:ByteArray),.int .i64 0,.string (⟨#[]⟩:ByteArray),.bool false] 34 ?_;intro gb443 hg w23 hbox hb;replace HO_0:=aS (Kd.kV (Kd.qZ (sel HO_0.out) gb443 (Nat.le_of_eq hg.symm)) hb);replace HO_6:=aS (Kd.lW (Kd.yX (by (with_reducible repeat (first | apply Kd.iI | apply Kd.iJ | apply Kd.i_));exact HO_6.out) gb443 (Nat.le_of_eq hg.symm)) hb);replace HO_20:=aS (Kd.kV (Kd.qZ (sel HO_20.out) gb443 (Nat.le_of_eq hg.symm)) hb);have BK443:=aS (hbox);have GW443:=bsize hg;have GE443:=bsize hg;replace HB:=aM hb;clear hb hbox hg;have hcz24:=cO BK443) | ((with_reducible refine gC 65 ?_);refine dn 29 Tryz.func65 #[.agg #[.string ((af x0_2 x22_3).f0),.string ((af x0_2 x22_3).f1),.int .i64 ((af x0_2 x22_3).f2),.string ((af x0_2 x22_3).f3),.bool ((af x0_2 x22_3).f4)]] ?_;(with_reducible refine (dh.calls ((af x0_2 x22_3).f0) ((af x0_2 x22_3).f1) ((af x0_2 x22_3).f2) ((af x0_2 x22_3).f3) ((af x0_2 x22_3).f4) t444 _ A14.out).mono ?_);rintro e w25 ⟨v445,rfl,ho0,hb⟩;refine ⟨_,rfl,?_⟩;replace HO_0:=aS (Kd.cZ (by (with_reducible repeat (first | apply Kd.fw | apply Kd.fu | apply Kd.eS));exact (Kd.ep (Kd.jg (p:=⟨gb443,4,none⟩) (Kd.jg (p:=⟨gb443,3,none⟩) (Kd.jg (p:=⟨gb443,2,none⟩) (Kd.jg (p:=⟨gb443,1,none⟩) (Kd.jg (p:=⟨gb443,0,none⟩) (Kd.ep HO_0.out (fun k_ hk=>(⟨hk,hk.2⟩:_∧k_≠gb443))) (fun _ hk=>hk.2) (.string ((af x0_2 x22_3).f0))) (fun _ hk=>hk.2) (.string ((af x0_2 x22_3).f1))) (fun _ hk=>hk.2) (.int .i64 ((af x0_2 x22_3).f2))) (fun _ hk=>hk.2) (.string ((af x0_2 x22_3).f3))) (fun _ hk=>hk.2) (.bool ((af x0_2 x22_3).f4))) (fun _ h_=>h_.1))) (dm ho0) hb);replace HO_6:=aS (Kd.lW (by (with_reducible repeat (first | apply Kd.iI | apply Kd.iJ | apply Kd.i_));exact (Kd.kK (Kd.nP (p:=⟨gb443,4,none⟩) (Kd.nP (p:=⟨gb443,3,none⟩) (Kd.nP (p:=⟨gb443,2,none⟩) (Kd.nP (p:=⟨gb443,1,none⟩) (Kd.nP (p:=⟨gb443,0,none⟩) (Kd.kK HO_6.out (fun k_ hk=>(⟨hk,hk.2⟩:_∧k_≠gb443))) (fun _ hk=>hk.2) (.string ((af x0_2 x22_3).f0))) (fun _ hk=>hk.2) (.string ((af x0_2 x22_3).f1))) (fun _ hk=>hk.2) (.int .i64 ((af x0_2 x22_3).f2))) (fun _ hk=>hk.2) (.string ((af x0_2 x22_3).f3))) (fun _ hk=>hk.2) (.bool ((af x0_2 x22_3).f4))) (fun _ h_=>h_.1))) hb);replace HO_20:=aS (Kd.cZ (by (with_reducible repeat (first | apply Kd.fw | apply Kd.fu | apply Kd.eS));exact (Kd.ep (Kd.jg (p:=⟨gb443,4,none⟩) (Kd.jg (p:=⟨gb443,3,none⟩) (Kd.jg (p:=⟨gb443,2,none⟩) (Kd.jg (p:=⟨gb443,1,none⟩) (Kd.jg (p:=⟨gb443,0,none⟩) (Kd.ep HO_20.out (fun k_ hk=>(⟨hk,hk.2⟩:_∧k_≠gb443))) (fun _ hk=>hk.2) (.string ((af x0_2 x22_3).f0))) (fun _ hk=>hk.2) (.string ((af x0_2 x22_3).f1))) (fun _ hk=>hk.2) (.int .i64 ((af x0_2 x22_3).f2))) (fun _ hk=>hk.2) (.string ((af x0_2 x22_3).f3))) (fun _ hk=>hk.2) (.bool ((af x0_2 x22_3).f4))) (fun _ h_=>h_.1))) (dm ho0) hb);have HO446:=aS (Kd.bn (Kd.j6 (M:=fun k_=>(w.heap.size≤k_)) ho0 (aA aq) (fun k_ h_=>h_)) (aA aq));replace BK443:=aS (aI (g:=gb443) (o:=.cells #[.string ((af x0_2 x22_3).f0),.string ((af x0_2 x22_3).f1),.int .i64 ((af x0_2 x22_3).f2),.string ((af x0_2 x22_3).f3),.bool ((af x0_2 x22_3).f4)] 34 (0,0)) (by (with_reducible repeat (first | refine ay ?_ _ | refine ar ?_ | refine ax ?_ _));refine bk (cs:=#[.string ((af x0_2 x22_3).f0),.string ((af x0_2 x22_3).f1),.int .i64 ((af x0_2 x22_3).f2),.string ((af x0_2 x22_3).f3),.bool false]) ?_ 4 _ rfl;(with_reducible repeat (first | refine ay ?_ _ | refine ar ?_ | refine ax ?_ _));refine bk (cs:=#[.string ((af x0_2 x22_3).f0),.string ((af x0_2 x22_3).f1),.int .i64 ((af x0_2 x22_3).f2),.string (⟨#[]⟩:ByteArray),.bool false]) ?_ 3 _ rfl;(with_reducible repeat (first | refine ay ?_ _ | refine ar ?_ | refine ax ?_ _));refine bk (cs:=#[.string ((af x0_2 x22_3).f0),.string ((af x0_2 x22_3).f1),.int .i64 0,.string (⟨#[]⟩:ByteArray),.bool false]) ?_ 2 _ rfl;(with_reducible repeat (first | refine ay ?_ _ | refine ar ?_ | refine ax ?_ _));refine bk (cs:=#[.string ((af x0_2 x22_3).f0),.string (⟨#[]⟩:ByteArray),.int .i64 0,.string (⟨#[]⟩:ByteArray),.bool false]) ?_ 1 _ rfl;(with_reducible repeat (first | refine ay ?_ _ | refine ar ?_ | refine ax ?_ _));refine bk (cs:=#[.string (⟨#[]⟩:ByteArray),.string (⟨#[]⟩:ByteArray),.int .i64 0,.string (⟨#[]⟩:ByteArray),.bool false]) ?_ 0 _ rfl;(with_reducible repeat (first | refine ay ?_ _ | refine ar ?_ | refine ax ?_ _));exact BK443.out) hb);replace HB:=aM hb;(try clear hb);(try clear hk);(try clear hi);(try clear ho0);obtain ⟨Ao26,co26,eo26⟩:=Kd.bp HO446.out;subst eo26))
                replace HO_0:=aS (Kd.eS HO_0.out);replace HO_6:=aS (Kd.i_ HO_6.out);replace HO_20:=aS (Kd.eS HO_20.out);replace HO446:=aS (Kd.bD HO446.out);replace BK443:=aS (ar BK443.out);replace HB:=aS (jS HB.out);obtain ⟨Ao29,co29,eo29⟩:=Kd.mI HO_0.out
                (first | subst eo29 | (injection eo29 with f1_ f2_ f3_;have f4_:=f1_.symm;have f5_:=f3_.symm;clear f1_ f2_ f3_;subst f4_;subst f5_))
                have q28:((ji16):Int)≤((x0_3.length:Int):Int):=bJ;obtain ⟨i028,hi028,_,hsz28,_⟩:=info_parts eO;have hroom28:x0_3.length≤co29:=(Kd.dJ HO_0.out).2.1;have hC28:Kd.F cm _ _ Ao29 x0_3.length x0_3:=(Kd.oy (base:=w.heap.size) HO_0.out).2.2;have hcut28:=jO (P:=Tryz.prog) 32 34 .i64 Tryz.underlying32 hi028 Ao29 x0_3.length co29 (ji16) (bJ) q28 hroom28;have hr28:=Kd.sH (m:=((ji16):Int).toNat) hC28 (by omega);have hy28:y447.length=((ji16):Int).toNat:=(by rw [Ny447.out,kY];omega);rw [←Ny447.out] at hr28;rw [←hy28] at hcut28;have HO451:=aS (show Kd.V cm 34 _ w.heap.size _ (.slice Ao29 y447.length co29) y447 from Kd.nE (by omega) hr28);have HC451:=aS (show y447.length≤co29 from by omega);clear hr28 hC28 hroom28 hi028 hsz28;have KY28:=aS hy28;clear hy28;replace q28:=eq_true q28;have q30:((ji16):Int)≤((x0_3.length:Int):Int):=bJ;obtain ⟨i030,hi030,_,hsz30,_⟩:=info_parts eO;have hroom30:x0_3.length≤co29:=(Kd.dJ HO_0.out).2.1;have hC30:Kd.F cm _ _ Ao29 x0_3.length x0_3:=(Kd.oy (base:=w.heap.size) HO_0.out).2.2;have q030:(0:Int)≤((ji16):Int):=bJ;have hcut30:=gI (P:=Tryz.prog) 32 34 .i64 Tryz.underlying32 hi030 5 hsz30 Ao29 x0_3.length co29 (ji16) q030 q30;have hr30:=Kd.Bo (m:=((ji16):Int).toNat) (c:=co29) hC30 (by omega) hroom30
                obtain ⟨A30,hA30⟩:∃ A1_,A1_=(if co29=((ji16):Int).toNat then Ao29 else (Ao29:Option Addr).map (·.add (((ji16):Int).toNat*5))):=⟨_,rfl⟩
                obtain ⟨c30,hc30⟩:∃ c1_,c1_=co29 - ((ji16):Int).toNat:=⟨_,rfl⟩
                have hy30:y458.length=x0_3.length - ((ji16):Int).toNat:=(by rw [Ny458.out,mh]<;>omega);rw [show (x0_3).drop ((ji16):Int).toNat=y458 from Ny458.out.symm] at hr30;replace hr30:Kd.F cm _ _ A30 y458.length y458:=(by rw [hA30];exact hr30);rw [←hy30,← hA30,← hc30] at hcut30;have HO462:=aS (show Kd.V cm 34 _ w.heap.size _ (.slice A30 y458.length c30) y458 from Kd.nE (by rw [hy30,hc30];exact Nat.sub_le_sub_right hroom30 _) hr30);have HC462:=aS (show y458.length≤c30 from by rw [hy30,hc30];exact Nat.sub_le_sub_right hroom30 _);clear hr30 hC30 hroom30 hi030 hsz30 hc30;have KY30:=aS hy30;have KA30:=aS hA30;clear hy30 hA30;replace q30:=eq_true q30;refine di (n:=14) (S:=fun w'=>True) (ds:=[]) (bA 14 0) (by kernel_rfl) rfl rfl trivial (fun hHeld=>?_);refine cD bw.Ge bw.FI (fun HT_ HW_=>?_)
                generalize w25.drew=w27 at HO_0 HO_6 HO_20 HO446 BK443 HB HO451 HO462 hHeld ⊢
                refine aZ [(0,35),(1,36),(2,37),(3,38),(4,39),(8,43),(9,44),(10,45),(11,46)] ?_
                iterate 9 (refine ck HT_ ?_)
                refine bT (bA 14 3871) (by kernel_rfl) ?_;refine dH 5 (N:=some 40) (bA 14 3903) HT_ (fun K hK=>?_);refine gb Tryz.func52 #[.slice Ao29 y447.length co29] ?_
                with_reducible refine (eN.calls _ _ y447 t452 _ ?side1 ?side2 A19.out).mono ?_
                (case side1=>exact eH ((Kd.dJ HO451.out).2.2))
                (case side2=>exact (Kd.dJ HO451.out).2.1)
                rintro e w31 ⟨v453,rfl,ho0,hb⟩
                refine ⟨_,rfl,?_⟩;replace HO_0:=aS (Kd.cZ (sel HO_0.out) (dm ho0) hb);replace HO_6:=aS (Kd.xB (by (with_reducible repeat (first | apply Kd.iI | apply Kd.iJ | apply Kd.i_));exact HO_6.out) (dm ho0) hb);replace HO_20:=aS (Kd.cZ (sel HO_20.out) (dm ho0) hb);replace HO446:=aS (Kd.dB (rel HO446.out) hb);replace HO451:=aS (Kd.cZ (sel HO451.out) (dm ho0) hb);replace HO462:=aS (Kd.cZ (sel HO462.out) (dm ho0) hb);have HO454:=aS (Kd.bn (Kd.qp (Kd.j6 (M:=fun k_=>(w.heap.size≤k_)) ho0 (aA aq) (fun k_ h_=>h_)) (g:=gb443) (o:=.cells #[.string ((af x0_2 x22_3).f0),.string ((af x0_2 x22_3).f1),.int .i64 ((af x0_2 x22_3).f2),.string ((af x0_2 x22_3).f3),.bool ((af x0_2 x22_3).f4)] 34 (0,0)) (eA BK443.out)) (aA aq));replace BK443:=fp BK443 hb;replace HB:=aM hb;(try clear hb);(try clear hk);(try clear hi);(try clear ho0);obtain ⟨Ao33,co33,eo33⟩:=Kd.bp HO454.out
                (first | subst eo33 | (injection eo33 with f1_ f2_ f3_;have f4_:=f1_.symm;have f5_:=f3_.symm;clear f1_ f2_ f3_;subst f4_;subst f5_))
                refine hK.out _ _ trivial (fun hHeld=>?_);clear hK K;refine nm 40 ?_;refine dH 6 (N:=some 41) (bA 14 3967) HT_ (fun K hK=>?_);refine mg (w1:=?_) (v:=?_) (by rfl) rfl ?_ ?_
                rotate_left 2
                ·
                 go_simp
                 constructor
                 ·
                  rfl
                 ·
                  rfl
                refine hK.out _ _ trivial (fun hHeld=>?_);clear hK K;refine nm 41 ?_;refine dH 7 (N:=some 42) (bA 14 4095) HT_ (fun K hK=>?_);refine Kd.wU (Kd.slice 34 cm) (w0:=w) w.heap.size (by rfl) (.tmp 35) (.tmp 41) 73 32 (.slice none 0 0) 24 rfl Tryz.underlying73 qj rfl (by decide) (by omega) u6 x6_3 t452 [.slice Ao33 t452.length co33] (fun k_=>(w.heap.size≤k_)∧k_≠gb443) (fun k_=>some k_=(.slice Ao33 t452.length co33:Value).ownBlock) rfl rfl ?aP (fun k_ hk_=>((Kd.aK (ok':=fun k_=>((fun k_=>(w.heap.size≤k_)∧k_≠gb443)) k_∧some k_≠(u6:Value).ownBlock) (Kd.o8 (HO454.out) (Kd.qn HO_6.out) (by decide)) (fun k_ hk=>⟨⟨hk.1.1.1,hk.1.2⟩,hk.2⟩))).1 k_ hk_.symm) ?aF ?aO ?aB ?aS ?aL ?_
                (case aP=>exact Kd.uY (Kd.aK (Kd.jL rfl (Kd.aK (ok':=fun k_=>((fun k_=>(w.heap.size≤k_)∧k_≠gb443)) k_∧some k_≠(u6:Value).ownBlock) (Kd.o8 (HO454.out) (Kd.qn HO_6.out) (by decide)) (fun k_ hk=>⟨⟨hk.1.1.1,hk.1.2⟩,hk.2⟩))) (fun _ h_=>h_)))
                (case aB=>exact aq)
                (case aF=>exact (fun k_ hk=>⟨(Nat.le_trans (aA aq) hk),Kd.nU (g:=gb443) (o:=.cells #[.string ((af x0_2 x22_3).f0),.string ((af x0_2 x22_3).f1),.int .i64 ((af x0_2 x22_3).f2),.string ((af x0_2 x22_3).f3),.bool ((af x0_2 x22_3).f4)] 34 (0,0)) (eA BK443.out) k_ hk⟩))
                (case aO=>exact (by (with_reducible repeat (first | apply Kd.iI | apply Kd.iJ | apply Kd.i_));exact Kd.kK HO_6.out (fun k_ hk=>⟨⟨hk.1.1,hk.1.2⟩,fun e_=>hk.2 e_⟩)))
                (case aS=>exact (aA aq))
                (case aL=>have:=LMc20.out;omega)
                intro v456 w32 ho hb hg hat
                rw [←Ny455.out] at ho;have n0_:=aS (Kd.nI (ok:=(fun k_=>(P0_ k_∨w.heap.size≤k_)∧some k_≠(.slice Ao26 t444.length co26:Value).ownBlock∧some k_≠(.slice Ao33 t452.length co33:Value).ownBlock∧k_≠gb443)) (by (with_reducible repeat (first | apply Kd.fw | apply Kd.fu | apply Kd.eS));exact Kd.ep HO_0.out (fun _ hk=>⟨⟨hk.1.1.1.1,⟨hk.1.2,⟨hk.2,hk.1.1.2⟩⟩⟩,hk.1.1.1.2⟩)) hg hat);have n1_:=aS (Kd.nI (ok:=(fun k_=>(P0_ k_∨w.heap.size≤k_)∧some k_≠(.slice Ao26 t444.length co26:Value).ownBlock∧some k_≠(.slice Ao33 t452.length co33:Value).ownBlock∧k_≠gb443)) (by (with_reducible repeat (first | apply Kd.fw | apply Kd.fu | apply Kd.eS));exact Kd.ep HO_20.out (fun _ hk=>⟨⟨hk.1.1.1.1,⟨hk.1.2,⟨hk.2,hk.1.1.2⟩⟩⟩,hk.1.1.1.2⟩)) hg hat);have n2_:=aS (eP (g:=gb443) (o:=.cells #[.string ((af x0_2 x22_3).f0),.string ((af x0_2 x22_3).f1),.int .i64 ((af x0_2 x22_3).f2),.string ((af x0_2 x22_3).f3),.bool ((af x0_2 x22_3).f4)] 34 (0,0)) (eA BK443.out) hg (Kd.GS HO_6.out BK443.out (by decide)));have n3_:=aS (Kd.Aw (rel HO446.out) (Kd.qn (by (with_reducible repeat (first | apply Kd.iI | apply Kd.iJ | apply Kd.i_));exact HO_6.out)) (by decide) hg);have n4_:=aS (Kd.nI (ok:=(fun k_=>(P0_ k_∨w.heap.size≤k_)∧some k_≠(.slice Ao26 t444.length co26:Value).ownBlock∧some k_≠(.slice Ao33 t452.length co33:Value).ownBlock∧k_≠gb443)) (by (with_reducible repeat (first | apply Kd.fw | apply Kd.fu | apply Kd.eS));exact Kd.ep HO451.out (fun _ hk=>⟨⟨hk.1.1.1.1,⟨hk.1.2,⟨hk.2,hk.1.1.2⟩⟩⟩,hk.1.1.1.2⟩)) hg hat);have n5_:=aS (Kd.nI (ok:=(fun k_=>(P0_ k_∨w.heap.size≤k_)∧some k_≠(.slice Ao26 t444.length co26:Value).ownBlock∧some k_≠(.slice Ao33 t452.length co33:Value).ownBlock∧k_≠gb443)) (by (with_reducible repeat (first | apply Kd.fw | apply Kd.fu | apply Kd.eS));exact Kd.ep HO462.out (fun _ hk=>⟨⟨hk.1.1.1.1,⟨hk.1.2,⟨hk.2,hk.1.1.2⟩⟩⟩,hk.1.1.1.2⟩)) hg hat);have n6_:=aS (hb);have n7_:=aS (ho);clear HO_0;clear HO_20;clear BK443;clear HO446;clear HO451;clear HO462;clear HB;clear HO_6;clear HO454;have HO_0:=n0_;have HO_20:=n1_;have BK443:=n2_;have HO446:=n3_;have HO451:=n4_;have HO462:=n5_;have HB:=n6_;have HO457:=n7_;clear n0_ n1_ n2_ n3_ n4_ n5_ n6_ n7_;clear ho hb hg hat;refine hK.out _ _ trivial (fun hHeld=>?_);clear hK K;refine nm 42 ?_;refine aZ [(12,6),(13,0)] ?_
                iterate 2 (refine ck HT_ ?_)
                refine bT (bA 14 16383) (by kernel_rfl) ?_;refine fX HT_ ?_
                try go_wp2
                go_roundg k3
                case measure=>have:=HJ2.out;have:=HK2.out;have:=HK3.out;omega
                case rel=>exact ⟨(y458),(y455),H',⟨by have:=HJ2.out;have:=HK2.out;have:=HK3.out;omega⟩,⟨by (with_reducible repeat (first | apply Kd.fw | apply Kd.fu | apply Kd.eS));exact Kd.ep HO462.out (fun _ hk=>⟨hk.1.1,hk.2⟩)⟩,⟨by (with_reducible repeat (first | apply Kd.iI | apply Kd.iJ | apply Kd.i_));exact Kd.kK HO457.out (fun _ hk=>hk.1)⟩,⟨aq⟩⟩
               ·
                rw [if_neg c20] at H;exact absurd H (by simp)
              ·
               rw [if_neg c18] at H;exact absurd H (by simp)
             ·
              rw [if_neg c17] at H;exact absurd H (by simp)
            ·
             rw [if_neg c15] at H;have c15b0:decide (a1≤(wrap64 (x7_3+(t444.length:Int))))=false:=decide_eq_false c15;clear c15
             have H':=aS H
             clear H;have p442:0≤(x22_3:Int):=bJ;have q442:x22_3<(x0_2.length:Int):=bJ;obtain ⟨ad442,e442,hx442_0,hx442_1,hx442_2,hx442_3,hx442_4⟩:=dN (Kd.dJ HO_20.out).2.2 x22_3 p442 q442;cases e442;replace p442:=eq_true p442;replace q442:=eq_true q442
             go_wp2_with (first | ((with_reducible refine gD 9 ?_);refine dK 9 #[.string (⟨#[]⟩:ByteArray),.string (⟨#[]⟩:ByteArray),.int .i64 0,.string (⟨#[]⟩:ByteArray),.bool false] 34 ?_;intro gb443 hg w34 hbox hb;replace HO_0:=aS (Kd.kV (Kd.qZ (sel HO_0.out) gb443 (Nat.le_of_eq hg.symm)) hb);replace HO_6:=aS (Kd.lW (Kd.yX (by (with_reducible repeat (first | apply Kd.iI | apply Kd.iJ | apply Kd.i_));exact HO_6.out) gb443 (Nat.le_of_eq hg.symm)) hb);replace HO_20:=aS (Kd.kV (Kd.qZ (sel HO_20.out) gb443 (Nat.le_of_eq hg.symm)) hb);have BK443:=aS (hbox);have GW443:=bsize hg;have GE443:=bsize hg;replace HB:=aM hb;clear hb hbox hg;have hcz35:=cO BK443) | ((with_reducible refine gC 65 ?_);refine dn 29 Tryz.func65 #[.agg #[.string ((af x0_2 x22_3).f0),.string ((af x0_2 x22_3).f1),.int .i64 ((af x0_2 x22_3).f2),.string ((af x0_2 x22_3).f3),.bool ((af x0_2 x22_3).f4)]] ?_;(with_reducible refine (dh.calls ((af x0_2 x22_3).f0) ((af x0_2 x22_3).f1) ((af x0_2 x22_3).f2) ((af x0_2 x22_3).f3) ((af x0_2 x22_3).f4) t444 _ A14.out).mono ?_);rintro e w36 ⟨v445,rfl,ho0,hb⟩;refine ⟨_,rfl,?_⟩;replace HO_0:=aS (Kd.cZ (by (with_reducible repeat (first | apply Kd.fw | apply Kd.fu | apply Kd.eS));exact (Kd.ep (Kd.jg (p:=⟨gb443,4,none⟩) (Kd.jg (p:=⟨gb443,3,none⟩) (Kd.jg (p:=⟨gb443,2,none⟩) (Kd.jg (p:=⟨gb443,1,none⟩) (Kd.jg (p:=⟨gb443,0,none⟩) (Kd.ep HO_0.out (fun k_ hk=>(⟨hk,hk.2⟩:_∧k_≠gb443))) (fun _ hk=>hk.2) (.string ((af x0_2 x22_3).f0))) (fun _ hk=>hk.2) (.string ((af x0_2 x22_3).f1))) (fun _ hk=>hk.2) (.int .i64 ((af x0_2 x22_3).f2))) (fun _ hk=>hk.2) (.string ((af x0_2 x22_3).f3))) (fun _ hk=>hk.2) (.bool ((af x0_2 x22_3).f4))) (fun _ h_=>h_.1))) (dm ho0) hb);replace HO_6:=aS (Kd.lW (by (with_reducible repeat (first | apply Kd.iI | apply Kd.iJ | apply Kd.i_));exact (Kd.kK (Kd.nP (p:=⟨gb443,4,none⟩) (Kd.nP (p:=⟨gb443,3,none⟩) (Kd.nP (p:=⟨gb443,2,none⟩) (Kd.nP (p:=⟨gb443,1,none⟩) (Kd.nP (p:=⟨gb443,0,none⟩) (Kd.kK HO_6.out (fun k_ hk=>(⟨hk,hk.2⟩:_∧k_≠gb443))) (fun _ hk=>hk.2) (.string ((af x0_2 x22_3).f0))) (fun _ hk=>hk.2) (.string ((af x0_2 x22_3).f1))) (fun _ hk=>hk.2) (.int .i64 ((af x0_2 x22_3).f2))) (fun _ hk=>hk.2) (.string ((af x0_2 x22_3).f3))) (fun _ hk=>hk.2) (.bool ((af x0_2 x22_3).f4))) (fun _ h_=>h_.1))) hb);replace HO_20:=aS (Kd.cZ (by (with_reducible repeat (first | apply Kd.fw | apply Kd.fu | apply Kd.eS));exact (Kd.ep (Kd.jg (p:=⟨gb443,4,none⟩) (Kd.jg (p:=⟨gb443,3,none⟩) (Kd.jg (p:=⟨gb443,2,none⟩) (Kd.jg (p:=⟨gb443,1,none⟩) (Kd.jg (p:=⟨gb443,0,none⟩) (Kd.ep HO_20.out (fun k_ hk=>(⟨hk,hk.2⟩:_∧k_≠gb443))) (fun _ hk=>hk.2) (.string ((af x0_2 x22_3).f0))) (fun _ hk=>hk.2) (.string ((af x0_2 x22_3).f1))) (fun _ hk=>hk.2) (.int .i64 ((af x0_2 x22_3).f2))) (fun _ hk=>hk.2) (.string ((af x0_2 x22_3).f3))) (fun _ hk=>hk.2) (.bool ((af x0_2 x22_3).f4))) (fun _ h_=>h_.1))) (dm ho0) hb);have HO446:=aS (Kd.bn (Kd.j6 (M:=fun k_=>(w.heap.size≤k_)) ho0 (aA aq) (fun k_ h_=>h_)) (aA aq));replace BK443:=aS (aI (g:=gb443) (o:=.cells #[.string ((af x0_2 x22_3).f0),.string ((af x0_2 x22_3).f1),.int .i64 ((af x0_2 x22_3).f2),.string ((af x0_2 x22_3).f3),.bool ((af x0_2 x22_3).f4)] 34 (0,0)) (by (with_reducible repeat (first | refine ay ?_ _ | refine ar ?_ | refine ax ?_ _));refine bk (cs:=#[.string ((af x0_2 x22_3).f0),.string ((af x0_2 x22_3).f1),.int .i64 ((af x0_2 x22_3).f2),.string ((af x0_2 x22_3).f3),.bool false]) ?_ 4 _ rfl;(with_reducible repeat (first | refine ay ?_ _ | refine ar ?_ | refine ax ?_ _));refine bk (cs:=#[.string ((af x0_2 x22_3).f0),.string ((af x0_2 x22_3).f1),.int .i64 ((af x0_2 x22_3).f2),.string (⟨#[]⟩:ByteArray),.bool false]) ?_ 3 _ rfl;(with_reducible repeat (first | refine ay ?_ _ | refine ar ?_ | refine ax ?_ _));refine bk (cs:=#[.string ((af x0_2 x22_3).f0),.string ((af x0_2 x22_3).f1),.int .i64 0,.string (⟨#[]⟩:ByteArray),.bool false]) ?_ 2 _ rfl;(with_reducible repeat (first | refine ay ?_ _ | refine ar ?_ | refine ax ?_ _));refine bk (cs:=#[.string ((af x0_2 x22_3).f0),.string (⟨#[]⟩:ByteArray),.int .i64 0,.string (⟨#[]⟩:ByteArray),.bool false]) ?_ 1 _ rfl;(with_reducible repeat (first | refine ay ?_ _ | refine ar ?_ | refine ax ?_ _));refine bk (cs:=#[.string (⟨#[]⟩:ByteArray),.string (⟨#[]⟩:ByteArray),.int .i64 0,.string (⟨#[]⟩:ByteArray),.bool false]) ?_ 0 _ rfl;(with_reducible repeat (first | refine ay ?_ _ | refine ar ?_ | refine ax ?_ _));exact BK443.out) hb);replace HB:=aM hb;(try clear hb);(try clear hk);(try clear hi);(try clear ho0);obtain ⟨Ao37,co37,eo37⟩:=Kd.bp HO446.out;subst eo37))
             go_roundg k3
             case measure=>have:=HJ2.out;have:=HK2.out;have:=HK3.out;omega
             case rel=>exact ⟨(x0_3),(x6_3),(wrap64 (x7_3+(t444.length:Int))),(wrap64 (x22_3+1)),cG,cG,H',⟨by have:=HJ2.out;have:=HK2.out;have:=HK3.out;omega⟩,⟨by (with_reducible repeat (first | apply Kd.fw | apply Kd.fu | apply Kd.eS));exact Kd.ep HO_0.out (fun _ hk=>⟨hk.1.1.1,hk.1.1.2⟩)⟩,⟨by (with_reducible repeat (first | apply Kd.iI | apply Kd.iJ | apply Kd.i_));exact Kd.kK HO_6.out (fun _ hk=>hk.1)⟩,⟨by (with_reducible repeat (first | apply Kd.fw | apply Kd.fu | apply Kd.eS));exact Kd.ep HO_20.out (fun _ hk=>⟨hk.1.1.1,hk.1.1.2⟩)⟩,⟨aq⟩⟩
           ·
            rw [if_neg c13] at H;exact absurd H (by simp)
          ·
           rw [if_neg c12] at H;exact absurd H (by simp)
         ·
          rw [if_neg c11] at H;have c11b0:decide (x22_3<(x0_2.length:Int))=false:=decide_eq_false c11;clear c11;replace H:=bU H;obtain ⟨t436,A380,H⟩:=H;have A38:=aS A380;clear A380
          by_cases c39:x6_3.length<5864062014805
          ·
           rw [if_pos c39] at H;have LMc39:=aS c39;clear c39
           obtain ⟨y439,hy439⟩:∃ y_:List (List (au)),y_=(x6_3++[t436]):=⟨_,rfl⟩
           replace H:(some (y439,0))=some (r1,r2):=pU hy439 H;have Ny439:=aS hy439;clear hy439
           simp only [Option.some.injEq,Prod.mk.injEq] at H
           obtain ⟨rfl,rfl⟩:=H;obtain ⟨Ao40,co40,eo40⟩:=Kd.mI HO_0.out;subst eo40
           go_wp2_with (first | ((with_reducible refine gC 52 ?_);refine dn 50 Tryz.func52 #[.slice Ao40 x0_3.length co40] ?_;(with_reducible refine (eN.calls _ _ x0_3 t436 _ ?side1 ?side2 A38.out).mono ?_);(case side1=>exact eH ((Kd.dJ HO_0.out).2.2));(case side2=>exact (Kd.dJ HO_0.out).2.1);rintro e w41 ⟨v437,rfl,ho0,hb⟩;refine ⟨_,rfl,?_⟩;replace HO_0:=aS (Kd.cZ (sel HO_0.out) (dm ho0) hb);replace HO_6:=aS (Kd.xB (by (with_reducible repeat (first | apply Kd.iI | apply Kd.iJ | apply Kd.i_));exact HO_6.out) (dm ho0) hb);replace HO_20:=aS (Kd.cZ (sel HO_20.out) (dm ho0) hb);have HO438:=aS (Kd.bn (Kd.j6 (M:=fun k_=>(w.heap.size≤k_)) ho0 (aA aq) (fun k_ h_=>h_)) (aA aq));replace HB:=aM hb;(try clear hb);(try clear hk);(try clear hi);(try clear ho0);obtain ⟨Ao43,co43,eo43⟩:=Kd.bp HO438.out;subst eo43) | ((with_reducible refine fS (b:=.append) (xs:=#[.tmp 48,.tmp 51]) rfl ?_);at_builtin;refine Kd.DP (Kd.slice 34 cm) (w0:=w) w.heap.size rfl (.tmp 48) (.tmp 51) 73 32 (.slice none 0 0) 24 rfl Tryz.underlying73 qj rfl (by decide) (by omega) u6 x6_3 t436 [.slice Ao43 t436.length co43] (fun k_=>(w.heap.size≤k_)) (fun k_=>some k_=(.slice Ao43 t436.length co43:Value).ownBlock) rfl rfl ?aP (fun k_ hk_=>((Kd.aK (ok':=fun k_=>((fun k_=>(w.heap.size≤k_))) k_∧some k_≠(u6:Value).ownBlock) (Kd.o8 (HO438.out) (Kd.qn HO_6.out) (by decide)) (fun k_ hk=>⟨hk.1.1,hk.2⟩))).1 k_ hk_.symm) ?aF ?aO ?aB ?aS ?aL ?_;(case aP=>exact Kd.uY (Kd.aK (Kd.jL rfl (Kd.aK (ok':=fun k_=>((fun k_=>(w.heap.size≤k_))) k_∧some k_≠(u6:Value).ownBlock) (Kd.o8 (HO438.out) (Kd.qn HO_6.out) (by decide)) (fun k_ hk=>⟨hk.1.1,hk.2⟩))) (fun _ h_=>h_)));(case aB=>exact aq);(case aF=>exact (fun k_ hk=>(Nat.le_trans (aA aq) hk)));(case aO=>exact (by (with_reducible repeat (first | apply Kd.iI | apply Kd.iJ | apply Kd.i_));exact Kd.kK HO_6.out (fun k_ hk=>⟨hk.1,fun e_=>hk.2 e_⟩)));(case aS=>exact (aA aq));(case aL=>have:=LMc39.out;omega);intro v440 w42 ho hb hg hat;rw [←Ny439.out] at ho;have n0_:=aS (Kd.nI (ok:=(fun k_=>(P0_ k_∨w.heap.size≤k_)∧some k_≠(.slice Ao43 t436.length co43:Value).ownBlock)) (by (with_reducible repeat (first | apply Kd.fw | apply Kd.fu | apply Kd.eS));exact Kd.ep HO_0.out (fun _ hk=>⟨⟨hk.1.1,hk.2⟩,hk.1.2⟩)) hg hat);have n1_:=aS (Kd.nI (ok:=(fun k_=>(P0_ k_∨w.heap.size≤k_)∧some k_≠(.slice Ao43 t436.length co43:Value).ownBlock)) (by (with_reducible repeat (first | apply Kd.fw | apply Kd.fu | apply Kd.eS));exact Kd.ep HO_20.out (fun _ hk=>⟨⟨hk.1.1,hk.2⟩,hk.1.2⟩)) hg hat);have n2_:=aS (hb);have n3_:=aS (ho);clear HO_0;clear HO_20;clear HB;clear HO_6;clear HO438;have HO_0:=n0_;have HO_20:=n1_;have HB:=n2_;have HO441:=n3_;clear n0_ n1_ n2_ n3_;clear ho hb hg hat))
           (try simp only [Exit.noGoto_ret])
           go_ret2
           exact ⟨_,dP,by (with_reducible repeat (first | apply Kd.iI | apply Kd.iJ | apply Kd.i_));exact HO441.out,aq⟩
          ·
           rw [if_neg c39] at H;exact absurd H (by simp)
      ·
       rw [if_neg c9] at H;have c9b0:decide (0<(x0_2.length:Int))=false:=decide_eq_false c9;have c9b1:decide (0<x0_2.length)=false:=decide_eq_false (by omega);clear c9
       simp only [Option.some.injEq,Prod.mk.injEq] at H
       obtain ⟨rfl,rfl⟩:=H;obtain ⟨Ao44,co44,eo44⟩:=Kd.mI HO_0.out;subst eo44
       go_wp2
       (try simp only [Exit.noGoto_ret])
       go_ret2
       exact ⟨_,dP,by (with_reducible repeat (first | apply Kd.iI | apply Kd.iJ | apply Kd.i_));exact HO_6.out,aq⟩
def gV.f (k:Nat) (l0:List (au)) (a1:Int):Option (List Int × Int):=(bw.f k l0 a1).bind fun bt463=>(if bt463.2=0 then ((cM.f k l0).bind fun t467=>((fq.f k bt463.1 t467).bind fun bt470=>(some (bt470.1,bt470.2)))) else (some (([]:List Int),bt463.2)))
theorem gV.mono:∀ a0 a1 k,aH (gV.f k a0 a1) (gV.f (k+1) a0 a1):=by
 intro a0 a1 k
 unfold gV.f
 have m0:=@bw.mono;have m1:=@fq.mono;have m2:=@cM.mono;exact eF
theorem gV.calls (k:Nat) (A0:Option Addr) (c0:Nat) (l0:List (au)) (a1:Int) (r1:List Int) (r2:Int) (w:World) (hr0:Kd.C cm w A0 l0.length l0) (hc0:l0.length≤c0) (h:gV.f k l0 a1=some (r1,r2)) :
  Calls Tryz.prog 50 #[.slice A0 l0.length c0,.int .i64 a1] w fun e w'=>∃ v0_:Value,e = .returned (.tuple #[v0_,.int .i64 r2])∧Kd.R (Kd.int .u8) 5 w' w.heap.size (fun _=>True) v0_ r1∧Below w.heap.size w w':=by
 have HR0:=aS hr0;have HC0:=aS hc0;clear hr0 hc0;have HB:=aS (Below.refl w.heap.size w);have H:((bw.f k l0 a1).bind fun bt463=>(if bt463.2=0 then ((cM.f k l0).bind fun t467=>((fq.f k bt463.1 t467).bind fun bt470=>(some (bt470.1,bt470.2)))) else (some (([]:List Int),bt463.2))))=some (r1,r2):=h;clear h;replace H:=bU H;obtain ⟨⟨t463,t466⟩,A30,H⟩:=H;(try dsimp only at H);have A3:=aS A30;clear A30
 by_cases c4:t466=0
 ·
  rw [if_pos c4] at H;obtain ⟨c4b0,c4b1⟩:=jh c4;clear c4;replace H:=bU H;obtain ⟨t467,A50,H⟩:=H;have A5:=aS A50;clear A50;replace H:=bU H;obtain ⟨⟨t470,t471⟩,A60,H⟩:=H;(try dsimp only at H);have A6:=aS A60;clear A60
  simp only [Option.some.injEq,Prod.mk.injEq] at H
  obtain ⟨rfl,rfl⟩:=H
  go_enter Tryz.func50,Tryz.ntmps50
  go_wp2_with (first | ((with_reducible refine gC 68 ?_);refine dn 11 Tryz.func68 #[.slice A0 l0.length c0,.int .i64 a1] ?_;(with_reducible refine (bw.calls k (fun k_=>k_<w.heap.size) _ _ l0 a1 t463 t466 _ ?side1 A3.out).mono ?_);(case side1=>exact Kd.nE HC0.out (Kd.mC (Kd.CJ qR HR0.out) aq));rintro e w7 ⟨v464,rfl,ho0,hb⟩;refine ⟨_,rfl,?_⟩;have HO465:=aS (Kd.zY (Kd.kK (ok':=fun k_=>True) ho0 (fun _ hk_=>trivial)) (aA aq));replace HB:=aM hb;(try clear hb);(try clear hk);(try clear hi);(try clear ho0)) | ((with_reducible refine gC 70 ?_);refine dn 19 Tryz.func70 #[.slice A0 l0.length c0] ?_;(with_reducible refine (cM.calls k _ _ l0 t467 _ ?side1 ?side2 A5.out).mono ?_);(case side1=>exact eH (Kd.cH HR0.out HB.out));(case side2=>exact HC0.out);rintro e w8 ⟨v468,rfl,ho0,hb⟩;refine ⟨_,rfl,?_⟩;replace HO465:=aS (Kd.lW (by (with_reducible repeat (first | apply Kd.iI | apply Kd.iJ | apply Kd.i_));exact HO465.out) hb);have HO469:=aS (Kd.bn ho0 (aA aq));replace HB:=aM hb;(try clear hb);(try clear hk);(try clear hi);(try clear ho0);obtain ⟨Ao9,co9,eo9⟩:=Kd.Ej HO465.out;subst eo9;obtain ⟨Ao10,co10,eo10⟩:=Kd.bp HO469.out;subst eo10) | ((with_reducible refine gC 69 ?_);refine dn 20 Tryz.func69 #[.slice Ao9 t463.length co9,.slice Ao10 t467.length co10] ?_;(with_reducible refine (fq.calls k _ _ t463 _ _ t467 t470 t471 _ ?side1 ?side2 ?side3 ?side4 A6.out).mono ?_);(case side1=>exact eH ((Kd.x_ HO465.out).2.2));(case side2=>exact (Kd.x_ HO465.out).2.1);(case side3=>exact eH ((Kd.aY HO469.out).2.2));(case side4=>exact (Kd.aY HO469.out).2.1);rintro e w11 ⟨v472,rfl,ho0,hb⟩;refine ⟨_,rfl,?_⟩;replace HO465:=aS (Kd.lW (by (with_reducible repeat (first | apply Kd.iI | apply Kd.iJ | apply Kd.i_));exact HO465.out) hb);have HO473:=aS (Kd.bn (Kd.cK ho0 (Kd.cP (rel HO469.out))) (aA aq));replace HO469:=aS (Kd.bY (rel HO469.out) (dm ho0) hb);replace HB:=aM hb;(try clear hb);(try clear hk);(try clear hi);(try clear ho0)))
  go_ret2
  exact ⟨_,dP,by (with_reducible repeat (first | apply Kd.bB | apply Kd.bC | apply Kd.bD));exact Kd.aK HO473.out (fun _ hk=>trivial),aq⟩
 ·
  rw [if_neg c4] at H;obtain ⟨c4b0,c4b1⟩:=iT c4
  simp only [Option.some.injEq,Prod.mk.injEq] at H
  obtain ⟨rfl,rfl⟩:=H
  go_enter Tryz.func50,Tryz.ntmps50
  go_wp2_with (first | ((with_reducible refine gC 68 ?_);refine dn 11 Tryz.func68 #[.slice A0 l0.length c0,.int .i64 a1] ?_;(with_reducible refine (bw.calls k (fun k_=>k_<w.heap.size) _ _ l0 a1 t463 t466 _ ?side1 A3.out).mono ?_);(case side1=>exact Kd.nE HC0.out (Kd.mC (Kd.CJ qR HR0.out) aq));rintro e w12 ⟨v464,rfl,ho0,hb⟩;refine ⟨_,rfl,?_⟩;have HO465:=aS (Kd.zY (Kd.kK (ok':=fun k_=>True) ho0 (fun _ hk_=>trivial)) (aA aq));replace HB:=aM hb;(try clear hb);(try clear hk);(try clear hi);(try clear ho0)))
  go_ret2
  exact ⟨_,dP,by first | exact Kd.d6 _ _ _ _ _ | exact Kd.gB _ _ _ _ _ | exact Kd.fJ _ _ _ _ _ | exact Kd.gy _ _ _ _ _ | exact Kd.gE _ _ _ _ _,aq⟩
def eD.f (k:Nat) (l:List au) (b:Int):Option (List au × List (List au) × List Int):=if l=[] then none else (gV.f k l b).bind fun q=>if q.2=0 then (aJ.f k q.1).bind fun o=>o else none
theorem eD.mono:∀ a0 a1 k,aH (eD.f k a0 a1) (eD.f (k+1) a0 a1):=fun _ _ _=>aH.ite (aH.refl _) (aH.bind (gV.mono _ _ _) fun _=>aH.ite (aH.bind (aJ.mono _ _) fun _=>aH.refl _) (aH.refl _))
theorem eD.calls (k g:Nat) (s1 s2 s3:Int) (u1 u2:Value) (A0:Option Addr) (c0:Nat) (l:List au) (r:(List au × List (List au) × List Int)) (w:World) (hA:w.heap[g]? = some (.cells #[.int .i64 s1,.int .i64 s2,.int .i64 s3,u1,u2] 61 (0,0))) (hr0:Kd.C cm w A0 l.length l) (hc0:l.length≤c0) (h:eD.f k l s2=some r) :
  Calls Tryz.prog 32 #[.pointer (some ⟨g,0,none⟩),.slice A0 l.length c0] w fun e w'=>∃ v0_:Value,e = .returned v0_∧Kd.R ak.mY 86 w' w.heap.size (fun _=>True) v0_ [r]∧Below w.heap.size w w':=by
 have hu30:=Tryz.underlying27;have hu51:=Tryz.underlying61;have hu23:=Tryz.underlying23;have hu49:=Tryz.underlying59;have hu53:=Tryz.underlying64;have hu24:=Tryz.underlying32;have hu61:=Tryz.underlying73;have hu75:=Tryz.underlying86;have hu31:=Tryz.underlying28;have HA:=aS hA;clear hA;obtain ⟨rl,rb,rf⟩:=r
 unfold eD.f at h
 by_cases he:l=[]
 ·
  rw [if_pos he] at h;cases h
 rw [if_neg he] at h;replace h:=bU h;obtain ⟨⟨b,e0⟩,x1,h⟩:=h
 by_cases h0:e0=0
 case neg=>rw [if_neg h0] at h;cases h
 rw [if_pos h0] at h;replace h0:e0=0:=h0;subst h0;replace h:=bU h;obtain ⟨o,x2,h⟩:=h;subst h;have X1:=aS x1;have X2:=aS x2;have HR:=aS hr0;have HC:=aS hc0
 have hnz:(l.length:Int)≠0:=by have:=List.length_pos_iff.2 he;omega
 obtain ⟨hn1,hn2⟩:=iT hnz;have q0:=cO HA;clear x1 x2 hr0 hc0 hnz he
 go_enter Tryz.func32,Tryz.ntmps32
 go_wp2_with (first | (go_at_call 50;(with_reducible refine (gV.calls k A0 c0 l s2 b 0 _ HR.out HC.out X1.out).mono ?_);rintro e_ w2 ⟨v2,rfl,ho,hb⟩;obtain ⟨Ab,cb,rfl,hcl,hC⟩:=Kd.eZ ho;have HLb:=aS hcl;have HCb:=aS hC;have HB2:=aS hb;clear ho hb hcl hC) | (go_at_call 51;(with_reducible refine (aJ.calls k Ab cb b (some (rl,rb,rf)) _ HCb.out HLb.out X2.out).mono ?_);rintro e_ w3 ⟨gx,rfl,ha,hb⟩;have HX:=aS (ha.lower HB2.out.size);have HB3':=aS (aE HB2.out hb);clear ha hb HB2 HCb HLb))
 go_ret
 exact ⟨_,rfl,ak.z8 ak.mY (xs:=[(rl,rb,rf)]) (inner:=[.pointer (some ⟨gx,0,none⟩)]) (bP.one (ak.EB HX.out) (bP.none _ _)) HB3'.out.size (by simp),wH HB3'.out _⟩
theorem rQ.calls (g base:Nat) (xs r:List au) (n:Int) (v:Value) (w:World) (hA:cg.At w base g xs n v) (h:eN.f xs=some r) :
  Calls Tryz.prog 33 #[.pointer (some ⟨g,0,none⟩)] w fun e w'=>∃ v0_:Value,e = .returned v0_∧Kd.R cm 34 w' w.heap.size (fun _=>True) v0_ r∧Below w.heap.size w w':=by
 have hu46:=Tryz.underlying78;obtain ⟨A,cc,rfl,hcl,hC⟩:=hA.rows;have B:=aS hA.2.1;have HC:=aS hC;have HL:=aS hcl;have X:=aS h;clear hA hcl hC h;have q0:=Eb B
 go_enter Tryz.func33,Tryz.ntmps33
 go_wp2_with (go_at_call 52;(with_reducible refine (eN.calls A cc xs r _ HC.out HL.out X.out).mono ?_);rintro e_ w2 ⟨v0,rfl,ho,hb⟩;have HO:=aS ho;have HB:=aS hb;clear ho hb)
 go_ret
 exact ⟨v0,rfl,HO.out,HB.out⟩
def bN.f (k:Nat) (l0:List (dZ)) (a1:Int) (a2:Int):Option (Bool):=if 0≤a1 then (if a1<(l0.length:Int) then (if 0<(((bZ l0 a1).f0).length:Int) then (if 0≤a2 then (if a2<(l0.length:Int) then (if 0<(((bZ l0 a2).f0).length:Int) then ((bR.f k ((af ((bZ l0 a1).f0) 0).f0) ((af ((bZ l0 a1).f0) 0).f1) ((af ((bZ l0 a1).f0) 0).f2) ((af ((bZ l0 a1).f0) 0).f3) ((af ((bZ l0 a1).f0) 0).f4) ((af ((bZ l0 a2).f0) 0).f0) ((af ((bZ l0 a2).f0) 0).f1) ((af ((bZ l0 a2).f0) 0).f2) ((af ((bZ l0 a2).f0) 0).f3) ((af ((bZ l0 a2).f0) 0).f4)).bind fun t478=>((fI.f ((bZ l0 a1).f1) ((bZ l0 a2).f1)).bind fun t481=>((cr.f k (([t478,t481]:List Int))).bind fun t485=>(some (decide (t485<0)))))) else (none)) else (none)) else (none)) else (none)) else (none)) else (none)
theorem bN.mono:∀ a0 a1 a2 k,aH (bN.f k a0 a1 a2) (bN.f (k+1) a0 a1 a2):=by
 intro a0 a1 a2 k
 unfold bN.f
 have m0:=@bR.mono;have m1:=@cr.mono;exact eF
def bN.T1:Bool × List (List Nat × List Nat):=(true,[([],[]),([],[]),([0,1],[0,1]),([2],[2]),([3],[3]),([4],[4]),([5],[5]),([],[]),([],[]),([7,8],[7,8]),([9],[9]),([10],[10]),([11],[11]),([12],[12]),([6,13],[6,13]),([],[]),([],[]),([15,16],[15,16]),([17],[17]),([18],[18]),([],[]),([],[]),([20,21],[20,21]),([22],[22]),([23],[23]),([19,24,14],[19,24]),([14,25],[14,25]),([26,25],[26]),([27],[27]),([28,27,0,1,2,3,4,5,6,7,8,9,10,11,12,13,14,15,16,17,18,19,20,21,22,23,24,25,26,27,28],[28])])
def bN.B1:List Nat:=[0,0,3,7,15,31,63,0,0,384,896,1920,3968,8064,16383,0,0,98304,229376,491520,0,0,3145728,7340032,15728640,33554431,67108863,134217727,268435455,536870911]
theorem bN.rq:e9 .any (opsOf Tryz.f127 1)=bN.T1:=by kernel_rfl
theorem bN.oK:gj bN.T1.2 bN.B1=true:=by kernel_rfl
theorem bN.calls (k:Nat) (A0:Option Addr) (c0:Nat) (l0:List (dZ)) (a1:Int) (a2:Int) (r:Bool) (w:World) (hr0:Kd.C qG w A0 l0.length l0) (hc0:l0.length≤c0) (h:bN.f k l0 a1 a2=some r) :
  Calls Tryz.prog 127 #[.slice A0 l0.length c0,.int .i64 a1,.int .i64 a2] w fun e w'=>e = .returned (.bool r)∧Below w.heap.size w w':=by
 have hu34:=Tryz.underlying34;have HR0:=aS hr0;have HC0:=aS hc0;clear hr0 hc0;have HB:=aS (Below.refl w.heap.size w);have H:(if 0≤a1 then (if a1<(l0.length:Int) then (if 0<(((bZ l0 a1).f0).length:Int) then (if 0≤a2 then (if a2<(l0.length:Int) then (if 0<(((bZ l0 a2).f0).length:Int) then ((bR.f k ((af ((bZ l0 a1).f0) 0).f0) ((af ((bZ l0 a1).f0) 0).f1) ((af ((bZ l0 a1).f0) 0).f2) ((af ((bZ l0 a1).f0) 0).f3) ((af ((bZ l0 a1).f0) 0).f4) ((af ((bZ l0 a2).f0) 0).f0) ((af ((bZ l0 a2).f0) 0).f1) ((af ((bZ l0 a2).f0) 0).f2) ((af ((bZ l0 a2).f0) 0).f3) ((af ((bZ l0 a2).f0) 0).f4)).bind fun t478=>((fI.f ((bZ l0 a1).f1) ((bZ l0 a2).f1)).bind fun t481=>((cr.f k (([t478,t481]:List Int))).bind fun t485=>(some (decide (t485<0)))))) else (none)) else (none)) else (none)) else (none)) else (none)) else (none))=some r:=h;clear h
 by_cases c4:0≤a1
 ·
  rw [if_pos c4] at H;have c4b0:decide (0≤a1)=true:=decide_eq_true c4;clear c4
  by_cases c5:a1<(l0.length:Int)
  ·
   rw [if_pos c5] at H;have c5b0:decide (a1<(l0.length:Int))=true:=decide_eq_true c5;clear c5
   by_cases c6:0<(((bZ l0 a1).f0).length:Int)
   ·
    rw [if_pos c6] at H;have c6b0:decide (0<(((bZ l0 a1).f0).length:Int))=true:=decide_eq_true c6;have c6b1:decide (0<((bZ l0 a1).f0).length)=true:=decide_eq_true (by omega);clear c6
    by_cases c7:0≤a2
    ·
     rw [if_pos c7] at H;have c7b0:decide (0≤a2)=true:=decide_eq_true c7;clear c7
     by_cases c8:a2<(l0.length:Int)
     ·
      rw [if_pos c8] at H;have c8b0:decide (a2<(l0.length:Int))=true:=decide_eq_true c8;clear c8
      by_cases c9:0<(((bZ l0 a2).f0).length:Int)
      ·
       rw [if_pos c9] at H;have c9b0:decide (0<(((bZ l0 a2).f0).length:Int))=true:=decide_eq_true c9;have c9b1:decide (0<((bZ l0 a2).f0).length)=true:=decide_eq_true (by omega);clear c9;replace H:=bU H;obtain ⟨t478,A100,H⟩:=H;have A10:=aS A100;clear A100;replace H:=bU H;obtain ⟨t481,A110,H⟩:=H;have A11:=aS A110;clear A110
       obtain ⟨y482,hy482⟩:∃ y_:List Int,y_=(([t478,t481]:List Int)):=⟨_,rfl⟩
       (first | replace H:=l9 hy482 H | rw [←hy482] at H);have Ny482:=aS hy482;clear hy482;replace H:=bU H;obtain ⟨t485,A120,H⟩:=H;have A12:=aS A120;clear A120
       obtain rfl:=Option.some.inj H
       go_enter Tryz.func127,Tryz.ntmps127
       try go_wp2
       replace HB:=aS (jS HB.out);have p474:0≤(a1:Int):=bJ;have q474:a1<(l0.length:Int):=bJ;obtain ⟨ad474,A474_0,c474_0,e474,hx474_0,hx474_1,hl474_0,hi474_0⟩:=ur HR0.out a1 p474 q474;have hw474_1:=hx474_1;have hw474_0:=hx474_0;cases e474;have hB_474_0:=aS hx474_0;replace hx474_0:=bx aq hx474_0;replace hx474_1:=bx aq hx474_1;have HR474_0:=aS hi474_0;have HC474_0:=aS hl474_0;clear hi474_0 hl474_0;replace p474:=eq_true p474;replace q474:=eq_true q474;have p475:0≤(0:Int):=(by omega);have q475:0<(((bZ l0 a1).f0).length:Int):=bJ;obtain ⟨ad475,e475,hx475_0,hx475_1,hx475_2,hx475_3,hx475_4⟩:=dN HR474_0.out 0 p475 q475;have hw475_4:=hx475_4
       (try rw [show ((0:Int)).toNat=0 from rfl] at hw475_4)
       (try rw [show 0*5=0 from rfl] at hw475_4)
       (try rw [Addr.add_zero'] at hw475_4)
       have hw475_3:=hx475_3
       (try rw [show ((0:Int)).toNat=0 from rfl] at hw475_3)
       (try rw [show 0*5=0 from rfl] at hw475_3)
       (try rw [Addr.add_zero'] at hw475_3)
       have hw475_2:=hx475_2
       (try rw [show ((0:Int)).toNat=0 from rfl] at hw475_2)
       (try rw [show 0*5=0 from rfl] at hw475_2)
       (try rw [Addr.add_zero'] at hw475_2)
       have hw475_1:=hx475_1
       (try rw [show ((0:Int)).toNat=0 from rfl] at hw475_1)
       (try rw [show 0*5=0 from rfl] at hw475_1)
       (try rw [Addr.add_zero'] at hw475_1)
       have hw475_0:=hx475_0
       (try rw [show ((0:Int)).toNat=0 from rfl] at hw475_0)
       (try rw [show 0*5=0 from rfl] at hw475_0)
       (try rw [Addr.add_zero'] at hw475_0)
       cases e475;have qi475:(0<((bZ l0 a1).f0).length)=True:=eq_true (by omega)
       (try rw [show ((0:Int)).toNat=0 from rfl] at hx475_0)
       (try rw [show 0*5=0 from rfl] at hx475_0)
       (try rw [Addr.add_zero'] at hx475_0)
       (try rw [show ((0:Int)).toNat=0 from rfl] at hx475_1)
       (try rw [show 0*5=0 from rfl] at hx475_1)
       (try rw [Addr.add_zero'] at hx475_1)
       (try rw [show ((0:Int)).toNat=0 from rfl] at hx475_2)
       (try rw [show 0*5=0 from rfl] at hx475_2)
       (try rw [Addr.add_zero'] at hx475_2)
       (try rw [show ((0:Int)).toNat=0 from rfl] at hx475_3)
       (try rw [show 0*5=0 from rfl] at hx475_3)
       (try rw [Addr.add_zero'] at hx475_3)
       (try rw [show ((0:Int)).toNat=0 from rfl] at hx475_4)
       (try rw [show 0*5=0 from rfl] at hx475_4)
       (try rw [Addr.add_zero'] at hx475_4)
       replace hx475_0:=bx aq hx475_0;replace hx475_1:=bx aq hx475_1;replace hx475_2:=bx aq hx475_2;replace hx475_3:=bx aq hx475_3;replace hx475_4:=bx aq hx475_4;replace p475:=eq_true p475;replace q475:=eq_true q475;have p476:0≤(a2:Int):=bJ;have q476:a2<(l0.length:Int):=bJ;obtain ⟨ad476,A476_0,c476_0,e476,hx476_0,hx476_1,hl476_0,hi476_0⟩:=ur HR0.out a2 p476 q476;have hw476_1:=hx476_1;have hw476_0:=hx476_0
       obtain rfl:ad474=ad476:=(by injection e476)
       have hB_476_0:=aS hx476_0;replace hx476_0:=bx aq hx476_0;replace hx476_1:=bx aq hx476_1;have HR476_0:=aS hi476_0;have HC476_0:=aS hl476_0;clear hi476_0 hl476_0;replace p476:=eq_true p476;replace q476:=eq_true q476;have p477:0≤(0:Int):=(by omega);have q477:0<(((bZ l0 a2).f0).length:Int):=bJ;obtain ⟨ad477,e477,hx477_0,hx477_1,hx477_2,hx477_3,hx477_4⟩:=dN HR476_0.out 0 p477 q477;have hw477_4:=hx477_4
       (try rw [show ((0:Int)).toNat=0 from rfl] at hw477_4)
       (try rw [show 0*5=0 from rfl] at hw477_4)
       (try rw [Addr.add_zero'] at hw477_4)
       have hw477_3:=hx477_3
       (try rw [show ((0:Int)).toNat=0 from rfl] at hw477_3)
       (try rw [show 0*5=0 from rfl] at hw477_3)
       (try rw [Addr.add_zero'] at hw477_3)
       have hw477_2:=hx477_2
       (try rw [show ((0:Int)).toNat=0 from rfl] at hw477_2)
       (try rw [show 0*5=0 from rfl] at hw477_2)
       (try rw [Addr.add_zero'] at hw477_2)
       have hw477_1:=hx477_1
       (try rw [show ((0:Int)).toNat=0 from rfl] at hw477_1)
       (try rw [show 0*5=0 from rfl] at hw477_1)
       (try rw [Addr.add_zero'] at hw477_1)
       have hw477_0:=hx477_0
       (try rw [show ((0:Int)).toNat=0 from rfl] at hw477_0)
       (try rw [show 0*5=0 from rfl] at hw477_0)
       (try rw [Addr.add_zero'] at hw477_0)
       cases e477;have qi477:(0<((bZ l0 a2).f0).length)=True:=eq_true (by omega)
       (try rw [show ((0:Int)).toNat=0 from rfl] at hx477_0)
       (try rw [show 0*5=0 from rfl] at hx477_0)
       (try rw [Addr.add_zero'] at hx477_0)
       (try rw [show ((0:Int)).toNat=0 from rfl] at hx477_1)
       (try rw [show 0*5=0 from rfl] at hx477_1)
       (try rw [Addr.add_zero'] at hx477_1)
       (try rw [show ((0:Int)).toNat=0 from rfl] at hx477_2)
       (try rw [show 0*5=0 from rfl] at hx477_2)
       (try rw [Addr.add_zero'] at hx477_2)
       (try rw [show ((0:Int)).toNat=0 from rfl] at hx477_3)
       (try rw [show 0*5=0 from rfl] at hx477_3)
       (try rw [Addr.add_zero'] at hx477_3)
       (try rw [show ((0:Int)).toNat=0 from rfl] at hx477_4)
       (try rw [show 0*5=0 from rfl] at hx477_4)
       (try rw [Addr.add_zero'] at hx477_4)
       replace hx477_0:=bx aq hx477_0;replace hx477_1:=bx aq hx477_1;replace hx477_2:=bx aq hx477_2;replace hx477_3:=bx aq hx477_3;replace hx477_4:=bx aq hx477_4;replace p477:=eq_true p477;replace q477:=eq_true q477;have p479:0≤(a1:Int):=bJ;have q479:a1<(l0.length:Int):=bJ;obtain ⟨ad479,A479_0,c479_0,e479,hx479_0,hx479_1,hl479_0,hi479_0⟩:=ur HR0.out a1 p479 q479;have hw479_1:=hx479_1;have hw479_0:=hx479_0
       obtain rfl:ad474=ad479:=(by injection e479)
       have hB_479_0:=aS hx479_0;replace hx479_0:=bx aq hx479_0;replace hx479_1:=bx aq hx479_1;have HR479_0:=aS hi479_0;have HC479_0:=aS hl479_0;clear hi479_0 hl479_0;replace p479:=eq_true p479;replace q479:=eq_true q479;have ea_:=Option.some.inj (hx474_0.symm.trans hx479_0)
       injection ea_ with ea_ en_ ec_
       subst ea_;subst ec_;clear en_;have p480:0≤(a2:Int):=bJ;have q480:a2<(l0.length:Int):=bJ;obtain ⟨ad480,A480_0,c480_0,e480,hx480_0,hx480_1,hl480_0,hi480_0⟩:=ur HR0.out a2 p480 q480;have hw480_1:=hx480_1;have hw480_0:=hx480_0
       obtain rfl:ad474=ad480:=(by injection e480)
       have hB_480_0:=aS hx480_0;replace hx480_0:=bx aq hx480_0;replace hx480_1:=bx aq hx480_1;have HR480_0:=aS hi480_0;have HC480_0:=aS hl480_0;clear hi480_0 hl480_0;replace p480:=eq_true p480;replace q480:=eq_true q480;have ea_:=Option.some.inj (hx476_0.symm.trans hx480_0)
       injection ea_ with ea_ en_ ec_
       subst ea_;subst ec_;clear en_;refine di (n:=30) (S:=fun w'=>w'.cell? (ad474.add ((a1).toNat*2))=some (.slice (some ad475) ((bZ l0 a1).f0).length c474_0)∧w'.cell? ⟨(ad474.add ((a1).toNat*2)).block,(ad474.add ((a1).toNat*2)).off+1,none⟩=some (.int .i64 ((bZ l0 a1).f1))∧w'.cell? ad475=some (.string ((af ((bZ l0 a1).f0) 0).f0))∧w'.cell? ⟨ad475.block,ad475.off+1,none⟩=some (.string ((af ((bZ l0 a1).f0) 0).f1))∧w'.cell? ⟨ad475.block,ad475.off+2,none⟩=some (.int .i64 ((af ((bZ l0 a1).f0) 0).f2))∧w'.cell? ⟨ad475.block,ad475.off+3,none⟩=some (.string ((af ((bZ l0 a1).f0) 0).f3))∧w'.cell? ⟨ad475.block,ad475.off+4,none⟩=some (.bool ((af ((bZ l0 a1).f0) 0).f4))∧w'.cell? (ad474.add ((a2).toNat*2))=some (.slice (some ad477) ((bZ l0 a2).f0).length c476_0)∧w'.cell? ⟨(ad474.add ((a2).toNat*2)).block,(ad474.add ((a2).toNat*2)).off+1,none⟩=some (.int .i64 ((bZ l0 a2).f1))∧w'.cell? ad477=some (.string ((af ((bZ l0 a2).f0) 0).f0))∧w'.cell? ⟨ad477.block,ad477.off+1,none⟩=some (.string ((af ((bZ l0 a2).f0) 0).f1))∧w'.cell? ⟨ad477.block,ad477.off+2,none⟩=some (.int .i64 ((af ((bZ l0 a2).f0) 0).f2))∧w'.cell? ⟨ad477.block,ad477.off+3,none⟩=some (.string ((af ((bZ l0 a2).f0) 0).f3))∧w'.cell? ⟨ad477.block,ad477.off+4,none⟩=some (.bool ((af ((bZ l0 a2).f0) 0).f4))∧w'.cell? (ad474.add ((a1).toNat*2))=some (.slice (some ad475) ((bZ l0 a1).f0).length c474_0)∧w'.cell? ⟨(ad474.add ((a1).toNat*2)).block,(ad474.add ((a1).toNat*2)).off+1,none⟩=some (.int .i64 ((bZ l0 a1).f1))∧w'.cell? (ad474.add ((a2).toNat*2))=some (.slice (some ad477) ((bZ l0 a2).f0).length c476_0)∧w'.cell? ⟨(ad474.add ((a2).toNat*2)).block,(ad474.add ((a2).toNat*2)).off+1,none⟩=some (.int .i64 ((bZ l0 a2).f1))) (ds:=[]) (bA 30 0) (by kernel_rfl) rfl rfl ⟨(bx aq hw474_0),(bx aq hw474_1),(bx aq hw475_0),(bx aq hw475_1),(bx aq hw475_2),(bx aq hw475_3),(bx aq hw475_4),(bx aq hw476_0),(bx aq hw476_1),(bx aq hw477_0),(bx aq hw477_1),(bx aq hw477_2),(bx aq hw477_3),(bx aq hw477_4),(bx aq hw479_0),(bx aq hw479_1),(bx aq hw480_0),(bx aq hw480_1)⟩ (fun hHeld=>?_);refine cD bN.rq bN.oK (fun HT_ HW_=>?_)
       generalize w.drew=w13 at HB HR474_0 HR476_0 HR479_0 HR480_0 hx474_0 hx474_1 hx475_0 hx475_1 hx475_2 hx475_3 hx475_4 hx476_0 hx476_1 hx477_0 hx477_1 hx477_2 hx477_3 hx477_4 hx479_0 hx479_1 hx480_0 hx480_1 hHeld ⊢
       refine aZ [(0,7),(1,8),(2,9),(3,10),(7,14),(8,15),(9,16),(10,17),(15,22),(16,23),(17,24),(18,25),(20,27),(21,28),(22,29),(23,30),(4,11),(5,12),(6,13),(11,18),(12,19),(13,20),(19,26),(24,31)] ?_
       iterate 24 (first | (refine ck HT_ ?_) | (refine dY HT_ HW_ hHeld ?_))
       refine bT (bA 30 33538047) (by kernel_rfl) ?_;refine dH 14 (N:=some 21) (bA 30 33554431) HT_ (fun K hK=>?_);refine gb Tryz.func47 #[.agg #[.string ((af ((bZ l0 a1).f0) 0).f0),.string ((af ((bZ l0 a1).f0) 0).f1),.int .i64 ((af ((bZ l0 a1).f0) 0).f2),.string ((af ((bZ l0 a1).f0) 0).f3),.bool ((af ((bZ l0 a1).f0) 0).f4)],.agg #[.string ((af ((bZ l0 a2).f0) 0).f0),.string ((af ((bZ l0 a2).f0) 0).f1),.int .i64 ((af ((bZ l0 a2).f0) 0).f2),.string ((af ((bZ l0 a2).f0) 0).f3),.bool ((af ((bZ l0 a2).f0) 0).f4)]] ?_
       with_reducible refine (bR.calls k ((af ((bZ l0 a1).f0) 0).f0) ((af ((bZ l0 a1).f0) 0).f1) ((af ((bZ l0 a1).f0) 0).f2) ((af ((bZ l0 a1).f0) 0).f3) ((af ((bZ l0 a1).f0) 0).f4) ((af ((bZ l0 a2).f0) 0).f0) ((af ((bZ l0 a2).f0) 0).f1) ((af ((bZ l0 a2).f0) 0).f2) ((af ((bZ l0 a2).f0) 0).f3) ((af ((bZ l0 a2).f0) 0).f4) t478 _ A10.out).mono ?_
       rintro e w14 ⟨rfl,hb⟩
       refine ⟨_,rfl,?_⟩;replace HB:=aM hb;(try clear hb);(try clear hk);(try clear hi);refine hK.out _ _ ⟨(bx aq hw474_0),(bx aq hw474_1),(bx aq hw475_0),(bx aq hw475_1),(bx aq hw475_2),(bx aq hw475_3),(bx aq hw475_4),(bx aq hw476_0),(bx aq hw476_1),(bx aq hw477_0),(bx aq hw477_1),(bx aq hw477_2),(bx aq hw477_3),(bx aq hw477_4),(bx aq hw479_0),(bx aq hw479_1),(bx aq hw480_0),(bx aq hw480_1)⟩ (fun hHeld=>?_);clear hK K;refine nm 21 ?_;refine dH 25 (N:=some 32) (bA 30 67108863) HT_ (fun K hK=>?_);refine gb Tryz.func64 #[.int .i64 ((bZ l0 a1).f1),.int .i64 ((bZ l0 a2).f1)] ?_
       with_reducible refine (fI.calls ((bZ l0 a1).f1) ((bZ l0 a2).f1) t481 _ A11.out).mono ?_
       rintro e w' ⟨rfl,⟨nd,rfl⟩⟩
       refine ⟨_,rfl,?_⟩;refine hK.out _ _ ⟨(bx aq hw474_0),(bx aq hw474_1),(bx aq hw475_0),(bx aq hw475_1),(bx aq hw475_2),(bx aq hw475_3),(bx aq hw475_4),(bx aq hw476_0),(bx aq hw476_1),(bx aq hw477_0),(bx aq hw477_1),(bx aq hw477_2),(bx aq hw477_3),(bx aq hw477_4),(bx aq hw479_0),(bx aq hw479_1),(bx aq hw480_0),(bx aq hw480_1)⟩ (fun hHeld=>?_);clear hK K;refine nm 32 ?_;refine dH 26 (N:=some 33) (bA 30 134217727) HT_ (fun K hK=>?_)
       refine Kd.lP (Kd.int .i64) _ 3 ?hg (N:=33) ?hd (xs:=([t478,t481]:List Int)) (inner:=[.int .i64 t478,.int .i64 t481]) (ok:=fun _=>True) (okp:=fun _=>True) ?hr ?hp (fun _ hk=>hk) trivial (Below.refl _ _) (Nat.le_refl _) (by simp) ?_;(case hd=>rfl);(case hg=>rfl);(case hr=>first | (go_simp;done) | (go_simp;rfl));(case hp=>exact (bP.one (show Kd.M (Kd.int .i64) _ _ _ t478 [.int .i64 t478] from rfl) (bP.one (show Kd.M (Kd.int .i64) _ _ _ t481 [.int .i64 t481] from rfl) (bP.none _ _))))
       intro v483 w15 ho16 hb hg_ hnew_
       clear hg_ hnew_
       (first | rw [←Ny482.out] at ho16 | (simp only [Int.reduceToNat] at ho16;rw [←Ny482.out] at ho16))
       have HO484:=aS (Kd.bn ho16 (aA aq));replace HB:=aM hb;clear hb ho16;obtain ⟨Ao17,co17,eo17⟩:=Kd.bp HO484.out
       (first | subst eo17 | (injection eo17 with f1_ f2_ f3_;have f4_:=f1_.symm;have f5_:=f3_.symm;clear f1_ f2_ f3_;subst f4_;subst f5_))
       refine hK.out _ _ ⟨(bx aq hw474_0),(bx aq hw474_1),(bx aq hw475_0),(bx aq hw475_1),(bx aq hw475_2),(bx aq hw475_3),(bx aq hw475_4),(bx aq hw476_0),(bx aq hw476_1),(bx aq hw477_0),(bx aq hw477_1),(bx aq hw477_2),(bx aq hw477_3),(bx aq hw477_4),(bx aq hw479_0),(bx aq hw479_1),(bx aq hw480_0),(bx aq hw480_1)⟩ (fun hHeld=>?_);clear hK K;refine nm 33 ?_;refine dH 27 (N:=some 34) (bA 30 268435455) HT_ (fun K hK=>?_);refine gb Tryz.func62 #[.slice Ao17 y482.length co17] ?_
       with_reducible refine (cr.calls k _ _ y482 t485 _ ?side1 ?side2 A12.out).mono ?_
       (case side1=>exact eH ((Kd.aY HO484.out).2.2))
       (case side2=>exact (Kd.aY HO484.out).2.1)
       rintro e w' ⟨rfl,⟨nd,rfl⟩⟩
       refine ⟨_,rfl,?_⟩;refine hK.out _ _ ⟨(bx aq hw474_0),(bx aq hw474_1),(bx aq hw475_0),(bx aq hw475_1),(bx aq hw475_2),(bx aq hw475_3),(bx aq hw475_4),(bx aq hw476_0),(bx aq hw476_1),(bx aq hw477_0),(bx aq hw477_1),(bx aq hw477_2),(bx aq hw477_3),(bx aq hw477_4),(bx aq hw479_0),(bx aq hw479_1),(bx aq hw480_0),(bx aq hw480_1)⟩ (fun hHeld=>?_);clear hK K;refine nm 34 ?_;refine aZ [(28,35),(29,6)] ?_
       iterate 2 (refine ck HT_ ?_)
       refine bT (bA 30 1073741823) (by kernel_rfl) ?_;refine fX HT_ ?_
       try go_wp2
       go_ret
       exact ⟨dP,aq⟩
      ·
       rw [if_neg c9] at H;exact absurd H (by simp)
     ·
      rw [if_neg c8] at H;exact absurd H (by simp)
    ·
     rw [if_neg c7] at H;exact absurd H (by simp)
   ·
    rw [if_neg c6] at H;exact absurd H (by simp)
  ·
   rw [if_neg c5] at H;exact absurd H (by simp)
 ·
  rw [if_neg c4] at H;exact absurd H (by simp)
-- NOT PRINTED: function 130 (merge_queue_Swap)
-- NOT PRINTED: function 80 (heap_up)
-- NOT PRINTED: function 129 (merge_queue_Push)
-- NOT PRINTED: function 58 (heap_Push)
def nr.f (l0:List (dZ)):Option (Int):=some (l0.length:Int)
theorem nr.calls (A0:Option Addr) (c0:Nat) (l0:List (dZ)) (r:Int) (w:World) (hr0:Kd.C qG w A0 l0.length l0) (hc0:l0.length≤c0) (h:nr.f l0=some r) :
  Calls Tryz.prog 59 #[.slice A0 l0.length c0] w fun e w'=>e = .returned (.int .i64 r)∧eJ w w':=by
 have HR0:=aS hr0;have HC0:=aS hc0;clear hr0 hc0;have H:(some (l0.length:Int))=some r:=h;clear h
 obtain rfl:=Option.some.inj H
 go_enter Tryz.func59,Tryz.ntmps59
 go_wp2
 go_ret
 exact ⟨cG,fO⟩
-- NOT PRINTED: function 81 (heap_down)
-- NOT PRINTED: function 128 (merge_queue_Pop)
-- NOT PRINTED: function 60 (heap_Pop)
-- NOT PRINTED: function 61 (heap_Fix)
def kQ (w0:World):Kd dZ:=Kd.uG (Kd.pair (Kd.fixed (Kd.slice 34 cm) w0) (Kd.int .i64)) (fun x:dZ=>(x.f0,x.f1))
theorem qK {w0 w:World} {base:Nat} {ok:Nat→Prop} {x:dZ} {cs:List Value} (h:(kQ w0).M w base ok x cs):∃ A c,cs=[.slice A x.f0.length c,.int .i64 x.f1]∧x.f0.length≤c∧cm.C w0 A x.f0.length x.f0:=by
 obtain ⟨c0,c1,rfl,⟨A,c,rfl,hl,hC⟩,rfl⟩:=h;exact ⟨A,c,rfl,hl,hC⟩
theorem BF (w0 w:World) (base:Nat) (ok:Nat→Prop) (x:dZ) {A:Option Addr} {c:Nat} (hl:x.f0.length≤c) (hC:cm.C w0 A x.f0.length x.f0):(kQ w0).M w base ok x [.slice A x.f0.length c,.int .i64 x.f1]:=
 ⟨[.slice A x.f0.length c],[.int .i64 x.f1],rfl,⟨A,c,rfl,hl,hC⟩,rfl⟩
theorem FV {w0 w:World} {A:Option Addr} {n:Nat} {xs:List dZ} (hb:Below w0.heap.size w0 w) (h:(kQ w0).C w A n xs):qG.C w A n xs:=by
 refine eY.gK h (Below.refl w.heap.size w) ?_
 rintro x cs ⟨c0,c1,rfl,⟨A,c,rfl,hl,hC⟩,hi⟩
 exact ⟨_,_,rfl,⟨A,c,rfl,hl,Kd.cH hC hb⟩,hi⟩
theorem vM (w:World) (gq:Nat) (v:Value) (hc:w.cell? ⟨gq,0,none⟩=some v):(loadVar 93 ⟨gq,0,none⟩).run Tryz.prog w = .ok v w:=by
 have h1:∀ w,(isAgg 93).run Tryz.prog w = .ok false w:=fun _=>by kernel_rfl
 simp [loadVar,h1,hc]
theorem sL (w : World) (gq : Nat) (v : Value) (hc : w.cell? ⟨gq, 0, none⟩ = some v) : (method 275 91 (.pointer (some ⟨gq, 0, none⟩)) "Less").run Tryz.prog w = .ok (127, v) w := by
 have h : (method 275 91 (.pointer (some ⟨gq, 0, none⟩)) "Less").run Tryz.prog w = (loadVar 93 ⟨gq, 0, none⟩ >>= fun v => (pure (127, v) : Sem (FuncId × Value))).run Tryz.prog w := by kernel_rfl
 rw [h]
 simp only [Sem.run_bind,vM w gq v hc,Result.andThen_ok,Sem.run_pure]
theorem r9 (w : World) (gq : Nat) (v : Value) (hc : w.cell? ⟨gq, 0, none⟩ = some v) : (method 275 91 (.pointer (some ⟨gq, 0, none⟩)) "Swap").run Tryz.prog w = .ok (130, v) w := by
 have h : (method 275 91 (.pointer (some ⟨gq, 0, none⟩)) "Swap").run Tryz.prog w = (loadVar 93 ⟨gq, 0, none⟩ >>= fun v => (pure (130, v) : Sem (FuncId × Value))).run Tryz.prog w := by kernel_rfl
 rw [h]
 simp only [Sem.run_bind,vM w gq v hc,Result.andThen_ok,Sem.run_pure]
theorem Dk (w : World) (gq : Nat) (v : Value) (hc : w.cell? ⟨gq, 0, none⟩ = some v) : (method 275 91 (.pointer (some ⟨gq, 0, none⟩)) "Len").run Tryz.prog w = .ok (59, v) w := by
 have h : (method 275 91 (.pointer (some ⟨gq, 0, none⟩)) "Len").run Tryz.prog w = (loadVar 93 ⟨gq, 0, none⟩ >>= fun v => (pure (59, v) : Sem (FuncId × Value))).run Tryz.prog w := by kernel_rfl
 rw [h]
 simp only [Sem.run_bind,vM w gq v hc,Result.andThen_ok,Sem.run_pure]
theorem GX (w : World) (gq : Nat) : (method 275 91 (.pointer (some ⟨gq, 0, none⟩)) "Push").run Tryz.prog w = .ok (129, .pointer (some ⟨gq, 0, none⟩)) w := by kernel_rfl
theorem Hg (w : World) (gq : Nat) : (method 275 91 (.pointer (some ⟨gq, 0, none⟩)) "Pop").run Tryz.prog w = .ok (128, .pointer (some ⟨gq, 0, none⟩)) w := by kernel_rfl
def iQ (xs:List dZ) (i j:Nat):List dZ:=(xs.set i (xs.getD j iR)).set j (xs.getD i iR)
theorem xH {w0 W:World} {base g n cap:Nat} {ok:Nat→Prop} {xs:List dZ} (h:(kQ w0).R 96 W base ok (.slice (some ⟨g,0,none⟩) n cap) xs) (i:Nat) (hi:i<xs.length) {x':dZ} {A:Option Addr} {c:Nat} (hl:x'.f0.length≤c) (hC:cm.C w0 A x'.f0.length x'.f0) :
  (kQ w0).R 96 (W.setCells g (i*2) [.slice A x'.f0.length c,.int .i64 x'.f1]) base ok (.slice (some ⟨g,0,none⟩) n cap) (xs.set i x')∧W.grownBy (W.setCells g (i*2) [.slice A x'.f0.length c,.int .i64 x'.f1]) (some g):=by
 have hn:=(Kd.aY h).1;obtain ⟨cs,hcl,hM,hc,hf⟩:=Kd.mW h iR (i:Int) (by omega) (by omega);have hsz:(kQ w0).sz=2:=rfl;have h2:cs.drop 2=[]:=List.drop_eq_nil_of_le (by omega)
 have:=Kd.xk (j:=0) (seg:=[.slice A x'.f0.length c,.int .i64 x'.f1]) h (i:Int) (by omega) (by omega) hcl hc (by rw [hsz];simp) (x':=x') (okp:=fun k=>ok k∧k≠g) (by simp only [List.take_zero,List.nil_append,List.length_cons,List.length_nil,Nat.zero_add,h2,List.append_nil];exact BF w0 _ base _ _ hl hC) (fun _ h=>h)
 rw [Int.toNat_natCast] at this;exact this
theorem BS {w w1 w2:World} {g:Nat} (h1:w.drew.grownBy w1 (some g)) (h2:w1.grownBy w2 (some g)):w.grownBy w2 (some g):=
 ⟨h2.os.trans h1.os,h2.tape.trans h1.tape,h2.output.trans h1.output,Nat.le_trans h1.size h2.size,fun k hk hne=>(h2.block k (Nat.lt_of_lt_of_le hk h1.size) hne).trans (h1.block k hk hne)⟩
theorem fK (xs:List dZ) (i j:Nat):(iQ xs i j).length=xs.length:=by simp [iQ]
theorem mQ (w0 w:World) (base g c:Nat) (ok:Nat→Prop) (xs:List dZ) (i j:Nat) (hi:i<xs.length) (hj:j<xs.length) (HR:(kQ w0).R 96 w base ok (.slice (some ⟨g,0,none⟩) xs.length c) xs) :
  Calls Tryz.prog 130 #[.slice (some ⟨g,0,none⟩) xs.length c,.int .i64 i,.int .i64 j] w fun e w'=>e = .returned (.tuple #[])∧(kQ w0).R 96 w' base ok (.slice (some ⟨g,0,none⟩) xs.length c) (iQ xs i j)∧w.grownBy w' (some g):=by
 obtain ⟨ci,hcl,hMi,hci,hfi⟩:=Kd.mW HR iR (i:Int) (by omega) (by omega);obtain ⟨cj,hcl2,hMj,hcj,hfj⟩:=Kd.mW HR iR (j:Int) (by omega) (by omega);rw [Int.toNat_natCast] at hMi hMj hci hcj hfi hfj;obtain ⟨Ai,ai,rfl,hli,hCi⟩:=qK hMi;obtain ⟨Aj,aj,rfl,hlj,hCj⟩:=qK hMj;have hu:=Tryz.underlying93;have hu2:=Tryz.underlying96;have b1:decide ((0:Int)≤(i:Int))=true:=decide_eq_true (by omega);have b2:decide ((0:Int)≤(j:Int))=true:=decide_eq_true (by omega);have b3:decide ((i:Int)<(xs.length:Int))=true:=decide_eq_true (by omega);have b4:decide ((j:Int)<(xs.length:Int))=true:=decide_eq_true (by omega)
 have hj2:w.drew.rangeAt g (j*2) [.slice Aj (xs.getD j iR).f0.length aj,.int .i64 (xs.getD j iR).f1]:=fun q v hq=>hcj q v hq
 have hi2:w.drew.rangeAt g (i*2) [.slice Ai (xs.getD i iR).f0.length ai,.int .i64 (xs.getD i iR).f1]:=fun q v hq=>hci q v hq
 have t1:w.drew.there g (i*2) 2:=fun q hq=>⟨by rw [hi2 q _ (List.getElem?_eq_getElem (by simpa using hq))];rfl,hfi q⟩
 have t2_:w.drew.there g (j*2) 2:=fun q hq=>⟨by rw [hj2 q _ (List.getElem?_eq_getElem (by simpa using hq))];rfl,hfj q⟩
 have t2:(w.drew.setCells g (i*2) [.slice Aj (xs.getD j iR).f0.length aj,.int .i64 (xs.getD j iR).f1]).there g (j*2) 2:=World.there_setCells t2_ _ _ _;obtain ⟨HR1,HG1⟩:=xH (Kd.bD HR) i hi (x':=xs.getD j iR) hlj hCj;obtain ⟨HR2,HG2⟩:=xH HR1 j (by rw [List.length_set];exact hj) (x':=xs.getD i iR) hli hCi;have HG:w.grownBy ((w.drew.setCells g (i*2) [.slice Aj (xs.getD j iR).f0.length aj,.int .i64 (xs.getD j iR).f1]).setCells g (j*2) [.slice Ai (xs.getD i iR).f0.length ai,.int .i64 (xs.getD i iR).f1]) (some g):=BS HG1 HG2
 go_enter Tryz.func130,Tryz.ntmps130
 refine di (n:=16) (ds:=[13,15]) (S:=fun w'=>w'.rangeAt g (i*2) [.slice Ai (xs.getD i iR).f0.length ai,.int .i64 (xs.getD i iR).f1]∧w'.rangeAt g (j*2) [.slice Aj (xs.getD j iR).f0.length aj,.int .i64 (xs.getD j iR).f1]) (bA 16 0) rfl rfl rfl ⟨hi2,hj2⟩ (fun hHeld=>?_);refine jn 0 6 (bA 16 1) ?_
 refine jn 1 7 (bA 16 3) ?_
 refine jn 2 8 (bA 16 7) ?_
 refine jn 3 9 (bA 16 15) ?_
 refine jn 4 10 (bA 16 31) ?_
 refine jn 5 11 (bA 16 63) ?_
 refine jn 6 12 (bA 16 127) ?_
 refine ij (i:=7) (N:=some 13) (v:=.agg #[.slice Aj (xs.getD j iR).f0.length aj,.int .i64 (xs.getD j iR).f1]) (a':=?a7) (bA 16 255) rfl rfl (by kernel_rfl) (fun _ _ _ h=>h) ?hy7 hHeld ?ha7 ?hh7
 case hy7=>exact yieldsIf_load_mid (by rfl) 96 _ rfl g (j*2) (by go_simp) _ _ (fun w' hw'=>hw'.2) hu2 rfl rfl
 case ha7=>
  simp only [Act.put,eI,eG,lss,cC,dw]
  rfl
 refine jn 8 14 (bA 16 511) ?_
 refine jn 9 15 (bA 16 1023) ?_
 refine jn 10 16 (bA 16 2047) ?_
 refine ij (i:=11) (N:=some 17) (v:=.agg #[.slice Ai (xs.getD i iR).f0.length ai,.int .i64 (xs.getD i iR).f1]) (a':=?a11) (bA 16 4095) rfl rfl (by kernel_rfl) (fun _ _ _ h=>h) ?hy11 hHeld ?ha11 ?hh11
 case hy11=>exact yieldsIf_load_mid (by rfl) 96 _ rfl g (i*2) (by go_simp) _ _ (fun w' hw'=>hw'.1) hu2 rfl rfl
 case ha11=>
  simp only [Act.put,eI,eG,lss,cC,dw]
  rfl
 refine jn 12 18 (bA 16 8191) ?_
 refine jP (i:=13) (N:=none) (bA 16 16383) rfl rfl (by kernel_rfl) (by decide) (fun K hK=>?_);rw [if_pos (by rfl)];refine wp_store_mid 96 _ _ rfl g (i*2) #[.slice Aj (xs.getD j iR).f0.length aj,.int .i64 (xs.getD j iR).f1] rfl rfl t1 rfl (by kernel_rfl) ?_;refine hK.out _ _ ?_;clear hK K;refine kZ (a':=?_) ?_ ?_
 rotate_left
 ·
  simp only [Act.put,eI,eG,lss,cC,dw]
  rfl
 refine jn 14 19 (bA 16 32767) ?_
 refine jP (i:=15) (N:=none) (bA 16 65535) rfl rfl (by kernel_rfl) (by decide) (fun K hK=>?_);rw [if_pos (by rfl)];refine wp_store_mid 96 _ _ rfl g (j*2) #[.slice Ai (xs.getD i iR).f0.length ai,.int .i64 (xs.getD i iR).f1] rfl rfl t2 rfl (by kernel_rfl) ?_;refine hK.out _ _ ?_;clear hK K;refine sZ (by kernel_rfl) ?_
 go_end0
 exact ⟨rfl,HR2,HG⟩
structure QR (w0:World) (gq:Nat) (w:World) (v:Value) (xs:List dZ):Prop where
 box:w.heap[gq]? = some (.cells #[v] 93 (0,0))
 row:(kQ w0).R 96 w w0.heap.size (fun k=>k≠gq) v xs
 ge:w0.heap.size≤gq
 aq:Below w0.heap.size w0 w
def G0 (o:Obj):Prop:=(∀ cells,o≠.cells cells 93 (0,0))∧∀ cells,o≠.cells cells 96 (0,0)
structure Fr (w w':World):Prop where
 size:w.heap.size≤w'.heap.size
 keep:∀ (k:Nat) (o:Obj),w.heap[k]? = some o→G0 o→w'.heap[k]? = some o
theorem Fr.refl (w:World):Fr w w:=⟨Nat.le_refl _,fun _ _ h _=>h⟩
theorem Fr.trans {w w1 w2:World} (h:Fr w w1) (h':Fr w1 w2):Fr w w2:=⟨Nat.le_trans h.size h'.size,fun k o hk ho=>h'.keep k o (h.keep k o hk ho) ho⟩
theorem Fr.below {w w1:World} (h:Below w.heap.size w w1):Fr w w1:=⟨h.size,fun k o hk _=>aI hk h⟩
theorem QR.below {w0 w w1:World} {gq:Nat} {v:Value} {xs:List dZ} (h:QR w0 gq w v xs) (hb:Below w.heap.size w w1):QR w0 gq w1 v xs:=
 ⟨aI h.box hb,Kd.dB h.row hb,h.ge,aE h.aq hb⟩
theorem QR.cell {w0 w:World} {gq:Nat} {v:Value} {xs:List dZ} (h:QR w0 gq w v xs):w.cell? ⟨gq,0,none⟩=some v:=(aC h.box 0).trans rfl
theorem QR.slice {w0 w:World} {gq:Nat} {v:Value} {xs:List dZ} (h:QR w0 gq w v xs):∃ A c,v = .slice A xs.length c∧xs.length≤c∧qG.C w A xs.length xs:=by
 obtain ⟨A,c,rfl⟩:=Kd.bp h.row;obtain ⟨h1,h2,h3⟩:=Kd.aY h.row;exact ⟨A,c,rfl,by omega,FV h.aq h3⟩
theorem QR.form {w0 w:World} {gq:Nat} {v:Value} {xs:List dZ} (h:QR w0 gq w v xs) (hn:0<xs.length):∃ g c,v = .slice (some ⟨g,0,none⟩) xs.length c∧xs.length≤c∧qG.C w (some ⟨g,0,none⟩) xs.length xs:=by
 obtain ⟨g,c,rfl,_,_⟩:=Kd.n_ h.row hn;obtain ⟨h1,h2,h3⟩:=Kd.aY h.row;exact ⟨g,c,rfl,h2,FV h.aq h3⟩
theorem QR.max {w0 w:World} {gq:Nat} {v:Value} {xs:List dZ} (h:QR w0 gq w v xs):xs.length≤9223372036854775807:=by
 obtain ⟨A,c,_,_,hC⟩:=h.slice;exact Kd.AJ hC
theorem GI {B:Nat} {a w:World} (h:Below B a w) {g:Nat} (hg:B≤g) (u:Value):Below B a (w.setCell ⟨g,0,none⟩ u):=h.setCell hg u
theorem QR.put {w0 w w1:World} {gq:Nat} {v v':Value} {xs ys:List dZ} (h:QR w0 gq w v xs) (hx:w1.heap[gq]? = some (.cells #[v] 93 (0,0))) (hr:(kQ w0).R 96 w1 w0.heap.size (fun k=>k≠gq) v' ys) (hb:Below w0.heap.size w0 w1):QR w0 gq (w1.setCell ⟨gq,0,none⟩ v') v' ys:=
 ⟨(vF hx 0 v').trans rfl,Kd.fe hr (fun _ hk=>hk) v',h.ge,hb.setCell h.ge v'⟩
theorem Fr.set {w w1:World} {gq:Nat} {v v':Value} (h:Fr w w1) (hx:w1.heap[gq]? = some (.cells #[v] 93 (0,0))):Fr w (w1.setCell ⟨gq,0,none⟩ v'):=by
 refine ⟨Nat.le_trans h.size (by simp),fun k o hk ho=>?_⟩
 have hne:k≠gq:=by
  rintro rfl
  have:=h.keep _ o hk ho
  rw [hx] at this;exact ho.1 _ (Option.some.inj this).symm
 exact (Below.heap_setCell w1 _ v' k (fun e=>hne e)).trans (h.keep k o hk ho)
theorem Fr.grown {w0 w1 w2:World} {v:Value} {base:Nat} {ok:Nat→Prop} {xs:List dZ} {w:World} (h:Fr w w1) (hr:(kQ w0).R 96 w1 base ok v xs) (hg:w1.grownBy w2 v.ownBlock):Fr w w2:=by
 refine ⟨Nat.le_trans h.size hg.size,fun k o hk ho=>?_⟩;have h1:=h.keep k o hk ho;refine (hg.block k (cR h1) (fun he=>?_)).trans h1;obtain ⟨cells,hc⟩:=Kd.gu hr k he.symm;rw [h1] at hc;exact ho.2 _ (Option.some.inj hc)
theorem QR.swap {w0 w w1:World} {gq g c:Nat} {xs:List dZ} {i j:Nat} (h:QR w0 gq w (.slice (some ⟨g,0,none⟩) xs.length c) xs) (hr:(kQ w0).R 96 w1 w0.heap.size (fun k=>k≠gq) (.slice (some ⟨g,0,none⟩) xs.length c) (iQ xs i j)) (hg:w.grownBy w1 (some g)):QR w0 gq w1 (.slice (some ⟨g,0,none⟩) xs.length c) (iQ xs i j)∧Fr w w1:=by
 have he:(Value.slice (some ⟨g,0,none⟩) xs.length c).ownBlock=some g:=rfl;refine ⟨⟨eP h.box hg (by rw [←he];exact Kd.lZ h.row h.box (by decide)),hr,h.ge,vJ h.aq (some g) h.aq.size hg (fun k hk=>by rw [←he] at hk;exact Kd.gi h.row k hk)⟩,?_⟩;exact (Fr.refl w).grown h.row (by rw [he];exact hg)
theorem Bz {w0 w:World} {gq:Nat} {v:Value} {xs:List dZ} (e:dZ) {A:Option Addr} {c:Nat} (hl:e.f0.length≤c) (hC:cm.C w0 A e.f0.length e.f0) (hn:xs.length≤1000000) (h:QR w0 gq w v xs) :
  Calls Tryz.prog 129 #[.pointer (some ⟨gq,0,none⟩),.iface 96 (.agg #[.slice A e.f0.length c,.int .i64 e.f1])] w fun en w'=>en = .returned (.tuple #[])∧∃ v',QR w0 gq w' v' (xs++[e])∧Fr w w':=by
 have hu41:=Tryz.underlying93;have hu44:=Tryz.underlying96;have hu39:=Tryz.underlying91
 have hta:∀ w:World,(Instr.typeAssert (.iface 96 (.agg #[.slice A e.f0.length c,.int .i64 e.f1])) 20 96 true).run Tryz.prog w = .ok (.tuple #[.agg #[.slice A e.f0.length c,.int .i64 e.f1],.bool true]) w:=fun _=>by kernel_rfl
 have H:=aS h;clear h
 go_enter Tryz.func129,Tryz.ntmps129
 go_upto_region 2 with (first | ((with_reducible refine gD 4 ?_);refine dK 4 #[.slice none 0 0,.int .i64 0] 96 ?_;intro g4 hg w2 hb hbl;have G4:=aS hg;have B4:=aS hb;have L4:=aS hbl;clear hg hb hbl) | ((with_reducible refine dO (t:=96) (p:=4) rfl ?_);refine wpList_store_row rfl 96 _ _ rfl g4 #[.slice A e.f0.length c,.int .i64 e.f1] rfl rfl 96 _ B4.out (by kernel_rfl) rfl (by kernel_rfl) ?_))
 have hg4:w.heap.size≤g4:=by rw [G4.out];exact Nat.le_refl _
 have l5:Below w.heap.size w (w2.setRow g4 #[.slice A e.f0.length c,.int .i64 e.f1]):=cV L4.out hg4 _;have b5:(w2.setRow g4 #[.slice A e.f0.length c,.int .i64 e.f1]).heap[g4]? = some (.cells #[.slice A e.f0.length c,.int .i64 e.f1] 96 (0,0)):=setRow_heap _ _ _ _ _ _ B4.out;have L5:=aS l5;have B5:=aS b5;clear l5 b5 B4 L4 G4
 generalize w2.setRow g4 #[.slice A e.f0.length c,.int .i64 e.f1]=w3 at L5 B5 ⊢
 have h4:=H.out.below (bH L5.out);have F4:=aS (Fr.below (bH L5.out));have B6:w3.drew.heap[g4]? = some (.cells #[.slice A e.f0.length c,.int .i64 e.f1] 96 (0,0)):=B5.out
 have r6:w3.drew.rangeAt g4 0 [.slice A e.f0.length c,.int .i64 e.f1]:=fun q u hq=>(aC B6 (0+q)).trans (by rw [Nat.zero_add,List.getElem?_toArray];exact hq)
 have H4:=aS h4;have B6:=aS B6;clear H L5 B5 h4;refine di (n:=9) (ds:=[6,8]) (S:=fun w'=>w'.cell? ⟨gq,0,none⟩=some v∧w'.rangeAt g4 0 [.slice A e.f0.length c,.int .i64 e.f1]) (bA 9 0) rfl rfl rfl ⟨H4.out.cell,r6⟩ (fun hHeld=>?_)
 generalize w3.drew=w4 at H4 F4 B6 hHeld ⊢
 refine jn 0 12 (bA 9 1) ?_
 refine jn 1 13 (bA 9 3) ?_
 refine jn 2 14 (bA 9 7) ?_
 refine ij (i:=3) (N:=(some 15)) (v:=v) (a':=?a3) (bA 9 15) rfl rfl (by kernel_rfl) (fun _ _ _ h=>h) ?hy3 hHeld ?ha3 ?hh3
 case hy3=>exact Or.inl ⟨by rfl,fun w' hw'=>by have h1:=hw'.1;go_simp⟩
 case ha3=>
  simp only [Act.put,eI,eG,lss,cC,dw]
  rfl
 refine ij (i:=4) (N:=(some 16)) (v:=.agg #[.slice A e.f0.length c,.int .i64 e.f1]) (a':=?a4) (bA 9 31) rfl rfl (by kernel_rfl) (fun _ _ _ h=>h) ?hy4 hHeld ?ha4 ?hh4
 case hy4=>exact yieldsIf_load_mid (by rfl) 96 _ rfl g4 0 (by go_simp) _ _ (fun w' hw'=>hw'.2) hu44 rfl rfl
 case ha4=>
  simp only [Act.put,eI,eG,lss,cC,dw]
  rfl
 refine Bp (i:=5) (N:=(some 17)) (bA 9 63) rfl rfl (by kernel_rfl) (by decide) (fun K hK=>?_);refine mg (w1:=?_) (v:=?_) (by rfl) rfl ?_ ?_
 rotate_left 2
 ·
  go_simp
  constructor
  ·
   rfl
  ·
   rfl
 refine hK.out _ _ ⟨(aC (ax H4.out.box _) 0).trans rfl,fun q u hq=>(aC (ax B6.out _) (0+q)).trans (by rw [Nat.zero_add,List.getElem?_toArray];exact hq)⟩ (fun hHeld=>?_);clear hK K;refine nm 17 ?_;refine jP (i:=6) (N:=(some 18)) (bA 9 127) rfl rfl (by kernel_rfl) (by decide) (fun K hK=>?_);refine Kd.ox (kQ w0) (w0:=w0) w0.heap.size (by rfl) (.tmp 15) (.tmp 17) 93 96 (.agg #[.slice none 0 0,.int .i64 0]) 32 rfl Tryz.underlying93 Cf rfl (by show 0<2;omega) (by omega) v xs e [.slice A e.f0.length c,.int .i64 e.f1] (fun k=>k≠gq) (fun _=>False) rfl rfl ?aP (fun _ hk=>hk.elim) ?aF H4.out.row H4.out.aq ?aS ?aL ?_
 case aP=>exact BF w0 _ _ _ e hl hC
 case aF=>intro k hk;have:=cR H4.out.box;omega
 case aS=>exact H4.out.aq.size
 case aL=>omega
 intro v1 w5 ho hb hg hat
 have hx5:=eP H4.out.box (w1:=w5) hg (Kd.lZ H4.out.row H4.out.box (by decide));have F5:=aS (F4.out.grown H4.out.row hg);have X5:=aS hx5;have O5:=aS ho;have L5:=aS hb;clear hx5 ho hb hg hat;refine hK.out _ _ ?_;clear hK K;refine nm 18 ?_;refine jn 7 19 (bA 9 255) ?_
 refine jP (i:=8) (N:=none) (bA 9 511) rfl rfl (by kernel_rfl) (by decide) (fun K hK=>?_);rw [if_pos (by rfl)];obtain ⟨A1,c1,rfl⟩:=Kd.bp O5.out;have hfz:=dx X5.out 0;have hcl:=(aC X5.out 0).trans rfl
 unfold Oper.wp
 go_simp
 refine hK.out _ _ ?_;clear hK K;refine sZ (by kernel_rfl) ?_
 go_end0
 have o5:=O5.out;rw [List.length_append,List.length_singleton] at o5;exact ⟨rfl,_,H4.out.put X5.out o5 L5.out,F5.out.set X5.out⟩
theorem CD {w0 w:World} {gq:Nat} {v:Value} {xs:List dZ} (hn:0<xs.length) (h:QR w0 gq w v xs) :
  Calls Tryz.prog 128 #[.pointer (some ⟨gq,0,none⟩)] w fun en w'=>(∃ u,en = .returned u)∧∃ v',QR w0 gq w' v' (xs.take (xs.length - 1))∧Fr w w':=by
 have hu41:=Tryz.underlying93;have hu44:=Tryz.underlying96;have hu39:=Tryz.underlying91;have hmax:=h.max;obtain ⟨g,c,rfl,hg,_⟩:=Kd.n_ h.row hn;obtain ⟨cs,hcl,hM,hc,hf⟩:=Kd.mW h.row iR ((xs.length - 1:Nat):Int) (by omega) (by omega);rw [Int.toNat_natCast] at hc hM;obtain ⟨A,a,rfl,hl,hC⟩:=qK hM;have hsz:(kQ w0).sz=2:=rfl;rw [hsz] at hc
 generalize xs.getD (xs.length - 1) iR=e at *
 have hcell:=h.cell;have hc0:w.cell? ⟨g,(xs.length - 1)*2,none⟩=some (.slice A e.f0.length a):=hc 0 _ rfl;have hc1:w.cell? ⟨g,(xs.length - 1)*2+1,none⟩=some (.int .i64 e.f1):=hc 1 _ rfl;obtain ⟨i0,hi0,_,_,_⟩:=info_parts Cf;have hcut:=jO (P:=Tryz.prog) 93 96 .i64 Tryz.underlying93 hi0 (some ⟨g,0,none⟩) xs.length c ((xs.length:Int) - 1) (by omega) (by omega) (by have:=(Kd.aY h.row).2.1;omega)
 go_enter Tryz.func128,Tryz.ntmps128
 go_wp2_with (first | ((with_reducible refine gD 4 ?_);refine dK 4 #[.slice none 0 0,.int .i64 0] 96 ?_;intro g4 hg w2 hb hbl;have G4:=aS hg;have B4:=aS hb;have L4:=aS hbl;clear hg hb hbl) | ((with_reducible refine dO (t:=96) (p:=4) rfl ?_);refine wpList_store_row rfl 96 _ _ rfl g4 #[.slice A e.f0.length a,.int .i64 e.f1] rfl rfl 96 _ B4.out (by kernel_rfl) rfl (by kernel_rfl) ?_;have l5:=cV L4.out (g:=g4) (by rw [G4.out];exact Nat.le_refl _) #[.slice A e.f0.length a,.int .i64 e.f1];have L5:=aS l5;have B5:=aS (show (World.setRow w2 g4 #[.slice A e.f0.length a,.int .i64 e.f1]).heap[g4]? = some (.cells #[.slice A e.f0.length a,.int .i64 e.f1] 96 (0,0)) from setRow_heap _ _ _ _ _ _ B4.out);clear l5 B4 L4;generalize World.setRow w2 g4 #[.slice A e.f0.length a,.int .i64 e.f1]=w5 at L5 B5 ⊢;have H5:=aS (h.below L5.out);have hx5:=H5.out.cell;have hfz:=dx H5.out.box 0;have hx6:=(aC B5.out 0).trans rfl;have hne:gq≠g4:=BP H5.out.box B5.out (by decide);have hb8:=dR B5.out (p:=⟨gq,0,none⟩) (fun e=>hne e.symm) (.slice (some ⟨g,0,none⟩) (xs.length - 1) c);have hx8:=(aC hb8 0).trans rfl;have hx9:=(aC hb8 1).trans rfl))
 have hb8:=()
 go_ret
 have h5:=H5.out;refine ⟨⟨_,rfl⟩,_,h5.put h5.box (Kd.BM h5.row (m:=xs.length - 1) (by omega)) h5.aq,(Fr.below L5.out).set h5.box⟩
def mF (k:Nat):Nat→List dZ→Nat→Option (List dZ)
 | 0,_,_=>none
 | m+1,xs,j=>if j=0 then some xs else (bN.f k xs (j:Int) (((j - 1) / 2:Nat):Int)).bind fun b=>if b=true then mF k m (iQ xs ((j - 1) / 2) j) ((j - 1) / 2) else some xs
theorem ye (k:Nat) {w0 w:World} {gq:Nat} {v:Value} {xs r:List dZ} (j:Nat) (hj:j<xs.length) (h:QR w0 gq w v xs) (hr:mF k k xs j=some r) :
  Calls Tryz.prog 80 #[.iface 91 (.pointer (some ⟨gq,0,none⟩)),.int .i64 j] w fun en w'=>en = .returned (.tuple #[])∧∃ v',QR w0 gq w' v' r∧Fr w w':=by
 have hu39:=Tryz.underlying91;have H:=aS h;have A0:=aS hr;clear h hr
 go_enter Tryz.func80,Tryz.ntmps80
 go_wp2
 go_loopw [1] (fun v1 w1=>∃ (m j:Nat) (v:Value) (xs:List dZ),v1 = .int .i64 (j:Int)∧ah (j<xs.length)∧ah (QR w0 gq w1 v xs)∧ah (mF k m xs j=some r)∧ah (Fr w w1)) (fun j _=>(intOf j).toNat)
 case atStart=>exact ⟨k,j,v,xs,rfl,⟨hj⟩,H,A0,⟨Fr.refl w⟩⟩
 case round=>
  clear H A0 hj;obtain ⟨m,j,v,xs,rfl,hj,H,A1,F1⟩:=hrel;have hm:=H.out.max;have hj:=hj.out;have a1:=A1.out
  cases m with
  | zero=>cases a1
  | succ m=>
   unfold mF at a1
   by_cases hj0:j=0
   ·
    subst hj0;rw [if_pos rfl] at a1
    obtain rfl:=Option.some.inj a1
    go_wp2_with (fail)
    go_end0
    exact ⟨rfl,⟨_,H.out⟩,F1.out⟩
   ·
    rw [if_neg hj0] at a1;obtain ⟨b,hb,a1⟩:=Option.bind_eq_some_iff.1 a1
    obtain ⟨i,hi⟩:∃ i,(j - 1) / 2=i:=⟨_,rfl⟩
    rw [hi] at hb a1
    have hq:Int.tdiv ((j:Int) - 1) 2=(i:Int):=by
     rw [show ((j:Int) - 1)=((j - 1:Nat):Int) by omega,← hi]
     rfl
    have hij:i<j:=by omega
    have hne:¬ ((i:Int)=(j:Int)):=by omega
    have hmL:=sL wr gq v H.out.cell;obtain ⟨g,c,rfl,hc,hC⟩:=H.out.form (by omega);have A2:=aS a1;have HB:=aS hb;have HC:=aS hC;clear a1 A1 hb hC hi
    cases b with
    | true=>
     rw [if_pos rfl] at A2
     go_wp2_with (first | (go_at_call 127;(with_reducible refine (bN.calls k _ c xs j i true _ HC.out hc HB.out).mono ?_);rintro e w5 ⟨rfl,hb⟩;have H5:=aS (H.out.below hb);have F5:=aS (F1.out.trans (Fr.below hb));have hmS:=r9 w5 gq _ H5.out.cell;clear hb) | (go_at_call 130;(with_reducible refine (mQ w0 _ w0.heap.size g c (fun k=>k≠gq) xs i j (by omega) hj H5.out.row).mono ?_);rintro e w6 ⟨rfl,hr,hg⟩;obtain ⟨h6,f6⟩:=H5.out.swap hr hg;have H6:=aS h6;have F6:=aS (F5.out.trans f6);clear hr hg h6 f6))
     go_roundw
     case rel=>exact ⟨m,i,_,iQ xs i j,rfl,⟨by rw [fK];omega⟩,H6,A2,F6⟩
     case measure=>simp [intOf];omega
    | false=>
     rw [if_neg (by decide)] at A2;have a2:=A2.out
     obtain rfl:=Option.some.inj a2
     go_wp2_with (first | (go_at_call 127;(with_reducible refine (bN.calls k _ c xs j i false _ HC.out hc HB.out).mono ?_);rintro e w5 ⟨rfl,hb⟩;have H5:=aS (H.out.below hb);have F5:=aS (F1.out.trans (Fr.below hb));clear hb))
     go_end0
     exact ⟨rfl,_,H5.out,F5.out⟩
def iB (k n:Nat):Nat→List dZ→Nat→Option (List dZ × Nat)
 | 0,_,_=>none
 | m+1,xs,i=>if n≤2*i+1 then some (xs,i) else (if 2*i+2<n then bN.f k xs ((2*i+2:Nat):Int) ((2*i+1:Nat):Int) else some false).bind fun b=>(bN.f k xs ((if b=true then 2*i+2 else 2*i+1:Nat):Int) (i:Int)).bind fun c=>if c=true then iB k n m (iQ xs i (if b=true then 2*i+2 else 2*i+1)) (if b=true then 2*i+2 else 2*i+1) else some (xs,i)
theorem rF (k n:Nat) {w0 w:World} {gq:Nat} {v:Value} {xs r:List dZ} {q:Nat} (i0:Nat) (hn:n≤xs.length) (hx:xs.length≤1000001) (hi:i0≤n) (h:QR w0 gq w v xs) (hr:iB k n k xs i0=some (r,q)) :
  Calls Tryz.prog 81 #[.iface 91 (.pointer (some ⟨gq,0,none⟩)),.int .i64 i0,.int .i64 n] w fun en w'=>en = .returned (.bool (decide (i0<q)))∧∃ v',QR w0 gq w' v' r∧Fr w w':=by
 have hu39:=Tryz.underlying91;have H:=aS h;have A0:=aS hr;clear h hr
 go_enter Tryz.func81,Tryz.ntmps81
 go_wp2
 go_loopw [7] (fun v7 w1=>∃ (m i:Nat) (v:Value) (xs:List dZ),v7 = .int .i64 (i:Int)∧ah (n≤xs.length∧xs.length≤1000001∧i≤n)∧ah (QR w0 gq w1 v xs)∧ah (iB k n m xs i=some (r,q))∧ah (Fr w w1)) (fun i _=>n - (intOf i).toNat)
 case atStart=>exact ⟨k,i0,v,xs,rfl,⟨hn,hx,hi⟩,H,A0,⟨Fr.refl w⟩⟩
 case round=>
  clear H A0 hn hi;obtain ⟨m,i,v,xs,rfl,hi,H,A1,F1⟩:=hrel;obtain ⟨hn,hx,hi⟩:=hi.out;have a1:=A1.out;clear A1
  cases m with
  | zero=>cases a1
  | succ m=>
   unfold iB at a1
   obtain ⟨j1,hj1⟩:∃ j1,2*i+1=j1:=⟨_,rfl⟩
   obtain ⟨j2,hj2⟩:∃ j2,2*i+2=j2:=⟨_,rfl⟩
   rw [hj1,hj2] at a1
   have he1:2*(i:Int)+1=(j1:Int):=by omega
   have he2:(j1:Int)+1=(j2:Int):=by omega
   have hz:¬ (j1:Int)<0:=by omega
   by_cases hj:n≤j1
   ·
    rw [if_pos hj] at a1;have a2:=Option.some.inj a1
    simp only [Prod.mk.injEq] at a2
    obtain ⟨rfl,rfl⟩:=a2
    have hji:(n:Int)≤(j1:Int):=by omega
    go_wp2_with (fail)
    go_ret
    exact ⟨rfl,⟨_,H.out⟩,F1.out⟩
   ·
    rw [if_neg hj] at a1
    have hji:¬ (n:Int)≤(j1:Int):=by omega
    obtain ⟨b,hb,a1⟩:=Option.bind_eq_some_iff.1 a1;obtain ⟨c,hc,a1⟩:=Option.bind_eq_some_iff.1 a1;obtain ⟨g,cp,rfl,hcp,hC⟩:=H.out.form (by omega);have hmL:=sL wr gq _ H.out.cell;have HC:=aS hC;clear hC;have A2:=aS a1;have HB:=aS hb;have HX:=aS hc;clear a1 hb hc hj1 hj2
    by_cases hj2:j2<n
    ·
     rw [if_pos hj2] at HB
     have hjn:(j2:Int)<(n:Int):=by omega
     cases b with
     | true=>
      simp only [if_true] at A2 HX
      cases c with
      | true=>
       rw [if_pos rfl] at A2
       go_wp2_with (first | (go_at_call 127;(first | ((with_reducible refine (bN.calls k _ cp xs (j2:Int) (j1:Int) true _ HC.out hcp HB.out).mono ?_)) | ((with_reducible refine (bN.calls k _ cp xs (j2:Int) (i:Int) true _ HC.out hcp HX.out).mono ?_)));rintro e w5 ⟨rfl,hb⟩;have n0:=aS (H.out.below hb);have n1:=aS (F1.out.trans (Fr.below hb));have n2:=aS (Kd.cH HC.out hb);clear H F1 HC;have H:=n0;have F1:=n1;have HC:=n2;clear n0 n1 n2 hb;have hmL_:=sL w5 gq _ H.out.cell;have hmS_:=r9 w5 gq _ H.out.cell) | (go_at_call 130;(with_reducible refine (mQ w0 _ w0.heap.size g cp (fun k=>k≠gq) xs i j2 (by omega) (by omega) H.out.row).mono ?_);rintro e w6 ⟨rfl,hr,hg⟩;obtain ⟨h6,f6⟩:=H.out.swap hr hg;have H6:=aS h6;have F6:=aS (F1.out.trans f6);clear hr hg h6 f6))
       go_roundw
       case rel=>exact ⟨m,j2,_,iQ xs i j2,rfl,⟨by rw [fK];exact ⟨hn,hx,by omega⟩⟩,H6,A2,F6⟩
       case measure=>simp [intOf];omega
      | false=>
       rw [if_neg (by decide)] at A2;have a2:=Option.some.inj A2.out
       simp only [Prod.mk.injEq] at a2
       obtain ⟨rfl,rfl⟩:=a2
       go_wp2_with (first | (go_at_call 127;(first | ((with_reducible refine (bN.calls k _ cp xs (j2:Int) (j1:Int) true _ HC.out hcp HB.out).mono ?_)) | ((with_reducible refine (bN.calls k _ cp xs (j2:Int) (i:Int) false _ HC.out hcp HX.out).mono ?_)));rintro e w5 ⟨rfl,hb⟩;have n0:=aS (H.out.below hb);have n1:=aS (F1.out.trans (Fr.below hb));have n2:=aS (Kd.cH HC.out hb);clear H F1 HC;have H:=n0;have F1:=n1;have HC:=n2;clear n0 n1 n2 hb;have hmL_:=sL w5 gq _ H.out.cell;have hmS_:=r9 w5 gq _ H.out.cell))
       go_ret
       exact ⟨rfl,_,H.out,F1.out⟩
     | false=>
      simp only [Bool.false_eq_true,if_false] at A2 HX
      cases c with
      | true=>
       rw [if_pos rfl] at A2
       go_wp2_with (first | (go_at_call 127;(first | ((with_reducible refine (bN.calls k _ cp xs (j2:Int) (j1:Int) false _ HC.out hcp HB.out).mono ?_)) | ((with_reducible refine (bN.calls k _ cp xs (j1:Int) (i:Int) true _ HC.out hcp HX.out).mono ?_)));rintro e w5 ⟨rfl,hb⟩;have n0:=aS (H.out.below hb);have n1:=aS (F1.out.trans (Fr.below hb));have n2:=aS (Kd.cH HC.out hb);clear H F1 HC;have H:=n0;have F1:=n1;have HC:=n2;clear n0 n1 n2 hb;have hmL_:=sL w5 gq _ H.out.cell;have hmS_:=r9 w5 gq _ H.out.cell) | (go_at_call 130;(with_reducible refine (mQ w0 _ w0.heap.size g cp (fun k=>k≠gq) xs i j1 (by omega) (by omega) H.out.row).mono ?_);rintro e w6 ⟨rfl,hr,hg⟩;obtain ⟨h6,f6⟩:=H.out.swap hr hg;have H6:=aS h6;have F6:=aS (F1.out.trans f6);clear hr hg h6 f6))
       go_roundw
       case rel=>exact ⟨m,j1,_,iQ xs i j1,rfl,⟨by rw [fK];exact ⟨hn,hx,by omega⟩⟩,H6,A2,F6⟩
       case measure=>simp [intOf];omega
      | false=>
       rw [if_neg (by decide)] at A2;have a2:=Option.some.inj A2.out
       simp only [Prod.mk.injEq] at a2
       obtain ⟨rfl,rfl⟩:=a2
       go_wp2_with (first | (go_at_call 127;(first | ((with_reducible refine (bN.calls k _ cp xs (j2:Int) (j1:Int) false _ HC.out hcp HB.out).mono ?_)) | ((with_reducible refine (bN.calls k _ cp xs (j1:Int) (i:Int) false _ HC.out hcp HX.out).mono ?_)));rintro e w5 ⟨rfl,hb⟩;have n0:=aS (H.out.below hb);have n1:=aS (F1.out.trans (Fr.below hb));have n2:=aS (Kd.cH HC.out hb);clear H F1 HC;have H:=n0;have F1:=n1;have HC:=n2;clear n0 n1 n2 hb;have hmL_:=sL w5 gq _ H.out.cell;have hmS_:=r9 w5 gq _ H.out.cell))
       go_ret
       exact ⟨rfl,_,H.out,F1.out⟩
    ·
     rw [if_neg hj2] at HB
     have hjn:¬ (j2:Int)<(n:Int):=by omega
     obtain rfl:=Option.some.inj HB.out
     simp only [Bool.false_eq_true,if_false] at A2 HX
     cases c with
     | true=>
      rw [if_pos rfl] at A2
      go_wp2_with (first | (go_at_call 127;(first | ((with_reducible refine (bN.calls k _ cp xs (j1:Int) (i:Int) true _ HC.out hcp HX.out).mono ?_)));rintro e w5 ⟨rfl,hb⟩;have n0:=aS (H.out.below hb);have n1:=aS (F1.out.trans (Fr.below hb));have n2:=aS (Kd.cH HC.out hb);clear H F1 HC;have H:=n0;have F1:=n1;have HC:=n2;clear n0 n1 n2 hb;have hmL_:=sL w5 gq _ H.out.cell;have hmS_:=r9 w5 gq _ H.out.cell) | (go_at_call 130;(with_reducible refine (mQ w0 _ w0.heap.size g cp (fun k=>k≠gq) xs i j1 (by omega) (by omega) H.out.row).mono ?_);rintro e w6 ⟨rfl,hr,hg⟩;obtain ⟨h6,f6⟩:=H.out.swap hr hg;have H6:=aS h6;have F6:=aS (F1.out.trans f6);clear hr hg h6 f6))
      go_roundw
      case rel=>exact ⟨m,j1,_,iQ xs i j1,rfl,⟨by rw [fK];exact ⟨hn,hx,by omega⟩⟩,H6,A2,F6⟩
      case measure=>simp [intOf];omega
     | false=>
      rw [if_neg (by decide)] at A2;have a2:=Option.some.inj A2.out
      simp only [Prod.mk.injEq] at a2
      obtain ⟨rfl,rfl⟩:=a2
      go_wp2_with (first | (go_at_call 127;(first | ((with_reducible refine (bN.calls k _ cp xs (j1:Int) (i:Int) false _ HC.out hcp HX.out).mono ?_)));rintro e w5 ⟨rfl,hb⟩;have n0:=aS (H.out.below hb);have n1:=aS (F1.out.trans (Fr.below hb));have n2:=aS (Kd.cH HC.out hb);clear H F1 HC;have H:=n0;have F1:=n1;have HC:=n2;clear n0 n1 n2 hb;have hmL_:=sL w5 gq _ H.out.cell;have hmS_:=r9 w5 gq _ H.out.cell))
      go_ret
      exact ⟨rfl,_,H.out,F1.out⟩
theorem mJ {w0 w:World} {gq:Nat} {v:Value} {xs:List dZ} (h:QR w0 gq w v xs):Calls Tryz.prog 59 #[v] w fun e w'=>e = .returned (.int .i64 (xs.length:Int))∧QR w0 gq w' v xs∧Fr w w'∧Below w.heap.size w w':=by
 obtain ⟨A,c,rfl,hc,hC⟩:=h.slice;refine (nr.calls A c xs (xs.length:Int) w hC hc rfl).mono ?_
 rintro e w1 ⟨rfl,hd⟩
 exact ⟨rfl,h.below hd.below,Fr.below hd.below,hd.below⟩
theorem zw (k:Nat) {w0 w:World} {gq:Nat} {v:Value} {xs r:List dZ} (e:dZ) {A:Option Addr} {c:Nat} (hl:e.f0.length≤c) (hC:cm.C w0 A e.f0.length e.f0) (hn:xs.length≤1000000) (h:QR w0 gq w v xs) (hr:mF k k (xs++[e]) xs.length=some r) :
  Calls Tryz.prog 58 #[.iface 91 (.pointer (some ⟨gq,0,none⟩)),.iface 96 (.agg #[.slice A e.f0.length c,.int .i64 e.f1])] w fun en w'=>en = .returned (.tuple #[])∧∃ v',QR w0 gq w' v' r∧Fr w w':=by
 have hu39:=Tryz.underlying91;have hmP:=GX w gq;have H:=aS h;have A0:=aS hr;clear h hr
 have hlen:((xs++[e]).length:Int) - 1=(xs.length:Int):=by simp
 go_enter Tryz.func58,Tryz.ntmps58
 go_wp2_with (first | (go_at_call 129;(with_reducible refine (Bz e hl hC hn H.out).mono ?_);rintro en w1 ⟨rfl,v1,h1,f1⟩;have H1:=aS h1;have F1:=aS f1;have hmL:=Dk w1 gq _ h1.cell;clear h1 f1) | (go_at_call 59;(with_reducible refine (mJ H1.out).mono ?_);rintro en w2 ⟨rfl,h2,f2,_⟩;have H2:=aS h2;have F2:=aS (F1.out.trans f2);clear h2 f2) | (go_at_call 80;(with_reducible refine (ye k xs.length (by simp) H2.out A0.out).mono ?_);rintro en w3 ⟨rfl,v3,h3,f3⟩;have H3:=aS h3;have F3:=aS (F2.out.trans f3);clear h3 f3))
 go_end0
 exact ⟨rfl,_,H3.out,F3.out⟩
theorem rJ (k:Nat) {w0 w:World} {gq:Nat} {v:Value} {xs r:List dZ} {q:Nat} (hk:k≠0) (hn:xs.length≤1000001) (h0:0<xs.length) (h:QR w0 gq w v xs) (hr:iB k xs.length k xs 0=some (r,q)) (hrl:0<r.length) :
  Calls Tryz.prog 61 #[.iface 91 (.pointer (some ⟨gq,0,none⟩)),.int .i64 0] w fun en w'=>en = .returned (.tuple #[])∧∃ v',QR w0 gq w' v' r∧Fr w w':=by
 have hu39:=Tryz.underlying91;have hmL:=Dk w gq _ h.cell;have H:=aS h;have A0:=aS hr;have A1:ah (mF k k r 0=some r):=⟨by cases k with | zero=>exact absurd rfl hk | succ k=>rfl⟩;clear h hr
 go_enter Tryz.func61,Tryz.ntmps61
 by_cases hq:0<q
 ·
  go_wp2_with (first | (go_at_call 59;(with_reducible refine (mJ H.out).mono ?_);rintro en w2 ⟨rfl,h2,f2,_⟩;have H2:=aS h2;have F2:=aS f2;clear h2 f2) | (go_at_call 81;(refine (rF k xs.length 0 (Nat.le_refl _) hn (by omega) H2.out A0.out).mono ?_);rintro en w3 ⟨rfl,v3,h3,f3⟩;have H3:=aS h3;have F3:=aS (F2.out.trans f3);clear h3 f3))
  go_end0
  exact ⟨rfl,_,H3.out,F3.out⟩
 ·
  go_wp2_with (first | (go_at_call 59;(with_reducible refine (mJ H.out).mono ?_);rintro en w2 ⟨rfl,h2,f2,_⟩;have H2:=aS h2;have F2:=aS f2;clear h2 f2) | (go_at_call 81;(refine (rF k xs.length 0 (Nat.le_refl _) hn (by omega) H2.out A0.out).mono ?_);rintro en w3 ⟨rfl,v3,h3,f3⟩;have H3:=aS h3;have F3:=aS (F2.out.trans f3);clear h3 f3) | (go_at_call 80;(refine (ye k 0 hrl H3.out A1.out).mono ?_);rintro en w4 ⟨rfl,v4,h4,f4⟩;have H4:=aS h4;have F4:=aS (F3.out.trans f4);clear h4 f4))
  go_end0
  exact ⟨rfl,_,H4.out,F4.out⟩
theorem qQ (k:Nat) {w0 w:World} {gq:Nat} {v:Value} {xs r:List dZ} {q n:Nat} (hn:xs.length≤1000001) (hx:xs.length=n+1) (h:QR w0 gq w v xs) (hr:iB k n k (iQ xs 0 n) 0=some (r,q)) (hrl:r.length=n+1) :
  Calls Tryz.prog 60 #[.iface 91 (.pointer (some ⟨gq,0,none⟩))] w fun en w'=>(∃ u,en = .returned u)∧∃ v',QR w0 gq w' v' (r.take n)∧Fr w w':=by
 have hu39:=Tryz.underlying91;have hmL:=Dk w gq _ h.cell;obtain ⟨g,c,rfl,hc,hC⟩:=h.form (by omega);have H:=aS h;have A0:=aS hr;clear h hr hC
 have hlen:(xs.length:Int) - 1=(n:Int):=by omega
 have HX:=aS hx;have hsl:=aS ((fK xs 0 n).trans hx);have HRL:=aS hrl;clear hx hrl
 go_enter Tryz.func60,Tryz.ntmps60
 go_wp2_with (first | (go_at_call 59;(with_reducible refine (mJ H.out).mono ?_);rintro en w1 ⟨rfl,h2,f2,_⟩;have H1:=aS h2;have F1:=aS f2;have hmS:=r9 w1 gq _ h2.cell;clear h2 f2) | (go_at_call 130;(refine (mQ w0 _ w0.heap.size g c (fun k=>k≠gq) xs 0 n (by have:=HX.out;omega) (by have:=HX.out;omega) H1.out.row).mono ?_);rintro e w2 ⟨rfl,hr,hg⟩;obtain ⟨h6,f6⟩:=H1.out.swap hr hg;have H2:=aS h6;have F2:=aS (F1.out.trans f6);clear hr hg h6 f6) | (go_at_call 81;(refine (rF k n 0 (by have:=hsl.out;omega) (by have:=hsl.out;have:=HX.out;omega) (Nat.zero_le _) H2.out A0.out).mono ?_);rintro en w3 ⟨rfl,v3,h3,f3⟩;have H3:=aS h3;have F3:=aS (F2.out.trans f3);have hmP:=Hg w3 gq;clear h3 f3) | (go_at_call 128;(with_reducible refine (CD (by have:=HRL.out;omega) H3.out).mono ?_);rintro en w4 ⟨⟨u,rfl⟩,v4,h4,f4⟩;have H4:=aS h4;have F4:=aS (F3.out.trans f4);clear h4 f4))
 go_ret
 have h4:=H4.out;rw [HRL.out] at h4;exact ⟨⟨_,rfl⟩,_,h4,F4.out⟩
theorem Bk (k:Nat):∀ (m:Nat) (xs:List dZ) (j:Nat) (r:List dZ),mF k m xs j=some r→r.length=xs.length
 | 0,_,_,_,h=>by cases h
 | m+1,xs,j,r,h=>by
  unfold mF at h
  split at h
  ·
   rw [←Option.some.inj h]
  ·
   obtain ⟨b,_,h⟩:=Option.bind_eq_some_iff.1 h
   split at h
   ·
    rw [Bk k m _ _ _ h,fK]
   ·
    rw [←Option.some.inj h]
theorem jB (k n:Nat):∀ (m:Nat) (xs:List dZ) (i:Nat) (r:List dZ) (q:Nat),iB k n m xs i=some (r,q)→r.length=xs.length
 | 0,_,_,_,_,h=>by cases h
 | m+1,xs,i,r,q,h=>by
  unfold iB at h
  split at h
  ·
   have:=Option.some.inj h
   simp only [Prod.mk.injEq] at this
   rw [←this.1]
  ·
   obtain ⟨b,_,h⟩:=Option.bind_eq_some_iff.1 h;obtain ⟨c,_,h⟩:=Option.bind_eq_some_iff.1 h
   split at h
   ·
    rw [jB k n m _ _ _ _ h,fK]
   ·
    have:=Option.some.inj h
    simp only [Prod.mk.injEq] at this
    rw [←this.1]
def m9 (k:Nat):List (List au)→Nat→List dZ→Option (List dZ)
 | [],_,q=>some q
 | l :: ls,i,q=>if l.length=0 then m9 k ls (i+1) q else if q.length≤1000000 then (mF k k (q++[⟨l,(i:Int)⟩]) q.length).bind fun q'=>m9 k ls (i+1) q' else none
def ny (k:Nat) (out:List au) (c:au):Option Bool:=if out.length=0 then some true else (bR.f k (af out ((out.length:Int) - 1)).f0 (af out ((out.length:Int) - 1)).f1 (af out ((out.length:Int) - 1)).f2 (af out ((out.length:Int) - 1)).f3 (af out ((out.length:Int) - 1)).f4 c.f0 c.f1 c.f2 c.f3 c.f4).bind fun t=>some (!(t == 0))
def oU (k:Nat) (s:dZ) (q:List dZ):Option (List dZ):=if s.f0.length=1 then (iB k q.length k (iQ ((⟨s.f0.drop 1,s.f1⟩:dZ) :: q) 0 q.length) 0).bind fun r=>some (r.1.take q.length) else (iB k (q.length+1) k ((⟨s.f0.drop 1,s.f1⟩:dZ) :: q) 0).bind fun r=>some r.1
def oz (k:Nat):Nat→List dZ→List au→Option (List au)
 | 0,_,_=>none
 | _+1,[],out=>some out
 | m+1,s :: q,out=>if 0<s.f0.length∧out.length≤1000000000∧q.length≤1000000 then (ny k out (af s.f0 0)).bind fun b=>(oU k s q).bind fun q'=>oz k m q' (if b=true then out++[af s.f0 0] else out) else none
def fN.f (k:Nat) (l0:List (List au)):Option (List au):=if k=0 then none else (m9 k l0 0 []).bind fun q=>oz k k q []
theorem QR.head {w0 w:World} {gq:Nat} {v:Value} {s:dZ} {q:List dZ} (h:QR w0 gq w v (s :: q)) (hs:0<s.f0.length):∃ g c cl ad cs,v = .slice (some ⟨g,0,none⟩) (q.length+1) c∧q.length+1≤c∧w.heap[g]? = some (.cells cl 96 (0,0))∧cl[0]? = some (.slice (some ad) s.f0.length cs)∧s.f0.length≤cs∧cm.C w0 (some ad) s.f0.length s.f0∧w0.cell? ad=some (.string (af s.f0 0).f0)∧w0.cell? ⟨ad.block,ad.off+1,none⟩=some (.string (af s.f0 0).f1)∧w0.cell? ⟨ad.block,ad.off+2,none⟩=some (.int .i64 (af s.f0 0).f2)∧w0.cell? ⟨ad.block,ad.off+3,none⟩=some (.string (af s.f0 0).f3)∧w0.cell? ⟨ad.block,ad.off+4,none⟩=some (.bool (af s.f0 0).f4):=by
 obtain ⟨g,c,rfl,_,_⟩:=Kd.n_ h.row (by simp);obtain ⟨cs,hcl,hM,hc,hf⟩:=Kd.mW h.row iR (0:Int) (by omega) (by simp);obtain ⟨A,a,rfl,hl,hC⟩:=qK hM;have he:(s :: q).getD (0:Int).toNat iR=s:=rfl;rw [he] at hM hc hl hC;obtain ⟨ad,hA,h0,h1,h2,h3,h4⟩:=dN hC 0 (by omega) (by omega);subst hA;obtain ⟨cl,hcl⟩:=Kd.gu h.row g rfl;have hx:=hc 0 _ rfl;have hy:=aC hcl 0;have hz:w.cell? ⟨g,0,none⟩=some (.slice (some ad) s.f0.length a):=hx;exact ⟨g,c,cl,ad,a,rfl,(Kd.aY h.row).2.1,hcl,hy.symm.trans hz,hl,hC,h0,h1,h2,h3,h4⟩
theorem EM {w0:World} {ad:Addr} {cs:Nat} {l d:List au} (hd:l.drop 1=d) (hC:cm.C w0 (some ad) l.length l) (hl:0<l.length) (hc:l.length≤cs):∃ A',(∀ W,(Instr.slice 32 (.slice (some ad) l.length cs) (some (.int .i64 1)) none none).run Tryz.prog W = .ok (.slice A' d.length (cs - 1)) W)∧cm.C w0 A' d.length d∧d.length≤cs - 1:=by
 obtain ⟨i0,hi0,_,hsz,_⟩:=info_parts eO
 have hdl:d.length=l.length - 1:=by rw [←hd,mh]
 have h:=gI (P:=Tryz.prog) 32 34 .i64 Tryz.underlying32 hi0 5 hsz (some ad) l.length cs 1 (by omega) (by omega);have hC2:=Kd.sx (m:=1) hC hl hc;rw [hd] at hC2;rw [hdl];rw [hdl] at hC2;exact ⟨_,h,hC2,by omega⟩
theorem lF {w w1:World} {base:Nat} {v:Value} {xs:List au} (h:Kd.R cm 34 w base (fun _=>True) v xs) (f:Fr w w1):Kd.R cm 34 w1 base (fun _=>True) v xs:=by
 refine Kd.aK (Kd.mo (Kd.eu h) (fun k hk=>?_)) (fun _ _=>trivial);obtain ⟨_,_,hlt,q,hq,cells,hc⟩:=hk
 have hq:q=34:=by simpa [cm,Kd.uG,Kd.pair,Kd.string,Kd.int,Kd.bool,Kd.scalar] using hq
 subst hq;rw [f.keep k _ hc ⟨fun cells' he=>by simp at he,fun cells' he=>by simp at he⟩,hc]
theorem QR.other {w0 w w1:World} {gq base:Nat} {v u:Value} {xs:List dZ} {out:List au} {ok:Nat→Prop} (h:QR w0 gq w v xs) (hr:Kd.R cm 34 w base ok u out) (hg:w.grownBy w1 u.ownBlock) (hb:Below w0.heap.size w0 w1):QR w0 gq w1 v xs:=
 ⟨eP h.box hg (Kd.lZ hr h.box (by decide)),Kd.Aw h.row (Kd.gu hr) (fun q hq=>by have h4:q=96:=(by simpa [kQ,Kd.uG,Kd.pair,Kd.fixed,Kd.int,Kd.scalar] using hq);subst h4;decide) hg,h.ge,hb⟩
theorem QR.cut {w0 w:World} {gq g n c:Nat} {s:dZ} {q:List dZ} (h:QR w0 gq w (.slice (some ⟨g,0,none⟩) n c) (s :: q)) {A:Option Addr} {c':Nat} {l:List au} (hl:l.length≤c') (hC:cm.C w0 A l.length l) :
  QR w0 gq (w.setCell ⟨g,0,none⟩ (.slice A l.length c')) (.slice (some ⟨g,0,none⟩) n c) ((⟨l,s.f1⟩:dZ) :: q)∧Fr w (w.setCell ⟨g,0,none⟩ (.slice A l.length c')):=by
 have hn:=(Kd.aY h.row).1;obtain ⟨cs,hcl,hM,hc,hf⟩:=Kd.mW h.row iR (0:Int) (by omega) (by rw [hn];simp);obtain ⟨A1,a1,rfl,hl1,hC1⟩:=qK hM;have hne:gq≠g:=(Kd.gu h.row g rfl).elim (fun cells hcells=>BP h.box hcells (by decide));obtain ⟨hr,hg⟩:=Kd.xk (j:=0) (seg:=[.slice A l.length c']) h.row (0:Int) (by omega) (by rw [hn];simp) hcl hc (by rw [←hcl];simp) (x':=(⟨l,s.f1⟩:dZ)) (okp:=fun k=>k≠gq∧k≠g) (by exact BF w0 _ _ _ (⟨l,s.f1⟩:dZ) hl hC) (fun _ h=>h);have hr2:(kQ w0).R 96 (w.setCell ⟨g,0,none⟩ (.slice A l.length c')) w0.heap.size (fun k=>k≠gq) (.slice (some ⟨g,0,none⟩) n c) ((⟨l,s.f1⟩:dZ) :: q):=hr;have hg2:w.grownBy (w.setCell ⟨g,0,none⟩ (.slice A l.length c')) (some g):=hg;refine ⟨⟨dR h.box (p:=⟨g,0,none⟩) hne _,hr2,h.ge,h.aq.setCell (Kd.gi h.row g rfl) _⟩,(Fr.refl w).grown h.row hg2⟩
theorem fN.calls (k:Nat) (A0:Option Addr) (c0:Nat) (l0:List (List au)) (r:List au) (w:World) (hr0:Kd.C (Kd.slice 34 cm) w A0 l0.length l0) (hc0:l0.length≤c0) (h:fN.f k l0=some r) :
  Calls Tryz.prog 40 #[.slice A0 l0.length c0] w fun e w'=>∃ v0_:Value,e = .returned (v0_)∧Kd.R cm 34 w' w.heap.size (fun _=>True) v0_ r∧Below w.heap.size w w':=by
 have hu35:=Tryz.underlying34;have hu27:=Tryz.underlying32;have hu41:=Tryz.underlying93;have hu44:=Tryz.underlying96;have hu39:=Tryz.underlying91
 unfold fN.f at h
 split at h
 ·
  cases h
 rename_i hk
 obtain ⟨q0,h1,h2⟩:=Option.bind_eq_some_iff.1 h;have H1:=aS h1;have H2:=aS h2;have HC:=aS hr0;have HL:=aS (Kd.AJ hr0);clear h h1 h2 hr0 hc0
 go_enter Tryz.func40,Tryz.ntmps40
 go_wp2_with (first | ((with_reducible refine gD 9 ?_);refine Kd.rI (kQ w) (w0:=w) w.heap.size 96 ?hg (N:=9) ?hd (xs:=([]:List dZ)) (inner:=[]) (ok:=fun _=>True) (okp:=fun _=>True) ?hr ?hp (fun _ hk=>hk) trivial (Below.refl _ _) (Nat.le_refl _) (by simp) ?_;(case hd=>rfl);(case hg=>rfl);(case hr=>first | (go_simp;done) | (go_simp;rfl));(case hp=>exact bP.none _ _);intro v9 w1 ho hb hg_ hnew_;obtain ⟨A9,c9,rfl⟩:=Kd.bp ho;have O9:=aS ho;have B9:=aS hb;clear ho hb hg_ hnew_) | ((with_reducible refine gD 10 ?_);refine dK 10 #[.slice A9 0 c9] 93 ?_;intro gq hg w2 hb hbl;have G10:=aS hg;have B10:=aS hb;have L10:=aS hbl;clear hg hb hbl))
 have hgq:w1.heap.size≤gq:=by rw [G10.out];exact Nat.le_refl _
 have HQ:ah (QR w gq w2 (.slice A9 0 c9) []):=⟨⟨B10.out,Kd.dB (Kd.aK (Kd.eu O9.out) (fun k hk=>by have:=hk.2.2.1;omega)) L10.out,Nat.le_trans B9.out.size hgq,aE B9.out L10.out⟩⟩;clear O9 B9 G10 B10 L10
 go_loopw [13] (fun v13 w3=>∃ (i:Nat) (v:Value) (xs:List dZ),v13 = .int .i64 (i:Int)∧ah (i≤l0.length)∧ah (QR w gq w3 v xs)∧ah (m9 k (l0.drop i) i xs=some q0)) (fun i _=>l0.length - (intOf i).toNat)
 case atStart=>exact ⟨0,_,[],rfl,⟨Nat.zero_le _⟩,HQ,H1⟩
 case round=>
  clear HQ H1;obtain ⟨i,v,xs,rfl,hi,HQ,H1⟩:=hrel;have hil:=hi.out;have hmax:=HL.out;have h1:=H1.out;clear H1
  by_cases hlt:i<l0.length
  ·
   rw [List.drop_eq_getElem_cons hlt] at h1
   unfold m9 at h1
   obtain ⟨ad,A1,c1,rfl,hcell,hl1,hC1⟩:=rE HC.out (i:Int) (by omega) (by omega);rw [Int.toNat_natCast] at hcell
   have hrd:aN l0 (i:Int)=l0[i]:=by
    show l0.getD (i:Int).toNat _=_
    rw [Int.toNat_natCast,List.getD_eq_getElem?_getD,List.getElem?_eq_getElem hlt]
    rfl
   rw [hrd] at hcell hl1 hC1
   generalize l0[i]=l at *
   have hcw:wr.cell? (ad.add i)=some (.slice A1 l.length c1):=(HQ.out.aq.cell (nk w _ hcell)).trans hcell;have hc1:=aS hC1;clear hC1 hcell hrd
   by_cases hl0:l.length=0
   ·
    rw [if_pos hl0] at h1;have H1:=aS h1;clear h1
    have hlz:¬ (0:Int)<(l.length:Int):=by omega
    go_wp2_with (fail)
    go_roundw
    case rel=>exact ⟨i+1,v,xs,by go_num,⟨by omega⟩,HQ,H1⟩
    case measure=>simp [intOf];omega
   ·
    rw [if_neg hl0] at h1
    split at h1
    ·
     rename_i hxs
     obtain ⟨q',hu,h1⟩:=Option.bind_eq_some_iff.1 h1;have H1:=aS h1;have HU:=aS hu;clear h1 hu
     have hlz:(0:Int)<(l.length:Int):=by omega
     go_wp2_with (first | (go_at_call 58;(with_reducible refine (zw k (⟨l,(i:Int)⟩:dZ) hl1 hc1.out hxs HQ.out HU.out).mono ?_);rintro en w5 ⟨rfl,v5,h5,f5⟩;have H5:=aS h5;clear h5 f5))
     go_roundw
     case rel=>exact ⟨i+1,_,_,by go_num,⟨by omega⟩,H5,H1⟩
     case measure=>simp [intOf];omega
    ·
     cases h1
  ·
   obtain rfl:i=l0.length:=by omega
   rw [List.drop_length] at h1
   unfold m9 at h1
   obtain rfl:=Option.some.inj h1
   clear h1
   go_wp2
   have HO:ah (Kd.R cm 34 wr w.heap.size (fun _=>True) (.slice none 0 0) []):=⟨Kd.d6 _ _ _ _ _⟩
   go_loopg [6] k (fun kq v6 w3=>∃ (v:Value) (xs:List dZ) (out:List au),ah (QR w gq w3 v xs)∧ah (Kd.R cm 34 w3 w.heap.size (fun _=>True) v6 out)∧ah (oz k kq xs out=some r))
   case atStart=>exact ⟨_,_,[],HQ,HO,H2⟩
   case round=>
    clear HQ HO H2;obtain ⟨v,xs,out,HQ,HO,H2⟩:=hrel;have h2:=H2.out;clear H2
    cases gk with
    | zero=>cases h2
    | succ m=>
     cases xs with
     | nil=>
      unfold oz at h2
      obtain rfl:=Option.some.inj h2
      have hcv:=HQ.out.cell
      go_wp2_with (first | (go_at_call 59;(with_reducible refine (mJ HQ.out).mono ?_);rintro en w5 ⟨rfl,h5,f5,b5⟩;have H5:=aS h5;have O5:=aS (lF HO.out f5);clear h5 f5 b5))
      go_ret
      exact ⟨_,rfl,O5.out,H5.out.aq⟩
     | cons s q=>
      unfold oz at h2
      split at h2
      rotate_left
      ·
       cases h2
      rename_i hif
      obtain ⟨hs,hout,hq⟩:=hif;obtain ⟨b,hb,h2⟩:=Option.bind_eq_some_iff.1 h2;obtain ⟨q',hn,h2⟩:=Option.bind_eq_some_iff.1 h2;obtain ⟨A6,c6,rfl⟩:=Kd.bp HO.out;obtain ⟨g,cq,cl,ad,cs,rfl,hc1,bg,hcl,hcs,hC,x0,x1,x2,x3,x4⟩:=HQ.out.head hs;have hcv:=HQ.out.cell;have HH2:=aS h2;have HN:=aS hn;have HT:=aS hb;have BG:=aS bg;have HC1:=aS hC
      generalize af s.f0 0=c at *
      clear h2 hn hb bg hC
      go_upto_region 12 with (first | (go_at_call 59;(with_reducible refine (mJ HQ.out).mono ?_);rintro en w5 ⟨rfl,h5,f5,b5⟩;have H5:=aS h5;have O5:=aS (lF HO.out f5);have BG5:=aS (aI BG.out b5);have hc5:=h5.cell;have hg0:=(aC BG5.out 0).trans hcl;have y0:=(h5.aq.cell (nk w _ x0)).trans x0;have y1:=(h5.aq.cell (nk w _ x1)).trans x1;have y2:=(h5.aq.cell (nk w _ x2)).trans x2;have y3:=(h5.aq.cell (nk w _ x3)).trans x3;have y4:=(h5.aq.cell (nk w _ x4)).trans x4;clear h5 f5 b5))
      have B7:=aS (vA w5 (.cells #[.string c.f0,.string c.f1,.int .i64 c.f2,.string c.f3,.bool c.f4] 34));have l7:Below w5.heap.size w5 (w5.alloc (.cells #[.string c.f0,.string c.f1,.int .i64 c.f2,.string c.f3,.bool c.f4] 34)):=wH (Below.refl _ _) _;have H7:=aS (H5.out.below l7);have O7:=aS (Kd.dB O5.out l7);have BG7:=aS (aI BG5.out l7);clear H5 O5 BG5 l7 hc5 hg0 y0 y1 y2 y3 y4
      generalize hg8:w5.heap.size=g8 at *
      generalize w5.alloc (.cells #[.string c.f0,.string c.f1,.int .i64 c.f2,.string c.f3,.bool c.f4] 34)=w7 at *
      clear hg8
      obtain ⟨d,hd⟩:∃ d,s.f0.drop 1=d:=⟨_,rfl⟩
      obtain ⟨A',hcut,hcd_,hcd⟩:=EM hd HC1.out hs hcs;have hCd:=aS hcd_
      have hdl:d.length+1=s.f0.length:=by rw [←hd,mh];omega
      unfold oU at HN
      rw [hd] at HN;have h8:=H7.out.below (bH (Below.refl _ _));have H8:=aS h8;have O8:=aS (Kd.bD O7.out);have BG8:=aS (ar BG7.out);have B8:=aS (ar B7.out);clear hcd_ hd h8 H7 O7 BG7 B7 BG HQ HO HC1 x0 x1 x2 x3 x4 hcv;have ht:=HT.out;clear HT
      unfold ny at ht
      by_cases ho0:out.length=0
      ·
       rw [if_pos ho0] at ht
       obtain rfl:=Option.some.inj ht
       rw [if_pos rfl] at HH2
       have hoz:((out.length:Int) == 0)=true:=by simpa using ho0
       have hoz2:(out.length:Int)=0:=by omega
       clear ht;refine di (n:=14) (ds:=[]) (S:=fun w'=>True) (bA 14 0) rfl rfl rfl trivial (fun hHeld=>?_)
       generalize w7.drew=w8 at H8 O8 BG8 B8 hHeld ⊢
       clear hHeld;refine jn 0 44 (bA 14 1) ?_
       refine jn 1 45 (bA 14 3) ?_
       refine iF (i:=2) (N:=(some 46)) (v:=.bool true) (a':=?pa2) (bA 14 7) rfl rfl (by kernel_rfl) (fun _ _ _ h=>h) (Or.inl ⟨by rfl,?py2⟩) ?pb2 ?ph2
       case py2=>
        intro w'
        go_simp
       case pb2=>
        simp only [Act.put,eI,eG,lss,cC,dw]
        rfl
       refine jn 3 47 (bA 14 15) ?_
       refine iF (i:=4) (N:=(some 48)) (v:=undef) (a':=?_) (bA 14 31) rfl rfl (by kernel_rfl) (fun _ _ _ h=>h) (Or.inr ⟨by rfl,rfl⟩) ?_ ?_
       rotate_left
       ·
        simp only [Act.put,eI,eG,lss,cC,dw]
        rfl
       refine iF (i:=5) (N:=(some 49)) (v:=undef) (a':=?_) (bA 14 63) rfl rfl (by kernel_rfl) (fun _ _ _ h=>h) (Or.inr ⟨by rfl,rfl⟩) ?_ ?_
       rotate_left
       ·
        simp only [Act.put,eI,eG,lss,cC,dw]
        rfl
       refine iF (i:=6) (N:=(some 50)) (v:=undef) (a':=?_) (bA 14 127) rfl rfl (by kernel_rfl) (fun _ _ _ h=>h) (Or.inr ⟨by rfl,rfl⟩) ?_ ?_
       rotate_left
       ·
        simp only [Act.put,eI,eG,lss,cC,dw]
        rfl
       refine iF (i:=7) (N:=(some 51)) (v:=undef) (a':=?_) (bA 14 255) rfl rfl (by kernel_rfl) (fun _ _ _ h=>h) (Or.inr ⟨by rfl,rfl⟩) ?_ ?_
       rotate_left
       ·
        simp only [Act.put,eI,eG,lss,cC,dw]
        rfl
       refine iF (i:=8) (N:=(some 52)) (v:=undef) (a':=?_) (bA 14 511) rfl rfl (by kernel_rfl) (fun _ _ _ h=>h) (Or.inr ⟨by rfl,rfl⟩) ?_ ?_
       rotate_left
       ·
        simp only [Act.put,eI,eG,lss,cC,dw]
        rfl
       refine iF (i:=9) (N:=(some 53)) (v:=undef) (a':=?_) (bA 14 1023) rfl rfl (by kernel_rfl) (fun _ _ _ h=>h) (Or.inr ⟨by rfl,rfl⟩) ?_ ?_
       rotate_left
       ·
        simp only [Act.put,eI,eG,lss,cC,dw]
        rfl
       refine iF (i:=10) (N:=(some 54)) (v:=undef) (a':=?_) (bA 14 2047) rfl rfl (by kernel_rfl) (fun _ _ _ h=>h) (Or.inr ⟨by rfl,rfl⟩) ?_ ?_
       rotate_left
       ·
        simp only [Act.put,eI,eG,lss,cC,dw]
        rfl
       refine iF (i:=11) (N:=(some 55)) (v:=undef) (a':=?_) (bA 14 4095) rfl rfl (by kernel_rfl) (fun _ _ _ h=>h) (Or.inr ⟨by rfl,rfl⟩) ?_ ?_
       rotate_left
       ·
        simp only [Act.put,eI,eG,lss,cC,dw]
        rfl
       refine iF (i:=12) (N:=(some 56)) (v:=undef) (a':=?_) (bA 14 8191) rfl rfl (by kernel_rfl) (fun _ _ _ h=>h) (Or.inr ⟨by rfl,rfl⟩) ?_ ?_
       rotate_left
       ·
        simp only [Act.put,eI,eG,lss,cC,dw]
        rfl
       refine iF (i:=13) (N:=(some 57)) (v:=.bool true) (a':=?pa13) (bA 14 16383) rfl rfl (by kernel_rfl) (fun _ _ _ h=>h) (Or.inl ⟨by rfl,?py13⟩) ?pb13 ?ph13
       case py13=>
        intro w'
        go_simp
       case pb13=>
        simp only [Act.put,eI,eG,lss,cC,dw]
        rfl
       refine sZ (by kernel_rfl) ?_;clear hoz hoz2 ho0;have z0:=(aC B8.out 0).trans rfl;have z1:=(aC B8.out 1).trans rfl;have z2:=(aC B8.out 2).trans rfl;have z3:=(aC B8.out 3).trans rfl;have z4:=(aC B8.out 4).trans rfl;have xg:=(aC BG8.out 0).trans hcl;have fz:=dx BG8.out 0
       go_upto_region 15 with (first | ((with_reducible refine fS (b:=.append) (xs:=#[.tmp 58,.tmp 60]) rfl ?_);at_builtin;(refine Kd.gJ cm (w0:=w) w.heap.size rfl (.tmp 58) (.tmp 60) 32 34 (.agg #[(.string ⟨#[]⟩),(.string ⟨#[]⟩),(.int .i64 0),(.string ⟨#[]⟩),(.bool false)]) 64 rfl Tryz.underlying32 eO rfl (by decide) (by omega) (.slice A6 out.length c6) out c [.string c.f0,.string c.f1,.int .i64 c.f2,.string c.f3,.bool c.f4] (fun _=>True) (fun _=>False) rfl rfl ?aP (fun _ hk=>hk.elim) ?aF ?aO ?aB ?aS ?aL ?_;(case aP=>exact ia _ _ _ c);(case aB=>exact H8.out.aq);(case aF=>exact (fun _ _=>trivial));(case aO=>exact O8.out);(case aS=>exact H8.out.aq.size);(case aL=>omega);intro v61 w9 ho hb hg hat;have n0:=aS (H8.out.other O8.out hg hb);have n1:=aS ho;have n2:=aS (eP BG8.out hg (Kd.lZ O8.out BG8.out (by decide)));clear H8 O8 BG8 B8 ho hb hg hat;have H8:=n0;have O8:=n1;have BG8:=n2;clear n0 n1 n2;have xg:=(aC BG8.out 0).trans hcl;have fz:=dx BG8.out 0)))
       obtain ⟨h9,f9⟩:=H8.out.cut hcd hCd.out;have O9:=aS (lF O8.out f9);have hx9:=World.cell?_setCell_same _ ⟨g,0,none⟩ (.slice A' d.length (cs - 1)) xg;have H9:=aS h9;have hb9:=h9.cell;clear f9 h9 xg fz H8 O8 BG8
       generalize World.setCell _ ⟨g,0,none⟩ (.slice A' d.length (cs - 1))=w10 at H9 O9 hx9 hb9 ⊢
       by_cases hone:s.f0.length=1
       ·
        rw [if_pos hone] at HN
        have hz:(d.length:Int)=0:=by omega
        obtain ⟨⟨r1,r2⟩,hr1,hr2⟩:=Option.bind_eq_some_iff.1 HN.out
        obtain rfl:=Option.some.inj hr2
        have hrl:=jB _ _ _ _ _ _ _ hr1;rw [fK,List.length_cons] at hrl;have HD:=aS hr1;clear hr1 hr2
        go_wp2_with (first | (go_at_call 60;(with_reducible refine (qQ k (by simp;omega) (by simp) H9.out HD.out hrl).mono ?_);rintro en w11 ⟨⟨u,rfl⟩,v11,h11,f11⟩;have H11:=aS h11;have O11:=aS (lF O9.out f11);clear h11 f11))
        go_roundg m
        case measure=>omega
        case rel=>exact ⟨_,_,_,H11,O11,HH2⟩
       ·
        rw [if_neg hone] at HN
        have hz:¬ (d.length:Int)=0:=by omega
        obtain ⟨⟨r1,r2⟩,hr1,hr2⟩:=Option.bind_eq_some_iff.1 HN.out
        obtain rfl:=Option.some.inj hr2
        have hrl:=jB _ _ _ _ _ _ _ hr1;rw [List.length_cons] at hrl;have HD:=aS hr1;clear hr1 hr2
        go_wp2_with (first | (go_at_call 61;(with_reducible refine (rJ k hk (by simp;omega) (by simp) H9.out HD.out (by omega)).mono ?_);rintro en w11 ⟨rfl,v11,h11,f11⟩;have H11:=aS h11;have O11:=aS (lF O9.out f11);clear h11 f11))
        go_roundg m
        case measure=>omega
        case rel=>exact ⟨_,_,_,H11,O11,HH2⟩
      ·
       rw [if_neg ho0] at ht;obtain ⟨t,hcm,ht⟩:=Option.bind_eq_some_iff.1 ht
       obtain rfl:=Option.some.inj ht
       obtain ⟨ji,hji⟩:∃ ji,(out.length:Int) - 1=ji:=⟨_,rfl⟩
       rw [hji] at hcm;have HCM:=aS hcm
       have hoz:((out.length:Int) == 0)=false:=by simpa using ho0
       have hoz2:¬ (out.length:Int)=0:=by omega
       have hj0:=eq_true (show (0:Int)≤ji by omega);have hj1:=eq_true (show ji<(out.length:Int) by omega)
       have hwj:IntKind.i64.wrap ji=ji:=by rw [cC];unfold wrap64;omega
       obtain ⟨ad2,hA6,u0,u1,u2,u3,u4⟩:=dN (Kd.aY O8.out).2.2 ji (by omega) (by omega);subst hA6;clear hcm ht
       by_cases htz:(t == 0)=true
       ·
        have hb_:(!(t == 0))=false:=by rw [htz];rfl
        rw [hb_] at HH2;rw [if_neg (by decide)] at HH2
        have htv:t=0:=by simpa using htz
        refine di (n:=14) (ds:=[]) (S:=fun w'=>w'.cell? ⟨g8,0,none⟩=some (.string c.f0)∧w'.cell? ⟨g8,1,none⟩=some (.string c.f1)∧w'.cell? ⟨g8,2,none⟩=some (.int .i64 c.f2)∧w'.cell? ⟨g8,3,none⟩=some (.string c.f3)∧w'.cell? ⟨g8,4,none⟩=some (.bool c.f4)∧w'.cell? (ad2.add (ji.toNat*5))=some (.string (af out ji).f0)∧w'.cell? ⟨(ad2.add (ji.toNat*5)).block,(ad2.add (ji.toNat*5)).off+1,none⟩=some (.string (af out ji).f1)∧w'.cell? ⟨(ad2.add (ji.toNat*5)).block,(ad2.add (ji.toNat*5)).off+2,none⟩=some (.int .i64 (af out ji).f2)∧w'.cell? ⟨(ad2.add (ji.toNat*5)).block,(ad2.add (ji.toNat*5)).off+3,none⟩=some (.string (af out ji).f3)∧w'.cell? ⟨(ad2.add (ji.toNat*5)).block,(ad2.add (ji.toNat*5)).off+4,none⟩=some (.bool (af out ji).f4)) (bA 14 0) rfl rfl rfl ⟨(aC B8.out 0).trans rfl,(aC B8.out 1).trans rfl,(aC B8.out 2).trans rfl,(aC B8.out 3).trans rfl,(aC B8.out 4).trans rfl,u0,u1,u2,u3,u4⟩ (fun hHeld=>?_)
        generalize w7.drew=w8 at H8 O8 BG8 B8 hHeld u0 u1 u2 u3 u4 ⊢
        have HS:=aS hHeld;refine jn 0 44 (bA 14 1) ?_
        refine jn 1 45 (bA 14 3) ?_
        refine iF (i:=2) (N:=(some 46)) (v:=.bool false) (a':=?pa2f) (bA 14 7) rfl rfl (by kernel_rfl) (fun _ _ _ h=>h) (Or.inl ⟨by rfl,?py2f⟩) ?pb2f ?ph2f
        case py2f=>
         intro w'
         go_simp
        case pb2f=>
         simp only [Act.put,eI,eG,lss,cC,dw]
         rfl
        refine jn 3 47 (bA 14 15) ?_
        refine jn 4 48 (bA 14 31) ?_
        refine jn 5 49 (bA 14 63) ?_
        refine jn 6 50 (bA 14 127) ?_
        refine iF (i:=7) (N:=(some 51)) (v:=.int .i64 ji) (a':=?pa7f) (bA 14 255) rfl rfl (by kernel_rfl) (fun _ _ _ h=>h) (Or.inl ⟨by rfl,?py7f⟩) ?pb7f ?ph7f
        case py7f=>
         intro w'
         go_simp
        case pb7f=>
         simp only [Act.put,eI,eG,lss,cC,dw]
         rfl
        refine jn 8 52 (bA 14 511) ?_
        refine ij (i:=9) (N:=(some 53)) (v:=.agg #[.string (af out ji).f0,.string (af out ji).f1,.int .i64 (af out ji).f2,.string (af out ji).f3,.bool (af out ji).f4]) (a':=?a9f) (bA 14 1023) rfl rfl (by kernel_rfl) (fun _ _ _ h=>h) ?hy9f hHeld ?ha9f ?hh9f
        case hy9f=>exact Or.inl ⟨by rfl,fun w' hw'=>by obtain ⟨s0,s1,s2,s3,s4,s5,s6,s7,s8,s9⟩:=hw';go_simp⟩
        case ha9f=>
         simp only [Act.put,eI,eG,lss,cC,dw]
         rfl
        refine ij (i:=10) (N:=(some 54)) (v:=.agg #[.string c.f0,.string c.f1,.int .i64 c.f2,.string c.f3,.bool c.f4]) (a':=?a10f) (bA 14 2047) rfl rfl (by kernel_rfl) (fun _ _ _ h=>h) ?hy10f hHeld ?ha10f ?hh10f
        case hy10f=>exact Or.inl ⟨by rfl,fun w' hw'=>by obtain ⟨s0,s1,s2,s3,s4,s5,s6,s7,s8,s9⟩:=hw';go_simp⟩
        case ha10f=>
         simp only [Act.put,eI,eG,lss,cC,dw]
         rfl
        refine Bp (i:=11) (N:=(some 55)) (bA 14 4095) rfl rfl (by kernel_rfl) (by decide) (fun K hK=>?_);refine gb Tryz.func47 #[.agg #[.string (af out ji).f0,.string (af out ji).f1,.int .i64 (af out ji).f2,.string (af out ji).f3,.bool (af out ji).f4],.agg #[.string c.f0,.string c.f1,.int .i64 c.f2,.string c.f3,.bool c.f4]] ?_
        with_reducible refine (bR.calls k _ _ _ _ _ _ _ _ _ _ t _ HCM.out).mono ?_
        rintro e w9 ⟨rfl,hb⟩
        refine ⟨_,rfl,?_⟩;have n0:=aS (H8.out.below hb);have n1:=aS (Kd.dB O8.out hb);have n2:=aS (aI BG8.out hb);have n3:=aS (aI B8.out hb);obtain ⟨s0,s1,s2,s3,s4,s5,s6,s7,s8,s9⟩:=HS.out;have hS9:=aS (show (fun w'=>w'.cell? ⟨g8,0,none⟩=some (.string c.f0)∧w'.cell? ⟨g8,1,none⟩=some (.string c.f1)∧w'.cell? ⟨g8,2,none⟩=some (.int .i64 c.f2)∧w'.cell? ⟨g8,3,none⟩=some (.string c.f3)∧w'.cell? ⟨g8,4,none⟩=some (.bool c.f4)∧w'.cell? (ad2.add (ji.toNat*5))=some (.string (af out ji).f0)∧w'.cell? ⟨(ad2.add (ji.toNat*5)).block,(ad2.add (ji.toNat*5)).off+1,none⟩=some (.string (af out ji).f1)∧w'.cell? ⟨(ad2.add (ji.toNat*5)).block,(ad2.add (ji.toNat*5)).off+2,none⟩=some (.int .i64 (af out ji).f2)∧w'.cell? ⟨(ad2.add (ji.toNat*5)).block,(ad2.add (ji.toNat*5)).off+3,none⟩=some (.string (af out ji).f3)∧w'.cell? ⟨(ad2.add (ji.toNat*5)).block,(ad2.add (ji.toNat*5)).off+4,none⟩=some (.bool (af out ji).f4)) w9 from ⟨(aC n3.out 0).trans rfl,(aC n3.out 1).trans rfl,(aC n3.out 2).trans rfl,(aC n3.out 3).trans rfl,(aC n3.out 4).trans rfl,(hb.cell (nk _ _ s5)).trans s5,(hb.cell (nk _ _ s6)).trans s6,(hb.cell (nk _ _ s7)).trans s7,(hb.cell (nk _ _ s8)).trans s8,(hb.cell (nk _ _ s9)).trans s9⟩);clear H8 O8 BG8 B8 s0 s1 s2 s3 s4 s5 s6 s7 s8 s9 hb;have H8:=n0;have O8:=n1;have BG8:=n2;have B8:=n3;clear n0 n1 n2 n3;refine hK.out _ _ hS9.out (fun hHeld=>?_);clear hK K;refine nm 55 ?_;refine iF (i:=12) (N:=(some 56)) (v:=.bool false) (a':=?pa12f) (bA 14 8191) rfl rfl (by kernel_rfl) (fun _ _ _ h=>h) (Or.inl ⟨by rfl,?py12f⟩) ?pb12f ?ph12f
        case py12f=>
         intro w'
         go_simp
        case pb12f=>
         simp only [Act.put,eI,eG,lss,cC,dw]
         rfl
        refine iF (i:=13) (N:=(some 57)) (v:=.bool false) (a':=?pa13f) (bA 14 16383) rfl rfl (by kernel_rfl) (fun _ _ _ h=>h) (Or.inl ⟨by rfl,?py13f⟩) ?pb13f ?ph13f
        case py13f=>
         intro w'
         go_simp
        case pb13f=>
         simp only [Act.put,eI,eG,lss,cC,dw]
         rfl
        refine sZ (by kernel_rfl) ?_;clear hHeld hoz hoz2 ho0 hj0 hj1 hwj htz htv hb_ hS9;have xg:=(aC BG8.out 0).trans hcl;have fz:=dx BG8.out 0
        go_upto_region 15 with (fail)
        obtain ⟨h9,f9⟩:=H8.out.cut hcd hCd.out;have O9:=aS (lF O8.out f9);have hx9:=World.cell?_setCell_same _ ⟨g,0,none⟩ (.slice A' d.length (cs - 1)) xg;have H9:=aS h9;have hb9:=h9.cell;clear f9 h9 xg fz H8 O8 BG8
        generalize World.setCell _ ⟨g,0,none⟩ (.slice A' d.length (cs - 1))=w10 at H9 O9 hx9 hb9 ⊢
        by_cases hone:s.f0.length=1
        ·
         rw [if_pos hone] at HN
         have hz:(d.length:Int)=0:=by omega
         obtain ⟨⟨r1,r2⟩,hr1,hr2⟩:=Option.bind_eq_some_iff.1 HN.out
         obtain rfl:=Option.some.inj hr2
         have hrl:=jB _ _ _ _ _ _ _ hr1;rw [fK,List.length_cons] at hrl;have HD:=aS hr1;clear hr1 hr2
         go_wp2_with (first | (go_at_call 60;(with_reducible refine (qQ k (by simp;omega) (by simp) H9.out HD.out hrl).mono ?_);rintro en w11 ⟨⟨u,rfl⟩,v11,h11,f11⟩;have H11:=aS h11;have O11:=aS (lF O9.out f11);clear h11 f11))
         go_roundg m
         case measure=>omega
         case rel=>exact ⟨_,_,_,H11,O11,HH2⟩
        ·
         rw [if_neg hone] at HN
         have hz:¬ (d.length:Int)=0:=by omega
         obtain ⟨⟨r1,r2⟩,hr1,hr2⟩:=Option.bind_eq_some_iff.1 HN.out
         obtain rfl:=Option.some.inj hr2
         have hrl:=jB _ _ _ _ _ _ _ hr1;rw [List.length_cons] at hrl;have HD:=aS hr1;clear hr1 hr2
         go_wp2_with (first | (go_at_call 61;(with_reducible refine (rJ k hk (by simp;omega) (by simp) H9.out HD.out (by omega)).mono ?_);rintro en w11 ⟨rfl,v11,h11,f11⟩;have H11:=aS h11;have O11:=aS (lF O9.out f11);clear h11 f11))
         go_roundg m
         case measure=>omega
         case rel=>exact ⟨_,_,_,H11,O11,HH2⟩
       ·
        have hb_:(!(t == 0))=true:=by simpa using htz
        rw [hb_] at HH2;rw [if_pos rfl] at HH2
        have htv:¬ t=0:=by simpa using htz
        refine di (n:=14) (ds:=[]) (S:=fun w'=>w'.cell? ⟨g8,0,none⟩=some (.string c.f0)∧w'.cell? ⟨g8,1,none⟩=some (.string c.f1)∧w'.cell? ⟨g8,2,none⟩=some (.int .i64 c.f2)∧w'.cell? ⟨g8,3,none⟩=some (.string c.f3)∧w'.cell? ⟨g8,4,none⟩=some (.bool c.f4)∧w'.cell? (ad2.add (ji.toNat*5))=some (.string (af out ji).f0)∧w'.cell? ⟨(ad2.add (ji.toNat*5)).block,(ad2.add (ji.toNat*5)).off+1,none⟩=some (.string (af out ji).f1)∧w'.cell? ⟨(ad2.add (ji.toNat*5)).block,(ad2.add (ji.toNat*5)).off+2,none⟩=some (.int .i64 (af out ji).f2)∧w'.cell? ⟨(ad2.add (ji.toNat*5)).block,(ad2.add (ji.toNat*5)).off+3,none⟩=some (.string (af out ji).f3)∧w'.cell? ⟨(ad2.add (ji.toNat*5)).block,(ad2.add (ji.toNat*5)).off+4,none⟩=some (.bool (af out ji).f4)) (bA 14 0) rfl rfl rfl ⟨(aC B8.out 0).trans rfl,(aC B8.out 1).trans rfl,(aC B8.out 2).trans rfl,(aC B8.out 3).trans rfl,(aC B8.out 4).trans rfl,u0,u1,u2,u3,u4⟩ (fun hHeld=>?_)
        generalize w7.drew=w8 at H8 O8 BG8 B8 hHeld u0 u1 u2 u3 u4 ⊢
        have HS:=aS hHeld;refine jn 0 44 (bA 14 1) ?_
        refine jn 1 45 (bA 14 3) ?_
        refine iF (i:=2) (N:=(some 46)) (v:=.bool false) (a':=?pa2t) (bA 14 7) rfl rfl (by kernel_rfl) (fun _ _ _ h=>h) (Or.inl ⟨by rfl,?py2t⟩) ?pb2t ?ph2t
        case py2t=>
         intro w'
         go_simp
        case pb2t=>
         simp only [Act.put,eI,eG,lss,cC,dw]
         rfl
        refine jn 3 47 (bA 14 15) ?_
        refine jn 4 48 (bA 14 31) ?_
        refine jn 5 49 (bA 14 63) ?_
        refine jn 6 50 (bA 14 127) ?_
        refine iF (i:=7) (N:=(some 51)) (v:=.int .i64 ji) (a':=?pa7t) (bA 14 255) rfl rfl (by kernel_rfl) (fun _ _ _ h=>h) (Or.inl ⟨by rfl,?py7t⟩) ?pb7t ?ph7t
        case py7t=>
         intro w'
         go_simp
        case pb7t=>
         simp only [Act.put,eI,eG,lss,cC,dw]
         rfl
        refine jn 8 52 (bA 14 511) ?_
        refine ij (i:=9) (N:=(some 53)) (v:=.agg #[.string (af out ji).f0,.string (af out ji).f1,.int .i64 (af out ji).f2,.string (af out ji).f3,.bool (af out ji).f4]) (a':=?a9t) (bA 14 1023) rfl rfl (by kernel_rfl) (fun _ _ _ h=>h) ?hy9t hHeld ?ha9t ?hh9t
        case hy9t=>exact Or.inl ⟨by rfl,fun w' hw'=>by obtain ⟨s0,s1,s2,s3,s4,s5,s6,s7,s8,s9⟩:=hw';go_simp⟩
        case ha9t=>
         simp only [Act.put,eI,eG,lss,cC,dw]
         rfl
        refine ij (i:=10) (N:=(some 54)) (v:=.agg #[.string c.f0,.string c.f1,.int .i64 c.f2,.string c.f3,.bool c.f4]) (a':=?a10t) (bA 14 2047) rfl rfl (by kernel_rfl) (fun _ _ _ h=>h) ?hy10t hHeld ?ha10t ?hh10t
        case hy10t=>exact Or.inl ⟨by rfl,fun w' hw'=>by obtain ⟨s0,s1,s2,s3,s4,s5,s6,s7,s8,s9⟩:=hw';go_simp⟩
        case ha10t=>
         simp only [Act.put,eI,eG,lss,cC,dw]
         rfl
        refine Bp (i:=11) (N:=(some 55)) (bA 14 4095) rfl rfl (by kernel_rfl) (by decide) (fun K hK=>?_);refine gb Tryz.func47 #[.agg #[.string (af out ji).f0,.string (af out ji).f1,.int .i64 (af out ji).f2,.string (af out ji).f3,.bool (af out ji).f4],.agg #[.string c.f0,.string c.f1,.int .i64 c.f2,.string c.f3,.bool c.f4]] ?_
        with_reducible refine (bR.calls k _ _ _ _ _ _ _ _ _ _ t _ HCM.out).mono ?_
        rintro e w9 ⟨rfl,hb⟩
        refine ⟨_,rfl,?_⟩;have n0:=aS (H8.out.below hb);have n1:=aS (Kd.dB O8.out hb);have n2:=aS (aI BG8.out hb);have n3:=aS (aI B8.out hb);obtain ⟨s0,s1,s2,s3,s4,s5,s6,s7,s8,s9⟩:=HS.out;have hS9:=aS (show (fun w'=>w'.cell? ⟨g8,0,none⟩=some (.string c.f0)∧w'.cell? ⟨g8,1,none⟩=some (.string c.f1)∧w'.cell? ⟨g8,2,none⟩=some (.int .i64 c.f2)∧w'.cell? ⟨g8,3,none⟩=some (.string c.f3)∧w'.cell? ⟨g8,4,none⟩=some (.bool c.f4)∧w'.cell? (ad2.add (ji.toNat*5))=some (.string (af out ji).f0)∧w'.cell? ⟨(ad2.add (ji.toNat*5)).block,(ad2.add (ji.toNat*5)).off+1,none⟩=some (.string (af out ji).f1)∧w'.cell? ⟨(ad2.add (ji.toNat*5)).block,(ad2.add (ji.toNat*5)).off+2,none⟩=some (.int .i64 (af out ji).f2)∧w'.cell? ⟨(ad2.add (ji.toNat*5)).block,(ad2.add (ji.toNat*5)).off+3,none⟩=some (.string (af out ji).f3)∧w'.cell? ⟨(ad2.add (ji.toNat*5)).block,(ad2.add (ji.toNat*5)).off+4,none⟩=some (.bool (af out ji).f4)) w9 from ⟨(aC n3.out 0).trans rfl,(aC n3.out 1).trans rfl,(aC n3.out 2).trans rfl,(aC n3.out 3).trans rfl,(aC n3.out 4).trans rfl,(hb.cell (nk _ _ s5)).trans s5,(hb.cell (nk _ _ s6)).trans s6,(hb.cell (nk _ _ s7)).trans s7,(hb.cell (nk _ _ s8)).trans s8,(hb.cell (nk _ _ s9)).trans s9⟩);clear H8 O8 BG8 B8 s0 s1 s2 s3 s4 s5 s6 s7 s8 s9 hb;have H8:=n0;have O8:=n1;have BG8:=n2;have B8:=n3;clear n0 n1 n2 n3;refine hK.out _ _ hS9.out (fun hHeld=>?_);clear hK K;refine nm 55 ?_;refine iF (i:=12) (N:=(some 56)) (v:=.bool true) (a':=?pa12t) (bA 14 8191) rfl rfl (by kernel_rfl) (fun _ _ _ h=>h) (Or.inl ⟨by rfl,?py12t⟩) ?pb12t ?ph12t
        case py12t=>
         intro w'
         go_simp
        case pb12t=>
         simp only [Act.put,eI,eG,lss,cC,dw]
         rfl
        refine iF (i:=13) (N:=(some 57)) (v:=.bool true) (a':=?pa13t) (bA 14 16383) rfl rfl (by kernel_rfl) (fun _ _ _ h=>h) (Or.inl ⟨by rfl,?py13t⟩) ?pb13t ?ph13t
        case py13t=>
         intro w'
         go_simp
        case pb13t=>
         simp only [Act.put,eI,eG,lss,cC,dw]
         rfl
        refine sZ (by kernel_rfl) ?_;clear hHeld hoz hoz2 ho0 hj0 hj1 hwj htz htv hb_ hS9;have z0:=(aC B8.out 0).trans rfl;have z1:=(aC B8.out 1).trans rfl;have z2:=(aC B8.out 2).trans rfl;have z3:=(aC B8.out 3).trans rfl;have z4:=(aC B8.out 4).trans rfl;have xg:=(aC BG8.out 0).trans hcl;have fz:=dx BG8.out 0
        go_upto_region 15 with (first | ((with_reducible refine fS (b:=.append) (xs:=#[.tmp 58,.tmp 60]) rfl ?_);at_builtin;(refine Kd.gJ cm (w0:=w) w.heap.size rfl (.tmp 58) (.tmp 60) 32 34 (.agg #[(.string ⟨#[]⟩),(.string ⟨#[]⟩),(.int .i64 0),(.string ⟨#[]⟩),(.bool false)]) 64 rfl Tryz.underlying32 eO rfl (by decide) (by omega) (.slice (some ad2) out.length c6) out c [.string c.f0,.string c.f1,.int .i64 c.f2,.string c.f3,.bool c.f4] (fun _=>True) (fun _=>False) rfl rfl ?aP (fun _ hk=>hk.elim) ?aF ?aO ?aB ?aS ?aL ?_;(case aP=>exact ia _ _ _ c);(case aB=>exact H8.out.aq);(case aF=>exact (fun _ _=>trivial));(case aO=>exact O8.out);(case aS=>exact H8.out.aq.size);(case aL=>omega);intro v61 w9 ho hb hg hat;have n0:=aS (H8.out.other O8.out hg hb);have n1:=aS ho;have n2:=aS (eP BG8.out hg (Kd.lZ O8.out BG8.out (by decide)));clear H8 O8 BG8 B8 ho hb hg hat;have H8:=n0;have O8:=n1;have BG8:=n2;clear n0 n1 n2;have xg:=(aC BG8.out 0).trans hcl;have fz:=dx BG8.out 0)))
        obtain ⟨h9,f9⟩:=H8.out.cut hcd hCd.out;have O9:=aS (lF O8.out f9);have hx9:=World.cell?_setCell_same _ ⟨g,0,none⟩ (.slice A' d.length (cs - 1)) xg;have H9:=aS h9;have hb9:=h9.cell;clear f9 h9 xg fz H8 O8 BG8
        generalize World.setCell _ ⟨g,0,none⟩ (.slice A' d.length (cs - 1))=w10 at H9 O9 hx9 hb9 ⊢
        by_cases hone:s.f0.length=1
        ·
         rw [if_pos hone] at HN
         have hz:(d.length:Int)=0:=by omega
         obtain ⟨⟨r1,r2⟩,hr1,hr2⟩:=Option.bind_eq_some_iff.1 HN.out
         obtain rfl:=Option.some.inj hr2
         have hrl:=jB _ _ _ _ _ _ _ hr1;rw [fK,List.length_cons] at hrl;have HD:=aS hr1;clear hr1 hr2
         go_wp2_with (first | (go_at_call 60;(with_reducible refine (qQ k (by simp;omega) (by simp) H9.out HD.out hrl).mono ?_);rintro en w11 ⟨⟨u,rfl⟩,v11,h11,f11⟩;have H11:=aS h11;have O11:=aS (lF O9.out f11);clear h11 f11))
         go_roundg m
         case measure=>omega
         case rel=>exact ⟨_,_,_,H11,O11,HH2⟩
        ·
         rw [if_neg hone] at HN
         have hz:¬ (d.length:Int)=0:=by omega
         obtain ⟨⟨r1,r2⟩,hr1,hr2⟩:=Option.bind_eq_some_iff.1 HN.out
         obtain rfl:=Option.some.inj hr2
         have hrl:=jB _ _ _ _ _ _ _ hr1;rw [List.length_cons] at hrl;have HD:=aS hr1;clear hr1 hr2
         go_wp2_with (first | (go_at_call 61;(with_reducible refine (rJ k hk (by simp;omega) (by simp) H9.out HD.out (by omega)).mono ?_);rintro en w11 ⟨rfl,v11,h11,f11⟩;have H11:=aS h11;have O11:=aS (lF O9.out f11);clear h11 f11))
         go_roundg m
         case measure=>omega
         case rel=>exact ⟨_,_,_,H11,O11,HH2⟩
theorem xV (k:Nat):∀ (m:Nat) (xs:List dZ) (j:Nat),aH (mF k m xs j) (mF (k+1) (m+1) xs j)
 | 0,_,_=>aH.none _
 | m+1,xs,j=>by
  rw [mF,mF];exact aH.ite (aH.refl _) (aH.bind (bN.mono _ _ _ _) (fun _=>aH.ite (xV k m _ _) (aH.refl _)))
theorem q7 (k n:Nat):∀ (m:Nat) (xs:List dZ) (i:Nat),aH (iB k n m xs i) (iB (k+1) n (m+1) xs i)
 | 0,_,_=>aH.none _
 | m+1,xs,i=>by
  rw [iB,iB];exact aH.ite (aH.refl _) (aH.bind (aH.ite (bN.mono _ _ _ _) (aH.refl _)) (fun _=>aH.bind (bN.mono _ _ _ _) (fun _=>aH.ite (q7 k n m _ _) (aH.refl _))))
theorem sK (k:Nat):∀ (ls:List (List au)) (i:Nat) (q:List dZ),aH (m9 k ls i q) (m9 (k+1) ls i q)
 | [],_,_=>aH.refl _
 | l :: ls,i,q=>by
  rw [m9,m9];exact aH.ite (sK k ls _ _) (aH.ite (aH.bind (xV k k _ _) (fun _=>sK k ls _ _)) (aH.refl _))
theorem yV (k:Nat) (out:List au) (c:au):aH (ny k out c) (ny (k+1) out c):=
 aH.ite (aH.refl _) (aH.bind (bR.mono _ _ _ _ _ _ _ _ _ _ _) (fun _=>aH.refl _))
theorem xN (k:Nat) (s:dZ) (q:List dZ):aH (oU k s q) (oU (k+1) s q):=
 aH.ite (aH.bind (q7 k _ k _ _) (fun _=>aH.refl _)) (aH.bind (q7 k _ k _ _) (fun _=>aH.refl _))
theorem wB (k:Nat):∀ (m:Nat) (q:List dZ) (out:List au),aH (oz k m q out) (oz (k+1) (m+1) q out)
 | 0,_,_=>aH.none _
 | m+1,[],out=>aH.refl _
 | m+1,s :: q,out=>by
  rw [oz,oz];exact aH.ite (aH.bind (yV k _ _) (fun _=>aH.bind (xN k _ _) (fun _=>wB k m _ _))) (aH.refl _)
theorem fN.mono:∀ a0 k,aH (fN.f k a0) (fN.f (k+1) a0):=by
 intro a0 k
 unfold fN.f
 by_cases hk:k=0
 ·
  rw [if_pos hk];exact aH.none _
 ·
  rw [if_neg hk,if_neg (by omega)];exact aH.bind (sK k a0 0 []) (fun _=>wB k k _ _)
theorem oF.calls (g base:Nat) (l:List au) (bs:List (List au)) (fl:List Int) (r:List au) (w:World) (hA:aJ.At w base g l bs fl) (h:eN.f l=some r) :
  Calls Tryz.prog 53 #[.pointer (some ⟨g,0,none⟩)] w fun e w'=>∃ v0_:Value,e = .returned v0_∧Kd.R cm 34 w' w.heap.size (fun _=>True) v0_ r∧Below w.heap.size w w':=by
 have hu26:=Tryz.underlying51;have hu22:=Tryz.underlying32;have hu39:=Tryz.underlying73;have hu70:=Tryz.underlying111;have hu42:=Tryz.underlying34;obtain ⟨vl,vb,vf,hA⟩:=hA;obtain ⟨Al,cl,rfl⟩:=Kd.bp hA.hl;obtain ⟨Ab,cb,rfl⟩:=Kd.bp hA.hb;obtain ⟨Af,cf,rfl⟩:=Kd.bp hA.hf;have HV:=aS hA;clear hA;have X:=aS h;clear h;have q0:=iw (aS HV.out.cU)
 go_enter Tryz.func53,Tryz.ntmps53
 go_wp2_with (go_at_call 52;(with_reducible refine (eN.calls Al cl l r _ (Kd.aY HV.out.hl).2.2 (Kd.aY HV.out.hl).2.1 X.out).mono ?_);rintro e_ w2 ⟨v0,rfl,ho,hb⟩;have HO:=aS ho;have HB:=aS hb;clear ho hb)
 go_ret
 exact ⟨v0,rfl,HO.out,HB.out⟩
def cw.l1:List (List au × List (List au) × List Int)→List (List au)→Option (List (List au))
 | [],o=>some o
 | x :: r,o=>(eN.f x.1).bind fun c=>if o.length<2199023255552 then cw.l1 r (o++[c]) else none
def cw.l0:List (List (List au × List (List au) × List Int))→List (List au)→Option (List (List au))
 | [],o=>some o
 | l :: r,o=>(cw.l1 l o).bind fun q=>cw.l0 r q
def cw.f (xs:List au) (ls:List (List (List au × List (List au) × List Int))):Option (List (List au)):=(eN.f xs).bind fun c=>cw.l0 ls [c]
theorem cw.calls (base:Nat) (ok:Nat→Prop) (g:Nat) (s1 s2 s3:Int) (xs:List au) (n:Int) (ls:List (List (List au × List (List au) × List Int))) (r:List (List au)) (w:World) (hA:ak.At w base ok g s1 s2 s3 xs n ls) (h:cw.f xs ls=some r) :
  Calls Tryz.prog 41 #[.pointer (some ⟨g,0,none⟩)] w fun e w'=>∃ v0_:Value,e = .returned v0_∧Kd.R (Kd.slice 34 cm) 32 w' w.heap.size (fun _=>True) v0_ r∧Below w.heap.size w w':=by
 have hu30:=Tryz.underlying27;have hu51:=Tryz.underlying61;have hu23:=Tryz.underlying23;have hu49:=Tryz.underlying59;have hu53:=Tryz.underlying64;have hu24:=Tryz.underlying32;have hu61:=Tryz.underlying73;obtain ⟨gm,vm,vl,vs,hA⟩:=hA;have HA:=aS hA;clear hA
 unfold cw.f at h
 replace h:=bU h;obtain ⟨c,x1,h⟩:=h;have X1:=aS x1;have H:=aS h;clear x1 h;obtain ⟨A,cl,rfl,hcl,hmx,hat⟩:=HA.out.at;have HL:=aS HA.out.len;have HMX:=aS hmx;have HAT:=aS hat;have HAW:=aS HA.out;clear hat hmx;have q0:=cO (aS HA.out.cU)
 go_enter Tryz.func41,Tryz.ntmps41
 go_upto_region 2 with (first | (go_at_call 33;(with_reducible refine (rQ.calls gm base xs c n vm _ HA.out.mem X1.out).mono ?_);rintro e_ w2 ⟨v2,rfl,ho,hb⟩;obtain ⟨A2,c2,rfl⟩:=Kd.bp ho;have HC2:=aS ho;have HB1:=aS hb;have HA1:=aS (HA.out.below hb);clear HA q0 ho hb;have HA:=HA1;clear HA1;have q0:=cO (aS HA.out.cU)))
 have HO:=aS (Kd.bn (ak.z8 (Kd.slice 34 cm) (W:=w2) (e:=32) (xs:=[c]) (inner:=[.slice A2 c.length c2]) (bP.one (Kd.uY HC2.out) (bP.none _ _)) HB1.out.size (by simp)) (Nat.le_refl _));have HB:=aS (wH HB1.out (.cells [.slice A2 c.length c2].toArray 32));have HA1:=aS (HA.out.below (wH (Below.refl _ _) (.cells [.slice A2 c.length c2].toArray 32)));clear HA HC2 HB1 q0;have HA:=HA1;clear HA1
 generalize w2.alloc (.cells #[.slice A2 c.length c2] 32)=w3 at HA HO HB ⊢
 have q0:=cO (aS HA.out.cU)
 go_wp2
 clear q0
 go_loopw [3,19] (fun v3 v19 wr=>∃ (i:Nat) (o:List (List au)),v19 = .int .i64 (i:Int)∧ah (i≤vs.length)∧ah (cw.l0 (ls.drop i) o=some r)∧ah (Kd.R (Kd.slice 34 cm) 32 wr w.heap.size (fun _=>True) v3 o)∧ah (Below w.heap.size w wr)) (fun _ i _=>vs.length - (intOf i).toNat)
 case atStart=>exact ⟨0,[c],rfl,⟨Nat.zero_le _⟩,H,HO,HB⟩
 case round=>
  clear H HO HB;obtain ⟨i,o,rfl,hi,HA0,HR,HBr⟩:=hrel
  by_cases hlt:i<vs.length
  ·
   have hq1:(i:Int)<(vs.length:Int):=by omega
   obtain ⟨ad,e_,hx⟩:=HAT.out wr (fun k _ hk=>HBr.out.block k hk) i hlt;subst e_;obtain ⟨Ai,ci,ei,hli,hCi⟩:=HAW.out.cells i hlt;rw [ei] at hx;have ha:=HA0.out;rw [ak.nu ls [] i (by rw [←HL.out];exact hlt)] at ha
   obtain ⟨li,hli_⟩:∃ x,x=ls.getD i []:=⟨_,rfl⟩
   rw [←hli_] at ha hx hli hCi
   unfold cw.l0 at ha
   replace ha:=bU ha;obtain ⟨q,y1,ha⟩:=ha;have Y1:=aS y1;have HA1:=aS ha;have HCI:=aS hCi;have HLI:=aS hCi.2.1
   have hix:∀ W:World,(Instr.indexAt 59 (.slice (some ad) vs.length cl) (.int .i64 (i:Int))).run Tryz.prog W = .ok (.pointer (some (ad.add i))) W:=by
    obtain ⟨i0,hi0,hz⟩:=Option.map_eq_some_iff.1 mV
    simp only [Prod.mk.injEq] at hz
    intro W
    have h1:=gH 59 64 hu49 hi0 1 hz.2.1 ad vs.length cl (i:Int) (by omega) (by omega) W
    rwa [Nat.mul_one,Int.toNat_natCast] at h1
   have hwr:wrap64 ((i:Int)+1)=(i:Int)+1:=by rw [←cC,IntKind.wrap_i64];have:=HMX.out;omega
   clear y1 ha HA0 hCi hi hli_ ei hli
   go_wp2
   go_loopw [3,25] (fun v3 v25 wi=>∃ (j:Nat) (p:List (List au)),v25 = .int .i64 (j:Int)∧ah (j≤li.length)∧ah (cw.l1 (li.drop j) p=some q)∧ah (Kd.R (Kd.slice 34 cm) 32 wi w.heap.size (fun _=>True) v3 p)∧ah (Below w.heap.size w wi)) (fun _ j _=>li.length - (intOf j).toNat)
   case atStart=>exact ⟨0,o,rfl,⟨Nat.zero_le _⟩,Y1,HR,HBr⟩
   case round=>
    clear HR HBr Y1 hx;obtain ⟨j,p,rfl,hj,HP,HR,HBr⟩:=hrel
    by_cases hlj:j<li.length
    ·
     have hj1:(j:Int)<(li.length:Int):=by omega
     obtain ⟨ad2,gx,e_,hy,hOP⟩:=ak.uP (Kd.cH HCI.out HBr.out) j hlj;subst e_;have ha:=HP.out;rw [ak.nu li ([],[],[]) j hlj] at ha
     obtain ⟨x,hx_⟩:∃ x,x=li.getD j ([],[],[]):=⟨_,rfl⟩
     rw [←hx_] at ha hOP
     unfold cw.l1 at ha
     replace ha:=bU ha;obtain ⟨d,y2,ha⟩:=ha
     by_cases hlim:p.length<2199023255552
     case neg=>rw [if_neg hlim] at ha;cases ha
     rw [if_pos hlim] at ha;have Y2:=aS y2;have HP1:=aS ha;have HOP:=aS hOP;have HLM:=aS hlim
     have hiy:∀ W:World,(Instr.indexAt 64 (.slice (some ad2) li.length ci) (.int .i64 (j:Int))).run Tryz.prog W = .ok (.pointer (some (ad2.add j))) W:=by
      obtain ⟨i0,hi0,hz⟩:=Option.map_eq_some_iff.1 qF
      simp only [Prod.mk.injEq] at hz
      intro W
      have h1:=gH 64 86 hu53 hi0 1 hz.2.1 ad2 li.length ci (j:Int) (by omega) (by omega) W
      rwa [Nat.mul_one,Int.toNat_natCast] at h1
     have hwj:wrap64 ((j:Int)+1)=(j:Int)+1:=by rw [←cC,IntKind.wrap_i64];have:=HLI.out;omega
     clear y2 ha HP hOP hj hlim hx_
     go_wp2_with (first | (go_at_call 53;(with_reducible refine (oF.calls gx 0 x.1 x.2.1 x.2.2 d _ HOP.out Y2.out).mono ?_);rintro e_ w5 ⟨v5,rfl,ho,hb⟩;obtain ⟨A5,c5,rfl⟩:=Kd.bp ho;have HD5:=aS (Kd.bn (Kd.cK ho (Kd.cP HR.out)) HBr.out.size);have HR1:=aS (Kd.dB HR.out hb);have HB1:=aS (aE HBr.out hb);clear ho hb HR HBr) | (at_builtin;refine Kd.gJ (Kd.slice 34 cm) (w0:=w) w.heap.size rfl _ _ 73 32 _ _ rfl hu61 qj rfl (by decide) (by decide) u3 p d [.slice A5 d.length c5] (fun _=>True) (fun k=>True∧some k≠u3.ownBlock) rfl rfl (Kd.uY HD5.out) (fun _ hk=>hk) (fun _ _=>trivial) HR1.out HB1.out HB1.out.size (by have:=HLM.out;clear hwj hwr;omega) ?_;intro v8 w6 ho hb hg hat;have HR2:=aS ho;have HB2:=aS hb;clear ho hb hg hat HR1 HB1 HD5))
     go_roundw
     case rel=>exact ⟨j+1,_,by rw [hwj];rfl,⟨hlj⟩,HP1,HR2,HB2⟩
     case measure=>exact iV hwj hlj
    ·
     have hge:¬ ((j:Int)<(li.length:Int)):=by omega
     have ha:=HP.out;rw [List.drop_eq_nil_of_le (show li.length≤j by omega)] at ha
     unfold cw.l1 at ha
     obtain e1:=Option.some.inj ha
     subst e1;clear ha HP
     go_wp2
     go_roundw
     case rel=>exact ⟨i+1,_,by rw [hwr];rfl,⟨hlt⟩,HA1,HR,HBr⟩
     case measure=>exact iV hwr hlt
  ·
   have hge:¬ ((i:Int)<(vs.length:Int)):=by omega
   have ha:=HA0.out;rw [List.drop_eq_nil_of_le (show ls.length≤i by rw [←HL.out];omega)] at ha
   unfold cw.l0 at ha
   obtain e1:=Option.some.inj ha
   subst e1
   go_wp2
   go_ret
   exact ⟨_,rfl,HR.out,HBr.out⟩
def bV.gl (ls:List (List (List au × List (List au) × List Int))) (i:Nat):List (List (List au × List (List au) × List Int)):=if i+1=ls.length then ls++[[]] else ls
def bV.f (k:Nat) (s2:Int) (ls:List (List (List au × List (List au) × List Int))) (i:Nat):Option (List (List (List au × List (List au) × List Int))):=
 if ls.length<1099511627776∧((bV.gl ls i).getD i []).length+((bV.gl ls i).getD (i+1) []).length<1099511627776 then (cw.l1 ((bV.gl ls i).getD i []++(bV.gl ls i).getD (i+1) []) []).bind fun q=>(fN.f k q).bind fun c=>(eD.f k c s2).bind fun t=>some (((bV.gl ls i).set i []).set (i+1) [t]) else none
theorem bV.mono:∀ a0 a1 a2 k,aH (bV.f k a0 a1 a2) (bV.f (k+1) a0 a1 a2):=fun _ _ _ _=>aH.ite (aH.bind (aH.refl _) fun _=>aH.bind (fN.mono _ _) fun _=>aH.bind (eD.mono _ _ _) fun _=>aH.refl _) (aH.refl _)
theorem bV.calls (k g base:Nat) (ok:Nat→Prop) (s1 s2 s3:Int) (xs:List au) (n:Int) (ls r:List (List (List au × List (List au) × List Int))) (i:Nat) (w:World) (hA:ak.At w base ok g s1 s2 s3 xs n ls) (hi:i<ls.length) (h:bV.f k s2 ls i=some r) :
  Calls Tryz.prog 34 #[.pointer (some ⟨g,0,none⟩),.int .i64 (i:Int)] w fun e w'=>e = .returned (.tuple #[])∧ak.At w' base (fun k=>ok k∨w.heap.size≤k) g s1 s2 s3 xs n r∧ak.fD w w' ok:=by
 have hu30:=Tryz.underlying27;have hu51:=Tryz.underlying61;have hu23:=Tryz.underlying23;have hu49:=Tryz.underlying59;have hu53:=Tryz.underlying64;have hu24:=Tryz.underlying32;have hu61:=Tryz.underlying73;have hu75:=Tryz.underlying86
 have hsz53:(Tryz.prog.info? 64).map (·.size)=some 1:=by
  obtain ⟨i0,hi0,hz⟩:=Option.map_eq_some_iff.1 mV
  simp only [Prod.mk.injEq] at hz
  rw [hi0];simp [hz.2.1]
 obtain ⟨gm,vm,vl,vs,hA⟩:=hA;have HA:=aS hA;clear hA;have HI:=aS hi
 unfold bV.f at h
 by_cases hg:ls.length<1099511627776∧((bV.gl ls i).getD i []).length+((bV.gl ls i).getD (i+1) []).length<1099511627776
 case neg=>rw [if_neg hg] at h;cases h
 rw [if_pos hg] at h;replace h:=bU h;obtain ⟨q,x1,h⟩:=h;replace h:=bU h;obtain ⟨c,x2,h⟩:=h;replace h:=bU h;obtain ⟨t,x3,h⟩:=h
 obtain hr:=Option.some.inj h
 have X1:=aS x1;have X2:=aS x2;have X3:=aS x3;have HR:=aS hr;have HG:=aS hg;clear x1 x2 x3 h hr hg hi;obtain ⟨A,cl,rfl,hcl,hmx,hat⟩:=HA.out.at;have HL:=aS HA.out.len;clear hat hmx;have q0:=cO (aS HA.out.cU);have HGE:ah (base≤w.heap.size):=aS (Nat.le_trans HA.out.ge (Nat.le_of_lt (cR HA.out.cU)));have HLV:ah (vs.length<1099511627776):=aS (by rw [HL.out];exact HG.out.1)
 have hw1:wrap64 ((i:Int)+1)=(i:Int)+1:=by rw [←cC,IntKind.wrap_i64];have:=HI.out;have:=HG.out.1;omega
 go_enter Tryz.func34,Tryz.ntmps34
 refine wp_seq_k (fun K_ hK_=>?_)
 go_cut [] (fun wc=>∃ (vl1:Value) (vs1:List Value),ah (ak.eC wc base (fun k=>ok k∨w.heap.size≤k) g gm vm vl1 vs1 vs1 s1 s2 s3 xs n (bV.gl ls i))∧ah (ak.fD w wc ok))
 case first=>
  by_cases he:i+1=ls.length
  ·
   have he':(i:Int)+1=(vs.length:Int):=by rw [HL.out,← he];rfl
   obtain ⟨he1,he2⟩:=jh he';have HE:=aS he;clear he he'
   go_wp2_with (first | (at_builtin;refine Kd.gJ ak.vX (w0:=w) base rfl _ _ 59 64 _ _ rfl hu49 mV rfl (by decide) (by decide) (.slice A vs.length cl) vs (.slice none 0 0) [.slice none 0 0] (fun k=>ok k∨w.heap.size≤k) (fun _=>False) rfl rfl ⟨rfl,rfl⟩ (fun _ hk=>hk.elim) (fun k hk=>.inr hk) (Kd.aK HA.out.out (fun _ hk=>.inl hk)) (Below.refl _ _) HGE.out (by have:=HLV.out;clear hw1;omega) ?_;intro v21 w2 ho hb hg hat;obtain ⟨A1,c1,e1_⟩:=Kd.bp ho;rw [show (vs++[(.slice none 0 0:Value)]).length=vs.length+1 from by simp] at e1_;subst e1_;have HO2:=aS ho;have HG2:=aS hg;have HB2:ah (w2.heap[g]? = some (.cells #[.int .i64 s1,.int .i64 s2,.int .i64 s3,.pointer (some ⟨gm,0,none⟩),.slice A vs.length cl] 61 (0,0))):=aS ((hg.block g (cR HA.out.cU) (ak.mR HA.out.cU (Kd.gu HA.out.out) (by decide))).trans HA.out.cU);clear ho hb hg hat q0;have q0:=cO HB2))
   have HF:ah (ak.eC (w2.setCell ⟨g,4,none⟩ (.slice A1 (vs.length+1) c1)) base (fun k=>ok k∨w.heap.size≤k) g gm vm (.slice A1 (vs.length+1) c1) (vs++[.slice none 0 0]) (vs++[.slice none 0 0]) s1 s2 s3 xs n (bV.gl ls i)):=aS (by unfold bV.gl;rw [if_pos HE.out];exact HA.out.snoc HO2.out HG2.out (fun _ hk=>.inl hk));have HC:ah (ak.fD w (w2.setCell ⟨g,4,none⟩ (.slice A1 (vs.length+1) c1)) ok):=aS ((ak.fD.grown HG2.out (fun k hk=>HA.out.out.1 k hk)).trans (ak.fD.set w2 g 4 _ HA.out.okg) (fun _ hk _=>hk))
   go_meet
   case rel=>exact ⟨_,_,HF,HC⟩
  ·
   have he':(i:Int)+1≠(vs.length:Int):=by rw [HL.out];omega
   obtain ⟨he1,he2⟩:=iT he';have HE:=aS he;clear he he'
   go_wp2
   go_meet
   case rel=>exact ⟨_,vs,⟨by unfold bV.gl;rw [if_neg HE.out];exact HA.out.mono (fun _ hk=>.inl hk)⟩,⟨ak.fD.refl _ _⟩⟩
 case rest=>
  clear q0 HA;obtain ⟨vl1,vs1,HA,HC⟩:=hcut
  obtain ⟨l1,hl1⟩:∃ x,x=bV.gl ls i:=⟨_,rfl⟩
  rw [←hl1] at HA HG HR X1
  have hi1:i+1<l1.length:=by
   rw [hl1]
   unfold bV.gl
   by_cases e:i+1=ls.length
   ·
    rw [if_pos e,List.length_append,List.length_singleton];omega
   ·
    rw [if_neg e];have:=HI.out;omega
  have hL1:=HA.out.len;obtain ⟨go,cl1,rfl,_,_,_⟩:=Kd.n_ HA.out.out (by omega);have HI1:ah (i+1<vs1.length):=aS (by rw [hL1];exact hi1);have HM1:ah (vs1.length≤9223372036854775807):=aS (by obtain ⟨_,_,e,_,hm,_⟩:=HA.out.at;exact hm)
  have HAT:ah (∀ W:World,(∀ k,(fun k=>ok k∨w.heap.size≤k) k→k<wc.heap.size→W.heap[k]? = wc.heap[k]?)→∀ j,j<vs1.length→W.cell? ⟨go,j,none⟩=some (vs1.getD j (.slice none 0 0))):=aS (fun W hW j hj=>by
   obtain ⟨A',c',e',_,_,hat⟩:=HA.out.at
   cases e'
   obtain ⟨ad,e2,hx⟩:=hat W hW j hj;cases e2
   rwa [ak.CT] at hx)
  obtain ⟨Ai,ci,ei,hli,hCi⟩:=HA.out.cells i (by have:=HI1.out;omega);obtain ⟨Aj,cj,ej,hlj,hCj⟩:=HA.out.cells (i+1) HI1.out;have hri:=HA.out.rs.rows i (by have:=HI1.out;omega);have hrj:=HA.out.rs.rows (i+1) HI1.out
  obtain ⟨li,hli_⟩:∃ x,x=l1.getD i []:=⟨_,rfl⟩
  obtain ⟨lj,hlj_⟩:∃ x,x=l1.getD (i+1) []:=⟨_,rfl⟩
  have EI:=aS ei;have EJ:=aS ej;rw [←hli_,← hlj_] at X1 HG;rw [←hli_] at EI hri;rw [←hlj_] at EJ hrj;have hrj2:=ak.zJ hrj (Kd.gu hri) EJ.out;rw [EI.out] at hri hrj2;have HRI:=aS hri;have HRJ:=aS hrj2;clear hri hrj hrj2
  have hix0:∀ j:Nat,j<vs1.length→∀ W:World,(Instr.indexAt 59 (.slice (some ⟨go,0,none⟩) vs1.length cl1) (.int .i64 (j:Int))).run Tryz.prog W = .ok (.pointer (some ⟨go,j,none⟩)) W:=fun j hj W=>by
   obtain ⟨i0,hi0,hz⟩:=Option.map_eq_some_iff.1 mV
   simp only [Prod.mk.injEq] at hz
   have h1:=gH 59 64 hu49 hi0 1 hz.2.1 ⟨go,0,none⟩ vs1.length cl1 (j:Int) (by omega) (by omega) W
   rwa [Nat.mul_one,Int.toNat_natCast,ak.CT] at h1
  have hix:=hix0 i (by have:=HI1.out;omega)
  have hiy:∀ W:World,(Instr.indexAt 59 (.slice (some ⟨go,0,none⟩) vs1.length cl1) (.int .i64 ((i:Int)+1))).run Tryz.prog W = .ok (.pointer (some ⟨go,i+1,none⟩)) W:=hix0 (i+1) HI1.out
  have hq0:(i:Int)<(vs1.length:Int):=by have:=HI1.out;omega
  have hq1:(i:Int)+1<(vs1.length:Int):=by have:=HI1.out;omega
  have hq2:(0:Int)≤(i:Int)+1:=by omega
  have HGE1:=aS (Nat.le_trans HGE.out HC.out.size);clear hl1 hi1 hL1 hli hCi hlj hCj ei ej hli_ hlj_ hix0
  go_upto_region 3 with (fail)
  refine di (n:=18) (ds:=[]) (S:=fun w'=>w'.cell? ⟨g,4,none⟩=some (.slice (some ⟨go,0,none⟩) vs1.length cl1)∧w'.cell? ⟨go,i,none⟩=some (.slice Ai li.length ci)∧w'.cell? ⟨go,i+1,none⟩=some (.slice Aj lj.length cj)) (bA 18 0) (by kernel_rfl) rfl rfl ⟨(aC (ar HA.out.cU) 4).trans rfl,(HAT.out _ (fun k _ hk=>(bH (Below.refl _ _)).block k hk) i (by have:=HI1.out;omega)).trans (congrArg some EI.out),(HAT.out _ (fun k _ hk=>(bH (Below.refl _ _)).block k hk) (i+1) HI1.out).trans (congrArg some EJ.out)⟩ (fun hHeld=>?_)
  generalize hw_:World.drew _=wd at hHeld ⊢
  have HAd:ah (ak.eC wd base _ g gm vm _ vs1 vs1 s1 s2 s3 xs n l1):=aS (hw_▸HA.out.below (bH (Below.refl _ _)));have HCd:ah (ak.fD w wd ok):=aS (hw_▸HC.out.step (bH (Below.refl _ _)));have HRId:ah (Kd.R ak.mY 86 wd base _ _ li):=aS (hw_▸Kd.dB HRI.out (bH (Below.refl _ _)));have HRJd:ah (eY (fun x cs=>ak.gZ wd 0 (fun k=>some k≠(Value.slice Ai li.length ci).ownBlock) x cs) 1 wd Aj lj.length lj):=aS (hw_▸eY.gK HRJ.out (bH (Below.refl _ _)) (fun _ _ h=>h.step (fun k _ hk=>(bH (Below.refl _ _)).block k hk)));clear hw_ HA HC HRI HRJ HAT;refine cD (T:=(true,[([],[]),([0],[0]),([1],[1]),([2],[2]),([],[]),([3,4],[3,4]),([5],[5]),([],[]),([7],[7]),([8],[8]),([9],[9]),([],[]),([11],[11]),([10,12],[10,12]),([13],[13]),([6,14],[6,14]),([15],[15]),([],[])])) (B:=[0,1,3,7,0,31,63,0,128,384,896,0,2048,8064,16256,32767,65535,0]) (by kernel_rfl) (by kernel_rfl) (fun HT_ HW_=>?_);refine aZ [(0,24),(1,25),(2,26),(17,41)] ?_
  iterate 4 (refine ck HT_ ?_)
  refine bT (bA 18 131079) (by kernel_rfl) ?_;refine aZ [(3,27)] ?_
  iterate 1 (refine dY HT_ HW_ hHeld ?_)
  refine bT (bA 18 131087) (by kernel_rfl) ?_;refine aZ [(4,28),(5,29)] ?_
  iterate 2 (refine ck HT_ ?_)
  refine bT (bA 18 131135) (by kernel_rfl) ?_;refine aZ [(6,30)] ?_
  iterate 1 (refine dY HT_ HW_ hHeld ?_)
  refine bT (bA 18 131199) (by kernel_rfl) ?_;refine aZ [(7,31),(8,32),(9,33)] ?_
  iterate 3 (refine ck HT_ ?_)
  refine bT (bA 18 132095) (by kernel_rfl) ?_;refine aZ [(10,34)] ?_
  iterate 1 (refine dY HT_ HW_ hHeld ?_)
  refine bT (bA 18 133119) (by kernel_rfl) ?_;refine aZ [(11,35),(12,36),(13,37)] ?_
  iterate 3 (refine ck HT_ ?_)
  refine bT (bA 18 147455) (by kernel_rfl) ?_;refine aZ [(14,38)] ?_
  iterate 1 (refine dY HT_ HW_ hHeld ?_)
  refine bT (bA 18 163839) (by kernel_rfl) ?_;refine dH 15 (N:=some 39) (bA 18 196607) HT_ (fun K hK=>?_);refine Kd.fL ak.mY (w0:=wd) 0 (by rfl) (.tmp 30) (.tmp 38) 64 86 (.pointer none) 8 rfl hu53 qF rfl (by decide) (by decide) (.slice Ai li.length ci) li lj Aj lj.length cj (fun _=>True) (fun k=>some k≠(Value.slice Ai li.length ci).ownBlock) rfl rfl (Kd.aK (Kd.bn HRId.out (Nat.zero_le _)) (fun _ _=>trivial)) HRJd.out (fun _ _ h=>h) (fun _ hk=>⟨trivial,hk⟩) (fun _ _=>trivial) (Below.refl _ _) (Nat.zero_le _) (by have:=HG.out.2;omega) ?_
  intro v39 w3 ho hb hgr hat
  obtain ⟨A9,c9,rfl,_,hC9⟩:=Kd.eZ ho;have hlen:(li++lj).length=li.length+lj.length:=List.length_append
  obtain ⟨mm,hmm⟩:∃ mm,mm=li++lj:=⟨_,rfl⟩
  rw [←hmm] at hC9 ho X1 ⊢;have HMM:ah (mm.length<1099511627776):=aS (by rw [hmm,hlen];exact HG.out.2);have HC9:=aS hC9;have HU:ah (ak.eC w3 base (fun k=>ok k∨w.heap.size≤k) g gm vm (.slice (some ⟨go,0,none⟩) vs1.length cl1) vs1 ((vs1.set i (.slice none 0 0)).set (i+1) (.slice none 0 0)) s1 s2 s3 xs n ((l1.set i []).set (i+1) [])):=aS (HAd.out.Gk i HI1.out (by rw [EI.out];exact hgr));have HC3:ah (ak.fD w w3 ok):=aS (HCd.out.trans (ak.fD.grown (ok:=(fun k=>ok k∨w.heap.size≤k)) hgr (fun k hk=>(HRId.out.1 k hk).1)) (fun k hk hlt=>hk.resolve_right (Nat.not_le_of_lt hlt)))
  have SX:ah (∀ j,j<vs1.length→∀ {u:Value},vs1.getD j (.slice none 0 0)=u→w3.cell? ⟨go,j,none⟩=some u):=aS (fun j hj u hu=>by
   obtain ⟨A',c',e',_,_,hat⟩:=HU.out.at
   cases e'
   obtain ⟨ad,e2,hx⟩:=hat w3 (fun _ _ _=>rfl) j hj;cases e2;rw [ak.CT,hu] at hx
   exact hx)
  clear ho hb hgr hat hlen hmm HAd HCd HRId HRJd hC9;refine hK.out _ _ ⟨(aC HU.out.cU 4).trans rfl,SX.out i (by have:=HI1.out;omega) EI.out,SX.out (i+1) HI1.out EJ.out⟩ (fun hHeld=>?_);clear hK K;refine nm 39 ?_;refine aZ [(16,40)] ?_
  iterate 1 (refine ck HT_ ?_)
  refine bT (bA 18 262143) (by kernel_rfl) ?_;refine fX HT_ ?_;clear HT_ HW_ hHeld;have HW1:=aS hw1;clear SX hw1
  go_wp2
  go_loopg [4,41] mm.length (fun kq v4 v41 wr=>∃ (j:Nat) (p:List (List au)),v41 = .int .i64 (j:Int)∧ah (kq+j=mm.length)∧ah (cw.l1 (mm.drop j) p=some q)∧ah (Kd.R (Kd.slice 34 cm) 32 wr w3.heap.size (fun _=>True) v4 p)∧ah (Below w3.heap.size w3 wr))
  case atStart=>exact ⟨0,[],rfl,⟨Nat.add_zero _⟩,X1,⟨Kd.d6 _ _ _ _ _⟩,⟨Below.refl _ _⟩⟩
  case round=>
   clear X1;obtain ⟨j,p,rfl,hj,HP,HR4,HBr⟩:=hrel
   by_cases hlj:j<mm.length
   ·
    have hj1:(j:Int)<(mm.length:Int):=by omega
    have HK1:ah (gk - 1<gk∧gk - 1+(j+1)=mm.length):=aS (by have:=hj.out;omega);obtain ⟨ad2,gx,e_,hy,hOP⟩:=ak.uP (Kd.cH HC9.out HBr.out) j hlj;subst e_;have ha:=HP.out;rw [ak.nu mm ([],[],[]) j hlj] at ha
    obtain ⟨x,hx_⟩:∃ x,x=mm.getD j ([],[],[]):=⟨_,rfl⟩
    rw [←hx_] at ha hOP
    unfold cw.l1 at ha
    replace ha:=bU ha;obtain ⟨d,y2,ha⟩:=ha
    by_cases hlim:p.length<2199023255552
    case neg=>rw [if_neg hlim] at ha;cases ha
    rw [if_pos hlim] at ha;have Y2:=aS y2;have HP1:=aS ha;have HOP:=aS hOP;have HLM:ah ((p.length+1)*24≤140737488355328):=aS (by omega)
    have hiz:∀ W:World,(Instr.indexAt 64 (.slice (some ad2) mm.length c9) (.int .i64 (j:Int))).run Tryz.prog W = .ok (.pointer (some (ad2.add j))) W:=by
     obtain ⟨i0,hi0,hz⟩:=Option.map_eq_some_iff.1 qF
     simp only [Prod.mk.injEq] at hz
     intro W
     have h1:=gH 64 86 hu53 hi0 1 hz.2.1 ad2 mm.length c9 (j:Int) (by omega) (by omega) W
     rwa [Nat.mul_one,Int.toNat_natCast] at h1
    have hwj:wrap64 ((j:Int)+1)=(j:Int)+1:=by rw [←cC,IntKind.wrap_i64];have:=HMM.out;omega
    clear y2 ha HP hOP hlim hx_
    go_wp2_with (first | (go_at_call 53;(with_reducible refine (oF.calls gx 0 x.1 x.2.1 x.2.2 d _ HOP.out Y2.out).mono ?_);rintro e_ w5 ⟨v5,rfl,ho,hb⟩;obtain ⟨A5,c5,rfl⟩:=Kd.bp ho;have HD5:=aS (Kd.bn (Kd.cK ho (Kd.cP HR4.out)) HBr.out.size);have HR5:=aS (Kd.dB HR4.out hb);have HB1:=aS (aE HBr.out hb);clear ho hb HR4 HBr) | (at_builtin;refine Kd.gJ (Kd.slice 34 cm) (w0:=w3) w3.heap.size rfl _ _ 73 32 _ _ rfl hu61 qj rfl (by decide) (by decide) u4 p d [.slice A5 d.length c5] (fun _=>True) (fun k=>True∧some k≠u4.ownBlock) rfl rfl (Kd.uY HD5.out) (fun _ hk=>hk) (fun _ _=>trivial) HR5.out HB1.out HB1.out.size HLM.out ?_;intro v8 w6 ho hb hg hat;have HR2:=aS ho;have HB2:=aS hb;clear ho hb hg hat HR5 HB1 HD5))
    go_roundg (gk - 1)
    case measure=>exact HK1.out.1
    case rel=>exact ⟨j+1,_,by rw [hwj];rfl,⟨HK1.out.2⟩,HP1,HR2,HB2⟩
   ·
    have hge:¬ ((j:Int)<(mm.length:Int)):=by omega
    have ha:=HP.out;rw [List.drop_eq_nil_of_le (show mm.length≤j by omega)] at ha
    unfold cw.l1 at ha
    have e1:=(Option.some.inj ha).symm;subst e1;obtain ⟨Aq,cq,rfl,hcq,hCq⟩:=Kd.eZ HR4.out;have HLQ:=aS hcq;have HCQ:=aS hCq;have HU5:=aS (HU.out.below HBr.out);have HC5:=aS (HC3.out.step HBr.out);clear ha HP hcq hCq HR4 HU HC3 hj;have hw1:=HW1.out
    go_upto_region 8 with (fail)
    refine di (n:=19) (ds:=[16,18]) (S:=fun w'=>w'.cell? ⟨g,4,none⟩=some (.slice (some ⟨go,0,none⟩) vs1.length cl1)) (bA 19 0) (by kernel_rfl) rfl rfl ((aC (ar HU5.out.cU) 4).trans rfl) (fun hHeld=>?_)
    generalize hw_:World.drew _=wd at hHeld ⊢
    have HUd:ah (ak.eC wd base _ g gm vm _ vs1 _ s1 s2 s3 xs n _):=aS (hw_▸HU5.out.below (bH (Below.refl _ _)));have HCd:ah (ak.fD w wd ok):=aS (hw_▸HC5.out.step (bH (Below.refl _ _)));have HCQd:ah (Kd.C (Kd.slice 34 cm) wd Aq q.length q):=aS (hw_▸Kd.ot HCQ.out);clear hw_ HU5 HC5 HCQ;refine cD (T:=(true,[([],[]),([0],[0]),([1],[1]),([2],[2]),([],[]),([],[]),([5],[5]),([6],[6]),([7],[7]),([],[]),([9],[9]),([],[]),([],[]),([12],[12]),([11,13,13],[11,13]),([3,4,0,1,2,3,4,8,13,14],[3,4]),([15,14,0,1,2,3,4,8,13,14],[15]),([8,10,0,1,2,3,4,5,6,7,8,9,10,11,12,13,14,15,16],[8,10]),([17,14,16,0,1,2,3,4,5,6,7,8,9,10,11,12,13,14,15,16],[14,17])])) (B:=[0,1,3,7,0,0,32,96,224,0,512,0,0,4096,14336,31231,63999,131071,262143]) (by kernel_rfl) (by kernel_rfl) (fun HT_ HW_=>?_);refine aZ [(0,51),(1,52),(2,53)] ?_
    iterate 3 (refine ck HT_ ?_)
    refine bT (bA 19 7) (by kernel_rfl) ?_;refine aZ [(3,54)] ?_
    iterate 1 (refine dY HT_ HW_ hHeld ?_)
    refine bT (bA 19 15) (by kernel_rfl) ?_;refine aZ [(4,55),(5,56),(6,57),(7,58)] ?_
    iterate 4 (refine ck HT_ ?_)
    refine bT (bA 19 255) (by kernel_rfl) ?_;refine aZ [(8,59)] ?_
    iterate 1 (refine dY HT_ HW_ hHeld ?_)
    refine bT (bA 19 511) (by kernel_rfl) ?_;refine aZ [(9,60),(10,61),(11,62),(12,63)] ?_
    iterate 4 (refine ck HT_ ?_)
    refine bT (bA 19 8191) (by kernel_rfl) ?_;clear hw1;refine dH 13 (N:=some 64) (bA 19 16383) HT_ (fun K hK=>?_);refine gb Tryz.func40 #[.slice Aq q.length cq] ?_
    with_reducible refine (fN.calls k Aq cq q c _ HCQd.out HLQ.out X2.out).mono ?_
    rintro e_ w6 ⟨v6,rfl,ho,hb⟩
    refine ⟨_,rfl,?_⟩;obtain ⟨Ac,cc,rfl,hcc,hCc⟩:=Kd.eZ ho;have HLC:=aS hcc;have HCC:=aS hCc;have HS6:ah (w.heap.size≤w6.heap.size):=aS (HCd.out.step hb).size;have HS6w:=aS HS6.out;have HU6:=aS (HUd.out.below hb);have HC6:=aS (HCd.out.step hb);clear ho hb hcc hCc HUd HCd HCQd HLQ;refine hK.out _ _ ((aC HU6.out.cU 4).trans rfl) (fun hHeld=>?_);clear hK K;refine nm 64 ?_;refine dH 14 (N:=some 65) (bA 19 32767) HT_ (fun K hK=>?_);refine gb Tryz.func32 #[.pointer (some ⟨g,0,none⟩),.slice Ac c.length cc] ?_
    with_reducible refine (eD.calls k g s1 s2 s3 _ _ Ac cc c t _ HU6.out.cU HCC.out HLC.out X3.out).mono ?_
    rintro e_ w7 ⟨v7,rfl,ho,hb⟩
    refine ⟨_,rfl,?_⟩;obtain ⟨At,ct,rfl⟩:=Kd.bp ho
    have HU7:ah (ak.eC w7 base (fun k=>ok k∨w.heap.size≤k) g gm vm (.slice (some ⟨go,0,none⟩) vs1.length cl1) vs1 (((vs1.set i (.slice none 0 0)).set (i+1) (.slice none 0 0)).set (i+1) (.slice At [t].length ct)) s1 s2 s3 xs n (((l1.set i []).set (i+1) []).set (i+1) [t])):=aS ((HU6.out.below hb).tell (i+1) (by rw [List.length_set,List.length_set];exact HI1.out)
     (Kd.aK (Kd.bn (Kd.eu ho) (Nat.le_trans HGE.out HS6.out)) (fun k hk=>⟨.inr (Nat.le_trans HS6w.out hk.2.1),fun e=>by have:=Kd.cP HU6.out.row k e.symm;have:=hk.2.1;omega⟩))
     (fun j hj k hk hk'=>by have:=Kd.cP (HU6.out.rs.rows j hj) k hk;have:=Kd.gi ho k hk';omega))
    have HC7:=aS (HC6.out.step hb);clear ho hb HU6 HC6 HCC HLC HS6 HS6w;refine hK.out _ _ ((aC HU7.out.cU 4).trans rfl) (fun hHeld=>?_);clear hK K;refine nm 65 ?_;refine aZ [(15,66)] ?_
    iterate 1 (refine ck HT_ ?_)
    refine bT (bA 19 65535) (by kernel_rfl) ?_;refine jP (i:=16) (N:=none) (bA 19 131071) rfl rfl (jW HT_.out (by kernel_rfl)) (by decide) (fun K hK=>?_);obtain ⟨hu8,hg8⟩:=HU7.out.put i (by have:=HI1.out;omega) (.slice none 0 0) rfl;obtain ⟨cho,hho⟩:=Kd.gu HU7.out.out go rfl;have hszo:=uN HU7.out.out hho;refine oH (by rfl) 64 _ _ rfl rfl (by rfl) (.slice none 0 0) (by rfl) [.slice none 0 0] rfl hsz53 hho (by have h5:vs1.length*1≤cho.size:=hszo;have:=HI1.out;show i+1≤cho.size;omega) (by intro q_ hq_;rw [List.mem_singleton.1 hq_];rfl) ?_;have HU8:=aS hu8;have HC8:ah (ak.fD w (w7.setCells go i [.slice none 0 0]) ok):=aS (HC7.out.trans (ak.fD.grown (ok:=(fun k=>ok k∨w.heap.size≤k)) hg8 (fun k hk=>HU7.out.out.1 k hk)) (fun k hk hlt=>hk.resolve_right (Nat.not_le_of_lt hlt)));clear hu8 hg8 hho hszo HU7 HC7
    generalize w7.setCells go i [.slice none 0 0]=w8 at HU8 HC8 ⊢
    refine hK.out _ _ ?_;clear hK K;refine kZ (a':=?_) ?_ ?_
    rotate_left
    ·
     show Act.put _ none _=_
     simp only [Act.put,eI,eG,lss,cC,dw]
     rfl
    have hw1:=HW1.out;refine aZ [(17,67)] ?_
    iterate 1 (refine ck HT_ ?_)
    refine bT (bA 19 262143) (by kernel_rfl) ?_;clear hw1;refine jP (i:=18) (N:=none) (bA 19 524287) rfl rfl (jW HT_.out (by kernel_rfl)) (by decide) (fun K hK=>?_);rw [show vs1.length=(vs1.set i (.slice none 0 0)).length from (List.length_set ..).symm] at HU8;obtain ⟨hu8,hg8⟩:=HU8.out.put (i+1) (by rw [List.length_set];exact HI1.out) (.slice At [t].length ct) rfl;obtain ⟨cho,hho⟩:=Kd.gu HU8.out.out go rfl;have hszo:=uN HU8.out.out hho;refine oH (by rfl) 64 _ _ rfl rfl (by rfl) (.slice At [t].length ct) (by rfl) [.slice At [t].length ct] rfl hsz53 hho (by have h5:(vs1.set i (.slice none 0 0)).length*1≤cho.size:=hszo;have:=HI1.out;show i+1+1≤cho.size;rw [List.length_set] at h5;omega) (by intro q_ hq_;rw [List.mem_singleton.1 hq_];rfl) ?_;have HU9:ah (ak.eC (w8.setCells go (i+1) [.slice At [t].length ct]) base (fun k=>ok k∨w.heap.size≤k) g gm vm _ _ _ s1 s2 s3 xs n _):=aS (by rw [List.set_set,List.set_set] at hu8;exact hu8);have HC9_:ah (ak.fD w (w8.setCells go (i+1) [.slice At [t].length ct]) ok):=aS (HC8.out.trans (ak.fD.grown (ok:=(fun k=>ok k∨w.heap.size≤k)) hg8 (fun k hk=>HU8.out.out.1 k hk)) (fun k hk hlt=>hk.resolve_right (Nat.not_le_of_lt hlt)));clear hu8 hg8 hho hszo HU8 HC8
    generalize w8.setCells go (i+1) [.slice At [t].length ct]=w9 at HU9 HC9_ ⊢
    refine hK.out _ _ ?_;clear hK K;refine fX HT_ ?_;clear HT_ HW_
    go_end0
    exact ⟨rfl,by rw [←HR.out];exact HU9.out.up,HC9_.out⟩
def bh.lp (k:Nat) (s2 s3:Int):Nat→Nat→List (List (List au × List (List au) × List Int))→Option (List (List (List au × List (List au) × List Int)))
 | 0,_,_=>none
 | m+1,i,ls=>if i<ls.length then (if s3<((ls.getD i []).length:Int) then (bV.f k s2 ls i).bind fun r=>bh.lp k s2 s3 m (i+1) r else bh.lp k s2 s3 m (i+1) ls) else some ls
def bh.gl (ls:List (List (List au × List (List au) × List Int))):List (List (List au × List (List au) × List Int)):=if ls.length=0 then ls++[[]] else ls
def bh.f (k:Nat) (s2 s3:Int) (xs:List au) (n:Int) (ls:List (List (List au × List (List au) × List Int))):Option (List au × Int × List (List (List au × List (List au) × List Int))):=
 if xs.length=0 then some (xs,n,ls) else if ls.length<1099511627776∧((bh.gl ls).getD 0 []).length<1099511627776 then (eN.f xs).bind fun c=>(eD.f k c s2).bind fun t=>(bh.lp k s2 s3 k 0 ((bh.gl ls).set 0 (t :: (bh.gl ls).getD 0 []))).bind fun r=>some ([],0,r) else none
theorem bh.lO (k:Nat) (s2 s3:Int):∀ m i ls,aH (bh.lp k s2 s3 m i ls) (bh.lp (k+1) s2 s3 (m+1) i ls)
 | 0,_,_=>aH.none _
 | m+1,i,ls=>aH.ite (aH.ite (aH.bind (bV.mono _ _ _ _) fun _=>bh.lO k s2 s3 m _ _) (bh.lO k s2 s3 m _ _)) (aH.refl _)
theorem bh.mono:∀ a0 a1 a2 a3 a4 k,aH (bh.f k a0 a1 a2 a3 a4) (bh.f (k+1) a0 a1 a2 a3 a4):=fun _ _ _ _ _ k=>aH.ite (aH.refl _) (aH.ite (aH.bind (aH.refl _) fun _=>aH.bind (eD.mono _ _ _) fun _=>aH.bind (bh.lO k _ _ _ _ _) fun _=>aH.refl _) (aH.refl _))
theorem bh.calls (k g base:Nat) (ok:Nat→Prop) (s1 s2 s3:Int) (xs xs':List au) (n n':Int) (ls r:List (List (List au × List (List au) × List Int))) (w:World) (hA:ak.At w base ok g s1 s2 s3 xs n ls) (h:bh.f k s2 s3 xs n ls=some (xs',n',r)) :
  Calls Tryz.prog 13 #[.pointer (some ⟨g,0,none⟩)] w fun e w'=>e = .returned (.tuple #[])∧ak.At w' base (fun k=>ok k∨w.heap.size≤k) g s1 s2 s3 xs' n' r∧ak.fD w w' ok:=by
 have hu30:=Tryz.underlying27;have hu51:=Tryz.underlying61;have hu23:=Tryz.underlying23;have hu49:=Tryz.underlying59;have hu53:=Tryz.underlying64;have hu24:=Tryz.underlying32;have hu61:=Tryz.underlying73;have hu75:=Tryz.underlying86;have hu47:=Tryz.underlying57
 have hsz53:(Tryz.prog.info? 64).map (·.size)=some 1:=by
  obtain ⟨i0,hi0,hz⟩:=Option.map_eq_some_iff.1 mV
  simp only [Prod.mk.injEq] at hz
  rw [hi0];simp [hz.2.1]
 obtain ⟨gm,vm,vl,vs,hA⟩:=hA;have HA:=aS hA;clear hA
 unfold bh.f at h
 obtain ⟨A,cl,rfl,hcl,hmx,hat⟩:=HA.out.at;have HL:=aS HA.out.len;clear hat hmx;have HGE:ah (base≤w.heap.size):=aS (Nat.le_trans HA.out.ge (Nat.le_of_lt (cR HA.out.cU)));have q0:=cO (aS HA.out.cU)
 by_cases hz:xs.length=0
 ·
  rw [if_pos hz] at h
  obtain h:=Option.some.inj h
  simp only [Prod.mk.injEq] at h
  obtain ⟨rfl,rfl,rfl⟩:=h;obtain ⟨hz1,hz2⟩:=jh (show (xs.length:Int)=0 by omega);clear hz
  go_enter Tryz.func13,Tryz.ntmps13
  go_wp2_with (first | (go_at_call 31;(with_reducible refine (tu.calls gm base xs n vm _ HA.out.mem).mono ?_);rintro e_ w2 ⟨rfl,hb⟩;have HA1:=aS (HA.out.below hb);have HB1:=aS hb;clear hb q0;have q0:=cO (aS HA1.out.cU)))
  refine bodyPost_ret (results_none rfl _ _ _) rfl ?_;exact ⟨rfl,⟨gm,vm,_,vs,HA1.out.mono (fun _ hk=>.inl hk)⟩,ak.fD.j5 HB1.out _⟩
 rw [if_neg hz] at h
 by_cases hg:ls.length<1099511627776∧((bh.gl ls).getD 0 []).length<1099511627776
 case neg=>rw [if_neg hg] at h;cases h
 rw [if_pos hg] at h;replace h:=bU h;obtain ⟨c,x1,h⟩:=h;replace h:=bU h;obtain ⟨t,x2,h⟩:=h;replace h:=bU h;obtain ⟨r',x3,h⟩:=h
 obtain h:=Option.some.inj h
 simp only [Prod.mk.injEq] at h
 obtain ⟨rfl,rfl,rfl⟩:=h;have X1:=aS x1;have X2:=aS x2;have X3:=aS x3;have HG:=aS hg;have HZ:=aS hz;have HLV:ah ((vs.length+1)*24≤140737488355328):=aS (by rw [HL.out];have:=hg.1;omega);clear x1 x2 x3 hg hz
 go_enter Tryz.func13,Tryz.ntmps13
 refine wp_seq_k (fun K_ hK_=>?_)
 go_cut [] (fun wc=>ah (ak.eC wc base ok g gm vm (.slice A vs.length cl) vs vs s1 s2 s3 xs n ls)∧ah (ak.fD w wc ok))
 case first=>
  obtain ⟨hz1,hz2⟩:=iT (show ¬ (xs.length:Int)=0 by have:=HZ.out;omega)
  go_wp2_with (first | (go_at_call 31;(with_reducible refine (tu.calls gm base xs n vm _ HA.out.mem).mono ?_);rintro e_ w2 ⟨rfl,hb⟩;have HA1:=aS (HA.out.below hb);have HB1:=aS hb;clear hb q0;have q0:=cO (aS HA1.out.cU)))
  go_meet
  case rel=>exact ⟨HA1,⟨ak.fD.j5 HB1.out _⟩⟩
 clear q0 HA;obtain ⟨HA,HC0⟩:=hcut
 rename World=>w1
 have q0:=cO (aS HA.out.cU);refine hK_ _ _ ?_;refine wp_seq_k (fun K2_ hK2_=>?_)
 go_cut [] (fun wc=>∃ (vl1:Value) (vs1:List Value),ah (ak.eC wc base (fun k=>ok k∨w.heap.size≤k) g gm vm vl1 vs1 vs1 s1 s2 s3 xs n (bh.gl ls))∧ah (ak.fD w wc ok))
 case first=>
  by_cases he:ls.length=0
  ·
   obtain ⟨he1,he2⟩:=jh (show (vs.length:Int)=0 by rw [HL.out,he];rfl);have HE:=aS he;clear he
   go_wp2_with (first | (at_builtin;refine Kd.gJ ak.vX (w0:=w1) base rfl _ _ 59 64 _ _ rfl hu49 mV rfl (by decide) (by decide) (.slice A vs.length cl) vs (.slice none 0 0) [.slice none 0 0] (fun k=>ok k∨w.heap.size≤k) (fun _=>False) rfl rfl ⟨rfl,rfl⟩ (fun _ hk=>hk.elim) (fun k hk=>.inr (Nat.le_trans HC0.out.size hk)) (Kd.aK HA.out.out (fun _ hk=>.inl hk)) (Below.refl _ _) (Nat.le_trans HGE.out HC0.out.size) HLV.out ?_;intro v21 w2 ho hb hg hat;obtain ⟨A1,c1,e1_⟩:=Kd.bp ho;rw [show (vs++[(.slice none 0 0:Value)]).length=vs.length+1 from by simp] at e1_;subst e1_;have HO2:=aS ho;have HG2:=aS hg;have HB2:ah (w2.heap[g]? = some (.cells #[.int .i64 s1,.int .i64 s2,.int .i64 s3,.pointer (some ⟨gm,0,none⟩),.slice A vs.length cl] 61 (0,0))):=aS ((hg.block g (cR HA.out.cU) (ak.mR HA.out.cU (Kd.gu HA.out.out) (by decide))).trans HA.out.cU);clear ho hb hg hat q0;have q0:=cO HB2))
   have HF:ah (ak.eC (w2.setCell ⟨g,4,none⟩ (.slice A1 (vs.length+1) c1)) base (fun k=>ok k∨w.heap.size≤k) g gm vm (.slice A1 (vs.length+1) c1) (vs++[.slice none 0 0]) (vs++[.slice none 0 0]) s1 s2 s3 xs n (bh.gl ls)):=aS (by unfold bh.gl;rw [if_pos HE.out];exact HA.out.snoc HO2.out HG2.out (fun _ hk=>.inl hk));have HC:ah (ak.fD w (w2.setCell ⟨g,4,none⟩ (.slice A1 (vs.length+1) c1)) ok):=aS (HC0.out.trans ((ak.fD.grown HG2.out (fun k hk=>HA.out.out.1 k hk)).trans (ak.fD.set w2 g 4 _ HA.out.okg) (fun _ hk _=>hk)) (fun _ hk _=>hk))
   go_meet
   case rel=>exact ⟨_,_,HF,HC⟩
  ·
   obtain ⟨he1,he2⟩:=iT (show ¬ (vs.length:Int)=0 by rw [HL.out];omega);have HE:=aS he;clear he
   go_wp2
   go_meet
   case rel=>exact ⟨_,vs,⟨by unfold bh.gl;rw [if_neg HE.out];exact HA.out.mono (fun _ hk=>.inl hk)⟩,HC0⟩
 clear q0 HA HC0;obtain ⟨vl1,vs1,HA,HC⟩:=hcut
 rename World=>w4
 obtain ⟨l1,hl1⟩:∃ x,x=bh.gl ls:=⟨_,rfl⟩
 rw [←hl1] at HA HG X3
 have hi1:0<l1.length:=by
  rw [hl1]
  unfold bh.gl
  by_cases e:ls.length=0
  ·
   rw [if_pos e,List.length_append,List.length_singleton];omega
  ·
   rw [if_neg e];omega
 have hL1:=HA.out.len;obtain ⟨go,cl1,rfl,_,_,_⟩:=Kd.n_ HA.out.out (by omega);have HI1:ah (0<vs1.length):=aS (by rw [hL1];exact hi1);have HSZ:ah (w.heap.size≤w4.heap.size):=aS HC.out.size;obtain ⟨Ai,ci,ei,hli,hCi⟩:=HA.out.cells 0 HI1.out;have hri:=HA.out.rs.rows 0 HI1.out
 have HX0:ah (w4.cell? ⟨go,0,none⟩=some (vs1.getD 0 (.slice none 0 0))):=aS (by
  obtain ⟨A',c',e',_,_,hat⟩:=HA.out.at
  cases e'
  obtain ⟨ad,e2,hx⟩:=hat w4 (fun _ _ _=>rfl) 0 HI1.out;cases e2
  rwa [ak.CT] at hx)
 obtain ⟨li,hli_⟩:∃ x,x=l1.getD 0 []:=⟨_,rfl⟩
 have EI:=aS ei;rw [←hli_] at HG hri EI X3;have HRI:=aS hri;have hx0:=HX0.out;rw [EI.out] at hx0;have HX:=aS hx0;have hq1:0<vs1.length:=HI1.out;clear hl1 hi1 hL1 hli hCi ei hli_ hri hx0 HX0
 go_upto_region 3 with (fail)
 refine di (n:=20) (ds:=[19]) (S:=fun w'=>w'.cell? ⟨g,4,none⟩=some (.slice (some ⟨go,0,none⟩) vs1.length cl1)∧w'.cell? ⟨g,3,none⟩=some (.pointer (some ⟨gm,0,none⟩))∧w'.cell? ⟨go,0,none⟩=some (.slice Ai li.length ci)) (bA 20 0) (by kernel_rfl) rfl rfl ⟨(aC (ar HA.out.cU) 4).trans rfl,(aC (ar HA.out.cU) 3).trans rfl,HX.out⟩ (fun hHeld=>?_)
 generalize hw_:World.drew _=wd at hHeld ⊢
 have HAd:ah (ak.eC wd base _ g gm vm _ vs1 vs1 s1 s2 s3 xs n l1):=aS (hw_▸HA.out.below (bH (Below.refl _ _)));have HCd:ah (ak.fD w wd ok):=aS (hw_▸HC.out.step (bH (Below.refl _ _)));have HRId:ah (Kd.R ak.mY 86 wd base _ _ li):=aS (hw_▸Kd.dB HRI.out (bH (Below.refl _ _)));have HSd:ah (w4.heap.size≤wd.heap.size):=aS (hw_▸(bH (Below.refl 0 _)).size);have HXd:ah (wd.cell? ⟨go,0,none⟩=some (.slice Ai li.length ci)):=aS (hw_▸HX.out);clear hw_ HA HC HRI HX;refine cD (T:=(true,[([],[]),([0],[0]),([1],[1]),([2],[2]),([],[]),([],[]),([5],[5]),([6],[6]),([7],[7]),([8],[8]),([4,9,9],[4,9]),([],[]),([11],[11]),([12],[12]),([13],[13]),([14],[14]),([15],[15]),([10,16,10],[10,16]),([3,0,1,2,3,4,5,6,7,8,9,10,11,12,13,14,15,16,17],[3]),([18,17,17,0,1,2,3,4,5,6,7,8,9,10,11,12,13,14,15,16,17],[17,18])])) (B:=[0,1,3,7,0,0,32,96,224,480,1008,0,2048,6144,14336,30720,63488,131056,262143,524287]) (by kernel_rfl) (by kernel_rfl) (fun HT_ HW_=>?_);refine aZ [(0,24),(1,25),(2,26)] ?_
 iterate 3 (refine ck HT_ ?_)
 refine bT (bA 20 7) (by kernel_rfl) ?_;refine aZ [(3,27)] ?_
 iterate 1 (refine dY HT_ HW_ hHeld ?_)
 refine bT (bA 20 15) (by kernel_rfl) ?_;refine aZ [(4,28),(5,29),(6,30),(7,31)] ?_
 iterate 4 (refine ck HT_ ?_)
 refine bT (bA 20 255) (by kernel_rfl) ?_;refine aZ [(8,32)] ?_
 iterate 1 (refine dY HT_ HW_ hHeld ?_)
 refine bT (bA 20 511) (by kernel_rfl) ?_;refine aZ [(11,35),(12,36),(13,37)] ?_
 iterate 3 (refine ck HT_ ?_)
 refine bT (bA 20 14847) (by kernel_rfl) ?_;refine aZ [(14,38)] ?_
 iterate 1 (refine dY HT_ HW_ hHeld ?_)
 refine bT (bA 20 31231) (by kernel_rfl) ?_;refine aZ [(15,39)] ?_
 iterate 1 (refine ck HT_ ?_)
 refine bT (bA 20 63999) (by kernel_rfl) ?_;refine aZ [(16,40)] ?_
 iterate 1 (refine dY HT_ HW_ hHeld ?_)
 refine bT (bA 20 129535) (by kernel_rfl) ?_;refine dH 9 (N:=some 33) (bA 20 130047) HT_ (fun K hK=>?_);refine gb Tryz.func33 #[.pointer (some ⟨gm,0,none⟩)] ?_
 with_reducible refine (rQ.calls gm base xs c n vm _ HAd.out.mem X1.out).mono ?_
 rintro e_ w6 ⟨v6,rfl,ho,hb⟩
 refine ⟨_,rfl,?_⟩;obtain ⟨Ac,cc,rfl,hcc,hCc⟩:=Kd.eZ ho;have HLC:=aS hcc;have HCC:=aS hCc;have HB6:=aS hb;have HX6:ah (w6.cell? ⟨go,0,none⟩=some (.slice Ai li.length ci)):=aS ((hb.cell (nk wd _ HXd.out)).trans HXd.out);clear ho hb hcc hCc HXd;refine hK.out _ _ ⟨(aC (HAd.out.below HB6.out).cU 4).trans rfl,(aC (HAd.out.below HB6.out).cU 3).trans rfl,HX6.out⟩ (fun hHeld=>?_);clear hK K;refine nm 33 ?_;refine dH 10 (N:=some 34) (bA 20 131071) HT_ (fun K hK=>?_);refine gb Tryz.func32 #[.pointer (some ⟨g,0,none⟩),.slice Ac c.length cc] ?_
 with_reducible refine (eD.calls k g s1 s2 s3 _ _ Ac cc c t _ (HAd.out.below HB6.out).cU HCC.out HLC.out X2.out).mono ?_
 rintro e_ w7 ⟨v7,rfl,ho,hb⟩
 refine ⟨_,rfl,?_⟩;obtain ⟨At,ct,rfl⟩:=Kd.bp ho;have HO7:=aS ho;have HB67:=aS hb;have HB7:=aS (aE HB6.out hb);have HX7:ah (w7.cell? ⟨go,0,none⟩=some (.slice Ai li.length ci)):=aS ((hb.cell (nk w6 _ HX6.out)).trans HX6.out);clear ho hb HX6 HCC HLC;refine hK.out _ _ ⟨(aC (HAd.out.below HB7.out).cU 4).trans rfl,(aC (HAd.out.below HB7.out).cU 3).trans rfl,HX7.out⟩ (fun hHeld=>?_);clear hK K;refine nm 34 ?_;refine dH 17 (N:=some 41) (bA 20 262143) HT_ (fun K hK=>?_);have HWS:ah (w.heap.size≤w6.heap.size):=aS (Nat.le_trans HSZ.out (Nat.le_trans HSd.out HB6.out.size));have HD6:=aS HB6.out.size;have HVM:ah (∀ k,wd.heap.size≤k→some k≠vm.ownBlock):=aS (fun k hk e=>absurd (Kd.cP HAd.out.row k e.symm) (Nat.not_lt_of_le hk))
 have HO7':ah (Kd.R ak.mY 86 w7 base (fun k=>(fun k=>ok k∨w.heap.size≤k) k∧some k≠vm.ownBlock) (.slice At [t].length ct) [t]):=aS (Kd.aK (Kd.bn (Kd.eu HO7.out) (Nat.le_trans HGE.out HWS.out)) (fun k hk=>⟨.inr (Nat.le_trans HWS.out hk.2.1),HVM.out k (Nat.le_trans HD6.out hk.2.1)⟩))
 refine Kd.fL ak.mY (w0:=w7) base (by rfl) (.tmp 34) (.tmp 40) 64 86 (.pointer none) 8 rfl hu53 qF rfl (by decide) (by decide) (.slice At [t].length ct) [t] li Ai li.length ci (fun k=>(fun k=>ok k∨w.heap.size≤k) k∧some k≠vm.ownBlock) (fun k=>(fun k=>(fun k=>ok k∨w.heap.size≤k) k∧some k≠vm.ownBlock) k∧k<wd.heap.size) rfl rfl HO7'.out (ak.BQ HRId.out HB7.out EI.out) (fun _ _ h=>h) (fun k hk=>⟨hk.1,fun e=>absurd (Nat.le_trans HD6.out (Kd.gi HO7.out k e.symm)) (Nat.not_le_of_lt hk.2)⟩) (fun k hk=>⟨.inr (Nat.le_trans HWS.out (Nat.le_trans HB67.out.size hk)),HVM.out k (Nat.le_trans HB7.out.size hk)⟩) (Below.refl _ _) (Nat.le_trans HGE.out (Nat.le_trans HWS.out HB67.out.size)) (by have:=HG.out.2;show (1+li.length)*8≤140737488355328;omega) ?_
 intro v41 w8 ho hb hgr hat
 obtain ⟨A9,c9,rfl⟩:=Kd.bp ho;have HB8:ah (Below wd.heap.size wd w8):=aS (HB7.out.grown hgr HB7.out.size (fun k hk=>Nat.le_trans HD6.out (Kd.gi HO7.out k hk)))
 have HU8:ah (ak.eC w8 base (fun k=>ok k∨w.heap.size≤k) g gm vm (.slice (some ⟨go,0,none⟩) vs1.length cl1) vs1 (vs1.set 0 (.slice A9 ([t]++li).length c9)) s1 s2 s3 xs n (l1.set 0 (t :: li))):=aS ((HAd.out.below HB8.out).tell 0 HI1.out ho (fun j hj k hk hk'=>by
  have h1:=Kd.cP (HAd.out.rs.rows j hj) k hk
  rcases hat with e | ⟨b,e,hle⟩
  ·
   rw [e] at hk';exact absurd (Nat.le_trans HD6.out (Kd.gi HO7.out k hk')) (Nat.not_le_of_lt h1)
  ·
   rw [e] at hk'
   injection hk' with hk'
   exact absurd (Nat.le_trans HB7.out.size (hk'▸hle)) (Nat.not_le_of_lt h1)))
 have HC8:=aS (HCd.out.step HB8.out)
 have HX8:ah (w8.cell? ⟨go,0,none⟩=some (.slice Ai li.length ci)):=aS (by
  obtain ⟨A',c',e',_,_,hat8⟩:=HU8.out.at
  cases e'
  obtain ⟨ad,e2,hx⟩:=hat8 w8 (fun _ _ _=>rfl) 0 HI1.out;cases e2;rw [ak.CT,EI.out] at hx
  exact hx)
 clear ho hb hgr hat HO7 HO7' HB6 HB7 HB67 HB8 HRId HAd HCd HX7 HVM HWS HD6 HSd;refine hK.out _ _ ⟨(aC HU8.out.cU 4).trans rfl,(aC HU8.out.cU 3).trans rfl,HX8.out⟩ (fun hHeld=>?_);clear hK K;refine nm 41 ?_;refine aZ [(18,42)] ?_
 iterate 1 (refine ck HT_ ?_)
 refine bT (bA 20 524287) (by kernel_rfl) ?_;refine jP (i:=19) (N:=none) (bA 20 1048575) rfl rfl (jW HT_.out (by kernel_rfl)) (by decide) (fun K hK=>?_);obtain ⟨hu9,hg9⟩:=HU8.out.put 0 HI1.out (.slice A9 ([t]++li).length c9) rfl;obtain ⟨cho,hho⟩:=Kd.gu HU8.out.out go rfl;have hszo:=uN HU8.out.out hho;refine oH (by rfl) 64 _ _ rfl rfl (by rfl) (.slice A9 ([t]++li).length c9) (by rfl) [.slice A9 ([t]++li).length c9] rfl hsz53 hho (by have h5:vs1.length*1≤cho.size:=hszo;have:=HI1.out;show 0+1≤cho.size;omega) (by intro q_ hq_;rw [List.mem_singleton.1 hq_];rfl) ?_;have HU9:ah (ak.eC (w8.setCells go 0 [.slice A9 ([t]++li).length c9]) base (fun k=>ok k∨w.heap.size≤k) g gm vm _ _ _ s1 s2 s3 xs n _):=aS hu9;have HC9_:ah (ak.fD w (w8.setCells go 0 [.slice A9 ([t]++li).length c9]) ok):=aS (HC8.out.trans (ak.fD.grown (ok:=(fun k=>ok k∨w.heap.size≤k)) hg9 (fun k hk=>HU8.out.out.1 k hk)) (fun k hk hlt=>hk.resolve_right (Nat.not_le_of_lt hlt)));clear hu9 hg9 hho hszo HU8 HC8 HX8
 generalize w8.setCells go 0 [.slice A9 ([t]++li).length c9]=w9 at HU9 HC9_ ⊢
 refine hK.out _ _ ?_;clear hK K;refine fX HT_ ?_;clear HT_ HW_;have q0:=cO (aS HU9.out.cU)
 go_upto_region 5 with (first | (go_at_call 25;(with_reducible refine (cg.calls _).mono ?_);rintro e_ w10 ⟨gm2,rfl,hm,hb⟩;have HM2:ah (w10.heap[gm2]? = some (.cells #[.slice none 0 0,.int .i64 0] 78 (0,0))∧w.heap.size≤gm2):=aS ⟨hm.2.1,Nat.le_trans HC9_.out.size hm.1⟩;have HU10:=aS (HU9.out.below hb);have HC10:=aS (HC9_.out.step hb);clear hm hb q0 HU9 HC9_;have q0:=cO (aS HU10.out.cU)))
 have HT:ah (ak.At (w10.setCell ⟨g,3,none⟩ (.pointer (some ⟨gm2,0,none⟩))) base (fun k=>ok k∨w.heap.size≤k) g s1 s2 s3 [] 0 (l1.set 0 (t :: li))):=aS (HU10.out.GU (Nat.le_trans HGE.out HM2.out.2) (.inr HM2.out.2) HM2.out.1).up;have HCT:ah (ak.fD w (w10.setCell ⟨g,3,none⟩ (.pointer (some ⟨gm2,0,none⟩))) ok):=aS (HC10.out.trans (ak.fD.set (ok:=(fun k=>ok k∨w.heap.size≤k)) w10 g 3 _ HU10.out.okg) (fun k hk hlt=>hk.resolve_right (Nat.not_le_of_lt hlt)));clear q0 HU10 HM2 HC10
 generalize w10.setCell ⟨g,3,none⟩ (.pointer (some ⟨gm2,0,none⟩))=w11 at HT HCT ⊢
 go_wp2
 go_loopg [2] k (fun kq v2 wr=>∃ (i:Nat) (l:List (List (List au × List (List au) × List Int))),v2 = .int .i64 (i:Int)∧ah (bh.lp k s2 s3 kq i l=some r')∧ah (ak.At wr base (fun k=>ok k∨w.heap.size≤k) g s1 s2 s3 [] 0 l)∧ah (ak.fD w wr ok))
 case atStart=>exact ⟨0,_,rfl,X3,HT,HCT⟩
 clear X3 HT HCT
 case round=>
  obtain ⟨i,l,rfl,HP,HT,HCr⟩:=hrel
  cases gk with
  | zero=>exact absurd HP.out (by simp [bh.lp])
  | succ k1=>
  obtain ⟨gm3,vm3,vl3,vs3,hT⟩:=HT.out;obtain ⟨A3,cl3,rfl,_,hmx3,hat3⟩:=hT.at;have HT3:=aS hT;have HM3:=aS hmx3;have hL3:=hT.len;have ha:=HP.out
  unfold bh.lp at ha
  clear hT HP hmx3
  by_cases hlt:i<l.length
  ·
   rw [if_pos hlt] at ha
   have hq1:(i:Int)<(vs3.length:Int):=by rw [hL3];omega
   have hlt3:i<vs3.length:=by rw [hL3];exact hlt
   obtain ⟨ad,e_,hx⟩:=hat3 wr (fun _ _ _=>rfl) i hlt3;subst e_;obtain ⟨Aj,cj,ej,_,_⟩:=HT3.out.cells i hlt3;rw [ej] at hx
   obtain ⟨nj,hnj⟩:∃ x,x=(l.getD i []).length:=⟨_,rfl⟩
   rw [←hnj] at hx ha;have HX3:=aS hx;have HL3:ah (i<l.length):=aS hlt
   have hq0:(0:Int)≤(i:Int):=by omega
   have hwr:wrap64 ((i:Int)+1)=(i:Int)+1:=by rw [←cC,IntKind.wrap_i64];have:=HM3.out;omega
   have HWR:=aS hwr;have q0:=cO (aS HT3.out.cU);clear hat3 hx ej hL3 hlt hlt3 hnj hwr
   by_cases hs:s3<(nj:Int)
   ·
    rw [if_pos hs] at ha;replace ha:=bU ha;obtain ⟨r1,y1,ha⟩:=ha;have Y1:=aS y1;have HP1:=aS ha
    obtain ⟨hs1,hs2⟩:decide (s3<(nj:Int))=true∧True:=⟨decide_eq_true hs,trivial⟩
    clear y1 ha hs
    go_upto_region 8 with (fail)
    refine di (n:=14) (ds:=[]) (S:=fun w'=>w'.cell? ⟨g,4,none⟩=some (.slice (some ad) vs3.length cl3)∧w'.cell? ⟨g,2,none⟩=some (.int .i64 s3)∧w'.cell? (ad.add i)=some (.slice Aj nj cj)) (bA 14 0) (by kernel_rfl) rfl rfl ⟨(aC (ar HT3.out.cU) 4).trans rfl,(aC (ar HT3.out.cU) 2).trans rfl,HX3.out⟩ (fun hHeld=>?_)
    generalize hw_:World.drew _=wd at hHeld ⊢
    have HTd:ah (ak.eC wd base _ g gm3 vm3 _ vs3 vs3 s1 s2 s3 [] 0 l):=aS (hw_▸HT3.out.below (bH (Below.refl _ _)));have HCd:ah (ak.fD w wd ok):=aS (hw_▸HCr.out.step (bH (Below.refl _ _)));clear hw_ HT3 HCr HX3 q0;refine cD (T:=(true,[([],[]),([0],[0]),([1],[1]),([2],[2]),([],[]),([3,4],[3,4]),([5],[5]),([6],[6]),([],[]),([8],[8]),([9],[9]),([10],[10]),([11],[11]),([7,12],[7,12])])) (B:=[0,1,3,7,0,31,63,127,0,256,768,1792,3840,8191]) (by kernel_rfl) (by kernel_rfl) (fun HT_ HW_=>?_);refine aZ [(0,56),(1,57),(2,58)] ?_
    iterate 3 (refine ck HT_ ?_)
    refine bT (bA 14 7) (by kernel_rfl) ?_;refine aZ [(3,59)] ?_
    iterate 1 (refine dY HT_ HW_ hHeld ?_)
    refine bT (bA 14 15) (by kernel_rfl) ?_;refine aZ [(4,60),(5,61)] ?_
    iterate 2 (refine ck HT_ ?_)
    refine bT (bA 14 63) (by kernel_rfl) ?_;refine aZ [(6,62)] ?_
    iterate 1 (refine dY HT_ HW_ hHeld ?_)
    refine bT (bA 14 127) (by kernel_rfl) ?_;refine aZ [(7,63),(8,64),(9,65),(10,66),(11,67)] ?_
    iterate 5 (refine ck HT_ ?_)
    refine bT (bA 14 4095) (by kernel_rfl) ?_;refine aZ [(12,68)] ?_
    iterate 1 (refine dY HT_ HW_ hHeld ?_)
    refine bT (bA 14 8191) (by kernel_rfl) ?_;refine aZ [(13,69)] ?_
    iterate 1 (refine ck HT_ ?_)
    refine bT (bA 14 16383) (by kernel_rfl) ?_;refine fX HT_ ?_;clear HT_ HW_ hHeld
    go_wp2_with (first | (go_at_call 34;(with_reducible refine (bV.calls k g base (fun k=>ok k∨w.heap.size≤k) s1 s2 s3 [] 0 l r1 i _ HTd.out.up HL3.out Y1.out).mono ?_);rintro e_ w14 ⟨rfl,ha_,hc_⟩;have HT4:ah (ak.At w14 base (fun k=>ok k∨w.heap.size≤k) g s1 s2 s3 [] 0 r1):=aS (ha_.mono (fun k hk=>hk.elim id (fun h=>.inr (Nat.le_trans HCd.out.size h))));have HC4:=aS (HCd.out.trans hc_ (fun k hk hlt=>hk.resolve_right (Nat.not_le_of_lt hlt)));clear ha_ hc_))
    have hwr:=HWR.out
    go_wp2
    go_roundg k1
    case measure=>exact Nat.lt_succ_self _
    case rel=>exact ⟨i+1,r1,by rw [hwr];rfl,HP1,HT4,HC4⟩
   ·
    rw [if_neg hs] at ha;have HP1:=aS ha
    obtain ⟨hs1,hs2⟩:decide (s3<(nj:Int))=false∧True:=⟨decide_eq_false hs,trivial⟩
    clear ha hs
    go_upto_region 8 with (fail)
    refine di (n:=14) (ds:=[]) (S:=fun w'=>w'.cell? ⟨g,4,none⟩=some (.slice (some ad) vs3.length cl3)∧w'.cell? ⟨g,2,none⟩=some (.int .i64 s3)∧w'.cell? (ad.add i)=some (.slice Aj nj cj)) (bA 14 0) (by kernel_rfl) rfl rfl ⟨(aC (ar HT3.out.cU) 4).trans rfl,(aC (ar HT3.out.cU) 2).trans rfl,HX3.out⟩ (fun hHeld=>?_)
    generalize hw_:World.drew _=wd at hHeld ⊢
    have HTd:ah (ak.eC wd base _ g gm3 vm3 _ vs3 vs3 s1 s2 s3 [] 0 l):=aS (hw_▸HT3.out.below (bH (Below.refl _ _)));have HCd:ah (ak.fD w wd ok):=aS (hw_▸HCr.out.step (bH (Below.refl _ _)));clear hw_ HT3 HCr HX3 q0;refine cD (T:=(true,[([],[]),([0],[0]),([1],[1]),([2],[2]),([],[]),([3,4],[3,4]),([5],[5]),([6],[6]),([],[]),([8],[8]),([9],[9]),([10],[10]),([11],[11]),([7,12],[7,12])])) (B:=[0,1,3,7,0,31,63,127,0,256,768,1792,3840,8191]) (by kernel_rfl) (by kernel_rfl) (fun HT_ HW_=>?_);refine aZ [(0,56),(1,57),(2,58)] ?_
    iterate 3 (refine ck HT_ ?_)
    refine bT (bA 14 7) (by kernel_rfl) ?_;refine aZ [(3,59)] ?_
    iterate 1 (refine dY HT_ HW_ hHeld ?_)
    refine bT (bA 14 15) (by kernel_rfl) ?_;refine aZ [(4,60),(5,61)] ?_
    iterate 2 (refine ck HT_ ?_)
    refine bT (bA 14 63) (by kernel_rfl) ?_;refine aZ [(6,62)] ?_
    iterate 1 (refine dY HT_ HW_ hHeld ?_)
    refine bT (bA 14 127) (by kernel_rfl) ?_;refine aZ [(7,63),(8,64),(9,65),(10,66),(11,67)] ?_
    iterate 5 (refine ck HT_ ?_)
    refine bT (bA 14 4095) (by kernel_rfl) ?_;refine aZ [(12,68)] ?_
    iterate 1 (refine dY HT_ HW_ hHeld ?_)
    refine bT (bA 14 8191) (by kernel_rfl) ?_;refine aZ [(13,69)] ?_
    iterate 1 (refine ck HT_ ?_)
    refine bT (bA 14 16383) (by kernel_rfl) ?_;refine fX HT_ ?_;clear HT_ HW_ hHeld;have hwr:=HWR.out
    go_wp2
    go_roundg k1
    case measure=>exact Nat.lt_succ_self _
    case rel=>exact ⟨i+1,l,by rw [hwr];rfl,HP1,⟨HTd.out.up⟩,HCd⟩
  ·
   rw [if_neg hlt] at ha
   have hge:¬ ((i:Int)<(vs3.length:Int)):=by rw [hL3];omega
   obtain rfl:=Option.some.inj ha
   have q0:=cO (aS HT3.out.cU)
   go_wp2
   go_end0
   exact ⟨rfl,⟨_,_,_,_,HT3.out⟩,HCr.out⟩
def cX.f (k:Nat) (xs:List au) (ls:List (List (List au × List (List au) × List Int))):Option (List au):=(cw.f xs ls).bind fun q=>fN.f k q
theorem cX.mono:∀ a0 a1 k,aH (cX.f k a0 a1) (cX.f (k+1) a0 a1):=fun _ _ _=>aH.bind (aH.refl _) fun _=>fN.mono _ _
theorem cX.calls (k base:Nat) (ok:Nat→Prop) (g:Nat) (s1 s2 s3:Int) (xs:List au) (n:Int) (ls:List (List (List au × List (List au) × List Int))) (r:List au) (w:World) (hA:ak.At w base ok g s1 s2 s3 xs n ls) (h:cX.f k xs ls=some r) :
  Calls Tryz.prog 19 #[.pointer (some ⟨g,0,none⟩)] w fun e w'=>∃ v0_:Value,e = .returned v0_∧Kd.R cm 34 w' w.heap.size (fun _=>True) v0_ r∧Below w.heap.size w w':=by
 unfold cX.f at h
 replace h:=bU h;obtain ⟨q,x1,h⟩:=h;have X1:=aS x1;have X2:=aS h;have HA:=aS hA;clear x1 h hA
 go_enter Tryz.func19,Tryz.ntmps19
 go_wp2_with (first | (go_at_call 41;(with_reducible refine (cw.calls base ok g s1 s2 s3 xs n ls q _ HA.out X1.out).mono ?_);rintro e_ w2 ⟨v2,rfl,ho,hb⟩;obtain ⟨Al,cl,rfl,hcl,hC⟩:=Kd.eZ ho;have HC:=aS hC;have HL:=aS hcl;have HB:=aS hb;clear ho hb hC hcl) | (go_at_call 40;(with_reducible refine (fN.calls k Al cl q r _ HC.out HL.out X2.out).mono ?_);rintro e_ w3 ⟨v3,rfl,ho,hb⟩;have HO:=aS (Kd.bn ho HB.out.size);have HB2:=aS (aE HB.out hb);clear ho hb HB))
 go_ret
 exact ⟨v3,rfl,HO.out,HB2.out⟩
def br.l0:Nat→List (au)→Int→Int→Int→ByteArray→ByteArray→Int→ByteArray→Bool→Option (Int × Bool)
 | 0,_,_,_,_,_,_,_,_,_=>none
 | k+1,x0,x8,x9,x10,x487000,x487001,x487002,x487003,x487004=>if x9<x10 then (if 0≤(wrap64 ((IntKind.u64.wrap (wrap64 (x9+x10))) / 2)) then (if (wrap64 ((IntKind.u64.wrap (wrap64 (x9+x10))) / 2))<(x0.length:Int) then ((bR.f k ((af x0 (wrap64 ((IntKind.u64.wrap (wrap64 (x9+x10))) / 2))).f0) ((af x0 (wrap64 ((IntKind.u64.wrap (wrap64 (x9+x10))) / 2))).f1) ((af x0 (wrap64 ((IntKind.u64.wrap (wrap64 (x9+x10))) / 2))).f2) ((af x0 (wrap64 ((IntKind.u64.wrap (wrap64 (x9+x10))) / 2))).f3) ((af x0 (wrap64 ((IntKind.u64.wrap (wrap64 (x9+x10))) / 2))).f4) x487000 x487001 x487002 x487003 x487004).bind fun t488=>(if t488<0 then (br.l0 k x0 x8 (wrap64 ((wrap64 ((IntKind.u64.wrap (wrap64 (x9+x10))) / 2))+1)) x10 x487000 x487001 x487002 x487003 x487004) else (br.l0 k x0 x8 x9 (wrap64 ((IntKind.u64.wrap (wrap64 (x9+x10))) / 2)) x487000 x487001 x487002 x487003 x487004))) else (none)) else (none)) else (if x9<x8 then (if 0≤x9 then (if x9<(x0.length:Int) then ((bR.f k ((af x0 x9).f0) ((af x0 x9).f1) ((af x0 x9).f2) ((af x0 x9).f3) ((af x0 x9).f4) x487000 x487001 x487002 x487003 x487004).bind fun t490=>(some (x9,(t490 == 0)))) else (none)) else (none)) else (some (x9,false)))
def br.f (k:Nat) (l0:List (au)) (a1_0:ByteArray) (a1_1:ByteArray) (a1_2:Int) (a1_3:ByteArray) (a1_4:Bool)  : Option (Int × Bool):=br.l0 k l0 (l0.length:Int) 0 (l0.length:Int) a1_0 a1_1 a1_2 a1_3 a1_4
theorem br.cF:∀ k,(∀ y0 y1 y2 y3 y4 y5 y6 y7 y8,aH (br.l0 k y0 y1 y2 y3 y4 y5 y6 y7 y8) (br.l0 (k+1) y0 y1 y2 y3 y4 y5 y6 y7 y8))
 | 0=>fun _ _ _ _ _ _ _ _ _ r h=>by simp [br.l0] at h
 | k+1=>by
  have ih0:=br.cF k
  ·
   intro y0 y1 y2 y3 y4 y5 y6 y7 y8
   unfold br.l0
   have m0:=@bR.mono;exact eF
theorem br.mono:∀ a0 a1 a2 a3 a4 a5 k,aH (br.f k a0 a1 a2 a3 a4 a5) (br.f (k+1) a0 a1 a2 a3 a4 a5):=by
 intro a0 a1 a2 a3 a4 a5 k
 have ih0:=br.cF k
 unfold br.f
 have m0:=@bR.mono;exact eF
def br.T5:Bool × List (List Nat × List Nat):=(true,[([],[]),([],[]),([],[]),([1,2],[1,2]),([3],[3]),([],[]),([0,4,5],[0,4,5]),([6],[6])])
def br.B5:List Nat:=[0,0,0,6,14,0,63,127]
theorem br.qX:e9 .any (opsOf Tryz.f46 5)=br.T5:=by kernel_rfl
theorem br.oJ:gj br.T5.2 br.B5=true:=by kernel_rfl
def br.T8:Bool × List (List Nat × List Nat):=(true,[([],[]),([],[]),([],[]),([1,2],[1,2]),([3],[3]),([4],[4]),([4],[4]),([4],[4]),([6,7,4],[4,6,7]),([8,4],[4,8]),([4],[4]),([5,9,10,4,4],[4,5,9,10]),([11,4],[4,11]),([4,12],[4,12]),([0,11,0],[0]),([13,14,0,1,2,3,4,5,6,7,8,9,10,11,12,13,14],[13])])
def br.B8:List Nat:=[0,0,0,6,14,30,30,30,222,478,30,2046,4094,8190,4095,32767]
theorem br.tW:e9 .any (opsOf Tryz.f46 8)=br.T8:=by kernel_rfl
theorem br.rK:gj br.T8.2 br.B8=true:=by kernel_rfl
theorem br.calls (k:Nat) (A0:Option Addr) (c0:Nat) (l0:List (au)) (a1_0:ByteArray) (a1_1:ByteArray) (a1_2:Int) (a1_3:ByteArray) (a1_4:Bool)  (r1:Int) (r2:Bool) (w:World) (hr0:Kd.C cm w A0 l0.length l0) (hc0:l0.length≤c0) (h:br.f k l0 a1_0 a1_1 a1_2 a1_3 a1_4=some (r1,r2)) :
  Calls Tryz.prog 46 #[.slice A0 l0.length c0,.agg #[.string a1_0,.string a1_1,.int .i64 a1_2,.string a1_3,.bool a1_4],.func (.func 47) #[] #[]] w fun e w'=>e = .returned (.tuple #[.int .i64 r1,.bool r2])∧Below w.heap.size w w':=by
 have hu34:=Tryz.underlying34;have HR0:=aS hr0;have HC0:=aS hc0;clear hr0 hc0;have HB:=aS (Below.refl w.heap.size w);have H:(br.l0 k l0 (l0.length:Int) 0 (l0.length:Int) a1_0 a1_1 a1_2 a1_3 a1_4)=some (r1,r2):=h;clear h
 have H':=aS H
 clear H
 go_enter Tryz.func46,Tryz.ntmps46
 go_wp2_with (first | ((with_reducible refine gD 4 ?_);refine dK 4 #[.string a1_0,.string a1_1,.int .i64 a1_2,.string a1_3,.bool a1_4] 34 ?_;intro gb486 hg w4 hbox hb;have BK486:=aS (hbox);have GW486:=bsize hg;have GE486:=bsize hg;replace HB:=aM hb;clear hb hbox hg))
 go_loopg [9,10] k (fun kq v9 v10 w'=>∃ (x9_1:Int) (x10_1:Int),v9 = .int .i64 x9_1∧v10 = .int .i64 x10_1∧ah (br.l0 kq l0 (l0.length:Int) x9_1 x10_1 a1_0 a1_1 a1_2 a1_3 a1_4=some (r1,r2))∧ah (kq≤k)∧ah (w'.heap[gb486]? = some (.cells #[.string a1_0,.string a1_1,.int .i64 a1_2,.string a1_3,.bool a1_4] 34 (0,0)))∧ah (Below w.heap.size w w'))
 case atStart=>exact ⟨(0),((l0.length:Int)),cG,cG,H',⟨Nat.le_refl _⟩,⟨eA BK486.out⟩,⟨aq⟩⟩
 case round=>
  clear H';obtain ⟨x9_1,x10_1,rfl,rfl,HA,HK1,BK486,HB⟩:=hrel
  cases gk with
  | zero=>exact absurd HA.out (by simp [br.l0])
  | succ k1=>
   have H:=HA.out;clear HA
   simp only [br.l0] at H
   by_cases c5:x9_1<x10_1
   ·
    rw [if_pos c5] at H;have c5b0:decide (x9_1<x10_1)=true:=decide_eq_true c5;clear c5
    obtain ⟨ji6,hji6⟩:∃ j_:Int,(wrap64 ((IntKind.u64.wrap (wrap64 (x9_1+x10_1))) / 2))=j_:=⟨_,rfl⟩
    replace H:(if 0≤(ji6) then (if (ji6)<(l0.length:Int) then ((bR.f k1 ((af l0 (ji6)).f0) ((af l0 (ji6)).f1) ((af l0 (ji6)).f2) ((af l0 (ji6)).f3) ((af l0 (ji6)).f4) a1_0 a1_1 a1_2 a1_3 a1_4).bind fun t488=>(if t488<0 then (br.l0 k1 l0 (l0.length:Int) (wrap64 ((ji6)+1)) x10_1 a1_0 a1_1 a1_2 a1_3 a1_4) else (br.l0 k1 l0 (l0.length:Int) x9_1 ji6 a1_0 a1_1 a1_2 a1_3 a1_4))) else (none)) else (none))=some (r1,r2):=by first | (rw [hji6] at H;exact H) | (simp only [hji6] at H ⊢;exact H)
    have hji6w:(IntKind.i64.wrap ((IntKind.u64.wrap (wrap64 (x9_1+x10_1))) / 2))=ji6:=(cC _).trans hji6
    by_cases c7:0≤(ji6)
    ·
     rw [if_pos c7] at H;have c7b0:decide (0≤(ji6))=true:=decide_eq_true c7;clear c7
     by_cases c8:(ji6)<(l0.length:Int)
     ·
      rw [if_pos c8] at H;have c8b0:decide ((ji6)<(l0.length:Int))=true:=decide_eq_true c8;clear c8;replace H:=bU H;obtain ⟨t488,A90,H⟩:=H;have A9:=aS A90;clear A90
      by_cases ef:t488<0
      ·
       rw [if_pos ef] at H;have c10b0:decide (t488<0)=true:=decide_eq_true ef;clear ef
       have H':=aS H
       clear H
       try go_wp2
       replace BK486:=aS (ar BK486.out);replace HB:=aS (jS HB.out);have p487:0≤((ji6):Int):=bJ;have q487:(ji6)<(l0.length:Int):=bJ;obtain ⟨ad487,e487,hx487_0,hx487_1,hx487_2,hx487_3,hx487_4⟩:=dN HR0.out (ji6) p487 q487;have hw487_4:=hx487_4;have hw487_3:=hx487_3;have hw487_2:=hx487_2;have hw487_1:=hx487_1;have hw487_0:=hx487_0;cases e487;replace hx487_0:=bx aq hx487_0;replace hx487_1:=bx aq hx487_1;replace hx487_2:=bx aq hx487_2;replace hx487_3:=bx aq hx487_3;replace hx487_4:=bx aq hx487_4;replace p487:=eq_true p487;replace q487:=eq_true q487;refine di (n:=8) (S:=fun w'=>w'.cell? ⟨gb486,0,none⟩=some (.string a1_0)∧w'.cell? ⟨gb486,1,none⟩=some (.string a1_1)∧w'.cell? ⟨gb486,2,none⟩=some (.int .i64 a1_2)∧w'.cell? ⟨gb486,3,none⟩=some (.string a1_3)∧w'.cell? ⟨gb486,4,none⟩=some (.bool a1_4)∧w'.cell? (ad487.add (((ji6)).toNat*5))=some (.string ((af l0 (ji6)).f0))∧w'.cell? ⟨(ad487.add (((ji6)).toNat*5)).block,(ad487.add (((ji6)).toNat*5)).off+1,none⟩=some (.string ((af l0 (ji6)).f1))∧w'.cell? ⟨(ad487.add (((ji6)).toNat*5)).block,(ad487.add (((ji6)).toNat*5)).off+2,none⟩=some (.int .i64 ((af l0 (ji6)).f2))∧w'.cell? ⟨(ad487.add (((ji6)).toNat*5)).block,(ad487.add (((ji6)).toNat*5)).off+3,none⟩=some (.string ((af l0 (ji6)).f3))∧w'.cell? ⟨(ad487.add (((ji6)).toNat*5)).block,(ad487.add (((ji6)).toNat*5)).off+4,none⟩=some (.bool ((af l0 (ji6)).f4))) (ds:=[]) (bA 8 0) (by kernel_rfl) rfl rfl ⟨bc BK486 0,bc BK486 1,bc BK486 2,bc BK486 3,bc BK486 4,(bx aq hw487_0),(bx aq hw487_1),(bx aq hw487_2),(bx aq hw487_3),(bx aq hw487_4)⟩ (fun hHeld=>?_);refine cD br.qX br.oJ (fun HT_ HW_=>?_)
       generalize wr.drew=w11 at BK486 HB hx487_0 hx487_1 hx487_2 hx487_3 hx487_4 hHeld ⊢
       refine aZ [(0,24),(1,25),(2,26),(3,27),(4,28),(5,29)] ?_
       iterate 6 (first | (refine ck HT_ ?_) | (refine dY HT_ HW_ hHeld ?_))
       refine bT (bA 8 63) (by kernel_rfl) ?_;refine dH 6 (N:=some 30) (bA 8 127) HT_ (fun K hK=>?_);refine Kd.qH Tryz.func47 (by kernel_rfl) rfl #[.agg #[.string ((af l0 (ji6)).f0),.string ((af l0 (ji6)).f1),.int .i64 ((af l0 (ji6)).f2),.string ((af l0 (ji6)).f3),.bool ((af l0 (ji6)).f4)],.agg #[.string a1_0,.string a1_1,.int .i64 a1_2,.string a1_3,.bool a1_4]] (by rfl) rfl rfl rfl (by (try simp only [List.map_toArray,List.map_cons,List.map_nil]);first | done | (simp only [hji6];rfl) | rfl | (simp only [mh,kY];rfl)) ?_
       with_reducible refine (bR.calls k1 ((af l0 (ji6)).f0) ((af l0 (ji6)).f1) ((af l0 (ji6)).f2) ((af l0 (ji6)).f3) ((af l0 (ji6)).f4) a1_0 a1_1 a1_2 a1_3 a1_4 t488 _ A9.out).mono ?_
       rintro e w12 ⟨rfl,hb⟩
       refine ⟨_,rfl,?_⟩;replace BK486:=fp BK486 hb;replace HB:=aM hb;(try clear hb);(try clear hk);(try clear hi);refine hK.out _ _ ⟨bc BK486 0,bc BK486 1,bc BK486 2,bc BK486 3,bc BK486 4,(bx aq hw487_0),(bx aq hw487_1),(bx aq hw487_2),(bx aq hw487_3),(bx aq hw487_4)⟩ (fun hHeld=>?_);clear hK K;refine nm 30 ?_;refine wj 7 31 (bA 8 255) HT_ ?_
       refine fX HT_ ?_
       try go_wp2
       go_roundg k1
       case measure=>have:=HK1.out;omega
       case rel=>exact ⟨(wrap64 ((ji6)+1)),(x10_1),(by first | rfl | (simp;done) | (simp only [←hji6]<;>(first | rfl | simp)) | (simp [*];done)),cG,H',⟨by have:=HK1.out;omega⟩,⟨eA BK486.out⟩,⟨aq⟩⟩
      ·
       rw [if_neg ef] at H;have c10b0:decide (t488<0)=false:=decide_eq_false ef;clear ef
       have H':=aS H
       clear H
       try go_wp2
       replace BK486:=aS (ar BK486.out);replace HB:=aS (jS HB.out);have p487:0≤((ji6):Int):=bJ;have q487:(ji6)<(l0.length:Int):=bJ;obtain ⟨ad487,e487,hx487_0,hx487_1,hx487_2,hx487_3,hx487_4⟩:=dN HR0.out (ji6) p487 q487;have hw487_4:=hx487_4;have hw487_3:=hx487_3;have hw487_2:=hx487_2;have hw487_1:=hx487_1;have hw487_0:=hx487_0;cases e487;replace hx487_0:=bx aq hx487_0;replace hx487_1:=bx aq hx487_1;replace hx487_2:=bx aq hx487_2;replace hx487_3:=bx aq hx487_3;replace hx487_4:=bx aq hx487_4;replace p487:=eq_true p487;replace q487:=eq_true q487;refine di (n:=8) (S:=fun w'=>w'.cell? ⟨gb486,0,none⟩=some (.string a1_0)∧w'.cell? ⟨gb486,1,none⟩=some (.string a1_1)∧w'.cell? ⟨gb486,2,none⟩=some (.int .i64 a1_2)∧w'.cell? ⟨gb486,3,none⟩=some (.string a1_3)∧w'.cell? ⟨gb486,4,none⟩=some (.bool a1_4)∧w'.cell? (ad487.add (((ji6)).toNat*5))=some (.string ((af l0 (ji6)).f0))∧w'.cell? ⟨(ad487.add (((ji6)).toNat*5)).block,(ad487.add (((ji6)).toNat*5)).off+1,none⟩=some (.string ((af l0 (ji6)).f1))∧w'.cell? ⟨(ad487.add (((ji6)).toNat*5)).block,(ad487.add (((ji6)).toNat*5)).off+2,none⟩=some (.int .i64 ((af l0 (ji6)).f2))∧w'.cell? ⟨(ad487.add (((ji6)).toNat*5)).block,(ad487.add (((ji6)).toNat*5)).off+3,none⟩=some (.string ((af l0 (ji6)).f3))∧w'.cell? ⟨(ad487.add (((ji6)).toNat*5)).block,(ad487.add (((ji6)).toNat*5)).off+4,none⟩=some (.bool ((af l0 (ji6)).f4))) (ds:=[]) (bA 8 0) (by kernel_rfl) rfl rfl ⟨bc BK486 0,bc BK486 1,bc BK486 2,bc BK486 3,bc BK486 4,(bx aq hw487_0),(bx aq hw487_1),(bx aq hw487_2),(bx aq hw487_3),(bx aq hw487_4)⟩ (fun hHeld=>?_);refine cD br.qX br.oJ (fun HT_ HW_=>?_)
       generalize wr.drew=w13 at BK486 HB hx487_0 hx487_1 hx487_2 hx487_3 hx487_4 hHeld ⊢
       refine aZ [(0,24),(1,25),(2,26),(3,27),(4,28),(5,29)] ?_
       iterate 6 (first | (refine ck HT_ ?_) | (refine dY HT_ HW_ hHeld ?_))
       refine bT (bA 8 63) (by kernel_rfl) ?_;refine dH 6 (N:=some 30) (bA 8 127) HT_ (fun K hK=>?_);refine Kd.qH Tryz.func47 (by kernel_rfl) rfl #[.agg #[.string ((af l0 (ji6)).f0),.string ((af l0 (ji6)).f1),.int .i64 ((af l0 (ji6)).f2),.string ((af l0 (ji6)).f3),.bool ((af l0 (ji6)).f4)],.agg #[.string a1_0,.string a1_1,.int .i64 a1_2,.string a1_3,.bool a1_4]] (by rfl) rfl rfl rfl (by (try simp only [List.map_toArray,List.map_cons,List.map_nil]);first | done | (simp only [hji6];rfl) | rfl | (simp only [mh,kY];rfl)) ?_
       with_reducible refine (bR.calls k1 ((af l0 (ji6)).f0) ((af l0 (ji6)).f1) ((af l0 (ji6)).f2) ((af l0 (ji6)).f3) ((af l0 (ji6)).f4) a1_0 a1_1 a1_2 a1_3 a1_4 t488 _ A9.out).mono ?_
       rintro e w14 ⟨rfl,hb⟩
       refine ⟨_,rfl,?_⟩;replace BK486:=fp BK486 hb;replace HB:=aM hb;(try clear hb);(try clear hk);(try clear hi);refine hK.out _ _ ⟨bc BK486 0,bc BK486 1,bc BK486 2,bc BK486 3,bc BK486 4,(bx aq hw487_0),(bx aq hw487_1),(bx aq hw487_2),(bx aq hw487_3),(bx aq hw487_4)⟩ (fun hHeld=>?_);clear hK K;refine nm 30 ?_;refine wj 7 31 (bA 8 255) HT_ ?_
       refine fX HT_ ?_
       try go_wp2
       go_roundg k1
       case measure=>have:=HK1.out;omega
       case rel=>exact ⟨(x9_1),(ji6),cG,(by first | rfl | (simp;done) | (simp only [←hji6]<;>(first | rfl | simp)) | (simp [*];done)),H',⟨by have:=HK1.out;omega⟩,⟨eA BK486.out⟩,⟨aq⟩⟩
     ·
      rw [if_neg c8] at H;exact absurd H (by simp)
    ·
     rw [if_neg c7] at H;exact absurd H (by simp)
   ·
    rw [if_neg c5] at H;have c5b0:decide (x9_1<x10_1)=false:=decide_eq_false c5;clear c5
    by_cases c15:x9_1<(l0.length:Int)
    ·
     rw [if_pos c15] at H;have c15b0:decide (x9_1<(l0.length:Int))=true:=decide_eq_true c15;clear c15
     by_cases c16:0≤x9_1
     ·
      rw [if_pos c16] at H;have c16b0:decide (0≤x9_1)=true:=decide_eq_true c16;clear c16
      by_cases c17:x9_1<(l0.length:Int)
      ·
       rw [if_pos c17] at H;have c17b0:decide (x9_1<(l0.length:Int))=true:=decide_eq_true c17;clear c17;replace H:=bU H;obtain ⟨t490,A180,H⟩:=H;have A18:=aS A180;clear A180
       simp only [Option.some.injEq,Prod.mk.injEq] at H
       obtain ⟨rfl,rfl⟩:=H
       try go_wp2
       replace BK486:=aS (ar BK486.out);replace HB:=aS (jS HB.out);have p489:0≤(x9_1:Int):=bJ;have q489:x9_1<(l0.length:Int):=bJ;obtain ⟨ad489,e489,hx489_0,hx489_1,hx489_2,hx489_3,hx489_4⟩:=dN HR0.out x9_1 p489 q489;have hw489_4:=hx489_4;have hw489_3:=hx489_3;have hw489_2:=hx489_2;have hw489_1:=hx489_1;have hw489_0:=hx489_0;cases e489;replace hx489_0:=bx aq hx489_0;replace hx489_1:=bx aq hx489_1;replace hx489_2:=bx aq hx489_2;replace hx489_3:=bx aq hx489_3;replace hx489_4:=bx aq hx489_4;replace p489:=eq_true p489;replace q489:=eq_true q489;refine di (n:=16) (S:=fun w'=>w'.cell? ⟨gb486,0,none⟩=some (.string a1_0)∧w'.cell? ⟨gb486,1,none⟩=some (.string a1_1)∧w'.cell? ⟨gb486,2,none⟩=some (.int .i64 a1_2)∧w'.cell? ⟨gb486,3,none⟩=some (.string a1_3)∧w'.cell? ⟨gb486,4,none⟩=some (.bool a1_4)∧w'.cell? (ad489.add ((x9_1).toNat*5))=some (.string ((af l0 x9_1).f0))∧w'.cell? ⟨(ad489.add ((x9_1).toNat*5)).block,(ad489.add ((x9_1).toNat*5)).off+1,none⟩=some (.string ((af l0 x9_1).f1))∧w'.cell? ⟨(ad489.add ((x9_1).toNat*5)).block,(ad489.add ((x9_1).toNat*5)).off+2,none⟩=some (.int .i64 ((af l0 x9_1).f2))∧w'.cell? ⟨(ad489.add ((x9_1).toNat*5)).block,(ad489.add ((x9_1).toNat*5)).off+3,none⟩=some (.string ((af l0 x9_1).f3))∧w'.cell? ⟨(ad489.add ((x9_1).toNat*5)).block,(ad489.add ((x9_1).toNat*5)).off+4,none⟩=some (.bool ((af l0 x9_1).f4))) (ds:=[]) (bA 16 0) (by kernel_rfl) rfl rfl ⟨bc BK486 0,bc BK486 1,bc BK486 2,bc BK486 3,bc BK486 4,(bx aq hw489_0),(bx aq hw489_1),(bx aq hw489_2),(bx aq hw489_3),(bx aq hw489_4)⟩ (fun hHeld=>?_);refine cD br.tW br.rK (fun HT_ HW_=>?_)
       generalize wr.drew=w19 at BK486 HB hx489_0 hx489_1 hx489_2 hx489_3 hx489_4 hHeld ⊢
       refine aZ [(0,35),(1,36),(2,37),(3,38),(4,39),(5,40),(6,41),(7,42),(8,43),(9,44),(10,45)] ?_
       iterate 11 (first | (refine ck HT_ ?_) | (refine dY HT_ HW_ hHeld ?_))
       refine bT (bA 16 2047) (by kernel_rfl) ?_;refine dH 11 (N:=some 46) (bA 16 4095) HT_ (fun K hK=>?_);refine Kd.qH Tryz.func47 (by kernel_rfl) rfl #[.agg #[.string ((af l0 x9_1).f0),.string ((af l0 x9_1).f1),.int .i64 ((af l0 x9_1).f2),.string ((af l0 x9_1).f3),.bool ((af l0 x9_1).f4)],.agg #[.string a1_0,.string a1_1,.int .i64 a1_2,.string a1_3,.bool a1_4]] (by rfl) rfl rfl rfl D8 ?_
       with_reducible refine (bR.calls k1 ((af l0 x9_1).f0) ((af l0 x9_1).f1) ((af l0 x9_1).f2) ((af l0 x9_1).f3) ((af l0 x9_1).f4) a1_0 a1_1 a1_2 a1_3 a1_4 t490 _ A18.out).mono ?_
       rintro e w20 ⟨rfl,hb⟩
       refine ⟨_,rfl,?_⟩;replace BK486:=fp BK486 hb;replace HB:=aM hb;(try clear hb);(try clear hk);(try clear hi);refine hK.out _ _ ⟨bc BK486 0,bc BK486 1,bc BK486 2,bc BK486 3,bc BK486 4,(bx aq hw489_0),(bx aq hw489_1),(bx aq hw489_2),(bx aq hw489_3),(bx aq hw489_4)⟩ (fun hHeld=>?_);clear hK K;refine nm 46 ?_;refine aZ [(12,47),(13,48),(14,6),(15,7)] ?_
       iterate 4 (refine ck HT_ ?_)
       refine bT (bA 16 65535) (by kernel_rfl) ?_;refine fX HT_ ?_
       try go_wp2
       go_ret2
       exact ⟨dP,aq⟩
      ·
       rw [if_neg c17] at H;exact absurd H (by simp)
     ·
      rw [if_neg c16] at H;exact absurd H (by simp)
    ·
     rw [if_neg c15] at H;have c15b0:decide (x9_1<(l0.length:Int))=false:=decide_eq_false c15;clear c15
     simp only [Option.some.injEq,Prod.mk.injEq] at H
     obtain ⟨rfl,rfl⟩:=H
     try go_wp2
     replace BK486:=aS (ar BK486.out);replace HB:=aS (jS HB.out);refine di (n:=16) (S:=fun w'=>True) (ds:=[]) (bA 16 0) (by kernel_rfl) rfl rfl trivial (fun hHeld=>?_);refine cD br.tW br.rK (fun HT_ HW_=>?_)
     generalize wr.drew=w21 at BK486 HB hHeld ⊢
     refine aZ [(0,35),(1,36),(2,37),(3,38),(4,39),(5,40),(6,41),(7,42),(8,43),(9,44),(10,45),(11,46),(12,47),(13,48),(14,6),(15,7)] ?_
     iterate 16 (first | (refine nR HT_ ?_) | (refine ck HT_ ?_))
     refine bT (bA 16 65535) (by kernel_rfl) ?_;refine fX HT_ ?_
     try go_wp2
     go_ret2
     exact ⟨dP,aq⟩
def cA.j0:Nat→List (au)→Int→Bool→Option (ByteArray × ByteArray × Int × ByteArray × Bool × Bool)
 | 0,_,_,_=>none
 | k+1,x0,x10,x42=>if x42=true then (some ((⟨#[]⟩:ByteArray),(⟨#[]⟩:ByteArray),0,(⟨#[]⟩:ByteArray),false,false)) else (if 0≤x10 then (if x10<(x0.length:Int) then (some ((af x0 x10).f0,(af x0 x10).f1,(af x0 x10).f2,(af x0 x10).f3,(af x0 x10).f4,true)) else (none)) else (none))
def cA.f (k:Nat) (l0:List (au)) (a1:ByteArray) (a2:ByteArray) (a3:Int):Option (ByteArray × ByteArray × Int × ByteArray × Bool × Bool):=(br.f k l0 a1 a2 a3 (⟨#[]⟩:ByteArray) false).bind fun bt492=>(if bt492.1=(l0.length:Int) then (cA.j0 k l0 bt492.1 true) else (if 0≤bt492.1 then (if bt492.1<(l0.length:Int) then (if ((af l0 bt492.1).f0).toList=a1.toList then (cA.j0 k l0 bt492.1 (((af l0 bt492.1).f1).toList != a2.toList)) else (cA.j0 k l0 bt492.1 true)) else (none)) else (none)))
theorem cA.cF:∀ k,(∀ y0 y1 y2,aH (cA.j0 k y0 y1 y2) (cA.j0 (k+1) y0 y1 y2))
 | 0=>fun _ _ _ r h=>by simp [cA.j0] at h
 | k+1=>by
  have ih0:=cA.cF k
  ·
   intro y0 y1 y2
   unfold cA.j0
   have m0:=@br.mono;exact eF
theorem cA.mono:∀ a0 a1 a2 a3 k,aH (cA.f k a0 a1 a2 a3) (cA.f (k+1) a0 a1 a2 a3):=by
 intro a0 a1 a2 a3 k
 have ih0:=cA.cF k
 unfold cA.f
 have m0:=@br.mono;exact eF
theorem cA.calls (k:Nat) (A0:Option Addr) (c0:Nat) (l0:List (au)) (a1:ByteArray) (a2:ByteArray) (a3:Int) (r1:ByteArray) (r2:ByteArray) (r3:Int) (r4:ByteArray) (r5:Bool) (r6:Bool) (w:World) (hr0:Kd.C cm w A0 l0.length l0) (hc0:l0.length≤c0) (h:cA.f k l0 a1 a2 a3=some (r1,r2,r3,r4,r5,r6)) :
  Calls Tryz.prog 76 #[.slice A0 l0.length c0,.string a1,.string a2,.int .i64 a3] w fun e w'=>e = .returned (.tuple #[.agg #[.string r1,.string r2,.int .i64 r3,.string r4,.bool r5],.bool r6])∧Below w.heap.size w w':=by
 have hu34:=Tryz.underlying34;have HR0:=aS hr0;have HC0:=aS hc0;clear hr0 hc0;have HB:=aS (Below.refl w.heap.size w);have H:((br.f k l0 a1 a2 a3 (⟨#[]⟩:ByteArray) false).bind fun bt492=>(if bt492.1=(l0.length:Int) then (cA.j0 k l0 bt492.1 true) else (if 0≤bt492.1 then (if bt492.1<(l0.length:Int) then (if ((af l0 bt492.1).f0).toList=a1.toList then (cA.j0 k l0 bt492.1 (((af l0 bt492.1).f1).toList != a2.toList)) else (cA.j0 k l0 bt492.1 true)) else (none)) else (none))))=some (r1,r2,r3,r4,r5,r6):=h;clear h;replace H:=bU H;obtain ⟨⟨t492,t493⟩,A50,H⟩:=H;(try dsimp only at H);have A5:=aS A50;clear A50;have HC6:=aS H;clear H
 go_enter Tryz.func76,Tryz.ntmps76
 go_upto_region 2 with (first | ((with_reducible refine gD 8 ?_);refine dK 8 #[.string (⟨#[]⟩:ByteArray),.string (⟨#[]⟩:ByteArray),.int .i64 0,.string (⟨#[]⟩:ByteArray),.bool false] 34 ?_;intro gb491 hg w7 hbox hb;have BK491:=aS (hbox);have GW491:=bsize hg;have GE491:=bsize hg;replace HB:=aM hb;clear hb hbox hg) | ((with_reducible refine gC 46 ?_);refine dn 18 Tryz.func46 #[.slice A0 l0.length c0,.agg #[.string a1,.string a2,.int .i64 a3,.string (⟨#[]⟩:ByteArray),.bool false],.func (.func 47) #[] #[]] ?_;(with_reducible refine (br.calls k _ _ l0 a1 a2 a3 (⟨#[]⟩:ByteArray) false  t492 t493 _ ?side1 ?side2 A5.out).mono ?_);(case side1=>exact eH (Kd.cH HR0.out HB.out));(case side2=>exact HC0.out);rintro e w8 ⟨rfl,hb⟩;refine ⟨_,rfl,?_⟩;replace BK491:=fp BK491 hb;replace HB:=aM hb;(try clear hb);(try clear hk);(try clear hi)))
 (try simp only [Act.put,eI,eG,lss])
 go_cut [42] (fun v42 wc=>∃ (kq:Nat) (x42_5:Bool),v42 = .bool x42_5∧ah (cA.j0 kq l0 t492 x42_5=some (r1,r2,r3,r4,r5,r6))∧ah (kq≤k)∧ah (wc.heap[gb491]? = some (.cells #[.string (⟨#[]⟩:ByteArray),.string (⟨#[]⟩:ByteArray),.int .i64 0,.string (⟨#[]⟩:ByteArray),.bool false] 34 (0,0)))∧ah (Below w.heap.size w wc))
 case first=>
  have H:=HC6.out;clear HC6
  by_cases c9:t492=(l0.length:Int)
  ·
   rw [if_pos c9] at H;obtain ⟨c9b0,c9b1⟩:=jh c9;clear c9
   (first | rw [c9b0] | (simp only [cC,dw];rw [c9b0]) | skip)
   have H':=aS H
   clear H
   go_wp2
   go_meet
   case rel=>exact ⟨_,(true),cG,H',⟨by first | omega | exact Nat.le_refl _⟩,⟨eA BK491.out⟩,⟨aq⟩⟩
  ·
   rw [if_neg c9] at H;obtain ⟨c9b0,c9b1⟩:=iT c9
   (first | rw [c9b0] | (simp only [cC,dw];rw [c9b0]) | skip)
   by_cases ef:0≤t492
   ·
    rw [if_pos ef] at H;have c10b0:decide (0≤t492)=true:=decide_eq_true ef;clear ef
    by_cases c11:t492<(l0.length:Int)
    ·
     rw [if_pos c11] at H;have c11b0:decide (t492<(l0.length:Int))=true:=decide_eq_true c11;clear c11
     by_cases c12:((af l0 t492).f0).toList=a1.toList
     ·
      rw [if_pos c12] at H;obtain ⟨c12b0,c12b1⟩:=jh c12;clear c12
      have H':=aS H
      clear H;have p494:0≤(t492:Int):=bJ;have q494:t492<(l0.length:Int):=bJ;obtain ⟨ad494,e494,hx494_0,hx494_1,hx494_2,hx494_3,hx494_4⟩:=dN HR0.out t492 p494 q494;cases e494;replace hx494_0:=bx aq hx494_0;replace hx494_1:=bx aq hx494_1;replace hx494_2:=bx aq hx494_2;replace hx494_3:=bx aq hx494_3;replace hx494_4:=bx aq hx494_4;replace p494:=eq_true p494;replace q494:=eq_true q494;have p495:0≤(t492:Int):=bJ;have q495:t492<(l0.length:Int):=bJ;obtain ⟨ad495,e495,hx495_0,hx495_1,hx495_2,hx495_3,hx495_4⟩:=dN HR0.out t492 p495 q495
      obtain rfl:ad494=ad495:=(by injection e495)
      replace hx495_0:=bx aq hx495_0;replace hx495_1:=bx aq hx495_1;replace hx495_2:=bx aq hx495_2;replace hx495_3:=bx aq hx495_3;replace hx495_4:=bx aq hx495_4;replace p495:=eq_true p495;replace q495:=eq_true q495
      go_wp2
      go_meet
      case rel=>exact ⟨_,((((af l0 t492).f1).toList != a2.toList)),cG,H',⟨by first | omega | exact Nat.le_refl _⟩,⟨eA BK491.out⟩,⟨aq⟩⟩
     ·
      rw [if_neg c12] at H;obtain ⟨c12b0,c12b1⟩:=iT c12
      have H':=aS H
      clear H;have p494:0≤(t492:Int):=bJ;have q494:t492<(l0.length:Int):=bJ;obtain ⟨ad494,e494,hx494_0,hx494_1,hx494_2,hx494_3,hx494_4⟩:=dN HR0.out t492 p494 q494;cases e494;replace hx494_0:=bx aq hx494_0;replace hx494_1:=bx aq hx494_1;replace hx494_2:=bx aq hx494_2;replace hx494_3:=bx aq hx494_3;replace hx494_4:=bx aq hx494_4;replace p494:=eq_true p494;replace q494:=eq_true q494
      go_wp2
      go_meet
      case rel=>exact ⟨_,(true),cG,H',⟨by first | omega | exact Nat.le_refl _⟩,⟨eA BK491.out⟩,⟨aq⟩⟩
    ·
     rw [if_neg c11] at H;exact absurd H (by simp)
   ·
    rw [if_neg ef] at H;exact absurd H (by simp)
 case rest=>
  clear HC6;obtain ⟨kq,x42_5,rfl,HA,HJ5,BK491,HB⟩:=hcut
  cases kq with
  | zero=>exact absurd HA.out (by simp [cA.j0])
  | succ kj5=>
   have H:=HA.out;clear HA
   simp only [cA.j0] at H
   by_cases c13:x42_5=true
   ·
    subst c13
    replace H:=jy H
    simp only [Option.some.injEq,Prod.mk.injEq] at H
    obtain ⟨rfl,rfl,rfl,rfl,rfl,rfl⟩:=H;have hcz14:=cO BK491
    go_wp2
    refine bodyPost_ret (jN rfl _ _ gb491 34 #[.string (⟨#[]⟩:ByteArray),.string (⟨#[]⟩:ByteArray),.int .i64 0,.string (⟨#[]⟩:ByteArray),.bool false] (0,0) _ rfl (by (with_reducible repeat (first | refine ay ?_ _ | refine ar ?_ | refine ax ?_ _));refine bk (cs:=#[.string (⟨#[]⟩:ByteArray),.string (⟨#[]⟩:ByteArray),.int .i64 0,.string (⟨#[]⟩:ByteArray),.bool false]) ?_ 4 _ rfl;(with_reducible repeat (first | refine ay ?_ _ | refine ar ?_ | refine ax ?_ _));refine bk (cs:=#[.string (⟨#[]⟩:ByteArray),.string (⟨#[]⟩:ByteArray),.int .i64 0,.string (⟨#[]⟩:ByteArray),.bool false]) ?_ 3 _ rfl;(with_reducible repeat (first | refine ay ?_ _ | refine ar ?_ | refine ax ?_ _));refine bk (cs:=#[.string (⟨#[]⟩:ByteArray),.string (⟨#[]⟩:ByteArray),.int .i64 0,.string (⟨#[]⟩:ByteArray),.bool false]) ?_ 2 _ rfl;(with_reducible repeat (first | refine ay ?_ _ | refine ar ?_ | refine ax ?_ _));refine bk (cs:=#[.string (⟨#[]⟩:ByteArray),.string (⟨#[]⟩:ByteArray),.int .i64 0,.string (⟨#[]⟩:ByteArray),.bool false]) ?_ 1 _ rfl;(with_reducible repeat (first | refine ay ?_ _ | refine ar ?_ | refine ax ?_ _));refine bk (cs:=#[.string (⟨#[]⟩:ByteArray),.string (⟨#[]⟩:ByteArray),.int .i64 0,.string (⟨#[]⟩:ByteArray),.bool false]) ?_ 0 _ rfl;(with_reducible repeat (first | refine ay ?_ _ | refine ar ?_ | refine ax ?_ _));exact BK491.out) Tryz.underlying34 rfl (by kernel_rfl)) rfl ?_;exact ⟨dP,aq⟩
   ·
    replace c13:=Bool.eq_false_iff.mpr c13;subst c13
    replace H:=jw H
    by_cases c15:0≤t492
    ·
     rw [if_pos c15] at H;have c15b0:decide (0≤t492)=true:=decide_eq_true c15;clear c15
     by_cases c16:t492<(l0.length:Int)
     ·
      rw [if_pos c16] at H;have c16b0:decide (t492<(l0.length:Int))=true:=decide_eq_true c16;clear c16
      simp only [Option.some.injEq,Prod.mk.injEq] at H
      obtain ⟨rfl,rfl,rfl,rfl,rfl,rfl⟩:=H;have p496:0≤(t492:Int):=bJ;have q496:t492<(l0.length:Int):=bJ;obtain ⟨ad496,e496,hx496_0,hx496_1,hx496_2,hx496_3,hx496_4⟩:=dN HR0.out t492 p496 q496;cases e496;replace hx496_0:=bx aq hx496_0;replace hx496_1:=bx aq hx496_1;replace hx496_2:=bx aq hx496_2;replace hx496_3:=bx aq hx496_3;replace hx496_4:=bx aq hx496_4;replace p496:=eq_true p496;replace q496:=eq_true q496;have hcz17:=cO BK491
      go_wp2
      refine bodyPost_ret (jN rfl _ _ gb491 34 #[.string ((af l0 t492).f0),.string ((af l0 t492).f1),.int .i64 ((af l0 t492).f2),.string ((af l0 t492).f3),.bool ((af l0 t492).f4)] (0,0) _ rfl (by (with_reducible repeat (first | refine ay ?_ _ | refine ar ?_ | refine ax ?_ _));refine bk (cs:=#[.string ((af l0 t492).f0),.string ((af l0 t492).f1),.int .i64 ((af l0 t492).f2),.string ((af l0 t492).f3),.bool false]) ?_ 4 _ rfl;(with_reducible repeat (first | refine ay ?_ _ | refine ar ?_ | refine ax ?_ _));refine bk (cs:=#[.string ((af l0 t492).f0),.string ((af l0 t492).f1),.int .i64 ((af l0 t492).f2),.string (⟨#[]⟩:ByteArray),.bool false]) ?_ 3 _ rfl;(with_reducible repeat (first | refine ay ?_ _ | refine ar ?_ | refine ax ?_ _));refine bk (cs:=#[.string ((af l0 t492).f0),.string ((af l0 t492).f1),.int .i64 0,.string (⟨#[]⟩:ByteArray),.bool false]) ?_ 2 _ rfl;(with_reducible repeat (first | refine ay ?_ _ | refine ar ?_ | refine ax ?_ _));refine bk (cs:=#[.string ((af l0 t492).f0),.string (⟨#[]⟩:ByteArray),.int .i64 0,.string (⟨#[]⟩:ByteArray),.bool false]) ?_ 1 _ rfl;(with_reducible repeat (first | refine ay ?_ _ | refine ar ?_ | refine ax ?_ _));refine bk (cs:=#[.string (⟨#[]⟩:ByteArray),.string (⟨#[]⟩:ByteArray),.int .i64 0,.string (⟨#[]⟩:ByteArray),.bool false]) ?_ 0 _ rfl;(with_reducible repeat (first | refine ay ?_ _ | refine ar ?_ | refine ax ?_ _));exact BK491.out) Tryz.underlying34 rfl (by kernel_rfl)) rfl ?_;exact ⟨dP,aq⟩
     ·
      rw [if_neg c16] at H;exact absurd H (by simp)
    ·
     rw [if_neg c15] at H;exact absurd H (by simp)
theorem pW.calls (k g base:Nat) (xs:List au) (n:Int) (v:Value) (a1 a2:ByteArray) (a3:Int) (r1 r2:ByteArray) (r3:Int) (r4:ByteArray) (r5 r6:Bool) (w:World) (hA:cg.At w base g xs n v) (h:cA.f k xs a1 a2 a3=some (r1,r2,r3,r4,r5,r6)) :
  Calls Tryz.prog 54 #[.pointer (some ⟨g,0,none⟩),.string a1,.string a2,.int .i64 a3] w fun e w'=>e = .returned (.tuple #[.agg #[.string r1,.string r2,.int .i64 r3,.string r4,.bool r5],.bool r6])∧Below w.heap.size w w':=by
 have hu46:=Tryz.underlying78;have hu29:=Tryz.underlying34;obtain ⟨A,cc,rfl,hcl,hC⟩:=hA.rows;have B:=aS hA.2.1;have HC:=aS hC;have HL:=aS hcl;have X:=aS h;clear hA hcl hC h
 go_enter Tryz.func54,Tryz.ntmps54
 go_upto_region 1 with ((with_reducible refine gD 8 ?_);refine dK 8 #[.string ⟨#[]⟩,.string ⟨#[]⟩,.int .i64 0,.string ⟨#[]⟩,.bool false] 34 ?_;intro p3 hg w1 hb hbl;have B3:=aS hb;have GE:ah (w.heap.size≤p3):=aS (by rw [hg];exact Nat.le_refl _);have HB:=aS hbl;have B1:=aS (aI B.out hbl);have HC1:=aS (Kd.cH HC.out hbl);clear hg hb hbl B HC)
 have q0:=Eb B1
 go_wp2_with (first | (go_at_call 76;(with_reducible refine (cA.calls k A cc xs a1 a2 a3 r1 r2 r3 r4 r5 r6 _ HC1.out HL.out X.out).mono ?_);rintro e_ w2 ⟨rfl,hb⟩;have B4:=aS (aI B3.out hb);have HB2:=aS (aE HB.out hb);clear B3 HB hb) | ((with_reducible refine dO (t:=34) (p:=8) rfl ?_);refine wpList_store_row rfl 34 _ _ rfl p3 #[.string r1,.string r2,.int .i64 r3,.string r4,.bool r5] rfl rfl 34 _ B4.out (by kernel_rfl) rfl (by kernel_rfl) ?_;have B5:=aS (setRow_heap w2 p3 _ #[.string r1,.string r2,.int .i64 r3,.string r4,.bool r5] _ _ B4.out);have HB3:=aS (cV HB2.out GE.out #[.string r1,.string r2,.int .i64 r3,.string r4,.bool r5]);clear B4 HB2;generalize World.setRow w2 p3 #[.string r1,.string r2,.int .i64 r3,.string r4,.bool r5]=w3 at B5 HB3 ⊢;have q5:=cO B5))
 try simp only [Exit.inBlock,Exit.then]
 refine bodyPost_ret (jN rfl _ _ p3 34 #[.string r1,.string r2,.int .i64 r3,.string r4,.bool r5] (0,0) _ rfl B5.out hu29 rfl (by kernel_rfl)) rfl ?_;exact ⟨rfl,HB3.out⟩
def dM.l0:Nat→List Int→List Int→Int→Int→Option (Bool)
 | 0,_,_,_,_=>none
 | k+1,x0,x14,x15,x16=>if x16<x15 then (if 0≤x16 then (if x16<(x14.length:Int) then (if 0≤(wrap64 (Int.tdiv (rd x14 x16) 8)) then (if (wrap64 (Int.tdiv (rd x14 x16) 8))<(x0.length:Int) then (if 0≤(Int.tmod (rd x14 x16) 8) then (if (Go.bits .and .u8 (shr .u8 (rd x0 (wrap64 (Int.tdiv (rd x14 x16) 8))) (Int.tmod (rd x14 x16) 8)) 1)=0 then (some false) else (dM.l0 k x0 x14 x15 (wrap64 (x16+1)))) else (none)) else (none)) else (none)) else (none)) else (none)) else (some true)
def dM.f (k:Nat) (l0:List Int) (a1:ByteArray):Option (Bool):=if (l0.length:Int)=0 then (some true) else ((cL.f k a1 (wrap64 (8*(l0.length:Int)))).bind fun t497=>(dM.l0 k l0 t497 (t497.length:Int) 0))
theorem dM.cF:∀ k,(∀ y0 y1 y2 y3,aH (dM.l0 k y0 y1 y2 y3) (dM.l0 (k+1) y0 y1 y2 y3))
 | 0=>fun _ _ _ _ r h=>by simp [dM.l0] at h
 | k+1=>by
  have ih0:=dM.cF k
  ·
   intro y0 y1 y2 y3
   unfold dM.l0
   have m0:=@cL.mono;exact eF
theorem dM.mono:∀ a0 a1 k,aH (dM.f k a0 a1) (dM.f (k+1) a0 a1):=by
 intro a0 a1 k
 have ih0:=dM.cF k
 unfold dM.f
 have m0:=@cL.mono;exact eF
theorem dM.calls (k:Nat) (A0:Option Addr) (c0:Nat) (l0:List Int) (a1:ByteArray) (r:Bool) (w:World) (hr0:Kd.C (Kd.int .u8) w A0 l0.length l0) (hc0:l0.length≤c0) (h:dM.f k l0 a1=some r) :
  Calls Tryz.prog 95 #[.slice A0 l0.length c0,.string a1] w fun e w'=>e = .returned (.bool r)∧Below w.heap.size w w':=by
 have HR0:=aS hr0;have HC0:=aS hc0;clear hr0 hc0;have HB:=aS (Below.refl w.heap.size w);have H:(if (l0.length:Int)=0 then (some true) else ((cL.f k a1 (wrap64 (8*(l0.length:Int)))).bind fun t497=>(dM.l0 k l0 t497 (t497.length:Int) 0)))=some r:=h;clear h
 by_cases c3:(l0.length:Int)=0
 ·
  rw [if_pos c3] at H;obtain ⟨c3b0,c3b1⟩:=jh c3;clear c3
  obtain rfl:=Option.some.inj H
  go_enter Tryz.func95,Tryz.ntmps95
  go_wp2
  go_ret
  exact ⟨dP,aq⟩
 ·
  rw [if_neg c3] at H;obtain ⟨c3b0,c3b1⟩:=iT c3
  have c3b2:¬ (l0=[]):=fun h_=>c3 (by rw [h_];rfl)
  replace H:=bU H;obtain ⟨t497,A40,H⟩:=H;have A4:=aS A40;clear A40
  have H':=aS H
  clear H
  go_enter Tryz.func95,Tryz.ntmps95
  go_wp2_with (first | ((with_reducible refine gC 101 ?_);refine dn 14 Tryz.func101 #[.string a1,.int .i64 (wrap64 (8*(l0.length:Int)))] ?_;(with_reducible refine (cL.calls k a1 (wrap64 (8*(l0.length:Int))) t497 _ A4.out).mono ?_);rintro e w5 ⟨v498,rfl,ho0,hb⟩;refine ⟨_,rfl,?_⟩;have HO499:=aS (Kd.bn ho0 (aA aq));replace HB:=aM hb;(try clear hb);(try clear hk);(try clear hi);(try clear ho0);obtain ⟨Ao6,co6,eo6⟩:=Kd.bp HO499.out;subst eo6))
  go_loopg [16] k (fun kq v16 w'=>∃ (x16_1:Int),v16 = .int .i64 x16_1∧ah (dM.l0 kq l0 t497 (t497.length:Int) x16_1=some r)∧ah (kq≤k)∧ah (Kd.R (Kd.int .i64) 3 w' w.heap.size (fun _=>True) (.slice Ao6 t497.length co6) t497)∧ah (Below w.heap.size w w'))
  case atStart=>exact ⟨(0),cG,H',⟨Nat.le_refl _⟩,⟨by (with_reducible repeat (first | apply Kd.bB | apply Kd.bC | apply Kd.bD));exact HO499.out⟩,⟨aq⟩⟩
  case round=>
   clear H';(try clear c3);(try clear c3b0);(try clear c3b1);(try clear c3b2);obtain ⟨x16_1,rfl,HA,HK1,HO_14,HB⟩:=hrel
   cases gk with
   | zero=>exact absurd HA.out (by simp [dM.l0])
   | succ k1=>
    have H:=HA.out;clear HA
    simp only [dM.l0] at H
    by_cases c7:x16_1<(t497.length:Int)
    ·
     rw [if_pos c7] at H;have c7b0:decide (x16_1<(t497.length:Int))=true:=decide_eq_true c7;clear c7
     by_cases c8:0≤x16_1
     ·
      rw [if_pos c8] at H;have c8b0:decide (0≤x16_1)=true:=decide_eq_true c8;clear c8
      by_cases c9:x16_1<(t497.length:Int)
      ·
       rw [if_pos c9] at H;have c9b0:decide (x16_1<(t497.length:Int))=true:=decide_eq_true c9;clear c9
       obtain ⟨ji10,hji10⟩:∃ j_:Int,(wrap64 (Int.tdiv (rd t497 x16_1) 8))=j_:=⟨_,rfl⟩
       replace H:(if 0≤(ji10) then (if (ji10)<(l0.length:Int) then (if 0≤(Int.tmod (rd t497 x16_1) 8) then (if (Go.bits .and .u8 (shr .u8 (rd l0 (ji10)) (Int.tmod (rd t497 x16_1) 8)) 1)=0 then (some false) else (dM.l0 k1 l0 t497 (t497.length:Int) (wrap64 (x16_1+1)))) else (none)) else (none)) else (none))=some r:=by first | (rw [hji10] at H;exact H) | (simp only [hji10] at H ⊢;exact H)
       have hji10w:(IntKind.i64.wrap (Int.tdiv (rd t497 x16_1) 8))=ji10:=(cC _).trans hji10
       by_cases c11:0≤(ji10)
       ·
        rw [if_pos c11] at H;have c11b0:decide (0≤(ji10))=true:=decide_eq_true c11;clear c11
        by_cases c12:(ji10)<(l0.length:Int)
        ·
         rw [if_pos c12] at H;have c12b0:decide ((ji10)<(l0.length:Int))=true:=decide_eq_true c12;clear c12
         obtain ⟨ji13,hji13⟩:∃ j_:Int,(Int.tmod (rd t497 x16_1) 8)=j_:=⟨_,rfl⟩
         replace H:(if 0≤(ji13) then (if (Go.bits .and .u8 (shr .u8 (rd l0 (ji10)) (ji13)) 1)=0 then (some false) else (dM.l0 k1 l0 t497 (t497.length:Int) (wrap64 (x16_1+1)))) else (none))=some r:=by first | (rw [hji13] at H;exact H) | (simp only [hji13] at H ⊢;exact H)
         by_cases c14:0≤(ji13)
         ·
          rw [if_pos c14] at H;have c14b0:=eq_true c14;have c14b1:decide (0≤(ji13))=true:=decide_eq_true c14;clear c14
          obtain ⟨ji15,hji15⟩:∃ j_:Int,(shr .u8 (rd l0 (ji10)) (ji13))=j_:=⟨_,rfl⟩
          replace H:(if (Go.bits .and .u8 (ji15) 1)=0 then (some false) else (dM.l0 k1 l0 t497 (t497.length:Int) (wrap64 (x16_1+1))))=some r:=by first | (rw [hji15] at H;exact H) | (simp only [hji15] at H ⊢;exact H)
          have hji15_:((rd l0 (ji10)) / 2 ^ min (ji13).toNat 8)=ji15:=hji15;have hji15z:(ji13)≤8→((rd l0 (ji10)) / 2 ^ (ji13).toNat)=ji15:=CG hji15
          by_cases c16:(Go.bits .and .u8 (ji15) 1)=0
          ·
           rw [if_pos c16] at H;obtain ⟨c16b0,c16b1⟩:=jh c16;clear c16
           obtain rfl:=Option.some.inj H
           have p500:0≤(x16_1:Int):=bJ;have q500:x16_1<(t497.length:Int):=bJ;obtain ⟨ad500,e500,hx500_0⟩:=Kd.iZ (Kd.aY HO_14.out).2.2 x16_1 p500 q500;cases e500;replace p500:=eq_true p500;replace q500:=eq_true q500;have p501:0≤((ji10):Int):=bJ;have q501:(ji10)<(l0.length:Int):=bJ;obtain ⟨ad501,e501,hx501_0⟩:=Kd.iZ HR0.out (ji10) p501 q501;cases e501;replace hx501_0:=bx aq hx501_0;replace p501:=eq_true p501;replace q501:=eq_true q501
           go_wp2
           go_ret
           exact ⟨by first | rfl | (simp [iY,ja]<;>rfl) | (simp only [←hji10,← hji13,← hji15];first | rfl | (simp [iY,ja]<;>rfl)) | (simp [*,iY,ja]<;>rfl),aq⟩
          ·
           rw [if_neg c16] at H;obtain ⟨c16b0,c16b1⟩:=iT c16
           have H':=aS H
           clear H;have p500:0≤(x16_1:Int):=bJ;have q500:x16_1<(t497.length:Int):=bJ;obtain ⟨ad500,e500,hx500_0⟩:=Kd.iZ (Kd.aY HO_14.out).2.2 x16_1 p500 q500;cases e500;replace p500:=eq_true p500;replace q500:=eq_true q500;have p501:0≤((ji10):Int):=bJ;have q501:(ji10)<(l0.length:Int):=bJ;obtain ⟨ad501,e501,hx501_0⟩:=Kd.iZ HR0.out (ji10) p501 q501;cases e501;replace hx501_0:=bx aq hx501_0;replace p501:=eq_true p501;replace q501:=eq_true q501
           go_wp2
           go_roundg k1
           case measure=>have:=HK1.out;omega
           case rel=>exact ⟨(wrap64 (x16_1+1)),cG,H',⟨by have:=HK1.out;omega⟩,⟨by (with_reducible repeat (first | apply Kd.bB | apply Kd.bC | apply Kd.bD));exact HO_14.out⟩,⟨aq⟩⟩
         ·
          rw [if_neg c14] at H;exact absurd H (by simp)
        ·
         rw [if_neg c12] at H;exact absurd H (by simp)
       ·
        rw [if_neg c11] at H;exact absurd H (by simp)
      ·
       rw [if_neg c9] at H;exact absurd H (by simp)
     ·
      rw [if_neg c8] at H;exact absurd H (by simp)
    ·
     rw [if_neg c7] at H;have c7b0:decide (x16_1<(t497.length:Int))=false:=decide_eq_false c7;clear c7
     obtain rfl:=Option.some.inj H
     go_wp2
     go_ret
     exact ⟨dP,aq⟩
def eU.f (k:Nat) (fl:List Int) (a b:ByteArray):Option Bool:=(fk.f a b).bind fun s=>dM.f k fl s
theorem eU.mono:∀ a0 a1 a2 k,aH (eU.f k a0 a1 a2) (eU.f (k+1) a0 a1 a2):=fun _ _ _ _=>aH.bind (aH.refl _) fun _=>dM.mono _ _ _
theorem eU.calls (k:Nat) (g base:Nat) (l:List au) (bs:List (List au)) (fl:List Int) (a b:ByteArray) (r:Bool) (w:World) (hA:aJ.At w base g l bs fl) (h:eU.f k fl a b=some r) :
  Calls Tryz.prog 77 #[.pointer (some ⟨g,0,none⟩),.string a,.string b] w fun e w'=>e = .returned (.bool r)∧Below w.heap.size w w':=by
 have hu26:=Tryz.underlying51;have hu22:=Tryz.underlying32;have hu39:=Tryz.underlying73;have hu70:=Tryz.underlying111;have hu42:=Tryz.underlying34;obtain ⟨vl,vb,vf,hA⟩:=hA;obtain ⟨Al,cl,rfl⟩:=Kd.bp hA.hl;obtain ⟨Ab,cb,rfl⟩:=Kd.bp hA.hb;obtain ⟨Af,cf,rfl⟩:=Kd.bp hA.hf;have HV:=aS hA;clear hA
 unfold eU.f at h
 replace h:=bU h;obtain ⟨s,x1,h⟩:=h;have X1:=aS x1;have X2:=aS h;have HB:=aS (Below.refl w.heap.size w);clear x1 h
 go_enter Tryz.func77,Tryz.ntmps77
 go_upto_region 1 with (fail)
 refine di (n:=9) (ds:=[]) (S:=fun w'=>w'.cell? ⟨g,2,none⟩=some (.slice Af fl.length cf)) (bA 9 0) (by kernel_rfl) rfl rfl ((aC (ar HV.out.cU) 2).trans rfl) (fun hHeld=>?_)
 generalize hw_:World.drew _=wd at hHeld ⊢
 have HVd:ah (aJ.oD wd base g _ _ _ l bs fl):=aS (hw_▸HV.out.below (bH (Below.refl _ _)));have HBd:ah (Below w.heap.size w wd):=aS (hw_▸aE HB.out (bH (Below.refl _ _)));clear hw_ HV HB;refine cD (T:=(true,[([],[]),([0],[0]),([1],[1]),([2],[2]),([],[]),([],[]),([4,5],[4,5]),([3,6,6],[3,6]),([7,7,0,1,2,3,4,5,6,7],[7])])) (B:=[0,1,3,7,0,0,48,127,255]) (by kernel_rfl) (by kernel_rfl) (fun HT_ HW_=>?_);refine aZ [(0,7),(1,8),(2,9)] ?_
 iterate 3 (refine ck HT_ ?_)
 refine bT (bA 9 7) (by kernel_rfl) ?_;refine aZ [(3,10)] ?_
 iterate 1 (refine dY HT_ HW_ hHeld ?_)
 refine bT (bA 9 15) (by kernel_rfl) ?_;refine aZ [(4,11),(5,12)] ?_
 iterate 2 (refine ck HT_ ?_)
 refine bT (bA 9 63) (by kernel_rfl) ?_;refine dH 6 (N:=some 13) (bA 9 127) HT_ (fun K hK=>?_);refine gb Tryz.func90 #[.string a,.string b] ?_
 with_reducible refine (fk.calls a b s _ X1.out).mono ?_
 rintro e_ w2 ⟨rfl,hb⟩
 refine ⟨_,rfl,?_⟩;have HV:=aS (HVd.out.below hb);have HB:=aS (aE HBd.out hb);clear hb HVd HBd;refine hK.out _ _ ((aC HV.out.cU 2).trans rfl) (fun hHeld=>?_);clear hK K;refine nm 13 ?_;refine dH 7 (N:=some 14) (bA 9 255) HT_ (fun K hK=>?_);refine gb Tryz.func95 #[.slice Af fl.length cf,.string s] ?_
 with_reducible refine (dM.calls k Af cf fl s r _ (Kd.aY HV.out.hf).2.2 (Kd.aY HV.out.hf).2.1 X2.out).mono ?_
 rintro e_ w3 ⟨rfl,hb⟩
 refine ⟨_,rfl,?_⟩;have HVd:=aS (HV.out.below hb);have HBd:=aS (aE HB.out hb);clear hb HV HB;refine hK.out _ _ ((aC HVd.out.cU 2).trans rfl) (fun hHeld=>?_);clear hK K;refine nm 14 ?_;refine aZ [(8,6)] ?_
 iterate 1 (refine ck HT_ ?_)
 refine bT (bA 9 511) (by kernel_rfl) ?_;refine fX HT_ ?_;clear HT_ HW_ hHeld
 try go_wp2
 go_ret
 exact ⟨rfl,HBd.out⟩
def cB.f (k:Nat) (l0:List (au)) (a1_0:ByteArray) (a1_1:ByteArray) (a1_2:Int) (a1_3:ByteArray) (a1_4:Bool):Option (Int):=if 0≤(wrap64 ((l0.length:Int) - 1)) then (if (wrap64 ((l0.length:Int) - 1))<(l0.length:Int) then ((bR.f k ((af l0 (wrap64 ((l0.length:Int) - 1))).f0) ((af l0 (wrap64 ((l0.length:Int) - 1))).f1) ((af l0 (wrap64 ((l0.length:Int) - 1))).f2) ((af l0 (wrap64 ((l0.length:Int) - 1))).f3) ((af l0 (wrap64 ((l0.length:Int) - 1))).f4) a1_0 a1_1 a1_2 a1_3 a1_4).bind fun t504=>(some t504)) else (none)) else (none)
theorem cB.mono:∀ a0 a1 a2 a3 a4 a5 k,aH (cB.f k a0 a1 a2 a3 a4 a5) (cB.f (k+1) a0 a1 a2 a3 a4 a5):=by
 intro a0 a1 a2 a3 a4 a5 k
 unfold cB.f
 have m0:=@bR.mono;exact eF
def cB.T1:Bool × List (List Nat × List Nat):=(true,[([],[]),([],[]),([1],[1]),([2],[2]),([0,3],[0,3]),([4],[4]),([],[]),([5,6],[5,6]),([7,7,0,1,2,3,4,5,6,7],[7])])
def cB.B1:List Nat:=[0,0,2,6,15,31,0,127,255]
theorem cB.rq:e9 .any (opsOf Tryz.f79 1)=cB.T1:=by kernel_rfl
theorem cB.oK:gj cB.T1.2 cB.B1=true:=by kernel_rfl
theorem cB.calls (k:Nat) (A0:Option Addr) (c0:Nat) (l0:List (au)) (a1_0:ByteArray) (a1_1:ByteArray) (a1_2:Int) (a1_3:ByteArray) (a1_4:Bool) (r:Int) (w:World) (hr0:Kd.C cm w A0 l0.length l0) (hc0:l0.length≤c0) (h:cB.f k l0 a1_0 a1_1 a1_2 a1_3 a1_4=some r) :
  Calls Tryz.prog 79 #[.slice A0 l0.length c0,.agg #[.string a1_0,.string a1_1,.int .i64 a1_2,.string a1_3,.bool a1_4]] w fun e w'=>e = .returned (.int .i64 r)∧Below w.heap.size w w':=by
 have hu34:=Tryz.underlying34;have HR0:=aS hr0;have HC0:=aS hc0;clear hr0 hc0;have HB:=aS (Below.refl w.heap.size w);have H:(if 0≤(wrap64 ((l0.length:Int) - 1)) then (if (wrap64 ((l0.length:Int) - 1))<(l0.length:Int) then ((bR.f k ((af l0 (wrap64 ((l0.length:Int) - 1))).f0) ((af l0 (wrap64 ((l0.length:Int) - 1))).f1) ((af l0 (wrap64 ((l0.length:Int) - 1))).f2) ((af l0 (wrap64 ((l0.length:Int) - 1))).f3) ((af l0 (wrap64 ((l0.length:Int) - 1))).f4) a1_0 a1_1 a1_2 a1_3 a1_4).bind fun t504=>(some t504)) else (none)) else (none))=some r:=h;clear h
 obtain ⟨ji3,hji3⟩:∃ j_:Int,(wrap64 ((l0.length:Int) - 1))=j_:=⟨_,rfl⟩
 replace H:(if 0≤(ji3) then (if (ji3)<(l0.length:Int) then ((bR.f k ((af l0 (ji3)).f0) ((af l0 (ji3)).f1) ((af l0 (ji3)).f2) ((af l0 (ji3)).f3) ((af l0 (ji3)).f4) a1_0 a1_1 a1_2 a1_3 a1_4).bind fun t504=>(some t504)) else (none)) else (none))=some r:=by first | (rw [hji3] at H;exact H) | (simp only [hji3] at H ⊢;exact H)
 have hji3w:(IntKind.i64.wrap ((l0.length:Int) - 1))=ji3:=(cC _).trans hji3
 by_cases c4:0≤(ji3)
 ·
  rw [if_pos c4] at H;have c4b0:decide (0≤(ji3))=true:=decide_eq_true c4;clear c4
  by_cases c5:(ji3)<(l0.length:Int)
  ·
   rw [if_pos c5] at H;have c5b0:decide ((ji3)<(l0.length:Int))=true:=decide_eq_true c5;clear c5;replace H:=bU H;obtain ⟨t504,A60,H⟩:=H;have A6:=aS A60;clear A60
   obtain rfl:=Option.some.inj H
   go_enter Tryz.func79,Tryz.ntmps79
   try go_wp2_with (first | ((with_reducible refine gD 3 ?_);refine dK 3 #[.string a1_0,.string a1_1,.int .i64 a1_2,.string a1_3,.bool a1_4] 34 ?_;intro gb502 hg w7 hbox hb;have BK502:=aS (hbox);have GW502:=bsize hg;have GE502:=bsize hg;replace HB:=aM hb;clear hb hbox hg))
   replace BK502:=aS (ar BK502.out);replace HB:=aS (jS HB.out);have p503:0≤((ji3):Int):=bJ;have q503:(ji3)<(l0.length:Int):=bJ;obtain ⟨ad503,e503,hx503_0,hx503_1,hx503_2,hx503_3,hx503_4⟩:=dN HR0.out (ji3) p503 q503;have hw503_4:=hx503_4;have hw503_3:=hx503_3;have hw503_2:=hx503_2;have hw503_1:=hx503_1;have hw503_0:=hx503_0;cases e503;replace hx503_0:=bx aq hx503_0;replace hx503_1:=bx aq hx503_1;replace hx503_2:=bx aq hx503_2;replace hx503_3:=bx aq hx503_3;replace hx503_4:=bx aq hx503_4;replace p503:=eq_true p503;replace q503:=eq_true q503;refine di (n:=9) (S:=fun w'=>w'.cell? ⟨gb502,0,none⟩=some (.string a1_0)∧w'.cell? ⟨gb502,1,none⟩=some (.string a1_1)∧w'.cell? ⟨gb502,2,none⟩=some (.int .i64 a1_2)∧w'.cell? ⟨gb502,3,none⟩=some (.string a1_3)∧w'.cell? ⟨gb502,4,none⟩=some (.bool a1_4)∧w'.cell? (ad503.add (((ji3)).toNat*5))=some (.string ((af l0 (ji3)).f0))∧w'.cell? ⟨(ad503.add (((ji3)).toNat*5)).block,(ad503.add (((ji3)).toNat*5)).off+1,none⟩=some (.string ((af l0 (ji3)).f1))∧w'.cell? ⟨(ad503.add (((ji3)).toNat*5)).block,(ad503.add (((ji3)).toNat*5)).off+2,none⟩=some (.int .i64 ((af l0 (ji3)).f2))∧w'.cell? ⟨(ad503.add (((ji3)).toNat*5)).block,(ad503.add (((ji3)).toNat*5)).off+3,none⟩=some (.string ((af l0 (ji3)).f3))∧w'.cell? ⟨(ad503.add (((ji3)).toNat*5)).block,(ad503.add (((ji3)).toNat*5)).off+4,none⟩=some (.bool ((af l0 (ji3)).f4))) (ds:=[]) (bA 9 0) (by kernel_rfl) rfl rfl ⟨bc BK502 0,bc BK502 1,bc BK502 2,bc BK502 3,bc BK502 4,(bx aq hw503_0),(bx aq hw503_1),(bx aq hw503_2),(bx aq hw503_3),(bx aq hw503_4)⟩ (fun hHeld=>?_);refine cD cB.rq cB.oK (fun HT_ HW_=>?_)
   generalize w7.drew=w8 at BK502 HB hx503_0 hx503_1 hx503_2 hx503_3 hx503_4 hHeld ⊢
   refine aZ [(0,5),(1,6),(2,7),(3,8),(4,9),(5,10),(6,11)] ?_
   iterate 7 (first | (refine ck HT_ ?_) | (refine dY HT_ HW_ hHeld ?_))
   refine bT (bA 9 127) (by kernel_rfl) ?_;refine dH 7 (N:=some 12) (bA 9 255) HT_ (fun K hK=>?_);refine Ba Tryz.func47 (by kernel_rfl) rfl #[.agg #[.string ((af l0 (ji3)).f0),.string ((af l0 (ji3)).f1),.int .i64 ((af l0 (ji3)).f2),.string ((af l0 (ji3)).f3),.bool ((af l0 (ji3)).f4)],.agg #[.string a1_0,.string a1_1,.int .i64 a1_2,.string a1_3,.bool a1_4]] (by rfl) rfl rfl (by (try simp only [List.map_toArray,List.map_cons,List.map_nil]);first | done | (simp only [hji3];rfl) | rfl | (simp only [mh,kY];rfl)) ?_
   with_reducible refine (bR.calls k ((af l0 (ji3)).f0) ((af l0 (ji3)).f1) ((af l0 (ji3)).f2) ((af l0 (ji3)).f3) ((af l0 (ji3)).f4) a1_0 a1_1 a1_2 a1_3 a1_4 t504 _ A6.out).mono ?_
   rintro e w9 ⟨rfl,hb⟩
   refine ⟨_,rfl,?_⟩;replace BK502:=fp BK502 hb;replace HB:=aM hb;(try clear hb);(try clear hk);(try clear hi);refine hK.out _ _ ⟨bc BK502 0,bc BK502 1,bc BK502 2,bc BK502 3,bc BK502 4,(bx aq hw503_0),(bx aq hw503_1),(bx aq hw503_2),(bx aq hw503_3),(bx aq hw503_4)⟩ (fun hHeld=>?_);clear hK K;refine nm 12 ?_;refine wj 8 4 (bA 9 511) HT_ ?_
   refine fX HT_ ?_
   try go_wp2
   go_ret
   exact ⟨by first | rfl | (simp [iY,ja]<;>rfl) | (simp only [←hji3];first | rfl | (simp [iY,ja]<;>rfl)) | (simp [*,iY,ja]<;>rfl),aq⟩
  ·
   rw [if_neg c5] at H;exact absurd H (by simp)
 ·
  rw [if_neg c4] at H;exact absurd H (by simp)
end Go.Proofs.YtcbhfedcdnjljaaGreat.X

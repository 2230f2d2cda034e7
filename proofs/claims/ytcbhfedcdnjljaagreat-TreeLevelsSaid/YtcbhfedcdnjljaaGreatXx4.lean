import Derived.Test.YtcbhfedcdnjljaaGreatXx3
set_option maxHeartbeats 8000000
set_option maxRecDepth 100000
set_option linter.unusedVariables false
set_option linter.unusedSimpArgs false
namespace Go.Proofs.YtcbhfedcdnjljaaGreat.X
open Go.RowKit Go.Proofs.YtcbhfedcdnjljaaGreatW.PrintWords Go.Proofs.YtcbhfedcdnjljaaGreatW.PrintLast Go.Proofs.YtcbhfedcdnjljaaGreatW.PrintMore
attribute [local go_sem] gZ g_ iW iZ gF gD ic ig iX
def cU.l0:Nat→List Int→List Int→List Int→List (List (av))→Int→Int→Option (List Int × List Int × Int)
 | 0,_,_,_,_,_,_=>none
 | k+1,x1,x7,x8,x16,x17,x18=>if x18<x17 then (if 0≤x18 then (if x18<(x16.length:Int) then ((cJ.f k (aQ x16 x18)).bind fun bt198=>(if bt198.2=0 then (if 0<((aQ x16 x18).length:Int) then ((nS.f ((af (aQ x16 x18) 0).f0) ((af (aQ x16 x18) 0).f1) ((af (aQ x16 x18) 0).f2) ((af (aQ x16 x18) 0).f3) ((af (aQ x16 x18) 0).f4)).bind fun bt203=>((dn.f bt203.1 bt203.2.1 bt203.2.2.1 bt203.2.2.2.1 bt203.2.2.2.2).bind fun t208=>((eH.f (x7.length:Int)).bind fun t211=>((cw.f (([x8,t208,t211]:List (List Int)))).bind fun t217=>(if x7.length+bt198.1.length<140737488355328 then (cU.l0 k x1 (x7++bt198.1) t217 x16 x17 (wrap64 (x18+1))) else (none)))))) else (none)) else (some (([]:List Int),([]:List Int),bt198.2)))) else (none)) else (none)) else ((eD.f (strOfNums x1)).bind fun t223=>(if x8.length+t223.length<140737488355328 then ((fw.f k (x8++t223)).bind fun t229=>(if (t229.length:Int)=0 then (some (([]:List Int),([]:List Int),1)) else (some (x7,t229,0)))) else (none)))
def cU.f (k:Nat) (l0:List (List (av))) (l1:List Int):Option (List Int × List Int × Int):=(eH.f (l0.length:Int)).bind fun t194=>(cU.l0 k l1 ([]:List Int) t194 l0 (l0.length:Int) 0)
theorem cU.cP:∀ k,(∀ y0 y1 y2 y3 y4 y5,aE (cU.l0 k y0 y1 y2 y3 y4 y5) (cU.l0 (k+1) y0 y1 y2 y3 y4 y5))
 | 0=>fun _ _ _ _ _ _ r h=>by simp [cU.l0] at h
 | k+1=>by
  have ih0:=cU.cP k
  ·
   intro y0 y1 y2 y3 y4 y5
   unfold cU.l0
   have m0:=@cJ.mono;have m1:=@fw.mono;exact e8
theorem cU.mono:∀ a0 a1 k,aE (cU.f k a0 a1) (cU.f (k+1) a0 a1):=by
 intro a0 a1 k
 have ih0:=cU.cP k
 unfold cU.f
 have m0:=@cJ.mono;have m1:=@fw.mono;exact e8
theorem cU.calls (k:Nat) (A0:Option Addr) (c0:Nat) (l0:List (List (av))) (A1:Option Addr) (c1:Nat) (l1:List Int) (r1:List Int) (r2:List Int) (r3:Int) (w:World) (hr0:Kd.C (Kd.slice 34 cC) w A0 l0.length l0) (hc0:l0.length≤c0) (hr1:Kd.C (Kd.int .u8) w A1 l1.length l1) (hc1:l1.length≤c1) (h:cU.f k l0 l1=some (r1,r2,r3)) :
  Calls Tryz.prog 89 #[.slice A0 l0.length c0,.slice A1 l1.length c1] w fun e w'=>∃ v0_ v1_:Value,e = .returned (.tuple #[v0_,v1_,.int .i64 r3])∧Kd.R (Kd.int .u8) 5 w' w.heap.size (fun k_=>some k_≠(v1_:Value).ownBlock) v0_ r1∧Kd.R (Kd.int .u8) 5 w' w.heap.size (fun k_=>some k_≠(v0_:Value).ownBlock) v1_ r2∧Below w.heap.size w w':=by
 have hu34:=Tryz.underlying34;have HR0:=aS hr0;have HC0:=aS hc0;clear hr0 hc0;have HR1:=aS hr1;have HC1:=aS hc1;clear hr1 hc1;have HB:=aS (Below.refl w.heap.size w);have H:((eH.f (l0.length:Int)).bind fun t194=>(cU.l0 k l1 ([]:List Int) t194 l0 (l0.length:Int) 0))=some (r1,r2,r3):=h;clear h;replace H:=bV H;obtain ⟨t194,A30,H⟩:=H;have A3:=aS A30;clear A30
 have H':=aS H
 clear H
 go_enter Tryz.func89,Tryz.ntmps89
 go_wp2_with (first | ((with_reducible refine aC (f:=86) rfl ?_);refine bE (some 15) rfl rfl Tryz.func86 (by kernel_rfl) rfl #[.int .i64 (l0.length:Int)] rfl cD ?_;(with_reducible refine (eH.calls (l0.length:Int) t194 _ A3.out).mono ?_);rintro e w4 ⟨v195,rfl,ho0,hb⟩;refine ⟨_,rfl,?_⟩;have HO196:=aS (Kd.bf ho0 (ay ar));replace HB:=aM hb;(try clear hb);(try clear hk);(try clear hi);(try clear ho0)))
 go_loopg [7,8,18] k (fun kq v7 v8 v18 w'=>∃ (x7_1:List Int) (x8_1:List Int) (x18_1:Int),v18 = .int .i64 x18_1∧ak (cU.l0 kq l1 x7_1 x8_1 l0 (l0.length:Int) x18_1=some (r1,r2,r3))∧ak (kq≤k)∧ak (Kd.R (Kd.int .u8) 5 w' w.heap.size (fun k_=>some k_≠(v8:Value).ownBlock) v7 x7_1)∧ak (Kd.R (Kd.int .u8) 5 w' w.heap.size (fun k_=>some k_≠(v7:Value).ownBlock) v8 x8_1)∧ak (Below w.heap.size w w'))
 case atStart=>exact ⟨(([]:List Int)),(t194),(0),dU,H',⟨Nat.le_refl _⟩,⟨by first | exact Kd.dX _ _ _ _ _ | exact Kd.gy _ _ _ _ _ | exact Kd.fN _ _ _ _ _ | exact Kd.gB _ _ _ _ _ | exact Kd.gA _ _ _ _ _⟩,⟨by (with_reducible repeat (first | apply Kd.bS | apply Kd.bO | apply Kd.bP));exact Kd.aH HO196.out (fun _ hk=>(by simp [Value.ownBlock]))⟩,⟨ar⟩⟩
 case round=>
  clear H';(try clear c1);obtain ⟨x7_1,x8_1,x18_1,rfl,HA,HK1,HO_7,HO_8,HB⟩:=hrel
  cases gk with
  | zero=>exact absurd HA.out (by simp [cU.l0])
  | succ k1=>
   have H:=HA.out;clear HA
   simp only [cU.l0] at H
   by_cases c5:x18_1<(l0.length:Int)
   ·
    rw [if_pos c5] at H;have c5b0:decide (x18_1<(l0.length:Int))=true:=decide_eq_true c5;clear c5
    by_cases c6:0≤x18_1
    ·
     rw [if_pos c6] at H;have c6b0:decide (0≤x18_1)=true:=decide_eq_true c6;clear c6
     by_cases c7:x18_1<(l0.length:Int)
     ·
      rw [if_pos c7] at H;have c7b0:decide (x18_1<(l0.length:Int))=true:=decide_eq_true c7;clear c7;replace H:=bV H;obtain ⟨⟨t198,t199⟩,A80,H⟩:=H;(try dsimp only at H);have A8:=aS A80;clear A80
      by_cases c9:t199=0
      ·
       rw [if_pos c9] at H;obtain ⟨c9b0,c9b1⟩:=jE c9;clear c9
       by_cases eU:0<((aQ l0 x18_1).length:Int)
       ·
        rw [if_pos eU] at H;have c10b0:decide (0<((aQ l0 x18_1).length:Int))=true:=decide_eq_true eU;have c10b1:decide (0<(aQ l0 x18_1).length)=true:=decide_eq_true (by omega);clear eU;replace H:=bV H;obtain ⟨⟨t203,t204,t205,t206,t207⟩,A110,H⟩:=H;(try dsimp only at H);have A11:=aS A110;clear A110;replace H:=bV H;obtain ⟨t208,A120,H⟩:=H;have A12:=aS A120;clear A120;replace H:=bV H;obtain ⟨t211,A130,H⟩:=H;have A13:=aS A130;clear A130
        obtain ⟨y214,hy214⟩:∃ y_:List (List Int),y_=(([x8_1,t208,t211]:List (List Int))):=⟨_,rfl⟩
        (first | replace H:=j8 hy214 H | rw [←hy214] at H);have Ny214:=aS hy214;clear hy214;replace H:=bV H;obtain ⟨t217,A140,H⟩:=H;have A14:=aS A140;clear A140
        by_cases c15:x7_1.length+t198.length<140737488355328
        ·
         rw [if_pos c15] at H;have LMc15:=aS c15;clear c15
         obtain ⟨y220,hy220⟩:∃ y_:List Int,y_=(x7_1++t198):=⟨_,rfl⟩
         (first | replace H:=j8 hy220 H | rw [←hy220] at H);have Ny220:=aS hy220;clear hy220
         have H':=aS H
         clear H;have p197:0≤(x18_1:Int):=cG;have q197:x18_1<(l0.length:Int):=cG;obtain ⟨ad197,A197_0,c197_0,e197,hx197_0,hl197_0,hi197_0⟩:=qZ HR0.out x18_1 p197 q197;cases e197;have hB_197_0:=aS hx197_0;replace hx197_0:=bx ar hx197_0;have HR197_0:=aS hi197_0;have HC197_0:=aS hl197_0;clear hi197_0 hl197_0;replace p197:=eq_true p197;replace q197:=eq_true q197
         go_wp2_with (first | ((with_reducible refine aC (f:=98) rfl ?_);refine bE (some 24) rfl rfl Tryz.func98 (by kernel_rfl) rfl #[.slice A197_0 (aQ l0 x18_1).length c197_0] rfl cD ?_;(with_reducible refine (cJ.calls k1 _ _ (aQ l0 x18_1) t198 t199 _ ?side1 ?side2 A8.out).mono ?_);(case side1=>exact eN (Kd.cW HR197_0.out HB.out));(case side2=>exact HC197_0.out);rintro e w16 ⟨v200,rfl,ho0,hb⟩;refine ⟨_,rfl,?_⟩;have HO201:=aS (Kd.bf (Kd.cI (Kd.cI ho0 (Kd.cK (rel HO_7.out))) (Kd.cK (rel HO_8.out))) (ay ar));replace HO_7:=aS (Kd.bR (rel HO_7.out) (dh ho0) hb);replace HO_8:=aS (Kd.bR (rel HO_8.out) (dh ho0) hb);replace HB:=aM hb;(try clear hb);(try clear hk);(try clear hi);(try clear ho0);have p202:0≤(0:Int):=(by omega);have q202:0<((aQ l0 x18_1).length:Int):=cG;obtain ⟨ad202,e202,hx202_0,hx202_1,hx202_2,hx202_3,hx202_4⟩:=eT HR197_0.out 0 p202 q202;cases e202;have qi202:(0<(aQ l0 x18_1).length)=True:=eq_true (by omega);(try rw [show ((0:Int)).toNat=0 from rfl] at hx202_0);(try rw [show 0*5=0 from rfl] at hx202_0);(try rw [Addr.add_zero'] at hx202_0);(try rw [show ((0:Int)).toNat=0 from rfl] at hx202_1);(try rw [show 0*5=0 from rfl] at hx202_1);(try rw [Addr.add_zero'] at hx202_1);(try rw [show ((0:Int)).toNat=0 from rfl] at hx202_2);(try rw [show 0*5=0 from rfl] at hx202_2);(try rw [Addr.add_zero'] at hx202_2);(try rw [show ((0:Int)).toNat=0 from rfl] at hx202_3);(try rw [show 0*5=0 from rfl] at hx202_3);(try rw [Addr.add_zero'] at hx202_3);(try rw [show ((0:Int)).toNat=0 from rfl] at hx202_4);(try rw [show 0*5=0 from rfl] at hx202_4);(try rw [Addr.add_zero'] at hx202_4);replace hx202_0:=bx ar hx202_0;replace hx202_1:=bx ar hx202_1;replace hx202_2:=bx ar hx202_2;replace hx202_3:=bx ar hx202_3;replace hx202_4:=bx ar hx202_4;replace p202:=eq_true p202;replace q202:=eq_true q202) | ((with_reducible refine aC (f:=99) rfl ?_);refine bE (some 34) rfl rfl Tryz.func99 (by kernel_rfl) rfl #[.agg #[.string ((af (aQ l0 x18_1) 0).f0),.string ((af (aQ l0 x18_1) 0).f1),.int .i64 ((af (aQ l0 x18_1) 0).f2),.string ((af (aQ l0 x18_1) 0).f3),.bool ((af (aQ l0 x18_1) 0).f4)]] rfl cD ?_;(with_reducible refine (nS.calls ((af (aQ l0 x18_1) 0).f0) ((af (aQ l0 x18_1) 0).f1) ((af (aQ l0 x18_1) 0).f2) ((af (aQ l0 x18_1) 0).f3) ((af (aQ l0 x18_1) 0).f4) t203 t204 t205 t206 t207 _ A11.out).mono ?_);rintro e w17 ⟨rfl,hb⟩;refine ⟨_,rfl,?_⟩;replace HO_7:=aS (Kd.dA (rel HO_7.out) hb);replace HO_8:=aS (Kd.dA (rel HO_8.out) hb);replace HO201:=aS (Kd.dA (rel HO201.out) hb);replace HB:=aM hb;(try clear hb);(try clear hk);(try clear hi)) | ((with_reducible refine aC (f:=65) rfl ?_);refine bE (some 35) rfl rfl Tryz.func65 (by kernel_rfl) rfl #[.agg #[.string t203,.string t204,.int .i64 t205,.string t206,.bool t207]] rfl cD ?_;(with_reducible refine (dn.calls t203 t204 t205 t206 t207 t208 _ A12.out).mono ?_);rintro e w18 ⟨v209,rfl,ho0,hb⟩;refine ⟨_,rfl,?_⟩;have HO210:=aS (Kd.bf (Kd.cI (Kd.cI (Kd.cI ho0 (Kd.cK (rel HO_7.out))) (Kd.cK (rel HO_8.out))) (Kd.cK (rel HO201.out))) (ay ar));replace HO_7:=aS (Kd.bR (rel HO_7.out) (dh ho0) hb);replace HO_8:=aS (Kd.bR (rel HO_8.out) (dh ho0) hb);replace HO201:=aS (Kd.bR (rel HO201.out) (dh ho0) hb);replace HB:=aM hb;(try clear hb);(try clear hk);(try clear hi);(try clear ho0);obtain ⟨Ao19,co19,eo19⟩:=Kd.bq HO_7.out;subst eo19) | ((with_reducible refine aC (f:=86) rfl ?_);refine bE (some 38) rfl rfl Tryz.func86 (by kernel_rfl) rfl #[.int .i64 (x7_1.length:Int)] rfl cD ?_;(with_reducible refine (eH.calls (x7_1.length:Int) t211 _ A13.out).mono ?_);rintro e w20 ⟨v212,rfl,ho0,hb⟩;refine ⟨_,rfl,?_⟩;have HO213:=aS (Kd.bf (Kd.cI (Kd.cI (Kd.cI (Kd.cI ho0 (Kd.cK (rel HO_7.out))) (Kd.cK (rel HO_8.out))) (Kd.cK (rel HO201.out))) (Kd.cK (rel HO210.out))) (ay ar));replace HO_7:=aS (Kd.bR (rel HO_7.out) (dh ho0) hb);replace HO_8:=aS (Kd.bR (rel HO_8.out) (dh ho0) hb);replace HO201:=aS (Kd.bR (rel HO201.out) (dh ho0) hb);replace HO210:=aS (Kd.bR (rel HO210.out) (dh ho0) hb);replace HB:=aM hb;(try clear hb);(try clear hk);(try clear hi);(try clear ho0);obtain ⟨Ao21,co21,eo21⟩:=Kd.bq HO_8.out;subst eo21;obtain ⟨Ao22,co22,eo22⟩:=Kd.bq HO210.out;subst eo22;obtain ⟨Ao23,co23,eo23⟩:=Kd.bq HO213.out;subst eo23) | ((with_reducible refine aX (N:=39) rfl ?_);refine Kd.Ah (Kd.slice 5 (Kd.int .u8)) _ 51 ?hg (N':=39) ?hd (xs:=([x8_1,t208,t211]:List (List Int))) (inner:=[.slice Ao21 x8_1.length co21,.slice Ao22 t208.length co22,.slice Ao23 t211.length co23]) (ok:=(fun k_=>some k_≠(.slice Ao19 x7_1.length co19:Value).ownBlock∧some k_≠(v200:Value).ownBlock)) (okp:=(fun k_=>some k_≠(.slice Ao19 x7_1.length co19:Value).ownBlock∧some k_≠(v200:Value).ownBlock)) ?hr ?hp (fun _ hk=>hk) ((show ∀ k_,w20.heap.size≤k_→(fun k_=>some k_≠(.slice Ao19 x7_1.length co19:Value).ownBlock∧some k_≠(v200:Value).ownBlock) k_ from fun k_ hk=>⟨Kd.gP (Kd.cK (rel HO_7.out)) k_ hk,Kd.gP (Kd.cK (rel HO201.out)) k_ hk⟩) _ (Nat.le_refl _)) (Below.refl _ _) (Nat.le_refl _) (by simp) ?_;(case hd=>rfl);(case hg=>rfl);(case hr=>first | (go_simp;done) | (go_simp;rfl));(case hp=>exact (bH.one (show Kd.FK (Kd.slice 5 (Kd.int .u8)) _ _ x8_1 [.slice Ao21 x8_1.length co21] from (Kd.eK (Kd.bh (Kd.aH (ok':=(fun k_=>some k_≠(.slice Ao19 x7_1.length co19:Value).ownBlock∧some k_≠(v200:Value).ownBlock)) (HO_8.out) (fun k_ hk=>⟨hk.1.1.1,hk.1.1.2⟩))).2.1 (Kd.nR (Kd.aH (ok':=(fun k_=>some k_≠(.slice Ao19 x7_1.length co19:Value).ownBlock∧some k_≠(v200:Value).ownBlock)) (HO_8.out) (fun k_ hk=>⟨hk.1.1.1,hk.1.1.2⟩))))) (bH.one (show Kd.FK (Kd.slice 5 (Kd.int .u8)) _ _ t208 [.slice Ao22 t208.length co22] from (Kd.eK (Kd.bh (Kd.aH (ok':=(fun k_=>some k_≠(.slice Ao19 x7_1.length co19:Value).ownBlock∧some k_≠(v200:Value).ownBlock)) (HO210.out) (fun k_ hk=>⟨hk.1.1.1.2,hk.1.2⟩))).2.1 (Kd.nR (Kd.aH (ok':=(fun k_=>some k_≠(.slice Ao19 x7_1.length co19:Value).ownBlock∧some k_≠(v200:Value).ownBlock)) (HO210.out) (fun k_ hk=>⟨hk.1.1.1.2,hk.1.2⟩))))) (bH.one (show Kd.FK (Kd.slice 5 (Kd.int .u8)) _ _ t211 [.slice Ao23 t211.length co23] from (Kd.eK (Kd.bh (Kd.aH (ok':=(fun k_=>some k_≠(.slice Ao19 x7_1.length co19:Value).ownBlock∧some k_≠(v200:Value).ownBlock)) (HO213.out) (fun k_ hk=>⟨hk.1.1.1.2,hk.1.2⟩))).2.1 (Kd.nR (Kd.aH (ok':=(fun k_=>some k_≠(.slice Ao19 x7_1.length co19:Value).ownBlock∧some k_≠(v200:Value).ownBlock)) (HO213.out) (fun k_ hk=>⟨hk.1.1.1.2,hk.1.2⟩))))) (bH.none _ _)))));intro v215 w24 ho25 hb hg_ hnew_;clear hg_ hnew_;(first | rw [←Ny214.out] at ho25 | (simp only [Int.reduceToNat] at ho25;rw [←Ny214.out] at ho25));have n0_:=aS (Kd.dA (rel HO_7.out) hb);have n1_:=aS (Kd.dA (rel HO201.out) hb);have n2_:=aS (Kd.pX ho25 (ay ar));have n3_:=aM hb;clear HO_7;clear HO201;clear HB;clear HO210;clear HO213;clear HO_8;have HO_7:=n0_;have HO201:=n1_;have HO216:=n2_;have HB:=n3_;clear n0_ n1_ n2_ n3_;clear hb ho25;obtain ⟨Ao26,co26,eo26⟩:=Kd.qa HO216.out;subst eo26) | ((with_reducible refine aC (f:=84) rfl ?_);refine bE (some 40) rfl rfl Tryz.func84 (by kernel_rfl) rfl #[.slice Ao26 y214.length co26] rfl cD ?_;(with_reducible refine (cw.calls _ _ y214 t217 _ ?side1 ?side2 A14.out).mono ?_);(case side1=>exact eN ((Kd.jZ HO216.out).2.2));(case side2=>exact (Kd.jZ HO216.out).2.1);rintro e w27 ⟨v218,rfl,ho0,hb⟩;refine ⟨_,rfl,?_⟩;replace HO216:=aS (Kd.oR (by (with_reducible repeat (first | apply Kd.oH | apply Kd.oP | apply Kd.pZ));exact HO216.out) (dh ho0) hb);have HO219:=aS (Kd.bf (Kd.cI (Kd.cI ho0 (Kd.cK (rel HO_7.out))) (Kd.cK (rel HO201.out))) (ay ar));replace HO_7:=aS (Kd.bR (rel HO_7.out) (dh ho0) hb);replace HO201:=aS (Kd.bR (rel HO201.out) (dh ho0) hb);replace HB:=aM hb;(try clear hb);(try clear hk);(try clear hi);(try clear ho0);obtain ⟨Ao29,co29,eo29⟩:=Kd.bq HO201.out;subst eo29) | ((with_reducible refine eZ (b:=.append) (xs:=#[.tmp 41,.tmp 42]) rfl ?_);at_builtin;refine Kd.fW (Kd.int .u8) (w0:=w) w.heap.size rfl (.tmp 41) (.tmp 42) 51 5 (.int .u8 0) 1 rfl Tryz.underlying51 fE rfl (by decide) (by omega) (.slice Ao19 x7_1.length co19) x7_1 t198 _ _ _ (fun k_=>some k_≠(.slice Ao29 t198.length co29:Value).ownBlock∧some k_≠(v218:Value).ownBlock) (fun _=>False) rfl rfl ?aO ?aR (fun _ _ h=>h) (fun _ h=>h.elim) ?aF ?aB ?aS ?aL ?_;(case aR=>exact eN ((Kd.bh HO201.out).2.2));(case aB=>exact ar);(case aF=>exact (fun k_ hk=>⟨Kd.gP (Kd.cK (rel HO201.out)) k_ hk,Kd.gP (Kd.cK (rel HO219.out)) k_ hk⟩));(case aO=>exact (by (with_reducible repeat (first | apply Kd.bS | apply Kd.bO | apply Kd.bP));exact Kd.aH HO_7.out (fun _ hk=>⟨hk.1.1.1.2,hk.2⟩)));(case aS=>exact (ay ar));(case aL=>have:=LMc15.out;omega);intro v221 w28 ho hb hg hat;rw [←Ny220.out] at ho;have n0_:=aS (Kd.iV (ok:=(fun k_=>some k_≠(v218:Value).ownBlock)) (by (with_reducible repeat (first | apply Kd.bS | apply Kd.bO | apply Kd.bP));exact Kd.aH HO201.out (fun _ hk=>⟨hk.2,hk.1.1.1.1.2⟩)) hg hat);have n1_:=aS (Kd.Cw (ok:=(fun k_=>some k_≠(.slice Ao29 t198.length co29:Value).ownBlock∧some k_≠(v218:Value).ownBlock)) (by (with_reducible repeat (first | apply Kd.oH | apply Kd.oP | apply Kd.pZ));exact Kd.yp HO216.out (fun _ hk=>⟨⟨hk.1.2,hk.2⟩,hk.1.1⟩)) hg hat);have n2_:=aS (Kd.iV (ok:=(fun k_=>some k_≠(.slice Ao29 t198.length co29:Value).ownBlock)) (by (with_reducible repeat (first | apply Kd.bS | apply Kd.bO | apply Kd.bP));exact Kd.aH HO219.out (fun _ hk=>⟨hk.2,hk.1.2⟩)) hg hat);have n3_:=aS (hb);have n4_:=aS (ho);clear HO201;clear HO216;clear HO219;clear HB;clear HO_7;have HO201:=n0_;have HO216:=n1_;have HO219:=n2_;have HB:=n3_;have HO222:=n4_;clear n0_ n1_ n2_ n3_ n4_;clear ho hb hg hat))
         go_roundg k1
         case measure=>have:=HK1.out;omega
         case rel=>exact ⟨(y220),(t217),(wrap64 (x18_1+1)),dU,H',⟨by have:=HK1.out;omega⟩,⟨by (with_reducible repeat (first | apply Kd.bS | apply Kd.bO | apply Kd.bP));exact Kd.aH HO222.out (fun _ hk=>hk.2)⟩,⟨by (with_reducible repeat (first | apply Kd.bS | apply Kd.bO | apply Kd.bP));exact Kd.aH HO219.out (fun _ hk=>hk.2)⟩,⟨ar⟩⟩
        ·
         rw [if_neg c15] at H;exact absurd H (by simp)
       ·
        rw [if_neg eU] at H;exact absurd H (by simp)
      ·
       rw [if_neg c9] at H;obtain ⟨c9b0,c9b1⟩:=ju c9
       simp only [Option.some.injEq,Prod.mk.injEq] at H
       obtain ⟨rfl,rfl,rfl⟩:=H;have p197:0≤(x18_1:Int):=cG;have q197:x18_1<(l0.length:Int):=cG;obtain ⟨ad197,A197_0,c197_0,e197,hx197_0,hl197_0,hi197_0⟩:=qZ HR0.out x18_1 p197 q197;cases e197;have hB_197_0:=aS hx197_0;replace hx197_0:=bx ar hx197_0;have HR197_0:=aS hi197_0;have HC197_0:=aS hl197_0;clear hi197_0 hl197_0;replace p197:=eq_true p197;replace q197:=eq_true q197
       go_wp2_with (first | ((with_reducible refine aC (f:=98) rfl ?_);refine bE (some 24) rfl rfl Tryz.func98 (by kernel_rfl) rfl #[.slice A197_0 (aQ l0 x18_1).length c197_0] rfl cD ?_;(with_reducible refine (cJ.calls k1 _ _ (aQ l0 x18_1) t198 t199 _ ?side1 ?side2 A8.out).mono ?_);(case side1=>exact eN (Kd.cW HR197_0.out HB.out));(case side2=>exact HC197_0.out);rintro e w30 ⟨v200,rfl,ho0,hb⟩;refine ⟨_,rfl,?_⟩;have HO201:=aS (Kd.bf (Kd.cI (Kd.cI ho0 (Kd.cK (rel HO_7.out))) (Kd.cK (rel HO_8.out))) (ay ar));replace HO_7:=aS (Kd.bR (rel HO_7.out) (dh ho0) hb);replace HO_8:=aS (Kd.bR (rel HO_8.out) (dh ho0) hb);replace HB:=aM hb;(try clear hb);(try clear hk);(try clear hi);(try clear ho0)))
       go_ret3
       exact ⟨_,_,dN,by first | exact Kd.dX _ _ _ _ _ | exact Kd.gy _ _ _ _ _ | exact Kd.fN _ _ _ _ _ | exact Kd.gB _ _ _ _ _ | exact Kd.gA _ _ _ _ _,by first | exact Kd.dX _ _ _ _ _ | exact Kd.gy _ _ _ _ _ | exact Kd.fN _ _ _ _ _ | exact Kd.gB _ _ _ _ _ | exact Kd.gA _ _ _ _ _,ar⟩
     ·
      rw [if_neg c7] at H;exact absurd H (by simp)
    ·
     rw [if_neg c6] at H;exact absurd H (by simp)
   ·
    rw [if_neg c5] at H;have c5b0:decide (x18_1<(l0.length:Int))=false:=decide_eq_false c5;clear c5;replace H:=bV H;obtain ⟨t223,A310,H⟩:=H;have A31:=aS A310;clear A310
    by_cases c32:x8_1.length+t223.length<140737488355328
    ·
     rw [if_pos c32] at H;have LMc32:=aS c32;clear c32
     obtain ⟨y226,hy226⟩:∃ y_:List Int,y_=(x8_1++t223):=⟨_,rfl⟩
     (first | replace H:=j8 hy226 H | rw [←hy226] at H);have Ny226:=aS hy226;clear hy226;replace H:=bV H;obtain ⟨t229,A330,H⟩:=H;have A33:=aS A330;clear A330
     by_cases c34:(t229.length:Int)=0
     ·
      rw [if_pos c34] at H;obtain ⟨c34b0,c34b1⟩:=jE c34;clear c34
      simp only [Option.some.injEq,Prod.mk.injEq] at H
      obtain ⟨rfl,rfl,rfl⟩:=H;have hcv35:=Kd.j3 (P:=Tryz.prog) (A:=A1) (c:=c1) Tryz.underlying51 Tryz.underlying5 Tryz.underlying9 (Kd.cW HR1.out HB.out)
      have hcv36:=fun (m_:Nat)=>Kd.j3 (P:=Tryz.prog) (A:=A1) (c:=c1) Tryz.underlying51 Tryz.underlying5 Tryz.underlying9 (Kd.jL ((Kd.cW HR1.out HB.out)) m_)
      go_wp2_with (first | ((with_reducible refine aC (f:=85) rfl ?_);refine bE (some 48) rfl rfl Tryz.func85 (by kernel_rfl) rfl #[.string (strOfNums l1)] rfl cD ?_;(with_reducible refine (eD.calls (strOfNums l1) t223 _ A31.out).mono ?_);rintro e w37 ⟨v224,rfl,ho0,hb⟩;refine ⟨_,rfl,?_⟩;have HO225:=aS (Kd.bf (Kd.cI (Kd.cI ho0 (Kd.cK (rel HO_7.out))) (Kd.cK (rel HO_8.out))) (ay ar));replace HO_7:=aS (Kd.bR (rel HO_7.out) (dh ho0) hb);replace HO_8:=aS (Kd.bR (rel HO_8.out) (dh ho0) hb);replace HB:=aM hb;(try clear hb);(try clear hk);(try clear hi);(try clear ho0);obtain ⟨Ao39,co39,eo39⟩:=Kd.bq HO225.out;subst eo39) | ((with_reducible refine eZ (b:=.append) (xs:=#[.tmp 45,.tmp 48]) rfl ?_);at_builtin;refine Kd.fW (Kd.int .u8) (w0:=w) w.heap.size rfl (.tmp 45) (.tmp 48) 51 5 (.int .u8 0) 1 rfl Tryz.underlying51 fE rfl (by decide) (by omega) u8 x8_1 t223 _ _ _ (fun k_=>some k_≠(u7:Value).ownBlock∧some k_≠(.slice Ao39 t223.length co39:Value).ownBlock) (fun _=>False) rfl rfl ?aO ?aR (fun _ _ h=>h) (fun _ h=>h.elim) ?aF ?aB ?aS ?aL ?_;(case aR=>exact eN ((Kd.bh HO225.out).2.2));(case aB=>exact ar);(case aF=>exact (fun k_ hk=>⟨Kd.gP (Kd.cK (rel HO_7.out)) k_ hk,Kd.gP (Kd.cK (rel HO225.out)) k_ hk⟩));(case aO=>exact (rel HO_8.out));(case aS=>exact (ay ar));(case aL=>have:=LMc32.out;omega);intro v227 w38 ho hb hg hat;rw [←Ny226.out] at ho;have n0_:=aS (Kd.iV (ok:=(fun k_=>some k_≠(.slice Ao39 t223.length co39:Value).ownBlock)) (by (with_reducible repeat (first | apply Kd.bS | apply Kd.bO | apply Kd.bP));exact Kd.aH HO_7.out (fun _ hk=>⟨hk.2,hk.1⟩)) hg hat);have n1_:=aS (Kd.iV (ok:=(fun k_=>some k_≠(u7:Value).ownBlock)) (by (with_reducible repeat (first | apply Kd.bS | apply Kd.bO | apply Kd.bP));exact Kd.aH HO225.out (fun _ hk=>⟨hk.1.2,hk.2⟩)) hg hat);have n2_:=aS (hb);have n3_:=aS (ho);clear HO_7;clear HO225;clear HB;clear HO_8;have HO_7:=n0_;have HO225:=n1_;have HB:=n2_;have HO228:=n3_;clear n0_ n1_ n2_ n3_;clear ho hb hg hat;obtain ⟨Ao40,co40,eo40⟩:=Kd.bq HO228.out;subst eo40) | ((with_reducible refine aC (f:=100) rfl ?_);refine bE (some 50) rfl rfl Tryz.func100 (by kernel_rfl) rfl #[.slice Ao40 y226.length co40] rfl cD ?_;(with_reducible refine (fw.calls k1 (fun k_=>some k_=(.slice Ao40 y226.length co40:Value).ownBlock) _ _ y226 t229 _ ?side1 A33.out).mono ?_);(case side1=>exact Kd.vT (Kd.jJ rfl (HO228.out)));rintro e w41 ⟨v230,rfl,ho0,hb⟩;refine ⟨_,rfl,?_⟩;have HO231:=aS (Kd.bf (Kd.cI (Kd.cI (Kd.cI (Kd.aH (ok':=fun k_=>True) ho0 (fun _ hk_=>trivial)) (Kd.cK (rel HO_7.out))) (Kd.cK (rel HO225.out))) (Kd.cK (rel HO228.out))) (ay ar));replace HO_7:=aS (Kd.bR (rel HO_7.out) (dh ho0) hb);replace HO225:=aS (Kd.bR (rel HO225.out) (dh ho0) hb);replace HO228:=aS (Kd.bR (rel HO228.out) (dh ho0) hb);replace HB:=aM hb;(try clear hb);(try clear hk);(try clear hi);(try clear ho0);obtain ⟨Ao42,co42,eo42⟩:=Kd.bq HO231.out;subst eo42))
      go_ret3
      exact ⟨_,_,dN,by first | exact Kd.dX _ _ _ _ _ | exact Kd.gy _ _ _ _ _ | exact Kd.fN _ _ _ _ _ | exact Kd.gB _ _ _ _ _ | exact Kd.gA _ _ _ _ _,by first | exact Kd.dX _ _ _ _ _ | exact Kd.gy _ _ _ _ _ | exact Kd.fN _ _ _ _ _ | exact Kd.gB _ _ _ _ _ | exact Kd.gA _ _ _ _ _,ar⟩
     ·
      rw [if_neg c34] at H;obtain ⟨c34b0,c34b1⟩:=ju c34
      have c34b2:¬ (t229=[]):=fun h_=>c34 (by rw [h_];rfl)
      simp only [Option.some.injEq,Prod.mk.injEq] at H
      obtain ⟨rfl,rfl,rfl⟩:=H;have hcv43:=Kd.j3 (P:=Tryz.prog) (A:=A1) (c:=c1) Tryz.underlying51 Tryz.underlying5 Tryz.underlying9 (Kd.cW HR1.out HB.out)
      have hcv44:=fun (m_:Nat)=>Kd.j3 (P:=Tryz.prog) (A:=A1) (c:=c1) Tryz.underlying51 Tryz.underlying5 Tryz.underlying9 (Kd.jL ((Kd.cW HR1.out HB.out)) m_)
      go_wp2_with (first | ((with_reducible refine aC (f:=85) rfl ?_);refine bE (some 48) rfl rfl Tryz.func85 (by kernel_rfl) rfl #[.string (strOfNums l1)] rfl cD ?_;(with_reducible refine (eD.calls (strOfNums l1) t223 _ A31.out).mono ?_);rintro e w45 ⟨v224,rfl,ho0,hb⟩;refine ⟨_,rfl,?_⟩;have HO225:=aS (Kd.bf (Kd.cI (Kd.cI ho0 (Kd.cK (rel HO_7.out))) (Kd.cK (rel HO_8.out))) (ay ar));replace HO_7:=aS (Kd.bR (rel HO_7.out) (dh ho0) hb);replace HO_8:=aS (Kd.bR (rel HO_8.out) (dh ho0) hb);replace HB:=aM hb;(try clear hb);(try clear hk);(try clear hi);(try clear ho0);obtain ⟨Ao47,co47,eo47⟩:=Kd.bq HO225.out;subst eo47) | ((with_reducible refine eZ (b:=.append) (xs:=#[.tmp 45,.tmp 48]) rfl ?_);at_builtin;refine Kd.fW (Kd.int .u8) (w0:=w) w.heap.size rfl (.tmp 45) (.tmp 48) 51 5 (.int .u8 0) 1 rfl Tryz.underlying51 fE rfl (by decide) (by omega) u8 x8_1 t223 _ _ _ (fun k_=>some k_≠(u7:Value).ownBlock∧some k_≠(.slice Ao47 t223.length co47:Value).ownBlock) (fun _=>False) rfl rfl ?aO ?aR (fun _ _ h=>h) (fun _ h=>h.elim) ?aF ?aB ?aS ?aL ?_;(case aR=>exact eN ((Kd.bh HO225.out).2.2));(case aB=>exact ar);(case aF=>exact (fun k_ hk=>⟨Kd.gP (Kd.cK (rel HO_7.out)) k_ hk,Kd.gP (Kd.cK (rel HO225.out)) k_ hk⟩));(case aO=>exact (rel HO_8.out));(case aS=>exact (ay ar));(case aL=>have:=LMc32.out;omega);intro v227 w46 ho hb hg hat;rw [←Ny226.out] at ho;have n0_:=aS (Kd.iV (ok:=(fun k_=>some k_≠(.slice Ao47 t223.length co47:Value).ownBlock)) (by (with_reducible repeat (first | apply Kd.bS | apply Kd.bO | apply Kd.bP));exact Kd.aH HO_7.out (fun _ hk=>⟨hk.2,hk.1⟩)) hg hat);have n1_:=aS (Kd.iV (ok:=(fun k_=>some k_≠(u7:Value).ownBlock)) (by (with_reducible repeat (first | apply Kd.bS | apply Kd.bO | apply Kd.bP));exact Kd.aH HO225.out (fun _ hk=>⟨hk.1.2,hk.2⟩)) hg hat);have n2_:=aS (hb);have n3_:=aS (ho);clear HO_7;clear HO225;clear HB;clear HO_8;have HO_7:=n0_;have HO225:=n1_;have HB:=n2_;have HO228:=n3_;clear n0_ n1_ n2_ n3_;clear ho hb hg hat;obtain ⟨Ao48,co48,eo48⟩:=Kd.bq HO228.out;subst eo48) | ((with_reducible refine aC (f:=100) rfl ?_);refine bE (some 50) rfl rfl Tryz.func100 (by kernel_rfl) rfl #[.slice Ao48 y226.length co48] rfl cD ?_;(with_reducible refine (fw.calls k1 (fun k_=>some k_=(.slice Ao48 y226.length co48:Value).ownBlock) _ _ y226 t229 _ ?side1 A33.out).mono ?_);(case side1=>exact Kd.vT (Kd.jJ rfl (HO228.out)));rintro e w49 ⟨v230,rfl,ho0,hb⟩;refine ⟨_,rfl,?_⟩;have HO231:=aS (Kd.bf (Kd.cI (Kd.cI (Kd.cI (Kd.aH (ok':=fun k_=>True) ho0 (fun _ hk_=>trivial)) (Kd.cK (rel HO_7.out))) (Kd.cK (rel HO225.out))) (Kd.cK (rel HO228.out))) (ay ar));replace HO_7:=aS (Kd.bR (rel HO_7.out) (dh ho0) hb);replace HO225:=aS (Kd.bR (rel HO225.out) (dh ho0) hb);replace HO228:=aS (Kd.bR (rel HO228.out) (dh ho0) hb);replace HB:=aM hb;(try clear hb);(try clear hk);(try clear hi);(try clear ho0);obtain ⟨Ao50,co50,eo50⟩:=Kd.bq HO231.out;subst eo50))
      go_ret3
      exact ⟨_,_,dN,by (with_reducible repeat (first | apply Kd.bS | apply Kd.bO | apply Kd.bP));exact Kd.aH HO_7.out (fun _ hk=>hk.2),by (with_reducible repeat (first | apply Kd.bS | apply Kd.bO | apply Kd.bP));exact Kd.aH HO231.out (fun _ hk=>hk.1.1.2),ar⟩
    ·
     rw [if_neg c32] at H;exact absurd H (by simp)
def fD.f (k:Nat) (l0:List (List (av))) (l1:List Int):Option (List Int × Int):=(cU.f k l0 l1).bind fun bt232=>(if bt232.2.2=0 then ((eH.f (bt232.2.1.length:Int)).bind fun t239=>((cw.f (([bt232.1,bt232.2.1,t239]:List (List Int)))).bind fun t245=>(some (t245,0)))) else (some (([]:List Int),bt232.2.2)))
theorem fD.mono:∀ a0 a1 k,aE (fD.f k a0 a1) (fD.f (k+1) a0 a1):=by
 intro a0 a1 k
 unfold fD.f
 have m0:=@cU.mono;exact e8
theorem fD.calls (k:Nat) (A0:Option Addr) (c0:Nat) (l0:List (List (av))) (A1:Option Addr) (c1:Nat) (l1:List Int) (r1:List Int) (r2:Int) (w:World) (hr0:Kd.C (Kd.slice 34 cC) w A0 l0.length l0) (hc0:l0.length≤c0) (hr1:Kd.C (Kd.int .u8) w A1 l1.length l1) (hc1:l1.length≤c1) (h:fD.f k l0 l1=some (r1,r2)) :
  Calls Tryz.prog 69 #[.slice A0 l0.length c0,.slice A1 l1.length c1] w fun e w'=>∃ v0_:Value,e = .returned (.tuple #[v0_,.int .i64 r2])∧Kd.R (Kd.int .u8) 5 w' w.heap.size (fun _=>True) v0_ r1∧Below w.heap.size w w':=by
 have HR0:=aS hr0;have HC0:=aS hc0;clear hr0 hc0;have HR1:=aS hr1;have HC1:=aS hc1;clear hr1 hc1;have HB:=aS (Below.refl w.heap.size w);have H:((cU.f k l0 l1).bind fun bt232=>(if bt232.2.2=0 then ((eH.f (bt232.2.1.length:Int)).bind fun t239=>((cw.f (([bt232.1,bt232.2.1,t239]:List (List Int)))).bind fun t245=>(some (t245,0)))) else (some (([]:List Int),bt232.2.2))))=some (r1,r2):=h;clear h;replace H:=bV H;obtain ⟨⟨t232,t233,t234⟩,A30,H⟩:=H;(try dsimp only at H);have A3:=aS A30;clear A30
 by_cases c4:t234=0
 ·
  rw [if_pos c4] at H;obtain ⟨c4b0,c4b1⟩:=jE c4;clear c4;replace H:=bV H;obtain ⟨t239,A50,H⟩:=H;have A5:=aS A50;clear A50
  obtain ⟨y242,hy242⟩:∃ y_:List (List Int),y_=(([t232,t233,t239]:List (List Int))):=⟨_,rfl⟩
  (first | replace H:=j8 hy242 H | rw [←hy242] at H);have Ny242:=aS hy242;clear hy242;replace H:=bV H;obtain ⟨t245,A60,H⟩:=H;have A6:=aS A60;clear A60
  simp only [Option.some.injEq,Prod.mk.injEq] at H
  obtain ⟨rfl,rfl⟩:=H
  go_enter Tryz.func69,Tryz.ntmps69
  go_wp2_with (first | ((with_reducible refine aC (f:=89) rfl ?_);refine bE (some 12) rfl rfl Tryz.func89 (by kernel_rfl) rfl #[.slice A0 l0.length c0,.slice A1 l1.length c1] rfl cD ?_;(with_reducible refine (cU.calls k _ _ l0 _ _ l1 t232 t233 t234 _ ?side1 ?side2 ?side3 ?side4 A3.out).mono ?_);(case side1=>exact eN HR0.out);(case side2=>exact HC0.out);(case side3=>exact eN HR1.out);(case side4=>exact HC1.out);rintro e w7 ⟨v235,v237,rfl,ho0,ho1,hb⟩;refine ⟨_,rfl,?_⟩;have HO236:=aS (Kd.bf ho0 (ay ar));have HO238:=aS (Kd.bf ho1 (ay ar));replace HB:=aM hb;(try clear hb);(try clear hk);(try clear hi);(try clear ho0);(try clear ho1);obtain ⟨Ao8,co8,eo8⟩:=Kd.bq HO238.out;subst eo8) | ((with_reducible refine aC (f:=86) rfl ?_);refine bE (some 23) rfl rfl Tryz.func86 (by kernel_rfl) rfl #[.int .i64 (t233.length:Int)] rfl cD ?_;(with_reducible refine (eH.calls (t233.length:Int) t239 _ A5.out).mono ?_);rintro e w9 ⟨v240,rfl,ho0,hb⟩;refine ⟨_,rfl,?_⟩;have HO241:=aS (Kd.bf (Kd.cI (Kd.cI ho0 (Kd.cK (rel HO236.out))) (Kd.cK (rel HO238.out))) (ay ar));replace HO236:=aS (Kd.bR (rel HO236.out) (dh ho0) hb);replace HO238:=aS (Kd.bR (rel HO238.out) (dh ho0) hb);replace HB:=aM hb;(try clear hb);(try clear hk);(try clear hi);(try clear ho0);obtain ⟨Ao10,co10,eo10⟩:=Kd.bq HO236.out;subst eo10;obtain ⟨Ao11,co11,eo11⟩:=Kd.bq HO241.out;subst eo11) | ((with_reducible refine aX (N:=24) rfl ?_);refine Kd.Ah (Kd.slice 5 (Kd.int .u8)) _ 51 ?hg (N':=24) ?hd (xs:=([t232,t233,t239]:List (List Int))) (inner:=[.slice Ao10 t232.length co10,.slice Ao8 t233.length co8,.slice Ao11 t239.length co11]) (ok:=(fun _=>True)) (okp:=(fun _=>True)) ?hr ?hp (fun _ hk=>hk) ((show ∀ k_,w9.heap.size≤k_→(fun _=>True) k_ from fun k_ hk=>trivial) _ (Nat.le_refl _)) (Below.refl _ _) (Nat.le_refl _) (by simp) ?_;(case hd=>rfl);(case hg=>rfl);(case hr=>first | (go_simp;done) | (go_simp;rfl));(case hp=>exact (bH.one (show Kd.FK (Kd.slice 5 (Kd.int .u8)) _ _ t232 [.slice Ao10 t232.length co10] from (Kd.eK (Kd.bh (Kd.aH (ok':=(fun _=>True)) (HO236.out) (fun k_ hk=>trivial))).2.1 (Kd.nR (Kd.aH (ok':=(fun _=>True)) (HO236.out) (fun k_ hk=>trivial))))) (bH.one (show Kd.FK (Kd.slice 5 (Kd.int .u8)) _ _ t233 [.slice Ao8 t233.length co8] from (Kd.eK (Kd.bh (Kd.aH (ok':=(fun _=>True)) (HO238.out) (fun k_ hk=>trivial))).2.1 (Kd.nR (Kd.aH (ok':=(fun _=>True)) (HO238.out) (fun k_ hk=>trivial))))) (bH.one (show Kd.FK (Kd.slice 5 (Kd.int .u8)) _ _ t239 [.slice Ao11 t239.length co11] from (Kd.eK (Kd.bh (Kd.aH (ok':=(fun _=>True)) (HO241.out) (fun k_ hk=>trivial))).2.1 (Kd.nR (Kd.aH (ok':=(fun _=>True)) (HO241.out) (fun k_ hk=>trivial))))) (bH.none _ _)))));intro v243 w12 ho13 hb hg_ hnew_;clear hg_ hnew_;(first | rw [←Ny242.out] at ho13 | (simp only [Int.reduceToNat] at ho13;rw [←Ny242.out] at ho13));have n0_:=aS (Kd.pX ho13 (ay ar));have n1_:=aM hb;clear HB;clear HO236;clear HO238;clear HO241;have HO244:=n0_;have HB:=n1_;clear n0_ n1_;clear hb ho13;obtain ⟨Ao14,co14,eo14⟩:=Kd.qa HO244.out;subst eo14) | ((with_reducible refine aC (f:=84) rfl ?_);refine bE (some 25) rfl rfl Tryz.func84 (by kernel_rfl) rfl #[.slice Ao14 y242.length co14] rfl cD ?_;(with_reducible refine (cw.calls _ _ y242 t245 _ ?side1 ?side2 A6.out).mono ?_);(case side1=>exact eN ((Kd.jZ HO244.out).2.2));(case side2=>exact (Kd.jZ HO244.out).2.1);rintro e w15 ⟨v246,rfl,ho0,hb⟩;refine ⟨_,rfl,?_⟩;replace HO244:=aS (Kd.oR (by (with_reducible repeat (first | apply Kd.oH | apply Kd.oP | apply Kd.pZ));exact HO244.out) (dh ho0) hb);have HO247:=aS (Kd.bf ho0 (ay ar));replace HB:=aM hb;(try clear hb);(try clear hk);(try clear hi);(try clear ho0)))
  go_ret2
  exact ⟨_,dN,by (with_reducible repeat (first | apply Kd.bS | apply Kd.bO | apply Kd.bP));exact HO247.out,ar⟩
 ·
  rw [if_neg c4] at H;obtain ⟨c4b0,c4b1⟩:=ju c4
  simp only [Option.some.injEq,Prod.mk.injEq] at H
  obtain ⟨rfl,rfl⟩:=H
  go_enter Tryz.func69,Tryz.ntmps69
  go_wp2_with (first | ((with_reducible refine aC (f:=89) rfl ?_);refine bE (some 12) rfl rfl Tryz.func89 (by kernel_rfl) rfl #[.slice A0 l0.length c0,.slice A1 l1.length c1] rfl cD ?_;(with_reducible refine (cU.calls k _ _ l0 _ _ l1 t232 t233 t234 _ ?side1 ?side2 ?side3 ?side4 A3.out).mono ?_);(case side1=>exact eN HR0.out);(case side2=>exact HC0.out);(case side3=>exact eN HR1.out);(case side4=>exact HC1.out);rintro e w16 ⟨v235,v237,rfl,ho0,ho1,hb⟩;refine ⟨_,rfl,?_⟩;have HO236:=aS (Kd.bf ho0 (ay ar));have HO238:=aS (Kd.bf ho1 (ay ar));replace HB:=aM hb;(try clear hb);(try clear hk);(try clear hi);(try clear ho0);(try clear ho1)))
  go_ret2
  exact ⟨_,dN,by first | exact Kd.dX _ _ _ _ _ | exact Kd.gy _ _ _ _ _ | exact Kd.fN _ _ _ _ _ | exact Kd.gB _ _ _ _ _ | exact Kd.gA _ _ _ _ _,ar⟩
def fB.f (a0:ByteArray) (a1:ByteArray):Option (ByteArray):=(eD.f a0).bind fun t248=>((eD.f a1).bind fun t251=>(if (strOfNums t248).size+(strOfNums t251).size≤9223372036854775807 then (some ((strOfNums t248)++(strOfNums t251))) else (none)))
def fB.T1:Bool × List (List Nat × List Nat):=(true,[([],[]),([0],[0]),([1],[1]),([],[]),([3,1],[3]),([4],[4]),([2,5],[2,5]),([6,4,0,1,2,3,4,5,6],[6])])
def fB.B1:List Nat:=[0,1,3,0,11,27,63,127]
theorem fB.o4:fC .any (opsOf Tryz.f90 1)=fB.T1:=by kernel_rfl
theorem fB.mY:fY fB.T1.2 fB.B1=true:=by kernel_rfl
theorem fB.calls (a0:ByteArray) (a1:ByteArray) (r:ByteArray) (w:World) (h:fB.f a0 a1=some r) :
  Calls Tryz.prog 90 #[.string a0,.string a1] w fun e w'=>e = .returned (.string r)∧Below w.heap.size w w':=by
 have HB:=aS (Below.refl w.heap.size w);have H:((eD.f a0).bind fun t248=>((eD.f a1).bind fun t251=>(if (strOfNums t248).size+(strOfNums t251).size≤9223372036854775807 then (some ((strOfNums t248)++(strOfNums t251))) else (none))))=some r:=h;clear h;replace H:=bV H;obtain ⟨t248,A30,H⟩:=H;have A3:=aS A30;clear A30;replace H:=bV H;obtain ⟨t251,A40,H⟩:=H;have A4:=aS A40;clear A40
 by_cases c5:(strOfNums t248).size+(strOfNums t251).size≤9223372036854775807
 ·
  rw [if_pos c5] at H;have c5b0:=eq_true c5;have c5b1:decide ((strOfNums t248).size+(strOfNums t251).size≤9223372036854775807)=true:=decide_eq_true c5
  try have c5b2:(9223372036854775807<(strOfNums t248).size+(strOfNums t251).size)=False:=eq_false (Nat.not_lt.2 c5)
  obtain rfl:=Option.some.inj H
  go_enter Tryz.func90,Tryz.ntmps90
  try go_wp2
  replace HB:=aS (jG HB.out);refine dz (n:=8) (S:=fun w'=>True) (ds:=[]) (bA 8 0) (by kernel_rfl) rfl rfl trivial (fun hHeld=>?_);refine cH fB.o4 fB.mY (fun HT_ HW_=>?_)
  generalize w.drew=w6 at HB hHeld ⊢
  refine aZ [(0,5),(3,8)] ?_
  iterate 2 (refine cr HT_ ?_)
  refine bX (bA 8 9) (by kernel_rfl) ?_;refine dJ 1 (N:=some 6) (bA 8 11) HT_ (fun K hK=>?_);refine ep Tryz.func85 (by kernel_rfl) rfl #[.string a0] (by rfl) rfl rfl cD ?_
  with_reducible refine (eD.calls a0 t248 _ A3.out).mono ?_
  rintro e w7 ⟨v249,rfl,ho0,hb⟩
  refine ⟨_,rfl,?_⟩;have HO250:=aS (Kd.bf ho0 (ay ar));replace HB:=aM hb;(try clear hb);(try clear hk);(try clear hi);(try clear ho0);refine hK.out _ _ trivial (fun hHeld=>?_);clear hK K;refine nm 6 ?_;refine AK (σ:=Value) 2 (bA 8 63) (fun s_=>[(7,.string (strOfNums t248)),(9,s_),(10,.string (strOfNums t251))]) (fun s_ w'=>(Kd.R (Kd.int .u8) 5 w' w.heap.size (fun k_=>some k_≠(s_:Value).ownBlock) v249 t248)∧(Kd.R (Kd.int .u8) 5 w' w.heap.size (fun k_=>some k_≠(v249:Value).ownBlock) s_ t251)∧(Below w.heap.size w w')) ?_ ?_
  rotate_left
  ·
   intro hCont
   refine xD (i:=2) (j:=4) (Ni:=some 7) (Nj:=some 9) (bA 8 15) (bA 8 27) rfl rfl rfl rfl (rH HT_.out (by kernel_rfl)) (by decide) (by decide) (fun K hK=>?_) (fun K hK=>?_)
   ·
    skip
    have hcv8:=lR (P:=Tryz.prog) Tryz.underlying51 Tryz.underlying5 Tryz.underlying9 (Kd.iY HO250.out);refine lX (w1:=?_) (v:=?_) (by rfl) rfl ?_ ?_
    rotate_left 2
    ·
     go_simp
     constructor
     ·
      rfl
     ·
      rfl
    clear hcv8;refine hK.out _ _ trivial (fun hHeld=>?_);clear hK K;refine nm 7 ?_;refine dJ 4 (N:=some 9) (bA 8 31) HT_ (fun K hK=>?_);refine ep Tryz.func85 (by kernel_rfl) rfl #[.string a1] (by rfl) rfl rfl cD ?_
    with_reducible refine (eD.calls a1 t251 _ A4.out).mono ?_
    rintro e w9 ⟨v252,rfl,ho0,hb⟩
    refine ⟨_,rfl,?_⟩;have HO253:=aS (Kd.bf (Kd.cI ho0 (Kd.cK (rel HO250.out))) (ay ar));replace HO250:=aS (Kd.bR (rel HO250.out) (dh ho0) hb);replace HB:=aM hb;(try clear hb);(try clear hk);(try clear hi);(try clear ho0);refine hK.out _ _ trivial (fun hHeld=>?_);clear hK K;refine nm 9 ?_;refine dJ 5 (N:=some 10) (bA 8 63) HT_ (fun K hK=>?_);have hcv10:=lR (P:=Tryz.prog) Tryz.underlying51 Tryz.underlying5 Tryz.underlying9 (Kd.iY HO253.out);refine lX (w1:=?_) (v:=?_) (by rfl) rfl ?_ ?_
    rotate_left 2
    ·
     go_simp
     constructor
     ·
      rfl
     ·
      rfl
    clear hcv10;refine hK.out _ _ trivial (fun hHeld=>?_);clear hK K;refine nm 10 ?_;exact kY (by simp only [jV,Act.put,dw,dx,lss]) (hCont (v252) _ ⟨(rel (Kd.aH HO250.out (fun _ hk=>hk.2))),(rel (Kd.aH HO253.out (fun _ hk=>hk.2))),ar⟩)
   ·
    skip
    refine ep Tryz.func85 (by kernel_rfl) rfl #[.string a1] (by rfl) rfl rfl cD ?_
    with_reducible refine (eD.calls a1 t251 _ A4.out).mono ?_
    rintro e w8 ⟨v252,rfl,ho0,hb⟩
    refine ⟨_,rfl,?_⟩;have HO253:=aS (Kd.bf (Kd.cI ho0 (Kd.cK (rel HO250.out))) (ay ar));replace HO250:=aS (Kd.bR (rel HO250.out) (dh ho0) hb);replace HB:=aM hb;(try clear hb);(try clear hk);(try clear hi);(try clear ho0);refine hK.out _ _ trivial (fun hHeld=>?_);clear hK K;refine nm 9 ?_;refine xD (i:=2) (j:=5) (Ni:=some 7) (Nj:=some 10) (bA 8 31) (bA 8 59) rfl rfl rfl rfl (rH HT_.out (by kernel_rfl)) (by decide) (by decide) (fun K hK=>?_) (fun K hK=>?_)
    ·
     skip
     have hcv9:=lR (P:=Tryz.prog) Tryz.underlying51 Tryz.underlying5 Tryz.underlying9 (Kd.iY HO250.out);refine lX (w1:=?_) (v:=?_) (by rfl) rfl ?_ ?_
     rotate_left 2
     ·
      go_simp
      constructor
      ·
       rfl
      ·
       rfl
     clear hcv9;refine hK.out _ _ trivial (fun hHeld=>?_);clear hK K;refine nm 7 ?_;refine dJ 5 (N:=some 10) (bA 8 63) HT_ (fun K hK=>?_);have hcv10:=lR (P:=Tryz.prog) Tryz.underlying51 Tryz.underlying5 Tryz.underlying9 (Kd.iY HO253.out);refine lX (w1:=?_) (v:=?_) (by rfl) rfl ?_ ?_
     rotate_left 2
     ·
      go_simp
      constructor
      ·
       rfl
      ·
       rfl
     clear hcv10;refine hK.out _ _ trivial (fun hHeld=>?_);clear hK K;refine nm 10 ?_;exact kY (by simp only [jV,Act.put,dw,dx,lss]) (hCont (v252) _ ⟨(rel (Kd.aH HO250.out (fun _ hk=>hk.2))),(rel (Kd.aH HO253.out (fun _ hk=>hk.2))),ar⟩)
    ·
     skip
     have hcv9:=lR (P:=Tryz.prog) Tryz.underlying51 Tryz.underlying5 Tryz.underlying9 (Kd.iY HO253.out);refine lX (w1:=?_) (v:=?_) (by rfl) rfl ?_ ?_
     rotate_left 2
     ·
      go_simp
      constructor
      ·
       rfl
      ·
       rfl
     clear hcv9;refine hK.out _ _ trivial (fun hHeld=>?_);clear hK K;refine nm 10 ?_;refine dJ 2 (N:=some 7) (bA 8 63) HT_ (fun K hK=>?_);have hcv10:=lR (P:=Tryz.prog) Tryz.underlying51 Tryz.underlying5 Tryz.underlying9 (Kd.iY HO250.out);refine lX (w1:=?_) (v:=?_) (by rfl) rfl ?_ ?_
     rotate_left 2
     ·
      go_simp
      constructor
      ·
       rfl
      ·
       rfl
     clear hcv10;refine hK.out _ _ trivial (fun hHeld=>?_);clear hK K;refine nm 7 ?_;exact kY (by simp only [jV,Act.put,dw,dx,lss]) (hCont (v252) _ ⟨(rel (Kd.aH HO250.out (fun _ hk=>hk.2))),(rel (Kd.aH HO253.out (fun _ hk=>hk.2))),ar⟩)
  rintro v252 w11 ⟨h0_,h1_,h2_⟩
  have n0_:ak (Kd.R (Kd.int .u8) 5 w11 w.heap.size (fun k_=>some k_≠(v252:Value).ownBlock) v249 t248):=⟨h0_⟩;have n1_:ak (Kd.R (Kd.int .u8) 5 w11 w.heap.size (fun k_=>some k_≠(v249:Value).ownBlock) v252 t251):=⟨h1_⟩;have n2_:ak (Below w.heap.size w w11):=⟨h2_⟩;clear HB;clear h0_ h1_ h2_;have HO250:=n0_;have HO253:=n1_;have HB:=n2_;clear n0_ n1_ n2_;have hHeld:=trivial;refine kY (a':=?_) ?_ ?_
  rotate_left
  ·
   simp only [jV,Act.put,dw,dx,lss]
   rfl
  refine aZ [(6,11),(7,4)] ?_
  iterate 2 (refine cr HT_ ?_)
  refine bX (bA 8 255) (by kernel_rfl) ?_;refine dQ (cX HT_.out (by kernel_rfl)) ?_
  try go_wp2
  go_ret
  exact ⟨dN,ar⟩
 ·
  rw [if_neg c5] at H;exact absurd H (by simp)
def cL.acc (a b:Int):Nat→Int
 | 0=>a
 | i+1=>IntKind.u32.wrap (cL.acc a b i+b)
def cL.outs (a b n:Int):Nat→List Int
 | 0=>[]
 | i+1=>cL.outs a b n i++[wrap64 (Int.tmod (cL.acc a b i) n)]
def cL.f (k:Nat) (a0:ByteArray) (a1:Int):Option (List Int):=
 if a0.size<140737488355327 then (fH.f k (bytesOf a0)).bind fun a=>(fH.f k ([1]++bytesOf a0)).bind fun b=>if IntKind.u32.wrap a1=0 then none else some (cL.outs a b (IntKind.u32.wrap a1) 3) else none
theorem cL.mono:∀ a0 a1 k,aE (cL.f k a0 a1) (cL.f (k+1) a0 a1):=fun a0 a1 k=>
 aE.ite (aE.bind (fH.mono _ _) fun _=>aE.bind (fH.mono _ _) fun _=>aE.refl _) (aE.refl _)
theorem iY {w:World} {base:Nat} {ok:Nat→Prop} {v:Value} {xs:List Int} (h:Kd.R (Kd.int .u8) 5 w base ok v xs):w.ownsRow base 5 1 v xs.length (nums .u8 xs):=by
 exact Kd.iY h
theorem nr {w:World} {base:Nat} {v:Value} {xs:List Int} (h:w.ownsRow base 5 1 v xs.length (nums .u8 xs)):Kd.R (Kd.int .u8) 5 w base (fun _=>True) v xs:=by
 exact Kd.nr h (fun _ _=>trivial)
theorem sL (a b n:Int):∀ i,(cL.outs a b n i).length=i
 | 0=>rfl
 | i+1=>by simp [cL.outs,sL a b n i]
theorem DW (a b n:Int) (i:Nat) (h:i<3):((cL.outs a b n i).length+1)*8≤140737488355328:=by rw [sL];omega
theorem cL.calls (k:Nat) (a0:ByteArray) (a1:Int) (r:List Int) (w:World) (h:cL.f k a0 a1=some r) :
  Calls Tryz.prog 101 #[.string a0,.int .i64 a1] w fun e w'=>∃ v0_:Value,e = .returned v0_∧Kd.R (Kd.int .i64) 3 w' w.heap.size (fun _=>True) v0_ r∧Below w.heap.size w w':=by
 have hu26:=Tryz.underlying51;have hu77:=Tryz.underlying50
 unfold cL.f at h
 by_cases hl:a0.size<140737488355327
 case neg=>rw [if_neg hl] at h;cases h
 rw [if_pos hl] at h;replace h:=bV h;obtain ⟨a,x1,h⟩:=h;replace h:=bV h;obtain ⟨b,x2,h⟩:=h
 by_cases hz:IntKind.u32.wrap a1=0
 ·
  rw [if_pos hz] at h;cases h
 rw [if_neg hz] at h
 obtain rfl:=Option.some.inj h
 obtain ⟨hz1,hz2⟩:=ju hz
 obtain ⟨z,hzz⟩:∃ z,z=[1]++bytesOf a0:=⟨_,rfl⟩
 rw [←hzz] at x2;have HZ:=aS hzz;clear hzz;have X1:=aS x1;have X2:=aS x2;have HL:=aS hl;clear x1 x2 hl h
 obtain ⟨n,hn⟩:∃ n,IntKind.u32.wrap a1=n:=⟨_,rfl⟩
 rw [hn] at hz hz1 hz2 ⊢
 go_enter Tryz.func101,Tryz.ntmps101
 go_wp2_with (first | ((with_reducible refine aX (N:=9) rfl ?_);refine Kd.zF rfl (N:=9) rfl 9 51 5 _ a0 rfl rfl Tryz.underlying9 Tryz.underlying51 Tryz.underlying5 (by have:=HL.out;omega) ?_;intro v9 w1 ho hb;obtain ⟨A8,c8,rfl⟩:=Kd.lI ho;have HV:=aS (Kd.dI ho);have HB:=aS hb;clear ho hb) | (go_at_call 104;(with_reducible refine (fH.calls k A8 c8 (bytesOf a0) a _ HV.out.2.2 HV.out.2.1 X1.out).mono ?_);rintro e_ w2 ⟨rfl,hb⟩;have HB2:=aS (aN HB.out hb);clear hb HB HV) | ((with_reducible refine aX (N:=11) rfl ?_);refine Kd.pH (Kd.int .u8) _ 5 ?hg (N:=11) ?hd (xs:=([1]:List Int)) (inner:=[.int .u8 1]) (ok:=fun _=>True) (okp:=fun _=>True) ?hr ?hp (fun _ hk=>hk) trivial (Below.refl _ _) (Nat.le_refl _) (by simp) ?_;(case hd=>rfl);(case hg=>rfl);(case hr=>(first | (go_simp;done) | (go_simp;rfl)));(case hp=>exact (bH.one (show Kd.M (Kd.int .u8) _ _ _ 1 [.int .u8 1] from rfl) (bH.none _ _)));intro v11 w3 ho hb hg_ hnew;have HR:=aS (Kd.bf ho HB2.out.size);have HB3:=aS (aN HB2.out hb);clear ho hb hg_ hnew HB2) | (at_builtin;refine oQ (w0:=w) w.heap.size rfl (.tmp 11) _ 51 9 5 rfl Tryz.underlying51 Tryz.underlying9 fE v11 [1] a0 rfl rfl ?aO HB3.out HB3.out.size ?aL ?_;(case aO=>exact iY HR.out);(case aL=>have:=HL.out;simp only [List.length_cons,List.length_nil];omega);intro v13 w4 ho hb hg_;rw [←HZ.out] at ho;obtain ⟨A13,c13,rfl,hcl,hC⟩:=Kd.fT (nr ho);have HC4:=aS hC;have HL4:=aS hcl;have HB4:=aS hb;clear ho hb hg_ hcl hC HR HB3) | (go_at_call 104;(with_reducible refine (fH.calls k A13 c13 z b _ HC4.out HL4.out X2.out).mono ?_);rintro e_ w5 ⟨rfl,hb⟩;have HB5:=aS (aN HB4.out hb);clear hb HB4 HC4 HL4))
 go_loopw [5,7,15] (fun v5 v7 v15 wr=>∃ (i:Nat),v15 = .int .i64 (i:Int)∧v5 = .int .u32 (cL.acc a b i)∧ak (i≤3)∧ak (Kd.R (Kd.int .i64) 3 wr w.heap.size (fun _=>True) v7 (cL.outs a b n i))∧ak (Below w.heap.size w wr)) (fun _ _ i _=>3 - (intOf i).toNat)
 case atStart=>exact ⟨0,rfl,rfl,⟨by omega⟩,⟨Kd.dX _ _ _ _ _⟩,HB5⟩
 case round=>
  obtain ⟨i,rfl,rfl,hi,HRr,HBr⟩:=hrel
  by_cases hlt:i<3
  ·
   have hq1:(i:Int)<3:=by omega
   have hwr:wrap64 ((i:Int)+1)=(i:Int)+1:=by rw [←bC,IntKind.wrap_i64];omega
   have hwr':=aS hwr
   clear hi
   go_wp2_with (first | (at_builtin;refine Kd.gC (Kd.int .i64) (w0:=w) w.heap.size rfl _ _ 50 3 (.int .i64 0) 8 rfl hu77 info3 rfl (by decide) (by decide) u7 (cL.outs a b n i) (wrap64 (Int.tmod (cL.acc a b i) n)) [.int .i64 (wrap64 (Int.tmod (cL.acc a b i) n))] (fun _=>True) (fun _=>False) rfl rfl rfl (fun _ hk=>hk.elim) (fun _ _=>trivial) HRr.out HBr.out HBr.out.size ?hl ?_;(case hl=>exact DW _ _ _ _ hlt);intro v8 w6 ho hb hg hat;have HR4:=aS ho;have HB6:=aS hb;clear ho hb hg hat HRr HBr))
   go_roundw
   case rel=>exact ⟨i+1,by first | rfl | (rw [hwr];rfl),rfl,⟨hlt⟩,HR4,HB6⟩
   case measure=>first | exact ja hwr hlt | exact ja rfl hlt
  ·
   have hge:¬ ((i:Int)<3):=by omega
   obtain rfl:i=3:=by have:=hi.out;omega
   go_wp2
   go_ret
   exact ⟨_,rfl,HRr.out,HBr.out⟩
mutual
def bG.l0:Nat→List Int→List ByteArray→Int→Int→Option (List Int)
 | 0,_,_,_,_=>none
 | k+1,x3,x14,x15,x16=>if x16<x15 then (if 0≤x16 then (if x16<(x14.length:Int) then ((cL.f k (mo ByteArray.empty x14 x16) (wrap64 (8*(x3.length:Int)))).bind fun t258=>(bG.l1 k x3 x14 x15 x16 t258 (t258.length:Int) 0)) else (none)) else (none)) else (some x3)
def bG.l1:Nat→List Int→List ByteArray→Int→Int→List Int→Int→Int→Option (List Int)
 | 0,_,_,_,_,_,_,_=>none
 | k+1,x3,x14,x15,x16,x24,x25,x26=>if x26<x25 then (if 0≤x26 then (if x26<(x24.length:Int) then (if 0≤(wrap64 (Int.tdiv (rd x24 x26) 8)) then (if (wrap64 (Int.tdiv (rd x24 x26) 8))<(x3.length:Int) then (if 0≤(Int.tmod (rd x24 x26) 8) then (bG.l1 k (x3.set ((wrap64 (Int.tdiv (rd x24 x26) 8)):Int).toNat (Go.bits .or .u8 (rd x3 (wrap64 (Int.tdiv (rd x24 x26) 8))) (shl .u8 1 (Int.tmod (rd x24 x26) 8)))) x14 x15 x16 x24 x25 (wrap64 (x26+1))) else (none)) else (none)) else (none)) else (none)) else (none)) else (bG.l0 k x3 x14 x15 (wrap64 (x16+1)))
end
def bG.f (k:Nat) (l0:List ByteArray):Option (List Int):=if 0≤(mx 1 (wrap64 (Int.tdiv (wrap64 ((l0.length:Int)*8)) 8))) then (if (mx 1 (wrap64 (Int.tdiv (wrap64 ((l0.length:Int)*8)) 8)):Int).toNat≤281474976710656 then (bG.l0 k (List.replicate (mx 1 (wrap64 (Int.tdiv (wrap64 ((l0.length:Int)*8)) 8)):Int).toNat 0) l0 (l0.length:Int) 0) else (none)) else (none)
theorem bG.cP:∀ k,(∀ y0 y1 y2 y3,aE (bG.l0 k y0 y1 y2 y3) (bG.l0 (k+1) y0 y1 y2 y3))∧(∀ y0 y1 y2 y3 y4 y5 y6,aE (bG.l1 k y0 y1 y2 y3 y4 y5 y6) (bG.l1 (k+1) y0 y1 y2 y3 y4 y5 y6))
 | 0=>⟨fun _ _ _ _ r h=>by simp [bG.l0] at h,fun _ _ _ _ _ _ _ r h=>by simp [bG.l1] at h⟩
 | k+1=>by
  obtain ⟨ih0,ih1⟩:=bG.cP k;refine ⟨?_,?_⟩
  ·
   intro y0 y1 y2 y3
   unfold bG.l0
   have m0:=@cL.mono;exact e8
  ·
   intro y0 y1 y2 y3 y4 y5 y6
   unfold bG.l1
   have m0:=@cL.mono;exact e8
theorem bG.mono:∀ a0 k,aE (bG.f k a0) (bG.f (k+1) a0):=by
 intro a0 k
 obtain ⟨ih0,ih1⟩:=bG.cP k
 unfold bG.f
 have m0:=@cL.mono;exact e8
def bG.T8:Bool × List (List Nat × List Nat):=(true,[([],[]),([],[]),([1],[1]),([0,2],[0,2]),([3],[3]),([],[]),([5],[5]),([6],[6]),([4,7],[4,7]),([0,2,0,1,2,3,4,5,6,7,8],[0,2]),([9,8,0,1,2,3,4,5,6,7,8],[8,9])])
def bG.B8:List Nat:=[0,0,2,7,15,0,32,96,255,511,1023]
theorem bG.sX:fC .any (opsOf Tryz.f91 8)=bG.T8:=by kernel_rfl
theorem bG.qN:fY bG.T8.2 bG.B8=true:=by kernel_rfl
theorem bG.calls (k:Nat) (A0:Option Addr) (c0:Nat) (l0:List ByteArray) (r:List Int) (w:World) (hr0:Kd.C Kd.string w A0 l0.length l0) (hc0:l0.length≤c0) (h:bG.f k l0=some r) :
  Calls Tryz.prog 91 #[.slice A0 l0.length c0] w fun e w'=>∃ v0_:Value,e = .returned (v0_)∧Kd.R (Kd.int .u8) 5 w' w.heap.size (fun _=>True) v0_ r∧Below w.heap.size w w':=by
 have HR0:=aS hr0;have HC0:=aS hc0;clear hr0 hc0;have HB:=aS (Below.refl w.heap.size w);have H:(if 0≤(mx 1 (wrap64 (Int.tdiv (wrap64 ((l0.length:Int)*8)) 8))) then (if (mx 1 (wrap64 (Int.tdiv (wrap64 ((l0.length:Int)*8)) 8)):Int).toNat≤281474976710656 then (bG.l0 k (List.replicate (mx 1 (wrap64 (Int.tdiv (wrap64 ((l0.length:Int)*8)) 8)):Int).toNat 0) l0 (l0.length:Int) 0) else (none)) else (none))=some r:=h;clear h
 obtain ⟨ji2,hji2⟩:∃ j_:Int,(mx 1 (wrap64 (Int.tdiv (wrap64 ((l0.length:Int)*8)) 8)))=j_:=⟨_,rfl⟩
 replace H:(if 0≤(ji2) then (if (ji2:Int).toNat≤281474976710656 then (bG.l0 k (List.replicate (ji2:Int).toNat 0) l0 (l0.length:Int) 0) else (none)) else (none))=some r:=by first | (rw [hji2] at H;exact H) | (simp only [hji2] at H ⊢;exact H)
 (try (have hji2l:1≤ji2:=by (rw [←hji2];unfold mx;(repeat' split)<;>omega)))
 (try (have hji2m:0≤ji2:=by omega))
 have hji2_:(if 1<(wrap64 (Int.tdiv (wrap64 ((l0.length:Int)*8)) 8)) then (wrap64 (Int.tdiv (wrap64 ((l0.length:Int)*8)) 8)) else 1)=ji2:=hji2
 by_cases c3:0≤(ji2)
 ·
  rw [if_pos c3] at H;have c3b0:=eq_true c3;have c3b1:decide (0≤(ji2))=true:=decide_eq_true c3;clear c3
  by_cases c4:(ji2:Int).toNat≤281474976710656
  ·
   rw [if_pos c4] at H;have c4b0:=eq_true c4;have c4b1:decide ((ji2:Int).toNat≤281474976710656)=true:=decide_eq_true c4;clear c4
   obtain ⟨y254,hy254⟩:∃ y_:List Int,y_=(List.replicate (ji2:Int).toNat 0):=⟨_,rfl⟩
   replace H:(bG.l0 k y254 l0 (l0.length:Int) 0)=some r:=pE hy254 H;have Ny254:=aS hy254;clear hy254
   have H':=aS H
   clear H
   go_enter Tryz.func91,Tryz.ntmps91
   go_wp2_with (first | ((with_reducible refine aX (N:=13) rfl ?_);refine Kd.ED (Kd.int .u8) _ 5 rfl (N:=13) rfl 51 _ _ rfl ji2 rfl rfl Tryz.underlying51 (.int .u8 0) 1 fE rfl (by decide) (by omega) 0 (ok:=fun _=>True) (okp:=fun _=>True) rfl (fun _ hk=>hk) trivial (cG) (Nat.le_trans (Nat.mul_le_mul_right _ (cG:ji2.toNat≤281474976710656)) (by omega)) (Below.refl _ _) (Nat.le_refl _) ?_;intro v255 w5 ho6 hb hg_ hnew_;clear hg_ hnew_;(first | rw [←Ny254.out] at ho6 | (simp only [Int.reduceToNat] at ho6;rw [←Ny254.out] at ho6));have HO256:=aS (Kd.bf ho6 (ay ar));replace HB:=aM hb;clear hb ho6))
   go_loopg [16] k (fun kq v16 w'=>∃ (x3_1:List Int) (x16_1:Int),v16 = .int .i64 x16_1∧ak (bG.l0 kq x3_1 l0 (l0.length:Int) x16_1=some r)∧ak (kq≤k)∧ak (Kd.R (Kd.int .u8) 5 w' w.heap.size (fun _=>True) v255 x3_1)∧ak (Below w.heap.size w w'))
   case atStart=>exact ⟨(y254),(0),dU,H',⟨Nat.le_refl _⟩,⟨by (with_reducible repeat (first | apply Kd.bS | apply Kd.bO | apply Kd.bP));exact HO256.out⟩,⟨ar⟩⟩
   case round=>
    clear H';(try clear c3);(try clear c3b0);(try clear c3b1);(try clear c4);(try clear c4b0);(try clear c4b1);obtain ⟨x3_1,x16_1,rfl,HA,HK1,HO_3,HB⟩:=hrel
    cases gk with
    | zero=>exact absurd HA.out (by simp [bG.l0])
    | succ k1=>
     have H:=HA.out;clear HA
     simp only [bG.l0] at H
     by_cases c7:x16_1<(l0.length:Int)
     ·
      rw [if_pos c7] at H;have c7b0:decide (x16_1<(l0.length:Int))=true:=decide_eq_true c7;clear c7
      by_cases c8:0≤x16_1
      ·
       rw [if_pos c8] at H;have c8b0:decide (0≤x16_1)=true:=decide_eq_true c8;clear c8
       by_cases c9:x16_1<(l0.length:Int)
       ·
        rw [if_pos c9] at H;have c9b0:decide (x16_1<(l0.length:Int))=true:=decide_eq_true c9;clear c9;replace H:=bV H;obtain ⟨t258,A100,H⟩:=H;have A10:=aS A100;clear A100
        have H':=aS H
        clear H;have p257:0≤(x16_1:Int):=cG;have q257:x16_1<(l0.length:Int):=cG;obtain ⟨ad257,e257,hx257_0⟩:=Kd.Bq HR0.out x16_1 p257 q257;cases e257;replace hx257_0:=bx ar hx257_0;replace p257:=eq_true p257;replace q257:=eq_true q257;obtain ⟨Ao11,co11,eo11⟩:=Kd.bq HO_3.out;subst eo11
        go_wp2_with (first | ((with_reducible refine aC (f:=101) rfl ?_);refine bE (some 24) rfl rfl Tryz.func101 (by kernel_rfl) rfl #[.string (mo ByteArray.empty l0 x16_1),.int .i64 (wrap64 (8*(x3_1.length:Int)))] rfl cD ?_;(with_reducible refine (cL.calls k1 (mo ByteArray.empty l0 x16_1) (wrap64 (8*(x3_1.length:Int))) t258 _ A10.out).mono ?_);rintro e w12 ⟨v259,rfl,ho0,hb⟩;refine ⟨_,rfl,?_⟩;replace HO_3:=aS (Kd.dA (rel HO_3.out) hb);have HO260:=aS (Kd.bf ho0 (ay ar));replace HB:=aM hb;(try clear hb);(try clear hk);(try clear hi);(try clear ho0);obtain ⟨Ao13,co13,eo13⟩:=Kd.bq HO260.out;subst eo13))
        go_loopg [26] k1 (fun kq v26 w'=>∃ (x3_2:List Int) (x26_2:Int),v26 = .int .i64 x26_2∧ak (bG.l1 kq x3_2 l0 (l0.length:Int) x16_1 t258 (t258.length:Int) x26_2=some r)∧ak (kq≤k1)∧ak (Kd.R (Kd.int .u8) 5 w' w.heap.size (fun _=>True) (.slice Ao11 x3_1.length co11) x3_2)∧ak (Kd.R (Kd.int .i64) 3 w' w.heap.size (fun _=>True) (.slice Ao13 t258.length co13) t258)∧ak (Below w.heap.size w w'))
        case atStart=>exact ⟨(x3_1),(0),dU,H',⟨Nat.le_refl _⟩,⟨by (with_reducible repeat (first | apply Kd.bS | apply Kd.bO | apply Kd.bP));exact HO_3.out⟩,⟨by (with_reducible repeat (first | apply Kd.bS | apply Kd.bO | apply Kd.bP));exact HO260.out⟩,⟨ar⟩⟩
        case round=>
         clear H';(try clear c3);(try clear c3b0);(try clear c3b1);(try clear c4);(try clear c4b0);(try clear c4b1);(try clear c7);(try clear c7b0);(try clear c8);(try clear c8b0);(try clear c9);(try clear c9b0);(try clear hx257_0);(try clear p257);(try clear q257);obtain ⟨x3_2,x26_2,rfl,HA,HK2,HO_3,HO_24,HB⟩:=hrel;have hl3_2:=(Kd.bh HO_3.out).1;rw [hl3_2] at HO_3
         (try simp only [hl3_2])
         (try simp only [hl3_2] at HO_24)
         cases gk with
         | zero=>exact absurd HA.out (by simp [bG.l1])
         | succ k2=>
          have H:=HA.out;clear HA
          simp only [bG.l1] at H
          by_cases c14:x26_2<(t258.length:Int)
          ·
           rw [if_pos c14] at H;have c14b0:decide (x26_2<(t258.length:Int))=true:=decide_eq_true c14;clear c14
           by_cases c15:0≤x26_2
           ·
            rw [if_pos c15] at H;have c15b0:decide (0≤x26_2)=true:=decide_eq_true c15;clear c15
            by_cases c16:x26_2<(t258.length:Int)
            ·
             rw [if_pos c16] at H;have c16b0:decide (x26_2<(t258.length:Int))=true:=decide_eq_true c16;clear c16
             obtain ⟨ji17,hji17⟩:∃ j_:Int,(wrap64 (Int.tdiv (rd t258 x26_2) 8))=j_:=⟨_,rfl⟩
             replace H:(if 0≤(ji17) then (if (ji17)<(x3_2.length:Int) then (if 0≤(Int.tmod (rd t258 x26_2) 8) then (bG.l1 k2 (x3_2.set ((ji17):Int).toNat (Go.bits .or .u8 (rd x3_2 (ji17)) (shl .u8 1 (Int.tmod (rd t258 x26_2) 8)))) l0 (l0.length:Int) x16_1 t258 (t258.length:Int) (wrap64 (x26_2+1))) else (none)) else (none)) else (none))=some r:=by first | (rw [hji17] at H;exact H) | (simp only [hji17] at H ⊢;exact H)
             have hji17w:(IntKind.i64.wrap (Int.tdiv (rd t258 x26_2) 8))=ji17:=(bC _).trans hji17
             by_cases c18:0≤(ji17)
             ·
              rw [if_pos c18] at H;have c18b0:decide (0≤(ji17))=true:=decide_eq_true c18;clear c18
              by_cases c19:(ji17)<(x3_2.length:Int)
              ·
               rw [if_pos c19] at H;have c19b0:decide ((ji17)<(x3_2.length:Int))=true:=decide_eq_true c19;clear c19
               obtain ⟨ji20,hji20⟩:∃ j_:Int,(Int.tmod (rd t258 x26_2) 8)=j_:=⟨_,rfl⟩
               replace H:(if 0≤(ji20) then (bG.l1 k2 (x3_2.set ((ji17):Int).toNat (Go.bits .or .u8 (rd x3_2 (ji17)) (shl .u8 1 (ji20)))) l0 (l0.length:Int) x16_1 t258 (t258.length:Int) (wrap64 (x26_2+1))) else (none))=some r:=by first | (rw [hji20] at H;exact H) | (simp only [hji20] at H ⊢;exact H)
               by_cases c21:0≤(ji20)
               ·
                rw [if_pos c21] at H;have c21b0:=eq_true c21;have c21b1:decide (0≤(ji20))=true:=decide_eq_true c21;clear c21
                obtain ⟨ji22,hji22⟩:∃ j_:Int,(shl .u8 1 (ji20))=j_:=⟨_,rfl⟩
                replace H:(bG.l1 k2 (x3_2.set ((ji17):Int).toNat (Go.bits .or .u8 (rd x3_2 (ji17)) (ji22))) l0 (l0.length:Int) x16_1 t258 (t258.length:Int) (wrap64 (x26_2+1)))=some r:=by first | (rw [hji22] at H;exact H) | (simp only [hji22] at H ⊢;exact H)
                have hji22_:(IntKind.u8.wrap (1*2 ^ min (ji20).toNat 8))=ji22:=hji22;have hji22z:(ji20)≤8→(IntKind.u8.wrap (1*2 ^ (ji20).toNat))=ji22:=Bh hji22
                have hji22u:(IntKind.u8.wrap (2 ^ min (ji20).toNat 8))=ji22:=by have h_:=hji22_;rw [Int.one_mul] at h_;exact h_
                have hji22v:(ji20)≤8→(IntKind.u8.wrap (2 ^ (ji20).toNat))=ji22:=fun hle_=>by have h_:=hji22z hle_;rw [Int.one_mul] at h_;exact h_
                obtain ⟨y263,hy263⟩:∃ y_:List Int,y_=(x3_2.set ((ji17):Int).toNat (Go.bits .or .u8 (rd x3_2 (ji17)) (ji22))):=⟨_,rfl⟩
                (first | replace H:=j8 hy263 H | rw [←hy263] at H);have Ny263:=aS hy263;clear hy263
                have H':=aS H
                clear H;have p261:0≤(x26_2:Int):=cG;have q261:x26_2<(t258.length:Int):=cG;obtain ⟨ad261,e261,hx261_0⟩:=Kd.jj (Kd.bh HO_24.out).2.2 x26_2 p261 q261;cases e261;replace p261:=eq_true p261;replace q261:=eq_true q261
                try go_wp2
                replace HO_3:=aS (Kd.bP HO_3.out);replace HO_24:=aS (Kd.bP HO_24.out);replace HB:=aS (jG HB.out);have p262:0≤((ji17):Int):=cG;have q262:(ji17)<(x3_2.length:Int):=cG;obtain ⟨ad262,e262,hx262_0⟩:=Kd.jj (Kd.bh HO_3.out).2.2 (ji17) p262 q262;cases e262;replace p262:=eq_true p262;replace q262:=eq_true q262;have p23:0≤((ji17):Int):=cG;have q23:((ji17):Int)<((x3_2.length:Int):Int):=cG;obtain ⟨go23,co23,eo23,gb23,gl23,cl23,HG23⟩:=Kd.kp HO_3.out (by omega)
                (first | cases eo23 | (injection eo23 with ea_ en_ ec_;(first | subst ea_ | (injection ea_ with ea_;subst ea_));subst ec_;clear en_))
                have GB23:=aS gb23;have GG23:=aS HG23;clear gb23 gl23 HG23
                (first | simp only [add_plain] at hx262_0 | skip)
                obtain ⟨hx23_0,hf23_0⟩:=Kd.m8 0 HO_3.out ((ji17):Int) p23 q23;replace p23:=eq_true p23;replace q23:=eq_true q23;have HP25:=Kd.Cb HO_3.out ((ji17):Int) (Go.bits .or .u8 (rd x3_2 (ji17)) (ji22));rw [←Ny263.out] at HP25;have HQ25:=aS HP25;clear HP25;refine dz (n:=11) (S:=fun w'=>w'.cell? ⟨go23,((ji17)).toNat,none⟩=some (.int .u8 (rd x3_2 (ji17)))) (ds:=[10]) (bA 11 0) (by kernel_rfl) rfl rfl (hx262_0) (fun hHeld=>?_);refine cH bG.sX bG.qN (fun HT_ HW_=>?_)
                generalize wr.drew=w24 at HO_3 HO_24 HB GG23 HQ25 hf23_0 hx23_0 hx262_0 hHeld ⊢
                refine aZ [(0,30),(1,31),(2,32),(3,33),(5,35),(6,36),(7,37)] ?_
                iterate 7 (refine cr HT_ ?_)
                refine bX (bA 11 239) (by kernel_rfl) ?_;refine iw (i:=4) (N:=some 34) (v:=?_) (a':=?_) (bA 11 255) rfl rfl (iD HT_.out HW_.out (by kernel_rfl)) (fun _ _ _ h=>h) (Or.inl ⟨by rfl,?_⟩) hHeld ?_ ?_
                rotate_left
                ·
                 intro w' s0
                 go_simp
                 with_reducible rfl
                rotate_left
                ·
                 simp only [Act.put,dw,dx,lss,bC,cm]
                 rfl
                refine aZ [(8,38),(9,39)] ?_
                iterate 2 (refine cr HT_ ?_)
                refine bX (bA 11 1023) (by kernel_rfl) ?_;refine jT (i:=10) (N:=none) (bA 11 2047) rfl rfl (jM HT_.out (by kernel_rfl)) (by decide) (fun K hK=>?_);refine EX (w1:=?_) (by rfl) rfl ?_ ?_
                rotate_left
                ·
                 go_simp
                 rfl
                refine hK.out _ _ ?_;clear hK K;refine dQ (cX HT_.out (by kernel_rfl)) ?_
                try go_wp2
                (try simp only [←hl3_2])
                go_roundg k2
                case measure=>have:=HK1.out;have:=HK2.out;omega
                case rel=>exact ⟨(y263),(wrap64 (x26_2+1)),dU,H',⟨by have:=HK1.out;have:=HK2.out;omega⟩,⟨by (try simp only [hl3_2]);(with_reducible repeat (first | apply Kd.bS | apply Kd.bO | apply Kd.bP));exact HQ25.out⟩,⟨by (try simp only [hl3_2]);(with_reducible repeat (first | apply Kd.bS | apply Kd.bO | apply Kd.bP));exact Kd.aH (Kd.fj (p:=⟨go23,((ji17):Int).toNat,none⟩) (Kd.gK HO_24.out GG23.out (by decide)) (fun _ hk=>hk.2) (.int .u8 (Go.bits .or .u8 (rd x3_2 (ji17)) (ji22)))) (fun _ hk=>trivial)⟩,⟨ar⟩⟩
               ·
                rw [if_neg c21] at H;exact absurd H (by simp)
              ·
               rw [if_neg c19] at H;exact absurd H (by simp)
             ·
              rw [if_neg c18] at H;exact absurd H (by simp)
            ·
             rw [if_neg c16] at H;exact absurd H (by simp)
           ·
            rw [if_neg c15] at H;exact absurd H (by simp)
          ·
           rw [if_neg c14] at H;have c14b0:decide (x26_2<(t258.length:Int))=false:=decide_eq_false c14;clear c14
           have H':=aS H
           clear H
           go_wp2
           (try simp only [←hl3_2])
           go_roundg k2
           case measure=>have:=HK1.out;have:=HK2.out;omega
           case rel=>exact ⟨(x3_2),(wrap64 (x16_1+1)),dU,H',⟨by have:=HK1.out;have:=HK2.out;omega⟩,⟨by (try simp only [hl3_2]);(with_reducible repeat (first | apply Kd.bS | apply Kd.bO | apply Kd.bP));exact HO_3.out⟩,⟨ar⟩⟩
       ·
        rw [if_neg c9] at H;exact absurd H (by simp)
      ·
       rw [if_neg c8] at H;exact absurd H (by simp)
     ·
      rw [if_neg c7] at H;have c7b0:decide (x16_1<(l0.length:Int))=false:=decide_eq_false c7;clear c7
      obtain rfl:=Option.some.inj H
      go_wp2
      go_ret
      exact ⟨_,by first | rfl | (simp [jd,jh]<;>rfl) | (simp only [←hji2];first | rfl | (simp [jd,jh]<;>rfl)) | (simp [*,jd,jh]<;>rfl),by (with_reducible repeat (first | apply Kd.bS | apply Kd.bO | apply Kd.bP));exact HO_3.out,ar⟩
  ·
   rw [if_neg c4] at H;exact absurd H (by simp)
 ·
  rw [if_neg c3] at H;exact absurd H (by simp)
def cM.l0:Nat→List ByteArray→List (av)→Int→Int→Option (List Int)
 | 0,_,_,_,_=>none
 | k+1,x3,x6,x7,x8=>if x8<x7 then (if 0≤x8 then (if x8<(x6.length:Int) then ((fB.f ((af x6 x8).f0) ((af x6 x8).f1)).bind fun t266=>(if x3.length<8796093022208 then (cM.l0 k (x3++[t266]) x6 x7 (wrap64 (x8+1))) else (none))) else (none)) else (none)) else ((bG.f k x3).bind fun t270=>(some t270))
def cM.f (k:Nat) (l0:List (av)):Option (List Int):=cM.l0 k ([]:List ByteArray) l0 (l0.length:Int) 0
theorem cM.cP:∀ k,(∀ y0 y1 y2 y3,aE (cM.l0 k y0 y1 y2 y3) (cM.l0 (k+1) y0 y1 y2 y3))
 | 0=>fun _ _ _ _ r h=>by simp [cM.l0] at h
 | k+1=>by
  have ih0:=cM.cP k
  ·
   intro y0 y1 y2 y3
   unfold cM.l0
   have m0:=@bG.mono;exact e8
theorem cM.mono:∀ a0 k,aE (cM.f k a0) (cM.f (k+1) a0):=by
 intro a0 k
 have ih0:=cM.cP k
 unfold cM.f
 have m0:=@bG.mono;exact e8
theorem cM.calls (k:Nat) (A0:Option Addr) (c0:Nat) (l0:List (av)) (r:List Int) (w:World) (hr0:Kd.C cC w A0 l0.length l0) (hc0:l0.length≤c0) (h:cM.f k l0=some r) :
  Calls Tryz.prog 70 #[.slice A0 l0.length c0] w fun e w'=>∃ v0_:Value,e = .returned (v0_)∧Kd.R (Kd.int .u8) 5 w' w.heap.size (fun _=>True) v0_ r∧Below w.heap.size w w':=by
 have hu34:=Tryz.underlying34;have HR0:=aS hr0;have HC0:=aS hc0;clear hr0 hc0;have HB:=aS (Below.refl w.heap.size w);have H:(cM.l0 k ([]:List ByteArray) l0 (l0.length:Int) 0)=some r:=h;clear h
 have H':=aS H
 clear H
 go_enter Tryz.func70,Tryz.ntmps70
 go_wp2
 go_loopg [3,8] k (fun kq v3 v8 w'=>∃ (x3_1:List ByteArray) (x8_1:Int),v8 = .int .i64 x8_1∧ak (cM.l0 kq x3_1 l0 (l0.length:Int) x8_1=some r)∧ak (kq≤k)∧ak (Kd.R Kd.string 9 w' w.heap.size (fun _=>True) v3 x3_1)∧ak (Below w.heap.size w w'))
 case atStart=>exact ⟨(([]:List ByteArray)),(0),dU,H',⟨Nat.le_refl _⟩,⟨by first | exact Kd.dX _ _ _ _ _ | exact Kd.gy _ _ _ _ _ | exact Kd.fN _ _ _ _ _ | exact Kd.gB _ _ _ _ _ | exact Kd.gA _ _ _ _ _⟩,⟨ar⟩⟩
 case round=>
  clear H';obtain ⟨x3_1,x8_1,rfl,HA,HK1,HO_3,HB⟩:=hrel
  cases gk with
  | zero=>exact absurd HA.out (by simp [cM.l0])
  | succ k1=>
   have H:=HA.out;clear HA
   simp only [cM.l0] at H
   by_cases c2:x8_1<(l0.length:Int)
   ·
    rw [if_pos c2] at H;have c2b0:decide (x8_1<(l0.length:Int))=true:=decide_eq_true c2;clear c2
    by_cases c3:0≤x8_1
    ·
     rw [if_pos c3] at H;have c3b0:decide (0≤x8_1)=true:=decide_eq_true c3;clear c3
     by_cases c4:x8_1<(l0.length:Int)
     ·
      rw [if_pos c4] at H;have c4b0:decide (x8_1<(l0.length:Int))=true:=decide_eq_true c4;clear c4;replace H:=bV H;obtain ⟨t266,A50,H⟩:=H;have A5:=aS A50;clear A50
      by_cases c6:x3_1.length<8796093022208
      ·
       rw [if_pos c6] at H;have LMc6:=aS c6;clear c6
       obtain ⟨y267,hy267⟩:∃ y_:List ByteArray,y_=(x3_1++[t266]):=⟨_,rfl⟩
       (first | replace H:=j8 hy267 H | rw [←hy267] at H);have Ny267:=aS hy267;clear hy267
       have H':=aS H
       clear H;have p264:0≤(x8_1:Int):=cG;have q264:x8_1<(l0.length:Int):=cG;obtain ⟨ad264,e264,hx264_0,hx264_1,hx264_2,hx264_3,hx264_4⟩:=eT HR0.out x8_1 p264 q264;cases e264;replace hx264_0:=bx ar hx264_0;replace hx264_1:=bx ar hx264_1;replace hx264_2:=bx ar hx264_2;replace hx264_3:=bx ar hx264_3;replace hx264_4:=bx ar hx264_4;replace p264:=eq_true p264;replace q264:=eq_true q264
       go_wp2_with (first | ((with_reducible refine aX (N:=5) rfl ?_);refine aY ?hg (N:=5) ?hd (cs:=#[.string (⟨#[]⟩:ByteArray),.string (⟨#[]⟩:ByteArray),.int .i64 0,.string (⟨#[]⟩:ByteArray),.bool false]) (t:=34) ?hr ?_;(case hd=>rfl);(case hg=>rfl);(case hr=>first | (go_simp;done) | (go_simp;rfl));intro gb265 hg w7 hbox hb;replace HO_3:=aS (Kd.dA (rel HO_3.out) hb);have BK265:=aS (hbox);have GW265:=bsize hg;have GE265:=bsize hg;replace HB:=aM hb;clear hb hbox hg;have hcz8:=cR BK265) | ((with_reducible refine aC (f:=90) rfl ?_);refine bE (some 17) rfl rfl Tryz.func90 (by kernel_rfl) rfl #[.string ((af l0 x8_1).f0),.string ((af l0 x8_1).f1)] rfl cD ?_;(with_reducible refine (fB.calls ((af l0 x8_1).f0) ((af l0 x8_1).f1) t266 _ A5.out).mono ?_);rintro e w9 ⟨rfl,hb⟩;refine ⟨_,rfl,?_⟩;replace HO_3:=aS (Kd.dA (by (with_reducible repeat (first | apply Kd.bS | apply Kd.bO | apply Kd.bP));exact (Kd.aH (Kd.fj (p:=⟨gb265,4,none⟩) (Kd.fj (p:=⟨gb265,3,none⟩) (Kd.fj (p:=⟨gb265,2,none⟩) (Kd.fj (p:=⟨gb265,1,none⟩) (Kd.fj (p:=⟨gb265,0,none⟩) (Kd.gK HO_3.out BK265.out (by decide)) (fun _ hk=>hk.2) (.string ((af l0 x8_1).f0))) (fun _ hk=>hk.2) (.string ((af l0 x8_1).f1))) (fun _ hk=>hk.2) (.int .i64 ((af l0 x8_1).f2))) (fun _ hk=>hk.2) (.string ((af l0 x8_1).f3))) (fun _ hk=>hk.2) (.bool ((af l0 x8_1).f4))) (fun _ h_=>h_.1))) hb);replace BK265:=aS (aK (g:=gb265) (o:=.cells #[.string ((af l0 x8_1).f0),.string ((af l0 x8_1).f1),.int .i64 ((af l0 x8_1).f2),.string ((af l0 x8_1).f3),.bool ((af l0 x8_1).f4)] 34 (0,0)) (by (with_reducible repeat (first | refine aA ?_ _ | refine au ?_ | refine ax ?_ _));refine bn (cs:=#[.string ((af l0 x8_1).f0),.string ((af l0 x8_1).f1),.int .i64 ((af l0 x8_1).f2),.string ((af l0 x8_1).f3),.bool false]) ?_ 4 _ rfl;(with_reducible repeat (first | refine aA ?_ _ | refine au ?_ | refine ax ?_ _));refine bn (cs:=#[.string ((af l0 x8_1).f0),.string ((af l0 x8_1).f1),.int .i64 ((af l0 x8_1).f2),.string (⟨#[]⟩:ByteArray),.bool false]) ?_ 3 _ rfl;(with_reducible repeat (first | refine aA ?_ _ | refine au ?_ | refine ax ?_ _));refine bn (cs:=#[.string ((af l0 x8_1).f0),.string ((af l0 x8_1).f1),.int .i64 0,.string (⟨#[]⟩:ByteArray),.bool false]) ?_ 2 _ rfl;(with_reducible repeat (first | refine aA ?_ _ | refine au ?_ | refine ax ?_ _));refine bn (cs:=#[.string ((af l0 x8_1).f0),.string (⟨#[]⟩:ByteArray),.int .i64 0,.string (⟨#[]⟩:ByteArray),.bool false]) ?_ 1 _ rfl;(with_reducible repeat (first | refine aA ?_ _ | refine au ?_ | refine ax ?_ _));refine bn (cs:=#[.string (⟨#[]⟩:ByteArray),.string (⟨#[]⟩:ByteArray),.int .i64 0,.string (⟨#[]⟩:ByteArray),.bool false]) ?_ 0 _ rfl;(with_reducible repeat (first | refine aA ?_ _ | refine au ?_ | refine ax ?_ _));exact BK265.out) hb);replace HB:=aM hb;(try clear hb);(try clear hk);(try clear hi)) | ((with_reducible refine eZ (b:=.append) (xs:=#[.tmp 12,.tmp 18]) rfl ?_);at_builtin;refine Kd.gC Kd.string (w0:=w) w.heap.size rfl (.tmp 12) (.tmp 18) 130 9 (.string ⟨#[]⟩) 16 rfl Tryz.underlying130 EZ rfl (by decide) (by omega) u3 x3_1 t266 [.string t266] (fun _=>True) (fun _=>False) rfl rfl ?aP (fun _ hk=>hk.elim) ?aF ?aO ?aB ?aS ?aL ?_;(case aP=>exact rfl);(case aB=>exact ar);(case aF=>exact (fun _ _=>trivial));(case aO=>exact (rel HO_3.out));(case aS=>exact (ay ar));(case aL=>have:=LMc6.out;omega);intro v268 w10 ho hb hg hat;rw [←Ny267.out] at ho;have n0_:=aS (er (g:=gb265) (o:=.cells #[.string ((af l0 x8_1).f0),.string ((af l0 x8_1).f1),.int .i64 ((af l0 x8_1).f2),.string ((af l0 x8_1).f3),.bool ((af l0 x8_1).f4)] 34 (0,0)) (eB BK265.out) hg (Kd.jH HO_3.out BK265.out (by decide)));have n1_:=aS (hb);have n2_:=aS (ho);clear BK265;clear HB;clear HO_3;have BK265:=n0_;have HB:=n1_;have HO269:=n2_;clear n0_ n1_ n2_;clear ho hb hg hat))
       go_roundg k1
       case measure=>have:=HK1.out;omega
       case rel=>exact ⟨(y267),(wrap64 (x8_1+1)),dU,H',⟨by have:=HK1.out;omega⟩,⟨by (with_reducible repeat (first | apply Kd.bS | apply Kd.bO | apply Kd.bP));exact HO269.out⟩,⟨ar⟩⟩
      ·
       rw [if_neg c6] at H;exact absurd H (by simp)
     ·
      rw [if_neg c4] at H;exact absurd H (by simp)
    ·
     rw [if_neg c3] at H;exact absurd H (by simp)
   ·
    rw [if_neg c2] at H;have c2b0:decide (x8_1<(l0.length:Int))=false:=decide_eq_false c2;clear c2;replace H:=bV H;obtain ⟨t270,A110,H⟩:=H;have A11:=aS A110;clear A110
    obtain rfl:=Option.some.inj H
    obtain ⟨Ao12,co12,eo12⟩:=Kd.bq HO_3.out;subst eo12
    go_wp2_with (first | ((with_reducible refine aC (f:=91) rfl ?_);refine bE (some 22) rfl rfl Tryz.func91 (by kernel_rfl) rfl #[.slice Ao12 x3_1.length co12] rfl cD ?_;(with_reducible refine (bG.calls k1 _ _ x3_1 t270 _ ?side1 ?side2 A11.out).mono ?_);(case side1=>exact eN ((Kd.bh HO_3.out).2.2));(case side2=>exact (Kd.bh HO_3.out).2.1);rintro e w13 ⟨v271,rfl,ho0,hb⟩;refine ⟨_,rfl,?_⟩;replace HO_3:=aS (Kd.dA (rel HO_3.out) hb);have HO272:=aS (Kd.bf ho0 (ay ar));replace HB:=aM hb;(try clear hb);(try clear hk);(try clear hi);(try clear ho0)))
    go_ret
    exact ⟨_,dN,by (with_reducible repeat (first | apply Kd.bS | apply Kd.bO | apply Kd.bP));exact HO272.out,ar⟩
def dH.f (l0:List Int):Option (List Int):=if l0.length*1≤140737488355328 then some l0 else none
theorem dH.calls (A0:Option Addr) (c0:Nat) (l0 r:List Int) (w:World) (hr0:Kd.C (Kd.int .u8) w A0 l0.length l0) (hc0:l0.length≤c0) (h:dH.f l0=some r) :
  Calls Tryz.prog 92 #[.slice A0 l0.length c0] w fun e w'=>∃ v0_:Value,e = .returned (v0_)∧Kd.R (Kd.int .u8) 5 w' w.heap.size (fun _=>True) v0_ r∧Below w.heap.size w w':=by
 unfold dH.f at h
 split at h
 ·
  rename_i hlim
  obtain rfl:=Option.some.inj h
  clear h;have HL:=aS hlim;clear hlim;have HR:=aS hr0;clear hr0;have HC:=aS hc0;clear hc0
  cases A0 with
  | none=>
   have hl:l0=[]:=by
    rcases Nat.eq_zero_or_pos l0.length with h0 | h0
    ·
     exact List.eq_nil_of_length_eq_zero h0
    ·
     obtain ⟨ad,h,_⟩:=HR.out.2.2 h0;cases h
   subst hl
   have hq:=fun (w:World) (n c n' c':Nat)=>Lib.run_eql_slice_nil (P:=Tryz.prog) w 51 5 none n c n' c' Tryz.underlying51
   go_enter Tryz.func92,Tryz.ntmps92
   go_wp2
   go_ret
   exact ⟨_,rfl,Kd.dX _ _ _ _ _,Below.refl _ _⟩
  | some ad=>
   have hq:=fun (w:World) (n c n' c':Nat)=>Lib.run_eql_slice_nil (P:=Tryz.prog) w 51 5 (some ad) n c n' c' Tryz.underlying51
   go_enter Tryz.func92,Tryz.ntmps92
   go_wp2_with (first
    | ((with_reducible refine aX (N:=5) rfl ?_);refine Kd.pH (Kd.int .u8) _ 5 ?hg (N:=5) ?hd (xs:=[]) (inner:=[]) (ok:=fun _=>True) (okp:=fun _=>True) ?hr ?hp (fun _ hk=>hk) trivial (Below.refl _ _) (Nat.le_refl _) (by simp) ?_;(case hd=>rfl);(case hg=>rfl);(case hr=>first | (go_simp;done) | (go_simp;rfl));(case hp=>exact bH.none _ _);intro v1 w1 ho hb hg_ hnew_;clear hg_ hnew_;have HO:=aS ho;have HB:=aS hb;clear ho hb)
    | (at_builtin;refine Kd.fW (Kd.int .u8) (Rr:=((Kd.int .u8)).K w) (w0:=w) w.heap.size rfl (.tmp 5) _ 51 5 _ _ rfl Tryz.underlying51 fE rfl (by decide) (by decide) v1 [] l0 (some ad) l0.length c0 (fun _=>True) (fun _=>False) rfl rfl HO.out (HR.out.gI HB.out (fun _ _ hp=>hp)) (fun _ _ hp=>hp) (fun _ hk=>hk.elim) (fun _ _=>trivial) HB.out HB.out.size (by have:=HL.out;simp;omega) ?_;intro v2 w2 ho hb hg hat;clear hg hat;have HO2:=aS ho;have HB2:=aS hb;clear ho hb))
   go_ret
   exact ⟨_,rfl,HO2.out,HB2.out⟩
 ·
  cases h
def bw.l0:Nat→List Int→Int→List Int→Int→Int→Option (Int × List Int × Bool)
 | 0,_,_,_,_,_=>none
 | k+1,x0,x5,x12,x13,x14=>if x14<x13 then (if 0≤x14 then (if x14<(x12.length:Int) then (bw.l0 k x0 (Go.bits .or .i64 (wrap64 (x5*256)) (wrap64 (rd x12 x14))) x12 x13 (wrap64 (x14+1))) else (none)) else (none)) else (if 4≤(x0.length:Int) then ((dH.f (x0.drop 4)).bind fun t282=>(some (x5,t282,true))) else (none))
def bw.f (k:Nat) (l0:List Int):Option (Int × List Int × Bool):=if (l0.length:Int)<4 then (some (0,([]:List Int),false)) else (if 4≤(l0.length:Int) then ((some (l0.take 4:List Int)).bind fun y273=>(bw.l0 k l0 0 y273 (y273.length:Int) 0)) else (none))
theorem bw.cP:∀ k,(∀ y0 y1 y2 y3 y4,aE (bw.l0 k y0 y1 y2 y3 y4) (bw.l0 (k+1) y0 y1 y2 y3 y4))
 | 0=>fun _ _ _ _ _ r h=>by simp [bw.l0] at h
 | k+1=>by
  have ih0:=bw.cP k
  ·
   intro y0 y1 y2 y3 y4
   unfold bw.l0
   exact e8
theorem bw.mono:∀ a0 k,aE (bw.f k a0) (bw.f (k+1) a0):=by
 intro a0 k
 have ih0:=bw.cP k
 unfold bw.f
 exact e8
theorem bw.calls (k:Nat) (A0:Option Addr) (c0:Nat) (l0:List Int) (r1:Int) (r2:List Int) (r3:Bool) (w:World) (hr0:Kd.C (Kd.int .u8) w A0 l0.length l0) (hc0:l0.length≤c0) (h:bw.f k l0=some (r1,r2,r3)) :
  Calls Tryz.prog 71 #[.slice A0 l0.length c0] w fun e w'=>∃ v1_:Value,e = .returned (.tuple #[.int .i64 r1,v1_,.bool r3])∧Kd.R (Kd.int .u8) 5 w' w.heap.size (fun _=>True) v1_ r2∧Below w.heap.size w w':=by
 have HR0:=aS hr0;have HC0:=aS hc0;clear hr0 hc0;have HB:=aS (Below.refl w.heap.size w);have H:(if (l0.length:Int)<4 then (some (0,([]:List Int),false)) else (if 4≤(l0.length:Int) then ((some (l0.take 4:List Int)).bind fun y273=>(bw.l0 k l0 0 y273 (y273.length:Int) 0)) else (none)))=some (r1,r2,r3):=h;clear h
 by_cases c2:(l0.length:Int)<4
 ·
  rw [if_pos c2] at H;have c2b0:decide ((l0.length:Int)<4)=true:=decide_eq_true c2;have c2b1:decide (l0.length<4)=true:=decide_eq_true (by omega);clear c2
  simp only [Option.some.injEq,Prod.mk.injEq] at H
  obtain ⟨rfl,rfl,rfl⟩:=H
  go_enter Tryz.func71,Tryz.ntmps71
  go_wp2
  go_ret3
  exact ⟨_,dN,by first | exact Kd.dX _ _ _ _ _ | exact Kd.gy _ _ _ _ _ | exact Kd.fN _ _ _ _ _ | exact Kd.gB _ _ _ _ _ | exact Kd.gA _ _ _ _ _,ar⟩
 ·
  rw [if_neg c2] at H;have c2b0:decide ((l0.length:Int)<4)=false:=decide_eq_false c2;have c2b1:decide (l0.length<4)=false:=decide_eq_false (by omega);clear c2
  by_cases c3:4≤(l0.length:Int)
  ·
   rw [if_pos c3] at H;have c3b0:=eq_true c3;have c3b1:decide (4≤(l0.length:Int))=true:=decide_eq_true c3;clear c3
   obtain ⟨y273,hy273⟩:∃ y_:List Int,y_=(l0.take 4):=⟨_,rfl⟩
   (first | replace H:=j8 hy273 H | rw [←hy273] at H);have Ny273:=aS hy273;clear hy273
   have H':=aS H
   clear H;have q4:(4:Int)≤((l0.length:Int):Int):=cG;obtain ⟨i04,hi04,_,hsz4,_⟩:=info_parts fE;have hroom4:l0.length≤c0:=HC0.out;have hC4:Kd.C (Kd.int .u8) _ A0 l0.length l0:=HR0.out;have hcut4:=jR (P:=Tryz.prog) 51 5 .i64 Tryz.underlying51 hi04 A0 l0.length c0 4 (by omega) q4 hroom4;have hr4:=Kd.oT (m:=4) hC4 (by omega);have hy4:y273.length=(4:Int).toNat:=(by rw [Ny273.out,kX];omega);rw [←Ny273.out] at hr4;rw [←hy4] at hcut4;have HR276:=aS hr4;have HC276:=aS (show y273.length≤c0 from by omega);clear hr4 hC4 hroom4 hi04 hsz4;have KY4:=aS hy4;clear hy4;replace q4:=eq_true q4
   go_enter Tryz.func71,Tryz.ntmps71
   go_wp2
   go_loopg [5,14] k (fun kq v5 v14 w'=>∃ (x5_1:Int) (x14_1:Int),v5 = .int .i64 x5_1∧v14 = .int .i64 x14_1∧ak (bw.l0 kq l0 x5_1 y273 (y273.length:Int) x14_1=some (r1,r2,r3))∧ak (kq≤k)∧ak (Below w.heap.size w w'))
   case atStart=>exact ⟨(0),(0),dU,dU,H',⟨Nat.le_refl _⟩,⟨ar⟩⟩
   case round=>
    clear H';(try clear c2);(try clear c2b0);(try clear c2b1);(try clear c3);(try clear c3b0);(try clear c3b1);(try clear q4);obtain ⟨x5_1,x14_1,rfl,rfl,HA,HK1,HB⟩:=hrel
    cases gk with
    | zero=>exact absurd HA.out (by simp [bw.l0])
    | succ k1=>
     have H:=HA.out;clear HA
     simp only [bw.l0] at H
     by_cases c5:x14_1<(y273.length:Int)
     ·
      rw [if_pos c5] at H;have c5b0:decide (x14_1<(y273.length:Int))=true:=decide_eq_true c5;clear c5
      by_cases c6:0≤x14_1
      ·
       rw [if_pos c6] at H;have c6b0:decide (0≤x14_1)=true:=decide_eq_true c6;clear c6
       by_cases c7:x14_1<(y273.length:Int)
       ·
        rw [if_pos c7] at H;have c7b0:decide (x14_1<(y273.length:Int))=true:=decide_eq_true c7;clear c7
        have H':=aS H
        clear H;have p277:0≤(x14_1:Int):=cG;have q277:x14_1<(y273.length:Int):=cG;obtain ⟨ad277,e277,hx277_0⟩:=Kd.jj HR276.out x14_1 p277 q277;cases e277;replace hx277_0:=bx ar hx277_0;replace p277:=eq_true p277;replace q277:=eq_true q277
        go_wp2
        go_roundg k1
        case measure=>have:=HK1.out;omega
        case rel=>exact ⟨(Go.bits .or .i64 (wrap64 (x5_1*256)) (wrap64 (rd y273 x14_1))),(wrap64 (x14_1+1)),dU,dU,H',⟨by have:=HK1.out;omega⟩,⟨ar⟩⟩
       ·
        rw [if_neg c7] at H;exact absurd H (by simp)
      ·
       rw [if_neg c6] at H;exact absurd H (by simp)
     ·
      rw [if_neg c5] at H;have c5b0:decide (x14_1<(y273.length:Int))=false:=decide_eq_false c5;clear c5
      by_cases c8:4≤(l0.length:Int)
      ·
       rw [if_pos c8] at H;have c8b0:=eq_true c8;have c8b1:decide (4≤(l0.length:Int))=true:=decide_eq_true c8;clear c8
       obtain ⟨y278,hy278⟩:∃ y_:List Int,y_=(l0.drop 4):=⟨_,rfl⟩
       (first | replace H:=j8 hy278 H | rw [←hy278] at H);have Ny278:=aS hy278;clear hy278;replace H:=bV H;obtain ⟨t282,A90,H⟩:=H;have A9:=aS A90;clear A90
       simp only [Option.some.injEq,Prod.mk.injEq] at H
       obtain ⟨rfl,rfl,rfl⟩:=H;have q10:(4:Int)≤((l0.length:Int):Int):=cG;obtain ⟨i010,hi010,_,hsz10,_⟩:=info_parts fE;have hroom10:l0.length≤c0:=HC0.out;have hC10:Kd.C (Kd.int .u8) _ A0 l0.length l0:=HR0.out;have hcut10:=gG (P:=Tryz.prog) 51 5 .i64 Tryz.underlying51 hi010 1 hsz10 A0 l0.length c0 4 (by omega) q10;have hr10:=Kd.rV (m:=(4:Int).toNat) (c:=c0) hC10 (by omega) hroom10
       obtain ⟨A10,hA10⟩:∃ A1_,A1_=(if c0=(4:Int).toNat then A0 else (A0:Option Addr).map (·.add ((4:Int).toNat*1))):=⟨_,rfl⟩
       obtain ⟨eU,hc10⟩:∃ c1_,c1_=c0 - (4:Int).toNat:=⟨_,rfl⟩
       have hy10:y278.length=l0.length - (4:Int).toNat:=(by rw [Ny278.out,lY]<;>omega);rw [show (l0).drop (4:Int).toNat=y278 from Ny278.out.symm] at hr10;replace hr10:Kd.C (Kd.int .u8) _ A10 y278.length y278:=(by rw [hA10];exact hr10);rw [←hy10,← hA10,← hc10] at hcut10;have HR281:=aS hr10;have HC281:=aS (show y278.length≤eU from by rw [hy10,hc10];exact Nat.sub_le_sub_right hroom10 _);clear hr10 hC10 hroom10 hi010 hsz10 hc10;have KY10:=aS hy10;have KA10:=aS hA10;clear hy10 hA10;replace q10:=eq_true q10
       go_wp2_with (first | ((with_reducible refine aC (f:=92) rfl ?_);refine bE (some 27) rfl rfl Tryz.func92 (by kernel_rfl) rfl #[.slice A10 y278.length eU] rfl cD ?_;(with_reducible refine (dH.calls _ _ y278 t282 _ ?side1 ?side2 A9.out).mono ?_);(case side1=>exact eN (Kd.cW HR281.out HB.out));(case side2=>exact HC281.out);rintro e w11 ⟨v283,rfl,ho0,hb⟩;refine ⟨_,rfl,?_⟩;have HO284:=aS (Kd.bf ho0 (ay ar));replace HB:=aM hb;(try clear hb);(try clear hk);(try clear hi);(try clear ho0)))
       go_ret3
       exact ⟨_,dN,by (with_reducible repeat (first | apply Kd.bS | apply Kd.bO | apply Kd.bP));exact HO284.out,ar⟩
      ·
       rw [if_neg c8] at H;exact absurd H (by simp)
  ·
   rw [if_neg c3] at H;exact absurd H (by simp)
end Go.Proofs.YtcbhfedcdnjljaaGreat.X

import Derived.Test.YtcbhfedcdnjljaaGreatXx12
set_option maxHeartbeats 8000000
set_option maxRecDepth 100000
set_option linter.unusedVariables false
set_option linter.unusedSimpArgs false
namespace Go.Proofs.YtcbhfedcdnjljaaGreat.X
open Go.RowKit Go.Proofs.YtcbhfedcdnjljaaGreatW.PrintWords Go.Proofs.YtcbhfedcdnjljaaGreatW.PrintLast Go.Proofs.YtcbhfedcdnjljaaGreatW.PrintMore
attribute [local go_sem] gZ g_ iW iZ gF gD ic ig iX
def kH.f (a0_0:ByteArray) (a0_1:ByteArray) (a0_2:Int) (a0_3:ByteArray) (a0_4:Bool) (a1_0:ByteArray) (a1_1:ByteArray) (a1_2:Int) (a1_3:ByteArray) (a1_4:Bool):Option (Bool):=if a0_0.toList=a1_0.toList then (some (a0_1.toList == a1_1.toList)) else (some false)
theorem kH.calls (a0_0:ByteArray) (a0_1:ByteArray) (a0_2:Int) (a0_3:ByteArray) (a0_4:Bool) (a1_0:ByteArray) (a1_1:ByteArray) (a1_2:Int) (a1_3:ByteArray) (a1_4:Bool) (r:Bool) (w:World) (h:kH.f a0_0 a0_1 a0_2 a0_3 a0_4 a1_0 a1_1 a1_2 a1_3 a1_4=some r) :
  Calls Tryz.prog 56 #[.agg #[.string a0_0,.string a0_1,.int .i64 a0_2,.string a0_3,.bool a0_4],.agg #[.string a1_0,.string a1_1,.int .i64 a1_2,.string a1_3,.bool a1_4]] w fun e w'=>e = .returned (.bool r)∧Below w.heap.size w w':=by
 have hu34:=Tryz.underlying34;have HB:=aS (Below.refl w.heap.size w);have H:(if a0_0.toList=a1_0.toList then (some (a0_1.toList == a1_1.toList)) else (some false))=some r:=h;clear h
 by_cases c3:a0_0.toList=a1_0.toList
 ·
  rw [if_pos c3] at H;obtain ⟨c3b0,c3b1⟩:=jE c3;clear c3
  obtain rfl:=Option.some.inj H
  go_enter Tryz.func56,Tryz.ntmps56
  go_wp2_with (first | ((with_reducible refine aX (N:=2) rfl ?_);refine aY ?hg (N:=2) ?hd (cs:=#[.string a0_0,.string a0_1,.int .i64 a0_2,.string a0_3,.bool a0_4]) (t:=34) ?hr ?_;(case hd=>rfl);(case hg=>rfl);(case hr=>first | (go_simp;done) | (go_simp;rfl));intro gb514 hg w4 hbox hb;have BK514:=aS (hbox);have GW514:=bsize hg;have GE514:=bsize hg;replace HB:=aM hb;clear hb hbox hg) | ((with_reducible refine aX (N:=3) rfl ?_);refine aY ?hg (N:=3) ?hd (cs:=#[.string a1_0,.string a1_1,.int .i64 a1_2,.string a1_3,.bool a1_4]) (t:=34) ?hr ?_;(case hd=>rfl);(case hg=>rfl);(case hr=>first | (go_simp;done) | (go_simp;rfl));intro gb515 hg w5 hbox hb;have BK515:=aS (hbox);have GW515:=bsize hg;have GE515:=bsize hg;replace HB:=aM hb;have NB514_515:=aS ((by rw [hg];exact Nat.ne_of_lt (dg (g:=gb514) (o:=.cells #[.string a0_0,.string a0_1,.int .i64 a0_2,.string a0_3,.bool a0_4] 34 (0,0)) (eB BK514.out)):gb514≠gb515));have NB515_514:=aS ((by rw [hg];exact Nat.ne_of_gt (dg (g:=gb514) (o:=.cells #[.string a0_0,.string a0_1,.int .i64 a0_2,.string a0_3,.bool a0_4] 34 (0,0)) (eB BK514.out)):gb515≠gb514));replace BK514:=fA BK514 hb;clear hb hbox hg;have hnb6:=NB514_515.out;have hnc6:=NB515_514.out;have hcz7:=cR BK514;have hcz8:=cR BK515))
  go_ret
  exact ⟨dN,ar⟩
 ·
  rw [if_neg c3] at H;obtain ⟨c3b0,c3b1⟩:=ju c3
  obtain rfl:=Option.some.inj H
  go_enter Tryz.func56,Tryz.ntmps56
  go_wp2_with (first | ((with_reducible refine aX (N:=2) rfl ?_);refine aY ?hg (N:=2) ?hd (cs:=#[.string a0_0,.string a0_1,.int .i64 a0_2,.string a0_3,.bool a0_4]) (t:=34) ?hr ?_;(case hd=>rfl);(case hg=>rfl);(case hr=>first | (go_simp;done) | (go_simp;rfl));intro gb514 hg w9 hbox hb;have BK514:=aS (hbox);have GW514:=bsize hg;have GE514:=bsize hg;replace HB:=aM hb;clear hb hbox hg) | ((with_reducible refine aX (N:=3) rfl ?_);refine aY ?hg (N:=3) ?hd (cs:=#[.string a1_0,.string a1_1,.int .i64 a1_2,.string a1_3,.bool a1_4]) (t:=34) ?hr ?_;(case hd=>rfl);(case hg=>rfl);(case hr=>first | (go_simp;done) | (go_simp;rfl));intro gb515 hg w10 hbox hb;have BK515:=aS (hbox);have GW515:=bsize hg;have GE515:=bsize hg;replace HB:=aM hb;have NB514_515:=aS ((by rw [hg];exact Nat.ne_of_lt (dg (g:=gb514) (o:=.cells #[.string a0_0,.string a0_1,.int .i64 a0_2,.string a0_3,.bool a0_4] 34 (0,0)) (eB BK514.out)):gb514≠gb515));have NB515_514:=aS ((by rw [hg];exact Nat.ne_of_gt (dg (g:=gb514) (o:=.cells #[.string a0_0,.string a0_1,.int .i64 a0_2,.string a0_3,.bool a0_4] 34 (0,0)) (eB BK514.out)):gb515≠gb514));replace BK514:=fA BK514 hb;clear hb hbox hg;have hnb11:=NB514_515.out;have hnc11:=NB515_514.out;have hcz12:=cR BK514;have hcz13:=cR BK515))
  go_ret
  exact ⟨dN,ar⟩
-- kH
def bp.sm (p c:av):Bool:=p.f0.toList == c.f0.toList && p.f1.toList == c.f1.toList
def bp.at_ (l:List av) (i:Nat):av:=af l (i:Int)
def bp.nw (l:List av) (t:Int) (i:Nat):Bool:=decide (i=0) || (!(bp.sm (bp.at_ l (i - 1)) (bp.at_ l i)) || decide ((bp.at_ l (i - 1)).f2 > t))
def bp.keep (l:List av) (t:Int) (i:Nat):Bool:=decide ((bp.at_ l i).f2≤t) && (bp.nw l t i && !(bp.at_ l i).f4)
def bp.pre (l:List av) (t:Int):Nat→List av
 | 0=>[]
 | i+1=>bp.pre l t i++if bp.keep l t i=true then [bp.at_ l i] else []
def bp.f (_:Nat) (l:List av) (t:Int):Option (List av):=if l.length<2199023255552 then some (bp.pre l t l.length) else none
theorem bp.mono:∀ a0 a1 k,aE (bp.f k a0 a1) (bp.f (k+1) a0 a1):=fun _ _ _=>aE.refl _
theorem bp.len (l:List av) (t:Int):∀ i,(bp.pre l t i).length≤i
 | 0=>Nat.le_refl _
 | i+1=>by
  have:=bp.len l t i
  unfold bp.pre
  split<;>simp<;>omega
theorem bp.same (p c:av):kH.f p.f0 p.f1 p.f2 p.f3 p.f4 c.f0 c.f1 c.f2 c.f3 c.f4=some (bp.sm p c):=by
 unfold kH.f bp.sm
 split
 ·
  next h=>rw [beq_iff_eq.2 h];rfl
 ·
  next h=>rw [beq_eq_false_iff_ne.2 h];rfl
theorem bp.calls (k:Nat) (A0:Option Addr) (c0:Nat) (l:List av) (t:Int) (r:List av) (w:World) (hr0:Kd.C cC w A0 l.length l) (hc0:l.length≤c0) (h:bp.f k l t=some r) :
  Calls Tryz.prog 37 #[.slice A0 l.length c0,.int .i64 t] w fun e w'=>∃ v0_:Value,e = .returned v0_∧Kd.R cC 34 w' w.heap.size (fun _=>True) v0_ r∧Below w.heap.size w w':=by
 have hu24:=Tryz.underlying32;have hu26:=Tryz.underlying34
 unfold bp.f at h
 by_cases hlim:l.length<2199023255552
 case neg=>rw [if_neg hlim] at h;cases h
 rw [if_pos hlim] at h
 obtain rfl:=Option.some.inj h
 have HC:=aS hr0;have HL:=aS hc0;have HLM:=aS hlim;clear hr0 hc0 hlim h
 go_enter Tryz.func37,Tryz.ntmps37
 go_wp2
 go_loopw [5,11] (fun v5 v11 wr=>∃ (i:Nat),v11 = .int .i64 (i:Int)∧ak (i≤l.length)∧ak (Kd.R cC 34 wr w.heap.size (fun _=>True) v5 (bp.pre l t i))∧ak (Below w.heap.size w wr)) (fun _ i _=>l.length - (intOf i).toNat)
 case atStart=>exact ⟨0,rfl,⟨Nat.zero_le _⟩,⟨Kd.dX _ _ _ _ _⟩,⟨Below.refl _ _⟩⟩
 case round=>
  obtain ⟨i,rfl,hi,HR,HBr⟩:=hrel
  by_cases hlt:i<l.length
  ·
   have hq1:(i:Int)<(l.length:Int):=by omega
   have hq0:(0:Int)≤(i:Int):=by omega
   obtain ⟨ad,e_,hx0,hx1,hx2,hx3,hx4⟩:=eT (Kd.cW HC.out HBr.out) (i:Int) hq0 hq1;subst e_
   obtain ⟨x,hx⟩:∃ x,x=af l (i:Int):=⟨_,rfl⟩
   rw [←hx] at hx0 hx1 hx2 hx3 hx4;have HX:ak (x=bp.at_ l i):=aS hx;have HLA:ak ((bp.pre l t i).length<2199023255552):=aS (Nat.lt_of_le_of_lt (bp.len l t i) (by have:=HLM.out;omega))
   have hix:∀ W:World,(Instr.indexAt 32 (.slice (some ad) l.length c0) (.int .i64 (i:Int))).run Tryz.prog W = .ok (.pointer (some (ad.add (i*5)))) W:=by
    obtain ⟨i0,hi0,hz⟩:=Option.map_eq_some_iff.1 fe
    simp only [Prod.mk.injEq] at hz
    intro W
    have h1:=gH 32 34 hu24 hi0 5 hz.2.1 ad l.length c0 (i:Int) (by omega) (by omega) W
    rwa [Int.toNat_natCast] at h1
   have hwr:wrap64 ((i:Int)+1)=(i:Int)+1:=by rw [←bC,IntKind.wrap_i64];have:=HLM.out;omega
   rw [Int.toNat_natCast] at hx0 hx1 hx2 hx3 hx4;clear hx hi hq0
   go_upto_region 5 with (first | ((with_reducible refine aX (N:=7) rfl ?_);refine aY ?hg (N:=7) ?hd (cs:=#[.string ⟨#[]⟩,.string ⟨#[]⟩,.int .i64 0,.string ⟨#[]⟩,.bool false]) (t:=34) ?hr ?_;(case hd=>rfl);(case hg=>rfl);(case hr=>(first | (go_simp;done) | (go_simp;rfl)));intro p7 hg w1 hb hbl;have B9:=aS hb;have G9:ak (wr.heap.size≤p7):=aS (by rw [hg];exact Nat.le_refl _);have HB1:=aS hbl;clear hg hb hbl) | ((with_reducible refine eG (t:=34) (p:=7) rfl ?_);refine wpList_store_row rfl 34 _ _ rfl p7 #[.string x.f0,.string x.f1,.int .i64 x.f2,.string x.f3,.bool x.f4] rfl rfl 34 _ B9.out (by kernel_rfl) rfl (by kernel_rfl) ?_;have n1_:=aS (setRow_heap w1 p7 _ #[.string x.f0,.string x.f1,.int .i64 x.f2,.string x.f3,.bool x.f4] _ _ B9.out);have HB2:=aS (dS HB1.out G9.out #[.string x.f0,.string x.f1,.int .i64 x.f2,.string x.f3,.bool x.f4]);clear B9 HB1;have B5:=n1_;clear n1_;generalize World.setRow w1 p7 #[.string x.f0,.string x.f1,.int .i64 x.f2,.string x.f3,.bool x.f4]=w2 at B5 HB2 ⊢;have HR2:=aS (Kd.dA HR.out HB2.out);have HB3:=aS (aN HBr.out HB2.out);clear HR HBr HB2;have q5:=cR B5))
   (try simp only [Act.put,dw,dx,lss])
   go_cut [8] (fun v8 wc=>∃ nb:Bool,v8 = .bool nb∧ak (nb=bp.nw l t i)∧ak (wc.heap[p7]? = some (.cells #[.string x.f0,.string x.f1,.int .i64 x.f2,.string x.f3,.bool x.f4] 34 (0,0)))∧ak (Kd.R cC 34 wc w.heap.size (fun _=>True) u5 (bp.pre l t i))∧ak (Below w.heap.size w wc))
   case first=>
    clear hwr hx0 hx1 hx2 hx3 hx4 q5
    by_cases c9:(i:Int)=0
    ·
     have HN:ak (true=bp.nw l t i):=aS (by unfold bp.nw;rw [decide_eq_true (show i=0 by omega)];rfl);obtain ⟨c9a,c9b⟩:=jE c9;clear c9;refine dz (n:=23) (ds:=[]) (S:=fun w'=>True) (bA 23 0) (by kernel_rfl) rfl rfl trivial (fun hHeld=>?_)
     generalize hw_:World.drew _=wd at hHeld ⊢
     have n1_:=aS (hw_▸au B5.out);have n2_:=aS (hw_▸Kd.bP HR2.out);have n3_:=aS (hw_▸aN HB3.out (bN (Below.refl _ _)));clear hw_ B5 HR2 HB3;have B5:=n1_;have HR2:=n2_;have HB3:=n3_;clear n1_ n2_ n3_;refine cH (T:=(true,[([],[]),([0],[0]),([1],[1]),([2],[2]),([2],[2]),([4,2],[2,4]),([3,5,2],[2,3,5]),([6,2],[2,6]),([2],[2]),([7,8,2,2],[2,7,8]),([9,2],[2,9]),([2,10],[2,10]),([11,9],[11]),([12],[12]),([12],[12]),([14,12],[12,14]),([13,15,12],[12,13,15]),([16,12],[12,16]),([17,12],[12,17]),([12],[12]),([18,19,12],[12,18,19]),([12,20],[12,20]),([21,12,0,1,2,3,4,5,6,7,8,9,10,11,12,13,14,15,16,17,18,19,20,21],[21])])) (B:=[0,1,3,7,7,23,63,127,7,511,1023,2047,4095,8191,8191,24575,65535,131071,262143,8191,1048575,2097151,4194303]) (by kernel_rfl) (by kernel_rfl) (fun HT_ HW_=>?_);refine aZ [(0,16),(1,17),(2,18),(3,19),(4,20),(5,21),(6,22),(7,23),(8,24),(9,25),(10,26),(11,27),(12,28),(13,29),(14,30),(15,31),(16,32),(17,33),(18,34),(19,35),(20,36),(21,37),(22,8)] ?_
     iterate 23 (first | (refine nH HT_ ?_) | (refine cr HT_ ?_))
     refine bX (bA 23 8388607) (by kernel_rfl) ?_;refine dQ (cX HT_.out (by kernel_rfl)) ?_;clear HT_ HW_ hHeld
     try go_wp2
     go_meet
     case rel=>exact ⟨true,rfl,HN,B5,HR2,HB3⟩
    ·
     obtain ⟨j,hj⟩:∃ j:Nat,j+1=i:=⟨i - 1,by omega⟩
     obtain ⟨y,hy⟩:∃ y,y=bp.at_ l j:=⟨_,rfl⟩
     obtain ⟨s,hs⟩:∃ s,s=bp.sm y x:=⟨_,rfl⟩
     have HSM:ak (kH.f y.f0 y.f1 y.f2 y.f3 y.f4 x.f0 x.f1 x.f2 x.f3 x.f4=some s):=aS (by rw [hs];exact bp.same y x);have HN:ak ((!s || decide (y.f2 > t))=bp.nw l t i):=aS (by unfold bp.nw;rw [decide_eq_false (show ¬ i=0 by omega),show i - 1=j by omega,← hy,← HX.out,← hs];rfl)
     have hjl:j<l.length:=by omega
     have HYF:ak (∀ w',Below w.heap.size w w'→w'.cell? (ad.add (j*5))=some (.string y.f0)∧w'.cell? ⟨(ad.add (j*5)).block,(ad.add (j*5)).off+1,none⟩=some (.string y.f1)∧w'.cell? ⟨(ad.add (j*5)).block,(ad.add (j*5)).off+2,none⟩=some (.int .i64 y.f2)∧w'.cell? ⟨(ad.add (j*5)).block,(ad.add (j*5)).off+3,none⟩=some (.string y.f3)∧w'.cell? ⟨(ad.add (j*5)).block,(ad.add (j*5)).off+4,none⟩=some (.bool y.f4)):=aS (fun w' hb=>by
      obtain ⟨ad',e',hc⟩:=eT (Kd.cW HC.out hb) (j:Int) (by omega) (by omega)
      injection e' with e'
      subst e'
      rw [Int.toNat_natCast,show af l (j:Int)=y from hy.symm] at hc
      exact hc)
     have hw1:IntKind.i64.wrap ((i:Int) - 1)=(j:Int):=by rw [IntKind.wrap_i64]<;>have:=HLM.out<;>omega
     have hixj:∀ W:World,(Instr.indexAt 32 (.slice (some ad) l.length c0) (.int .i64 (j:Int))).run Tryz.prog W = .ok (.pointer (some (ad.add (j*5)))) W:=by
      obtain ⟨i0,hi0,hz⟩:=Option.map_eq_some_iff.1 fe
      simp only [Prod.mk.injEq] at hz
      intro W
      have h1:=gH 32 34 hu24 hi0 5 hz.2.1 ad l.length c0 (j:Int) (by omega) (by omega) W
      rwa [Int.toNat_natCast] at h1
     obtain ⟨c9a,c9b⟩:=ju c9;clear c9 hj hs hy hix hjl hlt hq1;refine dz (n:=23) (ds:=[]) (S:=fun w'=>(w'.cell? ⟨p7,0,none⟩=some (.string x.f0)∧w'.cell? ⟨p7,1,none⟩=some (.string x.f1)∧w'.cell? ⟨p7,2,none⟩=some (.int .i64 x.f2)∧w'.cell? ⟨p7,3,none⟩=some (.string x.f3)∧w'.cell? ⟨p7,4,none⟩=some (.bool x.f4))∧w'.cell? (ad.add (j*5))=some (.string y.f0)∧w'.cell? ⟨(ad.add (j*5)).block,(ad.add (j*5)).off+1,none⟩=some (.string y.f1)∧w'.cell? ⟨(ad.add (j*5)).block,(ad.add (j*5)).off+2,none⟩=some (.int .i64 y.f2)∧w'.cell? ⟨(ad.add (j*5)).block,(ad.add (j*5)).off+3,none⟩=some (.string y.f3)∧w'.cell? ⟨(ad.add (j*5)).block,(ad.add (j*5)).off+4,none⟩=some (.bool y.f4)) (bA 23 0) (by kernel_rfl) rfl rfl ⟨⟨(aG (au B5.out) 0).trans rfl,(aG (au B5.out) 1).trans rfl,(aG (au B5.out) 2).trans rfl,(aG (au B5.out) 3).trans rfl,(aG (au B5.out) 4).trans rfl⟩,HYF.out _ (aN HB3.out (bN (Below.refl _ _)))⟩ (fun hHeld=>?_)
     generalize hw_:World.drew _=wd at hHeld ⊢
     have n1_:=aS (hw_▸au B5.out);have n2_:=aS (hw_▸Kd.bP HR2.out);have n3_:=aS (hw_▸aN HB3.out (bN (Below.refl _ _)));clear hw_ B5 HR2 HB3;have B5:=n1_;have HR2:=n2_;have HB3:=n3_;clear n1_ n2_ n3_;refine cH (T:=(true,[([],[]),([0],[0]),([1],[1]),([2],[2]),([2],[2]),([4,2],[2,4]),([3,5,2],[2,3,5]),([6,2],[2,6]),([2],[2]),([7,8,2,2],[2,7,8]),([9,2],[2,9]),([2,10],[2,10]),([11,9],[11]),([12],[12]),([12],[12]),([14,12],[12,14]),([13,15,12],[12,13,15]),([16,12],[12,16]),([17,12],[12,17]),([12],[12]),([18,19,12],[12,18,19]),([12,20],[12,20]),([21,12,0,1,2,3,4,5,6,7,8,9,10,11,12,13,14,15,16,17,18,19,20,21],[21])])) (B:=[0,1,3,7,7,23,63,127,7,511,1023,2047,4095,8191,8191,24575,65535,131071,262143,8191,1048575,2097151,4194303]) (by kernel_rfl) (by kernel_rfl) (fun HT_ HW_=>?_);refine aZ [(0,16),(1,17),(2,18),(3,19),(4,20),(5,21),(6,22),(7,23),(8,24)] ?_
     iterate 9 (first | (refine cr HT_ ?_) | (refine d_ HT_ HW_ hHeld ?_))
     refine bX (bA 23 511) (by kernel_rfl) ?_;refine dJ 9 (N:=some 25) (bA 23 1023) HT_ (fun K hK=>?_);refine ep Tryz.func56 (by kernel_rfl) rfl #[.agg #[.string y.f0,.string y.f1,.int .i64 y.f2,.string y.f3,.bool y.f4],.agg #[.string x.f0,.string x.f1,.int .i64 x.f2,.string x.f3,.bool x.f4]] (by rfl) rfl rfl cD ?_
     with_reducible refine (kH.calls y.f0 y.f1 y.f2 y.f3 y.f4 x.f0 x.f1 x.f2 x.f3 x.f4 s _ HSM.out).mono ?_
     rintro e_ w4 ⟨rfl,hb⟩
     refine ⟨_,rfl,?_⟩;have n1_:=aS (aK B5.out hb);have n2_:=aS (Kd.dA HR2.out hb);have n3_:=aS (aN HB3.out hb);clear B5 HR2 HB3 hb;have B5:=n1_;have HR2:=n2_;have HB3:=n3_;clear n1_ n2_ n3_;refine hK.out _ _ ⟨⟨(aG B5.out 0).trans rfl,(aG B5.out 1).trans rfl,(aG B5.out 2).trans rfl,(aG B5.out 3).trans rfl,(aG B5.out 4).trans rfl⟩,HYF.out _ HB3.out⟩ (fun hHeld=>?_);clear hK K;refine nm 25 ?_
     cases s with
     | false=>
      refine aZ [(10,26),(11,27),(12,28),(13,29),(14,30),(15,31),(16,32),(17,33),(18,34),(19,35),(20,36),(21,37),(22,8)] ?_
      iterate 13 (first | (refine nH HT_ ?_) | (refine cr HT_ ?_))
      refine bX (bA 23 8388607) (by kernel_rfl) ?_;refine dQ (cX HT_.out (by kernel_rfl)) ?_;clear HT_ HW_ hHeld
      try go_wp2
      go_meet
      case rel=>exact ⟨true,rfl,aS (by rw [←HN.out];rfl),B5,HR2,HB3⟩
     | true=>
      refine aZ [(10,26),(11,27),(12,28),(13,29),(14,30),(15,31),(16,32),(17,33),(18,34),(19,35),(20,36),(21,37),(22,8)] ?_
      iterate 13 (first | (refine cr HT_ ?_) | (refine d_ HT_ HW_ hHeld ?_))
      refine bX (bA 23 8388607) (by kernel_rfl) ?_;refine dQ (cX HT_.out (by kernel_rfl)) ?_;clear HT_ HW_ hHeld
      try go_wp2
      go_meet
      case rel=>exact ⟨decide (y.f2 > t),rfl,aS (by rw [←HN.out];rfl),B5,HR2,HB3⟩
   case rest=>
    obtain ⟨nb,rfl,hn,B5,HR2,HB3⟩:=hcut;have q5:=cR B5;clear hx0 hx1 hx2 hx3 hx4 hix
    by_cases c8:x.f2≤t
    rotate_left
    ·
     have HP:ak (bp.keep l t i=false):=aS (by unfold bp.keep;rw [←HX.out,decide_eq_false c8];rfl);have c8b:decide (x.f2≤t)=false:=decide_eq_false c8;clear c8
     go_wp2_with (first | fail)
     go_roundw
     case rel=>exact ⟨i+1,by rw [hwr];rfl,⟨hlt⟩,⟨by unfold bp.pre;rw [HP.out,if_neg Bool.false_ne_true,List.append_nil];exact HR2.out⟩,HB3⟩
     case measure=>exact ja hwr hlt
    ·
     have c8b:decide (x.f2≤t)=true:=decide_eq_true c8;clear c8
     cases nb with
     | false=>
      have HP:ak (bp.keep l t i=false):=aS (by unfold bp.keep;rw [←hn.out,Bool.false_and,Bool.and_false])
      go_wp2_with (first | fail)
      go_roundw
      case rel=>exact ⟨i+1,by rw [hwr];rfl,⟨hlt⟩,⟨by unfold bp.pre;rw [HP.out,if_neg Bool.false_ne_true,List.append_nil];exact HR2.out⟩,HB3⟩
      case measure=>exact ja hwr hlt
     | true=>
      by_cases eU:(!x.f4)=true
      ·
       have HP:ak (bp.keep l t i=true):=aS (by unfold bp.keep;rw [←hn.out,← HX.out,c8b,eU];rfl)
       go_wp2_with (first | fail | (at_builtin;refine Kd.gC cC (w0:=w) w.heap.size rfl _ _ 32 34 _ _ rfl hu24 fe rfl (by decide) (by decide) u5 (bp.pre l t i) x [.string x.f0,.string x.f1,.int .i64 x.f2,.string x.f3,.bool x.f4] (fun _=>True) (fun _=>False) rfl rfl (jx _ _ _ x) (fun _ hk=>hk.elim) (fun _ _=>trivial) HR2.out HB3.out HB3.out.size (by have:=HLA.out;clear hwr;omega) ?_;intro v8 w4 ho hb hg hat;have HR4:=aS ho;have HB4:=aS hb;clear ho hb hg hat HR2 HB3))
       go_roundw
       case rel=>exact ⟨i+1,by rw [hwr];rfl,⟨hlt⟩,⟨by unfold bp.pre;rw [HP.out,if_pos rfl,← HX.out];exact HR4.out⟩,HB4⟩
       case measure=>exact ja hwr hlt
      ·
       replace eU:(!x.f4)=false:=Bool.eq_false_iff.mpr eU;have HP:ak (bp.keep l t i=false):=aS (by unfold bp.keep;rw [←hn.out,← HX.out,c8b,eU];rfl)
       go_wp2_with (first | fail)
       go_roundw
       case rel=>exact ⟨i+1,by rw [hwr];rfl,⟨hlt⟩,⟨by unfold bp.pre;rw [HP.out,if_neg Bool.false_ne_true,List.append_nil];exact HR2.out⟩,HB3⟩
       case measure=>exact ja hwr hlt
  ·
   have e_:i=l.length:=by have:=hi.out;omega
   have hge:¬ ((i:Int)<(l.length:Int)):=by omega
   go_wp2
   go_ret
   exact ⟨_,rfl,by rw [←e_];exact HR.out,HBr.out⟩
def cQ.keep (a b:ByteArray) (c:av):Bool:=!(Op.bytesLess c.f0.toList a.toList) && (b.toList == [] || Op.bytesLess c.f0.toList b.toList)
def cQ.f (k:Nat) (xs:List av) (ls:List (List (List av × List (List av) × List Int))) (a b:ByteArray) (t:Int):Option (List av):=(dP.f k xs ls).bind fun c=>(bp.f k c t).bind fun v=>if v.length<2199023255552 then some (v.filter (cQ.keep a b)) else none
theorem cQ.mono:∀ a0 a1 a2 a3 a4 k,aE (cQ.f k a0 a1 a2 a3 a4) (cQ.f (k+1) a0 a1 a2 a3 a4):=fun _ _ _ _ _ _=>aE.bind (dP.mono _ _ _) fun _=>aE.bind (bp.mono _ _ _) fun _=>aE.refl _
attribute [local go_sem] DE
theorem cQ.calls (k g base:Nat) (ok:Nat→Prop) (s1 s2 s3:Int) (xs:List av) (n:Int) (ls:List (List (List av × List (List av) × List Int))) (a b:ByteArray) (t:Int) (r:List av) (w:World) (hA:aq.At w base ok g s1 s2 s3 xs n ls) (h:cQ.f k xs ls a b t=some r) :
  Calls Tryz.prog 17 #[.pointer (some ⟨g,0,none⟩),.string a,.string b,.int .i64 t] w fun e w'=>∃ v0_:Value,e = .returned v0_∧Kd.R cC 34 w' w.heap.size (fun _=>True) v0_ r∧Below w.heap.size w w':=by
 have hu24:=Tryz.underlying32;have hu26:=Tryz.underlying34
 unfold cQ.f at h
 replace h:=bV h;obtain ⟨c,x1,h⟩:=h;replace h:=bV h;obtain ⟨vs,x2,h⟩:=h
 by_cases hlim:vs.length<2199023255552
 case neg=>rw [if_neg hlim] at h;cases h
 rw [if_pos hlim] at h
 obtain rfl:=Option.some.inj h
 have HA:=aS hA;have X1:=aS x1;have X2:=aS x2;have HLM:=aS hlim;clear hA x1 x2 hlim h
 go_enter Tryz.func17,Tryz.ntmps17
 go_wp2_with (first | (go_at_call 19;(with_reducible refine (dP.calls k base ok g s1 s2 s3 xs n ls c _ HA.out X1.out).mono ?_);rintro e_ w2 ⟨v2,rfl,ho,hb⟩;obtain ⟨Ac,cc,rfl,hcl,hC⟩:=Kd.fT ho;have HCc:=aS hC;have HLc:=aS hcl;have HB1:=aS hb;clear ho hb hC hcl) | (go_at_call 37;(with_reducible refine (bp.calls k Ac cc c t vs _ HCc.out HLc.out X2.out).mono ?_);rintro e_ w3 ⟨v3,rfl,ho,hb⟩;obtain ⟨A,cv,rfl,hcl,hC⟩:=Kd.fT ho;have HC:=aS hC;have HL:=aS hcl;have HB:=aS (aN HB1.out hb);clear ho hb hC hcl HB1 HCc HLc))
 go_loopw [9,17] (fun v9 v17 wr=>∃ (i:Nat),v17 = .int .i64 (i:Int)∧ak (i≤vs.length)∧ak (Kd.R cC 34 wr w3.heap.size (fun _=>True) v9 (vs.take i |>.filter (cQ.keep a b)))∧ak (Below w3.heap.size w3 wr)) (fun _ i _=>vs.length - (intOf i).toNat)
 case atStart=>exact ⟨0,rfl,⟨Nat.zero_le _⟩,⟨Kd.dX _ _ _ _ _⟩,⟨Below.refl _ _⟩⟩
 case round=>
  obtain ⟨i,rfl,hi,HR,HBr⟩:=hrel
  by_cases hlt:i<vs.length
  ·
   have hq1:(i:Int)<(vs.length:Int):=by omega
   have hq0:(0:Int)≤(i:Int):=by omega
   obtain ⟨ad,e_,hx0,hx1,hx2,hx3,hx4⟩:=eT (Kd.cW HC.out HBr.out) (i:Int) hq0 hq1;subst e_
   obtain ⟨x,hx⟩:∃ x,x=af vs (i:Int):=⟨_,rfl⟩
   rw [←hx] at hx0 hx1 hx2 hx3 hx4
   have hxe:x=vs[i]:=by rw [hx];unfold af;rw [Int.toNat_natCast,List.getD_eq_getElem?_getD,List.getElem?_eq_getElem hlt];rfl
   have HT:ak ((vs.take (i+1) |>.filter (cQ.keep a b))=(vs.take i |>.filter (cQ.keep a b))++if cQ.keep a b x=true then [x] else []):=aS (by
    rw [List.take_succ_eq_append_getElem hlt,List.filter_append,← hxe]
    congr 1
    by_cases hk:cQ.keep a b x=true<;>simp [hk])
   have HLA:ak ((vs.take i |>.filter (cQ.keep a b)).length<2199023255552):=aS (Nat.lt_of_le_of_lt (List.length_filter_le _ _) (by rw [kX];have:=HLM.out;omega))
   have hix:∀ W:World,(Instr.indexAt 32 (.slice (some ad) vs.length cv) (.int .i64 (i:Int))).run Tryz.prog W = .ok (.pointer (some (ad.add (i*5)))) W:=by
    obtain ⟨i0,hi0,hz⟩:=Option.map_eq_some_iff.1 fe
    simp only [Prod.mk.injEq] at hz
    intro W
    have h1:=gH 32 34 hu24 hi0 5 hz.2.1 ad vs.length cv (i:Int) (by omega) (by omega) W
    rwa [Int.toNat_natCast] at h1
   have hwr:wrap64 ((i:Int)+1)=(i:Int)+1:=by rw [←bC,IntKind.wrap_i64];have:=HLM.out;omega
   rw [Int.toNat_natCast] at hx0 hx1 hx2 hx3 hx4;clear hx hxe hi hq0
   by_cases c8:Op.bytesLess x.f0.toList a.toList=true
   rotate_left
   ·
    replace c8:Op.bytesLess x.f0.toList a.toList=false:=by simpa using c8
    by_cases c9:b.toList=([]:List UInt8)
    rotate_left
    ·
     obtain ⟨c9a,c9b⟩:=ju c9
     by_cases eU:Op.bytesLess x.f0.toList b.toList=true
     rotate_left
     ·
      replace eU:Op.bytesLess x.f0.toList b.toList=false:=by simpa using eU
      have HP:ak (cQ.keep a b x=false):=aS (by unfold cQ.keep;rw [c8,c9a,eU];rfl)
      go_wp2_with (first | ((with_reducible refine aX (N:=11) rfl ?_);refine aY ?hg (N:=11) ?hd (cs:=#[.string ⟨#[]⟩,.string ⟨#[]⟩,.int .i64 0,.string ⟨#[]⟩,.bool false]) (t:=34) ?hr ?_;(case hd=>rfl);(case hg=>rfl);(case hr=>(first | (go_simp;done) | (go_simp;rfl)));intro p9 hg w1 hb hbl;have B9:=aS hb;have G9:ak (wr.heap.size≤p9):=aS (by rw [hg];exact Nat.le_refl _);have HB1:=aS hbl;clear hg hb hbl) | ((with_reducible refine eG (t:=34) (p:=11) rfl ?_);refine wpList_store_row rfl 34 _ _ rfl p9 #[.string x.f0,.string x.f1,.int .i64 x.f2,.string x.f3,.bool x.f4] rfl rfl 34 _ B9.out (by kernel_rfl) rfl (by kernel_rfl) ?_;have B5:=aS (setRow_heap w1 p9 _ #[.string x.f0,.string x.f1,.int .i64 x.f2,.string x.f3,.bool x.f4] _ _ B9.out);have HB2:=aS (dS HB1.out G9.out #[.string x.f0,.string x.f1,.int .i64 x.f2,.string x.f3,.bool x.f4]);clear B9 HB1;generalize World.setRow w1 p9 #[.string x.f0,.string x.f1,.int .i64 x.f2,.string x.f3,.bool x.f4]=w2 at B5 HB2 ⊢;have HR2:=aS (Kd.dA HR.out HB2.out);have HB3:=aS (aN HBr.out HB2.out);clear HR HBr HB2;have q5:=cR B5))
      go_roundw
      case rel=>exact ⟨i+1,by rw [hwr];rfl,⟨hlt⟩,⟨by rw [HT.out,HP.out,if_neg Bool.false_ne_true,List.append_nil];exact HR2.out⟩,HB3⟩
      case measure=>exact ja hwr hlt
     ·
      have HP:ak (cQ.keep a b x=true):=aS (by unfold cQ.keep;rw [c8,c9a,eU];rfl)
      go_wp2_with (first | ((with_reducible refine aX (N:=11) rfl ?_);refine aY ?hg (N:=11) ?hd (cs:=#[.string ⟨#[]⟩,.string ⟨#[]⟩,.int .i64 0,.string ⟨#[]⟩,.bool false]) (t:=34) ?hr ?_;(case hd=>rfl);(case hg=>rfl);(case hr=>(first | (go_simp;done) | (go_simp;rfl)));intro p9 hg w1 hb hbl;have B9:=aS hb;have G9:ak (wr.heap.size≤p9):=aS (by rw [hg];exact Nat.le_refl _);have HB1:=aS hbl;clear hg hb hbl) | ((with_reducible refine eG (t:=34) (p:=11) rfl ?_);refine wpList_store_row rfl 34 _ _ rfl p9 #[.string x.f0,.string x.f1,.int .i64 x.f2,.string x.f3,.bool x.f4] rfl rfl 34 _ B9.out (by kernel_rfl) rfl (by kernel_rfl) ?_;have B5:=aS (setRow_heap w1 p9 _ #[.string x.f0,.string x.f1,.int .i64 x.f2,.string x.f3,.bool x.f4] _ _ B9.out);have HB2:=aS (dS HB1.out G9.out #[.string x.f0,.string x.f1,.int .i64 x.f2,.string x.f3,.bool x.f4]);clear B9 HB1;generalize World.setRow w1 p9 #[.string x.f0,.string x.f1,.int .i64 x.f2,.string x.f3,.bool x.f4]=w2 at B5 HB2 ⊢;have HR2:=aS (Kd.dA HR.out HB2.out);have HB3:=aS (aN HBr.out HB2.out);clear HR HBr HB2;have q5:=cR B5) | (at_builtin;refine Kd.gC cC (w0:=w3) w3.heap.size rfl _ _ 32 34 _ _ rfl hu24 fe rfl (by decide) (by decide) u9 (vs.take i |>.filter (cQ.keep a b)) x [.string x.f0,.string x.f1,.int .i64 x.f2,.string x.f3,.bool x.f4] (fun _=>True) (fun _=>False) rfl rfl (jx _ _ _ x) (fun _ hk=>hk.elim) (fun _ _=>trivial) HR2.out HB3.out HB3.out.size (by have:=HLA.out;clear hwr;omega) ?_;intro v8 w4 ho hb hg hat;have HR4:=aS ho;have HB4:=aS hb;clear ho hb hg hat HR2 HB3))
      go_roundw
      case rel=>exact ⟨i+1,by rw [hwr];rfl,⟨hlt⟩,⟨by rw [HT.out,HP.out,if_pos rfl];exact HR4.out⟩,HB4⟩
      case measure=>exact ja hwr hlt
    ·
     have HP:ak (cQ.keep a b x=true):=aS (by unfold cQ.keep;rw [c8,c9];rfl);obtain ⟨c9a,c9b⟩:=jE c9;clear c9
     go_wp2_with (first | ((with_reducible refine aX (N:=11) rfl ?_);refine aY ?hg (N:=11) ?hd (cs:=#[.string ⟨#[]⟩,.string ⟨#[]⟩,.int .i64 0,.string ⟨#[]⟩,.bool false]) (t:=34) ?hr ?_;(case hd=>rfl);(case hg=>rfl);(case hr=>(first | (go_simp;done) | (go_simp;rfl)));intro p9 hg w1 hb hbl;have B9:=aS hb;have G9:ak (wr.heap.size≤p9):=aS (by rw [hg];exact Nat.le_refl _);have HB1:=aS hbl;clear hg hb hbl) | ((with_reducible refine eG (t:=34) (p:=11) rfl ?_);refine wpList_store_row rfl 34 _ _ rfl p9 #[.string x.f0,.string x.f1,.int .i64 x.f2,.string x.f3,.bool x.f4] rfl rfl 34 _ B9.out (by kernel_rfl) rfl (by kernel_rfl) ?_;have B5:=aS (setRow_heap w1 p9 _ #[.string x.f0,.string x.f1,.int .i64 x.f2,.string x.f3,.bool x.f4] _ _ B9.out);have HB2:=aS (dS HB1.out G9.out #[.string x.f0,.string x.f1,.int .i64 x.f2,.string x.f3,.bool x.f4]);clear B9 HB1;generalize World.setRow w1 p9 #[.string x.f0,.string x.f1,.int .i64 x.f2,.string x.f3,.bool x.f4]=w2 at B5 HB2 ⊢;have HR2:=aS (Kd.dA HR.out HB2.out);have HB3:=aS (aN HBr.out HB2.out);clear HR HBr HB2;have q5:=cR B5) | (at_builtin;refine Kd.gC cC (w0:=w3) w3.heap.size rfl _ _ 32 34 _ _ rfl hu24 fe rfl (by decide) (by decide) u9 (vs.take i |>.filter (cQ.keep a b)) x [.string x.f0,.string x.f1,.int .i64 x.f2,.string x.f3,.bool x.f4] (fun _=>True) (fun _=>False) rfl rfl (jx _ _ _ x) (fun _ hk=>hk.elim) (fun _ _=>trivial) HR2.out HB3.out HB3.out.size (by have:=HLA.out;clear hwr;omega) ?_;intro v8 w4 ho hb hg hat;have HR4:=aS ho;have HB4:=aS hb;clear ho hb hg hat HR2 HB3))
     go_roundw
     case rel=>exact ⟨i+1,by rw [hwr];rfl,⟨hlt⟩,⟨by rw [HT.out,HP.out,if_pos rfl];exact HR4.out⟩,HB4⟩
     case measure=>exact ja hwr hlt
   ·
    have HP:ak (cQ.keep a b x=false):=aS (by unfold cQ.keep;rw [c8];rfl)
    go_wp2_with (first | ((with_reducible refine aX (N:=11) rfl ?_);refine aY ?hg (N:=11) ?hd (cs:=#[.string ⟨#[]⟩,.string ⟨#[]⟩,.int .i64 0,.string ⟨#[]⟩,.bool false]) (t:=34) ?hr ?_;(case hd=>rfl);(case hg=>rfl);(case hr=>(first | (go_simp;done) | (go_simp;rfl)));intro p9 hg w1 hb hbl;have B9:=aS hb;have G9:ak (wr.heap.size≤p9):=aS (by rw [hg];exact Nat.le_refl _);have HB1:=aS hbl;clear hg hb hbl) | ((with_reducible refine eG (t:=34) (p:=11) rfl ?_);refine wpList_store_row rfl 34 _ _ rfl p9 #[.string x.f0,.string x.f1,.int .i64 x.f2,.string x.f3,.bool x.f4] rfl rfl 34 _ B9.out (by kernel_rfl) rfl (by kernel_rfl) ?_;have B5:=aS (setRow_heap w1 p9 _ #[.string x.f0,.string x.f1,.int .i64 x.f2,.string x.f3,.bool x.f4] _ _ B9.out);have HB2:=aS (dS HB1.out G9.out #[.string x.f0,.string x.f1,.int .i64 x.f2,.string x.f3,.bool x.f4]);clear B9 HB1;generalize World.setRow w1 p9 #[.string x.f0,.string x.f1,.int .i64 x.f2,.string x.f3,.bool x.f4]=w2 at B5 HB2 ⊢;have HR2:=aS (Kd.dA HR.out HB2.out);have HB3:=aS (aN HBr.out HB2.out);clear HR HBr HB2;have q5:=cR B5))
    go_roundw
    case rel=>exact ⟨i+1,by rw [hwr];rfl,⟨hlt⟩,⟨by rw [HT.out,HP.out,if_neg Bool.false_ne_true,List.append_nil];exact HR2.out⟩,HB3⟩
    case measure=>exact ja hwr hlt
  ·
   have e_:vs.take i=vs:=List.take_of_length_le (by omega)
   have hge:¬ ((i:Int)<(vs.length:Int)):=by omega
   go_wp2
   go_ret
   exact ⟨_,rfl,Kd.bf (by rw [←e_];exact HR.out) HB.out.size,aN HB.out HBr.out⟩
theorem mq.calls (base:Nat) (ok:Nat→Prop) (g:Nat) (s1 s2 s3:Int) (xs:List av) (n:Int) (ls:List (List (List av × List (List av) × List Int))) (w:World) (hA:aq.At w base ok g s1 s2 s3 xs n ls) (h:ls.length<2199023255552) :
  Calls Tryz.prog 22 #[.pointer (some ⟨g,0,none⟩)] w fun e w'=>∃ v0_:Value,e = .returned v0_∧Kd.R (Kd.int .i64) 3 w' w.heap.size (fun _=>True) v0_ (ls.map fun l=>(l.length:Int))∧Below w.heap.size w w':=by
 have hu30:=Tryz.underlying27;have hu51:=Tryz.underlying61;have hu23:=Tryz.underlying23;have hu49:=Tryz.underlying59;have hu53:=Tryz.underlying64;have hu24:=Tryz.underlying32;have hu61:=Tryz.underlying73;have hu43:=Tryz.underlying50;obtain ⟨gm,vm,vl,vs,hA⟩:=hA;have HA:=aS hA;clear hA;have HLM:=aS h;clear h;have q0:=cR (aS HA.out.cY);obtain ⟨A,cl,rfl,hcl,hmx,hat⟩:=HA.out.at;have HL:=aS HA.out.len;have HAT:=aS hat;clear hat hmx
 go_enter Tryz.func22,Tryz.ntmps22
 go_wp2
 clear q0
 go_loopw [3,11] (fun v3 v11 wr=>∃ (i:Nat),v11 = .int .i64 (i:Int)∧ak (i≤vs.length)∧ak (Kd.R (Kd.int .i64) 3 wr w.heap.size (fun _=>True) v3 ((ls.take i).map fun l=>(l.length:Int)))∧ak (Below w.heap.size w wr)) (fun _ i _=>vs.length - (intOf i).toNat)
 case atStart=>exact ⟨0,rfl,⟨Nat.zero_le _⟩,⟨Kd.dX _ _ _ _ _⟩,⟨Below.refl _ _⟩⟩
 case round=>
  obtain ⟨i,rfl,hi,HR,HBr⟩:=hrel
  by_cases hlt:i<vs.length
  ·
   have hq1:(i:Int)<(vs.length:Int):=by omega
   obtain ⟨ad,e_,hx⟩:=HAT.out wr (fun k _ hk=>HBr.out.block k hk) i hlt;subst e_;obtain ⟨Ai,ci,ei,hli,hCi⟩:=HA.out.cells i hlt;rw [ei] at hx
   have HT:ak (((ls.take (i+1)).map fun l=>(l.length:Int))=((ls.take i).map fun l=>(l.length:Int))++[((ls.getD i []).length:Int)]):=aS (by
    rw [List.take_succ_eq_append_getElem (by rw [←HL.out];exact hlt),List.map_append,List.getD_eq_getElem?_getD,List.getElem?_eq_getElem (by rw [←HL.out];exact hlt)]
    rfl)
   have HG:ak (((ls.take i).map fun l=>(l.length:Int)).length<2199023255552):=aS (by rw [List.length_map,kX];have:=HLM.out;omega)
   generalize (ls.getD i []).length=nl at hx HT
   have hix:∀ W:World,(Instr.indexAt 59 (.slice (some ad) vs.length cl) (.int .i64 (i:Int))).run Tryz.prog W = .ok (.pointer (some (ad.add i))) W:=by
    obtain ⟨i0,hi0,hz⟩:=Option.map_eq_some_iff.1 mQ
    simp only [Prod.mk.injEq] at hz
    intro W
    have h1:=gH 59 64 hu49 hi0 1 hz.2.1 ad vs.length cl (i:Int) (by omega) (by omega) W
    rwa [Nat.mul_one,Int.toNat_natCast] at h1
   have hwr:wrap64 ((i:Int)+1)=(i:Int)+1:=by rw [←bC,IntKind.wrap_i64];have:=HLM.out;have:=HL.out;omega
   clear hi ei hli hCi
   go_wp2_with (first | (at_builtin;refine Kd.gC (Kd.int .i64) (w0:=w) w.heap.size rfl _ _ 50 3 (.int .i64 0) 8 rfl hu43 info3 rfl (by decide) (by decide) u3 _ (nl:Int) [.int .i64 (nl:Int)] (fun _=>True) (fun _=>False) rfl rfl rfl (fun _ hk=>hk.elim) (fun _ _=>trivial) HR.out HBr.out HBr.out.size (by have:=HG.out;clear hwr;omega) ?_;intro v8 w6 ho hb hg hat;rw [←HT.out] at ho;have HR2:=aS ho;have HB2:=aS hb;clear ho hb hg hat HR HBr))
   go_roundw
   case rel=>exact ⟨i+1,by rw [hwr];rfl,⟨hlt⟩,HR2,HB2⟩
   case measure=>exact ja hwr hlt
  ·
   have hge:¬ ((i:Int)<(vs.length:Int)):=by omega
   have e_:ls.take i=ls:=List.take_of_length_le (by rw [←HL.out];omega)
   go_wp2
   go_ret
   exact ⟨_,rfl,by rw [←e_];exact HR.out,HBr.out⟩
-- mq
def cO.tail (k:Nat) (xs:List av) (ls:List (List (List av × List (List av) × List Int))):Option Bool:=
 (br.f k xs ls (⟨#[97]⟩:ByteArray) (⟨#[120]⟩:ByteArray) 3).bind fun v=>(br.f k xs ls (⟨#[97]⟩:ByteArray) (⟨#[120]⟩:ByteArray) 9).bind fun i=>(dP.f k xs ls).bind fun c=>(cQ.f k xs ls (⟨#[]⟩:ByteArray) (⟨#[]⟩:ByteArray) 2).bind fun s=>if v.f4=false∧v.f3=(⟨#[49]⟩:ByteArray)∧i.f4=true∧(ls.map fun l=>(l.length:Int))=[2]∧c.length=2∧s.length=1 then some true else none
def cO.f (k:Nat):Option Bool:=
 (aq.f 1 50 2).bind fun a=>(aq.f 0 0 0).bind fun b=>if a=true∧b=false then (cB.f k 1 50 2 [] 0 [] (⟨#[97]⟩:ByteArray) (⟨#[120]⟩:ByteArray) 1 (⟨#[49]⟩:ByteArray) false).bind fun p=>(cB.f k 1 50 2 p.1 p.2.1 p.2.2.1 (⟨#[97]⟩:ByteArray) (⟨#[120]⟩:ByteArray) 4 (⟨#[]⟩:ByteArray) true).bind fun q=>if p.2.2.2=0∧q.2.2.2=0 then cO.tail k q.1 q.2.2.1 else none else none
theorem cO.mB:∀ a0 a1 k,aE (cO.tail k a0 a1) (cO.tail (k+1) a0 a1):=fun _ _ _=>aE.bind (br.mono _ _ _ _ _ _) fun _=>aE.bind (br.mono _ _ _ _ _ _) fun _=>aE.bind (dP.mono _ _ _) fun _=>aE.bind (cQ.mono _ _ _ _ _ _) fun _=>aE.refl _
theorem cO.mono:∀ k,aE (cO.f k) (cO.f (k+1)):=fun _=>aE.bind (aE.refl _) fun _=>aE.bind (aE.refl _) fun _=>aE.ite (aE.bind (cB.mono _ _ _ _ _ _ _ _ _ _ _ _) fun _=>aE.bind (cB.mono _ _ _ _ _ _ _ _ _ _ _ _) fun _=>aE.ite (cO.mB _ _ _) (aE.refl _)) (aE.refl _)
theorem cO.calls (k:Nat) (r:Bool) (w:World) (h:cO.f k=some r):Calls Tryz.prog 6 #[] w fun e w'=>e = .returned (.bool r)∧Below w.heap.size w w':=by
 have hu23:=Tryz.underlying23;have hu26:=Tryz.underlying34;have hu30:=Tryz.underlying27;have hu43:=Tryz.underlying50
 unfold cO.f at h
 replace h:=bV h;obtain ⟨a,x1,h⟩:=h;replace h:=bV h;obtain ⟨b,x2,h⟩:=h
 split at h
 case isFalse=>cases h
 rename_i hab
 obtain ⟨rfl,rfl⟩:=hab;replace h:=bV h;obtain ⟨⟨p1,p2,p3,p4⟩,x3,h⟩:=h;replace h:=bV h;obtain ⟨⟨q1,q2,q3,q4⟩,x4,h⟩:=h
 split at h
 case isFalse=>cases h
 rename_i hpq
 obtain ⟨hp,hq⟩:=hpq;replace hp:p4=0:=hp;replace hq:q4=0:=hq;subst hp;subst hq;replace h:cO.tail k q1 q3=some r:=h;replace x4:cB.f k 1 50 2 p1 p2 p3 (⟨#[97]⟩:ByteArray) (⟨#[120]⟩:ByteArray) 4 (⟨#[]⟩:ByteArray) true=some (q1,q2,q3,0):=x4
 unfold cO.tail at h
 replace h:=bV h;obtain ⟨v,x5,h⟩:=h;replace h:=bV h;obtain ⟨i,x6,h⟩:=h;replace h:=bV h;obtain ⟨c,x7,h⟩:=h;replace h:=bV h;obtain ⟨s,x8,h⟩:=h
 split at h
 case isFalse=>cases h
 rename_i hc
 obtain ⟨hv4,hv3,hi4,hl,hc2,hs1⟩:=hc
 obtain rfl:=Option.some.inj h
 have X1:=aS x1;have X2:=aS x2;have X3:=aS x3;have X4:=aS x4;have X5:=aS x5;have X6:=aS x6;have X7:=aS x7;have X8:=aS x8;have HL:=aS hl;have HV4:=aS hv4;have HV3:=aS hv3;have HI4:=aS hi4;have HC2:=aS hc2;have HS1:=aS hs1;have HLL:ak (q3.length<2199023255552):=aS (by have h1:=congrArg List.length hl;rw [List.length_map] at h1;rw [h1];decide);clear x1 x2 x3 x4 x5 x6 x7 x8 hl hv4 hv3 hi4 hc2 hs1 h
 go_enter Tryz.func6,Tryz.ntmps6
 go_wp2_with (first | (go_at_call 8;(with_reducible refine (aq.calls 1 50 2 true _ X1.out).mono ?_);rintro e_ w2 ⟨hb,_,ht⟩;obtain ⟨g,rfl,ht2⟩:=ht rfl;have HT:=aS ht2;have HB:=aS hb;clear ht ht2 hb) | (go_at_call 8;(with_reducible refine (aq.calls 0 0 0 false _ X2.out).mono ?_);rintro e_ w2 ⟨hb,he_,_⟩;obtain rfl:=he_ rfl;have n1_:=aS (HT.out.below hb);have n2_:=aS (aN HB.out hb);clear HT HB hb;have HT:=n1_;have HB:=n2_;clear n1_ n2_) | (go_at_call 12;(with_reducible refine (cB.calls k g _ (fun k=>w.heap.size≤k) 1 50 2 [] p1 0 p2 [] p3 (⟨#[97]⟩:ByteArray) (⟨#[120]⟩:ByteArray) 1 (⟨#[49]⟩:ByteArray) false 0 _ HT.out X3.out).mono ?_);rintro e_ w2 ⟨rfl,ha_,hc_⟩;have n1_:=aS (ha_.new HB.out.size);have n2_:=aS (hc_.below HB.out HB.out.size (fun _ hk=>hk));clear HT HB ha_ hc_;have HT:=n1_;have HB:=n2_;clear n1_ n2_) | (go_at_call 12;(with_reducible refine (cB.calls k g _ (fun k=>w.heap.size≤k) 1 50 2 p1 q1 p2 q2 p3 q3 (⟨#[97]⟩:ByteArray) (⟨#[120]⟩:ByteArray) 4 (⟨#[]⟩:ByteArray) true 0 _ HT.out X4.out).mono ?_);rintro e_ w2 ⟨rfl,ha_,hc_⟩;have n1_:=aS (ha_.new HB.out.size);have n2_:=aS (hc_.below HB.out HB.out.size (fun _ hk=>hk));clear HT HB ha_ hc_;have HT:=n1_;have HB:=n2_;clear n1_ n2_) | (go_at_call 14;(with_reducible refine (br.calls k g _ _ 1 50 2 q1 q2 q3 (⟨#[97]⟩:ByteArray) (⟨#[120]⟩:ByteArray) 3 v _ HT.out X5.out).mono ?_);rintro e_ w2 ⟨he_,hb⟩;rw [HV4.out,HV3.out] at he_;subst he_;have n1_:=aS (HT.out.below hb);have n2_:=aS (aN HB.out hb);clear HT HB hb;have HT:=n1_;have HB:=n2_;clear n1_ n2_) | (go_at_call 14;(with_reducible refine (br.calls k g _ _ 1 50 2 q1 q2 q3 (⟨#[97]⟩:ByteArray) (⟨#[120]⟩:ByteArray) 9 i _ HT.out X6.out).mono ?_);rintro e_ w2 ⟨he_,hb⟩;rw [HI4.out] at he_;subst he_;have n1_:=aS (HT.out.below hb);have n2_:=aS (aN HB.out hb);clear HT HB hb;have HT:=n1_;have HB:=n2_;clear n1_ n2_) | (go_at_call 22;(with_reducible refine (mq.calls _ _ g 1 50 2 q1 q2 q3 _ HT.out HLL.out).mono ?_);rintro e_ w2 ⟨v2,rfl,ho,hb⟩;rw [HL.out] at ho;obtain ⟨gl,cpl,rfl,_,_,_⟩:=Kd.kp ho (by decide);have hl0:w2.cell? ⟨gl,0,none⟩=some (.int .i64 2):=(Kd.BR (0:Int) ho 0 (by decide) (by decide)).1;clear ho;have n1_:=aS (HT.out.below hb);have n2_:=aS (aN HB.out hb);clear HT HB hb;have HT:=n1_;have HB:=n2_;clear n1_ n2_) | (go_at_call 19;(with_reducible refine (dP.calls k _ _ g 1 50 2 q1 q2 q3 c _ HT.out X7.out).mono ?_);rintro e_ w2 ⟨v2,rfl,ho,hb⟩;obtain ⟨Ac,cc,rfl⟩:=Kd.bq ho;rw [HC2.out];clear ho;have n1_:=aS (HT.out.below hb);have n2_:=aS (aN HB.out hb);clear HT HB hb;have HT:=n1_;have HB:=n2_;clear n1_ n2_) | (go_at_call 17;(with_reducible refine (cQ.calls k g _ _ 1 50 2 q1 q2 q3 (⟨#[]⟩:ByteArray) (⟨#[]⟩:ByteArray) 2 s _ HT.out X8.out).mono ?_);rintro e_ w2 ⟨v2,rfl,ho,hb⟩;obtain ⟨As,cs,rfl⟩:=Kd.bq ho;rw [HS1.out];clear ho;have n1_:=aS (HT.out.below hb);have n2_:=aS (aN HB.out hb);clear HT HB hb;have HT:=n1_;have HB:=n2_;clear n1_ n2_))
 go_ret
 exact ⟨rfl,HB.out⟩
def gb.f (a0_0:Int) (a0_1:Int) (a0_2:Int):Option (Bool):=if a0_0≥1 then (if a0_0≤4096 then (if a0_1≥1 then (if a0_1≤4096 then (if a0_2≥1 then (some (decide (a0_2≤8))) else (some false)) else (some false)) else (some false)) else (some false)) else (some false)
theorem gb.calls (a0_0:Int) (a0_1:Int) (a0_2:Int) (r:Bool) (w:World) (h:gb.f a0_0 a0_1 a0_2=some r) :
  Calls Tryz.prog 9 #[.agg #[.int .i64 a0_0,.int .i64 a0_1,.int .i64 a0_2]] w fun e w'=>e = .returned (.bool r)∧Below w.heap.size w w':=by
 have hu23:=Tryz.underlying23;have HB:=aS (Below.refl w.heap.size w);have H:(if a0_0≥1 then (if a0_0≤4096 then (if a0_1≥1 then (if a0_1≤4096 then (if a0_2≥1 then (some (decide (a0_2≤8))) else (some false)) else (some false)) else (some false)) else (some false)) else (some false))=some r:=h;clear h
 by_cases c2:a0_0≥1
 ·
  rw [if_pos c2] at H;have c2b0:decide (1≤a0_0)=true:=decide_eq_true c2;clear c2
  by_cases c3:a0_0≤4096
  ·
   rw [if_pos c3] at H;have c3b0:decide (a0_0≤4096)=true:=decide_eq_true c3;clear c3
   by_cases c4:a0_1≥1
   ·
    rw [if_pos c4] at H;have c4b0:decide (1≤a0_1)=true:=decide_eq_true c4;clear c4
    by_cases c5:a0_1≤4096
    ·
     rw [if_pos c5] at H;have c5b0:decide (a0_1≤4096)=true:=decide_eq_true c5;clear c5
     by_cases c6:a0_2≥1
     ·
      rw [if_pos c6] at H;have c6b0:decide (1≤a0_2)=true:=decide_eq_true c6;clear c6
      obtain rfl:=Option.some.inj H
      go_enter Tryz.func9,Tryz.ntmps9
      go_wp2_with (first | ((with_reducible refine aX (N:=1) rfl ?_);refine aY ?hg (N:=1) ?hd (cs:=#[.int .i64 a0_0,.int .i64 a0_1,.int .i64 a0_2]) (t:=23) ?hr ?_;(case hd=>rfl);(case hg=>rfl);(case hr=>first | (go_simp;done) | (go_simp;rfl));intro gb516 hg w7 hbox hb;have BK516:=aS (hbox);have GW516:=bsize hg;have GE516:=bsize hg;replace HB:=aM hb;clear hb hbox hg;have hcz8:=iC BK516))
      go_ret
      exact ⟨dN,ar⟩
     ·
      rw [if_neg c6] at H;have c6b0:decide (1≤a0_2)=false:=decide_eq_false c6;clear c6
      obtain rfl:=Option.some.inj H
      go_enter Tryz.func9,Tryz.ntmps9
      go_wp2_with (first | ((with_reducible refine aX (N:=1) rfl ?_);refine aY ?hg (N:=1) ?hd (cs:=#[.int .i64 a0_0,.int .i64 a0_1,.int .i64 a0_2]) (t:=23) ?hr ?_;(case hd=>rfl);(case hg=>rfl);(case hr=>first | (go_simp;done) | (go_simp;rfl));intro gb516 hg w9 hbox hb;have BK516:=aS (hbox);have GW516:=bsize hg;have GE516:=bsize hg;replace HB:=aM hb;clear hb hbox hg;have hcz10:=iC BK516))
      go_ret
      exact ⟨dN,ar⟩
    ·
     rw [if_neg c5] at H;have c5b0:decide (a0_1≤4096)=false:=decide_eq_false c5;clear c5
     obtain rfl:=Option.some.inj H
     go_enter Tryz.func9,Tryz.ntmps9
     go_wp2_with (first | ((with_reducible refine aX (N:=1) rfl ?_);refine aY ?hg (N:=1) ?hd (cs:=#[.int .i64 a0_0,.int .i64 a0_1,.int .i64 a0_2]) (t:=23) ?hr ?_;(case hd=>rfl);(case hg=>rfl);(case hr=>first | (go_simp;done) | (go_simp;rfl));intro gb516 hg w11 hbox hb;have BK516:=aS (hbox);have GW516:=bsize hg;have GE516:=bsize hg;replace HB:=aM hb;clear hb hbox hg;have hcz12:=iC BK516))
     go_ret
     exact ⟨dN,ar⟩
   ·
    rw [if_neg c4] at H;have c4b0:decide (1≤a0_1)=false:=decide_eq_false c4;clear c4
    obtain rfl:=Option.some.inj H
    go_enter Tryz.func9,Tryz.ntmps9
    go_wp2_with (first | ((with_reducible refine aX (N:=1) rfl ?_);refine aY ?hg (N:=1) ?hd (cs:=#[.int .i64 a0_0,.int .i64 a0_1,.int .i64 a0_2]) (t:=23) ?hr ?_;(case hd=>rfl);(case hg=>rfl);(case hr=>first | (go_simp;done) | (go_simp;rfl));intro gb516 hg w13 hbox hb;have BK516:=aS (hbox);have GW516:=bsize hg;have GE516:=bsize hg;replace HB:=aM hb;clear hb hbox hg;have hcz14:=iC BK516))
    go_ret
    exact ⟨dN,ar⟩
  ·
   rw [if_neg c3] at H;have c3b0:decide (a0_0≤4096)=false:=decide_eq_false c3;clear c3
   obtain rfl:=Option.some.inj H
   go_enter Tryz.func9,Tryz.ntmps9
   go_wp2_with (first | ((with_reducible refine aX (N:=1) rfl ?_);refine aY ?hg (N:=1) ?hd (cs:=#[.int .i64 a0_0,.int .i64 a0_1,.int .i64 a0_2]) (t:=23) ?hr ?_;(case hd=>rfl);(case hg=>rfl);(case hr=>first | (go_simp;done) | (go_simp;rfl));intro gb516 hg w15 hbox hb;have BK516:=aS (hbox);have GW516:=bsize hg;have GE516:=bsize hg;replace HB:=aM hb;clear hb hbox hg;have hcz16:=iC BK516))
   go_ret
   exact ⟨dN,ar⟩
 ·
  rw [if_neg c2] at H;have c2b0:decide (1≤a0_0)=false:=decide_eq_false c2;clear c2
  obtain rfl:=Option.some.inj H
  go_enter Tryz.func9,Tryz.ntmps9
  go_wp2_with (first | ((with_reducible refine aX (N:=1) rfl ?_);refine aY ?hg (N:=1) ?hd (cs:=#[.int .i64 a0_0,.int .i64 a0_1,.int .i64 a0_2]) (t:=23) ?hr ?_;(case hd=>rfl);(case hg=>rfl);(case hr=>first | (go_simp;done) | (go_simp;rfl));intro gb516 hg w17 hbox hb;have BK516:=aS (hbox);have GW516:=bsize hg;have GE516:=bsize hg;replace HB:=aM hb;clear hb hbox hg;have hcz18:=iC BK516))
  go_ret
  exact ⟨dN,ar⟩
mutual
def aI.l0:Nat→ByteArray→ByteArray→Int→Option (Int)
 | 0,_,_,_=>none
 | k+1,x0,x1,x5=>if x5<(x0.size:Int) then (aI.j1 k x0 x1 x5 (decide (x5<(x1.size:Int)))) else (aI.j1 k x0 x1 x5 false)
def aI.j1:Nat→ByteArray→ByteArray→Int→Bool→Option (Int)
 | 0,_,_,_,_=>none
 | k+1,x0,x1,x5,x15=>if x15=true then (if 0≤x5 then (if x5<(x0.size:Int) then (if x5<(x1.size:Int) then (if (bt x0 x5)<(bt x1 x5) then (some (-1)) else (if (bt x0 x5) > (bt x1 x5) then (some 1) else (aI.l0 k x0 x1 (wrap64 (x5+1))))) else (none)) else (none)) else (none)) else (if (x0.size:Int)<(x1.size:Int) then (some (-1)) else (if (x0.size:Int) > (x1.size:Int) then (some 1) else (some 0)))
end
def aI.f (k:Nat) (a0:ByteArray) (a1:ByteArray):Option (Int):=aI.l0 k a0 a1 0
theorem aI.cP:∀ k,(∀ y0 y1 y2,aE (aI.l0 k y0 y1 y2) (aI.l0 (k+1) y0 y1 y2))∧(∀ y0 y1 y2 y3,aE (aI.j1 k y0 y1 y2 y3) (aI.j1 (k+1) y0 y1 y2 y3))
 | 0=>⟨fun _ _ _ r h=>by simp [aI.l0] at h,fun _ _ _ _ r h=>by simp [aI.j1] at h⟩
 | k+1=>by
  obtain ⟨ih0,ih1⟩:=aI.cP k;refine ⟨?_,?_⟩
  ·
   intro y0 y1 y2
   unfold aI.l0
   exact e8
  ·
   intro y0 y1 y2 y3
   unfold aI.j1
   exact e8
theorem aI.mono:∀ a0 a1 k,aE (aI.f k a0 a1) (aI.f (k+1) a0 a1):=by
 intro a0 a1 k
 obtain ⟨ih0,ih1⟩:=aI.cP k
 unfold aI.f
 exact e8
theorem aI.calls (k:Nat) (a0:ByteArray) (a1:ByteArray) (r:Int) (w:World) (h:aI.f k a0 a1=some r) :
  Calls Tryz.prog 39 #[.string a0,.string a1] w fun e w'=>e = .returned (.int .i64 r)∧bF w w':=by
 have H:(aI.l0 k a0 a1 0)=some r:=h;clear h
 have H':=aS H
 clear H
 go_enter Tryz.func39,Tryz.ntmps39
 go_wp2
 repeat (go_quiet (fail);try go_wp2)
 go_loopg [5] k (fun kq v5 w'=>∃ (x5_1:Int),v5 = .int .i64 x5_1∧ak (aI.l0 kq a0 a1 x5_1=some r)∧ak (kq≤k)∧bF w w')
 case atStart=>exact ⟨(0),dU,H',⟨Nat.le_refl _⟩,by repeat (first | exact bF.refl _ | apply bF.step)⟩
 case round=>
  clear H';obtain ⟨x5_1,rfl,HA,HK1,⟨m1,rfl⟩⟩:=hrel
  cases gk with
  | zero=>exact absurd HA.out (by simp [aI.l0])
  | succ k1=>
   have H:=HA.out;clear HA
   simp only [aI.l0] at H
   have HC3:=aS H;clear H
   go_upto_region 2 with (fail)
   repeat (go_quiet (fail);go_upto_region 2 with (fail))
   go_cut [15] (fun v15 wc=>∃ (kq:Nat) (x15_2:Bool),v15 = .bool x15_2∧ak (aI.j1 kq a0 a1 x5_1 x15_2=some r)∧ak (kq≤k1)∧bF w wc)
   case first=>
    have H:=HC3.out;clear HC3
    by_cases c4:x5_1<(a0.size:Int)
    ·
     rw [if_pos c4] at H;have c4b0:decide (x5_1<(a0.size:Int))=true:=decide_eq_true c4;clear c4
     (first | rw [c4b0] | (simp only [bC,cm];rw [c4b0]) | skip)
     have H':=aS H
     clear H
     go_wp2
     repeat (go_quiet (fail);try go_wp2)
     go_meet
     case rel=>exact ⟨_,(decide (x5_1<(a1.size:Int))),dU,H',⟨by have:=HK1.out;first | omega | exact Nat.le_refl _⟩,by repeat (first | exact bF.refl _ | apply bF.step)⟩
    ·
     rw [if_neg c4] at H;have c4b0:decide (x5_1<(a0.size:Int))=false:=decide_eq_false c4;clear c4
     (first | rw [c4b0] | (simp only [bC,cm];rw [c4b0]) | skip)
     have H':=aS H
     clear H
     go_wp2
     repeat (go_quiet (fail);try go_wp2)
     go_meet
     case rel=>exact ⟨_,(false),dU,H',⟨by have:=HK1.out;first | omega | exact Nat.le_refl _⟩,by repeat (first | exact bF.refl _ | apply bF.step)⟩
   case rest=>
    clear HC3;obtain ⟨kq,x15_2,rfl,HA,HJ2,⟨mc2,rfl⟩⟩:=hcut
    cases kq with
    | zero=>exact absurd HA.out (by simp [aI.j1])
    | succ kj2=>
     have H:=HA.out;clear HA
     simp only [aI.j1] at H
     by_cases c5:x15_2=true
     ·
      subst c5
      replace H:=jQ H
      by_cases c6:0≤x5_1
      ·
       rw [if_pos c6] at H;have c6b0:decide (0≤x5_1)=true:=decide_eq_true c6;clear c6
       by_cases c7:x5_1<(a0.size:Int)
       ·
        rw [if_pos c7] at H;have c7b0:decide (x5_1<(a0.size:Int))=true:=decide_eq_true c7;clear c7
        by_cases c9:x5_1<(a1.size:Int)
        ·
         rw [if_pos c9] at H;have c9b0:decide (x5_1<(a1.size:Int))=true:=decide_eq_true c9;clear c9
         by_cases c11:(bt a0 x5_1)<(bt a1 x5_1)
         ·
          rw [if_pos c11] at H;have c11b0:decide ((bt a0 x5_1)<(bt a1 x5_1))=true:=decide_eq_true c11;clear c11
          obtain rfl:=Option.some.inj H
          have p8:0≤(x5_1:Int):=cG;have q8:x5_1<(a0.size:Int):=cG;have hx8:=lS a0 x5_1;replace p8:=eq_true p8;replace q8:=eq_true q8;have p10:0≤(x5_1:Int):=cG;have q10:x5_1<(a1.size:Int):=cG;have hx10:=lS a1 x5_1;replace p10:=eq_true p10;replace q10:=eq_true q10
          go_wp2
          repeat (go_quiet (fail);try go_wp2)
          go_ret
          exact ⟨by first | rfl | (simp;done) | (simp [*];done) | (simp;exact (by decide:∀ a_ b_:Bool,(a_ == b_)=(!a_ != b_)) _ _),by repeat (first | exact bF.refl _ | apply bF.step)⟩
         ·
          rw [if_neg c11] at H;have c11b0:decide ((bt a0 x5_1)<(bt a1 x5_1))=false:=decide_eq_false c11;clear c11
          by_cases c14:(bt a0 x5_1) > (bt a1 x5_1)
          ·
           rw [if_pos c14] at H;have c14b0:decide ((bt a1 x5_1)<(bt a0 x5_1))=true:=decide_eq_true c14;clear c14
           obtain rfl:=Option.some.inj H
           have p8:0≤(x5_1:Int):=cG;have q8:x5_1<(a0.size:Int):=cG;have hx8:=lS a0 x5_1;replace p8:=eq_true p8;replace q8:=eq_true q8;have p10:0≤(x5_1:Int):=cG;have q10:x5_1<(a1.size:Int):=cG;have hx10:=lS a1 x5_1;replace p10:=eq_true p10;replace q10:=eq_true q10;have p12:0≤(x5_1:Int):=cG;have q12:x5_1<(a0.size:Int):=cG;have hx12:=lS a0 x5_1;replace p12:=eq_true p12;replace q12:=eq_true q12;have p13:0≤(x5_1:Int):=cG;have q13:x5_1<(a1.size:Int):=cG;have hx13:=lS a1 x5_1;replace p13:=eq_true p13;replace q13:=eq_true q13
           go_wp2
           repeat (go_quiet (fail);try go_wp2)
           go_ret
           exact ⟨by first | rfl | (simp;done) | (simp [*];done) | (simp;exact (by decide:∀ a_ b_:Bool,(a_ == b_)=(!a_ != b_)) _ _),by repeat (first | exact bF.refl _ | apply bF.step)⟩
          ·
           rw [if_neg c14] at H;have c14b0:decide ((bt a1 x5_1)<(bt a0 x5_1))=false:=decide_eq_false c14;clear c14
           have H':=aS H
           clear H;have p8:0≤(x5_1:Int):=cG;have q8:x5_1<(a0.size:Int):=cG;have hx8:=lS a0 x5_1;replace p8:=eq_true p8;replace q8:=eq_true q8;have p10:0≤(x5_1:Int):=cG;have q10:x5_1<(a1.size:Int):=cG;have hx10:=lS a1 x5_1;replace p10:=eq_true p10;replace q10:=eq_true q10;have p12:0≤(x5_1:Int):=cG;have q12:x5_1<(a0.size:Int):=cG;have hx12:=lS a0 x5_1;replace p12:=eq_true p12;replace q12:=eq_true q12;have p13:0≤(x5_1:Int):=cG;have q13:x5_1<(a1.size:Int):=cG;have hx13:=lS a1 x5_1;replace p13:=eq_true p13;replace q13:=eq_true q13
           go_wp2
           repeat (go_quiet (fail);try go_wp2)
           go_roundg kj2
           case measure=>have:=HK1.out;have:=HJ2.out;omega
           case rel=>exact ⟨(wrap64 (x5_1+1)),dU,H',⟨by have:=HK1.out;have:=HJ2.out;omega⟩,by repeat (first | exact bF.refl _ | apply bF.step)⟩
        ·
         rw [if_neg c9] at H;exact absurd H (by simp)
       ·
        rw [if_neg c7] at H;exact absurd H (by simp)
      ·
       rw [if_neg c6] at H;exact absurd H (by simp)
     ·
      replace c5:=Bool.eq_false_iff.mpr c5;subst c5
      replace H:=jO H
      by_cases c15:(a0.size:Int)<(a1.size:Int)
      ·
       rw [if_pos c15] at H;have c15b0:decide ((a0.size:Int)<(a1.size:Int))=true:=decide_eq_true c15;have c15b1:decide (a0.size<a1.size)=true:=decide_eq_true (Int.ofNat_lt.mp c15);clear c15
       obtain rfl:=Option.some.inj H
       go_wp2
       repeat (go_quiet (fail);try go_wp2)
       go_ret
       exact ⟨by first | rfl | (simp;done) | (simp [*];done) | (simp;exact (by decide:∀ a_ b_:Bool,(a_ == b_)=(!a_ != b_)) _ _),by repeat (first | exact bF.refl _ | apply bF.step)⟩
      ·
       rw [if_neg c15] at H;have c15b0:decide ((a0.size:Int)<(a1.size:Int))=false:=decide_eq_false c15;have c15b1:decide (a0.size<a1.size)=false:=decide_eq_false (fun h=>c15 (Int.ofNat_lt.mpr h));clear c15
       by_cases c16:(a0.size:Int) > (a1.size:Int)
       ·
        rw [if_pos c16] at H;have c16b0:decide ((a1.size:Int)<(a0.size:Int))=true:=decide_eq_true c16;have c16b1:decide (a1.size<a0.size)=true:=decide_eq_true (Int.ofNat_lt.mp c16);clear c16
        obtain rfl:=Option.some.inj H
        go_wp2
        repeat (go_quiet (fail);try go_wp2)
        go_ret
        exact ⟨by first | rfl | (simp;done) | (simp [*];done) | (simp;exact (by decide:∀ a_ b_:Bool,(a_ == b_)=(!a_ != b_)) _ _),by repeat (first | exact bF.refl _ | apply bF.step)⟩
       ·
        rw [if_neg c16] at H;have c16b0:decide ((a1.size:Int)<(a0.size:Int))=false:=decide_eq_false c16;have c16b1:decide (a1.size<a0.size)=false:=decide_eq_false (fun h=>c16 (Int.ofNat_lt.mpr h));clear c16
        obtain rfl:=Option.some.inj H
        go_wp2
        repeat (go_quiet (fail);try go_wp2)
        go_ret
        exact ⟨by first | rfl | (simp;done) | (simp [*];done) | (simp;exact (by decide:∀ a_ b_:Bool,(a_ == b_)=(!a_ != b_)) _ _),by repeat (first | exact bF.refl _ | apply bF.step)⟩
def cT.f (k:Nat) (a0_0:ByteArray) (a0_1:ByteArray) (a0_2:Int) (a0_3:ByteArray) (a0_4:Bool) (a1_0:ByteArray) (a1_1:ByteArray) (a1_2:Int) (a1_3:ByteArray) (a1_4:Bool):Option (Int):=if a0_0.toList=a1_0.toList then (if a0_1.toList=a1_1.toList then (if a0_2 > a1_2 then (some (-1)) else (if a0_2<a1_2 then (some 1) else (some 0))) else ((aI.f k a0_1 a1_1).bind fun t520=>(some t520))) else ((aI.f k a0_0 a1_0).bind fun t519=>(some t519))
theorem cT.mono:∀ a0 a1 a2 a3 a4 a5 a6 a7 a8 a9 k,aE (cT.f k a0 a1 a2 a3 a4 a5 a6 a7 a8 a9) (cT.f (k+1) a0 a1 a2 a3 a4 a5 a6 a7 a8 a9):=by
 intro a0 a1 a2 a3 a4 a5 a6 a7 a8 a9 k
 unfold cT.f
 have m0:=@aI.mono;exact e8
theorem cT.calls (k:Nat) (a0_0:ByteArray) (a0_1:ByteArray) (a0_2:Int) (a0_3:ByteArray) (a0_4:Bool) (a1_0:ByteArray) (a1_1:ByteArray) (a1_2:Int) (a1_3:ByteArray) (a1_4:Bool) (r:Int) (w:World) (h:cT.f k a0_0 a0_1 a0_2 a0_3 a0_4 a1_0 a1_1 a1_2 a1_3 a1_4=some r) :
  Calls Tryz.prog 26 #[.agg #[.string a0_0,.string a0_1,.int .i64 a0_2,.string a0_3,.bool a0_4],.agg #[.string a1_0,.string a1_1,.int .i64 a1_2,.string a1_3,.bool a1_4]] w fun e w'=>e = .returned (.int .i64 r)∧Below w.heap.size w w':=by
 have hu34:=Tryz.underlying34;have HB:=aS (Below.refl w.heap.size w);have H:(if a0_0.toList=a1_0.toList then (if a0_1.toList=a1_1.toList then (if a0_2 > a1_2 then (some (-1)) else (if a0_2<a1_2 then (some 1) else (some 0))) else ((aI.f k a0_1 a1_1).bind fun t520=>(some t520))) else ((aI.f k a0_0 a1_0).bind fun t519=>(some t519)))=some r:=h;clear h
 by_cases c3:a0_0.toList=a1_0.toList
 ·
  rw [if_pos c3] at H;obtain ⟨c3b0,c3b1⟩:=jE c3;clear c3
  by_cases c4:a0_1.toList=a1_1.toList
  ·
   rw [if_pos c4] at H;obtain ⟨c4b0,c4b1⟩:=jE c4;clear c4
   by_cases c5:a0_2 > a1_2
   ·
    rw [if_pos c5] at H;have c5b0:decide (a1_2<a0_2)=true:=decide_eq_true c5;clear c5
    obtain rfl:=Option.some.inj H
    go_enter Tryz.func26,Tryz.ntmps26
    go_wp2_with (first | ((with_reducible refine aX (N:=2) rfl ?_);refine aY ?hg (N:=2) ?hd (cs:=#[.string a0_0,.string a0_1,.int .i64 a0_2,.string a0_3,.bool a0_4]) (t:=34) ?hr ?_;(case hd=>rfl);(case hg=>rfl);(case hr=>first | (go_simp;done) | (go_simp;rfl));intro gb517 hg w6 hbox hb;have BK517:=aS (hbox);have GW517:=bsize hg;have GE517:=bsize hg;replace HB:=aM hb;clear hb hbox hg) | ((with_reducible refine aX (N:=3) rfl ?_);refine aY ?hg (N:=3) ?hd (cs:=#[.string a1_0,.string a1_1,.int .i64 a1_2,.string a1_3,.bool a1_4]) (t:=34) ?hr ?_;(case hd=>rfl);(case hg=>rfl);(case hr=>first | (go_simp;done) | (go_simp;rfl));intro gb518 hg w7 hbox hb;have BK518:=aS (hbox);have GW518:=bsize hg;have GE518:=bsize hg;replace HB:=aM hb;have NB517_518:=aS ((by rw [hg];exact Nat.ne_of_lt (dg (g:=gb517) (o:=.cells #[.string a0_0,.string a0_1,.int .i64 a0_2,.string a0_3,.bool a0_4] 34 (0,0)) (eB BK517.out)):gb517≠gb518));have NB518_517:=aS ((by rw [hg];exact Nat.ne_of_gt (dg (g:=gb517) (o:=.cells #[.string a0_0,.string a0_1,.int .i64 a0_2,.string a0_3,.bool a0_4] 34 (0,0)) (eB BK517.out)):gb518≠gb517));replace BK517:=fA BK517 hb;clear hb hbox hg;have hnb8:=NB517_518.out;have hnc8:=NB518_517.out;have hcz9:=cR BK517;have hcz10:=cR BK518))
    go_ret
    exact ⟨dN,ar⟩
   ·
    rw [if_neg c5] at H;have c5b0:decide (a1_2<a0_2)=false:=decide_eq_false c5;clear c5
    by_cases c11:a0_2<a1_2
    ·
     rw [if_pos c11] at H;have c11b0:decide (a0_2<a1_2)=true:=decide_eq_true c11;clear c11
     obtain rfl:=Option.some.inj H
     go_enter Tryz.func26,Tryz.ntmps26
     go_wp2_with (first | ((with_reducible refine aX (N:=2) rfl ?_);refine aY ?hg (N:=2) ?hd (cs:=#[.string a0_0,.string a0_1,.int .i64 a0_2,.string a0_3,.bool a0_4]) (t:=34) ?hr ?_;(case hd=>rfl);(case hg=>rfl);(case hr=>first | (go_simp;done) | (go_simp;rfl));intro gb517 hg w12 hbox hb;have BK517:=aS (hbox);have GW517:=bsize hg;have GE517:=bsize hg;replace HB:=aM hb;clear hb hbox hg) | ((with_reducible refine aX (N:=3) rfl ?_);refine aY ?hg (N:=3) ?hd (cs:=#[.string a1_0,.string a1_1,.int .i64 a1_2,.string a1_3,.bool a1_4]) (t:=34) ?hr ?_;(case hd=>rfl);(case hg=>rfl);(case hr=>first | (go_simp;done) | (go_simp;rfl));intro gb518 hg w13 hbox hb;have BK518:=aS (hbox);have GW518:=bsize hg;have GE518:=bsize hg;replace HB:=aM hb;have NB517_518:=aS ((by rw [hg];exact Nat.ne_of_lt (dg (g:=gb517) (o:=.cells #[.string a0_0,.string a0_1,.int .i64 a0_2,.string a0_3,.bool a0_4] 34 (0,0)) (eB BK517.out)):gb517≠gb518));have NB518_517:=aS ((by rw [hg];exact Nat.ne_of_gt (dg (g:=gb517) (o:=.cells #[.string a0_0,.string a0_1,.int .i64 a0_2,.string a0_3,.bool a0_4] 34 (0,0)) (eB BK517.out)):gb518≠gb517));replace BK517:=fA BK517 hb;clear hb hbox hg;have hnb14:=NB517_518.out;have hnc14:=NB518_517.out;have hcz15:=cR BK517;have hcz16:=cR BK518))
     go_ret
     exact ⟨dN,ar⟩
    ·
     rw [if_neg c11] at H;have c11b0:decide (a0_2<a1_2)=false:=decide_eq_false c11;clear c11
     obtain rfl:=Option.some.inj H
     go_enter Tryz.func26,Tryz.ntmps26
     go_wp2_with (first | ((with_reducible refine aX (N:=2) rfl ?_);refine aY ?hg (N:=2) ?hd (cs:=#[.string a0_0,.string a0_1,.int .i64 a0_2,.string a0_3,.bool a0_4]) (t:=34) ?hr ?_;(case hd=>rfl);(case hg=>rfl);(case hr=>first | (go_simp;done) | (go_simp;rfl));intro gb517 hg w17 hbox hb;have BK517:=aS (hbox);have GW517:=bsize hg;have GE517:=bsize hg;replace HB:=aM hb;clear hb hbox hg) | ((with_reducible refine aX (N:=3) rfl ?_);refine aY ?hg (N:=3) ?hd (cs:=#[.string a1_0,.string a1_1,.int .i64 a1_2,.string a1_3,.bool a1_4]) (t:=34) ?hr ?_;(case hd=>rfl);(case hg=>rfl);(case hr=>first | (go_simp;done) | (go_simp;rfl));intro gb518 hg w18 hbox hb;have BK518:=aS (hbox);have GW518:=bsize hg;have GE518:=bsize hg;replace HB:=aM hb;have NB517_518:=aS ((by rw [hg];exact Nat.ne_of_lt (dg (g:=gb517) (o:=.cells #[.string a0_0,.string a0_1,.int .i64 a0_2,.string a0_3,.bool a0_4] 34 (0,0)) (eB BK517.out)):gb517≠gb518));have NB518_517:=aS ((by rw [hg];exact Nat.ne_of_gt (dg (g:=gb517) (o:=.cells #[.string a0_0,.string a0_1,.int .i64 a0_2,.string a0_3,.bool a0_4] 34 (0,0)) (eB BK517.out)):gb518≠gb517));replace BK517:=fA BK517 hb;clear hb hbox hg;have hnb19:=NB517_518.out;have hnc19:=NB518_517.out;have hcz20:=cR BK517;have hcz21:=cR BK518))
     go_ret
     exact ⟨dN,ar⟩
  ·
   rw [if_neg c4] at H;obtain ⟨c4b0,c4b1⟩:=ju c4;replace H:=bV H;obtain ⟨t520,A220,H⟩:=H;have A22:=aS A220;clear A220
   obtain rfl:=Option.some.inj H
   go_enter Tryz.func26,Tryz.ntmps26
   go_wp2_with (first | ((with_reducible refine aX (N:=2) rfl ?_);refine aY ?hg (N:=2) ?hd (cs:=#[.string a0_0,.string a0_1,.int .i64 a0_2,.string a0_3,.bool a0_4]) (t:=34) ?hr ?_;(case hd=>rfl);(case hg=>rfl);(case hr=>first | (go_simp;done) | (go_simp;rfl));intro gb517 hg w23 hbox hb;have BK517:=aS (hbox);have GW517:=bsize hg;have GE517:=bsize hg;replace HB:=aM hb;clear hb hbox hg) | ((with_reducible refine aX (N:=3) rfl ?_);refine aY ?hg (N:=3) ?hd (cs:=#[.string a1_0,.string a1_1,.int .i64 a1_2,.string a1_3,.bool a1_4]) (t:=34) ?hr ?_;(case hd=>rfl);(case hg=>rfl);(case hr=>first | (go_simp;done) | (go_simp;rfl));intro gb518 hg w24 hbox hb;have BK518:=aS (hbox);have GW518:=bsize hg;have GE518:=bsize hg;replace HB:=aM hb;have NB517_518:=aS ((by rw [hg];exact Nat.ne_of_lt (dg (g:=gb517) (o:=.cells #[.string a0_0,.string a0_1,.int .i64 a0_2,.string a0_3,.bool a0_4] 34 (0,0)) (eB BK517.out)):gb517≠gb518));have NB518_517:=aS ((by rw [hg];exact Nat.ne_of_gt (dg (g:=gb517) (o:=.cells #[.string a0_0,.string a0_1,.int .i64 a0_2,.string a0_3,.bool a0_4] 34 (0,0)) (eB BK517.out)):gb518≠gb517));replace BK517:=fA BK517 hb;clear hb hbox hg;have hnb25:=NB517_518.out;have hnc25:=NB518_517.out;have hcz26:=cR BK517;have hcz27:=cR BK518) | ((with_reducible refine aC (f:=39) rfl ?_);refine bE (some 24) rfl rfl Tryz.func39 (by kernel_rfl) rfl #[.string a0_1,.string a1_1] rfl cD ?_;(with_reducible refine (aI.calls k a0_1 a1_1 t520 _ A22.out).mono ?_);rintro e w' ⟨rfl,⟨nd,rfl⟩⟩;refine ⟨_,rfl,?_⟩))
   go_ret
   exact ⟨dN,ar⟩
 ·
  rw [if_neg c3] at H;obtain ⟨c3b0,c3b1⟩:=ju c3;replace H:=bV H;obtain ⟨t519,A280,H⟩:=H;have A28:=aS A280;clear A280
  obtain rfl:=Option.some.inj H
  go_enter Tryz.func26,Tryz.ntmps26
  go_wp2_with (first | ((with_reducible refine aX (N:=2) rfl ?_);refine aY ?hg (N:=2) ?hd (cs:=#[.string a0_0,.string a0_1,.int .i64 a0_2,.string a0_3,.bool a0_4]) (t:=34) ?hr ?_;(case hd=>rfl);(case hg=>rfl);(case hr=>first | (go_simp;done) | (go_simp;rfl));intro gb517 hg w29 hbox hb;have BK517:=aS (hbox);have GW517:=bsize hg;have GE517:=bsize hg;replace HB:=aM hb;clear hb hbox hg) | ((with_reducible refine aX (N:=3) rfl ?_);refine aY ?hg (N:=3) ?hd (cs:=#[.string a1_0,.string a1_1,.int .i64 a1_2,.string a1_3,.bool a1_4]) (t:=34) ?hr ?_;(case hd=>rfl);(case hg=>rfl);(case hr=>first | (go_simp;done) | (go_simp;rfl));intro gb518 hg w30 hbox hb;have BK518:=aS (hbox);have GW518:=bsize hg;have GE518:=bsize hg;replace HB:=aM hb;have NB517_518:=aS ((by rw [hg];exact Nat.ne_of_lt (dg (g:=gb517) (o:=.cells #[.string a0_0,.string a0_1,.int .i64 a0_2,.string a0_3,.bool a0_4] 34 (0,0)) (eB BK517.out)):gb517≠gb518));have NB518_517:=aS ((by rw [hg];exact Nat.ne_of_gt (dg (g:=gb517) (o:=.cells #[.string a0_0,.string a0_1,.int .i64 a0_2,.string a0_3,.bool a0_4] 34 (0,0)) (eB BK517.out)):gb518≠gb517));replace BK517:=fA BK517 hb;clear hb hbox hg;have hnb31:=NB517_518.out;have hnc31:=NB518_517.out;have hcz32:=cR BK517;have hcz33:=cR BK518) | ((with_reducible refine aC (f:=39) rfl ?_);refine bE (some 14) rfl rfl Tryz.func39 (by kernel_rfl) rfl #[.string a0_0,.string a1_0] rfl cD ?_;(with_reducible refine (aI.calls k a0_0 a1_0 t519 _ A28.out).mono ?_);rintro e w' ⟨rfl,⟨nd,rfl⟩⟩;refine ⟨_,rfl,?_⟩))
  go_ret
  exact ⟨dN,ar⟩
-- cT
def aD.cq (k:Nat) (x c:av):Option Int:=cT.f k x.f0 x.f1 x.f2 x.f3 x.f4 c.f0 c.f1 c.f2 c.f3 c.f4
def aD.idx (k:Nat) (c:av):List av→Option Nat
 | []=>some 0
 | x :: t=>(aD.cq k x c).bind fun v=>if v = -1 then (aD.idx k c t).bind fun m=>some (m+1) else some 0
def aD.eqv (k:Nat) (c:av):List av→Option Bool
 | []=>some false
 | x :: _=>(aD.cq k x c).bind fun v=>some (v == 0)
def aD.f (k:Nat) (l:List av) (c0 c1:ByteArray) (c2:Int) (c3:ByteArray) (c4:Bool):Option (List av):=(aD.idx k ⟨c0,c1,c2,c3,c4⟩ l).bind fun n=>(aD.eqv k ⟨c0,c1,c2,c3,c4⟩ (l.drop n)).bind fun b=>if l.length<1099511627776 then some (l.take n++⟨c0,c1,c2,c3,c4⟩ :: l.drop (if b=true then n+1 else n)) else none
theorem aD.yc (k:Nat) (c:av):∀ l,aE (aD.idx k c l) (aD.idx (k+1) c l)
 | []=>aE.refl _
 | _ :: t=>aE.bind (cT.mono _ _ _ _ _ _ _ _ _ _ _) fun _=>aE.ite (aE.bind (aD.yc k c t) fun _=>aE.refl _) (aE.refl _)
theorem aD.C5 (k:Nat) (c:av):∀ l,aE (aD.eqv k c l) (aD.eqv (k+1) c l)
 | []=>aE.refl _
 | _ :: _=>aE.bind (cT.mono _ _ _ _ _ _ _ _ _ _ _) fun _=>aE.refl _
theorem aD.mono:∀ a0 a1 a2 a3 a4 a5 k,aE (aD.f k a0 a1 a2 a3 a4 a5) (aD.f (k+1) a0 a1 a2 a3 a4 a5):=fun _ _ _ _ _ _ _=>aE.bind (aD.yc _ _ _) fun _=>aE.bind (aD.C5 _ _ _) fun _=>aE.refl _
def aD.iv (k:Nat) (c:av) (l:List av) (n i:Nat):Prop:=∃ m,aD.idx k c (l.drop i)=some m∧i+m=n
def aD.nx (k:Nat) (c:av) (l:List av) (n:Nat) (b:Bool) (i:Nat):Prop:=(b=true∧aD.iv k c l n (i+1))∨(b=false∧i=n)
theorem aD.dr {l:List av} {i:Nat} (hlt:i<l.length):l.drop i=af l (i:Int) :: l.drop (i+1):=by
 rw [List.drop_eq_getElem_cons hlt]
 unfold af
 rw [Int.toNat_natCast,List.getD_eq_getElem?_getD,List.getElem?_eq_getElem hlt]
 rfl
theorem aD.le {k:Nat} {c:av}:∀ {l:List av} {n:Nat},aD.idx k c l=some n→n≤l.length
 | [],n,h=>by
  obtain rfl:=Option.some.inj h
  exact Nat.le_refl _
 | x :: t,n,h=>by
  unfold aD.idx at h
  obtain ⟨v,_,h⟩:=bV h
  by_cases hv:v = -1
  ·
   rw [if_pos hv] at h;obtain ⟨m,hm,h⟩:=bV h
   have:=aD.le hm
   have:=Option.some.inj h
   rw [List.length_cons]
   omega
  ·
   rw [if_neg hv] at h
   have:=Option.some.inj h
   omega
theorem aD.DC {k:Nat} {c:av} {l:List av} {n i:Nat} (h:aD.iv k c l n i) (hlt:i<l.length):∃ v,aD.cq k (af l (i:Int)) c=some v∧aD.nx k c l n (v == -1) i:=by
 obtain ⟨m,h,h2⟩:=h;rw [aD.dr hlt] at h
 unfold aD.idx at h
 obtain ⟨v,hv,h⟩:=bV h;refine ⟨v,hv,?_⟩
 by_cases hv1:v = -1
 ·
  rw [if_pos hv1] at h;obtain ⟨q,hq,h⟩:=bV h
  have:=Option.some.inj h
  exact .inl ⟨by rw [hv1];rfl,q,hq,by omega⟩
 ·
  rw [if_neg hv1] at h
  have:=Option.some.inj h
  exact .inr ⟨beq_false_of_ne hv1,by omega⟩
theorem aD.ET {k:Nat} {c:av} {l:List av} {n i:Nat} (h:aD.iv k c l n i) (hge:¬ i<l.length):i=n:=by
 obtain ⟨m,h,h2⟩:=h;rw [List.drop_eq_nil_of_le (by omega)] at h
 have:(0:Nat)=m:=Option.some.inj h
 omega
theorem aD.ES {w:World} {A0:Option Addr} {cp:Nat} {l:List av} (hr:Kd.C cC w A0 l.length l) (hc:l.length≤cp) {j:Nat} (hj:j≤l.length) {y:List av} (hy:y=l.drop j):∃ A c,(∀ W:World,(Instr.slice 32 (.slice A0 l.length cp) (some (.int .i64 (j:Int))) none none).run Tryz.prog W = .ok (.slice A y.length c) W)∧Kd.C cC w A y.length y:=by
 subst hy;obtain ⟨i0,hi0,_,hsz,_⟩:=info_parts fe;have h1:=gG (P:=Tryz.prog) 32 34 .i64 Tryz.underlying32 hi0 5 hsz A0 l.length cp (j:Int) (by omega) (by omega);have h2:=Kd.rV (m:=(j:Int).toNat) (c:=cp) hr (by omega) hc;rw [show l.length - (j:Int).toNat=(l.drop j).length from (by rw [lY];omega)] at h1;rw [Int.toNat_natCast] at h2;exact ⟨_,_,h1,by rw [Int.toNat_natCast];exact h2⟩
theorem aD.calls (k:Nat) (A0:Option Addr) (cp:Nat) (l:List av) (c0 c1:ByteArray) (c2:Int) (c3:ByteArray) (c4:Bool) (r:List av) (w:World) (hr0:Kd.C cC w A0 l.length l) (hc0:l.length≤cp) (h:aD.f k l c0 c1 c2 c3 c4=some r) :
  Calls Tryz.prog 11 #[.slice A0 l.length cp,.agg #[.string c0,.string c1,.int .i64 c2,.string c3,.bool c4]] w fun e w'=>∃ v0_:Value,e = .returned v0_∧Kd.R cC 34 w' w.heap.size (fun _=>True) v0_ r∧Below w.heap.size w w':=by
 have hu24:=Tryz.underlying32;have hu26:=Tryz.underlying34
 unfold aD.f at h
 obtain ⟨n,hn,h⟩:=bV h;obtain ⟨b,hb,h⟩:=bV h
 split at h
 case isFalse=>cases h
 rename_i hlm
 obtain rfl:=Option.some.inj h
 have hnl:=aD.le hn;have HR:=aS hr0;have HC:=aS hc0;have HN:=aS hn;have HE:=aS hb;have HLM:=aS hlm;have HNL:=aS hnl;clear hr0 hc0 h hn hb hlm hnl
 go_enter Tryz.func11,Tryz.ntmps11
 refine wp_seq_k (fun K_ hK_=>?_)
 go_cut [3,4] (fun v3 v4 wc=>∃ p3:Nat,v3 = .pointer (some ⟨p3,0,none⟩)∧v4 = .slice none 0 0∧ak (wc.heap[p3]? = some (.cells #[.string c0,.string c1,.int .i64 c2,.string c3,.bool c4] 34 (0,0)))∧ak (Below w.heap.size w wc))
 case first=>
  go_wp2_with (first | ((with_reducible refine aX (N:=3) rfl ?_);refine aY ?hg (N:=3) ?hd (cs:=#[.string c0,.string c1,.int .i64 c2,.string c3,.bool c4]) (t:=34) ?hr ?_;(case hd=>rfl);(case hg=>rfl);(case hr=>(first | (go_simp;done) | (go_simp;rfl)));intro p3 hg w3_ hb hbl;have B3:=aS hb;have HB:=aS hbl;clear hg hb hbl))
  go_meet
  case rel=>exact ⟨p3,rfl,rfl,B3,HB⟩
 obtain ⟨p3,rfl,rfl,B3,HB⟩:=hcut
 rename World=>w1
 refine hK_ _ _ ?_;refine wp_seq_k (fun K2_ hK2_=>?_)
 go_cut [5] (fun v5 wc=>v5 = .int .i64 ((0:Nat):Int)∧ak (wc.heap[p3]? = some (.cells #[.string c0,.string c1,.int .i64 c2,.string c3,.bool c4] 34 (0,0)))∧ak (Below w.heap.size w wc))
 case first=>
  go_wp2
  go_meet
  case rel=>exact ⟨rfl,B3,HB⟩
 clear B3 HB;obtain ⟨rfl,B3,HB⟩:=hcut
 rename World=>w2
 refine hK2_ _ _ ?_;refine wp_seq_k (fun K3_ hK3_=>?_)
 go_cut [5] (fun v5 wc=>v5 = .int .i64 (n:Int)∧ak (wc.heap[p3]? = some (.cells #[.string c0,.string c1,.int .i64 c2,.string c3,.bool c4] 34 (0,0)))∧ak (Below w.heap.size w wc))
 case first=>
  go_wp2
  go_loopw [5] (fun v5 wr=>∃ (i:Nat),v5 = .int .i64 (i:Int)∧ak (i≤l.length)∧ak (aD.iv k (⟨c0,c1,c2,c3,c4⟩:av) l n i)∧ak (wr.heap[p3]? = some (.cells #[.string c0,.string c1,.int .i64 c2,.string c3,.bool c4] 34 (0,0)))∧ak (Below w.heap.size w wr)) (fun i _=>l.length - (intOf i).toNat)
  case atStart=>exact ⟨0,rfl,⟨Nat.zero_le _⟩,⟨n,HN.out,by omega⟩,B3,HB⟩
  clear B3 HB
  case round=>
   obtain ⟨i,rfl,hi,HI,B3,HB⟩:=hrel
   go_upto_region 2 with (fail)
   go_cut [19] (fun v19 wc=>∃ z:Bool,v19 = .bool z∧ak (aD.nx k (⟨c0,c1,c2,c3,c4⟩:av) l n z i)∧ak (z=true→i<l.length)∧ak (wc.heap[p3]? = some (.cells #[.string c0,.string c1,.int .i64 c2,.string c3,.bool c4] 34 (0,0)))∧ak (Below w.heap.size w wc))
   case first=>
    by_cases hlt:i<l.length
    ·
     have hq1:(i:Int)<(l.length:Int):=by omega
     have hq0:(0:Int)≤(i:Int):=by omega
     obtain ⟨ad,e_,_⟩:=eT (Kd.cW HR.out HB.out) (i:Int) hq0 hq1;subst e_
     obtain ⟨x,hx⟩:∃ x,x=af l (i:Int):=⟨_,rfl⟩
     have HXF:ak (∀ w',Below w.heap.size w w'→w'.cell? (ad.add (i*5))=some (.string x.f0)∧w'.cell? ⟨(ad.add (i*5)).block,(ad.add (i*5)).off+1,none⟩=some (.string x.f1)∧w'.cell? ⟨(ad.add (i*5)).block,(ad.add (i*5)).off+2,none⟩=some (.int .i64 x.f2)∧w'.cell? ⟨(ad.add (i*5)).block,(ad.add (i*5)).off+3,none⟩=some (.string x.f3)∧w'.cell? ⟨(ad.add (i*5)).block,(ad.add (i*5)).off+4,none⟩=some (.bool x.f4)):=aS (fun w' hb=>by
      obtain ⟨ad',e',hc'⟩:=eT (Kd.cW HR.out hb) (i:Int) hq0 hq1
      injection e' with e'
      subst e'
      rw [Int.toNat_natCast,← hx] at hc'
      exact hc')
     have hix:∀ W:World,(Instr.indexAt 32 (.slice (some ad) l.length cp) (.int .i64 (i:Int))).run Tryz.prog W = .ok (.pointer (some (ad.add (i*5)))) W:=by
      obtain ⟨i0,hi0,hz⟩:=Option.map_eq_some_iff.1 fe
      simp only [Prod.mk.injEq] at hz
      intro W
      have h1:=gH 32 34 hu24 hi0 5 hz.2.1 ad l.length cp (i:Int) (by omega) (by omega) W
      rwa [Int.toNat_natCast] at h1
     obtain ⟨v,hv,hnx⟩:=aD.DC HI.out hlt;rw [←hx] at hv;have XV:ak (cT.f k x.f0 x.f1 x.f2 x.f3 x.f4 c0 c1 c2 c3 c4=some v):=aS hv;have HNX:=aS hnx;have HLT:=aS hlt;have d1:decide ((i:Int)<(l.length:Int))=true:=decide_eq_true hq1;clear hx hv hnx hlt hq0;replace B3:=aS (au B3.out);replace HB:=aS (jG HB.out);obtain ⟨hw0,hw1,hw2,hw3,hw4⟩:=HXF.out _ HB.out;refine dz (n:=13) (S:=fun w'=>w'.cell? ⟨p3,0,none⟩=some (.string c0)∧w'.cell? ⟨p3,1,none⟩=some (.string c1)∧w'.cell? ⟨p3,2,none⟩=some (.int .i64 c2)∧w'.cell? ⟨p3,3,none⟩=some (.string c3)∧w'.cell? ⟨p3,4,none⟩=some (.bool c4)∧w'.cell? (ad.add (i*5))=some (.string x.f0)∧w'.cell? ⟨(ad.add (i*5)).block,(ad.add (i*5)).off+1,none⟩=some (.string x.f1)∧w'.cell? ⟨(ad.add (i*5)).block,(ad.add (i*5)).off+2,none⟩=some (.int .i64 x.f2)∧w'.cell? ⟨(ad.add (i*5)).block,(ad.add (i*5)).off+3,none⟩=some (.string x.f3)∧w'.cell? ⟨(ad.add (i*5)).block,(ad.add (i*5)).off+4,none⟩=some (.bool x.f4)) (ds:=[]) (bA 13 0) (by kernel_rfl) rfl rfl ⟨bc B3 0,bc B3 1,bc B3 2,bc B3 3,bc B3 4,hw0,hw1,hw2,hw3,hw4⟩ (fun hHeld=>?_);refine cH (T:=(true,[([],[]),([],[]),([1],[1]),([0,2],[0,2]),([3],[3]),([4],[4]),([4],[4]),([5,6,4],[4,5,6]),([7,4],[4,7]),([4],[4]),([8,9,4,4],[4,8,9]),([10,4],[4,10]),([4,11],[4,11])])) (B:=[0,0,2,7,15,31,31,127,255,31,1023,2047,4095]) (by kernel_rfl) (by kernel_rfl) (fun HT_ HW_=>?_);clear hw0 hw1 hw2 hw3 hw4
     generalize wr.drew=w8 at B3 HB hHeld ⊢
     refine aZ [(0,7),(1,8),(2,9),(3,10),(4,11),(5,12),(6,13),(7,14),(8,15),(9,16)] ?_
     iterate 10 (first | (refine cr HT_ ?_) | (refine d_ HT_ HW_ hHeld ?_))
     refine bX (bA 13 1023) (by kernel_rfl) ?_;refine dJ 10 (N:=some 17) (bA 13 2047) HT_ (fun K hK=>?_);refine ep Tryz.func26 (by kernel_rfl) rfl #[.agg #[.string x.f0,.string x.f1,.int .i64 x.f2,.string x.f3,.bool x.f4],.agg #[.string c0,.string c1,.int .i64 c2,.string c3,.bool c4]] (by rfl) rfl rfl cD ?_
     with_reducible refine (cT.calls k x.f0 x.f1 x.f2 x.f3 x.f4 c0 c1 c2 c3 c4 v _ XV.out).mono ?_
     rintro e_ w9 ⟨rfl,hb⟩
     refine ⟨_,rfl,?_⟩;replace B3:=fA B3 hb;replace HB:=aM hb;clear hb;obtain ⟨hw0,hw1,hw2,hw3,hw4⟩:=HXF.out _ HB.out;refine hK.out _ _ ⟨bc B3 0,bc B3 1,bc B3 2,bc B3 3,bc B3 4,hw0,hw1,hw2,hw3,hw4⟩ (fun hHeld=>?_);clear hK K hw0 hw1 hw2 hw3 hw4;refine nm 17 ?_;refine aZ [(11,18),(12,19)] ?_
     iterate 2 (refine cr HT_ ?_)
     refine bX (bA 13 8191) (by kernel_rfl) ?_;refine dQ (cX HT_.out (by kernel_rfl)) ?_
     try go_wp2
     go_meet
     case rel=>exact ⟨v == -1,rfl,HNX,⟨fun _=>HLT.out⟩,B3,HB⟩
    ·
     have HNX:ak (aD.nx k (⟨c0,c1,c2,c3,c4⟩:av) l n false i):=aS (.inr ⟨rfl,aD.ET HI.out hlt⟩);have d1:decide ((i:Int)<(l.length:Int))=false:=decide_eq_false (by omega)
     have hq1:¬ ((i:Int)<(l.length:Int)):=by omega
     clear hlt;replace B3:=aS (au B3.out);replace HB:=aS (jG HB.out);refine dz (n:=13) (S:=fun w'=>True) (ds:=[]) (bA 13 0) (by kernel_rfl) rfl rfl trivial (fun hHeld=>?_);refine cH (T:=(true,[([],[]),([],[]),([1],[1]),([0,2],[0,2]),([3],[3]),([4],[4]),([4],[4]),([5,6,4],[4,5,6]),([7,4],[4,7]),([4],[4]),([8,9,4,4],[4,8,9]),([10,4],[4,10]),([4,11],[4,11])])) (B:=[0,0,2,7,15,31,31,127,255,31,1023,2047,4095]) (by kernel_rfl) (by kernel_rfl) (fun HT_ HW_=>?_)
     generalize wr.drew=w10 at B3 HB hHeld ⊢
     refine aZ [(0,7),(1,8),(2,9),(3,10),(4,11),(5,12),(6,13),(7,14),(8,15),(9,16),(10,17),(11,18),(12,19)] ?_
     iterate 13 (first | (refine nH HT_ ?_) | (refine cr HT_ ?_))
     refine bX (bA 13 8191) (by kernel_rfl) ?_;refine dQ (cX HT_.out (by kernel_rfl)) ?_
     try go_wp2
     go_meet
     case rel=>exact ⟨false,rfl,HNX,⟨fun h=>(by cases h)⟩,B3,HB⟩
   case rest=>
    clear B3 HB;obtain ⟨z,rfl,hnx,hz,B3,HB⟩:=hcut
    cases z with
    | true=>
     have hlt:=hz.out rfl;have HI1:ak (aD.iv k (⟨c0,c1,c2,c3,c4⟩:av) l n (i+1)):=aS (hnx.out.elim (fun h=>h.2) (fun h=>(by cases h.1)))
     have hwr:wrap64 ((i:Int)+1)=(i:Int)+1:=by rw [←bC,IntKind.wrap_i64];have:=HLM.out;omega
     clear hnx hz hi HI
     go_wp2
     go_roundw
     case rel=>exact ⟨i+1,by rw [hwr];rfl,⟨hlt⟩,HI1,B3,HB⟩
     case measure=>exact ja hwr hlt
    | false=>
     have e_:i=n:=hnx.out.elim (fun h=>(by cases h.1)) (fun h=>h.2);subst e_;clear hnx hz HI
     go_wp2
     go_meet
     case rel=>exact ⟨rfl,B3,HB⟩
 clear B3 HB;obtain ⟨rfl,B3,HB⟩:=hcut
 rename World=>w3
 refine hK3_ _ _ ?_;refine wp_seq_k (fun K4_ hK4_=>?_);have hnl:=HNL.out
 obtain ⟨ya,hya⟩:∃ y,y=l.drop (n):=⟨_,rfl⟩
 obtain ⟨Aa,ca,hcuta,hCa⟩:=aD.ES HR.out HC.out (j:=n) (by omega) hya;have HYa:=aS hya;clear hya
 go_cut [6] (fun v6 wc=>v6 = .slice Aa ya.length ca∧ak (wc.heap[p3]? = some (.cells #[.string c0,.string c1,.int .i64 c2,.string c3,.bool c4] 34 (0,0)))∧ak (Below w.heap.size w wc))
 case first=>
  go_wp2
  go_meet
  case rel=>exact ⟨rfl,B3,HB⟩
 clear B3 HB hcuta;obtain ⟨rfl,B3,HB⟩:=hcut
 rename World=>w4
 refine hK4_ _ _ ?_;refine wp_seq_k (fun K5_ hK5_=>?_)
 obtain ⟨y,hy⟩:∃ y,y=l.drop (if b=true then n+1 else n):=⟨_,rfl⟩
 have HY:=aS hy
 go_cut [6] (fun v6 wc=>∃ (A6:Option Addr) (c6:Nat),v6 = .slice A6 y.length c6∧ak (Kd.C cC w A6 y.length y)∧ak (wc.heap[p3]? = some (.cells #[.string c0,.string c1,.int .i64 c2,.string c3,.bool c4] 34 (0,0)))∧ak (Below w.heap.size w wc))
 case first=>
  have HCa:=aS hCa;clear hCa hy
  go_upto_region 5 with (fail)
  go_cut [37] (fun v37 wc=>v37 = .bool b∧ak (b=true→n<l.length)∧ak (wc.heap[p3]? = some (.cells #[.string c0,.string c1,.int .i64 c2,.string c3,.bool c4] 34 (0,0)))∧ak (Below w.heap.size w wc))
  case first=>
   by_cases hlt:n<l.length
   ·
    have hq1:(n:Int)<(l.length:Int):=by omega
    have hq0:(0:Int)≤(n:Int):=by omega
    obtain ⟨ad,e_,_⟩:=eT (Kd.cW HR.out HB.out) (n:Int) hq0 hq1;subst e_
    obtain ⟨x,hx⟩:∃ x,x=af l (n:Int):=⟨_,rfl⟩
    have HXF:ak (∀ w',Below w.heap.size w w'→w'.cell? (ad.add (n*5))=some (.string x.f0)∧w'.cell? ⟨(ad.add (n*5)).block,(ad.add (n*5)).off+1,none⟩=some (.string x.f1)∧w'.cell? ⟨(ad.add (n*5)).block,(ad.add (n*5)).off+2,none⟩=some (.int .i64 x.f2)∧w'.cell? ⟨(ad.add (n*5)).block,(ad.add (n*5)).off+3,none⟩=some (.string x.f3)∧w'.cell? ⟨(ad.add (n*5)).block,(ad.add (n*5)).off+4,none⟩=some (.bool x.f4)):=aS (fun w' hb=>by
     obtain ⟨ad',e',hc'⟩:=eT (Kd.cW HR.out hb) (n:Int) hq0 hq1
     injection e' with e'
     subst e'
     rw [Int.toNat_natCast,← hx] at hc'
     exact hc')
    have hix:∀ W:World,(Instr.indexAt 32 (.slice (some ad) l.length cp) (.int .i64 (n:Int))).run Tryz.prog W = .ok (.pointer (some (ad.add (n*5)))) W:=by
     obtain ⟨i0,hi0,hz⟩:=Option.map_eq_some_iff.1 fe
     simp only [Prod.mk.injEq] at hz
     intro W
     have h1:=gH 32 34 hu24 hi0 5 hz.2.1 ad l.length cp (n:Int) (by omega) (by omega) W
     rwa [Int.toNat_natCast] at h1
    have he:=HE.out;rw [aD.dr hlt,← hx] at he
    unfold aD.eqv at he
    obtain ⟨v,hv,he⟩:=bV he;have XV:ak (cT.f k x.f0 x.f1 x.f2 x.f3 x.f4 c0 c1 c2 c3 c4=some v):=aS hv;have HV:=aS (Option.some.inj he);have HLT:=aS hlt;have d1:decide ((n:Int)<(l.length:Int))=true:=decide_eq_true hq1;clear hx hv he hlt hq0;replace B3:=aS (au B3.out);replace HB:=aS (jG HB.out);obtain ⟨hw0,hw1,hw2,hw3,hw4⟩:=HXF.out _ HB.out;refine dz (n:=13) (S:=fun w'=>w'.cell? ⟨p3,0,none⟩=some (.string c0)∧w'.cell? ⟨p3,1,none⟩=some (.string c1)∧w'.cell? ⟨p3,2,none⟩=some (.int .i64 c2)∧w'.cell? ⟨p3,3,none⟩=some (.string c3)∧w'.cell? ⟨p3,4,none⟩=some (.bool c4)∧w'.cell? (ad.add (n*5))=some (.string x.f0)∧w'.cell? ⟨(ad.add (n*5)).block,(ad.add (n*5)).off+1,none⟩=some (.string x.f1)∧w'.cell? ⟨(ad.add (n*5)).block,(ad.add (n*5)).off+2,none⟩=some (.int .i64 x.f2)∧w'.cell? ⟨(ad.add (n*5)).block,(ad.add (n*5)).off+3,none⟩=some (.string x.f3)∧w'.cell? ⟨(ad.add (n*5)).block,(ad.add (n*5)).off+4,none⟩=some (.bool x.f4)) (ds:=[]) (bA 13 0) (by kernel_rfl) rfl rfl ⟨bc B3 0,bc B3 1,bc B3 2,bc B3 3,bc B3 4,hw0,hw1,hw2,hw3,hw4⟩ (fun hHeld=>?_);refine cH (T:=(true,[([],[]),([],[]),([1],[1]),([0,2],[0,2]),([3],[3]),([4],[4]),([4],[4]),([5,6,4],[4,5,6]),([7,4],[4,7]),([4],[4]),([8,9,4,4],[4,8,9]),([10,4],[4,10]),([4,11],[4,11])])) (B:=[0,0,2,7,15,31,31,127,255,31,1023,2047,4095]) (by kernel_rfl) (by kernel_rfl) (fun HT_ HW_=>?_);clear hw0 hw1 hw2 hw3 hw4
    generalize w4.drew=w8 at B3 HB hHeld ⊢
    refine aZ [(0,25),(1,26),(2,27),(3,28),(4,29),(5,30),(6,31),(7,32),(8,33),(9,34)] ?_
    iterate 10 (first | (refine cr HT_ ?_) | (refine d_ HT_ HW_ hHeld ?_))
    refine bX (bA 13 1023) (by kernel_rfl) ?_;refine dJ 10 (N:=some 35) (bA 13 2047) HT_ (fun K hK=>?_);refine ep Tryz.func26 (by kernel_rfl) rfl #[.agg #[.string x.f0,.string x.f1,.int .i64 x.f2,.string x.f3,.bool x.f4],.agg #[.string c0,.string c1,.int .i64 c2,.string c3,.bool c4]] (by rfl) rfl rfl cD ?_
    with_reducible refine (cT.calls k x.f0 x.f1 x.f2 x.f3 x.f4 c0 c1 c2 c3 c4 v _ XV.out).mono ?_
    rintro e_ w9 ⟨rfl,hb⟩
    refine ⟨_,rfl,?_⟩;replace B3:=fA B3 hb;replace HB:=aM hb;clear hb;obtain ⟨hw0,hw1,hw2,hw3,hw4⟩:=HXF.out _ HB.out;refine hK.out _ _ ⟨bc B3 0,bc B3 1,bc B3 2,bc B3 3,bc B3 4,hw0,hw1,hw2,hw3,hw4⟩ (fun hHeld=>?_);clear hK K hw0 hw1 hw2 hw3 hw4;refine nm 35 ?_;refine aZ [(11,36),(12,37)] ?_
    iterate 2 (refine cr HT_ ?_)
    refine bX (bA 13 8191) (by kernel_rfl) ?_;refine dQ (cX HT_.out (by kernel_rfl)) ?_
    try go_wp2
    go_meet
    case rel=>exact ⟨by rw [HV.out],⟨fun _=>HLT.out⟩,B3,HB⟩
   ·
    have he:=HE.out;rw [List.drop_eq_nil_of_le (by omega)] at he
    obtain rfl:=Option.some.inj he
    have d1:decide ((n:Int)<(l.length:Int))=false:=decide_eq_false (by omega)
    have hq1:¬ ((n:Int)<(l.length:Int)):=by omega
    clear he hlt;replace B3:=aS (au B3.out);replace HB:=aS (jG HB.out);refine dz (n:=13) (S:=fun w'=>True) (ds:=[]) (bA 13 0) (by kernel_rfl) rfl rfl trivial (fun hHeld=>?_);refine cH (T:=(true,[([],[]),([],[]),([1],[1]),([0,2],[0,2]),([3],[3]),([4],[4]),([4],[4]),([5,6,4],[4,5,6]),([7,4],[4,7]),([4],[4]),([8,9,4,4],[4,8,9]),([10,4],[4,10]),([4,11],[4,11])])) (B:=[0,0,2,7,15,31,31,127,255,31,1023,2047,4095]) (by kernel_rfl) (by kernel_rfl) (fun HT_ HW_=>?_)
    generalize w4.drew=w10 at B3 HB hHeld ⊢
    refine aZ [(0,25),(1,26),(2,27),(3,28),(4,29),(5,30),(6,31),(7,32),(8,33),(9,34),(10,35),(11,36),(12,37)] ?_
    iterate 13 (first | (refine nH HT_ ?_) | (refine cr HT_ ?_))
    refine bX (bA 13 8191) (by kernel_rfl) ?_;refine dQ (cX HT_.out (by kernel_rfl)) ?_
    try go_wp2
    go_meet
    case rel=>exact ⟨rfl,⟨fun h=>(by cases h)⟩,B3,HB⟩
  case rest=>
   clear B3 HB;obtain ⟨rfl,hz,B3,HB⟩:=hcut
   cases b with
   | true=>
    have hlt:=hz.out rfl
    have hwr:wrap64 ((n:Int)+1)=(n:Int)+1:=by rw [←bC,IntKind.wrap_i64]<;>have:=HLM.out<;>omega
    obtain ⟨yb,hyb⟩:∃ y,y=l.drop (n+1):=⟨_,rfl⟩
    obtain ⟨Ab,cb,hcutb,hCb⟩:=aD.ES HR.out HC.out (j:=n+1) (by omega) hyb;have HYb:=aS hyb;clear hyb;have HCb:=aS hCb;rw [Int.natCast_succ] at hcutb;clear hz hCb
    have e:y=yb:=by rw [HY.out,if_pos rfl,HYb.out]
    subst e;clear hlt
    go_wp2
    go_meet
    case rel=>exact ⟨_,_,rfl,HCb,B3,HB⟩
   | false=>
    clear hz
    have e:y=ya:=by rw [HY.out,if_neg Bool.false_ne_true,HYa.out]
    subst e
    go_wp2
    go_meet
    case rel=>exact ⟨_,_,rfl,HCa,B3,HB⟩
 clear B3 HB hCa HE HN;obtain ⟨A6,c6,rfl,HR537,B3,HB⟩:=hcut
 rename World=>w5
 refine hK5_ _ _ ?_;rw [←hy];clear hy;have HYL:ak (y.length≤l.length):=aS (by rw [HY.out,lY];omega)
 obtain ⟨y538,hy538⟩:∃ y_:List av,y_=[]:=⟨_,rfl⟩
 obtain ⟨y541,hy541⟩:∃ y_:List av,y_=l.take (n:Int).toNat:=⟨_,rfl⟩
 obtain ⟨y545,hy545⟩:∃ y_:List av,y_=y538++y541:=⟨_,rfl⟩
 obtain ⟨y548,hy548⟩:∃ y_:List av,y_=[(⟨c0,c1,c2,c3,c4⟩:av)]:=⟨_,rfl⟩
 obtain ⟨y551,hy551⟩:∃ y_:List av,y_=y545++y548:=⟨_,rfl⟩
 obtain ⟨y554,hy554⟩:∃ y_:List av,y_=y551++y:=⟨_,rfl⟩
 have HRES:ak (y554=l.take n++(⟨c0,c1,c2,c3,c4⟩:av) :: y):=aS (by rw [hy554,hy551,hy545,hy548,hy541,hy538,Int.toNat_natCast];simp)
 have hl1:y541.length≤l.length:=by rw [hy541,kX];omega
 have LMc27:ak (y538.length+y541.length<2199023255552):=aS (by rw [hy538,List.length_nil];have:=HLM.out;omega);have LMc28:ak (y545.length+y548.length<2199023255552):=aS (by rw [hy545,hy548,hy538,List.nil_append,List.length_singleton];have:=HLM.out;omega);have LMc29:ak (y551.length+y.length<2199023255552):=aS (by rw [hy551,hy545,hy548,hy538,List.nil_append,List.length_append,List.length_singleton];have:=HLM.out;have:=HYL.out;omega);have Ny538:=aS hy538;have Ny541:=aS hy541;have Ny545:=aS hy545;have Ny548:=aS hy548;have Ny551:=aS hy551;have Ny554:=aS hy554;clear hy538 hy541 hy545 hy548 hy551 hy554 hl1
 go_upto_region 7 with (fail)
 replace B3:=aS (au B3.out);replace HB:=aS (jG HB.out);have q32:((n:Int):Int)≤((l.length:Int):Int):=(by omega);obtain ⟨i032,hi032,_,hsz32,_⟩:=info_parts fe;have hroom32:l.length≤cp:=HC.out;have hC32:Kd.C cC _ A0 l.length l:=HR.out;have hcut32:=jR (P:=Tryz.prog) 32 34 .i64 hu24 hi032 A0 l.length cp (n:Int) (by omega) q32 hroom32;have hr32:=Kd.oT (m:=((n:Int):Int).toNat) hC32 (by omega);have hy32:y541.length=((n:Int):Int).toNat:=(by rw [Ny541.out,kX];omega);rw [←Ny541.out] at hr32;rw [←hy32] at hcut32;have HR544:=aS hr32;have HC544:=aS (show y541.length≤cp from by omega);clear hr32 hC32 hroom32 hi032 hsz32;have KY32:=aS hy32;clear hy32;replace q32:=eq_true q32;refine dz (n:=11) (S:=fun w'=>w'.cell? ⟨p3,0,none⟩=some (.string c0)∧w'.cell? ⟨p3,1,none⟩=some (.string c1)∧w'.cell? ⟨p3,2,none⟩=some (.int .i64 c2)∧w'.cell? ⟨p3,3,none⟩=some (.string c3)∧w'.cell? ⟨p3,4,none⟩=some (.bool c4)) (ds:=[]) (bA 11 0) (by kernel_rfl) rfl rfl ⟨bc B3 0,bc B3 1,bc B3 2,bc B3 3,bc B3 4⟩ (fun hHeld=>?_);refine cH (T:=(true,[([],[]),([],[]),([],[]),([1,2],[1,2]),([0,3],[0,3]),([],[]),([5],[5]),([4,6,4],[4,6]),([],[]),([7,8,7],[7,8]),([9,9,0,1,2,3,4,5,6,7,8,9],[9])])) (B:=[0,0,0,6,15,0,32,127,0,511,1023]) (by kernel_rfl) (by kernel_rfl) (fun HT_ HW_=>?_)
 generalize w5.drew=w31 at B3 HB HR544 hHeld ⊢
 refine aZ [(1,43),(2,44),(3,45),(8,50),(5,47)] ?_
 iterate 5 (first | (refine cr HT_ ?_) | (refine d_ HT_ HW_ hHeld ?_))
 refine bX (bA 11 302) (by kernel_rfl) ?_;refine AK (σ:=Value × Value × Value) 3 (bA 11 383) (fun s_=>[(42,s_.1),(46,s_.2.1),(48,s_.2.2)]) (fun s_ w'=>(w'.cell? ⟨p3,0,none⟩=some (.string c0)∧w'.cell? ⟨p3,1,none⟩=some (.string c1)∧w'.cell? ⟨p3,2,none⟩=some (.int .i64 c2)∧w'.cell? ⟨p3,3,none⟩=some (.string c3)∧w'.cell? ⟨p3,4,none⟩=some (.bool c4))∧(Kd.R cC 34 w' w.heap.size (fun k_=>some k_≠(s_.2.2:Value).ownBlock∧k_≠p3) s_.2.1 y545)∧(Kd.R cC 34 w' w.heap.size (fun k_=>some k_≠(s_.2.1:Value).ownBlock∧k_≠p3) s_.2.2 y548)∧(w'.heap[p3]? = some (.cells #[.string c0,.string c1,.int .i64 c2,.string c3,.bool c4] 34 (0,0)))∧(Below w.heap.size w w')) ?_ ?_
 rotate_left
 ·
  intro hCont
  refine xD (i:=0) (j:=6) (Ni:=some 42) (Nj:=some 48) (bA 11 303) (bA 11 366) rfl rfl rfl rfl (rH HT_.out (by kernel_rfl)) (by decide) (by decide) (fun K hK=>?_) (fun K hK=>?_)
  ·
   refine Kd.i_ cC _ 34 ?hg (N:=42) ?hd (xs:=([]:List (av))) (inner:=[]) (ok:=fun _=>True) (okp:=fun _=>True) ?hr ?hp (fun _ hk=>hk) trivial (Below.refl _ _) (Nat.le_refl _) (by simp) ?_;(case hd=>rfl);(case hg=>rfl);(case hr=>first | (go_simp;done) | (go_simp;rfl));(case hp=>exact (bH.none _ _))
   intro v539 w33 ho34 hb hg_ hnew_
   clear hg_ hnew_
   (first | rw [←Ny538.out] at ho34 | (simp only [Int.reduceToNat] at ho34;rw [←Ny538.out] at ho34))
   have HO540:=aS (Kd.bf (Kd.pQ ho34 (g:=p3) (o:=.cells #[.string c0,.string c1,.int .i64 c2,.string c3,.bool c4] 34 (0,0)) (eB B3.out)) (ay ar));replace B3:=fA B3 hb;replace HB:=aM hb;clear hb ho34;refine hK.out _ _ ⟨bc B3 0,bc B3 1,bc B3 2,bc B3 3,bc B3 4⟩ (fun hHeld=>?_);clear hK K;refine nm 42 ?_;refine xD (i:=4) (j:=6) (Ni:=some 46) (Nj:=some 48) (bA 11 319) (bA 11 367) rfl rfl rfl rfl (rH HT_.out (by kernel_rfl)) (by decide) (by decide) (fun K hK=>?_) (fun K hK=>?_)
   ·
    refine Kd.fu cC (w0:=w) w.heap.size (by rfl) (.tmp 42) (.tmp 45) 32 34 (.agg #[(.string ⟨#[]⟩),(.string ⟨#[]⟩),(.int .i64 0),(.string ⟨#[]⟩),(.bool false)]) 64 rfl hu24 fe rfl (by decide) (by omega) v539 y538 y541 _ _ _ (fun k_=>k_≠p3) (fun _=>False) rfl rfl ?aO ?aR (fun _ _ h=>h) (fun _ h=>h.elim) ?aF ?aB ?aS ?aL ?_
    (case aR=>exact eN (Kd.cW HR544.out HB.out))
    (case aB=>exact ar)
    (case aF=>exact (fun k_ hk=>Kd.nQ (g:=p3) (o:=.cells #[.string c0,.string c1,.int .i64 c2,.string c3,.bool c4] 34 (0,0)) (eB B3.out) k_ hk))
    (case aO=>exact (rel (Kd.aH HO540.out (fun _ hk=>hk.2))))
    (case aS=>exact (ay ar))
    (case aL=>have:=LMc27.out;omega)
    intro v546 w35 ho hb hg hat
    rw [←Ny545.out] at ho;have n0_:=aS (er (g:=p3) (o:=.cells #[.string c0,.string c1,.int .i64 c2,.string c3,.bool c4] 34 (0,0)) (eB B3.out) hg (Kd.qp HO540.out (fun _ hk=>hk.2)));have n1_:=aS (hb);have n2_:=aS (ho);clear B3;clear HB;clear HO540;have B3:=n0_;have HB:=n1_;have HO547:=n2_;clear n0_ n1_ n2_;clear ho hb hg hat;refine hK.out _ _ ⟨bc B3 0,bc B3 1,bc B3 2,bc B3 3,bc B3 4⟩ (fun hHeld=>?_);clear hK K;refine nm 46 ?_;refine dJ 6 (N:=some 48) (bA 11 383) HT_ (fun K hK=>?_)
    refine Kd.i_ cC _ 34 ?hg (N:=48) ?hd (xs:=([(⟨c0,c1,c2,c3,c4⟩:av)]:List (av))) (inner:=[.string c0,.string c1,.int .i64 c2,.string c3,.bool c4]) (ok:=fun _=>True) (okp:=fun _=>True) ?hr ?hp (fun _ hk=>hk) trivial (Below.refl _ _) (Nat.le_refl _) (by simp) ?_;(case hd=>rfl);(case hg=>rfl);(case hr=>first | (go_simp;done) | (go_simp;rfl));(case hp=>exact (bH.c5 (show Kd.M cC _ _ _ (⟨c0,c1,c2,c3,c4⟩:av) [.string c0,.string c1,.int .i64 c2,.string c3,.bool c4] from (jx _ _ _ (⟨c0,c1,c2,c3,c4⟩:av) )) (bH.none _ _)))
    intro v549 w36 ho37 hb hg_ hnew_
    clear hg_ hnew_
    (first | rw [←Ny548.out] at ho37 | (simp only [Int.reduceToNat] at ho37;rw [←Ny548.out] at ho37))
    have HO550:=aS (Kd.bf (Kd.pQ (Kd.cI ho37 (Kd.cK (rel HO547.out))) (g:=p3) (o:=.cells #[.string c0,.string c1,.int .i64 c2,.string c3,.bool c4] 34 (0,0)) (eB B3.out)) (ay ar));replace HO547:=aS (Kd.bR (rel HO547.out) (dh ho37) hb);replace B3:=fA B3 hb;replace HB:=aM hb;clear hb ho37;refine hK.out _ _ ⟨bc B3 0,bc B3 1,bc B3 2,bc B3 3,bc B3 4⟩ (fun hHeld=>?_);clear hK K;refine nm 48 ?_;exact kY (by simp only [jV,Act.put,dw,dx,lss]) (hCont (v539,v546,v549) _ ⟨hHeld,(by (with_reducible repeat (first | apply Kd.bS | apply Kd.bO | apply Kd.bP));exact Kd.aH HO547.out (fun _ hk=>⟨hk.2,hk.1⟩)),(by (with_reducible repeat (first | apply Kd.bS | apply Kd.bO | apply Kd.bP));exact Kd.aH HO550.out (fun _ hk=>⟨hk.1.2,hk.2⟩)),(eB B3.out),ar⟩)
   ·
    refine Kd.i_ cC _ 34 ?hg (N:=48) ?hd (xs:=([(⟨c0,c1,c2,c3,c4⟩:av)]:List (av))) (inner:=[.string c0,.string c1,.int .i64 c2,.string c3,.bool c4]) (ok:=fun _=>True) (okp:=fun _=>True) ?hr ?hp (fun _ hk=>hk) trivial (Below.refl _ _) (Nat.le_refl _) (by simp) ?_;(case hd=>rfl);(case hg=>rfl);(case hr=>first | (go_simp;done) | (go_simp;rfl));(case hp=>exact (bH.c5 (show Kd.M cC _ _ _ (⟨c0,c1,c2,c3,c4⟩:av) [.string c0,.string c1,.int .i64 c2,.string c3,.bool c4] from (jx _ _ _ (⟨c0,c1,c2,c3,c4⟩:av) )) (bH.none _ _)))
    intro v549 w35 ho36 hb hg_ hnew_
    clear hg_ hnew_
    (first | rw [←Ny548.out] at ho36 | (simp only [Int.reduceToNat] at ho36;rw [←Ny548.out] at ho36))
    have HO550:=aS (Kd.bf (Kd.pQ (Kd.cI ho36 (Kd.cK (rel HO540.out))) (g:=p3) (o:=.cells #[.string c0,.string c1,.int .i64 c2,.string c3,.bool c4] 34 (0,0)) (eB B3.out)) (ay ar));replace HO540:=aS (Kd.bR (rel HO540.out) (dh ho36) hb);replace B3:=fA B3 hb;replace HB:=aM hb;clear hb ho36;refine hK.out _ _ ⟨bc B3 0,bc B3 1,bc B3 2,bc B3 3,bc B3 4⟩ (fun hHeld=>?_);clear hK K;refine nm 48 ?_;refine dJ 4 (N:=some 46) (bA 11 383) HT_ (fun K hK=>?_);refine Kd.fu cC (w0:=w) w.heap.size (by rfl) (.tmp 42) (.tmp 45) 32 34 (.agg #[(.string ⟨#[]⟩),(.string ⟨#[]⟩),(.int .i64 0),(.string ⟨#[]⟩),(.bool false)]) 64 rfl hu24 fe rfl (by decide) (by omega) v539 y538 y541 _ _ _ (fun k_=>some k_≠(v549:Value).ownBlock∧k_≠p3) (fun _=>False) rfl rfl ?aO ?aR (fun _ _ h=>h) (fun _ h=>h.elim) ?aF ?aB ?aS ?aL ?_
    (case aR=>exact eN (Kd.cW HR544.out HB.out))
    (case aB=>exact ar)
    (case aF=>exact (fun k_ hk=>⟨Kd.gP (Kd.cK (rel HO550.out)) k_ hk,Kd.nQ (g:=p3) (o:=.cells #[.string c0,.string c1,.int .i64 c2,.string c3,.bool c4] 34 (0,0)) (eB B3.out) k_ hk⟩))
    (case aO=>exact (by (with_reducible repeat (first | apply Kd.bS | apply Kd.bO | apply Kd.bP));exact Kd.aH HO540.out (fun _ hk=>⟨hk.2,hk.1.2⟩)))
    (case aS=>exact (ay ar))
    (case aL=>have:=LMc27.out;omega)
    intro v546 w37 ho hb hg hat
    rw [←Ny545.out] at ho;have n0_:=aS (er (g:=p3) (o:=.cells #[.string c0,.string c1,.int .i64 c2,.string c3,.bool c4] 34 (0,0)) (eB B3.out) hg (Kd.qp HO540.out (fun _ hk=>hk.1.2)));have n1_:=aS (Kd.iV (ok:=(fun k_=>k_≠p3)) (by (with_reducible repeat (first | apply Kd.bS | apply Kd.bO | apply Kd.bP));exact Kd.aH HO550.out (fun _ hk=>⟨hk.2,hk.1.2⟩)) hg hat);have n2_:=aS (hb);have n3_:=aS (ho);clear B3;clear HO550;clear HB;clear HO540;have B3:=n0_;have HO550:=n1_;have HB:=n2_;have HO547:=n3_;clear n0_ n1_ n2_ n3_;clear ho hb hg hat;refine hK.out _ _ ⟨bc B3 0,bc B3 1,bc B3 2,bc B3 3,bc B3 4⟩ (fun hHeld=>?_);clear hK K;refine nm 46 ?_;exact kY (by simp only [jV,Act.put,dw,dx,lss]) (hCont (v539,v546,v549) _ ⟨hHeld,(rel HO547.out),(by (with_reducible repeat (first | apply Kd.bS | apply Kd.bO | apply Kd.bP));exact Kd.aH HO550.out (fun _ hk=>⟨hk.2,hk.1⟩)),(eB B3.out),ar⟩)
  ·
   refine Kd.i_ cC _ 34 ?hg (N:=48) ?hd (xs:=([(⟨c0,c1,c2,c3,c4⟩:av)]:List (av))) (inner:=[.string c0,.string c1,.int .i64 c2,.string c3,.bool c4]) (ok:=fun _=>True) (okp:=fun _=>True) ?hr ?hp (fun _ hk=>hk) trivial (Below.refl _ _) (Nat.le_refl _) (by simp) ?_;(case hd=>rfl);(case hg=>rfl);(case hr=>first | (go_simp;done) | (go_simp;rfl));(case hp=>exact (bH.c5 (show Kd.M cC _ _ _ (⟨c0,c1,c2,c3,c4⟩:av) [.string c0,.string c1,.int .i64 c2,.string c3,.bool c4] from (jx _ _ _ (⟨c0,c1,c2,c3,c4⟩:av) )) (bH.none _ _)))
   intro v549 w33 ho34 hb hg_ hnew_
   clear hg_ hnew_
   (first | rw [←Ny548.out] at ho34 | (simp only [Int.reduceToNat] at ho34;rw [←Ny548.out] at ho34))
   have HO550:=aS (Kd.bf (Kd.pQ ho34 (g:=p3) (o:=.cells #[.string c0,.string c1,.int .i64 c2,.string c3,.bool c4] 34 (0,0)) (eB B3.out)) (ay ar));replace B3:=fA B3 hb;replace HB:=aM hb;clear hb ho34;refine hK.out _ _ ⟨bc B3 0,bc B3 1,bc B3 2,bc B3 3,bc B3 4⟩ (fun hHeld=>?_);clear hK K;refine nm 48 ?_;refine dJ 0 (N:=some 42) (bA 11 367) HT_ (fun K hK=>?_)
   refine Kd.i_ cC _ 34 ?hg (N:=42) ?hd (xs:=([]:List (av))) (inner:=[]) (ok:=fun _=>True) (okp:=fun _=>True) ?hr ?hp (fun _ hk=>hk) trivial (Below.refl _ _) (Nat.le_refl _) (by simp) ?_;(case hd=>rfl);(case hg=>rfl);(case hr=>first | (go_simp;done) | (go_simp;rfl));(case hp=>exact (bH.none _ _))
   intro v539 w35 ho36 hb hg_ hnew_
   clear hg_ hnew_
   (first | rw [←Ny538.out] at ho36 | (simp only [Int.reduceToNat] at ho36;rw [←Ny538.out] at ho36))
   have HO540:=aS (Kd.bf (Kd.pQ (Kd.cI ho36 (Kd.cK (rel HO550.out))) (g:=p3) (o:=.cells #[.string c0,.string c1,.int .i64 c2,.string c3,.bool c4] 34 (0,0)) (eB B3.out)) (ay ar));replace HO550:=aS (Kd.bR (rel HO550.out) (dh ho36) hb);replace B3:=fA B3 hb;replace HB:=aM hb;clear hb ho36;refine hK.out _ _ ⟨bc B3 0,bc B3 1,bc B3 2,bc B3 3,bc B3 4⟩ (fun hHeld=>?_);clear hK K;refine nm 42 ?_;refine dJ 4 (N:=some 46) (bA 11 383) HT_ (fun K hK=>?_);refine Kd.fu cC (w0:=w) w.heap.size (by rfl) (.tmp 42) (.tmp 45) 32 34 (.agg #[(.string ⟨#[]⟩),(.string ⟨#[]⟩),(.int .i64 0),(.string ⟨#[]⟩),(.bool false)]) 64 rfl hu24 fe rfl (by decide) (by omega) v539 y538 y541 _ _ _ (fun k_=>some k_≠(v549:Value).ownBlock∧k_≠p3) (fun _=>False) rfl rfl ?aO ?aR (fun _ _ h=>h) (fun _ h=>h.elim) ?aF ?aB ?aS ?aL ?_
   (case aR=>exact eN (Kd.cW HR544.out HB.out))
   (case aB=>exact ar)
   (case aF=>exact (fun k_ hk=>⟨Kd.gP (Kd.cK (rel HO550.out)) k_ hk,Kd.nQ (g:=p3) (o:=.cells #[.string c0,.string c1,.int .i64 c2,.string c3,.bool c4] 34 (0,0)) (eB B3.out) k_ hk⟩))
   (case aO=>exact (by (with_reducible repeat (first | apply Kd.bS | apply Kd.bO | apply Kd.bP));exact Kd.aH HO540.out (fun _ hk=>⟨hk.1.2,hk.2⟩)))
   (case aS=>exact (ay ar))
   (case aL=>have:=LMc27.out;omega)
   intro v546 w37 ho hb hg hat
   rw [←Ny545.out] at ho;have n0_:=aS (er (g:=p3) (o:=.cells #[.string c0,.string c1,.int .i64 c2,.string c3,.bool c4] 34 (0,0)) (eB B3.out) hg (Kd.qp HO540.out (fun _ hk=>hk.2)));have n1_:=aS (Kd.iV (ok:=(fun k_=>k_≠p3)) (by (with_reducible repeat (first | apply Kd.bS | apply Kd.bO | apply Kd.bP));exact Kd.aH HO550.out (fun _ hk=>⟨hk.1.2,hk.2⟩)) hg hat);have n2_:=aS (hb);have n3_:=aS (ho);clear B3;clear HO550;clear HB;clear HO540;have B3:=n0_;have HO550:=n1_;have HB:=n2_;have HO547:=n3_;clear n0_ n1_ n2_ n3_;clear ho hb hg hat;refine hK.out _ _ ⟨bc B3 0,bc B3 1,bc B3 2,bc B3 3,bc B3 4⟩ (fun hHeld=>?_);clear hK K;refine nm 46 ?_;exact kY (by simp only [jV,Act.put,dw,dx,lss]) (hCont (v539,v546,v549) _ ⟨hHeld,(rel HO547.out),(by (with_reducible repeat (first | apply Kd.bS | apply Kd.bO | apply Kd.bP));exact Kd.aH HO550.out (fun _ hk=>⟨hk.2,hk.1⟩)),(eB B3.out),ar⟩)
 rintro ⟨v539,v546,v549⟩ w38 ⟨hS_,h0_,h1_,h2_,h3_⟩
 have n0_:ak (Kd.R cC 34 w38 w.heap.size (fun k_=>some k_≠(v549:Value).ownBlock∧k_≠p3) v546 y545):=⟨h0_⟩;have n1_:ak (Kd.R cC 34 w38 w.heap.size (fun k_=>some k_≠(v546:Value).ownBlock∧k_≠p3) v549 y548):=⟨h1_⟩;have n2_:ak (w38.heap[p3]? = some (.cells #[.string c0,.string c1,.int .i64 c2,.string c3,.bool c4] 34 (0,0))):=⟨h2_⟩;have n3_:ak (Below w.heap.size w w38):=⟨h3_⟩;clear B3;clear HB;clear h0_ h1_ h2_ h3_;have HO547:=n0_;have HO550:=n1_;have B3:=n2_;have HB:=n3_;clear n0_ n1_ n2_ n3_;have hHeld:w38.cell? ⟨p3,0,none⟩=some (.string c0)∧w38.cell? ⟨p3,1,none⟩=some (.string c1)∧w38.cell? ⟨p3,2,none⟩=some (.int .i64 c2)∧w38.cell? ⟨p3,3,none⟩=some (.string c3)∧w38.cell? ⟨p3,4,none⟩=some (.bool c4):=hS_;obtain ⟨Ao40,co40,eo40⟩:=Kd.bq HO550.out
 (first | subst eo40 | (injection eo40 with f1_ f2_ f3_;have f4_:=f1_.symm;have f5_:=f3_.symm;clear f1_ f2_ f3_;subst f4_;subst f5_))
 refine kY (a':=?_) ?_ ?_
 rotate_left
 ·
  simp only [jV,Act.put,dw,dx,lss]
  rfl
 refine dJ 7 (N:=some 49) (bA 11 511) HT_ (fun K hK=>?_);refine Kd.fu cC (w0:=w) w.heap.size (by rfl) (.tmp 46) (.tmp 48) 32 34 (.agg #[(.string ⟨#[]⟩),(.string ⟨#[]⟩),(.int .i64 0),(.string ⟨#[]⟩),(.bool false)]) 64 rfl hu24 fe rfl (by decide) (by omega) v546 y545 y548 _ _ _ (fun k_=>some k_≠(.slice Ao40 y548.length co40:Value).ownBlock∧k_≠p3) (fun _=>False) rfl rfl ?aO ?aR (fun _ _ h=>h) (fun _ h=>h.elim) ?aF ?aB ?aS ?aL ?_
 (case aR=>exact eN ((Kd.bh HO550.out).2.2))
 (case aB=>exact ar)
 (case aF=>exact (fun k_ hk=>⟨Kd.gP (Kd.cK (rel HO550.out)) k_ hk,Kd.nQ (g:=p3) (o:=.cells #[.string c0,.string c1,.int .i64 c2,.string c3,.bool c4] 34 (0,0)) (eB B3.out) k_ hk⟩))
 (case aO=>exact (rel HO547.out))
 (case aS=>exact (ay ar))
 (case aL=>have:=LMc28.out;omega)
 intro v552 w39 ho hb hg hat
 rw [←Ny551.out] at ho;have n0_:=aS (er (g:=p3) (o:=.cells #[.string c0,.string c1,.int .i64 c2,.string c3,.bool c4] 34 (0,0)) (eB B3.out) hg (Kd.qp HO547.out (fun _ hk=>hk.2)));have n1_:=aS (Kd.iV (ok:=(fun k_=>k_≠p3)) (by (with_reducible repeat (first | apply Kd.bS | apply Kd.bO | apply Kd.bP));exact Kd.aH HO550.out (fun _ hk=>⟨hk.2,hk.1⟩)) hg hat);have n2_:=aS (hb);have n3_:=aS (ho);clear B3;clear HO550;clear HB;clear HO547;have B3:=n0_;have HO550:=n1_;have HB:=n2_;have HO553:=n3_;clear n0_ n1_ n2_ n3_;clear ho hb hg hat;refine hK.out _ _ ⟨bc B3 0,bc B3 1,bc B3 2,bc B3 3,bc B3 4⟩ (fun hHeld=>?_);clear hK K;refine nm 49 ?_;refine dJ 9 (N:=some 51) (bA 11 1023) HT_ (fun K hK=>?_);refine Kd.fu cC (w0:=w) w.heap.size (by rfl) (.tmp 49) (.tmp 50) 32 34 (.agg #[(.string ⟨#[]⟩),(.string ⟨#[]⟩),(.int .i64 0),(.string ⟨#[]⟩),(.bool false)]) 64 rfl hu24 fe rfl (by decide) (by omega) v552 y551 y _ _ _ (fun k_=>some k_≠(.slice Ao40 y548.length co40:Value).ownBlock∧k_≠p3) (fun _=>False) rfl rfl ?aO ?aR (fun _ _ h=>h) (fun _ h=>h.elim) ?aF ?aB ?aS ?aL ?_
 (case aR=>exact eN (Kd.cW HR537.out HB.out))
 (case aB=>exact ar)
 (case aF=>exact (fun k_ hk=>⟨Kd.gP (Kd.cK (rel HO550.out)) k_ hk,Kd.nQ (g:=p3) (o:=.cells #[.string c0,.string c1,.int .i64 c2,.string c3,.bool c4] 34 (0,0)) (eB B3.out) k_ hk⟩))
 (case aO=>exact (rel HO553.out))
 (case aS=>exact (ay ar))
 (case aL=>have:=LMc29.out;omega)
 intro v555 w41 ho hb hg hat
 rw [←Ny554.out] at ho;have n0_:=aS (er (g:=p3) (o:=.cells #[.string c0,.string c1,.int .i64 c2,.string c3,.bool c4] 34 (0,0)) (eB B3.out) hg (Kd.qp HO553.out (fun _ hk=>hk.2)));have n1_:=aS (Kd.iV (ok:=(fun k_=>k_≠p3)) (rel HO550.out) hg hat);have n2_:=aS (hb);have n3_:=aS (ho);clear B3;clear HO550;clear HB;clear HO553;have B3:=n0_;have HO550:=n1_;have HB:=n2_;have HO556:=n3_;clear n0_ n1_ n2_ n3_;clear ho hb hg hat;refine hK.out _ _ ⟨bc B3 0,bc B3 1,bc B3 2,bc B3 3,bc B3 4⟩ (fun hHeld=>?_);clear hK K;refine nm 51 ?_;refine dB (i:=10) (N:=some 4) (v:=?_) (a':=?_) (bA 11 2047) rfl rfl (lE HT_.out (by kernel_rfl)) (fun _ _ _ h=>h) (Or.inl ⟨by rfl,?_⟩) ?_ ?_
 rotate_left
 ·
  intro w'
  go_simp
  with_reducible rfl
 rotate_left
 ·
  simp only [Act.put,dw,dx,lss,bC,cm]
  rfl
 refine dQ (cX HT_.out (by kernel_rfl)) ?_
 try go_wp2
 go_ret
 exact ⟨_,rfl,by rw [←HRES.out];exact Kd.aH HO556.out (fun _ _=>trivial),ar⟩
def gh.f (a0_0:ByteArray) (a0_1:ByteArray) (a0_2:Int) (a0_3:ByteArray) (a0_4:Bool):Option (Bool):=if (a0_0.size:Int)<1 then (some false) else (if (a0_0.size:Int) > 64 then (some false) else (if (a0_1.size:Int)<1 then (some false) else (if (a0_1.size:Int) > 64 then (some false) else (if a0_2<0 then (some false) else (if a0_2 > 4294967295 then (some false) else (if (a0_3.size:Int)≤256 then (if a0_4=true then (some (a0_3.toList == ([]:List UInt8))) else (some true)) else (some false)))))))
theorem gh.calls (a0_0:ByteArray) (a0_1:ByteArray) (a0_2:Int) (a0_3:ByteArray) (a0_4:Bool) (r:Bool) (w:World) (h:gh.f a0_0 a0_1 a0_2 a0_3 a0_4=some r) :
  Calls Tryz.prog 10 #[.agg #[.string a0_0,.string a0_1,.int .i64 a0_2,.string a0_3,.bool a0_4]] w fun e w'=>e = .returned (.bool r)∧Below w.heap.size w w':=by
 have hu34:=Tryz.underlying34;have HB:=aS (Below.refl w.heap.size w);have H:(if (a0_0.size:Int)<1 then (some false) else (if (a0_0.size:Int) > 64 then (some false) else (if (a0_1.size:Int)<1 then (some false) else (if (a0_1.size:Int) > 64 then (some false) else (if a0_2<0 then (some false) else (if a0_2 > 4294967295 then (some false) else (if (a0_3.size:Int)≤256 then (if a0_4=true then (some (a0_3.toList == ([]:List UInt8))) else (some true)) else (some false))))))))=some r:=h;clear h
 by_cases c2:(a0_0.size:Int)<1
 ·
  rw [if_pos c2] at H;have c2b0:decide ((a0_0.size:Int)<1)=true:=decide_eq_true c2;have c2b1:decide (a0_0.size<1)=true:=decide_eq_true (by omega);clear c2
  obtain rfl:=Option.some.inj H
  go_enter Tryz.func10,Tryz.ntmps10
  go_wp2_with (first | ((with_reducible refine aX (N:=1) rfl ?_);(try (refine eF (by rfl) ?_;dsimp only));refine aY ?hg (N:=1) ?hd (cs:=#[.string a0_0,.string a0_1,.int .i64 a0_2,.string a0_3,.bool a0_4]) (t:=34) ?hr ?_;(case hd=>rfl);(case hg=>rfl);(case hr=>first | (go_simp;done) | (go_simp;rfl));intro gb521 hg w3 hbox hb;have BK521:=aS (hbox);have GW521:=bsize hg;have GE521:=bsize hg;replace HB:=aM hb;clear hb hbox hg;have hcz4:=cR BK521))
  go_ret
  exact ⟨dN,ar⟩
 ·
  rw [if_neg c2] at H;have c2b0:decide ((a0_0.size:Int)<1)=false:=decide_eq_false c2;have c2b1:decide (a0_0.size<1)=false:=decide_eq_false (by omega);clear c2
  by_cases c5:(a0_0.size:Int) > 64
  ·
   rw [if_pos c5] at H;have c5b0:decide (64<(a0_0.size:Int))=true:=decide_eq_true c5;have c5b1:decide (64<a0_0.size)=true:=decide_eq_true (by omega);clear c5
   obtain rfl:=Option.some.inj H
   go_enter Tryz.func10,Tryz.ntmps10
   go_wp2_with (first | ((with_reducible refine aX (N:=1) rfl ?_);(try (refine eF (by rfl) ?_;dsimp only));refine aY ?hg (N:=1) ?hd (cs:=#[.string a0_0,.string a0_1,.int .i64 a0_2,.string a0_3,.bool a0_4]) (t:=34) ?hr ?_;(case hd=>rfl);(case hg=>rfl);(case hr=>first | (go_simp;done) | (go_simp;rfl));intro gb521 hg w6 hbox hb;have BK521:=aS (hbox);have GW521:=bsize hg;have GE521:=bsize hg;replace HB:=aM hb;clear hb hbox hg;have hcz7:=cR BK521))
   go_ret
   exact ⟨dN,ar⟩
  ·
   rw [if_neg c5] at H;have c5b0:decide (64<(a0_0.size:Int))=false:=decide_eq_false c5;have c5b1:decide (64<a0_0.size)=false:=decide_eq_false (by omega);clear c5
   by_cases c8:(a0_1.size:Int)<1
   ·
    rw [if_pos c8] at H;have c8b0:decide ((a0_1.size:Int)<1)=true:=decide_eq_true c8;have c8b1:decide (a0_1.size<1)=true:=decide_eq_true (by omega);clear c8
    obtain rfl:=Option.some.inj H
    go_enter Tryz.func10,Tryz.ntmps10
    go_wp2_with (first | ((with_reducible refine aX (N:=1) rfl ?_);(try (refine eF (by rfl) ?_;dsimp only));refine aY ?hg (N:=1) ?hd (cs:=#[.string a0_0,.string a0_1,.int .i64 a0_2,.string a0_3,.bool a0_4]) (t:=34) ?hr ?_;(case hd=>rfl);(case hg=>rfl);(case hr=>first | (go_simp;done) | (go_simp;rfl));intro gb521 hg w9 hbox hb;have BK521:=aS (hbox);have GW521:=bsize hg;have GE521:=bsize hg;replace HB:=aM hb;clear hb hbox hg;have hcz10:=cR BK521))
    go_ret
    exact ⟨dN,ar⟩
   ·
    rw [if_neg c8] at H;have c8b0:decide ((a0_1.size:Int)<1)=false:=decide_eq_false c8;have c8b1:decide (a0_1.size<1)=false:=decide_eq_false (by omega);clear c8
    by_cases c11:(a0_1.size:Int) > 64
    ·
     rw [if_pos c11] at H;have c11b0:decide (64<(a0_1.size:Int))=true:=decide_eq_true c11;have c11b1:decide (64<a0_1.size)=true:=decide_eq_true (by omega);clear c11
     obtain rfl:=Option.some.inj H
     go_enter Tryz.func10,Tryz.ntmps10
     go_wp2_with (first | ((with_reducible refine aX (N:=1) rfl ?_);(try (refine eF (by rfl) ?_;dsimp only));refine aY ?hg (N:=1) ?hd (cs:=#[.string a0_0,.string a0_1,.int .i64 a0_2,.string a0_3,.bool a0_4]) (t:=34) ?hr ?_;(case hd=>rfl);(case hg=>rfl);(case hr=>first | (go_simp;done) | (go_simp;rfl));intro gb521 hg w12 hbox hb;have BK521:=aS (hbox);have GW521:=bsize hg;have GE521:=bsize hg;replace HB:=aM hb;clear hb hbox hg;have hcz13:=cR BK521))
     go_ret
     exact ⟨dN,ar⟩
    ·
     rw [if_neg c11] at H;have c11b0:decide (64<(a0_1.size:Int))=false:=decide_eq_false c11;have c11b1:decide (64<a0_1.size)=false:=decide_eq_false (by omega);clear c11
     by_cases c14:a0_2<0
     ·
      rw [if_pos c14] at H;have c14b0:decide (a0_2<0)=true:=decide_eq_true c14;clear c14
      obtain rfl:=Option.some.inj H
      go_enter Tryz.func10,Tryz.ntmps10
      go_wp2_with (first | ((with_reducible refine aX (N:=1) rfl ?_);(try (refine eF (by rfl) ?_;dsimp only));refine aY ?hg (N:=1) ?hd (cs:=#[.string a0_0,.string a0_1,.int .i64 a0_2,.string a0_3,.bool a0_4]) (t:=34) ?hr ?_;(case hd=>rfl);(case hg=>rfl);(case hr=>first | (go_simp;done) | (go_simp;rfl));intro gb521 hg w15 hbox hb;have BK521:=aS (hbox);have GW521:=bsize hg;have GE521:=bsize hg;replace HB:=aM hb;clear hb hbox hg;have hcz16:=cR BK521))
      go_ret
      exact ⟨dN,ar⟩
     ·
      rw [if_neg c14] at H;have c14b0:decide (a0_2<0)=false:=decide_eq_false c14;clear c14
      by_cases c17:a0_2 > 4294967295
      ·
       rw [if_pos c17] at H;have c17b0:decide (4294967295<a0_2)=true:=decide_eq_true c17;clear c17
       obtain rfl:=Option.some.inj H
       go_enter Tryz.func10,Tryz.ntmps10
       go_wp2_with (first | ((with_reducible refine aX (N:=1) rfl ?_);(try (refine eF (by rfl) ?_;dsimp only));refine aY ?hg (N:=1) ?hd (cs:=#[.string a0_0,.string a0_1,.int .i64 a0_2,.string a0_3,.bool a0_4]) (t:=34) ?hr ?_;(case hd=>rfl);(case hg=>rfl);(case hr=>first | (go_simp;done) | (go_simp;rfl));intro gb521 hg w18 hbox hb;have BK521:=aS (hbox);have GW521:=bsize hg;have GE521:=bsize hg;replace HB:=aM hb;clear hb hbox hg;have hcz19:=cR BK521))
       go_ret
       exact ⟨dN,ar⟩
      ·
       rw [if_neg c17] at H;have c17b0:decide (4294967295<a0_2)=false:=decide_eq_false c17;clear c17
       by_cases c20:(a0_3.size:Int)≤256
       ·
        rw [if_pos c20] at H;have c20b0:decide ((a0_3.size:Int)≤256)=true:=decide_eq_true c20;have c20b1:decide (a0_3.size≤256)=true:=decide_eq_true (by omega);clear c20
        by_cases c21:a0_4=true
        ·
         subst c21
         replace H:=jQ H
         obtain rfl:=Option.some.inj H
         go_enter Tryz.func10,Tryz.ntmps10
         go_wp2_with (first | ((with_reducible refine aX (N:=1) rfl ?_);(try (refine eF (by rfl) ?_;dsimp only));refine aY ?hg (N:=1) ?hd (cs:=#[.string a0_0,.string a0_1,.int .i64 a0_2,.string a0_3,.bool true]) (t:=34) ?hr ?_;(case hd=>rfl);(case hg=>rfl);(case hr=>first | (go_simp;done) | (go_simp;rfl));intro gb521 hg w22 hbox hb;have BK521:=aS (hbox);have GW521:=bsize hg;have GE521:=bsize hg;replace HB:=aM hb;clear hb hbox hg;have hcz23:=cR BK521))
         go_ret
         exact ⟨dN,ar⟩
        ·
         replace c21:=Bool.eq_false_iff.mpr c21;subst c21
         replace H:=jO H
         obtain rfl:=Option.some.inj H
         go_enter Tryz.func10,Tryz.ntmps10
         go_wp2_with (first | ((with_reducible refine aX (N:=1) rfl ?_);(try (refine eF (by rfl) ?_;dsimp only));refine aY ?hg (N:=1) ?hd (cs:=#[.string a0_0,.string a0_1,.int .i64 a0_2,.string a0_3,.bool false]) (t:=34) ?hr ?_;(case hd=>rfl);(case hg=>rfl);(case hr=>first | (go_simp;done) | (go_simp;rfl));intro gb521 hg w24 hbox hb;have BK521:=aS (hbox);have GW521:=bsize hg;have GE521:=bsize hg;replace HB:=aM hb;clear hb hbox hg;have hcz25:=cR BK521))
         go_ret
         exact ⟨dN,ar⟩
       ·
        rw [if_neg c20] at H;have c20b0:decide ((a0_3.size:Int)≤256)=false:=decide_eq_false c20;have c20b1:decide (a0_3.size≤256)=false:=decide_eq_false (by omega);clear c20
        obtain rfl:=Option.some.inj H
        go_enter Tryz.func10,Tryz.ntmps10
        go_wp2_with (first | ((with_reducible refine aX (N:=1) rfl ?_);(try (refine eF (by rfl) ?_;dsimp only));refine aY ?hg (N:=1) ?hd (cs:=#[.string a0_0,.string a0_1,.int .i64 a0_2,.string a0_3,.bool a0_4]) (t:=34) ?hr ?_;(case hd=>rfl);(case hg=>rfl);(case hr=>first | (go_simp;done) | (go_simp;rfl));intro gb521 hg w26 hbox hb;have BK521:=aS (hbox);have GW521:=bsize hg;have GE521:=bsize hg;replace HB:=aM hb;clear hb hbox hg;have hcz27:=cR BK521))
        go_ret
        exact ⟨dN,ar⟩
end Go.Proofs.YtcbhfedcdnjljaaGreat.X

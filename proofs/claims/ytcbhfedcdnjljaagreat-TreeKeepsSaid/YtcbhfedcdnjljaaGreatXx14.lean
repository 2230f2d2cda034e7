import Derived.Test.YtcbhfedcdnjljaaGreatXx1
import Derived.Test.YtcbhfedcdnjljaaGreatXx13
set_option maxHeartbeats 8000000
set_option maxRecDepth 100000
set_option linter.unusedVariables false
set_option linter.unusedSimpArgs false
namespace Go.Proofs.YtcbhfedcdnjljaaGreat.X
open Go.RowKit Go.Proofs.YtcbhfedcdnjljaaGreatW.PrintWords Go.Proofs.YtcbhfedcdnjljaaGreatW.PrintLast Go.Proofs.YtcbhfedcdnjljaaGreatW.PrintMore
attribute [local go_sem] gn gu iu ic fJ fN gA gC ig
attribute [local go_sem high] Fl
def kr.f (a0_0:ByteArray) (a0_1:ByteArray) (a0_2:Int) (a0_3:ByteArray) (a0_4:Bool) (a1_0:ByteArray) (a1_1:ByteArray) (a1_2:Int) (a1_3:ByteArray) (a1_4:Bool):Option (Bool):=if a0_0.toList=a1_0.toList then (some (a0_1.toList == a1_1.toList)) else (some false)
theorem kr.calls (a0_0:ByteArray) (a0_1:ByteArray) (a0_2:Int) (a0_3:ByteArray) (a0_4:Bool) (a1_0:ByteArray) (a1_1:ByteArray) (a1_2:Int) (a1_3:ByteArray) (a1_4:Bool) (r:Bool) (w:World) (h:kr.f a0_0 a0_1 a0_2 a0_3 a0_4 a1_0 a1_1 a1_2 a1_3 a1_4=some r) :
  Calls Tryz.prog 56 #[.agg #[.string a0_0,.string a0_1,.int .i64 a0_2,.string a0_3,.bool a0_4],.agg #[.string a1_0,.string a1_1,.int .i64 a1_2,.string a1_3,.bool a1_4]] w fun e w'=>e = .returned (.bool r)∧Below w.heap.size w w':=by
 have hu34:=Tryz.underlying34;have HB:=aS (Below.refl w.heap.size w);have H:(if a0_0.toList=a1_0.toList then (some (a0_1.toList == a1_1.toList)) else (some false))=some r:=h;clear h
 by_cases c3:a0_0.toList=a1_0.toList
 ·
  rw [if_pos c3] at H;obtain ⟨c3b0,c3b1⟩:=jG c3;clear c3
  obtain rfl:=Option.some.inj H
  go_enter Tryz.func56,Tryz.ntmps56
  go_wp2_with (first | ((with_reducible refine bf (N:=2) rfl ?_);refine aZ ?hg (N:=2) ?hd (cs:=#[.string a0_0,.string a0_1,.int .i64 a0_2,.string a0_3,.bool a0_4]) (t:=34) ?hr ?_;(case hd=>rfl);(case hg=>rfl);(case hr=>first | (go_simp;done) | (go_simp;rfl));intro gb514 hg w4 hbox hb;have BK514:=aS (hbox);have GW514:=bsize hg;have GE514:=bsize hg;replace HB:=aM hb;clear hb hbox hg) | ((with_reducible refine bf (N:=3) rfl ?_);refine aZ ?hg (N:=3) ?hd (cs:=#[.string a1_0,.string a1_1,.int .i64 a1_2,.string a1_3,.bool a1_4]) (t:=34) ?hr ?_;(case hd=>rfl);(case hg=>rfl);(case hr=>first | (go_simp;done) | (go_simp;rfl));intro gb515 hg w5 hbox hb;have BK515:=aS (hbox);have GW515:=bsize hg;have GE515:=bsize hg;replace HB:=aM hb;have NB514_515:=aS ((by rw [hg];exact Nat.ne_of_lt (di (g:=gb514) (o:=.cells #[.string a0_0,.string a0_1,.int .i64 a0_2,.string a0_3,.bool a0_4] 34 (0,0)) (dS BK514.out)):gb514≠gb515));have NB515_514:=aS ((by rw [hg];exact Nat.ne_of_gt (di (g:=gb514) (o:=.cells #[.string a0_0,.string a0_1,.int .i64 a0_2,.string a0_3,.bool a0_4] 34 (0,0)) (dS BK514.out)):gb515≠gb514));replace BK514:=fo BK514 hb;clear hb hbox hg;have hnb6:=NB514_515.out;have hnc6:=NB515_514.out;have hcz7:=cU BK514;have hcz8:=cU BK515))
  go_ret
  exact ⟨dR,aq⟩
 ·
  rw [if_neg c3] at H;obtain ⟨c3b0,c3b1⟩:=jr c3
  obtain rfl:=Option.some.inj H
  go_enter Tryz.func56,Tryz.ntmps56
  go_wp2_with (first | ((with_reducible refine bf (N:=2) rfl ?_);refine aZ ?hg (N:=2) ?hd (cs:=#[.string a0_0,.string a0_1,.int .i64 a0_2,.string a0_3,.bool a0_4]) (t:=34) ?hr ?_;(case hd=>rfl);(case hg=>rfl);(case hr=>first | (go_simp;done) | (go_simp;rfl));intro gb514 hg w9 hbox hb;have BK514:=aS (hbox);have GW514:=bsize hg;have GE514:=bsize hg;replace HB:=aM hb;clear hb hbox hg) | ((with_reducible refine bf (N:=3) rfl ?_);refine aZ ?hg (N:=3) ?hd (cs:=#[.string a1_0,.string a1_1,.int .i64 a1_2,.string a1_3,.bool a1_4]) (t:=34) ?hr ?_;(case hd=>rfl);(case hg=>rfl);(case hr=>first | (go_simp;done) | (go_simp;rfl));intro gb515 hg w10 hbox hb;have BK515:=aS (hbox);have GW515:=bsize hg;have GE515:=bsize hg;replace HB:=aM hb;have NB514_515:=aS ((by rw [hg];exact Nat.ne_of_lt (di (g:=gb514) (o:=.cells #[.string a0_0,.string a0_1,.int .i64 a0_2,.string a0_3,.bool a0_4] 34 (0,0)) (dS BK514.out)):gb514≠gb515));have NB515_514:=aS ((by rw [hg];exact Nat.ne_of_gt (di (g:=gb514) (o:=.cells #[.string a0_0,.string a0_1,.int .i64 a0_2,.string a0_3,.bool a0_4] 34 (0,0)) (dS BK514.out)):gb515≠gb514));replace BK514:=fo BK514 hb;clear hb hbox hg;have hnb11:=NB514_515.out;have hnc11:=NB515_514.out;have hcz12:=cU BK514;have hcz13:=cU BK515))
  go_ret
  exact ⟨dR,aq⟩
-- kr
def aU.sm (p c:au):Bool:=p.f0.toList == c.f0.toList && p.f1.toList == c.f1.toList
def aU.at_ (l:List au) (i:Nat):au:=af l (i:Int)
def aU.nw (l:List au) (t:Int) (i:Nat):Bool:=decide (i=0) || (!(aU.sm (aU.at_ l (i - 1)) (aU.at_ l i)) || decide ((aU.at_ l (i - 1)).f2 > t))
def aU.keep (l:List au) (t:Int) (i:Nat):Bool:=decide ((aU.at_ l i).f2≤t) && (aU.nw l t i && !(aU.at_ l i).f4)
def aU.pre (l:List au) (t:Int):Nat→List au
 | 0=>[]
 | i+1=>aU.pre l t i++if aU.keep l t i=true then [aU.at_ l i] else []
def aU.f (_:Nat) (l:List au) (t:Int):Option (List au):=if l.length<2199023255552 then some (aU.pre l t l.length) else none
theorem aU.mono:∀ a0 a1 k,aG (aU.f k a0 a1) (aU.f (k+1) a0 a1):=fun _ _ _=>aG.refl _
theorem aU.len (l:List au) (t:Int):∀ i,(aU.pre l t i).length≤i
 | 0=>Nat.le_refl _
 | i+1=>by
  have:=aU.len l t i
  unfold aU.pre
  split<;>simp<;>omega
theorem aU.same (p c:au):kr.f p.f0 p.f1 p.f2 p.f3 p.f4 c.f0 c.f1 c.f2 c.f3 c.f4=some (aU.sm p c):=by
 unfold kr.f aU.sm
 split
 ·
  next h=>rw [beq_iff_eq.2 h];rfl
 ·
  next h=>rw [beq_eq_false_iff_ne.2 h];rfl
theorem aU.calls (k:Nat) (A0:Option Addr) (c0:Nat) (l:List au) (t:Int) (r:List au) (w:World) (hr0:Kd.C bP w A0 l.length l) (hc0:l.length≤c0) (h:aU.f k l t=some r) :
  Calls Tryz.prog 37 #[.slice A0 l.length c0,.int .i64 t] w fun e w'=>∃ v0_:Value,e = .returned v0_∧Kd.R bP 34 w' w.heap.size (fun _=>True) v0_ r∧Below w.heap.size w w':=by
 have hu24:=Tryz.underlying32;have hu26:=Tryz.underlying34
 unfold aU.f at h
 by_cases hlim:l.length<2199023255552
 case neg=>rw [if_neg hlim] at h;cases h
 rw [if_pos hlim] at h
 obtain rfl:=Option.some.inj h
 have HC:=aS hr0;have HL:=aS hc0;have HLM:=aS hlim;clear hr0 hc0 hlim h
 go_enter Tryz.func37,Tryz.ntmps37
 go_wp2
 go_loopw [5,11] (fun v5 v11 wr=>∃ (i:Nat),v11 = .int .i64 (i:Int)∧ah (i≤l.length)∧ah (Kd.R bP 34 wr w.heap.size (fun _=>True) v5 (aU.pre l t i))∧ah (Below w.heap.size w wr)) (fun _ i _=>l.length - (intOf i).toNat)
 case atStart=>exact ⟨0,rfl,⟨Nat.zero_le _⟩,⟨Kd.er _ _ _ _ _⟩,⟨Below.refl _ _⟩⟩
 case round=>
  obtain ⟨i,rfl,hi,HR,HBr⟩:=hrel
  by_cases hlt:i<l.length
  ·
   have hq1:(i:Int)<(l.length:Int):=by omega
   have hq0:(0:Int)≤(i:Int):=by omega
   obtain ⟨ad,e_,hx0,hx1,hx2,hx3,hx4⟩:=eO (Kd.cV HC.out HBr.out) (i:Int) hq0 hq1;subst e_
   obtain ⟨x,hx⟩:∃ x,x=af l (i:Int):=⟨_,rfl⟩
   rw [←hx] at hx0 hx1 hx2 hx3 hx4;have HX:ah (x=aU.at_ l i):=aS hx;have HLA:ah ((aU.pre l t i).length<2199023255552):=aS (Nat.lt_of_le_of_lt (aU.len l t i) (by have:=HLM.out;omega))
   have hix:∀ W:World,(Instr.indexAt 32 (.slice (some ad) l.length c0) (.int .i64 (i:Int))).run Tryz.prog W = .ok (.pointer (some (ad.add (i*5)))) W:=by
    obtain ⟨i0,hi0,hz⟩:=Option.map_eq_some_iff.1 eB
    simp only [Prod.mk.injEq] at hz
    intro W
    have h1:=iI 32 34 hu24 hi0 5 hz.2.1 ad l.length c0 (i:Int) (by omega) (by omega) W
    rwa [Int.toNat_natCast] at h1
   have hwr:wrap64 ((i:Int)+1)=(i:Int)+1:=by rw [←bB,IntKind.wrap_i64];have:=HLM.out;omega
   rw [Int.toNat_natCast] at hx0 hx1 hx2 hx3 hx4;clear hx hi hq0
   go_upto_region 5 with (first | ((with_reducible refine bf (N:=7) rfl ?_);refine aZ ?hg (N:=7) ?hd (cs:=#[.string ⟨#[]⟩,.string ⟨#[]⟩,.int .i64 0,.string ⟨#[]⟩,.bool false]) (t:=34) ?hr ?_;(case hd=>rfl);(case hg=>rfl);(case hr=>(first | (go_simp;done) | (go_simp;rfl)));intro p7 hg w1 hb hbl;have B9:=aS hb;have G9:ah (wr.heap.size≤p7):=aS (by rw [hg];exact Nat.le_refl _);have HB1:=aS hbl;clear hg hb hbl) | ((with_reducible refine ez (t:=34) (p:=7) rfl ?_);refine wpList_store_row rfl 34 _ _ rfl p7 #[.string x.f0,.string x.f1,.int .i64 x.f2,.string x.f3,.bool x.f4] rfl rfl 34 _ B9.out (by kernel_rfl) rfl (by kernel_rfl) ?_;have n1_:=aS (setRow_heap w1 p7 _ #[.string x.f0,.string x.f1,.int .i64 x.f2,.string x.f3,.bool x.f4] _ _ B9.out);have HB2:=aS (dU HB1.out G9.out #[.string x.f0,.string x.f1,.int .i64 x.f2,.string x.f3,.bool x.f4]);clear B9 HB1;have B5:=n1_;clear n1_;generalize World.setRow w1 p7 #[.string x.f0,.string x.f1,.int .i64 x.f2,.string x.f3,.bool x.f4]=w2 at B5 HB2 ⊢;have HR2:=aS (Kd.dO HR.out HB2.out);have HB3:=aS (aJ HBr.out HB2.out);clear HR HBr HB2;have q5:=cU B5))
   (try simp only [Act.put,dn,dm,lss])
   go_cut [8] (fun v8 wc=>∃ nb:Bool,v8 = .bool nb∧ah (nb=aU.nw l t i)∧ah (wc.heap[p7]? = some (.cells #[.string x.f0,.string x.f1,.int .i64 x.f2,.string x.f3,.bool x.f4] 34 (0,0)))∧ah (Kd.R bP 34 wc w.heap.size (fun _=>True) u5 (aU.pre l t i))∧ah (Below w.heap.size w wc))
   case first=>
    clear hwr hx0 hx1 hx2 hx3 hx4 q5
    by_cases c9:(i:Int)=0
    ·
     have HN:ah (true=aU.nw l t i):=aS (by unfold aU.nw;rw [decide_eq_true (show i=0 by omega)];rfl);obtain ⟨c9a,c9b⟩:=jG c9;clear c9;refine dA (n:=23) (ds:=[]) (S:=fun w'=>True) (bA 23 0) (by kernel_rfl) rfl rfl trivial (fun hHeld=>?_)
     generalize hw_:World.drew _=wd at hHeld ⊢
     have n1_:=aS (hw_▸ar B5.out);have n2_:=aS (hw_▸Kd.bH HR2.out);have n3_:=aS (hw_▸aJ HB3.out (bO (Below.refl _ _)));clear hw_ B5 HR2 HB3;have B5:=n1_;have HR2:=n2_;have HB3:=n3_;clear n1_ n2_ n3_;refine cI (T:=(true,[([],[]),([0],[0]),([1],[1]),([2],[2]),([2],[2]),([4,2],[2,4]),([3,5,2],[2,3,5]),([6,2],[2,6]),([2],[2]),([7,8,2,2],[2,7,8]),([9,2],[2,9]),([2,10],[2,10]),([11,9],[11]),([12],[12]),([12],[12]),([14,12],[12,14]),([13,15,12],[12,13,15]),([16,12],[12,16]),([17,12],[12,17]),([12],[12]),([18,19,12],[12,18,19]),([12,20],[12,20]),([21,12,0,1,2,3,4,5,6,7,8,9,10,11,12,13,14,15,16,17,18,19,20,21],[21])])) (B:=[0,1,3,7,7,23,63,127,7,511,1023,2047,4095,8191,8191,24575,65535,131071,262143,8191,1048575,2097151,4194303]) (by kernel_rfl) (by kernel_rfl) (fun HT_ HW_=>?_);refine aY [(0,16),(1,17),(2,18),(3,19),(4,20),(5,21),(6,22),(7,23),(8,24),(9,25),(10,26),(11,27),(12,28),(13,29),(14,30),(15,31),(16,32),(17,33),(18,34),(19,35),(20,36),(21,37),(22,8)] ?_
     iterate 23 (first | (refine nJ HT_ ?_) | (refine cw HT_ ?_))
     refine bU (bA 23 8388607) (by kernel_rfl) ?_;refine dQ (cY HT_.out (by kernel_rfl)) ?_;clear HT_ HW_ hHeld
     try go_wp2
     go_meet
     case rel=>exact ⟨true,rfl,HN,B5,HR2,HB3⟩
    ·
     obtain ⟨j,hj⟩:∃ j:Nat,j+1=i:=⟨i - 1,by omega⟩
     obtain ⟨y,hy⟩:∃ y,y=aU.at_ l j:=⟨_,rfl⟩
     obtain ⟨s,hs⟩:∃ s,s=aU.sm y x:=⟨_,rfl⟩
     have HSM:ah (kr.f y.f0 y.f1 y.f2 y.f3 y.f4 x.f0 x.f1 x.f2 x.f3 x.f4=some s):=aS (by rw [hs];exact aU.same y x);have HN:ah ((!s || decide (y.f2 > t))=aU.nw l t i):=aS (by unfold aU.nw;rw [decide_eq_false (show ¬ i=0 by omega),show i - 1=j by omega,← hy,← HX.out,← hs];rfl)
     have hjl:j<l.length:=by omega
     have HYF:ah (∀ w',Below w.heap.size w w'→w'.cell? (ad.add (j*5))=some (.string y.f0)∧w'.cell? ⟨(ad.add (j*5)).block,(ad.add (j*5)).off+1,none⟩=some (.string y.f1)∧w'.cell? ⟨(ad.add (j*5)).block,(ad.add (j*5)).off+2,none⟩=some (.int .i64 y.f2)∧w'.cell? ⟨(ad.add (j*5)).block,(ad.add (j*5)).off+3,none⟩=some (.string y.f3)∧w'.cell? ⟨(ad.add (j*5)).block,(ad.add (j*5)).off+4,none⟩=some (.bool y.f4)):=aS (fun w' hb=>by
      obtain ⟨ad',e',hc⟩:=eO (Kd.cV HC.out hb) (j:Int) (by omega) (by omega)
      injection e' with e'
      subst e'
      rw [Int.toNat_natCast,show af l (j:Int)=y from hy.symm] at hc
      exact hc)
     have hw1:IntKind.i64.wrap ((i:Int) - 1)=(j:Int):=by rw [IntKind.wrap_i64]<;>have:=HLM.out<;>omega
     have hixj:∀ W:World,(Instr.indexAt 32 (.slice (some ad) l.length c0) (.int .i64 (j:Int))).run Tryz.prog W = .ok (.pointer (some (ad.add (j*5)))) W:=by
      obtain ⟨i0,hi0,hz⟩:=Option.map_eq_some_iff.1 eB
      simp only [Prod.mk.injEq] at hz
      intro W
      have h1:=iI 32 34 hu24 hi0 5 hz.2.1 ad l.length c0 (j:Int) (by omega) (by omega) W
      rwa [Int.toNat_natCast] at h1
     obtain ⟨c9a,c9b⟩:=jr c9;clear c9 hj hs hy hix hjl hlt hq1;refine dA (n:=23) (ds:=[]) (S:=fun w'=>(w'.cell? ⟨p7,0,none⟩=some (.string x.f0)∧w'.cell? ⟨p7,1,none⟩=some (.string x.f1)∧w'.cell? ⟨p7,2,none⟩=some (.int .i64 x.f2)∧w'.cell? ⟨p7,3,none⟩=some (.string x.f3)∧w'.cell? ⟨p7,4,none⟩=some (.bool x.f4))∧w'.cell? (ad.add (j*5))=some (.string y.f0)∧w'.cell? ⟨(ad.add (j*5)).block,(ad.add (j*5)).off+1,none⟩=some (.string y.f1)∧w'.cell? ⟨(ad.add (j*5)).block,(ad.add (j*5)).off+2,none⟩=some (.int .i64 y.f2)∧w'.cell? ⟨(ad.add (j*5)).block,(ad.add (j*5)).off+3,none⟩=some (.string y.f3)∧w'.cell? ⟨(ad.add (j*5)).block,(ad.add (j*5)).off+4,none⟩=some (.bool y.f4)) (bA 23 0) (by kernel_rfl) rfl rfl ⟨⟨(aD (ar B5.out) 0).trans rfl,(aD (ar B5.out) 1).trans rfl,(aD (ar B5.out) 2).trans rfl,(aD (ar B5.out) 3).trans rfl,(aD (ar B5.out) 4).trans rfl⟩,HYF.out _ (aJ HB3.out (bO (Below.refl _ _)))⟩ (fun hHeld=>?_)
     generalize hw_:World.drew _=wd at hHeld ⊢
     have n1_:=aS (hw_▸ar B5.out);have n2_:=aS (hw_▸Kd.bH HR2.out);have n3_:=aS (hw_▸aJ HB3.out (bO (Below.refl _ _)));clear hw_ B5 HR2 HB3;have B5:=n1_;have HR2:=n2_;have HB3:=n3_;clear n1_ n2_ n3_;refine cI (T:=(true,[([],[]),([0],[0]),([1],[1]),([2],[2]),([2],[2]),([4,2],[2,4]),([3,5,2],[2,3,5]),([6,2],[2,6]),([2],[2]),([7,8,2,2],[2,7,8]),([9,2],[2,9]),([2,10],[2,10]),([11,9],[11]),([12],[12]),([12],[12]),([14,12],[12,14]),([13,15,12],[12,13,15]),([16,12],[12,16]),([17,12],[12,17]),([12],[12]),([18,19,12],[12,18,19]),([12,20],[12,20]),([21,12,0,1,2,3,4,5,6,7,8,9,10,11,12,13,14,15,16,17,18,19,20,21],[21])])) (B:=[0,1,3,7,7,23,63,127,7,511,1023,2047,4095,8191,8191,24575,65535,131071,262143,8191,1048575,2097151,4194303]) (by kernel_rfl) (by kernel_rfl) (fun HT_ HW_=>?_);refine aY [(0,16),(1,17),(2,18),(3,19),(4,20),(5,21),(6,22),(7,23),(8,24)] ?_
     iterate 9 (first | (refine cw HT_ ?_) | (refine d9 HT_ HW_ hHeld ?_))
     refine bU (bA 23 511) (by kernel_rfl) ?_;refine dH 9 (N:=some 25) (bA 23 1023) HT_ (fun K hK=>?_);refine eu Tryz.func56 (by kernel_rfl) rfl #[.agg #[.string y.f0,.string y.f1,.int .i64 y.f2,.string y.f3,.bool y.f4],.agg #[.string x.f0,.string x.f1,.int .i64 x.f2,.string x.f3,.bool x.f4]] (by rfl) rfl rfl cH ?_
     with_reducible refine (kr.calls y.f0 y.f1 y.f2 y.f3 y.f4 x.f0 x.f1 x.f2 x.f3 x.f4 s _ HSM.out).mono ?_
     rintro e_ w4 ⟨rfl,hb⟩
     refine ⟨_,rfl,?_⟩;have n1_:=aS (aK B5.out hb);have n2_:=aS (Kd.dO HR2.out hb);have n3_:=aS (aJ HB3.out hb);clear B5 HR2 HB3 hb;have B5:=n1_;have HR2:=n2_;have HB3:=n3_;clear n1_ n2_ n3_;refine hK.out _ _ ⟨⟨(aD B5.out 0).trans rfl,(aD B5.out 1).trans rfl,(aD B5.out 2).trans rfl,(aD B5.out 3).trans rfl,(aD B5.out 4).trans rfl⟩,HYF.out _ HB3.out⟩ (fun hHeld=>?_);clear hK K;refine nm 25 ?_
     cases s with
     | false=>
      refine aY [(10,26),(11,27),(12,28),(13,29),(14,30),(15,31),(16,32),(17,33),(18,34),(19,35),(20,36),(21,37),(22,8)] ?_
      iterate 13 (first | (refine nJ HT_ ?_) | (refine cw HT_ ?_))
      refine bU (bA 23 8388607) (by kernel_rfl) ?_;refine dQ (cY HT_.out (by kernel_rfl)) ?_;clear HT_ HW_ hHeld
      try go_wp2
      go_meet
      case rel=>exact ⟨true,rfl,aS (by rw [←HN.out];rfl),B5,HR2,HB3⟩
     | true=>
      refine aY [(10,26),(11,27),(12,28),(13,29),(14,30),(15,31),(16,32),(17,33),(18,34),(19,35),(20,36),(21,37),(22,8)] ?_
      iterate 13 (first | (refine cw HT_ ?_) | (refine d9 HT_ HW_ hHeld ?_))
      refine bU (bA 23 8388607) (by kernel_rfl) ?_;refine dQ (cY HT_.out (by kernel_rfl)) ?_;clear HT_ HW_ hHeld
      try go_wp2
      go_meet
      case rel=>exact ⟨decide (y.f2 > t),rfl,aS (by rw [←HN.out];rfl),B5,HR2,HB3⟩
   case rest=>
    obtain ⟨nb,rfl,hn,B5,HR2,HB3⟩:=hcut;have q5:=cU B5;clear hx0 hx1 hx2 hx3 hx4 hix
    by_cases c8:x.f2≤t
    rotate_left
    ·
     have HP:ah (aU.keep l t i=false):=aS (by unfold aU.keep;rw [←HX.out,decide_eq_false c8];rfl);have c8b:decide (x.f2≤t)=false:=decide_eq_false c8;clear c8
     go_wp2_with (first | fail)
     go_roundw
     case rel=>exact ⟨i+1,by rw [hwr];rfl,⟨hlt⟩,⟨by unfold aU.pre;rw [HP.out,if_neg Bool.false_ne_true,List.append_nil];exact HR2.out⟩,HB3⟩
     case measure=>exact jh hwr hlt
    ·
     have c8b:decide (x.f2≤t)=true:=decide_eq_true c8;clear c8
     cases nb with
     | false=>
      have HP:ah (aU.keep l t i=false):=aS (by unfold aU.keep;rw [←hn.out,Bool.false_and,Bool.and_false])
      go_wp2_with (first | fail)
      go_roundw
      case rel=>exact ⟨i+1,by rw [hwr];rfl,⟨hlt⟩,⟨by unfold aU.pre;rw [HP.out,if_neg Bool.false_ne_true,List.append_nil];exact HR2.out⟩,HB3⟩
      case measure=>exact jh hwr hlt
     | true=>
      by_cases eU:(!x.f4)=true
      ·
       have HP:ah (aU.keep l t i=true):=aS (by unfold aU.keep;rw [←hn.out,← HX.out,c8b,eU];rfl)
       go_wp2_with (first | fail | (at_builtin;refine Kd.iA bP (w0:=w) w.heap.size rfl _ _ 32 34 _ _ rfl hu24 eB rfl (by decide) (by decide) u5 (aU.pre l t i) x [.string x.f0,.string x.f1,.int .i64 x.f2,.string x.f3,.bool x.f4] (fun _=>True) (fun _=>False) rfl rfl (gT _ _ _ x) (fun _ hk=>hk.elim) (fun _ _=>trivial) HR2.out HB3.out HB3.out.size (by have:=HLA.out;clear hwr;omega) ?_;intro v8 w4 ho hb hg hat;have HR4:=aS ho;have HB4:=aS hb;clear ho hb hg hat HR2 HB3))
       go_roundw
       case rel=>exact ⟨i+1,by rw [hwr];rfl,⟨hlt⟩,⟨by unfold aU.pre;rw [HP.out,if_pos rfl,← HX.out];exact HR4.out⟩,HB4⟩
       case measure=>exact jh hwr hlt
      ·
       replace eU:(!x.f4)=false:=Bool.eq_false_iff.mpr eU;have HP:ah (aU.keep l t i=false):=aS (by unfold aU.keep;rw [←hn.out,← HX.out,c8b,eU];rfl)
       go_wp2_with (first | fail)
       go_roundw
       case rel=>exact ⟨i+1,by rw [hwr];rfl,⟨hlt⟩,⟨by unfold aU.pre;rw [HP.out,if_neg Bool.false_ne_true,List.append_nil];exact HR2.out⟩,HB3⟩
       case measure=>exact jh hwr hlt
  ·
   have e_:i=l.length:=by have:=hi.out;omega
   have hge:¬ ((i:Int)<(l.length:Int)):=by omega
   go_wp2
   go_ret
   exact ⟨_,rfl,by rw [←e_];exact HR.out,HBr.out⟩
def cE.keep (a b:ByteArray) (c:au):Bool:=!(Op.bytesLess c.f0.toList a.toList) && (b.toList == [] || Op.bytesLess c.f0.toList b.toList)
def cE.f (k:Nat) (xs:List au) (ls:List (List (List au × List (List au) × List Int))) (a b:ByteArray) (t:Int):Option (List au):=(dh.f k xs ls).bind fun c=>(aU.f k c t).bind fun v=>if v.length<2199023255552 then some (v.filter (cE.keep a b)) else none
theorem cE.mono:∀ a0 a1 a2 a3 a4 k,aG (cE.f k a0 a1 a2 a3 a4) (cE.f (k+1) a0 a1 a2 a3 a4):=fun _ _ _ _ _ _=>aG.bind (dh.mono _ _ _) fun _=>aG.bind (aU.mono _ _ _) fun _=>aG.refl _
attribute [local go_sem] DS
theorem cE.calls (k g base:Nat) (ok:Nat→Prop) (s1 s2 s3:Int) (xs:List au) (n:Int) (ls:List (List (List au × List (List au) × List Int))) (a b:ByteArray) (t:Int) (r:List au) (w:World) (hA:ak.At w base ok g s1 s2 s3 xs n ls) (h:cE.f k xs ls a b t=some r) :
  Calls Tryz.prog 17 #[.pointer (some ⟨g,0,none⟩),.string a,.string b,.int .i64 t] w fun e w'=>∃ v0_:Value,e = .returned v0_∧Kd.R bP 34 w' w.heap.size (fun _=>True) v0_ r∧Below w.heap.size w w':=by
 have hu24:=Tryz.underlying32;have hu26:=Tryz.underlying34
 unfold cE.f at h
 replace h:=cD h;obtain ⟨c,x1,h⟩:=h;replace h:=cD h;obtain ⟨vs,x2,h⟩:=h
 by_cases hlim:vs.length<2199023255552
 case neg=>rw [if_neg hlim] at h;cases h
 rw [if_pos hlim] at h
 obtain rfl:=Option.some.inj h
 have HA:=aS hA;have X1:=aS x1;have X2:=aS x2;have HLM:=aS hlim;clear hA x1 x2 hlim h
 go_enter Tryz.func17,Tryz.ntmps17
 go_wp2_with (first | (go_at_call 19;(with_reducible refine (dh.calls k base ok g s1 s2 s3 xs n ls c _ HA.out X1.out).mono ?_);rintro e_ w2 ⟨v2,rfl,ho,hb⟩;obtain ⟨Ac,cc,rfl,hcl,hC⟩:=Kd.gL ho;have HCc:=aS hC;have HLc:=aS hcl;have HB1:=aS hb;clear ho hb hC hcl) | (go_at_call 37;(with_reducible refine (aU.calls k Ac cc c t vs _ HCc.out HLc.out X2.out).mono ?_);rintro e_ w3 ⟨v3,rfl,ho,hb⟩;obtain ⟨A,cv,rfl,hcl,hC⟩:=Kd.gL ho;have HC:=aS hC;have HL:=aS hcl;have HB:=aS (aJ HB1.out hb);clear ho hb hC hcl HB1 HCc HLc))
 go_loopw [9,17] (fun v9 v17 wr=>∃ (i:Nat),v17 = .int .i64 (i:Int)∧ah (i≤vs.length)∧ah (Kd.R bP 34 wr w3.heap.size (fun _=>True) v9 (vs.take i |>.filter (cE.keep a b)))∧ah (Below w3.heap.size w3 wr)) (fun _ i _=>vs.length - (intOf i).toNat)
 case atStart=>exact ⟨0,rfl,⟨Nat.zero_le _⟩,⟨Kd.er _ _ _ _ _⟩,⟨Below.refl _ _⟩⟩
 case round=>
  obtain ⟨i,rfl,hi,HR,HBr⟩:=hrel
  by_cases hlt:i<vs.length
  ·
   have hq1:(i:Int)<(vs.length:Int):=by omega
   have hq0:(0:Int)≤(i:Int):=by omega
   obtain ⟨ad,e_,hx0,hx1,hx2,hx3,hx4⟩:=eO (Kd.cV HC.out HBr.out) (i:Int) hq0 hq1;subst e_
   obtain ⟨x,hx⟩:∃ x,x=af vs (i:Int):=⟨_,rfl⟩
   rw [←hx] at hx0 hx1 hx2 hx3 hx4
   have hxe:x=vs[i]:=by rw [hx];unfold af;rw [Int.toNat_natCast,List.getD_eq_getElem?_getD,List.getElem?_eq_getElem hlt];rfl
   have HT:ah ((vs.take (i+1) |>.filter (cE.keep a b))=(vs.take i |>.filter (cE.keep a b))++if cE.keep a b x=true then [x] else []):=aS (by
    rw [List.take_succ_eq_append_getElem hlt,List.filter_append,← hxe]
    congr 1
    by_cases hk:cE.keep a b x=true<;>simp [hk])
   have HLA:ah ((vs.take i |>.filter (cE.keep a b)).length<2199023255552):=aS (Nat.lt_of_le_of_lt (List.length_filter_le _ _) (by rw [kR];have:=HLM.out;omega))
   have hix:∀ W:World,(Instr.indexAt 32 (.slice (some ad) vs.length cv) (.int .i64 (i:Int))).run Tryz.prog W = .ok (.pointer (some (ad.add (i*5)))) W:=by
    obtain ⟨i0,hi0,hz⟩:=Option.map_eq_some_iff.1 eB
    simp only [Prod.mk.injEq] at hz
    intro W
    have h1:=iI 32 34 hu24 hi0 5 hz.2.1 ad vs.length cv (i:Int) (by omega) (by omega) W
    rwa [Int.toNat_natCast] at h1
   have hwr:wrap64 ((i:Int)+1)=(i:Int)+1:=by rw [←bB,IntKind.wrap_i64];have:=HLM.out;omega
   rw [Int.toNat_natCast] at hx0 hx1 hx2 hx3 hx4;clear hx hxe hi hq0
   by_cases c8:Op.bytesLess x.f0.toList a.toList=true
   rotate_left
   ·
    replace c8:Op.bytesLess x.f0.toList a.toList=false:=by simpa using c8
    by_cases c9:b.toList=([]:List UInt8)
    rotate_left
    ·
     obtain ⟨c9a,c9b⟩:=jr c9
     by_cases eU:Op.bytesLess x.f0.toList b.toList=true
     rotate_left
     ·
      replace eU:Op.bytesLess x.f0.toList b.toList=false:=by simpa using eU
      have HP:ah (cE.keep a b x=false):=aS (by unfold cE.keep;rw [c8,c9a,eU];rfl)
      go_wp2_with (first | ((with_reducible refine bf (N:=11) rfl ?_);refine aZ ?hg (N:=11) ?hd (cs:=#[.string ⟨#[]⟩,.string ⟨#[]⟩,.int .i64 0,.string ⟨#[]⟩,.bool false]) (t:=34) ?hr ?_;(case hd=>rfl);(case hg=>rfl);(case hr=>(first | (go_simp;done) | (go_simp;rfl)));intro p9 hg w1 hb hbl;have B9:=aS hb;have G9:ah (wr.heap.size≤p9):=aS (by rw [hg];exact Nat.le_refl _);have HB1:=aS hbl;clear hg hb hbl) | ((with_reducible refine ez (t:=34) (p:=11) rfl ?_);refine wpList_store_row rfl 34 _ _ rfl p9 #[.string x.f0,.string x.f1,.int .i64 x.f2,.string x.f3,.bool x.f4] rfl rfl 34 _ B9.out (by kernel_rfl) rfl (by kernel_rfl) ?_;have B5:=aS (setRow_heap w1 p9 _ #[.string x.f0,.string x.f1,.int .i64 x.f2,.string x.f3,.bool x.f4] _ _ B9.out);have HB2:=aS (dU HB1.out G9.out #[.string x.f0,.string x.f1,.int .i64 x.f2,.string x.f3,.bool x.f4]);clear B9 HB1;generalize World.setRow w1 p9 #[.string x.f0,.string x.f1,.int .i64 x.f2,.string x.f3,.bool x.f4]=w2 at B5 HB2 ⊢;have HR2:=aS (Kd.dO HR.out HB2.out);have HB3:=aS (aJ HBr.out HB2.out);clear HR HBr HB2;have q5:=cU B5))
      go_roundw
      case rel=>exact ⟨i+1,by rw [hwr];rfl,⟨hlt⟩,⟨by rw [HT.out,HP.out,if_neg Bool.false_ne_true,List.append_nil];exact HR2.out⟩,HB3⟩
      case measure=>exact jh hwr hlt
     ·
      have HP:ah (cE.keep a b x=true):=aS (by unfold cE.keep;rw [c8,c9a,eU];rfl)
      go_wp2_with (first | ((with_reducible refine bf (N:=11) rfl ?_);refine aZ ?hg (N:=11) ?hd (cs:=#[.string ⟨#[]⟩,.string ⟨#[]⟩,.int .i64 0,.string ⟨#[]⟩,.bool false]) (t:=34) ?hr ?_;(case hd=>rfl);(case hg=>rfl);(case hr=>(first | (go_simp;done) | (go_simp;rfl)));intro p9 hg w1 hb hbl;have B9:=aS hb;have G9:ah (wr.heap.size≤p9):=aS (by rw [hg];exact Nat.le_refl _);have HB1:=aS hbl;clear hg hb hbl) | ((with_reducible refine ez (t:=34) (p:=11) rfl ?_);refine wpList_store_row rfl 34 _ _ rfl p9 #[.string x.f0,.string x.f1,.int .i64 x.f2,.string x.f3,.bool x.f4] rfl rfl 34 _ B9.out (by kernel_rfl) rfl (by kernel_rfl) ?_;have B5:=aS (setRow_heap w1 p9 _ #[.string x.f0,.string x.f1,.int .i64 x.f2,.string x.f3,.bool x.f4] _ _ B9.out);have HB2:=aS (dU HB1.out G9.out #[.string x.f0,.string x.f1,.int .i64 x.f2,.string x.f3,.bool x.f4]);clear B9 HB1;generalize World.setRow w1 p9 #[.string x.f0,.string x.f1,.int .i64 x.f2,.string x.f3,.bool x.f4]=w2 at B5 HB2 ⊢;have HR2:=aS (Kd.dO HR.out HB2.out);have HB3:=aS (aJ HBr.out HB2.out);clear HR HBr HB2;have q5:=cU B5) | (at_builtin;refine Kd.iA bP (w0:=w3) w3.heap.size rfl _ _ 32 34 _ _ rfl hu24 eB rfl (by decide) (by decide) u9 (vs.take i |>.filter (cE.keep a b)) x [.string x.f0,.string x.f1,.int .i64 x.f2,.string x.f3,.bool x.f4] (fun _=>True) (fun _=>False) rfl rfl (gT _ _ _ x) (fun _ hk=>hk.elim) (fun _ _=>trivial) HR2.out HB3.out HB3.out.size (by have:=HLA.out;clear hwr;omega) ?_;intro v8 w4 ho hb hg hat;have HR4:=aS ho;have HB4:=aS hb;clear ho hb hg hat HR2 HB3))
      go_roundw
      case rel=>exact ⟨i+1,by rw [hwr];rfl,⟨hlt⟩,⟨by rw [HT.out,HP.out,if_pos rfl];exact HR4.out⟩,HB4⟩
      case measure=>exact jh hwr hlt
    ·
     have HP:ah (cE.keep a b x=true):=aS (by unfold cE.keep;rw [c8,c9];rfl);obtain ⟨c9a,c9b⟩:=jG c9;clear c9
     go_wp2_with (first | ((with_reducible refine bf (N:=11) rfl ?_);refine aZ ?hg (N:=11) ?hd (cs:=#[.string ⟨#[]⟩,.string ⟨#[]⟩,.int .i64 0,.string ⟨#[]⟩,.bool false]) (t:=34) ?hr ?_;(case hd=>rfl);(case hg=>rfl);(case hr=>(first | (go_simp;done) | (go_simp;rfl)));intro p9 hg w1 hb hbl;have B9:=aS hb;have G9:ah (wr.heap.size≤p9):=aS (by rw [hg];exact Nat.le_refl _);have HB1:=aS hbl;clear hg hb hbl) | ((with_reducible refine ez (t:=34) (p:=11) rfl ?_);refine wpList_store_row rfl 34 _ _ rfl p9 #[.string x.f0,.string x.f1,.int .i64 x.f2,.string x.f3,.bool x.f4] rfl rfl 34 _ B9.out (by kernel_rfl) rfl (by kernel_rfl) ?_;have B5:=aS (setRow_heap w1 p9 _ #[.string x.f0,.string x.f1,.int .i64 x.f2,.string x.f3,.bool x.f4] _ _ B9.out);have HB2:=aS (dU HB1.out G9.out #[.string x.f0,.string x.f1,.int .i64 x.f2,.string x.f3,.bool x.f4]);clear B9 HB1;generalize World.setRow w1 p9 #[.string x.f0,.string x.f1,.int .i64 x.f2,.string x.f3,.bool x.f4]=w2 at B5 HB2 ⊢;have HR2:=aS (Kd.dO HR.out HB2.out);have HB3:=aS (aJ HBr.out HB2.out);clear HR HBr HB2;have q5:=cU B5) | (at_builtin;refine Kd.iA bP (w0:=w3) w3.heap.size rfl _ _ 32 34 _ _ rfl hu24 eB rfl (by decide) (by decide) u9 (vs.take i |>.filter (cE.keep a b)) x [.string x.f0,.string x.f1,.int .i64 x.f2,.string x.f3,.bool x.f4] (fun _=>True) (fun _=>False) rfl rfl (gT _ _ _ x) (fun _ hk=>hk.elim) (fun _ _=>trivial) HR2.out HB3.out HB3.out.size (by have:=HLA.out;clear hwr;omega) ?_;intro v8 w4 ho hb hg hat;have HR4:=aS ho;have HB4:=aS hb;clear ho hb hg hat HR2 HB3))
     go_roundw
     case rel=>exact ⟨i+1,by rw [hwr];rfl,⟨hlt⟩,⟨by rw [HT.out,HP.out,if_pos rfl];exact HR4.out⟩,HB4⟩
     case measure=>exact jh hwr hlt
   ·
    have HP:ah (cE.keep a b x=false):=aS (by unfold cE.keep;rw [c8];rfl)
    go_wp2_with (first | ((with_reducible refine bf (N:=11) rfl ?_);refine aZ ?hg (N:=11) ?hd (cs:=#[.string ⟨#[]⟩,.string ⟨#[]⟩,.int .i64 0,.string ⟨#[]⟩,.bool false]) (t:=34) ?hr ?_;(case hd=>rfl);(case hg=>rfl);(case hr=>(first | (go_simp;done) | (go_simp;rfl)));intro p9 hg w1 hb hbl;have B9:=aS hb;have G9:ah (wr.heap.size≤p9):=aS (by rw [hg];exact Nat.le_refl _);have HB1:=aS hbl;clear hg hb hbl) | ((with_reducible refine ez (t:=34) (p:=11) rfl ?_);refine wpList_store_row rfl 34 _ _ rfl p9 #[.string x.f0,.string x.f1,.int .i64 x.f2,.string x.f3,.bool x.f4] rfl rfl 34 _ B9.out (by kernel_rfl) rfl (by kernel_rfl) ?_;have B5:=aS (setRow_heap w1 p9 _ #[.string x.f0,.string x.f1,.int .i64 x.f2,.string x.f3,.bool x.f4] _ _ B9.out);have HB2:=aS (dU HB1.out G9.out #[.string x.f0,.string x.f1,.int .i64 x.f2,.string x.f3,.bool x.f4]);clear B9 HB1;generalize World.setRow w1 p9 #[.string x.f0,.string x.f1,.int .i64 x.f2,.string x.f3,.bool x.f4]=w2 at B5 HB2 ⊢;have HR2:=aS (Kd.dO HR.out HB2.out);have HB3:=aS (aJ HBr.out HB2.out);clear HR HBr HB2;have q5:=cU B5))
    go_roundw
    case rel=>exact ⟨i+1,by rw [hwr];rfl,⟨hlt⟩,⟨by rw [HT.out,HP.out,if_neg Bool.false_ne_true,List.append_nil];exact HR2.out⟩,HB3⟩
    case measure=>exact jh hwr hlt
  ·
   have e_:vs.take i=vs:=List.take_of_length_le (by omega)
   have hge:¬ ((i:Int)<(vs.length:Int)):=by omega
   go_wp2
   go_ret
   exact ⟨_,rfl,Kd.bh (by rw [←e_];exact HR.out) HB.out.size,aJ HB.out HBr.out⟩
theorem o6.calls (base:Nat) (ok:Nat→Prop) (g:Nat) (s1 s2 s3:Int) (xs:List au) (n:Int) (ls:List (List (List au × List (List au) × List Int))) (w:World) (hA:ak.At w base ok g s1 s2 s3 xs n ls) (h:ls.length<2199023255552) :
  Calls Tryz.prog 22 #[.pointer (some ⟨g,0,none⟩)] w fun e w'=>∃ v0_:Value,e = .returned v0_∧Kd.R (Kd.int .i64) 3 w' w.heap.size (fun _=>True) v0_ (ls.map fun l=>(l.length:Int))∧Below w.heap.size w w':=by
 have hu30:=Tryz.underlying27;have hu51:=Tryz.underlying61;have hu23:=Tryz.underlying23;have hu49:=Tryz.underlying59;have hu53:=Tryz.underlying64;have hu24:=Tryz.underlying32;have hu61:=Tryz.underlying73;have hu43:=Tryz.underlying50;obtain ⟨gm,vm,vl,vs,hA⟩:=hA;have HA:=aS hA;clear hA;have HLM:=aS h;clear h;have q0:=cU (aS HA.out.dg);obtain ⟨A,cl,rfl,hcl,hmx,hat⟩:=HA.out.at;have HL:=aS HA.out.len;have HAT:=aS hat;clear hat hmx
 go_enter Tryz.func22,Tryz.ntmps22
 go_wp2
 clear q0
 go_loopw [3,11] (fun v3 v11 wr=>∃ (i:Nat),v11 = .int .i64 (i:Int)∧ah (i≤vs.length)∧ah (Kd.R (Kd.int .i64) 3 wr w.heap.size (fun _=>True) v3 ((ls.take i).map fun l=>(l.length:Int)))∧ah (Below w.heap.size w wr)) (fun _ i _=>vs.length - (intOf i).toNat)
 case atStart=>exact ⟨0,rfl,⟨Nat.zero_le _⟩,⟨Kd.er _ _ _ _ _⟩,⟨Below.refl _ _⟩⟩
 case round=>
  obtain ⟨i,rfl,hi,HR,HBr⟩:=hrel
  by_cases hlt:i<vs.length
  ·
   have hq1:(i:Int)<(vs.length:Int):=by omega
   obtain ⟨ad,e_,hx⟩:=HAT.out wr (fun k _ hk=>HBr.out.block k hk) i hlt;subst e_;obtain ⟨Ai,ci,ei,hli,hCi⟩:=HA.out.cells i hlt;rw [ei] at hx
   have HT:ah (((ls.take (i+1)).map fun l=>(l.length:Int))=((ls.take i).map fun l=>(l.length:Int))++[((ls.getD i []).length:Int)]):=aS (by
    rw [List.take_succ_eq_append_getElem (by rw [←HL.out];exact hlt),List.map_append,List.getD_eq_getElem?_getD,List.getElem?_eq_getElem (by rw [←HL.out];exact hlt)]
    rfl)
   have HG:ah (((ls.take i).map fun l=>(l.length:Int)).length<2199023255552):=aS (by rw [List.length_map,kR];have:=HLM.out;omega)
   generalize (ls.getD i []).length=nl at hx HT
   have hix:∀ W:World,(Instr.indexAt 59 (.slice (some ad) vs.length cl) (.int .i64 (i:Int))).run Tryz.prog W = .ok (.pointer (some (ad.add i))) W:=by
    obtain ⟨i0,hi0,hz⟩:=Option.map_eq_some_iff.1 mT
    simp only [Prod.mk.injEq] at hz
    intro W
    have h1:=iI 59 64 hu49 hi0 1 hz.2.1 ad vs.length cl (i:Int) (by omega) (by omega) W
    rwa [Nat.mul_one,Int.toNat_natCast] at h1
   have hwr:wrap64 ((i:Int)+1)=(i:Int)+1:=by rw [←bB,IntKind.wrap_i64];have:=HLM.out;have:=HL.out;omega
   clear hi ei hli hCi
   go_wp2_with (first | (at_builtin;refine Kd.iA (Kd.int .i64) (w0:=w) w.heap.size rfl _ _ 50 3 (.int .i64 0) 8 rfl hu43 info3 rfl (by decide) (by decide) u3 _ (nl:Int) [.int .i64 (nl:Int)] (fun _=>True) (fun _=>False) rfl rfl rfl (fun _ hk=>hk.elim) (fun _ _=>trivial) HR.out HBr.out HBr.out.size (by have:=HG.out;clear hwr;omega) ?_;intro v8 w6 ho hb hg hat;rw [←HT.out] at ho;have HR2:=aS ho;have HB2:=aS hb;clear ho hb hg hat HR HBr))
   go_roundw
   case rel=>exact ⟨i+1,by rw [hwr];rfl,⟨hlt⟩,HR2,HB2⟩
   case measure=>exact jh hwr hlt
  ·
   have hge:¬ ((i:Int)<(vs.length:Int)):=by omega
   have e_:ls.take i=ls:=List.take_of_length_le (by rw [←HL.out];omega)
   go_wp2
   go_ret
   exact ⟨_,rfl,by rw [←e_];exact HR.out,HBr.out⟩
-- o6
def cS.tail (k:Nat) (xs:List au) (ls:List (List (List au × List (List au) × List Int))):Option Bool:=
 (bq.f k xs ls (⟨#[97]⟩:ByteArray) (⟨#[120]⟩:ByteArray) 3).bind fun v=>(bq.f k xs ls (⟨#[97]⟩:ByteArray) (⟨#[120]⟩:ByteArray) 9).bind fun i=>(dh.f k xs ls).bind fun c=>(cE.f k xs ls (⟨#[]⟩:ByteArray) (⟨#[]⟩:ByteArray) 2).bind fun s=>if v.f4=false∧v.f3=(⟨#[49]⟩:ByteArray)∧i.f4=true∧(ls.map fun l=>(l.length:Int))=[2]∧c.length=2∧s.length=1 then some true else none
def cS.f (k:Nat):Option Bool:=
 (ak.f 1 50 2).bind fun a=>(ak.f 0 0 0).bind fun b=>if a=true∧b=false then (cL.f k 1 50 2 [] 0 [] (⟨#[97]⟩:ByteArray) (⟨#[120]⟩:ByteArray) 1 (⟨#[49]⟩:ByteArray) false).bind fun p=>(cL.f k 1 50 2 p.1 p.2.1 p.2.2.1 (⟨#[97]⟩:ByteArray) (⟨#[120]⟩:ByteArray) 4 (⟨#[]⟩:ByteArray) true).bind fun q=>if p.2.2.2=0∧q.2.2.2=0 then cS.tail k q.1 q.2.2.1 else none else none
theorem cS.mD:∀ a0 a1 k,aG (cS.tail k a0 a1) (cS.tail (k+1) a0 a1):=fun _ _ _=>aG.bind (bq.mono _ _ _ _ _ _) fun _=>aG.bind (bq.mono _ _ _ _ _ _) fun _=>aG.bind (dh.mono _ _ _) fun _=>aG.bind (cE.mono _ _ _ _ _ _) fun _=>aG.refl _
theorem cS.mono:∀ k,aG (cS.f k) (cS.f (k+1)):=fun _=>aG.bind (aG.refl _) fun _=>aG.bind (aG.refl _) fun _=>aG.ite (aG.bind (cL.mono _ _ _ _ _ _ _ _ _ _ _ _) fun _=>aG.bind (cL.mono _ _ _ _ _ _ _ _ _ _ _ _) fun _=>aG.ite (cS.mD _ _ _) (aG.refl _)) (aG.refl _)
theorem cS.calls (k:Nat) (r:Bool) (w:World) (h:cS.f k=some r):Calls Tryz.prog 6 #[] w fun e w'=>e = .returned (.bool r)∧Below w.heap.size w w':=by
 have hu23:=Tryz.underlying23;have hu26:=Tryz.underlying34;have hu30:=Tryz.underlying27;have hu43:=Tryz.underlying50
 unfold cS.f at h
 replace h:=cD h;obtain ⟨a,x1,h⟩:=h;replace h:=cD h;obtain ⟨b,x2,h⟩:=h
 split at h
 case isFalse=>cases h
 rename_i hab
 obtain ⟨rfl,rfl⟩:=hab;replace h:=cD h;obtain ⟨⟨p1,p2,p3,p4⟩,x3,h⟩:=h;replace h:=cD h;obtain ⟨⟨q1,q2,q3,q4⟩,x4,h⟩:=h
 split at h
 case isFalse=>cases h
 rename_i hpq
 obtain ⟨hp,hq⟩:=hpq;replace hp:p4=0:=hp;replace hq:q4=0:=hq;subst hp;subst hq;replace h:cS.tail k q1 q3=some r:=h;replace x4:cL.f k 1 50 2 p1 p2 p3 (⟨#[97]⟩:ByteArray) (⟨#[120]⟩:ByteArray) 4 (⟨#[]⟩:ByteArray) true=some (q1,q2,q3,0):=x4
 unfold cS.tail at h
 replace h:=cD h;obtain ⟨v,x5,h⟩:=h;replace h:=cD h;obtain ⟨i,x6,h⟩:=h;replace h:=cD h;obtain ⟨c,x7,h⟩:=h;replace h:=cD h;obtain ⟨s,x8,h⟩:=h
 split at h
 case isFalse=>cases h
 rename_i hc
 obtain ⟨hv4,hv3,hi4,hl,hc2,hs1⟩:=hc
 obtain rfl:=Option.some.inj h
 have X1:=aS x1;have X2:=aS x2;have X3:=aS x3;have X4:=aS x4;have X5:=aS x5;have X6:=aS x6;have X7:=aS x7;have X8:=aS x8;have HL:=aS hl;have HV4:=aS hv4;have HV3:=aS hv3;have HI4:=aS hi4;have HC2:=aS hc2;have HS1:=aS hs1;have HLL:ah (q3.length<2199023255552):=aS (by have h1:=congrArg List.length hl;rw [List.length_map] at h1;rw [h1];decide);clear x1 x2 x3 x4 x5 x6 x7 x8 hl hv4 hv3 hi4 hc2 hs1 h
 go_enter Tryz.func6,Tryz.ntmps6
 go_wp2_with (first | (go_at_call 8;(with_reducible refine (ak.calls 1 50 2 true _ X1.out).mono ?_);rintro e_ w2 ⟨hb,_,ht⟩;obtain ⟨g,rfl,ht2⟩:=ht rfl;have HT:=aS ht2;have HB:=aS hb;clear ht ht2 hb) | (go_at_call 8;(with_reducible refine (ak.calls 0 0 0 false _ X2.out).mono ?_);rintro e_ w2 ⟨hb,he_,_⟩;obtain rfl:=he_ rfl;have n1_:=aS (HT.out.below hb);have n2_:=aS (aJ HB.out hb);clear HT HB hb;have HT:=n1_;have HB:=n2_;clear n1_ n2_) | (go_at_call 12;(with_reducible refine (cL.calls k g _ (fun k=>w.heap.size≤k) 1 50 2 [] p1 0 p2 [] p3 (⟨#[97]⟩:ByteArray) (⟨#[120]⟩:ByteArray) 1 (⟨#[49]⟩:ByteArray) false 0 _ HT.out X3.out).mono ?_);rintro e_ w2 ⟨rfl,ha_,hc_⟩;have n1_:=aS (ha_.new HB.out.size);have n2_:=aS (hc_.below HB.out HB.out.size (fun _ hk=>hk));clear HT HB ha_ hc_;have HT:=n1_;have HB:=n2_;clear n1_ n2_) | (go_at_call 12;(with_reducible refine (cL.calls k g _ (fun k=>w.heap.size≤k) 1 50 2 p1 q1 p2 q2 p3 q3 (⟨#[97]⟩:ByteArray) (⟨#[120]⟩:ByteArray) 4 (⟨#[]⟩:ByteArray) true 0 _ HT.out X4.out).mono ?_);rintro e_ w2 ⟨rfl,ha_,hc_⟩;have n1_:=aS (ha_.new HB.out.size);have n2_:=aS (hc_.below HB.out HB.out.size (fun _ hk=>hk));clear HT HB ha_ hc_;have HT:=n1_;have HB:=n2_;clear n1_ n2_) | (go_at_call 14;(with_reducible refine (bq.calls k g _ _ 1 50 2 q1 q2 q3 (⟨#[97]⟩:ByteArray) (⟨#[120]⟩:ByteArray) 3 v _ HT.out X5.out).mono ?_);rintro e_ w2 ⟨he_,hb⟩;rw [HV4.out,HV3.out] at he_;subst he_;have n1_:=aS (HT.out.below hb);have n2_:=aS (aJ HB.out hb);clear HT HB hb;have HT:=n1_;have HB:=n2_;clear n1_ n2_) | (go_at_call 14;(with_reducible refine (bq.calls k g _ _ 1 50 2 q1 q2 q3 (⟨#[97]⟩:ByteArray) (⟨#[120]⟩:ByteArray) 9 i _ HT.out X6.out).mono ?_);rintro e_ w2 ⟨he_,hb⟩;rw [HI4.out] at he_;subst he_;have n1_:=aS (HT.out.below hb);have n2_:=aS (aJ HB.out hb);clear HT HB hb;have HT:=n1_;have HB:=n2_;clear n1_ n2_) | (go_at_call 22;(with_reducible refine (o6.calls _ _ g 1 50 2 q1 q2 q3 _ HT.out HLL.out).mono ?_);rintro e_ w2 ⟨v2,rfl,ho,hb⟩;rw [HL.out] at ho;obtain ⟨gl,cpl,rfl,_,_,_⟩:=Kd.lZ ho (by decide);have hl0:w2.cell? ⟨gl,0,none⟩=some (.int .i64 2):=(Kd.Be (0:Int) ho 0 (by decide) (by decide)).1;clear ho;have n1_:=aS (HT.out.below hb);have n2_:=aS (aJ HB.out hb);clear HT HB hb;have HT:=n1_;have HB:=n2_;clear n1_ n2_) | (go_at_call 19;(with_reducible refine (dh.calls k _ _ g 1 50 2 q1 q2 q3 c _ HT.out X7.out).mono ?_);rintro e_ w2 ⟨v2,rfl,ho,hb⟩;obtain ⟨Ac,cc,rfl⟩:=Kd.bn ho;rw [HC2.out];clear ho;have n1_:=aS (HT.out.below hb);have n2_:=aS (aJ HB.out hb);clear HT HB hb;have HT:=n1_;have HB:=n2_;clear n1_ n2_) | (go_at_call 17;(with_reducible refine (cE.calls k g _ _ 1 50 2 q1 q2 q3 (⟨#[]⟩:ByteArray) (⟨#[]⟩:ByteArray) 2 s _ HT.out X8.out).mono ?_);rintro e_ w2 ⟨v2,rfl,ho,hb⟩;obtain ⟨As,cs,rfl⟩:=Kd.bn ho;rw [HS1.out];clear ho;have n1_:=aS (HT.out.below hb);have n2_:=aS (aJ HB.out hb);clear HT HB hb;have HT:=n1_;have HB:=n2_;clear n1_ n2_))
 go_ret
 exact ⟨rfl,HB.out⟩
def fZ.f (a0_0:Int) (a0_1:Int) (a0_2:Int):Option (Bool):=if a0_0≥1 then (if a0_0≤4096 then (if a0_1≥1 then (if a0_1≤4096 then (if a0_2≥1 then (some (decide (a0_2≤8))) else (some false)) else (some false)) else (some false)) else (some false)) else (some false)
theorem fZ.calls (a0_0:Int) (a0_1:Int) (a0_2:Int) (r:Bool) (w:World) (h:fZ.f a0_0 a0_1 a0_2=some r) :
  Calls Tryz.prog 9 #[.agg #[.int .i64 a0_0,.int .i64 a0_1,.int .i64 a0_2]] w fun e w'=>e = .returned (.bool r)∧Below w.heap.size w w':=by
 have hu23:=Tryz.underlying23;have HB:=aS (Below.refl w.heap.size w);have H:(if a0_0≥1 then (if a0_0≤4096 then (if a0_1≥1 then (if a0_1≤4096 then (if a0_2≥1 then (some (decide (a0_2≤8))) else (some false)) else (some false)) else (some false)) else (some false)) else (some false))=some r:=h;clear h
 by_cases c2:a0_0≥1
 ·
  rw [if_pos c2] at H;have c2b0:decide (1≤a0_0)=true:=decide_eq_true c2;clear c2
  by_cases c3:a0_0≤4096
  ·
   rw [if_pos c3] at H;have c3b0:decide (a0_0≤4096)=true:=decide_eq_true c3;clear c3
   by_cases c4:a0_1≥1
   ·
    rw [if_pos c4] at H;have c4b0:decide (1≤a0_1)=true:=decide_eq_true c4;clear c4
    by_cases c5:a0_1≤4096
    ·
     rw [if_pos c5] at H;have c5b0:decide (a0_1≤4096)=true:=decide_eq_true c5;clear c5
     by_cases c6:a0_2≥1
     ·
      rw [if_pos c6] at H;have c6b0:decide (1≤a0_2)=true:=decide_eq_true c6;clear c6
      obtain rfl:=Option.some.inj H
      go_enter Tryz.func9,Tryz.ntmps9
      go_wp2_with (first | ((with_reducible refine bf (N:=1) rfl ?_);refine aZ ?hg (N:=1) ?hd (cs:=#[.int .i64 a0_0,.int .i64 a0_1,.int .i64 a0_2]) (t:=23) ?hr ?_;(case hd=>rfl);(case hg=>rfl);(case hr=>first | (go_simp;done) | (go_simp;rfl));intro gb516 hg w7 hbox hb;have BK516:=aS (hbox);have GW516:=bsize hg;have GE516:=bsize hg;replace HB:=aM hb;clear hb hbox hg;have hcz8:=iU BK516))
      go_ret
      exact ⟨dR,aq⟩
     ·
      rw [if_neg c6] at H;have c6b0:decide (1≤a0_2)=false:=decide_eq_false c6;clear c6
      obtain rfl:=Option.some.inj H
      go_enter Tryz.func9,Tryz.ntmps9
      go_wp2_with (first | ((with_reducible refine bf (N:=1) rfl ?_);refine aZ ?hg (N:=1) ?hd (cs:=#[.int .i64 a0_0,.int .i64 a0_1,.int .i64 a0_2]) (t:=23) ?hr ?_;(case hd=>rfl);(case hg=>rfl);(case hr=>first | (go_simp;done) | (go_simp;rfl));intro gb516 hg w9 hbox hb;have BK516:=aS (hbox);have GW516:=bsize hg;have GE516:=bsize hg;replace HB:=aM hb;clear hb hbox hg;have hcz10:=iU BK516))
      go_ret
      exact ⟨dR,aq⟩
    ·
     rw [if_neg c5] at H;have c5b0:decide (a0_1≤4096)=false:=decide_eq_false c5;clear c5
     obtain rfl:=Option.some.inj H
     go_enter Tryz.func9,Tryz.ntmps9
     go_wp2_with (first | ((with_reducible refine bf (N:=1) rfl ?_);refine aZ ?hg (N:=1) ?hd (cs:=#[.int .i64 a0_0,.int .i64 a0_1,.int .i64 a0_2]) (t:=23) ?hr ?_;(case hd=>rfl);(case hg=>rfl);(case hr=>first | (go_simp;done) | (go_simp;rfl));intro gb516 hg w11 hbox hb;have BK516:=aS (hbox);have GW516:=bsize hg;have GE516:=bsize hg;replace HB:=aM hb;clear hb hbox hg;have hcz12:=iU BK516))
     go_ret
     exact ⟨dR,aq⟩
   ·
    rw [if_neg c4] at H;have c4b0:decide (1≤a0_1)=false:=decide_eq_false c4;clear c4
    obtain rfl:=Option.some.inj H
    go_enter Tryz.func9,Tryz.ntmps9
    go_wp2_with (first | ((with_reducible refine bf (N:=1) rfl ?_);refine aZ ?hg (N:=1) ?hd (cs:=#[.int .i64 a0_0,.int .i64 a0_1,.int .i64 a0_2]) (t:=23) ?hr ?_;(case hd=>rfl);(case hg=>rfl);(case hr=>first | (go_simp;done) | (go_simp;rfl));intro gb516 hg w13 hbox hb;have BK516:=aS (hbox);have GW516:=bsize hg;have GE516:=bsize hg;replace HB:=aM hb;clear hb hbox hg;have hcz14:=iU BK516))
    go_ret
    exact ⟨dR,aq⟩
  ·
   rw [if_neg c3] at H;have c3b0:decide (a0_0≤4096)=false:=decide_eq_false c3;clear c3
   obtain rfl:=Option.some.inj H
   go_enter Tryz.func9,Tryz.ntmps9
   go_wp2_with (first | ((with_reducible refine bf (N:=1) rfl ?_);refine aZ ?hg (N:=1) ?hd (cs:=#[.int .i64 a0_0,.int .i64 a0_1,.int .i64 a0_2]) (t:=23) ?hr ?_;(case hd=>rfl);(case hg=>rfl);(case hr=>first | (go_simp;done) | (go_simp;rfl));intro gb516 hg w15 hbox hb;have BK516:=aS (hbox);have GW516:=bsize hg;have GE516:=bsize hg;replace HB:=aM hb;clear hb hbox hg;have hcz16:=iU BK516))
   go_ret
   exact ⟨dR,aq⟩
 ·
  rw [if_neg c2] at H;have c2b0:decide (1≤a0_0)=false:=decide_eq_false c2;clear c2
  obtain rfl:=Option.some.inj H
  go_enter Tryz.func9,Tryz.ntmps9
  go_wp2_with (first | ((with_reducible refine bf (N:=1) rfl ?_);refine aZ ?hg (N:=1) ?hd (cs:=#[.int .i64 a0_0,.int .i64 a0_1,.int .i64 a0_2]) (t:=23) ?hr ?_;(case hd=>rfl);(case hg=>rfl);(case hr=>first | (go_simp;done) | (go_simp;rfl));intro gb516 hg w17 hbox hb;have BK516:=aS (hbox);have GW516:=bsize hg;have GE516:=bsize hg;replace HB:=aM hb;clear hb hbox hg;have hcz18:=iU BK516))
  go_ret
  exact ⟨dR,aq⟩
def bW.l0:Nat→List (au)→List (au)→Int→Option (Bool)
 | 0,_,_,_=>none
 | k+1,x0,x1,x5=>if x5<(x0.length:Int) then (if 0≤x5 then (if x5<(x1.length:Int) then (if (!((((af x0 x5).f0).toList) == (((af x1 x5).f0).toList)) || (!((((af x0 x5).f1).toList) == (((af x1 x5).f1).toList)) || (!(((af x0 x5).f2) == ((af x1 x5).f2)) || (!((((af x0 x5).f3).toList) == (((af x1 x5).f3).toList)) || (!(((af x0 x5).f4) == ((af x1 x5).f4)))))))=true then (some false) else (bW.l0 k x0 x1 (wrap64 (x5+1)))) else (none)) else (none)) else (some true)
def bW.f (k:Nat) (l0:List (au)) (l1:List (au)):Option (Bool):=if (l0.length:Int)=(l1.length:Int) then (bW.l0 k l0 l1 0) else (some false)
theorem bW.cK:∀ k,(∀ y0 y1 y2,aG (bW.l0 k y0 y1 y2) (bW.l0 (k+1) y0 y1 y2))
 | 0=>fun _ _ _ r h=>by simp [bW.l0] at h
 | k+1=>by
  have ih0:=bW.cK k
  ·
   intro y0 y1 y2
   unfold bW.l0
   exact eN
theorem bW.mono:∀ a0 a1 k,aG (bW.f k a0 a1) (bW.f (k+1) a0 a1):=by
 intro a0 a1 k
 have ih0:=bW.cK k
 unfold bW.f
 exact eN
theorem bW.calls (k:Nat) (A0:Option Addr) (c0:Nat) (l0:List (au)) (A1:Option Addr) (c1:Nat) (l1:List (au)) (r:Bool) (w:World) (hr0:Kd.C bP w A0 l0.length l0) (hc0:l0.length≤c0) (hr1:Kd.C bP w A1 l1.length l1) (hc1:l1.length≤c1) (h:bW.f k l0 l1=some r) :
  Calls Tryz.prog 16 #[.slice A0 l0.length c0,.slice A1 l1.length c1] w fun e w'=>e = .returned (.bool r)∧bw w w':=by
 have hu34:=Tryz.underlying34;have HR0:=aS hr0;have HC0:=aS hc0;clear hr0 hc0;have HR1:=aS hr1;have HC1:=aS hc1;clear hr1 hc1;have H:(if (l0.length:Int)=(l1.length:Int) then (bW.l0 k l0 l1 0) else (some false))=some r:=h;clear h
 by_cases c3:(l0.length:Int)=(l1.length:Int)
 ·
  rw [if_pos c3] at H;obtain ⟨c3b0,c3b1⟩:=jG c3
  have c3b2:(l0.length == l1.length)=true:=by first | simpa using c3 | (simp at c3 ⊢;omega)
  clear c3
  have H':=aS H
  clear H
  go_enter Tryz.func16,Tryz.ntmps16
  go_wp2
  repeat (go_quiet (fail);try go_wp2)
  go_loopg [5] k (fun kq v5 w'=>∃ (x5_1:Int),v5 = .int .i64 x5_1∧ah (bW.l0 kq l0 l1 x5_1=some r)∧ah (kq≤k)∧bw w w')
  case atStart=>exact ⟨(0),dJ,H',⟨Nat.le_refl _⟩,by repeat (first | exact bw.refl _ | apply bw.step)⟩
  case round=>
   clear H';(try clear c1);(try clear c3);(try clear c3b0);(try clear c3b1);(try clear c3b2);obtain ⟨x5_1,rfl,HA,HK1,⟨m1,rfl⟩⟩:=hrel
   cases gk with
   | zero=>exact absurd HA.out (by simp [bW.l0])
   | succ k1=>
    have H:=HA.out;clear HA
    simp only [bW.l0] at H
    by_cases c4:x5_1<(l0.length:Int)
    ·
     rw [if_pos c4] at H;have c4b0:decide (x5_1<(l0.length:Int))=true:=decide_eq_true c4;clear c4
     by_cases c5:0≤x5_1
     ·
      rw [if_pos c5] at H;have c5b0:decide (0≤x5_1)=true:=decide_eq_true c5;clear c5
      by_cases c6:x5_1<(l1.length:Int)
      ·
       rw [if_pos c6] at H;have c6b0:decide (x5_1<(l1.length:Int))=true:=decide_eq_true c6;clear c6
       by_cases c7:(!((((af l0 x5_1).f0).toList) == (((af l1 x5_1).f0).toList)) || (!((((af l0 x5_1).f1).toList) == (((af l1 x5_1).f1).toList)) || (!(((af l0 x5_1).f2) == ((af l1 x5_1).f2)) || (!((((af l0 x5_1).f3).toList) == (((af l1 x5_1).f3).toList)) || (!(((af l0 x5_1).f4) == ((af l1 x5_1).f4)))))))=true
       ·
        rw [if_pos c7] at H;have c7b0:(!((((af l0 x5_1).f0).toList) == (((af l1 x5_1).f0).toList)) || (!((((af l0 x5_1).f1).toList) == (((af l1 x5_1).f1).toList)) || (!(((af l0 x5_1).f2) == ((af l1 x5_1).f2)) || (!((((af l0 x5_1).f3).toList) == (((af l1 x5_1).f3).toList)) || (!(((af l0 x5_1).f4) == ((af l1 x5_1).f4)))))))=true:=c7;clear c7
        obtain rfl:=Option.some.inj H
        have p517:0≤(x5_1:Int):=cr;have q517:x5_1<(l0.length:Int):=cr;obtain ⟨ad517,e517,hx517_0,hx517_1,hx517_2,hx517_3,hx517_4⟩:=eO HR0.out x5_1 p517 q517;cases e517;replace p517:=eq_true p517;replace q517:=eq_true q517;have p518:0≤(x5_1:Int):=cr;have q518:x5_1<(l1.length:Int):=cr;obtain ⟨ad518,e518,hx518_0,hx518_1,hx518_2,hx518_3,hx518_4⟩:=eO HR1.out x5_1 p518 q518;cases e518;replace p518:=eq_true p518;replace q518:=eq_true q518
        go_wp2
        repeat (go_quiet (fail);try go_wp2)
        go_ret
        exact ⟨by first | rfl | (simp;done) | (simp [*];done) | (simp;exact (by decide:∀ a_ b_:Bool,(a_ == b_)=(!a_ != b_)) _ _),by repeat (first | exact bw.refl _ | apply bw.step)⟩
       ·
        rw [if_neg c7] at H
        have c7b0:(!((((af l0 x5_1).f0).toList) == (((af l1 x5_1).f0).toList)) || (!((((af l0 x5_1).f1).toList) == (((af l1 x5_1).f1).toList)) || (!(((af l0 x5_1).f2) == ((af l1 x5_1).f2)) || (!((((af l0 x5_1).f3).toList) == (((af l1 x5_1).f3).toList)) || (!(((af l0 x5_1).f4) == ((af l1 x5_1).f4)))))))=false:=by simpa using c7
        clear c7
        have H':=aS H
        clear H;have p517:0≤(x5_1:Int):=cr;have q517:x5_1<(l0.length:Int):=cr;obtain ⟨ad517,e517,hx517_0,hx517_1,hx517_2,hx517_3,hx517_4⟩:=eO HR0.out x5_1 p517 q517;cases e517;replace p517:=eq_true p517;replace q517:=eq_true q517;have p518:0≤(x5_1:Int):=cr;have q518:x5_1<(l1.length:Int):=cr;obtain ⟨ad518,e518,hx518_0,hx518_1,hx518_2,hx518_3,hx518_4⟩:=eO HR1.out x5_1 p518 q518;cases e518;replace p518:=eq_true p518;replace q518:=eq_true q518
        go_wp2
        repeat (go_quiet (fail);try go_wp2)
        go_roundg k1
        case measure=>have:=HK1.out;omega
        case rel=>exact ⟨(wrap64 (x5_1+1)),dJ,H',⟨by have:=HK1.out;omega⟩,by repeat (first | exact bw.refl _ | apply bw.step)⟩
      ·
       rw [if_neg c6] at H;exact absurd H (by simp)
     ·
      rw [if_neg c5] at H;exact absurd H (by simp)
    ·
     rw [if_neg c4] at H;have c4b0:decide (x5_1<(l0.length:Int))=false:=decide_eq_false c4;clear c4
     obtain rfl:=Option.some.inj H
     go_wp2
     repeat (go_quiet (fail);try go_wp2)
     go_ret
     exact ⟨by first | rfl | (simp;done) | (simp [*];done) | (simp;exact (by decide:∀ a_ b_:Bool,(a_ == b_)=(!a_ != b_)) _ _),by repeat (first | exact bw.refl _ | apply bw.step)⟩
 ·
  rw [if_neg c3] at H;obtain ⟨c3b0,c3b1⟩:=jr c3
  have c3b2:(l0.length == l1.length)=false:=by first | simpa using c3 | (simp at c3 ⊢;omega)
  obtain rfl:=Option.some.inj H
  go_enter Tryz.func16,Tryz.ntmps16
  go_wp2
  repeat (go_quiet (fail);try go_wp2)
  go_ret
  exact ⟨by first | rfl | (simp;done) | (simp [*];done) | (simp;exact (by decide:∀ a_ b_:Bool,(a_ == b_)=(!a_ != b_)) _ _),by repeat (first | exact bw.refl _ | apply bw.step)⟩
def f_.f (a0_0:ByteArray) (a0_1:ByteArray) (a0_2:Int) (a0_3:ByteArray) (a0_4:Bool):Option (Bool):=if (a0_0.size:Int)<1 then (some false) else (if (a0_0.size:Int) > 64 then (some false) else (if (a0_1.size:Int)<1 then (some false) else (if (a0_1.size:Int) > 64 then (some false) else (if a0_2<0 then (some false) else (if a0_2 > 4294967295 then (some false) else (if (a0_3.size:Int)≤256 then (if a0_4=true then (some (a0_3.toList == ([]:List UInt8))) else (some true)) else (some false)))))))
theorem f_.calls (a0_0:ByteArray) (a0_1:ByteArray) (a0_2:Int) (a0_3:ByteArray) (a0_4:Bool) (r:Bool) (w:World) (h:f_.f a0_0 a0_1 a0_2 a0_3 a0_4=some r) :
  Calls Tryz.prog 10 #[.agg #[.string a0_0,.string a0_1,.int .i64 a0_2,.string a0_3,.bool a0_4]] w fun e w'=>e = .returned (.bool r)∧Below w.heap.size w w':=by
 have hu34:=Tryz.underlying34;have HB:=aS (Below.refl w.heap.size w);have H:(if (a0_0.size:Int)<1 then (some false) else (if (a0_0.size:Int) > 64 then (some false) else (if (a0_1.size:Int)<1 then (some false) else (if (a0_1.size:Int) > 64 then (some false) else (if a0_2<0 then (some false) else (if a0_2 > 4294967295 then (some false) else (if (a0_3.size:Int)≤256 then (if a0_4=true then (some (a0_3.toList == ([]:List UInt8))) else (some true)) else (some false))))))))=some r:=h;clear h
 by_cases c2:(a0_0.size:Int)<1
 ·
  rw [if_pos c2] at H;have c2b0:decide ((a0_0.size:Int)<1)=true:=decide_eq_true c2;have c2b1:decide (a0_0.size<1)=true:=decide_eq_true (by omega);clear c2
  obtain rfl:=Option.some.inj H
  go_enter Tryz.func10,Tryz.ntmps10
  go_wp2_with (first | ((with_reducible refine bf (N:=1) rfl ?_);(try (refine eG (by rfl) ?_;dsimp only));refine aZ ?hg (N:=1) ?hd (cs:=#[.string a0_0,.string a0_1,.int .i64 a0_2,.string a0_3,.bool a0_4]) (t:=34) ?hr ?_;(case hd=>rfl);(case hg=>rfl);(case hr=>first | (go_simp;done) | (go_simp;rfl));intro gb519 hg w3 hbox hb;have BK519:=aS (hbox);have GW519:=bsize hg;have GE519:=bsize hg;replace HB:=aM hb;clear hb hbox hg;have hcz4:=cU BK519))
  go_ret
  exact ⟨dR,aq⟩
 ·
  rw [if_neg c2] at H;have c2b0:decide ((a0_0.size:Int)<1)=false:=decide_eq_false c2;have c2b1:decide (a0_0.size<1)=false:=decide_eq_false (by omega);clear c2
  by_cases c5:(a0_0.size:Int) > 64
  ·
   rw [if_pos c5] at H;have c5b0:decide (64<(a0_0.size:Int))=true:=decide_eq_true c5;have c5b1:decide (64<a0_0.size)=true:=decide_eq_true (by omega);clear c5
   obtain rfl:=Option.some.inj H
   go_enter Tryz.func10,Tryz.ntmps10
   go_wp2_with (first | ((with_reducible refine bf (N:=1) rfl ?_);(try (refine eG (by rfl) ?_;dsimp only));refine aZ ?hg (N:=1) ?hd (cs:=#[.string a0_0,.string a0_1,.int .i64 a0_2,.string a0_3,.bool a0_4]) (t:=34) ?hr ?_;(case hd=>rfl);(case hg=>rfl);(case hr=>first | (go_simp;done) | (go_simp;rfl));intro gb519 hg w6 hbox hb;have BK519:=aS (hbox);have GW519:=bsize hg;have GE519:=bsize hg;replace HB:=aM hb;clear hb hbox hg;have hcz7:=cU BK519))
   go_ret
   exact ⟨dR,aq⟩
  ·
   rw [if_neg c5] at H;have c5b0:decide (64<(a0_0.size:Int))=false:=decide_eq_false c5;have c5b1:decide (64<a0_0.size)=false:=decide_eq_false (by omega);clear c5
   by_cases c8:(a0_1.size:Int)<1
   ·
    rw [if_pos c8] at H;have c8b0:decide ((a0_1.size:Int)<1)=true:=decide_eq_true c8;have c8b1:decide (a0_1.size<1)=true:=decide_eq_true (by omega);clear c8
    obtain rfl:=Option.some.inj H
    go_enter Tryz.func10,Tryz.ntmps10
    go_wp2_with (first | ((with_reducible refine bf (N:=1) rfl ?_);(try (refine eG (by rfl) ?_;dsimp only));refine aZ ?hg (N:=1) ?hd (cs:=#[.string a0_0,.string a0_1,.int .i64 a0_2,.string a0_3,.bool a0_4]) (t:=34) ?hr ?_;(case hd=>rfl);(case hg=>rfl);(case hr=>first | (go_simp;done) | (go_simp;rfl));intro gb519 hg w9 hbox hb;have BK519:=aS (hbox);have GW519:=bsize hg;have GE519:=bsize hg;replace HB:=aM hb;clear hb hbox hg;have hcz10:=cU BK519))
    go_ret
    exact ⟨dR,aq⟩
   ·
    rw [if_neg c8] at H;have c8b0:decide ((a0_1.size:Int)<1)=false:=decide_eq_false c8;have c8b1:decide (a0_1.size<1)=false:=decide_eq_false (by omega);clear c8
    by_cases c11:(a0_1.size:Int) > 64
    ·
     rw [if_pos c11] at H;have c11b0:decide (64<(a0_1.size:Int))=true:=decide_eq_true c11;have c11b1:decide (64<a0_1.size)=true:=decide_eq_true (by omega);clear c11
     obtain rfl:=Option.some.inj H
     go_enter Tryz.func10,Tryz.ntmps10
     go_wp2_with (first | ((with_reducible refine bf (N:=1) rfl ?_);(try (refine eG (by rfl) ?_;dsimp only));refine aZ ?hg (N:=1) ?hd (cs:=#[.string a0_0,.string a0_1,.int .i64 a0_2,.string a0_3,.bool a0_4]) (t:=34) ?hr ?_;(case hd=>rfl);(case hg=>rfl);(case hr=>first | (go_simp;done) | (go_simp;rfl));intro gb519 hg w12 hbox hb;have BK519:=aS (hbox);have GW519:=bsize hg;have GE519:=bsize hg;replace HB:=aM hb;clear hb hbox hg;have hcz13:=cU BK519))
     go_ret
     exact ⟨dR,aq⟩
    ·
     rw [if_neg c11] at H;have c11b0:decide (64<(a0_1.size:Int))=false:=decide_eq_false c11;have c11b1:decide (64<a0_1.size)=false:=decide_eq_false (by omega);clear c11
     by_cases c14:a0_2<0
     ·
      rw [if_pos c14] at H;have c14b0:decide (a0_2<0)=true:=decide_eq_true c14;clear c14
      obtain rfl:=Option.some.inj H
      go_enter Tryz.func10,Tryz.ntmps10
      go_wp2_with (first | ((with_reducible refine bf (N:=1) rfl ?_);(try (refine eG (by rfl) ?_;dsimp only));refine aZ ?hg (N:=1) ?hd (cs:=#[.string a0_0,.string a0_1,.int .i64 a0_2,.string a0_3,.bool a0_4]) (t:=34) ?hr ?_;(case hd=>rfl);(case hg=>rfl);(case hr=>first | (go_simp;done) | (go_simp;rfl));intro gb519 hg w15 hbox hb;have BK519:=aS (hbox);have GW519:=bsize hg;have GE519:=bsize hg;replace HB:=aM hb;clear hb hbox hg;have hcz16:=cU BK519))
      go_ret
      exact ⟨dR,aq⟩
     ·
      rw [if_neg c14] at H;have c14b0:decide (a0_2<0)=false:=decide_eq_false c14;clear c14
      by_cases c17:a0_2 > 4294967295
      ·
       rw [if_pos c17] at H;have c17b0:decide (4294967295<a0_2)=true:=decide_eq_true c17;clear c17
       obtain rfl:=Option.some.inj H
       go_enter Tryz.func10,Tryz.ntmps10
       go_wp2_with (first | ((with_reducible refine bf (N:=1) rfl ?_);(try (refine eG (by rfl) ?_;dsimp only));refine aZ ?hg (N:=1) ?hd (cs:=#[.string a0_0,.string a0_1,.int .i64 a0_2,.string a0_3,.bool a0_4]) (t:=34) ?hr ?_;(case hd=>rfl);(case hg=>rfl);(case hr=>first | (go_simp;done) | (go_simp;rfl));intro gb519 hg w18 hbox hb;have BK519:=aS (hbox);have GW519:=bsize hg;have GE519:=bsize hg;replace HB:=aM hb;clear hb hbox hg;have hcz19:=cU BK519))
       go_ret
       exact ⟨dR,aq⟩
      ·
       rw [if_neg c17] at H;have c17b0:decide (4294967295<a0_2)=false:=decide_eq_false c17;clear c17
       by_cases c20:(a0_3.size:Int)≤256
       ·
        rw [if_pos c20] at H;have c20b0:decide ((a0_3.size:Int)≤256)=true:=decide_eq_true c20;have c20b1:decide (a0_3.size≤256)=true:=decide_eq_true (by omega);clear c20
        by_cases c21:a0_4=true
        ·
         subst c21
         replace H:=jF H
         obtain rfl:=Option.some.inj H
         go_enter Tryz.func10,Tryz.ntmps10
         go_wp2_with (first | ((with_reducible refine bf (N:=1) rfl ?_);(try (refine eG (by rfl) ?_;dsimp only));refine aZ ?hg (N:=1) ?hd (cs:=#[.string a0_0,.string a0_1,.int .i64 a0_2,.string a0_3,.bool true]) (t:=34) ?hr ?_;(case hd=>rfl);(case hg=>rfl);(case hr=>first | (go_simp;done) | (go_simp;rfl));intro gb519 hg w22 hbox hb;have BK519:=aS (hbox);have GW519:=bsize hg;have GE519:=bsize hg;replace HB:=aM hb;clear hb hbox hg;have hcz23:=cU BK519))
         go_ret
         exact ⟨dR,aq⟩
        ·
         replace c21:=Bool.eq_false_iff.mpr c21;subst c21
         replace H:=jD H
         obtain rfl:=Option.some.inj H
         go_enter Tryz.func10,Tryz.ntmps10
         go_wp2_with (first | ((with_reducible refine bf (N:=1) rfl ?_);(try (refine eG (by rfl) ?_;dsimp only));refine aZ ?hg (N:=1) ?hd (cs:=#[.string a0_0,.string a0_1,.int .i64 a0_2,.string a0_3,.bool false]) (t:=34) ?hr ?_;(case hd=>rfl);(case hg=>rfl);(case hr=>first | (go_simp;done) | (go_simp;rfl));intro gb519 hg w24 hbox hb;have BK519:=aS (hbox);have GW519:=bsize hg;have GE519:=bsize hg;replace HB:=aM hb;clear hb hbox hg;have hcz25:=cU BK519))
         go_ret
         exact ⟨dR,aq⟩
       ·
        rw [if_neg c20] at H;have c20b0:decide ((a0_3.size:Int)≤256)=false:=decide_eq_false c20;have c20b1:decide (a0_3.size≤256)=false:=decide_eq_false (by omega);clear c20
        obtain rfl:=Option.some.inj H
        go_enter Tryz.func10,Tryz.ntmps10
        go_wp2_with (first | ((with_reducible refine bf (N:=1) rfl ?_);(try (refine eG (by rfl) ?_;dsimp only));refine aZ ?hg (N:=1) ?hd (cs:=#[.string a0_0,.string a0_1,.int .i64 a0_2,.string a0_3,.bool a0_4]) (t:=34) ?hr ?_;(case hd=>rfl);(case hg=>rfl);(case hr=>first | (go_simp;done) | (go_simp;rfl));intro gb519 hg w26 hbox hb;have BK519:=aS (hbox);have GW519:=bsize hg;have GE519:=bsize hg;replace HB:=aM hb;clear hb hbox hg;have hcz27:=cU BK519))
        go_ret
        exact ⟨dR,aq⟩
def bQ.l0:Nat→List (au)→Int→Option (Bool)
 | 0,_,_=>none
 | k+1,x0,x3=>if x3<(x0.length:Int) then (if 0≤x3 then ((f_.f ((af x0 x3).f0) ((af x0 x3).f1) ((af x0 x3).f2) ((af x0 x3).f3) ((af x0 x3).f4)).bind fun t521=>(if t521=true then (bQ.l0 k x0 (wrap64 (x3+1))) else (some false))) else (none)) else (some true)
def bQ.f (k:Nat) (l0:List (au)):Option (Bool):=if (l0.length:Int) > 80 then (some false) else (bQ.l0 k l0 0)
theorem bQ.cK:∀ k,(∀ y0 y1,aG (bQ.l0 k y0 y1) (bQ.l0 (k+1) y0 y1))
 | 0=>fun _ _ r h=>by simp [bQ.l0] at h
 | k+1=>by
  have ih0:=bQ.cK k
  ·
   intro y0 y1
   unfold bQ.l0
   exact eN
theorem bQ.mono:∀ a0 k,aG (bQ.f k a0) (bQ.f (k+1) a0):=by
 intro a0 k
 have ih0:=bQ.cK k
 unfold bQ.f
 exact eN
theorem bQ.calls (k:Nat) (A0:Option Addr) (c0:Nat) (l0:List (au)) (r:Bool) (w:World) (hr0:Kd.C bP w A0 l0.length l0) (hc0:l0.length≤c0) (h:bQ.f k l0=some r) :
  Calls Tryz.prog 20 #[.slice A0 l0.length c0] w fun e w'=>e = .returned (.bool r)∧Below w.heap.size w w':=by
 have hu34:=Tryz.underlying34;have HR0:=aS hr0;have HC0:=aS hc0;clear hr0 hc0;have HB:=aS (Below.refl w.heap.size w);have H:(if (l0.length:Int) > 80 then (some false) else (bQ.l0 k l0 0))=some r:=h;clear h
 by_cases c2:(l0.length:Int) > 80
 ·
  rw [if_pos c2] at H;have c2b0:decide (80<(l0.length:Int))=true:=decide_eq_true c2;have c2b1:decide (80<l0.length)=true:=decide_eq_true (by omega);clear c2
  obtain rfl:=Option.some.inj H
  go_enter Tryz.func20,Tryz.ntmps20
  go_wp2
  go_ret
  exact ⟨dR,aq⟩
 ·
  rw [if_neg c2] at H;have c2b0:decide (80<(l0.length:Int))=false:=decide_eq_false c2;have c2b1:decide (80<l0.length)=false:=decide_eq_false (by omega);clear c2
  have H':=aS H
  clear H
  go_enter Tryz.func20,Tryz.ntmps20
  go_wp2
  go_loopg [3] k (fun kq v3 w'=>∃ (x3_1:Int),v3 = .int .i64 x3_1∧ah (bQ.l0 kq l0 x3_1=some r)∧ah (kq≤k)∧ah (Below w.heap.size w w'))
  case atStart=>exact ⟨(0),dJ,H',⟨Nat.le_refl _⟩,⟨aq⟩⟩
  case round=>
   clear H';(try clear c2);(try clear c2b0);(try clear c2b1);obtain ⟨x3_1,rfl,HA,HK1,HB⟩:=hrel
   cases gk with
   | zero=>exact absurd HA.out (by simp [bQ.l0])
   | succ k1=>
    have H:=HA.out;clear HA
    simp only [bQ.l0] at H
    by_cases c3:x3_1<(l0.length:Int)
    ·
     rw [if_pos c3] at H;have c3b0:decide (x3_1<(l0.length:Int))=true:=decide_eq_true c3;clear c3
     by_cases c4:0≤x3_1
     ·
      rw [if_pos c4] at H;have c4b0:decide (0≤x3_1)=true:=decide_eq_true c4;clear c4;replace H:=cD H;obtain ⟨t521,A50,H⟩:=H;have A5:=aS A50;clear A50
      by_cases c6:t521=true
      ·
       subst c6
       replace H:=jF H
       have H':=aS H
       clear H;have p520:0≤(x3_1:Int):=cr;have q520:x3_1<(l0.length:Int):=cr;obtain ⟨ad520,e520,hx520_0,hx520_1,hx520_2,hx520_3,hx520_4⟩:=eO HR0.out x3_1 p520 q520;cases e520;replace hx520_0:=bx aq hx520_0;replace hx520_1:=bx aq hx520_1;replace hx520_2:=bx aq hx520_2;replace hx520_3:=bx aq hx520_3;replace hx520_4:=bx aq hx520_4;replace p520:=eq_true p520;replace q520:=eq_true q520
       go_wp2_with (first | ((with_reducible refine aC (f:=10) rfl ?_);refine bE (some 17) rfl rfl Tryz.func10 (by kernel_rfl) rfl #[.agg #[.string ((af l0 x3_1).f0),.string ((af l0 x3_1).f1),.int .i64 ((af l0 x3_1).f2),.string ((af l0 x3_1).f3),.bool ((af l0 x3_1).f4)]] rfl cH ?_;(with_reducible refine (f_.calls ((af l0 x3_1).f0) ((af l0 x3_1).f1) ((af l0 x3_1).f2) ((af l0 x3_1).f3) ((af l0 x3_1).f4) true _ A5.out).mono ?_);rintro e w7 ⟨rfl,hb⟩;refine ⟨_,rfl,?_⟩;replace HB:=aM hb;(try clear hb);(try clear hk);(try clear hi)))
       go_roundg k1
       case measure=>have:=HK1.out;omega
       case rel=>exact ⟨(wrap64 (x3_1+1)),dJ,H',⟨by have:=HK1.out;omega⟩,⟨aq⟩⟩
      ·
       replace c6:=Bool.eq_false_iff.mpr c6;subst c6
       replace H:=jD H
       obtain rfl:=Option.some.inj H
       have p520:0≤(x3_1:Int):=cr;have q520:x3_1<(l0.length:Int):=cr;obtain ⟨ad520,e520,hx520_0,hx520_1,hx520_2,hx520_3,hx520_4⟩:=eO HR0.out x3_1 p520 q520;cases e520;replace hx520_0:=bx aq hx520_0;replace hx520_1:=bx aq hx520_1;replace hx520_2:=bx aq hx520_2;replace hx520_3:=bx aq hx520_3;replace hx520_4:=bx aq hx520_4;replace p520:=eq_true p520;replace q520:=eq_true q520
       go_wp2_with (first | ((with_reducible refine aC (f:=10) rfl ?_);refine bE (some 17) rfl rfl Tryz.func10 (by kernel_rfl) rfl #[.agg #[.string ((af l0 x3_1).f0),.string ((af l0 x3_1).f1),.int .i64 ((af l0 x3_1).f2),.string ((af l0 x3_1).f3),.bool ((af l0 x3_1).f4)]] rfl cH ?_;(with_reducible refine (f_.calls ((af l0 x3_1).f0) ((af l0 x3_1).f1) ((af l0 x3_1).f2) ((af l0 x3_1).f3) ((af l0 x3_1).f4) false _ A5.out).mono ?_);rintro e w8 ⟨rfl,hb⟩;refine ⟨_,rfl,?_⟩;replace HB:=aM hb;(try clear hb);(try clear hk);(try clear hi)))
       go_ret
       exact ⟨dR,aq⟩
     ·
      rw [if_neg c4] at H;exact absurd H (by simp)
    ·
     rw [if_neg c3] at H;have c3b0:decide (x3_1<(l0.length:Int))=false:=decide_eq_false c3;clear c3
     obtain rfl:=Option.some.inj H
     go_wp2
     go_ret
     exact ⟨dR,aq⟩
mutual
def aH.l0:Nat→ByteArray→ByteArray→Int→Option (Int)
 | 0,_,_,_=>none
 | k+1,x0,x1,x5=>if x5<(x0.size:Int) then (aH.j1 k x0 x1 x5 (decide (x5<(x1.size:Int)))) else (aH.j1 k x0 x1 x5 false)
def aH.j1:Nat→ByteArray→ByteArray→Int→Bool→Option (Int)
 | 0,_,_,_,_=>none
 | k+1,x0,x1,x5,x15=>if x15=true then (if 0≤x5 then (if x5<(x0.size:Int) then (if x5<(x1.size:Int) then (if (bt x0 x5)<(bt x1 x5) then (some (-1)) else (if (bt x0 x5) > (bt x1 x5) then (some 1) else (aH.l0 k x0 x1 (wrap64 (x5+1))))) else (none)) else (none)) else (none)) else (if (x0.size:Int)<(x1.size:Int) then (some (-1)) else (if (x0.size:Int) > (x1.size:Int) then (some 1) else (some 0)))
end
def aH.f (k:Nat) (a0:ByteArray) (a1:ByteArray):Option (Int):=aH.l0 k a0 a1 0
theorem aH.cK:∀ k,(∀ y0 y1 y2,aG (aH.l0 k y0 y1 y2) (aH.l0 (k+1) y0 y1 y2))∧(∀ y0 y1 y2 y3,aG (aH.j1 k y0 y1 y2 y3) (aH.j1 (k+1) y0 y1 y2 y3))
 | 0=>⟨fun _ _ _ r h=>by simp [aH.l0] at h,fun _ _ _ _ r h=>by simp [aH.j1] at h⟩
 | k+1=>by
  obtain ⟨ih0,ih1⟩:=aH.cK k;refine ⟨?_,?_⟩
  ·
   intro y0 y1 y2
   unfold aH.l0
   exact eN
  ·
   intro y0 y1 y2 y3
   unfold aH.j1
   exact eN
theorem aH.mono:∀ a0 a1 k,aG (aH.f k a0 a1) (aH.f (k+1) a0 a1):=by
 intro a0 a1 k
 obtain ⟨ih0,ih1⟩:=aH.cK k
 unfold aH.f
 exact eN
theorem aH.calls (k:Nat) (a0:ByteArray) (a1:ByteArray) (r:Int) (w:World) (h:aH.f k a0 a1=some r) :
  Calls Tryz.prog 39 #[.string a0,.string a1] w fun e w'=>e = .returned (.int .i64 r)∧bw w w':=by
 have H:(aH.l0 k a0 a1 0)=some r:=h;clear h
 have H':=aS H
 clear H
 go_enter Tryz.func39,Tryz.ntmps39
 go_wp2
 repeat (go_quiet (fail);try go_wp2)
 go_loopg [5] k (fun kq v5 w'=>∃ (x5_1:Int),v5 = .int .i64 x5_1∧ah (aH.l0 kq a0 a1 x5_1=some r)∧ah (kq≤k)∧bw w w')
 case atStart=>exact ⟨(0),dJ,H',⟨Nat.le_refl _⟩,by repeat (first | exact bw.refl _ | apply bw.step)⟩
 case round=>
  clear H';obtain ⟨x5_1,rfl,HA,HK1,⟨m1,rfl⟩⟩:=hrel
  cases gk with
  | zero=>exact absurd HA.out (by simp [aH.l0])
  | succ k1=>
   have H:=HA.out;clear HA
   simp only [aH.l0] at H
   have HC3:=aS H;clear H
   go_upto_region 2 with (fail)
   repeat (go_quiet (fail);go_upto_region 2 with (fail))
   go_cut [15] (fun v15 wc=>∃ (kq:Nat) (x15_2:Bool),v15 = .bool x15_2∧ah (aH.j1 kq a0 a1 x5_1 x15_2=some r)∧ah (kq≤k1)∧bw w wc)
   case first=>
    have H:=HC3.out;clear HC3
    by_cases c4:x5_1<(a0.size:Int)
    ·
     rw [if_pos c4] at H;have c4b0:decide (x5_1<(a0.size:Int))=true:=decide_eq_true c4;clear c4
     (first | rw [c4b0] | (simp only [bB,bX];rw [c4b0]) | skip)
     have H':=aS H
     clear H
     go_wp2
     repeat (go_quiet (fail);try go_wp2)
     go_meet
     case rel=>exact ⟨_,(decide (x5_1<(a1.size:Int))),dJ,H',⟨by have:=HK1.out;first | omega | exact Nat.le_refl _⟩,by repeat (first | exact bw.refl _ | apply bw.step)⟩
    ·
     rw [if_neg c4] at H;have c4b0:decide (x5_1<(a0.size:Int))=false:=decide_eq_false c4;clear c4
     (first | rw [c4b0] | (simp only [bB,bX];rw [c4b0]) | skip)
     have H':=aS H
     clear H
     go_wp2
     repeat (go_quiet (fail);try go_wp2)
     go_meet
     case rel=>exact ⟨_,(false),dJ,H',⟨by have:=HK1.out;first | omega | exact Nat.le_refl _⟩,by repeat (first | exact bw.refl _ | apply bw.step)⟩
   case rest=>
    clear HC3;obtain ⟨kq,x15_2,rfl,HA,HJ2,⟨mc2,rfl⟩⟩:=hcut
    cases kq with
    | zero=>exact absurd HA.out (by simp [aH.j1])
    | succ kj2=>
     have H:=HA.out;clear HA
     simp only [aH.j1] at H
     by_cases c5:x15_2=true
     ·
      subst c5
      replace H:=jF H
      by_cases c6:0≤x5_1
      ·
       rw [if_pos c6] at H;have c6b0:decide (0≤x5_1)=true:=decide_eq_true c6;clear c6
       by_cases c7:x5_1<(a0.size:Int)
       ·
        rw [if_pos c7] at H;have c7b0:decide (x5_1<(a0.size:Int))=true:=decide_eq_true c7;clear c7
        by_cases c9:x5_1<(a1.size:Int)
        ·
         rw [if_pos c9] at H;have c9b0:decide (x5_1<(a1.size:Int))=true:=decide_eq_true c9;clear c9
         by_cases c11:(bt a0 x5_1)<(bt a1 x5_1)
         ·
          rw [if_pos c11] at H;have c11b0:decide ((bt a0 x5_1)<(bt a1 x5_1))=true:=decide_eq_true c11;clear c11
          obtain rfl:=Option.some.inj H
          have p8:0≤(x5_1:Int):=cr;have q8:x5_1<(a0.size:Int):=cr;have hx8:=lK a0 x5_1;replace p8:=eq_true p8;replace q8:=eq_true q8;have p10:0≤(x5_1:Int):=cr;have q10:x5_1<(a1.size:Int):=cr;have hx10:=lK a1 x5_1;replace p10:=eq_true p10;replace q10:=eq_true q10
          go_wp2
          repeat (go_quiet (fail);try go_wp2)
          go_ret
          exact ⟨by first | rfl | (simp;done) | (simp [*];done) | (simp;exact (by decide:∀ a_ b_:Bool,(a_ == b_)=(!a_ != b_)) _ _),by repeat (first | exact bw.refl _ | apply bw.step)⟩
         ·
          rw [if_neg c11] at H;have c11b0:decide ((bt a0 x5_1)<(bt a1 x5_1))=false:=decide_eq_false c11;clear c11
          by_cases c14:(bt a0 x5_1) > (bt a1 x5_1)
          ·
           rw [if_pos c14] at H;have c14b0:decide ((bt a1 x5_1)<(bt a0 x5_1))=true:=decide_eq_true c14;clear c14
           obtain rfl:=Option.some.inj H
           have p8:0≤(x5_1:Int):=cr;have q8:x5_1<(a0.size:Int):=cr;have hx8:=lK a0 x5_1;replace p8:=eq_true p8;replace q8:=eq_true q8;have p10:0≤(x5_1:Int):=cr;have q10:x5_1<(a1.size:Int):=cr;have hx10:=lK a1 x5_1;replace p10:=eq_true p10;replace q10:=eq_true q10;have p12:0≤(x5_1:Int):=cr;have q12:x5_1<(a0.size:Int):=cr;have hx12:=lK a0 x5_1;replace p12:=eq_true p12;replace q12:=eq_true q12;have p13:0≤(x5_1:Int):=cr;have q13:x5_1<(a1.size:Int):=cr;have hx13:=lK a1 x5_1;replace p13:=eq_true p13;replace q13:=eq_true q13
           go_wp2
           repeat (go_quiet (fail);try go_wp2)
           go_ret
           exact ⟨by first | rfl | (simp;done) | (simp [*];done) | (simp;exact (by decide:∀ a_ b_:Bool,(a_ == b_)=(!a_ != b_)) _ _),by repeat (first | exact bw.refl _ | apply bw.step)⟩
          ·
           rw [if_neg c14] at H;have c14b0:decide ((bt a1 x5_1)<(bt a0 x5_1))=false:=decide_eq_false c14;clear c14
           have H':=aS H
           clear H;have p8:0≤(x5_1:Int):=cr;have q8:x5_1<(a0.size:Int):=cr;have hx8:=lK a0 x5_1;replace p8:=eq_true p8;replace q8:=eq_true q8;have p10:0≤(x5_1:Int):=cr;have q10:x5_1<(a1.size:Int):=cr;have hx10:=lK a1 x5_1;replace p10:=eq_true p10;replace q10:=eq_true q10;have p12:0≤(x5_1:Int):=cr;have q12:x5_1<(a0.size:Int):=cr;have hx12:=lK a0 x5_1;replace p12:=eq_true p12;replace q12:=eq_true q12;have p13:0≤(x5_1:Int):=cr;have q13:x5_1<(a1.size:Int):=cr;have hx13:=lK a1 x5_1;replace p13:=eq_true p13;replace q13:=eq_true q13
           go_wp2
           repeat (go_quiet (fail);try go_wp2)
           go_roundg kj2
           case measure=>have:=HK1.out;have:=HJ2.out;omega
           case rel=>exact ⟨(wrap64 (x5_1+1)),dJ,H',⟨by have:=HK1.out;have:=HJ2.out;omega⟩,by repeat (first | exact bw.refl _ | apply bw.step)⟩
        ·
         rw [if_neg c9] at H;exact absurd H (by simp)
       ·
        rw [if_neg c7] at H;exact absurd H (by simp)
      ·
       rw [if_neg c6] at H;exact absurd H (by simp)
     ·
      replace c5:=Bool.eq_false_iff.mpr c5;subst c5
      replace H:=jD H
      by_cases c15:(a0.size:Int)<(a1.size:Int)
      ·
       rw [if_pos c15] at H;have c15b0:decide ((a0.size:Int)<(a1.size:Int))=true:=decide_eq_true c15;have c15b1:decide (a0.size<a1.size)=true:=decide_eq_true (Int.ofNat_lt.mp c15);clear c15
       obtain rfl:=Option.some.inj H
       go_wp2
       repeat (go_quiet (fail);try go_wp2)
       go_ret
       exact ⟨by first | rfl | (simp;done) | (simp [*];done) | (simp;exact (by decide:∀ a_ b_:Bool,(a_ == b_)=(!a_ != b_)) _ _),by repeat (first | exact bw.refl _ | apply bw.step)⟩
      ·
       rw [if_neg c15] at H;have c15b0:decide ((a0.size:Int)<(a1.size:Int))=false:=decide_eq_false c15;have c15b1:decide (a0.size<a1.size)=false:=decide_eq_false (fun h=>c15 (Int.ofNat_lt.mpr h));clear c15
       by_cases c16:(a0.size:Int) > (a1.size:Int)
       ·
        rw [if_pos c16] at H;have c16b0:decide ((a1.size:Int)<(a0.size:Int))=true:=decide_eq_true c16;have c16b1:decide (a1.size<a0.size)=true:=decide_eq_true (Int.ofNat_lt.mp c16);clear c16
        obtain rfl:=Option.some.inj H
        go_wp2
        repeat (go_quiet (fail);try go_wp2)
        go_ret
        exact ⟨by first | rfl | (simp;done) | (simp [*];done) | (simp;exact (by decide:∀ a_ b_:Bool,(a_ == b_)=(!a_ != b_)) _ _),by repeat (first | exact bw.refl _ | apply bw.step)⟩
       ·
        rw [if_neg c16] at H;have c16b0:decide ((a1.size:Int)<(a0.size:Int))=false:=decide_eq_false c16;have c16b1:decide (a1.size<a0.size)=false:=decide_eq_false (fun h=>c16 (Int.ofNat_lt.mpr h));clear c16
        obtain rfl:=Option.some.inj H
        go_wp2
        repeat (go_quiet (fail);try go_wp2)
        go_ret
        exact ⟨by first | rfl | (simp;done) | (simp [*];done) | (simp;exact (by decide:∀ a_ b_:Bool,(a_ == b_)=(!a_ != b_)) _ _),by repeat (first | exact bw.refl _ | apply bw.step)⟩
def cT.f (k:Nat) (a0_0:ByteArray) (a0_1:ByteArray) (a0_2:Int) (a0_3:ByteArray) (a0_4:Bool) (a1_0:ByteArray) (a1_1:ByteArray) (a1_2:Int) (a1_3:ByteArray) (a1_4:Bool):Option (Int):=if a0_0.toList=a1_0.toList then (if a0_1.toList=a1_1.toList then (if a0_2 > a1_2 then (some (-1)) else (if a0_2<a1_2 then (some 1) else (some 0))) else ((aH.f k a0_1 a1_1).bind fun t525=>(some t525))) else ((aH.f k a0_0 a1_0).bind fun t524=>(some t524))
theorem cT.mono:∀ a0 a1 a2 a3 a4 a5 a6 a7 a8 a9 k,aG (cT.f k a0 a1 a2 a3 a4 a5 a6 a7 a8 a9) (cT.f (k+1) a0 a1 a2 a3 a4 a5 a6 a7 a8 a9):=by
 intro a0 a1 a2 a3 a4 a5 a6 a7 a8 a9 k
 unfold cT.f
 have m0:=@aH.mono;exact eN
theorem cT.calls (k:Nat) (a0_0:ByteArray) (a0_1:ByteArray) (a0_2:Int) (a0_3:ByteArray) (a0_4:Bool) (a1_0:ByteArray) (a1_1:ByteArray) (a1_2:Int) (a1_3:ByteArray) (a1_4:Bool) (r:Int) (w:World) (h:cT.f k a0_0 a0_1 a0_2 a0_3 a0_4 a1_0 a1_1 a1_2 a1_3 a1_4=some r) :
  Calls Tryz.prog 26 #[.agg #[.string a0_0,.string a0_1,.int .i64 a0_2,.string a0_3,.bool a0_4],.agg #[.string a1_0,.string a1_1,.int .i64 a1_2,.string a1_3,.bool a1_4]] w fun e w'=>e = .returned (.int .i64 r)∧Below w.heap.size w w':=by
 have hu34:=Tryz.underlying34;have HB:=aS (Below.refl w.heap.size w);have H:(if a0_0.toList=a1_0.toList then (if a0_1.toList=a1_1.toList then (if a0_2 > a1_2 then (some (-1)) else (if a0_2<a1_2 then (some 1) else (some 0))) else ((aH.f k a0_1 a1_1).bind fun t525=>(some t525))) else ((aH.f k a0_0 a1_0).bind fun t524=>(some t524)))=some r:=h;clear h
 by_cases c3:a0_0.toList=a1_0.toList
 ·
  rw [if_pos c3] at H;obtain ⟨c3b0,c3b1⟩:=jG c3;clear c3
  by_cases c4:a0_1.toList=a1_1.toList
  ·
   rw [if_pos c4] at H;obtain ⟨c4b0,c4b1⟩:=jG c4;clear c4
   by_cases c5:a0_2 > a1_2
   ·
    rw [if_pos c5] at H;have c5b0:decide (a1_2<a0_2)=true:=decide_eq_true c5;clear c5
    obtain rfl:=Option.some.inj H
    go_enter Tryz.func26,Tryz.ntmps26
    go_wp2_with (first | ((with_reducible refine bf (N:=2) rfl ?_);refine aZ ?hg (N:=2) ?hd (cs:=#[.string a0_0,.string a0_1,.int .i64 a0_2,.string a0_3,.bool a0_4]) (t:=34) ?hr ?_;(case hd=>rfl);(case hg=>rfl);(case hr=>first | (go_simp;done) | (go_simp;rfl));intro gb522 hg w6 hbox hb;have BK522:=aS (hbox);have GW522:=bsize hg;have GE522:=bsize hg;replace HB:=aM hb;clear hb hbox hg) | ((with_reducible refine bf (N:=3) rfl ?_);refine aZ ?hg (N:=3) ?hd (cs:=#[.string a1_0,.string a1_1,.int .i64 a1_2,.string a1_3,.bool a1_4]) (t:=34) ?hr ?_;(case hd=>rfl);(case hg=>rfl);(case hr=>first | (go_simp;done) | (go_simp;rfl));intro gb523 hg w7 hbox hb;have BK523:=aS (hbox);have GW523:=bsize hg;have GE523:=bsize hg;replace HB:=aM hb;have NB522_523:=aS ((by rw [hg];exact Nat.ne_of_lt (di (g:=gb522) (o:=.cells #[.string a0_0,.string a0_1,.int .i64 a0_2,.string a0_3,.bool a0_4] 34 (0,0)) (dS BK522.out)):gb522≠gb523));have NB523_522:=aS ((by rw [hg];exact Nat.ne_of_gt (di (g:=gb522) (o:=.cells #[.string a0_0,.string a0_1,.int .i64 a0_2,.string a0_3,.bool a0_4] 34 (0,0)) (dS BK522.out)):gb523≠gb522));replace BK522:=fo BK522 hb;clear hb hbox hg;have hnb8:=NB522_523.out;have hnc8:=NB523_522.out;have hcz9:=cU BK522;have hcz10:=cU BK523))
    go_ret
    exact ⟨dR,aq⟩
   ·
    rw [if_neg c5] at H;have c5b0:decide (a1_2<a0_2)=false:=decide_eq_false c5;clear c5
    by_cases c11:a0_2<a1_2
    ·
     rw [if_pos c11] at H;have c11b0:decide (a0_2<a1_2)=true:=decide_eq_true c11;clear c11
     obtain rfl:=Option.some.inj H
     go_enter Tryz.func26,Tryz.ntmps26
     go_wp2_with (first | ((with_reducible refine bf (N:=2) rfl ?_);refine aZ ?hg (N:=2) ?hd (cs:=#[.string a0_0,.string a0_1,.int .i64 a0_2,.string a0_3,.bool a0_4]) (t:=34) ?hr ?_;(case hd=>rfl);(case hg=>rfl);(case hr=>first | (go_simp;done) | (go_simp;rfl));intro gb522 hg w12 hbox hb;have BK522:=aS (hbox);have GW522:=bsize hg;have GE522:=bsize hg;replace HB:=aM hb;clear hb hbox hg) | ((with_reducible refine bf (N:=3) rfl ?_);refine aZ ?hg (N:=3) ?hd (cs:=#[.string a1_0,.string a1_1,.int .i64 a1_2,.string a1_3,.bool a1_4]) (t:=34) ?hr ?_;(case hd=>rfl);(case hg=>rfl);(case hr=>first | (go_simp;done) | (go_simp;rfl));intro gb523 hg w13 hbox hb;have BK523:=aS (hbox);have GW523:=bsize hg;have GE523:=bsize hg;replace HB:=aM hb;have NB522_523:=aS ((by rw [hg];exact Nat.ne_of_lt (di (g:=gb522) (o:=.cells #[.string a0_0,.string a0_1,.int .i64 a0_2,.string a0_3,.bool a0_4] 34 (0,0)) (dS BK522.out)):gb522≠gb523));have NB523_522:=aS ((by rw [hg];exact Nat.ne_of_gt (di (g:=gb522) (o:=.cells #[.string a0_0,.string a0_1,.int .i64 a0_2,.string a0_3,.bool a0_4] 34 (0,0)) (dS BK522.out)):gb523≠gb522));replace BK522:=fo BK522 hb;clear hb hbox hg;have hnb14:=NB522_523.out;have hnc14:=NB523_522.out;have hcz15:=cU BK522;have hcz16:=cU BK523))
     go_ret
     exact ⟨dR,aq⟩
    ·
     rw [if_neg c11] at H;have c11b0:decide (a0_2<a1_2)=false:=decide_eq_false c11;clear c11
     obtain rfl:=Option.some.inj H
     go_enter Tryz.func26,Tryz.ntmps26
     go_wp2_with (first | ((with_reducible refine bf (N:=2) rfl ?_);refine aZ ?hg (N:=2) ?hd (cs:=#[.string a0_0,.string a0_1,.int .i64 a0_2,.string a0_3,.bool a0_4]) (t:=34) ?hr ?_;(case hd=>rfl);(case hg=>rfl);(case hr=>first | (go_simp;done) | (go_simp;rfl));intro gb522 hg w17 hbox hb;have BK522:=aS (hbox);have GW522:=bsize hg;have GE522:=bsize hg;replace HB:=aM hb;clear hb hbox hg) | ((with_reducible refine bf (N:=3) rfl ?_);refine aZ ?hg (N:=3) ?hd (cs:=#[.string a1_0,.string a1_1,.int .i64 a1_2,.string a1_3,.bool a1_4]) (t:=34) ?hr ?_;(case hd=>rfl);(case hg=>rfl);(case hr=>first | (go_simp;done) | (go_simp;rfl));intro gb523 hg w18 hbox hb;have BK523:=aS (hbox);have GW523:=bsize hg;have GE523:=bsize hg;replace HB:=aM hb;have NB522_523:=aS ((by rw [hg];exact Nat.ne_of_lt (di (g:=gb522) (o:=.cells #[.string a0_0,.string a0_1,.int .i64 a0_2,.string a0_3,.bool a0_4] 34 (0,0)) (dS BK522.out)):gb522≠gb523));have NB523_522:=aS ((by rw [hg];exact Nat.ne_of_gt (di (g:=gb522) (o:=.cells #[.string a0_0,.string a0_1,.int .i64 a0_2,.string a0_3,.bool a0_4] 34 (0,0)) (dS BK522.out)):gb523≠gb522));replace BK522:=fo BK522 hb;clear hb hbox hg;have hnb19:=NB522_523.out;have hnc19:=NB523_522.out;have hcz20:=cU BK522;have hcz21:=cU BK523))
     go_ret
     exact ⟨dR,aq⟩
  ·
   rw [if_neg c4] at H;obtain ⟨c4b0,c4b1⟩:=jr c4;replace H:=cD H;obtain ⟨t525,A220,H⟩:=H;have A22:=aS A220;clear A220
   obtain rfl:=Option.some.inj H
   go_enter Tryz.func26,Tryz.ntmps26
   go_wp2_with (first | ((with_reducible refine bf (N:=2) rfl ?_);refine aZ ?hg (N:=2) ?hd (cs:=#[.string a0_0,.string a0_1,.int .i64 a0_2,.string a0_3,.bool a0_4]) (t:=34) ?hr ?_;(case hd=>rfl);(case hg=>rfl);(case hr=>first | (go_simp;done) | (go_simp;rfl));intro gb522 hg w23 hbox hb;have BK522:=aS (hbox);have GW522:=bsize hg;have GE522:=bsize hg;replace HB:=aM hb;clear hb hbox hg) | ((with_reducible refine bf (N:=3) rfl ?_);refine aZ ?hg (N:=3) ?hd (cs:=#[.string a1_0,.string a1_1,.int .i64 a1_2,.string a1_3,.bool a1_4]) (t:=34) ?hr ?_;(case hd=>rfl);(case hg=>rfl);(case hr=>first | (go_simp;done) | (go_simp;rfl));intro gb523 hg w24 hbox hb;have BK523:=aS (hbox);have GW523:=bsize hg;have GE523:=bsize hg;replace HB:=aM hb;have NB522_523:=aS ((by rw [hg];exact Nat.ne_of_lt (di (g:=gb522) (o:=.cells #[.string a0_0,.string a0_1,.int .i64 a0_2,.string a0_3,.bool a0_4] 34 (0,0)) (dS BK522.out)):gb522≠gb523));have NB523_522:=aS ((by rw [hg];exact Nat.ne_of_gt (di (g:=gb522) (o:=.cells #[.string a0_0,.string a0_1,.int .i64 a0_2,.string a0_3,.bool a0_4] 34 (0,0)) (dS BK522.out)):gb523≠gb522));replace BK522:=fo BK522 hb;clear hb hbox hg;have hnb25:=NB522_523.out;have hnc25:=NB523_522.out;have hcz26:=cU BK522;have hcz27:=cU BK523) | ((with_reducible refine aC (f:=39) rfl ?_);refine bE (some 24) rfl rfl Tryz.func39 (by kernel_rfl) rfl #[.string a0_1,.string a1_1] rfl cH ?_;(with_reducible refine (aH.calls k a0_1 a1_1 t525 _ A22.out).mono ?_);rintro e w' ⟨rfl,⟨nd,rfl⟩⟩;refine ⟨_,rfl,?_⟩))
   go_ret
   exact ⟨dR,aq⟩
 ·
  rw [if_neg c3] at H;obtain ⟨c3b0,c3b1⟩:=jr c3;replace H:=cD H;obtain ⟨t524,A280,H⟩:=H;have A28:=aS A280;clear A280
  obtain rfl:=Option.some.inj H
  go_enter Tryz.func26,Tryz.ntmps26
  go_wp2_with (first | ((with_reducible refine bf (N:=2) rfl ?_);refine aZ ?hg (N:=2) ?hd (cs:=#[.string a0_0,.string a0_1,.int .i64 a0_2,.string a0_3,.bool a0_4]) (t:=34) ?hr ?_;(case hd=>rfl);(case hg=>rfl);(case hr=>first | (go_simp;done) | (go_simp;rfl));intro gb522 hg w29 hbox hb;have BK522:=aS (hbox);have GW522:=bsize hg;have GE522:=bsize hg;replace HB:=aM hb;clear hb hbox hg) | ((with_reducible refine bf (N:=3) rfl ?_);refine aZ ?hg (N:=3) ?hd (cs:=#[.string a1_0,.string a1_1,.int .i64 a1_2,.string a1_3,.bool a1_4]) (t:=34) ?hr ?_;(case hd=>rfl);(case hg=>rfl);(case hr=>first | (go_simp;done) | (go_simp;rfl));intro gb523 hg w30 hbox hb;have BK523:=aS (hbox);have GW523:=bsize hg;have GE523:=bsize hg;replace HB:=aM hb;have NB522_523:=aS ((by rw [hg];exact Nat.ne_of_lt (di (g:=gb522) (o:=.cells #[.string a0_0,.string a0_1,.int .i64 a0_2,.string a0_3,.bool a0_4] 34 (0,0)) (dS BK522.out)):gb522≠gb523));have NB523_522:=aS ((by rw [hg];exact Nat.ne_of_gt (di (g:=gb522) (o:=.cells #[.string a0_0,.string a0_1,.int .i64 a0_2,.string a0_3,.bool a0_4] 34 (0,0)) (dS BK522.out)):gb523≠gb522));replace BK522:=fo BK522 hb;clear hb hbox hg;have hnb31:=NB522_523.out;have hnc31:=NB523_522.out;have hcz32:=cU BK522;have hcz33:=cU BK523) | ((with_reducible refine aC (f:=39) rfl ?_);refine bE (some 14) rfl rfl Tryz.func39 (by kernel_rfl) rfl #[.string a0_0,.string a1_0] rfl cH ?_;(with_reducible refine (aH.calls k a0_0 a1_0 t524 _ A28.out).mono ?_);rintro e w' ⟨rfl,⟨nd,rfl⟩⟩;refine ⟨_,rfl,?_⟩))
  go_ret
  exact ⟨dR,aq⟩
end Go.Proofs.YtcbhfedcdnjljaaGreat.X

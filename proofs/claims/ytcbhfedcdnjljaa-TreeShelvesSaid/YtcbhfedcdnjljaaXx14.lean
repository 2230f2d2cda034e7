import Derived.Test.YtcbhfedcdnjljaaXx1
import Derived.Test.YtcbhfedcdnjljaaXx13
set_option maxHeartbeats 8000000
set_option maxRecDepth 100000
set_option linter.unusedVariables false
set_option linter.unusedSimpArgs false
namespace Go.Proofs.Ytcbhfedcdnjljaa.X
open Go.RowKit Go.Proofs.YtcbhfedcdnjljaaW.PrintWords Go.Proofs.YtcbhfedcdnjljaaW.PrintLast Go.Proofs.YtcbhfedcdnjljaaW.PrintMore
attribute [local go_sem] max2_int min2_int max_two min_two max_three min_three max_four min_four gtr_str
attribute [local go_sem high] eqA26
def merge_same.f (a0_0:ByteArray) (a0_1:ByteArray) (a0_2:Int) (a0_3:ByteArray) (a0_4:Bool) (a1_0:ByteArray) (a1_1:ByteArray) (a1_2:Int) (a1_3:ByteArray) (a1_4:Bool):Option (Bool):=if a0_0.toList=a1_0.toList then (some (a0_1.toList == a1_1.toList)) else (some false)
theorem merge_same.calls (a0_0:ByteArray) (a0_1:ByteArray) (a0_2:Int) (a0_3:ByteArray) (a0_4:Bool) (a1_0:ByteArray) (a1_1:ByteArray) (a1_2:Int) (a1_3:ByteArray) (a1_4:Bool) (r:Bool) (w:World) (h:merge_same.f a0_0 a0_1 a0_2 a0_3 a0_4 a1_0 a1_1 a1_2 a1_3 a1_4=some r) :
  Calls Try.prog 48 #[.agg #[.string a0_0,.string a0_1,.int .i64 a0_2,.string a0_3,.bool a0_4],.agg #[.string a1_0,.string a1_1,.int .i64 a1_2,.string a1_3,.bool a1_4]] w fun e w'=>e = .returned (.bool r)∧Below w.heap.size w w':=by
 have hu26:=Try.underlying26;have HB:=aS (Below.refl w.heap.size w);have H:(if a0_0.toList=a1_0.toList then (some (a0_1.toList == a1_1.toList)) else (some false))=some r:=h;clear h
 by_cases c3:a0_0.toList=a1_0.toList
 ·
  rw [if_pos c3] at H;obtain ⟨c3b0,c3b1⟩:=eqT c3;clear c3
  obtain rfl:=Option.some.inj H
  go_enter Try.func48,Try.ntmps48
  go_wp2_with (first | ((with_reducible refine gate_dst (N:=2) rfl ?_);refine box_event ?hg (N:=2) ?hd (cs:=#[.string a0_0,.string a0_1,.int .i64 a0_2,.string a0_3,.bool a0_4]) (t:=26) ?hr ?_;(case hd=>rfl);(case hg=>rfl);(case hr=>first | (go_simp;done) | (go_simp;rfl));intro gb514 hg w4 hbox hb;have BK514:=aS (hbox);have GW514:=bsize hg;have GE514:=bsize hg;replace HB:=bstep hb;clear hb hbox hg) | ((with_reducible refine gate_dst (N:=3) rfl ?_);refine box_event ?hg (N:=3) ?hd (cs:=#[.string a1_0,.string a1_1,.int .i64 a1_2,.string a1_3,.bool a1_4]) (t:=26) ?hr ?_;(case hd=>rfl);(case hg=>rfl);(case hr=>first | (go_simp;done) | (go_simp;rfl));intro gb515 hg w5 hbox hb;have BK515:=aS (hbox);have GW515:=bsize hg;have GE515:=bsize hg;replace HB:=bstep hb;have NB514_515:=aS ((by rw [hg];exact Nat.ne_of_lt (blk_lt (g:=gb514) (o:=.cells #[.string a0_0,.string a0_1,.int .i64 a0_2,.string a0_3,.bool a0_4] 26 (0,0)) (bkl BK514.out)):gb514≠gb515));have NB515_514:=aS ((by rw [hg];exact Nat.ne_of_gt (blk_lt (g:=gb514) (o:=.cells #[.string a0_0,.string a0_1,.int .i64 a0_2,.string a0_3,.bool a0_4] 26 (0,0)) (bkl BK514.out)):gb515≠gb514));replace BK514:=bbl BK514 hb;clear hb hbox hg;have hnb6:=NB514_515.out;have hnc6:=NB515_514.out;have hcz7:=cK5 BK514;have hcz8:=cK5 BK515))
  go_ret
  exact ⟨rf3,bel⟩
 ·
  rw [if_neg c3] at H;obtain ⟨c3b0,c3b1⟩:=eqF c3
  obtain rfl:=Option.some.inj H
  go_enter Try.func48,Try.ntmps48
  go_wp2_with (first | ((with_reducible refine gate_dst (N:=2) rfl ?_);refine box_event ?hg (N:=2) ?hd (cs:=#[.string a0_0,.string a0_1,.int .i64 a0_2,.string a0_3,.bool a0_4]) (t:=26) ?hr ?_;(case hd=>rfl);(case hg=>rfl);(case hr=>first | (go_simp;done) | (go_simp;rfl));intro gb514 hg w9 hbox hb;have BK514:=aS (hbox);have GW514:=bsize hg;have GE514:=bsize hg;replace HB:=bstep hb;clear hb hbox hg) | ((with_reducible refine gate_dst (N:=3) rfl ?_);refine box_event ?hg (N:=3) ?hd (cs:=#[.string a1_0,.string a1_1,.int .i64 a1_2,.string a1_3,.bool a1_4]) (t:=26) ?hr ?_;(case hd=>rfl);(case hg=>rfl);(case hr=>first | (go_simp;done) | (go_simp;rfl));intro gb515 hg w10 hbox hb;have BK515:=aS (hbox);have GW515:=bsize hg;have GE515:=bsize hg;replace HB:=bstep hb;have NB514_515:=aS ((by rw [hg];exact Nat.ne_of_lt (blk_lt (g:=gb514) (o:=.cells #[.string a0_0,.string a0_1,.int .i64 a0_2,.string a0_3,.bool a0_4] 26 (0,0)) (bkl BK514.out)):gb514≠gb515));have NB515_514:=aS ((by rw [hg];exact Nat.ne_of_gt (blk_lt (g:=gb514) (o:=.cells #[.string a0_0,.string a0_1,.int .i64 a0_2,.string a0_3,.bool a0_4] 26 (0,0)) (bkl BK514.out)):gb515≠gb514));replace BK514:=bbl BK514 hb;clear hb hbox hg;have hnb11:=NB514_515.out;have hnc11:=NB515_514.out;have hcz12:=cK5 BK514;have hcz13:=cK5 BK515))
  go_ret
  exact ⟨rf3,bel⟩
-- merge_same
def merge_Visible.sm (p c:S26):Bool:=p.f0.toList == c.f0.toList && p.f1.toList == c.f1.toList
def merge_Visible.at_ (l:List S26) (i:Nat):S26:=rd_T26 l (i:Int)
def merge_Visible.nw (l:List S26) (t:Int) (i:Nat):Bool:=decide (i=0) || (!(merge_Visible.sm (merge_Visible.at_ l (i - 1)) (merge_Visible.at_ l i)) || decide ((merge_Visible.at_ l (i - 1)).f2 > t))
def merge_Visible.keep (l:List S26) (t:Int) (i:Nat):Bool:=decide ((merge_Visible.at_ l i).f2≤t) && (merge_Visible.nw l t i && !(merge_Visible.at_ l i).f4)
def merge_Visible.pre (l:List S26) (t:Int):Nat→List S26
 | 0=>[]
 | i+1=>merge_Visible.pre l t i++if merge_Visible.keep l t i=true then [merge_Visible.at_ l i] else []
def merge_Visible.f (_:Nat) (l:List S26) (t:Int):Option (List S26):=if l.length<2199023255552 then some (merge_Visible.pre l t l.length) else none
theorem merge_Visible.mono:∀ a0 a1 k,LeO (merge_Visible.f k a0 a1) (merge_Visible.f (k+1) a0 a1):=fun _ _ _=>LeO.refl _
theorem merge_Visible.len (l:List S26) (t:Int):∀ i,(merge_Visible.pre l t i).length≤i
 | 0=>Nat.le_refl _
 | i+1=>by
  have:=merge_Visible.len l t i
  unfold merge_Visible.pre
  split<;>simp<;>omega
theorem merge_Visible.same (p c:S26):merge_same.f p.f0 p.f1 p.f2 p.f3 p.f4 c.f0 c.f1 c.f2 c.f3 c.f4=some (merge_Visible.sm p c):=by
 unfold merge_same.f merge_Visible.sm
 split
 ·
  next h=>rw [beq_iff_eq.2 h];rfl
 ·
  next h=>rw [beq_eq_false_iff_ne.2 h];rfl
theorem merge_Visible.calls (k:Nat) (A0:Option Addr) (c0:Nat) (l:List S26) (t:Int) (r:List S26) (w:World) (hr0:Kd.C k26 w A0 l.length l) (hc0:l.length≤c0) (h:merge_Visible.f k l t=some r) :
  Calls Try.prog 31 #[.slice A0 l.length c0,.int .i64 t] w fun e w'=>∃ v0_:Value,e = .returned v0_∧Kd.R k26 26 w' w.heap.size (fun _=>True) v0_ r∧Below w.heap.size w w':=by
 have hu24:=Try.underlying24;have hu26:=Try.underlying26
 unfold merge_Visible.f at h
 by_cases hlim:l.length<2199023255552
 case neg=>rw [if_neg hlim] at h;cases h
 rw [if_pos hlim] at h
 obtain rfl:=Option.some.inj h
 have HC:=aS hr0;have HL:=aS hc0;have HLM:=aS hlim;clear hr0 hc0 hlim h
 go_enter Try.func31,Try.ntmps31
 go_wp2
 go_loopw [5,11] (fun v5 v11 wr=>∃ (i:Nat),v11 = .int .i64 (i:Int)∧Aside0 (i≤l.length)∧Aside0 (Kd.R k26 26 wr w.heap.size (fun _=>True) v5 (merge_Visible.pre l t i))∧Aside0 (Below w.heap.size w wr)) (fun _ i _=>l.length - (intOf i).toNat)
 case atStart=>exact ⟨0,rfl,⟨Nat.zero_le _⟩,⟨Kd.R_nil _ _ _ _ _⟩,⟨Below.refl _ _⟩⟩
 case round=>
  obtain ⟨i,rfl,hi,HR,HBr⟩:=hrel
  by_cases hlt:i<l.length
  ·
   have hq1:(i:Int)<(l.length:Int):=by omega
   have hq0:(0:Int)≤(i:Int):=by omega
   obtain ⟨ad,e_,hx0,hx1,hx2,hx3,hx4⟩:=at_T26 (Kd.C_below HC.out HBr.out) (i:Int) hq0 hq1;subst e_
   obtain ⟨x,hx⟩:∃ x,x=rd_T26 l (i:Int):=⟨_,rfl⟩
   rw [←hx] at hx0 hx1 hx2 hx3 hx4;have HX:Aside0 (x=merge_Visible.at_ l i):=aS hx;have HLA:Aside0 ((merge_Visible.pre l t i).length<2199023255552):=aS (Nat.lt_of_le_of_lt (merge_Visible.len l t i) (by have:=HLM.out;omega))
   have hix:∀ W:World,(Instr.indexAt 24 (.slice (some ad) l.length c0) (.int .i64 (i:Int))).run Try.prog W = .ok (.pointer (some (ad.add (i*5)))) W:=by
    obtain ⟨i0,hi0,hz⟩:=Option.map_eq_some_iff.1 info26
    simp only [Prod.mk.injEq] at hz
    intro W
    have h1:=index_ad 24 26 hu24 hi0 5 hz.2.1 ad l.length c0 (i:Int) (by omega) (by omega) W
    rwa [Int.toNat_natCast] at h1
   have hwr:wrap64 ((i:Int)+1)=(i:Int)+1:=by rw [←i64_w,IntKind.wrap_i64];have:=HLM.out;omega
   rw [Int.toNat_natCast] at hx0 hx1 hx2 hx3 hx4;clear hx hi hq0
   go_upto_region 5 with (first | ((with_reducible refine gate_dst (N:=7) rfl ?_);refine box_event ?hg (N:=7) ?hd (cs:=#[.string ⟨#[]⟩,.string ⟨#[]⟩,.int .i64 0,.string ⟨#[]⟩,.bool false]) (t:=26) ?hr ?_;(case hd=>rfl);(case hg=>rfl);(case hr=>(first | (go_simp;done) | (go_simp;rfl)));intro p7 hg w1 hb hbl;have B9:=aS hb;have G9:Aside0 (wr.heap.size≤p7):=aS (by rw [hg];exact Nat.le_refl _);have HB1:=aS hbl;clear hg hb hbl) | ((with_reducible refine gate_store (t:=26) (p:=7) rfl ?_);refine wpList_store_row rfl 26 _ _ rfl p7 #[.string x.f0,.string x.f1,.int .i64 x.f2,.string x.f3,.bool x.f4] rfl rfl 26 _ B9.out (by kernel_rfl) rfl (by kernel_rfl) ?_;have n1_:=aS (setRow_heap w1 p7 _ #[.string x.f0,.string x.f1,.int .i64 x.f2,.string x.f3,.bool x.f4] _ _ B9.out);have HB2:=aS (below_setRow HB1.out G9.out #[.string x.f0,.string x.f1,.int .i64 x.f2,.string x.f3,.bool x.f4]);clear B9 HB1;have B5:=n1_;clear n1_;generalize World.setRow w1 p7 #[.string x.f0,.string x.f1,.int .i64 x.f2,.string x.f3,.bool x.f4]=w2 at B5 HB2 ⊢;have HR2:=aS (Kd.R_below HR.out HB2.out);have HB3:=aS (below_step HBr.out HB2.out);clear HR HBr HB2;have q5:=cK5 B5))
   (try simp only [Act.put,lsa,lsz,lss])
   go_cut [8] (fun v8 wc=>∃ nb:Bool,v8 = .bool nb∧Aside0 (nb=merge_Visible.nw l t i)∧Aside0 (wc.heap[p7]? = some (.cells #[.string x.f0,.string x.f1,.int .i64 x.f2,.string x.f3,.bool x.f4] 26 (0,0)))∧Aside0 (Kd.R k26 26 wc w.heap.size (fun _=>True) u5 (merge_Visible.pre l t i))∧Aside0 (Below w.heap.size w wc))
   case first=>
    clear hwr hx0 hx1 hx2 hx3 hx4 q5
    by_cases c9:(i:Int)=0
    ·
     have HN:Aside0 (true=merge_Visible.nw l t i):=aS (by unfold merge_Visible.nw;rw [decide_eq_true (show i=0 by omega)];rfl);obtain ⟨c9a,c9b⟩:=eqT c9;clear c9;refine start_ (n:=23) (ds:=[]) (S:=fun w'=>True) (bA 23 0) (by kernel_rfl) rfl rfl trivial (fun hHeld=>?_)
     generalize hw_:World.drew _=wd at hHeld ⊢
     have n1_:=aS (hw_▸blk_drew B5.out);have n2_:=aS (hw_▸Kd.R_drew HR2.out);have n3_:=aS (hw_▸below_step HB3.out (below_drew (Below.refl _ _)));clear hw_ B5 HR2 HB3;have B5:=n1_;have HR2:=n2_;have HB3:=n3_;clear n1_ n2_ n3_;refine with_tabW (T:=(true,[([],[]),([0],[0]),([1],[1]),([2],[2]),([2],[2]),([4,2],[2,4]),([3,5,2],[2,3,5]),([6,2],[2,6]),([2],[2]),([7,8,2,2],[2,7,8]),([9,2],[2,9]),([2,10],[2,10]),([11,9],[11]),([12],[12]),([12],[12]),([14,12],[12,14]),([13,15,12],[12,13,15]),([16,12],[12,16]),([17,12],[12,17]),([12],[12]),([18,19,12],[12,18,19]),([12,20],[12,20]),([21,12,0,1,2,3,4,5,6,7,8,9,10,11,12,13,14,15,16,17,18,19,20,21],[21])])) (B:=[0,1,3,7,7,23,63,127,7,511,1023,2047,4095,8191,8191,24575,65535,131071,262143,8191,1048575,2097151,4194303]) (by kernel_rfl) (by kernel_rfl) (fun HT_ HW_=>?_);refine along_ [(0,16),(1,17),(2,18),(3,19),(4,20),(5,21),(6,22),(7,23),(8,24),(9,25),(10,26),(11,27),(12,28),(13,29),(14,30),(15,31),(16,32),(17,33),(18,34),(19,35),(20,36),(21,37),(22,8)] ?_
     iterate 23 (first | (refine skip3 HT_ ?_) | (refine pure3 HT_ ?_))
     refine lay_ (bA 23 8388607) (by kernel_rfl) ?_;refine done_ (done_of HT_.out (by kernel_rfl)) ?_;clear HT_ HW_ hHeld
     try go_wp2
     go_meet
     case rel=>exact ⟨true,rfl,HN,B5,HR2,HB3⟩
    ·
     obtain ⟨j,hj⟩:∃ j:Nat,j+1=i:=⟨i - 1,by omega⟩
     obtain ⟨y,hy⟩:∃ y,y=merge_Visible.at_ l j:=⟨_,rfl⟩
     obtain ⟨s,hs⟩:∃ s,s=merge_Visible.sm y x:=⟨_,rfl⟩
     have HSM:Aside0 (merge_same.f y.f0 y.f1 y.f2 y.f3 y.f4 x.f0 x.f1 x.f2 x.f3 x.f4=some s):=aS (by rw [hs];exact merge_Visible.same y x);have HN:Aside0 ((!s || decide (y.f2 > t))=merge_Visible.nw l t i):=aS (by unfold merge_Visible.nw;rw [decide_eq_false (show ¬ i=0 by omega),show i - 1=j by omega,← hy,← HX.out,← hs];rfl)
     have hjl:j<l.length:=by omega
     have HYF:Aside0 (∀ w',Below w.heap.size w w'→w'.cell? (ad.add (j*5))=some (.string y.f0)∧w'.cell? ⟨(ad.add (j*5)).block,(ad.add (j*5)).off+1,none⟩=some (.string y.f1)∧w'.cell? ⟨(ad.add (j*5)).block,(ad.add (j*5)).off+2,none⟩=some (.int .i64 y.f2)∧w'.cell? ⟨(ad.add (j*5)).block,(ad.add (j*5)).off+3,none⟩=some (.string y.f3)∧w'.cell? ⟨(ad.add (j*5)).block,(ad.add (j*5)).off+4,none⟩=some (.bool y.f4)):=aS (fun w' hb=>by
      obtain ⟨ad',e',hc⟩:=at_T26 (Kd.C_below HC.out hb) (j:Int) (by omega) (by omega)
      injection e' with e'
      subst e'
      rw [Int.toNat_natCast,show rd_T26 l (j:Int)=y from hy.symm] at hc
      exact hc)
     have hw1:IntKind.i64.wrap ((i:Int) - 1)=(j:Int):=by rw [IntKind.wrap_i64]<;>have:=HLM.out<;>omega
     have hixj:∀ W:World,(Instr.indexAt 24 (.slice (some ad) l.length c0) (.int .i64 (j:Int))).run Try.prog W = .ok (.pointer (some (ad.add (j*5)))) W:=by
      obtain ⟨i0,hi0,hz⟩:=Option.map_eq_some_iff.1 info26
      simp only [Prod.mk.injEq] at hz
      intro W
      have h1:=index_ad 24 26 hu24 hi0 5 hz.2.1 ad l.length c0 (j:Int) (by omega) (by omega) W
      rwa [Int.toNat_natCast] at h1
     obtain ⟨c9a,c9b⟩:=eqF c9;clear c9 hj hs hy hix hjl hlt hq1;refine start_ (n:=23) (ds:=[]) (S:=fun w'=>(w'.cell? ⟨p7,0,none⟩=some (.string x.f0)∧w'.cell? ⟨p7,1,none⟩=some (.string x.f1)∧w'.cell? ⟨p7,2,none⟩=some (.int .i64 x.f2)∧w'.cell? ⟨p7,3,none⟩=some (.string x.f3)∧w'.cell? ⟨p7,4,none⟩=some (.bool x.f4))∧w'.cell? (ad.add (j*5))=some (.string y.f0)∧w'.cell? ⟨(ad.add (j*5)).block,(ad.add (j*5)).off+1,none⟩=some (.string y.f1)∧w'.cell? ⟨(ad.add (j*5)).block,(ad.add (j*5)).off+2,none⟩=some (.int .i64 y.f2)∧w'.cell? ⟨(ad.add (j*5)).block,(ad.add (j*5)).off+3,none⟩=some (.string y.f3)∧w'.cell? ⟨(ad.add (j*5)).block,(ad.add (j*5)).off+4,none⟩=some (.bool y.f4)) (bA 23 0) (by kernel_rfl) rfl rfl ⟨⟨(blk_cell (blk_drew B5.out) 0).trans rfl,(blk_cell (blk_drew B5.out) 1).trans rfl,(blk_cell (blk_drew B5.out) 2).trans rfl,(blk_cell (blk_drew B5.out) 3).trans rfl,(blk_cell (blk_drew B5.out) 4).trans rfl⟩,HYF.out _ (below_step HB3.out (below_drew (Below.refl _ _)))⟩ (fun hHeld=>?_)
     generalize hw_:World.drew _=wd at hHeld ⊢
     have n1_:=aS (hw_▸blk_drew B5.out);have n2_:=aS (hw_▸Kd.R_drew HR2.out);have n3_:=aS (hw_▸below_step HB3.out (below_drew (Below.refl _ _)));clear hw_ B5 HR2 HB3;have B5:=n1_;have HR2:=n2_;have HB3:=n3_;clear n1_ n2_ n3_;refine with_tabW (T:=(true,[([],[]),([0],[0]),([1],[1]),([2],[2]),([2],[2]),([4,2],[2,4]),([3,5,2],[2,3,5]),([6,2],[2,6]),([2],[2]),([7,8,2,2],[2,7,8]),([9,2],[2,9]),([2,10],[2,10]),([11,9],[11]),([12],[12]),([12],[12]),([14,12],[12,14]),([13,15,12],[12,13,15]),([16,12],[12,16]),([17,12],[12,17]),([12],[12]),([18,19,12],[12,18,19]),([12,20],[12,20]),([21,12,0,1,2,3,4,5,6,7,8,9,10,11,12,13,14,15,16,17,18,19,20,21],[21])])) (B:=[0,1,3,7,7,23,63,127,7,511,1023,2047,4095,8191,8191,24575,65535,131071,262143,8191,1048575,2097151,4194303]) (by kernel_rfl) (by kernel_rfl) (fun HT_ HW_=>?_);refine along_ [(0,16),(1,17),(2,18),(3,19),(4,20),(5,21),(6,22),(7,23),(8,24)] ?_
     iterate 9 (first | (refine pure3 HT_ ?_) | (refine take3 HT_ HW_ hHeld ?_))
     refine lay_ (bA 23 511) (by kernel_rfl) ?_;refine one3 9 (N:=some 25) (bA 23 1023) HT_ (fun K hK=>?_);refine goes_ Try.func48 (by kernel_rfl) rfl #[.agg #[.string y.f0,.string y.f1,.int .i64 y.f2,.string y.f3,.bool y.f4],.agg #[.string x.f0,.string x.f1,.int .i64 x.f2,.string x.f3,.bool x.f4]] (by rfl) rfl rfl agn ?_
     with_reducible refine (merge_same.calls y.f0 y.f1 y.f2 y.f3 y.f4 x.f0 x.f1 x.f2 x.f3 x.f4 s _ HSM.out).mono ?_
     rintro e_ w4 ⟨rfl,hb⟩
     refine ⟨_,rfl,?_⟩;have n1_:=aS (blk_below B5.out hb);have n2_:=aS (Kd.R_below HR2.out hb);have n3_:=aS (below_step HB3.out hb);clear B5 HR2 HB3 hb;have B5:=n1_;have HR2:=n2_;have HB3:=n3_;clear n1_ n2_ n3_;refine hK.out _ _ ⟨⟨(blk_cell B5.out 0).trans rfl,(blk_cell B5.out 1).trans rfl,(blk_cell B5.out 2).trans rfl,(blk_cell B5.out 3).trans rfl,(blk_cell B5.out 4).trans rfl⟩,HYF.out _ HB3.out⟩ (fun hHeld=>?_);clear hK K;refine nm 25 ?_
     cases s with
     | false=>
      refine along_ [(10,26),(11,27),(12,28),(13,29),(14,30),(15,31),(16,32),(17,33),(18,34),(19,35),(20,36),(21,37),(22,8)] ?_
      iterate 13 (first | (refine skip3 HT_ ?_) | (refine pure3 HT_ ?_))
      refine lay_ (bA 23 8388607) (by kernel_rfl) ?_;refine done_ (done_of HT_.out (by kernel_rfl)) ?_;clear HT_ HW_ hHeld
      try go_wp2
      go_meet
      case rel=>exact ⟨true,rfl,aS (by rw [←HN.out];rfl),B5,HR2,HB3⟩
     | true=>
      refine along_ [(10,26),(11,27),(12,28),(13,29),(14,30),(15,31),(16,32),(17,33),(18,34),(19,35),(20,36),(21,37),(22,8)] ?_
      iterate 13 (first | (refine pure3 HT_ ?_) | (refine take3 HT_ HW_ hHeld ?_))
      refine lay_ (bA 23 8388607) (by kernel_rfl) ?_;refine done_ (done_of HT_.out (by kernel_rfl)) ?_;clear HT_ HW_ hHeld
      try go_wp2
      go_meet
      case rel=>exact ⟨decide (y.f2 > t),rfl,aS (by rw [←HN.out];rfl),B5,HR2,HB3⟩
   case rest=>
    obtain ⟨nb,rfl,hn,B5,HR2,HB3⟩:=hcut;have q5:=cK5 B5;clear hx0 hx1 hx2 hx3 hx4 hix
    by_cases c8:x.f2≤t
    rotate_left
    ·
     have HP:Aside0 (merge_Visible.keep l t i=false):=aS (by unfold merge_Visible.keep;rw [←HX.out,decide_eq_false c8];rfl);have c8b:decide (x.f2≤t)=false:=decide_eq_false c8;clear c8
     go_wp2_with (first | fail)
     go_roundw
     case rel=>exact ⟨i+1,by rw [hwr];rfl,⟨hlt⟩,⟨by unfold merge_Visible.pre;rw [HP.out,if_neg Bool.false_ne_true,List.append_nil];exact HR2.out⟩,HB3⟩
     case measure=>exact meas1 hwr hlt
    ·
     have c8b:decide (x.f2≤t)=true:=decide_eq_true c8;clear c8
     cases nb with
     | false=>
      have HP:Aside0 (merge_Visible.keep l t i=false):=aS (by unfold merge_Visible.keep;rw [←hn.out,Bool.false_and,Bool.and_false])
      go_wp2_with (first | fail)
      go_roundw
      case rel=>exact ⟨i+1,by rw [hwr];rfl,⟨hlt⟩,⟨by unfold merge_Visible.pre;rw [HP.out,if_neg Bool.false_ne_true,List.append_nil];exact HR2.out⟩,HB3⟩
      case measure=>exact meas1 hwr hlt
     | true=>
      by_cases c10:(!x.f4)=true
      ·
       have HP:Aside0 (merge_Visible.keep l t i=true):=aS (by unfold merge_Visible.keep;rw [←hn.out,← HX.out,c8b,c10];rfl)
       go_wp2_with (first | fail | (at_builtin;refine Kd.R_append k26 (w0:=w) w.heap.size rfl _ _ 24 26 _ _ rfl hu24 info26 rfl (by decide) (by decide) u5 (merge_Visible.pre l t i) x [.string x.f0,.string x.f1,.int .i64 x.f2,.string x.f3,.bool x.f4] (fun _=>True) (fun _=>False) rfl rfl (k26_mkM _ _ _ x) (fun _ hk=>hk.elim) (fun _ _=>trivial) HR2.out HB3.out HB3.out.size (by have:=HLA.out;clear hwr;omega) ?_;intro v8 w4 ho hb hg hat;have HR4:=aS ho;have HB4:=aS hb;clear ho hb hg hat HR2 HB3))
       go_roundw
       case rel=>exact ⟨i+1,by rw [hwr];rfl,⟨hlt⟩,⟨by unfold merge_Visible.pre;rw [HP.out,if_pos rfl,← HX.out];exact HR4.out⟩,HB4⟩
       case measure=>exact meas1 hwr hlt
      ·
       replace c10:(!x.f4)=false:=Bool.eq_false_iff.mpr c10;have HP:Aside0 (merge_Visible.keep l t i=false):=aS (by unfold merge_Visible.keep;rw [←hn.out,← HX.out,c8b,c10];rfl)
       go_wp2_with (first | fail)
       go_roundw
       case rel=>exact ⟨i+1,by rw [hwr];rfl,⟨hlt⟩,⟨by unfold merge_Visible.pre;rw [HP.out,if_neg Bool.false_ne_true,List.append_nil];exact HR2.out⟩,HB3⟩
       case measure=>exact meas1 hwr hlt
  ·
   have e_:i=l.length:=by have:=hi.out;omega
   have hge:¬ ((i:Int)<(l.length:Int)):=by omega
   go_wp2
   go_ret
   exact ⟨_,rfl,by rw [←e_];exact HR.out,HBr.out⟩
def tree_Tree_Scan.keep (a b:ByteArray) (c:S26):Bool:=!(Op.bytesLess c.f0.toList a.toList) && (b.toList == [] || Op.bytesLess c.f0.toList b.toList)
def tree_Tree_Scan.f (k:Nat) (xs:List S26) (ls:List (List (List S26 × List (List S26) × List Int))) (a b:ByteArray) (t:Int):Option (List S26):=(tree_Tree_Cells.f k xs ls).bind fun c=>(merge_Visible.f k c t).bind fun v=>if v.length<2199023255552 then some (v.filter (tree_Tree_Scan.keep a b)) else none
theorem tree_Tree_Scan.mono:∀ a0 a1 a2 a3 a4 k,LeO (tree_Tree_Scan.f k a0 a1 a2 a3 a4) (tree_Tree_Scan.f (k+1) a0 a1 a2 a3 a4):=fun _ _ _ _ _ _=>LeO.bind (tree_Tree_Cells.mono _ _ _) fun _=>LeO.bind (merge_Visible.mono _ _ _) fun _=>LeO.refl _
attribute [local go_sem] geq_str
theorem tree_Tree_Scan.calls (k g base:Nat) (ok:Nat→Prop) (s1 s2 s3:Int) (xs:List S26) (n:Int) (ls:List (List (List S26 × List (List S26) × List Int))) (a b:ByteArray) (t:Int) (r:List S26) (w:World) (hA:tree_New.At w base ok g s1 s2 s3 xs n ls) (h:tree_Tree_Scan.f k xs ls a b t=some r) :
  Calls Try.prog 14 #[.pointer (some ⟨g,0,none⟩),.string a,.string b,.int .i64 t] w fun e w'=>∃ v0_:Value,e = .returned v0_∧Kd.R k26 26 w' w.heap.size (fun _=>True) v0_ r∧Below w.heap.size w w':=by
 have hu24:=Try.underlying24;have hu26:=Try.underlying26
 unfold tree_Tree_Scan.f at h
 replace h:=obm h;obtain ⟨c,x1,h⟩:=h;replace h:=obm h;obtain ⟨vs,x2,h⟩:=h
 by_cases hlim:vs.length<2199023255552
 case neg=>rw [if_neg hlim] at h;cases h
 rw [if_pos hlim] at h
 obtain rfl:=Option.some.inj h
 have HA:=aS hA;have X1:=aS x1;have X2:=aS x2;have HLM:=aS hlim;clear hA x1 x2 hlim h
 go_enter Try.func14,Try.ntmps14
 go_wp2_with (first | (go_at_call 13;(with_reducible refine (tree_Tree_Cells.calls k base ok g s1 s2 s3 xs n ls c _ HA.out X1.out).mono ?_);rintro e_ w2 ⟨v2,rfl,ho,hb⟩;obtain ⟨Ac,cc,rfl,hcl,hC⟩:=Kd.R_reads ho;have HCc:=aS hC;have HLc:=aS hcl;have HB1:=aS hb;clear ho hb hC hcl) | (go_at_call 31;(with_reducible refine (merge_Visible.calls k Ac cc c t vs _ HCc.out HLc.out X2.out).mono ?_);rintro e_ w3 ⟨v3,rfl,ho,hb⟩;obtain ⟨A,cv,rfl,hcl,hC⟩:=Kd.R_reads ho;have HC:=aS hC;have HL:=aS hcl;have HB:=aS (below_step HB1.out hb);clear ho hb hC hcl HB1 HCc HLc))
 go_loopw [9,17] (fun v9 v17 wr=>∃ (i:Nat),v17 = .int .i64 (i:Int)∧Aside0 (i≤vs.length)∧Aside0 (Kd.R k26 26 wr w3.heap.size (fun _=>True) v9 (vs.take i |>.filter (tree_Tree_Scan.keep a b)))∧Aside0 (Below w3.heap.size w3 wr)) (fun _ i _=>vs.length - (intOf i).toNat)
 case atStart=>exact ⟨0,rfl,⟨Nat.zero_le _⟩,⟨Kd.R_nil _ _ _ _ _⟩,⟨Below.refl _ _⟩⟩
 case round=>
  obtain ⟨i,rfl,hi,HR,HBr⟩:=hrel
  by_cases hlt:i<vs.length
  ·
   have hq1:(i:Int)<(vs.length:Int):=by omega
   have hq0:(0:Int)≤(i:Int):=by omega
   obtain ⟨ad,e_,hx0,hx1,hx2,hx3,hx4⟩:=at_T26 (Kd.C_below HC.out HBr.out) (i:Int) hq0 hq1;subst e_
   obtain ⟨x,hx⟩:∃ x,x=rd_T26 vs (i:Int):=⟨_,rfl⟩
   rw [←hx] at hx0 hx1 hx2 hx3 hx4
   have hxe:x=vs[i]:=by rw [hx];unfold rd_T26;rw [Int.toNat_natCast,List.getD_eq_getElem?_getD,List.getElem?_eq_getElem hlt];rfl
   have HT:Aside0 ((vs.take (i+1) |>.filter (tree_Tree_Scan.keep a b))=(vs.take i |>.filter (tree_Tree_Scan.keep a b))++if tree_Tree_Scan.keep a b x=true then [x] else []):=aS (by
    rw [List.take_succ_eq_append_getElem hlt,List.filter_append,← hxe]
    congr 1
    by_cases hk:tree_Tree_Scan.keep a b x=true<;>simp [hk])
   have HLA:Aside0 ((vs.take i |>.filter (tree_Tree_Scan.keep a b)).length<2199023255552):=aS (Nat.lt_of_le_of_lt (List.length_filter_le _ _) (by rw [llt];have:=HLM.out;omega))
   have hix:∀ W:World,(Instr.indexAt 24 (.slice (some ad) vs.length cv) (.int .i64 (i:Int))).run Try.prog W = .ok (.pointer (some (ad.add (i*5)))) W:=by
    obtain ⟨i0,hi0,hz⟩:=Option.map_eq_some_iff.1 info26
    simp only [Prod.mk.injEq] at hz
    intro W
    have h1:=index_ad 24 26 hu24 hi0 5 hz.2.1 ad vs.length cv (i:Int) (by omega) (by omega) W
    rwa [Int.toNat_natCast] at h1
   have hwr:wrap64 ((i:Int)+1)=(i:Int)+1:=by rw [←i64_w,IntKind.wrap_i64];have:=HLM.out;omega
   rw [Int.toNat_natCast] at hx0 hx1 hx2 hx3 hx4;clear hx hxe hi hq0
   by_cases c8:Op.bytesLess x.f0.toList a.toList=true
   rotate_left
   ·
    replace c8:Op.bytesLess x.f0.toList a.toList=false:=by simpa using c8
    by_cases c9:b.toList=([]:List UInt8)
    rotate_left
    ·
     obtain ⟨c9a,c9b⟩:=eqF c9
     by_cases c10:Op.bytesLess x.f0.toList b.toList=true
     rotate_left
     ·
      replace c10:Op.bytesLess x.f0.toList b.toList=false:=by simpa using c10
      have HP:Aside0 (tree_Tree_Scan.keep a b x=false):=aS (by unfold tree_Tree_Scan.keep;rw [c8,c9a,c10];rfl)
      go_wp2_with (first | ((with_reducible refine gate_dst (N:=11) rfl ?_);refine box_event ?hg (N:=11) ?hd (cs:=#[.string ⟨#[]⟩,.string ⟨#[]⟩,.int .i64 0,.string ⟨#[]⟩,.bool false]) (t:=26) ?hr ?_;(case hd=>rfl);(case hg=>rfl);(case hr=>(first | (go_simp;done) | (go_simp;rfl)));intro p9 hg w1 hb hbl;have B9:=aS hb;have G9:Aside0 (wr.heap.size≤p9):=aS (by rw [hg];exact Nat.le_refl _);have HB1:=aS hbl;clear hg hb hbl) | ((with_reducible refine gate_store (t:=26) (p:=11) rfl ?_);refine wpList_store_row rfl 26 _ _ rfl p9 #[.string x.f0,.string x.f1,.int .i64 x.f2,.string x.f3,.bool x.f4] rfl rfl 26 _ B9.out (by kernel_rfl) rfl (by kernel_rfl) ?_;have B5:=aS (setRow_heap w1 p9 _ #[.string x.f0,.string x.f1,.int .i64 x.f2,.string x.f3,.bool x.f4] _ _ B9.out);have HB2:=aS (below_setRow HB1.out G9.out #[.string x.f0,.string x.f1,.int .i64 x.f2,.string x.f3,.bool x.f4]);clear B9 HB1;generalize World.setRow w1 p9 #[.string x.f0,.string x.f1,.int .i64 x.f2,.string x.f3,.bool x.f4]=w2 at B5 HB2 ⊢;have HR2:=aS (Kd.R_below HR.out HB2.out);have HB3:=aS (below_step HBr.out HB2.out);clear HR HBr HB2;have q5:=cK5 B5))
      go_roundw
      case rel=>exact ⟨i+1,by rw [hwr];rfl,⟨hlt⟩,⟨by rw [HT.out,HP.out,if_neg Bool.false_ne_true,List.append_nil];exact HR2.out⟩,HB3⟩
      case measure=>exact meas1 hwr hlt
     ·
      have HP:Aside0 (tree_Tree_Scan.keep a b x=true):=aS (by unfold tree_Tree_Scan.keep;rw [c8,c9a,c10];rfl)
      go_wp2_with (first | ((with_reducible refine gate_dst (N:=11) rfl ?_);refine box_event ?hg (N:=11) ?hd (cs:=#[.string ⟨#[]⟩,.string ⟨#[]⟩,.int .i64 0,.string ⟨#[]⟩,.bool false]) (t:=26) ?hr ?_;(case hd=>rfl);(case hg=>rfl);(case hr=>(first | (go_simp;done) | (go_simp;rfl)));intro p9 hg w1 hb hbl;have B9:=aS hb;have G9:Aside0 (wr.heap.size≤p9):=aS (by rw [hg];exact Nat.le_refl _);have HB1:=aS hbl;clear hg hb hbl) | ((with_reducible refine gate_store (t:=26) (p:=11) rfl ?_);refine wpList_store_row rfl 26 _ _ rfl p9 #[.string x.f0,.string x.f1,.int .i64 x.f2,.string x.f3,.bool x.f4] rfl rfl 26 _ B9.out (by kernel_rfl) rfl (by kernel_rfl) ?_;have B5:=aS (setRow_heap w1 p9 _ #[.string x.f0,.string x.f1,.int .i64 x.f2,.string x.f3,.bool x.f4] _ _ B9.out);have HB2:=aS (below_setRow HB1.out G9.out #[.string x.f0,.string x.f1,.int .i64 x.f2,.string x.f3,.bool x.f4]);clear B9 HB1;generalize World.setRow w1 p9 #[.string x.f0,.string x.f1,.int .i64 x.f2,.string x.f3,.bool x.f4]=w2 at B5 HB2 ⊢;have HR2:=aS (Kd.R_below HR.out HB2.out);have HB3:=aS (below_step HBr.out HB2.out);clear HR HBr HB2;have q5:=cK5 B5) | (at_builtin;refine Kd.R_append k26 (w0:=w3) w3.heap.size rfl _ _ 24 26 _ _ rfl hu24 info26 rfl (by decide) (by decide) u9 (vs.take i |>.filter (tree_Tree_Scan.keep a b)) x [.string x.f0,.string x.f1,.int .i64 x.f2,.string x.f3,.bool x.f4] (fun _=>True) (fun _=>False) rfl rfl (k26_mkM _ _ _ x) (fun _ hk=>hk.elim) (fun _ _=>trivial) HR2.out HB3.out HB3.out.size (by have:=HLA.out;clear hwr;omega) ?_;intro v8 w4 ho hb hg hat;have HR4:=aS ho;have HB4:=aS hb;clear ho hb hg hat HR2 HB3))
      go_roundw
      case rel=>exact ⟨i+1,by rw [hwr];rfl,⟨hlt⟩,⟨by rw [HT.out,HP.out,if_pos rfl];exact HR4.out⟩,HB4⟩
      case measure=>exact meas1 hwr hlt
    ·
     have HP:Aside0 (tree_Tree_Scan.keep a b x=true):=aS (by unfold tree_Tree_Scan.keep;rw [c8,c9];rfl);obtain ⟨c9a,c9b⟩:=eqT c9;clear c9
     go_wp2_with (first | ((with_reducible refine gate_dst (N:=11) rfl ?_);refine box_event ?hg (N:=11) ?hd (cs:=#[.string ⟨#[]⟩,.string ⟨#[]⟩,.int .i64 0,.string ⟨#[]⟩,.bool false]) (t:=26) ?hr ?_;(case hd=>rfl);(case hg=>rfl);(case hr=>(first | (go_simp;done) | (go_simp;rfl)));intro p9 hg w1 hb hbl;have B9:=aS hb;have G9:Aside0 (wr.heap.size≤p9):=aS (by rw [hg];exact Nat.le_refl _);have HB1:=aS hbl;clear hg hb hbl) | ((with_reducible refine gate_store (t:=26) (p:=11) rfl ?_);refine wpList_store_row rfl 26 _ _ rfl p9 #[.string x.f0,.string x.f1,.int .i64 x.f2,.string x.f3,.bool x.f4] rfl rfl 26 _ B9.out (by kernel_rfl) rfl (by kernel_rfl) ?_;have B5:=aS (setRow_heap w1 p9 _ #[.string x.f0,.string x.f1,.int .i64 x.f2,.string x.f3,.bool x.f4] _ _ B9.out);have HB2:=aS (below_setRow HB1.out G9.out #[.string x.f0,.string x.f1,.int .i64 x.f2,.string x.f3,.bool x.f4]);clear B9 HB1;generalize World.setRow w1 p9 #[.string x.f0,.string x.f1,.int .i64 x.f2,.string x.f3,.bool x.f4]=w2 at B5 HB2 ⊢;have HR2:=aS (Kd.R_below HR.out HB2.out);have HB3:=aS (below_step HBr.out HB2.out);clear HR HBr HB2;have q5:=cK5 B5) | (at_builtin;refine Kd.R_append k26 (w0:=w3) w3.heap.size rfl _ _ 24 26 _ _ rfl hu24 info26 rfl (by decide) (by decide) u9 (vs.take i |>.filter (tree_Tree_Scan.keep a b)) x [.string x.f0,.string x.f1,.int .i64 x.f2,.string x.f3,.bool x.f4] (fun _=>True) (fun _=>False) rfl rfl (k26_mkM _ _ _ x) (fun _ hk=>hk.elim) (fun _ _=>trivial) HR2.out HB3.out HB3.out.size (by have:=HLA.out;clear hwr;omega) ?_;intro v8 w4 ho hb hg hat;have HR4:=aS ho;have HB4:=aS hb;clear ho hb hg hat HR2 HB3))
     go_roundw
     case rel=>exact ⟨i+1,by rw [hwr];rfl,⟨hlt⟩,⟨by rw [HT.out,HP.out,if_pos rfl];exact HR4.out⟩,HB4⟩
     case measure=>exact meas1 hwr hlt
   ·
    have HP:Aside0 (tree_Tree_Scan.keep a b x=false):=aS (by unfold tree_Tree_Scan.keep;rw [c8];rfl)
    go_wp2_with (first | ((with_reducible refine gate_dst (N:=11) rfl ?_);refine box_event ?hg (N:=11) ?hd (cs:=#[.string ⟨#[]⟩,.string ⟨#[]⟩,.int .i64 0,.string ⟨#[]⟩,.bool false]) (t:=26) ?hr ?_;(case hd=>rfl);(case hg=>rfl);(case hr=>(first | (go_simp;done) | (go_simp;rfl)));intro p9 hg w1 hb hbl;have B9:=aS hb;have G9:Aside0 (wr.heap.size≤p9):=aS (by rw [hg];exact Nat.le_refl _);have HB1:=aS hbl;clear hg hb hbl) | ((with_reducible refine gate_store (t:=26) (p:=11) rfl ?_);refine wpList_store_row rfl 26 _ _ rfl p9 #[.string x.f0,.string x.f1,.int .i64 x.f2,.string x.f3,.bool x.f4] rfl rfl 26 _ B9.out (by kernel_rfl) rfl (by kernel_rfl) ?_;have B5:=aS (setRow_heap w1 p9 _ #[.string x.f0,.string x.f1,.int .i64 x.f2,.string x.f3,.bool x.f4] _ _ B9.out);have HB2:=aS (below_setRow HB1.out G9.out #[.string x.f0,.string x.f1,.int .i64 x.f2,.string x.f3,.bool x.f4]);clear B9 HB1;generalize World.setRow w1 p9 #[.string x.f0,.string x.f1,.int .i64 x.f2,.string x.f3,.bool x.f4]=w2 at B5 HB2 ⊢;have HR2:=aS (Kd.R_below HR.out HB2.out);have HB3:=aS (below_step HBr.out HB2.out);clear HR HBr HB2;have q5:=cK5 B5))
    go_roundw
    case rel=>exact ⟨i+1,by rw [hwr];rfl,⟨hlt⟩,⟨by rw [HT.out,HP.out,if_neg Bool.false_ne_true,List.append_nil];exact HR2.out⟩,HB3⟩
    case measure=>exact meas1 hwr hlt
  ·
   have e_:vs.take i=vs:=List.take_of_length_le (by omega)
   have hge:¬ ((i:Int)<(vs.length:Int)):=by omega
   go_wp2
   go_ret
   exact ⟨_,rfl,Kd.R_lower (by rw [←e_];exact HR.out) HB.out.size,below_step HB.out HBr.out⟩
theorem tree_Tree_Levels.calls (base:Nat) (ok:Nat→Prop) (g:Nat) (s1 s2 s3:Int) (xs:List S26) (n:Int) (ls:List (List (List S26 × List (List S26) × List Int))) (w:World) (hA:tree_New.At w base ok g s1 s2 s3 xs n ls) (h:ls.length<2199023255552) :
  Calls Try.prog 15 #[.pointer (some ⟨g,0,none⟩)] w fun e w'=>∃ v0_:Value,e = .returned v0_∧Kd.R (Kd.int .i64) 3 w' w.heap.size (fun _=>True) v0_ (ls.map fun l=>(l.length:Int))∧Below w.heap.size w w':=by
 have hu30:=Try.underlying30;have hu51:=Try.underlying51;have hu23:=Try.underlying23;have hu49:=Try.underlying49;have hu53:=Try.underlying53;have hu24:=Try.underlying24;have hu61:=Try.underlying61;have hu43:=Try.underlying43;obtain ⟨gm,vm,vl,vs,hA⟩:=hA;have HA:=aS hA;clear hA;have HLM:=aS h;clear h;have q0:=cK5 (aS HA.out.blk);obtain ⟨A,cl,rfl,hcl,hmx,hat⟩:=HA.out.at;have HL:=aS HA.out.len;have HAT:=aS hat;clear hat hmx
 go_enter Try.func15,Try.ntmps15
 go_wp2
 clear q0
 go_loopw [3,11] (fun v3 v11 wr=>∃ (i:Nat),v11 = .int .i64 (i:Int)∧Aside0 (i≤vs.length)∧Aside0 (Kd.R (Kd.int .i64) 3 wr w.heap.size (fun _=>True) v3 ((ls.take i).map fun l=>(l.length:Int)))∧Aside0 (Below w.heap.size w wr)) (fun _ i _=>vs.length - (intOf i).toNat)
 case atStart=>exact ⟨0,rfl,⟨Nat.zero_le _⟩,⟨Kd.R_nil _ _ _ _ _⟩,⟨Below.refl _ _⟩⟩
 case round=>
  obtain ⟨i,rfl,hi,HR,HBr⟩:=hrel
  by_cases hlt:i<vs.length
  ·
   have hq1:(i:Int)<(vs.length:Int):=by omega
   obtain ⟨ad,e_,hx⟩:=HAT.out wr (fun k _ hk=>HBr.out.block k hk) i hlt;subst e_;obtain ⟨Ai,ci,ei,hli,hCi⟩:=HA.out.cells i hlt;rw [ei] at hx
   have HT:Aside0 (((ls.take (i+1)).map fun l=>(l.length:Int))=((ls.take i).map fun l=>(l.length:Int))++[((ls.getD i []).length:Int)]):=aS (by
    rw [List.take_succ_eq_append_getElem (by rw [←HL.out];exact hlt),List.map_append,List.getD_eq_getElem?_getD,List.getElem?_eq_getElem (by rw [←HL.out];exact hlt)]
    rfl)
   have HG:Aside0 (((ls.take i).map fun l=>(l.length:Int)).length<2199023255552):=aS (by rw [List.length_map,llt];have:=HLM.out;omega)
   generalize (ls.getD i []).length=nl at hx HT
   have hix:∀ W:World,(Instr.indexAt 49 (.slice (some ad) vs.length cl) (.int .i64 (i:Int))).run Try.prog W = .ok (.pointer (some (ad.add i))) W:=by
    obtain ⟨i0,hi0,hz⟩:=Option.map_eq_some_iff.1 info53
    simp only [Prod.mk.injEq] at hz
    intro W
    have h1:=index_ad 49 53 hu49 hi0 1 hz.2.1 ad vs.length cl (i:Int) (by omega) (by omega) W
    rwa [Nat.mul_one,Int.toNat_natCast] at h1
   have hwr:wrap64 ((i:Int)+1)=(i:Int)+1:=by rw [←i64_w,IntKind.wrap_i64];have:=HLM.out;have:=HL.out;omega
   clear hi ei hli hCi
   go_wp2_with (first | (at_builtin;refine Kd.R_append (Kd.int .i64) (w0:=w) w.heap.size rfl _ _ 43 3 (.int .i64 0) 8 rfl hu43 info3 rfl (by decide) (by decide) u3 _ (nl:Int) [.int .i64 (nl:Int)] (fun _=>True) (fun _=>False) rfl rfl rfl (fun _ hk=>hk.elim) (fun _ _=>trivial) HR.out HBr.out HBr.out.size (by have:=HG.out;clear hwr;omega) ?_;intro v8 w6 ho hb hg hat;rw [←HT.out] at ho;have HR2:=aS ho;have HB2:=aS hb;clear ho hb hg hat HR HBr))
   go_roundw
   case rel=>exact ⟨i+1,by rw [hwr];rfl,⟨hlt⟩,HR2,HB2⟩
   case measure=>exact meas1 hwr hlt
  ·
   have hge:¬ ((i:Int)<(vs.length:Int)):=by omega
   have e_:ls.take i=ls:=List.take_of_length_le (by rw [←HL.out];omega)
   go_wp2
   go_ret
   exact ⟨_,rfl,by rw [←e_];exact HR.out,HBr.out⟩
-- tree_Tree_Levels
def shardloglaw14_awake.tail (k:Nat) (xs:List S26) (ls:List (List (List S26 × List (List S26) × List Int))):Option Bool:=
 (tree_Tree_Get.f k xs ls (⟨#[97]⟩:ByteArray) (⟨#[120]⟩:ByteArray) 3).bind fun v=>(tree_Tree_Get.f k xs ls (⟨#[97]⟩:ByteArray) (⟨#[120]⟩:ByteArray) 9).bind fun i=>(tree_Tree_Cells.f k xs ls).bind fun c=>(tree_Tree_Scan.f k xs ls (⟨#[]⟩:ByteArray) (⟨#[]⟩:ByteArray) 2).bind fun s=>if v.f4=false∧v.f3=(⟨#[49]⟩:ByteArray)∧i.f4=true∧(ls.map fun l=>(l.length:Int))=[2]∧c.length=2∧s.length=1 then some true else none
def shardloglaw14_awake.f (k:Nat):Option Bool:=
 (tree_New.f 1 50 2).bind fun a=>(tree_New.f 0 0 0).bind fun b=>if a=true∧b=false then (tree_Tree_Put.f k 1 50 2 [] 0 [] (⟨#[97]⟩:ByteArray) (⟨#[120]⟩:ByteArray) 1 (⟨#[49]⟩:ByteArray) false).bind fun p=>(tree_Tree_Put.f k 1 50 2 p.1 p.2.1 p.2.2.1 (⟨#[97]⟩:ByteArray) (⟨#[120]⟩:ByteArray) 4 (⟨#[]⟩:ByteArray) true).bind fun q=>if p.2.2.2=0∧q.2.2.2=0 then shardloglaw14_awake.tail k q.1 q.2.2.1 else none else none
theorem shardloglaw14_awake.mono_tail:∀ a0 a1 k,LeO (shardloglaw14_awake.tail k a0 a1) (shardloglaw14_awake.tail (k+1) a0 a1):=fun _ _ _=>LeO.bind (tree_Tree_Get.mono _ _ _ _ _ _) fun _=>LeO.bind (tree_Tree_Get.mono _ _ _ _ _ _) fun _=>LeO.bind (tree_Tree_Cells.mono _ _ _) fun _=>LeO.bind (tree_Tree_Scan.mono _ _ _ _ _ _) fun _=>LeO.refl _
theorem shardloglaw14_awake.mono:∀ k,LeO (shardloglaw14_awake.f k) (shardloglaw14_awake.f (k+1)):=fun _=>LeO.bind (LeO.refl _) fun _=>LeO.bind (LeO.refl _) fun _=>LeO.ite (LeO.bind (tree_Tree_Put.mono _ _ _ _ _ _ _ _ _ _ _ _) fun _=>LeO.bind (tree_Tree_Put.mono _ _ _ _ _ _ _ _ _ _ _ _) fun _=>LeO.ite (shardloglaw14_awake.mono_tail _ _ _) (LeO.refl _)) (LeO.refl _)
theorem shardloglaw14_awake.calls (k:Nat) (r:Bool) (w:World) (h:shardloglaw14_awake.f k=some r):Calls Try.prog 5 #[] w fun e w'=>e = .returned (.bool r)∧Below w.heap.size w w':=by
 have hu23:=Try.underlying23;have hu26:=Try.underlying26;have hu30:=Try.underlying30;have hu43:=Try.underlying43
 unfold shardloglaw14_awake.f at h
 replace h:=obm h;obtain ⟨a,x1,h⟩:=h;replace h:=obm h;obtain ⟨b,x2,h⟩:=h
 split at h
 case isFalse=>cases h
 rename_i hab
 obtain ⟨rfl,rfl⟩:=hab;replace h:=obm h;obtain ⟨⟨p1,p2,p3,p4⟩,x3,h⟩:=h;replace h:=obm h;obtain ⟨⟨q1,q2,q3,q4⟩,x4,h⟩:=h
 split at h
 case isFalse=>cases h
 rename_i hpq
 obtain ⟨hp,hq⟩:=hpq;replace hp:p4=0:=hp;replace hq:q4=0:=hq;subst hp;subst hq;replace h:shardloglaw14_awake.tail k q1 q3=some r:=h;replace x4:tree_Tree_Put.f k 1 50 2 p1 p2 p3 (⟨#[97]⟩:ByteArray) (⟨#[120]⟩:ByteArray) 4 (⟨#[]⟩:ByteArray) true=some (q1,q2,q3,0):=x4
 unfold shardloglaw14_awake.tail at h
 replace h:=obm h;obtain ⟨v,x5,h⟩:=h;replace h:=obm h;obtain ⟨i,x6,h⟩:=h;replace h:=obm h;obtain ⟨c,x7,h⟩:=h;replace h:=obm h;obtain ⟨s,x8,h⟩:=h
 split at h
 case isFalse=>cases h
 rename_i hc
 obtain ⟨hv4,hv3,hi4,hl,hc2,hs1⟩:=hc
 obtain rfl:=Option.some.inj h
 have X1:=aS x1;have X2:=aS x2;have X3:=aS x3;have X4:=aS x4;have X5:=aS x5;have X6:=aS x6;have X7:=aS x7;have X8:=aS x8;have HL:=aS hl;have HV4:=aS hv4;have HV3:=aS hv3;have HI4:=aS hi4;have HC2:=aS hc2;have HS1:=aS hs1;have HLL:Aside0 (q3.length<2199023255552):=aS (by have h1:=congrArg List.length hl;rw [List.length_map] at h1;rw [h1];decide);clear x1 x2 x3 x4 x5 x6 x7 x8 hl hv4 hv3 hi4 hc2 hs1 h
 go_enter Try.func5,Try.ntmps5
 go_wp2_with (first | (go_at_call 8;(with_reducible refine (tree_New.calls 1 50 2 true _ X1.out).mono ?_);rintro e_ w2 ⟨hb,_,ht⟩;obtain ⟨g,rfl,ht2⟩:=ht rfl;have HT:=aS ht2;have HB:=aS hb;clear ht ht2 hb) | (go_at_call 8;(with_reducible refine (tree_New.calls 0 0 0 false _ X2.out).mono ?_);rintro e_ w2 ⟨hb,he_,_⟩;obtain rfl:=he_ rfl;have n1_:=aS (HT.out.below hb);have n2_:=aS (below_step HB.out hb);clear HT HB hb;have HT:=n1_;have HB:=n2_;clear n1_ n2_) | (go_at_call 9;(with_reducible refine (tree_Tree_Put.calls k g _ (fun k=>w.heap.size≤k) 1 50 2 [] p1 0 p2 [] p3 (⟨#[97]⟩:ByteArray) (⟨#[120]⟩:ByteArray) 1 (⟨#[49]⟩:ByteArray) false 0 _ HT.out X3.out).mono ?_);rintro e_ w2 ⟨rfl,ha_,hc_⟩;have n1_:=aS (ha_.new HB.out.size);have n2_:=aS (hc_.below HB.out HB.out.size (fun _ hk=>hk));clear HT HB ha_ hc_;have HT:=n1_;have HB:=n2_;clear n1_ n2_) | (go_at_call 9;(with_reducible refine (tree_Tree_Put.calls k g _ (fun k=>w.heap.size≤k) 1 50 2 p1 q1 p2 q2 p3 q3 (⟨#[97]⟩:ByteArray) (⟨#[120]⟩:ByteArray) 4 (⟨#[]⟩:ByteArray) true 0 _ HT.out X4.out).mono ?_);rintro e_ w2 ⟨rfl,ha_,hc_⟩;have n1_:=aS (ha_.new HB.out.size);have n2_:=aS (hc_.below HB.out HB.out.size (fun _ hk=>hk));clear HT HB ha_ hc_;have HT:=n1_;have HB:=n2_;clear n1_ n2_) | (go_at_call 11;(with_reducible refine (tree_Tree_Get.calls k g _ _ 1 50 2 q1 q2 q3 (⟨#[97]⟩:ByteArray) (⟨#[120]⟩:ByteArray) 3 v _ HT.out X5.out).mono ?_);rintro e_ w2 ⟨he_,hb⟩;rw [HV4.out,HV3.out] at he_;subst he_;have n1_:=aS (HT.out.below hb);have n2_:=aS (below_step HB.out hb);clear HT HB hb;have HT:=n1_;have HB:=n2_;clear n1_ n2_) | (go_at_call 11;(with_reducible refine (tree_Tree_Get.calls k g _ _ 1 50 2 q1 q2 q3 (⟨#[97]⟩:ByteArray) (⟨#[120]⟩:ByteArray) 9 i _ HT.out X6.out).mono ?_);rintro e_ w2 ⟨he_,hb⟩;rw [HI4.out] at he_;subst he_;have n1_:=aS (HT.out.below hb);have n2_:=aS (below_step HB.out hb);clear HT HB hb;have HT:=n1_;have HB:=n2_;clear n1_ n2_) | (go_at_call 15;(with_reducible refine (tree_Tree_Levels.calls _ _ g 1 50 2 q1 q2 q3 _ HT.out HLL.out).mono ?_);rintro e_ w2 ⟨v2,rfl,ho,hb⟩;rw [HL.out] at ho;obtain ⟨gl,cpl,rfl,_,_,_⟩:=Kd.R_form ho (by decide);have hl0:w2.cell? ⟨gl,0,none⟩=some (.int .i64 2):=(Kd.R_cell (0:Int) ho 0 (by decide) (by decide)).1;clear ho;have n1_:=aS (HT.out.below hb);have n2_:=aS (below_step HB.out hb);clear HT HB hb;have HT:=n1_;have HB:=n2_;clear n1_ n2_) | (go_at_call 13;(with_reducible refine (tree_Tree_Cells.calls k _ _ g 1 50 2 q1 q2 q3 c _ HT.out X7.out).mono ?_);rintro e_ w2 ⟨v2,rfl,ho,hb⟩;obtain ⟨Ac,cc,rfl⟩:=Kd.R_slice ho;rw [HC2.out];clear ho;have n1_:=aS (HT.out.below hb);have n2_:=aS (below_step HB.out hb);clear HT HB hb;have HT:=n1_;have HB:=n2_;clear n1_ n2_) | (go_at_call 14;(with_reducible refine (tree_Tree_Scan.calls k g _ _ 1 50 2 q1 q2 q3 (⟨#[]⟩:ByteArray) (⟨#[]⟩:ByteArray) 2 s _ HT.out X8.out).mono ?_);rintro e_ w2 ⟨v2,rfl,ho,hb⟩;obtain ⟨As,cs,rfl⟩:=Kd.R_slice ho;rw [HS1.out];clear ho;have n1_:=aS (HT.out.below hb);have n2_:=aS (below_step HB.out hb);clear HT HB hb;have HT:=n1_;have HB:=n2_;clear n1_ n2_))
 go_ret
 exact ⟨rfl,HB.out⟩
def shardlogref08_Right.f (a0_0:ByteArray) (a0_1:ByteArray) (a0_2:Int) (a0_3:ByteArray) (a0_4:Bool):Option (Bool):=if (a0_0.size:Int)<1 then (some false) else (if (a0_0.size:Int) > 64 then (some false) else (if (a0_1.size:Int)<1 then (some false) else (if (a0_1.size:Int) > 64 then (some false) else (if a0_2<0 then (some false) else (if a0_2 > 4294967295 then (some false) else (if (a0_3.size:Int)≤256 then (if a0_4=true then (some (a0_3.toList == ([]:List UInt8))) else (some true)) else (some false)))))))
theorem shardlogref08_Right.calls (a0_0:ByteArray) (a0_1:ByteArray) (a0_2:Int) (a0_3:ByteArray) (a0_4:Bool) (r:Bool) (w:World) (h:shardlogref08_Right.f a0_0 a0_1 a0_2 a0_3 a0_4=some r) :
  Calls Try.prog 16 #[.agg #[.string a0_0,.string a0_1,.int .i64 a0_2,.string a0_3,.bool a0_4]] w fun e w'=>e = .returned (.bool r)∧Below w.heap.size w w':=by
 have hu26:=Try.underlying26;have HB:=aS (Below.refl w.heap.size w);have H:(if (a0_0.size:Int)<1 then (some false) else (if (a0_0.size:Int) > 64 then (some false) else (if (a0_1.size:Int)<1 then (some false) else (if (a0_1.size:Int) > 64 then (some false) else (if a0_2<0 then (some false) else (if a0_2 > 4294967295 then (some false) else (if (a0_3.size:Int)≤256 then (if a0_4=true then (some (a0_3.toList == ([]:List UInt8))) else (some true)) else (some false))))))))=some r:=h;clear h
 by_cases c2:(a0_0.size:Int)<1
 ·
  rw [if_pos c2] at H;have c2b0:decide ((a0_0.size:Int)<1)=true:=decide_eq_true c2;have c2b1:decide (a0_0.size<1)=true:=decide_eq_true (by omega);clear c2
  obtain rfl:=Option.some.inj H
  go_enter Try.func16,Try.ntmps16
  go_wp2_with (first | ((with_reducible refine gate_dst (N:=1) rfl ?_);(try (refine gate_guard (by rfl) ?_;dsimp only));refine box_event ?hg (N:=1) ?hd (cs:=#[.string a0_0,.string a0_1,.int .i64 a0_2,.string a0_3,.bool a0_4]) (t:=26) ?hr ?_;(case hd=>rfl);(case hg=>rfl);(case hr=>first | (go_simp;done) | (go_simp;rfl));intro gb516 hg w3 hbox hb;have BK516:=aS (hbox);have GW516:=bsize hg;have GE516:=bsize hg;replace HB:=bstep hb;clear hb hbox hg;have hcz4:=cK5 BK516))
  go_ret
  exact ⟨rf3,bel⟩
 ·
  rw [if_neg c2] at H;have c2b0:decide ((a0_0.size:Int)<1)=false:=decide_eq_false c2;have c2b1:decide (a0_0.size<1)=false:=decide_eq_false (by omega);clear c2
  by_cases c5:(a0_0.size:Int) > 64
  ·
   rw [if_pos c5] at H;have c5b0:decide (64<(a0_0.size:Int))=true:=decide_eq_true c5;have c5b1:decide (64<a0_0.size)=true:=decide_eq_true (by omega);clear c5
   obtain rfl:=Option.some.inj H
   go_enter Try.func16,Try.ntmps16
   go_wp2_with (first | ((with_reducible refine gate_dst (N:=1) rfl ?_);(try (refine gate_guard (by rfl) ?_;dsimp only));refine box_event ?hg (N:=1) ?hd (cs:=#[.string a0_0,.string a0_1,.int .i64 a0_2,.string a0_3,.bool a0_4]) (t:=26) ?hr ?_;(case hd=>rfl);(case hg=>rfl);(case hr=>first | (go_simp;done) | (go_simp;rfl));intro gb516 hg w6 hbox hb;have BK516:=aS (hbox);have GW516:=bsize hg;have GE516:=bsize hg;replace HB:=bstep hb;clear hb hbox hg;have hcz7:=cK5 BK516))
   go_ret
   exact ⟨rf3,bel⟩
  ·
   rw [if_neg c5] at H;have c5b0:decide (64<(a0_0.size:Int))=false:=decide_eq_false c5;have c5b1:decide (64<a0_0.size)=false:=decide_eq_false (by omega);clear c5
   by_cases c8:(a0_1.size:Int)<1
   ·
    rw [if_pos c8] at H;have c8b0:decide ((a0_1.size:Int)<1)=true:=decide_eq_true c8;have c8b1:decide (a0_1.size<1)=true:=decide_eq_true (by omega);clear c8
    obtain rfl:=Option.some.inj H
    go_enter Try.func16,Try.ntmps16
    go_wp2_with (first | ((with_reducible refine gate_dst (N:=1) rfl ?_);(try (refine gate_guard (by rfl) ?_;dsimp only));refine box_event ?hg (N:=1) ?hd (cs:=#[.string a0_0,.string a0_1,.int .i64 a0_2,.string a0_3,.bool a0_4]) (t:=26) ?hr ?_;(case hd=>rfl);(case hg=>rfl);(case hr=>first | (go_simp;done) | (go_simp;rfl));intro gb516 hg w9 hbox hb;have BK516:=aS (hbox);have GW516:=bsize hg;have GE516:=bsize hg;replace HB:=bstep hb;clear hb hbox hg;have hcz10:=cK5 BK516))
    go_ret
    exact ⟨rf3,bel⟩
   ·
    rw [if_neg c8] at H;have c8b0:decide ((a0_1.size:Int)<1)=false:=decide_eq_false c8;have c8b1:decide (a0_1.size<1)=false:=decide_eq_false (by omega);clear c8
    by_cases c11:(a0_1.size:Int) > 64
    ·
     rw [if_pos c11] at H;have c11b0:decide (64<(a0_1.size:Int))=true:=decide_eq_true c11;have c11b1:decide (64<a0_1.size)=true:=decide_eq_true (by omega);clear c11
     obtain rfl:=Option.some.inj H
     go_enter Try.func16,Try.ntmps16
     go_wp2_with (first | ((with_reducible refine gate_dst (N:=1) rfl ?_);(try (refine gate_guard (by rfl) ?_;dsimp only));refine box_event ?hg (N:=1) ?hd (cs:=#[.string a0_0,.string a0_1,.int .i64 a0_2,.string a0_3,.bool a0_4]) (t:=26) ?hr ?_;(case hd=>rfl);(case hg=>rfl);(case hr=>first | (go_simp;done) | (go_simp;rfl));intro gb516 hg w12 hbox hb;have BK516:=aS (hbox);have GW516:=bsize hg;have GE516:=bsize hg;replace HB:=bstep hb;clear hb hbox hg;have hcz13:=cK5 BK516))
     go_ret
     exact ⟨rf3,bel⟩
    ·
     rw [if_neg c11] at H;have c11b0:decide (64<(a0_1.size:Int))=false:=decide_eq_false c11;have c11b1:decide (64<a0_1.size)=false:=decide_eq_false (by omega);clear c11
     by_cases c14:a0_2<0
     ·
      rw [if_pos c14] at H;have c14b0:decide (a0_2<0)=true:=decide_eq_true c14;clear c14
      obtain rfl:=Option.some.inj H
      go_enter Try.func16,Try.ntmps16
      go_wp2_with (first | ((with_reducible refine gate_dst (N:=1) rfl ?_);(try (refine gate_guard (by rfl) ?_;dsimp only));refine box_event ?hg (N:=1) ?hd (cs:=#[.string a0_0,.string a0_1,.int .i64 a0_2,.string a0_3,.bool a0_4]) (t:=26) ?hr ?_;(case hd=>rfl);(case hg=>rfl);(case hr=>first | (go_simp;done) | (go_simp;rfl));intro gb516 hg w15 hbox hb;have BK516:=aS (hbox);have GW516:=bsize hg;have GE516:=bsize hg;replace HB:=bstep hb;clear hb hbox hg;have hcz16:=cK5 BK516))
      go_ret
      exact ⟨rf3,bel⟩
     ·
      rw [if_neg c14] at H;have c14b0:decide (a0_2<0)=false:=decide_eq_false c14;clear c14
      by_cases c17:a0_2 > 4294967295
      ·
       rw [if_pos c17] at H;have c17b0:decide (4294967295<a0_2)=true:=decide_eq_true c17;clear c17
       obtain rfl:=Option.some.inj H
       go_enter Try.func16,Try.ntmps16
       go_wp2_with (first | ((with_reducible refine gate_dst (N:=1) rfl ?_);(try (refine gate_guard (by rfl) ?_;dsimp only));refine box_event ?hg (N:=1) ?hd (cs:=#[.string a0_0,.string a0_1,.int .i64 a0_2,.string a0_3,.bool a0_4]) (t:=26) ?hr ?_;(case hd=>rfl);(case hg=>rfl);(case hr=>first | (go_simp;done) | (go_simp;rfl));intro gb516 hg w18 hbox hb;have BK516:=aS (hbox);have GW516:=bsize hg;have GE516:=bsize hg;replace HB:=bstep hb;clear hb hbox hg;have hcz19:=cK5 BK516))
       go_ret
       exact ⟨rf3,bel⟩
      ·
       rw [if_neg c17] at H;have c17b0:decide (4294967295<a0_2)=false:=decide_eq_false c17;clear c17
       by_cases c20:(a0_3.size:Int)≤256
       ·
        rw [if_pos c20] at H;have c20b0:decide ((a0_3.size:Int)≤256)=true:=decide_eq_true c20;have c20b1:decide (a0_3.size≤256)=true:=decide_eq_true (by omega);clear c20
        by_cases c21:a0_4=true
        ·
         subst c21
         replace H:=ifT H
         obtain rfl:=Option.some.inj H
         go_enter Try.func16,Try.ntmps16
         go_wp2_with (first | ((with_reducible refine gate_dst (N:=1) rfl ?_);(try (refine gate_guard (by rfl) ?_;dsimp only));refine box_event ?hg (N:=1) ?hd (cs:=#[.string a0_0,.string a0_1,.int .i64 a0_2,.string a0_3,.bool true]) (t:=26) ?hr ?_;(case hd=>rfl);(case hg=>rfl);(case hr=>first | (go_simp;done) | (go_simp;rfl));intro gb516 hg w22 hbox hb;have BK516:=aS (hbox);have GW516:=bsize hg;have GE516:=bsize hg;replace HB:=bstep hb;clear hb hbox hg;have hcz23:=cK5 BK516))
         go_ret
         exact ⟨rf3,bel⟩
        ·
         replace c21:=Bool.eq_false_iff.mpr c21;subst c21
         replace H:=ifF H
         obtain rfl:=Option.some.inj H
         go_enter Try.func16,Try.ntmps16
         go_wp2_with (first | ((with_reducible refine gate_dst (N:=1) rfl ?_);(try (refine gate_guard (by rfl) ?_;dsimp only));refine box_event ?hg (N:=1) ?hd (cs:=#[.string a0_0,.string a0_1,.int .i64 a0_2,.string a0_3,.bool false]) (t:=26) ?hr ?_;(case hd=>rfl);(case hg=>rfl);(case hr=>first | (go_simp;done) | (go_simp;rfl));intro gb516 hg w24 hbox hb;have BK516:=aS (hbox);have GW516:=bsize hg;have GE516:=bsize hg;replace HB:=bstep hb;clear hb hbox hg;have hcz25:=cK5 BK516))
         go_ret
         exact ⟨rf3,bel⟩
       ·
        rw [if_neg c20] at H;have c20b0:decide ((a0_3.size:Int)≤256)=false:=decide_eq_false c20;have c20b1:decide (a0_3.size≤256)=false:=decide_eq_false (by omega);clear c20
        obtain rfl:=Option.some.inj H
        go_enter Try.func16,Try.ntmps16
        go_wp2_with (first | ((with_reducible refine gate_dst (N:=1) rfl ?_);(try (refine gate_guard (by rfl) ?_;dsimp only));refine box_event ?hg (N:=1) ?hd (cs:=#[.string a0_0,.string a0_1,.int .i64 a0_2,.string a0_3,.bool a0_4]) (t:=26) ?hr ?_;(case hd=>rfl);(case hg=>rfl);(case hr=>first | (go_simp;done) | (go_simp;rfl));intro gb516 hg w26 hbox hb;have BK516:=aS (hbox);have GW516:=bsize hg;have GE516:=bsize hg;replace HB:=bstep hb;clear hb hbox hg;have hcz27:=cK5 BK516))
        go_ret
        exact ⟨rf3,bel⟩
def shardlogref08_Few.l0:Nat→List (S26)→Int→Option (Bool)
 | 0,_,_=>none
 | k+1,x0,x3=>if x3<(x0.length:Int) then (if 0≤x3 then ((shardlogref08_Right.f ((rd_T26 x0 x3).f0) ((rd_T26 x0 x3).f1) ((rd_T26 x0 x3).f2) ((rd_T26 x0 x3).f3) ((rd_T26 x0 x3).f4)).bind fun t518=>(if t518=true then (shardlogref08_Few.l0 k x0 (wrap64 (x3+1))) else (some false))) else (none)) else (some true)
def shardlogref08_Few.f (k:Nat) (l0:List (S26)):Option (Bool):=if (l0.length:Int) > 80 then (some false) else (shardlogref08_Few.l0 k l0 0)
theorem shardlogref08_Few.mono_l:∀ k,(∀ y0 y1,LeO (shardlogref08_Few.l0 k y0 y1) (shardlogref08_Few.l0 (k+1) y0 y1))
 | 0=>fun _ _ r h=>by simp [shardlogref08_Few.l0] at h
 | k+1=>by
  have ih0:=shardlogref08_Few.mono_l k
  ·
   intro y0 y1
   unfold shardlogref08_Few.l0
   exact lmo
theorem shardlogref08_Few.mono:∀ a0 k,LeO (shardlogref08_Few.f k a0) (shardlogref08_Few.f (k+1) a0):=by
 intro a0 k
 have ih0:=shardlogref08_Few.mono_l k
 unfold shardlogref08_Few.f
 exact lmo
theorem shardlogref08_Few.calls (k:Nat) (A0:Option Addr) (c0:Nat) (l0:List (S26)) (r:Bool) (w:World) (hr0:Kd.C k26 w A0 l0.length l0) (hc0:l0.length≤c0) (h:shardlogref08_Few.f k l0=some r) :
  Calls Try.prog 6 #[.slice A0 l0.length c0] w fun e w'=>e = .returned (.bool r)∧Below w.heap.size w w':=by
 have hu26:=Try.underlying26;have HR0:=aS hr0;have HC0:=aS hc0;clear hr0 hc0;have HB:=aS (Below.refl w.heap.size w);have H:(if (l0.length:Int) > 80 then (some false) else (shardlogref08_Few.l0 k l0 0))=some r:=h;clear h
 by_cases c2:(l0.length:Int) > 80
 ·
  rw [if_pos c2] at H;have c2b0:decide (80<(l0.length:Int))=true:=decide_eq_true c2;have c2b1:decide (80<l0.length)=true:=decide_eq_true (by omega);clear c2
  obtain rfl:=Option.some.inj H
  go_enter Try.func6,Try.ntmps6
  go_wp2
  go_ret
  exact ⟨rf3,bel⟩
 ·
  rw [if_neg c2] at H;have c2b0:decide (80<(l0.length:Int))=false:=decide_eq_false c2;have c2b1:decide (80<l0.length)=false:=decide_eq_false (by omega);clear c2
  have H':=aS H
  clear H
  go_enter Try.func6,Try.ntmps6
  go_wp2
  go_loopg [3] k (fun kq v3 w'=>∃ (x3_1:Int),v3 = .int .i64 x3_1∧Aside0 (shardlogref08_Few.l0 kq l0 x3_1=some r)∧Aside0 (kq≤k)∧Aside0 (Below w.heap.size w w'))
  case atStart=>exact ⟨(0),srf,H',⟨Nat.le_refl _⟩,⟨bel⟩⟩
  case round=>
   clear H';(try clear c2);(try clear c2b0);(try clear c2b1);obtain ⟨x3_1,rfl,HA,HK1,HB⟩:=hrel
   cases gk with
   | zero=>exact absurd HA.out (by simp [shardlogref08_Few.l0])
   | succ k1=>
    have H:=HA.out;clear HA
    simp only [shardlogref08_Few.l0] at H
    by_cases c3:x3_1<(l0.length:Int)
    ·
     rw [if_pos c3] at H;have c3b0:decide (x3_1<(l0.length:Int))=true:=decide_eq_true c3;clear c3
     by_cases c4:0≤x3_1
     ·
      rw [if_pos c4] at H;have c4b0:decide (0≤x3_1)=true:=decide_eq_true c4;clear c4;replace H:=obm H;obtain ⟨t518,A50,H⟩:=H;have A5:=aS A50;clear A50
      by_cases c6:t518=true
      ·
       subst c6
       replace H:=ifT H
       have H':=aS H
       clear H;have p517:0≤(x3_1:Int):=oda;have q517:x3_1<(l0.length:Int):=oda;obtain ⟨ad517,e517,hx517_0,hx517_1,hx517_2,hx517_3,hx517_4⟩:=at_T26 HR0.out x3_1 p517 q517;cases e517;replace hx517_0:=bx bel hx517_0;replace hx517_1:=bx bel hx517_1;replace hx517_2:=bx bel hx517_2;replace hx517_3:=bx bel hx517_3;replace hx517_4:=bx bel hx517_4;replace p517:=eq_true p517;replace q517:=eq_true q517
       go_wp2_with (first | ((with_reducible refine gate_callee (f:=16) rfl ?_);refine goesL_ (some 17) rfl rfl Try.func16 (by kernel_rfl) rfl #[.agg #[.string ((rd_T26 l0 x3_1).f0),.string ((rd_T26 l0 x3_1).f1),.int .i64 ((rd_T26 l0 x3_1).f2),.string ((rd_T26 l0 x3_1).f3),.bool ((rd_T26 l0 x3_1).f4)]] rfl agn ?_;(with_reducible refine (shardlogref08_Right.calls ((rd_T26 l0 x3_1).f0) ((rd_T26 l0 x3_1).f1) ((rd_T26 l0 x3_1).f2) ((rd_T26 l0 x3_1).f3) ((rd_T26 l0 x3_1).f4) true _ A5.out).mono ?_);rintro e w7 ⟨rfl,hb⟩;refine ⟨_,rfl,?_⟩;replace HB:=bstep hb;(try clear hb);(try clear hk);(try clear hi)))
       go_roundg k1
       case measure=>have:=HK1.out;omega
       case rel=>exact ⟨(wrap64 (x3_1+1)),srf,H',⟨by have:=HK1.out;omega⟩,⟨bel⟩⟩
      ·
       replace c6:=Bool.eq_false_iff.mpr c6;subst c6
       replace H:=ifF H
       obtain rfl:=Option.some.inj H
       have p517:0≤(x3_1:Int):=oda;have q517:x3_1<(l0.length:Int):=oda;obtain ⟨ad517,e517,hx517_0,hx517_1,hx517_2,hx517_3,hx517_4⟩:=at_T26 HR0.out x3_1 p517 q517;cases e517;replace hx517_0:=bx bel hx517_0;replace hx517_1:=bx bel hx517_1;replace hx517_2:=bx bel hx517_2;replace hx517_3:=bx bel hx517_3;replace hx517_4:=bx bel hx517_4;replace p517:=eq_true p517;replace q517:=eq_true q517
       go_wp2_with (first | ((with_reducible refine gate_callee (f:=16) rfl ?_);refine goesL_ (some 17) rfl rfl Try.func16 (by kernel_rfl) rfl #[.agg #[.string ((rd_T26 l0 x3_1).f0),.string ((rd_T26 l0 x3_1).f1),.int .i64 ((rd_T26 l0 x3_1).f2),.string ((rd_T26 l0 x3_1).f3),.bool ((rd_T26 l0 x3_1).f4)]] rfl agn ?_;(with_reducible refine (shardlogref08_Right.calls ((rd_T26 l0 x3_1).f0) ((rd_T26 l0 x3_1).f1) ((rd_T26 l0 x3_1).f2) ((rd_T26 l0 x3_1).f3) ((rd_T26 l0 x3_1).f4) false _ A5.out).mono ?_);rintro e w8 ⟨rfl,hb⟩;refine ⟨_,rfl,?_⟩;replace HB:=bstep hb;(try clear hb);(try clear hk);(try clear hi)))
       go_ret
       exact ⟨rf3,bel⟩
     ·
      rw [if_neg c4] at H;exact absurd H (by simp)
    ·
     rw [if_neg c3] at H;have c3b0:decide (x3_1<(l0.length:Int))=false:=decide_eq_false c3;clear c3
     obtain rfl:=Option.some.inj H
     go_wp2
     go_ret
     exact ⟨rf3,bel⟩
def shardloglaw14_right.f (a0_0:Int) (a0_1:Int) (a0_2:Int):Option (Bool):=if a0_0≥1 then (if a0_0≤4096 then (if a0_1≥1 then (if a0_1≤4096 then (if a0_2≥1 then (some (decide (a0_2≤8))) else (some false)) else (some false)) else (some false)) else (some false)) else (some false)
theorem shardloglaw14_right.calls (a0_0:Int) (a0_1:Int) (a0_2:Int) (r:Bool) (w:World) (h:shardloglaw14_right.f a0_0 a0_1 a0_2=some r) :
  Calls Try.prog 7 #[.agg #[.int .i64 a0_0,.int .i64 a0_1,.int .i64 a0_2]] w fun e w'=>e = .returned (.bool r)∧Below w.heap.size w w':=by
 have hu23:=Try.underlying23;have HB:=aS (Below.refl w.heap.size w);have H:(if a0_0≥1 then (if a0_0≤4096 then (if a0_1≥1 then (if a0_1≤4096 then (if a0_2≥1 then (some (decide (a0_2≤8))) else (some false)) else (some false)) else (some false)) else (some false)) else (some false))=some r:=h;clear h
 by_cases c2:a0_0≥1
 ·
  rw [if_pos c2] at H;have c2b0:decide (1≤a0_0)=true:=decide_eq_true c2;clear c2
  by_cases c3:a0_0≤4096
  ·
   rw [if_pos c3] at H;have c3b0:decide (a0_0≤4096)=true:=decide_eq_true c3;clear c3
   by_cases c4:a0_1≥1
   ·
    rw [if_pos c4] at H;have c4b0:decide (1≤a0_1)=true:=decide_eq_true c4;clear c4
    by_cases c5:a0_1≤4096
    ·
     rw [if_pos c5] at H;have c5b0:decide (a0_1≤4096)=true:=decide_eq_true c5;clear c5
     by_cases c6:a0_2≥1
     ·
      rw [if_pos c6] at H;have c6b0:decide (1≤a0_2)=true:=decide_eq_true c6;clear c6
      obtain rfl:=Option.some.inj H
      go_enter Try.func7,Try.ntmps7
      go_wp2_with (first | ((with_reducible refine gate_dst (N:=1) rfl ?_);refine box_event ?hg (N:=1) ?hd (cs:=#[.int .i64 a0_0,.int .i64 a0_1,.int .i64 a0_2]) (t:=23) ?hr ?_;(case hd=>rfl);(case hg=>rfl);(case hr=>first | (go_simp;done) | (go_simp;rfl));intro gb519 hg w7 hbox hb;have BK519:=aS (hbox);have GW519:=bsize hg;have GE519:=bsize hg;replace HB:=bstep hb;clear hb hbox hg;have hcz8:=cK3 BK519))
      go_ret
      exact ⟨rf3,bel⟩
     ·
      rw [if_neg c6] at H;have c6b0:decide (1≤a0_2)=false:=decide_eq_false c6;clear c6
      obtain rfl:=Option.some.inj H
      go_enter Try.func7,Try.ntmps7
      go_wp2_with (first | ((with_reducible refine gate_dst (N:=1) rfl ?_);refine box_event ?hg (N:=1) ?hd (cs:=#[.int .i64 a0_0,.int .i64 a0_1,.int .i64 a0_2]) (t:=23) ?hr ?_;(case hd=>rfl);(case hg=>rfl);(case hr=>first | (go_simp;done) | (go_simp;rfl));intro gb519 hg w9 hbox hb;have BK519:=aS (hbox);have GW519:=bsize hg;have GE519:=bsize hg;replace HB:=bstep hb;clear hb hbox hg;have hcz10:=cK3 BK519))
      go_ret
      exact ⟨rf3,bel⟩
    ·
     rw [if_neg c5] at H;have c5b0:decide (a0_1≤4096)=false:=decide_eq_false c5;clear c5
     obtain rfl:=Option.some.inj H
     go_enter Try.func7,Try.ntmps7
     go_wp2_with (first | ((with_reducible refine gate_dst (N:=1) rfl ?_);refine box_event ?hg (N:=1) ?hd (cs:=#[.int .i64 a0_0,.int .i64 a0_1,.int .i64 a0_2]) (t:=23) ?hr ?_;(case hd=>rfl);(case hg=>rfl);(case hr=>first | (go_simp;done) | (go_simp;rfl));intro gb519 hg w11 hbox hb;have BK519:=aS (hbox);have GW519:=bsize hg;have GE519:=bsize hg;replace HB:=bstep hb;clear hb hbox hg;have hcz12:=cK3 BK519))
     go_ret
     exact ⟨rf3,bel⟩
   ·
    rw [if_neg c4] at H;have c4b0:decide (1≤a0_1)=false:=decide_eq_false c4;clear c4
    obtain rfl:=Option.some.inj H
    go_enter Try.func7,Try.ntmps7
    go_wp2_with (first | ((with_reducible refine gate_dst (N:=1) rfl ?_);refine box_event ?hg (N:=1) ?hd (cs:=#[.int .i64 a0_0,.int .i64 a0_1,.int .i64 a0_2]) (t:=23) ?hr ?_;(case hd=>rfl);(case hg=>rfl);(case hr=>first | (go_simp;done) | (go_simp;rfl));intro gb519 hg w13 hbox hb;have BK519:=aS (hbox);have GW519:=bsize hg;have GE519:=bsize hg;replace HB:=bstep hb;clear hb hbox hg;have hcz14:=cK3 BK519))
    go_ret
    exact ⟨rf3,bel⟩
  ·
   rw [if_neg c3] at H;have c3b0:decide (a0_0≤4096)=false:=decide_eq_false c3;clear c3
   obtain rfl:=Option.some.inj H
   go_enter Try.func7,Try.ntmps7
   go_wp2_with (first | ((with_reducible refine gate_dst (N:=1) rfl ?_);refine box_event ?hg (N:=1) ?hd (cs:=#[.int .i64 a0_0,.int .i64 a0_1,.int .i64 a0_2]) (t:=23) ?hr ?_;(case hd=>rfl);(case hg=>rfl);(case hr=>first | (go_simp;done) | (go_simp;rfl));intro gb519 hg w15 hbox hb;have BK519:=aS (hbox);have GW519:=bsize hg;have GE519:=bsize hg;replace HB:=bstep hb;clear hb hbox hg;have hcz16:=cK3 BK519))
   go_ret
   exact ⟨rf3,bel⟩
 ·
  rw [if_neg c2] at H;have c2b0:decide (1≤a0_0)=false:=decide_eq_false c2;clear c2
  obtain rfl:=Option.some.inj H
  go_enter Try.func7,Try.ntmps7
  go_wp2_with (first | ((with_reducible refine gate_dst (N:=1) rfl ?_);refine box_event ?hg (N:=1) ?hd (cs:=#[.int .i64 a0_0,.int .i64 a0_1,.int .i64 a0_2]) (t:=23) ?hr ?_;(case hd=>rfl);(case hg=>rfl);(case hr=>first | (go_simp;done) | (go_simp;rfl));intro gb519 hg w17 hbox hb;have BK519:=aS (hbox);have GW519:=bsize hg;have GE519:=bsize hg;replace HB:=bstep hb;clear hb hbox hg;have hcz18:=cK3 BK519))
  go_ret
  exact ⟨rf3,bel⟩
def shardlogref08_Same.l0:Nat→List (S26)→List (S26)→Int→Option (Bool)
 | 0,_,_,_=>none
 | k+1,x0,x1,x5=>if x5<(x0.length:Int) then (if 0≤x5 then (if x5<(x1.length:Int) then (if (!((((rd_T26 x0 x5).f0).toList) == (((rd_T26 x1 x5).f0).toList)) || (!((((rd_T26 x0 x5).f1).toList) == (((rd_T26 x1 x5).f1).toList)) || (!(((rd_T26 x0 x5).f2) == ((rd_T26 x1 x5).f2)) || (!((((rd_T26 x0 x5).f3).toList) == (((rd_T26 x1 x5).f3).toList)) || (!(((rd_T26 x0 x5).f4) == ((rd_T26 x1 x5).f4)))))))=true then (some false) else (shardlogref08_Same.l0 k x0 x1 (wrap64 (x5+1)))) else (none)) else (none)) else (some true)
def shardlogref08_Same.f (k:Nat) (l0:List (S26)) (l1:List (S26)):Option (Bool):=if (l0.length:Int)=(l1.length:Int) then (shardlogref08_Same.l0 k l0 l1 0) else (some false)
theorem shardlogref08_Same.mono_l:∀ k,(∀ y0 y1 y2,LeO (shardlogref08_Same.l0 k y0 y1 y2) (shardlogref08_Same.l0 (k+1) y0 y1 y2))
 | 0=>fun _ _ _ r h=>by simp [shardlogref08_Same.l0] at h
 | k+1=>by
  have ih0:=shardlogref08_Same.mono_l k
  ·
   intro y0 y1 y2
   unfold shardlogref08_Same.l0
   exact lmo
theorem shardlogref08_Same.mono:∀ a0 a1 k,LeO (shardlogref08_Same.f k a0 a1) (shardlogref08_Same.f (k+1) a0 a1):=by
 intro a0 a1 k
 have ih0:=shardlogref08_Same.mono_l k
 unfold shardlogref08_Same.f
 exact lmo
theorem shardlogref08_Same.calls (k:Nat) (A0:Option Addr) (c0:Nat) (l0:List (S26)) (A1:Option Addr) (c1:Nat) (l1:List (S26)) (r:Bool) (w:World) (hr0:Kd.C k26 w A0 l0.length l0) (hc0:l0.length≤c0) (hr1:Kd.C k26 w A1 l1.length l1) (hc1:l1.length≤c1) (h:shardlogref08_Same.f k l0 l1=some r) :
  Calls Try.prog 12 #[.slice A0 l0.length c0,.slice A1 l1.length c1] w fun e w'=>e = .returned (.bool r)∧Drawn0 w w':=by
 have hu26:=Try.underlying26;have HR0:=aS hr0;have HC0:=aS hc0;clear hr0 hc0;have HR1:=aS hr1;have HC1:=aS hc1;clear hr1 hc1;have H:(if (l0.length:Int)=(l1.length:Int) then (shardlogref08_Same.l0 k l0 l1 0) else (some false))=some r:=h;clear h
 by_cases c3:(l0.length:Int)=(l1.length:Int)
 ·
  rw [if_pos c3] at H;obtain ⟨c3b0,c3b1⟩:=eqT c3
  have c3b2:(l0.length == l1.length)=true:=by first | simpa using c3 | (simp at c3 ⊢;omega)
  clear c3
  have H':=aS H
  clear H
  go_enter Try.func12,Try.ntmps12
  go_wp2
  repeat (go_quiet (fail);try go_wp2)
  go_loopg [5] k (fun kq v5 w'=>∃ (x5_1:Int),v5 = .int .i64 x5_1∧Aside0 (shardlogref08_Same.l0 kq l0 l1 x5_1=some r)∧Aside0 (kq≤k)∧Drawn0 w w')
  case atStart=>exact ⟨(0),srf,H',⟨Nat.le_refl _⟩,by repeat (first | exact Drawn0.refl _ | apply Drawn0.step)⟩
  case round=>
   clear H';(try clear c1);(try clear c3);(try clear c3b0);(try clear c3b1);(try clear c3b2);obtain ⟨x5_1,rfl,HA,HK1,⟨m1,rfl⟩⟩:=hrel
   cases gk with
   | zero=>exact absurd HA.out (by simp [shardlogref08_Same.l0])
   | succ k1=>
    have H:=HA.out;clear HA
    simp only [shardlogref08_Same.l0] at H
    by_cases c4:x5_1<(l0.length:Int)
    ·
     rw [if_pos c4] at H;have c4b0:decide (x5_1<(l0.length:Int))=true:=decide_eq_true c4;clear c4
     by_cases c5:0≤x5_1
     ·
      rw [if_pos c5] at H;have c5b0:decide (0≤x5_1)=true:=decide_eq_true c5;clear c5
      by_cases c6:x5_1<(l1.length:Int)
      ·
       rw [if_pos c6] at H;have c6b0:decide (x5_1<(l1.length:Int))=true:=decide_eq_true c6;clear c6
       by_cases c7:(!((((rd_T26 l0 x5_1).f0).toList) == (((rd_T26 l1 x5_1).f0).toList)) || (!((((rd_T26 l0 x5_1).f1).toList) == (((rd_T26 l1 x5_1).f1).toList)) || (!(((rd_T26 l0 x5_1).f2) == ((rd_T26 l1 x5_1).f2)) || (!((((rd_T26 l0 x5_1).f3).toList) == (((rd_T26 l1 x5_1).f3).toList)) || (!(((rd_T26 l0 x5_1).f4) == ((rd_T26 l1 x5_1).f4)))))))=true
       ·
        rw [if_pos c7] at H;have c7b0:(!((((rd_T26 l0 x5_1).f0).toList) == (((rd_T26 l1 x5_1).f0).toList)) || (!((((rd_T26 l0 x5_1).f1).toList) == (((rd_T26 l1 x5_1).f1).toList)) || (!(((rd_T26 l0 x5_1).f2) == ((rd_T26 l1 x5_1).f2)) || (!((((rd_T26 l0 x5_1).f3).toList) == (((rd_T26 l1 x5_1).f3).toList)) || (!(((rd_T26 l0 x5_1).f4) == ((rd_T26 l1 x5_1).f4)))))))=true:=c7;clear c7
        obtain rfl:=Option.some.inj H
        have p520:0≤(x5_1:Int):=oda;have q520:x5_1<(l0.length:Int):=oda;obtain ⟨ad520,e520,hx520_0,hx520_1,hx520_2,hx520_3,hx520_4⟩:=at_T26 HR0.out x5_1 p520 q520;cases e520;replace p520:=eq_true p520;replace q520:=eq_true q520;have p521:0≤(x5_1:Int):=oda;have q521:x5_1<(l1.length:Int):=oda;obtain ⟨ad521,e521,hx521_0,hx521_1,hx521_2,hx521_3,hx521_4⟩:=at_T26 HR1.out x5_1 p521 q521;cases e521;replace p521:=eq_true p521;replace q521:=eq_true q521
        go_wp2
        repeat (go_quiet (fail);try go_wp2)
        go_ret
        exact ⟨by first | rfl | (simp;done) | (simp [*];done) | (simp;exact (by decide:∀ a_ b_:Bool,(a_ == b_)=(!a_ != b_)) _ _),by repeat (first | exact Drawn0.refl _ | apply Drawn0.step)⟩
       ·
        rw [if_neg c7] at H
        have c7b0:(!((((rd_T26 l0 x5_1).f0).toList) == (((rd_T26 l1 x5_1).f0).toList)) || (!((((rd_T26 l0 x5_1).f1).toList) == (((rd_T26 l1 x5_1).f1).toList)) || (!(((rd_T26 l0 x5_1).f2) == ((rd_T26 l1 x5_1).f2)) || (!((((rd_T26 l0 x5_1).f3).toList) == (((rd_T26 l1 x5_1).f3).toList)) || (!(((rd_T26 l0 x5_1).f4) == ((rd_T26 l1 x5_1).f4)))))))=false:=by simpa using c7
        clear c7
        have H':=aS H
        clear H;have p520:0≤(x5_1:Int):=oda;have q520:x5_1<(l0.length:Int):=oda;obtain ⟨ad520,e520,hx520_0,hx520_1,hx520_2,hx520_3,hx520_4⟩:=at_T26 HR0.out x5_1 p520 q520;cases e520;replace p520:=eq_true p520;replace q520:=eq_true q520;have p521:0≤(x5_1:Int):=oda;have q521:x5_1<(l1.length:Int):=oda;obtain ⟨ad521,e521,hx521_0,hx521_1,hx521_2,hx521_3,hx521_4⟩:=at_T26 HR1.out x5_1 p521 q521;cases e521;replace p521:=eq_true p521;replace q521:=eq_true q521
        go_wp2
        repeat (go_quiet (fail);try go_wp2)
        go_roundg k1
        case measure=>have:=HK1.out;omega
        case rel=>exact ⟨(wrap64 (x5_1+1)),srf,H',⟨by have:=HK1.out;omega⟩,by repeat (first | exact Drawn0.refl _ | apply Drawn0.step)⟩
      ·
       rw [if_neg c6] at H;exact absurd H (by simp)
     ·
      rw [if_neg c5] at H;exact absurd H (by simp)
    ·
     rw [if_neg c4] at H;have c4b0:decide (x5_1<(l0.length:Int))=false:=decide_eq_false c4;clear c4
     obtain rfl:=Option.some.inj H
     go_wp2
     repeat (go_quiet (fail);try go_wp2)
     go_ret
     exact ⟨by first | rfl | (simp;done) | (simp [*];done) | (simp;exact (by decide:∀ a_ b_:Bool,(a_ == b_)=(!a_ != b_)) _ _),by repeat (first | exact Drawn0.refl _ | apply Drawn0.step)⟩
 ·
  rw [if_neg c3] at H;obtain ⟨c3b0,c3b1⟩:=eqF c3
  have c3b2:(l0.length == l1.length)=false:=by first | simpa using c3 | (simp at c3 ⊢;omega)
  obtain rfl:=Option.some.inj H
  go_enter Try.func12,Try.ntmps12
  go_wp2
  repeat (go_quiet (fail);try go_wp2)
  go_ret
  exact ⟨by first | rfl | (simp;done) | (simp [*];done) | (simp;exact (by decide:∀ a_ b_:Bool,(a_ == b_)=(!a_ != b_)) _ _),by repeat (first | exact Drawn0.refl _ | apply Drawn0.step)⟩
structure shardloglaw14_TreeShelves.Pair (w:World) (base:Nat) (oA oB:Nat→Prop) (gA gB:Nat) (s1 s2 s3 u1 u2 u3:Int) (x y:(List S26 × Int × List (List (List S26 × List (List S26) × List Int)))):Prop where
 d:∀ k,oA k→¬ oB k
 la:∀ k,oA k→base≤k∧k<w.heap.size
 lb:∀ k,oB k→base≤k∧k<w.heap.size
 a:tree_New.At w base oA gA s1 s2 s3 x.1 x.2.1 x.2.2
 b:tree_New.At w base oB gB u1 u2 u3 y.1 y.2.1 y.2.2
def shardloglaw14_TreeShelves.PE (w:World) (base gA gB:Nat) (s1 s2 s3 u1 u2 u3:Int) (x y:(List S26 × Int × List (List (List S26 × List (List S26) × List Int)))):Prop:=∃ oA oB,shardloglaw14_TreeShelves.Pair w base oA oB gA gB s1 s2 s3 u1 u2 u3 x y
section
variable {w w2:World} {base:Nat} {oA oB:Nat→Prop} {gA gB:Nat} {s1 s2 s3 u1 u2 u3:Int} {x y x' y':(List S26 × Int × List (List (List S26 × List (List S26) × List Int)))}
theorem shardloglaw14_TreeShelves.Pair.swap (h:shardloglaw14_TreeShelves.Pair w base oA oB gA gB s1 s2 s3 u1 u2 u3 x y):shardloglaw14_TreeShelves.Pair w base oB oA gB gA u1 u2 u3 s1 s2 s3 y x:=⟨fun k hb ha=>h.d k ha hb,h.lb,h.la,h.b,h.a⟩
theorem shardloglaw14_TreeShelves.Pair.left (h:shardloglaw14_TreeShelves.Pair w base oA oB gA gB s1 s2 s3 u1 u2 u3 x y) (ha:tree_New.At w2 base (fun k=>oA k∨w.heap.size≤k) gA s1 s2 s3 x'.1 x'.2.1 x'.2.2) (hc:tree_New.Chg w w2 oA) (hb:base≤w.heap.size):shardloglaw14_TreeShelves.Pair w2 base (fun k=>(oA k∨w.heap.size≤k)∧k<w2.heap.size) oB gA gB s1 s2 s3 u1 u2 u3 x' y:=
 ⟨fun k hk ho=>hk.1.elim (fun h1=>h.d k h1 ho) (fun h1=>Nat.not_le_of_lt (h.lb k ho).2 h1),fun k hk=>⟨hk.1.elim (fun h1=>(h.la k h1).1) (Nat.le_trans hb),hk.2⟩,fun k hk=>⟨(h.lb k hk).1,Nat.lt_of_lt_of_le (h.lb k hk).2 hc.size⟩,ha.bound,h.b.step (fun k hk hlt=>hc.block k hlt (fun h1=>h.d k h1 hk))⟩
theorem shardloglaw14_TreeShelves.PE.below (h:shardloglaw14_TreeShelves.PE w base gA gB s1 s2 s3 u1 u2 u3 x y) (hb:Below w.heap.size w w2):shardloglaw14_TreeShelves.PE w2 base gA gB s1 s2 s3 u1 u2 u3 x y:=by
 obtain ⟨oA,oB,h⟩:=h;exact ⟨oA,oB,h.d,fun k hk=>⟨(h.la k hk).1,Nat.lt_of_lt_of_le (h.la k hk).2 hb.size⟩,fun k hk=>⟨(h.lb k hk).1,Nat.lt_of_lt_of_le (h.lb k hk).2 hb.size⟩,h.a.below hb,h.b.below hb⟩
theorem shardloglaw14_TreeShelves.PE.new (hA:tree_New.At w base (fun k=>base≤k) gA s1 s2 s3 x.1 x.2.1 x.2.2) (hb:Below w.heap.size w w2) (hB:tree_New.At w2 w.heap.size (fun k=>w.heap.size≤k) gB u1 u2 u3 y.1 y.2.1 y.2.2) (hge:base≤w.heap.size):shardloglaw14_TreeShelves.PE w2 base gA gB s1 s2 s3 u1 u2 u3 x y:=
 ⟨_,_,fun k hk ho=>Nat.not_le_of_lt hk.2 ho.1,fun k hk=>⟨hk.1,Nat.lt_of_lt_of_le hk.2 hb.size⟩,fun k hk=>⟨Nat.le_trans hge hk.1,hk.2⟩,hA.bound.below hb,(hB.lower hge).bound⟩
end
theorem shardloglaw14_TreeShelves.ways {a b c d e f:Bool} (h:¬ (a && !b && c && d && !e && !f)=true):a=false∨(a=true∧b=true)∨(a=true∧b=false∧c=false)∨(a=true∧b=false∧c=true∧d=false)∨(a=true∧b=false∧c=true∧d=true∧e=true)∨(a=true∧b=false∧c=true∧d=true∧e=false∧f=true):=by
 revert h
 cases a<;>cases b<;>cases c<;>cases d<;>cases e<;>cases f<;>decide
theorem shardloglaw14_TreeShelves.way {a b c d e f:Bool} (h:(a && !b && c && d && !e && !f)=true):a=true∧b=false∧c=true∧d=true∧e=false∧f=false:=by
 revert h
 cases a<;>cases b<;>cases c<;>cases d<;>cases e<;>cases f<;>decide
def shardloglaw14_TreeShelves.lp (k:Nat) (s1 s2 s3 u1 u2 u3:Int):Nat→List S26→(List S26 × Int × List (List (List S26 × List (List S26) × List Int)))→(List S26 × Int × List (List (List S26 × List (List S26) × List Int)))→Option ((List S26 × Int × List (List (List S26 × List (List S26) × List Int))) × (List S26 × Int × List (List (List S26 × List (List S26) × List Int))))
 | _,[],x,y=>some (x,y)
 | i,c :: r,x,y=>(tree_Tree_Put.f k s1 s2 s3 x.1 x.2.1 x.2.2 c.f0 c.f1 c.f2 c.f3 c.f4).bind fun p=>(tree_Tree_Put.f k u1 u2 u3 y.1 y.2.1 y.2.2 c.f0 c.f1 c.f2 c.f3 c.f4).bind fun q=>if i % 7=3 then (tree_Tree_Flush.f k u2 u3 q.1 q.2.1 q.2.2.1).bind fun z=>shardloglaw14_TreeShelves.lp k s1 s2 s3 u1 u2 u3 (i+1) r (p.1,p.2.1,p.2.2.1) z else shardloglaw14_TreeShelves.lp k s1 s2 s3 u1 u2 u3 (i+1) r (p.1,p.2.1,p.2.2.1) (q.1,q.2.1,q.2.2.1)
def shardloglaw14_TreeShelves.tail (k:Nat) (x y:(List S26 × Int × List (List (List S26 × List (List S26) × List Int)))) (a b:ByteArray) (t:Int):Option Bool:=
 (tree_Tree_Get.f k x.1 x.2.2 a b t).bind fun v=>(tree_Tree_Get.f k y.1 y.2.2 a b t).bind fun v2=>(tree_Tree_Cells.f k x.1 x.2.2).bind fun c=>(tree_Tree_Cells.f k y.1 y.2.2).bind fun d=>(shardlogref08_Same.f k c d).bind fun e=>(tree_Tree_Scan.f k x.1 x.2.2 a (⟨#[]⟩:ByteArray) t).bind fun l=>(tree_Tree_Scan.f k y.1 y.2.2 a (⟨#[]⟩:ByteArray) t).bind fun m=>(shardlogref08_Same.f k l m).bind fun g=>if v2.f3=v.f3∧v2.f4=v.f4∧e=true∧g=true then some true else none
def shardloglaw14_TreeShelves.main (k:Nat) (s1 s2 s3 u1 u2 u3:Int) (l:List S26) (a b:ByteArray) (t:Int):Option Bool:=
 (tree_New.f s1 s2 s3).bind fun p=>(tree_New.f u1 u2 u3).bind fun q=>if p=true∧q=true then (shardloglaw14_TreeShelves.lp k s1 s2 s3 u1 u2 u3 0 l ([],0,[]) ([],0,[])).bind fun z=>shardloglaw14_TreeShelves.tail k z.1 z.2 a b t else none
def shardloglaw14_TreeShelves.f (k:Nat) (s1 s2 s3 u1 u2 u3:Int) (l:List S26) (a b:ByteArray) (t:Int) (_:ByteArray) (_:Bool):Option Bool:=
 (shardloglaw14_awake.f k).bind fun w=>if w=true then (shardlogref08_Few.f k l).bind fun o=>(shardloglaw14_right.f s1 s2 s3).bind fun p=>(shardloglaw14_right.f u1 u2 u3).bind fun q=>if (o && !decide (40<l.length) && p && q && !decide (100<a.size) && !decide (100<b.size))=true then shardloglaw14_TreeShelves.main k s1 s2 s3 u1 u2 u3 l a b t else some true else none
theorem shardloglaw14_TreeShelves.mono_lp (k:Nat) (s1 s2 s3 u1 u2 u3:Int):∀ i l x y,LeO (shardloglaw14_TreeShelves.lp k s1 s2 s3 u1 u2 u3 i l x y) (shardloglaw14_TreeShelves.lp (k+1) s1 s2 s3 u1 u2 u3 i l x y)
 | _,[],_,_=>LeO.refl _
 | i,c :: r,_,_=>LeO.bind (tree_Tree_Put.mono _ _ _ _ _ _ _ _ _ _ _ _) fun _=>LeO.bind (tree_Tree_Put.mono _ _ _ _ _ _ _ _ _ _ _ _) fun _=>LeO.ite (LeO.bind (tree_Tree_Flush.mono _ _ _ _ _ _) fun _=>shardloglaw14_TreeShelves.mono_lp k s1 s2 s3 u1 u2 u3 _ r _ _) (shardloglaw14_TreeShelves.mono_lp k s1 s2 s3 u1 u2 u3 _ r _ _)
theorem shardloglaw14_TreeShelves.mono:∀ a0 a1 a2 a3 a4 a5 a6 a7 a8 a9 a10 a11 k,LeO (shardloglaw14_TreeShelves.f k a0 a1 a2 a3 a4 a5 a6 a7 a8 a9 a10 a11) (shardloglaw14_TreeShelves.f (k+1) a0 a1 a2 a3 a4 a5 a6 a7 a8 a9 a10 a11):=fun _ _ _ _ _ _ _ _ _ _ _ _ _=>LeO.bind (shardloglaw14_awake.mono _) fun _=>LeO.ite (LeO.bind (shardlogref08_Few.mono _ _) fun _=>LeO.bind (LeO.refl _) fun _=>LeO.bind (LeO.refl _) fun _=>LeO.ite (LeO.bind (LeO.refl _) fun _=>LeO.bind (LeO.refl _) fun _=>LeO.ite (LeO.bind (shardloglaw14_TreeShelves.mono_lp _ _ _ _ _ _ _ _ _ _ _) fun _=>LeO.bind (tree_Tree_Get.mono _ _ _ _ _ _) fun _=>LeO.bind (tree_Tree_Get.mono _ _ _ _ _ _) fun _=>LeO.bind (tree_Tree_Cells.mono _ _ _) fun _=>LeO.bind (tree_Tree_Cells.mono _ _ _) fun _=>LeO.bind (shardlogref08_Same.mono _ _ _) fun _=>LeO.bind (tree_Tree_Scan.mono _ _ _ _ _ _) fun _=>LeO.bind (tree_Tree_Scan.mono _ _ _ _ _ _) fun _=>LeO.bind (shardlogref08_Same.mono _ _ _) fun _=>LeO.refl _) (LeO.refl _)) (LeO.refl _)) (LeO.refl _)
theorem shardloglaw14_TreeShelves.calls (k:Nat) (s1 s2 s3 u1 u2 u3:Int) (A0:Option Addr) (cp:Nat) (l:List S26) (c0 c1:ByteArray) (c2:Int) (c3:ByteArray) (c4 r:Bool) (w:World) (hr0:Kd.C k26 w A0 l.length l) (hc0:l.length≤cp) (h:shardloglaw14_TreeShelves.f k s1 s2 s3 u1 u2 u3 l c0 c1 c2 c3 c4=some r) :
  Calls Try.prog 3 #[.agg #[.int .i64 s1,.int .i64 s2,.int .i64 s3],.agg #[.int .i64 u1,.int .i64 u2,.int .i64 u3],.slice A0 l.length cp,.agg #[.string c0,.string c1,.int .i64 c2,.string c3,.bool c4]] w fun e w'=>e = .returned (.bool r)∧Below w.heap.size w w':=by
 have hu23:=Try.underlying23;have hu24:=Try.underlying24;have hu26:=Try.underlying26;have hu30:=Try.underlying30;have HR0:=aS hr0;have HC:=aS hc0;have H:=aS h;clear hr0 hc0 h
 go_enter Try.func3,Try.ntmps3
 refine wp_seq_k (fun K_ hK_=>?_)
 go_cut [4,5,7,8] (fun v4 v5 v7 v8 wc=>∃ p4 p5 p7:Nat,v4 = .pointer (some ⟨p4,0,none⟩)∧v5 = .pointer (some ⟨p5,0,none⟩)∧v7 = .pointer (some ⟨p7,0,none⟩)∧v8 = .bool false∧Aside0 (wc.heap[p4]? = some (.cells #[.int .i64 s1,.int .i64 s2,.int .i64 s3] 23 (0,0)))∧Aside0 (wc.heap[p5]? = some (.cells #[.int .i64 u1,.int .i64 u2,.int .i64 u3] 23 (0,0)))∧Aside0 (wc.heap[p7]? = some (.cells #[.string c0,.string c1,.int .i64 c2,.string c3,.bool c4] 26 (0,0)))∧Aside0 (Below w.heap.size w wc))
 case first=>
  clear H
  go_wp2_with (first | ((with_reducible refine gate_dst (N:=4) rfl ?_);refine box_event ?hg (N:=4) ?hd (cs:=#[.int .i64 s1,.int .i64 s2,.int .i64 s3]) (t:=23) ?hr ?_;(case hd=>rfl);(case hg=>rfl);(case hr=>(first | (go_simp;done) | (go_simp;rfl)));intro p4 hg w4_ hb hbl;have B4:=aS hb;have HB:=aS hbl;clear hg hb hbl) | ((with_reducible refine gate_dst (N:=5) rfl ?_);refine box_event ?hg (N:=5) ?hd (cs:=#[.int .i64 u1,.int .i64 u2,.int .i64 u3]) (t:=23) ?hr ?_;(case hd=>rfl);(case hg=>rfl);(case hr=>(first | (go_simp;done) | (go_simp;rfl)));intro p5 hg w5_ hb hbl;have B5:=aS hb;have n1_:=aS (blk_below B4.out hbl);have n2_:=aS (below_step HB.out hbl);clear B4 HB hg hb hbl;have B4:=n1_;have HB:=n2_;clear n1_ n2_) | ((with_reducible refine gate_dst (N:=7) rfl ?_);refine box_event ?hg (N:=7) ?hd (cs:=#[.string c0,.string c1,.int .i64 c2,.string c3,.bool c4]) (t:=26) ?hr ?_;(case hd=>rfl);(case hg=>rfl);(case hr=>(first | (go_simp;done) | (go_simp;rfl)));intro p7 hg w7_ hb hbl;have B7:=aS hb;have n1_:=aS (blk_below B4.out hbl);have n2_:=aS (blk_below B5.out hbl);have n3_:=aS (below_step HB.out hbl);clear B4 B5 HB hg hb hbl;have B4:=n1_;have B5:=n2_;have HB:=n3_;clear n1_ n2_ n3_))
  go_meet
  case rel=>exact ⟨p4,p5,p7,rfl,rfl,rfl,rfl,B4,B5,B7,HB⟩
 obtain ⟨p4,p5,p7,rfl,rfl,rfl,rfl,B4,B5,B7,HB0⟩:=hcut
 rename World=>w0
 refine hK_ _ _ ?_;have HR:=aS (Kd.C_below HR0.out HB0.out);have HB:=aS (Below.refl w0.heap.size w0);have q4:=cK3 B4;have q5:=cK3 B5;have q7:=cK5 B7;have h:=H.out;clear H HR0
 unfold shardloglaw14_TreeShelves.f at h
 replace h:=obm h;obtain ⟨t,x1,h⟩:=h
 cases t with
 | false=>rw [if_neg Bool.false_ne_true] at h;cases h
 | true=>
 rw [if_pos rfl] at h;replace h:=obm h;obtain ⟨o,x2,h⟩:=h;replace h:=obm h;obtain ⟨p,x3,h⟩:=h;replace h:=obm h;obtain ⟨q,x4,h⟩:=h;have X1:=aS x1;have X2:=aS x2;have X3:=aS x3;have X4:=aS x4
 have z40:decide ((40:Int)<(l.length:Int))=decide (40<l.length):=by rw [Bool.eq_iff_iff,decide_eq_true_iff,decide_eq_true_iff];omega
 have z0:decide ((100:Int)<(c0.size:Int))=decide (100<c0.size):=by rw [Bool.eq_iff_iff,decide_eq_true_iff,decide_eq_true_iff];omega
 have z1:decide ((100:Int)<(c1.size:Int))=decide (100<c1.size):=by rw [Bool.eq_iff_iff,decide_eq_true_iff,decide_eq_true_iff];omega
 clear x1 x2 x3 x4
 by_cases hg:(o && !decide (40<l.length) && p && q && !decide (100<c0.size) && !decide (100<c1.size))=true
 case neg=>
  rw [if_neg hg] at h
  obtain rfl:=Option.some.inj h
  clear h
  rcases shardloglaw14_TreeShelves.ways hg with rfl | ⟨rfl,y1⟩ | ⟨rfl,y1,rfl⟩ | ⟨rfl,y1,rfl,rfl⟩ | ⟨rfl,y1,rfl,rfl,y2⟩ | ⟨rfl,y1,rfl,rfl,y2,y3⟩<;>(clear hg;go_wp2_with (first | (go_at_call 5;(with_reducible refine (shardloglaw14_awake.calls k true _ X1.out).mono ?_);rintro e_ w1_ ⟨rfl,hb⟩;have n1_:=aS (below_step HB.out hb);clear HB hb q4 q5 q7;have HB:=n1_;clear n1_;have q4:=cK3 (aS (blk_below B4.out HB.out));have q5:=cK3 (aS (blk_below B5.out HB.out));have q7:=cK5 (aS (blk_below B7.out HB.out))) | (go_at_call 6;(with_reducible refine (shardlogref08_Few.calls k A0 cp l _ _ (Kd.C_below HR.out HB.out) HC.out X2.out).mono ?_);rintro e_ w1_ ⟨rfl,hb⟩;have n1_:=aS (below_step HB.out hb);clear HB hb q4 q5 q7;have HB:=n1_;clear n1_;have q4:=cK3 (aS (blk_below B4.out HB.out));have q5:=cK3 (aS (blk_below B5.out HB.out));have q7:=cK5 (aS (blk_below B7.out HB.out))) | (go_at_call 7;(with_reducible refine (shardloglaw14_right.calls s1 s2 s3 _ _ X3.out).mono ?_);rintro e_ w1_ ⟨rfl,hb⟩;have n1_:=aS (below_step HB.out hb);clear HB hb q4 q5 q7;have HB:=n1_;clear n1_;have q4:=cK3 (aS (blk_below B4.out HB.out));have q5:=cK3 (aS (blk_below B5.out HB.out));have q7:=cK5 (aS (blk_below B7.out HB.out))) | (go_at_call 7;(with_reducible refine (shardloglaw14_right.calls u1 u2 u3 _ _ X4.out).mono ?_);rintro e_ w1_ ⟨rfl,hb⟩;have n1_:=aS (below_step HB.out hb);clear HB hb q4 q5 q7;have HB:=n1_;clear n1_;have q4:=cK3 (aS (blk_below B4.out HB.out));have q5:=cK3 (aS (blk_below B5.out HB.out));have q7:=cK5 (aS (blk_below B7.out HB.out))));go_ret;exact ⟨rfl,below_step HB0.out HB.out⟩)
 rw [if_pos hg] at h;obtain ⟨rfl,y1,rfl,rfl,y2,y3⟩:=shardloglaw14_TreeShelves.way hg;have HLM:Aside0 (l.length≤40):=aS (Nat.le_of_not_lt (of_decide_eq_false y1))
 unfold shardloglaw14_TreeShelves.main at h
 replace h:=obm h;obtain ⟨a,x5,h⟩:=h;replace h:=obm h;obtain ⟨b,x6,h⟩:=h
 split at h
 case isFalse=>cases h
 rename_i hab
 obtain ⟨rfl,rfl⟩:=hab;replace h:=obm h;obtain ⟨⟨⟨a1,a2,a3⟩,⟨b1,b2,b3⟩⟩,x7,h⟩:=h;have X5:=aS x5;have X6:=aS x6;have X7:=aS x7;have H:=aS h;clear x5 x6 x7 h hg
 go_wp2_with (first | (go_at_call 5;(with_reducible refine (shardloglaw14_awake.calls k true _ X1.out).mono ?_);rintro e_ w1_ ⟨rfl,hb⟩;have n1_:=aS (below_step HB.out hb);clear HB hb q4 q5 q7;have HB:=n1_;clear n1_;have q4:=cK3 (aS (blk_below B4.out HB.out));have q5:=cK3 (aS (blk_below B5.out HB.out));have q7:=cK5 (aS (blk_below B7.out HB.out))) | (go_at_call 6;(with_reducible refine (shardlogref08_Few.calls k A0 cp l _ _ (Kd.C_below HR.out HB.out) HC.out X2.out).mono ?_);rintro e_ w1_ ⟨rfl,hb⟩;have n1_:=aS (below_step HB.out hb);clear HB hb q4 q5 q7;have HB:=n1_;clear n1_;have q4:=cK3 (aS (blk_below B4.out HB.out));have q5:=cK3 (aS (blk_below B5.out HB.out));have q7:=cK5 (aS (blk_below B7.out HB.out))) | (go_at_call 7;(with_reducible refine (shardloglaw14_right.calls s1 s2 s3 _ _ X3.out).mono ?_);rintro e_ w1_ ⟨rfl,hb⟩;have n1_:=aS (below_step HB.out hb);clear HB hb q4 q5 q7;have HB:=n1_;clear n1_;have q4:=cK3 (aS (blk_below B4.out HB.out));have q5:=cK3 (aS (blk_below B5.out HB.out));have q7:=cK5 (aS (blk_below B7.out HB.out))) | (go_at_call 7;(with_reducible refine (shardloglaw14_right.calls u1 u2 u3 _ _ X4.out).mono ?_);rintro e_ w1_ ⟨rfl,hb⟩;have n1_:=aS (below_step HB.out hb);clear HB hb q4 q5 q7;have HB:=n1_;clear n1_;have q4:=cK3 (aS (blk_below B4.out HB.out));have q5:=cK3 (aS (blk_below B5.out HB.out));have q7:=cK5 (aS (blk_below B7.out HB.out))) | (go_at_call 8;(with_reducible refine (tree_New.calls s1 s2 s3 true _ X5.out).mono ?_);rintro e_ w2 ⟨hb,_,ht⟩;obtain ⟨gA,rfl,ht2⟩:=ht rfl;have HTA:=aS (ht2.lower2 HB.out.size);clear ht ht2;have n1_:=aS (below_step HB.out hb);clear HB hb q4 q5 q7;have HB:=n1_;clear n1_;have q4:=cK3 (aS (blk_below B4.out HB.out));have q5:=cK3 (aS (blk_below B5.out HB.out));have q7:=cK5 (aS (blk_below B7.out HB.out))) | (go_at_call 8;(with_reducible refine (tree_New.calls u1 u2 u3 true _ X6.out).mono ?_);rintro e_ w2 ⟨hb,_,ht⟩;obtain ⟨gB,rfl,ht2⟩:=ht rfl;have HT:Aside0 (shardloglaw14_TreeShelves.PE w2 w0.heap.size gA gB s1 s2 s3 u1 u2 u3 ([],0,[]) ([],0,[])):=aS (shardloglaw14_TreeShelves.PE.new HTA.out hb ht2 HB.out.size);clear ht ht2 HTA;have n1_:=aS (below_step HB.out hb);clear HB hb q4 q5 q7;have HB:=n1_;clear n1_;have q4:=cK3 (aS (blk_below B4.out HB.out));have q5:=cK3 (aS (blk_below B5.out HB.out));have q7:=cK5 (aS (blk_below B7.out HB.out))))
 clear q4 q5 q7 X1 X2 X3 X4 X5 X6 z40 z0 z1 y1 y2 y3
 go_loopw [13] (fun v13 wr=>∃ (i:Nat) (x y:(List S26 × Int × List (List (List S26 × List (List S26) × List Int)))),v13 = .int .i64 (i:Int)∧Aside0 (i≤l.length)∧Aside0 (shardloglaw14_TreeShelves.lp k s1 s2 s3 u1 u2 u3 i (l.drop i) x y=some ((a1,a2,a3),(b1,b2,b3)))∧Aside0 (shardloglaw14_TreeShelves.PE wr w0.heap.size gA gB s1 s2 s3 u1 u2 u3 x y)∧Aside0 (Below w0.heap.size w0 wr)) (fun i _=>l.length - (intOf i).toNat)
 case atStart=>exact ⟨0,([],0,[]),([],0,[]),rfl,⟨Nat.zero_le _⟩,X7,HT,HB⟩
 clear X7 HT HB
 case round=>
  obtain ⟨i,x,y,rfl,hi,HP,HT,HB⟩:=hrel
  by_cases hlt:i<l.length
  ·
   have hq1:(i:Int)<(l.length:Int):=by omega
   have hq0:(0:Int)≤(i:Int):=by omega
   obtain ⟨ad,e_,_⟩:=at_T26 (Kd.C_below HR.out HB.out) (i:Int) hq0 hq1;subst e_
   obtain ⟨c,hc⟩:∃ c,c=rd_T26 l (i:Int):=⟨_,rfl⟩
   have HXF:Aside0 (∀ w',Below w0.heap.size w0 w'→w'.cell? (ad.add (i*5))=some (.string c.f0)∧w'.cell? ⟨(ad.add (i*5)).block,(ad.add (i*5)).off+1,none⟩=some (.string c.f1)∧w'.cell? ⟨(ad.add (i*5)).block,(ad.add (i*5)).off+2,none⟩=some (.int .i64 c.f2)∧w'.cell? ⟨(ad.add (i*5)).block,(ad.add (i*5)).off+3,none⟩=some (.string c.f3)∧w'.cell? ⟨(ad.add (i*5)).block,(ad.add (i*5)).off+4,none⟩=some (.bool c.f4)):=aS (fun w' hb=>by
    obtain ⟨ad',e',hc'⟩:=at_T26 (Kd.C_below HR.out hb) (i:Int) hq0 hq1
    injection e' with e'
    subst e'
    rw [Int.toNat_natCast,← hc] at hc'
    exact hc')
   obtain ⟨hx0,hx1,hx2,hx3,hx4⟩:=HXF.out _ HB.out
   have hd:l.drop i=c :: l.drop (i+1):=by
    rw [List.drop_eq_getElem_cons hlt,hc]
    unfold rd_T26
    rw [Int.toNat_natCast,List.getD_eq_getElem?_getD,List.getElem?_eq_getElem hlt]
    rfl
   have ha:=HP.out;rw [hd] at ha
   unfold shardloglaw14_TreeShelves.lp at ha
   replace ha:=obm ha;obtain ⟨⟨p1,p2,p3,p4'⟩,y1,ha⟩:=ha;replace ha:=obm ha;obtain ⟨⟨q1,q2,q3,q4'⟩,y2,ha⟩:=ha;have Y1:=aS y1;have Y2:=aS y2
   have hix:∀ W:World,(Instr.indexAt 24 (.slice (some ad) l.length cp) (.int .i64 (i:Int))).run Try.prog W = .ok (.pointer (some (ad.add (i*5)))) W:=by
    obtain ⟨i0,hi0,hz⟩:=Option.map_eq_some_iff.1 info26
    simp only [Prod.mk.injEq] at hz
    intro W
    have h1:=index_ad 24 26 hu24 hi0 5 hz.2.1 ad l.length cp (i:Int) (by omega) (by omega) W
    rwa [Int.toNat_natCast] at h1
   have hwr:wrap64 ((i:Int)+1)=(i:Int)+1:=by rw [←i64_w,IntKind.wrap_i64];have:=HLM.out;omega
   clear hc hd hi hq0 HP y1 y2
   by_cases c7:i % 7=3
   ·
    rw [if_pos c7] at ha;obtain ⟨c7a,c7b⟩:=eqT (show ((i:Int) % 7)=3 by omega);replace ha:=obm ha;obtain ⟨⟨z1,z2,z3⟩,y3,ha⟩:=ha;have Y3:=aS y3;have HP:=aS ha;clear ha y3 c7
    go_wp2_with (first | (go_at_call 9;obtain ⟨oA,oB,hP⟩:=HT.out;(with_reducible refine (tree_Tree_Put.calls k gA _ oA s1 s2 s3 x.1 p1 x.2.1 p2 x.2.2 p3 c.f0 c.f1 c.f2 c.f3 c.f4 p4' _ hP.a Y1.out).mono ?_);rintro e_ w2 ⟨rfl,ha_,hc_⟩;have n1_:Aside0 (shardloglaw14_TreeShelves.PE w2 w0.heap.size gA gB s1 s2 s3 u1 u2 u3 (p1,p2,p3) y):=aS ⟨_,_,hP.left ha_ hc_ HB.out.size⟩;have n2_:=aS (hc_.below HB.out HB.out.size (fun k hk=>(hP.la k hk).1));clear HT HB hx0 hx1 hx2 hx3 hx4 ha_ hc_;have HT:=n1_;have HB:=n2_;clear n1_ n2_ hP;obtain ⟨hx0,hx1,hx2,hx3,hx4⟩:=HXF.out _ HB.out) | (go_at_call 9;obtain ⟨oA,oB,hP⟩:=HT.out;(with_reducible refine (tree_Tree_Put.calls k gB _ oB u1 u2 u3 y.1 q1 y.2.1 q2 y.2.2 q3 c.f0 c.f1 c.f2 c.f3 c.f4 q4' _ hP.b Y2.out).mono ?_);rintro e_ w2 ⟨rfl,ha_,hc_⟩;have n1_:Aside0 (shardloglaw14_TreeShelves.PE w2 w0.heap.size gA gB s1 s2 s3 u1 u2 u3 (p1,p2,p3) (q1,q2,q3)):=aS ⟨_,_,(hP.swap.left ha_ hc_ HB.out.size).swap⟩;have n2_:=aS (hc_.below HB.out HB.out.size (fun k hk=>(hP.lb k hk).1));clear HT HB hx0 hx1 hx2 hx3 hx4 ha_ hc_;have HT:=n1_;have HB:=n2_;clear n1_ n2_ hP;obtain ⟨hx0,hx1,hx2,hx3,hx4⟩:=HXF.out _ HB.out) | (go_at_call 10;obtain ⟨oA,oB,hP⟩:=HT.out;(with_reducible refine (tree_Tree_Flush.calls k gB _ oB u1 u2 u3 q1 z1 q2 z2 q3 z3 _ hP.b Y3.out).mono ?_);rintro e_ w2 ⟨rfl,ha_,hc_⟩;have n1_:Aside0 (shardloglaw14_TreeShelves.PE w2 w0.heap.size gA gB s1 s2 s3 u1 u2 u3 (p1,p2,p3) (z1,z2,z3)):=aS ⟨_,_,(hP.swap.left (x':=(z1,z2,z3)) ha_ hc_ HB.out.size).swap⟩;have n2_:=aS (hc_.below HB.out HB.out.size (fun k hk=>(hP.lb k hk).1));clear HT HB hx0 hx1 hx2 hx3 hx4 ha_ hc_;have HT:=n1_;have HB:=n2_;clear n1_ n2_ hP;obtain ⟨hx0,hx1,hx2,hx3,hx4⟩:=HXF.out _ HB.out))
    go_roundw
    case rel=>exact ⟨i+1,(p1,p2,p3),(z1,z2,z3),by rw [hwr];rfl,⟨hlt⟩,HP,HT,HB⟩
    case measure=>exact meas1 hwr hlt
   ·
    rw [if_neg c7] at ha;obtain ⟨c7a,c7b⟩:=eqF (show ¬ ((i:Int) % 7)=3 by omega);have HP:=aS ha;clear ha c7
    go_wp2_with (first | (go_at_call 9;obtain ⟨oA,oB,hP⟩:=HT.out;(with_reducible refine (tree_Tree_Put.calls k gA _ oA s1 s2 s3 x.1 p1 x.2.1 p2 x.2.2 p3 c.f0 c.f1 c.f2 c.f3 c.f4 p4' _ hP.a Y1.out).mono ?_);rintro e_ w2 ⟨rfl,ha_,hc_⟩;have n1_:Aside0 (shardloglaw14_TreeShelves.PE w2 w0.heap.size gA gB s1 s2 s3 u1 u2 u3 (p1,p2,p3) y):=aS ⟨_,_,hP.left ha_ hc_ HB.out.size⟩;have n2_:=aS (hc_.below HB.out HB.out.size (fun k hk=>(hP.la k hk).1));clear HT HB hx0 hx1 hx2 hx3 hx4 ha_ hc_;have HT:=n1_;have HB:=n2_;clear n1_ n2_ hP;obtain ⟨hx0,hx1,hx2,hx3,hx4⟩:=HXF.out _ HB.out) | (go_at_call 9;obtain ⟨oA,oB,hP⟩:=HT.out;(with_reducible refine (tree_Tree_Put.calls k gB _ oB u1 u2 u3 y.1 q1 y.2.1 q2 y.2.2 q3 c.f0 c.f1 c.f2 c.f3 c.f4 q4' _ hP.b Y2.out).mono ?_);rintro e_ w2 ⟨rfl,ha_,hc_⟩;have n1_:Aside0 (shardloglaw14_TreeShelves.PE w2 w0.heap.size gA gB s1 s2 s3 u1 u2 u3 (p1,p2,p3) (q1,q2,q3)):=aS ⟨_,_,(hP.swap.left ha_ hc_ HB.out.size).swap⟩;have n2_:=aS (hc_.below HB.out HB.out.size (fun k hk=>(hP.lb k hk).1));clear HT HB hx0 hx1 hx2 hx3 hx4 ha_ hc_;have HT:=n1_;have HB:=n2_;clear n1_ n2_ hP;obtain ⟨hx0,hx1,hx2,hx3,hx4⟩:=HXF.out _ HB.out))
    go_roundw
    case rel=>exact ⟨i+1,(p1,p2,p3),(q1,q2,q3),by rw [hwr];rfl,⟨hlt⟩,HP,HT,HB⟩
    case measure=>exact meas1 hwr hlt
  ·
   have hge:¬ ((i:Int)<(l.length:Int)):=by omega
   have ha:=HP.out;rw [List.drop_eq_nil_of_le (by omega)] at ha
   unfold shardloglaw14_TreeShelves.lp at ha
   obtain ha:=Option.some.inj ha
   simp only [Prod.mk.injEq] at ha
   obtain ⟨rfl,rfl⟩:=ha;have h:=H.out
   unfold shardloglaw14_TreeShelves.tail at h
   replace h:=obm h;obtain ⟨v,x5,h⟩:=h;replace h:=obm h;obtain ⟨v2,x6,h⟩:=h;replace h:=obm h;obtain ⟨ca,x7,h⟩:=h;replace h:=obm h;obtain ⟨cb,x8,h⟩:=h;replace h:=obm h;obtain ⟨e1,x9,h⟩:=h;replace h:=obm h;obtain ⟨sa,x10,h⟩:=h;replace h:=obm h;obtain ⟨sb,x11,h⟩:=h;replace h:=obm h;obtain ⟨e2,x12,h⟩:=h
   split at h
   case isFalse=>cases h
   rename_i hv
   obtain ⟨hv3,hv4,rfl,rfl⟩:=hv
   obtain rfl:=Option.some.inj h
   have X5:=aS x5;have X6:=aS x6;have X7:=aS x7;have X8:=aS x8;have X9:=aS x9;have X10:=aS x10;have X11:=aS x11;have X12:=aS x12;have HV3:=aS hv3;have HV4:=aS hv4;have hb1:(v.f3.toList == v.f3.toList)=true:=beq_self_eq_true _;have hb3:((!v.f4) == (!v.f4))=true:=beq_self_eq_true _;have q7:=cK5 (aS (blk_below B7.out HB.out));clear x5 x6 x7 x8 x9 x10 x11 x12 hv3 hv4 h H HP hi
   go_wp2_with (first | (go_at_call 11;obtain ⟨oA,oB,hP⟩:=HT.out;(with_reducible refine (tree_Tree_Get.calls k gA _ oA s1 s2 s3 a1 a2 a3 c0 c1 c2 v _ hP.a X5.out).mono ?_);rintro e_ w2 ⟨rfl,hb⟩;have n1_:=aS (HT.out.below hb);have n2_:=aS (below_step HB.out hb);clear HT HB hb q7 hP;have HT:=n1_;have HB:=n2_;clear n1_ n2_;have q7:=cK5 (aS (blk_below B7.out HB.out))) | (go_at_call 11;obtain ⟨oA,oB,hP⟩:=HT.out;(with_reducible refine (tree_Tree_Get.calls k gB _ oB u1 u2 u3 b1 b2 b3 c0 c1 c2 v2 _ hP.b X6.out).mono ?_);rintro e_ w2 ⟨he_,hb⟩;rw [HV3.out,HV4.out] at he_;subst he_;have n1_:=aS (HT.out.below hb);have n2_:=aS (below_step HB.out hb);clear HT HB hb q7 hP;have HT:=n1_;have HB:=n2_;clear n1_ n2_;have q7:=cK5 (aS (blk_below B7.out HB.out))))
   go_upto_region 16 with (fail)
   refine start_ (n:=31) (ds:=[]) (S:=fun w'=>w'.cell? ⟨p7,0,none⟩=some (.string c0)∧w'.cell? ⟨p7,2,none⟩=some (.int .i64 c2)) (bA 31 0) (by kernel_rfl) rfl rfl ⟨(blk_cell (blk_drew (blk_below B7.out HB.out)) 0).trans rfl,(blk_cell (blk_drew (blk_below B7.out HB.out)) 2).trans rfl⟩ (fun hHeld=>?_)
   generalize hw_:World.drew _=wd at hHeld ⊢
   have n1_:Aside0 (shardloglaw14_TreeShelves.PE wd _ gA gB s1 s2 s3 u1 u2 u3 _ _):=aS (hw_▸HT.out.below (below_drew (Below.refl _ _)));have n2_:Aside0 (Below w0.heap.size w0 wd):=aS (hw_▸below_step HB.out (below_drew (Below.refl _ _)));clear hw_ HT HB q7;have HT:=n1_;have HB:=n2_;clear n1_ n2_;refine with_tabW (T:=(true,[([],[]),([],[]),([0,1],[0,1]),([2],[2]),([3],[3]),([3],[3]),([4,5,3],[3,4,5]),([3,6],[3,6]),([7,3],[7]),([8],[8]),([9,8,8],[8,9]),([8],[8]),([11,10,8],[8,11]),([10,12,12,8],[8,10,12]),([8,13],[8,13]),([14,13],[14]),([15],[15]),([15],[15]),([17,15],[15,17]),([15],[15]),([19,15],[15,19]),([16,18,20,15,15],[15,16,18,20]),([15],[15]),([15],[15]),([23,15],[15,23]),([15],[15]),([25,15],[15,25]),([22,24,26,21,15],[15,22,24,26]),([21,27,27,15],[15,21,27]),([15,28],[15,28]),([29,28,0,1,2,3,4,5,6,7,8,9,10,11,12,13,14,15,16,17,18,19,20,21,22,23,24,25,26,27,28,29],[29])])) (B:=[0,0,3,7,15,15,63,127,255,511,1023,511,4095,8191,16383,32767,65535,65535,196607,65535,589823,2097151,65535,65535,8454143,65535,33619967,134217727,268435455,536870911,1073741823]) (by kernel_rfl) (by kernel_rfl) (fun HT_ HW_=>?_);refine along_ [(0,122),(1,123),(2,124),(3,125),(4,126),(5,127),(6,128),(7,129),(8,130),(9,131),(11,133)] ?_
   iterate 11 (refine pure3 HT_ ?_)
   refine lay_ (bA 31 3071) (by kernel_rfl) ?_;refine one3 10 (N:=some 132) (bA 31 4095) HT_ (fun K hK=>?_);obtain ⟨oA,oB,hP⟩:=HT.out;refine goes_ Try.func13 (by kernel_rfl) rfl #[.pointer (some ⟨gA,0,none⟩)] (by rfl) rfl rfl agn ?_
   with_reducible refine (tree_Tree_Cells.calls k _ oA gA s1 s2 s3 a1 a2 a3 ca _ hP.a X7.out).mono ?_
   rintro e_ w10_ ⟨v_,rfl,ho,hb⟩
   obtain ⟨Aa,ka,rfl,hcl,hC⟩:=Kd.R_reads ho;refine ⟨_,rfl,?_⟩;have HCa:=aS hC;have HLa:=aS hcl;clear ho hC hcl;have n1_:=aS (HT.out.below hb);have n2_:=aS (below_step HB.out hb);clear HT HB hb hP;have HT:=n1_;have HB:=n2_;clear n1_ n2_;refine hK.out _ _ ⟨(blk_cell (blk_below B7.out HB.out) 0).trans rfl,(blk_cell (blk_below B7.out HB.out) 2).trans rfl⟩ (fun hHeld=>?_);clear hK K;refine nm 132 ?_;refine one3 12 (N:=some 134) (bA 31 8191) HT_ (fun K hK=>?_);obtain ⟨oA,oB,hP⟩:=HT.out;refine goes_ Try.func13 (by kernel_rfl) rfl #[.pointer (some ⟨gB,0,none⟩)] (by rfl) rfl rfl agn ?_
   with_reducible refine (tree_Tree_Cells.calls k _ oB gB u1 u2 u3 b1 b2 b3 cb _ hP.b X8.out).mono ?_
   rintro e_ w12_ ⟨v_,rfl,ho,hb⟩
   obtain ⟨Ab,kb,rfl,hcl,hC⟩:=Kd.R_reads ho;refine ⟨_,rfl,?_⟩;have HCb:=aS hC;have HLb:=aS hcl;clear ho hC hcl;have n3_:=aS (Kd.C_below HCa.out hb);clear HCa;have HCa:=n3_;clear n3_;have n1_:=aS (HT.out.below hb);have n2_:=aS (below_step HB.out hb);clear HT HB hb hP;have HT:=n1_;have HB:=n2_;clear n1_ n2_;refine hK.out _ _ ⟨(blk_cell (blk_below B7.out HB.out) 0).trans rfl,(blk_cell (blk_below B7.out HB.out) 2).trans rfl⟩ (fun hHeld=>?_);clear hK K;refine nm 134 ?_;refine one3 13 (N:=some 135) (bA 31 16383) HT_ (fun K hK=>?_);obtain ⟨oA,oB,hP⟩:=HT.out;refine goes_ Try.func12 (by kernel_rfl) rfl #[.slice Aa ca.length ka,.slice Ab cb.length kb] (by rfl) rfl rfl agn ?_
   with_reducible refine (shardlogref08_Same.calls k Aa ka ca Ab kb cb true _ HCa.out HLa.out HCb.out HLb.out X9.out).mono ?_
   rintro e_ w13_ ⟨rfl,hd⟩
   have hb:=hd.below;refine ⟨_,rfl,?_⟩;clear hd HCa HLa HCb HLb;have n1_:=aS (HT.out.below hb);have n2_:=aS (below_step HB.out hb);clear HT HB hb hP;have HT:=n1_;have HB:=n2_;clear n1_ n2_;refine hK.out _ _ ⟨(blk_cell (blk_below B7.out HB.out) 0).trans rfl,(blk_cell (blk_below B7.out HB.out) 2).trans rfl⟩ (fun hHeld=>?_);clear hK K;refine nm 135 ?_;refine along_ [(14,136),(15,137),(16,138),(17,139),(18,140),(19,141),(20,142),(22,144),(23,145),(24,146),(25,147),(26,148)] ?_
   iterate 12 (first | (refine pure3 HT_ ?_) | (refine take3 HT_ HW_ hHeld ?_))
   refine lay_ (bA 31 132120575) (by kernel_rfl) ?_;refine one3 21 (N:=some 143) (bA 31 134217727) HT_ (fun K hK=>?_);obtain ⟨oA,oB,hP⟩:=HT.out;refine goes_ Try.func14 (by kernel_rfl) rfl #[.pointer (some ⟨gA,0,none⟩),.string c0,.string ⟨#[]⟩,.int .i64 c2] (by rfl) rfl rfl agn ?_
   with_reducible refine (tree_Tree_Scan.calls k gA _ oA s1 s2 s3 a1 a2 a3 c0 (⟨#[]⟩:ByteArray) c2 sa _ hP.a X10.out).mono ?_
   rintro e_ w21_ ⟨v_,rfl,ho,hb⟩
   obtain ⟨Ac,kc,rfl,hcl,hC⟩:=Kd.R_reads ho;refine ⟨_,rfl,?_⟩;have HCc:=aS hC;have HLc:=aS hcl;clear ho hC hcl;have n1_:=aS (HT.out.below hb);have n2_:=aS (below_step HB.out hb);clear HT HB hb hP;have HT:=n1_;have HB:=n2_;clear n1_ n2_;refine hK.out _ _ ⟨(blk_cell (blk_below B7.out HB.out) 0).trans rfl,(blk_cell (blk_below B7.out HB.out) 2).trans rfl⟩ (fun hHeld=>?_);clear hK K;refine nm 143 ?_;refine one3 27 (N:=some 149) (bA 31 268435455) HT_ (fun K hK=>?_);obtain ⟨oA,oB,hP⟩:=HT.out;refine goes_ Try.func14 (by kernel_rfl) rfl #[.pointer (some ⟨gB,0,none⟩),.string c0,.string ⟨#[]⟩,.int .i64 c2] (by rfl) rfl rfl agn ?_
   with_reducible refine (tree_Tree_Scan.calls k gB _ oB u1 u2 u3 b1 b2 b3 c0 (⟨#[]⟩:ByteArray) c2 sb _ hP.b X11.out).mono ?_
   rintro e_ w27_ ⟨v_,rfl,ho,hb⟩
   obtain ⟨Ad,kd,rfl,hcl,hC⟩:=Kd.R_reads ho;refine ⟨_,rfl,?_⟩;have HCd:=aS hC;have HLd:=aS hcl;clear ho hC hcl;have n3_:=aS (Kd.C_below HCc.out hb);clear HCc;have HCc:=n3_;clear n3_;have n1_:=aS (HT.out.below hb);have n2_:=aS (below_step HB.out hb);clear HT HB hb hP;have HT:=n1_;have HB:=n2_;clear n1_ n2_;refine hK.out _ _ ⟨(blk_cell (blk_below B7.out HB.out) 0).trans rfl,(blk_cell (blk_below B7.out HB.out) 2).trans rfl⟩ (fun hHeld=>?_);clear hK K;refine nm 149 ?_;refine one3 28 (N:=some 150) (bA 31 536870911) HT_ (fun K hK=>?_);obtain ⟨oA,oB,hP⟩:=HT.out;refine goes_ Try.func12 (by kernel_rfl) rfl #[.slice Ac sa.length kc,.slice Ad sb.length kd] (by rfl) rfl rfl agn ?_
   with_reducible refine (shardlogref08_Same.calls k Ac kc sa Ad kd sb true _ HCc.out HLc.out HCd.out HLd.out X12.out).mono ?_
   rintro e_ w28_ ⟨rfl,hd⟩
   have hb:=hd.below;refine ⟨_,rfl,?_⟩;clear hd HCc HLc HCd HLd;have n1_:=aS (HT.out.below hb);have n2_:=aS (below_step HB.out hb);clear HT HB hb hP;have HT:=n1_;have HB:=n2_;clear n1_ n2_;refine hK.out _ _ ⟨(blk_cell (blk_below B7.out HB.out) 0).trans rfl,(blk_cell (blk_below B7.out HB.out) 2).trans rfl⟩ (fun hHeld=>?_);clear hK K;refine nm 150 ?_;refine along_ [(29,151),(30,8)] ?_
   iterate 2 (refine pure3 HT_ ?_)
   refine lay_ (bA 31 2147483647) (by kernel_rfl) ?_;refine done_ (done_of HT_.out (by kernel_rfl)) ?_;clear HT_ HW_ hHeld
   try go_wp2
   go_ret
   exact ⟨rfl,below_step HB0.out HB.out⟩
def shardloglaw14_TreeShelves.Pure:Prop:=∀ (a0_0:Int) (a0_1:Int) (a0_2:Int) (a1_0:Int) (a1_1:Int) (a1_2:Int) (l2:List (S26)) (a3_0:ByteArray) (a3_1:ByteArray) (a3_2:Int) (a3_3:ByteArray) (a3_4:Bool),(Lit.int .i64 a0_0).wf=true→(Lit.int .i64 a0_1).wf=true→(Lit.int .i64 a0_2).wf=true→(Lit.int .i64 a1_0).wf=true→(Lit.int .i64 a1_1).wf=true→(Lit.int .i64 a1_2).wf=true→(l2.length≤maxLen∧l2.length*64≤140737488351232∧∀ y0_ ∈ l2,(y0_.f0.size≤140737488351232∧y0_.f1.size≤140737488351232∧(Lit.int .i64 y0_.f2).wf=true∧y0_.f3.size≤140737488351232∧True))→a3_0.size≤140737488351232→a3_1.size≤140737488351232→(Lit.int .i64 a3_2).wf=true→a3_3.size≤140737488351232→∃ k,shardloglaw14_TreeShelves.f k a0_0 a0_1 a0_2 a1_0 a1_1 a1_2 l2 a3_0 a3_1 a3_2 a3_3 a3_4=some true
theorem shardloglaw14_TreeShelves.walk (P:shardloglaw14_TreeShelves.Pure) (a0_0:Int) (a0_1:Int) (a0_2:Int) (a1_0:Int) (a1_1:Int) (a1_2:Int) (A2:Option Addr) (c2:Nat) (l2:List (S26)) (a3_0:ByteArray) (a3_1:ByteArray) (a3_2:Int) (a3_3:ByteArray) (a3_4:Bool) (w:World) (wf0_0:(Lit.int .i64 a0_0).wf=true) (wf0_1:(Lit.int .i64 a0_1).wf=true) (wf0_2:(Lit.int .i64 a0_2).wf=true) (wf1_0:(Lit.int .i64 a1_0).wf=true) (wf1_1:(Lit.int .i64 a1_1).wf=true) (wf1_2:(Lit.int .i64 a1_2).wf=true) (wf2:(l2.length≤maxLen∧l2.length*64≤140737488351232∧∀ y0_ ∈ l2,(y0_.f0.size≤140737488351232∧y0_.f1.size≤140737488351232∧(Lit.int .i64 y0_.f2).wf=true∧y0_.f3.size≤140737488351232∧True))) (hr2:Kd.C k26 w A2 l2.length l2) (hc2:l2.length≤c2) (wf3_0:a3_0.size≤140737488351232) (wf3_1:a3_1.size≤140737488351232) (wf3_2:(Lit.int .i64 a3_2).wf=true) (wf3_3:a3_3.size≤140737488351232) :
  Calls Try.prog 3 #[.agg #[.int .i64 a0_0,.int .i64 a0_1,.int .i64 a0_2],.agg #[.int .i64 a1_0,.int .i64 a1_1,.int .i64 a1_2],.slice A2 l2.length c2,.agg #[.string a3_0,.string a3_1,.int .i64 a3_2,.string a3_3,.bool a3_4]] w fun e w'=>e = .returned (.bool true)∧Below w.heap.size w w':=by
 obtain ⟨k,h⟩:=P a0_0 a0_1 a0_2 a1_0 a1_1 a1_2 l2 a3_0 a3_1 a3_2 a3_3 a3_4 wf0_0 wf0_1 wf0_2 wf1_0 wf1_1 wf1_2 wf2 wf3_0 wf3_1 wf3_2 wf3_3;refine (shardloglaw14_TreeShelves.calls k a0_0 a0_1 a0_2 a1_0 a1_1 a1_2 A2 c2 l2 a3_0 a3_1 a3_2 a3_3 a3_4 true w hr2 hc2 h).mono ?_
 rintro e w' ⟨rfl,hd⟩
 exact ⟨rfl,hd⟩
end Go.Proofs.Ytcbhfedcdnjljaa.X

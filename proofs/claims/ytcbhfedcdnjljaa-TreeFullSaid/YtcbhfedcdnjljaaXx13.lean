-- written by a program of this session's, over the kit's print
import Derived.Test.YtcbhfedcdnjljaaXx0
import Derived.Test.YtcbhfedcdnjljaaXx7
import Derived.Test.YtcbhfedcdnjljaaXx10
import Derived.Test.YtcbhfedcdnjljaaXx12
namespace Go.Proofs.Ytcbhfedcdnjljaa.X
open Go.RowKit Go.Proofs.YtcbhfedcdnjljaaW.PrintWords Go.Proofs.YtcbhfedcdnjljaaW.PrintLast Go.Proofs.YtcbhfedcdnjljaaW.PrintMore
attribute [local go_sem] max2_int min2_int max_two min_two max_three min_three max_four min_four gtr_str   -- for this text's walks alone
set_option linter.unusedVariables false
set_option linter.unusedSimpArgs false

/-! ### merge_same: function 48 -/
def merge_same.f (a0_0:ByteArray) (a0_1:ByteArray) (a0_2:Int) (a0_3:ByteArray) (a0_4:Bool) (a1_0:ByteArray) (a1_1:ByteArray) (a1_2:Int) (a1_3:ByteArray) (a1_4:Bool):Option (Bool):=if a0_0.toList=a1_0.toList then (some (a0_1.toList == a1_1.toList)) else (some false)
set_option maxHeartbeats 8000000 in
set_option maxRecDepth 100000 in
theorem merge_same.calls (a0_0:ByteArray) (a0_1:ByteArray) (a0_2:Int) (a0_3:ByteArray) (a0_4:Bool) (a1_0:ByteArray) (a1_1:ByteArray) (a1_2:Int) (a1_3:ByteArray) (a1_4:Bool) (r:Bool) (w:World) (h:merge_same.f a0_0 a0_1 a0_2 a0_3 a0_4 a1_0 a1_1 a1_2 a1_3 a1_4=some r) :
  Calls Try.prog 48 #[.agg #[.string a0_0,.string a0_1,.int .i64 a0_2,.string a0_3,.bool a0_4],.agg #[.string a1_0,.string a1_1,.int .i64 a1_2,.string a1_3,.bool a1_4]] w fun e w'=>e = .returned (.bool r)∧Below w.heap.size w w':=by
 have hu26:=Try.underlying26;have HB:=aS (Below.refl w.heap.size w);have H:(if a0_0.toList=a1_0.toList then (some (a0_1.toList == a1_1.toList)) else (some false))=some r:=h;clear h
 by_cases c3:a0_0.toList=a1_0.toList
 ·
  rw [if_pos c3] at H;obtain ⟨c3b0,c3b1⟩:=eqT c3;clear c3
  obtain rfl:=Option.some.inj H
  go_enter Try.func48,Try.ntmps48
  go_wp2_with (first | ((with_reducible refine gate_dst (N:=2) rfl ?_);refine box_event ?hg (N:=2) ?hd (cs:=#[.string a0_0,.string a0_1,.int .i64 a0_2,.string a0_3,.bool a0_4]) (t:=26) ?hr ?_;(case hd=>rfl);(case hg=>rfl);(case hr=>first | (go_simp;done) | (go_simp;rfl));intro gb514 hg w4 hbox hb;have BK514:=aS (hbox);have GW514:=bsize hg;have GE514:=bsize hg;replace HB:=bstep hb;clear hb hbox hg) | ((with_reducible refine gate_dst (N:=3) rfl ?_);refine box_event ?hg (N:=3) ?hd (cs:=#[.string a1_0,.string a1_1,.int .i64 a1_2,.string a1_3,.bool a1_4]) (t:=26) ?hr ?_;(case hd=>rfl);(case hg=>rfl);(case hr=>first | (go_simp;done) | (go_simp;rfl));intro gb515 hg w5 hbox hb;have BK515:=aS (hbox);have GW515:=bsize hg;have GE515:=bsize hg;replace HB:=bstep hb;have NB514_515:=aS ((by rw [hg];exact Nat.ne_of_lt (blk_lt (g:=gb514) (o:=.cells #[.string a0_0,.string a0_1,.int .i64 a0_2,.string a0_3,.bool a0_4] 26 (0,0)) (bkl BK514.out)):gb514≠gb515));have NB515_514:=aS ((by rw [hg];exact Nat.ne_of_gt (blk_lt (g:=gb514) (o:=.cells #[.string a0_0,.string a0_1,.int .i64 a0_2,.string a0_3,.bool a0_4] 26 (0,0)) (bkl BK514.out)):gb515≠gb514));replace BK514:=bbl BK514 hb;clear hb hbox hg;have hnb6:=NB514_515.out;have hnc6:=NB515_514.out;have hcz7:=cK5 BK514;have hcz8:=cK5 BK515))
  go_ret
  exact ⟨rf3,bel⟩
 ·
  rw [if_neg c3] at H;obtain ⟨c3b0,c3b1⟩:=eqF c3
  obtain rfl:=Option.some.inj H
  go_enter Try.func48,Try.ntmps48
  go_wp2_with (first | ((with_reducible refine gate_dst (N:=2) rfl ?_);refine box_event ?hg (N:=2) ?hd (cs:=#[.string a0_0,.string a0_1,.int .i64 a0_2,.string a0_3,.bool a0_4]) (t:=26) ?hr ?_;(case hd=>rfl);(case hg=>rfl);(case hr=>first | (go_simp;done) | (go_simp;rfl));intro gb514 hg w9 hbox hb;have BK514:=aS (hbox);have GW514:=bsize hg;have GE514:=bsize hg;replace HB:=bstep hb;clear hb hbox hg) | ((with_reducible refine gate_dst (N:=3) rfl ?_);refine box_event ?hg (N:=3) ?hd (cs:=#[.string a1_0,.string a1_1,.int .i64 a1_2,.string a1_3,.bool a1_4]) (t:=26) ?hr ?_;(case hd=>rfl);(case hg=>rfl);(case hr=>first | (go_simp;done) | (go_simp;rfl));intro gb515 hg w10 hbox hb;have BK515:=aS (hbox);have GW515:=bsize hg;have GE515:=bsize hg;replace HB:=bstep hb;have NB514_515:=aS ((by rw [hg];exact Nat.ne_of_lt (blk_lt (g:=gb514) (o:=.cells #[.string a0_0,.string a0_1,.int .i64 a0_2,.string a0_3,.bool a0_4] 26 (0,0)) (bkl BK514.out)):gb514≠gb515));have NB515_514:=aS ((by rw [hg];exact Nat.ne_of_gt (blk_lt (g:=gb514) (o:=.cells #[.string a0_0,.string a0_1,.int .i64 a0_2,.string a0_3,.bool a0_4] 26 (0,0)) (bkl BK514.out)):gb515≠gb514));replace BK514:=bbl BK514 hb;clear hb hbox hg;have hnb11:=NB514_515.out;have hnc11:=NB515_514.out;have hcz12:=cK5 BK514;have hcz13:=cK5 BK515))
  go_ret
  exact ⟨rf3,bel⟩

/-! ### merge_Visible: function 31 -/
mutual
def merge_Visible.l0:Nat→List (S26)→Int→List (S26)→List (S26)→Int→Int→Option ((List (S26)))
 | 0,_,_,_,_,_,_=>none
 | k+1,x0,x1,x5,x9,x10,x11=>if x11<x10 then (if 0≤x11 then (if x11<(x9.length:Int) then (if x11=0 then (merge_Visible.j1 k x0 x1 x5 true x9 x10 x11 ((rd_T26 x9 x11).f0) ((rd_T26 x9 x11).f1) ((rd_T26 x9 x11).f2) ((rd_T26 x9 x11).f3) ((rd_T26 x9 x11).f4)) else (if 0≤(wrap64 (x11 - 1)) then (if (wrap64 (x11 - 1))<(x0.length:Int) then ((merge_same.f ((rd_T26 x0 (wrap64 (x11 - 1))).f0) ((rd_T26 x0 (wrap64 (x11 - 1))).f1) ((rd_T26 x0 (wrap64 (x11 - 1))).f2) ((rd_T26 x0 (wrap64 (x11 - 1))).f3) ((rd_T26 x0 (wrap64 (x11 - 1))).f4) ((rd_T26 x9 x11).f0) ((rd_T26 x9 x11).f1) ((rd_T26 x9 x11).f2) ((rd_T26 x9 x11).f3) ((rd_T26 x9 x11).f4)).bind fun t519=>(if t519=true then (merge_Visible.j1 k x0 x1 x5 (decide (((rd_T26 x0 (wrap64 (x11 - 1))).f2) > x1)) x9 x10 x11 ((rd_T26 x9 x11).f0) ((rd_T26 x9 x11).f1) ((rd_T26 x9 x11).f2) ((rd_T26 x9 x11).f3) ((rd_T26 x9 x11).f4)) else (merge_Visible.j1 k x0 x1 x5 true x9 x10 x11 ((rd_T26 x9 x11).f0) ((rd_T26 x9 x11).f1) ((rd_T26 x9 x11).f2) ((rd_T26 x9 x11).f3) ((rd_T26 x9 x11).f4)))) else (none)) else (none))) else (none)) else (none)) else (some x5)
def merge_Visible.j1:Nat→List (S26)→Int→List (S26)→Bool→List (S26)→Int→Int→ByteArray→ByteArray→Int→ByteArray→Bool→Option ((List (S26)))
 | 0,_,_,_,_,_,_,_,_,_,_,_,_=>none
 | k+1,x0,x1,x5,x8,x9,x10,x11,x518000,x518001,x518002,x518003,x518004=>if x518002≤x1 then (if x8=true then (merge_Visible.j2 k x0 x1 x5 x9 x10 x11 (!x518004) x518000 x518001 x518002 x518003 x518004) else (merge_Visible.j2 k x0 x1 x5 x9 x10 x11 false x518000 x518001 x518002 x518003 x518004)) else (merge_Visible.j2 k x0 x1 x5 x9 x10 x11 false x518000 x518001 x518002 x518003 x518004)
def merge_Visible.j2:Nat→List (S26)→Int→List (S26)→List (S26)→Int→Int→Bool→ByteArray→ByteArray→Int→ByteArray→Bool→Option ((List (S26)))
 | 0,_,_,_,_,_,_,_,_,_,_,_,_=>none
 | k+1,x0,x1,x5,x9,x10,x11,x49,x518000,x518001,x518002,x518003,x518004=>if x49=true then (if x5.length<2199023255552 then (merge_Visible.l0 k x0 x1 (x5++[(⟨x518000,x518001,x518002,x518003,x518004⟩:S26)]) x9 x10 (wrap64 (x11+1))) else (none)) else (merge_Visible.l0 k x0 x1 x5 x9 x10 (wrap64 (x11+1)))
end
def merge_Visible.f (k:Nat) (l0:List (S26)) (a1:Int):Option ((List (S26))):=merge_Visible.l0 k l0 a1 ([]:List (S26)) l0 (l0.length:Int) 0
theorem merge_Visible.mono_l:∀ k,(∀ y0 y1 y2 y3 y4 y5,LeO (merge_Visible.l0 k y0 y1 y2 y3 y4 y5) (merge_Visible.l0 (k+1) y0 y1 y2 y3 y4 y5))∧(∀ y0 y1 y2 y3 y4 y5 y6 y7 y8 y9 y10 y11,LeO (merge_Visible.j1 k y0 y1 y2 y3 y4 y5 y6 y7 y8 y9 y10 y11) (merge_Visible.j1 (k+1) y0 y1 y2 y3 y4 y5 y6 y7 y8 y9 y10 y11))∧(∀ y0 y1 y2 y3 y4 y5 y6 y7 y8 y9 y10 y11,LeO (merge_Visible.j2 k y0 y1 y2 y3 y4 y5 y6 y7 y8 y9 y10 y11) (merge_Visible.j2 (k+1) y0 y1 y2 y3 y4 y5 y6 y7 y8 y9 y10 y11))
 | 0=>⟨fun _ _ _ _ _ _ r h=>by simp [merge_Visible.l0] at h,fun _ _ _ _ _ _ _ _ _ _ _ _ r h=>by simp [merge_Visible.j1] at h,fun _ _ _ _ _ _ _ _ _ _ _ _ r h=>by simp [merge_Visible.j2] at h⟩
 | k+1=>by
  obtain ⟨ih0,ih1,ih2⟩:=merge_Visible.mono_l k;refine ⟨?_,?_,?_⟩
  ·
   intro y0 y1 y2 y3 y4 y5
   unfold merge_Visible.l0
   exact lmo
  ·
   intro y0 y1 y2 y3 y4 y5 y6 y7 y8 y9 y10 y11
   unfold merge_Visible.j1
   exact lmo
  ·
   intro y0 y1 y2 y3 y4 y5 y6 y7 y8 y9 y10 y11
   unfold merge_Visible.j2
   exact lmo
theorem merge_Visible.mono:∀ a0 a1 k,LeO (merge_Visible.f k a0 a1) (merge_Visible.f (k+1) a0 a1):=by
 intro a0 a1 k
 obtain ⟨ih0,ih1,ih2⟩:=merge_Visible.mono_l k
 unfold merge_Visible.f
 exact lmo
def merge_Visible.T5:Bool × List (List Nat × List Nat):=(true,[([],[]),([0],[0]),([1],[1]),([2],[2]),([2],[2]),([4,2],[2,4]),([3,5,2],[2,3,5]),([6,2],[2,6]),([2],[2]),([7,8,2,2],[2,7,8]),([9,2],[2,9]),([2,10],[2,10]),([11,9],[11]),([12],[12]),([12],[12]),([14,12],[12,14]),([13,15,12],[12,13,15]),([16,12],[12,16]),([17,12],[12,17]),([12],[12]),([18,19,12],[12,18,19]),([12,20],[12,20]),([21,12,0,1,2,3,4,5,6,7,8,9,10,11,12,13,14,15,16,17,18,19,20,21],[21])])
def merge_Visible.B5:List Nat:=[0,1,3,7,7,23,63,127,7,511,1023,2047,4095,8191,8191,24575,65535,131071,262143,8191,1048575,2097151,4194303]
theorem merge_Visible.tab5:rtab .any (opsOf Try.f31 5)=merge_Visible.T5:=by kernel_rfl
theorem merge_Visible.bits5:waitsOk merge_Visible.T5.2 merge_Visible.B5=true:=by kernel_rfl
set_option maxHeartbeats 8000000 in
set_option maxRecDepth 100000 in
theorem merge_Visible.calls (k:Nat) (A0:Option Addr) (c0:Nat) (l0:List (S26)) (a1:Int) (r:List (S26)) (w:World) (hr0:Kd.C k26 w A0 l0.length l0) (hc0:l0.length≤c0) (h:merge_Visible.f k l0 a1=some r) :
  Calls Try.prog 31 #[.slice A0 l0.length c0,.int .i64 a1] w fun e w'=>∃ v0_:Value,e = .returned (v0_)∧Kd.R k26 26 w' w.heap.size (fun _=>True) v0_ r∧Below w.heap.size w w':=by
 have hu26:=Try.underlying26;have HR0:=aS hr0;have HC0:=aS hc0;clear hr0 hc0;have HB:=aS (Below.refl w.heap.size w);have H:(merge_Visible.l0 k l0 a1 ([]:List (S26)) l0 (l0.length:Int) 0)=some r:=h;clear h
 have H':=aS H
 clear H
 go_enter Try.func31,Try.ntmps31
 go_wp2
 go_loopg [5,11] k (fun kq v5 v11 w'=>∃ (x5_1:List (S26)) (x11_1:Int),v11 = .int .i64 x11_1∧Aside0 (merge_Visible.l0 kq l0 a1 x5_1 l0 (l0.length:Int) x11_1=some r)∧Aside0 (kq≤k)∧Aside0 (Kd.R k26 26 w' w.heap.size (fun _=>True) v5 x5_1)∧Aside0 (Below w.heap.size w w'))
 case atStart=>exact ⟨(([]:List (S26))),(0),srf,H',⟨Nat.le_refl _⟩,⟨by first | exact Kd.R_nil _ _ _ _ _ | exact Kd.N_nil _ _ _ _ _ | exact Kd.V_nil _ _ _ _ _ | exact Kd.Q_nil _ _ _ _ _ | exact Kd.S_nil _ _ _ _ _⟩,⟨bel⟩⟩
 case round=>
  clear H';obtain ⟨x5_1,x11_1,rfl,HA,HK1,HO_5,HB⟩:=hrel
  cases gk with
  | zero=>exact absurd HA.out (by simp [merge_Visible.l0])
  | succ k1=>
   have H:=HA.out;clear HA
   simp only [merge_Visible.l0] at H
   by_cases c3:x11_1<(l0.length:Int)
   ·
    rw [if_pos c3] at H;have c3b0:decide (x11_1<(l0.length:Int))=true:=decide_eq_true c3;clear c3
    by_cases c4:0≤x11_1
    ·
     rw [if_pos c4] at H;have c4b0:decide (0≤x11_1)=true:=decide_eq_true c4;clear c4
     by_cases c5:x11_1<(l0.length:Int)
     ·
      rw [if_pos c5] at H;have c5b0:decide (x11_1<(l0.length:Int))=true:=decide_eq_true c5;clear c5;have HC6:=aS H;clear H;have p516:0≤(x11_1:Int):=oda;have q516:x11_1<(l0.length:Int):=oda;obtain ⟨ad516,e516,hx516_0,hx516_1,hx516_2,hx516_3,hx516_4⟩:=at_T26 HR0.out x11_1 p516 q516;cases e516;replace hx516_0:=bx bel hx516_0;replace hx516_1:=bx bel hx516_1;replace hx516_2:=bx bel hx516_2;replace hx516_3:=bx bel hx516_3;replace hx516_4:=bx bel hx516_4;replace p516:=eq_true p516;replace q516:=eq_true q516
      go_upto_region 5 with (first | ((with_reducible refine gate_dst (N:=7) rfl ?_);refine box_event ?hg (N:=7) ?hd (cs:=#[.string (⟨#[]⟩:ByteArray),.string (⟨#[]⟩:ByteArray),.int .i64 0,.string (⟨#[]⟩:ByteArray),.bool false]) (t:=26) ?hr ?_;(case hd=>rfl);(case hg=>rfl);(case hr=>first | (go_simp;done) | (go_simp;rfl));intro gb517 hg w7 hbox hb;replace HO_5:=aS (Kd.R_below (Kd.R_elderB (rel HO_5.out) gb517 (Nat.le_of_eq hg.symm)) hb);have BK517:=aS (hbox);have GW517:=bsize hg;have GE517:=bsize hg;replace HB:=bstep hb;clear hb hbox hg;have hcz8:=cK5 BK517))
      (try simp only [Act.put,lsa,lsz,lss])
      go_cut [8] (fun v8 wc=>∃ (kq:Nat) (x8_5:Bool),v8 = .bool x8_5∧Aside0 (merge_Visible.j1 kq l0 a1 x5_1 x8_5 l0 (l0.length:Int) x11_1 ((rd_T26 l0 x11_1).f0) ((rd_T26 l0 x11_1).f1) ((rd_T26 l0 x11_1).f2) ((rd_T26 l0 x11_1).f3) ((rd_T26 l0 x11_1).f4)=some r)∧Aside0 (kq≤k1)∧Aside0 (Kd.R k26 26 wc w.heap.size (fun k_=>k_≠gb517) u5 x5_1)∧Aside0 (wc.heap[gb517]? = some (.cells #[.string ((rd_T26 l0 x11_1).f0),.string ((rd_T26 l0 x11_1).f1),.int .i64 ((rd_T26 l0 x11_1).f2),.string ((rd_T26 l0 x11_1).f3),.bool ((rd_T26 l0 x11_1).f4)] 26 (0,0)))∧Aside0 (Below w.heap.size w wc))
      case first=>
       have H:=HC6.out;clear HC6
       by_cases c9:x11_1=0
       ·
        rw [if_pos c9] at H;obtain ⟨c9b0,c9b1⟩:=eqT c9;clear c9
        (first | rw [c9b0] | (simp only [i64_w,i32_w];rw [c9b0]) | skip)
        have H':=aS H
        clear H
        try go_wp2
        have n0_:Aside0 (Kd.R k26 26 (((((w7.setCell ⟨gb517,0,none⟩ (.string ((rd_T26 l0 x11_1).f0))).setCell ⟨gb517,1,none⟩ (.string ((rd_T26 l0 x11_1).f1))).setCell ⟨gb517,2,none⟩ (.int .i64 ((rd_T26 l0 x11_1).f2))).setCell ⟨gb517,3,none⟩ (.string ((rd_T26 l0 x11_1).f3))).setCell ⟨gb517,4,none⟩ (.bool ((rd_T26 l0 x11_1).f4))) w.heap.size (fun k_=>k_≠gb517) u5 x5_1):=⟨by (with_reducible repeat (first | apply Kd.R_alloc | apply Kd.R_drewN | apply Kd.R_drew));exact Kd.R_mono (Kd.R_far (p:=⟨gb517,4,none⟩) (Kd.R_far (p:=⟨gb517,3,none⟩) (Kd.R_far (p:=⟨gb517,2,none⟩) (Kd.R_far (p:=⟨gb517,1,none⟩) (Kd.R_far (p:=⟨gb517,0,none⟩) (Kd.R_mono HO_5.out (fun k_ hk=>(⟨hk,hk.2⟩:_∧k_≠gb517))) (fun _ hk=>hk.2) (.string ((rd_T26 l0 x11_1).f0))) (fun _ hk=>hk.2) (.string ((rd_T26 l0 x11_1).f1))) (fun _ hk=>hk.2) (.int .i64 ((rd_T26 l0 x11_1).f2))) (fun _ hk=>hk.2) (.string ((rd_T26 l0 x11_1).f3))) (fun _ hk=>hk.2) (.bool ((rd_T26 l0 x11_1).f4))) (fun _ hk=>hk.1.2)⟩;have n1_:Aside0 ((((((w7.setCell ⟨gb517,0,none⟩ (.string ((rd_T26 l0 x11_1).f0))).setCell ⟨gb517,1,none⟩ (.string ((rd_T26 l0 x11_1).f1))).setCell ⟨gb517,2,none⟩ (.int .i64 ((rd_T26 l0 x11_1).f2))).setCell ⟨gb517,3,none⟩ (.string ((rd_T26 l0 x11_1).f3))).setCell ⟨gb517,4,none⟩ (.bool ((rd_T26 l0 x11_1).f4))).heap[gb517]? = some (.cells #[.string ((rd_T26 l0 x11_1).f0),.string ((rd_T26 l0 x11_1).f1),.int .i64 ((rd_T26 l0 x11_1).f2),.string ((rd_T26 l0 x11_1).f3),.bool ((rd_T26 l0 x11_1).f4)] 26 (0,0))):=⟨by (with_reducible repeat (first | refine blk_drewN ?_ _ | refine blk_drew ?_ | refine blk_alloc ?_ _));refine blk_put (cs:=#[.string ((rd_T26 l0 x11_1).f0),.string ((rd_T26 l0 x11_1).f1),.int .i64 ((rd_T26 l0 x11_1).f2),.string ((rd_T26 l0 x11_1).f3),.bool false]) ?_ 4 _ rfl;(with_reducible repeat (first | refine blk_drewN ?_ _ | refine blk_drew ?_ | refine blk_alloc ?_ _));refine blk_put (cs:=#[.string ((rd_T26 l0 x11_1).f0),.string ((rd_T26 l0 x11_1).f1),.int .i64 ((rd_T26 l0 x11_1).f2),.string (⟨#[]⟩:ByteArray),.bool false]) ?_ 3 _ rfl;(with_reducible repeat (first | refine blk_drewN ?_ _ | refine blk_drew ?_ | refine blk_alloc ?_ _));refine blk_put (cs:=#[.string ((rd_T26 l0 x11_1).f0),.string ((rd_T26 l0 x11_1).f1),.int .i64 0,.string (⟨#[]⟩:ByteArray),.bool false]) ?_ 2 _ rfl;(with_reducible repeat (first | refine blk_drewN ?_ _ | refine blk_drew ?_ | refine blk_alloc ?_ _));refine blk_put (cs:=#[.string ((rd_T26 l0 x11_1).f0),.string (⟨#[]⟩:ByteArray),.int .i64 0,.string (⟨#[]⟩:ByteArray),.bool false]) ?_ 1 _ rfl;(with_reducible repeat (first | refine blk_drewN ?_ _ | refine blk_drew ?_ | refine blk_alloc ?_ _));refine blk_put (cs:=#[.string (⟨#[]⟩:ByteArray),.string (⟨#[]⟩:ByteArray),.int .i64 0,.string (⟨#[]⟩:ByteArray),.bool false]) ?_ 0 _ rfl;(with_reducible repeat (first | refine blk_drewN ?_ _ | refine blk_drew ?_ | refine blk_alloc ?_ _));exact BK517.out⟩;have n2_:Aside0 (Below w.heap.size w (((((w7.setCell ⟨gb517,0,none⟩ (.string ((rd_T26 l0 x11_1).f0))).setCell ⟨gb517,1,none⟩ (.string ((rd_T26 l0 x11_1).f1))).setCell ⟨gb517,2,none⟩ (.int .i64 ((rd_T26 l0 x11_1).f2))).setCell ⟨gb517,3,none⟩ (.string ((rd_T26 l0 x11_1).f3))).setCell ⟨gb517,4,none⟩ (.bool ((rd_T26 l0 x11_1).f4)))):=⟨bel⟩;(try clear HO_5);(try clear BK517);(try clear HB)
        generalize (((((w7.setCell ⟨gb517,0,none⟩ (.string ((rd_T26 l0 x11_1).f0))).setCell ⟨gb517,1,none⟩ (.string ((rd_T26 l0 x11_1).f1))).setCell ⟨gb517,2,none⟩ (.int .i64 ((rd_T26 l0 x11_1).f2))).setCell ⟨gb517,3,none⟩ (.string ((rd_T26 l0 x11_1).f3))).setCell ⟨gb517,4,none⟩ (.bool ((rd_T26 l0 x11_1).f4)))=w10 at n0_ n1_ n2_ ⊢
        have HO_5:=n0_;have BK517:=n1_;have HB:=n2_;clear n0_ n1_ n2_;replace HO_5:=aS (Kd.R_drew HO_5.out);replace BK517:=aS (blk_drew BK517.out);replace HB:=aS (bdo HB.out);refine start_ (n:=23) (S:=fun w'=>True) (ds:=[]) (bA 23 0) (by kernel_rfl) rfl rfl trivial (fun hHeld=>?_);refine with_tabW merge_Visible.tab5 merge_Visible.bits5 (fun HT_ HW_=>?_)
        generalize w10.drew=w11 at HO_5 BK517 HB hHeld ⊢
        refine along_ [(0,16),(1,17),(2,18),(3,19),(4,20),(5,21),(6,22),(7,23),(8,24),(9,25),(10,26),(11,27),(12,28),(13,29),(14,30),(15,31),(16,32),(17,33),(18,34),(19,35),(20,36),(21,37),(22,8)] ?_
        iterate 23 (first | (refine skip3 HT_ ?_) | (refine pure3 HT_ ?_))
        refine lay_ (bA 23 8388607) (by kernel_rfl) ?_;refine done_ (done_of HT_.out (by kernel_rfl)) ?_
        try go_wp2
        go_meet
        case rel=>exact ⟨_,(true),srf,H',⟨by have:=HK1.out;first | omega | exact Nat.le_refl _⟩,⟨by (with_reducible repeat (first | apply Kd.R_alloc | apply Kd.R_drewN | apply Kd.R_drew));exact HO_5.out⟩,⟨bkl BK517.out⟩,⟨bel⟩⟩
       ·
        rw [if_neg c9] at H;obtain ⟨c9b0,c9b1⟩:=eqF c9
        (first | rw [c9b0] | (simp only [i64_w,i32_w];rw [c9b0]) | skip)
        obtain ⟨ji12,hji12⟩:∃ j_:Int,(wrap64 (x11_1 - 1))=j_:=⟨_,rfl⟩
        replace H:(if 0≤(ji12) then (if (ji12)<(l0.length:Int) then ((merge_same.f ((rd_T26 l0 (ji12)).f0) ((rd_T26 l0 (ji12)).f1) ((rd_T26 l0 (ji12)).f2) ((rd_T26 l0 (ji12)).f3) ((rd_T26 l0 (ji12)).f4) ((rd_T26 l0 x11_1).f0) ((rd_T26 l0 x11_1).f1) ((rd_T26 l0 x11_1).f2) ((rd_T26 l0 x11_1).f3) ((rd_T26 l0 x11_1).f4)).bind fun t519=>(if t519=true then (merge_Visible.j1 k1 l0 a1 x5_1 (decide (((rd_T26 l0 (ji12)).f2) > a1)) l0 (l0.length:Int) x11_1 ((rd_T26 l0 x11_1).f0) ((rd_T26 l0 x11_1).f1) ((rd_T26 l0 x11_1).f2) ((rd_T26 l0 x11_1).f3) ((rd_T26 l0 x11_1).f4)) else (merge_Visible.j1 k1 l0 a1 x5_1 true l0 (l0.length:Int) x11_1 ((rd_T26 l0 x11_1).f0) ((rd_T26 l0 x11_1).f1) ((rd_T26 l0 x11_1).f2) ((rd_T26 l0 x11_1).f3) ((rd_T26 l0 x11_1).f4)))) else (none)) else (none))=some r:=by first | (rw [hji12] at H;exact H) | (simp only [hji12] at H ⊢;exact H)
        have hji12w:(IntKind.i64.wrap (x11_1 - 1))=ji12:=(i64_w _).trans hji12
        by_cases c13:0≤(ji12)
        ·
         rw [if_pos c13] at H;have c13b0:decide (0≤(ji12))=true:=decide_eq_true c13;clear c13
         by_cases c14:(ji12)<(l0.length:Int)
         ·
          rw [if_pos c14] at H;have c14b0:decide ((ji12)<(l0.length:Int))=true:=decide_eq_true c14;clear c14;replace H:=obm H;obtain ⟨t519,A150,H⟩:=H;have A15:=aS A150;clear A150
          by_cases c16:t519=true
          ·
           subst c16
           replace H:=ifT H
           have H':=aS H
           clear H
           try go_wp2
           have n0_:Aside0 (Kd.R k26 26 (((((w7.setCell ⟨gb517,0,none⟩ (.string ((rd_T26 l0 x11_1).f0))).setCell ⟨gb517,1,none⟩ (.string ((rd_T26 l0 x11_1).f1))).setCell ⟨gb517,2,none⟩ (.int .i64 ((rd_T26 l0 x11_1).f2))).setCell ⟨gb517,3,none⟩ (.string ((rd_T26 l0 x11_1).f3))).setCell ⟨gb517,4,none⟩ (.bool ((rd_T26 l0 x11_1).f4))) w.heap.size (fun k_=>k_≠gb517) u5 x5_1):=⟨by (with_reducible repeat (first | apply Kd.R_alloc | apply Kd.R_drewN | apply Kd.R_drew));exact Kd.R_mono (Kd.R_far (p:=⟨gb517,4,none⟩) (Kd.R_far (p:=⟨gb517,3,none⟩) (Kd.R_far (p:=⟨gb517,2,none⟩) (Kd.R_far (p:=⟨gb517,1,none⟩) (Kd.R_far (p:=⟨gb517,0,none⟩) (Kd.R_mono HO_5.out (fun k_ hk=>(⟨hk,hk.2⟩:_∧k_≠gb517))) (fun _ hk=>hk.2) (.string ((rd_T26 l0 x11_1).f0))) (fun _ hk=>hk.2) (.string ((rd_T26 l0 x11_1).f1))) (fun _ hk=>hk.2) (.int .i64 ((rd_T26 l0 x11_1).f2))) (fun _ hk=>hk.2) (.string ((rd_T26 l0 x11_1).f3))) (fun _ hk=>hk.2) (.bool ((rd_T26 l0 x11_1).f4))) (fun _ hk=>hk.1.2)⟩;have n1_:Aside0 ((((((w7.setCell ⟨gb517,0,none⟩ (.string ((rd_T26 l0 x11_1).f0))).setCell ⟨gb517,1,none⟩ (.string ((rd_T26 l0 x11_1).f1))).setCell ⟨gb517,2,none⟩ (.int .i64 ((rd_T26 l0 x11_1).f2))).setCell ⟨gb517,3,none⟩ (.string ((rd_T26 l0 x11_1).f3))).setCell ⟨gb517,4,none⟩ (.bool ((rd_T26 l0 x11_1).f4))).heap[gb517]? = some (.cells #[.string ((rd_T26 l0 x11_1).f0),.string ((rd_T26 l0 x11_1).f1),.int .i64 ((rd_T26 l0 x11_1).f2),.string ((rd_T26 l0 x11_1).f3),.bool ((rd_T26 l0 x11_1).f4)] 26 (0,0))):=⟨by (with_reducible repeat (first | refine blk_drewN ?_ _ | refine blk_drew ?_ | refine blk_alloc ?_ _));refine blk_put (cs:=#[.string ((rd_T26 l0 x11_1).f0),.string ((rd_T26 l0 x11_1).f1),.int .i64 ((rd_T26 l0 x11_1).f2),.string ((rd_T26 l0 x11_1).f3),.bool false]) ?_ 4 _ rfl;(with_reducible repeat (first | refine blk_drewN ?_ _ | refine blk_drew ?_ | refine blk_alloc ?_ _));refine blk_put (cs:=#[.string ((rd_T26 l0 x11_1).f0),.string ((rd_T26 l0 x11_1).f1),.int .i64 ((rd_T26 l0 x11_1).f2),.string (⟨#[]⟩:ByteArray),.bool false]) ?_ 3 _ rfl;(with_reducible repeat (first | refine blk_drewN ?_ _ | refine blk_drew ?_ | refine blk_alloc ?_ _));refine blk_put (cs:=#[.string ((rd_T26 l0 x11_1).f0),.string ((rd_T26 l0 x11_1).f1),.int .i64 0,.string (⟨#[]⟩:ByteArray),.bool false]) ?_ 2 _ rfl;(with_reducible repeat (first | refine blk_drewN ?_ _ | refine blk_drew ?_ | refine blk_alloc ?_ _));refine blk_put (cs:=#[.string ((rd_T26 l0 x11_1).f0),.string (⟨#[]⟩:ByteArray),.int .i64 0,.string (⟨#[]⟩:ByteArray),.bool false]) ?_ 1 _ rfl;(with_reducible repeat (first | refine blk_drewN ?_ _ | refine blk_drew ?_ | refine blk_alloc ?_ _));refine blk_put (cs:=#[.string (⟨#[]⟩:ByteArray),.string (⟨#[]⟩:ByteArray),.int .i64 0,.string (⟨#[]⟩:ByteArray),.bool false]) ?_ 0 _ rfl;(with_reducible repeat (first | refine blk_drewN ?_ _ | refine blk_drew ?_ | refine blk_alloc ?_ _));exact BK517.out⟩;have n2_:Aside0 (Below w.heap.size w (((((w7.setCell ⟨gb517,0,none⟩ (.string ((rd_T26 l0 x11_1).f0))).setCell ⟨gb517,1,none⟩ (.string ((rd_T26 l0 x11_1).f1))).setCell ⟨gb517,2,none⟩ (.int .i64 ((rd_T26 l0 x11_1).f2))).setCell ⟨gb517,3,none⟩ (.string ((rd_T26 l0 x11_1).f3))).setCell ⟨gb517,4,none⟩ (.bool ((rd_T26 l0 x11_1).f4)))):=⟨bel⟩;(try clear HO_5);(try clear BK517);(try clear HB)
           generalize (((((w7.setCell ⟨gb517,0,none⟩ (.string ((rd_T26 l0 x11_1).f0))).setCell ⟨gb517,1,none⟩ (.string ((rd_T26 l0 x11_1).f1))).setCell ⟨gb517,2,none⟩ (.int .i64 ((rd_T26 l0 x11_1).f2))).setCell ⟨gb517,3,none⟩ (.string ((rd_T26 l0 x11_1).f3))).setCell ⟨gb517,4,none⟩ (.bool ((rd_T26 l0 x11_1).f4)))=w17 at n0_ n1_ n2_ ⊢
           have HO_5:=n0_;have BK517:=n1_;have HB:=n2_;clear n0_ n1_ n2_;replace HO_5:=aS (Kd.R_drew HO_5.out);replace BK517:=aS (blk_drew BK517.out);replace HB:=aS (bdo HB.out);have p518:0≤((ji12):Int):=oda;have q518:(ji12)<(l0.length:Int):=oda;obtain ⟨ad518,e518,hx518_0,hx518_1,hx518_2,hx518_3,hx518_4⟩:=at_T26 HR0.out (ji12) p518 q518;have hw518_4:=hx518_4;have hw518_3:=hx518_3;have hw518_2:=hx518_2;have hw518_1:=hx518_1;have hw518_0:=hx518_0
           obtain rfl:ad516=ad518:=(by injection e518)
           replace hx518_0:=bx bel hx518_0;replace hx518_1:=bx bel hx518_1;replace hx518_2:=bx bel hx518_2;replace hx518_3:=bx bel hx518_3;replace hx518_4:=bx bel hx518_4;replace p518:=eq_true p518;replace q518:=eq_true q518;have p520:0≤((ji12):Int):=oda;have q520:(ji12)<(l0.length:Int):=oda;obtain ⟨ad520,e520,hx520_0,hx520_1,hx520_2,hx520_3,hx520_4⟩:=at_T26 HR0.out (ji12) p520 q520;have hw520_4:=hx520_4;have hw520_3:=hx520_3;have hw520_2:=hx520_2;have hw520_1:=hx520_1;have hw520_0:=hx520_0
           obtain rfl:ad516=ad520:=(by injection e520)
           replace hx520_0:=bx bel hx520_0;replace hx520_1:=bx bel hx520_1;replace hx520_2:=bx bel hx520_2;replace hx520_3:=bx bel hx520_3;replace hx520_4:=bx bel hx520_4;replace p520:=eq_true p520;replace q520:=eq_true q520;refine start_ (n:=23) (S:=fun w'=>w'.cell? ⟨gb517,0,none⟩=some (.string ((rd_T26 l0 x11_1).f0))∧w'.cell? ⟨gb517,1,none⟩=some (.string ((rd_T26 l0 x11_1).f1))∧w'.cell? ⟨gb517,2,none⟩=some (.int .i64 ((rd_T26 l0 x11_1).f2))∧w'.cell? ⟨gb517,3,none⟩=some (.string ((rd_T26 l0 x11_1).f3))∧w'.cell? ⟨gb517,4,none⟩=some (.bool ((rd_T26 l0 x11_1).f4))∧w'.cell? (ad516.add (((ji12)).toNat*5))=some (.string ((rd_T26 l0 (ji12)).f0))∧w'.cell? ⟨(ad516.add (((ji12)).toNat*5)).block,(ad516.add (((ji12)).toNat*5)).off+1,none⟩=some (.string ((rd_T26 l0 (ji12)).f1))∧w'.cell? ⟨(ad516.add (((ji12)).toNat*5)).block,(ad516.add (((ji12)).toNat*5)).off+2,none⟩=some (.int .i64 ((rd_T26 l0 (ji12)).f2))∧w'.cell? ⟨(ad516.add (((ji12)).toNat*5)).block,(ad516.add (((ji12)).toNat*5)).off+3,none⟩=some (.string ((rd_T26 l0 (ji12)).f3))∧w'.cell? ⟨(ad516.add (((ji12)).toNat*5)).block,(ad516.add (((ji12)).toNat*5)).off+4,none⟩=some (.bool ((rd_T26 l0 (ji12)).f4))∧w'.cell? (ad516.add (((ji12)).toNat*5))=some (.string ((rd_T26 l0 (ji12)).f0))∧w'.cell? ⟨(ad516.add (((ji12)).toNat*5)).block,(ad516.add (((ji12)).toNat*5)).off+1,none⟩=some (.string ((rd_T26 l0 (ji12)).f1))∧w'.cell? ⟨(ad516.add (((ji12)).toNat*5)).block,(ad516.add (((ji12)).toNat*5)).off+2,none⟩=some (.int .i64 ((rd_T26 l0 (ji12)).f2))∧w'.cell? ⟨(ad516.add (((ji12)).toNat*5)).block,(ad516.add (((ji12)).toNat*5)).off+3,none⟩=some (.string ((rd_T26 l0 (ji12)).f3))∧w'.cell? ⟨(ad516.add (((ji12)).toNat*5)).block,(ad516.add (((ji12)).toNat*5)).off+4,none⟩=some (.bool ((rd_T26 l0 (ji12)).f4))) (ds:=[]) (bA 23 0) (by kernel_rfl) rfl rfl ⟨bc BK517 0,bc BK517 1,bc BK517 2,bc BK517 3,bc BK517 4,(bx bel hw518_0),(bx bel hw518_1),(bx bel hw518_2),(bx bel hw518_3),(bx bel hw518_4),(bx bel hw520_0),(bx bel hw520_1),(bx bel hw520_2),(bx bel hw520_3),(bx bel hw520_4)⟩ (fun hHeld=>?_);refine with_tabW merge_Visible.tab5 merge_Visible.bits5 (fun HT_ HW_=>?_)
           generalize w17.drew=w18 at HO_5 BK517 HB hx518_0 hx518_1 hx518_2 hx518_3 hx518_4 hx520_0 hx520_1 hx520_2 hx520_3 hx520_4 hHeld ⊢
           refine along_ [(0,16),(1,17),(2,18),(3,19),(4,20),(5,21),(6,22),(7,23),(8,24)] ?_
           iterate 9 (first | (refine pure3 HT_ ?_) | (refine take3 HT_ HW_ hHeld ?_))
           refine lay_ (bA 23 511) (by kernel_rfl) ?_;refine one3 9 (N:=some 25) (bA 23 1023) HT_ (fun K hK=>?_);refine goes_ Try.func48 (by kernel_rfl) rfl #[.agg #[.string ((rd_T26 l0 (ji12)).f0),.string ((rd_T26 l0 (ji12)).f1),.int .i64 ((rd_T26 l0 (ji12)).f2),.string ((rd_T26 l0 (ji12)).f3),.bool ((rd_T26 l0 (ji12)).f4)],.agg #[.string ((rd_T26 l0 x11_1).f0),.string ((rd_T26 l0 x11_1).f1),.int .i64 ((rd_T26 l0 x11_1).f2),.string ((rd_T26 l0 x11_1).f3),.bool ((rd_T26 l0 x11_1).f4)]] (by rfl) rfl rfl (by (try simp only [List.map_toArray,List.map_cons,List.map_nil]);first | done | (simp only [hji12];rfl) | rfl | (simp only [lld,llt];rfl)) ?_
           with_reducible refine (merge_same.calls ((rd_T26 l0 (ji12)).f0) ((rd_T26 l0 (ji12)).f1) ((rd_T26 l0 (ji12)).f2) ((rd_T26 l0 (ji12)).f3) ((rd_T26 l0 (ji12)).f4) ((rd_T26 l0 x11_1).f0) ((rd_T26 l0 x11_1).f1) ((rd_T26 l0 x11_1).f2) ((rd_T26 l0 x11_1).f3) ((rd_T26 l0 x11_1).f4) true _ A15.out).mono ?_
           rintro e w19 ⟨rfl,hb⟩
           refine ⟨_,rfl,?_⟩;replace HO_5:=aS (Kd.R_below (rel HO_5.out) hb);replace BK517:=bbl BK517 hb;replace HB:=bstep hb;(try clear hb);(try clear hk);(try clear hi);refine hK.out _ _ ⟨bc BK517 0,bc BK517 1,bc BK517 2,bc BK517 3,bc BK517 4,(bx bel hw518_0),(bx bel hw518_1),(bx bel hw518_2),(bx bel hw518_3),(bx bel hw518_4),(bx bel hw520_0),(bx bel hw520_1),(bx bel hw520_2),(bx bel hw520_3),(bx bel hw520_4)⟩ (fun hHeld=>?_);clear hK K;refine nm 25 ?_;refine along_ [(10,26),(11,27),(12,28),(13,29),(14,30),(15,31),(16,32),(17,33),(19,35),(18,34),(20,36),(21,37),(22,8)] ?_
           iterate 13 (first | (refine pure3 HT_ ?_) | (refine take3 HT_ HW_ hHeld ?_))
           refine lay_ (bA 23 8388607) (by kernel_rfl) ?_;refine done_ (done_of HT_.out (by kernel_rfl)) ?_
           try go_wp2
           go_meet
           case rel=>exact ⟨_,(decide (((rd_T26 l0 (ji12)).f2) > a1)),(by first | rfl | (simp;done) | (simp only [←hji12]<;>(first | rfl | simp)) | (simp [*];done)),H',⟨by have:=HK1.out;first | omega | exact Nat.le_refl _⟩,⟨by (with_reducible repeat (first | apply Kd.R_alloc | apply Kd.R_drewN | apply Kd.R_drew));exact HO_5.out⟩,⟨bkl BK517.out⟩,⟨bel⟩⟩
          ·
           replace c16:=Bool.eq_false_iff.mpr c16;subst c16
           replace H:=ifF H
           have H':=aS H
           clear H
           try go_wp2
           have n0_:Aside0 (Kd.R k26 26 (((((w7.setCell ⟨gb517,0,none⟩ (.string ((rd_T26 l0 x11_1).f0))).setCell ⟨gb517,1,none⟩ (.string ((rd_T26 l0 x11_1).f1))).setCell ⟨gb517,2,none⟩ (.int .i64 ((rd_T26 l0 x11_1).f2))).setCell ⟨gb517,3,none⟩ (.string ((rd_T26 l0 x11_1).f3))).setCell ⟨gb517,4,none⟩ (.bool ((rd_T26 l0 x11_1).f4))) w.heap.size (fun k_=>k_≠gb517) u5 x5_1):=⟨by (with_reducible repeat (first | apply Kd.R_alloc | apply Kd.R_drewN | apply Kd.R_drew));exact Kd.R_mono (Kd.R_far (p:=⟨gb517,4,none⟩) (Kd.R_far (p:=⟨gb517,3,none⟩) (Kd.R_far (p:=⟨gb517,2,none⟩) (Kd.R_far (p:=⟨gb517,1,none⟩) (Kd.R_far (p:=⟨gb517,0,none⟩) (Kd.R_mono HO_5.out (fun k_ hk=>(⟨hk,hk.2⟩:_∧k_≠gb517))) (fun _ hk=>hk.2) (.string ((rd_T26 l0 x11_1).f0))) (fun _ hk=>hk.2) (.string ((rd_T26 l0 x11_1).f1))) (fun _ hk=>hk.2) (.int .i64 ((rd_T26 l0 x11_1).f2))) (fun _ hk=>hk.2) (.string ((rd_T26 l0 x11_1).f3))) (fun _ hk=>hk.2) (.bool ((rd_T26 l0 x11_1).f4))) (fun _ hk=>hk.1.2)⟩;have n1_:Aside0 ((((((w7.setCell ⟨gb517,0,none⟩ (.string ((rd_T26 l0 x11_1).f0))).setCell ⟨gb517,1,none⟩ (.string ((rd_T26 l0 x11_1).f1))).setCell ⟨gb517,2,none⟩ (.int .i64 ((rd_T26 l0 x11_1).f2))).setCell ⟨gb517,3,none⟩ (.string ((rd_T26 l0 x11_1).f3))).setCell ⟨gb517,4,none⟩ (.bool ((rd_T26 l0 x11_1).f4))).heap[gb517]? = some (.cells #[.string ((rd_T26 l0 x11_1).f0),.string ((rd_T26 l0 x11_1).f1),.int .i64 ((rd_T26 l0 x11_1).f2),.string ((rd_T26 l0 x11_1).f3),.bool ((rd_T26 l0 x11_1).f4)] 26 (0,0))):=⟨by (with_reducible repeat (first | refine blk_drewN ?_ _ | refine blk_drew ?_ | refine blk_alloc ?_ _));refine blk_put (cs:=#[.string ((rd_T26 l0 x11_1).f0),.string ((rd_T26 l0 x11_1).f1),.int .i64 ((rd_T26 l0 x11_1).f2),.string ((rd_T26 l0 x11_1).f3),.bool false]) ?_ 4 _ rfl;(with_reducible repeat (first | refine blk_drewN ?_ _ | refine blk_drew ?_ | refine blk_alloc ?_ _));refine blk_put (cs:=#[.string ((rd_T26 l0 x11_1).f0),.string ((rd_T26 l0 x11_1).f1),.int .i64 ((rd_T26 l0 x11_1).f2),.string (⟨#[]⟩:ByteArray),.bool false]) ?_ 3 _ rfl;(with_reducible repeat (first | refine blk_drewN ?_ _ | refine blk_drew ?_ | refine blk_alloc ?_ _));refine blk_put (cs:=#[.string ((rd_T26 l0 x11_1).f0),.string ((rd_T26 l0 x11_1).f1),.int .i64 0,.string (⟨#[]⟩:ByteArray),.bool false]) ?_ 2 _ rfl;(with_reducible repeat (first | refine blk_drewN ?_ _ | refine blk_drew ?_ | refine blk_alloc ?_ _));refine blk_put (cs:=#[.string ((rd_T26 l0 x11_1).f0),.string (⟨#[]⟩:ByteArray),.int .i64 0,.string (⟨#[]⟩:ByteArray),.bool false]) ?_ 1 _ rfl;(with_reducible repeat (first | refine blk_drewN ?_ _ | refine blk_drew ?_ | refine blk_alloc ?_ _));refine blk_put (cs:=#[.string (⟨#[]⟩:ByteArray),.string (⟨#[]⟩:ByteArray),.int .i64 0,.string (⟨#[]⟩:ByteArray),.bool false]) ?_ 0 _ rfl;(with_reducible repeat (first | refine blk_drewN ?_ _ | refine blk_drew ?_ | refine blk_alloc ?_ _));exact BK517.out⟩;have n2_:Aside0 (Below w.heap.size w (((((w7.setCell ⟨gb517,0,none⟩ (.string ((rd_T26 l0 x11_1).f0))).setCell ⟨gb517,1,none⟩ (.string ((rd_T26 l0 x11_1).f1))).setCell ⟨gb517,2,none⟩ (.int .i64 ((rd_T26 l0 x11_1).f2))).setCell ⟨gb517,3,none⟩ (.string ((rd_T26 l0 x11_1).f3))).setCell ⟨gb517,4,none⟩ (.bool ((rd_T26 l0 x11_1).f4)))):=⟨bel⟩;(try clear HO_5);(try clear BK517);(try clear HB)
           generalize (((((w7.setCell ⟨gb517,0,none⟩ (.string ((rd_T26 l0 x11_1).f0))).setCell ⟨gb517,1,none⟩ (.string ((rd_T26 l0 x11_1).f1))).setCell ⟨gb517,2,none⟩ (.int .i64 ((rd_T26 l0 x11_1).f2))).setCell ⟨gb517,3,none⟩ (.string ((rd_T26 l0 x11_1).f3))).setCell ⟨gb517,4,none⟩ (.bool ((rd_T26 l0 x11_1).f4)))=w20 at n0_ n1_ n2_ ⊢
           have HO_5:=n0_;have BK517:=n1_;have HB:=n2_;clear n0_ n1_ n2_;replace HO_5:=aS (Kd.R_drew HO_5.out);replace BK517:=aS (blk_drew BK517.out);replace HB:=aS (bdo HB.out);have p518:0≤((ji12):Int):=oda;have q518:(ji12)<(l0.length:Int):=oda;obtain ⟨ad518,e518,hx518_0,hx518_1,hx518_2,hx518_3,hx518_4⟩:=at_T26 HR0.out (ji12) p518 q518;have hw518_4:=hx518_4;have hw518_3:=hx518_3;have hw518_2:=hx518_2;have hw518_1:=hx518_1;have hw518_0:=hx518_0
           obtain rfl:ad516=ad518:=(by injection e518)
           replace hx518_0:=bx bel hx518_0;replace hx518_1:=bx bel hx518_1;replace hx518_2:=bx bel hx518_2;replace hx518_3:=bx bel hx518_3;replace hx518_4:=bx bel hx518_4;replace p518:=eq_true p518;replace q518:=eq_true q518;refine start_ (n:=23) (S:=fun w'=>w'.cell? ⟨gb517,0,none⟩=some (.string ((rd_T26 l0 x11_1).f0))∧w'.cell? ⟨gb517,1,none⟩=some (.string ((rd_T26 l0 x11_1).f1))∧w'.cell? ⟨gb517,2,none⟩=some (.int .i64 ((rd_T26 l0 x11_1).f2))∧w'.cell? ⟨gb517,3,none⟩=some (.string ((rd_T26 l0 x11_1).f3))∧w'.cell? ⟨gb517,4,none⟩=some (.bool ((rd_T26 l0 x11_1).f4))∧w'.cell? (ad516.add (((ji12)).toNat*5))=some (.string ((rd_T26 l0 (ji12)).f0))∧w'.cell? ⟨(ad516.add (((ji12)).toNat*5)).block,(ad516.add (((ji12)).toNat*5)).off+1,none⟩=some (.string ((rd_T26 l0 (ji12)).f1))∧w'.cell? ⟨(ad516.add (((ji12)).toNat*5)).block,(ad516.add (((ji12)).toNat*5)).off+2,none⟩=some (.int .i64 ((rd_T26 l0 (ji12)).f2))∧w'.cell? ⟨(ad516.add (((ji12)).toNat*5)).block,(ad516.add (((ji12)).toNat*5)).off+3,none⟩=some (.string ((rd_T26 l0 (ji12)).f3))∧w'.cell? ⟨(ad516.add (((ji12)).toNat*5)).block,(ad516.add (((ji12)).toNat*5)).off+4,none⟩=some (.bool ((rd_T26 l0 (ji12)).f4))) (ds:=[]) (bA 23 0) (by kernel_rfl) rfl rfl ⟨bc BK517 0,bc BK517 1,bc BK517 2,bc BK517 3,bc BK517 4,(bx bel hw518_0),(bx bel hw518_1),(bx bel hw518_2),(bx bel hw518_3),(bx bel hw518_4)⟩ (fun hHeld=>?_);refine with_tabW merge_Visible.tab5 merge_Visible.bits5 (fun HT_ HW_=>?_)
           generalize w20.drew=w21 at HO_5 BK517 HB hx518_0 hx518_1 hx518_2 hx518_3 hx518_4 hHeld ⊢
           refine along_ [(0,16),(1,17),(2,18),(3,19),(4,20),(5,21),(6,22),(7,23),(8,24)] ?_
           iterate 9 (first | (refine pure3 HT_ ?_) | (refine take3 HT_ HW_ hHeld ?_))
           refine lay_ (bA 23 511) (by kernel_rfl) ?_;refine one3 9 (N:=some 25) (bA 23 1023) HT_ (fun K hK=>?_);refine goes_ Try.func48 (by kernel_rfl) rfl #[.agg #[.string ((rd_T26 l0 (ji12)).f0),.string ((rd_T26 l0 (ji12)).f1),.int .i64 ((rd_T26 l0 (ji12)).f2),.string ((rd_T26 l0 (ji12)).f3),.bool ((rd_T26 l0 (ji12)).f4)],.agg #[.string ((rd_T26 l0 x11_1).f0),.string ((rd_T26 l0 x11_1).f1),.int .i64 ((rd_T26 l0 x11_1).f2),.string ((rd_T26 l0 x11_1).f3),.bool ((rd_T26 l0 x11_1).f4)]] (by rfl) rfl rfl (by (try simp only [List.map_toArray,List.map_cons,List.map_nil]);first | done | (simp only [hji12];rfl) | rfl | (simp only [lld,llt];rfl)) ?_
           with_reducible refine (merge_same.calls ((rd_T26 l0 (ji12)).f0) ((rd_T26 l0 (ji12)).f1) ((rd_T26 l0 (ji12)).f2) ((rd_T26 l0 (ji12)).f3) ((rd_T26 l0 (ji12)).f4) ((rd_T26 l0 x11_1).f0) ((rd_T26 l0 x11_1).f1) ((rd_T26 l0 x11_1).f2) ((rd_T26 l0 x11_1).f3) ((rd_T26 l0 x11_1).f4) false _ A15.out).mono ?_
           rintro e w22 ⟨rfl,hb⟩
           refine ⟨_,rfl,?_⟩;replace HO_5:=aS (Kd.R_below (rel HO_5.out) hb);replace BK517:=bbl BK517 hb;replace HB:=bstep hb;(try clear hb);(try clear hk);(try clear hi);refine hK.out _ _ ⟨bc BK517 0,bc BK517 1,bc BK517 2,bc BK517 3,bc BK517 4,(bx bel hw518_0),(bx bel hw518_1),(bx bel hw518_2),(bx bel hw518_3),(bx bel hw518_4)⟩ (fun hHeld=>?_);clear hK K;refine nm 25 ?_;refine along_ [(10,26),(11,27),(12,28),(13,29),(14,30),(15,31),(16,32),(17,33),(18,34),(19,35),(20,36),(21,37),(22,8)] ?_
           iterate 13 (first | (refine skip3 HT_ ?_) | (refine pure3 HT_ ?_))
           refine lay_ (bA 23 8388607) (by kernel_rfl) ?_;refine done_ (done_of HT_.out (by kernel_rfl)) ?_
           try go_wp2
           go_meet
           case rel=>exact ⟨_,(true),srf,H',⟨by have:=HK1.out;first | omega | exact Nat.le_refl _⟩,⟨by (with_reducible repeat (first | apply Kd.R_alloc | apply Kd.R_drewN | apply Kd.R_drew));exact HO_5.out⟩,⟨bkl BK517.out⟩,⟨bel⟩⟩
         ·
          rw [if_neg c14] at H;exact absurd H (by simp)
        ·
         rw [if_neg c13] at H;exact absurd H (by simp)
      case rest=>
       clear HC6;(try clear c4);obtain ⟨kq,x8_5,rfl,HA,HJ5,HO_5,BK517,HB⟩:=hcut
       cases kq with
       | zero=>exact absurd HA.out (by simp [merge_Visible.j1])
       | succ kj5=>
        have H:=HA.out;clear HA
        simp only [merge_Visible.j1] at H
        have HC23:=aS H;clear H
        go_upto_region 6 with (fail)
        go_cut [49] (fun v49 wc=>∃ (kq:Nat) (x49_22:Bool),v49 = .bool x49_22∧Aside0 (merge_Visible.j2 kq l0 a1 x5_1 l0 (l0.length:Int) x11_1 x49_22 ((rd_T26 l0 x11_1).f0) ((rd_T26 l0 x11_1).f1) ((rd_T26 l0 x11_1).f2) ((rd_T26 l0 x11_1).f3) ((rd_T26 l0 x11_1).f4)=some r)∧Aside0 (kq≤kj5)∧Aside0 (Kd.R k26 26 wc w.heap.size (fun k_=>k_≠gb517) u5 x5_1)∧Aside0 (wc.heap[gb517]? = some (.cells #[.string ((rd_T26 l0 x11_1).f0),.string ((rd_T26 l0 x11_1).f1),.int .i64 ((rd_T26 l0 x11_1).f2),.string ((rd_T26 l0 x11_1).f3),.bool ((rd_T26 l0 x11_1).f4)] 26 (0,0)))∧Aside0 (Below w.heap.size w wc))
        case first=>
         have H:=HC23.out;clear HC23
         by_cases c24:((rd_T26 l0 x11_1).f2)≤a1
         ·
          rw [if_pos c24] at H;have c24b0:decide (((rd_T26 l0 x11_1).f2)≤a1)=true:=decide_eq_true c24;clear c24
          (first | rw [c24b0] | (simp only [i64_w,i32_w];rw [c24b0]) | skip)
          by_cases c25:x8_5=true
          ·
           subst c25
           replace H:=ifT H
           have H':=aS H
           clear H;have hcz26:=cK5 BK517
           go_wp2
           go_meet
           case rel=>exact ⟨_,(!((rd_T26 l0 x11_1).f4)),srf,H',⟨by have:=HK1.out;have:=HJ5.out;first | omega | exact Nat.le_refl _⟩,⟨by (with_reducible repeat (first | apply Kd.R_alloc | apply Kd.R_drewN | apply Kd.R_drew));exact HO_5.out⟩,⟨bkl BK517.out⟩,⟨bel⟩⟩
          ·
           replace c25:=Bool.eq_false_iff.mpr c25;subst c25
           replace H:=ifF H
           have H':=aS H
           clear H;have hcz27:=cK5 BK517
           go_wp2
           go_meet
           case rel=>exact ⟨_,(false),srf,H',⟨by have:=HK1.out;have:=HJ5.out;first | omega | exact Nat.le_refl _⟩,⟨by (with_reducible repeat (first | apply Kd.R_alloc | apply Kd.R_drewN | apply Kd.R_drew));exact HO_5.out⟩,⟨bkl BK517.out⟩,⟨bel⟩⟩
         ·
          rw [if_neg c24] at H;have c24b0:decide (((rd_T26 l0 x11_1).f2)≤a1)=false:=decide_eq_false c24;clear c24
          (first | rw [c24b0] | (simp only [i64_w,i32_w];rw [c24b0]) | skip)
          have H':=aS H
          clear H;have hcz28:=cK5 BK517
          go_wp2
          go_meet
          case rel=>exact ⟨_,(false),srf,H',⟨by have:=HK1.out;have:=HJ5.out;first | omega | exact Nat.le_refl _⟩,⟨by (with_reducible repeat (first | apply Kd.R_alloc | apply Kd.R_drewN | apply Kd.R_drew));exact HO_5.out⟩,⟨bkl BK517.out⟩,⟨bel⟩⟩
        case rest=>
         clear HC23;(try clear c4);obtain ⟨kq,x49_22,rfl,HA,HJ22,HO_5,BK517,HB⟩:=hcut
         cases kq with
         | zero=>exact absurd HA.out (by simp [merge_Visible.j2])
         | succ kj22=>
          have H:=HA.out;clear HA
          simp only [merge_Visible.j2] at H
          by_cases c29:x49_22=true
          ·
           subst c29
           replace H:=ifT H
           by_cases c30:x5_1.length<2199023255552
           ·
            rw [if_pos c30] at H;have LMc30:=aS c30;clear c30
            obtain ⟨y521,hy521⟩:∃ y_:List (S26),y_=(x5_1++[(⟨((rd_T26 l0 x11_1).f0),((rd_T26 l0 x11_1).f1),((rd_T26 l0 x11_1).f2),((rd_T26 l0 x11_1).f3),((rd_T26 l0 x11_1).f4)⟩:S26)]):=⟨_,rfl⟩
            (first | replace H:=hyn hy521 H | rw [←hy521] at H);have Ny521:=aS hy521;clear hy521
            have H':=aS H
            clear H;have hcz31:=cK5 BK517
            go_wp2_with (first | ((with_reducible refine gate_builtin (b:=.append) (xs:=#[.tmp 50,.tmp 52]) rfl ?_);at_builtin;refine Kd.R_append k26 (w0:=w) w.heap.size rfl (.tmp 50) (.tmp 52) 24 26 (.agg #[(.string ⟨#[]⟩),(.string ⟨#[]⟩),(.int .i64 0),(.string ⟨#[]⟩),(.bool false)]) 64 rfl Try.underlying24 info26 rfl (by decide) (by omega) u5 x5_1 (⟨((rd_T26 l0 x11_1).f0),((rd_T26 l0 x11_1).f1),((rd_T26 l0 x11_1).f2),((rd_T26 l0 x11_1).f3),((rd_T26 l0 x11_1).f4)⟩:S26) [.string ((rd_T26 l0 x11_1).f0),.string ((rd_T26 l0 x11_1).f1),.int .i64 ((rd_T26 l0 x11_1).f2),.string ((rd_T26 l0 x11_1).f3),.bool ((rd_T26 l0 x11_1).f4)] (fun k_=>k_≠gb517) (fun _=>False) rfl rfl ?aP (fun _ hk=>hk.elim) ?aF ?aO ?aB ?aS ?aL ?_;(case aP=>exact k26_mkM _ _ _ (⟨((rd_T26 l0 x11_1).f0),((rd_T26 l0 x11_1).f1),((rd_T26 l0 x11_1).f2),((rd_T26 l0 x11_1).f3),((rd_T26 l0 x11_1).f4)⟩:S26));(case aB=>exact bel);(case aF=>exact (fun k_ hk=>Kd.freshB (g:=gb517) (o:=.cells #[.string ((rd_T26 l0 x11_1).f0),.string ((rd_T26 l0 x11_1).f1),.int .i64 ((rd_T26 l0 x11_1).f2),.string ((rd_T26 l0 x11_1).f3),.bool ((rd_T26 l0 x11_1).f4)] 26 (0,0)) (bkl BK517.out) k_ hk));(case aO=>exact (rel HO_5.out));(case aS=>exact (below_size bel));(case aL=>have:=LMc30.out;omega);intro v522 w32 ho hb hg hat;rw [←Ny521.out] at ho;have n0_:=aS (blk_grown (g:=gb517) (o:=.cells #[.string ((rd_T26 l0 x11_1).f0),.string ((rd_T26 l0 x11_1).f1),.int .i64 ((rd_T26 l0 x11_1).f2),.string ((rd_T26 l0 x11_1).f3),.bool ((rd_T26 l0 x11_1).f4)] 26 (0,0)) (bkl BK517.out) hg (Kd.R_away HO_5.out (fun _ hk=>hk)));have n1_:=aS (hb);have n2_:=aS (ho);clear BK517;clear HB;clear HO_5;have BK517:=n0_;have HB:=n1_;have HO523:=n2_;clear n0_ n1_ n2_;clear ho hb hg hat))
            go_roundg kj22
            case measure=>have:=HK1.out;have:=HJ5.out;have:=HJ22.out;omega
            case rel=>exact ⟨(y521),(wrap64 (x11_1+1)),srf,H',⟨by have:=HK1.out;have:=HJ5.out;have:=HJ22.out;omega⟩,⟨by (with_reducible repeat (first | apply Kd.R_alloc | apply Kd.R_drewN | apply Kd.R_drew));exact Kd.R_mono HO523.out (fun _ hk=>trivial)⟩,⟨bel⟩⟩
           ·
            rw [if_neg c30] at H;exact absurd H (by simp)
          ·
           replace c29:=Bool.eq_false_iff.mpr c29;subst c29
           replace H:=ifF H
           have H':=aS H
           clear H
           go_wp2
           go_roundg kj22
           case measure=>have:=HK1.out;have:=HJ5.out;have:=HJ22.out;omega
           case rel=>exact ⟨(x5_1),(wrap64 (x11_1+1)),srf,H',⟨by have:=HK1.out;have:=HJ5.out;have:=HJ22.out;omega⟩,⟨by (with_reducible repeat (first | apply Kd.R_alloc | apply Kd.R_drewN | apply Kd.R_drew));exact Kd.R_mono HO_5.out (fun _ hk=>trivial)⟩,⟨bel⟩⟩
     ·
      rw [if_neg c5] at H;exact absurd H (by simp)
    ·
     rw [if_neg c4] at H;exact absurd H (by simp)
   ·
    rw [if_neg c3] at H;have c3b0:decide (x11_1<(l0.length:Int))=false:=decide_eq_false c3;clear c3
    obtain rfl:=Option.some.inj H
    go_wp2
    go_ret
    exact ⟨_,rf3,by (with_reducible repeat (first | apply Kd.R_alloc | apply Kd.R_drewN | apply Kd.R_drew));exact HO_5.out,bel⟩

/-! ### tree_Tree_Scan: function 14 -/
/-- Is a cell's row one of those asked for? -/
def tree_Tree_Scan.keep (a b:ByteArray) (c:S26):Bool:=!(Op.bytesLess c.f0.toList a.toList) && (b.toList == [] || Op.bytesLess c.f0.toList b.toList)
def tree_Tree_Scan.f (k:Nat) (xs:List S26) (ls:List (List (List S26 × List (List S26) × List Int))) (a b:ByteArray) (t:Int):Option (List S26):=(tree_Tree_Cells.f k xs ls).bind fun c=>(merge_Visible.f k c t).bind fun v=>if v.length<2199023255552 then some (v.filter (tree_Tree_Scan.keep a b)) else none
theorem tree_Tree_Scan.mono:∀ a0 a1 a2 a3 a4 k,LeO (tree_Tree_Scan.f k a0 a1 a2 a3 a4) (tree_Tree_Scan.f (k+1) a0 a1 a2 a3 a4):=fun _ _ _ _ _ _=>LeO.bind (tree_Tree_Cells.mono _ _ _) fun _=>LeO.bind (merge_Visible.mono _ _ _) fun _=>LeO.refl _
attribute [local go_sem] geq_str
set_option maxHeartbeats 8000000 in
set_option maxRecDepth 100000 in
theorem tree_Tree_Scan.calls (k g base:Nat) (ok:Nat→Prop) (s1 s2 s3:Int) (xs:List S26) (n:Int) (ls:List (List (List S26 × List (List S26) × List Int))) (a b:ByteArray) (t:Int) (r:List S26) (w:World) (hA:tree_New.At w base ok g s1 s2 s3 xs n ls) (h:tree_Tree_Scan.f k xs ls a b t=some r) :
  Calls Try.prog 14 #[.pointer (some ⟨g,0,none⟩),.string a,.string b,.int .i64 t] w fun e w'=>∃ v0_:Value,e = .returned v0_∧Kd.R k26 26 w' w.heap.size (fun _=>True) v0_ r∧Below w.heap.size w w':=by
 have hu24:=Try.underlying24;have hu26:=Try.underlying26
 unfold tree_Tree_Scan.f at h
 replace h:=obm h;obtain ⟨c,x1,h⟩:=h;replace h:=obm h;obtain ⟨vs,x2,h⟩:=h
 by_cases hlim:vs.length<2199023255552
 case neg=>rw [if_neg hlim] at h;cases h
 rw [if_pos hlim] at h
 obtain rfl:=Option.some.inj h
 have HA:=aS hA;have X1:=aS x1;have X2:=aS x2;have HLM:=aS hlim;clear hA x1 x2 hlim h
 go_enter Try.func14,Try.ntmps14
 go_wp2_with (first | (go_at_call 13;(with_reducible refine (tree_Tree_Cells.calls k base ok g s1 s2 s3 xs n ls c _ HA.out X1.out).mono ?_);rintro e_ w2 ⟨v2,rfl,ho,hb⟩;obtain ⟨Ac,cc,rfl,hcl,hC⟩:=Kd.R_reads ho;have HCc:=aS hC;have HLc:=aS hcl;have HB1:=aS hb;clear ho hb hC hcl) | (go_at_call 31;(with_reducible refine (merge_Visible.calls k Ac cc c t vs _ HCc.out HLc.out X2.out).mono ?_);rintro e_ w3 ⟨v3,rfl,ho,hb⟩;obtain ⟨A,cv,rfl,hcl,hC⟩:=Kd.R_reads ho;have HC:=aS hC;have HL:=aS hcl;have HB:=aS (below_step HB1.out hb);clear ho hb hC hcl HB1 HCc HLc))
 go_loopw [9,17] (fun v9 v17 wr=>∃ (i:Nat),v17 = .int .i64 (i:Int)∧Aside0 (i≤vs.length)∧Aside0 (Kd.R k26 26 wr w3.heap.size (fun _=>True) v9 (vs.take i |>.filter (tree_Tree_Scan.keep a b)))∧Aside0 (Below w3.heap.size w3 wr)) (fun _ i _=>vs.length - (intOf i).toNat)
 case atStart=>exact ⟨0,rfl,⟨Nat.zero_le _⟩,⟨Kd.R_nil _ _ _ _ _⟩,⟨Below.refl _ _⟩⟩
 case round=>
  obtain ⟨i,rfl,hi,HR,HBr⟩:=hrel
  by_cases hlt:i<vs.length
  ·
   have hq1:(i:Int)<(vs.length:Int):=by omega
   have hq0:(0:Int)≤(i:Int):=by omega
   obtain ⟨ad,e_,hx0,hx1,hx2,hx3,hx4⟩:=at_T26 (Kd.C_below HC.out HBr.out) (i:Int) hq0 hq1;subst e_
   obtain ⟨x,hx⟩:∃ x,x=rd_T26 vs (i:Int):=⟨_,rfl⟩
   rw [←hx] at hx0 hx1 hx2 hx3 hx4
   have hxe:x=vs[i]:=by rw [hx];unfold rd_T26;rw [Int.toNat_natCast,List.getD_eq_getElem?_getD,List.getElem?_eq_getElem hlt];rfl
   have HT:Aside0 ((vs.take (i+1) |>.filter (tree_Tree_Scan.keep a b))=(vs.take i |>.filter (tree_Tree_Scan.keep a b))++if tree_Tree_Scan.keep a b x=true then [x] else []):=aS (by
    rw [List.take_succ_eq_append_getElem hlt,List.filter_append,← hxe]
    congr 1
    by_cases hk:tree_Tree_Scan.keep a b x=true<;>simp [hk])
   have HLA:Aside0 ((vs.take i |>.filter (tree_Tree_Scan.keep a b)).length<2199023255552):=aS (Nat.lt_of_le_of_lt (List.length_filter_le _ _) (by rw [llt];have:=HLM.out;omega))
   have hix:∀ W:World,(Instr.indexAt 24 (.slice (some ad) vs.length cv) (.int .i64 (i:Int))).run Try.prog W = .ok (.pointer (some (ad.add (i*5)))) W:=by
    obtain ⟨i0,hi0,hz⟩:=Option.map_eq_some_iff.1 info26
    simp only [Prod.mk.injEq] at hz
    intro W
    have h1:=index_ad 24 26 hu24 hi0 5 hz.2.1 ad vs.length cv (i:Int) (by omega) (by omega) W
    rwa [Int.toNat_natCast] at h1
   have hwr:wrap64 ((i:Int)+1)=(i:Int)+1:=by rw [←i64_w,IntKind.wrap_i64];have:=HLM.out;omega
   rw [Int.toNat_natCast] at hx0 hx1 hx2 hx3 hx4;clear hx hxe hi hq0
   by_cases c8:Op.bytesLess x.f0.toList a.toList=true
   rotate_left
   ·
    replace c8:Op.bytesLess x.f0.toList a.toList=false:=by simpa using c8
    by_cases c9:b.toList=([]:List UInt8)
    rotate_left
    ·
     obtain ⟨c9a,c9b⟩:=eqF c9
     by_cases c10:Op.bytesLess x.f0.toList b.toList=true
     rotate_left
     ·
      replace c10:Op.bytesLess x.f0.toList b.toList=false:=by simpa using c10
      have HP:Aside0 (tree_Tree_Scan.keep a b x=false):=aS (by unfold tree_Tree_Scan.keep;rw [c8,c9a,c10];rfl)
      go_wp2_with (first | ((with_reducible refine gate_dst (N:=11) rfl ?_);refine box_event ?hg (N:=11) ?hd (cs:=#[.string ⟨#[]⟩,.string ⟨#[]⟩,.int .i64 0,.string ⟨#[]⟩,.bool false]) (t:=26) ?hr ?_;(case hd=>rfl);(case hg=>rfl);(case hr=>(first | (go_simp;done) | (go_simp;rfl)));intro p9 hg w1 hb hbl;have B9:=aS hb;have G9:Aside0 (wr.heap.size≤p9):=aS (by rw [hg];exact Nat.le_refl _);have HB1:=aS hbl;clear hg hb hbl) | ((with_reducible refine gate_store (t:=26) (p:=11) rfl ?_);refine wpList_store_row rfl 26 _ _ rfl p9 #[.string x.f0,.string x.f1,.int .i64 x.f2,.string x.f3,.bool x.f4] rfl rfl 26 _ B9.out (by kernel_rfl) rfl (by kernel_rfl) ?_;have B5:=aS (setRow_heap w1 p9 _ #[.string x.f0,.string x.f1,.int .i64 x.f2,.string x.f3,.bool x.f4] _ _ B9.out);have HB2:=aS (below_setRow HB1.out G9.out #[.string x.f0,.string x.f1,.int .i64 x.f2,.string x.f3,.bool x.f4]);clear B9 HB1;generalize World.setRow w1 p9 #[.string x.f0,.string x.f1,.int .i64 x.f2,.string x.f3,.bool x.f4]=w2 at B5 HB2 ⊢;have HR2:=aS (Kd.R_below HR.out HB2.out);have HB3:=aS (below_step HBr.out HB2.out);clear HR HBr HB2;have q5:=cK5 B5))
      go_roundw
      case rel=>exact ⟨i+1,by rw [hwr];rfl,⟨hlt⟩,⟨by rw [HT.out,HP.out,if_neg Bool.false_ne_true,List.append_nil];exact HR2.out⟩,HB3⟩
      case measure=>exact meas1 hwr hlt
     ·
      have HP:Aside0 (tree_Tree_Scan.keep a b x=true):=aS (by unfold tree_Tree_Scan.keep;rw [c8,c9a,c10];rfl)
      go_wp2_with (first | ((with_reducible refine gate_dst (N:=11) rfl ?_);refine box_event ?hg (N:=11) ?hd (cs:=#[.string ⟨#[]⟩,.string ⟨#[]⟩,.int .i64 0,.string ⟨#[]⟩,.bool false]) (t:=26) ?hr ?_;(case hd=>rfl);(case hg=>rfl);(case hr=>(first | (go_simp;done) | (go_simp;rfl)));intro p9 hg w1 hb hbl;have B9:=aS hb;have G9:Aside0 (wr.heap.size≤p9):=aS (by rw [hg];exact Nat.le_refl _);have HB1:=aS hbl;clear hg hb hbl) | ((with_reducible refine gate_store (t:=26) (p:=11) rfl ?_);refine wpList_store_row rfl 26 _ _ rfl p9 #[.string x.f0,.string x.f1,.int .i64 x.f2,.string x.f3,.bool x.f4] rfl rfl 26 _ B9.out (by kernel_rfl) rfl (by kernel_rfl) ?_;have B5:=aS (setRow_heap w1 p9 _ #[.string x.f0,.string x.f1,.int .i64 x.f2,.string x.f3,.bool x.f4] _ _ B9.out);have HB2:=aS (below_setRow HB1.out G9.out #[.string x.f0,.string x.f1,.int .i64 x.f2,.string x.f3,.bool x.f4]);clear B9 HB1;generalize World.setRow w1 p9 #[.string x.f0,.string x.f1,.int .i64 x.f2,.string x.f3,.bool x.f4]=w2 at B5 HB2 ⊢;have HR2:=aS (Kd.R_below HR.out HB2.out);have HB3:=aS (below_step HBr.out HB2.out);clear HR HBr HB2;have q5:=cK5 B5) | (at_builtin;refine Kd.R_append k26 (w0:=w3) w3.heap.size rfl _ _ 24 26 _ _ rfl hu24 info26 rfl (by decide) (by decide) u9 (vs.take i |>.filter (tree_Tree_Scan.keep a b)) x [.string x.f0,.string x.f1,.int .i64 x.f2,.string x.f3,.bool x.f4] (fun _=>True) (fun _=>False) rfl rfl (k26_mkM _ _ _ x) (fun _ hk=>hk.elim) (fun _ _=>trivial) HR2.out HB3.out HB3.out.size (by have:=HLA.out;clear hwr;omega) ?_;intro v8 w4 ho hb hg hat;have HR4:=aS ho;have HB4:=aS hb;clear ho hb hg hat HR2 HB3))
      go_roundw
      case rel=>exact ⟨i+1,by rw [hwr];rfl,⟨hlt⟩,⟨by rw [HT.out,HP.out,if_pos rfl];exact HR4.out⟩,HB4⟩
      case measure=>exact meas1 hwr hlt
    ·
     have HP:Aside0 (tree_Tree_Scan.keep a b x=true):=aS (by unfold tree_Tree_Scan.keep;rw [c8,c9];rfl);obtain ⟨c9a,c9b⟩:=eqT c9;clear c9
     go_wp2_with (first | ((with_reducible refine gate_dst (N:=11) rfl ?_);refine box_event ?hg (N:=11) ?hd (cs:=#[.string ⟨#[]⟩,.string ⟨#[]⟩,.int .i64 0,.string ⟨#[]⟩,.bool false]) (t:=26) ?hr ?_;(case hd=>rfl);(case hg=>rfl);(case hr=>(first | (go_simp;done) | (go_simp;rfl)));intro p9 hg w1 hb hbl;have B9:=aS hb;have G9:Aside0 (wr.heap.size≤p9):=aS (by rw [hg];exact Nat.le_refl _);have HB1:=aS hbl;clear hg hb hbl) | ((with_reducible refine gate_store (t:=26) (p:=11) rfl ?_);refine wpList_store_row rfl 26 _ _ rfl p9 #[.string x.f0,.string x.f1,.int .i64 x.f2,.string x.f3,.bool x.f4] rfl rfl 26 _ B9.out (by kernel_rfl) rfl (by kernel_rfl) ?_;have B5:=aS (setRow_heap w1 p9 _ #[.string x.f0,.string x.f1,.int .i64 x.f2,.string x.f3,.bool x.f4] _ _ B9.out);have HB2:=aS (below_setRow HB1.out G9.out #[.string x.f0,.string x.f1,.int .i64 x.f2,.string x.f3,.bool x.f4]);clear B9 HB1;generalize World.setRow w1 p9 #[.string x.f0,.string x.f1,.int .i64 x.f2,.string x.f3,.bool x.f4]=w2 at B5 HB2 ⊢;have HR2:=aS (Kd.R_below HR.out HB2.out);have HB3:=aS (below_step HBr.out HB2.out);clear HR HBr HB2;have q5:=cK5 B5) | (at_builtin;refine Kd.R_append k26 (w0:=w3) w3.heap.size rfl _ _ 24 26 _ _ rfl hu24 info26 rfl (by decide) (by decide) u9 (vs.take i |>.filter (tree_Tree_Scan.keep a b)) x [.string x.f0,.string x.f1,.int .i64 x.f2,.string x.f3,.bool x.f4] (fun _=>True) (fun _=>False) rfl rfl (k26_mkM _ _ _ x) (fun _ hk=>hk.elim) (fun _ _=>trivial) HR2.out HB3.out HB3.out.size (by have:=HLA.out;clear hwr;omega) ?_;intro v8 w4 ho hb hg hat;have HR4:=aS ho;have HB4:=aS hb;clear ho hb hg hat HR2 HB3))
     go_roundw
     case rel=>exact ⟨i+1,by rw [hwr];rfl,⟨hlt⟩,⟨by rw [HT.out,HP.out,if_pos rfl];exact HR4.out⟩,HB4⟩
     case measure=>exact meas1 hwr hlt
   ·
    have HP:Aside0 (tree_Tree_Scan.keep a b x=false):=aS (by unfold tree_Tree_Scan.keep;rw [c8];rfl)
    go_wp2_with (first | ((with_reducible refine gate_dst (N:=11) rfl ?_);refine box_event ?hg (N:=11) ?hd (cs:=#[.string ⟨#[]⟩,.string ⟨#[]⟩,.int .i64 0,.string ⟨#[]⟩,.bool false]) (t:=26) ?hr ?_;(case hd=>rfl);(case hg=>rfl);(case hr=>(first | (go_simp;done) | (go_simp;rfl)));intro p9 hg w1 hb hbl;have B9:=aS hb;have G9:Aside0 (wr.heap.size≤p9):=aS (by rw [hg];exact Nat.le_refl _);have HB1:=aS hbl;clear hg hb hbl) | ((with_reducible refine gate_store (t:=26) (p:=11) rfl ?_);refine wpList_store_row rfl 26 _ _ rfl p9 #[.string x.f0,.string x.f1,.int .i64 x.f2,.string x.f3,.bool x.f4] rfl rfl 26 _ B9.out (by kernel_rfl) rfl (by kernel_rfl) ?_;have B5:=aS (setRow_heap w1 p9 _ #[.string x.f0,.string x.f1,.int .i64 x.f2,.string x.f3,.bool x.f4] _ _ B9.out);have HB2:=aS (below_setRow HB1.out G9.out #[.string x.f0,.string x.f1,.int .i64 x.f2,.string x.f3,.bool x.f4]);clear B9 HB1;generalize World.setRow w1 p9 #[.string x.f0,.string x.f1,.int .i64 x.f2,.string x.f3,.bool x.f4]=w2 at B5 HB2 ⊢;have HR2:=aS (Kd.R_below HR.out HB2.out);have HB3:=aS (below_step HBr.out HB2.out);clear HR HBr HB2;have q5:=cK5 B5))
    go_roundw
    case rel=>exact ⟨i+1,by rw [hwr];rfl,⟨hlt⟩,⟨by rw [HT.out,HP.out,if_neg Bool.false_ne_true,List.append_nil];exact HR2.out⟩,HB3⟩
    case measure=>exact meas1 hwr hlt
  ·
   have e_:vs.take i=vs:=List.take_of_length_le (by omega)
   have hge:¬ ((i:Int)<(vs.length:Int)):=by omega
   go_wp2
   go_ret
   exact ⟨_,rfl,Kd.R_lower (by rw [←e_];exact HR.out) HB.out.size,below_step HB.out HBr.out⟩

/-! ### tree_Tree_Levels: function 15 -/
set_option maxHeartbeats 8000000 in
set_option maxRecDepth 100000 in
theorem tree_Tree_Levels.calls (base:Nat) (ok:Nat→Prop) (g:Nat) (s1 s2 s3:Int) (xs:List S26) (n:Int) (ls:List (List (List S26 × List (List S26) × List Int))) (w:World) (hA:tree_New.At w base ok g s1 s2 s3 xs n ls) (h:ls.length<2199023255552) :
  Calls Try.prog 15 #[.pointer (some ⟨g,0,none⟩)] w fun e w'=>∃ v0_:Value,e = .returned v0_∧Kd.R (Kd.int .i64) 3 w' w.heap.size (fun _=>True) v0_ (ls.map fun l=>(l.length:Int))∧Below w.heap.size w w':=by
 have hu30:=Try.underlying30;have hu51:=Try.underlying51;have hu23:=Try.underlying23;have hu49:=Try.underlying49;have hu53:=Try.underlying53;have hu24:=Try.underlying24;have hu61:=Try.underlying61;have hu43:=Try.underlying43;obtain ⟨gm,vm,vl,vs,hA⟩:=hA;have HA:=aS hA;clear hA;have HLM:=aS h;clear h;have q0:=cK5 (aS HA.out.blk);obtain ⟨A,cl,rfl,hcl,hmx,hat⟩:=HA.out.at;have HL:=aS HA.out.len;have HAT:=aS hat;clear hat hmx
 go_enter Try.func15,Try.ntmps15
 go_wp2
 clear q0
 go_loopw [3,11] (fun v3 v11 wr=>∃ (i:Nat),v11 = .int .i64 (i:Int)∧Aside0 (i≤vs.length)∧Aside0 (Kd.R (Kd.int .i64) 3 wr w.heap.size (fun _=>True) v3 ((ls.take i).map fun l=>(l.length:Int)))∧Aside0 (Below w.heap.size w wr)) (fun _ i _=>vs.length - (intOf i).toNat)
 case atStart=>exact ⟨0,rfl,⟨Nat.zero_le _⟩,⟨Kd.R_nil _ _ _ _ _⟩,⟨Below.refl _ _⟩⟩
 case round=>
  obtain ⟨i,rfl,hi,HR,HBr⟩:=hrel
  by_cases hlt:i<vs.length
  ·
   have hq1:(i:Int)<(vs.length:Int):=by omega
   obtain ⟨ad,e_,hx⟩:=HAT.out wr (fun k _ hk=>HBr.out.block k hk) i hlt;subst e_;obtain ⟨Ai,ci,ei,hli,hCi⟩:=HA.out.cells i hlt;rw [ei] at hx
   have HT:Aside0 (((ls.take (i+1)).map fun l=>(l.length:Int))=((ls.take i).map fun l=>(l.length:Int))++[((ls.getD i []).length:Int)]):=aS (by
    rw [List.take_succ_eq_append_getElem (by rw [←HL.out];exact hlt),List.map_append,List.getD_eq_getElem?_getD,List.getElem?_eq_getElem (by rw [←HL.out];exact hlt)]
    rfl)
   have HG:Aside0 (((ls.take i).map fun l=>(l.length:Int)).length<2199023255552):=aS (by rw [List.length_map,llt];have:=HLM.out;omega)
   generalize (ls.getD i []).length=nl at hx HT
   have hix:∀ W:World,(Instr.indexAt 49 (.slice (some ad) vs.length cl) (.int .i64 (i:Int))).run Try.prog W = .ok (.pointer (some (ad.add i))) W:=by
    obtain ⟨i0,hi0,hz⟩:=Option.map_eq_some_iff.1 info53
    simp only [Prod.mk.injEq] at hz
    intro W
    have h1:=index_ad 49 53 hu49 hi0 1 hz.2.1 ad vs.length cl (i:Int) (by omega) (by omega) W
    rwa [Nat.mul_one,Int.toNat_natCast] at h1
   have hwr:wrap64 ((i:Int)+1)=(i:Int)+1:=by rw [←i64_w,IntKind.wrap_i64];have:=HLM.out;have:=HL.out;omega
   clear hi ei hli hCi
   go_wp2_with (first | (at_builtin;refine Kd.R_append (Kd.int .i64) (w0:=w) w.heap.size rfl _ _ 43 3 (.int .i64 0) 8 rfl hu43 info3 rfl (by decide) (by decide) u3 _ (nl:Int) [.int .i64 (nl:Int)] (fun _=>True) (fun _=>False) rfl rfl rfl (fun _ hk=>hk.elim) (fun _ _=>trivial) HR.out HBr.out HBr.out.size (by have:=HG.out;clear hwr;omega) ?_;intro v8 w6 ho hb hg hat;rw [←HT.out] at ho;have HR2:=aS ho;have HB2:=aS hb;clear ho hb hg hat HR HBr))
   go_roundw
   case rel=>exact ⟨i+1,by rw [hwr];rfl,⟨hlt⟩,HR2,HB2⟩
   case measure=>exact meas1 hwr hlt
  ·
   have hge:¬ ((i:Int)<(vs.length:Int)):=by omega
   have e_:ls.take i=ls:=List.take_of_length_le (by rw [←HL.out];omega)
   go_wp2
   go_ret
   exact ⟨_,rfl,by rw [←e_];exact HR.out,HBr.out⟩

/-! ### shardloglaw14_awake: function 5 -/
-- tree_Tree_Levels
def shardloglaw14_awake.tail (k:Nat) (xs:List S26) (ls:List (List (List S26 × List (List S26) × List Int))):Option Bool:=
 (tree_Tree_Get.f k xs ls (⟨#[97]⟩:ByteArray) (⟨#[120]⟩:ByteArray) 3).bind fun v=>(tree_Tree_Get.f k xs ls (⟨#[97]⟩:ByteArray) (⟨#[120]⟩:ByteArray) 9).bind fun i=>(tree_Tree_Cells.f k xs ls).bind fun c=>(tree_Tree_Scan.f k xs ls (⟨#[]⟩:ByteArray) (⟨#[]⟩:ByteArray) 2).bind fun s=>if v.f4=false∧v.f3=(⟨#[49]⟩:ByteArray)∧i.f4=true∧(ls.map fun l=>(l.length:Int))=[2]∧c.length=2∧s.length=1 then some true else none
/-- The one way that is true (every other is `none`). -/
def shardloglaw14_awake.f (k:Nat):Option Bool:=
 (tree_New.f 1 50 2).bind fun a=>(tree_New.f 0 0 0).bind fun b=>if a=true∧b=false then (tree_Tree_Put.f k 1 50 2 [] 0 [] (⟨#[97]⟩:ByteArray) (⟨#[120]⟩:ByteArray) 1 (⟨#[49]⟩:ByteArray) false).bind fun p=>(tree_Tree_Put.f k 1 50 2 p.1 p.2.1 p.2.2.1 (⟨#[97]⟩:ByteArray) (⟨#[120]⟩:ByteArray) 4 (⟨#[]⟩:ByteArray) true).bind fun q=>if p.2.2.2=0∧q.2.2.2=0 then shardloglaw14_awake.tail k q.1 q.2.2.1 else none else none
theorem shardloglaw14_awake.mono_tail:∀ a0 a1 k,LeO (shardloglaw14_awake.tail k a0 a1) (shardloglaw14_awake.tail (k+1) a0 a1):=fun _ _ _=>LeO.bind (tree_Tree_Get.mono _ _ _ _ _ _) fun _=>LeO.bind (tree_Tree_Get.mono _ _ _ _ _ _) fun _=>LeO.bind (tree_Tree_Cells.mono _ _ _) fun _=>LeO.bind (tree_Tree_Scan.mono _ _ _ _ _ _) fun _=>LeO.refl _
theorem shardloglaw14_awake.mono:∀ k,LeO (shardloglaw14_awake.f k) (shardloglaw14_awake.f (k+1)):=fun _=>LeO.bind (LeO.refl _) fun _=>LeO.bind (LeO.refl _) fun _=>LeO.ite (LeO.bind (tree_Tree_Put.mono _ _ _ _ _ _ _ _ _ _ _ _) fun _=>LeO.bind (tree_Tree_Put.mono _ _ _ _ _ _ _ _ _ _ _ _) fun _=>LeO.ite (shardloglaw14_awake.mono_tail _ _ _) (LeO.refl _)) (LeO.refl _)
set_option maxHeartbeats 8000000 in
set_option maxRecDepth 100000 in
theorem shardloglaw14_awake.calls (k:Nat) (r:Bool) (w:World) (h:shardloglaw14_awake.f k=some r):Calls Try.prog 5 #[] w fun e w'=>e = .returned (.bool r)∧Below w.heap.size w w':=by
 have hu23:=Try.underlying23;have hu26:=Try.underlying26;have hu30:=Try.underlying30;have hu43:=Try.underlying43
 unfold shardloglaw14_awake.f at h
 replace h:=obm h;obtain ⟨a,x1,h⟩:=h;replace h:=obm h;obtain ⟨b,x2,h⟩:=h
 split at h
 case isFalse=>cases h
 rename_i hab
 obtain ⟨rfl,rfl⟩:=hab;replace h:=obm h;obtain ⟨⟨p1,p2,p3,p4⟩,x3,h⟩:=h;replace h:=obm h;obtain ⟨⟨q1,q2,q3,q4⟩,x4,h⟩:=h
 split at h
 case isFalse=>cases h
 rename_i hpq
 obtain ⟨hp,hq⟩:=hpq;replace hp:p4=0:=hp;replace hq:q4=0:=hq;subst hp;subst hq;replace h:shardloglaw14_awake.tail k q1 q3=some r:=h;replace x4:tree_Tree_Put.f k 1 50 2 p1 p2 p3 (⟨#[97]⟩:ByteArray) (⟨#[120]⟩:ByteArray) 4 (⟨#[]⟩:ByteArray) true=some (q1,q2,q3,0):=x4
 unfold shardloglaw14_awake.tail at h
 replace h:=obm h;obtain ⟨v,x5,h⟩:=h;replace h:=obm h;obtain ⟨i,x6,h⟩:=h;replace h:=obm h;obtain ⟨c,x7,h⟩:=h;replace h:=obm h;obtain ⟨s,x8,h⟩:=h
 split at h
 case isFalse=>cases h
 rename_i hc
 obtain ⟨hv4,hv3,hi4,hl,hc2,hs1⟩:=hc
 obtain rfl:=Option.some.inj h
 have X1:=aS x1;have X2:=aS x2;have X3:=aS x3;have X4:=aS x4;have X5:=aS x5;have X6:=aS x6;have X7:=aS x7;have X8:=aS x8;have HL:=aS hl;have HV4:=aS hv4;have HV3:=aS hv3;have HI4:=aS hi4;have HC2:=aS hc2;have HS1:=aS hs1;have HLL:Aside0 (q3.length<2199023255552):=aS (by have h1:=congrArg List.length hl;rw [List.length_map] at h1;rw [h1];decide);clear x1 x2 x3 x4 x5 x6 x7 x8 hl hv4 hv3 hi4 hc2 hs1 h
 go_enter Try.func5,Try.ntmps5
 go_wp2_with (first | (go_at_call 8;(with_reducible refine (tree_New.calls 1 50 2 true _ X1.out).mono ?_);rintro e_ w2 ⟨hb,_,ht⟩;obtain ⟨g,rfl,ht2⟩:=ht rfl;have HT:=aS ht2;have HB:=aS hb;clear ht ht2 hb) | (go_at_call 8;(with_reducible refine (tree_New.calls 0 0 0 false _ X2.out).mono ?_);rintro e_ w2 ⟨hb,he_,_⟩;obtain rfl:=he_ rfl;have n1_:=aS (HT.out.below hb);have n2_:=aS (below_step HB.out hb);clear HT HB hb;have HT:=n1_;have HB:=n2_;clear n1_ n2_) | (go_at_call 9;(with_reducible refine (tree_Tree_Put.calls k g _ (fun k=>w.heap.size≤k) 1 50 2 [] p1 0 p2 [] p3 (⟨#[97]⟩:ByteArray) (⟨#[120]⟩:ByteArray) 1 (⟨#[49]⟩:ByteArray) false 0 _ HT.out X3.out).mono ?_);rintro e_ w2 ⟨rfl,ha_,hc_⟩;have n1_:=aS (ha_.new HB.out.size);have n2_:=aS (hc_.below HB.out HB.out.size (fun _ hk=>hk));clear HT HB ha_ hc_;have HT:=n1_;have HB:=n2_;clear n1_ n2_) | (go_at_call 9;(with_reducible refine (tree_Tree_Put.calls k g _ (fun k=>w.heap.size≤k) 1 50 2 p1 q1 p2 q2 p3 q3 (⟨#[97]⟩:ByteArray) (⟨#[120]⟩:ByteArray) 4 (⟨#[]⟩:ByteArray) true 0 _ HT.out X4.out).mono ?_);rintro e_ w2 ⟨rfl,ha_,hc_⟩;have n1_:=aS (ha_.new HB.out.size);have n2_:=aS (hc_.below HB.out HB.out.size (fun _ hk=>hk));clear HT HB ha_ hc_;have HT:=n1_;have HB:=n2_;clear n1_ n2_) | (go_at_call 11;(with_reducible refine (tree_Tree_Get.calls k g _ _ 1 50 2 q1 q2 q3 (⟨#[97]⟩:ByteArray) (⟨#[120]⟩:ByteArray) 3 v _ HT.out X5.out).mono ?_);rintro e_ w2 ⟨he_,hb⟩;rw [HV4.out,HV3.out] at he_;subst he_;have n1_:=aS (HT.out.below hb);have n2_:=aS (below_step HB.out hb);clear HT HB hb;have HT:=n1_;have HB:=n2_;clear n1_ n2_) | (go_at_call 11;(with_reducible refine (tree_Tree_Get.calls k g _ _ 1 50 2 q1 q2 q3 (⟨#[97]⟩:ByteArray) (⟨#[120]⟩:ByteArray) 9 i _ HT.out X6.out).mono ?_);rintro e_ w2 ⟨he_,hb⟩;rw [HI4.out] at he_;subst he_;have n1_:=aS (HT.out.below hb);have n2_:=aS (below_step HB.out hb);clear HT HB hb;have HT:=n1_;have HB:=n2_;clear n1_ n2_) | (go_at_call 15;(with_reducible refine (tree_Tree_Levels.calls _ _ g 1 50 2 q1 q2 q3 _ HT.out HLL.out).mono ?_);rintro e_ w2 ⟨v2,rfl,ho,hb⟩;rw [HL.out] at ho;obtain ⟨gl,cpl,rfl,_,_,_⟩:=Kd.R_form ho (by decide);have hl0:w2.cell? ⟨gl,0,none⟩=some (.int .i64 2):=(Kd.R_cell (0:Int) ho 0 (by decide) (by decide)).1;clear ho;have n1_:=aS (HT.out.below hb);have n2_:=aS (below_step HB.out hb);clear HT HB hb;have HT:=n1_;have HB:=n2_;clear n1_ n2_) | (go_at_call 13;(with_reducible refine (tree_Tree_Cells.calls k _ _ g 1 50 2 q1 q2 q3 c _ HT.out X7.out).mono ?_);rintro e_ w2 ⟨v2,rfl,ho,hb⟩;obtain ⟨Ac,cc,rfl⟩:=Kd.R_slice ho;rw [HC2.out];clear ho;have n1_:=aS (HT.out.below hb);have n2_:=aS (below_step HB.out hb);clear HT HB hb;have HT:=n1_;have HB:=n2_;clear n1_ n2_) | (go_at_call 14;(with_reducible refine (tree_Tree_Scan.calls k g _ _ 1 50 2 q1 q2 q3 (⟨#[]⟩:ByteArray) (⟨#[]⟩:ByteArray) 2 s _ HT.out X8.out).mono ?_);rintro e_ w2 ⟨v2,rfl,ho,hb⟩;obtain ⟨As,cs,rfl⟩:=Kd.R_slice ho;rw [HS1.out];clear ho;have n1_:=aS (HT.out.below hb);have n2_:=aS (below_step HB.out hb);clear HT HB hb;have HT:=n1_;have HB:=n2_;clear n1_ n2_))
 go_ret
 exact ⟨rfl,HB.out⟩

/-! ### shardloglaw14_TreeFull: function 4 -/
def shardloglaw14_TreeFull.lp (k:Nat) (s2:Int):Nat→Nat→List S26→Int→List (List (List S26 × List (List S26) × List Int))→Option (List S26 × Int × List (List (List S26 × List (List S26) × List Int)))
 | 0,_,xs,n,ls=>some (xs,n,ls)
 | m+1,i,xs,n,ls=>(tree_Tree_Put.f k 4096 s2 8 xs n ls (⟨#[114]⟩:ByteArray) (⟨#[99]⟩:ByteArray) (3*(i:Int)) (⟨#[118]⟩:ByteArray) false).bind fun p=>if p.2.2.2=0 then shardloglaw14_TreeFull.lp k s2 m (i+1) p.1 p.2.1 p.2.2.1 else none
def shardloglaw14_TreeFull.tail (k:Nat) (s2:Int) (j:Int) (s:List S26 × Int × List (List (List S26 × List (List S26) × List Int))):Option Bool:=
 (tree_Tree_Put.f k 4096 s2 8 s.1 s.2.1 s.2.2 (⟨#[114]⟩:ByteArray) (⟨#[99]⟩:ByteArray) (wrap64 (wrap64 (3*j)+1)) (⟨#[]⟩:ByteArray) false).bind fun p=>(tree_Tree_Put.f k 4096 s2 8 p.1 p.2.1 p.2.2.1 (⟨#[114]⟩:ByteArray) (⟨#[99]⟩:ByteArray) (wrap64 (3*j)) (⟨#[119]⟩:ByteArray) false).bind fun q=>(tree_Tree_Cells.f k q.1 q.2.2.1).bind fun c=>if p.2.2.2=4∧q.2.2.2=0∧c.length=400 then some true else none
def shardloglaw14_TreeFull.main (k:Nat) (a0 a1:Int):Option Bool:=(tree_New.f 4096 (wrap64 (1+wrap64 a0)) 8).bind fun a=>if wrap64 a0=4096 then (if a=false then some true else none) else if a=true then (shardloglaw14_TreeFull.lp k (wrap64 (1+wrap64 a0)) 400 0 [] 0 []).bind fun s=>shardloglaw14_TreeFull.tail k (wrap64 (1+wrap64 a0)) (Int.tmod (wrap64 a1) 400) s else none
def shardloglaw14_TreeFull.f (k:Nat) (a0 a1:Int):Option Bool:=(shardloglaw14_awake.f k).bind fun t=>if t=true then (if a0=0 then some true else if 4096<a0 then some true else shardloglaw14_TreeFull.main k a0 a1) else none
theorem shardloglaw14_TreeFull.mono_lp (k:Nat) (s2:Int):∀ m i xs n ls,LeO (shardloglaw14_TreeFull.lp k s2 m i xs n ls) (shardloglaw14_TreeFull.lp (k+1) s2 m i xs n ls)
 | 0,_,_,_,_=>LeO.refl _
 | m+1,i,_,_,_=>LeO.bind (tree_Tree_Put.mono _ _ _ _ _ _ _ _ _ _ _ _) fun _=>LeO.ite (shardloglaw14_TreeFull.mono_lp k s2 m _ _ _ _) (LeO.refl _)
theorem shardloglaw14_TreeFull.mono:∀ a0 a1 k,LeO (shardloglaw14_TreeFull.f k a0 a1) (shardloglaw14_TreeFull.f (k+1) a0 a1):=fun _ _ _=>LeO.bind (shardloglaw14_awake.mono _) fun _=>LeO.ite (LeO.ite (LeO.refl _) (LeO.ite (LeO.refl _) (LeO.bind (LeO.refl _) fun _=>LeO.ite (LeO.refl _) (LeO.ite (LeO.bind (shardloglaw14_TreeFull.mono_lp _ _ _ _ _ _ _) fun _=>LeO.bind (tree_Tree_Put.mono _ _ _ _ _ _ _ _ _ _ _ _) fun _=>LeO.bind (tree_Tree_Put.mono _ _ _ _ _ _ _ _ _ _ _ _) fun _=>LeO.bind (tree_Tree_Cells.mono _ _ _) fun _=>LeO.refl _) (LeO.refl _))))) (LeO.refl _)
set_option maxHeartbeats 8000000 in
set_option maxRecDepth 100000 in
theorem shardloglaw14_TreeFull.calls (k:Nat) (a0 a1:Int) (r:Bool) (w:World) (h:shardloglaw14_TreeFull.f k a0 a1=some r):Calls Try.prog 4 #[.int .u16 a0,.int .u8 a1] w fun e w'=>e = .returned (.bool r)∧Below w.heap.size w w':=by
 have hu23:=Try.underlying23;have hu26:=Try.underlying26;have hu30:=Try.underlying30
 unfold shardloglaw14_TreeFull.f at h
 replace h:=obm h;obtain ⟨t,xa,h⟩:=h
 cases t with
 | false=>rw [if_neg Bool.false_ne_true] at h;cases h
 | true=>
 rw [if_pos rfl] at h;have XA:=aS xa;have HB:=aS (Below.refl w.heap.size w);clear xa
 by_cases h0:a0=0
 ·
  rw [if_pos h0] at h
  obtain rfl:=Option.some.inj h
  obtain ⟨h1,h2⟩:=eqT h0;clear h h0
  go_enter Try.func4,Try.ntmps4
  go_wp2_with (first | (go_at_call 5;(with_reducible refine (shardloglaw14_awake.calls k true _ XA.out).mono ?_);rintro e_ w1_ ⟨rfl,hb⟩;have n1_:=aS (below_step HB.out hb);clear HB hb;have HB:=n1_;clear n1_))
  go_ret
  exact ⟨rfl,HB.out⟩
 rw [if_neg h0] at h;obtain ⟨h1,h2⟩:=eqF h0
 by_cases h4:4096<a0
 ·
  rw [if_pos h4] at h
  obtain rfl:=Option.some.inj h
  have h5:decide (4096<a0)=true:=decide_eq_true h4;clear h h0 h4
  go_enter Try.func4,Try.ntmps4
  go_wp2_with (first | (go_at_call 5;(with_reducible refine (shardloglaw14_awake.calls k true _ XA.out).mono ?_);rintro e_ w1_ ⟨rfl,hb⟩;have n1_:=aS (below_step HB.out hb);clear HB hb;have HB:=n1_;clear n1_))
  go_ret
  exact ⟨rfl,HB.out⟩
 rw [if_neg h4] at h;have h5:decide (4096<a0)=false:=decide_eq_false h4;clear h0 h4
 obtain ⟨m,hm⟩:∃ m,wrap64 a0=m:=⟨_,rfl⟩
 obtain ⟨j,hj⟩:∃ j,wrap64 a1=j:=⟨_,rfl⟩
 unfold shardloglaw14_TreeFull.main at h
 rw [hm,hj] at h;replace h:=obm h;obtain ⟨a,x1,h⟩:=h;have X1:=aS x1;clear x1
 by_cases he:m=4096
 ·
  rw [if_pos he] at h;obtain ⟨he1,he2⟩:=eqT he
  cases a with
  | true=>rw [if_neg (by decide)] at h;cases h
  | false=>
  rw [if_pos rfl] at h
  obtain rfl:=Option.some.inj h
  clear h he
  go_enter Try.func4,Try.ntmps4
  go_wp2_with (first | (go_at_call 5;(with_reducible refine (shardloglaw14_awake.calls k true _ XA.out).mono ?_);rintro e_ w1_ ⟨rfl,hb⟩;have n1_:=aS (below_step HB.out hb);clear HB hb;have HB:=n1_;clear n1_) | (go_at_call 8;(with_reducible refine (tree_New.calls 4096 (wrap64 (1+m)) 8 false _ X1.out).mono ?_);rintro e_ w2 ⟨hb,he_,_⟩;obtain rfl:=he_ rfl;have n2_:=aS (below_step HB.out hb);clear HB hb he_;have HB:=n2_;clear n2_))
  go_ret
  exact ⟨rfl,HB.out⟩
 rw [if_neg he] at h;obtain ⟨he1,he2⟩:=eqF he;clear he
 cases a with
 | false=>rw [if_neg Bool.false_ne_true] at h;cases h
 | true=>
 rw [if_pos rfl] at h
 obtain ⟨s2,hs2⟩:∃ s2,wrap64 (1+m)=s2:=⟨_,rfl⟩
 rw [hs2] at h X1;replace h:=obm h;obtain ⟨⟨x3,n3,l3⟩,x2,h⟩:=h;have X2:=aS x2;have H:=aS h;clear x2 h
 go_enter Try.func4,Try.ntmps4
 go_wp2_with (first | (go_at_call 5;(with_reducible refine (shardloglaw14_awake.calls k true _ XA.out).mono ?_);rintro e_ w1_ ⟨rfl,hb⟩;have n1_:=aS (below_step HB.out hb);clear HB hb;have HB:=n1_;clear n1_) | (go_at_call 8;(with_reducible refine (tree_New.calls 4096 s2 8 true _ X1.out).mono ?_);rintro e_ w2 ⟨hb,_,ht⟩;obtain ⟨g,rfl,ht2⟩:=ht rfl;have HT:=aS (ht2.lower2 HB.out.size);have n2_:=aS (below_step HB.out hb);clear HB hb ht ht2;have HB:=n2_;clear n2_))
 have HJ:=aS hj;clear hm hs2 hj
 go_loopg [7] 400 (fun kq v7 wr=>∃ (i:Nat) (xs:List S26) (n:Int) (ls:List (List (List S26 × List (List S26) × List Int))),v7 = .int .i64 (i:Int)∧Aside0 (kq+i=400)∧Aside0 (shardloglaw14_TreeFull.lp k s2 kq i xs n ls=some (x3,n3,l3))∧Aside0 (tree_New.At wr w.heap.size (fun k=>w.heap.size≤k) g 4096 s2 8 xs n ls)∧Aside0 (Below w.heap.size w wr))
 case atStart=>exact ⟨0,[],0,[],rfl,⟨rfl⟩,X2,HT,HB⟩
 clear HT HB X2
 case round=>
  obtain ⟨i,xs,n,ls,rfl,hi,HP,HT,HB⟩:=hrel
  cases gk with
  | succ k1=>
   have hi1:(i:Int)<400:=by have:=hi.out;omega
   have HK:Aside0 (k1+(i+1)=400):=aS (by have:=hi.out;omega);have ha:=HP.out
   unfold shardloglaw14_TreeFull.lp at ha
   replace ha:=obm ha;obtain ⟨⟨p1,p2,p3,p4⟩,y1,ha⟩:=ha
   by_cases hp:p4=0
   case neg=>rw [if_neg hp] at ha;cases ha
   rw [if_pos hp] at ha;replace hp:p4=0:=hp;subst hp;have Y1:=aS y1;have HP1:=aS ha;clear y1 ha HP
   go_wp2_with (first | (go_at_call 9;(with_reducible refine (tree_Tree_Put.calls k g _ (fun k=>w.heap.size≤k) 4096 s2 8 xs p1 n p2 ls p3 (⟨#[114]⟩:ByteArray) (⟨#[99]⟩:ByteArray) (3*(i:Int)) (⟨#[118]⟩:ByteArray) false 0 _ HT.out Y1.out).mono ?_);rintro e_ w2 ⟨rfl,ha_,hc_⟩;have n1_:=aS (ha_.new HB.out.size);have n2_:=aS (hc_.below HB.out HB.out.size (fun _ hk=>hk));clear HT HB ha_ hc_;have HT:=n1_;have HB:=n2_;clear n1_ n2_))
   go_roundg k1
   case measure=>exact Nat.lt_succ_self _
   case rel=>exact ⟨i+1,p1,p2,p3,rfl,HK,HP1,HT,HB⟩
  | zero=>
   have hge:¬ ((i:Int)<400):=by have:=hi.out;omega
   have ha:=HP.out
   unfold shardloglaw14_TreeFull.lp at ha
   obtain ha:=Option.some.inj ha
   simp only [Prod.mk.injEq] at ha
   obtain ⟨rfl,rfl,rfl⟩:=ha;have h:=H.out
   unfold shardloglaw14_TreeFull.tail at h
   replace h:=obm h;obtain ⟨⟨p1,p2,p3,p4⟩,x3,h⟩:=h;replace h:=obm h;obtain ⟨⟨q1,q2,q3,q4⟩,x4,h⟩:=h;replace h:=obm h;obtain ⟨c,x5,h⟩:=h
   split at h
   case isFalse=>cases h
   rename_i hc
   obtain ⟨hp,hq,hc3⟩:=hc;replace hp:p4=4:=hp;replace hq:q4=0:=hq;subst hp;subst hq
   obtain rfl:=Option.some.inj h
   have X3:=aS x3;have X4:Aside0 (tree_Tree_Put.f k 4096 s2 8 p1 p2 p3 (⟨#[114]⟩:ByteArray) (⟨#[99]⟩:ByteArray) (wrap64 (3*Int.tmod j 400)) (⟨#[119]⟩:ByteArray) false=some (q1,q2,q3,0)):=aS x4;have X5:Aside0 (tree_Tree_Cells.f k q1 q3=some c):=aS x5;have HC3:=aS hc3;clear x3 x4 x5 hc3 h H;have hj:=HJ.out
   go_wp2_with (first | (go_at_call 9;(with_reducible refine (tree_Tree_Put.calls k g _ (fun k=>w.heap.size≤k) 4096 s2 8 xs p1 n p2 ls p3 (⟨#[114]⟩:ByteArray) (⟨#[99]⟩:ByteArray) (wrap64 (wrap64 (3*Int.tmod j 400)+1)) (⟨#[]⟩:ByteArray) false 4 _ HT.out X3.out).mono ?_);rintro e_ w2 ⟨rfl,ha_,hc_⟩;have n1_:=aS (ha_.new HB.out.size);have n2_:=aS (hc_.below HB.out HB.out.size (fun _ hk=>hk));clear HT HB ha_ hc_;have HT:=n1_;have HB:=n2_;clear n1_ n2_) | (go_at_call 9;(with_reducible refine (tree_Tree_Put.calls k g _ (fun k=>w.heap.size≤k) 4096 s2 8 p1 q1 p2 q2 p3 q3 (⟨#[114]⟩:ByteArray) (⟨#[99]⟩:ByteArray) (wrap64 (3*Int.tmod j 400)) (⟨#[119]⟩:ByteArray) false 0 _ HT.out X4.out).mono ?_);rintro e_ w2 ⟨rfl,ha_,hc_⟩;have n1_:=aS (ha_.new HB.out.size);have n2_:=aS (hc_.below HB.out HB.out.size (fun _ hk=>hk));clear HT HB ha_ hc_;have HT:=n1_;have HB:=n2_;clear n1_ n2_) | (go_at_call 13;(with_reducible refine (tree_Tree_Cells.calls k _ _ g 4096 s2 8 q1 q2 q3 c _ HT.out X5.out).mono ?_);rintro e_ w2 ⟨v2,rfl,ho,hb⟩;obtain ⟨Ac,cc,rfl⟩:=Kd.R_slice ho;rw [HC3.out];clear ho;have n1_:=aS (HT.out.below hb);have n2_:=aS (below_step HB.out hb);clear HT HB hb;have HT:=n1_;have HB:=n2_;clear n1_ n2_))
   go_ret
   exact ⟨rfl,HB.out⟩


/-- THE ONE PURE STATEMENT of shardloglaw14_TreeFull. -/
def shardloglaw14_TreeFull.Pure:Prop:=∀ (a0:Int) (a1:Int),(Lit.int .u16 a0).wf=true→(Lit.int .u8 a1).wf=true→∃ k,shardloglaw14_TreeFull.f k a0 a1=some true
theorem shardloglaw14_TreeFull.walk (P:shardloglaw14_TreeFull.Pure) (a0:Int) (a1:Int) (w:World) (wf0:(Lit.int .u16 a0).wf=true) (wf1:(Lit.int .u8 a1).wf=true) :
  Calls Try.prog 4 #[.int .u16 a0,.int .u8 a1] w fun e w'=>e = .returned (.bool true)∧Below w.heap.size w w':=by
 obtain ⟨k,h⟩:=P a0 a1 wf0 wf1;refine (shardloglaw14_TreeFull.calls k a0 a1 true w  h).mono ?_
 rintro e w' ⟨rfl,hd⟩
 exact ⟨rfl,hd⟩

end Go.Proofs.Ytcbhfedcdnjljaa.X

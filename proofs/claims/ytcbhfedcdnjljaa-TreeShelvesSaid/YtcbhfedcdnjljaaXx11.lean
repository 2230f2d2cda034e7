import Derived.Test.YtcbhfedcdnjljaaXx10
set_option maxHeartbeats 8000000
set_option maxRecDepth 100000
set_option linter.unusedVariables false
set_option linter.unusedSimpArgs false
namespace Go.Proofs.Ytcbhfedcdnjljaa.X
open Go.RowKit Go.Proofs.YtcbhfedcdnjljaaW.PrintWords Go.Proofs.YtcbhfedcdnjljaaW.PrintLast Go.Proofs.YtcbhfedcdnjljaaW.PrintMore
attribute [local go_sem] max2_int min2_int max_two min_two max_three min_three max_four min_four gtr_str
def tree_Tree_sink.gl (ls:List (List (List S26 × List (List S26) × List Int))) (i:Nat):List (List (List S26 × List (List S26) × List Int)):=if i+1=ls.length then ls++[[]] else ls
def tree_Tree_sink.f (k:Nat) (s2:Int) (ls:List (List (List S26 × List (List S26) × List Int))) (i:Nat):Option (List (List (List S26 × List (List S26) × List Int))):=
 if ls.length<1099511627776∧((tree_Tree_sink.gl ls i).getD i []).length+((tree_Tree_sink.gl ls i).getD (i+1) []).length<1099511627776 then (tree_Tree_lists.l1 ((tree_Tree_sink.gl ls i).getD i []++(tree_Tree_sink.gl ls i).getD (i+1) []) []).bind fun q=>(merge_All.f k q).bind fun c=>(tree_Tree_made.f k c s2).bind fun t=>some (((tree_Tree_sink.gl ls i).set i []).set (i+1) [t]) else none
theorem tree_Tree_sink.mono:∀ a0 a1 a2 k,LeO (tree_Tree_sink.f k a0 a1 a2) (tree_Tree_sink.f (k+1) a0 a1 a2):=fun _ _ _ _=>LeO.ite (LeO.bind (LeO.refl _) fun _=>LeO.bind (merge_All.mono _ _) fun _=>LeO.bind (tree_Tree_made.mono _ _ _) fun _=>LeO.refl _) (LeO.refl _)
theorem tree_Tree_sink.calls (k g base:Nat) (ok:Nat→Prop) (s1 s2 s3:Int) (xs:List S26) (n:Int) (ls r:List (List (List S26 × List (List S26) × List Int))) (i:Nat) (w:World) (hA:tree_New.At w base ok g s1 s2 s3 xs n ls) (hi:i<ls.length) (h:tree_Tree_sink.f k s2 ls i=some r) :
  Calls Try.prog 26 #[.pointer (some ⟨g,0,none⟩),.int .i64 (i:Int)] w fun e w'=>e = .returned (.tuple #[])∧tree_New.At w' base (fun k=>ok k∨w.heap.size≤k) g s1 s2 s3 xs n r∧tree_New.Chg w w' ok:=by
 have hu30:=Try.underlying30;have hu51:=Try.underlying51;have hu23:=Try.underlying23;have hu49:=Try.underlying49;have hu53:=Try.underlying53;have hu24:=Try.underlying24;have hu61:=Try.underlying61;have hu75:=Try.underlying75
 have hsz53:(Try.prog.info? 53).map (·.size)=some 1:=by
  obtain ⟨i0,hi0,hz⟩:=Option.map_eq_some_iff.1 info53
  simp only [Prod.mk.injEq] at hz
  rw [hi0];simp [hz.2.1]
 obtain ⟨gm,vm,vl,vs,hA⟩:=hA;have HA:=aS hA;clear hA;have HI:=aS hi
 unfold tree_Tree_sink.f at h
 by_cases hg:ls.length<1099511627776∧((tree_Tree_sink.gl ls i).getD i []).length+((tree_Tree_sink.gl ls i).getD (i+1) []).length<1099511627776
 case neg=>rw [if_neg hg] at h;cases h
 rw [if_pos hg] at h;replace h:=obm h;obtain ⟨q,x1,h⟩:=h;replace h:=obm h;obtain ⟨c,x2,h⟩:=h;replace h:=obm h;obtain ⟨t,x3,h⟩:=h
 obtain hr:=Option.some.inj h
 have X1:=aS x1;have X2:=aS x2;have X3:=aS x3;have HR:=aS hr;have HG:=aS hg;clear x1 x2 x3 h hr hg hi;obtain ⟨A,cl,rfl,hcl,hmx,hat⟩:=HA.out.at;have HL:=aS HA.out.len;clear hat hmx;have q0:=cK5 (aS HA.out.blk);have HGE:Aside0 (base≤w.heap.size):=aS (Nat.le_trans HA.out.ge (Nat.le_of_lt (blk_lt HA.out.blk)));have HLV:Aside0 (vs.length<1099511627776):=aS (by rw [HL.out];exact HG.out.1)
 have hw1:wrap64 ((i:Int)+1)=(i:Int)+1:=by rw [←i64_w,IntKind.wrap_i64];have:=HI.out;have:=HG.out.1;omega
 go_enter Try.func26,Try.ntmps26
 refine wp_seq_k (fun K_ hK_=>?_)
 go_cut [] (fun wc=>∃ (vl1:Value) (vs1:List Value),Aside0 (tree_New.AtU wc base (fun k=>ok k∨w.heap.size≤k) g gm vm vl1 vs1 vs1 s1 s2 s3 xs n (tree_Tree_sink.gl ls i))∧Aside0 (tree_New.Chg w wc ok))
 case first=>
  by_cases he:i+1=ls.length
  ·
   have he':(i:Int)+1=(vs.length:Int):=by rw [HL.out,← he];rfl
   obtain ⟨he1,he2⟩:=eqT he';have HE:=aS he;clear he he'
   go_wp2_with (first | (at_builtin;refine Kd.R_append tree_New.rawK (w0:=w) base rfl _ _ 49 53 _ _ rfl hu49 info53 rfl (by decide) (by decide) (.slice A vs.length cl) vs (.slice none 0 0) [.slice none 0 0] (fun k=>ok k∨w.heap.size≤k) (fun _=>False) rfl rfl ⟨rfl,rfl⟩ (fun _ hk=>hk.elim) (fun k hk=>.inr hk) (Kd.R_mono HA.out.out (fun _ hk=>.inl hk)) (Below.refl _ _) HGE.out (by have:=HLV.out;clear hw1;omega) ?_;intro v21 w2 ho hb hg hat;obtain ⟨A1,c1,e1_⟩:=Kd.R_slice ho;rw [show (vs++[(.slice none 0 0:Value)]).length=vs.length+1 from by simp] at e1_;subst e1_;have HO2:=aS ho;have HG2:=aS hg;have HB2:Aside0 (w2.heap[g]? = some (.cells #[.int .i64 s1,.int .i64 s2,.int .i64 s3,.pointer (some ⟨gm,0,none⟩),.slice A vs.length cl] 51 (0,0))):=aS ((hg.block g (blk_lt HA.out.blk) (tree_New.ne_row HA.out.blk (Kd.R_typed HA.out.out) (by decide))).trans HA.out.blk);clear ho hb hg hat q0;have q0:=cK5 HB2))
   have HF:Aside0 (tree_New.AtU (w2.setCell ⟨g,4,none⟩ (.slice A1 (vs.length+1) c1)) base (fun k=>ok k∨w.heap.size≤k) g gm vm (.slice A1 (vs.length+1) c1) (vs++[.slice none 0 0]) (vs++[.slice none 0 0]) s1 s2 s3 xs n (tree_Tree_sink.gl ls i)):=aS (by unfold tree_Tree_sink.gl;rw [if_pos HE.out];exact HA.out.snoc HO2.out HG2.out (fun _ hk=>.inl hk));have HC:Aside0 (tree_New.Chg w (w2.setCell ⟨g,4,none⟩ (.slice A1 (vs.length+1) c1)) ok):=aS ((tree_New.Chg.grown HG2.out (fun k hk=>HA.out.out.1 k hk)).trans (tree_New.Chg.set w2 g 4 _ HA.out.okg) (fun _ hk _=>hk))
   go_meet
   case rel=>exact ⟨_,_,HF,HC⟩
  ·
   have he':(i:Int)+1≠(vs.length:Int):=by rw [HL.out];omega
   obtain ⟨he1,he2⟩:=eqF he';have HE:=aS he;clear he he'
   go_wp2
   go_meet
   case rel=>exact ⟨_,vs,⟨by unfold tree_Tree_sink.gl;rw [if_neg HE.out];exact HA.out.mono (fun _ hk=>.inl hk)⟩,⟨tree_New.Chg.refl _ _⟩⟩
 case rest=>
  clear q0 HA;obtain ⟨vl1,vs1,HA,HC⟩:=hcut
  obtain ⟨l1,hl1⟩:∃ x,x=tree_Tree_sink.gl ls i:=⟨_,rfl⟩
  rw [←hl1] at HA HG HR X1
  have hi1:i+1<l1.length:=by
   rw [hl1]
   unfold tree_Tree_sink.gl
   by_cases e:i+1=ls.length
   ·
    rw [if_pos e,List.length_append,List.length_singleton];omega
   ·
    rw [if_neg e];have:=HI.out;omega
  have hL1:=HA.out.len;obtain ⟨go,cl1,rfl,_,_,_⟩:=Kd.R_form HA.out.out (by omega);have HI1:Aside0 (i+1<vs1.length):=aS (by rw [hL1];exact hi1);have HM1:Aside0 (vs1.length≤9223372036854775807):=aS (by obtain ⟨_,_,e,_,hm,_⟩:=HA.out.at;exact hm)
  have HAT:Aside0 (∀ W:World,(∀ k,(fun k=>ok k∨w.heap.size≤k) k→k<wc.heap.size→W.heap[k]? = wc.heap[k]?)→∀ j,j<vs1.length→W.cell? ⟨go,j,none⟩=some (vs1.getD j (.slice none 0 0))):=aS (fun W hW j hj=>by
   obtain ⟨A',c',e',_,_,hat⟩:=HA.out.at
   cases e'
   obtain ⟨ad,e2,hx⟩:=hat W hW j hj;cases e2
   rwa [tree_New.ad0] at hx)
  obtain ⟨Ai,ci,ei,hli,hCi⟩:=HA.out.cells i (by have:=HI1.out;omega);obtain ⟨Aj,cj,ej,hlj,hCj⟩:=HA.out.cells (i+1) HI1.out;have hri:=HA.out.rs.rows i (by have:=HI1.out;omega);have hrj:=HA.out.rs.rows (i+1) HI1.out
  obtain ⟨li,hli_⟩:∃ x,x=l1.getD i []:=⟨_,rfl⟩
  obtain ⟨lj,hlj_⟩:∃ x,x=l1.getD (i+1) []:=⟨_,rfl⟩
  have EI:=aS ei;have EJ:=aS ej;rw [←hli_,← hlj_] at X1 HG;rw [←hli_] at EI hri;rw [←hlj_] at EJ hrj;have hrj2:=tree_New.reads_apart hrj (Kd.R_typed hri) EJ.out;rw [EI.out] at hri hrj2;have HRI:=aS hri;have HRJ:=aS hrj2;clear hri hrj hrj2
  have hix0:∀ j:Nat,j<vs1.length→∀ W:World,(Instr.indexAt 49 (.slice (some ⟨go,0,none⟩) vs1.length cl1) (.int .i64 (j:Int))).run Try.prog W = .ok (.pointer (some ⟨go,j,none⟩)) W:=fun j hj W=>by
   obtain ⟨i0,hi0,hz⟩:=Option.map_eq_some_iff.1 info53
   simp only [Prod.mk.injEq] at hz
   have h1:=index_ad 49 53 hu49 hi0 1 hz.2.1 ⟨go,0,none⟩ vs1.length cl1 (j:Int) (by omega) (by omega) W
   rwa [Nat.mul_one,Int.toNat_natCast,tree_New.ad0] at h1
  have hix:=hix0 i (by have:=HI1.out;omega)
  have hiy:∀ W:World,(Instr.indexAt 49 (.slice (some ⟨go,0,none⟩) vs1.length cl1) (.int .i64 ((i:Int)+1))).run Try.prog W = .ok (.pointer (some ⟨go,i+1,none⟩)) W:=hix0 (i+1) HI1.out
  have hq0:(i:Int)<(vs1.length:Int):=by have:=HI1.out;omega
  have hq1:(i:Int)+1<(vs1.length:Int):=by have:=HI1.out;omega
  have hq2:(0:Int)≤(i:Int)+1:=by omega
  have HGE1:=aS (Nat.le_trans HGE.out HC.out.size);clear hl1 hi1 hL1 hli hCi hlj hCj ei ej hli_ hlj_ hix0
  go_upto_region 3 with (fail)
  refine start_ (n:=18) (ds:=[]) (S:=fun w'=>w'.cell? ⟨g,4,none⟩=some (.slice (some ⟨go,0,none⟩) vs1.length cl1)∧w'.cell? ⟨go,i,none⟩=some (.slice Ai li.length ci)∧w'.cell? ⟨go,i+1,none⟩=some (.slice Aj lj.length cj)) (bA 18 0) (by kernel_rfl) rfl rfl ⟨(blk_cell (blk_drew HA.out.blk) 4).trans rfl,(HAT.out _ (fun k _ hk=>(below_drew (Below.refl _ _)).block k hk) i (by have:=HI1.out;omega)).trans (congrArg some EI.out),(HAT.out _ (fun k _ hk=>(below_drew (Below.refl _ _)).block k hk) (i+1) HI1.out).trans (congrArg some EJ.out)⟩ (fun hHeld=>?_)
  generalize hw_:World.drew _=wd at hHeld ⊢
  have HAd:Aside0 (tree_New.AtU wd base _ g gm vm _ vs1 vs1 s1 s2 s3 xs n l1):=aS (hw_▸HA.out.below (below_drew (Below.refl _ _)));have HCd:Aside0 (tree_New.Chg w wd ok):=aS (hw_▸HC.out.step (below_drew (Below.refl _ _)));have HRId:Aside0 (Kd.R tree_New.tabK 75 wd base _ _ li):=aS (hw_▸Kd.R_below HRI.out (below_drew (Below.refl _ _)));have HRJd:Aside0 (ReadsRow (fun x cs=>tree_New.tabM wd 0 (fun k=>some k≠(Value.slice Ai li.length ci).ownBlock) x cs) 1 wd Aj lj.length lj):=aS (hw_▸ReadsRow.imp_ HRJ.out (below_drew (Below.refl _ _)) (fun _ _ h=>h.step (fun k _ hk=>(below_drew (Below.refl _ _)).block k hk)));clear hw_ HA HC HRI HRJ HAT;refine with_tabW (T:=(true,[([],[]),([0],[0]),([1],[1]),([2],[2]),([],[]),([3,4],[3,4]),([5],[5]),([],[]),([7],[7]),([8],[8]),([9],[9]),([],[]),([11],[11]),([10,12],[10,12]),([13],[13]),([6,14],[6,14]),([15],[15]),([],[])])) (B:=[0,1,3,7,0,31,63,0,128,384,896,0,2048,8064,16256,32767,65535,0]) (by kernel_rfl) (by kernel_rfl) (fun HT_ HW_=>?_);refine along_ [(0,24),(1,25),(2,26),(17,41)] ?_
  iterate 4 (refine pure3 HT_ ?_)
  refine lay_ (bA 18 131079) (by kernel_rfl) ?_;refine along_ [(3,27)] ?_
  iterate 1 (refine take3 HT_ HW_ hHeld ?_)
  refine lay_ (bA 18 131087) (by kernel_rfl) ?_;refine along_ [(4,28),(5,29)] ?_
  iterate 2 (refine pure3 HT_ ?_)
  refine lay_ (bA 18 131135) (by kernel_rfl) ?_;refine along_ [(6,30)] ?_
  iterate 1 (refine take3 HT_ HW_ hHeld ?_)
  refine lay_ (bA 18 131199) (by kernel_rfl) ?_;refine along_ [(7,31),(8,32),(9,33)] ?_
  iterate 3 (refine pure3 HT_ ?_)
  refine lay_ (bA 18 132095) (by kernel_rfl) ?_;refine along_ [(10,34)] ?_
  iterate 1 (refine take3 HT_ HW_ hHeld ?_)
  refine lay_ (bA 18 133119) (by kernel_rfl) ?_;refine along_ [(11,35),(12,36),(13,37)] ?_
  iterate 3 (refine pure3 HT_ ?_)
  refine lay_ (bA 18 147455) (by kernel_rfl) ?_;refine along_ [(14,38)] ?_
  iterate 1 (refine take3 HT_ HW_ hHeld ?_)
  refine lay_ (bA 18 163839) (by kernel_rfl) ?_;refine one3 15 (N:=some 39) (bA 18 196607) HT_ (fun K hK=>?_);refine Kd.R_append_rows_step tree_New.tabK (w0:=wd) 0 (by rfl) (.tmp 30) (.tmp 38) 53 75 (.pointer none) 8 rfl hu53 info75 rfl (by decide) (by decide) (.slice Ai li.length ci) li lj Aj lj.length cj (fun _=>True) (fun k=>some k≠(Value.slice Ai li.length ci).ownBlock) rfl rfl (Kd.R_mono (Kd.R_lower HRId.out (Nat.zero_le _)) (fun _ _=>trivial)) HRJd.out (fun _ _ h=>h) (fun _ hk=>⟨trivial,hk⟩) (fun _ _=>trivial) (Below.refl _ _) (Nat.zero_le _) (by have:=HG.out.2;omega) ?_
  intro v39 w3 ho hb hgr hat
  obtain ⟨A9,c9,rfl,_,hC9⟩:=Kd.R_reads ho;have hlen:(li++lj).length=li.length+lj.length:=List.length_append
  obtain ⟨mm,hmm⟩:∃ mm,mm=li++lj:=⟨_,rfl⟩
  rw [←hmm] at hC9 ho X1 ⊢;have HMM:Aside0 (mm.length<1099511627776):=aS (by rw [hmm,hlen];exact HG.out.2);have HC9:=aS hC9;have HU:Aside0 (tree_New.AtU w3 base (fun k=>ok k∨w.heap.size≤k) g gm vm (.slice (some ⟨go,0,none⟩) vs1.length cl1) vs1 ((vs1.set i (.slice none 0 0)).set (i+1) (.slice none 0 0)) s1 s2 s3 xs n ((l1.set i []).set (i+1) [])):=aS (HAd.out.spill i HI1.out (by rw [EI.out];exact hgr));have HC3:Aside0 (tree_New.Chg w w3 ok):=aS (HCd.out.trans (tree_New.Chg.grown (ok:=(fun k=>ok k∨w.heap.size≤k)) hgr (fun k hk=>(HRId.out.1 k hk).1)) (fun k hk hlt=>hk.resolve_right (Nat.not_le_of_lt hlt)))
  have SX:Aside0 (∀ j,j<vs1.length→∀ {u:Value},vs1.getD j (.slice none 0 0)=u→w3.cell? ⟨go,j,none⟩=some u):=aS (fun j hj u hu=>by
   obtain ⟨A',c',e',_,_,hat⟩:=HU.out.at
   cases e'
   obtain ⟨ad,e2,hx⟩:=hat w3 (fun _ _ _=>rfl) j hj;cases e2;rw [tree_New.ad0,hu] at hx
   exact hx)
  clear ho hb hgr hat hlen hmm HAd HCd HRId HRJd hC9;refine hK.out _ _ ⟨(blk_cell HU.out.blk 4).trans rfl,SX.out i (by have:=HI1.out;omega) EI.out,SX.out (i+1) HI1.out EJ.out⟩ (fun hHeld=>?_);clear hK K;refine nm 39 ?_;refine along_ [(16,40)] ?_
  iterate 1 (refine pure3 HT_ ?_)
  refine lay_ (bA 18 262143) (by kernel_rfl) ?_;refine done_ (done_of HT_.out (by kernel_rfl)) ?_;clear HT_ HW_ hHeld;have HW1:=aS hw1;clear SX hw1
  go_wp2
  go_loopg [4,41] mm.length (fun kq v4 v41 wr=>∃ (j:Nat) (p:List (List S26)),v41 = .int .i64 (j:Int)∧Aside0 (kq+j=mm.length)∧Aside0 (tree_Tree_lists.l1 (mm.drop j) p=some q)∧Aside0 (Kd.R (Kd.slice 26 k26) 24 wr w3.heap.size (fun _=>True) v4 p)∧Aside0 (Below w3.heap.size w3 wr))
  case atStart=>exact ⟨0,[],rfl,⟨Nat.add_zero _⟩,X1,⟨Kd.R_nil _ _ _ _ _⟩,⟨Below.refl _ _⟩⟩
  case round=>
   clear X1;obtain ⟨j,p,rfl,hj,HP,HR4,HBr⟩:=hrel
   by_cases hlj:j<mm.length
   ·
    have hj1:(j:Int)<(mm.length:Int):=by omega
    have HK1:Aside0 (gk - 1<gk∧gk - 1+(j+1)=mm.length):=aS (by have:=hj.out;omega);obtain ⟨ad2,gx,e_,hy,hOP⟩:=tree_New.tab_at (Kd.C_below HC9.out HBr.out) j hlj;subst e_;have ha:=HP.out;rw [tree_New.drop_at mm ([],[],[]) j hlj] at ha
    obtain ⟨x,hx_⟩:∃ x,x=mm.getD j ([],[],[]):=⟨_,rfl⟩
    rw [←hx_] at ha hOP
    unfold tree_Tree_lists.l1 at ha
    replace ha:=obm ha;obtain ⟨d,y2,ha⟩:=ha
    by_cases hlim:p.length<2199023255552
    case neg=>rw [if_neg hlim] at ha;cases ha
    rw [if_pos hlim] at ha;have Y2:=aS y2;have HP1:=aS ha;have HOP:=aS hOP;have HLM:Aside0 ((p.length+1)*24≤140737488355328):=aS (by omega)
    have hiz:∀ W:World,(Instr.indexAt 53 (.slice (some ad2) mm.length c9) (.int .i64 (j:Int))).run Try.prog W = .ok (.pointer (some (ad2.add j))) W:=by
     obtain ⟨i0,hi0,hz⟩:=Option.map_eq_some_iff.1 info75
     simp only [Prod.mk.injEq] at hz
     intro W
     have h1:=index_ad 53 75 hu53 hi0 1 hz.2.1 ad2 mm.length c9 (j:Int) (by omega) (by omega) W
     rwa [Nat.mul_one,Int.toNat_natCast] at h1
    have hwj:wrap64 ((j:Int)+1)=(j:Int)+1:=by rw [←i64_w,IntKind.wrap_i64];have:=HMM.out;omega
    clear y2 ha HP hOP hlim hx_
    go_wp2_with (first | (go_at_call 41;(with_reducible refine (table_Table_Cells.calls gx 0 x.1 x.2.1 x.2.2 d _ HOP.out Y2.out).mono ?_);rintro e_ w5 ⟨v5,rfl,ho,hb⟩;obtain ⟨A5,c5,rfl⟩:=Kd.R_slice ho;have HD5:=aS (Kd.R_lower (Kd.R_new' ho (Kd.R_lt HR4.out)) HBr.out.size);have HR5:=aS (Kd.R_below HR4.out hb);have HB1:=aS (below_step HBr.out hb);clear ho hb HR4 HBr) | (at_builtin;refine Kd.R_append (Kd.slice 26 k26) (w0:=w3) w3.heap.size rfl _ _ 61 24 _ _ rfl hu61 info24 rfl (by decide) (by decide) u4 p d [.slice A5 d.length c5] (fun _=>True) (fun k=>True∧some k≠u4.ownBlock) rfl rfl (Kd.M_row HD5.out) (fun _ hk=>hk) (fun _ _=>trivial) HR5.out HB1.out HB1.out.size HLM.out ?_;intro v8 w6 ho hb hg hat;have HR2:=aS ho;have HB2:=aS hb;clear ho hb hg hat HR5 HB1 HD5))
    go_roundg (gk - 1)
    case measure=>exact HK1.out.1
    case rel=>exact ⟨j+1,_,by rw [hwj];rfl,⟨HK1.out.2⟩,HP1,HR2,HB2⟩
   ·
    have hge:¬ ((j:Int)<(mm.length:Int)):=by omega
    have ha:=HP.out;rw [List.drop_eq_nil_of_le (show mm.length≤j by omega)] at ha
    unfold tree_Tree_lists.l1 at ha
    have e1:=(Option.some.inj ha).symm;subst e1;obtain ⟨Aq,cq,rfl,hcq,hCq⟩:=Kd.R_reads HR4.out;have HLQ:=aS hcq;have HCQ:=aS hCq;have HU5:=aS (HU.out.below HBr.out);have HC5:=aS (HC3.out.step HBr.out);clear ha HP hcq hCq HR4 HU HC3 hj;have hw1:=HW1.out
    go_upto_region 8 with (fail)
    refine start_ (n:=19) (ds:=[16,18]) (S:=fun w'=>w'.cell? ⟨g,4,none⟩=some (.slice (some ⟨go,0,none⟩) vs1.length cl1)) (bA 19 0) (by kernel_rfl) rfl rfl ((blk_cell (blk_drew HU5.out.blk) 4).trans rfl) (fun hHeld=>?_)
    generalize hw_:World.drew _=wd at hHeld ⊢
    have HUd:Aside0 (tree_New.AtU wd base _ g gm vm _ vs1 _ s1 s2 s3 xs n _):=aS (hw_▸HU5.out.below (below_drew (Below.refl _ _)));have HCd:Aside0 (tree_New.Chg w wd ok):=aS (hw_▸HC5.out.step (below_drew (Below.refl _ _)));have HCQd:Aside0 (Kd.C (Kd.slice 26 k26) wd Aq q.length q):=aS (hw_▸Kd.C_drew HCQ.out);clear hw_ HU5 HC5 HCQ;refine with_tabW (T:=(true,[([],[]),([0],[0]),([1],[1]),([2],[2]),([],[]),([],[]),([5],[5]),([6],[6]),([7],[7]),([],[]),([9],[9]),([],[]),([],[]),([12],[12]),([11,13,13],[11,13]),([3,4,0,1,2,3,4,8,13,14],[3,4]),([15,14,0,1,2,3,4,8,13,14],[15]),([8,10,0,1,2,3,4,5,6,7,8,9,10,11,12,13,14,15,16],[8,10]),([17,14,16,0,1,2,3,4,5,6,7,8,9,10,11,12,13,14,15,16],[14,17])])) (B:=[0,1,3,7,0,0,32,96,224,0,512,0,0,4096,14336,31231,63999,131071,262143]) (by kernel_rfl) (by kernel_rfl) (fun HT_ HW_=>?_);refine along_ [(0,51),(1,52),(2,53)] ?_
    iterate 3 (refine pure3 HT_ ?_)
    refine lay_ (bA 19 7) (by kernel_rfl) ?_;refine along_ [(3,54)] ?_
    iterate 1 (refine take3 HT_ HW_ hHeld ?_)
    refine lay_ (bA 19 15) (by kernel_rfl) ?_;refine along_ [(4,55),(5,56),(6,57),(7,58)] ?_
    iterate 4 (refine pure3 HT_ ?_)
    refine lay_ (bA 19 255) (by kernel_rfl) ?_;refine along_ [(8,59)] ?_
    iterate 1 (refine take3 HT_ HW_ hHeld ?_)
    refine lay_ (bA 19 511) (by kernel_rfl) ?_;refine along_ [(9,60),(10,61),(11,62),(12,63)] ?_
    iterate 4 (refine pure3 HT_ ?_)
    refine lay_ (bA 19 8191) (by kernel_rfl) ?_;clear hw1;refine one3 13 (N:=some 64) (bA 19 16383) HT_ (fun K hK=>?_);refine goes_ Try.func29 (by kernel_rfl) rfl #[.slice Aq q.length cq] (by rfl) rfl rfl agn ?_
    with_reducible refine (merge_All.calls k Aq cq q c _ HCQd.out HLQ.out X2.out).mono ?_
    rintro e_ w6 ⟨v6,rfl,ho,hb⟩
    refine ⟨_,rfl,?_⟩;obtain ⟨Ac,cc,rfl,hcc,hCc⟩:=Kd.R_reads ho;have HLC:=aS hcc;have HCC:=aS hCc;have HS6:Aside0 (w.heap.size≤w6.heap.size):=aS (HCd.out.step hb).size;have HS6w:=aS HS6.out;have HU6:=aS (HUd.out.below hb);have HC6:=aS (HCd.out.step hb);clear ho hb hcc hCc HUd HCd HCQd HLQ;refine hK.out _ _ ((blk_cell HU6.out.blk 4).trans rfl) (fun hHeld=>?_);clear hK K;refine nm 64 ?_;refine one3 14 (N:=some 65) (bA 19 32767) HT_ (fun K hK=>?_);refine goes_ Try.func24 (by kernel_rfl) rfl #[.pointer (some ⟨g,0,none⟩),.slice Ac c.length cc] (by rfl) rfl rfl agn ?_
    with_reducible refine (tree_Tree_made.calls k g s1 s2 s3 _ _ Ac cc c t _ HU6.out.blk HCC.out HLC.out X3.out).mono ?_
    rintro e_ w7 ⟨v7,rfl,ho,hb⟩
    refine ⟨_,rfl,?_⟩;obtain ⟨At,ct,rfl⟩:=Kd.R_slice ho
    have HU7:Aside0 (tree_New.AtU w7 base (fun k=>ok k∨w.heap.size≤k) g gm vm (.slice (some ⟨go,0,none⟩) vs1.length cl1) vs1 (((vs1.set i (.slice none 0 0)).set (i+1) (.slice none 0 0)).set (i+1) (.slice At [t].length ct)) s1 s2 s3 xs n (((l1.set i []).set (i+1) []).set (i+1) [t])):=aS ((HU6.out.below hb).tell (i+1) (by rw [List.length_set,List.length_set];exact HI1.out)
     (Kd.R_mono (Kd.R_lower (Kd.R_bound ho) (Nat.le_trans HGE.out HS6.out)) (fun k hk=>⟨.inr (Nat.le_trans HS6w.out hk.2.1),fun e=>by have:=Kd.R_lt HU6.out.row k e.symm;have:=hk.2.1;omega⟩))
     (fun j hj k hk hk'=>by have:=Kd.R_lt (HU6.out.rs.rows j hj) k hk;have:=Kd.R_base ho k hk';omega))
    have HC7:=aS (HC6.out.step hb);clear ho hb HU6 HC6 HCC HLC HS6 HS6w;refine hK.out _ _ ((blk_cell HU7.out.blk 4).trans rfl) (fun hHeld=>?_);clear hK K;refine nm 65 ?_;refine along_ [(15,66)] ?_
    iterate 1 (refine pure3 HT_ ?_)
    refine lay_ (bA 19 65535) (by kernel_rfl) ?_;refine last_ (i:=16) (N:=none) (bA 19 131071) rfl rfl (one_of HT_.out (by kernel_rfl)) (by decide) (fun K hK=>?_);obtain ⟨hu8,hg8⟩:=HU7.out.put i (by have:=HI1.out;omega) (.slice none 0 0) rfl;obtain ⟨cho,hho⟩:=Kd.R_typed HU7.out.out go rfl;have hszo:=R_size HU7.out.out hho;refine store_step (by rfl) 53 _ _ rfl rfl (by rfl) (.slice none 0 0) (by rfl) [.slice none 0 0] rfl hsz53 hho (by have h5:vs1.length*1≤cho.size:=hszo;have:=HI1.out;show i+1≤cho.size;omega) (by intro q_ hq_;rw [List.mem_singleton.1 hq_];rfl) ?_;have HU8:=aS hu8;have HC8:Aside0 (tree_New.Chg w (w7.setCells go i [.slice none 0 0]) ok):=aS (HC7.out.trans (tree_New.Chg.grown (ok:=(fun k=>ok k∨w.heap.size≤k)) hg8 (fun k hk=>HU7.out.out.1 k hk)) (fun k hk hlt=>hk.resolve_right (Nat.not_le_of_lt hlt)));clear hu8 hg8 hho hszo HU7 HC7
    generalize w7.setCells go i [.slice none 0 0]=w8 at HU8 HC8 ⊢
    refine hK.out _ _ ?_;clear hK K;refine norm_ (a':=?_) ?_ ?_
    rotate_left
    ·
     show Act.put _ none _=_
     simp only [Act.put,lsa,lsz,lss,i64_w,i32_w]
     rfl
    have hw1:=HW1.out;refine along_ [(17,67)] ?_
    iterate 1 (refine pure3 HT_ ?_)
    refine lay_ (bA 19 262143) (by kernel_rfl) ?_;clear hw1;refine last_ (i:=18) (N:=none) (bA 19 524287) rfl rfl (one_of HT_.out (by kernel_rfl)) (by decide) (fun K hK=>?_);rw [show vs1.length=(vs1.set i (.slice none 0 0)).length from (List.length_set ..).symm] at HU8;obtain ⟨hu8,hg8⟩:=HU8.out.put (i+1) (by rw [List.length_set];exact HI1.out) (.slice At [t].length ct) rfl;obtain ⟨cho,hho⟩:=Kd.R_typed HU8.out.out go rfl;have hszo:=R_size HU8.out.out hho;refine store_step (by rfl) 53 _ _ rfl rfl (by rfl) (.slice At [t].length ct) (by rfl) [.slice At [t].length ct] rfl hsz53 hho (by have h5:(vs1.set i (.slice none 0 0)).length*1≤cho.size:=hszo;have:=HI1.out;show i+1+1≤cho.size;rw [List.length_set] at h5;omega) (by intro q_ hq_;rw [List.mem_singleton.1 hq_];rfl) ?_;have HU9:Aside0 (tree_New.AtU (w8.setCells go (i+1) [.slice At [t].length ct]) base (fun k=>ok k∨w.heap.size≤k) g gm vm _ _ _ s1 s2 s3 xs n _):=aS (by rw [List.set_set,List.set_set] at hu8;exact hu8);have HC9_:Aside0 (tree_New.Chg w (w8.setCells go (i+1) [.slice At [t].length ct]) ok):=aS (HC8.out.trans (tree_New.Chg.grown (ok:=(fun k=>ok k∨w.heap.size≤k)) hg8 (fun k hk=>HU8.out.out.1 k hk)) (fun k hk hlt=>hk.resolve_right (Nat.not_le_of_lt hlt)));clear hu8 hg8 hho hszo HU8 HC8
    generalize w8.setCells go (i+1) [.slice At [t].length ct]=w9 at HU9 HC9_ ⊢
    refine hK.out _ _ ?_;clear hK K;refine done_ (done_of HT_.out (by kernel_rfl)) ?_;clear HT_ HW_
    go_end0
    exact ⟨rfl,by rw [←HR.out];exact HU9.out.up,HC9_.out⟩
def tree_Tree_Flush.lp (k:Nat) (s2 s3:Int):Nat→Nat→List (List (List S26 × List (List S26) × List Int))→Option (List (List (List S26 × List (List S26) × List Int)))
 | 0,_,_=>none
 | m+1,i,ls=>if i<ls.length then (if s3<((ls.getD i []).length:Int) then (tree_Tree_sink.f k s2 ls i).bind fun r=>tree_Tree_Flush.lp k s2 s3 m (i+1) r else tree_Tree_Flush.lp k s2 s3 m (i+1) ls) else some ls
def tree_Tree_Flush.gl (ls:List (List (List S26 × List (List S26) × List Int))):List (List (List S26 × List (List S26) × List Int)):=if ls.length=0 then ls++[[]] else ls
def tree_Tree_Flush.f (k:Nat) (s2 s3:Int) (xs:List S26) (n:Int) (ls:List (List (List S26 × List (List S26) × List Int))):Option (List S26 × Int × List (List (List S26 × List (List S26) × List Int))):=
 if xs.length=0 then some (xs,n,ls) else if ls.length<1099511627776∧((tree_Tree_Flush.gl ls).getD 0 []).length<1099511627776 then (api_Cell_40.f xs).bind fun c=>(tree_Tree_made.f k c s2).bind fun t=>(tree_Tree_Flush.lp k s2 s3 k 0 ((tree_Tree_Flush.gl ls).set 0 (t :: (tree_Tree_Flush.gl ls).getD 0 []))).bind fun r=>some ([],0,r) else none
theorem tree_Tree_Flush.mono_lp (k:Nat) (s2 s3:Int):∀ m i ls,LeO (tree_Tree_Flush.lp k s2 s3 m i ls) (tree_Tree_Flush.lp (k+1) s2 s3 (m+1) i ls)
 | 0,_,_=>LeO.none _
 | m+1,i,ls=>LeO.ite (LeO.ite (LeO.bind (tree_Tree_sink.mono _ _ _ _) fun _=>tree_Tree_Flush.mono_lp k s2 s3 m _ _) (tree_Tree_Flush.mono_lp k s2 s3 m _ _)) (LeO.refl _)
theorem tree_Tree_Flush.mono:∀ a0 a1 a2 a3 a4 k,LeO (tree_Tree_Flush.f k a0 a1 a2 a3 a4) (tree_Tree_Flush.f (k+1) a0 a1 a2 a3 a4):=fun _ _ _ _ _ k=>LeO.ite (LeO.refl _) (LeO.ite (LeO.bind (LeO.refl _) fun _=>LeO.bind (tree_Tree_made.mono _ _ _) fun _=>LeO.bind (tree_Tree_Flush.mono_lp k _ _ _ _ _) fun _=>LeO.refl _) (LeO.refl _))
theorem tree_Tree_Flush.calls (k g base:Nat) (ok:Nat→Prop) (s1 s2 s3:Int) (xs xs':List S26) (n n':Int) (ls r:List (List (List S26 × List (List S26) × List Int))) (w:World) (hA:tree_New.At w base ok g s1 s2 s3 xs n ls) (h:tree_Tree_Flush.f k s2 s3 xs n ls=some (xs',n',r)) :
  Calls Try.prog 10 #[.pointer (some ⟨g,0,none⟩)] w fun e w'=>e = .returned (.tuple #[])∧tree_New.At w' base (fun k=>ok k∨w.heap.size≤k) g s1 s2 s3 xs' n' r∧tree_New.Chg w w' ok:=by
 have hu30:=Try.underlying30;have hu51:=Try.underlying51;have hu23:=Try.underlying23;have hu49:=Try.underlying49;have hu53:=Try.underlying53;have hu24:=Try.underlying24;have hu61:=Try.underlying61;have hu75:=Try.underlying75;have hu47:=Try.underlying47
 have hsz53:(Try.prog.info? 53).map (·.size)=some 1:=by
  obtain ⟨i0,hi0,hz⟩:=Option.map_eq_some_iff.1 info53
  simp only [Prod.mk.injEq] at hz
  rw [hi0];simp [hz.2.1]
 obtain ⟨gm,vm,vl,vs,hA⟩:=hA;have HA:=aS hA;clear hA
 unfold tree_Tree_Flush.f at h
 obtain ⟨A,cl,rfl,hcl,hmx,hat⟩:=HA.out.at;have HL:=aS HA.out.len;clear hat hmx;have HGE:Aside0 (base≤w.heap.size):=aS (Nat.le_trans HA.out.ge (Nat.le_of_lt (blk_lt HA.out.blk)));have q0:=cK5 (aS HA.out.blk)
 by_cases hz:xs.length=0
 ·
  rw [if_pos hz] at h
  obtain h:=Option.some.inj h
  simp only [Prod.mk.injEq] at h
  obtain ⟨rfl,rfl,rfl⟩:=h;obtain ⟨hz1,hz2⟩:=eqT (show (xs.length:Int)=0 by omega);clear hz
  go_enter Try.func10,Try.ntmps10
  go_wp2_with (first | (go_at_call 23;(with_reducible refine (mem_Mem_Len.calls gm base xs n vm _ HA.out.mem).mono ?_);rintro e_ w2 ⟨rfl,hb⟩;have HA1:=aS (HA.out.below hb);have HB1:=aS hb;clear hb q0;have q0:=cK5 (aS HA1.out.blk)))
  refine bodyPost_ret (results_none rfl _ _ _) rfl ?_;exact ⟨rfl,⟨gm,vm,_,vs,HA1.out.mono (fun _ hk=>.inl hk)⟩,tree_New.Chg.of_below HB1.out _⟩
 rw [if_neg hz] at h
 by_cases hg:ls.length<1099511627776∧((tree_Tree_Flush.gl ls).getD 0 []).length<1099511627776
 case neg=>rw [if_neg hg] at h;cases h
 rw [if_pos hg] at h;replace h:=obm h;obtain ⟨c,x1,h⟩:=h;replace h:=obm h;obtain ⟨t,x2,h⟩:=h;replace h:=obm h;obtain ⟨r',x3,h⟩:=h
 obtain h:=Option.some.inj h
 simp only [Prod.mk.injEq] at h
 obtain ⟨rfl,rfl,rfl⟩:=h;have X1:=aS x1;have X2:=aS x2;have X3:=aS x3;have HG:=aS hg;have HZ:=aS hz;have HLV:Aside0 ((vs.length+1)*24≤140737488355328):=aS (by rw [HL.out];have:=hg.1;omega);clear x1 x2 x3 hg hz
 go_enter Try.func10,Try.ntmps10
 refine wp_seq_k (fun K_ hK_=>?_)
 go_cut [] (fun wc=>Aside0 (tree_New.AtU wc base ok g gm vm (.slice A vs.length cl) vs vs s1 s2 s3 xs n ls)∧Aside0 (tree_New.Chg w wc ok))
 case first=>
  obtain ⟨hz1,hz2⟩:=eqF (show ¬ (xs.length:Int)=0 by have:=HZ.out;omega)
  go_wp2_with (first | (go_at_call 23;(with_reducible refine (mem_Mem_Len.calls gm base xs n vm _ HA.out.mem).mono ?_);rintro e_ w2 ⟨rfl,hb⟩;have HA1:=aS (HA.out.below hb);have HB1:=aS hb;clear hb q0;have q0:=cK5 (aS HA1.out.blk)))
  go_meet
  case rel=>exact ⟨HA1,⟨tree_New.Chg.of_below HB1.out _⟩⟩
 clear q0 HA;obtain ⟨HA,HC0⟩:=hcut
 rename World=>w1
 have q0:=cK5 (aS HA.out.blk);refine hK_ _ _ ?_;refine wp_seq_k (fun K2_ hK2_=>?_)
 go_cut [] (fun wc=>∃ (vl1:Value) (vs1:List Value),Aside0 (tree_New.AtU wc base (fun k=>ok k∨w.heap.size≤k) g gm vm vl1 vs1 vs1 s1 s2 s3 xs n (tree_Tree_Flush.gl ls))∧Aside0 (tree_New.Chg w wc ok))
 case first=>
  by_cases he:ls.length=0
  ·
   obtain ⟨he1,he2⟩:=eqT (show (vs.length:Int)=0 by rw [HL.out,he];rfl);have HE:=aS he;clear he
   go_wp2_with (first | (at_builtin;refine Kd.R_append tree_New.rawK (w0:=w1) base rfl _ _ 49 53 _ _ rfl hu49 info53 rfl (by decide) (by decide) (.slice A vs.length cl) vs (.slice none 0 0) [.slice none 0 0] (fun k=>ok k∨w.heap.size≤k) (fun _=>False) rfl rfl ⟨rfl,rfl⟩ (fun _ hk=>hk.elim) (fun k hk=>.inr (Nat.le_trans HC0.out.size hk)) (Kd.R_mono HA.out.out (fun _ hk=>.inl hk)) (Below.refl _ _) (Nat.le_trans HGE.out HC0.out.size) HLV.out ?_;intro v21 w2 ho hb hg hat;obtain ⟨A1,c1,e1_⟩:=Kd.R_slice ho;rw [show (vs++[(.slice none 0 0:Value)]).length=vs.length+1 from by simp] at e1_;subst e1_;have HO2:=aS ho;have HG2:=aS hg;have HB2:Aside0 (w2.heap[g]? = some (.cells #[.int .i64 s1,.int .i64 s2,.int .i64 s3,.pointer (some ⟨gm,0,none⟩),.slice A vs.length cl] 51 (0,0))):=aS ((hg.block g (blk_lt HA.out.blk) (tree_New.ne_row HA.out.blk (Kd.R_typed HA.out.out) (by decide))).trans HA.out.blk);clear ho hb hg hat q0;have q0:=cK5 HB2))
   have HF:Aside0 (tree_New.AtU (w2.setCell ⟨g,4,none⟩ (.slice A1 (vs.length+1) c1)) base (fun k=>ok k∨w.heap.size≤k) g gm vm (.slice A1 (vs.length+1) c1) (vs++[.slice none 0 0]) (vs++[.slice none 0 0]) s1 s2 s3 xs n (tree_Tree_Flush.gl ls)):=aS (by unfold tree_Tree_Flush.gl;rw [if_pos HE.out];exact HA.out.snoc HO2.out HG2.out (fun _ hk=>.inl hk));have HC:Aside0 (tree_New.Chg w (w2.setCell ⟨g,4,none⟩ (.slice A1 (vs.length+1) c1)) ok):=aS (HC0.out.trans ((tree_New.Chg.grown HG2.out (fun k hk=>HA.out.out.1 k hk)).trans (tree_New.Chg.set w2 g 4 _ HA.out.okg) (fun _ hk _=>hk)) (fun _ hk _=>hk))
   go_meet
   case rel=>exact ⟨_,_,HF,HC⟩
  ·
   obtain ⟨he1,he2⟩:=eqF (show ¬ (vs.length:Int)=0 by rw [HL.out];omega);have HE:=aS he;clear he
   go_wp2
   go_meet
   case rel=>exact ⟨_,vs,⟨by unfold tree_Tree_Flush.gl;rw [if_neg HE.out];exact HA.out.mono (fun _ hk=>.inl hk)⟩,HC0⟩
 clear q0 HA HC0;obtain ⟨vl1,vs1,HA,HC⟩:=hcut
 rename World=>w4
 obtain ⟨l1,hl1⟩:∃ x,x=tree_Tree_Flush.gl ls:=⟨_,rfl⟩
 rw [←hl1] at HA HG X3
 have hi1:0<l1.length:=by
  rw [hl1]
  unfold tree_Tree_Flush.gl
  by_cases e:ls.length=0
  ·
   rw [if_pos e,List.length_append,List.length_singleton];omega
  ·
   rw [if_neg e];omega
 have hL1:=HA.out.len;obtain ⟨go,cl1,rfl,_,_,_⟩:=Kd.R_form HA.out.out (by omega);have HI1:Aside0 (0<vs1.length):=aS (by rw [hL1];exact hi1);have HSZ:Aside0 (w.heap.size≤w4.heap.size):=aS HC.out.size;obtain ⟨Ai,ci,ei,hli,hCi⟩:=HA.out.cells 0 HI1.out;have hri:=HA.out.rs.rows 0 HI1.out
 have HX0:Aside0 (w4.cell? ⟨go,0,none⟩=some (vs1.getD 0 (.slice none 0 0))):=aS (by
  obtain ⟨A',c',e',_,_,hat⟩:=HA.out.at
  cases e'
  obtain ⟨ad,e2,hx⟩:=hat w4 (fun _ _ _=>rfl) 0 HI1.out;cases e2
  rwa [tree_New.ad0] at hx)
 obtain ⟨li,hli_⟩:∃ x,x=l1.getD 0 []:=⟨_,rfl⟩
 have EI:=aS ei;rw [←hli_] at HG hri EI X3;have HRI:=aS hri;have hx0:=HX0.out;rw [EI.out] at hx0;have HX:=aS hx0;have hq1:0<vs1.length:=HI1.out;clear hl1 hi1 hL1 hli hCi ei hli_ hri hx0 HX0
 go_upto_region 3 with (fail)
 refine start_ (n:=20) (ds:=[19]) (S:=fun w'=>w'.cell? ⟨g,4,none⟩=some (.slice (some ⟨go,0,none⟩) vs1.length cl1)∧w'.cell? ⟨g,3,none⟩=some (.pointer (some ⟨gm,0,none⟩))∧w'.cell? ⟨go,0,none⟩=some (.slice Ai li.length ci)) (bA 20 0) (by kernel_rfl) rfl rfl ⟨(blk_cell (blk_drew HA.out.blk) 4).trans rfl,(blk_cell (blk_drew HA.out.blk) 3).trans rfl,HX.out⟩ (fun hHeld=>?_)
 generalize hw_:World.drew _=wd at hHeld ⊢
 have HAd:Aside0 (tree_New.AtU wd base _ g gm vm _ vs1 vs1 s1 s2 s3 xs n l1):=aS (hw_▸HA.out.below (below_drew (Below.refl _ _)));have HCd:Aside0 (tree_New.Chg w wd ok):=aS (hw_▸HC.out.step (below_drew (Below.refl _ _)));have HRId:Aside0 (Kd.R tree_New.tabK 75 wd base _ _ li):=aS (hw_▸Kd.R_below HRI.out (below_drew (Below.refl _ _)));have HSd:Aside0 (w4.heap.size≤wd.heap.size):=aS (hw_▸(below_drew (Below.refl 0 _)).size);have HXd:Aside0 (wd.cell? ⟨go,0,none⟩=some (.slice Ai li.length ci)):=aS (hw_▸HX.out);clear hw_ HA HC HRI HX;refine with_tabW (T:=(true,[([],[]),([0],[0]),([1],[1]),([2],[2]),([],[]),([],[]),([5],[5]),([6],[6]),([7],[7]),([8],[8]),([4,9,9],[4,9]),([],[]),([11],[11]),([12],[12]),([13],[13]),([14],[14]),([15],[15]),([10,16,10],[10,16]),([3,0,1,2,3,4,5,6,7,8,9,10,11,12,13,14,15,16,17],[3]),([18,17,17,0,1,2,3,4,5,6,7,8,9,10,11,12,13,14,15,16,17],[17,18])])) (B:=[0,1,3,7,0,0,32,96,224,480,1008,0,2048,6144,14336,30720,63488,131056,262143,524287]) (by kernel_rfl) (by kernel_rfl) (fun HT_ HW_=>?_);refine along_ [(0,24),(1,25),(2,26)] ?_
 iterate 3 (refine pure3 HT_ ?_)
 refine lay_ (bA 20 7) (by kernel_rfl) ?_;refine along_ [(3,27)] ?_
 iterate 1 (refine take3 HT_ HW_ hHeld ?_)
 refine lay_ (bA 20 15) (by kernel_rfl) ?_;refine along_ [(4,28),(5,29),(6,30),(7,31)] ?_
 iterate 4 (refine pure3 HT_ ?_)
 refine lay_ (bA 20 255) (by kernel_rfl) ?_;refine along_ [(8,32)] ?_
 iterate 1 (refine take3 HT_ HW_ hHeld ?_)
 refine lay_ (bA 20 511) (by kernel_rfl) ?_;refine along_ [(11,35),(12,36),(13,37)] ?_
 iterate 3 (refine pure3 HT_ ?_)
 refine lay_ (bA 20 14847) (by kernel_rfl) ?_;refine along_ [(14,38)] ?_
 iterate 1 (refine take3 HT_ HW_ hHeld ?_)
 refine lay_ (bA 20 31231) (by kernel_rfl) ?_;refine along_ [(15,39)] ?_
 iterate 1 (refine pure3 HT_ ?_)
 refine lay_ (bA 20 63999) (by kernel_rfl) ?_;refine along_ [(16,40)] ?_
 iterate 1 (refine take3 HT_ HW_ hHeld ?_)
 refine lay_ (bA 20 129535) (by kernel_rfl) ?_;refine one3 9 (N:=some 33) (bA 20 130047) HT_ (fun K hK=>?_);refine goes_ Try.func25 (by kernel_rfl) rfl #[.pointer (some ⟨gm,0,none⟩)] (by rfl) rfl rfl agn ?_
 with_reducible refine (mem_Mem_Cells.calls gm base xs c n vm _ HAd.out.mem X1.out).mono ?_
 rintro e_ w6 ⟨v6,rfl,ho,hb⟩
 refine ⟨_,rfl,?_⟩;obtain ⟨Ac,cc,rfl,hcc,hCc⟩:=Kd.R_reads ho;have HLC:=aS hcc;have HCC:=aS hCc;have HB6:=aS hb;have HX6:Aside0 (w6.cell? ⟨go,0,none⟩=some (.slice Ai li.length ci)):=aS ((hb.cell (wbl wd _ HXd.out)).trans HXd.out);clear ho hb hcc hCc HXd;refine hK.out _ _ ⟨(blk_cell (HAd.out.below HB6.out).blk 4).trans rfl,(blk_cell (HAd.out.below HB6.out).blk 3).trans rfl,HX6.out⟩ (fun hHeld=>?_);clear hK K;refine nm 33 ?_;refine one3 10 (N:=some 34) (bA 20 131071) HT_ (fun K hK=>?_);refine goes_ Try.func24 (by kernel_rfl) rfl #[.pointer (some ⟨g,0,none⟩),.slice Ac c.length cc] (by rfl) rfl rfl agn ?_
 with_reducible refine (tree_Tree_made.calls k g s1 s2 s3 _ _ Ac cc c t _ (HAd.out.below HB6.out).blk HCC.out HLC.out X2.out).mono ?_
 rintro e_ w7 ⟨v7,rfl,ho,hb⟩
 refine ⟨_,rfl,?_⟩;obtain ⟨At,ct,rfl⟩:=Kd.R_slice ho;have HO7:=aS ho;have HB67:=aS hb;have HB7:=aS (below_step HB6.out hb);have HX7:Aside0 (w7.cell? ⟨go,0,none⟩=some (.slice Ai li.length ci)):=aS ((hb.cell (wbl w6 _ HX6.out)).trans HX6.out);clear ho hb HX6 HCC HLC;refine hK.out _ _ ⟨(blk_cell (HAd.out.below HB7.out).blk 4).trans rfl,(blk_cell (HAd.out.below HB7.out).blk 3).trans rfl,HX7.out⟩ (fun hHeld=>?_);clear hK K;refine nm 34 ?_;refine one3 17 (N:=some 41) (bA 20 262143) HT_ (fun K hK=>?_);have HWS:Aside0 (w.heap.size≤w6.heap.size):=aS (Nat.le_trans HSZ.out (Nat.le_trans HSd.out HB6.out.size));have HD6:=aS HB6.out.size;have HVM:Aside0 (∀ k,wd.heap.size≤k→some k≠vm.ownBlock):=aS (fun k hk e=>absurd (Kd.R_lt HAd.out.row k e.symm) (Nat.not_lt_of_le hk))
 have HO7':Aside0 (Kd.R tree_New.tabK 75 w7 base (fun k=>(fun k=>ok k∨w.heap.size≤k) k∧some k≠vm.ownBlock) (.slice At [t].length ct) [t]):=aS (Kd.R_mono (Kd.R_lower (Kd.R_bound HO7.out) (Nat.le_trans HGE.out HWS.out)) (fun k hk=>⟨.inr (Nat.le_trans HWS.out hk.2.1),HVM.out k (Nat.le_trans HD6.out hk.2.1)⟩))
 refine Kd.R_append_rows_step tree_New.tabK (w0:=w7) base (by rfl) (.tmp 34) (.tmp 40) 53 75 (.pointer none) 8 rfl hu53 info75 rfl (by decide) (by decide) (.slice At [t].length ct) [t] li Ai li.length ci (fun k=>(fun k=>ok k∨w.heap.size≤k) k∧some k≠vm.ownBlock) (fun k=>(fun k=>(fun k=>ok k∨w.heap.size≤k) k∧some k≠vm.ownBlock) k∧k<wd.heap.size) rfl rfl HO7'.out (tree_New.reads_old HRId.out HB7.out EI.out) (fun _ _ h=>h) (fun k hk=>⟨hk.1,fun e=>absurd (Nat.le_trans HD6.out (Kd.R_base HO7.out k e.symm)) (Nat.not_le_of_lt hk.2)⟩) (fun k hk=>⟨.inr (Nat.le_trans HWS.out (Nat.le_trans HB67.out.size hk)),HVM.out k (Nat.le_trans HB7.out.size hk)⟩) (Below.refl _ _) (Nat.le_trans HGE.out (Nat.le_trans HWS.out HB67.out.size)) (by have:=HG.out.2;show (1+li.length)*8≤140737488355328;omega) ?_
 intro v41 w8 ho hb hgr hat
 obtain ⟨A9,c9,rfl⟩:=Kd.R_slice ho;have HB8:Aside0 (Below wd.heap.size wd w8):=aS (HB7.out.grown hgr HB7.out.size (fun k hk=>Nat.le_trans HD6.out (Kd.R_base HO7.out k hk)))
 have HU8:Aside0 (tree_New.AtU w8 base (fun k=>ok k∨w.heap.size≤k) g gm vm (.slice (some ⟨go,0,none⟩) vs1.length cl1) vs1 (vs1.set 0 (.slice A9 ([t]++li).length c9)) s1 s2 s3 xs n (l1.set 0 (t :: li))):=aS ((HAd.out.below HB8.out).tell 0 HI1.out ho (fun j hj k hk hk'=>by
  have h1:=Kd.R_lt (HAd.out.rs.rows j hj) k hk
  rcases hat with e | ⟨b,e,hle⟩
  ·
   rw [e] at hk';exact absurd (Nat.le_trans HD6.out (Kd.R_base HO7.out k hk')) (Nat.not_le_of_lt h1)
  ·
   rw [e] at hk'
   injection hk' with hk'
   exact absurd (Nat.le_trans HB7.out.size (hk'▸hle)) (Nat.not_le_of_lt h1)))
 have HC8:=aS (HCd.out.step HB8.out)
 have HX8:Aside0 (w8.cell? ⟨go,0,none⟩=some (.slice Ai li.length ci)):=aS (by
  obtain ⟨A',c',e',_,_,hat8⟩:=HU8.out.at
  cases e'
  obtain ⟨ad,e2,hx⟩:=hat8 w8 (fun _ _ _=>rfl) 0 HI1.out;cases e2;rw [tree_New.ad0,EI.out] at hx
  exact hx)
 clear ho hb hgr hat HO7 HO7' HB6 HB7 HB67 HB8 HRId HAd HCd HX7 HVM HWS HD6 HSd;refine hK.out _ _ ⟨(blk_cell HU8.out.blk 4).trans rfl,(blk_cell HU8.out.blk 3).trans rfl,HX8.out⟩ (fun hHeld=>?_);clear hK K;refine nm 41 ?_;refine along_ [(18,42)] ?_
 iterate 1 (refine pure3 HT_ ?_)
 refine lay_ (bA 20 524287) (by kernel_rfl) ?_;refine last_ (i:=19) (N:=none) (bA 20 1048575) rfl rfl (one_of HT_.out (by kernel_rfl)) (by decide) (fun K hK=>?_);obtain ⟨hu9,hg9⟩:=HU8.out.put 0 HI1.out (.slice A9 ([t]++li).length c9) rfl;obtain ⟨cho,hho⟩:=Kd.R_typed HU8.out.out go rfl;have hszo:=R_size HU8.out.out hho;refine store_step (by rfl) 53 _ _ rfl rfl (by rfl) (.slice A9 ([t]++li).length c9) (by rfl) [.slice A9 ([t]++li).length c9] rfl hsz53 hho (by have h5:vs1.length*1≤cho.size:=hszo;have:=HI1.out;show 0+1≤cho.size;omega) (by intro q_ hq_;rw [List.mem_singleton.1 hq_];rfl) ?_;have HU9:Aside0 (tree_New.AtU (w8.setCells go 0 [.slice A9 ([t]++li).length c9]) base (fun k=>ok k∨w.heap.size≤k) g gm vm _ _ _ s1 s2 s3 xs n _):=aS hu9;have HC9_:Aside0 (tree_New.Chg w (w8.setCells go 0 [.slice A9 ([t]++li).length c9]) ok):=aS (HC8.out.trans (tree_New.Chg.grown (ok:=(fun k=>ok k∨w.heap.size≤k)) hg9 (fun k hk=>HU8.out.out.1 k hk)) (fun k hk hlt=>hk.resolve_right (Nat.not_le_of_lt hlt)));clear hu9 hg9 hho hszo HU8 HC8 HX8
 generalize w8.setCells go 0 [.slice A9 ([t]++li).length c9]=w9 at HU9 HC9_ ⊢
 refine hK.out _ _ ?_;clear hK K;refine done_ (done_of HT_.out (by kernel_rfl)) ?_;clear HT_ HW_;have q0:=cK5 (aS HU9.out.blk)
 go_upto_region 5 with (first | (go_at_call 18;(with_reducible refine (mem_New.calls _).mono ?_);rintro e_ w10 ⟨gm2,rfl,hm,hb⟩;have HM2:Aside0 (w10.heap[gm2]? = some (.cells #[.slice none 0 0,.int .i64 0] 65 (0,0))∧w.heap.size≤gm2):=aS ⟨hm.2.1,Nat.le_trans HC9_.out.size hm.1⟩;have HU10:=aS (HU9.out.below hb);have HC10:=aS (HC9_.out.step hb);clear hm hb q0 HU9 HC9_;have q0:=cK5 (aS HU10.out.blk)))
 have HT:Aside0 (tree_New.At (w10.setCell ⟨g,3,none⟩ (.pointer (some ⟨gm2,0,none⟩))) base (fun k=>ok k∨w.heap.size≤k) g s1 s2 s3 [] 0 (l1.set 0 (t :: li))):=aS (HU10.out.setM (Nat.le_trans HGE.out HM2.out.2) (.inr HM2.out.2) HM2.out.1).up;have HCT:Aside0 (tree_New.Chg w (w10.setCell ⟨g,3,none⟩ (.pointer (some ⟨gm2,0,none⟩))) ok):=aS (HC10.out.trans (tree_New.Chg.set (ok:=(fun k=>ok k∨w.heap.size≤k)) w10 g 3 _ HU10.out.okg) (fun k hk hlt=>hk.resolve_right (Nat.not_le_of_lt hlt)));clear q0 HU10 HM2 HC10
 generalize w10.setCell ⟨g,3,none⟩ (.pointer (some ⟨gm2,0,none⟩))=w11 at HT HCT ⊢
 go_wp2
 go_loopg [2] k (fun kq v2 wr=>∃ (i:Nat) (l:List (List (List S26 × List (List S26) × List Int))),v2 = .int .i64 (i:Int)∧Aside0 (tree_Tree_Flush.lp k s2 s3 kq i l=some r')∧Aside0 (tree_New.At wr base (fun k=>ok k∨w.heap.size≤k) g s1 s2 s3 [] 0 l)∧Aside0 (tree_New.Chg w wr ok))
 case atStart=>exact ⟨0,_,rfl,X3,HT,HCT⟩
 clear X3 HT HCT
 case round=>
  obtain ⟨i,l,rfl,HP,HT,HCr⟩:=hrel
  cases gk with
  | zero=>exact absurd HP.out (by simp [tree_Tree_Flush.lp])
  | succ k1=>
  obtain ⟨gm3,vm3,vl3,vs3,hT⟩:=HT.out;obtain ⟨A3,cl3,rfl,_,hmx3,hat3⟩:=hT.at;have HT3:=aS hT;have HM3:=aS hmx3;have hL3:=hT.len;have ha:=HP.out
  unfold tree_Tree_Flush.lp at ha
  clear hT HP hmx3
  by_cases hlt:i<l.length
  ·
   rw [if_pos hlt] at ha
   have hq1:(i:Int)<(vs3.length:Int):=by rw [hL3];omega
   have hlt3:i<vs3.length:=by rw [hL3];exact hlt
   obtain ⟨ad,e_,hx⟩:=hat3 wr (fun _ _ _=>rfl) i hlt3;subst e_;obtain ⟨Aj,cj,ej,_,_⟩:=HT3.out.cells i hlt3;rw [ej] at hx
   obtain ⟨nj,hnj⟩:∃ x,x=(l.getD i []).length:=⟨_,rfl⟩
   rw [←hnj] at hx ha;have HX3:=aS hx;have HL3:Aside0 (i<l.length):=aS hlt
   have hq0:(0:Int)≤(i:Int):=by omega
   have hwr:wrap64 ((i:Int)+1)=(i:Int)+1:=by rw [←i64_w,IntKind.wrap_i64];have:=HM3.out;omega
   have HWR:=aS hwr;have q0:=cK5 (aS HT3.out.blk);clear hat3 hx ej hL3 hlt hlt3 hnj hwr
   by_cases hs:s3<(nj:Int)
   ·
    rw [if_pos hs] at ha;replace ha:=obm ha;obtain ⟨r1,y1,ha⟩:=ha;have Y1:=aS y1;have HP1:=aS ha
    obtain ⟨hs1,hs2⟩:decide (s3<(nj:Int))=true∧True:=⟨decide_eq_true hs,trivial⟩
    clear y1 ha hs
    go_upto_region 8 with (fail)
    refine start_ (n:=14) (ds:=[]) (S:=fun w'=>w'.cell? ⟨g,4,none⟩=some (.slice (some ad) vs3.length cl3)∧w'.cell? ⟨g,2,none⟩=some (.int .i64 s3)∧w'.cell? (ad.add i)=some (.slice Aj nj cj)) (bA 14 0) (by kernel_rfl) rfl rfl ⟨(blk_cell (blk_drew HT3.out.blk) 4).trans rfl,(blk_cell (blk_drew HT3.out.blk) 2).trans rfl,HX3.out⟩ (fun hHeld=>?_)
    generalize hw_:World.drew _=wd at hHeld ⊢
    have HTd:Aside0 (tree_New.AtU wd base _ g gm3 vm3 _ vs3 vs3 s1 s2 s3 [] 0 l):=aS (hw_▸HT3.out.below (below_drew (Below.refl _ _)));have HCd:Aside0 (tree_New.Chg w wd ok):=aS (hw_▸HCr.out.step (below_drew (Below.refl _ _)));clear hw_ HT3 HCr HX3 q0;refine with_tabW (T:=(true,[([],[]),([0],[0]),([1],[1]),([2],[2]),([],[]),([3,4],[3,4]),([5],[5]),([6],[6]),([],[]),([8],[8]),([9],[9]),([10],[10]),([11],[11]),([7,12],[7,12])])) (B:=[0,1,3,7,0,31,63,127,0,256,768,1792,3840,8191]) (by kernel_rfl) (by kernel_rfl) (fun HT_ HW_=>?_);refine along_ [(0,56),(1,57),(2,58)] ?_
    iterate 3 (refine pure3 HT_ ?_)
    refine lay_ (bA 14 7) (by kernel_rfl) ?_;refine along_ [(3,59)] ?_
    iterate 1 (refine take3 HT_ HW_ hHeld ?_)
    refine lay_ (bA 14 15) (by kernel_rfl) ?_;refine along_ [(4,60),(5,61)] ?_
    iterate 2 (refine pure3 HT_ ?_)
    refine lay_ (bA 14 63) (by kernel_rfl) ?_;refine along_ [(6,62)] ?_
    iterate 1 (refine take3 HT_ HW_ hHeld ?_)
    refine lay_ (bA 14 127) (by kernel_rfl) ?_;refine along_ [(7,63),(8,64),(9,65),(10,66),(11,67)] ?_
    iterate 5 (refine pure3 HT_ ?_)
    refine lay_ (bA 14 4095) (by kernel_rfl) ?_;refine along_ [(12,68)] ?_
    iterate 1 (refine take3 HT_ HW_ hHeld ?_)
    refine lay_ (bA 14 8191) (by kernel_rfl) ?_;refine along_ [(13,69)] ?_
    iterate 1 (refine pure3 HT_ ?_)
    refine lay_ (bA 14 16383) (by kernel_rfl) ?_;refine done_ (done_of HT_.out (by kernel_rfl)) ?_;clear HT_ HW_ hHeld
    go_wp2_with (first | (go_at_call 26;(with_reducible refine (tree_Tree_sink.calls k g base (fun k=>ok k∨w.heap.size≤k) s1 s2 s3 [] 0 l r1 i _ HTd.out.up HL3.out Y1.out).mono ?_);rintro e_ w14 ⟨rfl,ha_,hc_⟩;have HT4:Aside0 (tree_New.At w14 base (fun k=>ok k∨w.heap.size≤k) g s1 s2 s3 [] 0 r1):=aS (ha_.mono (fun k hk=>hk.elim id (fun h=>.inr (Nat.le_trans HCd.out.size h))));have HC4:=aS (HCd.out.trans hc_ (fun k hk hlt=>hk.resolve_right (Nat.not_le_of_lt hlt)));clear ha_ hc_))
    have hwr:=HWR.out
    go_wp2
    go_roundg k1
    case measure=>exact Nat.lt_succ_self _
    case rel=>exact ⟨i+1,r1,by rw [hwr];rfl,HP1,HT4,HC4⟩
   ·
    rw [if_neg hs] at ha;have HP1:=aS ha
    obtain ⟨hs1,hs2⟩:decide (s3<(nj:Int))=false∧True:=⟨decide_eq_false hs,trivial⟩
    clear ha hs
    go_upto_region 8 with (fail)
    refine start_ (n:=14) (ds:=[]) (S:=fun w'=>w'.cell? ⟨g,4,none⟩=some (.slice (some ad) vs3.length cl3)∧w'.cell? ⟨g,2,none⟩=some (.int .i64 s3)∧w'.cell? (ad.add i)=some (.slice Aj nj cj)) (bA 14 0) (by kernel_rfl) rfl rfl ⟨(blk_cell (blk_drew HT3.out.blk) 4).trans rfl,(blk_cell (blk_drew HT3.out.blk) 2).trans rfl,HX3.out⟩ (fun hHeld=>?_)
    generalize hw_:World.drew _=wd at hHeld ⊢
    have HTd:Aside0 (tree_New.AtU wd base _ g gm3 vm3 _ vs3 vs3 s1 s2 s3 [] 0 l):=aS (hw_▸HT3.out.below (below_drew (Below.refl _ _)));have HCd:Aside0 (tree_New.Chg w wd ok):=aS (hw_▸HCr.out.step (below_drew (Below.refl _ _)));clear hw_ HT3 HCr HX3 q0;refine with_tabW (T:=(true,[([],[]),([0],[0]),([1],[1]),([2],[2]),([],[]),([3,4],[3,4]),([5],[5]),([6],[6]),([],[]),([8],[8]),([9],[9]),([10],[10]),([11],[11]),([7,12],[7,12])])) (B:=[0,1,3,7,0,31,63,127,0,256,768,1792,3840,8191]) (by kernel_rfl) (by kernel_rfl) (fun HT_ HW_=>?_);refine along_ [(0,56),(1,57),(2,58)] ?_
    iterate 3 (refine pure3 HT_ ?_)
    refine lay_ (bA 14 7) (by kernel_rfl) ?_;refine along_ [(3,59)] ?_
    iterate 1 (refine take3 HT_ HW_ hHeld ?_)
    refine lay_ (bA 14 15) (by kernel_rfl) ?_;refine along_ [(4,60),(5,61)] ?_
    iterate 2 (refine pure3 HT_ ?_)
    refine lay_ (bA 14 63) (by kernel_rfl) ?_;refine along_ [(6,62)] ?_
    iterate 1 (refine take3 HT_ HW_ hHeld ?_)
    refine lay_ (bA 14 127) (by kernel_rfl) ?_;refine along_ [(7,63),(8,64),(9,65),(10,66),(11,67)] ?_
    iterate 5 (refine pure3 HT_ ?_)
    refine lay_ (bA 14 4095) (by kernel_rfl) ?_;refine along_ [(12,68)] ?_
    iterate 1 (refine take3 HT_ HW_ hHeld ?_)
    refine lay_ (bA 14 8191) (by kernel_rfl) ?_;refine along_ [(13,69)] ?_
    iterate 1 (refine pure3 HT_ ?_)
    refine lay_ (bA 14 16383) (by kernel_rfl) ?_;refine done_ (done_of HT_.out (by kernel_rfl)) ?_;clear HT_ HW_ hHeld;have hwr:=HWR.out
    go_wp2
    go_roundg k1
    case measure=>exact Nat.lt_succ_self _
    case rel=>exact ⟨i+1,l,by rw [hwr];rfl,HP1,⟨HTd.out.up⟩,HCd⟩
  ·
   rw [if_neg hlt] at ha
   have hge:¬ ((i:Int)<(vs3.length:Int)):=by rw [hL3];omega
   obtain rfl:=Option.some.inj ha
   have q0:=cK5 (aS HT3.out.blk)
   go_wp2
   go_end0
   exact ⟨rfl,⟨_,_,_,_,HT3.out⟩,HCr.out⟩
def tree_Tree_Cells.f (k:Nat) (xs:List S26) (ls:List (List (List S26 × List (List S26) × List Int))):Option (List S26):=(tree_Tree_lists.f xs ls).bind fun q=>merge_All.f k q
theorem tree_Tree_Cells.mono:∀ a0 a1 k,LeO (tree_Tree_Cells.f k a0 a1) (tree_Tree_Cells.f (k+1) a0 a1):=fun _ _ _=>LeO.bind (LeO.refl _) fun _=>merge_All.mono _ _
theorem tree_Tree_Cells.calls (k base:Nat) (ok:Nat→Prop) (g:Nat) (s1 s2 s3:Int) (xs:List S26) (n:Int) (ls:List (List (List S26 × List (List S26) × List Int))) (r:List S26) (w:World) (hA:tree_New.At w base ok g s1 s2 s3 xs n ls) (h:tree_Tree_Cells.f k xs ls=some r) :
  Calls Try.prog 13 #[.pointer (some ⟨g,0,none⟩)] w fun e w'=>∃ v0_:Value,e = .returned v0_∧Kd.R k26 26 w' w.heap.size (fun _=>True) v0_ r∧Below w.heap.size w w':=by
 unfold tree_Tree_Cells.f at h
 replace h:=obm h;obtain ⟨q,x1,h⟩:=h;have X1:=aS x1;have X2:=aS h;have HA:=aS hA;clear x1 h hA
 go_enter Try.func13,Try.ntmps13
 go_wp2_with (first | (go_at_call 30;(with_reducible refine (tree_Tree_lists.calls base ok g s1 s2 s3 xs n ls q _ HA.out X1.out).mono ?_);rintro e_ w2 ⟨v2,rfl,ho,hb⟩;obtain ⟨Al,cl,rfl,hcl,hC⟩:=Kd.R_reads ho;have HC:=aS hC;have HL:=aS hcl;have HB:=aS hb;clear ho hb hC hcl) | (go_at_call 29;(with_reducible refine (merge_All.calls k Al cl q r _ HC.out HL.out X2.out).mono ?_);rintro e_ w3 ⟨v3,rfl,ho,hb⟩;have HO:=aS (Kd.R_lower ho HB.out.size);have HB2:=aS (below_step HB.out hb);clear ho hb HB))
 go_ret
 exact ⟨v3,rfl,HO.out,HB2.out⟩
def api_Cell_34.l0:Nat→List (S26)→Int→Int→Int→ByteArray→ByteArray→Int→ByteArray→Bool→Option (Int × Bool)
 | 0,_,_,_,_,_,_,_,_,_=>none
 | k+1,x0,x8,x9,x10,x487000,x487001,x487002,x487003,x487004=>if x9<x10 then (if 0≤(wrap64 ((IntKind.u64.wrap (wrap64 (x9+x10))) / 2)) then (if (wrap64 ((IntKind.u64.wrap (wrap64 (x9+x10))) / 2))<(x0.length:Int) then ((cell_Compare.f k ((rd_T26 x0 (wrap64 ((IntKind.u64.wrap (wrap64 (x9+x10))) / 2))).f0) ((rd_T26 x0 (wrap64 ((IntKind.u64.wrap (wrap64 (x9+x10))) / 2))).f1) ((rd_T26 x0 (wrap64 ((IntKind.u64.wrap (wrap64 (x9+x10))) / 2))).f2) ((rd_T26 x0 (wrap64 ((IntKind.u64.wrap (wrap64 (x9+x10))) / 2))).f3) ((rd_T26 x0 (wrap64 ((IntKind.u64.wrap (wrap64 (x9+x10))) / 2))).f4) x487000 x487001 x487002 x487003 x487004).bind fun t488=>(if t488<0 then (api_Cell_34.l0 k x0 x8 (wrap64 ((wrap64 ((IntKind.u64.wrap (wrap64 (x9+x10))) / 2))+1)) x10 x487000 x487001 x487002 x487003 x487004) else (api_Cell_34.l0 k x0 x8 x9 (wrap64 ((IntKind.u64.wrap (wrap64 (x9+x10))) / 2)) x487000 x487001 x487002 x487003 x487004))) else (none)) else (none)) else (if x9<x8 then (if 0≤x9 then (if x9<(x0.length:Int) then ((cell_Compare.f k ((rd_T26 x0 x9).f0) ((rd_T26 x0 x9).f1) ((rd_T26 x0 x9).f2) ((rd_T26 x0 x9).f3) ((rd_T26 x0 x9).f4) x487000 x487001 x487002 x487003 x487004).bind fun t490=>(some (x9,(t490 == 0)))) else (none)) else (none)) else (some (x9,false)))
def api_Cell_34.f (k:Nat) (l0:List (S26)) (a1_0:ByteArray) (a1_1:ByteArray) (a1_2:Int) (a1_3:ByteArray) (a1_4:Bool)  : Option (Int × Bool):=api_Cell_34.l0 k l0 (l0.length:Int) 0 (l0.length:Int) a1_0 a1_1 a1_2 a1_3 a1_4
theorem api_Cell_34.mono_l:∀ k,(∀ y0 y1 y2 y3 y4 y5 y6 y7 y8,LeO (api_Cell_34.l0 k y0 y1 y2 y3 y4 y5 y6 y7 y8) (api_Cell_34.l0 (k+1) y0 y1 y2 y3 y4 y5 y6 y7 y8))
 | 0=>fun _ _ _ _ _ _ _ _ _ r h=>by simp [api_Cell_34.l0] at h
 | k+1=>by
  have ih0:=api_Cell_34.mono_l k
  ·
   intro y0 y1 y2 y3 y4 y5 y6 y7 y8
   unfold api_Cell_34.l0
   have m0:=@cell_Compare.mono;exact lmo
theorem api_Cell_34.mono:∀ a0 a1 a2 a3 a4 a5 k,LeO (api_Cell_34.f k a0 a1 a2 a3 a4 a5) (api_Cell_34.f (k+1) a0 a1 a2 a3 a4 a5):=by
 intro a0 a1 a2 a3 a4 a5 k
 have ih0:=api_Cell_34.mono_l k
 unfold api_Cell_34.f
 have m0:=@cell_Compare.mono;exact lmo
def api_Cell_34.T5:Bool × List (List Nat × List Nat):=(true,[([],[]),([],[]),([],[]),([1,2],[1,2]),([3],[3]),([],[]),([0,4,5],[0,4,5]),([6],[6])])
def api_Cell_34.B5:List Nat:=[0,0,0,6,14,0,63,127]
theorem api_Cell_34.tab5:rtab .any (opsOf Try.f34 5)=api_Cell_34.T5:=by kernel_rfl
theorem api_Cell_34.bits5:waitsOk api_Cell_34.T5.2 api_Cell_34.B5=true:=by kernel_rfl
def api_Cell_34.T8:Bool × List (List Nat × List Nat):=(true,[([],[]),([],[]),([],[]),([1,2],[1,2]),([3],[3]),([4],[4]),([4],[4]),([4],[4]),([6,7,4],[4,6,7]),([8,4],[4,8]),([4],[4]),([5,9,10,4,4],[4,5,9,10]),([11,4],[4,11]),([4,12],[4,12]),([0,11,0],[0]),([13,14,0,1,2,3,4,5,6,7,8,9,10,11,12,13,14],[13])])
def api_Cell_34.B8:List Nat:=[0,0,0,6,14,30,30,30,222,478,30,2046,4094,8190,4095,32767]
theorem api_Cell_34.tab8:rtab .any (opsOf Try.f34 8)=api_Cell_34.T8:=by kernel_rfl
theorem api_Cell_34.bits8:waitsOk api_Cell_34.T8.2 api_Cell_34.B8=true:=by kernel_rfl
theorem api_Cell_34.calls (k:Nat) (A0:Option Addr) (c0:Nat) (l0:List (S26)) (a1_0:ByteArray) (a1_1:ByteArray) (a1_2:Int) (a1_3:ByteArray) (a1_4:Bool)  (r1:Int) (r2:Bool) (w:World) (hr0:Kd.C k26 w A0 l0.length l0) (hc0:l0.length≤c0) (h:api_Cell_34.f k l0 a1_0 a1_1 a1_2 a1_3 a1_4=some (r1,r2)) :
  Calls Try.prog 34 #[.slice A0 l0.length c0,.agg #[.string a1_0,.string a1_1,.int .i64 a1_2,.string a1_3,.bool a1_4],.func (.func 35) #[] #[]] w fun e w'=>e = .returned (.tuple #[.int .i64 r1,.bool r2])∧Below w.heap.size w w':=by
 have hu26:=Try.underlying26;have HR0:=aS hr0;have HC0:=aS hc0;clear hr0 hc0;have HB:=aS (Below.refl w.heap.size w);have H:(api_Cell_34.l0 k l0 (l0.length:Int) 0 (l0.length:Int) a1_0 a1_1 a1_2 a1_3 a1_4)=some (r1,r2):=h;clear h
 have H':=aS H
 clear H
 go_enter Try.func34,Try.ntmps34
 go_wp2_with (first | ((with_reducible refine gate_dst (N:=4) rfl ?_);refine box_event ?hg (N:=4) ?hd (cs:=#[.string a1_0,.string a1_1,.int .i64 a1_2,.string a1_3,.bool a1_4]) (t:=26) ?hr ?_;(case hd=>rfl);(case hg=>rfl);(case hr=>first | (go_simp;done) | (go_simp;rfl));intro gb486 hg w4 hbox hb;have BK486:=aS (hbox);have GW486:=bsize hg;have GE486:=bsize hg;replace HB:=bstep hb;clear hb hbox hg))
 go_loopg [9,10] k (fun kq v9 v10 w'=>∃ (x9_1:Int) (x10_1:Int),v9 = .int .i64 x9_1∧v10 = .int .i64 x10_1∧Aside0 (api_Cell_34.l0 kq l0 (l0.length:Int) x9_1 x10_1 a1_0 a1_1 a1_2 a1_3 a1_4=some (r1,r2))∧Aside0 (kq≤k)∧Aside0 (w'.heap[gb486]? = some (.cells #[.string a1_0,.string a1_1,.int .i64 a1_2,.string a1_3,.bool a1_4] 26 (0,0)))∧Aside0 (Below w.heap.size w w'))
 case atStart=>exact ⟨(0),((l0.length:Int)),srf,srf,H',⟨Nat.le_refl _⟩,⟨bkl BK486.out⟩,⟨bel⟩⟩
 case round=>
  clear H';obtain ⟨x9_1,x10_1,rfl,rfl,HA,HK1,BK486,HB⟩:=hrel
  cases gk with
  | zero=>exact absurd HA.out (by simp [api_Cell_34.l0])
  | succ k1=>
   have H:=HA.out;clear HA
   simp only [api_Cell_34.l0] at H
   by_cases c5:x9_1<x10_1
   ·
    rw [if_pos c5] at H;have c5b0:decide (x9_1<x10_1)=true:=decide_eq_true c5;clear c5
    obtain ⟨ji6,hji6⟩:∃ j_:Int,(wrap64 ((IntKind.u64.wrap (wrap64 (x9_1+x10_1))) / 2))=j_:=⟨_,rfl⟩
    replace H:(if 0≤(ji6) then (if (ji6)<(l0.length:Int) then ((cell_Compare.f k1 ((rd_T26 l0 (ji6)).f0) ((rd_T26 l0 (ji6)).f1) ((rd_T26 l0 (ji6)).f2) ((rd_T26 l0 (ji6)).f3) ((rd_T26 l0 (ji6)).f4) a1_0 a1_1 a1_2 a1_3 a1_4).bind fun t488=>(if t488<0 then (api_Cell_34.l0 k1 l0 (l0.length:Int) (wrap64 ((ji6)+1)) x10_1 a1_0 a1_1 a1_2 a1_3 a1_4) else (api_Cell_34.l0 k1 l0 (l0.length:Int) x9_1 ji6 a1_0 a1_1 a1_2 a1_3 a1_4))) else (none)) else (none))=some (r1,r2):=by first | (rw [hji6] at H;exact H) | (simp only [hji6] at H ⊢;exact H)
    have hji6w:(IntKind.i64.wrap ((IntKind.u64.wrap (wrap64 (x9_1+x10_1))) / 2))=ji6:=(i64_w _).trans hji6
    by_cases c7:0≤(ji6)
    ·
     rw [if_pos c7] at H;have c7b0:decide (0≤(ji6))=true:=decide_eq_true c7;clear c7
     by_cases c8:(ji6)<(l0.length:Int)
     ·
      rw [if_pos c8] at H;have c8b0:decide ((ji6)<(l0.length:Int))=true:=decide_eq_true c8;clear c8;replace H:=obm H;obtain ⟨t488,A90,H⟩:=H;have A9:=aS A90;clear A90
      by_cases c10:t488<0
      ·
       rw [if_pos c10] at H;have c10b0:decide (t488<0)=true:=decide_eq_true c10;clear c10
       have H':=aS H
       clear H
       try go_wp2
       replace BK486:=aS (blk_drew BK486.out);replace HB:=aS (bdo HB.out);have p487:0≤((ji6):Int):=oda;have q487:(ji6)<(l0.length:Int):=oda;obtain ⟨ad487,e487,hx487_0,hx487_1,hx487_2,hx487_3,hx487_4⟩:=at_T26 HR0.out (ji6) p487 q487;have hw487_4:=hx487_4;have hw487_3:=hx487_3;have hw487_2:=hx487_2;have hw487_1:=hx487_1;have hw487_0:=hx487_0;cases e487;replace hx487_0:=bx bel hx487_0;replace hx487_1:=bx bel hx487_1;replace hx487_2:=bx bel hx487_2;replace hx487_3:=bx bel hx487_3;replace hx487_4:=bx bel hx487_4;replace p487:=eq_true p487;replace q487:=eq_true q487;refine start_ (n:=8) (S:=fun w'=>w'.cell? ⟨gb486,0,none⟩=some (.string a1_0)∧w'.cell? ⟨gb486,1,none⟩=some (.string a1_1)∧w'.cell? ⟨gb486,2,none⟩=some (.int .i64 a1_2)∧w'.cell? ⟨gb486,3,none⟩=some (.string a1_3)∧w'.cell? ⟨gb486,4,none⟩=some (.bool a1_4)∧w'.cell? (ad487.add (((ji6)).toNat*5))=some (.string ((rd_T26 l0 (ji6)).f0))∧w'.cell? ⟨(ad487.add (((ji6)).toNat*5)).block,(ad487.add (((ji6)).toNat*5)).off+1,none⟩=some (.string ((rd_T26 l0 (ji6)).f1))∧w'.cell? ⟨(ad487.add (((ji6)).toNat*5)).block,(ad487.add (((ji6)).toNat*5)).off+2,none⟩=some (.int .i64 ((rd_T26 l0 (ji6)).f2))∧w'.cell? ⟨(ad487.add (((ji6)).toNat*5)).block,(ad487.add (((ji6)).toNat*5)).off+3,none⟩=some (.string ((rd_T26 l0 (ji6)).f3))∧w'.cell? ⟨(ad487.add (((ji6)).toNat*5)).block,(ad487.add (((ji6)).toNat*5)).off+4,none⟩=some (.bool ((rd_T26 l0 (ji6)).f4))) (ds:=[]) (bA 8 0) (by kernel_rfl) rfl rfl ⟨bc BK486 0,bc BK486 1,bc BK486 2,bc BK486 3,bc BK486 4,(bx bel hw487_0),(bx bel hw487_1),(bx bel hw487_2),(bx bel hw487_3),(bx bel hw487_4)⟩ (fun hHeld=>?_);refine with_tabW api_Cell_34.tab5 api_Cell_34.bits5 (fun HT_ HW_=>?_)
       generalize wr.drew=w11 at BK486 HB hx487_0 hx487_1 hx487_2 hx487_3 hx487_4 hHeld ⊢
       refine along_ [(0,24),(1,25),(2,26),(3,27),(4,28),(5,29)] ?_
       iterate 6 (first | (refine pure3 HT_ ?_) | (refine take3 HT_ HW_ hHeld ?_))
       refine lay_ (bA 8 63) (by kernel_rfl) ?_;refine one3 6 (N:=some 30) (bA 8 127) HT_ (fun K hK=>?_);refine Kd.goesV_ Try.func35 (by kernel_rfl) rfl #[.agg #[.string ((rd_T26 l0 (ji6)).f0),.string ((rd_T26 l0 (ji6)).f1),.int .i64 ((rd_T26 l0 (ji6)).f2),.string ((rd_T26 l0 (ji6)).f3),.bool ((rd_T26 l0 (ji6)).f4)],.agg #[.string a1_0,.string a1_1,.int .i64 a1_2,.string a1_3,.bool a1_4]] (by rfl) rfl rfl rfl (by (try simp only [List.map_toArray,List.map_cons,List.map_nil]);first | done | (simp only [hji6];rfl) | rfl | (simp only [lld,llt];rfl)) ?_
       with_reducible refine (cell_Compare.calls k1 ((rd_T26 l0 (ji6)).f0) ((rd_T26 l0 (ji6)).f1) ((rd_T26 l0 (ji6)).f2) ((rd_T26 l0 (ji6)).f3) ((rd_T26 l0 (ji6)).f4) a1_0 a1_1 a1_2 a1_3 a1_4 t488 _ A9.out).mono ?_
       rintro e w12 ⟨rfl,hb⟩
       refine ⟨_,rfl,?_⟩;replace BK486:=bbl BK486 hb;replace HB:=bstep hb;(try clear hb);(try clear hk);(try clear hi);refine hK.out _ _ ⟨bc BK486 0,bc BK486 1,bc BK486 2,bc BK486 3,bc BK486 4,(bx bel hw487_0),(bx bel hw487_1),(bx bel hw487_2),(bx bel hw487_3),(bx bel hw487_4)⟩ (fun hHeld=>?_);clear hK K;refine nm 30 ?_;refine pure_ (i:=7) (N:=some 31) (v:=?_) (a':=?_) (bA 8 255) rfl rfl (any_of HT_.out (by kernel_rfl)) (fun _ _ _ h=>h) (Or.inl ⟨by rfl,?_⟩) ?_ ?_
       rotate_left
       ·
        intro w'
        go_simp
        with_reducible rfl
       rotate_left
       ·
        simp only [Act.put,lsa,lsz,lss,i64_w,i32_w]
        rfl
       refine done_ (done_of HT_.out (by kernel_rfl)) ?_
       try go_wp2
       go_roundg k1
       case measure=>have:=HK1.out;omega
       case rel=>exact ⟨(wrap64 ((ji6)+1)),(x10_1),(by first | rfl | (simp;done) | (simp only [←hji6]<;>(first | rfl | simp)) | (simp [*];done)),srf,H',⟨by have:=HK1.out;omega⟩,⟨bkl BK486.out⟩,⟨bel⟩⟩
      ·
       rw [if_neg c10] at H;have c10b0:decide (t488<0)=false:=decide_eq_false c10;clear c10
       have H':=aS H
       clear H
       try go_wp2
       replace BK486:=aS (blk_drew BK486.out);replace HB:=aS (bdo HB.out);have p487:0≤((ji6):Int):=oda;have q487:(ji6)<(l0.length:Int):=oda;obtain ⟨ad487,e487,hx487_0,hx487_1,hx487_2,hx487_3,hx487_4⟩:=at_T26 HR0.out (ji6) p487 q487;have hw487_4:=hx487_4;have hw487_3:=hx487_3;have hw487_2:=hx487_2;have hw487_1:=hx487_1;have hw487_0:=hx487_0;cases e487;replace hx487_0:=bx bel hx487_0;replace hx487_1:=bx bel hx487_1;replace hx487_2:=bx bel hx487_2;replace hx487_3:=bx bel hx487_3;replace hx487_4:=bx bel hx487_4;replace p487:=eq_true p487;replace q487:=eq_true q487;refine start_ (n:=8) (S:=fun w'=>w'.cell? ⟨gb486,0,none⟩=some (.string a1_0)∧w'.cell? ⟨gb486,1,none⟩=some (.string a1_1)∧w'.cell? ⟨gb486,2,none⟩=some (.int .i64 a1_2)∧w'.cell? ⟨gb486,3,none⟩=some (.string a1_3)∧w'.cell? ⟨gb486,4,none⟩=some (.bool a1_4)∧w'.cell? (ad487.add (((ji6)).toNat*5))=some (.string ((rd_T26 l0 (ji6)).f0))∧w'.cell? ⟨(ad487.add (((ji6)).toNat*5)).block,(ad487.add (((ji6)).toNat*5)).off+1,none⟩=some (.string ((rd_T26 l0 (ji6)).f1))∧w'.cell? ⟨(ad487.add (((ji6)).toNat*5)).block,(ad487.add (((ji6)).toNat*5)).off+2,none⟩=some (.int .i64 ((rd_T26 l0 (ji6)).f2))∧w'.cell? ⟨(ad487.add (((ji6)).toNat*5)).block,(ad487.add (((ji6)).toNat*5)).off+3,none⟩=some (.string ((rd_T26 l0 (ji6)).f3))∧w'.cell? ⟨(ad487.add (((ji6)).toNat*5)).block,(ad487.add (((ji6)).toNat*5)).off+4,none⟩=some (.bool ((rd_T26 l0 (ji6)).f4))) (ds:=[]) (bA 8 0) (by kernel_rfl) rfl rfl ⟨bc BK486 0,bc BK486 1,bc BK486 2,bc BK486 3,bc BK486 4,(bx bel hw487_0),(bx bel hw487_1),(bx bel hw487_2),(bx bel hw487_3),(bx bel hw487_4)⟩ (fun hHeld=>?_);refine with_tabW api_Cell_34.tab5 api_Cell_34.bits5 (fun HT_ HW_=>?_)
       generalize wr.drew=w13 at BK486 HB hx487_0 hx487_1 hx487_2 hx487_3 hx487_4 hHeld ⊢
       refine along_ [(0,24),(1,25),(2,26),(3,27),(4,28),(5,29)] ?_
       iterate 6 (first | (refine pure3 HT_ ?_) | (refine take3 HT_ HW_ hHeld ?_))
       refine lay_ (bA 8 63) (by kernel_rfl) ?_;refine one3 6 (N:=some 30) (bA 8 127) HT_ (fun K hK=>?_);refine Kd.goesV_ Try.func35 (by kernel_rfl) rfl #[.agg #[.string ((rd_T26 l0 (ji6)).f0),.string ((rd_T26 l0 (ji6)).f1),.int .i64 ((rd_T26 l0 (ji6)).f2),.string ((rd_T26 l0 (ji6)).f3),.bool ((rd_T26 l0 (ji6)).f4)],.agg #[.string a1_0,.string a1_1,.int .i64 a1_2,.string a1_3,.bool a1_4]] (by rfl) rfl rfl rfl (by (try simp only [List.map_toArray,List.map_cons,List.map_nil]);first | done | (simp only [hji6];rfl) | rfl | (simp only [lld,llt];rfl)) ?_
       with_reducible refine (cell_Compare.calls k1 ((rd_T26 l0 (ji6)).f0) ((rd_T26 l0 (ji6)).f1) ((rd_T26 l0 (ji6)).f2) ((rd_T26 l0 (ji6)).f3) ((rd_T26 l0 (ji6)).f4) a1_0 a1_1 a1_2 a1_3 a1_4 t488 _ A9.out).mono ?_
       rintro e w14 ⟨rfl,hb⟩
       refine ⟨_,rfl,?_⟩;replace BK486:=bbl BK486 hb;replace HB:=bstep hb;(try clear hb);(try clear hk);(try clear hi);refine hK.out _ _ ⟨bc BK486 0,bc BK486 1,bc BK486 2,bc BK486 3,bc BK486 4,(bx bel hw487_0),(bx bel hw487_1),(bx bel hw487_2),(bx bel hw487_3),(bx bel hw487_4)⟩ (fun hHeld=>?_);clear hK K;refine nm 30 ?_;refine pure_ (i:=7) (N:=some 31) (v:=?_) (a':=?_) (bA 8 255) rfl rfl (any_of HT_.out (by kernel_rfl)) (fun _ _ _ h=>h) (Or.inl ⟨by rfl,?_⟩) ?_ ?_
       rotate_left
       ·
        intro w'
        go_simp
        with_reducible rfl
       rotate_left
       ·
        simp only [Act.put,lsa,lsz,lss,i64_w,i32_w]
        rfl
       refine done_ (done_of HT_.out (by kernel_rfl)) ?_
       try go_wp2
       go_roundg k1
       case measure=>have:=HK1.out;omega
       case rel=>exact ⟨(x9_1),(ji6),srf,(by first | rfl | (simp;done) | (simp only [←hji6]<;>(first | rfl | simp)) | (simp [*];done)),H',⟨by have:=HK1.out;omega⟩,⟨bkl BK486.out⟩,⟨bel⟩⟩
     ·
      rw [if_neg c8] at H;exact absurd H (by simp)
    ·
     rw [if_neg c7] at H;exact absurd H (by simp)
   ·
    rw [if_neg c5] at H;have c5b0:decide (x9_1<x10_1)=false:=decide_eq_false c5;clear c5
    by_cases c15:x9_1<(l0.length:Int)
    ·
     rw [if_pos c15] at H;have c15b0:decide (x9_1<(l0.length:Int))=true:=decide_eq_true c15;clear c15
     by_cases c16:0≤x9_1
     ·
      rw [if_pos c16] at H;have c16b0:decide (0≤x9_1)=true:=decide_eq_true c16;clear c16
      by_cases c17:x9_1<(l0.length:Int)
      ·
       rw [if_pos c17] at H;have c17b0:decide (x9_1<(l0.length:Int))=true:=decide_eq_true c17;clear c17;replace H:=obm H;obtain ⟨t490,A180,H⟩:=H;have A18:=aS A180;clear A180
       simp only [Option.some.injEq,Prod.mk.injEq] at H
       obtain ⟨rfl,rfl⟩:=H
       try go_wp2
       replace BK486:=aS (blk_drew BK486.out);replace HB:=aS (bdo HB.out);have p489:0≤(x9_1:Int):=oda;have q489:x9_1<(l0.length:Int):=oda;obtain ⟨ad489,e489,hx489_0,hx489_1,hx489_2,hx489_3,hx489_4⟩:=at_T26 HR0.out x9_1 p489 q489;have hw489_4:=hx489_4;have hw489_3:=hx489_3;have hw489_2:=hx489_2;have hw489_1:=hx489_1;have hw489_0:=hx489_0;cases e489;replace hx489_0:=bx bel hx489_0;replace hx489_1:=bx bel hx489_1;replace hx489_2:=bx bel hx489_2;replace hx489_3:=bx bel hx489_3;replace hx489_4:=bx bel hx489_4;replace p489:=eq_true p489;replace q489:=eq_true q489;refine start_ (n:=16) (S:=fun w'=>w'.cell? ⟨gb486,0,none⟩=some (.string a1_0)∧w'.cell? ⟨gb486,1,none⟩=some (.string a1_1)∧w'.cell? ⟨gb486,2,none⟩=some (.int .i64 a1_2)∧w'.cell? ⟨gb486,3,none⟩=some (.string a1_3)∧w'.cell? ⟨gb486,4,none⟩=some (.bool a1_4)∧w'.cell? (ad489.add ((x9_1).toNat*5))=some (.string ((rd_T26 l0 x9_1).f0))∧w'.cell? ⟨(ad489.add ((x9_1).toNat*5)).block,(ad489.add ((x9_1).toNat*5)).off+1,none⟩=some (.string ((rd_T26 l0 x9_1).f1))∧w'.cell? ⟨(ad489.add ((x9_1).toNat*5)).block,(ad489.add ((x9_1).toNat*5)).off+2,none⟩=some (.int .i64 ((rd_T26 l0 x9_1).f2))∧w'.cell? ⟨(ad489.add ((x9_1).toNat*5)).block,(ad489.add ((x9_1).toNat*5)).off+3,none⟩=some (.string ((rd_T26 l0 x9_1).f3))∧w'.cell? ⟨(ad489.add ((x9_1).toNat*5)).block,(ad489.add ((x9_1).toNat*5)).off+4,none⟩=some (.bool ((rd_T26 l0 x9_1).f4))) (ds:=[]) (bA 16 0) (by kernel_rfl) rfl rfl ⟨bc BK486 0,bc BK486 1,bc BK486 2,bc BK486 3,bc BK486 4,(bx bel hw489_0),(bx bel hw489_1),(bx bel hw489_2),(bx bel hw489_3),(bx bel hw489_4)⟩ (fun hHeld=>?_);refine with_tabW api_Cell_34.tab8 api_Cell_34.bits8 (fun HT_ HW_=>?_)
       generalize wr.drew=w19 at BK486 HB hx489_0 hx489_1 hx489_2 hx489_3 hx489_4 hHeld ⊢
       refine along_ [(0,35),(1,36),(2,37),(3,38),(4,39),(5,40),(6,41),(7,42),(8,43),(9,44),(10,45)] ?_
       iterate 11 (first | (refine pure3 HT_ ?_) | (refine take3 HT_ HW_ hHeld ?_))
       refine lay_ (bA 16 2047) (by kernel_rfl) ?_;refine one3 11 (N:=some 46) (bA 16 4095) HT_ (fun K hK=>?_);refine Kd.goesV_ Try.func35 (by kernel_rfl) rfl #[.agg #[.string ((rd_T26 l0 x9_1).f0),.string ((rd_T26 l0 x9_1).f1),.int .i64 ((rd_T26 l0 x9_1).f2),.string ((rd_T26 l0 x9_1).f3),.bool ((rd_T26 l0 x9_1).f4)],.agg #[.string a1_0,.string a1_1,.int .i64 a1_2,.string a1_3,.bool a1_4]] (by rfl) rfl rfl rfl agn ?_
       with_reducible refine (cell_Compare.calls k1 ((rd_T26 l0 x9_1).f0) ((rd_T26 l0 x9_1).f1) ((rd_T26 l0 x9_1).f2) ((rd_T26 l0 x9_1).f3) ((rd_T26 l0 x9_1).f4) a1_0 a1_1 a1_2 a1_3 a1_4 t490 _ A18.out).mono ?_
       rintro e w20 ⟨rfl,hb⟩
       refine ⟨_,rfl,?_⟩;replace BK486:=bbl BK486 hb;replace HB:=bstep hb;(try clear hb);(try clear hk);(try clear hi);refine hK.out _ _ ⟨bc BK486 0,bc BK486 1,bc BK486 2,bc BK486 3,bc BK486 4,(bx bel hw489_0),(bx bel hw489_1),(bx bel hw489_2),(bx bel hw489_3),(bx bel hw489_4)⟩ (fun hHeld=>?_);clear hK K;refine nm 46 ?_;refine along_ [(12,47),(13,48),(14,6),(15,7)] ?_
       iterate 4 (refine pure3 HT_ ?_)
       refine lay_ (bA 16 65535) (by kernel_rfl) ?_;refine done_ (done_of HT_.out (by kernel_rfl)) ?_
       try go_wp2
       go_ret2
       exact ⟨rf3,bel⟩
      ·
       rw [if_neg c17] at H;exact absurd H (by simp)
     ·
      rw [if_neg c16] at H;exact absurd H (by simp)
    ·
     rw [if_neg c15] at H;have c15b0:decide (x9_1<(l0.length:Int))=false:=decide_eq_false c15;clear c15
     simp only [Option.some.injEq,Prod.mk.injEq] at H
     obtain ⟨rfl,rfl⟩:=H
     try go_wp2
     replace BK486:=aS (blk_drew BK486.out);replace HB:=aS (bdo HB.out);refine start_ (n:=16) (S:=fun w'=>True) (ds:=[]) (bA 16 0) (by kernel_rfl) rfl rfl trivial (fun hHeld=>?_);refine with_tabW api_Cell_34.tab8 api_Cell_34.bits8 (fun HT_ HW_=>?_)
     generalize wr.drew=w21 at BK486 HB hHeld ⊢
     refine along_ [(0,35),(1,36),(2,37),(3,38),(4,39),(5,40),(6,41),(7,42),(8,43),(9,44),(10,45),(11,46),(12,47),(13,48),(14,6),(15,7)] ?_
     iterate 16 (first | (refine skip3 HT_ ?_) | (refine pure3 HT_ ?_))
     refine lay_ (bA 16 65535) (by kernel_rfl) ?_;refine done_ (done_of HT_.out (by kernel_rfl)) ?_
     try go_wp2
     go_ret2
     exact ⟨rf3,bel⟩
end Go.Proofs.Ytcbhfedcdnjljaa.X

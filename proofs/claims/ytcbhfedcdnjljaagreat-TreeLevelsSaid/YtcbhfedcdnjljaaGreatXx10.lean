import Derived.Test.YtcbhfedcdnjljaaGreatXx9
set_option maxHeartbeats 8000000
set_option maxRecDepth 100000
set_option linter.unusedVariables false
set_option linter.unusedSimpArgs false
namespace Go.Proofs.YtcbhfedcdnjljaaGreat.X
open Go.RowKit Go.Proofs.YtcbhfedcdnjljaaGreatW.PrintWords Go.Proofs.YtcbhfedcdnjljaaGreatW.PrintLast Go.Proofs.YtcbhfedcdnjljaaGreatW.PrintMore
attribute [local go_sem] gZ g_ iW iZ gF gD ic ig iX
def bK.gl (ls:List (List (List av × List (List av) × List Int))) (i:Nat):List (List (List av × List (List av) × List Int)):=if i+1=ls.length then ls++[[]] else ls
def bK.f (k:Nat) (s2:Int) (ls:List (List (List av × List (List av) × List Int))) (i:Nat):Option (List (List (List av × List (List av) × List Int))):=
 if ls.length<1099511627776∧((bK.gl ls i).getD i []).length+((bK.gl ls i).getD (i+1) []).length<1099511627776 then (cA.l1 ((bK.gl ls i).getD i []++(bK.gl ls i).getD (i+1) []) []).bind fun q=>(fQ.f k q).bind fun c=>(eJ.f k c s2).bind fun t=>some (((bK.gl ls i).set i []).set (i+1) [t]) else none
theorem bK.mono:∀ a0 a1 a2 k,aE (bK.f k a0 a1 a2) (bK.f (k+1) a0 a1 a2):=fun _ _ _ _=>aE.ite (aE.bind (aE.refl _) fun _=>aE.bind (fQ.mono _ _) fun _=>aE.bind (eJ.mono _ _ _) fun _=>aE.refl _) (aE.refl _)
theorem bK.calls (k g base:Nat) (ok:Nat→Prop) (s1 s2 s3:Int) (xs:List av) (n:Int) (ls r:List (List (List av × List (List av) × List Int))) (i:Nat) (w:World) (hA:aq.At w base ok g s1 s2 s3 xs n ls) (hi:i<ls.length) (h:bK.f k s2 ls i=some r) :
  Calls Tryz.prog 34 #[.pointer (some ⟨g,0,none⟩),.int .i64 (i:Int)] w fun e w'=>e = .returned (.tuple #[])∧aq.At w' base (fun k=>ok k∨w.heap.size≤k) g s1 s2 s3 xs n r∧aq.fG w w' ok:=by
 have hu30:=Tryz.underlying27;have hu51:=Tryz.underlying61;have hu23:=Tryz.underlying23;have hu49:=Tryz.underlying59;have hu53:=Tryz.underlying64;have hu24:=Tryz.underlying32;have hu61:=Tryz.underlying73;have hu75:=Tryz.underlying86
 have hsz53:(Tryz.prog.info? 64).map (·.size)=some 1:=by
  obtain ⟨i0,hi0,hz⟩:=Option.map_eq_some_iff.1 mQ
  simp only [Prod.mk.injEq] at hz
  rw [hi0];simp [hz.2.1]
 obtain ⟨gm,vm,vl,vs,hA⟩:=hA;have HA:=aS hA;clear hA;have HI:=aS hi
 unfold bK.f at h
 by_cases hg:ls.length<1099511627776∧((bK.gl ls i).getD i []).length+((bK.gl ls i).getD (i+1) []).length<1099511627776
 case neg=>rw [if_neg hg] at h;cases h
 rw [if_pos hg] at h;replace h:=bV h;obtain ⟨q,x1,h⟩:=h;replace h:=bV h;obtain ⟨c,x2,h⟩:=h;replace h:=bV h;obtain ⟨t,x3,h⟩:=h
 obtain hr:=Option.some.inj h
 have X1:=aS x1;have X2:=aS x2;have X3:=aS x3;have HR:=aS hr;have HG:=aS hg;clear x1 x2 x3 h hr hg hi;obtain ⟨A,cl,rfl,hcl,hmx,hat⟩:=HA.out.at;have HL:=aS HA.out.len;clear hat hmx;have q0:=cR (aS HA.out.cY);have HGE:ak (base≤w.heap.size):=aS (Nat.le_trans HA.out.ge (Nat.le_of_lt (dg HA.out.cY)));have HLV:ak (vs.length<1099511627776):=aS (by rw [HL.out];exact HG.out.1)
 have hw1:wrap64 ((i:Int)+1)=(i:Int)+1:=by rw [←bC,IntKind.wrap_i64];have:=HI.out;have:=HG.out.1;omega
 go_enter Tryz.func34,Tryz.ntmps34
 refine wp_seq_k (fun K_ hK_=>?_)
 go_cut [] (fun wc=>∃ (vl1:Value) (vs1:List Value),ak (aq.eI wc base (fun k=>ok k∨w.heap.size≤k) g gm vm vl1 vs1 vs1 s1 s2 s3 xs n (bK.gl ls i))∧ak (aq.fG w wc ok))
 case first=>
  by_cases he:i+1=ls.length
  ·
   have he':(i:Int)+1=(vs.length:Int):=by rw [HL.out,← he];rfl
   obtain ⟨he1,he2⟩:=jE he';have HE:=aS he;clear he he'
   go_wp2_with (first | (at_builtin;refine Kd.gC aq.vv (w0:=w) base rfl _ _ 59 64 _ _ rfl hu49 mQ rfl (by decide) (by decide) (.slice A vs.length cl) vs (.slice none 0 0) [.slice none 0 0] (fun k=>ok k∨w.heap.size≤k) (fun _=>False) rfl rfl ⟨rfl,rfl⟩ (fun _ hk=>hk.elim) (fun k hk=>.inr hk) (Kd.aH HA.out.out (fun _ hk=>.inl hk)) (Below.refl _ _) HGE.out (by have:=HLV.out;clear hw1;omega) ?_;intro v21 w2 ho hb hg hat;obtain ⟨A1,c1,e1_⟩:=Kd.bq ho;rw [show (vs++[(.slice none 0 0:Value)]).length=vs.length+1 from by simp] at e1_;subst e1_;have HO2:=aS ho;have HG2:=aS hg;have HB2:ak (w2.heap[g]? = some (.cells #[.int .i64 s1,.int .i64 s2,.int .i64 s3,.pointer (some ⟨gm,0,none⟩),.slice A vs.length cl] 61 (0,0))):=aS ((hg.block g (dg HA.out.cY) (aq.mU HA.out.cY (Kd.gn HA.out.out) (by decide))).trans HA.out.cY);clear ho hb hg hat q0;have q0:=cR HB2))
   have HF:ak (aq.eI (w2.setCell ⟨g,4,none⟩ (.slice A1 (vs.length+1) c1)) base (fun k=>ok k∨w.heap.size≤k) g gm vm (.slice A1 (vs.length+1) c1) (vs++[.slice none 0 0]) (vs++[.slice none 0 0]) s1 s2 s3 xs n (bK.gl ls i)):=aS (by unfold bK.gl;rw [if_pos HE.out];exact HA.out.snoc HO2.out HG2.out (fun _ hk=>.inl hk));have HC:ak (aq.fG w (w2.setCell ⟨g,4,none⟩ (.slice A1 (vs.length+1) c1)) ok):=aS ((aq.fG.grown HG2.out (fun k hk=>HA.out.out.1 k hk)).trans (aq.fG.set w2 g 4 _ HA.out.okg) (fun _ hk _=>hk))
   go_meet
   case rel=>exact ⟨_,_,HF,HC⟩
  ·
   have he':(i:Int)+1≠(vs.length:Int):=by rw [HL.out];omega
   obtain ⟨he1,he2⟩:=ju he';have HE:=aS he;clear he he'
   go_wp2
   go_meet
   case rel=>exact ⟨_,vs,⟨by unfold bK.gl;rw [if_neg HE.out];exact HA.out.mono (fun _ hk=>.inl hk)⟩,⟨aq.fG.refl _ _⟩⟩
 case rest=>
  clear q0 HA;obtain ⟨vl1,vs1,HA,HC⟩:=hcut
  obtain ⟨l1,hl1⟩:∃ x,x=bK.gl ls i:=⟨_,rfl⟩
  rw [←hl1] at HA HG HR X1
  have hi1:i+1<l1.length:=by
   rw [hl1]
   unfold bK.gl
   by_cases e:i+1=ls.length
   ·
    rw [if_pos e,List.length_append,List.length_singleton];omega
   ·
    rw [if_neg e];have:=HI.out;omega
  have hL1:=HA.out.len;obtain ⟨go,cl1,rfl,_,_,_⟩:=Kd.kp HA.out.out (by omega);have HI1:ak (i+1<vs1.length):=aS (by rw [hL1];exact hi1);have HM1:ak (vs1.length≤9223372036854775807):=aS (by obtain ⟨_,_,e,_,hm,_⟩:=HA.out.at;exact hm)
  have HAT:ak (∀ W:World,(∀ k,(fun k=>ok k∨w.heap.size≤k) k→k<wc.heap.size→W.heap[k]? = wc.heap[k]?)→∀ j,j<vs1.length→W.cell? ⟨go,j,none⟩=some (vs1.getD j (.slice none 0 0))):=aS (fun W hW j hj=>by
   obtain ⟨A',c',e',_,_,hat⟩:=HA.out.at
   cases e'
   obtain ⟨ad,e2,hx⟩:=hat W hW j hj;cases e2
   rwa [aq.Cd] at hx)
  obtain ⟨Ai,ci,ei,hli,hCi⟩:=HA.out.cells i (by have:=HI1.out;omega);obtain ⟨Aj,cj,ej,hlj,hCj⟩:=HA.out.cells (i+1) HI1.out;have hri:=HA.out.rs.rows i (by have:=HI1.out;omega);have hrj:=HA.out.rs.rows (i+1) HI1.out
  obtain ⟨li,hli_⟩:∃ x,x=l1.getD i []:=⟨_,rfl⟩
  obtain ⟨lj,hlj_⟩:∃ x,x=l1.getD (i+1) []:=⟨_,rfl⟩
  have EI:=aS ei;have EJ:=aS ej;rw [←hli_,← hlj_] at X1 HG;rw [←hli_] at EI hri;rw [←hlj_] at EJ hrj;have hrj2:=aq.yI hrj (Kd.gn hri) EJ.out;rw [EI.out] at hri hrj2;have HRI:=aS hri;have HRJ:=aS hrj2;clear hri hrj hrj2
  have hix0:∀ j:Nat,j<vs1.length→∀ W:World,(Instr.indexAt 59 (.slice (some ⟨go,0,none⟩) vs1.length cl1) (.int .i64 (j:Int))).run Tryz.prog W = .ok (.pointer (some ⟨go,j,none⟩)) W:=fun j hj W=>by
   obtain ⟨i0,hi0,hz⟩:=Option.map_eq_some_iff.1 mQ
   simp only [Prod.mk.injEq] at hz
   have h1:=gH 59 64 hu49 hi0 1 hz.2.1 ⟨go,0,none⟩ vs1.length cl1 (j:Int) (by omega) (by omega) W
   rwa [Nat.mul_one,Int.toNat_natCast,aq.Cd] at h1
  have hix:=hix0 i (by have:=HI1.out;omega)
  have hiy:∀ W:World,(Instr.indexAt 59 (.slice (some ⟨go,0,none⟩) vs1.length cl1) (.int .i64 ((i:Int)+1))).run Tryz.prog W = .ok (.pointer (some ⟨go,i+1,none⟩)) W:=hix0 (i+1) HI1.out
  have hq0:(i:Int)<(vs1.length:Int):=by have:=HI1.out;omega
  have hq1:(i:Int)+1<(vs1.length:Int):=by have:=HI1.out;omega
  have hq2:(0:Int)≤(i:Int)+1:=by omega
  have HGE1:=aS (Nat.le_trans HGE.out HC.out.size);clear hl1 hi1 hL1 hli hCi hlj hCj ei ej hli_ hlj_ hix0
  go_upto_region 3 with (fail)
  refine dz (n:=18) (ds:=[]) (S:=fun w'=>w'.cell? ⟨g,4,none⟩=some (.slice (some ⟨go,0,none⟩) vs1.length cl1)∧w'.cell? ⟨go,i,none⟩=some (.slice Ai li.length ci)∧w'.cell? ⟨go,i+1,none⟩=some (.slice Aj lj.length cj)) (bA 18 0) (by kernel_rfl) rfl rfl ⟨(aG (au HA.out.cY) 4).trans rfl,(HAT.out _ (fun k _ hk=>(bN (Below.refl _ _)).block k hk) i (by have:=HI1.out;omega)).trans (congrArg some EI.out),(HAT.out _ (fun k _ hk=>(bN (Below.refl _ _)).block k hk) (i+1) HI1.out).trans (congrArg some EJ.out)⟩ (fun hHeld=>?_)
  generalize hw_:World.drew _=wd at hHeld ⊢
  have HAd:ak (aq.eI wd base _ g gm vm _ vs1 vs1 s1 s2 s3 xs n l1):=aS (hw_▸HA.out.below (bN (Below.refl _ _)));have HCd:ak (aq.fG w wd ok):=aS (hw_▸HC.out.step (bN (Below.refl _ _)));have HRId:ak (Kd.R aq.mK 86 wd base _ _ li):=aS (hw_▸Kd.dA HRI.out (bN (Below.refl _ _)));have HRJd:ak (fk (fun x cs=>aq.hO wd 0 (fun k=>some k≠(Value.slice Ai li.length ci).ownBlock) x cs) 1 wd Aj lj.length lj):=aS (hw_▸fk.gI HRJ.out (bN (Below.refl _ _)) (fun _ _ h=>h.step (fun k _ hk=>(bN (Below.refl _ _)).block k hk)));clear hw_ HA HC HRI HRJ HAT;refine cH (T:=(true,[([],[]),([0],[0]),([1],[1]),([2],[2]),([],[]),([3,4],[3,4]),([5],[5]),([],[]),([7],[7]),([8],[8]),([9],[9]),([],[]),([11],[11]),([10,12],[10,12]),([13],[13]),([6,14],[6,14]),([15],[15]),([],[])])) (B:=[0,1,3,7,0,31,63,0,128,384,896,0,2048,8064,16256,32767,65535,0]) (by kernel_rfl) (by kernel_rfl) (fun HT_ HW_=>?_);refine aZ [(0,24),(1,25),(2,26),(17,41)] ?_
  iterate 4 (refine cr HT_ ?_)
  refine bX (bA 18 131079) (by kernel_rfl) ?_;refine aZ [(3,27)] ?_
  iterate 1 (refine d_ HT_ HW_ hHeld ?_)
  refine bX (bA 18 131087) (by kernel_rfl) ?_;refine aZ [(4,28),(5,29)] ?_
  iterate 2 (refine cr HT_ ?_)
  refine bX (bA 18 131135) (by kernel_rfl) ?_;refine aZ [(6,30)] ?_
  iterate 1 (refine d_ HT_ HW_ hHeld ?_)
  refine bX (bA 18 131199) (by kernel_rfl) ?_;refine aZ [(7,31),(8,32),(9,33)] ?_
  iterate 3 (refine cr HT_ ?_)
  refine bX (bA 18 132095) (by kernel_rfl) ?_;refine aZ [(10,34)] ?_
  iterate 1 (refine d_ HT_ HW_ hHeld ?_)
  refine bX (bA 18 133119) (by kernel_rfl) ?_;refine aZ [(11,35),(12,36),(13,37)] ?_
  iterate 3 (refine cr HT_ ?_)
  refine bX (bA 18 147455) (by kernel_rfl) ?_;refine aZ [(14,38)] ?_
  iterate 1 (refine d_ HT_ HW_ hHeld ?_)
  refine bX (bA 18 163839) (by kernel_rfl) ?_;refine dJ 15 (N:=some 39) (bA 18 196607) HT_ (fun K hK=>?_);refine Kd.fu aq.mK (w0:=wd) 0 (by rfl) (.tmp 30) (.tmp 38) 64 86 (.pointer none) 8 rfl hu53 qx rfl (by decide) (by decide) (.slice Ai li.length ci) li lj Aj lj.length cj (fun _=>True) (fun k=>some k≠(Value.slice Ai li.length ci).ownBlock) rfl rfl (Kd.aH (Kd.bf HRId.out (Nat.zero_le _)) (fun _ _=>trivial)) HRJd.out (fun _ _ h=>h) (fun _ hk=>⟨trivial,hk⟩) (fun _ _=>trivial) (Below.refl _ _) (Nat.zero_le _) (by have:=HG.out.2;omega) ?_
  intro v39 w3 ho hb hgr hat
  obtain ⟨A9,c9,rfl,_,hC9⟩:=Kd.fT ho;have hlen:(li++lj).length=li.length+lj.length:=List.length_append
  obtain ⟨mm,hmm⟩:∃ mm,mm=li++lj:=⟨_,rfl⟩
  rw [←hmm] at hC9 ho X1 ⊢;have HMM:ak (mm.length<1099511627776):=aS (by rw [hmm,hlen];exact HG.out.2);have HC9:=aS hC9;have HU:ak (aq.eI w3 base (fun k=>ok k∨w.heap.size≤k) g gm vm (.slice (some ⟨go,0,none⟩) vs1.length cl1) vs1 ((vs1.set i (.slice none 0 0)).set (i+1) (.slice none 0 0)) s1 s2 s3 xs n ((l1.set i []).set (i+1) [])):=aS (HAd.out.E0 i HI1.out (by rw [EI.out];exact hgr));have HC3:ak (aq.fG w w3 ok):=aS (HCd.out.trans (aq.fG.grown (ok:=(fun k=>ok k∨w.heap.size≤k)) hgr (fun k hk=>(HRId.out.1 k hk).1)) (fun k hk hlt=>hk.resolve_right (Nat.not_le_of_lt hlt)))
  have SX:ak (∀ j,j<vs1.length→∀ {u:Value},vs1.getD j (.slice none 0 0)=u→w3.cell? ⟨go,j,none⟩=some u):=aS (fun j hj u hu=>by
   obtain ⟨A',c',e',_,_,hat⟩:=HU.out.at
   cases e'
   obtain ⟨ad,e2,hx⟩:=hat w3 (fun _ _ _=>rfl) j hj;cases e2;rw [aq.Cd,hu] at hx
   exact hx)
  clear ho hb hgr hat hlen hmm HAd HCd HRId HRJd hC9;refine hK.out _ _ ⟨(aG HU.out.cY 4).trans rfl,SX.out i (by have:=HI1.out;omega) EI.out,SX.out (i+1) HI1.out EJ.out⟩ (fun hHeld=>?_);clear hK K;refine nm 39 ?_;refine aZ [(16,40)] ?_
  iterate 1 (refine cr HT_ ?_)
  refine bX (bA 18 262143) (by kernel_rfl) ?_;refine dQ (cX HT_.out (by kernel_rfl)) ?_;clear HT_ HW_ hHeld;have HW1:=aS hw1;clear SX hw1
  go_wp2
  go_loopg [4,41] mm.length (fun kq v4 v41 wr=>∃ (j:Nat) (p:List (List av)),v41 = .int .i64 (j:Int)∧ak (kq+j=mm.length)∧ak (cA.l1 (mm.drop j) p=some q)∧ak (Kd.R (Kd.slice 34 cC) 32 wr w3.heap.size (fun _=>True) v4 p)∧ak (Below w3.heap.size w3 wr))
  case atStart=>exact ⟨0,[],rfl,⟨Nat.add_zero _⟩,X1,⟨Kd.dX _ _ _ _ _⟩,⟨Below.refl _ _⟩⟩
  case round=>
   clear X1;obtain ⟨j,p,rfl,hj,HP,HR4,HBr⟩:=hrel
   by_cases hlj:j<mm.length
   ·
    have hj1:(j:Int)<(mm.length:Int):=by omega
    have HK1:ak (gk - 1<gk∧gk - 1+(j+1)=mm.length):=aS (by have:=hj.out;omega);obtain ⟨ad2,gx,e_,hy,hOP⟩:=aq.t5 (Kd.cW HC9.out HBr.out) j hlj;subst e_;have ha:=HP.out;rw [aq.ni mm ([],[],[]) j hlj] at ha
    obtain ⟨x,hx_⟩:∃ x,x=mm.getD j ([],[],[]):=⟨_,rfl⟩
    rw [←hx_] at ha hOP
    unfold cA.l1 at ha
    replace ha:=bV ha;obtain ⟨d,y2,ha⟩:=ha
    by_cases hlim:p.length<2199023255552
    case neg=>rw [if_neg hlim] at ha;cases ha
    rw [if_pos hlim] at ha;have Y2:=aS y2;have HP1:=aS ha;have HOP:=aS hOP;have HLM:ak ((p.length+1)*24≤140737488355328):=aS (by omega)
    have hiz:∀ W:World,(Instr.indexAt 64 (.slice (some ad2) mm.length c9) (.int .i64 (j:Int))).run Tryz.prog W = .ok (.pointer (some (ad2.add j))) W:=by
     obtain ⟨i0,hi0,hz⟩:=Option.map_eq_some_iff.1 qx
     simp only [Prod.mk.injEq] at hz
     intro W
     have h1:=gH 64 86 hu53 hi0 1 hz.2.1 ad2 mm.length c9 (j:Int) (by omega) (by omega) W
     rwa [Nat.mul_one,Int.toNat_natCast] at h1
    have hwj:wrap64 ((j:Int)+1)=(j:Int)+1:=by rw [←bC,IntKind.wrap_i64];have:=HMM.out;omega
    clear y2 ha HP hOP hlim hx_
    go_wp2_with (first | (go_at_call 53;(with_reducible refine (ou.calls gx 0 x.1 x.2.1 x.2.2 d _ HOP.out Y2.out).mono ?_);rintro e_ w5 ⟨v5,rfl,ho,hb⟩;obtain ⟨A5,c5,rfl⟩:=Kd.bq ho;have HD5:=aS (Kd.bf (Kd.cI ho (Kd.cK HR4.out)) HBr.out.size);have HR5:=aS (Kd.dA HR4.out hb);have HB1:=aS (aN HBr.out hb);clear ho hb HR4 HBr) | (at_builtin;refine Kd.gC (Kd.slice 34 cC) (w0:=w3) w3.heap.size rfl _ _ 73 32 _ _ rfl hu61 qd rfl (by decide) (by decide) u4 p d [.slice A5 d.length c5] (fun _=>True) (fun k=>True∧some k≠u4.ownBlock) rfl rfl (Kd.tU HD5.out) (fun _ hk=>hk) (fun _ _=>trivial) HR5.out HB1.out HB1.out.size HLM.out ?_;intro v8 w6 ho hb hg hat;have HR2:=aS ho;have HB2:=aS hb;clear ho hb hg hat HR5 HB1 HD5))
    go_roundg (gk - 1)
    case measure=>exact HK1.out.1
    case rel=>exact ⟨j+1,_,by rw [hwj];rfl,⟨HK1.out.2⟩,HP1,HR2,HB2⟩
   ·
    have hge:¬ ((j:Int)<(mm.length:Int)):=by omega
    have ha:=HP.out;rw [List.drop_eq_nil_of_le (show mm.length≤j by omega)] at ha
    unfold cA.l1 at ha
    have e1:=(Option.some.inj ha).symm;subst e1;obtain ⟨Aq,cq,rfl,hcq,hCq⟩:=Kd.fT HR4.out;have HLQ:=aS hcq;have HCQ:=aS hCq;have HU5:=aS (HU.out.below HBr.out);have HC5:=aS (HC3.out.step HBr.out);clear ha HP hcq hCq HR4 HU HC3 hj;have hw1:=HW1.out
    go_upto_region 8 with (fail)
    refine dz (n:=19) (ds:=[16,18]) (S:=fun w'=>w'.cell? ⟨g,4,none⟩=some (.slice (some ⟨go,0,none⟩) vs1.length cl1)) (bA 19 0) (by kernel_rfl) rfl rfl ((aG (au HU5.out.cY) 4).trans rfl) (fun hHeld=>?_)
    generalize hw_:World.drew _=wd at hHeld ⊢
    have HUd:ak (aq.eI wd base _ g gm vm _ vs1 _ s1 s2 s3 xs n _):=aS (hw_▸HU5.out.below (bN (Below.refl _ _)));have HCd:ak (aq.fG w wd ok):=aS (hw_▸HC5.out.step (bN (Below.refl _ _)));have HCQd:ak (Kd.C (Kd.slice 34 cC) wd Aq q.length q):=aS (hw_▸Kd.nX HCQ.out);clear hw_ HU5 HC5 HCQ;refine cH (T:=(true,[([],[]),([0],[0]),([1],[1]),([2],[2]),([],[]),([],[]),([5],[5]),([6],[6]),([7],[7]),([],[]),([9],[9]),([],[]),([],[]),([12],[12]),([11,13,13],[11,13]),([3,4,0,1,2,3,4,8,13,14],[3,4]),([15,14,0,1,2,3,4,8,13,14],[15]),([8,10,0,1,2,3,4,5,6,7,8,9,10,11,12,13,14,15,16],[8,10]),([17,14,16,0,1,2,3,4,5,6,7,8,9,10,11,12,13,14,15,16],[14,17])])) (B:=[0,1,3,7,0,0,32,96,224,0,512,0,0,4096,14336,31231,63999,131071,262143]) (by kernel_rfl) (by kernel_rfl) (fun HT_ HW_=>?_);refine aZ [(0,51),(1,52),(2,53)] ?_
    iterate 3 (refine cr HT_ ?_)
    refine bX (bA 19 7) (by kernel_rfl) ?_;refine aZ [(3,54)] ?_
    iterate 1 (refine d_ HT_ HW_ hHeld ?_)
    refine bX (bA 19 15) (by kernel_rfl) ?_;refine aZ [(4,55),(5,56),(6,57),(7,58)] ?_
    iterate 4 (refine cr HT_ ?_)
    refine bX (bA 19 255) (by kernel_rfl) ?_;refine aZ [(8,59)] ?_
    iterate 1 (refine d_ HT_ HW_ hHeld ?_)
    refine bX (bA 19 511) (by kernel_rfl) ?_;refine aZ [(9,60),(10,61),(11,62),(12,63)] ?_
    iterate 4 (refine cr HT_ ?_)
    refine bX (bA 19 8191) (by kernel_rfl) ?_;clear hw1;refine dJ 13 (N:=some 64) (bA 19 16383) HT_ (fun K hK=>?_);refine ep Tryz.func40 (by kernel_rfl) rfl #[.slice Aq q.length cq] (by rfl) rfl rfl cD ?_
    with_reducible refine (fQ.calls k Aq cq q c _ HCQd.out HLQ.out X2.out).mono ?_
    rintro e_ w6 ⟨v6,rfl,ho,hb⟩
    refine ⟨_,rfl,?_⟩;obtain ⟨Ac,cc,rfl,hcc,hCc⟩:=Kd.fT ho;have HLC:=aS hcc;have HCC:=aS hCc;have HS6:ak (w.heap.size≤w6.heap.size):=aS (HCd.out.step hb).size;have HS6w:=aS HS6.out;have HU6:=aS (HUd.out.below hb);have HC6:=aS (HCd.out.step hb);clear ho hb hcc hCc HUd HCd HCQd HLQ;refine hK.out _ _ ((aG HU6.out.cY 4).trans rfl) (fun hHeld=>?_);clear hK K;refine nm 64 ?_;refine dJ 14 (N:=some 65) (bA 19 32767) HT_ (fun K hK=>?_);refine ep Tryz.func32 (by kernel_rfl) rfl #[.pointer (some ⟨g,0,none⟩),.slice Ac c.length cc] (by rfl) rfl rfl cD ?_
    with_reducible refine (eJ.calls k g s1 s2 s3 _ _ Ac cc c t _ HU6.out.cY HCC.out HLC.out X3.out).mono ?_
    rintro e_ w7 ⟨v7,rfl,ho,hb⟩
    refine ⟨_,rfl,?_⟩;obtain ⟨At,ct,rfl⟩:=Kd.bq ho
    have HU7:ak (aq.eI w7 base (fun k=>ok k∨w.heap.size≤k) g gm vm (.slice (some ⟨go,0,none⟩) vs1.length cl1) vs1 (((vs1.set i (.slice none 0 0)).set (i+1) (.slice none 0 0)).set (i+1) (.slice At [t].length ct)) s1 s2 s3 xs n (((l1.set i []).set (i+1) []).set (i+1) [t])):=aS ((HU6.out.below hb).tell (i+1) (by rw [List.length_set,List.length_set];exact HI1.out)
     (Kd.aH (Kd.bf (Kd.ew ho) (Nat.le_trans HGE.out HS6.out)) (fun k hk=>⟨.inr (Nat.le_trans HS6w.out hk.2.1),fun e=>by have:=Kd.cK HU6.out.row k e.symm;have:=hk.2.1;omega⟩))
     (fun j hj k hk hk'=>by have:=Kd.cK (HU6.out.rs.rows j hj) k hk;have:=Kd.fF ho k hk';omega))
    have HC7:=aS (HC6.out.step hb);clear ho hb HU6 HC6 HCC HLC HS6 HS6w;refine hK.out _ _ ((aG HU7.out.cY 4).trans rfl) (fun hHeld=>?_);clear hK K;refine nm 65 ?_;refine aZ [(15,66)] ?_
    iterate 1 (refine cr HT_ ?_)
    refine bX (bA 19 65535) (by kernel_rfl) ?_;refine jT (i:=16) (N:=none) (bA 19 131071) rfl rfl (jM HT_.out (by kernel_rfl)) (by decide) (fun K hK=>?_);obtain ⟨hu8,hg8⟩:=HU7.out.put i (by have:=HI1.out;omega) (.slice none 0 0) rfl;obtain ⟨cho,hho⟩:=Kd.gn HU7.out.out go rfl;have hszo:=tZ HU7.out.out hho;refine oB (by rfl) 64 _ _ rfl rfl (by rfl) (.slice none 0 0) (by rfl) [.slice none 0 0] rfl hsz53 hho (by have h5:vs1.length*1≤cho.size:=hszo;have:=HI1.out;show i+1≤cho.size;omega) (by intro q_ hq_;rw [List.mem_singleton.1 hq_];rfl) ?_;have HU8:=aS hu8;have HC8:ak (aq.fG w (w7.setCells go i [.slice none 0 0]) ok):=aS (HC7.out.trans (aq.fG.grown (ok:=(fun k=>ok k∨w.heap.size≤k)) hg8 (fun k hk=>HU7.out.out.1 k hk)) (fun k hk hlt=>hk.resolve_right (Nat.not_le_of_lt hlt)));clear hu8 hg8 hho hszo HU7 HC7
    generalize w7.setCells go i [.slice none 0 0]=w8 at HU8 HC8 ⊢
    refine hK.out _ _ ?_;clear hK K;refine kY (a':=?_) ?_ ?_
    rotate_left
    ·
     show Act.put _ none _=_
     simp only [Act.put,dw,dx,lss,bC,cm]
     rfl
    have hw1:=HW1.out;refine aZ [(17,67)] ?_
    iterate 1 (refine cr HT_ ?_)
    refine bX (bA 19 262143) (by kernel_rfl) ?_;clear hw1;refine jT (i:=18) (N:=none) (bA 19 524287) rfl rfl (jM HT_.out (by kernel_rfl)) (by decide) (fun K hK=>?_);rw [show vs1.length=(vs1.set i (.slice none 0 0)).length from (List.length_set ..).symm] at HU8;obtain ⟨hu8,hg8⟩:=HU8.out.put (i+1) (by rw [List.length_set];exact HI1.out) (.slice At [t].length ct) rfl;obtain ⟨cho,hho⟩:=Kd.gn HU8.out.out go rfl;have hszo:=tZ HU8.out.out hho;refine oB (by rfl) 64 _ _ rfl rfl (by rfl) (.slice At [t].length ct) (by rfl) [.slice At [t].length ct] rfl hsz53 hho (by have h5:(vs1.set i (.slice none 0 0)).length*1≤cho.size:=hszo;have:=HI1.out;show i+1+1≤cho.size;rw [List.length_set] at h5;omega) (by intro q_ hq_;rw [List.mem_singleton.1 hq_];rfl) ?_;have HU9:ak (aq.eI (w8.setCells go (i+1) [.slice At [t].length ct]) base (fun k=>ok k∨w.heap.size≤k) g gm vm _ _ _ s1 s2 s3 xs n _):=aS (by rw [List.set_set,List.set_set] at hu8;exact hu8);have HC9_:ak (aq.fG w (w8.setCells go (i+1) [.slice At [t].length ct]) ok):=aS (HC8.out.trans (aq.fG.grown (ok:=(fun k=>ok k∨w.heap.size≤k)) hg8 (fun k hk=>HU8.out.out.1 k hk)) (fun k hk hlt=>hk.resolve_right (Nat.not_le_of_lt hlt)));clear hu8 hg8 hho hszo HU8 HC8
    generalize w8.setCells go (i+1) [.slice At [t].length ct]=w9 at HU9 HC9_ ⊢
    refine hK.out _ _ ?_;clear hK K;refine dQ (cX HT_.out (by kernel_rfl)) ?_;clear HT_ HW_
    go_end0
    exact ⟨rfl,by rw [←HR.out];exact HU9.out.up,HC9_.out⟩
def aU.lp (k:Nat) (s2 s3:Int):Nat→Nat→List (List (List av × List (List av) × List Int))→Option (List (List (List av × List (List av) × List Int)))
 | 0,_,_=>none
 | m+1,i,ls=>if i<ls.length then (if s3<((ls.getD i []).length:Int) then (bK.f k s2 ls i).bind fun r=>aU.lp k s2 s3 m (i+1) r else aU.lp k s2 s3 m (i+1) ls) else some ls
def aU.gl (ls:List (List (List av × List (List av) × List Int))):List (List (List av × List (List av) × List Int)):=if ls.length=0 then ls++[[]] else ls
def aU.f (k:Nat) (s2 s3:Int) (xs:List av) (n:Int) (ls:List (List (List av × List (List av) × List Int))):Option (List av × Int × List (List (List av × List (List av) × List Int))):=
 if xs.length=0 then some (xs,n,ls) else if ls.length<1099511627776∧((aU.gl ls).getD 0 []).length<1099511627776 then (eW.f xs).bind fun c=>(eJ.f k c s2).bind fun t=>(aU.lp k s2 s3 k 0 ((aU.gl ls).set 0 (t :: (aU.gl ls).getD 0 []))).bind fun r=>some ([],0,r) else none
theorem aU.lQ (k:Nat) (s2 s3:Int):∀ m i ls,aE (aU.lp k s2 s3 m i ls) (aU.lp (k+1) s2 s3 (m+1) i ls)
 | 0,_,_=>aE.none _
 | m+1,i,ls=>aE.ite (aE.ite (aE.bind (bK.mono _ _ _ _) fun _=>aU.lQ k s2 s3 m _ _) (aU.lQ k s2 s3 m _ _)) (aE.refl _)
theorem aU.mono:∀ a0 a1 a2 a3 a4 k,aE (aU.f k a0 a1 a2 a3 a4) (aU.f (k+1) a0 a1 a2 a3 a4):=fun _ _ _ _ _ k=>aE.ite (aE.refl _) (aE.ite (aE.bind (aE.refl _) fun _=>aE.bind (eJ.mono _ _ _) fun _=>aE.bind (aU.lQ k _ _ _ _ _) fun _=>aE.refl _) (aE.refl _))
theorem aU.calls (k g base:Nat) (ok:Nat→Prop) (s1 s2 s3:Int) (xs xs':List av) (n n':Int) (ls r:List (List (List av × List (List av) × List Int))) (w:World) (hA:aq.At w base ok g s1 s2 s3 xs n ls) (h:aU.f k s2 s3 xs n ls=some (xs',n',r)) :
  Calls Tryz.prog 13 #[.pointer (some ⟨g,0,none⟩)] w fun e w'=>e = .returned (.tuple #[])∧aq.At w' base (fun k=>ok k∨w.heap.size≤k) g s1 s2 s3 xs' n' r∧aq.fG w w' ok:=by
 have hu30:=Tryz.underlying27;have hu51:=Tryz.underlying61;have hu23:=Tryz.underlying23;have hu49:=Tryz.underlying59;have hu53:=Tryz.underlying64;have hu24:=Tryz.underlying32;have hu61:=Tryz.underlying73;have hu75:=Tryz.underlying86;have hu47:=Tryz.underlying57
 have hsz53:(Tryz.prog.info? 64).map (·.size)=some 1:=by
  obtain ⟨i0,hi0,hz⟩:=Option.map_eq_some_iff.1 mQ
  simp only [Prod.mk.injEq] at hz
  rw [hi0];simp [hz.2.1]
 obtain ⟨gm,vm,vl,vs,hA⟩:=hA;have HA:=aS hA;clear hA
 unfold aU.f at h
 obtain ⟨A,cl,rfl,hcl,hmx,hat⟩:=HA.out.at;have HL:=aS HA.out.len;clear hat hmx;have HGE:ak (base≤w.heap.size):=aS (Nat.le_trans HA.out.ge (Nat.le_of_lt (dg HA.out.cY)));have q0:=cR (aS HA.out.cY)
 by_cases hz:xs.length=0
 ·
  rw [if_pos hz] at h
  obtain h:=Option.some.inj h
  simp only [Prod.mk.injEq] at h
  obtain ⟨rfl,rfl,rfl⟩:=h;obtain ⟨hz1,hz2⟩:=jE (show (xs.length:Int)=0 by omega);clear hz
  go_enter Tryz.func13,Tryz.ntmps13
  go_wp2_with (first | (go_at_call 31;(with_reducible refine (sK.calls gm base xs n vm _ HA.out.mem).mono ?_);rintro e_ w2 ⟨rfl,hb⟩;have HA1:=aS (HA.out.below hb);have HB1:=aS hb;clear hb q0;have q0:=cR (aS HA1.out.cY)))
  refine bodyPost_ret (results_none rfl _ _ _) rfl ?_;exact ⟨rfl,⟨gm,vm,_,vs,HA1.out.mono (fun _ hk=>.inl hk)⟩,aq.fG.jX HB1.out _⟩
 rw [if_neg hz] at h
 by_cases hg:ls.length<1099511627776∧((aU.gl ls).getD 0 []).length<1099511627776
 case neg=>rw [if_neg hg] at h;cases h
 rw [if_pos hg] at h;replace h:=bV h;obtain ⟨c,x1,h⟩:=h;replace h:=bV h;obtain ⟨t,x2,h⟩:=h;replace h:=bV h;obtain ⟨r',x3,h⟩:=h
 obtain h:=Option.some.inj h
 simp only [Prod.mk.injEq] at h
 obtain ⟨rfl,rfl,rfl⟩:=h;have X1:=aS x1;have X2:=aS x2;have X3:=aS x3;have HG:=aS hg;have HZ:=aS hz;have HLV:ak ((vs.length+1)*24≤140737488355328):=aS (by rw [HL.out];have:=hg.1;omega);clear x1 x2 x3 hg hz
 go_enter Tryz.func13,Tryz.ntmps13
 refine wp_seq_k (fun K_ hK_=>?_)
 go_cut [] (fun wc=>ak (aq.eI wc base ok g gm vm (.slice A vs.length cl) vs vs s1 s2 s3 xs n ls)∧ak (aq.fG w wc ok))
 case first=>
  obtain ⟨hz1,hz2⟩:=ju (show ¬ (xs.length:Int)=0 by have:=HZ.out;omega)
  go_wp2_with (first | (go_at_call 31;(with_reducible refine (sK.calls gm base xs n vm _ HA.out.mem).mono ?_);rintro e_ w2 ⟨rfl,hb⟩;have HA1:=aS (HA.out.below hb);have HB1:=aS hb;clear hb q0;have q0:=cR (aS HA1.out.cY)))
  go_meet
  case rel=>exact ⟨HA1,⟨aq.fG.jX HB1.out _⟩⟩
 clear q0 HA;obtain ⟨HA,HC0⟩:=hcut
 rename World=>w1
 have q0:=cR (aS HA.out.cY);refine hK_ _ _ ?_;refine wp_seq_k (fun K2_ hK2_=>?_)
 go_cut [] (fun wc=>∃ (vl1:Value) (vs1:List Value),ak (aq.eI wc base (fun k=>ok k∨w.heap.size≤k) g gm vm vl1 vs1 vs1 s1 s2 s3 xs n (aU.gl ls))∧ak (aq.fG w wc ok))
 case first=>
  by_cases he:ls.length=0
  ·
   obtain ⟨he1,he2⟩:=jE (show (vs.length:Int)=0 by rw [HL.out,he];rfl);have HE:=aS he;clear he
   go_wp2_with (first | (at_builtin;refine Kd.gC aq.vv (w0:=w1) base rfl _ _ 59 64 _ _ rfl hu49 mQ rfl (by decide) (by decide) (.slice A vs.length cl) vs (.slice none 0 0) [.slice none 0 0] (fun k=>ok k∨w.heap.size≤k) (fun _=>False) rfl rfl ⟨rfl,rfl⟩ (fun _ hk=>hk.elim) (fun k hk=>.inr (Nat.le_trans HC0.out.size hk)) (Kd.aH HA.out.out (fun _ hk=>.inl hk)) (Below.refl _ _) (Nat.le_trans HGE.out HC0.out.size) HLV.out ?_;intro v21 w2 ho hb hg hat;obtain ⟨A1,c1,e1_⟩:=Kd.bq ho;rw [show (vs++[(.slice none 0 0:Value)]).length=vs.length+1 from by simp] at e1_;subst e1_;have HO2:=aS ho;have HG2:=aS hg;have HB2:ak (w2.heap[g]? = some (.cells #[.int .i64 s1,.int .i64 s2,.int .i64 s3,.pointer (some ⟨gm,0,none⟩),.slice A vs.length cl] 61 (0,0))):=aS ((hg.block g (dg HA.out.cY) (aq.mU HA.out.cY (Kd.gn HA.out.out) (by decide))).trans HA.out.cY);clear ho hb hg hat q0;have q0:=cR HB2))
   have HF:ak (aq.eI (w2.setCell ⟨g,4,none⟩ (.slice A1 (vs.length+1) c1)) base (fun k=>ok k∨w.heap.size≤k) g gm vm (.slice A1 (vs.length+1) c1) (vs++[.slice none 0 0]) (vs++[.slice none 0 0]) s1 s2 s3 xs n (aU.gl ls)):=aS (by unfold aU.gl;rw [if_pos HE.out];exact HA.out.snoc HO2.out HG2.out (fun _ hk=>.inl hk));have HC:ak (aq.fG w (w2.setCell ⟨g,4,none⟩ (.slice A1 (vs.length+1) c1)) ok):=aS (HC0.out.trans ((aq.fG.grown HG2.out (fun k hk=>HA.out.out.1 k hk)).trans (aq.fG.set w2 g 4 _ HA.out.okg) (fun _ hk _=>hk)) (fun _ hk _=>hk))
   go_meet
   case rel=>exact ⟨_,_,HF,HC⟩
  ·
   obtain ⟨he1,he2⟩:=ju (show ¬ (vs.length:Int)=0 by rw [HL.out];omega);have HE:=aS he;clear he
   go_wp2
   go_meet
   case rel=>exact ⟨_,vs,⟨by unfold aU.gl;rw [if_neg HE.out];exact HA.out.mono (fun _ hk=>.inl hk)⟩,HC0⟩
 clear q0 HA HC0;obtain ⟨vl1,vs1,HA,HC⟩:=hcut
 rename World=>w4
 obtain ⟨l1,hl1⟩:∃ x,x=aU.gl ls:=⟨_,rfl⟩
 rw [←hl1] at HA HG X3
 have hi1:0<l1.length:=by
  rw [hl1]
  unfold aU.gl
  by_cases e:ls.length=0
  ·
   rw [if_pos e,List.length_append,List.length_singleton];omega
  ·
   rw [if_neg e];omega
 have hL1:=HA.out.len;obtain ⟨go,cl1,rfl,_,_,_⟩:=Kd.kp HA.out.out (by omega);have HI1:ak (0<vs1.length):=aS (by rw [hL1];exact hi1);have HSZ:ak (w.heap.size≤w4.heap.size):=aS HC.out.size;obtain ⟨Ai,ci,ei,hli,hCi⟩:=HA.out.cells 0 HI1.out;have hri:=HA.out.rs.rows 0 HI1.out
 have HX0:ak (w4.cell? ⟨go,0,none⟩=some (vs1.getD 0 (.slice none 0 0))):=aS (by
  obtain ⟨A',c',e',_,_,hat⟩:=HA.out.at
  cases e'
  obtain ⟨ad,e2,hx⟩:=hat w4 (fun _ _ _=>rfl) 0 HI1.out;cases e2
  rwa [aq.Cd] at hx)
 obtain ⟨li,hli_⟩:∃ x,x=l1.getD 0 []:=⟨_,rfl⟩
 have EI:=aS ei;rw [←hli_] at HG hri EI X3;have HRI:=aS hri;have hx0:=HX0.out;rw [EI.out] at hx0;have HX:=aS hx0;have hq1:0<vs1.length:=HI1.out;clear hl1 hi1 hL1 hli hCi ei hli_ hri hx0 HX0
 go_upto_region 3 with (fail)
 refine dz (n:=20) (ds:=[19]) (S:=fun w'=>w'.cell? ⟨g,4,none⟩=some (.slice (some ⟨go,0,none⟩) vs1.length cl1)∧w'.cell? ⟨g,3,none⟩=some (.pointer (some ⟨gm,0,none⟩))∧w'.cell? ⟨go,0,none⟩=some (.slice Ai li.length ci)) (bA 20 0) (by kernel_rfl) rfl rfl ⟨(aG (au HA.out.cY) 4).trans rfl,(aG (au HA.out.cY) 3).trans rfl,HX.out⟩ (fun hHeld=>?_)
 generalize hw_:World.drew _=wd at hHeld ⊢
 have HAd:ak (aq.eI wd base _ g gm vm _ vs1 vs1 s1 s2 s3 xs n l1):=aS (hw_▸HA.out.below (bN (Below.refl _ _)));have HCd:ak (aq.fG w wd ok):=aS (hw_▸HC.out.step (bN (Below.refl _ _)));have HRId:ak (Kd.R aq.mK 86 wd base _ _ li):=aS (hw_▸Kd.dA HRI.out (bN (Below.refl _ _)));have HSd:ak (w4.heap.size≤wd.heap.size):=aS (hw_▸(bN (Below.refl 0 _)).size);have HXd:ak (wd.cell? ⟨go,0,none⟩=some (.slice Ai li.length ci)):=aS (hw_▸HX.out);clear hw_ HA HC HRI HX;refine cH (T:=(true,[([],[]),([0],[0]),([1],[1]),([2],[2]),([],[]),([],[]),([5],[5]),([6],[6]),([7],[7]),([8],[8]),([4,9,9],[4,9]),([],[]),([11],[11]),([12],[12]),([13],[13]),([14],[14]),([15],[15]),([10,16,10],[10,16]),([3,0,1,2,3,4,5,6,7,8,9,10,11,12,13,14,15,16,17],[3]),([18,17,17,0,1,2,3,4,5,6,7,8,9,10,11,12,13,14,15,16,17],[17,18])])) (B:=[0,1,3,7,0,0,32,96,224,480,1008,0,2048,6144,14336,30720,63488,131056,262143,524287]) (by kernel_rfl) (by kernel_rfl) (fun HT_ HW_=>?_);refine aZ [(0,24),(1,25),(2,26)] ?_
 iterate 3 (refine cr HT_ ?_)
 refine bX (bA 20 7) (by kernel_rfl) ?_;refine aZ [(3,27)] ?_
 iterate 1 (refine d_ HT_ HW_ hHeld ?_)
 refine bX (bA 20 15) (by kernel_rfl) ?_;refine aZ [(4,28),(5,29),(6,30),(7,31)] ?_
 iterate 4 (refine cr HT_ ?_)
 refine bX (bA 20 255) (by kernel_rfl) ?_;refine aZ [(8,32)] ?_
 iterate 1 (refine d_ HT_ HW_ hHeld ?_)
 refine bX (bA 20 511) (by kernel_rfl) ?_;refine aZ [(11,35),(12,36),(13,37)] ?_
 iterate 3 (refine cr HT_ ?_)
 refine bX (bA 20 14847) (by kernel_rfl) ?_;refine aZ [(14,38)] ?_
 iterate 1 (refine d_ HT_ HW_ hHeld ?_)
 refine bX (bA 20 31231) (by kernel_rfl) ?_;refine aZ [(15,39)] ?_
 iterate 1 (refine cr HT_ ?_)
 refine bX (bA 20 63999) (by kernel_rfl) ?_;refine aZ [(16,40)] ?_
 iterate 1 (refine d_ HT_ HW_ hHeld ?_)
 refine bX (bA 20 129535) (by kernel_rfl) ?_;refine dJ 9 (N:=some 33) (bA 20 130047) HT_ (fun K hK=>?_);refine ep Tryz.func33 (by kernel_rfl) rfl #[.pointer (some ⟨gm,0,none⟩)] (by rfl) rfl rfl cD ?_
 with_reducible refine (q7.calls gm base xs c n vm _ HAd.out.mem X1.out).mono ?_
 rintro e_ w6 ⟨v6,rfl,ho,hb⟩
 refine ⟨_,rfl,?_⟩;obtain ⟨Ac,cc,rfl,hcc,hCc⟩:=Kd.fT ho;have HLC:=aS hcc;have HCC:=aS hCc;have HB6:=aS hb;have HX6:ak (w6.cell? ⟨go,0,none⟩=some (.slice Ai li.length ci)):=aS ((hb.cell (mI wd _ HXd.out)).trans HXd.out);clear ho hb hcc hCc HXd;refine hK.out _ _ ⟨(aG (HAd.out.below HB6.out).cY 4).trans rfl,(aG (HAd.out.below HB6.out).cY 3).trans rfl,HX6.out⟩ (fun hHeld=>?_);clear hK K;refine nm 33 ?_;refine dJ 10 (N:=some 34) (bA 20 131071) HT_ (fun K hK=>?_);refine ep Tryz.func32 (by kernel_rfl) rfl #[.pointer (some ⟨g,0,none⟩),.slice Ac c.length cc] (by rfl) rfl rfl cD ?_
 with_reducible refine (eJ.calls k g s1 s2 s3 _ _ Ac cc c t _ (HAd.out.below HB6.out).cY HCC.out HLC.out X2.out).mono ?_
 rintro e_ w7 ⟨v7,rfl,ho,hb⟩
 refine ⟨_,rfl,?_⟩;obtain ⟨At,ct,rfl⟩:=Kd.bq ho;have HO7:=aS ho;have HB67:=aS hb;have HB7:=aS (aN HB6.out hb);have HX7:ak (w7.cell? ⟨go,0,none⟩=some (.slice Ai li.length ci)):=aS ((hb.cell (mI w6 _ HX6.out)).trans HX6.out);clear ho hb HX6 HCC HLC;refine hK.out _ _ ⟨(aG (HAd.out.below HB7.out).cY 4).trans rfl,(aG (HAd.out.below HB7.out).cY 3).trans rfl,HX7.out⟩ (fun hHeld=>?_);clear hK K;refine nm 34 ?_;refine dJ 17 (N:=some 41) (bA 20 262143) HT_ (fun K hK=>?_);have HWS:ak (w.heap.size≤w6.heap.size):=aS (Nat.le_trans HSZ.out (Nat.le_trans HSd.out HB6.out.size));have HD6:=aS HB6.out.size;have HVM:ak (∀ k,wd.heap.size≤k→some k≠vm.ownBlock):=aS (fun k hk e=>absurd (Kd.cK HAd.out.row k e.symm) (Nat.not_lt_of_le hk))
 have HO7':ak (Kd.R aq.mK 86 w7 base (fun k=>(fun k=>ok k∨w.heap.size≤k) k∧some k≠vm.ownBlock) (.slice At [t].length ct) [t]):=aS (Kd.aH (Kd.bf (Kd.ew HO7.out) (Nat.le_trans HGE.out HWS.out)) (fun k hk=>⟨.inr (Nat.le_trans HWS.out hk.2.1),HVM.out k (Nat.le_trans HD6.out hk.2.1)⟩))
 refine Kd.fu aq.mK (w0:=w7) base (by rfl) (.tmp 34) (.tmp 40) 64 86 (.pointer none) 8 rfl hu53 qx rfl (by decide) (by decide) (.slice At [t].length ct) [t] li Ai li.length ci (fun k=>(fun k=>ok k∨w.heap.size≤k) k∧some k≠vm.ownBlock) (fun k=>(fun k=>(fun k=>ok k∨w.heap.size≤k) k∧some k≠vm.ownBlock) k∧k<wd.heap.size) rfl rfl HO7'.out (aq.Bn HRId.out HB7.out EI.out) (fun _ _ h=>h) (fun k hk=>⟨hk.1,fun e=>absurd (Nat.le_trans HD6.out (Kd.fF HO7.out k e.symm)) (Nat.not_le_of_lt hk.2)⟩) (fun k hk=>⟨.inr (Nat.le_trans HWS.out (Nat.le_trans HB67.out.size hk)),HVM.out k (Nat.le_trans HB7.out.size hk)⟩) (Below.refl _ _) (Nat.le_trans HGE.out (Nat.le_trans HWS.out HB67.out.size)) (by have:=HG.out.2;show (1+li.length)*8≤140737488355328;omega) ?_
 intro v41 w8 ho hb hgr hat
 obtain ⟨A9,c9,rfl⟩:=Kd.bq ho;have HB8:ak (Below wd.heap.size wd w8):=aS (HB7.out.grown hgr HB7.out.size (fun k hk=>Nat.le_trans HD6.out (Kd.fF HO7.out k hk)))
 have HU8:ak (aq.eI w8 base (fun k=>ok k∨w.heap.size≤k) g gm vm (.slice (some ⟨go,0,none⟩) vs1.length cl1) vs1 (vs1.set 0 (.slice A9 ([t]++li).length c9)) s1 s2 s3 xs n (l1.set 0 (t :: li))):=aS ((HAd.out.below HB8.out).tell 0 HI1.out ho (fun j hj k hk hk'=>by
  have h1:=Kd.cK (HAd.out.rs.rows j hj) k hk
  rcases hat with e | ⟨b,e,hle⟩
  ·
   rw [e] at hk';exact absurd (Nat.le_trans HD6.out (Kd.fF HO7.out k hk')) (Nat.not_le_of_lt h1)
  ·
   rw [e] at hk'
   injection hk' with hk'
   exact absurd (Nat.le_trans HB7.out.size (hk'▸hle)) (Nat.not_le_of_lt h1)))
 have HC8:=aS (HCd.out.step HB8.out)
 have HX8:ak (w8.cell? ⟨go,0,none⟩=some (.slice Ai li.length ci)):=aS (by
  obtain ⟨A',c',e',_,_,hat8⟩:=HU8.out.at
  cases e'
  obtain ⟨ad,e2,hx⟩:=hat8 w8 (fun _ _ _=>rfl) 0 HI1.out;cases e2;rw [aq.Cd,EI.out] at hx
  exact hx)
 clear ho hb hgr hat HO7 HO7' HB6 HB7 HB67 HB8 HRId HAd HCd HX7 HVM HWS HD6 HSd;refine hK.out _ _ ⟨(aG HU8.out.cY 4).trans rfl,(aG HU8.out.cY 3).trans rfl,HX8.out⟩ (fun hHeld=>?_);clear hK K;refine nm 41 ?_;refine aZ [(18,42)] ?_
 iterate 1 (refine cr HT_ ?_)
 refine bX (bA 20 524287) (by kernel_rfl) ?_;refine jT (i:=19) (N:=none) (bA 20 1048575) rfl rfl (jM HT_.out (by kernel_rfl)) (by decide) (fun K hK=>?_);obtain ⟨hu9,hg9⟩:=HU8.out.put 0 HI1.out (.slice A9 ([t]++li).length c9) rfl;obtain ⟨cho,hho⟩:=Kd.gn HU8.out.out go rfl;have hszo:=tZ HU8.out.out hho;refine oB (by rfl) 64 _ _ rfl rfl (by rfl) (.slice A9 ([t]++li).length c9) (by rfl) [.slice A9 ([t]++li).length c9] rfl hsz53 hho (by have h5:vs1.length*1≤cho.size:=hszo;have:=HI1.out;show 0+1≤cho.size;omega) (by intro q_ hq_;rw [List.mem_singleton.1 hq_];rfl) ?_;have HU9:ak (aq.eI (w8.setCells go 0 [.slice A9 ([t]++li).length c9]) base (fun k=>ok k∨w.heap.size≤k) g gm vm _ _ _ s1 s2 s3 xs n _):=aS hu9;have HC9_:ak (aq.fG w (w8.setCells go 0 [.slice A9 ([t]++li).length c9]) ok):=aS (HC8.out.trans (aq.fG.grown (ok:=(fun k=>ok k∨w.heap.size≤k)) hg9 (fun k hk=>HU8.out.out.1 k hk)) (fun k hk hlt=>hk.resolve_right (Nat.not_le_of_lt hlt)));clear hu9 hg9 hho hszo HU8 HC8 HX8
 generalize w8.setCells go 0 [.slice A9 ([t]++li).length c9]=w9 at HU9 HC9_ ⊢
 refine hK.out _ _ ?_;clear hK K;refine dQ (cX HT_.out (by kernel_rfl)) ?_;clear HT_ HW_;have q0:=cR (aS HU9.out.cY)
 go_upto_region 5 with (first | (go_at_call 25;(with_reducible refine (ck.calls _).mono ?_);rintro e_ w10 ⟨gm2,rfl,hm,hb⟩;have HM2:ak (w10.heap[gm2]? = some (.cells #[.slice none 0 0,.int .i64 0] 78 (0,0))∧w.heap.size≤gm2):=aS ⟨hm.2.1,Nat.le_trans HC9_.out.size hm.1⟩;have HU10:=aS (HU9.out.below hb);have HC10:=aS (HC9_.out.step hb);clear hm hb q0 HU9 HC9_;have q0:=cR (aS HU10.out.cY)))
 have HT:ak (aq.At (w10.setCell ⟨g,3,none⟩ (.pointer (some ⟨gm2,0,none⟩))) base (fun k=>ok k∨w.heap.size≤k) g s1 s2 s3 [] 0 (l1.set 0 (t :: li))):=aS (HU10.out.FC (Nat.le_trans HGE.out HM2.out.2) (.inr HM2.out.2) HM2.out.1).up;have HCT:ak (aq.fG w (w10.setCell ⟨g,3,none⟩ (.pointer (some ⟨gm2,0,none⟩))) ok):=aS (HC10.out.trans (aq.fG.set (ok:=(fun k=>ok k∨w.heap.size≤k)) w10 g 3 _ HU10.out.okg) (fun k hk hlt=>hk.resolve_right (Nat.not_le_of_lt hlt)));clear q0 HU10 HM2 HC10
 generalize w10.setCell ⟨g,3,none⟩ (.pointer (some ⟨gm2,0,none⟩))=w11 at HT HCT ⊢
 go_wp2
 go_loopg [2] k (fun kq v2 wr=>∃ (i:Nat) (l:List (List (List av × List (List av) × List Int))),v2 = .int .i64 (i:Int)∧ak (aU.lp k s2 s3 kq i l=some r')∧ak (aq.At wr base (fun k=>ok k∨w.heap.size≤k) g s1 s2 s3 [] 0 l)∧ak (aq.fG w wr ok))
 case atStart=>exact ⟨0,_,rfl,X3,HT,HCT⟩
 clear X3 HT HCT
 case round=>
  obtain ⟨i,l,rfl,HP,HT,HCr⟩:=hrel
  cases gk with
  | zero=>exact absurd HP.out (by simp [aU.lp])
  | succ k1=>
  obtain ⟨gm3,vm3,vl3,vs3,hT⟩:=HT.out;obtain ⟨A3,cl3,rfl,_,hmx3,hat3⟩:=hT.at;have HT3:=aS hT;have HM3:=aS hmx3;have hL3:=hT.len;have ha:=HP.out
  unfold aU.lp at ha
  clear hT HP hmx3
  by_cases hlt:i<l.length
  ·
   rw [if_pos hlt] at ha
   have hq1:(i:Int)<(vs3.length:Int):=by rw [hL3];omega
   have hlt3:i<vs3.length:=by rw [hL3];exact hlt
   obtain ⟨ad,e_,hx⟩:=hat3 wr (fun _ _ _=>rfl) i hlt3;subst e_;obtain ⟨Aj,cj,ej,_,_⟩:=HT3.out.cells i hlt3;rw [ej] at hx
   obtain ⟨nj,hnj⟩:∃ x,x=(l.getD i []).length:=⟨_,rfl⟩
   rw [←hnj] at hx ha;have HX3:=aS hx;have HL3:ak (i<l.length):=aS hlt
   have hq0:(0:Int)≤(i:Int):=by omega
   have hwr:wrap64 ((i:Int)+1)=(i:Int)+1:=by rw [←bC,IntKind.wrap_i64];have:=HM3.out;omega
   have HWR:=aS hwr;have q0:=cR (aS HT3.out.cY);clear hat3 hx ej hL3 hlt hlt3 hnj hwr
   by_cases hs:s3<(nj:Int)
   ·
    rw [if_pos hs] at ha;replace ha:=bV ha;obtain ⟨r1,y1,ha⟩:=ha;have Y1:=aS y1;have HP1:=aS ha
    obtain ⟨hs1,hs2⟩:decide (s3<(nj:Int))=true∧True:=⟨decide_eq_true hs,trivial⟩
    clear y1 ha hs
    go_upto_region 8 with (fail)
    refine dz (n:=14) (ds:=[]) (S:=fun w'=>w'.cell? ⟨g,4,none⟩=some (.slice (some ad) vs3.length cl3)∧w'.cell? ⟨g,2,none⟩=some (.int .i64 s3)∧w'.cell? (ad.add i)=some (.slice Aj nj cj)) (bA 14 0) (by kernel_rfl) rfl rfl ⟨(aG (au HT3.out.cY) 4).trans rfl,(aG (au HT3.out.cY) 2).trans rfl,HX3.out⟩ (fun hHeld=>?_)
    generalize hw_:World.drew _=wd at hHeld ⊢
    have HTd:ak (aq.eI wd base _ g gm3 vm3 _ vs3 vs3 s1 s2 s3 [] 0 l):=aS (hw_▸HT3.out.below (bN (Below.refl _ _)));have HCd:ak (aq.fG w wd ok):=aS (hw_▸HCr.out.step (bN (Below.refl _ _)));clear hw_ HT3 HCr HX3 q0;refine cH (T:=(true,[([],[]),([0],[0]),([1],[1]),([2],[2]),([],[]),([3,4],[3,4]),([5],[5]),([6],[6]),([],[]),([8],[8]),([9],[9]),([10],[10]),([11],[11]),([7,12],[7,12])])) (B:=[0,1,3,7,0,31,63,127,0,256,768,1792,3840,8191]) (by kernel_rfl) (by kernel_rfl) (fun HT_ HW_=>?_);refine aZ [(0,56),(1,57),(2,58)] ?_
    iterate 3 (refine cr HT_ ?_)
    refine bX (bA 14 7) (by kernel_rfl) ?_;refine aZ [(3,59)] ?_
    iterate 1 (refine d_ HT_ HW_ hHeld ?_)
    refine bX (bA 14 15) (by kernel_rfl) ?_;refine aZ [(4,60),(5,61)] ?_
    iterate 2 (refine cr HT_ ?_)
    refine bX (bA 14 63) (by kernel_rfl) ?_;refine aZ [(6,62)] ?_
    iterate 1 (refine d_ HT_ HW_ hHeld ?_)
    refine bX (bA 14 127) (by kernel_rfl) ?_;refine aZ [(7,63),(8,64),(9,65),(10,66),(11,67)] ?_
    iterate 5 (refine cr HT_ ?_)
    refine bX (bA 14 4095) (by kernel_rfl) ?_;refine aZ [(12,68)] ?_
    iterate 1 (refine d_ HT_ HW_ hHeld ?_)
    refine bX (bA 14 8191) (by kernel_rfl) ?_;refine aZ [(13,69)] ?_
    iterate 1 (refine cr HT_ ?_)
    refine bX (bA 14 16383) (by kernel_rfl) ?_;refine dQ (cX HT_.out (by kernel_rfl)) ?_;clear HT_ HW_ hHeld
    go_wp2_with (first | (go_at_call 34;(with_reducible refine (bK.calls k g base (fun k=>ok k∨w.heap.size≤k) s1 s2 s3 [] 0 l r1 i _ HTd.out.up HL3.out Y1.out).mono ?_);rintro e_ w14 ⟨rfl,ha_,hc_⟩;have HT4:ak (aq.At w14 base (fun k=>ok k∨w.heap.size≤k) g s1 s2 s3 [] 0 r1):=aS (ha_.mono (fun k hk=>hk.elim id (fun h=>.inr (Nat.le_trans HCd.out.size h))));have HC4:=aS (HCd.out.trans hc_ (fun k hk hlt=>hk.resolve_right (Nat.not_le_of_lt hlt)));clear ha_ hc_))
    have hwr:=HWR.out
    go_wp2
    go_roundg k1
    case measure=>exact Nat.lt_succ_self _
    case rel=>exact ⟨i+1,r1,by rw [hwr];rfl,HP1,HT4,HC4⟩
   ·
    rw [if_neg hs] at ha;have HP1:=aS ha
    obtain ⟨hs1,hs2⟩:decide (s3<(nj:Int))=false∧True:=⟨decide_eq_false hs,trivial⟩
    clear ha hs
    go_upto_region 8 with (fail)
    refine dz (n:=14) (ds:=[]) (S:=fun w'=>w'.cell? ⟨g,4,none⟩=some (.slice (some ad) vs3.length cl3)∧w'.cell? ⟨g,2,none⟩=some (.int .i64 s3)∧w'.cell? (ad.add i)=some (.slice Aj nj cj)) (bA 14 0) (by kernel_rfl) rfl rfl ⟨(aG (au HT3.out.cY) 4).trans rfl,(aG (au HT3.out.cY) 2).trans rfl,HX3.out⟩ (fun hHeld=>?_)
    generalize hw_:World.drew _=wd at hHeld ⊢
    have HTd:ak (aq.eI wd base _ g gm3 vm3 _ vs3 vs3 s1 s2 s3 [] 0 l):=aS (hw_▸HT3.out.below (bN (Below.refl _ _)));have HCd:ak (aq.fG w wd ok):=aS (hw_▸HCr.out.step (bN (Below.refl _ _)));clear hw_ HT3 HCr HX3 q0;refine cH (T:=(true,[([],[]),([0],[0]),([1],[1]),([2],[2]),([],[]),([3,4],[3,4]),([5],[5]),([6],[6]),([],[]),([8],[8]),([9],[9]),([10],[10]),([11],[11]),([7,12],[7,12])])) (B:=[0,1,3,7,0,31,63,127,0,256,768,1792,3840,8191]) (by kernel_rfl) (by kernel_rfl) (fun HT_ HW_=>?_);refine aZ [(0,56),(1,57),(2,58)] ?_
    iterate 3 (refine cr HT_ ?_)
    refine bX (bA 14 7) (by kernel_rfl) ?_;refine aZ [(3,59)] ?_
    iterate 1 (refine d_ HT_ HW_ hHeld ?_)
    refine bX (bA 14 15) (by kernel_rfl) ?_;refine aZ [(4,60),(5,61)] ?_
    iterate 2 (refine cr HT_ ?_)
    refine bX (bA 14 63) (by kernel_rfl) ?_;refine aZ [(6,62)] ?_
    iterate 1 (refine d_ HT_ HW_ hHeld ?_)
    refine bX (bA 14 127) (by kernel_rfl) ?_;refine aZ [(7,63),(8,64),(9,65),(10,66),(11,67)] ?_
    iterate 5 (refine cr HT_ ?_)
    refine bX (bA 14 4095) (by kernel_rfl) ?_;refine aZ [(12,68)] ?_
    iterate 1 (refine d_ HT_ HW_ hHeld ?_)
    refine bX (bA 14 8191) (by kernel_rfl) ?_;refine aZ [(13,69)] ?_
    iterate 1 (refine cr HT_ ?_)
    refine bX (bA 14 16383) (by kernel_rfl) ?_;refine dQ (cX HT_.out (by kernel_rfl)) ?_;clear HT_ HW_ hHeld;have hwr:=HWR.out
    go_wp2
    go_roundg k1
    case measure=>exact Nat.lt_succ_self _
    case rel=>exact ⟨i+1,l,by rw [hwr];rfl,HP1,⟨HTd.out.up⟩,HCd⟩
  ·
   rw [if_neg hlt] at ha
   have hge:¬ ((i:Int)<(vs3.length:Int)):=by rw [hL3];omega
   obtain rfl:=Option.some.inj ha
   have q0:=cR (aS HT3.out.cY)
   go_wp2
   go_end0
   exact ⟨rfl,⟨_,_,_,_,HT3.out⟩,HCr.out⟩
def dP.f (k:Nat) (xs:List av) (ls:List (List (List av × List (List av) × List Int))):Option (List av):=(cA.f xs ls).bind fun q=>fQ.f k q
theorem dP.mono:∀ a0 a1 k,aE (dP.f k a0 a1) (dP.f (k+1) a0 a1):=fun _ _ _=>aE.bind (aE.refl _) fun _=>fQ.mono _ _
theorem dP.calls (k base:Nat) (ok:Nat→Prop) (g:Nat) (s1 s2 s3:Int) (xs:List av) (n:Int) (ls:List (List (List av × List (List av) × List Int))) (r:List av) (w:World) (hA:aq.At w base ok g s1 s2 s3 xs n ls) (h:dP.f k xs ls=some r) :
  Calls Tryz.prog 19 #[.pointer (some ⟨g,0,none⟩)] w fun e w'=>∃ v0_:Value,e = .returned v0_∧Kd.R cC 34 w' w.heap.size (fun _=>True) v0_ r∧Below w.heap.size w w':=by
 unfold dP.f at h
 replace h:=bV h;obtain ⟨q,x1,h⟩:=h;have X1:=aS x1;have X2:=aS h;have HA:=aS hA;clear x1 h hA
 go_enter Tryz.func19,Tryz.ntmps19
 go_wp2_with (first | (go_at_call 41;(with_reducible refine (cA.calls base ok g s1 s2 s3 xs n ls q _ HA.out X1.out).mono ?_);rintro e_ w2 ⟨v2,rfl,ho,hb⟩;obtain ⟨Al,cl,rfl,hcl,hC⟩:=Kd.fT ho;have HC:=aS hC;have HL:=aS hcl;have HB:=aS hb;clear ho hb hC hcl) | (go_at_call 40;(with_reducible refine (fQ.calls k Al cl q r _ HC.out HL.out X2.out).mono ?_);rintro e_ w3 ⟨v3,rfl,ho,hb⟩;have HO:=aS (Kd.bf ho HB.out.size);have HB2:=aS (aN HB.out hb);clear ho hb HB))
 go_ret
 exact ⟨v3,rfl,HO.out,HB2.out⟩
def bB.l0:Nat→List (av)→Int→Int→Int→ByteArray→ByteArray→Int→ByteArray→Bool→Option (Int × Bool)
 | 0,_,_,_,_,_,_,_,_,_=>none
 | k+1,x0,x8,x9,x10,x487000,x487001,x487002,x487003,x487004=>if x9<x10 then (if 0≤(wrap64 ((IntKind.u64.wrap (wrap64 (x9+x10))) / 2)) then (if (wrap64 ((IntKind.u64.wrap (wrap64 (x9+x10))) / 2))<(x0.length:Int) then ((bU.f k ((af x0 (wrap64 ((IntKind.u64.wrap (wrap64 (x9+x10))) / 2))).f0) ((af x0 (wrap64 ((IntKind.u64.wrap (wrap64 (x9+x10))) / 2))).f1) ((af x0 (wrap64 ((IntKind.u64.wrap (wrap64 (x9+x10))) / 2))).f2) ((af x0 (wrap64 ((IntKind.u64.wrap (wrap64 (x9+x10))) / 2))).f3) ((af x0 (wrap64 ((IntKind.u64.wrap (wrap64 (x9+x10))) / 2))).f4) x487000 x487001 x487002 x487003 x487004).bind fun t488=>(if t488<0 then (bB.l0 k x0 x8 (wrap64 ((wrap64 ((IntKind.u64.wrap (wrap64 (x9+x10))) / 2))+1)) x10 x487000 x487001 x487002 x487003 x487004) else (bB.l0 k x0 x8 x9 (wrap64 ((IntKind.u64.wrap (wrap64 (x9+x10))) / 2)) x487000 x487001 x487002 x487003 x487004))) else (none)) else (none)) else (if x9<x8 then (if 0≤x9 then (if x9<(x0.length:Int) then ((bU.f k ((af x0 x9).f0) ((af x0 x9).f1) ((af x0 x9).f2) ((af x0 x9).f3) ((af x0 x9).f4) x487000 x487001 x487002 x487003 x487004).bind fun t490=>(some (x9,(t490 == 0)))) else (none)) else (none)) else (some (x9,false)))
def bB.f (k:Nat) (l0:List (av)) (a1_0:ByteArray) (a1_1:ByteArray) (a1_2:Int) (a1_3:ByteArray) (a1_4:Bool)  : Option (Int × Bool):=bB.l0 k l0 (l0.length:Int) 0 (l0.length:Int) a1_0 a1_1 a1_2 a1_3 a1_4
theorem bB.cP:∀ k,(∀ y0 y1 y2 y3 y4 y5 y6 y7 y8,aE (bB.l0 k y0 y1 y2 y3 y4 y5 y6 y7 y8) (bB.l0 (k+1) y0 y1 y2 y3 y4 y5 y6 y7 y8))
 | 0=>fun _ _ _ _ _ _ _ _ _ r h=>by simp [bB.l0] at h
 | k+1=>by
  have ih0:=bB.cP k
  ·
   intro y0 y1 y2 y3 y4 y5 y6 y7 y8
   unfold bB.l0
   have m0:=@bU.mono;exact e8
theorem bB.mono:∀ a0 a1 a2 a3 a4 a5 k,aE (bB.f k a0 a1 a2 a3 a4 a5) (bB.f (k+1) a0 a1 a2 a3 a4 a5):=by
 intro a0 a1 a2 a3 a4 a5 k
 have ih0:=bB.cP k
 unfold bB.f
 have m0:=@bU.mono;exact e8
def bB.T5:Bool × List (List Nat × List Nat):=(true,[([],[]),([],[]),([],[]),([1,2],[1,2]),([3],[3]),([],[]),([0,4,5],[0,4,5]),([6],[6])])
def bB.B5:List Nat:=[0,0,0,6,14,0,63,127]
theorem bB.qY:fC .any (opsOf Tryz.f46 5)=bB.T5:=by kernel_rfl
theorem bB.oy:fY bB.T5.2 bB.B5=true:=by kernel_rfl
def bB.T8:Bool × List (List Nat × List Nat):=(true,[([],[]),([],[]),([],[]),([1,2],[1,2]),([3],[3]),([4],[4]),([4],[4]),([4],[4]),([6,7,4],[4,6,7]),([8,4],[4,8]),([4],[4]),([5,9,10,4,4],[4,5,9,10]),([11,4],[4,11]),([4,12],[4,12]),([0,11,0],[0]),([13,14,0,1,2,3,4,5,6,7,8,9,10,11,12,13,14],[13])])
def bB.B8:List Nat:=[0,0,0,6,14,30,30,30,222,478,30,2046,4094,8190,4095,32767]
theorem bB.sX:fC .any (opsOf Tryz.f46 8)=bB.T8:=by kernel_rfl
theorem bB.qN:fY bB.T8.2 bB.B8=true:=by kernel_rfl
theorem bB.calls (k:Nat) (A0:Option Addr) (c0:Nat) (l0:List (av)) (a1_0:ByteArray) (a1_1:ByteArray) (a1_2:Int) (a1_3:ByteArray) (a1_4:Bool)  (r1:Int) (r2:Bool) (w:World) (hr0:Kd.C cC w A0 l0.length l0) (hc0:l0.length≤c0) (h:bB.f k l0 a1_0 a1_1 a1_2 a1_3 a1_4=some (r1,r2)) :
  Calls Tryz.prog 46 #[.slice A0 l0.length c0,.agg #[.string a1_0,.string a1_1,.int .i64 a1_2,.string a1_3,.bool a1_4],.func (.func 47) #[] #[]] w fun e w'=>e = .returned (.tuple #[.int .i64 r1,.bool r2])∧Below w.heap.size w w':=by
 have hu34:=Tryz.underlying34;have HR0:=aS hr0;have HC0:=aS hc0;clear hr0 hc0;have HB:=aS (Below.refl w.heap.size w);have H:(bB.l0 k l0 (l0.length:Int) 0 (l0.length:Int) a1_0 a1_1 a1_2 a1_3 a1_4)=some (r1,r2):=h;clear h
 have H':=aS H
 clear H
 go_enter Tryz.func46,Tryz.ntmps46
 go_wp2_with (first | ((with_reducible refine aX (N:=4) rfl ?_);refine aY ?hg (N:=4) ?hd (cs:=#[.string a1_0,.string a1_1,.int .i64 a1_2,.string a1_3,.bool a1_4]) (t:=34) ?hr ?_;(case hd=>rfl);(case hg=>rfl);(case hr=>first | (go_simp;done) | (go_simp;rfl));intro gb486 hg w4 hbox hb;have BK486:=aS (hbox);have GW486:=bsize hg;have GE486:=bsize hg;replace HB:=aM hb;clear hb hbox hg))
 go_loopg [9,10] k (fun kq v9 v10 w'=>∃ (x9_1:Int) (x10_1:Int),v9 = .int .i64 x9_1∧v10 = .int .i64 x10_1∧ak (bB.l0 kq l0 (l0.length:Int) x9_1 x10_1 a1_0 a1_1 a1_2 a1_3 a1_4=some (r1,r2))∧ak (kq≤k)∧ak (w'.heap[gb486]? = some (.cells #[.string a1_0,.string a1_1,.int .i64 a1_2,.string a1_3,.bool a1_4] 34 (0,0)))∧ak (Below w.heap.size w w'))
 case atStart=>exact ⟨(0),((l0.length:Int)),dU,dU,H',⟨Nat.le_refl _⟩,⟨eB BK486.out⟩,⟨ar⟩⟩
 case round=>
  clear H';obtain ⟨x9_1,x10_1,rfl,rfl,HA,HK1,BK486,HB⟩:=hrel
  cases gk with
  | zero=>exact absurd HA.out (by simp [bB.l0])
  | succ k1=>
   have H:=HA.out;clear HA
   simp only [bB.l0] at H
   by_cases c5:x9_1<x10_1
   ·
    rw [if_pos c5] at H;have c5b0:decide (x9_1<x10_1)=true:=decide_eq_true c5;clear c5
    obtain ⟨ji6,hji6⟩:∃ j_:Int,(wrap64 ((IntKind.u64.wrap (wrap64 (x9_1+x10_1))) / 2))=j_:=⟨_,rfl⟩
    replace H:(if 0≤(ji6) then (if (ji6)<(l0.length:Int) then ((bU.f k1 ((af l0 (ji6)).f0) ((af l0 (ji6)).f1) ((af l0 (ji6)).f2) ((af l0 (ji6)).f3) ((af l0 (ji6)).f4) a1_0 a1_1 a1_2 a1_3 a1_4).bind fun t488=>(if t488<0 then (bB.l0 k1 l0 (l0.length:Int) (wrap64 ((ji6)+1)) x10_1 a1_0 a1_1 a1_2 a1_3 a1_4) else (bB.l0 k1 l0 (l0.length:Int) x9_1 ji6 a1_0 a1_1 a1_2 a1_3 a1_4))) else (none)) else (none))=some (r1,r2):=by first | (rw [hji6] at H;exact H) | (simp only [hji6] at H ⊢;exact H)
    have hji6w:(IntKind.i64.wrap ((IntKind.u64.wrap (wrap64 (x9_1+x10_1))) / 2))=ji6:=(bC _).trans hji6
    by_cases c7:0≤(ji6)
    ·
     rw [if_pos c7] at H;have c7b0:decide (0≤(ji6))=true:=decide_eq_true c7;clear c7
     by_cases c8:(ji6)<(l0.length:Int)
     ·
      rw [if_pos c8] at H;have c8b0:decide ((ji6)<(l0.length:Int))=true:=decide_eq_true c8;clear c8;replace H:=bV H;obtain ⟨t488,A90,H⟩:=H;have A9:=aS A90;clear A90
      by_cases eU:t488<0
      ·
       rw [if_pos eU] at H;have c10b0:decide (t488<0)=true:=decide_eq_true eU;clear eU
       have H':=aS H
       clear H
       try go_wp2
       replace BK486:=aS (au BK486.out);replace HB:=aS (jG HB.out);have p487:0≤((ji6):Int):=cG;have q487:(ji6)<(l0.length:Int):=cG;obtain ⟨ad487,e487,hx487_0,hx487_1,hx487_2,hx487_3,hx487_4⟩:=eT HR0.out (ji6) p487 q487;have hw487_4:=hx487_4;have hw487_3:=hx487_3;have hw487_2:=hx487_2;have hw487_1:=hx487_1;have hw487_0:=hx487_0;cases e487;replace hx487_0:=bx ar hx487_0;replace hx487_1:=bx ar hx487_1;replace hx487_2:=bx ar hx487_2;replace hx487_3:=bx ar hx487_3;replace hx487_4:=bx ar hx487_4;replace p487:=eq_true p487;replace q487:=eq_true q487;refine dz (n:=8) (S:=fun w'=>w'.cell? ⟨gb486,0,none⟩=some (.string a1_0)∧w'.cell? ⟨gb486,1,none⟩=some (.string a1_1)∧w'.cell? ⟨gb486,2,none⟩=some (.int .i64 a1_2)∧w'.cell? ⟨gb486,3,none⟩=some (.string a1_3)∧w'.cell? ⟨gb486,4,none⟩=some (.bool a1_4)∧w'.cell? (ad487.add (((ji6)).toNat*5))=some (.string ((af l0 (ji6)).f0))∧w'.cell? ⟨(ad487.add (((ji6)).toNat*5)).block,(ad487.add (((ji6)).toNat*5)).off+1,none⟩=some (.string ((af l0 (ji6)).f1))∧w'.cell? ⟨(ad487.add (((ji6)).toNat*5)).block,(ad487.add (((ji6)).toNat*5)).off+2,none⟩=some (.int .i64 ((af l0 (ji6)).f2))∧w'.cell? ⟨(ad487.add (((ji6)).toNat*5)).block,(ad487.add (((ji6)).toNat*5)).off+3,none⟩=some (.string ((af l0 (ji6)).f3))∧w'.cell? ⟨(ad487.add (((ji6)).toNat*5)).block,(ad487.add (((ji6)).toNat*5)).off+4,none⟩=some (.bool ((af l0 (ji6)).f4))) (ds:=[]) (bA 8 0) (by kernel_rfl) rfl rfl ⟨bc BK486 0,bc BK486 1,bc BK486 2,bc BK486 3,bc BK486 4,(bx ar hw487_0),(bx ar hw487_1),(bx ar hw487_2),(bx ar hw487_3),(bx ar hw487_4)⟩ (fun hHeld=>?_);refine cH bB.qY bB.oy (fun HT_ HW_=>?_)
       generalize wr.drew=w11 at BK486 HB hx487_0 hx487_1 hx487_2 hx487_3 hx487_4 hHeld ⊢
       refine aZ [(0,24),(1,25),(2,26),(3,27),(4,28),(5,29)] ?_
       iterate 6 (first | (refine cr HT_ ?_) | (refine d_ HT_ HW_ hHeld ?_))
       refine bX (bA 8 63) (by kernel_rfl) ?_;refine dJ 6 (N:=some 30) (bA 8 127) HT_ (fun K hK=>?_);refine Kd.pP Tryz.func47 (by kernel_rfl) rfl #[.agg #[.string ((af l0 (ji6)).f0),.string ((af l0 (ji6)).f1),.int .i64 ((af l0 (ji6)).f2),.string ((af l0 (ji6)).f3),.bool ((af l0 (ji6)).f4)],.agg #[.string a1_0,.string a1_1,.int .i64 a1_2,.string a1_3,.bool a1_4]] (by rfl) rfl rfl rfl (by (try simp only [List.map_toArray,List.map_cons,List.map_nil]);first | done | (simp only [hji6];rfl) | rfl | (simp only [lY,kX];rfl)) ?_
       with_reducible refine (bU.calls k1 ((af l0 (ji6)).f0) ((af l0 (ji6)).f1) ((af l0 (ji6)).f2) ((af l0 (ji6)).f3) ((af l0 (ji6)).f4) a1_0 a1_1 a1_2 a1_3 a1_4 t488 _ A9.out).mono ?_
       rintro e w12 ⟨rfl,hb⟩
       refine ⟨_,rfl,?_⟩;replace BK486:=fA BK486 hb;replace HB:=aM hb;(try clear hb);(try clear hk);(try clear hi);refine hK.out _ _ ⟨bc BK486 0,bc BK486 1,bc BK486 2,bc BK486 3,bc BK486 4,(bx ar hw487_0),(bx ar hw487_1),(bx ar hw487_2),(bx ar hw487_3),(bx ar hw487_4)⟩ (fun hHeld=>?_);clear hK K;refine nm 30 ?_;refine dB (i:=7) (N:=some 31) (v:=?_) (a':=?_) (bA 8 255) rfl rfl (lE HT_.out (by kernel_rfl)) (fun _ _ _ h=>h) (Or.inl ⟨by rfl,?_⟩) ?_ ?_
       rotate_left
       ·
        intro w'
        go_simp
        with_reducible rfl
       rotate_left
       ·
        simp only [Act.put,dw,dx,lss,bC,cm]
        rfl
       refine dQ (cX HT_.out (by kernel_rfl)) ?_
       try go_wp2
       go_roundg k1
       case measure=>have:=HK1.out;omega
       case rel=>exact ⟨(wrap64 ((ji6)+1)),(x10_1),(by first | rfl | (simp;done) | (simp only [←hji6]<;>(first | rfl | simp)) | (simp [*];done)),dU,H',⟨by have:=HK1.out;omega⟩,⟨eB BK486.out⟩,⟨ar⟩⟩
      ·
       rw [if_neg eU] at H;have c10b0:decide (t488<0)=false:=decide_eq_false eU;clear eU
       have H':=aS H
       clear H
       try go_wp2
       replace BK486:=aS (au BK486.out);replace HB:=aS (jG HB.out);have p487:0≤((ji6):Int):=cG;have q487:(ji6)<(l0.length:Int):=cG;obtain ⟨ad487,e487,hx487_0,hx487_1,hx487_2,hx487_3,hx487_4⟩:=eT HR0.out (ji6) p487 q487;have hw487_4:=hx487_4;have hw487_3:=hx487_3;have hw487_2:=hx487_2;have hw487_1:=hx487_1;have hw487_0:=hx487_0;cases e487;replace hx487_0:=bx ar hx487_0;replace hx487_1:=bx ar hx487_1;replace hx487_2:=bx ar hx487_2;replace hx487_3:=bx ar hx487_3;replace hx487_4:=bx ar hx487_4;replace p487:=eq_true p487;replace q487:=eq_true q487;refine dz (n:=8) (S:=fun w'=>w'.cell? ⟨gb486,0,none⟩=some (.string a1_0)∧w'.cell? ⟨gb486,1,none⟩=some (.string a1_1)∧w'.cell? ⟨gb486,2,none⟩=some (.int .i64 a1_2)∧w'.cell? ⟨gb486,3,none⟩=some (.string a1_3)∧w'.cell? ⟨gb486,4,none⟩=some (.bool a1_4)∧w'.cell? (ad487.add (((ji6)).toNat*5))=some (.string ((af l0 (ji6)).f0))∧w'.cell? ⟨(ad487.add (((ji6)).toNat*5)).block,(ad487.add (((ji6)).toNat*5)).off+1,none⟩=some (.string ((af l0 (ji6)).f1))∧w'.cell? ⟨(ad487.add (((ji6)).toNat*5)).block,(ad487.add (((ji6)).toNat*5)).off+2,none⟩=some (.int .i64 ((af l0 (ji6)).f2))∧w'.cell? ⟨(ad487.add (((ji6)).toNat*5)).block,(ad487.add (((ji6)).toNat*5)).off+3,none⟩=some (.string ((af l0 (ji6)).f3))∧w'.cell? ⟨(ad487.add (((ji6)).toNat*5)).block,(ad487.add (((ji6)).toNat*5)).off+4,none⟩=some (.bool ((af l0 (ji6)).f4))) (ds:=[]) (bA 8 0) (by kernel_rfl) rfl rfl ⟨bc BK486 0,bc BK486 1,bc BK486 2,bc BK486 3,bc BK486 4,(bx ar hw487_0),(bx ar hw487_1),(bx ar hw487_2),(bx ar hw487_3),(bx ar hw487_4)⟩ (fun hHeld=>?_);refine cH bB.qY bB.oy (fun HT_ HW_=>?_)
       generalize wr.drew=w13 at BK486 HB hx487_0 hx487_1 hx487_2 hx487_3 hx487_4 hHeld ⊢
       refine aZ [(0,24),(1,25),(2,26),(3,27),(4,28),(5,29)] ?_
       iterate 6 (first | (refine cr HT_ ?_) | (refine d_ HT_ HW_ hHeld ?_))
       refine bX (bA 8 63) (by kernel_rfl) ?_;refine dJ 6 (N:=some 30) (bA 8 127) HT_ (fun K hK=>?_);refine Kd.pP Tryz.func47 (by kernel_rfl) rfl #[.agg #[.string ((af l0 (ji6)).f0),.string ((af l0 (ji6)).f1),.int .i64 ((af l0 (ji6)).f2),.string ((af l0 (ji6)).f3),.bool ((af l0 (ji6)).f4)],.agg #[.string a1_0,.string a1_1,.int .i64 a1_2,.string a1_3,.bool a1_4]] (by rfl) rfl rfl rfl (by (try simp only [List.map_toArray,List.map_cons,List.map_nil]);first | done | (simp only [hji6];rfl) | rfl | (simp only [lY,kX];rfl)) ?_
       with_reducible refine (bU.calls k1 ((af l0 (ji6)).f0) ((af l0 (ji6)).f1) ((af l0 (ji6)).f2) ((af l0 (ji6)).f3) ((af l0 (ji6)).f4) a1_0 a1_1 a1_2 a1_3 a1_4 t488 _ A9.out).mono ?_
       rintro e w14 ⟨rfl,hb⟩
       refine ⟨_,rfl,?_⟩;replace BK486:=fA BK486 hb;replace HB:=aM hb;(try clear hb);(try clear hk);(try clear hi);refine hK.out _ _ ⟨bc BK486 0,bc BK486 1,bc BK486 2,bc BK486 3,bc BK486 4,(bx ar hw487_0),(bx ar hw487_1),(bx ar hw487_2),(bx ar hw487_3),(bx ar hw487_4)⟩ (fun hHeld=>?_);clear hK K;refine nm 30 ?_;refine dB (i:=7) (N:=some 31) (v:=?_) (a':=?_) (bA 8 255) rfl rfl (lE HT_.out (by kernel_rfl)) (fun _ _ _ h=>h) (Or.inl ⟨by rfl,?_⟩) ?_ ?_
       rotate_left
       ·
        intro w'
        go_simp
        with_reducible rfl
       rotate_left
       ·
        simp only [Act.put,dw,dx,lss,bC,cm]
        rfl
       refine dQ (cX HT_.out (by kernel_rfl)) ?_
       try go_wp2
       go_roundg k1
       case measure=>have:=HK1.out;omega
       case rel=>exact ⟨(x9_1),(ji6),dU,(by first | rfl | (simp;done) | (simp only [←hji6]<;>(first | rfl | simp)) | (simp [*];done)),H',⟨by have:=HK1.out;omega⟩,⟨eB BK486.out⟩,⟨ar⟩⟩
     ·
      rw [if_neg c8] at H;exact absurd H (by simp)
    ·
     rw [if_neg c7] at H;exact absurd H (by simp)
   ·
    rw [if_neg c5] at H;have c5b0:decide (x9_1<x10_1)=false:=decide_eq_false c5;clear c5
    by_cases c15:x9_1<(l0.length:Int)
    ·
     rw [if_pos c15] at H;have c15b0:decide (x9_1<(l0.length:Int))=true:=decide_eq_true c15;clear c15
     by_cases c16:0≤x9_1
     ·
      rw [if_pos c16] at H;have c16b0:decide (0≤x9_1)=true:=decide_eq_true c16;clear c16
      by_cases c17:x9_1<(l0.length:Int)
      ·
       rw [if_pos c17] at H;have c17b0:decide (x9_1<(l0.length:Int))=true:=decide_eq_true c17;clear c17;replace H:=bV H;obtain ⟨t490,A180,H⟩:=H;have A18:=aS A180;clear A180
       simp only [Option.some.injEq,Prod.mk.injEq] at H
       obtain ⟨rfl,rfl⟩:=H
       try go_wp2
       replace BK486:=aS (au BK486.out);replace HB:=aS (jG HB.out);have p489:0≤(x9_1:Int):=cG;have q489:x9_1<(l0.length:Int):=cG;obtain ⟨ad489,e489,hx489_0,hx489_1,hx489_2,hx489_3,hx489_4⟩:=eT HR0.out x9_1 p489 q489;have hw489_4:=hx489_4;have hw489_3:=hx489_3;have hw489_2:=hx489_2;have hw489_1:=hx489_1;have hw489_0:=hx489_0;cases e489;replace hx489_0:=bx ar hx489_0;replace hx489_1:=bx ar hx489_1;replace hx489_2:=bx ar hx489_2;replace hx489_3:=bx ar hx489_3;replace hx489_4:=bx ar hx489_4;replace p489:=eq_true p489;replace q489:=eq_true q489;refine dz (n:=16) (S:=fun w'=>w'.cell? ⟨gb486,0,none⟩=some (.string a1_0)∧w'.cell? ⟨gb486,1,none⟩=some (.string a1_1)∧w'.cell? ⟨gb486,2,none⟩=some (.int .i64 a1_2)∧w'.cell? ⟨gb486,3,none⟩=some (.string a1_3)∧w'.cell? ⟨gb486,4,none⟩=some (.bool a1_4)∧w'.cell? (ad489.add ((x9_1).toNat*5))=some (.string ((af l0 x9_1).f0))∧w'.cell? ⟨(ad489.add ((x9_1).toNat*5)).block,(ad489.add ((x9_1).toNat*5)).off+1,none⟩=some (.string ((af l0 x9_1).f1))∧w'.cell? ⟨(ad489.add ((x9_1).toNat*5)).block,(ad489.add ((x9_1).toNat*5)).off+2,none⟩=some (.int .i64 ((af l0 x9_1).f2))∧w'.cell? ⟨(ad489.add ((x9_1).toNat*5)).block,(ad489.add ((x9_1).toNat*5)).off+3,none⟩=some (.string ((af l0 x9_1).f3))∧w'.cell? ⟨(ad489.add ((x9_1).toNat*5)).block,(ad489.add ((x9_1).toNat*5)).off+4,none⟩=some (.bool ((af l0 x9_1).f4))) (ds:=[]) (bA 16 0) (by kernel_rfl) rfl rfl ⟨bc BK486 0,bc BK486 1,bc BK486 2,bc BK486 3,bc BK486 4,(bx ar hw489_0),(bx ar hw489_1),(bx ar hw489_2),(bx ar hw489_3),(bx ar hw489_4)⟩ (fun hHeld=>?_);refine cH bB.sX bB.qN (fun HT_ HW_=>?_)
       generalize wr.drew=w19 at BK486 HB hx489_0 hx489_1 hx489_2 hx489_3 hx489_4 hHeld ⊢
       refine aZ [(0,35),(1,36),(2,37),(3,38),(4,39),(5,40),(6,41),(7,42),(8,43),(9,44),(10,45)] ?_
       iterate 11 (first | (refine cr HT_ ?_) | (refine d_ HT_ HW_ hHeld ?_))
       refine bX (bA 16 2047) (by kernel_rfl) ?_;refine dJ 11 (N:=some 46) (bA 16 4095) HT_ (fun K hK=>?_);refine Kd.pP Tryz.func47 (by kernel_rfl) rfl #[.agg #[.string ((af l0 x9_1).f0),.string ((af l0 x9_1).f1),.int .i64 ((af l0 x9_1).f2),.string ((af l0 x9_1).f3),.bool ((af l0 x9_1).f4)],.agg #[.string a1_0,.string a1_1,.int .i64 a1_2,.string a1_3,.bool a1_4]] (by rfl) rfl rfl rfl cD ?_
       with_reducible refine (bU.calls k1 ((af l0 x9_1).f0) ((af l0 x9_1).f1) ((af l0 x9_1).f2) ((af l0 x9_1).f3) ((af l0 x9_1).f4) a1_0 a1_1 a1_2 a1_3 a1_4 t490 _ A18.out).mono ?_
       rintro e w20 ⟨rfl,hb⟩
       refine ⟨_,rfl,?_⟩;replace BK486:=fA BK486 hb;replace HB:=aM hb;(try clear hb);(try clear hk);(try clear hi);refine hK.out _ _ ⟨bc BK486 0,bc BK486 1,bc BK486 2,bc BK486 3,bc BK486 4,(bx ar hw489_0),(bx ar hw489_1),(bx ar hw489_2),(bx ar hw489_3),(bx ar hw489_4)⟩ (fun hHeld=>?_);clear hK K;refine nm 46 ?_;refine aZ [(12,47),(13,48),(14,6),(15,7)] ?_
       iterate 4 (refine cr HT_ ?_)
       refine bX (bA 16 65535) (by kernel_rfl) ?_;refine dQ (cX HT_.out (by kernel_rfl)) ?_
       try go_wp2
       go_ret2
       exact ⟨dN,ar⟩
      ·
       rw [if_neg c17] at H;exact absurd H (by simp)
     ·
      rw [if_neg c16] at H;exact absurd H (by simp)
    ·
     rw [if_neg c15] at H;have c15b0:decide (x9_1<(l0.length:Int))=false:=decide_eq_false c15;clear c15
     simp only [Option.some.injEq,Prod.mk.injEq] at H
     obtain ⟨rfl,rfl⟩:=H
     try go_wp2
     replace BK486:=aS (au BK486.out);replace HB:=aS (jG HB.out);refine dz (n:=16) (S:=fun w'=>True) (ds:=[]) (bA 16 0) (by kernel_rfl) rfl rfl trivial (fun hHeld=>?_);refine cH bB.sX bB.qN (fun HT_ HW_=>?_)
     generalize wr.drew=w21 at BK486 HB hHeld ⊢
     refine aZ [(0,35),(1,36),(2,37),(3,38),(4,39),(5,40),(6,41),(7,42),(8,43),(9,44),(10,45),(11,46),(12,47),(13,48),(14,6),(15,7)] ?_
     iterate 16 (first | (refine nH HT_ ?_) | (refine cr HT_ ?_))
     refine bX (bA 16 65535) (by kernel_rfl) ?_;refine dQ (cX HT_.out (by kernel_rfl)) ?_
     try go_wp2
     go_ret2
     exact ⟨dN,ar⟩
end Go.Proofs.YtcbhfedcdnjljaaGreat.X

import Derived.Test.YtcbhfedcdnjljaaGreatXx11
set_option maxHeartbeats 8000000
set_option maxRecDepth 100000
set_option linter.unusedVariables false
set_option linter.unusedSimpArgs false
namespace Go.Proofs.YtcbhfedcdnjljaaGreat.X
open Go.RowKit Go.Proofs.YtcbhfedcdnjljaaGreatW.PrintWords Go.Proofs.YtcbhfedcdnjljaaGreatW.PrintLast Go.Proofs.YtcbhfedcdnjljaaGreatW.PrintMore
attribute [local go_sem] gZ g_ iW iZ gF gD ic ig iX
theorem jN.nO (k N pc pi:Nat) (gm basem:Nat) (xs:List av) (n:Int) (vm:Value) (c0 c1:ByteArray) (c2:Int) (c3:ByteArray) (c4 b:Bool) (r1 r2:ByteArray) (r3:Int) (r4:ByteArray) (r5 r6:Bool) (w:World) (hc:w.heap[pc]? = some (.cells #[.string c0,.string c1,.int .i64 c2,.string c3,.bool c4] 34 (0,0))) (hi:w.heap[pi]? = some (.cells #[.bool b] 4 (0,0))) (hN:N≤pi) (hNw:N≤w.heap.size) (hA:ck.At w basem gm xs n vm) (h:cE.f k xs c0 c1 c2=some (r1,r2,r3,r4,r5,r6)) :
  Calls Tryz.prog 45 #[.func (.func 54) #[.pointer (some ⟨gm,0,none⟩)] #[],.pointer (some ⟨pc,0,none⟩),.pointer (some ⟨pi,0,none⟩)] w fun e w'=>e = .returned (.bool (r6 && r3 == c2))∧Below N w w'∧w'.heap[pc]? = some (.cells #[.string c0,.string c1,.int .i64 c2,.string c3,.bool c4] 34 (0,0))∧w'.heap[pi]? = some (.cells #[.bool (r6 && r3 == c2)] 4 (0,0)):=by
 have hu26:=Tryz.underlying34;have BC:=aS hc;have BI:=aS hi;have HN:=aS hN;have HNw:=aS hNw;have HA:=aS hA;have X:=aS h;clear hc hi hN hNw hA h;have q0:=cR BC;have q1:=lU BI
 go_enter Tryz.func45,Tryz.ntmps45
 go_upto_region 2 with (first | (go_at_call 54;(with_reducible refine (pJ.calls k gm basem xs n vm c0 c1 c2 r1 r2 r3 r4 r5 r6 _ HA.out X.out).mono ?_);rintro e_ w2 ⟨rfl,hb⟩;have BC2:=aS (aK BC.out hb);have BI2:=aS (aK BI.out hb);have HB2:=aS (hb.mono HNw.out);clear hb q0 q1) | ((with_reducible refine aX (N:=5) rfl ?_);refine aY ?hg (N:=5) ?hd (cs:=#[.string ⟨#[]⟩,.string ⟨#[]⟩,.int .i64 0,.string ⟨#[]⟩,.bool false]) (t:=34) ?hr ?_;(case hd=>rfl);(case hg=>rfl);(case hr=>(first | (go_simp;done) | (go_simp;rfl)));intro p5 hg w3 hb hbl;have B5:=aS hb;have G5:ak (w2.heap.size≤p5):=aS (by rw [hg];exact Nat.le_refl _);have HL3:=aS hbl;clear hg hb hbl) | ((with_reducible refine eG (t:=34) (p:=5) rfl ?_);refine wpList_store_row rfl 34 _ _ rfl p5 #[.string r1,.string r2,.int .i64 r3,.string r4,.bool r5] rfl rfl 34 _ B5.out (by kernel_rfl) rfl (by kernel_rfl) ?_;have B6:=aS (setRow_heap w3 p5 _ #[.string r1,.string r2,.int .i64 r3,.string r4,.bool r5] _ _ B5.out);have HS:=aS (dS HL3.out G5.out #[.string r1,.string r2,.int .i64 r3,.string r4,.bool r5]);have BC4:=aS (aK BC2.out HS.out);have BI4:=aS (aK BI2.out HS.out);have HB4:=aS (HB2.out.trans (HS.out.mono (Nat.le_trans HNw.out HB2.out.size)));clear B5 HL3 HS G5 BC2 BI2 HB2;generalize World.setRow w3 p5 #[.string r1,.string r2,.int .i64 r3,.string r4,.bool r5]=w4 at B6 BC4 BI4 HB4 ⊢))
 have q2:=cR BC4;have q3:=lU BI4;have q5:=cR B6
 cases r6 with
 | false=>
  go_upto_region 3 with (fail)
  generalize hw_:World.setCell w4 ⟨pi,0,none⟩ (.bool false)=w5
  have BC5:ak (w5.heap[pc]? = _):=aS (hw_▸dW BC4.out (by intro e;have h1:=BC4.out;rw [e,BI4.out] at h1;injection h1 with h1;injection h1 with h1 h2;exact absurd h2 (by decide)) (.bool false) (p:=⟨pi,0,none⟩));have BI5:ak (w5.heap[pi]? = _):=aS (hw_▸bn BI4.out 0 (.bool false) rfl);have HB5:ak (Below N w w5):=aS (hw_▸HB4.out.setCell (p:=⟨pi,0,none⟩) HN.out _);clear hw_ BC4 BI4 HB4 q2 q3 q5;have q1:=lU BI5
  go_wp2
  go_ret
  exact ⟨rfl,HB5.out,BC5.out,BI5.out⟩
 | true=>
  by_cases he:r3=c2
  ·
   obtain ⟨he1,he2⟩:=jE he;subst he
   go_upto_region 3 with (fail)
   generalize hw_:World.setCell w4 ⟨pi,0,none⟩ (.bool true)=w5
   have BC5:ak (w5.heap[pc]? = _):=aS (hw_▸dW BC4.out (by intro e;have h1:=BC4.out;rw [e,BI4.out] at h1;injection h1 with h1;injection h1 with h1 h2;exact absurd h2 (by decide)) (.bool true) (p:=⟨pi,0,none⟩));have BI5:ak (w5.heap[pi]? = _):=aS (hw_▸bn BI4.out 0 (.bool true) rfl);have HB5:ak (Below N w w5):=aS (hw_▸HB4.out.setCell (p:=⟨pi,0,none⟩) HN.out _);clear hw_ BC4 BI4 HB4 q2 q3 q5;have q1:=lU BI5
   go_wp2
   go_ret
   exact ⟨by simp,HB5.out,BC5.out,by simpa using BI5.out⟩
  ·
   obtain ⟨he1,he2⟩:=ju he
   go_upto_region 3 with (fail)
   generalize hw_:World.setCell w4 ⟨pi,0,none⟩ (.bool false)=w5
   have BC5:ak (w5.heap[pc]? = _):=aS (hw_▸dW BC4.out (by intro e;have h1:=BC4.out;rw [e,BI4.out] at h1;injection h1 with h1;injection h1 with h1 h2;exact absurd h2 (by decide)) (.bool false) (p:=⟨pi,0,none⟩));have BI5:ak (w5.heap[pi]? = _):=aS (hw_▸bn BI4.out 0 (.bool false) rfl);have HB5:ak (Below N w w5):=aS (hw_▸HB4.out.setCell (p:=⟨pi,0,none⟩) HN.out _);clear hw_ BC4 BI4 HB4 q2 q3 q5;have q1:=lU BI5
   go_wp2
   go_ret
   have hbe:(true && r3 == c2)=false:=(by rw [Bool.true_and];exact beq_false_of_ne he);exact ⟨by rw [hbe];rfl,HB5.out,BC5.out,by rw [hbe];exact BI5.out⟩
theorem jN.nU (k N pc pi:Nat) (gx:Nat) (l:List av) (bs:List (List av)) (fl:List Int) (c0 c1:ByteArray) (c2:Int) (c3:ByteArray) (c4 b:Bool) (r1 r2:ByteArray) (r3:Int) (r4:ByteArray) (r5 r6:Bool) (w:World) (hc:w.heap[pc]? = some (.cells #[.string c0,.string c1,.int .i64 c2,.string c3,.bool c4] 34 (0,0))) (hi:w.heap[pi]? = some (.cells #[.bool b] 4 (0,0))) (hN:N≤pi) (hNw:N≤w.heap.size) (hA:aJ.At w 0 gx l bs fl) (h:dG.f k bs fl c0 c1 c2=some (r1,r2,r3,r4,r5,r6)) :
  Calls Tryz.prog 45 #[.func (.func 55) #[.pointer (some ⟨gx,0,none⟩)] #[],.pointer (some ⟨pc,0,none⟩),.pointer (some ⟨pi,0,none⟩)] w fun e w'=>e = .returned (.bool (r6 && r3 == c2))∧Below N w w'∧w'.heap[pc]? = some (.cells #[.string c0,.string c1,.int .i64 c2,.string c3,.bool c4] 34 (0,0))∧w'.heap[pi]? = some (.cells #[.bool (r6 && r3 == c2)] 4 (0,0)):=by
 have hu26:=Tryz.underlying34;have BC:=aS hc;have BI:=aS hi;have HN:=aS hN;have HNw:=aS hNw;have HA:=aS hA;have X:=aS h;clear hc hi hN hNw hA h;have q0:=cR BC;have q1:=lU BI
 go_enter Tryz.func45,Tryz.ntmps45
 go_upto_region 2 with (first | (go_at_call 55;(with_reducible refine (dG.calls k gx 0 l bs fl c0 c1 c2 r1 r2 r3 r4 r5 r6 _ HA.out X.out).mono ?_);rintro e_ w2 ⟨rfl,hb⟩;have BC2:=aS (aK BC.out hb);have BI2:=aS (aK BI.out hb);have HB2:=aS (hb.mono HNw.out);clear hb q0 q1) | ((with_reducible refine aX (N:=5) rfl ?_);refine aY ?hg (N:=5) ?hd (cs:=#[.string ⟨#[]⟩,.string ⟨#[]⟩,.int .i64 0,.string ⟨#[]⟩,.bool false]) (t:=34) ?hr ?_;(case hd=>rfl);(case hg=>rfl);(case hr=>(first | (go_simp;done) | (go_simp;rfl)));intro p5 hg w3 hb hbl;have B5:=aS hb;have G5:ak (w2.heap.size≤p5):=aS (by rw [hg];exact Nat.le_refl _);have HL3:=aS hbl;clear hg hb hbl) | ((with_reducible refine eG (t:=34) (p:=5) rfl ?_);refine wpList_store_row rfl 34 _ _ rfl p5 #[.string r1,.string r2,.int .i64 r3,.string r4,.bool r5] rfl rfl 34 _ B5.out (by kernel_rfl) rfl (by kernel_rfl) ?_;have B6:=aS (setRow_heap w3 p5 _ #[.string r1,.string r2,.int .i64 r3,.string r4,.bool r5] _ _ B5.out);have HS:=aS (dS HL3.out G5.out #[.string r1,.string r2,.int .i64 r3,.string r4,.bool r5]);have BC4:=aS (aK BC2.out HS.out);have BI4:=aS (aK BI2.out HS.out);have HB4:=aS (HB2.out.trans (HS.out.mono (Nat.le_trans HNw.out HB2.out.size)));clear B5 HL3 HS G5 BC2 BI2 HB2;generalize World.setRow w3 p5 #[.string r1,.string r2,.int .i64 r3,.string r4,.bool r5]=w4 at B6 BC4 BI4 HB4 ⊢))
 have q2:=cR BC4;have q3:=lU BI4;have q5:=cR B6
 cases r6 with
 | false=>
  go_upto_region 3 with (fail)
  generalize hw_:World.setCell w4 ⟨pi,0,none⟩ (.bool false)=w5
  have BC5:ak (w5.heap[pc]? = _):=aS (hw_▸dW BC4.out (by intro e;have h1:=BC4.out;rw [e,BI4.out] at h1;injection h1 with h1;injection h1 with h1 h2;exact absurd h2 (by decide)) (.bool false) (p:=⟨pi,0,none⟩));have BI5:ak (w5.heap[pi]? = _):=aS (hw_▸bn BI4.out 0 (.bool false) rfl);have HB5:ak (Below N w w5):=aS (hw_▸HB4.out.setCell (p:=⟨pi,0,none⟩) HN.out _);clear hw_ BC4 BI4 HB4 q2 q3 q5;have q1:=lU BI5
  go_wp2
  go_ret
  exact ⟨rfl,HB5.out,BC5.out,BI5.out⟩
 | true=>
  by_cases he:r3=c2
  ·
   obtain ⟨he1,he2⟩:=jE he;subst he
   go_upto_region 3 with (fail)
   generalize hw_:World.setCell w4 ⟨pi,0,none⟩ (.bool true)=w5
   have BC5:ak (w5.heap[pc]? = _):=aS (hw_▸dW BC4.out (by intro e;have h1:=BC4.out;rw [e,BI4.out] at h1;injection h1 with h1;injection h1 with h1 h2;exact absurd h2 (by decide)) (.bool true) (p:=⟨pi,0,none⟩));have BI5:ak (w5.heap[pi]? = _):=aS (hw_▸bn BI4.out 0 (.bool true) rfl);have HB5:ak (Below N w w5):=aS (hw_▸HB4.out.setCell (p:=⟨pi,0,none⟩) HN.out _);clear hw_ BC4 BI4 HB4 q2 q3 q5;have q1:=lU BI5
   go_wp2
   go_ret
   exact ⟨by simp,HB5.out,BC5.out,by simpa using BI5.out⟩
  ·
   obtain ⟨he1,he2⟩:=ju he
   go_upto_region 3 with (fail)
   generalize hw_:World.setCell w4 ⟨pi,0,none⟩ (.bool false)=w5
   have BC5:ak (w5.heap[pc]? = _):=aS (hw_▸dW BC4.out (by intro e;have h1:=BC4.out;rw [e,BI4.out] at h1;injection h1 with h1;injection h1 with h1 h2;exact absurd h2 (by decide)) (.bool false) (p:=⟨pi,0,none⟩));have BI5:ak (w5.heap[pi]? = _):=aS (hw_▸bn BI4.out 0 (.bool false) rfl);have HB5:ak (Below N w w5):=aS (hw_▸HB4.out.setCell (p:=⟨pi,0,none⟩) HN.out _);clear hw_ BC4 BI4 HB4 q2 q3 q5;have q1:=lU BI5
   go_wp2
   go_ret
   have hbe:(true && r3 == c2)=false:=(by rw [Bool.true_and];exact beq_false_of_ne he);exact ⟨by rw [hbe];rfl,HB5.out,BC5.out,by rw [hbe];exact BI5.out⟩
-- tree_Tree_find
def bT.l1 (k:Nat) (a b:ByteArray) (t:Int):List (List av × List (List av) × List Int)→Option Bool
 | []=>some false
 | x :: r=>(dG.f k x.2.1 x.2.2 a b t).bind fun q=>if (q.2.2.2.2.2 && q.2.2.1 == t)=true then some true else bT.l1 k a b t r
def bT.l0 (k:Nat) (a b:ByteArray) (t:Int):List (List (List av × List (List av) × List Int))→Option Bool
 | []=>some false
 | l :: r=>(bT.l1 k a b t l).bind fun e=>if e=true then some true else bT.l0 k a b t r
def bT.f (k:Nat) (xs:List av) (ls:List (List (List av × List (List av) × List Int))) (a b:ByteArray) (t:Int):Option Bool:=(cE.f k xs a b t).bind fun q=>if (q.2.2.2.2.2 && q.2.2.1 == t)=true then some true else bT.l0 k a b t ls
theorem bT.qj (k:Nat) (a b:ByteArray) (t:Int):∀ l,aE (bT.l1 k a b t l) (bT.l1 (k+1) a b t l)
 | []=>aE.refl _
 | x :: r=>aE.bind (dG.mono _ _ _ _ _ _) fun _=>aE.ite (aE.refl _) (bT.qj k a b t r)
theorem bT.pY (k:Nat) (a b:ByteArray) (t:Int):∀ l,aE (bT.l0 k a b t l) (bT.l0 (k+1) a b t l)
 | []=>aE.refl _
 | l :: r=>aE.bind (bT.qj k a b t l) fun _=>aE.ite (aE.refl _) (bT.pY k a b t r)
theorem bT.mono:∀ a0 a1 a2 a3 a4 k,aE (bT.f k a0 a1 a2 a3 a4) (bT.f (k+1) a0 a1 a2 a3 a4):=fun _ _ _ _ _ k=>aE.bind (cE.mono _ _ _ _ _) fun _=>aE.ite (aE.refl _) (bT.pY k _ _ _ _)
theorem bT.find (k pc pi g base:Nat) (ok:Nat→Prop) (s1 s2 s3:Int) (xs:List av) (n:Int) (ls:List (List (List av × List (List av) × List Int))) (c0 c1:ByteArray) (c2:Int) (c3:ByteArray) (c4 r:Bool) (w0 w:World) (hA:aq.At w0 base ok g s1 s2 s3 xs n ls) (hb0:Below w0.heap.size w0 w) (hc:w.heap[pc]? = some (.cells #[.string c0,.string c1,.int .i64 c2,.string c3,.bool c4] 34 (0,0))) (hi:w.heap[pi]? = some (.cells #[.bool false] 4 (0,0))) (hpi:w0.heap.size≤pi) (h:bT.f k xs ls c0 c1 c2=some r) :
  Calls Tryz.prog 35 #[.pointer (some ⟨g,0,none⟩),.func (.func 45) #[] #[.pointer (some ⟨pc,0,none⟩),.pointer (some ⟨pi,0,none⟩)]] w fun e w'=>e = .returned (.tuple #[])∧Below w0.heap.size w0 w'∧w'.heap[pi]? = some (.cells #[.bool r] 4 (0,0)):=by
 have hu30:=Tryz.underlying27;have hu51:=Tryz.underlying61;have hu23:=Tryz.underlying23;have hu49:=Tryz.underlying59;have hu53:=Tryz.underlying64;have hu24:=Tryz.underlying32;have hu61:=Tryz.underlying73;have hu75:=Tryz.underlying86
 have hmf:∀ (fn:Fn) (first cap:Array Value) (w:World),(Instr.makeFunc fn first cap).run Tryz.prog w = .ok (.func fn first cap) w:=fun _ _ _ _=>rfl
 obtain ⟨gm,vm,vl,vs,hA⟩:=hA;have HA:=aS hA;clear hA
 unfold bT.f at h
 replace h:=bV h;obtain ⟨⟨r1,r2,r3,r4,r5,r6⟩,x1,h⟩:=h;have X1:=aS x1;have HB:=aS hb0;have BC:=aS hc;have BI:=aS hi;have HPI:=aS hpi;clear x1 hb0 hc hi hpi;obtain ⟨A,cl,rfl,hcl,hmx,hat⟩:=HA.out.at;have HL:=aS HA.out.len;have HMX:=aS hmx;have HAT:=aS hat;have HAW:=aS HA.out;have HA1:=aS (HA.out.below HB.out);clear hat hmx HA;have q0:=cR (aS HA1.out.cY);replace h:(if (r6 && r3 == c2)=true then some true else bT.l0 k c0 c1 c2 ls)=some r:=h
 by_cases he:(r6 && r3 == c2)=true
 ·
  rw [if_pos he] at h
  obtain rfl:=Option.some.inj h
  have HE:=aS he;clear he h
  go_enter Tryz.func35,Tryz.ntmps35
  go_wp2_with (first | (go_at_call 45;(with_reducible refine (jN.nO k w0.heap.size pc pi gm base xs n vm c0 c1 c2 c3 c4 false r1 r2 r3 r4 r5 r6 _ BC.out BI.out HPI.out HB.out.size HA1.out.mem X1.out).mono ?_);rintro e_ w2 ⟨he_,hb,hc_,hi_⟩;rw [HE.out] at he_ hi_;subst he_;have HB2:=aS (HB.out.trans hb);have BC2:=aS hc_;have BI2:=aS hi_;clear hb hc_ hi_ q0;have q0:=cR (aS (HAW.out.below HB2.out).cY)))
  refine bodyPost_ret (results_none rfl _ _ _) rfl ?_;exact ⟨rfl,HB2.out,BI2.out⟩
 replace he:(r6 && r3 == c2)=false:=by simpa using he
 rw [if_neg (by rw [he];exact Bool.false_ne_true)] at h;have H:=aS h;have HE:=aS he;clear he h
 go_enter Tryz.func35,Tryz.ntmps35
 go_wp2_with (first | (go_at_call 45;(with_reducible refine (jN.nO k w0.heap.size pc pi gm base xs n vm c0 c1 c2 c3 c4 false r1 r2 r3 r4 r5 r6 _ BC.out BI.out HPI.out HB.out.size HA1.out.mem X1.out).mono ?_);rintro e_ w2 ⟨he_,hb,hc_,hi_⟩;rw [HE.out] at he_ hi_;subst he_;have HB2:=aS (HB.out.trans hb);have BC2:=aS hc_;have BI2:=aS hi_;clear hb hc_ hi_ q0;have q0:=cR (aS (HAW.out.below HB2.out).cY)))
 clear q0 X1 HB BC BI HE
 go_loopw [20] (fun v20 wr=>∃ (i:Nat),v20 = .int .i64 (i:Int)∧ak (i≤vs.length)∧ak (bT.l0 k c0 c1 c2 (ls.drop i)=some r)∧ak (Below w0.heap.size w0 wr)∧ak (wr.heap[pc]? = some (.cells #[.string c0,.string c1,.int .i64 c2,.string c3,.bool c4] 34 (0,0)))∧ak (wr.heap[pi]? = some (.cells #[.bool false] 4 (0,0)))) (fun i _=>vs.length - (intOf i).toNat)
 case atStart=>exact ⟨0,rfl,⟨Nat.zero_le _⟩,H,HB2,BC2,BI2⟩
 case round=>
  clear H HB2 BC2 BI2;obtain ⟨i,rfl,hi,HA0,HBr,BC,BI⟩:=hrel
  by_cases hlt:i<vs.length
  ·
   have hq1:(i:Int)<(vs.length:Int):=by omega
   obtain ⟨ad,e_,hx⟩:=HAT.out wr (fun k _ hk=>HBr.out.block k hk) i hlt;subst e_;obtain ⟨Ai,ci,ei,hli,hCi⟩:=HAW.out.cells i hlt;rw [ei] at hx;have ha:=HA0.out;rw [aq.ni ls [] i (by rw [←HL.out];exact hlt)] at ha
   obtain ⟨li,hli_⟩:∃ x,x=ls.getD i []:=⟨_,rfl⟩
   rw [←hli_] at ha hx hli hCi
   unfold bT.l0 at ha
   replace ha:=bV ha;obtain ⟨q,y1,ha⟩:=ha;have Y1:=aS y1;have HA1:=aS ha;have HCI:=aS hCi;have HLI:=aS hCi.2.1
   have hix:∀ W:World,(Instr.indexAt 59 (.slice (some ad) vs.length cl) (.int .i64 (i:Int))).run Tryz.prog W = .ok (.pointer (some (ad.add i))) W:=by
    obtain ⟨i0,hi0,hz⟩:=Option.map_eq_some_iff.1 mQ
    simp only [Prod.mk.injEq] at hz
    intro W
    have h1:=gH 59 64 hu49 hi0 1 hz.2.1 ad vs.length cl (i:Int) (by omega) (by omega) W
    rwa [Nat.mul_one,Int.toNat_natCast] at h1
   have hwr:wrap64 ((i:Int)+1)=(i:Int)+1:=by rw [←bC,IntKind.wrap_i64];have:=HMX.out;omega
   clear y1 ha HA0 hCi hi hli_ ei hli
   go_wp2
   go_loopw [26] (fun v26 wi=>∃ (j:Nat),v26 = .int .i64 (j:Int)∧ak (j≤li.length)∧ak (bT.l1 k c0 c1 c2 (li.drop j)=some q)∧ak (Below w0.heap.size w0 wi)∧ak (wi.heap[pc]? = some (.cells #[.string c0,.string c1,.int .i64 c2,.string c3,.bool c4] 34 (0,0)))∧ak (wi.heap[pi]? = some (.cells #[.bool false] 4 (0,0)))) (fun j _=>li.length - (intOf j).toNat)
   case atStart=>exact ⟨0,rfl,⟨Nat.zero_le _⟩,Y1,HBr,BC,BI⟩
   case round=>
    clear HBr Y1 hx BC BI;obtain ⟨j,rfl,hj,HP,HBr,BC,BI⟩:=hrel
    by_cases hlj:j<li.length
    ·
     have hj1:(j:Int)<(li.length:Int):=by omega
     obtain ⟨ad2,gx,e_,hy,hOP⟩:=aq.t5 (Kd.cW HCI.out HBr.out) j hlj;subst e_;have ha:=HP.out;rw [aq.ni li ([],[],[]) j hlj] at ha
     obtain ⟨x,hx_⟩:∃ x,x=li.getD j ([],[],[]):=⟨_,rfl⟩
     rw [←hx_] at ha hOP
     unfold bT.l1 at ha
     replace ha:=bV ha;obtain ⟨⟨r1,r2,r3,r4,r5,r6⟩,y2,ha⟩:=ha;replace ha:(if (r6 && r3 == c2)=true then some true else bT.l1 k c0 c1 c2 (li.drop (j+1)))=some q:=ha;have Y2:=aS y2;have HOP:=aS hOP
     have hiy:∀ W:World,(Instr.indexAt 64 (.slice (some ad2) li.length ci) (.int .i64 (j:Int))).run Tryz.prog W = .ok (.pointer (some (ad2.add j))) W:=by
      obtain ⟨i0,hi0,hz⟩:=Option.map_eq_some_iff.1 qx
      simp only [Prod.mk.injEq] at hz
      intro W
      have h1:=gH 64 86 hu53 hi0 1 hz.2.1 ad2 li.length ci (j:Int) (by omega) (by omega) W
      rwa [Nat.mul_one,Int.toNat_natCast] at h1
     have hwj:wrap64 ((j:Int)+1)=(j:Int)+1:=by rw [←bC,IntKind.wrap_i64];have:=HLI.out;omega
     clear y2 HP hOP hj hx_
     by_cases he:(r6 && r3 == c2)=true
     ·
      rw [if_pos he] at ha
      obtain rfl:=Option.some.inj ha
      have HE:=aS he;have ha:=HA1.out;rw [if_pos rfl] at ha
      obtain rfl:=Option.some.inj ha
      clear he ha
      go_wp2_with (first | (go_at_call 45;(with_reducible refine (jN.nU k w0.heap.size pc pi gx x.1 x.2.1 x.2.2 c0 c1 c2 c3 c4 false r1 r2 r3 r4 r5 r6 _ BC.out BI.out HPI.out HBr.out.size HOP.out Y2.out).mono ?_);rintro e_ w2 ⟨he_,hb,hc_,hi_⟩;rw [HE.out] at he_ hi_;subst he_;have HB2:=aS (HBr.out.trans hb);have BC2:=aS hc_;have BI2:=aS hi_;clear hb hc_ hi_))
      refine bodyPost_ret (results_none rfl _ _ _) rfl ?_;exact ⟨rfl,HB2.out,BI2.out⟩
     ·
      replace he:(r6 && r3 == c2)=false:=by simpa using he
      rw [if_neg (by rw [he];exact Bool.false_ne_true)] at ha;have HE:=aS he;have HP1:=aS ha;clear he ha
      go_wp2_with (first | (go_at_call 45;(with_reducible refine (jN.nU k w0.heap.size pc pi gx x.1 x.2.1 x.2.2 c0 c1 c2 c3 c4 false r1 r2 r3 r4 r5 r6 _ BC.out BI.out HPI.out HBr.out.size HOP.out Y2.out).mono ?_);rintro e_ w2 ⟨he_,hb,hc_,hi_⟩;rw [HE.out] at he_ hi_;subst he_;have HB2:=aS (HBr.out.trans hb);have BC2:=aS hc_;have BI2:=aS hi_;clear hb hc_ hi_))
      go_roundw
      case rel=>exact ⟨j+1,by rw [hwj];rfl,⟨hlj⟩,HP1,HB2,BC2,BI2⟩
      case measure=>exact ja hwj hlj
    ·
     have hge:¬ ((j:Int)<(li.length:Int)):=by omega
     have ha:=HP.out;rw [List.drop_eq_nil_of_le (show li.length≤j by omega)] at ha
     unfold bT.l1 at ha
     obtain e1:=Option.some.inj ha
     subst e1;have HA2:=HA1.out;rw [if_neg Bool.false_ne_true] at HA2;have HA3:=aS HA2;clear ha HP HA2
     go_wp2
     go_roundw
     case rel=>exact ⟨i+1,by rw [hwr];rfl,⟨hlt⟩,HA3,HBr,BC,BI⟩
     case measure=>exact ja hwr hlt
  ·
   have hge:¬ ((i:Int)<(vs.length:Int)):=by omega
   have ha:=HA0.out;rw [List.drop_eq_nil_of_le (show ls.length≤i by rw [←HL.out];omega)] at ha
   unfold bT.l0 at ha
   obtain e1:=Option.some.inj ha
   subst e1
   go_wp2
   go_end0
   exact ⟨rfl,HBr.out,BI.out⟩
theorem bT.calls (k g base:Nat) (ok:Nat→Prop) (s1 s2 s3:Int) (xs:List av) (n:Int) (ls:List (List (List av × List (List av) × List Int))) (c0 c1:ByteArray) (c2:Int) (c3:ByteArray) (c4 r:Bool) (w:World) (hA:aq.At w base ok g s1 s2 s3 xs n ls) (h:bT.f k xs ls c0 c1 c2=some r) :
  Calls Tryz.prog 28 #[.pointer (some ⟨g,0,none⟩),.agg #[.string c0,.string c1,.int .i64 c2,.string c3,.bool c4]] w fun e w'=>e = .returned (.bool r)∧Below w.heap.size w w':=by
 have hu26:=Tryz.underlying34
 have hmf:∀ (fn:Fn) (first cap:Array Value) (w:World),(Instr.makeFunc fn first cap).run Tryz.prog w = .ok (.func fn first cap) w:=fun _ _ _ _=>rfl
 have HA:=aS hA;have X:=aS h;clear hA h
 go_enter Tryz.func28,Tryz.ntmps28
 go_upto_region 2 with (first | ((with_reducible refine aX (N:=3) rfl ?_);refine aY ?hg (N:=3) ?hd (cs:=#[.string c0,.string c1,.int .i64 c2,.string c3,.bool c4]) (t:=34) ?hr ?_;(case hd=>rfl);(case hg=>rfl);(case hr=>(first | (go_simp;done) | (go_simp;rfl)));intro p3 hg w1 hb hbl;have B3:=aS hb;have HB1:=aS hbl;clear hg hb hbl) | ((with_reducible refine aX (N:=5) rfl ?_);refine aY ?hg (N:=5) ?hd (cs:=#[.bool false]) (t:=4) ?hr ?_;(case hd=>rfl);(case hg=>rfl);(case hr=>(first | (go_simp;done) | (go_simp;rfl)));intro p5 hg w2 hb hbl;have B5:=aS hb;have G5:ak (w.heap.size≤p5):=aS (by rw [hg];exact HB1.out.size);have B32:=aS (aK B3.out hbl);have HB2:=aS (aN HB1.out hbl);clear hg hb hbl B3 HB1;have q1:=lU B5))
 generalize hw_:World.setCell w2 ⟨p5,0,none⟩ (.bool false)=w3
 have B33:ak (w3.heap[p3]? = _):=aS (hw_▸dW B32.out (by intro e;have h1:=B32.out;rw [e,B5.out] at h1;injection h1 with h1;injection h1 with h1 h2;exact absurd h2 (by decide)) (.bool false) (p:=⟨p5,0,none⟩));have B53:ak (w3.heap[p5]? = some (.cells #[.bool false] 4 (0,0))):=aS (hw_▸bn B5.out 0 (.bool false) rfl);have HB3:ak (Below w.heap.size w w3):=aS (hw_▸HB2.out.setCell (p:=⟨p5,0,none⟩) G5.out _);clear hw_ B32 B5 HB2 q1
 go_upto_region 3 with (first | (go_at_call 35;(with_reducible refine (bT.find k p3 p5 g base ok s1 s2 s3 xs n ls c0 c1 c2 c3 c4 r w w3 HA.out HB3.out B33.out B53.out G5.out X.out).mono ?_);rintro e_ w9 ⟨rfl,hb,hi_⟩;have HB9:=aS hb;have BI9:=aS hi_;clear hb hi_))
 have q1:=lU BI9
 go_wp2
 go_ret
 exact ⟨rfl,HB9.out⟩
def gS.f (a0_0:ByteArray) (a0_1:ByteArray) (a0_2:Int) (a0_3:ByteArray) (a0_4:Bool):Option (Int):=(dn.f a0_0 a0_1 a0_2 a0_3 a0_4).bind fun t511=>(some (t511.length:Int))
theorem gS.calls (a0_0:ByteArray) (a0_1:ByteArray) (a0_2:Int) (a0_3:ByteArray) (a0_4:Bool) (r:Int) (w:World) (h:gS.f a0_0 a0_1 a0_2 a0_3 a0_4=some r) :
  Calls Tryz.prog 48 #[.agg #[.string a0_0,.string a0_1,.int .i64 a0_2,.string a0_3,.bool a0_4]] w fun e w'=>e = .returned (.int .i64 r)∧Below w.heap.size w w':=by
 have hu34:=Tryz.underlying34;have HB:=aS (Below.refl w.heap.size w);have H:((dn.f a0_0 a0_1 a0_2 a0_3 a0_4).bind fun t511=>(some (t511.length:Int)))=some r:=h;clear h;replace H:=bV H;obtain ⟨t511,A20,H⟩:=H;have A2:=aS A20;clear A20
 obtain rfl:=Option.some.inj H
 go_enter Tryz.func48,Tryz.ntmps48
 go_wp2_with (first | ((with_reducible refine aX (N:=1) rfl ?_);refine aY ?hg (N:=1) ?hd (cs:=#[.string a0_0,.string a0_1,.int .i64 a0_2,.string a0_3,.bool a0_4]) (t:=34) ?hr ?_;(case hd=>rfl);(case hg=>rfl);(case hr=>first | (go_simp;done) | (go_simp;rfl));intro gb510 hg w3 hbox hb;have BK510:=aS (hbox);have GW510:=bsize hg;have GE510:=bsize hg;replace HB:=aM hb;clear hb hbox hg;have hcz4:=cR BK510) | ((with_reducible refine aC (f:=65) rfl ?_);refine bE (some 4) rfl rfl Tryz.func65 (by kernel_rfl) rfl #[.agg #[.string a0_0,.string a0_1,.int .i64 a0_2,.string a0_3,.bool a0_4]] rfl cD ?_;(with_reducible refine (dn.calls a0_0 a0_1 a0_2 a0_3 a0_4 t511 _ A2.out).mono ?_);rintro e w5 ⟨v512,rfl,ho0,hb⟩;refine ⟨_,rfl,?_⟩;have HO513:=aS (Kd.bf ho0 (ay ar));replace BK510:=fA BK510 hb;replace HB:=aM hb;(try clear hb);(try clear hk);(try clear hi);(try clear ho0);obtain ⟨Ao6,co6,eo6⟩:=Kd.bq HO513.out;subst eo6))
 go_ret
 exact ⟨dN,ar⟩
-- NOT PRINTED: function 66 (api_Cell_66)
-- NOT PRINTED: function 97 (api_Cell_97)
-- NOT PRINTED: function 88 (api_Cell_88)
-- NOT PRINTED: function 67 (api_Cell_67)
theorem yV.ins (w:World) (base:Nat) (ok:Nat→Prop) (v:Value) (xs:List av) (x:av) (i:Nat) (vb:Nat) (HO:Kd.R cC 34 w base ok v xs) (hfresh:∀ k,w.heap.size≤k→ok k) (hbase:base≤w.heap.size) (hi:i≤xs.length)
  (hvb:w.heap[vb]? = some (.cells [.string x.f0,.string x.f1,.int .i64 x.f2,.string x.f3,.bool x.f4].toArray 34 (0,0))) (hne:some vb≠v.ownBlock) (hl:(xs.length+1)*64≤140737488355328) :
  Calls Tryz.prog 49 #[v,.int .i64 i,.slice (some ⟨vb,0,none⟩) 1 1] w fun e w'=>∃ v1:Value,e = .returned v1∧Kd.R cC 34 w' base ok v1 (xs.take i++x :: xs.drop i)∧w.grownBy w' v.ownBlock∧(v1.ownBlock=v.ownBlock∨∃ b,v1.ownBlock=some b∧w.heap.size≤b):=by
 obtain ⟨A,c,rfl,hnc,hC⟩:=Kd.fT HO;obtain ⟨i0,hi0,hz⟩:=Option.map_eq_some_iff.1 fe
 simp only [Prod.mk.injEq] at hz
 obtain ⟨hz0,hz1,hz2⟩:=hz;have u22:=Tryz.underlying32;have hcut1:=gG (P:=Tryz.prog) 32 34 .i64 u22 hi0 5 hz1 A xs.length c i (by omega) (by omega)
 rcases Nat.lt_or_ge i xs.length with hlt | hge
 case inr=>
  obtain rfl:i=xs.length:=by omega
  have HOa:=aS HO;have HX:=aS (Cl (R:=(cC).K w) (x:=x) (size:=5) hvb rfl (uz w x));clear HO hC
  go_enter Tryz.func49,Tryz.ntmps49
  go_wp2_with (at_builtin;refine Kd.fW cC (Rr:=(cC).K w) (w0:=w) base rfl _ _ 32 34 _ _ rfl u22 fe rfl (by decide) (by decide) (.slice A xs.length c) xs [x] _ _ _ ok (fun _=>False) rfl rfl HOa.out HX.out (fun _ _ hp=>hp) (fun _ hk=>hk.elim) hfresh (Below.refl _ _) hbase (by omega) ?_;(intro v1 w1 ho hb hg hat);have AO:=aS ho;have AG:=aS hg;have AT:=aS hat;clear ho hb hg hat)
  all_goals (go_ret;refine ⟨v1,rfl,?_,(by first | exact AG.out | (cases A<;>exact AG.out)),(by first | exact AT.out | (cases A<;>exact AT.out))⟩;first | (rw [List.take_length,List.drop_length];exact AO.out) | exact AO.out)
 case inl=>
  clear hC;obtain ⟨hok,inner,hown,hr⟩:=HO
  rcases hown.2 with ⟨_,h0⟩ | ⟨g,cap,cur,hv,hbg,hh,_,hcm,hcs,htake⟩
  ·
   omega
  injection hv with ha _ hc
  subst ha;subst hc;have hone:=row_one hr;replace hcs:cur.size=c*5:=hcs;replace htake:cur.toList.take (xs.length*5)=inner:=htake;have hin:inner.length=xs.length*5:=hr.1
  have hdr:(inner.drop (i*5)).length=(xs.length - i)*5:=by rw [lY,hin,Nat.sub_mul]
  have hgv:g≠vb:=fun he=>hne (by rw [he];rfl)
  have hsz:(Tryz.prog.info? 34).map (·.size)=some 5:=by rw [hi0];simp [hz1]
  have hw1:IntKind.i64.wrap ((i:Int)+1)=(i:Int)+1:=by rw [IntKind.wrap_i64];omega
  have hw2:IntKind.i64.wrap ((xs.length:Int)+1)=(xs.length:Int)+1:=by rw [IntKind.wrap_i64];omega
  have hne0:¬ ((i:Int)=(xs.length:Int)):=by omega
  have hvc:∀ (W:World),W.heap[vb]? = w.heap[vb]?→∀ j v,[Value.string x.f0,.string x.f1,.int .i64 x.f2,.string x.f3,.bool x.f4][j]? = some v→W.cell? ((⟨vb,0,none⟩:Addr).add j)=some v:=fun W hW j v hj=>by
   rw [kg,Nat.zero_add,cell_of_row W vb j _ 34 (0,0) (hW.trans hvb)]
   simpa using hj
  have hic:∀ (W:World),W.heap[g]? = w.heap[g]?→∀ j v,(inner.drop (i*5))[j]? = some v→W.cell? ((⟨g,i*5,none⟩:Addr).add j)=some v:=fun W hW j v hj=>by
   rw [kg,cell_of_row W g _ cur 34 (0,0) (hW.trans hh)];rw [List.getElem?_drop,← htake,List.getElem?_take] at hj
   split at hj
   ·
    rw [←Array.getElem?_toList];exact hj
   ·
    cases hj
  have hvone:∀ v ∈ [Value.string x.f0,.string x.f1,.int .i64 x.f2,.string x.f3,.bool x.f4],v.oneCell'=true:=(cC).K_one (uz w x)
  have hione:∀ v ∈ inner.drop (i*5),v.oneCell'=true:=fun v hv=>hone v (List.mem_of_mem_drop hv)
  have mixed:Tryz.prog.follows .mixedOrders=true:=by kernel_rfl
  rcases Nat.lt_or_ge xs.length c with hroom | hroom
  case inl=>
   have hgt:¬ ((c:Int)<(xs.length:Int)+1):=by omega
   have hcut2:∀ W:World,(Instr.slice 32 (.slice (some ⟨g,0,none⟩) xs.length c) none (some (.int .i64 ((xs.length:Int)+1))) none).run Tryz.prog W = .ok (.slice (some ⟨g,0,none⟩) (xs.length+1) c) W:=Cs (P:=Tryz.prog) 32 34 .i64 u22 hi0 _ xs.length c ((xs.length:Int)+1) (by omega) (by omega)
   have hcut3:∀ W:World,(Instr.slice 32 (.slice (some ⟨g,0,none⟩) (xs.length+1) c) (some (.int .i64 ((i:Int)+1))) none none).run Tryz.prog W = .ok (.slice (some ⟨g,(i+1)*5,none⟩) (xs.length - i) (c - (i+1))) W:=fun W=>by
    have h:=gG (P:=Tryz.prog) 32 34 .i64 u22 hi0 5 hz1 (some ⟨g,0,none⟩) (xs.length+1) c ((i:Int)+1) (by omega) (by omega) W;rw [if_neg (by omega),Option.map_some,kg,Nat.zero_add] at h
    rw [h];congr 2<;>omega
   have hcut4:∀ W:World,(Instr.slice 32 (.slice (some ⟨g,0,none⟩) (xs.length+1) c) (some (.int .i64 (i:Int))) none none).run Tryz.prog W = .ok (.slice (some ⟨g,i*5,none⟩) (xs.length+1 - i) (c - i)) W:=fun W=>by
    have h:=gG (P:=Tryz.prog) 32 34 .i64 u22 hi0 5 hz1 (some ⟨g,0,none⟩) (xs.length+1) c (i:Int) (by omega) (by omega) W;rw [if_neg (by omega),Option.map_some,kg,Nat.zero_add] at h
    rw [h];congr 2
   have hov:∀ lb cb,(callFunc 66 #[.slice (some ⟨vb,0,none⟩) 1 1,.slice (some ⟨g,(i+1)*5,none⟩) lb cb]).run Tryz.prog w = .ok (.value (.bool false)) w:=fun lb cb=>by
    rw [run_callFunc_extern Tryz.func66 (by kernel_rfl) (by kernel_rfl) (by kernel_rfl) (e:=Extern.SlicesOverlaps.overlaps #[32,32] #[4]) (by kernel_rfl),
     Lib.run_overlaps_apart w 32 4 34 u22 5 (fun w=>by simp [sizeOf,typeInfo,hi0,hz1]) ⟨vb,0,none⟩ ⟨g,(i+1)*5,none⟩ 1 1 lb cb (Ne.symm hgv) 34 34 5 cur.size (by simp [World.shape?,hvb]) (by simp [World.shape?,hh]) (by omega) (dD hvb _) (dD hvb _)]
    rfl
   obtain ⟨cur',hb1,hb2,hb3,hb4⟩:=wm (w:=w.drew) (cs:=[Value.string x.f0,.string x.f1,.int .i64 x.f2,.string x.f3,.bool x.f4]) (n:=xs.length) (i:=i) (sz:=5) hh rfl hi (by omega) hcs;rw [htake] at hb1 hb3 hb4
   have hc1:∀ ty dc sc,(Builtin.copy_ #[32,32] ty #[.slice (some ⟨g,(i+1)*5,none⟩) (xs.length - i) dc,.slice (some ⟨g,i*5,none⟩) (xs.length+1 - i) sc]).run Tryz.prog w.drew = .ok (goInt (Nat.min (xs.length+1 - i) (xs.length - i))) (w.drew.setCells g ((i+1)*5) (inner.drop (i*5))):=fun ty dc sc=>
    mZ w.drew _ _ ty 34 g _ _ dc 5 _ _ sc _ u22 hsz (by rw [hdr,show Nat.min (xs.length+1 - i) (xs.length - i)=xs.length - i from Nat.min_eq_right (by omega)]) (hic w.drew rfl) hh (by rw [hdr];omega) hione
   obtain ⟨c1,hd1,hd2,hd3⟩:=gW (inner.drop (i*5)) ((i+1)*5) w.drew cur hh (by rw [hdr];omega)
   obtain ⟨W1,hW1⟩:∃ W1,W1=w.drew.setCells g ((i+1)*5) (inner.drop (i*5)):=⟨_,rfl⟩
   rw [←hW1] at hc1 hd1 hb1 hb4
   have hc2:∀ ty dc,(Builtin.copy_ #[32,32] ty #[.slice (some ⟨g,i*5,none⟩) (xs.length+1 - i) dc,.slice (some ⟨vb,0,none⟩) 1 1]).run Tryz.prog W1 = .ok (goInt (Nat.min 1 (xs.length+1 - i))) (W1.setCells g (i*5) [Value.string x.f0,.string x.f1,.int .i64 x.f2,.string x.f3,.bool x.f4]):=fun ty dc=>
    mZ W1 _ _ ty 34 g _ _ dc 5 _ _ 1 _ u22 hsz (by rw [show Nat.min 1 (xs.length+1 - i)=1 from Nat.min_eq_left (by omega)];rfl) (hvc W1 (by rw [hW1,gV _ _ vb (Ne.symm hgv)];rfl)) hd1 (by simp;omega) hvone
   obtain ⟨W2,hW2⟩:∃ W2,W2=W1.setCells g (i*5) [Value.string x.f0,.string x.f1,.int .i64 x.f2,.string x.f3,.bool x.f4]:=⟨_,rfl⟩
   rw [←hW2] at hc2 hb1 hb4;have R2:Kd.R cC 34 W2 base ok (.slice (some ⟨g,0,none⟩) (xs.length+1) c) (xs.take i++x :: xs.drop i):=Dw (d:=cC) rfl hr (jx w base (fun _=>True) x) hi hb1 hbg (by omega) hcm hb2 (hok g rfl) hb3;have RA:=aS R2;have RG:=aS (show w.grownBy W2 (some g) from ⟨hb4.os,hb4.tape,hb4.output,hb4.size,hb4.block⟩);clear R2 hb1 hb2 hb3 hb4 hd1 hd2 hd3 hW1 hW2 hr hok hown hh hcs htake hin hdr hic hvc hone hione hvone
   go_enter Tryz.func49,Tryz.ntmps49
   go_wp2_with (simp only [hov])
   go_region_law_o (refine step_copy_runI rfl _ _ 32 32 rfl _ _ (by simp [Act.eval,Act.put]) (by simp [Act.eval,Act.put]) (hc1 _ _ _) ?_)
   go_wp2_with (at_builtin;refine wpList_copy_runI _ rfl _ _ 32 32 rfl _ _ rfl rfl (hc2 _ _) ?_)
   go_ret
   exact ⟨_,rfl,RA.out,RG.out,.inl rfl⟩
  case inr=>
   obtain rfl:c=xs.length:=by omega
   have hgt:(xs.length:Int)<(xs.length:Int)+1:=by omega
   obtain ⟨G,hG⟩:∃ G,G=grownCap w (xs.length+1) xs.length 34:=⟨_,rfl⟩
   have hGn:xs.length+1≤G:=by rw [hG];exact grownCap_ge w _ _ _
   have hGm:G≤maxLen:=by rw [hG];exact grownCap_le_maxLen w _ _ _ (by unfold maxLen;omega)
   have hold:(Builtin.firstCells i0.size i (.slice (some ⟨g,0,none⟩) i xs.length)).run Tryz.prog w.drew = .ok (inner.take (i*5)).toArray w.drew:=by
    rw [hz1];refine run_firstCells_some (w:=w.drew) 5 i ⟨g,0,none⟩ i xs.length (inner.take (i*5)) (by rw [kX,hin];omega) (fun j v hj=>?_);rw [List.getElem?_take] at hj
    split at hj
    ·
     rw [kg,Nat.zero_add,cell_of_row w.drew g j cur 34 (0,0) hh];rw [←htake,List.getElem?_take] at hj
     split at hj
     ·
      rw [←Array.getElem?_toList];exact hj
     ·
      cases hj
    ·
     cases hj
   obtain ⟨ROW,hROW⟩:∃ ROW:Array Value,ROW=(inner.take (i*5)).toArray++Builtin.zeroCells (Value.agg #[.string ⟨#[]⟩,.string ⟨#[]⟩,.int .i64 0,.string ⟨#[]⟩,.bool false]).cells (xs.length+1 - i)++Builtin.zeroCells (Value.agg #[.string ⟨#[]⟩,.string ⟨#[]⟩,.int .i64 0,.string ⟨#[]⟩,.bool false]).cells (G - (xs.length+1)):=⟨_,rfl⟩
   have hk1:IntKind.i64.wrap ((xs.length:Int)+1 - (i:Int))=(xs.length:Int)+1 - (i:Int):=by rw [IntKind.wrap_i64];omega
   have hrz:∀ ty,(Builtin.append_ #[32,3] ty #[.slice (some ⟨g,0,none⟩) i xs.length,.int .i64 ((xs.length:Int)+1 - (i:Int))]).run Tryz.prog w = .ok (.slice (some ⟨w.heap.size,0,none⟩) (xs.length+1) G) (w.drew.alloc (.cells ROW 34)):=fun ty=>by
    have h:=Lib.run_append_grow_zeros (P:=Tryz.prog) w 32 3 ty 34 i0 _ .i64 .i64 u22 Tryz.underlying3 hi0 hz0 (some ⟨g,0,none⟩) i xs.length (inner.take (i*5)) hold (xs.length+1 - i) (by omega) (by omega) (by omega) (by omega) (by rw [hz2];omega) (by rw [hz2,show i+(xs.length+1 - i)=xs.length+1 by omega];exact growslice_fits (by omega) hl);rw [show i+(xs.length+1 - i)=xs.length+1 by omega,← hG,← hROW] at h;rw [show (xs.length:Int)+1 - (i:Int)=((xs.length+1 - i:Nat):Int) by omega];exact h
   have hRs:ROW.size=G*5:=by
    rw [hROW]
    simp only [Array.size_append,List.size_toArray,kX,hin,Builtin.zeroCells,Array.size_map,Array.size_range,Value.cells]
    simp [Value.cells]
    omega
   have hRt:ROW.toList.take (i*5)=inner.take (i*5):=by
    rw [hROW,Array.append_assoc,Array.toList_append];exact List.take_left' (by rw [kX,hin];omega)
   have hcutA:∀ W:World,(Instr.slice 32 (.slice (some ⟨g,0,none⟩) xs.length xs.length) none (some (.int .i64 (i:Int))) none).run Tryz.prog W = .ok (.slice (some ⟨g,0,none⟩) i xs.length) W:=jR (P:=Tryz.prog) 32 34 .i64 u22 hi0 _ xs.length xs.length (i:Int) (by omega) (by omega) (by omega)
   have hcutB:∀ W:World,(Instr.slice 32 (.slice (some ⟨w.heap.size,0,none⟩) (xs.length+1) G) (some (.int .i64 (i:Int))) none none).run Tryz.prog W = .ok (.slice (some ⟨w.heap.size,i*5,none⟩) (xs.length+1 - i) (G - i)) W:=fun W=>by
    have h:=gG (P:=Tryz.prog) 32 34 .i64 u22 hi0 5 hz1 (some ⟨w.heap.size,0,none⟩) (xs.length+1) G (i:Int) (by omega) (by omega) W;rw [if_neg (by omega),Option.map_some,kg,Nat.zero_add] at h
    rw [h];congr 2
   have hcutC:∀ W:World,(Instr.slice 32 (.slice (some ⟨w.heap.size,0,none⟩) (xs.length+1) G) (some (.int .i64 ((i:Int)+1))) none none).run Tryz.prog W = .ok (.slice (some ⟨w.heap.size,(i+1)*5,none⟩) (xs.length - i) (G - (i+1))) W:=fun W=>by
    have h:=gG (P:=Tryz.prog) 32 34 .i64 u22 hi0 5 hz1 (some ⟨w.heap.size,0,none⟩) (xs.length+1) G ((i:Int)+1) (by omega) (by omega) W;rw [if_neg (by omega),Option.map_some,kg,Nat.zero_add] at h
    rw [h];congr 2<;>omega
   have hcutD:∀ W:World,(Instr.slice 32 (.slice (some ⟨g,0,none⟩) xs.length xs.length) (some (.int .i64 (i:Int))) none none).run Tryz.prog W = .ok (.slice (some ⟨g,i*5,none⟩) (xs.length - i) (xs.length - i)) W:=fun W=>by
    have h:=gG (P:=Tryz.prog) 32 34 .i64 u22 hi0 5 hz1 (some ⟨g,0,none⟩) xs.length xs.length (i:Int) (by omega) (by omega) W;rw [if_neg (by omega),Option.map_some,kg,Nat.zero_add] at h
    rw [h];congr 2
   clear hcut1;have hgl:g<w.heap.size:=dg hh;have hvl:vb<w.heap.size:=dg hvb
   obtain ⟨W0,hW0⟩:∃ W0,W0=w.drew.alloc (.cells ROW 34):=⟨_,rfl⟩
   have hn0:W0.heap[w.heap.size]? = some (.cells ROW 34 (0,0)):=by rw [hW0];exact heap_alloc_new w.drew _
   have ho0:∀ k,k<w.heap.size→W0.heap[k]? = w.heap[k]?:=fun k hk=>by rw [hW0];exact heap_alloc_old w.drew _ hk
   obtain ⟨W1,hW1⟩:∃ W1,W1=W0.setCells w.heap.size (i*5) [Value.string x.f0,.string x.f1,.int .i64 x.f2,.string x.f3,.bool x.f4]:=⟨_,rfl⟩
   have hc1:∀ ty dc,(Builtin.copy_ #[32,32] ty #[.slice (some ⟨w.heap.size,i*5,none⟩) (xs.length+1 - i) dc,.slice (some ⟨vb,0,none⟩) 1 1]).run Tryz.prog W0 = .ok (goInt (Nat.min 1 (xs.length+1 - i))) W1:=fun ty dc=>by
    rw [hW1];exact mZ W0 _ _ ty 34 w.heap.size _ _ dc 5 _ _ 1 _ u22 hsz (by rw [show Nat.min 1 (xs.length+1 - i)=1 from Nat.min_eq_left (by omega)];rfl) (hvc W0 (ho0 vb hvl)) hn0 (by simp;omega) hvone
   obtain ⟨c1,hd1,hd2,hd3⟩:=gW [Value.string x.f0,.string x.f1,.int .i64 x.f2,.string x.f3,.bool x.f4] (i*5) W0 ROW hn0 (by simp;omega);rw [←hW1] at hd1
   obtain ⟨W2,hW2⟩:∃ W2,W2=W1.drew.setCells w.heap.size ((i+1)*5) (inner.drop (i*5)):=⟨_,rfl⟩
   have hc2:∀ ty dc sc,(Builtin.copy_ #[32,32] ty #[.slice (some ⟨w.heap.size,(i+1)*5,none⟩) (xs.length - i) dc,.slice (some ⟨g,i*5,none⟩) (xs.length - i) sc]).run Tryz.prog W1.drew = .ok (goInt (Nat.min (xs.length - i) (xs.length - i))) W2:=fun ty dc sc=>by
    rw [hW2];exact mZ W1.drew _ _ ty 34 w.heap.size _ _ dc 5 _ _ sc _ u22 hsz (by rw [hdr,show Nat.min (xs.length - i) (xs.length - i)=xs.length - i from Nat.min_self _]) (hic W1.drew (by show W1.heap[g]? = _;rw [hW1,gV _ _ g (by omega)];exact ho0 g hgl)) hd1 (by rw [hdr];omega) hione
   have hfin:W2=(W0.drew.setCells w.heap.size (i*5) [Value.string x.f0,.string x.f1,.int .i64 x.f2,.string x.f3,.bool x.f4]).setCells w.heap.size ((i+1)*5) (inner.drop (i*5)):=by rw [hW2,hW1,drew_setCells]
   obtain ⟨cur',hb1,hb2,hb3⟩:=wV (w:=W0.drew) (g:=w.heap.size) (cs:=[Value.string x.f0,.string x.f1,.int .i64 x.f2,.string x.f3,.bool x.f4]) (n:=xs.length) (i:=i) (sz:=5) (c:=G) hn0 rfl hin hi hGn hRs hRt;rw [←hfin] at hb1;have R2:Kd.R cC 34 W2 base ok (.slice (some ⟨w.heap.size,0,none⟩) (xs.length+1) G) (xs.take i++x :: xs.drop i):=Dw (d:=cC) rfl hr (jx w base (fun _=>True) x) hi hb1 hbase hGn hGm hb2 (hfresh _ (Nat.le_refl _)) hb3;have RA:=aS R2;have s1:=iM w.heap.size (inner.drop (i*5)) ((i+1)*5) W1.drew;have s2:=iM w.heap.size [Value.string x.f0,.string x.f1,.int .i64 x.f2,.string x.f3,.bool x.f4] (i*5) W0
   have RG:ak (w.grownBy W2 (some g)):=aS ⟨by rw [hW2,s1.1];show W1.os=_;rw [hW1,s2.1,hW0];rfl,by rw [hW2,s1.2.1];show W1.tape=_;rw [hW1,s2.2.1,hW0];rfl,by rw [hW2,s1.2.2.1];show W1.output=_;rw [hW1,s2.2.2.1,hW0];rfl,
    by rw [hW2,s1.2.2.2];show _≤W1.heap.size;rw [hW1,s2.2.2.2,hW0];show _≤(w.heap.push _).size;rw [Array.size_push];omega,fun k hk _=>by rw [hW2,gV _ _ k (by omega)];show W1.heap[k]? = _;rw [hW1,gV _ _ k (by omega)];exact ho0 k hk⟩
   rw [←hW0] at hrz
   have hGi:¬ (G=i):=by omega
   clear s1 s2 R2 hfin hb1 hb2 hb3 hd1 hd2 hd3 hW1 hW2 hn0 ho0 hr hok hown hh hcs htake hin hdr hic hvc hone hione hvone hROW hRs hRt hG hold hW0
   go_enter Tryz.func49,Tryz.ntmps49
   go_wp2_with (first
    | (at_builtin;refine Lib.wpList_append_run _ rfl _ _ _ _ rfl _ _ rfl rfl _ _ (hrz _) ?_)
    | (at_builtin;refine wpList_copy_runI _ rfl _ _ 32 32 rfl _ _ rfl rfl (hc1 _ _) ?_))
   go_region_law_o (refine step_copy_runI rfl _ _ 32 32 rfl _ _ (by simp [Act.eval,Act.put]) (by simp [Act.eval,Act.put]) (hc2 _ _ _) ?_)
   go_wp2
   go_ret
   exact ⟨_,rfl,RA.out,RG.out,.inr ⟨_,rfl,Nat.le_refl _⟩⟩
def gJ.f (k:Nat) (xs:List av) (n:Int) (c0 c1:ByteArray) (c2:Int) (c3:ByteArray) (c4:Bool):Option (List av × Int × Bool):=
 (eP.f c0 c1 c2 c3 c4).bind fun ok=>if ok=true then (bB.f k xs c0 c1 c2 c3 c4).bind fun q=>if q.2=true then
  (if 0≤q.1∧q.1<(xs.length:Int) then (gS.f (af xs q.1).f0 (af xs q.1).f1 (af xs q.1).f2 (af xs q.1).f3 (af xs q.1).f4).bind fun a=>(gS.f c0 c1 c2 c3 c4).bind fun b=>some (xs.set q.1.toNat ⟨c0,c1,c2,c3,c4⟩,wrap64 (wrap64 (n - a)+b),true) else none)
  else (if 0≤q.1∧q.1≤(xs.length:Int)∧(xs.length+1)*64≤140737488355328 then (gS.f c0 c1 c2 c3 c4).bind fun b=>some (xs.take q.1.toNat++⟨c0,c1,c2,c3,c4⟩ :: xs.drop q.1.toNat,wrap64 (n+b),true) else none) else some (xs,n,false)
theorem gJ.mono:∀ k a0 a1 a2 a3 a4 a5 a6,aE (gJ.f k a0 a1 a2 a3 a4 a5 a6) (gJ.f (k+1) a0 a1 a2 a3 a4 a5 a6):=fun k a0 a1 a2 a3 a4 a5 a6=>
 aE.bind (aE.refl _) fun _=>aE.ite (aE.bind (bB.mono _ _ _ _ _ _ _) fun _=>aE.refl _) (aE.refl _)
theorem gJ.calls (k g base:Nat) (xs:List av) (n:Int) (v:Value) (c0 c1:ByteArray) (c2:Int) (c3:ByteArray) (c4:Bool) (xs':List av) (n':Int) (r:Bool) (w:World) (hA:ck.At w base g xs n v) (h:gJ.f k xs n c0 c1 c2 c3 c4=some (xs',n',r)) :
  Calls Tryz.prog 29 #[.pointer (some ⟨g,0,none⟩),.agg #[.string c0,.string c1,.int .i64 c2,.string c3,.bool c4]] w fun e w'=>e = .returned (.bool r)∧∃ v',ck.At w' base g xs' n' v'∧ck.Two w w' g v.ownBlock∧(v'.ownBlock=v.ownBlock∨∃ b,v'.ownBlock=some b∧w.heap.size≤b):=by
 have hu29:=Tryz.underlying34;have hu22:=Tryz.underlying32;have hu46:=Tryz.underlying78
 have hsz:(Tryz.prog.info? 34).map (·.size)=some 5:=by
  obtain ⟨i0,hi0,hz⟩:=Option.map_eq_some_iff.1 fe
  simp only [Prod.mk.injEq] at hz
  rw [hi0];simp [hz.2.1]
 obtain ⟨A,cc,rfl,hcl,_⟩:=hA.rows;have HA:=aS hA;have HL:=aS hcl;have H:=aS h;clear h hA hcl
 go_enter Tryz.func29,Tryz.ntmps29
 go_upto_region 1 with ((with_reducible refine aX (N:=3) rfl ?_);refine aY ?hg (N:=3) ?hd (cs:=#[.string c0,.string c1,.int .i64 c2,.string c3,.bool c4]) (t:=34) ?hr ?_;(case hd=>rfl);(case hg=>rfl);(case hr=>(first | (go_simp;done) | (go_simp;rfl)));intro p3 hg w1 hb hbl;have B3:=aS hb;have P3:ak (w.heap.size≤p3):=aS (by rw [hg];exact Nat.le_refl _);have HA1:=aS (HA.out.below hbl);have TW:=aS (ck.Two.jX hbl g (Value.slice A xs.length cc).ownBlock);clear hg hb hbl)
 have hpg:ak (p3≠g∧some p3≠(Value.slice A xs.length cc).ownBlock):=aS ⟨by have:=P3.out;have:=HA.out.lt;omega,fun he=>by have:=P3.out;have:=Kd.cK HA.out.2.2 p3 he.symm;omega⟩;have hgv:=aS HA.out.ne;have GW:=aS HA.out.lt;clear HA;have h:=H.out
 unfold gJ.f at h
 clear H;replace h:=bV h;obtain ⟨ok,x1,h⟩:=h;have X1:=aS x1;have H:=aS h;clear x1 h;have q3:=cR B3
 cases ok with
 | false=>
  have h:=H.out;rw [if_neg Bool.false_ne_true] at h
  obtain h:=Option.some.inj h
  simp only [Prod.mk.injEq] at h
  obtain ⟨rfl,rfl,rfl⟩:=h;clear H
  go_wp2_with (go_at_call 27;(with_reducible refine (eP.calls c0 c1 c2 c3 c4 false _ X1.out).mono ?_);rintro e_ w2 ⟨rfl,hb⟩;have n0_:=aS (aK B3.out hb);have n1_:=aS (HA1.out.below hb);have n2_:=aS (TW.out.step hb);clear B3 HA1 TW q3;have B3:=n0_;have HA1:=n1_;have TW:=n2_;clear n0_ n1_ n2_;clear hb)
  go_ret
  exact ⟨rfl,_,HA1.out,TW.out,.inl rfl⟩
 | true=>
 have h:=H.out;rw [if_pos rfl] at h;clear H;replace h:=bV h;obtain ⟨⟨q1,q2⟩,x2,h⟩:=h;have X2:=aS x2;have H:=aS h;clear x2 h
 go_upto_region 3 with (go_at_call 27;(with_reducible refine (eP.calls c0 c1 c2 c3 c4 true _ X1.out).mono ?_);rintro e_ w2 ⟨rfl,hb⟩;have n0_:=aS (aK B3.out hb);have n1_:=aS (HA1.out.below hb);have n2_:=aS (TW.out.step hb);clear B3 HA1 TW q3;have B3:=n0_;have HA1:=n1_;have TW:=n2_;clear n0_ n1_ n2_;clear hb)
 refine dz (n:=11) (ds:=[]) (S:=fun w'=>w'.cell? ⟨g,0,none⟩=some (.slice A xs.length cc)∧w'.rangeAt p3 0 [.string c0,.string c1,.int .i64 c2,.string c3,.bool c4]) (bA 11 0) (by kernel_rfl) rfl rfl ⟨(aG (au HA1.out.2.1) 0).trans rfl,ia (au B3.out)⟩ (fun hHeld=>?_)
 generalize hw_:World.drew _=w3 at hHeld ⊢
 have B3d:ak (w3.heap[p3]? = _):=aS (hw_▸au B3.out);have HAd:ak (ck.At w3 base g _ _ _):=aS (hw_▸HA1.out.below (bN (Below.refl _ _)));have TWd:ak (ck.Two w w3 g _):=aS (hw_▸TW.out.step (bN (Below.refl _ _)));clear hw_ B3 HA1 TW;refine cH (T:=(true,[([],[]),([0],[0]),([1],[1]),([2],[2]),([],[]),([3,4],[3,4]),([5],[5]),([6],[6]),([6],[6]),([7,5,0,1,2,3,4,5,6,7],[7]),([8,9,0,1,2,3,4,5,6,7,8,9],[8])])) (B:=[0,1,3,7,0,31,63,127,127,255,1023]) (by kernel_rfl) (by kernel_rfl) (fun HT_ HW_=>?_);refine aZ [(0,11),(1,12),(2,13)] ?_
 iterate 3 (refine cr HT_ ?_)
 refine bX (bA 11 7) (by kernel_rfl) ?_;refine aZ [(3,14)] ?_
 iterate 1 (refine d_ HT_ HW_ hHeld ?_)
 refine bX (bA 11 15) (by kernel_rfl) ?_;refine iw (i:=4) (N:=(some 15)) (v:=.agg #[.string c0,.string c1,.int .i64 c2,.string c3,.bool c4]) (a':=?_) (bA 11 31) rfl rfl (iD HT_.out HW_.out (by kernel_rfl)) (fun _ _ _ h=>h) (yieldsIf_load_mid (by rfl) 34 _ rfl p3 0 (by go_simp) _ _ (fun w' hw'=>hw'.2) hu29 rfl hsz) hHeld ?_ ?_
 rotate_left
 ·
  simp only [Act.put,dw,dx,lss,bC,cm]
  rfl
 refine dJ 5 (N:=some 16) (bA 11 63) HT_ (fun K hK=>?_);refine ep Tryz.func46 (by kernel_rfl) rfl #[.slice A xs.length cc,.agg #[.string c0,.string c1,.int .i64 c2,.string c3,.bool c4],.func (.func 47) #[] #[]] (by rfl) rfl rfl cD ?_
 with_reducible refine (bB.calls k A cc xs c0 c1 c2 c3 c4 q1 q2 _ HAd.out.reads HL.out X2.out).mono ?_
 rintro e_ w4 ⟨rfl,hb⟩
 refine ⟨_,rfl,?_⟩;have B3:=aS (aK B3d.out hb);have HA1:=aS (HAd.out.below hb);have TW:=aS (TWd.out.step hb);clear hb B3d HAd TWd;refine hK.out _ _ ⟨(aG HA1.out.2.1 0).trans rfl,ia B3.out⟩ (fun hHeld=>?_);clear hK K;refine nm 16 ?_;refine aZ [(6,10),(7,17),(8,18),(9,5),(10,6)] ?_
 iterate 5 (refine cr HT_ ?_)
 refine bX (bA 11 2047) (by kernel_rfl) ?_;refine dQ (cX HT_.out (by kernel_rfl)) ?_;clear hHeld HT_ HW_
 cases q2 with
 | false=>
  have h:=H.out;clear H;replace h:(if 0≤q1∧q1≤(xs.length:Int)∧(xs.length+1)*64≤140737488355328 then (gS.f c0 c1 c2 c3 c4).bind fun b=>some (xs.take q1.toNat++⟨c0,c1,c2,c3,c4⟩ :: xs.drop q1.toNat,wrap64 (n+b),true) else none)=some (xs',n',r):=h
  by_cases hq:0≤q1∧q1≤(xs.length:Int)∧(xs.length+1)*64≤140737488355328
  case neg=>rw [if_neg hq] at h;cases h
  rw [if_pos hq] at h;replace h:=bV h;obtain ⟨b8,x8,h⟩:=h;have X8:=aS x8
  obtain h:=Option.some.inj h
  simp only [Prod.mk.injEq] at h
  obtain ⟨rfl,rfl,rfl⟩:=h;obtain ⟨i,rfl⟩:=Int.eq_ofNat_of_zero_le hq.1;have HQ:ak (i≤xs.length∧(xs.length+1)*64≤140737488355328):=aS ⟨by have:=hq.2.1;omega,hq.2.2⟩;clear x8 hq X2
  go_upto_region 7 with (fail)
  refine dz (n:=12) (ds:=[8,11]) (S:=fun w'=>w'.cell? ⟨g,0,none⟩=some (.slice A xs.length cc)∧w'.rangeAt p3 0 [.string c0,.string c1,.int .i64 c2,.string c3,.bool c4]) (bA 12 0) (by kernel_rfl) rfl rfl ⟨(aG (au HA1.out.2.1) 0).trans rfl,ia (au B3.out)⟩ (fun hHeld=>?_)
  generalize hw_:World.drew _=w5 at hHeld ⊢
  have B3d:ak (w5.heap[p3]? = _):=aS (hw_▸au B3.out);have HAd:ak (ck.At w5 base g _ _ _):=aS (hw_▸HA1.out.below (bN (Below.refl _ _)));have TWd:ak (ck.Two w w5 g _):=aS (hw_▸TW.out.step (bN (Below.refl _ _)));clear hw_ B3 HA1 TW;refine cH (T:=(true,[([],[]),([],[]),([1],[1]),([2],[2]),([3],[3]),([],[]),([],[]),([6],[6]),([4,5,7],[4,5,7]),([0,0,1,2,3,4,5,6,7,8],[0]),([9,0,1,2,3,4,5,6,7,8],[9]),([10,8,8,0,1,2,3,4,5,6,7,8],[8,10])])) (B:=[0,0,2,6,14,0,0,64,254,511,1023,2047]) (by kernel_rfl) (by kernel_rfl) (fun HT_ HW_=>?_);refine aZ [(0,42),(1,43),(2,44),(3,45),(5,47)] ?_
  iterate 5 (refine cr HT_ ?_)
  refine bX (bA 12 47) (by kernel_rfl) ?_;refine aZ [(4,46)] ?_
  iterate 1 (refine d_ HT_ HW_ hHeld ?_)
  refine bX (bA 12 63) (by kernel_rfl) ?_;refine iw (i:=6) (N:=(some 48)) (v:=.agg #[.string c0,.string c1,.int .i64 c2,.string c3,.bool c4]) (a':=?_) (bA 12 127) rfl rfl (iD HT_.out HW_.out (by kernel_rfl)) (fun _ _ _ h=>h) (yieldsIf_load_mid (by rfl) 34 _ rfl p3 0 (by go_simp) _ _ (fun w' hw'=>hw'.2) hu29 rfl hsz) hHeld ?_ ?_
  rotate_left
  ·
   simp only [Act.put,dw,dx,lss,bC,cm]
   rfl
  refine dJ 7 (N:=some 49) (bA 12 255) HT_ (fun K hK=>?_);refine lX (w1:=?_) (v:=?_) (by rfl) rfl ?_ ?_
  rotate_left 2
  ·
   go_simp
   constructor
   ·
    rfl
   ·
    rfl
  refine hK.out _ _ ⟨(aG (ax HAd.out.2.1 _) 0).trans rfl,ia (ax B3d.out _)⟩ (fun hHeld=>?_);clear hK K;refine nm 49 ?_;have hv6:=heap_alloc_new w5 (.cells [.string c0,.string c1,.int .i64 c2,.string c3,.bool c4].toArray 34 (0,0));have hbl6:=tQ (Below.refl w5.heap.size w5) (.cells [.string c0,.string c1,.int .i64 c2,.string c3,.bool c4].toArray 34 (0,0));have hw5:=HAd.out;have VN:ak (some w5.heap.size≠(Value.slice A xs.length cc).ownBlock):=aS (fun he=>by have:=Kd.cK HAd.out.2.2 _ he.symm;omega);have HA1:=aS (HAd.out.below hbl6);have B3:=aS (aK B3d.out hbl6);have TW:=aS (TWd.out.step hbl6);have V6:=aS hv6;clear hv6 hbl6 hw5 HAd B3d TWd;refine jT (i:=8) (N:=(some 50)) (bA 12 511) rfl rfl (jM HT_.out (by kernel_rfl)) (by decide) (fun K hK=>?_)
  
  refine ep Tryz.func49 (by kernel_rfl) rfl #[.slice A xs.length cc,.int .i64 i,.slice (some ⟨w5.heap.size,0,none⟩) 1 1] (by rfl) rfl rfl cD ?_;refine (yV.ins _ base (fun _=>True) (.slice A xs.length cc) xs (⟨c0,c1,c2,c3,c4⟩:av) i w5.heap.size HA1.out.2.2 (fun _ _=>trivial) (by have:=HA1.out.1;have:=HA1.out.lt;omega) HQ.out.1 V6.out VN.out HQ.out.2).mono ?_
  rintro e_ w7 ⟨v1,rfl,ho,hg,hat⟩
  refine ⟨_,rfl,?_⟩;have G7:=aS (er HA1.out.2.1 hg HA1.out.ne);have B37:=aS (er B3.out hg hpg.out.2);have R7:=aS ho;have T7:=aS (TW.out.trans (ck.Two.grown hg g) (.inl rfl));have AT:ak (v1.ownBlock=(Value.slice A xs.length cc).ownBlock∨∃ b,v1.ownBlock=some b∧w.heap.size≤b):=aS (hat.imp_right fun ⟨b,hb,hle⟩=>⟨b,hb,by have:=TW.out.size;omega⟩);have BG:=aS HA1.out.1;clear ho hg hat HA1 B3 TW V6 VN;refine hK.out _ _ ?_;clear hK K;refine nm 50 ?_;refine aZ [(9,51),(10,52)] ?_
  iterate 2 (refine cr HT_ ?_)
  refine bX (bA 12 2047) (by kernel_rfl) ?_;refine jT (i:=11) (N:=none) (bA 12 4095) rfl rfl (jM HT_.out (by kernel_rfl)) (by decide) (fun K hK=>?_);rw [if_pos (by rfl)]
  obtain ⟨ys,hys⟩:∃ ys,ys=xs.take i++(⟨c0,c1,c2,c3,c4⟩:av) :: xs.drop i:=⟨_,rfl⟩
  have R8:ak (Kd.R _ _ w7 base _ v1 ys):=aS (hys▸R7.out);have HY:=aS hys;clear hys R7;obtain ⟨A1,cc1,rfl⟩:=Kd.bq R8.out;have hfz:=dD G7.out 0;have hcl:=(aG G7.out 0).trans rfl;have HA1:ak (ck.At (w7.setCell ⟨g,0,none⟩ (.slice A1 ys.length cc1)) base g ys n (.slice A1 ys.length cc1)):=aS ⟨BG.out,bn G7.out 0 _ rfl,Kd.jF R8.out G7.out (by decide) 0 _⟩;have TW:=aS (T7.out.trans (ck.Two.set w7 g 0 (.slice A1 ys.length cc1) (Value.slice A xs.length cc).ownBlock) (.inl rfl));have B3:=aS (dW B37.out hpg.out.1 (.slice A1 ys.length cc1) (p:=⟨g,0,none⟩))
  unfold Oper.wp
  go_simp
  refine hK.out _ _ ?_;clear hK K;refine dQ (cX HT_.out (by kernel_rfl)) ?_;clear hfz hcl HT_ HW_ G7 B37 R8 T7 BG
  go_upto_region 8 with (fail)
  refine dz (n:=10) (ds:=[9]) (S:=fun w'=>w'.cell? ⟨g,1,none⟩=some (.int .i64 n)∧w'.rangeAt p3 0 [.string c0,.string c1,.int .i64 c2,.string c3,.bool c4]) (bA 10 0) (by kernel_rfl) rfl rfl ⟨(aG (au HA1.out.2.1) 1).trans rfl,ia (au B3.out)⟩ (fun hHeld=>?_)
  generalize hw_:World.drew _=w20 at hHeld ⊢
  have B3d:ak (w20.heap[p3]? = _):=aS (hw_▸au B3.out);have HAd:ak (ck.At w20 base g _ _ _):=aS (hw_▸HA1.out.below (bN (Below.refl _ _)));have TWd:ak (ck.Two w w20 g _):=aS (hw_▸TW.out.step (bN (Below.refl _ _)));clear hw_ B3 HA1 TW;refine cH (T:=(true,[([],[]),([0],[0]),([1],[1]),([2],[2]),([],[]),([4],[4]),([3,5],[3,5]),([0,0,1,2,3,4,5,6],[0]),([7,0,1,2,3,4,5,6],[7]),([8,6,5,0,1,2,3,4,5,6],[6,8])])) (B:=[0,1,3,7,0,16,63,127,255,511]) (by kernel_rfl) (by kernel_rfl) (fun HT_ HW_=>?_);refine aZ [(0,53),(1,54),(2,55)] ?_
  iterate 3 (refine cr HT_ ?_)
  refine bX (bA 10 7) (by kernel_rfl) ?_;refine aZ [(3,56)] ?_
  iterate 1 (refine d_ HT_ HW_ hHeld ?_)
  refine bX (bA 10 15) (by kernel_rfl) ?_;refine iw (i:=4) (N:=(some 57)) (v:=.agg #[.string c0,.string c1,.int .i64 c2,.string c3,.bool c4]) (a':=?_) (bA 10 31) rfl rfl (iD HT_.out HW_.out (by kernel_rfl)) (fun _ _ _ h=>h) (yieldsIf_load_mid (by rfl) 34 _ rfl p3 0 (by go_simp) _ _ (fun w' hw'=>hw'.2) hu29 rfl hsz) hHeld ?_ ?_
  rotate_left
  ·
   simp only [Act.put,dw,dx,lss,bC,cm]
   rfl
  refine dJ 5 (N:=some 58) (bA 10 63) HT_ (fun K hK=>?_);refine ep Tryz.func48 (by kernel_rfl) rfl #[.agg #[.string c0,.string c1,.int .i64 c2,.string c3,.bool c4]] (by rfl) rfl rfl cD ?_
  with_reducible refine (gS.calls c0 c1 c2 c3 c4 b8 _ X8.out).mono ?_
  rintro e_ w21 ⟨rfl,hb⟩
  refine ⟨_,rfl,?_⟩;have B3:=aS (aK B3d.out hb);have HA1:=aS (HAd.out.below hb);have TW:=aS (TWd.out.step hb);clear hb B3d HAd TWd;refine hK.out _ _ ⟨(aG HA1.out.2.1 1).trans rfl,ia B3.out⟩ (fun hHeld=>?_);clear hK K;refine nm 58 ?_;refine aZ [(6,59),(7,60),(8,61)] ?_
  iterate 3 (refine cr HT_ ?_)
  refine bX (bA 10 511) (by kernel_rfl) ?_;refine jT (i:=9) (N:=none) (bA 10 1023) rfl rfl (jM HT_.out (by kernel_rfl)) (by decide) (fun K hK=>?_);rw [if_pos (by rfl)];have hfz:=dD HA1.out.2.1 1;have hcl:=(aG HA1.out.2.1 1).trans rfl;have HA2:ak (ck.At (w21.setCell ⟨g,1,none⟩ (.int .i64 (wrap64 (n+b8)))) base g ys (wrap64 (n+b8)) (.slice A1 ys.length cc1)):=aS ⟨HA1.out.1,bn HA1.out.2.1 1 _ rfl,Kd.jF HA1.out.2.2 HA1.out.2.1 (by decide) 1 _⟩;have TW2:=aS (TW.out.trans (ck.Two.set w21 g 1 (.int .i64 (wrap64 (n+b8))) (Value.slice A xs.length cc).ownBlock) (.inl rfl))
  unfold Oper.wp
  go_simp
  refine hK.out _ _ ?_;clear hK K;refine dQ (cX HT_.out (by kernel_rfl)) ?_;clear hfz hcl HT_ HW_
  go_wp2
  go_ret
  have e_:=HY.out;subst e_;exact ⟨rfl,_,HA2.out,TW2.out,AT.out⟩
 | true=>
  have h:=H.out;clear H;replace h:(if 0≤q1∧q1<(xs.length:Int) then (gS.f (af xs q1).f0 (af xs q1).f1 (af xs q1).f2 (af xs q1).f3 (af xs q1).f4).bind fun a=>(gS.f c0 c1 c2 c3 c4).bind fun b=>some (xs.set q1.toNat ⟨c0,c1,c2,c3,c4⟩,wrap64 (wrap64 (n - a)+b),true) else none)=some (xs',n',r):=h
  by_cases hq:0≤q1∧q1<(xs.length:Int)
  case neg=>rw [if_neg hq] at h;cases h
  rw [if_pos hq] at h;replace h:=bV h;obtain ⟨a5,x5,h⟩:=h;replace h:=bV h;obtain ⟨b8,x8,h⟩:=h;have X5:=aS x5;have X8:=aS x8
  obtain h:=Option.some.inj h
  simp only [Prod.mk.injEq] at h
  obtain ⟨rfl,rfl,rfl⟩:=h;clear x5 x8;have hq0:=hq.1;have hq1:=hq.2;obtain ⟨gr,cap,hv,_,_,cur_,hcur_⟩:=Kd.kp HA1.out.2.2 (by omega)
  injection hv with ha _ hc
  subst ha;subst hc;have hne:ak (gr≠g∧p3≠gr):=aS ⟨fun he=>HA1.out.ne (by rw [he];rfl),fun he=>hpg.out.2 (by rw [he];rfl)⟩;have hn29:ak ((w4.heap[gr]? = some (.cells cur_ 34 (0,0)))):=aS hcur_;clear hq hcur_ X2
  have hix:∀ W:World,(Instr.indexAt 32 (.slice (some ⟨gr,0,none⟩) xs.length cc) (.int .i64 q1)).run Tryz.prog W = .ok (.pointer (some ⟨gr,q1.toNat*5,none⟩)) W:=by
   obtain ⟨i0,hi0,hz⟩:=Option.map_eq_some_iff.1 hsz;exact ye 32 34 hu22 hi0 5 hz gr xs.length cc q1 hq0 hq1
  obtain ⟨ce,_,hcM,hcc,_⟩:=Kd.mM HA1.out.2.2 Dv q1 hq0 hq1
  obtain rfl:=Cc hcM
  clear hcM
  obtain ⟨xi,hxi⟩:∃ xi,xi=af xs q1:=⟨_,rfl⟩
  have RC:ak (w4.rangeAt gr (q1.toNat*5) [.string xi.f0,.string xi.f1,.int .i64 xi.f2,.string xi.f3,.bool xi.f4]):=aS (fun j u hj=>hcc j u (by rw [hxi] at hj;exact hj));have X5:ak (gS.f xi.f0 xi.f1 xi.f2 xi.f3 xi.f4=some a5):=aS (by rw [hxi];exact X5.out);clear hcc hxi
  go_upto_region 5 with (fail)
  refine dz (n:=16) (ds:=[15]) (S:=fun w'=>w'.cell? ⟨g,0,none⟩=some (.slice (some ⟨gr,0,none⟩) xs.length cc)∧w'.cell? ⟨g,1,none⟩=some (.int .i64 n)∧w'.rangeAt gr (q1.toNat*5) [.string xi.f0,.string xi.f1,.int .i64 xi.f2,.string xi.f3,.bool xi.f4]) (bA 16 0) (by kernel_rfl) rfl rfl ⟨(aG (au HA1.out.2.1) 0).trans rfl,(aG (au HA1.out.2.1) 1).trans rfl,fun j u hj=>RC.out j u hj⟩ (fun hHeld=>?_)
  generalize hw_:World.drew _=w8 at hHeld ⊢
  have B3d:ak (w8.heap[p3]? = _):=aS (hw_▸au B3.out);have HAd:ak (ck.At w8 base g _ _ _):=aS (hw_▸HA1.out.below (bN (Below.refl _ _)));have TWd:ak (ck.Two w w8 g _):=aS (hw_▸TW.out.step (bN (Below.refl _ _)));clear hw_ B3 HA1 TW;clear RC;refine cH (T:=(true,[([],[]),([0],[0]),([1],[1]),([2],[2]),([],[]),([4],[4]),([5],[5]),([6],[6]),([],[]),([7,8],[7,8]),([9],[9]),([10],[10]),([3,11],[3,11]),([0,0,1,2,3,4,5,6,7,8,9,10,11,12],[0]),([13,0,1,2,3,4,5,6,7,8,9,10,11,12],[13]),([14,12,11,0,1,2,3,4,5,6,7,8,9,10,11,12],[12,14])])) (B:=[0,1,3,7,0,16,48,112,0,496,1008,2032,4095,8191,16383,32767]) (by kernel_rfl) (by kernel_rfl) (fun HT_ HW_=>?_);refine aZ [(0,20),(1,21),(2,22),(4,24),(5,25),(6,26),(8,28)] ?_
  iterate 7 (refine cr HT_ ?_)
  refine bX (bA 16 375) (by kernel_rfl) ?_;refine aZ [(3,23),(7,27)] ?_
  iterate 2 (refine d_ HT_ HW_ hHeld ?_)
  refine bX (bA 16 511) (by kernel_rfl) ?_;refine aZ [(9,29)] ?_
  iterate 1 (refine cr HT_ ?_)
  refine bX (bA 16 1023) (by kernel_rfl) ?_;refine iw (i:=10) (N:=(some 30)) (v:=.agg #[.string xi.f0,.string xi.f1,.int .i64 xi.f2,.string xi.f3,.bool xi.f4]) (a':=?_) (bA 16 2047) rfl rfl (iD HT_.out HW_.out (by kernel_rfl)) (fun _ _ _ h=>h) (yieldsIf_load_mid (by rfl) 34 _ rfl gr (q1.toNat*5) (by go_simp) _ _ (fun w' hw'=>hw'.2.2) hu29 rfl hsz) hHeld ?_ ?_
  rotate_left
  ·
   simp only [Act.put,dw,dx,lss,bC,cm]
   rfl
  refine dJ 11 (N:=some 31) (bA 16 4095) HT_ (fun K hK=>?_);refine ep Tryz.func48 (by kernel_rfl) rfl #[.agg #[.string xi.f0,.string xi.f1,.int .i64 xi.f2,.string xi.f3,.bool xi.f4]] (by rfl) rfl rfl cD ?_
  with_reducible refine (gS.calls xi.f0 xi.f1 xi.f2 xi.f3 xi.f4 a5 _ X5.out).mono ?_
  rintro e_ w9 ⟨rfl,hb⟩
  refine ⟨_,rfl,?_⟩;have RC:=aS (show w9.rangeAt gr (q1.toNat*5) [.string xi.f0,.string xi.f1,.int .i64 xi.f2,.string xi.f3,.bool xi.f4] from fun j u hj=>mg hb (hHeld.2.2 j u hj));have B3:=aS (aK B3d.out hb);have HA1:=aS (HAd.out.below hb);have TW:=aS (TWd.out.step hb);clear hb B3d HAd TWd;refine hK.out _ _ ⟨(aG HA1.out.2.1 0).trans rfl,(aG HA1.out.2.1 1).trans rfl,RC.out⟩ (fun hHeld=>?_);clear hK K;refine nm 31 ?_;refine aZ [(12,32),(13,33),(14,34)] ?_
  iterate 3 (refine cr HT_ ?_)
  refine bX (bA 16 32767) (by kernel_rfl) ?_;refine jT (i:=15) (N:=none) (bA 16 65535) rfl rfl (jM HT_.out (by kernel_rfl)) (by decide) (fun K hK=>?_);rw [if_pos (by rfl)];have hfz:=dD HA1.out.2.1 1;have hcl:=(aG HA1.out.2.1 1).trans rfl;have HA2:ak (ck.At (w9.setCell ⟨g,1,none⟩ (.int .i64 (wrap64 (n - a5)))) base g xs (wrap64 (n - a5)) (.slice (some ⟨gr,0,none⟩) xs.length cc)):=aS ⟨HA1.out.1,bn HA1.out.2.1 1 _ rfl,Kd.jF HA1.out.2.2 HA1.out.2.1 (by decide) 1 _⟩;have TW2:=aS (TW.out.trans (ck.Two.set w9 g 1 (.int .i64 (wrap64 (n - a5))) (Value.slice (some ⟨gr,0,none⟩) xs.length cc).ownBlock) (.inl rfl));have B32:=aS (dW B3.out hpg.out.1 (.int .i64 (wrap64 (n - a5))) (p:=⟨g,1,none⟩))
  unfold Oper.wp
  go_simp
  refine hK.out _ _ ?_;clear hK K;refine dQ (cX HT_.out (by kernel_rfl)) ?_;clear hfz hcl HT_ HW_ HA1 TW B3 RC;have HA1:=aS HA2.out;have TW:=aS TW2.out;have B3:=aS B32.out;clear HA2 TW2 B32
  generalize w9.setCell ⟨g,1,none⟩ (.int .i64 (wrap64 (n - a5)))=w10 at HA1 TW B3 ⊢
  generalize hn5:wrap64 (n - a5)=n5 at HA1 ⊢
  have HN5:=aS hn5;clear hn5
  go_upto_region 6 with (fail)
  refine dz (n:=8) (ds:=[7]) (S:=fun w'=>w'.cell? ⟨g,0,none⟩=some (.slice (some ⟨gr,0,none⟩) xs.length cc)∧w'.rangeAt p3 0 [.string c0,.string c1,.int .i64 c2,.string c3,.bool c4]) (bA 8 0) (by kernel_rfl) rfl rfl ⟨(aG (au HA1.out.2.1) 0).trans rfl,ia (au B3.out)⟩ (fun hHeld=>?_)
  generalize hw_:World.drew _=w11 at hHeld ⊢
  have B3d:ak (w11.heap[p3]? = _):=aS (hw_▸au B3.out);have HAd:ak (ck.At w11 base g _ _ _):=aS (hw_▸HA1.out.below (bN (Below.refl _ _)));have TWd:ak (ck.Two w w11 g _):=aS (hw_▸TW.out.step (bN (Below.refl _ _)));clear hw_ B3 HA1 TW;refine cH (T:=(true,[([],[]),([0],[0]),([1],[1]),([2],[2]),([],[]),([],[]),([3,4,0,1,2,3,4,5],[3,4]),([6,5,0,1,2,3,4,5],[5,6])])) (B:=[0,1,3,7,0,0,63,127]) (by kernel_rfl) (by kernel_rfl) (fun HT_ HW_=>?_);refine aZ [(0,35),(1,36),(2,37),(4,39)] ?_
  iterate 4 (refine cr HT_ ?_)
  refine bX (bA 8 23) (by kernel_rfl) ?_;refine aZ [(3,38)] ?_
  iterate 1 (refine d_ HT_ HW_ hHeld ?_)
  refine bX (bA 8 31) (by kernel_rfl) ?_;refine iw (i:=5) (N:=(some 40)) (v:=.agg #[.string c0,.string c1,.int .i64 c2,.string c3,.bool c4]) (a':=?_) (bA 8 63) rfl rfl (iD HT_.out HW_.out (by kernel_rfl)) (fun _ _ _ h=>h) (yieldsIf_load_mid (by rfl) 34 _ rfl p3 0 (by go_simp) _ _ (fun w' hw'=>hw'.2) hu29 rfl hsz) hHeld ?_ ?_
  rotate_left
  ·
   simp only [Act.put,dw,dx,lss,bC,cm]
   rfl
  refine aZ [(6,41)] ?_
  iterate 1 (refine cr HT_ ?_)
  refine bX (bA 8 127) (by kernel_rfl) ?_;refine jT (i:=7) (N:=none) (bA 8 255) rfl rfl (jM HT_.out (by kernel_rfl)) (by decide) (fun K hK=>?_);obtain ⟨ce,hcel,_,hcc,_⟩:=Kd.mM HAd.out.2.2 Dv q1 hq0 hq1
  obtain ⟨hr2,hg2⟩:=Kd.wD HAd.out.2.2 q1 hq0 hq1 (c:=ce) (seg:=[.string c0,.string c1,.int .i64 c2,.string c3,.bool c4]) (j:=0) (x':=(⟨c0,c1,c2,c3,c4⟩:av)) (okp:=fun _=>False) hcel hcc (Nat.le_refl 5) (by
   rw [List.take_zero,List.nil_append,List.drop_of_length_le (by rw [hcel];exact Nat.le_refl 5),List.append_nil]
   exact jx w11 base (fun _=>False) (⟨c0,c1,c2,c3,c4⟩:av)) (fun _ hk=>hk.elim)
  obtain ⟨ch,hh11⟩:=Kd.gn HAd.out.2.2 gr rfl;have hsz11:=tZ HAd.out.2.2 hh11
  obtain ⟨w12,hw12⟩:∃ w12,w12=w11.setCells gr (q1.toNat*5) [.string c0,.string c1,.int .i64 c2,.string c3,.bool c4]:=⟨_,rfl⟩
  obtain ⟨ys,hys⟩:∃ ys,ys=xs.set q1.toNat (⟨c0,c1,c2,c3,c4⟩:av):=⟨_,rfl⟩
  replace hr2:Kd.R cC 34 w12 base (fun _=>True) (.slice (some ⟨gr,0,none⟩) xs.length cc) ys:=by rw [hw12,hys];exact hr2
  replace hg2:w11.grownBy w12 (some gr):=by rw [hw12];exact hg2
  refine oB (by rfl) 34 _ _ rfl rfl (by rfl) (.agg #[.string c0,.string c1,.int .i64 c2,.string c3,.bool c4]) (by rfl) [.string c0,.string c1,.int .i64 c2,.string c3,.bool c4] rfl hsz hh11 (by have h5:xs.length*5≤ch.size:=hsz11;show q1.toNat*5+5≤ch.size;omega) ((cC).K_one (uz w11 (⟨c0,c1,c2,c3,c4⟩:av))) ?_;have GA:=er HAd.out.2.1 hg2 (fun he=>hne.out.1 (by injection he with he;exact he.symm));have B3:=aS (er B3d.out hg2 (fun he=>hne.out.2 (by injection he)));have HA1:ak (ck.At w12 base g ys n5 (.slice (some ⟨gr,0,none⟩) xs.length cc)):=aS ⟨HAd.out.1,GA,hr2⟩;have TW:=aS (TWd.out.trans (ck.Two.grown hg2 g) (.inl rfl));have HY:=aS hys;rw [←hw12];clear hw12 hys hsz11;refine hK.out _ _ ?_;clear hK K;refine dQ (cX HT_.out (by kernel_rfl)) ?_;clear GA hr2 hg2 hcc hcel hh11 HT_ HW_ B3d HAd TWd hHeld
  go_upto_region 8 with (fail)
  refine dz (n:=10) (ds:=[9]) (S:=fun w'=>w'.cell? ⟨g,1,none⟩=some (.int .i64 n5)∧w'.rangeAt p3 0 [.string c0,.string c1,.int .i64 c2,.string c3,.bool c4]) (bA 10 0) (by kernel_rfl) rfl rfl ⟨(aG (au HA1.out.2.1) 1).trans rfl,ia (au B3.out)⟩ (fun hHeld=>?_)
  generalize hw_:World.drew _=w20 at hHeld ⊢
  have B3d:ak (w20.heap[p3]? = _):=aS (hw_▸au B3.out);have HAd:ak (ck.At w20 base g _ _ _):=aS (hw_▸HA1.out.below (bN (Below.refl _ _)));have TWd:ak (ck.Two w w20 g _):=aS (hw_▸TW.out.step (bN (Below.refl _ _)));clear hw_ B3 HA1 TW;refine cH (T:=(true,[([],[]),([0],[0]),([1],[1]),([2],[2]),([],[]),([4],[4]),([3,5],[3,5]),([0,0,1,2,3,4,5,6],[0]),([7,0,1,2,3,4,5,6],[7]),([8,6,5,0,1,2,3,4,5,6],[6,8])])) (B:=[0,1,3,7,0,16,63,127,255,511]) (by kernel_rfl) (by kernel_rfl) (fun HT_ HW_=>?_);refine aZ [(0,53),(1,54),(2,55)] ?_
  iterate 3 (refine cr HT_ ?_)
  refine bX (bA 10 7) (by kernel_rfl) ?_;refine aZ [(3,56)] ?_
  iterate 1 (refine d_ HT_ HW_ hHeld ?_)
  refine bX (bA 10 15) (by kernel_rfl) ?_;refine iw (i:=4) (N:=(some 57)) (v:=.agg #[.string c0,.string c1,.int .i64 c2,.string c3,.bool c4]) (a':=?_) (bA 10 31) rfl rfl (iD HT_.out HW_.out (by kernel_rfl)) (fun _ _ _ h=>h) (yieldsIf_load_mid (by rfl) 34 _ rfl p3 0 (by go_simp) _ _ (fun w' hw'=>hw'.2) hu29 rfl hsz) hHeld ?_ ?_
  rotate_left
  ·
   simp only [Act.put,dw,dx,lss,bC,cm]
   rfl
  refine dJ 5 (N:=some 58) (bA 10 63) HT_ (fun K hK=>?_);refine ep Tryz.func48 (by kernel_rfl) rfl #[.agg #[.string c0,.string c1,.int .i64 c2,.string c3,.bool c4]] (by rfl) rfl rfl cD ?_
  with_reducible refine (gS.calls c0 c1 c2 c3 c4 b8 _ X8.out).mono ?_
  rintro e_ w21 ⟨rfl,hb⟩
  refine ⟨_,rfl,?_⟩;have B3:=aS (aK B3d.out hb);have HA1:=aS (HAd.out.below hb);have TW:=aS (TWd.out.step hb);clear hb B3d HAd TWd;refine hK.out _ _ ⟨(aG HA1.out.2.1 1).trans rfl,ia B3.out⟩ (fun hHeld=>?_);clear hK K;refine nm 58 ?_;refine aZ [(6,59),(7,60),(8,61)] ?_
  iterate 3 (refine cr HT_ ?_)
  refine bX (bA 10 511) (by kernel_rfl) ?_;refine jT (i:=9) (N:=none) (bA 10 1023) rfl rfl (jM HT_.out (by kernel_rfl)) (by decide) (fun K hK=>?_);rw [if_pos (by rfl)];have hfz:=dD HA1.out.2.1 1;have hcl:=(aG HA1.out.2.1 1).trans rfl;have HA2:ak (ck.At (w21.setCell ⟨g,1,none⟩ (.int .i64 (wrap64 (n5+b8)))) base g ys (wrap64 (n5+b8)) (.slice (some ⟨gr,0,none⟩) xs.length cc)):=aS ⟨HA1.out.1,bn HA1.out.2.1 1 _ rfl,Kd.jF HA1.out.2.2 HA1.out.2.1 (by decide) 1 _⟩;have TW2:=aS (TW.out.trans (ck.Two.set w21 g 1 (.int .i64 (wrap64 (n5+b8))) (Value.slice (some ⟨gr,0,none⟩) xs.length cc).ownBlock) (.inl rfl))
  unfold Oper.wp
  go_simp
  refine hK.out _ _ ?_;clear hK K;refine dQ (cX HT_.out (by kernel_rfl)) ?_;clear hfz hcl HT_ HW_
  go_wp2
  go_ret
  have e_:=HY.out;subst e_;have e2_:=HN5.out;subst e2_;exact ⟨rfl,_,HA2.out,TW2.out,.inl rfl⟩
theorem xZ.calls (g base:Nat) (xs:List av) (n:Int) (v:Value) (w:World) (hA:ck.At w base g xs n v) :
  Calls Tryz.prog 30 #[.pointer (some ⟨g,0,none⟩)] w fun e w'=>e = .returned (.int .i64 n)∧Below w.heap.size w w':=by
 have hu46:=Tryz.underlying78;obtain ⟨A,cc,rfl,hcl,hC⟩:=hA.rows;have B:=aS hA.2.1;clear hA hcl hC;have q0:=Dl B
 go_enter Tryz.func30,Tryz.ntmps30
 go_wp2
 go_ret
 exact ⟨rfl,Below.refl _ _⟩
def cB.tail (k:Nat) (s1 s2 s3:Int) (xs:List av) (n:Int) (ls:List (List (List av × List (List av) × List Int))) (c0 c1:ByteArray) (c2:Int) (c3:ByteArray) (c4:Bool):Option (List av × Int × List (List (List av × List (List av) × List Int)) × Int):=
 (gJ.f k xs n c0 c1 c2 c3 c4).bind fun p=>if s1≤p.2.1 then (aU.f k s2 s3 p.1 p.2.1 ls).bind fun q=>some (q.1,q.2.1,q.2.2,0) else some (p.1,p.2.1,ls,0)
def cB.f (k:Nat) (s1 s2 s3:Int) (xs:List av) (n:Int) (ls:List (List (List av × List (List av) × List Int))) (c0 c1:ByteArray) (c2:Int) (c3:ByteArray) (c4:Bool):Option (List av × Int × List (List (List av × List (List av) × List Int)) × Int):=
 (eP.f c0 c1 c2 c3 c4).bind fun o=>if o=true then (bT.f k xs ls c0 c1 c2).bind fun hs=>if hs=true then cB.tail k s1 s2 s3 xs n ls c0 c1 c2 c3 c4 else (dP.f k xs ls).bind fun a=>if (a.length:Int)=400 then some (xs,n,ls,4) else cB.tail k s1 s2 s3 xs n ls c0 c1 c2 c3 c4 else some (xs,n,ls,1)
theorem cB.mB:∀ a0 a1 a2 a3 a4 a5 a6 a7 a8 a9 a10 k,aE (cB.tail k a0 a1 a2 a3 a4 a5 a6 a7 a8 a9 a10) (cB.tail (k+1) a0 a1 a2 a3 a4 a5 a6 a7 a8 a9 a10):=fun _ _ _ _ _ _ _ _ _ _ _ _=>aE.bind (gJ.mono _ _ _ _ _ _ _ _) fun _=>aE.ite (aE.bind (aU.mono _ _ _ _ _ _) fun _=>aE.refl _) (aE.refl _)
theorem cB.mono:∀ a0 a1 a2 a3 a4 a5 a6 a7 a8 a9 a10 k,aE (cB.f k a0 a1 a2 a3 a4 a5 a6 a7 a8 a9 a10) (cB.f (k+1) a0 a1 a2 a3 a4 a5 a6 a7 a8 a9 a10):=fun _ _ _ _ _ _ _ _ _ _ _ _=>aE.bind (aE.refl _) fun _=>aE.ite (aE.bind (bT.mono _ _ _ _ _ _) fun _=>aE.ite (cB.mB _ _ _ _ _ _ _ _ _ _ _ _) (aE.bind (dP.mono _ _ _) fun _=>aE.ite (aE.refl _) (cB.mB _ _ _ _ _ _ _ _ _ _ _ _))) (aE.refl _)
theorem cB.calls (k g base:Nat) (ok:Nat→Prop) (s1 s2 s3:Int) (xs xs':List av) (n n':Int) (ls ls':List (List (List av × List (List av) × List Int))) (c0 c1:ByteArray) (c2:Int) (c3:ByteArray) (c4:Bool) (r:Int) (w:World) (hA:aq.At w base ok g s1 s2 s3 xs n ls) (h:cB.f k s1 s2 s3 xs n ls c0 c1 c2 c3 c4=some (xs',n',ls',r)) :
  Calls Tryz.prog 12 #[.pointer (some ⟨g,0,none⟩),.agg #[.string c0,.string c1,.int .i64 c2,.string c3,.bool c4]] w fun e w'=>e = .returned (.int .i64 r)∧aq.At w' base (fun k=>ok k∨w.heap.size≤k) g s1 s2 s3 xs' n' ls'∧aq.fG w w' ok:=by
 have hu30:=Tryz.underlying27;have hu51:=Tryz.underlying61;have hu23:=Tryz.underlying23;have hu49:=Tryz.underlying59;have hu53:=Tryz.underlying64;have hu24:=Tryz.underlying32;have hu61:=Tryz.underlying73;have hu26:=Tryz.underlying34;have hu47:=Tryz.underlying57
 have hsz:(Tryz.prog.info? 34).map (·.size)=some 5:=by
  obtain ⟨i0,hi0,hz⟩:=Option.map_eq_some_iff.1 fe
  simp only [Prod.mk.injEq] at hz
  rw [hi0];simp [hz.2.1]
 have HT:=aS hA;clear hA;have H:=aS h;clear h
 go_enter Tryz.func12,Tryz.ntmps12
 refine wp_seq_k (fun K_ hK_=>?_)
 go_cut [3] (fun v3 wc=>∃ p3:Nat,v3 = .pointer (some ⟨p3,0,none⟩)∧ak (w.heap.size≤p3)∧ak (wc.heap[p3]? = some (.cells #[.string c0,.string c1,.int .i64 c2,.string c3,.bool c4] 34 (0,0)))∧ak (Below w.heap.size w wc))
 case first=>
  go_wp2_with (first | ((with_reducible refine aX (N:=3) rfl ?_);refine aY ?hg (N:=3) ?hd (cs:=#[.string c0,.string c1,.int .i64 c2,.string c3,.bool c4]) (t:=34) ?hr ?_;(case hd=>rfl);(case hg=>rfl);(case hr=>(first | (go_simp;done) | (go_simp;rfl)));intro p3 hg w1 hb hbl;have B3:=aS hb;have G3:ak (w.heap.size≤p3):=aS (by rw [hg];exact Nat.le_refl _);have HB:=aS hbl;clear hg hb hbl;have q5:=cR B3))
  go_meet
  case rel=>exact ⟨p3,rfl,G3,B3,HB⟩
 obtain ⟨p3,rfl,G3,B3,HB⟩:=hcut
 rename World=>w1
 refine hK_ _ _ ?_;refine wp_seq_k (fun K2_ hK2_=>?_)
 go_cut [] (fun wc=>ak (cB.tail k s1 s2 s3 xs n ls c0 c1 c2 c3 c4=some (xs',n',ls',r))∧ak (wc.heap[p3]? = some (.cells #[.string c0,.string c1,.int .i64 c2,.string c3,.bool c4] 34 (0,0)))∧ak (Below w.heap.size w wc))
 case first=>
  have q5:=cR B3;have h:=H.out
  unfold cB.f at h
  replace h:=bV h;obtain ⟨o,x1,h⟩:=h;have X1:=aS x1;clear x1 H
  cases o with
  | false=>
   rw [if_neg Bool.false_ne_true] at h
   obtain h:=Option.some.inj h
   simp only [Prod.mk.injEq] at h
   obtain ⟨rfl,rfl,rfl,rfl⟩:=h
   go_wp2_with (first | (go_at_call 27;(with_reducible refine (eP.calls c0 c1 c2 c3 c4 false _ X1.out).mono ?_);rintro e_ w2 ⟨rfl,hb⟩;have n1_:=aS (aK B3.out hb);have n2_:=aS (aN HB.out hb);clear B3 HB hb q5;have B3:=n1_;have HB:=n2_;clear n1_ n2_;have q5:=cR B3))
   go_ret
   exact ⟨rfl,(HT.out.below HB.out).mono (fun _ hk=>.inl hk),aq.fG.jX HB.out _⟩
  | true=>
  rw [if_pos rfl] at h;replace h:=bV h;obtain ⟨hs,x2,h⟩:=h;have X2:=aS x2;clear x2
  cases hs with
  | true=>
   rw [if_pos rfl] at h;have H:=aS h;clear h
   go_wp2_with (first | (go_at_call 27;(with_reducible refine (eP.calls c0 c1 c2 c3 c4 true _ X1.out).mono ?_);rintro e_ w2 ⟨rfl,hb⟩;have n1_:=aS (aK B3.out hb);have n2_:=aS (aN HB.out hb);clear B3 HB hb q5;have B3:=n1_;have HB:=n2_;clear n1_ n2_;have q5:=cR B3) | (go_at_call 28;(with_reducible refine (bT.calls k g base ok s1 s2 s3 xs n ls c0 c1 c2 c3 c4 true _ (HT.out.below HB.out) X2.out).mono ?_);rintro e_ w3 ⟨rfl,hb⟩;have n1_:=aS (aK B3.out hb);have n2_:=aS (aN HB.out hb);clear B3 HB hb q5;have B3:=n1_;have HB:=n2_;clear n1_ n2_;have q5:=cR B3))
   go_meet
   case rel=>exact ⟨H,B3,HB⟩
  | false=>
  rw [if_neg Bool.false_ne_true] at h;replace h:=bV h;obtain ⟨a,x3,h⟩:=h;have X3:=aS x3;clear x3
  by_cases hl:(a.length:Int)=400
  ·
   rw [if_pos hl] at h;obtain ⟨hl1,hl2⟩:=jE hl
   obtain h:=Option.some.inj h
   simp only [Prod.mk.injEq] at h
   obtain ⟨rfl,rfl,rfl,rfl⟩:=h;clear hl
   go_wp2_with (first | (go_at_call 27;(with_reducible refine (eP.calls c0 c1 c2 c3 c4 true _ X1.out).mono ?_);rintro e_ w2 ⟨rfl,hb⟩;have n1_:=aS (aK B3.out hb);have n2_:=aS (aN HB.out hb);clear B3 HB hb q5;have B3:=n1_;have HB:=n2_;clear n1_ n2_;have q5:=cR B3) | (go_at_call 28;(with_reducible refine (bT.calls k g base ok s1 s2 s3 xs n ls c0 c1 c2 c3 c4 false _ (HT.out.below HB.out) X2.out).mono ?_);rintro e_ w3 ⟨rfl,hb⟩;have n1_:=aS (aK B3.out hb);have n2_:=aS (aN HB.out hb);clear B3 HB hb q5;have B3:=n1_;have HB:=n2_;clear n1_ n2_;have q5:=cR B3) | (go_at_call 19;(with_reducible refine (dP.calls k base ok g s1 s2 s3 xs n ls a _ (HT.out.below HB.out) X3.out).mono ?_);rintro e_ w5 ⟨v5,rfl,ho,hb⟩;obtain ⟨Aa,ca,rfl⟩:=Kd.bq ho;have n1_:=aS (aK B3.out hb);have n2_:=aS (aN HB.out hb);clear B3 HB hb ho q5;have B3:=n1_;have HB:=n2_;clear n1_ n2_;have q5:=cR B3))
   go_ret
   exact ⟨rfl,(HT.out.below HB.out).mono (fun _ hk=>.inl hk),aq.fG.jX HB.out _⟩
  ·
   rw [if_neg hl] at h;obtain ⟨hl1,hl2⟩:=ju hl;have H:=aS h;clear h hl
   go_wp2_with (first | (go_at_call 27;(with_reducible refine (eP.calls c0 c1 c2 c3 c4 true _ X1.out).mono ?_);rintro e_ w2 ⟨rfl,hb⟩;have n1_:=aS (aK B3.out hb);have n2_:=aS (aN HB.out hb);clear B3 HB hb q5;have B3:=n1_;have HB:=n2_;clear n1_ n2_;have q5:=cR B3) | (go_at_call 28;(with_reducible refine (bT.calls k g base ok s1 s2 s3 xs n ls c0 c1 c2 c3 c4 false _ (HT.out.below HB.out) X2.out).mono ?_);rintro e_ w3 ⟨rfl,hb⟩;have n1_:=aS (aK B3.out hb);have n2_:=aS (aN HB.out hb);clear B3 HB hb q5;have B3:=n1_;have HB:=n2_;clear n1_ n2_;have q5:=cR B3) | (go_at_call 19;(with_reducible refine (dP.calls k base ok g s1 s2 s3 xs n ls a _ (HT.out.below HB.out) X3.out).mono ?_);rintro e_ w5 ⟨v5,rfl,ho,hb⟩;obtain ⟨Aa,ca,rfl⟩:=Kd.bq ho;have n1_:=aS (aK B3.out hb);have n2_:=aS (aN HB.out hb);clear B3 HB hb ho q5;have B3:=n1_;have HB:=n2_;clear n1_ n2_;have q5:=cR B3))
   go_meet
   case rel=>exact ⟨H,B3,HB⟩
 clear H B3 HB;obtain ⟨H,B3,HB⟩:=hcut
 rename World=>w4
 have h:=H.out
 unfold cB.tail at h
 replace h:=bV h;obtain ⟨⟨x5,n5,b5⟩,x1,h⟩:=h;have X1:=aS x1;have H2:=aS h;obtain ⟨gm,vm,vl,vs,hA⟩:=HT.out;have HA:=aS (hA.below HB.out);have q0:=cR (aS HA.out.cY);clear H h x1 hA
 go_upto_region 5 with (fail)
 refine dz (n:=6) (ds:=[5]) (S:=fun w'=>w'.cell? ⟨g,3,none⟩=some (.pointer (some ⟨gm,0,none⟩))∧w'.rangeAt p3 0 [.string c0,.string c1,.int .i64 c2,.string c3,.bool c4]) (bA 6 0) (by kernel_rfl) rfl rfl ⟨(aG (au HA.out.cY) 3).trans rfl,ia (au B3.out)⟩ (fun hHeld=>?_)
 generalize hw_:World.drew _=wd at hHeld ⊢
 have HAd:ak (aq.eI wd base _ g gm vm _ vs vs s1 s2 s3 xs n ls):=aS (hw_▸HA.out.below (bN (Below.refl _ _)));have HBd:ak (Below w.heap.size w wd):=aS (hw_▸aN HB.out (bN (Below.refl _ _)));clear hw_ HA HB B3 q0;refine cH (T:=(true,[([],[]),([0],[0]),([1],[1]),([2],[2]),([],[]),([3,4],[3,4])])) (B:=[0,1,3,7,0,31]) (by kernel_rfl) (by kernel_rfl) (fun HT_ HW_=>?_);refine aZ [(0,20),(1,21),(2,22)] ?_
 iterate 3 (refine cr HT_ ?_)
 refine bX (bA 6 7) (by kernel_rfl) ?_;refine aZ [(3,23)] ?_
 iterate 1 (refine d_ HT_ HW_ hHeld ?_)
 refine bX (bA 6 15) (by kernel_rfl) ?_;refine iw (i:=4) (N:=(some 24)) (v:=.agg #[.string c0,.string c1,.int .i64 c2,.string c3,.bool c4]) (a':=?_) (bA 6 31) rfl rfl (iD HT_.out HW_.out (by kernel_rfl)) (fun _ _ _ h=>h) (yieldsIf_load_mid (by rfl) 34 _ rfl p3 0 (by go_simp) _ _ (fun w' hw'=>hw'.2) hu26 rfl hsz) hHeld ?_ ?_
 rotate_left
 ·
  simp only [Act.put,dw,dx,lss,bC,cm]
  rfl
 refine jT (i:=5) (N:=(some 25)) (bA 6 63) rfl rfl (jM HT_.out (by kernel_rfl)) (by decide) (fun K hK=>?_);refine ep Tryz.func29 (by kernel_rfl) rfl #[.pointer (some ⟨gm,0,none⟩),.agg #[.string c0,.string c1,.int .i64 c2,.string c3,.bool c4]] (by rfl) rfl rfl cD ?_
 with_reducible refine (gJ.calls k gm base xs n vm c0 c1 c2 c3 c4 x5 n5 b5 _ HAd.out.mem X1.out).mono ?_
 rintro e_ w6 ⟨rfl,v5,ha_,ht_,hv_⟩
 refine ⟨_,rfl,?_⟩;obtain ⟨hu_,hc_⟩:=HAd.out.FA ha_ ht_ hv_ (ok':=(fun k=>ok k∨w.heap.size≤k)) (fun _ hk=>.inl hk) (fun k hk=>.inr (Nat.le_trans HBd.out.size hk));have HU:=aS hu_;have HC6:ak (aq.fG w w6 ok):=aS ((aq.fG.jX HBd.out ok).trans hc_ (fun _ hk _=>hk));clear ha_ ht_ hv_ hu_ hc_ HAd HBd;refine hK.out _ _ ?_;clear hK K;refine nm 25 ?_;refine dQ (cX HT_.out (by kernel_rfl)) ?_;clear HT_ HW_ hHeld;have q0:=cR (aS HU.out.cY)
 go_upto_region 6 with (fail)
 refine dz (n:=11) (ds:=[]) (S:=fun w'=>w'.cell? ⟨g,3,none⟩=some (.pointer (some ⟨gm,0,none⟩))∧w'.cell? ⟨g,0,none⟩=some (.int .i64 s1)) (bA 11 0) (by kernel_rfl) rfl rfl ⟨(aG (au HU.out.cY) 3).trans rfl,(aG (au HU.out.cY) 0).trans rfl⟩ (fun hHeld=>?_)
 generalize hw_:World.drew _=wd at hHeld ⊢
 have HV:ak (aq.eI wd base _ g gm _ _ vs vs s1 s2 s3 x5 n5 ls):=aS (hw_▸HU.out.below (bN (Below.refl _ _)));have HCv:ak (aq.fG w wd ok):=aS (hw_▸HC6.out.step (bN (Below.refl _ _)));clear hw_ HU HC6 q0;refine cH (T:=(true,[([],[]),([0],[0]),([1],[1]),([2],[2]),([3],[3]),([],[]),([5],[5]),([6],[6]),([7],[7]),([8],[8]),([4,9],[4,9])])) (B:=[0,1,3,7,15,0,32,96,224,480,1023]) (by kernel_rfl) (by kernel_rfl) (fun HT_ HW_=>?_);refine aZ [(0,26),(1,27),(2,28)] ?_
 iterate 3 (refine cr HT_ ?_)
 refine bX (bA 11 7) (by kernel_rfl) ?_;refine aZ [(3,29)] ?_
 iterate 1 (refine d_ HT_ HW_ hHeld ?_)
 refine bX (bA 11 15) (by kernel_rfl) ?_;refine aZ [(5,31),(6,32),(7,33),(8,34)] ?_
 iterate 4 (refine cr HT_ ?_)
 refine bX (bA 11 495) (by kernel_rfl) ?_;refine aZ [(9,35)] ?_
 iterate 1 (refine d_ HT_ HW_ hHeld ?_)
 refine bX (bA 11 1007) (by kernel_rfl) ?_;refine dJ 4 (N:=some 30) (bA 11 1023) HT_ (fun K hK=>?_);refine ep Tryz.func30 (by kernel_rfl) rfl #[.pointer (some ⟨gm,0,none⟩)] (by rfl) rfl rfl cD ?_
 with_reducible refine (xZ.calls gm base x5 n5 _ _ HV.out.mem).mono ?_
 rintro e_ w7 ⟨rfl,hb⟩
 refine ⟨_,rfl,?_⟩;have HUd:=aS (HV.out.below hb);have HCd:=aS (HCv.out.step hb);clear hb HV HCv;refine hK.out _ _ ⟨(aG HUd.out.cY 3).trans rfl,(aG HUd.out.cY 0).trans rfl⟩ (fun hHeld=>?_);clear hK K;refine nm 30 ?_;refine aZ [(10,36)] ?_
 iterate 1 (refine cr HT_ ?_)
 refine bX (bA 11 2047) (by kernel_rfl) ?_;refine dQ (cX HT_.out (by kernel_rfl)) ?_;clear HT_ HW_ hHeld;have h:=H2.out;clear H2;replace h:(if s1≤n5 then (aU.f k s2 s3 x5 n5 ls).bind fun q=>some (q.1,q.2.1,q.2.2,(0:Int)) else some (x5,n5,ls,0))=some (xs',n',ls',r):=h
 by_cases hs:s1≤n5
 ·
  rw [if_pos hs] at h;replace h:=bV h;obtain ⟨⟨x6,n6,l6⟩,x2,h⟩:=h;have X2:=aS x2
  obtain h:=Option.some.inj h
  simp only [Prod.mk.injEq] at h
  obtain ⟨rfl,rfl,rfl,rfl⟩:=h;have hs1:decide (s1≤n5)=true:=decide_eq_true hs
  first | rw [hs1] | rw [show decide (n5≥s1)=true from hs1]
  clear x2 hs
  go_wp2_with (first | (go_at_call 13;(with_reducible refine (aU.calls k g base (fun k=>ok k∨w.heap.size≤k) s1 s2 s3 x5 x6 n5 n6 ls l6 _ HUd.out.up X2.out).mono ?_);rintro e_ w9 ⟨rfl,ha_,hc_⟩;have HT9:ak (aq.At w9 base (fun k=>ok k∨w.heap.size≤k) g s1 s2 s3 x6 n6 l6):=aS (ha_.mono (fun k hk=>hk.elim id (fun h=>.inr (Nat.le_trans HCd.out.size h))));have HC9:=aS (HCd.out.trans hc_ (fun k hk hlt=>hk.resolve_right (Nat.not_le_of_lt hlt)));clear ha_ hc_))
  try go_wp2
  go_ret
  exact ⟨rfl,HT9.out,HC9.out⟩
 ·
  rw [if_neg hs] at h
  obtain h:=Option.some.inj h
  simp only [Prod.mk.injEq] at h
  obtain ⟨rfl,rfl,rfl,rfl⟩:=h;have hs1:decide (s1≤n5)=false:=decide_eq_false hs
  first | rw [hs1] | rw [show decide (n5≥s1)=false from hs1]
  clear hs
  go_wp2
  go_ret
  exact ⟨rfl,HUd.out.up,HCd.out⟩
def bM.next (z r:av) (o:Bool):av:=if o=true∧z.f2<r.f2 then r else z
theorem bM.nO (k N pa pb pt pz:Nat) (gm basem:Nat) (xs:List av) (n:Int) (vm:Value) (a b:ByteArray) (t:Int) (z:av) (r1 r2:ByteArray) (r3:Int) (r4:ByteArray) (r5 r6:Bool) (w:World) (ha:w.heap[pa]? = some (.cells #[.string a] 9 (0,0))) (hb:w.heap[pb]? = some (.cells #[.string b] 9 (0,0))) (ht:w.heap[pt]? = some (.cells #[.int .i64 t] 3 (0,0))) (hz:w.heap[pz]? = some (.cells #[.string z.f0,.string z.f1,.int .i64 z.f2,.string z.f3,.bool z.f4] 34 (0,0))) (hpz:pa<pz∧pb<pz∧pt<pz) (hN:N≤pz) (hNw:N≤w.heap.size) (hA:ck.At w basem gm xs n vm) (h:cE.f k xs a b t=some (r1,r2,r3,r4,r5,r6)) :
  Calls Tryz.prog 36 #[.func (.func 54) #[.pointer (some ⟨gm,0,none⟩)] #[],.pointer (some ⟨pa,0,none⟩),.pointer (some ⟨pb,0,none⟩),.pointer (some ⟨pt,0,none⟩),.pointer (some ⟨pz,0,none⟩)] w fun e w'=>e = .returned (.bool ((bM.next z (⟨r1,r2,r3,r4,r5⟩:av) r6).f2 == min t 4294967295))∧Below N w w'∧w'.heap[pa]? = some (.cells #[.string a] 9 (0,0))∧w'.heap[pb]? = some (.cells #[.string b] 9 (0,0))∧w'.heap[pt]? = some (.cells #[.int .i64 t] 3 (0,0))∧w'.heap[pz]? = some (.cells #[.string (bM.next z (⟨r1,r2,r3,r4,r5⟩:av) r6).f0,.string (bM.next z (⟨r1,r2,r3,r4,r5⟩:av) r6).f1,.int .i64 (bM.next z (⟨r1,r2,r3,r4,r5⟩:av) r6).f2,.string (bM.next z (⟨r1,r2,r3,r4,r5⟩:av) r6).f3,.bool (bM.next z (⟨r1,r2,r3,r4,r5⟩:av) r6).f4] 34 (0,0)):=by
 have hu26:=Tryz.underlying34;have BA:=aS ha;have BB:=aS hb;have BT:=aS ht;have BZ:=aS hz;have HPZ:=aS hpz;have HN:=aS hN;have HNw:=aS hNw;have HA:=aS hA;have X:=aS h;clear ha hb ht hz hpz hN hNw hA h;have q0:=lU BA;have q1:=lU BB;have q2:=lU BT;have q3:=cR BZ
 go_enter Tryz.func36,Tryz.ntmps36
 go_upto_region 2 with (first | (go_at_call 54;(with_reducible refine (pJ.calls k gm basem xs n vm a b t r1 r2 r3 r4 r5 r6 _ HA.out X.out).mono ?_);rintro e_ w2 ⟨rfl,hb⟩;have BA2:=aS (aK BA.out hb);have BB2:=aS (aK BB.out hb);have BT2:=aS (aK BT.out hb);have BZ2:=aS (aK BZ.out hb);have HB2:=aS (hb.mono HNw.out);clear hb q0 q1 q2 q3 BA BB BT BZ) | ((with_reducible refine aX (N:=7) rfl ?_);refine aY ?hg (N:=7) ?hd (cs:=#[.string ⟨#[]⟩,.string ⟨#[]⟩,.int .i64 0,.string ⟨#[]⟩,.bool false]) (t:=34) ?hr ?_;(case hd=>rfl);(case hg=>rfl);(case hr=>(first | (go_simp;done) | (go_simp;rfl)));intro p7 hg w3 hb hbl;have B7:=aS hb;have G7:ak (w2.heap.size≤p7):=aS (by rw [hg];exact Nat.le_refl _);have HL3:=aS hbl;clear hg hb hbl) | ((with_reducible refine eG (t:=34) (p:=7) rfl ?_);refine wpList_store_row rfl 34 _ _ rfl p7 #[.string r1,.string r2,.int .i64 r3,.string r4,.bool r5] rfl rfl 34 _ B7.out (by kernel_rfl) rfl (by kernel_rfl) ?_;have B8:=aS (setRow_heap w3 p7 _ #[.string r1,.string r2,.int .i64 r3,.string r4,.bool r5] _ _ B7.out);have HS:=aS (dS HL3.out G7.out #[.string r1,.string r2,.int .i64 r3,.string r4,.bool r5]);have BA4:=aS (aK BA2.out HS.out);have BB4:=aS (aK BB2.out HS.out);have BT4:=aS (aK BT2.out HS.out);have BZ4:=aS (aK BZ2.out HS.out);have HB4:=aS (HB2.out.trans (HS.out.mono (Nat.le_trans HNw.out HB2.out.size)));clear B7 HL3 HS G7 BA2 BB2 BT2 BZ2 HB2;generalize World.setRow w3 p7 #[.string r1,.string r2,.int .i64 r3,.string r4,.bool r5]=w4 at B8 BA4 BB4 BT4 BZ4 HB4 ⊢))
 have q3:=cR BZ4;have q4:=lU BT4;have q5:=cR B8
 cases r6 with
 | false=>
  have hn:bM.next z (⟨r1,r2,r3,r4,r5⟩:av) false=z:=if_neg (fun h=>Bool.noConfusion h.1)
  go_wp2
  all_goals
   go_ret
   try rw [hn]
   first | (rw [show min t (4294967295:Int)=4294967295 by omega];exact ⟨rfl,HB4.out,BA4.out,BB4.out,BT4.out,BZ4.out⟩) | (rw [show min t (4294967295:Int)=t by omega];exact ⟨rfl,HB4.out,BA4.out,BB4.out,BT4.out,BZ4.out⟩)
 | true=>
  by_cases hlt:z.f2<r3
  ·
   have hn:bM.next z (⟨r1,r2,r3,r4,r5⟩:av) true=⟨r1,r2,r3,r4,r5⟩:=if_pos ⟨rfl,hlt⟩
   go_wp2_with (first | ((with_reducible refine eG (t:=34) (p:=4) rfl ?_);refine wpList_store_row rfl 34 _ _ rfl pz #[.string r1,.string r2,.int .i64 r3,.string r4,.bool r5] rfl rfl 34 _ BZ4.out (by kernel_rfl) rfl (by kernel_rfl) ?_;have BZ5:=aS (setRow_heap w4 pz _ #[.string r1,.string r2,.int .i64 r3,.string r4,.bool r5] _ _ BZ4.out);have HP:=aS (dS (Below.refl pz w4) (Nat.le_refl pz) #[.string r1,.string r2,.int .i64 r3,.string r4,.bool r5]);have BA5:=aS ((HP.out.block pa HPZ.out.1).trans BA4.out);have BB5:=aS ((HP.out.block pb HPZ.out.2.1).trans BB4.out);have BT5:=aS ((HP.out.block pt HPZ.out.2.2).trans BT4.out);have HB5:=aS (dS HB4.out HN.out #[.string r1,.string r2,.int .i64 r3,.string r4,.bool r5]);clear HP BA4 BB4 BT4 BZ4 HB4 q3 q4 q5;generalize World.setRow w4 pz #[.string r1,.string r2,.int .i64 r3,.string r4,.bool r5]=w5 at BA5 BB5 BT5 BZ5 HB5 ⊢;have q3:=cR BZ5;have q4:=lU BT5))
   all_goals
    go_ret
    try rw [hn]
    first | (rw [show min t (4294967295:Int)=4294967295 by omega];exact ⟨rfl,HB5.out,BA5.out,BB5.out,BT5.out,BZ5.out⟩) | (rw [show min t (4294967295:Int)=t by omega];exact ⟨rfl,HB5.out,BA5.out,BB5.out,BT5.out,BZ5.out⟩)
  ·
   have hn:bM.next z (⟨r1,r2,r3,r4,r5⟩:av) true=z:=if_neg (fun h=>hlt h.2)
   go_wp2
   all_goals
    go_ret
    try rw [hn]
    first | (rw [show min t (4294967295:Int)=4294967295 by omega];exact ⟨rfl,HB4.out,BA4.out,BB4.out,BT4.out,BZ4.out⟩) | (rw [show min t (4294967295:Int)=t by omega];exact ⟨rfl,HB4.out,BA4.out,BB4.out,BT4.out,BZ4.out⟩)
theorem bM.nU (k N pa pb pt pz:Nat) (gx:Nat) (l:List av) (bs:List (List av)) (fl:List Int) (a b:ByteArray) (t:Int) (z:av) (r1 r2:ByteArray) (r3:Int) (r4:ByteArray) (r5 r6:Bool) (w:World) (ha:w.heap[pa]? = some (.cells #[.string a] 9 (0,0))) (hb:w.heap[pb]? = some (.cells #[.string b] 9 (0,0))) (ht:w.heap[pt]? = some (.cells #[.int .i64 t] 3 (0,0))) (hz:w.heap[pz]? = some (.cells #[.string z.f0,.string z.f1,.int .i64 z.f2,.string z.f3,.bool z.f4] 34 (0,0))) (hpz:pa<pz∧pb<pz∧pt<pz) (hN:N≤pz) (hNw:N≤w.heap.size) (hA:aJ.At w 0 gx l bs fl) (h:dG.f k bs fl a b t=some (r1,r2,r3,r4,r5,r6)) :
  Calls Tryz.prog 36 #[.func (.func 55) #[.pointer (some ⟨gx,0,none⟩)] #[],.pointer (some ⟨pa,0,none⟩),.pointer (some ⟨pb,0,none⟩),.pointer (some ⟨pt,0,none⟩),.pointer (some ⟨pz,0,none⟩)] w fun e w'=>e = .returned (.bool ((bM.next z (⟨r1,r2,r3,r4,r5⟩:av) r6).f2 == min t 4294967295))∧Below N w w'∧w'.heap[pa]? = some (.cells #[.string a] 9 (0,0))∧w'.heap[pb]? = some (.cells #[.string b] 9 (0,0))∧w'.heap[pt]? = some (.cells #[.int .i64 t] 3 (0,0))∧w'.heap[pz]? = some (.cells #[.string (bM.next z (⟨r1,r2,r3,r4,r5⟩:av) r6).f0,.string (bM.next z (⟨r1,r2,r3,r4,r5⟩:av) r6).f1,.int .i64 (bM.next z (⟨r1,r2,r3,r4,r5⟩:av) r6).f2,.string (bM.next z (⟨r1,r2,r3,r4,r5⟩:av) r6).f3,.bool (bM.next z (⟨r1,r2,r3,r4,r5⟩:av) r6).f4] 34 (0,0)):=by
 have hu26:=Tryz.underlying34;have BA:=aS ha;have BB:=aS hb;have BT:=aS ht;have BZ:=aS hz;have HPZ:=aS hpz;have HN:=aS hN;have HNw:=aS hNw;have HA:=aS hA;have X:=aS h;clear ha hb ht hz hpz hN hNw hA h;have q0:=lU BA;have q1:=lU BB;have q2:=lU BT;have q3:=cR BZ
 go_enter Tryz.func36,Tryz.ntmps36
 go_upto_region 2 with (first | (go_at_call 55;(with_reducible refine (dG.calls k gx 0 l bs fl a b t r1 r2 r3 r4 r5 r6 _ HA.out X.out).mono ?_);rintro e_ w2 ⟨rfl,hb⟩;have BA2:=aS (aK BA.out hb);have BB2:=aS (aK BB.out hb);have BT2:=aS (aK BT.out hb);have BZ2:=aS (aK BZ.out hb);have HB2:=aS (hb.mono HNw.out);clear hb q0 q1 q2 q3 BA BB BT BZ) | ((with_reducible refine aX (N:=7) rfl ?_);refine aY ?hg (N:=7) ?hd (cs:=#[.string ⟨#[]⟩,.string ⟨#[]⟩,.int .i64 0,.string ⟨#[]⟩,.bool false]) (t:=34) ?hr ?_;(case hd=>rfl);(case hg=>rfl);(case hr=>(first | (go_simp;done) | (go_simp;rfl)));intro p7 hg w3 hb hbl;have B7:=aS hb;have G7:ak (w2.heap.size≤p7):=aS (by rw [hg];exact Nat.le_refl _);have HL3:=aS hbl;clear hg hb hbl) | ((with_reducible refine eG (t:=34) (p:=7) rfl ?_);refine wpList_store_row rfl 34 _ _ rfl p7 #[.string r1,.string r2,.int .i64 r3,.string r4,.bool r5] rfl rfl 34 _ B7.out (by kernel_rfl) rfl (by kernel_rfl) ?_;have B8:=aS (setRow_heap w3 p7 _ #[.string r1,.string r2,.int .i64 r3,.string r4,.bool r5] _ _ B7.out);have HS:=aS (dS HL3.out G7.out #[.string r1,.string r2,.int .i64 r3,.string r4,.bool r5]);have BA4:=aS (aK BA2.out HS.out);have BB4:=aS (aK BB2.out HS.out);have BT4:=aS (aK BT2.out HS.out);have BZ4:=aS (aK BZ2.out HS.out);have HB4:=aS (HB2.out.trans (HS.out.mono (Nat.le_trans HNw.out HB2.out.size)));clear B7 HL3 HS G7 BA2 BB2 BT2 BZ2 HB2;generalize World.setRow w3 p7 #[.string r1,.string r2,.int .i64 r3,.string r4,.bool r5]=w4 at B8 BA4 BB4 BT4 BZ4 HB4 ⊢))
 have q3:=cR BZ4;have q4:=lU BT4;have q5:=cR B8
 cases r6 with
 | false=>
  have hn:bM.next z (⟨r1,r2,r3,r4,r5⟩:av) false=z:=if_neg (fun h=>Bool.noConfusion h.1)
  go_wp2
  all_goals
   go_ret
   try rw [hn]
   first | (rw [show min t (4294967295:Int)=4294967295 by omega];exact ⟨rfl,HB4.out,BA4.out,BB4.out,BT4.out,BZ4.out⟩) | (rw [show min t (4294967295:Int)=t by omega];exact ⟨rfl,HB4.out,BA4.out,BB4.out,BT4.out,BZ4.out⟩)
 | true=>
  by_cases hlt:z.f2<r3
  ·
   have hn:bM.next z (⟨r1,r2,r3,r4,r5⟩:av) true=⟨r1,r2,r3,r4,r5⟩:=if_pos ⟨rfl,hlt⟩
   go_wp2_with (first | ((with_reducible refine eG (t:=34) (p:=4) rfl ?_);refine wpList_store_row rfl 34 _ _ rfl pz #[.string r1,.string r2,.int .i64 r3,.string r4,.bool r5] rfl rfl 34 _ BZ4.out (by kernel_rfl) rfl (by kernel_rfl) ?_;have BZ5:=aS (setRow_heap w4 pz _ #[.string r1,.string r2,.int .i64 r3,.string r4,.bool r5] _ _ BZ4.out);have HP:=aS (dS (Below.refl pz w4) (Nat.le_refl pz) #[.string r1,.string r2,.int .i64 r3,.string r4,.bool r5]);have BA5:=aS ((HP.out.block pa HPZ.out.1).trans BA4.out);have BB5:=aS ((HP.out.block pb HPZ.out.2.1).trans BB4.out);have BT5:=aS ((HP.out.block pt HPZ.out.2.2).trans BT4.out);have HB5:=aS (dS HB4.out HN.out #[.string r1,.string r2,.int .i64 r3,.string r4,.bool r5]);clear HP BA4 BB4 BT4 BZ4 HB4 q3 q4 q5;generalize World.setRow w4 pz #[.string r1,.string r2,.int .i64 r3,.string r4,.bool r5]=w5 at BA5 BB5 BT5 BZ5 HB5 ⊢;have q3:=cR BZ5;have q4:=lU BT5))
   all_goals
    go_ret
    try rw [hn]
    first | (rw [show min t (4294967295:Int)=4294967295 by omega];exact ⟨rfl,HB5.out,BA5.out,BB5.out,BT5.out,BZ5.out⟩) | (rw [show min t (4294967295:Int)=t by omega];exact ⟨rfl,HB5.out,BA5.out,BB5.out,BT5.out,BZ5.out⟩)
  ·
   have hn:bM.next z (⟨r1,r2,r3,r4,r5⟩:av) true=z:=if_neg (fun h=>hlt h.2)
   go_wp2
   all_goals
    go_ret
    try rw [hn]
    first | (rw [show min t (4294967295:Int)=4294967295 by omega];exact ⟨rfl,HB4.out,BA4.out,BB4.out,BT4.out,BZ4.out⟩) | (rw [show min t (4294967295:Int)=t by omega];exact ⟨rfl,HB4.out,BA4.out,BB4.out,BT4.out,BZ4.out⟩)
-- tree_Tree_find
def br.l1 (k:Nat) (a b:ByteArray) (t:Int):List (List av × List (List av) × List Int)→av→Option (av × Bool)
 | [],z=>some (z,false)
 | x :: r,z=>(dG.f k x.2.1 x.2.2 a b t).bind fun q=>if ((bM.next z (⟨q.1,q.2.1,q.2.2.1,q.2.2.2.1,q.2.2.2.2.1⟩:av) q.2.2.2.2.2).f2 == min t 4294967295)=true then some (bM.next z (⟨q.1,q.2.1,q.2.2.1,q.2.2.2.1,q.2.2.2.2.1⟩:av) q.2.2.2.2.2,true) else br.l1 k a b t r (bM.next z (⟨q.1,q.2.1,q.2.2.1,q.2.2.2.1,q.2.2.2.2.1⟩:av) q.2.2.2.2.2)
def br.l0 (k:Nat) (a b:ByteArray) (t:Int):List (List (List av × List (List av) × List Int))→av→Option av
 | [],z=>some z
 | l :: r,z=>(br.l1 k a b t l z).bind fun e=>if e.2=true then some e.1 else br.l0 k a b t r e.1
def br.z0:av:=⟨⟨#[]⟩,⟨#[]⟩,-1,⟨#[]⟩,true⟩
def br.f (k:Nat) (xs:List av) (ls:List (List (List av × List (List av) × List Int))) (a b:ByteArray) (t:Int):Option av:=(cE.f k xs a b t).bind fun q=>if ((bM.next br.z0 (⟨q.1,q.2.1,q.2.2.1,q.2.2.2.1,q.2.2.2.2.1⟩:av) q.2.2.2.2.2).f2 == min t 4294967295)=true then some (bM.next br.z0 (⟨q.1,q.2.1,q.2.2.1,q.2.2.2.1,q.2.2.2.2.1⟩:av) q.2.2.2.2.2) else br.l0 k a b t ls (bM.next br.z0 (⟨q.1,q.2.1,q.2.2.1,q.2.2.2.1,q.2.2.2.2.1⟩:av) q.2.2.2.2.2)
theorem br.qj (k:Nat) (a b:ByteArray) (t:Int):∀ l z,aE (br.l1 k a b t l z) (br.l1 (k+1) a b t l z)
 | [],_=>aE.refl _
 | x :: r,_=>aE.bind (dG.mono _ _ _ _ _ _) fun _=>aE.ite (aE.refl _) (br.qj k a b t r _)
theorem br.pY (k:Nat) (a b:ByteArray) (t:Int):∀ l z,aE (br.l0 k a b t l z) (br.l0 (k+1) a b t l z)
 | [],_=>aE.refl _
 | l :: r,_=>aE.bind (br.qj k a b t l _) fun _=>aE.ite (aE.refl _) (br.pY k a b t r _)
theorem br.mono:∀ a0 a1 a2 a3 a4 k,aE (br.f k a0 a1 a2 a3 a4) (br.f (k+1) a0 a1 a2 a3 a4):=fun _ _ _ _ _ k=>aE.bind (cE.mono _ _ _ _ _) fun _=>aE.ite (aE.refl _) (br.pY k _ _ _ _ _)
theorem br.find (k pa pb pt pz g base:Nat) (ok:Nat→Prop) (s1 s2 s3:Int) (xs:List av) (n:Int) (ls:List (List (List av × List (List av) × List Int))) (c0 c1:ByteArray) (c2:Int) (r:av) (w0 w:World) (hA:aq.At w0 base ok g s1 s2 s3 xs n ls) (hb0:Below w0.heap.size w0 w) (ha:w.heap[pa]? = some (.cells #[.string c0] 9 (0,0))) (hb:w.heap[pb]? = some (.cells #[.string c1] 9 (0,0))) (ht:w.heap[pt]? = some (.cells #[.int .i64 c2] 3 (0,0))) (hz:w.heap[pz]? = some (.cells #[.string br.z0.f0,.string br.z0.f1,.int .i64 br.z0.f2,.string br.z0.f3,.bool br.z0.f4] 34 (0,0))) (hpz:pa<pz∧pb<pz∧pt<pz) (hpi:w0.heap.size≤pz) (h:br.f k xs ls c0 c1 c2=some r) :
  Calls Tryz.prog 35 #[.pointer (some ⟨g,0,none⟩),.func (.func 36) #[] #[.pointer (some ⟨pa,0,none⟩),.pointer (some ⟨pb,0,none⟩),.pointer (some ⟨pt,0,none⟩),.pointer (some ⟨pz,0,none⟩)]] w fun e w'=>e = .returned (.tuple #[])∧Below w0.heap.size w0 w'∧w'.heap[pz]? = some (.cells #[.string r.f0,.string r.f1,.int .i64 r.f2,.string r.f3,.bool r.f4] 34 (0,0)):=by
 have hu30:=Tryz.underlying27;have hu51:=Tryz.underlying61;have hu23:=Tryz.underlying23;have hu49:=Tryz.underlying59;have hu53:=Tryz.underlying64;have hu24:=Tryz.underlying32;have hu61:=Tryz.underlying73;have hu75:=Tryz.underlying86
 have hmf:∀ (fn:Fn) (first cap:Array Value) (w:World),(Instr.makeFunc fn first cap).run Tryz.prog w = .ok (.func fn first cap) w:=fun _ _ _ _=>rfl
 obtain ⟨gm,vm,vl,vs,hA⟩:=hA;have HA:=aS hA;clear hA
 unfold br.f at h
 replace h:=bV h;obtain ⟨⟨r1,r2,r3,r4,r5,r6⟩,x1,h⟩:=h;have X1:=aS x1;have HB:=aS hb0;have BA:=aS ha;have BB:=aS hb;have BT:=aS ht;have BZ:=aS hz;have HPZ:=aS hpz;have HPI:=aS hpi;clear x1 hb0 ha hb ht hz hpz hpi
 obtain ⟨z,hz_⟩:∃ z,z=br.z0:=⟨_,rfl⟩
 rw [←hz_] at BZ h;clear hz_;obtain ⟨A,cl,rfl,hcl,hmx,hat⟩:=HA.out.at;have HL:=aS HA.out.len;have HMX:=aS hmx;have HAT:=aS hat;have HAW:=aS HA.out;have HA1:=aS (HA.out.below HB.out);clear hat hmx HA;have q0:=cR (aS HA1.out.cY);replace h:(if ((bM.next z (⟨r1,r2,r3,r4,r5⟩:av) r6).f2 == min c2 4294967295)=true then some (bM.next z (⟨r1,r2,r3,r4,r5⟩:av) r6) else br.l0 k c0 c1 c2 ls (bM.next z (⟨r1,r2,r3,r4,r5⟩:av) r6))=some r:=h
 obtain ⟨y,hy_⟩:∃ y,y=bM.next z (⟨r1,r2,r3,r4,r5⟩:av) r6:=⟨_,rfl⟩
 rw [←hy_] at h;have HY:=aS hy_;clear hy_
 by_cases he:(y.f2 == min c2 4294967295)=true
 ·
  rw [if_pos he] at h
  obtain rfl:=Option.some.inj h
  have HE:=aS he;clear he h
  go_enter Tryz.func35,Tryz.ntmps35
  go_wp2_with (first | (go_at_call 36;(with_reducible refine (bM.nO k w0.heap.size pa pb pt pz gm base xs n vm c0 c1 c2 z r1 r2 r3 r4 r5 r6 _ BA.out BB.out BT.out BZ.out HPZ.out HPI.out HB.out.size HA1.out.mem X1.out).mono ?_);rintro e_ w2 ⟨he_,hb,ha_,hb_,ht_,hz_⟩;rw [←HY.out] at he_ hz_;rw [HE.out] at he_;subst he_;have HB2:=aS (HB.out.trans hb);have BA2:=aS ha_;have BB2:=aS hb_;have BT2:=aS ht_;have BZ2:=aS hz_;clear hb ha_ hb_ ht_ hz_ q0;have q0:=cR (aS (HAW.out.below HB2.out).cY)))
  refine bodyPost_ret (results_none rfl _ _ _) rfl ?_;exact ⟨rfl,HB2.out,BZ2.out⟩
 replace he:(y.f2 == min c2 4294967295)=false:=by simpa using he
 rw [if_neg (by rw [he];exact Bool.false_ne_true)] at h;have H:=aS h;have HE:=aS he;clear he h
 go_enter Tryz.func35,Tryz.ntmps35
 go_wp2_with (first | (go_at_call 36;(with_reducible refine (bM.nO k w0.heap.size pa pb pt pz gm base xs n vm c0 c1 c2 z r1 r2 r3 r4 r5 r6 _ BA.out BB.out BT.out BZ.out HPZ.out HPI.out HB.out.size HA1.out.mem X1.out).mono ?_);rintro e_ w2 ⟨he_,hb,ha_,hb_,ht_,hz_⟩;rw [←HY.out] at he_ hz_;rw [HE.out] at he_;subst he_;have HB2:=aS (HB.out.trans hb);have BA2:=aS ha_;have BB2:=aS hb_;have BT2:=aS ht_;have BZ2:=aS hz_;clear hb ha_ hb_ ht_ hz_ q0;have q0:=cR (aS (HAW.out.below HB2.out).cY)))
 clear q0 X1 HB BA BB BT BZ HE HY
 go_loopw [20] (fun v20 wr=>∃ (i:Nat) (z:av),v20 = .int .i64 (i:Int)∧ak (i≤vs.length)∧ak (br.l0 k c0 c1 c2 (ls.drop i) z=some r)∧ak (Below w0.heap.size w0 wr)∧ak (wr.heap[pa]? = some (.cells #[.string c0] 9 (0,0)))∧ak (wr.heap[pb]? = some (.cells #[.string c1] 9 (0,0)))∧ak (wr.heap[pt]? = some (.cells #[.int .i64 c2] 3 (0,0)))∧ak (wr.heap[pz]? = some (.cells #[.string z.f0,.string z.f1,.int .i64 z.f2,.string z.f3,.bool z.f4] 34 (0,0)))) (fun i _=>vs.length - (intOf i).toNat)
 case atStart=>exact ⟨0,y,rfl,⟨Nat.zero_le _⟩,H,HB2,BA2,BB2,BT2,BZ2⟩
 case round=>
  clear H HB2 BA2 BB2 BT2 BZ2;obtain ⟨i,z,rfl,hi,HA0,HBr,BA,BB,BT,BZ⟩:=hrel
  by_cases hlt:i<vs.length
  ·
   have hq1:(i:Int)<(vs.length:Int):=by omega
   obtain ⟨ad,e_,hx⟩:=HAT.out wr (fun k _ hk=>HBr.out.block k hk) i hlt;subst e_;obtain ⟨Ai,ci,ei,hli,hCi⟩:=HAW.out.cells i hlt;rw [ei] at hx;have ha:=HA0.out;rw [aq.ni ls [] i (by rw [←HL.out];exact hlt)] at ha
   obtain ⟨li,hli_⟩:∃ x,x=ls.getD i []:=⟨_,rfl⟩
   rw [←hli_] at ha hx hli hCi
   unfold br.l0 at ha
   replace ha:=bV ha;obtain ⟨q,y1,ha⟩:=ha;have Y1:=aS y1;have HA1:=aS ha;have HCI:=aS hCi;have HLI:=aS hCi.2.1
   have hix:∀ W:World,(Instr.indexAt 59 (.slice (some ad) vs.length cl) (.int .i64 (i:Int))).run Tryz.prog W = .ok (.pointer (some (ad.add i))) W:=by
    obtain ⟨i0,hi0,hz⟩:=Option.map_eq_some_iff.1 mQ
    simp only [Prod.mk.injEq] at hz
    intro W
    have h1:=gH 59 64 hu49 hi0 1 hz.2.1 ad vs.length cl (i:Int) (by omega) (by omega) W
    rwa [Nat.mul_one,Int.toNat_natCast] at h1
   have hwr:wrap64 ((i:Int)+1)=(i:Int)+1:=by rw [←bC,IntKind.wrap_i64];have:=HMX.out;omega
   clear y1 ha HA0 hCi hi hli_ ei hli
   go_wp2
   go_loopw [26] (fun v26 wi=>∃ (j:Nat) (z:av),v26 = .int .i64 (j:Int)∧ak (j≤li.length)∧ak (br.l1 k c0 c1 c2 (li.drop j) z=some q)∧ak (Below w0.heap.size w0 wi)∧ak (wi.heap[pa]? = some (.cells #[.string c0] 9 (0,0)))∧ak (wi.heap[pb]? = some (.cells #[.string c1] 9 (0,0)))∧ak (wi.heap[pt]? = some (.cells #[.int .i64 c2] 3 (0,0)))∧ak (wi.heap[pz]? = some (.cells #[.string z.f0,.string z.f1,.int .i64 z.f2,.string z.f3,.bool z.f4] 34 (0,0)))) (fun j _=>li.length - (intOf j).toNat)
   case atStart=>exact ⟨0,z,rfl,⟨Nat.zero_le _⟩,Y1,HBr,BA,BB,BT,BZ⟩
   case round=>
    clear HBr Y1 hx BA BB BT BZ;obtain ⟨j,z,rfl,hj,HP,HBr,BA,BB,BT,BZ⟩:=hrel
    by_cases hlj:j<li.length
    ·
     have hj1:(j:Int)<(li.length:Int):=by omega
     obtain ⟨ad2,gx,e_,hy,hOP⟩:=aq.t5 (Kd.cW HCI.out HBr.out) j hlj;subst e_;have ha:=HP.out;rw [aq.ni li ([],[],[]) j hlj] at ha
     obtain ⟨x,hx_⟩:∃ x,x=li.getD j ([],[],[]):=⟨_,rfl⟩
     rw [←hx_] at ha hOP
     unfold br.l1 at ha
     replace ha:=bV ha;obtain ⟨⟨r1,r2,r3,r4,r5,r6⟩,y2,ha⟩:=ha;replace ha:(if ((bM.next z (⟨r1,r2,r3,r4,r5⟩:av) r6).f2 == min c2 4294967295)=true then some (bM.next z (⟨r1,r2,r3,r4,r5⟩:av) r6,true) else br.l1 k c0 c1 c2 (li.drop (j+1)) (bM.next z (⟨r1,r2,r3,r4,r5⟩:av) r6))=some q:=ha
     obtain ⟨y,hy_⟩:∃ y,y=bM.next z (⟨r1,r2,r3,r4,r5⟩:av) r6:=⟨_,rfl⟩
     rw [←hy_] at ha;have HY:=aS hy_;clear hy_;have Y2:=aS y2;have HOP:=aS hOP
     have hiy:∀ W:World,(Instr.indexAt 64 (.slice (some ad2) li.length ci) (.int .i64 (j:Int))).run Tryz.prog W = .ok (.pointer (some (ad2.add j))) W:=by
      obtain ⟨i0,hi0,hz⟩:=Option.map_eq_some_iff.1 qx
      simp only [Prod.mk.injEq] at hz
      intro W
      have h1:=gH 64 86 hu53 hi0 1 hz.2.1 ad2 li.length ci (j:Int) (by omega) (by omega) W
      rwa [Nat.mul_one,Int.toNat_natCast] at h1
     have hwj:wrap64 ((j:Int)+1)=(j:Int)+1:=by rw [←bC,IntKind.wrap_i64];have:=HLI.out;omega
     clear y2 HP hOP hj hx_
     by_cases he:(y.f2 == min c2 4294967295)=true
     ·
      rw [if_pos he] at ha
      obtain rfl:=Option.some.inj ha
      have HE:=aS he;have ha:=HA1.out;rw [if_pos rfl] at ha
      obtain rfl:=Option.some.inj ha
      clear he ha
      go_wp2_with (first | (go_at_call 36;(with_reducible refine (bM.nU k w0.heap.size pa pb pt pz gx x.1 x.2.1 x.2.2 c0 c1 c2 z r1 r2 r3 r4 r5 r6 _ BA.out BB.out BT.out BZ.out HPZ.out HPI.out HBr.out.size HOP.out Y2.out).mono ?_);rintro e_ w2 ⟨he_,hb,ha_,hb_,ht_,hz_⟩;rw [←HY.out] at he_ hz_;rw [HE.out] at he_;subst he_;have HB2:=aS (HBr.out.trans hb);have BA2:=aS ha_;have BB2:=aS hb_;have BT2:=aS ht_;have BZ2:=aS hz_;clear hb ha_ hb_ ht_ hz_))
      refine bodyPost_ret (results_none rfl _ _ _) rfl ?_;exact ⟨rfl,HB2.out,BZ2.out⟩
     ·
      replace he:(y.f2 == min c2 4294967295)=false:=by simpa using he
      rw [if_neg (by rw [he];exact Bool.false_ne_true)] at ha;have HE:=aS he;have HP1:=aS ha;clear he ha
      go_wp2_with (first | (go_at_call 36;(with_reducible refine (bM.nU k w0.heap.size pa pb pt pz gx x.1 x.2.1 x.2.2 c0 c1 c2 z r1 r2 r3 r4 r5 r6 _ BA.out BB.out BT.out BZ.out HPZ.out HPI.out HBr.out.size HOP.out Y2.out).mono ?_);rintro e_ w2 ⟨he_,hb,ha_,hb_,ht_,hz_⟩;rw [←HY.out] at he_ hz_;rw [HE.out] at he_;subst he_;have HB2:=aS (HBr.out.trans hb);have BA2:=aS ha_;have BB2:=aS hb_;have BT2:=aS ht_;have BZ2:=aS hz_;clear hb ha_ hb_ ht_ hz_))
      go_roundw
      case rel=>exact ⟨j+1,y,by rw [hwj];rfl,⟨hlj⟩,HP1,HB2,BA2,BB2,BT2,BZ2⟩
      case measure=>exact ja hwj hlj
    ·
     have hge:¬ ((j:Int)<(li.length:Int)):=by omega
     have ha:=HP.out;rw [List.drop_eq_nil_of_le (show li.length≤j by omega)] at ha
     unfold br.l1 at ha
     obtain e1:=Option.some.inj ha
     subst e1;have HA2:=HA1.out;rw [if_neg Bool.false_ne_true] at HA2;have HA3:=aS HA2;clear ha HP HA2
     go_wp2
     go_roundw
     case rel=>exact ⟨i+1,z,by rw [hwr];rfl,⟨hlt⟩,HA3,HBr,BA,BB,BT,BZ⟩
     case measure=>exact ja hwr hlt
  ·
   have hge:¬ ((i:Int)<(vs.length:Int)):=by omega
   have ha:=HA0.out;rw [List.drop_eq_nil_of_le (show ls.length≤i by rw [←HL.out];omega)] at ha
   unfold br.l0 at ha
   obtain e1:=Option.some.inj ha
   subst e1
   go_wp2
   go_end0
   exact ⟨rfl,HBr.out,BZ.out⟩
theorem br.calls (k g base:Nat) (ok:Nat→Prop) (s1 s2 s3:Int) (xs:List av) (n:Int) (ls:List (List (List av × List (List av) × List Int))) (c0 c1:ByteArray) (c2:Int) (r:av) (w:World) (hA:aq.At w base ok g s1 s2 s3 xs n ls) (h:br.f k xs ls c0 c1 c2=some r) :
  Calls Tryz.prog 14 #[.pointer (some ⟨g,0,none⟩),.string c0,.string c1,.int .i64 c2] w fun e w'=>e = .returned (.tuple #[.string r.f3,.bool (!r.f4)])∧Below w.heap.size w w':=by
 have hu26:=Tryz.underlying34
 have hmf:∀ (fn:Fn) (first cap:Array Value) (w:World),(Instr.makeFunc fn first cap).run Tryz.prog w = .ok (.func fn first cap) w:=fun _ _ _ _=>rfl
 have HA:=aS hA;have X:=aS h;clear hA h
 go_enter Tryz.func14,Tryz.ntmps14
 go_upto_region 3 with (first | ((with_reducible refine aX (N:=5) rfl ?_);refine aY ?hg (N:=5) ?hd (cs:=#[.string c0]) (t:=9) ?hr ?_;(case hd=>rfl);(case hg=>rfl);(case hr=>(first | (go_simp;done) | (go_simp;rfl)));intro p5 hg w1 hb hbl;have B5:=aS hb;have E5:ak (p5=w.heap.size):=aS hg;have HB1:=aS hbl;clear hg hb hbl) | ((with_reducible refine aX (N:=6) rfl ?_);refine aY ?hg (N:=6) ?hd (cs:=#[.string c1]) (t:=9) ?hr ?_;(case hd=>rfl);(case hg=>rfl);(case hr=>(first | (go_simp;done) | (go_simp;rfl)));intro p6 hg w2 hb hbl;have B6:=aS hb;have B52:=aS (aK B5.out hbl);have HB2:=aS (aN HB1.out hbl);clear hg hb hbl B5 HB1) | ((with_reducible refine aX (N:=7) rfl ?_);refine aY ?hg (N:=7) ?hd (cs:=#[.int .i64 c2]) (t:=3) ?hr ?_;(case hd=>rfl);(case hg=>rfl);(case hr=>(first | (go_simp;done) | (go_simp;rfl)));intro p7 hg w3 hb hbl;have B7:=aS hb;have B53:=aS (aK B52.out hbl);have B63:=aS (aK B6.out hbl);have HB3:=aS (aN HB2.out hbl);clear hg hb hbl B52 B6 HB2) | ((with_reducible refine aX (N:=10) rfl ?_);refine aY ?hg (N:=10) ?hd (cs:=#[.string ⟨#[]⟩,.string ⟨#[]⟩,.int .i64 0,.string ⟨#[]⟩,.bool false]) (t:=34) ?hr ?_;(case hd=>rfl);(case hg=>rfl);(case hr=>(first | (go_simp;done) | (go_simp;rfl)));intro p10 hg w4 hb hbl;have B10:=aS hb;have G10:ak (p5<p10∧p6<p10∧p7<p10∧w.heap.size≤p10):=aS (by rw [hg];exact ⟨dg B53.out,dg B63.out,dg B7.out,HB3.out.size⟩);have B54:=aS (aK B53.out hbl);have B64:=aS (aK B63.out hbl);have B74:=aS (aK B7.out hbl);have HB4:=aS (aN HB3.out hbl);clear hg hb hbl B53 B63 B7 HB3 E5) | ((with_reducible refine eG (t:=34) (p:=10) rfl ?_);refine wpList_store_row rfl 34 _ _ rfl p10 #[.string ⟨#[]⟩,.string ⟨#[]⟩,.int .i64 (-1),.string ⟨#[]⟩,.bool true] rfl rfl 34 _ B10.out (by kernel_rfl) rfl (by kernel_rfl) ?_;have BZ:ak ((World.setRow w4 p10 #[.string ⟨#[]⟩,.string ⟨#[]⟩,.int .i64 (-1),.string ⟨#[]⟩,.bool true]).heap[p10]? = some (.cells #[.string br.z0.f0,.string br.z0.f1,.int .i64 br.z0.f2,.string br.z0.f3,.bool br.z0.f4] 34 (0,0))):=aS (setRow_heap w4 p10 _ #[.string ⟨#[]⟩,.string ⟨#[]⟩,.int .i64 (-1),.string ⟨#[]⟩,.bool true] _ _ B10.out);have HP:=aS (dS (Below.refl p10 w4) (Nat.le_refl p10) #[.string ⟨#[]⟩,.string ⟨#[]⟩,.int .i64 (-1),.string ⟨#[]⟩,.bool true]);have B55:=aS ((HP.out.block p5 G10.out.1).trans B54.out);have B65:=aS ((HP.out.block p6 G10.out.2.1).trans B64.out);have B75:=aS ((HP.out.block p7 G10.out.2.2.1).trans B74.out);have HB5:=aS (dS HB4.out G10.out.2.2.2 #[.string ⟨#[]⟩,.string ⟨#[]⟩,.int .i64 (-1),.string ⟨#[]⟩,.bool true]);clear HP B54 B64 B74 HB4 B10;generalize World.setRow w4 p10 #[.string ⟨#[]⟩,.string ⟨#[]⟩,.int .i64 (-1),.string ⟨#[]⟩,.bool true]=w5 at B55 B65 B75 BZ HB5 ⊢) | (go_at_call 35;(with_reducible refine (br.find k p5 p6 p7 p10 g base ok s1 s2 s3 xs n ls c0 c1 c2 r w w5 HA.out HB5.out B55.out B65.out B75.out BZ.out ⟨G10.out.1,G10.out.2.1,G10.out.2.2.1⟩ G10.out.2.2.2 X.out).mono ?_);rintro e_ w9 ⟨rfl,hb,hz_⟩;have HB9:=aS hb;have BZ9:=aS hz_;clear hb hz_))
 refine dz (n:=7) (ds:=[]) (S:=fun w'=>w'.cell? ⟨p10,3,none⟩=some (.string r.f3)∧w'.cell? ⟨p10,4,none⟩=some (.bool r.f4)) (bA 7 0) (by kernel_rfl) rfl rfl ⟨(aG (au BZ9.out) 3).trans rfl,(aG (au BZ9.out) 4).trans rfl⟩ (fun hHeld=>?_)
 generalize hw_:World.drew _=wd at hHeld ⊢
 have HBd:ak (Below w.heap.size w wd):=aS (hw_▸aN HB9.out (bN (Below.refl _ _)));clear hw_ HB9 BZ9;refine cH (T:=(true,[([],[]),([0],[0]),([],[]),([2],[2]),([3],[3]),([1,0,1],[1]),([4,5,0,1,2,3,4,5],[4])])) (B:=[0,1,0,4,12,3,63]) (by kernel_rfl) (by kernel_rfl) (fun HT_ HW_=>?_);refine aZ [(0,15)] ?_
 iterate 1 (refine cr HT_ ?_)
 refine bX (bA 7 1) (by kernel_rfl) ?_;refine aZ [(1,16)] ?_
 iterate 1 (refine d_ HT_ HW_ hHeld ?_)
 refine bX (bA 7 3) (by kernel_rfl) ?_;refine aZ [(2,17)] ?_
 iterate 1 (refine cr HT_ ?_)
 refine bX (bA 7 7) (by kernel_rfl) ?_;refine aZ [(3,18)] ?_
 iterate 1 (refine d_ HT_ HW_ hHeld ?_)
 refine bX (bA 7 15) (by kernel_rfl) ?_;refine aZ [(4,19),(5,8),(6,9)] ?_
 iterate 3 (refine cr HT_ ?_)
 refine bX (bA 7 127) (by kernel_rfl) ?_;refine dQ (cX HT_.out (by kernel_rfl)) ?_;clear HT_ HW_ hHeld
 try go_wp2
 go_ret2
 exact ⟨rfl,HBd.out⟩
end Go.Proofs.YtcbhfedcdnjljaaGreat.X

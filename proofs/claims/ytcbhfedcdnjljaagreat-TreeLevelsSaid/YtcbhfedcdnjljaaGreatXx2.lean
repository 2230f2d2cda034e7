import Derived.Test.YtcbhfedcdnjljaaGreatXx0
set_option maxHeartbeats 8000000
set_option maxRecDepth 100000
set_option linter.unusedVariables false
set_option linter.unusedSimpArgs false
namespace Go.Proofs.YtcbhfedcdnjljaaGreat.X
open Go.RowKit Go.Proofs.YtcbhfedcdnjljaaGreatW.PrintWords Go.Proofs.YtcbhfedcdnjljaaGreatW.PrintLast Go.Proofs.YtcbhfedcdnjljaaGreatW.PrintMore
attribute [local go_sem] gZ g_ iW iZ gF gD ic ig iX
def fJ.f (a0:Int) (a1:Int):Option (Bool):=if a0≥1 then (some (decide (a0≤a1))) else (some false)
theorem fJ.calls (a0:Int) (a1:Int) (r:Bool) (w:World) (h:fJ.f a0 a1=some r) :
  Calls Tryz.prog 24 #[.int .i64 a0,.int .i64 a1] w fun e w'=>e = .returned (.bool r)∧bF w w':=by
 have H:(if a0≥1 then (some (decide (a0≤a1))) else (some false))=some r:=h;clear h
 by_cases c3:a0≥1
 ·
  rw [if_pos c3] at H;have c3b0:decide (1≤a0)=true:=decide_eq_true c3;clear c3
  obtain rfl:=Option.some.inj H
  go_enter Tryz.func24,Tryz.ntmps24
  go_wp2
  go_ret
  exact ⟨by first | rfl | (simp;done) | (simp [*];done) | (simp;exact (by decide:∀ a_ b_:Bool,(a_ == b_)=(!a_ != b_)) _ _),by repeat (first | exact bF.refl _ | apply bF.step)⟩
 ·
  rw [if_neg c3] at H;have c3b0:decide (1≤a0)=false:=decide_eq_false c3;clear c3
  obtain rfl:=Option.some.inj H
  go_enter Tryz.func24,Tryz.ntmps24
  go_wp2
  go_ret
  exact ⟨by first | rfl | (simp;done) | (simp [*];done) | (simp;exact (by decide:∀ a_ b_:Bool,(a_ == b_)=(!a_ != b_)) _ _),by repeat (first | exact bF.refl _ | apply bF.step)⟩
def ck.At (w:World) (base g:Nat) (xs:List av) (n:Int) (v:Value):Prop:=base≤g∧w.heap[g]? = some (.cells #[v,.int .i64 n] 78 (0,0))∧Kd.R cC 34 w base (fun _=>True) v xs
structure ck.Two (w w':World) (g:Nat) (row:Option Nat):Prop where
 os:w'.os=w.os
 tape:w'.tape=w.tape
 output:w'.output=w.output
 size:w.heap.size≤w'.heap.size
 block:∀ k,k<w.heap.size→k≠g→some k≠row→w'.heap[k]? = w.heap[k]?
section
variable {w w1 w2:World} {base b g:Nat} {xs:List av} {n:Int} {v:Value} {row:Option Nat}
theorem ck.At.below (h:ck.At w base g xs n v) (hb:Below w.heap.size w w1):ck.At w1 base g xs n v:=⟨h.1,aK h.2.1 hb,Kd.dA h.2.2 hb⟩
theorem ck.At.lower (h:ck.At w base g xs n v) (hb:b≤base):ck.At w b g xs n v:=⟨Nat.le_trans hb h.1,h.2.1,Kd.bf h.2.2 hb⟩
theorem ck.At.lt (h:ck.At w base g xs n v):g<w.heap.size:=dg h.2.1
theorem ck.At.reads {A:Option Addr} {m c:Nat} (h:ck.At w base g xs n (.slice A m c)):Kd.C cC w A xs.length xs:=(Kd.bh h.2.2).2.2
theorem ck.At.ne (h:ck.At w base g xs n v):some g≠v.ownBlock:=Kd.jH h.2.2 h.2.1 (by decide)
theorem ck.At.rows (h:ck.At w base g xs n v):∃ A c,v = .slice A xs.length c∧xs.length≤c∧Kd.C cC w A xs.length xs:=Kd.fT h.2.2
theorem ck.Two.refl (w:World) (g:Nat) (row:Option Nat):ck.Two w w g row:=⟨rfl,rfl,rfl,Nat.le_refl _,fun _ _ _ _=>rfl⟩
theorem ck.Two.jX (h:Below w.heap.size w w1) (g:Nat) (row:Option Nat):ck.Two w w1 g row:=⟨h.os,h.tape,h.output,h.size,fun k hk _ _=>h.block k hk⟩
theorem ck.Two.step (h:ck.Two w w1 g row) (hb:Below w1.heap.size w1 w2):ck.Two w w2 g row:=
 ⟨hb.os.trans h.os,hb.tape.trans h.tape,hb.output.trans h.output,Nat.le_trans h.size hb.size,fun k hk h1 h2=>(hb.block k (Nat.lt_of_lt_of_le hk h.size)).trans (h.block k hk h1 h2)⟩
theorem ck.Two.below {B:Nat} {w0:World} (h:ck.Two w w1 g v.ownBlock) (ha:ck.At w base g xs n v) (hB:B≤base) (h0:Below B w0 w):Below B w0 w1:=
 h0.trans ⟨h.os,h.tape,h.output,h.size,fun k hk=>h.block k (by have:=ha.lt;have:=ha.1;omega) (by have:=ha.1;omega) (fun he=>by have:=Kd.fF ha.2.2 k he.symm;omega)⟩
theorem ck.Two.set (w:World) (g j:Nat) (u:Value) (row:Option Nat):ck.Two w (w.setCell ⟨g,j,none⟩ u) g row:=⟨rfl,rfl,rfl,by simp [World.setCell],fun k _ hk _=>Below.heap_setCell w ⟨g,j,none⟩ u k hk⟩
theorem ck.Two.trans (h:ck.Two w w1 g row) {row1:Option Nat} (h1:ck.Two w1 w2 g row1) (hr:row1=row∨∃ k,row1=some k∧w.heap.size≤k):ck.Two w w2 g row:=
 ⟨h1.os.trans h.os,h1.tape.trans h.tape,h1.output.trans h.output,Nat.le_trans h.size h1.size,fun k hk hg hk2=>(h1.block k (Nat.lt_of_lt_of_le hk h.size) hg (fun he=>by
  rcases hr with hr | ⟨m,hm,hle⟩
  ·
   exact hk2 (by rw [he,hr])
  ·
   rw [hm] at he;injection he with he;omega)).trans (h.block k hk hg hk2)⟩
theorem ck.Two.grown (h:w.grownBy w1 row) (g:Nat):ck.Two w w1 g row:=⟨h.os,h.tape,h.output,h.size,fun k hk _ hr=>h.block k hk hr⟩
end
theorem ck.calls (w:World):Calls Tryz.prog 25 #[] w fun e w'=>∃ g:Nat,e = .returned (.pointer (some ⟨g,0,none⟩))∧ck.At w' w.heap.size g [] 0 (.slice none 0 0)∧Below w.heap.size w w':=by
 have hu46:=Tryz.underlying78;have hi46:=EP
 go_enter Tryz.func25,Tryz.ntmps25
 go_wp2_with ((with_reducible refine aX (N:=2) rfl ?_);refine aY ?hg (N:=2) ?hd (cs:=#[.slice none 0 0,.int .i64 0]) (t:=78) ?hr ?_;(case hd=>rfl);(case hg=>rfl);(case hr=>(first | (go_simp;done) | (go_simp;rfl)));intro g hg w1 hbk hb;have BK:=aS hbk;have BL:=aS hb;have GE:=aS hg;clear hg hbk hb)
 go_ret
 exact ⟨g,rfl,⟨by rw [GE.out];exact Nat.le_refl _,BK.out,Kd.dX _ _ _ _ _⟩,BL.out⟩
-- its contract stands with slices.Concat's
theorem oo (w:World):Calls Tryz.prog 96 #[.slice none 0 0,.int .i64 0] w fun e w'=>e = .returned (.slice none 0 0)∧w=w':=by
 go_enter Tryz.func96,Tryz.ntmps96
 go_wp2
 go_ret
 exact ⟨rfl,rfl⟩
theorem nZ (n:Int) (w:World) (h0:0<n) (hn:n≤140737488355328):Calls Tryz.prog 96 #[.slice none 0 0,.int .i64 n] w fun e w'=>∃ v0_:Value,e = .returned v0_∧Kd.R (Kd.int .u8) 5 w' w.heap.size (fun _=>True) v0_ []∧Below w.heap.size w w':=by
 have p1:¬ n<0:=by omega
 have p3:0≤n:=by omega
 obtain ⟨i0,hi0,_,_,_⟩:=info_parts fE;have hcut0:=jR (P:=Tryz.prog) 51 5 .i64 Tryz.underlying51 hi0 none 0 0 0 (by omega) (by omega) (by omega)
 go_enter Tryz.func96,Tryz.ntmps96
 go_wp2_with (first
  | (at_builtin;refine Kd.uJ (Kd.int .u8) (w0:=w) w.heap.size rfl (.tmp 20) (.tmp 21) 51 3 5 (.int .u8 0) 1 rfl Tryz.underlying51 Tryz.underlying3 fE rfl (by decide) (by omega) (.slice none 0 0) [] 0 (n:Int) (fun _=>True) rfl rfl rfl (fun _ _=>trivial) (Kd.dX _ _ _ _ _) p3 (Below.refl _ _) (Nat.le_refl _) (by simp;omega) ?_;intro v1 w1 ho hb hg hat;clear hg hat;obtain ⟨A1,c1,rfl⟩:=Kd.bq ho;have ht:=Kd.B_ (m:=0) ho (Nat.zero_le _);have HO:=aS ht;have HB:=aS hb;have hcut1:=jR (P:=Tryz.prog) 51 5 .i64 Tryz.underlying51 hi0 A1 ([]++List.replicate n.toNat (0:Int)).length c1 0 (by omega) (by omega) (Kd.bh ho).2.1;clear ho hb ht))
 go_ret
 exact ⟨_,rfl,HO.out,HB.out⟩
def cw.f (l0:List (List Int)):Option (List Int):=if fL l0≤140737488355328 then some l0.flatten else none
theorem cw.calls (A0:Option Addr) (c0:Nat) (l0:List (List Int)) (r:List Int) (w:World) (hr0:Kd.C (Kd.slice 5 (Kd.int .u8)) w A0 l0.length l0) (hc0:l0.length≤c0) (h:cw.f l0=some r) :
  Calls Tryz.prog 84 #[.slice A0 l0.length c0] w fun e w'=>∃ v0_:Value,e = .returned (v0_)∧Kd.R (Kd.int .u8) 5 w' w.heap.size (fun _=>True) v0_ r∧Below w.heap.size w w':=by
 unfold cw.f at h
 split at h
 rotate_left
 ·
  cases h
 rename_i hlim
 obtain rfl:=Option.some.inj h
 clear h;have HL:=aS hlim;have HR:=aS hr0;have HM:=aS (Kd.zZ hr0);clear hlim hr0 hc0
 go_enter Tryz.func84,Tryz.ntmps84
 go_wp2
 go_loop [3,11] (fun s i=>∃ k:Nat,i = .int .i64 (k:Int)∧s = .int .i64 ((fL (l0.take k):Nat):Int)∧ak (k≤l0.length)) (fun _ i=>l0.length - (intOf i).toNat)
 case atStart=>exact ⟨0,rfl,by simp [fL],⟨Nat.zero_le _⟩⟩
 case round=>
  obtain ⟨k,rfl,rfl,hk⟩:=hrel
  by_cases hlt:k<l0.length
  ·
   obtain ⟨ad,A1,c1,rfl,hcell,hl1,hC1⟩:=Dp HR.out (k:Int) (by omega) (by omega);rw [Int.toNat_natCast] at hcell;have b1:fL (l0.take (k+1))=fL (l0.take k)+(l9 l0 (k:Int)).length:=sH l0 k hlt;have b2:=vN l0 (k+1);have b3:=HL.out
   have b4:((fL (l0.take k):Nat):Int)+((l9 l0 (k:Int)).length:Int)≤140737488355328:=by omega
   have e1:((fL (l0.take k):Nat):Int)+((l9 l0 (k:Int)).length:Int)=((fL (l0.take (k+1)):Nat):Int):=by omega
   have E1:=aS e1;have b5:=HM.out;clear b1 b2 b3 e1 hl1 hC1
   go_wp2
   go_round
   case rel=>exact ⟨k+1,by go_num,by rw [E1.out],⟨by omega⟩⟩
   case measure=>simp [intOf];omega
  ·
   have hkl:k=l0.length:=by have:=hk.out;omega
   subst hkl;rw [List.take_length];have b0:=HL.out
   by_cases hz:fL l0=0
   all_goals
    go_wp2_with (first
     | (go_at_call 96;rw [hz];refine (oo _).mono ?_;rintro e w1 ⟨rfl,rfl⟩;have HB:=aS (Below.refl w.heap.size w);have HO:=aS (Kd.dX (Kd.int .u8) 5 w w.heap.size (fun _=>True)))
     | (go_at_call 96;refine (nZ _ _ (by omega) (by omega)).mono ?_;rintro e w1 ⟨v0,rfl,ho,hb⟩;have HO:=aS ho;have HB:=aS hb;clear ho hb))
    go_loopw [6,27] (fun v i w2=>∃ k:Nat,i = .int .i64 (k:Int)∧ak (k≤l0.length)∧ak (Kd.R (Kd.int .u8) 5 w2 w.heap.size (fun _=>True) v (l0.take k).flatten)∧ak (Below w.heap.size w w2)) (fun _ i _=>l0.length - (intOf i).toNat)
    case atStart=>exact ⟨0,rfl,⟨Nat.zero_le _⟩,HO,HB⟩
    case round=>
     clear HO HB;obtain ⟨k,rfl,hk1,HO1,HB1⟩:=hrel
     by_cases hlt:k<l0.length
     ·
      obtain ⟨ad,A1,c1,rfl,hcell,hl1,hC1⟩:=Dp (Kd.cW HR.out HB1.out) (k:Int) (by omega) (by omega);rw [Int.toNat_natCast] at hcell;have b1:fL (l0.take (k+1))=fL (l0.take k)+(l9 l0 (k:Int)).length:=sH l0 k hlt;have b2:=vN l0 (k+1)
      have b3:fL (l0.take k)+(l9 l0 (k:Int)).length≤140737488355328:=by omega
      have B3:=aS b3;have F3:=aS (show (l0.take (k+1)).flatten=(l0.take k).flatten++l9 l0 (k:Int) from Bd l0 k hlt);have HC1:=aS hC1;have b5:=HM.out;clear b1 b2 hl1 hC1 b0 b3
      go_wp2_with (first
       | (at_builtin;refine Kd.wT (Value.int .u8) (0:Int) (h1:=fun _=>rfl) (w0:=w) w.heap.size rfl (.tmp 31) (.tmp 32) 51 5 _ 1 rfl Tryz.underlying51 fE rfl (by decide) _ (l0.take k).flatten (l9 l0 (k:Int)) A1 (l9 l0 (k:Int)).length c1 (fun _=>True) rfl rfl (fun _ _=>trivial) HO1.out HC1.out HB1.out HB1.out.size (by rw [yO];have:=B3.out;omega) ?_;intro v2 w3 ho hb hg hat;clear hg hat;rw [←F3.out] at ho;have HO2:=aS ho;have HB2:=aS hb;clear ho hb))
      go_roundw
      case rel=>exact ⟨k+1,by go_num,⟨by omega⟩,HO2,HB2⟩
      case measure=>simp [intOf];omega
     ·
      have hkl:k=l0.length:=by have:=hk1.out;omega
      subst hkl;rw [List.take_length] at HO1
      go_wp2
      go_ret
      exact ⟨_,rfl,HO1.out,HB1.out⟩
def eH.f (a0:Int):Option (List Int):=if a0<0 then (some ([]:List Int)) else (if a0 > 4294967295 then (some ([]:List Int)) else (some (([(a0 / 16777216) % 256,(a0 / 65536) % 256,(a0 / 256) % 256,(a0) % 256]:List Int))))
theorem eH.calls (a0:Int) (r:List Int) (w:World) (h:eH.f a0=some r) :
  Calls Tryz.prog 86 #[.int .i64 a0] w fun e w'=>∃ v0_:Value,e = .returned (v0_)∧Kd.R (Kd.int .u8) 5 w' w.heap.size (fun _=>True) v0_ r∧Below w.heap.size w w':=by
 have HB:=aS (Below.refl w.heap.size w);have H:(if a0<0 then (some ([]:List Int)) else (if a0 > 4294967295 then (some ([]:List Int)) else (some (([(a0 / 16777216) % 256,(a0 / 65536) % 256,(a0 / 256) % 256,(a0) % 256]:List Int)))))=some r:=h;clear h
 by_cases c2:a0<0
 ·
  rw [if_pos c2] at H;have c2b0:decide (a0<0)=true:=decide_eq_true c2;clear c2
  obtain rfl:=Option.some.inj H
  go_enter Tryz.func86,Tryz.ntmps86
  go_wp2
  go_ret
  exact ⟨_,dN,by first | exact Kd.dX _ _ _ _ _ | exact Kd.gy _ _ _ _ _ | exact Kd.fN _ _ _ _ _ | exact Kd.gB _ _ _ _ _ | exact Kd.gA _ _ _ _ _,ar⟩
 ·
  rw [if_neg c2] at H;have c2b0:decide (a0<0)=false:=decide_eq_false c2;clear c2
  by_cases c3:a0 > 4294967295
  ·
   rw [if_pos c3] at H;have c3b0:decide (4294967295<a0)=true:=decide_eq_true c3;clear c3
   obtain rfl:=Option.some.inj H
   go_enter Tryz.func86,Tryz.ntmps86
   go_wp2
   go_ret
   exact ⟨_,dN,by first | exact Kd.dX _ _ _ _ _ | exact Kd.gy _ _ _ _ _ | exact Kd.fN _ _ _ _ _ | exact Kd.gB _ _ _ _ _ | exact Kd.gA _ _ _ _ _,ar⟩
  ·
   rw [if_neg c3] at H;have c3b0:decide (4294967295<a0)=false:=decide_eq_false c3;clear c3
   obtain ⟨y101,hy101⟩:∃ y_:List Int,y_=(([(a0 / 16777216) % 256,(a0 / 65536) % 256,(a0 / 256) % 256,(a0) % 256]:List Int)):=⟨_,rfl⟩
   replace H:(some y101)=some r:=pE hy101 H;have Ny101:=aS hy101;clear hy101
   obtain rfl:=Option.some.inj H
   go_enter Tryz.func86,Tryz.ntmps86
   go_wp2_with (first | ((with_reducible refine aX (N:=20) rfl ?_);refine Kd.pH (Kd.int .u8) _ 5 ?hg (N:=20) ?hd (xs:=([(a0 / 16777216) % 256,(a0 / 65536) % 256,(a0 / 256) % 256,(a0) % 256]:List Int)) (inner:=[.int .u8 ((a0 / 16777216) % 256),.int .u8 ((a0 / 65536) % 256),.int .u8 ((a0 / 256) % 256),.int .u8 ((a0) % 256)]) (ok:=fun _=>True) (okp:=fun _=>True) ?hr ?hp (fun _ hk=>hk) trivial (Below.refl _ _) (Nat.le_refl _) (by simp) ?_;(case hd=>rfl);(case hg=>rfl);(case hr=>first | (go_simp;done) | (go_simp;rfl));(case hp=>exact (bH.one (show Kd.M (Kd.int .u8) _ _ _ ((a0 / 16777216) % 256) [.int .u8 ((a0 / 16777216) % 256)] from rfl) (bH.one (show Kd.M (Kd.int .u8) _ _ _ ((a0 / 65536) % 256) [.int .u8 ((a0 / 65536) % 256)] from rfl) (bH.one (show Kd.M (Kd.int .u8) _ _ _ ((a0 / 256) % 256) [.int .u8 ((a0 / 256) % 256)] from rfl) (bH.one (show Kd.M (Kd.int .u8) _ _ _ ((a0) % 256) [.int .u8 ((a0) % 256)] from rfl) (bH.none _ _))))));intro v102 w4 ho5 hb hg_ hnew_;clear hg_ hnew_;(first | rw [←Ny101.out] at ho5 | (simp only [Int.reduceToNat] at ho5;rw [←Ny101.out] at ho5));have HO103:=aS (Kd.bf ho5 (ay ar));replace HB:=aM hb;clear hb ho5))
   go_ret
   exact ⟨_,dN,by (with_reducible repeat (first | apply Kd.bS | apply Kd.bO | apply Kd.bP));exact HO103.out,ar⟩
def eD.f (a0:ByteArray):Option (List Int):=(eH.f (a0.size:Int)).bind fun t104=>(if t104.length+a0.size<140737488355328 then (some (t104++bytesOf a0)) else (none))
theorem eD.calls (a0:ByteArray) (r:List Int) (w:World) (h:eD.f a0=some r) :
  Calls Tryz.prog 85 #[.string a0] w fun e w'=>∃ v0_:Value,e = .returned (v0_)∧Kd.R (Kd.int .u8) 5 w' w.heap.size (fun _=>True) v0_ r∧Below w.heap.size w w':=by
 have HB:=aS (Below.refl w.heap.size w);have H:((eH.f (a0.size:Int)).bind fun t104=>(if t104.length+a0.size<140737488355328 then (some (t104++bytesOf a0)) else (none)))=some r:=h;clear h;replace H:=bV H;obtain ⟨t104,A20,H⟩:=H;have A2:=aS A20;clear A20
 by_cases c3:t104.length+a0.size<140737488355328
 ·
  rw [if_pos c3] at H;have LMc3:=aS c3;clear c3
  obtain ⟨y107,hy107⟩:∃ y_:List Int,y_=(t104++bytesOf a0):=⟨_,rfl⟩
  replace H:(some y107)=some r:=pE hy107 H;have Ny107:=aS hy107;clear hy107
  obtain rfl:=Option.some.inj H
  go_enter Tryz.func85,Tryz.ntmps85
  go_wp2_with (first | ((with_reducible refine aC (f:=86) rfl ?_);refine bE (some 5) rfl rfl Tryz.func86 (by kernel_rfl) rfl #[.int .i64 (a0.size:Int)] rfl cD ?_;(with_reducible refine (eH.calls (a0.size:Int) t104 _ A2.out).mono ?_);rintro e w4 ⟨v105,rfl,ho0,hb⟩;refine ⟨_,rfl,?_⟩;have HO106:=aS (Kd.bf ho0 (ay ar));replace HB:=aM hb;(try clear hb);(try clear hk);(try clear hi);(try clear ho0)) | (at_builtin;refine oQ (w0:=w) w.heap.size rfl (.tmp 5) _ 51 9 5 rfl Tryz.underlying51 Tryz.underlying9 fE v105 t104 a0 rfl rfl ?aO ?aB ?aS ?aL ?_;(case aB=>exact ar);(case aO=>exact (Kd.iY (rel HO106.out)));(case aS=>exact (ay ar));(case aL=>have:=LMc3.out;omega);intro v108 w5 ho0 hb hg;have ho:=Kd.nr (h1:=fun _=>rfl) (ok:=fun _=>True) ho0 (fun _ _=>trivial);clear ho0;have hat:=True.intro;rw [←Ny107.out] at ho;change Kd.R (Kd.int .u8) 5 w5 w.heap.size (fun _=>True) v108 y107 at ho;have n0_:=aS (hb);have n1_:=aS (ho);clear HB;clear HO106;have HB:=n0_;have HO109:=n1_;clear n0_ n1_;clear ho hb hg hat))
  go_ret
  exact ⟨_,dN,by (with_reducible repeat (first | apply Kd.bS | apply Kd.bO | apply Kd.bP));exact HO109.out,ar⟩
 ·
  rw [if_neg c3] at H;exact absurd H (by simp)
def lH.f (a0:Bool):Option (Int):=if a0=true then (some 1) else (some 0)
theorem lH.calls (a0:Bool) (r:Int) (w:World) (h:lH.f a0=some r) :
  Calls Tryz.prog 87 #[.bool a0] w fun e w'=>e = .returned (.int .u8 r)∧bF w w':=by
 have H:(if a0=true then (some 1) else (some 0))=some r:=h;clear h
 by_cases c2:a0=true
 ·
  subst c2
  replace H:=jQ H
  obtain rfl:=Option.some.inj H
  go_enter Tryz.func87,Tryz.ntmps87
  go_wp2
  go_ret
  exact ⟨by first | rfl | (simp;done) | (simp [*];done) | (simp;exact (by decide:∀ a_ b_:Bool,(a_ == b_)=(!a_ != b_)) _ _),by repeat (first | exact bF.refl _ | apply bF.step)⟩
 ·
  replace c2:=Bool.eq_false_iff.mpr c2;subst c2
  replace H:=jO H
  obtain rfl:=Option.some.inj H
  go_enter Tryz.func87,Tryz.ntmps87
  go_wp2
  go_ret
  exact ⟨by first | rfl | (simp;done) | (simp [*];done) | (simp;exact (by decide:∀ a_ b_:Bool,(a_ == b_)=(!a_ != b_)) _ _),by repeat (first | exact bF.refl _ | apply bF.step)⟩
def dn.f (a0_0:ByteArray) (a0_1:ByteArray) (a0_2:Int) (a0_3:ByteArray) (a0_4:Bool):Option (List Int):=(eD.f a0_0).bind fun t111=>((eD.f a0_1).bind fun t114=>((eH.f a0_2).bind fun t117=>((lH.f a0_4).bind fun t120=>((eD.f a0_3).bind fun t124=>((cw.f (([t111,t114,t117,(([t120]:List Int)),t124]:List (List Int)))).bind fun t130=>(some t130))))))
def dn.T1:Bool × List (List Nat × List Nat):=(true,[([],[]),([0],[0]),([1],[1]),([],[]),([3],[3]),([4,2],[4]),([],[]),([6],[6]),([7,5],[7]),([],[]),([9],[9]),([10,8],[10]),([11],[11]),([],[]),([13],[13]),([14,11],[14]),([2,5,8,12,15],[2,5,8,12,15]),([16,15],[16]),([17,17,0,1,2,3,4,5,6,7,8,9,10,11,12,13,14,15,16,17],[17])])
def dn.B1:List Nat:=[0,1,3,0,8,31,0,64,255,0,512,2047,4095,0,8192,28671,65535,131071,262143]
theorem dn.o4:fC .any (opsOf Tryz.f65 1)=dn.T1:=by kernel_rfl
theorem dn.mY:fY dn.T1.2 dn.B1=true:=by kernel_rfl
theorem dn.calls (a0_0:ByteArray) (a0_1:ByteArray) (a0_2:Int) (a0_3:ByteArray) (a0_4:Bool) (r:List Int) (w:World) (h:dn.f a0_0 a0_1 a0_2 a0_3 a0_4=some r) :
  Calls Tryz.prog 65 #[.agg #[.string a0_0,.string a0_1,.int .i64 a0_2,.string a0_3,.bool a0_4]] w fun e w'=>∃ v0_:Value,e = .returned (v0_)∧Kd.R (Kd.int .u8) 5 w' w.heap.size (fun _=>True) v0_ r∧Below w.heap.size w w':=by
 have hu34:=Tryz.underlying34;have HB:=aS (Below.refl w.heap.size w);have H:((eD.f a0_0).bind fun t111=>((eD.f a0_1).bind fun t114=>((eH.f a0_2).bind fun t117=>((lH.f a0_4).bind fun t120=>((eD.f a0_3).bind fun t124=>((cw.f (([t111,t114,t117,(([t120]:List Int)),t124]:List (List Int)))).bind fun t130=>(some t130)))))))=some r:=h;clear h;replace H:=bV H;obtain ⟨t111,A20,H⟩:=H;have A2:=aS A20;clear A20;replace H:=bV H;obtain ⟨t114,A30,H⟩:=H;have A3:=aS A30;clear A30;replace H:=bV H;obtain ⟨t117,A40,H⟩:=H;have A4:=aS A40;clear A40;replace H:=bV H;obtain ⟨t120,A50,H⟩:=H;have A5:=aS A50;clear A50
 obtain ⟨y121,hy121⟩:∃ y_:List Int,y_=(([t120]:List Int)):=⟨_,rfl⟩
 (first | replace H:=j8 hy121 H | rw [←hy121] at H);have Ny121:=aS hy121;clear hy121;replace H:=bV H;obtain ⟨t124,A60,H⟩:=H;have A6:=aS A60;clear A60
 obtain ⟨y127,hy127⟩:∃ y_:List (List Int),y_=(([t111,t114,t117,y121,t124]:List (List Int))):=⟨_,rfl⟩
 (first | replace H:=j8 hy127 H | rw [←hy127] at H);have Ny127:=aS hy127;clear hy127;replace H:=bV H;obtain ⟨t130,A70,H⟩:=H;have A7:=aS A70;clear A70
 obtain rfl:=Option.some.inj H
 go_enter Tryz.func65,Tryz.ntmps65
 try go_wp2_with (first | ((with_reducible refine aX (N:=1) rfl ?_);refine aY ?hg (N:=1) ?hd (cs:=#[.string a0_0,.string a0_1,.int .i64 a0_2,.string a0_3,.bool a0_4]) (t:=34) ?hr ?_;(case hd=>rfl);(case hg=>rfl);(case hr=>first | (go_simp;done) | (go_simp;rfl));intro gb110 hg w8 hbox hb;have BK110:=aS (hbox);have GW110:=bsize hg;have GE110:=bsize hg;replace HB:=aM hb;clear hb hbox hg))
 replace BK110:=aS (au BK110.out);replace HB:=aS (jG HB.out);refine dz (n:=19) (S:=fun w'=>w'.cell? ⟨gb110,0,none⟩=some (.string a0_0)∧w'.cell? ⟨gb110,1,none⟩=some (.string a0_1)∧w'.cell? ⟨gb110,2,none⟩=some (.int .i64 a0_2)∧w'.cell? ⟨gb110,3,none⟩=some (.string a0_3)∧w'.cell? ⟨gb110,4,none⟩=some (.bool a0_4)) (ds:=[]) (bA 19 0) (by kernel_rfl) rfl rfl ⟨bc BK110 0,bc BK110 1,bc BK110 2,bc BK110 3,bc BK110 4⟩ (fun hHeld=>?_);refine cH dn.o4 dn.mY (fun HT_ HW_=>?_)
 generalize w8.drew=w9 at BK110 HB hHeld ⊢
 refine aZ [(0,3),(3,6),(6,9),(9,12),(13,16),(1,4),(4,7),(7,10),(10,13),(14,17)] ?_
 iterate 10 (first | (refine cr HT_ ?_) | (refine d_ HT_ HW_ hHeld ?_))
 refine bX (bA 19 26331) (by kernel_rfl) ?_;refine dJ 2 (N:=some 5) (bA 19 26335) HT_ (fun K hK=>?_);refine ep Tryz.func85 (by kernel_rfl) rfl #[.string a0_0] (by rfl) rfl rfl cD ?_
 with_reducible refine (eD.calls a0_0 t111 _ A2.out).mono ?_
 rintro e w10 ⟨v112,rfl,ho0,hb⟩
 refine ⟨_,rfl,?_⟩;have HO113:=aS (Kd.bf ho0 (ay ar));replace BK110:=fA BK110 hb;replace HB:=aM hb;(try clear hb);(try clear hk);(try clear hi);(try clear ho0);refine hK.out _ _ ⟨bc BK110 0,bc BK110 1,bc BK110 2,bc BK110 3,bc BK110 4⟩ (fun hHeld=>?_);clear hK K;refine nm 5 ?_;refine dJ 5 (N:=some 8) (bA 19 26367) HT_ (fun K hK=>?_);refine ep Tryz.func85 (by kernel_rfl) rfl #[.string a0_1] (by rfl) rfl rfl cD ?_
 with_reducible refine (eD.calls a0_1 t114 _ A3.out).mono ?_
 rintro e w11 ⟨v115,rfl,ho0,hb⟩
 refine ⟨_,rfl,?_⟩;have HO116:=aS (Kd.bf (Kd.cI ho0 (Kd.cK (rel HO113.out))) (ay ar));replace HO113:=aS (Kd.bR (rel HO113.out) (dh ho0) hb);replace BK110:=fA BK110 hb;replace HB:=aM hb;(try clear hb);(try clear hk);(try clear hi);(try clear ho0);refine hK.out _ _ ⟨bc BK110 0,bc BK110 1,bc BK110 2,bc BK110 3,bc BK110 4⟩ (fun hHeld=>?_);clear hK K;refine nm 8 ?_;refine dJ 8 (N:=some 11) (bA 19 26623) HT_ (fun K hK=>?_);refine ep Tryz.func86 (by kernel_rfl) rfl #[.int .i64 a0_2] (by rfl) rfl rfl cD ?_
 with_reducible refine (eH.calls a0_2 t117 _ A4.out).mono ?_
 rintro e w12 ⟨v118,rfl,ho0,hb⟩
 refine ⟨_,rfl,?_⟩;have HO119:=aS (Kd.bf (Kd.cI (Kd.cI ho0 (Kd.cK (rel HO113.out))) (Kd.cK (rel HO116.out))) (ay ar));replace HO113:=aS (Kd.bR (rel HO113.out) (dh ho0) hb);replace HO116:=aS (Kd.bR (rel HO116.out) (dh ho0) hb);replace BK110:=fA BK110 hb;replace HB:=aM hb;(try clear hb);(try clear hk);(try clear hi);(try clear ho0);refine hK.out _ _ ⟨bc BK110 0,bc BK110 1,bc BK110 2,bc BK110 3,bc BK110 4⟩ (fun hHeld=>?_);clear hK K;refine nm 11 ?_;refine dJ 11 (N:=some 14) (bA 19 28671) HT_ (fun K hK=>?_);refine ep Tryz.func87 (by kernel_rfl) rfl #[.bool a0_4] (by rfl) rfl rfl cD ?_
 with_reducible refine (lH.calls a0_4 t120 _ A5.out).mono ?_
 rintro e w' ⟨rfl,⟨nd,rfl⟩⟩
 refine ⟨_,rfl,?_⟩;refine hK.out _ _ ⟨bc BK110 0,bc BK110 1,bc BK110 2,bc BK110 3,bc BK110 4⟩ (fun hHeld=>?_);clear hK K;refine nm 14 ?_;refine AK (σ:=Value × Value) 3 (bA 19 65535) (fun s_=>[(15,s_.1),(18,s_.2)]) (fun s_ w'=>(w'.cell? ⟨gb110,0,none⟩=some (.string a0_0)∧w'.cell? ⟨gb110,1,none⟩=some (.string a0_1)∧w'.cell? ⟨gb110,2,none⟩=some (.int .i64 a0_2)∧w'.cell? ⟨gb110,3,none⟩=some (.string a0_3)∧w'.cell? ⟨gb110,4,none⟩=some (.bool a0_4))∧(Kd.R (Kd.int .u8) 5 w' w.heap.size (fun k_=>some k_≠(v115:Value).ownBlock∧some k_≠(v118:Value).ownBlock∧some k_≠(s_.1:Value).ownBlock∧some k_≠(s_.2:Value).ownBlock) v112 t111)∧(Kd.R (Kd.int .u8) 5 w' w.heap.size (fun k_=>some k_≠(v112:Value).ownBlock∧some k_≠(v118:Value).ownBlock∧some k_≠(s_.1:Value).ownBlock∧some k_≠(s_.2:Value).ownBlock) v115 t114)∧(Kd.R (Kd.int .u8) 5 w' w.heap.size (fun k_=>some k_≠(v112:Value).ownBlock∧some k_≠(v115:Value).ownBlock∧some k_≠(s_.1:Value).ownBlock∧some k_≠(s_.2:Value).ownBlock) v118 t117)∧(Kd.R (Kd.int .u8) 5 w' w.heap.size (fun k_=>some k_≠(v112:Value).ownBlock∧some k_≠(v115:Value).ownBlock∧some k_≠(v118:Value).ownBlock∧some k_≠(s_.2:Value).ownBlock) s_.1 y121)∧(Kd.R (Kd.int .u8) 5 w' w.heap.size (fun k_=>some k_≠(v112:Value).ownBlock∧some k_≠(v115:Value).ownBlock∧some k_≠(v118:Value).ownBlock∧some k_≠(s_.1:Value).ownBlock) s_.2 t124)∧(w'.heap[gb110]? = some (.cells #[.string a0_0,.string a0_1,.int .i64 a0_2,.string a0_3,.bool a0_4] 34 (0,0)))∧(Below w.heap.size w w')) ?_ ?_
 rotate_left
 ·
  intro hCont
  refine xD (i:=12) (j:=15) (Ni:=some 15) (Nj:=some 18) (bA 19 32767) (bA 19 61439) rfl rfl rfl rfl (rH HT_.out (by kernel_rfl)) (by decide) (by decide) (fun K hK=>?_) (fun K hK=>?_)
  ·
   skip
   refine Kd.i_ (Kd.int .u8) _ 5 ?hg (N:=15) ?hd (xs:=([t120]:List Int)) (inner:=[.int .u8 t120]) (ok:=fun _=>True) (okp:=fun _=>True) ?hr ?hp (fun _ hk=>hk) trivial (Below.refl _ _) (Nat.le_refl _) (by simp) ?_;(case hd=>rfl);(case hg=>rfl);(case hr=>first | (go_simp;done) | (go_simp;rfl));(case hp=>exact (bH.one (show Kd.M (Kd.int .u8) _ _ _ t120 [.int .u8 t120] from rfl) (bH.none _ _)))
   intro v122 w13 ho14 hb hg_ hnew_
   clear hg_ hnew_
   (first | rw [←Ny121.out] at ho14 | (simp only [Int.reduceToNat] at ho14;rw [←Ny121.out] at ho14))
   have HO123:=aS (Kd.bf (Kd.cI (Kd.cI (Kd.cI ho14 (Kd.cK (rel HO113.out))) (Kd.cK (rel HO116.out))) (Kd.cK (rel HO119.out))) (ay ar));replace HO113:=aS (Kd.bR (rel HO113.out) (dh ho14) hb);replace HO116:=aS (Kd.bR (rel HO116.out) (dh ho14) hb);replace HO119:=aS (Kd.bR (rel HO119.out) (dh ho14) hb);replace BK110:=fA BK110 hb;replace HB:=aM hb;clear hb ho14;refine hK.out _ _ ⟨bc BK110 0,bc BK110 1,bc BK110 2,bc BK110 3,bc BK110 4⟩ (fun hHeld=>?_);clear hK K;refine nm 15 ?_;refine dJ 15 (N:=some 18) (bA 19 65535) HT_ (fun K hK=>?_);refine ep Tryz.func85 (by kernel_rfl) rfl #[.string a0_3] (by rfl) rfl rfl cD ?_
   with_reducible refine (eD.calls a0_3 t124 _ A6.out).mono ?_
   rintro e w15 ⟨v125,rfl,ho0,hb⟩
   refine ⟨_,rfl,?_⟩;have HO126:=aS (Kd.bf (Kd.cI (Kd.cI (Kd.cI (Kd.cI ho0 (Kd.cK (rel HO113.out))) (Kd.cK (rel HO116.out))) (Kd.cK (rel HO119.out))) (Kd.cK (rel HO123.out))) (ay ar));replace HO113:=aS (Kd.bR (rel HO113.out) (dh ho0) hb);replace HO116:=aS (Kd.bR (rel HO116.out) (dh ho0) hb);replace HO119:=aS (Kd.bR (rel HO119.out) (dh ho0) hb);replace HO123:=aS (Kd.bR (rel HO123.out) (dh ho0) hb);replace BK110:=fA BK110 hb;replace HB:=aM hb;(try clear hb);(try clear hk);(try clear hi);(try clear ho0);refine hK.out _ _ ⟨bc BK110 0,bc BK110 1,bc BK110 2,bc BK110 3,bc BK110 4⟩ (fun hHeld=>?_);clear hK K;refine nm 18 ?_;exact kY (by simp only [jV,Act.put,dw,dx,lss]) (hCont (v122,v125) _ ⟨hHeld,(by (with_reducible repeat (first | apply Kd.bS | apply Kd.bO | apply Kd.bP));exact Kd.aH HO113.out (fun _ hk=>⟨hk.1.1.1.2,⟨hk.1.1.2,⟨hk.1.2,hk.2⟩⟩⟩)),(by (with_reducible repeat (first | apply Kd.bS | apply Kd.bO | apply Kd.bP));exact Kd.aH HO116.out (fun _ hk=>⟨hk.1.1.1.2,⟨hk.1.1.2,⟨hk.1.2,hk.2⟩⟩⟩)),(by (with_reducible repeat (first | apply Kd.bS | apply Kd.bO | apply Kd.bP));exact Kd.aH HO119.out (fun _ hk=>⟨hk.1.1.1.2,⟨hk.1.1.2,⟨hk.1.2,hk.2⟩⟩⟩)),(by (with_reducible repeat (first | apply Kd.bS | apply Kd.bO | apply Kd.bP));exact Kd.aH HO123.out (fun _ hk=>⟨hk.1.1.1.2,⟨hk.1.1.2,⟨hk.1.2,hk.2⟩⟩⟩)),(by (with_reducible repeat (first | apply Kd.bS | apply Kd.bO | apply Kd.bP));exact Kd.aH HO126.out (fun _ hk=>⟨hk.1.1.1.2,⟨hk.1.1.2,⟨hk.1.2,hk.2⟩⟩⟩)),(eB BK110.out),ar⟩)
  ·
   skip
   refine ep Tryz.func85 (by kernel_rfl) rfl #[.string a0_3] (by rfl) rfl rfl cD ?_
   with_reducible refine (eD.calls a0_3 t124 _ A6.out).mono ?_
   rintro e w13 ⟨v125,rfl,ho0,hb⟩
   refine ⟨_,rfl,?_⟩;have HO126:=aS (Kd.bf (Kd.cI (Kd.cI (Kd.cI ho0 (Kd.cK (rel HO113.out))) (Kd.cK (rel HO116.out))) (Kd.cK (rel HO119.out))) (ay ar));replace HO113:=aS (Kd.bR (rel HO113.out) (dh ho0) hb);replace HO116:=aS (Kd.bR (rel HO116.out) (dh ho0) hb);replace HO119:=aS (Kd.bR (rel HO119.out) (dh ho0) hb);replace BK110:=fA BK110 hb;replace HB:=aM hb;(try clear hb);(try clear hk);(try clear hi);(try clear ho0);refine hK.out _ _ ⟨bc BK110 0,bc BK110 1,bc BK110 2,bc BK110 3,bc BK110 4⟩ (fun hHeld=>?_);clear hK K;refine nm 18 ?_;refine dJ 12 (N:=some 15) (bA 19 65535) HT_ (fun K hK=>?_)
   refine Kd.i_ (Kd.int .u8) _ 5 ?hg (N:=15) ?hd (xs:=([t120]:List Int)) (inner:=[.int .u8 t120]) (ok:=fun _=>True) (okp:=fun _=>True) ?hr ?hp (fun _ hk=>hk) trivial (Below.refl _ _) (Nat.le_refl _) (by simp) ?_;(case hd=>rfl);(case hg=>rfl);(case hr=>first | (go_simp;done) | (go_simp;rfl));(case hp=>exact (bH.one (show Kd.M (Kd.int .u8) _ _ _ t120 [.int .u8 t120] from rfl) (bH.none _ _)))
   intro v122 w14 ho15 hb hg_ hnew_
   clear hg_ hnew_
   (first | rw [←Ny121.out] at ho15 | (simp only [Int.reduceToNat] at ho15;rw [←Ny121.out] at ho15))
   have HO123:=aS (Kd.bf (Kd.cI (Kd.cI (Kd.cI (Kd.cI ho15 (Kd.cK (rel HO113.out))) (Kd.cK (rel HO116.out))) (Kd.cK (rel HO119.out))) (Kd.cK (rel HO126.out))) (ay ar));replace HO113:=aS (Kd.bR (rel HO113.out) (dh ho15) hb);replace HO116:=aS (Kd.bR (rel HO116.out) (dh ho15) hb);replace HO119:=aS (Kd.bR (rel HO119.out) (dh ho15) hb);replace HO126:=aS (Kd.bR (rel HO126.out) (dh ho15) hb);replace BK110:=fA BK110 hb;replace HB:=aM hb;clear hb ho15;refine hK.out _ _ ⟨bc BK110 0,bc BK110 1,bc BK110 2,bc BK110 3,bc BK110 4⟩ (fun hHeld=>?_);clear hK K;refine nm 15 ?_;exact kY (by simp only [jV,Act.put,dw,dx,lss]) (hCont (v122,v125) _ ⟨hHeld,(by (with_reducible repeat (first | apply Kd.bS | apply Kd.bO | apply Kd.bP));exact Kd.aH HO113.out (fun _ hk=>⟨hk.1.1.1.2,⟨hk.1.1.2,⟨hk.2,hk.1.2⟩⟩⟩)),(by (with_reducible repeat (first | apply Kd.bS | apply Kd.bO | apply Kd.bP));exact Kd.aH HO116.out (fun _ hk=>⟨hk.1.1.1.2,⟨hk.1.1.2,⟨hk.2,hk.1.2⟩⟩⟩)),(by (with_reducible repeat (first | apply Kd.bS | apply Kd.bO | apply Kd.bP));exact Kd.aH HO119.out (fun _ hk=>⟨hk.1.1.1.2,⟨hk.1.1.2,⟨hk.2,hk.1.2⟩⟩⟩)),(by (with_reducible repeat (first | apply Kd.bS | apply Kd.bO | apply Kd.bP));exact Kd.aH HO123.out (fun _ hk=>⟨hk.1.1.1.2,⟨hk.1.1.2,⟨hk.1.2,hk.2⟩⟩⟩)),(by (with_reducible repeat (first | apply Kd.bS | apply Kd.bO | apply Kd.bP));exact Kd.aH HO126.out (fun _ hk=>⟨hk.1.1.1.2,⟨hk.1.1.2,⟨hk.1.2,hk.2⟩⟩⟩)),(eB BK110.out),ar⟩)
 rintro ⟨v122,v125⟩ w16 ⟨hS_,h0_,h1_,h2_,h3_,h4_,h5_,h6_⟩
 have n0_:ak (Kd.R (Kd.int .u8) 5 w16 w.heap.size (fun k_=>some k_≠(v115:Value).ownBlock∧some k_≠(v118:Value).ownBlock∧some k_≠(v122:Value).ownBlock∧some k_≠(v125:Value).ownBlock) v112 t111):=⟨h0_⟩;have n1_:ak (Kd.R (Kd.int .u8) 5 w16 w.heap.size (fun k_=>some k_≠(v112:Value).ownBlock∧some k_≠(v118:Value).ownBlock∧some k_≠(v122:Value).ownBlock∧some k_≠(v125:Value).ownBlock) v115 t114):=⟨h1_⟩;have n2_:ak (Kd.R (Kd.int .u8) 5 w16 w.heap.size (fun k_=>some k_≠(v112:Value).ownBlock∧some k_≠(v115:Value).ownBlock∧some k_≠(v122:Value).ownBlock∧some k_≠(v125:Value).ownBlock) v118 t117):=⟨h2_⟩;have n3_:ak (Kd.R (Kd.int .u8) 5 w16 w.heap.size (fun k_=>some k_≠(v112:Value).ownBlock∧some k_≠(v115:Value).ownBlock∧some k_≠(v118:Value).ownBlock∧some k_≠(v125:Value).ownBlock) v122 y121):=⟨h3_⟩;have n4_:ak (Kd.R (Kd.int .u8) 5 w16 w.heap.size (fun k_=>some k_≠(v112:Value).ownBlock∧some k_≠(v115:Value).ownBlock∧some k_≠(v118:Value).ownBlock∧some k_≠(v122:Value).ownBlock) v125 t124):=⟨h4_⟩;have n5_:ak (w16.heap[gb110]? = some (.cells #[.string a0_0,.string a0_1,.int .i64 a0_2,.string a0_3,.bool a0_4] 34 (0,0))):=⟨h5_⟩;have n6_:ak (Below w.heap.size w w16):=⟨h6_⟩;clear BK110;clear HB;clear h0_ h1_ h2_ h3_ h4_ h5_ h6_;have HO113:=n0_;have HO116:=n1_;have HO119:=n2_;have HO123:=n3_;have HO126:=n4_;have BK110:=n5_;have HB:=n6_;clear n0_ n1_ n2_ n3_ n4_ n5_ n6_;have hHeld:w16.cell? ⟨gb110,0,none⟩=some (.string a0_0)∧w16.cell? ⟨gb110,1,none⟩=some (.string a0_1)∧w16.cell? ⟨gb110,2,none⟩=some (.int .i64 a0_2)∧w16.cell? ⟨gb110,3,none⟩=some (.string a0_3)∧w16.cell? ⟨gb110,4,none⟩=some (.bool a0_4):=hS_;obtain ⟨Ao17,co17,eo17⟩:=Kd.bq HO113.out
 (first | subst eo17 | (injection eo17 with f1_ f2_ f3_;have f4_:=f1_.symm;have f5_:=f3_.symm;clear f1_ f2_ f3_;subst f4_;subst f5_))
 obtain ⟨Ao18,co18,eo18⟩:=Kd.bq HO116.out
 (first | subst eo18 | (injection eo18 with f1_ f2_ f3_;have f4_:=f1_.symm;have f5_:=f3_.symm;clear f1_ f2_ f3_;subst f4_;subst f5_))
 obtain ⟨Ao19,co19,eo19⟩:=Kd.bq HO119.out
 (first | subst eo19 | (injection eo19 with f1_ f2_ f3_;have f4_:=f1_.symm;have f5_:=f3_.symm;clear f1_ f2_ f3_;subst f4_;subst f5_))
 obtain ⟨Ao20,co20,eo20⟩:=Kd.bq HO123.out
 (first | subst eo20 | (injection eo20 with f1_ f2_ f3_;have f4_:=f1_.symm;have f5_:=f3_.symm;clear f1_ f2_ f3_;subst f4_;subst f5_))
 obtain ⟨Ao21,co21,eo21⟩:=Kd.bq HO126.out
 (first | subst eo21 | (injection eo21 with f1_ f2_ f3_;have f4_:=f1_.symm;have f5_:=f3_.symm;clear f1_ f2_ f3_;subst f4_;subst f5_))
 refine kY (a':=?_) ?_ ?_
 rotate_left
 ·
  simp only [jV,Act.put,dw,dx,lss]
  rfl
 refine dJ 16 (N:=some 19) (bA 19 131071) HT_ (fun K hK=>?_)
 refine Kd.t7 (Kd.slice 5 (Kd.int .u8)) _ 51 ?hg (N':=19) ?hd (xs:=([t111,t114,t117,y121,t124]:List (List Int))) (inner:=[.slice Ao17 t111.length co17,.slice Ao18 t114.length co18,.slice Ao19 t117.length co19,.slice Ao20 y121.length co20,.slice Ao21 t124.length co21]) (ok:=(fun k_=>k_≠gb110)) (okp:=(fun k_=>k_≠gb110)) ?hr ?hp (fun _ hk=>hk) ((show ∀ k_,w16.heap.size≤k_→(fun k_=>k_≠gb110) k_ from fun k_ hk=>Kd.nQ (g:=gb110) (o:=.cells #[.string a0_0,.string a0_1,.int .i64 a0_2,.string a0_3,.bool a0_4] 34 (0,0)) (eB BK110.out) k_ hk) _ (Nat.le_refl _)) (Below.refl _ _) (Nat.le_refl _) (by simp) ?_;(case hd=>rfl);(case hg=>rfl);(case hr=>first | (go_simp;done) | (go_simp;rfl));(case hp=>exact (bH.one (show Kd.FK (Kd.slice 5 (Kd.int .u8)) _ _ t111 [.slice Ao17 t111.length co17] from (Kd.eK (Kd.bh (Kd.aH (ok':=(fun k_=>k_≠gb110)) (Kd.gK (HO113.out) BK110.out (by decide)) (fun k_ hk=>hk.2))).2.1 (Kd.nR (Kd.aH (ok':=(fun k_=>k_≠gb110)) (Kd.gK (HO113.out) BK110.out (by decide)) (fun k_ hk=>hk.2))))) (bH.one (show Kd.FK (Kd.slice 5 (Kd.int .u8)) _ _ t114 [.slice Ao18 t114.length co18] from (Kd.eK (Kd.bh (Kd.aH (ok':=(fun k_=>k_≠gb110)) (Kd.gK (HO116.out) BK110.out (by decide)) (fun k_ hk=>hk.2))).2.1 (Kd.nR (Kd.aH (ok':=(fun k_=>k_≠gb110)) (Kd.gK (HO116.out) BK110.out (by decide)) (fun k_ hk=>hk.2))))) (bH.one (show Kd.FK (Kd.slice 5 (Kd.int .u8)) _ _ t117 [.slice Ao19 t117.length co19] from (Kd.eK (Kd.bh (Kd.aH (ok':=(fun k_=>k_≠gb110)) (Kd.gK (HO119.out) BK110.out (by decide)) (fun k_ hk=>hk.2))).2.1 (Kd.nR (Kd.aH (ok':=(fun k_=>k_≠gb110)) (Kd.gK (HO119.out) BK110.out (by decide)) (fun k_ hk=>hk.2))))) (bH.one (show Kd.FK (Kd.slice 5 (Kd.int .u8)) _ _ y121 [.slice Ao20 y121.length co20] from (Kd.eK (Kd.bh (Kd.aH (ok':=(fun k_=>k_≠gb110)) (Kd.gK (HO123.out) BK110.out (by decide)) (fun k_ hk=>hk.2))).2.1 (Kd.nR (Kd.aH (ok':=(fun k_=>k_≠gb110)) (Kd.gK (HO123.out) BK110.out (by decide)) (fun k_ hk=>hk.2))))) (bH.one (show Kd.FK (Kd.slice 5 (Kd.int .u8)) _ _ t124 [.slice Ao21 t124.length co21] from (Kd.eK (Kd.bh (Kd.aH (ok':=(fun k_=>k_≠gb110)) (Kd.gK (HO126.out) BK110.out (by decide)) (fun k_ hk=>hk.2))).2.1 (Kd.nR (Kd.aH (ok':=(fun k_=>k_≠gb110)) (Kd.gK (HO126.out) BK110.out (by decide)) (fun k_ hk=>hk.2))))) (bH.none _ _)))))))
 intro v128 w22 ho23 hb hg_ hnew_
 clear hg_ hnew_
 (first | rw [←Ny127.out] at ho23 | (simp only [Int.reduceToNat] at ho23;rw [←Ny127.out] at ho23))
 have n0_:=aS (Kd.pX ho23 (ay ar));have n1_:=fA BK110 hb;have n2_:=aM hb;clear BK110;clear HB;clear HO113;clear HO116;clear HO119;clear HO123;clear HO126;have HO129:=n0_;have BK110:=n1_;have HB:=n2_;clear n0_ n1_ n2_;clear hb ho23;obtain ⟨Ao24,co24,eo24⟩:=Kd.qa HO129.out
 (first | subst eo24 | (injection eo24 with f1_ f2_ f3_;have f4_:=f1_.symm;have f5_:=f3_.symm;clear f1_ f2_ f3_;subst f4_;subst f5_))
 refine hK.out _ _ ⟨bc BK110 0,bc BK110 1,bc BK110 2,bc BK110 3,bc BK110 4⟩ (fun hHeld=>?_);clear hK K;refine nm 19 ?_;refine dJ 17 (N:=some 20) (bA 19 262143) HT_ (fun K hK=>?_);refine ep Tryz.func84 (by kernel_rfl) rfl #[.slice Ao24 y127.length co24] (by rfl) rfl rfl cD ?_
 with_reducible refine (cw.calls _ _ y127 t130 _ ?side1 ?side2 A7.out).mono ?_
 (case side1=>exact eN ((Kd.jZ HO129.out).2.2))
 (case side2=>exact (Kd.jZ HO129.out).2.1)
 rintro e w25 ⟨v131,rfl,ho0,hb⟩
 refine ⟨_,rfl,?_⟩;replace HO129:=aS (Kd.oR (by (with_reducible repeat (first | apply Kd.oH | apply Kd.oP | apply Kd.pZ));exact HO129.out) (dh ho0) hb);have HO132:=aS (Kd.bf ho0 (ay ar));replace BK110:=fA BK110 hb;replace HB:=aM hb;(try clear hb);(try clear hk);(try clear hi);(try clear ho0);refine hK.out _ _ ⟨bc BK110 0,bc BK110 1,bc BK110 2,bc BK110 3,bc BK110 4⟩ (fun hHeld=>?_);clear hK K;refine nm 20 ?_;refine dB (i:=18) (N:=some 2) (v:=?_) (a':=?_) (bA 19 524287) rfl rfl (lE HT_.out (by kernel_rfl)) (fun _ _ _ h=>h) (Or.inl ⟨by rfl,?_⟩) ?_ ?_
 rotate_left
 ·
  intro w'
  go_simp
  with_reducible rfl
 rotate_left
 ·
  simp only [Act.put,dw,dx,lss,bC,cm]
  rfl
 refine dQ (cX HT_.out (by kernel_rfl)) ?_
 try go_wp2
 go_ret
 exact ⟨_,dN,by (with_reducible repeat (first | apply Kd.bS | apply Kd.bO | apply Kd.bP));exact HO132.out,ar⟩
def eS.f (a0:ByteArray):Option (Bool):=if (a0.size:Int)≥1 then (some (decide ((a0.size:Int)≤64))) else (some false)
theorem eS.calls (a0:ByteArray) (r:Bool) (w:World) (h:eS.f a0=some r) :
  Calls Tryz.prog 44 #[.string a0] w fun e w'=>e = .returned (.bool r)∧bF w w':=by
 have H:(if (a0.size:Int)≥1 then (some (decide ((a0.size:Int)≤64))) else (some false))=some r:=h;clear h
 by_cases c2:(a0.size:Int)≥1
 ·
  rw [if_pos c2] at H;have c2b0:decide (1≤(a0.size:Int))=true:=decide_eq_true c2;have c2b1:decide (1≤a0.size)=true:=decide_eq_true (by omega);clear c2
  obtain rfl:=Option.some.inj H
  go_enter Tryz.func44,Tryz.ntmps44
  go_wp2
  go_ret
  exact ⟨by first | rfl | (simp;done) | (simp [*];done) | (simp;exact (by decide:∀ a_ b_:Bool,(a_ == b_)=(!a_ != b_)) _ _),by repeat (first | exact bF.refl _ | apply bF.step)⟩
 ·
  rw [if_neg c2] at H;have c2b0:decide (1≤(a0.size:Int))=false:=decide_eq_false c2;have c2b1:decide (1≤a0.size)=false:=decide_eq_false (by omega);clear c2
  obtain rfl:=Option.some.inj H
  go_enter Tryz.func44,Tryz.ntmps44
  go_wp2
  go_ret
  exact ⟨by first | rfl | (simp;done) | (simp [*];done) | (simp;exact (by decide:∀ a_ b_:Bool,(a_ == b_)=(!a_ != b_)) _ _),by repeat (first | exact bF.refl _ | apply bF.step)⟩
def eP.f (a0_0:ByteArray) (a0_1:ByteArray) (a0_2:Int) (a0_3:ByteArray) (a0_4:Bool):Option (Bool):=(eS.f a0_0).bind fun t134=>(if t134=true then ((eS.f a0_1).bind fun t135=>(if t135=true then (if a0_2≥0 then (if a0_2≤4294967295 then (if (a0_3.size:Int)≤256 then (if a0_4=true then (some (a0_3.toList == ([]:List UInt8))) else (some true)) else (some false)) else (some false)) else (some false)) else (some false))) else (some false))
theorem eP.calls (a0_0:ByteArray) (a0_1:ByteArray) (a0_2:Int) (a0_3:ByteArray) (a0_4:Bool) (r:Bool) (w:World) (h:eP.f a0_0 a0_1 a0_2 a0_3 a0_4=some r) :
  Calls Tryz.prog 27 #[.agg #[.string a0_0,.string a0_1,.int .i64 a0_2,.string a0_3,.bool a0_4]] w fun e w'=>e = .returned (.bool r)∧Below w.heap.size w w':=by
 have hu34:=Tryz.underlying34;have HB:=aS (Below.refl w.heap.size w);have H:((eS.f a0_0).bind fun t134=>(if t134=true then ((eS.f a0_1).bind fun t135=>(if t135=true then (if a0_2≥0 then (if a0_2≤4294967295 then (if (a0_3.size:Int)≤256 then (if a0_4=true then (some (a0_3.toList == ([]:List UInt8))) else (some true)) else (some false)) else (some false)) else (some false)) else (some false))) else (some false)))=some r:=h;clear h;replace H:=bV H;obtain ⟨t134,A20,H⟩:=H;have A2:=aS A20;clear A20
 by_cases c3:t134=true
 ·
  subst c3
  replace H:=jQ H;replace H:=bV H;obtain ⟨t135,A40,H⟩:=H;have A4:=aS A40;clear A40
  by_cases c5:t135=true
  ·
   subst c5
   replace H:=jQ H
   by_cases c6:a0_2≥0
   ·
    rw [if_pos c6] at H;have c6b0:decide (0≤a0_2)=true:=decide_eq_true c6;clear c6
    by_cases c7:a0_2≤4294967295
    ·
     rw [if_pos c7] at H;have c7b0:decide (a0_2≤4294967295)=true:=decide_eq_true c7;clear c7
     by_cases c8:(a0_3.size:Int)≤256
     ·
      rw [if_pos c8] at H;have c8b0:decide ((a0_3.size:Int)≤256)=true:=decide_eq_true c8;have c8b1:decide (a0_3.size≤256)=true:=decide_eq_true (by omega);clear c8
      by_cases c9:a0_4=true
      ·
       subst c9
       replace H:=jQ H
       obtain rfl:=Option.some.inj H
       go_enter Tryz.func27,Tryz.ntmps27
       go_wp2_with (first | ((with_reducible refine aX (N:=1) rfl ?_);(try (refine eF (by rfl) ?_;dsimp only));refine aY ?hg (N:=1) ?hd (cs:=#[.string a0_0,.string a0_1,.int .i64 a0_2,.string a0_3,.bool true]) (t:=34) ?hr ?_;(case hd=>rfl);(case hg=>rfl);(case hr=>first | (go_simp;done) | (go_simp;rfl));intro gb133 hg w10 hbox hb;have BK133:=aS (hbox);have GW133:=bsize hg;have GE133:=bsize hg;replace HB:=aM hb;clear hb hbox hg;have hcz11:=cR BK133) | ((with_reducible refine aC (f:=44) rfl ?_);refine bE (some 5) rfl rfl Tryz.func44 (by kernel_rfl) rfl #[.string a0_0] rfl cD ?_;(with_reducible refine (eS.calls a0_0 true _ A2.out).mono ?_);rintro e w' ⟨rfl,⟨nd,rfl⟩⟩;refine ⟨_,rfl,?_⟩) | (go_at_call 44;(with_reducible refine (eS.calls a0_1 true _ A4.out).mono ?_);rintro e w' ⟨rfl,⟨nd,rfl⟩⟩))
       go_ret
       exact ⟨dN,ar⟩
      ·
       replace c9:=Bool.eq_false_iff.mpr c9;subst c9
       replace H:=jO H
       obtain rfl:=Option.some.inj H
       go_enter Tryz.func27,Tryz.ntmps27
       go_wp2_with (first | ((with_reducible refine aX (N:=1) rfl ?_);(try (refine eF (by rfl) ?_;dsimp only));refine aY ?hg (N:=1) ?hd (cs:=#[.string a0_0,.string a0_1,.int .i64 a0_2,.string a0_3,.bool false]) (t:=34) ?hr ?_;(case hd=>rfl);(case hg=>rfl);(case hr=>first | (go_simp;done) | (go_simp;rfl));intro gb133 hg w12 hbox hb;have BK133:=aS (hbox);have GW133:=bsize hg;have GE133:=bsize hg;replace HB:=aM hb;clear hb hbox hg;have hcz13:=cR BK133) | ((with_reducible refine aC (f:=44) rfl ?_);refine bE (some 5) rfl rfl Tryz.func44 (by kernel_rfl) rfl #[.string a0_0] rfl cD ?_;(with_reducible refine (eS.calls a0_0 true _ A2.out).mono ?_);rintro e w' ⟨rfl,⟨nd,rfl⟩⟩;refine ⟨_,rfl,?_⟩) | (go_at_call 44;(with_reducible refine (eS.calls a0_1 true _ A4.out).mono ?_);rintro e w' ⟨rfl,⟨nd,rfl⟩⟩))
       go_ret
       exact ⟨dN,ar⟩
     ·
      rw [if_neg c8] at H;have c8b0:decide ((a0_3.size:Int)≤256)=false:=decide_eq_false c8;have c8b1:decide (a0_3.size≤256)=false:=decide_eq_false (by omega);clear c8
      obtain rfl:=Option.some.inj H
      go_enter Tryz.func27,Tryz.ntmps27
      go_wp2_with (first | ((with_reducible refine aX (N:=1) rfl ?_);(try (refine eF (by rfl) ?_;dsimp only));refine aY ?hg (N:=1) ?hd (cs:=#[.string a0_0,.string a0_1,.int .i64 a0_2,.string a0_3,.bool a0_4]) (t:=34) ?hr ?_;(case hd=>rfl);(case hg=>rfl);(case hr=>first | (go_simp;done) | (go_simp;rfl));intro gb133 hg w14 hbox hb;have BK133:=aS (hbox);have GW133:=bsize hg;have GE133:=bsize hg;replace HB:=aM hb;clear hb hbox hg;have hcz15:=cR BK133) | ((with_reducible refine aC (f:=44) rfl ?_);refine bE (some 5) rfl rfl Tryz.func44 (by kernel_rfl) rfl #[.string a0_0] rfl cD ?_;(with_reducible refine (eS.calls a0_0 true _ A2.out).mono ?_);rintro e w' ⟨rfl,⟨nd,rfl⟩⟩;refine ⟨_,rfl,?_⟩) | (go_at_call 44;(with_reducible refine (eS.calls a0_1 true _ A4.out).mono ?_);rintro e w' ⟨rfl,⟨nd,rfl⟩⟩))
      go_ret
      exact ⟨dN,ar⟩
    ·
     rw [if_neg c7] at H;have c7b0:decide (a0_2≤4294967295)=false:=decide_eq_false c7;clear c7
     obtain rfl:=Option.some.inj H
     go_enter Tryz.func27,Tryz.ntmps27
     go_wp2_with (first | ((with_reducible refine aX (N:=1) rfl ?_);(try (refine eF (by rfl) ?_;dsimp only));refine aY ?hg (N:=1) ?hd (cs:=#[.string a0_0,.string a0_1,.int .i64 a0_2,.string a0_3,.bool a0_4]) (t:=34) ?hr ?_;(case hd=>rfl);(case hg=>rfl);(case hr=>first | (go_simp;done) | (go_simp;rfl));intro gb133 hg w16 hbox hb;have BK133:=aS (hbox);have GW133:=bsize hg;have GE133:=bsize hg;replace HB:=aM hb;clear hb hbox hg;have hcz17:=cR BK133) | ((with_reducible refine aC (f:=44) rfl ?_);refine bE (some 5) rfl rfl Tryz.func44 (by kernel_rfl) rfl #[.string a0_0] rfl cD ?_;(with_reducible refine (eS.calls a0_0 true _ A2.out).mono ?_);rintro e w' ⟨rfl,⟨nd,rfl⟩⟩;refine ⟨_,rfl,?_⟩) | (go_at_call 44;(with_reducible refine (eS.calls a0_1 true _ A4.out).mono ?_);rintro e w' ⟨rfl,⟨nd,rfl⟩⟩))
     go_ret
     exact ⟨dN,ar⟩
   ·
    rw [if_neg c6] at H;have c6b0:decide (0≤a0_2)=false:=decide_eq_false c6;clear c6
    obtain rfl:=Option.some.inj H
    go_enter Tryz.func27,Tryz.ntmps27
    go_wp2_with (first | ((with_reducible refine aX (N:=1) rfl ?_);(try (refine eF (by rfl) ?_;dsimp only));refine aY ?hg (N:=1) ?hd (cs:=#[.string a0_0,.string a0_1,.int .i64 a0_2,.string a0_3,.bool a0_4]) (t:=34) ?hr ?_;(case hd=>rfl);(case hg=>rfl);(case hr=>first | (go_simp;done) | (go_simp;rfl));intro gb133 hg w18 hbox hb;have BK133:=aS (hbox);have GW133:=bsize hg;have GE133:=bsize hg;replace HB:=aM hb;clear hb hbox hg;have hcz19:=cR BK133) | ((with_reducible refine aC (f:=44) rfl ?_);refine bE (some 5) rfl rfl Tryz.func44 (by kernel_rfl) rfl #[.string a0_0] rfl cD ?_;(with_reducible refine (eS.calls a0_0 true _ A2.out).mono ?_);rintro e w' ⟨rfl,⟨nd,rfl⟩⟩;refine ⟨_,rfl,?_⟩) | (go_at_call 44;(with_reducible refine (eS.calls a0_1 true _ A4.out).mono ?_);rintro e w' ⟨rfl,⟨nd,rfl⟩⟩))
    go_ret
    exact ⟨dN,ar⟩
  ·
   replace c5:=Bool.eq_false_iff.mpr c5;subst c5
   replace H:=jO H
   obtain rfl:=Option.some.inj H
   go_enter Tryz.func27,Tryz.ntmps27
   go_wp2_with (first | ((with_reducible refine aX (N:=1) rfl ?_);(try (refine eF (by rfl) ?_;dsimp only));refine aY ?hg (N:=1) ?hd (cs:=#[.string a0_0,.string a0_1,.int .i64 a0_2,.string a0_3,.bool a0_4]) (t:=34) ?hr ?_;(case hd=>rfl);(case hg=>rfl);(case hr=>first | (go_simp;done) | (go_simp;rfl));intro gb133 hg w20 hbox hb;have BK133:=aS (hbox);have GW133:=bsize hg;have GE133:=bsize hg;replace HB:=aM hb;clear hb hbox hg;have hcz21:=cR BK133) | ((with_reducible refine aC (f:=44) rfl ?_);refine bE (some 5) rfl rfl Tryz.func44 (by kernel_rfl) rfl #[.string a0_0] rfl cD ?_;(with_reducible refine (eS.calls a0_0 true _ A2.out).mono ?_);rintro e w' ⟨rfl,⟨nd,rfl⟩⟩;refine ⟨_,rfl,?_⟩) | (go_at_call 44;(with_reducible refine (eS.calls a0_1 false _ A4.out).mono ?_);rintro e w' ⟨rfl,⟨nd,rfl⟩⟩))
   go_ret
   exact ⟨dN,ar⟩
 ·
  replace c3:=Bool.eq_false_iff.mpr c3;subst c3
  replace H:=jO H
  obtain rfl:=Option.some.inj H
  go_enter Tryz.func27,Tryz.ntmps27
  go_wp2_with (first | ((with_reducible refine aX (N:=1) rfl ?_);(try (refine eF (by rfl) ?_;dsimp only));refine aY ?hg (N:=1) ?hd (cs:=#[.string a0_0,.string a0_1,.int .i64 a0_2,.string a0_3,.bool a0_4]) (t:=34) ?hr ?_;(case hd=>rfl);(case hg=>rfl);(case hr=>first | (go_simp;done) | (go_simp;rfl));intro gb133 hg w22 hbox hb;have BK133:=aS (hbox);have GW133:=bsize hg;have GE133:=bsize hg;replace HB:=aM hb;clear hb hbox hg;have hcz23:=cR BK133) | ((with_reducible refine aC (f:=44) rfl ?_);refine bE (some 5) rfl rfl Tryz.func44 (by kernel_rfl) rfl #[.string a0_0] rfl cD ?_;(with_reducible refine (eS.calls a0_0 false _ A2.out).mono ?_);rintro e w' ⟨rfl,⟨nd,rfl⟩⟩;refine ⟨_,rfl,?_⟩))
  go_ret
  exact ⟨dN,ar⟩
def cx.l0:Nat→Int→List Int→Int→Int→Option (Int)
 | 0,_,_,_,_=>none
 | k+1,x3,x6,x7,x8=>if x8<x7 then (if 0≤x8 then (if x8<(x6.length:Int) then (if (rd x6 x8)=x3 then (cx.l0 k x3 x6 x7 (wrap64 (x8+1))) else (some (rd x6 x8))) else (none)) else (none)) else (some x3)
def cx.f (k:Nat) (l0:List Int):Option (Int):=cx.l0 k 0 l0 (l0.length:Int) 0
theorem cx.cP:∀ k,(∀ y0 y1 y2 y3,aE (cx.l0 k y0 y1 y2 y3) (cx.l0 (k+1) y0 y1 y2 y3))
 | 0=>fun _ _ _ _ r h=>by simp [cx.l0] at h
 | k+1=>by
  have ih0:=cx.cP k
  ·
   intro y0 y1 y2 y3
   unfold cx.l0
   exact e8
theorem cx.mono:∀ a0 k,aE (cx.f k a0) (cx.f (k+1) a0):=by
 intro a0 k
 have ih0:=cx.cP k
 unfold cx.f
 exact e8
theorem cx.calls (k:Nat) (A0:Option Addr) (c0:Nat) (l0:List Int) (r:Int) (w:World) (hr0:Kd.C (Kd.int .i64) w A0 l0.length l0) (hc0:l0.length≤c0) (h:cx.f k l0=some r) :
  Calls Tryz.prog 62 #[.slice A0 l0.length c0] w fun e w'=>e = .returned (.int .i64 r)∧bF w w':=by
 have HR0:=aS hr0;have HC0:=aS hc0;clear hr0 hc0;have H:(cx.l0 k 0 l0 (l0.length:Int) 0)=some r:=h;clear h
 have H':=aS H
 clear H
 go_enter Tryz.func62,Tryz.ntmps62
 go_wp2
 go_loopg [8] k (fun kq v8 w'=>∃ (x8_1:Int),v8 = .int .i64 x8_1∧ak (cx.l0 kq 0 l0 (l0.length:Int) x8_1=some r)∧ak (kq≤k)∧bF w w')
 case atStart=>exact ⟨(0),dU,H',⟨Nat.le_refl _⟩,by repeat (first | exact bF.refl _ | apply bF.step)⟩
 case round=>
  clear H';obtain ⟨x8_1,rfl,HA,HK1,⟨m1,rfl⟩⟩:=hrel
  cases gk with
  | zero=>exact absurd HA.out (by simp [cx.l0])
  | succ k1=>
   have H:=HA.out;clear HA
   simp only [cx.l0] at H
   by_cases c2:x8_1<(l0.length:Int)
   ·
    rw [if_pos c2] at H;have c2b0:decide (x8_1<(l0.length:Int))=true:=decide_eq_true c2;clear c2
    by_cases c3:0≤x8_1
    ·
     rw [if_pos c3] at H;have c3b0:decide (0≤x8_1)=true:=decide_eq_true c3;clear c3
     by_cases c4:x8_1<(l0.length:Int)
     ·
      rw [if_pos c4] at H;have c4b0:decide (x8_1<(l0.length:Int))=true:=decide_eq_true c4;clear c4
      by_cases c5:(rd l0 x8_1)=0
      ·
       rw [if_pos c5] at H;obtain ⟨c5b0,c5b1⟩:=jE c5;clear c5
       have H':=aS H
       clear H;have p136:0≤(x8_1:Int):=cG;have q136:x8_1<(l0.length:Int):=cG;obtain ⟨ad136,e136,hx136_0⟩:=Kd.jj HR0.out x8_1 p136 q136;cases e136;replace p136:=eq_true p136;replace q136:=eq_true q136
       go_wp2
       go_roundg k1
       case measure=>have:=HK1.out;omega
       case rel=>exact ⟨(wrap64 (x8_1+1)),dU,H',⟨by have:=HK1.out;omega⟩,by repeat (first | exact bF.refl _ | apply bF.step)⟩
      ·
       rw [if_neg c5] at H;obtain ⟨c5b0,c5b1⟩:=ju c5
       obtain rfl:=Option.some.inj H
       have p136:0≤(x8_1:Int):=cG;have q136:x8_1<(l0.length:Int):=cG;obtain ⟨ad136,e136,hx136_0⟩:=Kd.jj HR0.out x8_1 p136 q136;cases e136;replace p136:=eq_true p136;replace q136:=eq_true q136
       go_wp2
       go_ret
       exact ⟨by first | rfl | (simp;done) | (simp [*];done) | (simp;exact (by decide:∀ a_ b_:Bool,(a_ == b_)=(!a_ != b_)) _ _),by repeat (first | exact bF.refl _ | apply bF.step)⟩
     ·
      rw [if_neg c4] at H;exact absurd H (by simp)
    ·
     rw [if_neg c3] at H;exact absurd H (by simp)
   ·
    rw [if_neg c2] at H;have c2b0:decide (x8_1<(l0.length:Int))=false:=decide_eq_false c2;clear c2
    obtain rfl:=Option.some.inj H
    go_wp2
    go_ret
    exact ⟨by first | rfl | (simp;done) | (simp [*];done) | (simp;exact (by decide:∀ a_ b_:Bool,(a_ == b_)=(!a_ != b_)) _ _),by repeat (first | exact bF.refl _ | apply bF.step)⟩
def dF.f (a0:ByteArray):Option (Bool):=some (a0.toList != a0.toList)
theorem dF.calls (a0:ByteArray) (r:Bool) (w:World) (h:dF.f a0=some r) :
  Calls Tryz.prog 82 #[.string a0] w fun e w'=>e = .returned (.bool r)∧bF w w':=by
 have H:(some (a0.toList != a0.toList))=some r:=h;clear h
 obtain rfl:=Option.some.inj H
 go_enter Tryz.func82,Tryz.ntmps82
 go_wp2
 go_ret
 exact ⟨by first | rfl | (simp;done) | (simp [*];done) | (simp;exact (by decide:∀ a_ b_:Bool,(a_ == b_)=(!a_ != b_)) _ _),by repeat (first | exact bF.refl _ | apply bF.step)⟩
def eV.f (a0:ByteArray) (a1:ByteArray):Option (Int):=(dF.f a0).bind fun t137=>((dF.f a1).bind fun t138=>(if t137=true then (if t138=true then (some 0) else (some (-1))) else (if t138=true then (some 1) else (if (Op.bytesLess a0.toList a1.toList)=true then (some (-1)) else (if (Op.bytesLess a1.toList a0.toList)=true then (some 1) else (some 0))))))
theorem eV.calls (a0:ByteArray) (a1:ByteArray) (r:Int) (w:World) (h:eV.f a0 a1=some r) :
  Calls Tryz.prog 63 #[.string a0,.string a1] w fun e w'=>e = .returned (.int .i64 r)∧bF w w':=by
 have H:((dF.f a0).bind fun t137=>((dF.f a1).bind fun t138=>(if t137=true then (if t138=true then (some 0) else (some (-1))) else (if t138=true then (some 1) else (if (Op.bytesLess a0.toList a1.toList)=true then (some (-1)) else (if (Op.bytesLess a1.toList a0.toList)=true then (some 1) else (some 0)))))))=some r:=h;clear h;replace H:=bV H;obtain ⟨t137,A30,H⟩:=H;have A3:=aS A30;clear A30;replace H:=bV H;obtain ⟨t138,A40,H⟩:=H;have A4:=aS A40;clear A40
 by_cases c5:t137=true
 ·
  subst c5
  replace H:=jQ H
  by_cases c6:t138=true
  ·
   subst c6
   replace H:=jQ H
   obtain rfl:=Option.some.inj H
   go_enter Tryz.func63,Tryz.ntmps63
   go_wp2_with (first | ((with_reducible refine aC (f:=82) rfl ?_);refine bE (some 8) rfl rfl Tryz.func82 (by kernel_rfl) rfl #[.string a0] rfl cD ?_;(with_reducible refine (dF.calls a0 true _ A3.out).mono ?_);rintro e w' ⟨rfl,⟨nd,rfl⟩⟩;refine ⟨_,rfl,?_⟩) | ((with_reducible refine aC (f:=82) rfl ?_);refine bE (some 10) rfl rfl Tryz.func82 (by kernel_rfl) rfl #[.string a1] rfl cD ?_;(with_reducible refine (dF.calls a1 true _ A4.out).mono ?_);rintro e w' ⟨rfl,⟨nd,rfl⟩⟩;refine ⟨_,rfl,?_⟩))
   go_ret
   exact ⟨by first | rfl | (simp;done) | (simp [*];done) | (simp;exact (by decide:∀ a_ b_:Bool,(a_ == b_)=(!a_ != b_)) _ _),by repeat (first | exact bF.refl _ | apply bF.step)⟩
  ·
   replace c6:=Bool.eq_false_iff.mpr c6;subst c6
   replace H:=jO H
   obtain rfl:=Option.some.inj H
   go_enter Tryz.func63,Tryz.ntmps63
   go_wp2_with (first | ((with_reducible refine aC (f:=82) rfl ?_);refine bE (some 8) rfl rfl Tryz.func82 (by kernel_rfl) rfl #[.string a0] rfl cD ?_;(with_reducible refine (dF.calls a0 true _ A3.out).mono ?_);rintro e w' ⟨rfl,⟨nd,rfl⟩⟩;refine ⟨_,rfl,?_⟩) | ((with_reducible refine aC (f:=82) rfl ?_);refine bE (some 10) rfl rfl Tryz.func82 (by kernel_rfl) rfl #[.string a1] rfl cD ?_;(with_reducible refine (dF.calls a1 false _ A4.out).mono ?_);rintro e w' ⟨rfl,⟨nd,rfl⟩⟩;refine ⟨_,rfl,?_⟩))
   go_ret
   exact ⟨by first | rfl | (simp;done) | (simp [*];done) | (simp;exact (by decide:∀ a_ b_:Bool,(a_ == b_)=(!a_ != b_)) _ _),by repeat (first | exact bF.refl _ | apply bF.step)⟩
 ·
  replace c5:=Bool.eq_false_iff.mpr c5;subst c5
  replace H:=jO H
  by_cases c7:t138=true
  ·
   subst c7
   replace H:=jQ H
   obtain rfl:=Option.some.inj H
   go_enter Tryz.func63,Tryz.ntmps63
   go_wp2_with (first | ((with_reducible refine aC (f:=82) rfl ?_);refine bE (some 8) rfl rfl Tryz.func82 (by kernel_rfl) rfl #[.string a0] rfl cD ?_;(with_reducible refine (dF.calls a0 false _ A3.out).mono ?_);rintro e w' ⟨rfl,⟨nd,rfl⟩⟩;refine ⟨_,rfl,?_⟩) | ((with_reducible refine aC (f:=82) rfl ?_);refine bE (some 10) rfl rfl Tryz.func82 (by kernel_rfl) rfl #[.string a1] rfl cD ?_;(with_reducible refine (dF.calls a1 true _ A4.out).mono ?_);rintro e w' ⟨rfl,⟨nd,rfl⟩⟩;refine ⟨_,rfl,?_⟩))
   go_ret
   exact ⟨by first | rfl | (simp;done) | (simp [*];done) | (simp;exact (by decide:∀ a_ b_:Bool,(a_ == b_)=(!a_ != b_)) _ _),by repeat (first | exact bF.refl _ | apply bF.step)⟩
  ·
   replace c7:=Bool.eq_false_iff.mpr c7;subst c7
   replace H:=jO H
   by_cases c8:(Op.bytesLess a0.toList a1.toList)=true
   ·
    rw [if_pos c8] at H;have c8b0:(Op.bytesLess a0.toList a1.toList)=true:=c8;clear c8
    obtain rfl:=Option.some.inj H
    go_enter Tryz.func63,Tryz.ntmps63
    go_wp2_with (first | ((with_reducible refine aC (f:=82) rfl ?_);refine bE (some 8) rfl rfl Tryz.func82 (by kernel_rfl) rfl #[.string a0] rfl cD ?_;(with_reducible refine (dF.calls a0 false _ A3.out).mono ?_);rintro e w' ⟨rfl,⟨nd,rfl⟩⟩;refine ⟨_,rfl,?_⟩) | ((with_reducible refine aC (f:=82) rfl ?_);refine bE (some 10) rfl rfl Tryz.func82 (by kernel_rfl) rfl #[.string a1] rfl cD ?_;(with_reducible refine (dF.calls a1 false _ A4.out).mono ?_);rintro e w' ⟨rfl,⟨nd,rfl⟩⟩;refine ⟨_,rfl,?_⟩))
    go_ret
    exact ⟨by first | rfl | (simp;done) | (simp [*];done) | (simp;exact (by decide:∀ a_ b_:Bool,(a_ == b_)=(!a_ != b_)) _ _),by repeat (first | exact bF.refl _ | apply bF.step)⟩
   ·
    rw [if_neg c8] at H
    have c8b0:(Op.bytesLess a0.toList a1.toList)=false:=by simpa using c8
    clear c8
    by_cases c9:(Op.bytesLess a1.toList a0.toList)=true
    ·
     rw [if_pos c9] at H;have c9b0:(Op.bytesLess a1.toList a0.toList)=true:=c9;clear c9
     obtain rfl:=Option.some.inj H
     go_enter Tryz.func63,Tryz.ntmps63
     go_wp2_with (first | ((with_reducible refine aC (f:=82) rfl ?_);refine bE (some 8) rfl rfl Tryz.func82 (by kernel_rfl) rfl #[.string a0] rfl cD ?_;(with_reducible refine (dF.calls a0 false _ A3.out).mono ?_);rintro e w' ⟨rfl,⟨nd,rfl⟩⟩;refine ⟨_,rfl,?_⟩) | ((with_reducible refine aC (f:=82) rfl ?_);refine bE (some 10) rfl rfl Tryz.func82 (by kernel_rfl) rfl #[.string a1] rfl cD ?_;(with_reducible refine (dF.calls a1 false _ A4.out).mono ?_);rintro e w' ⟨rfl,⟨nd,rfl⟩⟩;refine ⟨_,rfl,?_⟩))
     go_ret
     exact ⟨by first | rfl | (simp;done) | (simp [*];done) | (simp;exact (by decide:∀ a_ b_:Bool,(a_ == b_)=(!a_ != b_)) _ _),by repeat (first | exact bF.refl _ | apply bF.step)⟩
    ·
     rw [if_neg c9] at H
     have c9b0:(Op.bytesLess a1.toList a0.toList)=false:=by simpa using c9
     clear c9
     obtain rfl:=Option.some.inj H
     go_enter Tryz.func63,Tryz.ntmps63
     go_wp2_with (first | ((with_reducible refine aC (f:=82) rfl ?_);refine bE (some 8) rfl rfl Tryz.func82 (by kernel_rfl) rfl #[.string a0] rfl cD ?_;(with_reducible refine (dF.calls a0 false _ A3.out).mono ?_);rintro e w' ⟨rfl,⟨nd,rfl⟩⟩;refine ⟨_,rfl,?_⟩) | ((with_reducible refine aC (f:=82) rfl ?_);refine bE (some 10) rfl rfl Tryz.func82 (by kernel_rfl) rfl #[.string a1] rfl cD ?_;(with_reducible refine (dF.calls a1 false _ A4.out).mono ?_);rintro e w' ⟨rfl,⟨nd,rfl⟩⟩;refine ⟨_,rfl,?_⟩))
     go_ret
     exact ⟨by first | rfl | (simp;done) | (simp [*];done) | (simp;exact (by decide:∀ a_ b_:Bool,(a_ == b_)=(!a_ != b_)) _ _),by repeat (first | exact bF.refl _ | apply bF.step)⟩
def dY.f (a0:Int):Option (Bool):=some (a0 != a0)
theorem dY.calls (a0:Int) (r:Bool) (w:World) (h:dY.f a0=some r) :
  Calls Tryz.prog 83 #[.int .i64 a0] w fun e w'=>e = .returned (.bool r)∧bF w w':=by
 have H:(some (a0 != a0))=some r:=h;clear h
 obtain rfl:=Option.some.inj H
 go_enter Tryz.func83,Tryz.ntmps83
 go_wp2
 go_ret
 exact ⟨by first | rfl | (simp;done) | (simp [*];done) | (simp;exact (by decide:∀ a_ b_:Bool,(a_ == b_)=(!a_ != b_)) _ _),by repeat (first | exact bF.refl _ | apply bF.step)⟩
def fM.f (a0:Int) (a1:Int):Option (Int):=(dY.f a0).bind fun t139=>((dY.f a1).bind fun t140=>(if t139=true then (if t140=true then (some 0) else (some (-1))) else (if t140=true then (some 1) else (if a0<a1 then (some (-1)) else (if a0 > a1 then (some 1) else (some 0))))))
theorem fM.calls (a0:Int) (a1:Int) (r:Int) (w:World) (h:fM.f a0 a1=some r) :
  Calls Tryz.prog 64 #[.int .i64 a0,.int .i64 a1] w fun e w'=>e = .returned (.int .i64 r)∧bF w w':=by
 have H:((dY.f a0).bind fun t139=>((dY.f a1).bind fun t140=>(if t139=true then (if t140=true then (some 0) else (some (-1))) else (if t140=true then (some 1) else (if a0<a1 then (some (-1)) else (if a0 > a1 then (some 1) else (some 0)))))))=some r:=h;clear h;replace H:=bV H;obtain ⟨t139,A30,H⟩:=H;have A3:=aS A30;clear A30;replace H:=bV H;obtain ⟨t140,A40,H⟩:=H;have A4:=aS A40;clear A40
 by_cases c5:t139=true
 ·
  subst c5
  replace H:=jQ H
  by_cases c6:t140=true
  ·
   subst c6
   replace H:=jQ H
   obtain rfl:=Option.some.inj H
   go_enter Tryz.func64,Tryz.ntmps64
   go_wp2_with (first | ((with_reducible refine aC (f:=83) rfl ?_);refine bE (some 8) rfl rfl Tryz.func83 (by kernel_rfl) rfl #[.int .i64 a0] rfl cD ?_;(with_reducible refine (dY.calls a0 true _ A3.out).mono ?_);rintro e w' ⟨rfl,⟨nd,rfl⟩⟩;refine ⟨_,rfl,?_⟩) | ((with_reducible refine aC (f:=83) rfl ?_);refine bE (some 10) rfl rfl Tryz.func83 (by kernel_rfl) rfl #[.int .i64 a1] rfl cD ?_;(with_reducible refine (dY.calls a1 true _ A4.out).mono ?_);rintro e w' ⟨rfl,⟨nd,rfl⟩⟩;refine ⟨_,rfl,?_⟩))
   go_ret
   exact ⟨by first | rfl | (simp;done) | (simp [*];done) | (simp;exact (by decide:∀ a_ b_:Bool,(a_ == b_)=(!a_ != b_)) _ _),by repeat (first | exact bF.refl _ | apply bF.step)⟩
  ·
   replace c6:=Bool.eq_false_iff.mpr c6;subst c6
   replace H:=jO H
   obtain rfl:=Option.some.inj H
   go_enter Tryz.func64,Tryz.ntmps64
   go_wp2_with (first | ((with_reducible refine aC (f:=83) rfl ?_);refine bE (some 8) rfl rfl Tryz.func83 (by kernel_rfl) rfl #[.int .i64 a0] rfl cD ?_;(with_reducible refine (dY.calls a0 true _ A3.out).mono ?_);rintro e w' ⟨rfl,⟨nd,rfl⟩⟩;refine ⟨_,rfl,?_⟩) | ((with_reducible refine aC (f:=83) rfl ?_);refine bE (some 10) rfl rfl Tryz.func83 (by kernel_rfl) rfl #[.int .i64 a1] rfl cD ?_;(with_reducible refine (dY.calls a1 false _ A4.out).mono ?_);rintro e w' ⟨rfl,⟨nd,rfl⟩⟩;refine ⟨_,rfl,?_⟩))
   go_ret
   exact ⟨by first | rfl | (simp;done) | (simp [*];done) | (simp;exact (by decide:∀ a_ b_:Bool,(a_ == b_)=(!a_ != b_)) _ _),by repeat (first | exact bF.refl _ | apply bF.step)⟩
 ·
  replace c5:=Bool.eq_false_iff.mpr c5;subst c5
  replace H:=jO H
  by_cases c7:t140=true
  ·
   subst c7
   replace H:=jQ H
   obtain rfl:=Option.some.inj H
   go_enter Tryz.func64,Tryz.ntmps64
   go_wp2_with (first | ((with_reducible refine aC (f:=83) rfl ?_);refine bE (some 8) rfl rfl Tryz.func83 (by kernel_rfl) rfl #[.int .i64 a0] rfl cD ?_;(with_reducible refine (dY.calls a0 false _ A3.out).mono ?_);rintro e w' ⟨rfl,⟨nd,rfl⟩⟩;refine ⟨_,rfl,?_⟩) | ((with_reducible refine aC (f:=83) rfl ?_);refine bE (some 10) rfl rfl Tryz.func83 (by kernel_rfl) rfl #[.int .i64 a1] rfl cD ?_;(with_reducible refine (dY.calls a1 true _ A4.out).mono ?_);rintro e w' ⟨rfl,⟨nd,rfl⟩⟩;refine ⟨_,rfl,?_⟩))
   go_ret
   exact ⟨by first | rfl | (simp;done) | (simp [*];done) | (simp;exact (by decide:∀ a_ b_:Bool,(a_ == b_)=(!a_ != b_)) _ _),by repeat (first | exact bF.refl _ | apply bF.step)⟩
  ·
   replace c7:=Bool.eq_false_iff.mpr c7;subst c7
   replace H:=jO H
   by_cases c8:a0<a1
   ·
    rw [if_pos c8] at H;have c8b0:decide (a0<a1)=true:=decide_eq_true c8;clear c8
    obtain rfl:=Option.some.inj H
    go_enter Tryz.func64,Tryz.ntmps64
    go_wp2_with (first | ((with_reducible refine aC (f:=83) rfl ?_);refine bE (some 8) rfl rfl Tryz.func83 (by kernel_rfl) rfl #[.int .i64 a0] rfl cD ?_;(with_reducible refine (dY.calls a0 false _ A3.out).mono ?_);rintro e w' ⟨rfl,⟨nd,rfl⟩⟩;refine ⟨_,rfl,?_⟩) | ((with_reducible refine aC (f:=83) rfl ?_);refine bE (some 10) rfl rfl Tryz.func83 (by kernel_rfl) rfl #[.int .i64 a1] rfl cD ?_;(with_reducible refine (dY.calls a1 false _ A4.out).mono ?_);rintro e w' ⟨rfl,⟨nd,rfl⟩⟩;refine ⟨_,rfl,?_⟩))
    go_ret
    exact ⟨by first | rfl | (simp;done) | (simp [*];done) | (simp;exact (by decide:∀ a_ b_:Bool,(a_ == b_)=(!a_ != b_)) _ _),by repeat (first | exact bF.refl _ | apply bF.step)⟩
   ·
    rw [if_neg c8] at H;have c8b0:decide (a0<a1)=false:=decide_eq_false c8;clear c8
    by_cases c9:a0 > a1
    ·
     rw [if_pos c9] at H;have c9b0:decide (a1<a0)=true:=decide_eq_true c9;clear c9
     obtain rfl:=Option.some.inj H
     go_enter Tryz.func64,Tryz.ntmps64
     go_wp2_with (first | ((with_reducible refine aC (f:=83) rfl ?_);refine bE (some 8) rfl rfl Tryz.func83 (by kernel_rfl) rfl #[.int .i64 a0] rfl cD ?_;(with_reducible refine (dY.calls a0 false _ A3.out).mono ?_);rintro e w' ⟨rfl,⟨nd,rfl⟩⟩;refine ⟨_,rfl,?_⟩) | ((with_reducible refine aC (f:=83) rfl ?_);refine bE (some 10) rfl rfl Tryz.func83 (by kernel_rfl) rfl #[.int .i64 a1] rfl cD ?_;(with_reducible refine (dY.calls a1 false _ A4.out).mono ?_);rintro e w' ⟨rfl,⟨nd,rfl⟩⟩;refine ⟨_,rfl,?_⟩))
     go_ret
     exact ⟨by first | rfl | (simp;done) | (simp [*];done) | (simp;exact (by decide:∀ a_ b_:Bool,(a_ == b_)=(!a_ != b_)) _ _),by repeat (first | exact bF.refl _ | apply bF.step)⟩
    ·
     rw [if_neg c9] at H;have c9b0:decide (a1<a0)=false:=decide_eq_false c9;clear c9
     obtain rfl:=Option.some.inj H
     go_enter Tryz.func64,Tryz.ntmps64
     go_wp2_with (first | ((with_reducible refine aC (f:=83) rfl ?_);refine bE (some 8) rfl rfl Tryz.func83 (by kernel_rfl) rfl #[.int .i64 a0] rfl cD ?_;(with_reducible refine (dY.calls a0 false _ A3.out).mono ?_);rintro e w' ⟨rfl,⟨nd,rfl⟩⟩;refine ⟨_,rfl,?_⟩) | ((with_reducible refine aC (f:=83) rfl ?_);refine bE (some 10) rfl rfl Tryz.func83 (by kernel_rfl) rfl #[.int .i64 a1] rfl cD ?_;(with_reducible refine (dY.calls a1 false _ A4.out).mono ?_);rintro e w' ⟨rfl,⟨nd,rfl⟩⟩;refine ⟨_,rfl,?_⟩))
     go_ret
     exact ⟨by first | rfl | (simp;done) | (simp [*];done) | (simp;exact (by decide:∀ a_ b_:Bool,(a_ == b_)=(!a_ != b_)) _ _),by repeat (first | exact bF.refl _ | apply bF.step)⟩
def bU.f (k:Nat) (a0_0:ByteArray) (a0_1:ByteArray) (a0_2:Int) (a0_3:ByteArray) (a0_4:Bool) (a1_0:ByteArray) (a1_1:ByteArray) (a1_2:Int) (a1_3:ByteArray) (a1_4:Bool):Option (Int):=(eV.f a0_0 a1_0).bind fun t143=>((eV.f a0_1 a1_1).bind fun t144=>((fM.f a1_2 a0_2).bind fun t145=>((cx.f k (([t143,t144,t145]:List Int))).bind fun t149=>(some t149))))
theorem bU.mono:∀ a0 a1 a2 a3 a4 a5 a6 a7 a8 a9 k,aE (bU.f k a0 a1 a2 a3 a4 a5 a6 a7 a8 a9) (bU.f (k+1) a0 a1 a2 a3 a4 a5 a6 a7 a8 a9):=by
 intro a0 a1 a2 a3 a4 a5 a6 a7 a8 a9 k
 unfold bU.f
 have m0:=@cx.mono;exact e8
def bU.T1:Bool × List (List Nat × List Nat):=(true,[([],[]),([0],[0]),([],[]),([2],[2]),([1,3],[1,3]),([],[]),([5],[5]),([],[]),([7],[7]),([6,8,4],[6,8]),([],[]),([10],[10]),([],[]),([12],[12]),([11,13,9],[11,13]),([4,9,14],[4,9,14]),([15,14],[15]),([16,16,0,1,2,3,4,5,6,7,8,9,10,11,12,13,14,15,16],[16])])
def bU.B1:List Nat:=[0,1,0,4,15,0,32,0,128,511,0,1024,0,4096,16383,32767,65535,131071]
theorem bU.o4:fC .any (opsOf Tryz.f47 1)=bU.T1:=by kernel_rfl
theorem bU.mY:fY bU.T1.2 bU.B1=true:=by kernel_rfl
theorem bU.calls (k:Nat) (a0_0:ByteArray) (a0_1:ByteArray) (a0_2:Int) (a0_3:ByteArray) (a0_4:Bool) (a1_0:ByteArray) (a1_1:ByteArray) (a1_2:Int) (a1_3:ByteArray) (a1_4:Bool) (r:Int) (w:World) (h:bU.f k a0_0 a0_1 a0_2 a0_3 a0_4 a1_0 a1_1 a1_2 a1_3 a1_4=some r) :
  Calls Tryz.prog 47 #[.agg #[.string a0_0,.string a0_1,.int .i64 a0_2,.string a0_3,.bool a0_4],.agg #[.string a1_0,.string a1_1,.int .i64 a1_2,.string a1_3,.bool a1_4]] w fun e w'=>e = .returned (.int .i64 r)∧Below w.heap.size w w':=by
 have hu34:=Tryz.underlying34;have HB:=aS (Below.refl w.heap.size w);have H:((eV.f a0_0 a1_0).bind fun t143=>((eV.f a0_1 a1_1).bind fun t144=>((fM.f a1_2 a0_2).bind fun t145=>((cx.f k (([t143,t144,t145]:List Int))).bind fun t149=>(some t149)))))=some r:=h;clear h;replace H:=bV H;obtain ⟨t143,A30,H⟩:=H;have A3:=aS A30;clear A30;replace H:=bV H;obtain ⟨t144,A40,H⟩:=H;have A4:=aS A40;clear A40;replace H:=bV H;obtain ⟨t145,A50,H⟩:=H;have A5:=aS A50;clear A50
 obtain ⟨y146,hy146⟩:∃ y_:List Int,y_=(([t143,t144,t145]:List Int)):=⟨_,rfl⟩
 (first | replace H:=j8 hy146 H | rw [←hy146] at H);have Ny146:=aS hy146;clear hy146;replace H:=bV H;obtain ⟨t149,A60,H⟩:=H;have A6:=aS A60;clear A60
 obtain rfl:=Option.some.inj H
 go_enter Tryz.func47,Tryz.ntmps47
 try go_wp2_with (first | ((with_reducible refine aX (N:=2) rfl ?_);refine aY ?hg (N:=2) ?hd (cs:=#[.string a0_0,.string a0_1,.int .i64 a0_2,.string a0_3,.bool a0_4]) (t:=34) ?hr ?_;(case hd=>rfl);(case hg=>rfl);(case hr=>first | (go_simp;done) | (go_simp;rfl));intro gb141 hg w7 hbox hb;have BK141:=aS (hbox);have GW141:=bsize hg;have GE141:=bsize hg;replace HB:=aM hb;clear hb hbox hg) | ((with_reducible refine aX (N:=3) rfl ?_);refine aY ?hg (N:=3) ?hd (cs:=#[.string a1_0,.string a1_1,.int .i64 a1_2,.string a1_3,.bool a1_4]) (t:=34) ?hr ?_;(case hd=>rfl);(case hg=>rfl);(case hr=>first | (go_simp;done) | (go_simp;rfl));intro gb142 hg w8 hbox hb;have BK142:=aS (hbox);have GW142:=bsize hg;have GE142:=bsize hg;replace HB:=aM hb;have NB141_142:=aS ((by rw [hg];exact Nat.ne_of_lt (dg (g:=gb141) (o:=.cells #[.string a0_0,.string a0_1,.int .i64 a0_2,.string a0_3,.bool a0_4] 34 (0,0)) (eB BK141.out)):gb141≠gb142));have NB142_141:=aS ((by rw [hg];exact Nat.ne_of_gt (dg (g:=gb141) (o:=.cells #[.string a0_0,.string a0_1,.int .i64 a0_2,.string a0_3,.bool a0_4] 34 (0,0)) (eB BK141.out)):gb142≠gb141));replace BK141:=fA BK141 hb;clear hb hbox hg))
 replace BK141:=aS (au BK141.out);replace BK142:=aS (au BK142.out);replace HB:=aS (jG HB.out);refine dz (n:=18) (S:=fun w'=>w'.cell? ⟨gb141,0,none⟩=some (.string a0_0)∧w'.cell? ⟨gb141,1,none⟩=some (.string a0_1)∧w'.cell? ⟨gb141,2,none⟩=some (.int .i64 a0_2)∧w'.cell? ⟨gb141,3,none⟩=some (.string a0_3)∧w'.cell? ⟨gb141,4,none⟩=some (.bool a0_4)∧w'.cell? ⟨gb142,0,none⟩=some (.string a1_0)∧w'.cell? ⟨gb142,1,none⟩=some (.string a1_1)∧w'.cell? ⟨gb142,2,none⟩=some (.int .i64 a1_2)∧w'.cell? ⟨gb142,3,none⟩=some (.string a1_3)∧w'.cell? ⟨gb142,4,none⟩=some (.bool a1_4)) (ds:=[]) (bA 18 0) (by kernel_rfl) rfl rfl ⟨bc BK141 0,bc BK141 1,bc BK141 2,bc BK141 3,bc BK141 4,bc BK142 0,bc BK142 1,bc BK142 2,bc BK142 3,bc BK142 4⟩ (fun hHeld=>?_);refine cH bU.o4 bU.mY (fun HT_ HW_=>?_)
 generalize w8.drew=w9 at BK141 BK142 HB hHeld ⊢
 refine aZ [(0,5),(2,7),(5,10),(7,12),(10,15),(12,17),(1,6),(3,8),(6,11),(8,13),(11,16),(13,18)] ?_
 iterate 12 (first | (refine cr HT_ ?_) | (refine d_ HT_ HW_ hHeld ?_))
 refine bX (bA 18 15855) (by kernel_rfl) ?_;refine dJ 4 (N:=some 9) (bA 18 15871) HT_ (fun K hK=>?_);refine ep Tryz.func63 (by kernel_rfl) rfl #[.string a0_0,.string a1_0] (by rfl) rfl rfl cD ?_
 with_reducible refine (eV.calls a0_0 a1_0 t143 _ A3.out).mono ?_
 rintro e w' ⟨rfl,⟨nd,rfl⟩⟩
 refine ⟨_,rfl,?_⟩;refine hK.out _ _ ⟨bc BK141 0,bc BK141 1,bc BK141 2,bc BK141 3,bc BK141 4,bc BK142 0,bc BK142 1,bc BK142 2,bc BK142 3,bc BK142 4⟩ (fun hHeld=>?_);clear hK K;refine nm 9 ?_;refine dJ 9 (N:=some 14) (bA 18 16383) HT_ (fun K hK=>?_);refine ep Tryz.func63 (by kernel_rfl) rfl #[.string a0_1,.string a1_1] (by rfl) rfl rfl cD ?_
 with_reducible refine (eV.calls a0_1 a1_1 t144 _ A4.out).mono ?_
 rintro e w' ⟨rfl,⟨nd,rfl⟩⟩
 refine ⟨_,rfl,?_⟩;refine hK.out _ _ ⟨bc BK141 0,bc BK141 1,bc BK141 2,bc BK141 3,bc BK141 4,bc BK142 0,bc BK142 1,bc BK142 2,bc BK142 3,bc BK142 4⟩ (fun hHeld=>?_);clear hK K;refine nm 14 ?_;refine dJ 14 (N:=some 19) (bA 18 32767) HT_ (fun K hK=>?_);refine ep Tryz.func64 (by kernel_rfl) rfl #[.int .i64 a1_2,.int .i64 a0_2] (by rfl) rfl rfl cD ?_
 with_reducible refine (fM.calls a1_2 a0_2 t145 _ A5.out).mono ?_
 rintro e w' ⟨rfl,⟨nd,rfl⟩⟩
 refine ⟨_,rfl,?_⟩;refine hK.out _ _ ⟨bc BK141 0,bc BK141 1,bc BK141 2,bc BK141 3,bc BK141 4,bc BK142 0,bc BK142 1,bc BK142 2,bc BK142 3,bc BK142 4⟩ (fun hHeld=>?_);clear hK K;refine nm 19 ?_;refine dJ 15 (N:=some 20) (bA 18 65535) HT_ (fun K hK=>?_)
 refine Kd.i_ (Kd.int .i64) _ 3 ?hg (N:=20) ?hd (xs:=([t143,t144,t145]:List Int)) (inner:=[.int .i64 t143,.int .i64 t144,.int .i64 t145]) (ok:=fun _=>True) (okp:=fun _=>True) ?hr ?hp (fun _ hk=>hk) trivial (Below.refl _ _) (Nat.le_refl _) (by simp) ?_;(case hd=>rfl);(case hg=>rfl);(case hr=>first | (go_simp;done) | (go_simp;rfl));(case hp=>exact (bH.one (show Kd.M (Kd.int .i64) _ _ _ t143 [.int .i64 t143] from rfl) (bH.one (show Kd.M (Kd.int .i64) _ _ _ t144 [.int .i64 t144] from rfl) (bH.one (show Kd.M (Kd.int .i64) _ _ _ t145 [.int .i64 t145] from rfl) (bH.none _ _)))))
 intro v147 w10 ho11 hb hg_ hnew_
 clear hg_ hnew_
 (first | rw [←Ny146.out] at ho11 | (simp only [Int.reduceToNat] at ho11;rw [←Ny146.out] at ho11))
 have HO148:=aS (Kd.bf ho11 (ay ar));replace BK141:=fA BK141 hb;replace BK142:=fA BK142 hb;replace HB:=aM hb;clear hb ho11;obtain ⟨Ao12,co12,eo12⟩:=Kd.bq HO148.out
 (first | subst eo12 | (injection eo12 with f1_ f2_ f3_;have f4_:=f1_.symm;have f5_:=f3_.symm;clear f1_ f2_ f3_;subst f4_;subst f5_))
 refine hK.out _ _ ⟨bc BK141 0,bc BK141 1,bc BK141 2,bc BK141 3,bc BK141 4,bc BK142 0,bc BK142 1,bc BK142 2,bc BK142 3,bc BK142 4⟩ (fun hHeld=>?_);clear hK K;refine nm 20 ?_;refine dJ 16 (N:=some 21) (bA 18 131071) HT_ (fun K hK=>?_);refine ep Tryz.func62 (by kernel_rfl) rfl #[.slice Ao12 y146.length co12] (by rfl) rfl rfl cD ?_
 with_reducible refine (cx.calls k _ _ y146 t149 _ ?side1 ?side2 A6.out).mono ?_
 (case side1=>exact eN ((Kd.bh HO148.out).2.2))
 (case side2=>exact (Kd.bh HO148.out).2.1)
 rintro e w' ⟨rfl,⟨nd,rfl⟩⟩
 refine ⟨_,rfl,?_⟩;refine hK.out _ _ ⟨bc BK141 0,bc BK141 1,bc BK141 2,bc BK141 3,bc BK141 4,bc BK142 0,bc BK142 1,bc BK142 2,bc BK142 3,bc BK142 4⟩ (fun hHeld=>?_);clear hK K;refine nm 21 ?_;refine dB (i:=17) (N:=some 4) (v:=?_) (a':=?_) (bA 18 262143) rfl rfl (lE HT_.out (by kernel_rfl)) (fun _ _ _ h=>h) (Or.inl ⟨by rfl,?_⟩) ?_ ?_
 rotate_left
 ·
  intro w'
  go_simp
  with_reducible rfl
 rotate_left
 ·
  simp only [Act.put,dw,dx,lss,bC,cm]
  rfl
 refine dQ (cX HT_.out (by kernel_rfl)) ?_
 try go_wp2
 go_ret
 exact ⟨dN,ar⟩
end Go.Proofs.YtcbhfedcdnjljaaGreat.X

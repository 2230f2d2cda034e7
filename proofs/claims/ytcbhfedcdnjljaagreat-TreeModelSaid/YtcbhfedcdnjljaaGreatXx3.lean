import Derived.Test.YtcbhfedcdnjljaaGreatXx0
set_option maxHeartbeats 8000000
set_option maxRecDepth 100000
set_option linter.unusedVariables false
set_option linter.unusedSimpArgs false
namespace Go.Proofs.YtcbhfedcdnjljaaGreat.X
open Go.RowKit Go.Proofs.YtcbhfedcdnjljaaGreatW.PrintWords Go.Proofs.YtcbhfedcdnjljaaGreatW.PrintLast Go.Proofs.YtcbhfedcdnjljaaGreatW.PrintMore
attribute [local go_sem] lG lH mH mG kp ku lA lC mE
def eV.f (a0:Int) (a1:Int):Option (Bool):=if a0≥1 then (some (decide (a0≤a1))) else (some false)
theorem eV.calls (a0:Int) (a1:Int) (r:Bool) (w:World) (h:eV.f a0 a1=some r) :
  Calls Tryz.prog 24 #[.int .i64 a0,.int .i64 a1] w fun e w'=>e = .returned (.bool r)∧eJ w w':=by
 have H:(if a0≥1 then (some (decide (a0≤a1))) else (some false))=some r:=h;clear h
 by_cases c3:a0≥1
 ·
  rw [if_pos c3] at H;have c3b0:decide (1≤a0)=true:=decide_eq_true c3;clear c3
  obtain rfl:=Option.some.inj H
  go_enter Tryz.func24,Tryz.ntmps24
  go_wp2
  go_ret
  exact ⟨cG,fO⟩
 ·
  rw [if_neg c3] at H;have c3b0:decide (1≤a0)=false:=decide_eq_false c3;clear c3
  obtain rfl:=Option.some.inj H
  go_enter Tryz.func24,Tryz.ntmps24
  go_wp2
  go_ret
  exact ⟨cG,fO⟩
def cg.At (w:World) (base g:Nat) (xs:List au) (n:Int) (v:Value):Prop:=base≤g∧w.heap[g]? = some (.cells #[v,.int .i64 n] 78 (0,0))∧Kd.R cm 34 w base (fun _=>True) v xs
structure cg.Two (w w':World) (g:Nat) (row:Option Nat):Prop where
 os:w'.os=w.os
 tape:w'.tape=w.tape
 output:w'.output=w.output
 size:w.heap.size≤w'.heap.size
 block:∀ k,k<w.heap.size→k≠g→some k≠row→w'.heap[k]? = w.heap[k]?
section
variable {w w1 w2:World} {base b g:Nat} {xs:List au} {n:Int} {v:Value} {row:Option Nat}
theorem cg.At.below (h:cg.At w base g xs n v) (hb:Below w.heap.size w w1):cg.At w1 base g xs n v:=⟨h.1,aI h.2.1 hb,Kd.dB h.2.2 hb⟩
theorem cg.At.lower (h:cg.At w base g xs n v) (hb:b≤base):cg.At w b g xs n v:=⟨Nat.le_trans hb h.1,h.2.1,Kd.bn h.2.2 hb⟩
theorem cg.At.lt (h:cg.At w base g xs n v):g<w.heap.size:=cR h.2.1
theorem cg.At.reads {A:Option Addr} {m c:Nat} (h:cg.At w base g xs n (.slice A m c)):Kd.C cm w A xs.length xs:=(Kd.aY h.2.2).2.2
theorem cg.At.ne (h:cg.At w base g xs n v):some g≠v.ownBlock:=Kd.lZ h.2.2 h.2.1 (by decide)
theorem cg.At.rows (h:cg.At w base g xs n v):∃ A c,v = .slice A xs.length c∧xs.length≤c∧Kd.C cm w A xs.length xs:=Kd.eZ h.2.2
theorem cg.Two.refl (w:World) (g:Nat) (row:Option Nat):cg.Two w w g row:=⟨rfl,rfl,rfl,Nat.le_refl _,fun _ _ _ _=>rfl⟩
theorem cg.Two.j5 (h:Below w.heap.size w w1) (g:Nat) (row:Option Nat):cg.Two w w1 g row:=⟨h.os,h.tape,h.output,h.size,fun k hk _ _=>h.block k hk⟩
theorem cg.Two.step (h:cg.Two w w1 g row) (hb:Below w1.heap.size w1 w2):cg.Two w w2 g row:=
 ⟨hb.os.trans h.os,hb.tape.trans h.tape,hb.output.trans h.output,Nat.le_trans h.size hb.size,fun k hk h1 h2=>(hb.block k (Nat.lt_of_lt_of_le hk h.size)).trans (h.block k hk h1 h2)⟩
theorem cg.Two.below {B:Nat} {w0:World} (h:cg.Two w w1 g v.ownBlock) (ha:cg.At w base g xs n v) (hB:B≤base) (h0:Below B w0 w):Below B w0 w1:=
 h0.trans ⟨h.os,h.tape,h.output,h.size,fun k hk=>h.block k (by have:=ha.lt;have:=ha.1;omega) (by have:=ha.1;omega) (fun he=>by have:=Kd.gi ha.2.2 k he.symm;omega)⟩
theorem cg.Two.set (w:World) (g j:Nat) (u:Value) (row:Option Nat):cg.Two w (w.setCell ⟨g,j,none⟩ u) g row:=⟨rfl,rfl,rfl,by simp [World.setCell],fun k _ hk _=>Below.heap_setCell w ⟨g,j,none⟩ u k hk⟩
theorem cg.Two.trans (h:cg.Two w w1 g row) {row1:Option Nat} (h1:cg.Two w1 w2 g row1) (hr:row1=row∨∃ k,row1=some k∧w.heap.size≤k):cg.Two w w2 g row:=
 ⟨h1.os.trans h.os,h1.tape.trans h.tape,h1.output.trans h.output,Nat.le_trans h.size h1.size,fun k hk hg hk2=>(h1.block k (Nat.lt_of_lt_of_le hk h.size) hg (fun he=>by
  rcases hr with hr | ⟨m,hm,hle⟩
  ·
   exact hk2 (by rw [he,hr])
  ·
   rw [hm] at he;injection he with he;omega)).trans (h.block k hk hg hk2)⟩
theorem cg.Two.grown (h:w.grownBy w1 row) (g:Nat):cg.Two w w1 g row:=⟨h.os,h.tape,h.output,h.size,fun k hk _ hr=>h.block k hk hr⟩
end
theorem cg.calls (w:World):Calls Tryz.prog 25 #[] w fun e w'=>∃ g:Nat,e = .returned (.pointer (some ⟨g,0,none⟩))∧cg.At w' w.heap.size g [] 0 (.slice none 0 0)∧Below w.heap.size w w':=by
 have hu46:=Tryz.underlying78;have hi46:=FY
 go_enter Tryz.func25,Tryz.ntmps25
 go_wp2_with ((with_reducible refine gD 2 ?_);refine dK 2 #[.slice none 0 0,.int .i64 0] 78 ?_;intro g hg w1 hbk hb;have BK:=aS hbk;have BL:=aS hb;have GE:=aS hg;clear hg hbk hb)
 go_ret
 exact ⟨g,rfl,⟨by rw [GE.out];exact Nat.le_refl _,BK.out,Kd.d6 _ _ _ _ _⟩,BL.out⟩
-- its contract stands with slices.Concat's
theorem oA (w:World):Calls Tryz.prog 96 #[.slice none 0 0,.int .i64 0] w fun e w'=>e = .returned (.slice none 0 0)∧w=w':=by
 go_enter Tryz.func96,Tryz.ntmps96
 go_wp2
 go_ret
 exact ⟨rfl,rfl⟩
theorem oB (n:Int) (w:World) (h0:0<n) (hn:n≤140737488355328):Calls Tryz.prog 96 #[.slice none 0 0,.int .i64 n] w fun e w'=>∃ v0_:Value,e = .returned v0_∧Kd.R (Kd.int .u8) 5 w' w.heap.size (fun _=>True) v0_ []∧Below w.heap.size w w':=by
 have p1:¬ n<0:=by omega
 have p3:0≤n:=by omega
 obtain ⟨i0,hi0,_,_,_⟩:=info_parts gL;have hcut0:=jO (P:=Tryz.prog) 51 5 .i64 Tryz.underlying51 hi0 none 0 0 0 (by omega) (by omega) (by omega)
 go_enter Tryz.func96,Tryz.ntmps96
 go_wp2_with (first
  | (at_builtin;refine Kd.vw (Kd.int .u8) (w0:=w) w.heap.size rfl (.tmp 20) (.tmp 21) 51 3 5 (.int .u8 0) 1 rfl Tryz.underlying51 Tryz.underlying3 gL rfl (by decide) (by omega) (.slice none 0 0) [] 0 (n:Int) (fun _=>True) rfl rfl rfl (fun _ _=>trivial) (Kd.d6 _ _ _ _ _) p3 (Below.refl _ _) (Nat.le_refl _) (by simp;omega) ?_;intro v1 w1 ho hb hg hat;clear hg hat;obtain ⟨A1,c1,rfl⟩:=Kd.bp ho;have ht:=Kd.BM (m:=0) ho (Nat.zero_le _);have HO:=aS ht;have HB:=aS hb;have hcut1:=jO (P:=Tryz.prog) 51 5 .i64 Tryz.underlying51 hi0 A1 ([]++List.replicate n.toNat (0:Int)).length c1 0 (by omega) (by omega) (Kd.aY ho).2.1;clear ho hb ht))
 go_ret
 exact ⟨_,rfl,HO.out,HB.out⟩
def bX.f (l0:List (List Int)):Option (List Int):=if fG l0≤140737488355328 then some l0.flatten else none
theorem bX.calls (A0:Option Addr) (c0:Nat) (l0:List (List Int)) (r:List Int) (w:World) (hr0:Kd.C (Kd.slice 5 (Kd.int .u8)) w A0 l0.length l0) (hc0:l0.length≤c0) (h:bX.f l0=some r) :
  Calls Tryz.prog 84 #[.slice A0 l0.length c0] w fun e w'=>∃ v0_:Value,e = .returned (v0_)∧Kd.R (Kd.int .u8) 5 w' w.heap.size (fun _=>True) v0_ r∧Below w.heap.size w w':=by
 unfold bX.f at h
 split at h
 rotate_left
 ·
  cases h
 rename_i hlim
 obtain rfl:=Option.some.inj h
 clear h;have HL:=aS hlim;have HR:=aS hr0;have HM:=aS (Kd.AJ hr0);clear hlim hr0 hc0
 go_enter Tryz.func84,Tryz.ntmps84
 go_wp2
 go_loop [3,11] (fun s i=>∃ k:Nat,i = .int .i64 (k:Int)∧s = .int .i64 ((fG (l0.take k):Nat):Int)∧ah (k≤l0.length)) (fun _ i=>l0.length - (intOf i).toNat)
 case atStart=>exact ⟨0,rfl,by simp [fG],⟨Nat.zero_le _⟩⟩
 case round=>
  obtain ⟨k,rfl,rfl,hk⟩:=hrel
  by_cases hlt:k<l0.length
  ·
   obtain ⟨ad,A1,c1,rfl,hcell,hl1,hC1⟩:=Ea HR.out (k:Int) (by omega) (by omega);rw [Int.toNat_natCast] at hcell;have b1:fG (l0.take (k+1))=fG (l0.take k)+(mq l0 (k:Int)).length:=tv l0 k hlt;have b2:=wo l0 (k+1);have b3:=HL.out
   have b4:((fG (l0.take k):Nat):Int)+((mq l0 (k:Int)).length:Int)≤140737488355328:=by omega
   have e1:((fG (l0.take k):Nat):Int)+((mq l0 (k:Int)).length:Int)=((fG (l0.take (k+1)):Nat):Int):=by omega
   have E1:=aS e1;have b5:=HM.out;clear b1 b2 b3 e1 hl1 hC1
   go_wp2
   go_round
   case rel=>exact ⟨k+1,by go_num,by rw [E1.out],⟨by omega⟩⟩
   case measure=>simp [intOf];omega
  ·
   have hkl:k=l0.length:=by have:=hk.out;omega
   subst hkl;rw [List.take_length];have b0:=HL.out
   by_cases hz:fG l0=0
   all_goals
    go_wp2_with (first
     | (go_at_call 96;rw [hz];refine (oA _).mono ?_;rintro e w1 ⟨rfl,rfl⟩;have HB:=aS (Below.refl w.heap.size w);have HO:=aS (Kd.d6 (Kd.int .u8) 5 w w.heap.size (fun _=>True)))
     | (go_at_call 96;refine (oB _ _ (by omega) (by omega)).mono ?_;rintro e w1 ⟨v0,rfl,ho,hb⟩;have HO:=aS ho;have HB:=aS hb;clear ho hb))
    go_loopw [6,27] (fun v i w2=>∃ k:Nat,i = .int .i64 (k:Int)∧ah (k≤l0.length)∧ah (Kd.R (Kd.int .u8) 5 w2 w.heap.size (fun _=>True) v (l0.take k).flatten)∧ah (Below w.heap.size w w2)) (fun _ i _=>l0.length - (intOf i).toNat)
    case atStart=>exact ⟨0,rfl,⟨Nat.zero_le _⟩,HO,HB⟩
    case round=>
     clear HO HB;obtain ⟨k,rfl,hk1,HO1,HB1⟩:=hrel
     by_cases hlt:k<l0.length
     ·
      obtain ⟨ad,A1,c1,rfl,hcell,hl1,hC1⟩:=Ea (Kd.cH HR.out HB1.out) (k:Int) (by omega) (by omega);rw [Int.toNat_natCast] at hcell;have b1:fG (l0.take (k+1))=fG (l0.take k)+(mq l0 (k:Int)).length:=tv l0 k hlt;have b2:=wo l0 (k+1)
      have b3:fG (l0.take k)+(mq l0 (k:Int)).length≤140737488355328:=by omega
      have B3:=aS b3;have F3:=aS (show (l0.take (k+1)).flatten=(l0.take k).flatten++mq l0 (k:Int) from Cg l0 k hlt);have HC1:=aS hC1;have b5:=HM.out;clear b1 b2 hl1 hC1 b0 b3
      go_wp2_with (first
       | (at_builtin;refine Kd.yK (Value.int .u8) (0:Int) (h1:=fun _=>rfl) (w0:=w) w.heap.size rfl (.tmp 31) (.tmp 32) 51 5 _ 1 rfl Tryz.underlying51 gL rfl (by decide) _ (l0.take k).flatten (mq l0 (k:Int)) A1 (mq l0 (k:Int)).length c1 (fun _=>True) rfl rfl (fun _ _=>trivial) HO1.out HC1.out HB1.out HB1.out.size (by rw [zL];have:=B3.out;omega) ?_;intro v2 w3 ho hb hg hat;clear hg hat;rw [←F3.out] at ho;have HO2:=aS ho;have HB2:=aS hb;clear ho hb))
      go_roundw
      case rel=>exact ⟨k+1,by go_num,⟨by omega⟩,HO2,HB2⟩
      case measure=>simp [intOf];omega
     ·
      have hkl:k=l0.length:=by have:=hk1.out;omega
      subst hkl;rw [List.take_length] at HO1
      go_wp2
      go_ret
      exact ⟨_,rfl,HO1.out,HB1.out⟩
def eB.f (a0:Int):Option (List Int):=if a0<0 then (some ([]:List Int)) else (if a0 > 4294967295 then (some ([]:List Int)) else (some (([(a0 / 16777216) % 256,(a0 / 65536) % 256,(a0 / 256) % 256,(a0) % 256]:List Int))))
theorem eB.calls (a0:Int) (r:List Int) (w:World) (h:eB.f a0=some r) :
  Calls Tryz.prog 86 #[.int .i64 a0] w fun e w'=>∃ v0_:Value,e = .returned (v0_)∧Kd.R (Kd.int .u8) 5 w' w.heap.size (fun _=>True) v0_ r∧Below w.heap.size w w':=by
 have HB:=aS (Below.refl w.heap.size w);have H:(if a0<0 then (some ([]:List Int)) else (if a0 > 4294967295 then (some ([]:List Int)) else (some (([(a0 / 16777216) % 256,(a0 / 65536) % 256,(a0 / 256) % 256,(a0) % 256]:List Int)))))=some r:=h;clear h
 by_cases c2:a0<0
 ·
  rw [if_pos c2] at H;have c2b0:decide (a0<0)=true:=decide_eq_true c2;clear c2
  obtain rfl:=Option.some.inj H
  go_enter Tryz.func86,Tryz.ntmps86
  go_wp2
  go_ret
  exact ⟨_,dP,by first | exact Kd.d6 _ _ _ _ _ | exact Kd.gB _ _ _ _ _ | exact Kd.fJ _ _ _ _ _ | exact Kd.gy _ _ _ _ _ | exact Kd.gE _ _ _ _ _,aq⟩
 ·
  rw [if_neg c2] at H;have c2b0:decide (a0<0)=false:=decide_eq_false c2;clear c2
  by_cases c3:a0 > 4294967295
  ·
   rw [if_pos c3] at H;have c3b0:decide (4294967295<a0)=true:=decide_eq_true c3;clear c3
   obtain rfl:=Option.some.inj H
   go_enter Tryz.func86,Tryz.ntmps86
   go_wp2
   go_ret
   exact ⟨_,dP,by first | exact Kd.d6 _ _ _ _ _ | exact Kd.gB _ _ _ _ _ | exact Kd.fJ _ _ _ _ _ | exact Kd.gy _ _ _ _ _ | exact Kd.gE _ _ _ _ _,aq⟩
  ·
   rw [if_neg c3] at H;have c3b0:decide (4294967295<a0)=false:=decide_eq_false c3;clear c3
   obtain ⟨y101,hy101⟩:∃ y_:List Int,y_=(([(a0 / 16777216) % 256,(a0 / 65536) % 256,(a0 / 256) % 256,(a0) % 256]:List Int)):=⟨_,rfl⟩
   replace H:(some y101)=some r:=pU hy101 H;have Ny101:=aS hy101;clear hy101
   obtain rfl:=Option.some.inj H
   go_enter Tryz.func86,Tryz.ntmps86
   go_wp2_with (first | ((with_reducible refine gD 20 ?_);refine Kd.rI (Kd.int .u8) _ 5 ?hg (N:=20) ?hd (xs:=([(a0 / 16777216) % 256,(a0 / 65536) % 256,(a0 / 256) % 256,(a0) % 256]:List Int)) (inner:=[.int .u8 ((a0 / 16777216) % 256),.int .u8 ((a0 / 65536) % 256),.int .u8 ((a0 / 256) % 256),.int .u8 ((a0) % 256)]) (ok:=fun _=>True) (okp:=fun _=>True) ?hr ?hp (fun _ hk=>hk) trivial (Below.refl _ _) (Nat.le_refl _) (by simp) ?_;(case hd=>rfl);(case hg=>rfl);(case hr=>first | (go_simp;done) | (go_simp;rfl));(case hp=>exact (bP.one (show Kd.M (Kd.int .u8) _ _ _ ((a0 / 16777216) % 256) [.int .u8 ((a0 / 16777216) % 256)] from rfl) (bP.one (show Kd.M (Kd.int .u8) _ _ _ ((a0 / 65536) % 256) [.int .u8 ((a0 / 65536) % 256)] from rfl) (bP.one (show Kd.M (Kd.int .u8) _ _ _ ((a0 / 256) % 256) [.int .u8 ((a0 / 256) % 256)] from rfl) (bP.one (show Kd.M (Kd.int .u8) _ _ _ ((a0) % 256) [.int .u8 ((a0) % 256)] from rfl) (bP.none _ _))))));intro v102 w4 ho5 hb hg_ hnew_;clear hg_ hnew_;(first | rw [←Ny101.out] at ho5 | (simp only [Int.reduceToNat] at ho5;rw [←Ny101.out] at ho5));have HO103:=aS (Kd.bn ho5 (aA aq));replace HB:=aM hb;clear hb ho5))
   go_ret
   exact ⟨_,dP,by (with_reducible repeat (first | apply Kd.bB | apply Kd.bC | apply Kd.bD));exact HO103.out,aq⟩
def er.f (a0:ByteArray):Option (List Int):=(eB.f (a0.size:Int)).bind fun t104=>(if t104.length+a0.size<140737488355328 then (some (t104++bytesOf a0)) else (none))
theorem er.calls (a0:ByteArray) (r:List Int) (w:World) (h:er.f a0=some r) :
  Calls Tryz.prog 85 #[.string a0] w fun e w'=>∃ v0_:Value,e = .returned (v0_)∧Kd.R (Kd.int .u8) 5 w' w.heap.size (fun _=>True) v0_ r∧Below w.heap.size w w':=by
 have HB:=aS (Below.refl w.heap.size w);have H:((eB.f (a0.size:Int)).bind fun t104=>(if t104.length+a0.size<140737488355328 then (some (t104++bytesOf a0)) else (none)))=some r:=h;clear h;replace H:=bU H;obtain ⟨t104,A20,H⟩:=H;have A2:=aS A20;clear A20
 by_cases c3:t104.length+a0.size<140737488355328
 ·
  rw [if_pos c3] at H;have LMc3:=aS c3;clear c3
  obtain ⟨y107,hy107⟩:∃ y_:List Int,y_=(t104++bytesOf a0):=⟨_,rfl⟩
  replace H:(some y107)=some r:=pU hy107 H;have Ny107:=aS hy107;clear hy107
  obtain rfl:=Option.some.inj H
  go_enter Tryz.func85,Tryz.ntmps85
  go_wp2_with (first | ((with_reducible refine gC 86 ?_);refine dn 5 Tryz.func86 #[.int .i64 (a0.size:Int)] ?_;(with_reducible refine (eB.calls (a0.size:Int) t104 _ A2.out).mono ?_);rintro e w4 ⟨v105,rfl,ho0,hb⟩;refine ⟨_,rfl,?_⟩;have HO106:=aS (Kd.bn ho0 (aA aq));replace HB:=aM hb;(try clear hb);(try clear hk);(try clear hi);(try clear ho0)) | (at_builtin;refine pJ (w0:=w) w.heap.size rfl (.tmp 5) _ 51 9 5 rfl Tryz.underlying51 Tryz.underlying9 gL v105 t104 a0 rfl rfl ?aO ?aB ?aS ?aL ?_;(case aB=>exact aq);(case aO=>exact (Kd.iS (rel HO106.out)));(case aS=>exact (aA aq));(case aL=>have:=LMc3.out;omega);intro v108 w5 ho0 hb hg;have ho:=Kd.nF (h1:=fun _=>rfl) (ok:=fun _=>True) ho0 (fun _ _=>trivial);clear ho0;have hat:=True.intro;rw [←Ny107.out] at ho;change Kd.R (Kd.int .u8) 5 w5 w.heap.size (fun _=>True) v108 y107 at ho;have n0_:=aS (hb);have n1_:=aS (ho);clear HB;clear HO106;have HB:=n0_;have HO109:=n1_;clear n0_ n1_;clear ho hb hg hat))
  go_ret
  exact ⟨_,dP,by (with_reducible repeat (first | apply Kd.bB | apply Kd.bC | apply Kd.bD));exact HO109.out,aq⟩
 ·
  rw [if_neg c3] at H;exact absurd H (by simp)
def lg.f (a0:Bool):Option (Int):=if a0=true then (some 1) else (some 0)
theorem lg.calls (a0:Bool) (r:Int) (w:World) (h:lg.f a0=some r) :
  Calls Tryz.prog 87 #[.bool a0] w fun e w'=>e = .returned (.int .u8 r)∧eJ w w':=by
 have H:(if a0=true then (some 1) else (some 0))=some r:=h;clear h
 by_cases c2:a0=true
 ·
  subst c2
  replace H:=jy H
  obtain rfl:=Option.some.inj H
  go_enter Tryz.func87,Tryz.ntmps87
  go_wp2
  go_ret
  exact ⟨cG,fO⟩
 ·
  replace c2:=Bool.eq_false_iff.mpr c2;subst c2
  replace H:=jw H
  obtain rfl:=Option.some.inj H
  go_enter Tryz.func87,Tryz.ntmps87
  go_wp2
  go_ret
  exact ⟨cG,fO⟩
def dh.f (a0_0:ByteArray) (a0_1:ByteArray) (a0_2:Int) (a0_3:ByteArray) (a0_4:Bool):Option (List Int):=(er.f a0_0).bind fun t111=>((er.f a0_1).bind fun t114=>((eB.f a0_2).bind fun t117=>((lg.f a0_4).bind fun t120=>((er.f a0_3).bind fun t124=>((bX.f (([t111,t114,t117,(([t120]:List Int)),t124]:List (List Int)))).bind fun t130=>(some t130))))))
def dh.T1:Bool × List (List Nat × List Nat):=(true,[([],[]),([0],[0]),([1],[1]),([],[]),([3],[3]),([4,2],[4]),([],[]),([6],[6]),([7,5],[7]),([],[]),([9],[9]),([10,8],[10]),([11],[11]),([],[]),([13],[13]),([14,11],[14]),([2,5,8,12,15],[2,5,8,12,15]),([16,15],[16]),([17,17,0,1,2,3,4,5,6,7,8,9,10,11,12,13,14,15,16,17],[17])])
def dh.B1:List Nat:=[0,1,3,0,8,31,0,64,255,0,512,2047,4095,0,8192,28671,65535,131071,262143]
theorem dh.rq:e9 .any (opsOf Tryz.f65 1)=dh.T1:=by kernel_rfl
theorem dh.oK:gj dh.T1.2 dh.B1=true:=by kernel_rfl
theorem dh.calls (a0_0:ByteArray) (a0_1:ByteArray) (a0_2:Int) (a0_3:ByteArray) (a0_4:Bool) (r:List Int) (w:World) (h:dh.f a0_0 a0_1 a0_2 a0_3 a0_4=some r) :
  Calls Tryz.prog 65 #[.agg #[.string a0_0,.string a0_1,.int .i64 a0_2,.string a0_3,.bool a0_4]] w fun e w'=>∃ v0_:Value,e = .returned (v0_)∧Kd.R (Kd.int .u8) 5 w' w.heap.size (fun _=>True) v0_ r∧Below w.heap.size w w':=by
 have hu34:=Tryz.underlying34;have HB:=aS (Below.refl w.heap.size w);have H:((er.f a0_0).bind fun t111=>((er.f a0_1).bind fun t114=>((eB.f a0_2).bind fun t117=>((lg.f a0_4).bind fun t120=>((er.f a0_3).bind fun t124=>((bX.f (([t111,t114,t117,(([t120]:List Int)),t124]:List (List Int)))).bind fun t130=>(some t130)))))))=some r:=h;clear h;replace H:=bU H;obtain ⟨t111,A20,H⟩:=H;have A2:=aS A20;clear A20;replace H:=bU H;obtain ⟨t114,A30,H⟩:=H;have A3:=aS A30;clear A30;replace H:=bU H;obtain ⟨t117,A40,H⟩:=H;have A4:=aS A40;clear A40;replace H:=bU H;obtain ⟨t120,A50,H⟩:=H;have A5:=aS A50;clear A50
 obtain ⟨y121,hy121⟩:∃ y_:List Int,y_=(([t120]:List Int)):=⟨_,rfl⟩
 (first | replace H:=l9 hy121 H | rw [←hy121] at H);have Ny121:=aS hy121;clear hy121;replace H:=bU H;obtain ⟨t124,A60,H⟩:=H;have A6:=aS A60;clear A60
 obtain ⟨y127,hy127⟩:∃ y_:List (List Int),y_=(([t111,t114,t117,y121,t124]:List (List Int))):=⟨_,rfl⟩
 (first | replace H:=l9 hy127 H | rw [←hy127] at H);have Ny127:=aS hy127;clear hy127;replace H:=bU H;obtain ⟨t130,A70,H⟩:=H;have A7:=aS A70;clear A70
 obtain rfl:=Option.some.inj H
 go_enter Tryz.func65,Tryz.ntmps65
 try go_wp2_with (first | ((with_reducible refine gD 1 ?_);refine dK 1 #[.string a0_0,.string a0_1,.int .i64 a0_2,.string a0_3,.bool a0_4] 34 ?_;intro gb110 hg w8 hbox hb;have BK110:=aS (hbox);have GW110:=bsize hg;have GE110:=bsize hg;replace HB:=aM hb;clear hb hbox hg))
 replace BK110:=aS (ar BK110.out);replace HB:=aS (jS HB.out);refine di (n:=19) (S:=fun w'=>w'.cell? ⟨gb110,0,none⟩=some (.string a0_0)∧w'.cell? ⟨gb110,1,none⟩=some (.string a0_1)∧w'.cell? ⟨gb110,2,none⟩=some (.int .i64 a0_2)∧w'.cell? ⟨gb110,3,none⟩=some (.string a0_3)∧w'.cell? ⟨gb110,4,none⟩=some (.bool a0_4)) (ds:=[]) (bA 19 0) (by kernel_rfl) rfl rfl ⟨bc BK110 0,bc BK110 1,bc BK110 2,bc BK110 3,bc BK110 4⟩ (fun hHeld=>?_);refine cD dh.rq dh.oK (fun HT_ HW_=>?_)
 generalize w8.drew=w9 at BK110 HB hHeld ⊢
 refine aZ [(0,3),(3,6),(6,9),(9,12),(13,16),(1,4),(4,7),(7,10),(10,13),(14,17)] ?_
 iterate 10 (first | (refine ck HT_ ?_) | (refine dY HT_ HW_ hHeld ?_))
 refine bT (bA 19 26331) (by kernel_rfl) ?_;refine dH 2 (N:=some 5) (bA 19 26335) HT_ (fun K hK=>?_);refine gb Tryz.func85 #[.string a0_0] ?_
 with_reducible refine (er.calls a0_0 t111 _ A2.out).mono ?_
 rintro e w10 ⟨v112,rfl,ho0,hb⟩
 refine ⟨_,rfl,?_⟩;have HO113:=aS (Kd.bn ho0 (aA aq));replace BK110:=fp BK110 hb;replace HB:=aM hb;(try clear hb);(try clear hk);(try clear hi);(try clear ho0);refine hK.out _ _ ⟨bc BK110 0,bc BK110 1,bc BK110 2,bc BK110 3,bc BK110 4⟩ (fun hHeld=>?_);clear hK K;refine nm 5 ?_;refine dH 5 (N:=some 8) (bA 19 26367) HT_ (fun K hK=>?_);refine gb Tryz.func85 #[.string a0_1] ?_
 with_reducible refine (er.calls a0_1 t114 _ A3.out).mono ?_
 rintro e w11 ⟨v115,rfl,ho0,hb⟩
 refine ⟨_,rfl,?_⟩;have HO116:=aS (Kd.bn (Kd.cK ho0 (Kd.cP (rel HO113.out))) (aA aq));replace HO113:=aS (Kd.bY (rel HO113.out) (dm ho0) hb);replace BK110:=fp BK110 hb;replace HB:=aM hb;(try clear hb);(try clear hk);(try clear hi);(try clear ho0);refine hK.out _ _ ⟨bc BK110 0,bc BK110 1,bc BK110 2,bc BK110 3,bc BK110 4⟩ (fun hHeld=>?_);clear hK K;refine nm 8 ?_;refine dH 8 (N:=some 11) (bA 19 26623) HT_ (fun K hK=>?_);refine gb Tryz.func86 #[.int .i64 a0_2] ?_
 with_reducible refine (eB.calls a0_2 t117 _ A4.out).mono ?_
 rintro e w12 ⟨v118,rfl,ho0,hb⟩
 refine ⟨_,rfl,?_⟩;have HO119:=aS (Kd.bn (Kd.cK (Kd.cK ho0 (Kd.cP (rel HO113.out))) (Kd.cP (rel HO116.out))) (aA aq));replace HO113:=aS (Kd.bY (rel HO113.out) (dm ho0) hb);replace HO116:=aS (Kd.bY (rel HO116.out) (dm ho0) hb);replace BK110:=fp BK110 hb;replace HB:=aM hb;(try clear hb);(try clear hk);(try clear hi);(try clear ho0);refine hK.out _ _ ⟨bc BK110 0,bc BK110 1,bc BK110 2,bc BK110 3,bc BK110 4⟩ (fun hHeld=>?_);clear hK K;refine nm 11 ?_;refine dH 11 (N:=some 14) (bA 19 28671) HT_ (fun K hK=>?_);refine gb Tryz.func87 #[.bool a0_4] ?_
 with_reducible refine (lg.calls a0_4 t120 _ A5.out).mono ?_
 rintro e w' ⟨rfl,⟨nd,rfl⟩⟩
 refine ⟨_,rfl,?_⟩;refine hK.out _ _ ⟨bc BK110 0,bc BK110 1,bc BK110 2,bc BK110 3,bc BK110 4⟩ (fun hHeld=>?_);clear hK K;refine nm 14 ?_;refine AE (σ:=Value × Value) 3 (bA 19 65535) (fun s_=>[(15,s_.1),(18,s_.2)]) (fun s_ w'=>(w'.cell? ⟨gb110,0,none⟩=some (.string a0_0)∧w'.cell? ⟨gb110,1,none⟩=some (.string a0_1)∧w'.cell? ⟨gb110,2,none⟩=some (.int .i64 a0_2)∧w'.cell? ⟨gb110,3,none⟩=some (.string a0_3)∧w'.cell? ⟨gb110,4,none⟩=some (.bool a0_4))∧(Kd.R (Kd.int .u8) 5 w' w.heap.size (fun k_=>some k_≠(v115:Value).ownBlock∧some k_≠(v118:Value).ownBlock∧some k_≠(s_.1:Value).ownBlock∧some k_≠(s_.2:Value).ownBlock) v112 t111)∧(Kd.R (Kd.int .u8) 5 w' w.heap.size (fun k_=>some k_≠(v112:Value).ownBlock∧some k_≠(v118:Value).ownBlock∧some k_≠(s_.1:Value).ownBlock∧some k_≠(s_.2:Value).ownBlock) v115 t114)∧(Kd.R (Kd.int .u8) 5 w' w.heap.size (fun k_=>some k_≠(v112:Value).ownBlock∧some k_≠(v115:Value).ownBlock∧some k_≠(s_.1:Value).ownBlock∧some k_≠(s_.2:Value).ownBlock) v118 t117)∧(Kd.R (Kd.int .u8) 5 w' w.heap.size (fun k_=>some k_≠(v112:Value).ownBlock∧some k_≠(v115:Value).ownBlock∧some k_≠(v118:Value).ownBlock∧some k_≠(s_.2:Value).ownBlock) s_.1 y121)∧(Kd.R (Kd.int .u8) 5 w' w.heap.size (fun k_=>some k_≠(v112:Value).ownBlock∧some k_≠(v115:Value).ownBlock∧some k_≠(v118:Value).ownBlock∧some k_≠(s_.1:Value).ownBlock) s_.2 t124)∧(w'.heap[gb110]? = some (.cells #[.string a0_0,.string a0_1,.int .i64 a0_2,.string a0_3,.bool a0_4] 34 (0,0)))∧(Below w.heap.size w w')) ?_ ?_
 rotate_left
 ·
  intro hCont
  refine xD (i:=12) (j:=15) (Ni:=some 15) (Nj:=some 18) (bA 19 32767) (bA 19 61439) rfl rfl rfl rfl (sj HT_.out (by kernel_rfl)) (by decide) (by decide) (fun K hK=>?_) (fun K hK=>?_)
  ·
   skip
   refine Kd.lP (Kd.int .u8) _ 5 ?hg (N:=15) ?hd (xs:=([t120]:List Int)) (inner:=[.int .u8 t120]) (ok:=fun _=>True) (okp:=fun _=>True) ?hr ?hp (fun _ hk=>hk) trivial (Below.refl _ _) (Nat.le_refl _) (by simp) ?_;(case hd=>rfl);(case hg=>rfl);(case hr=>first | (go_simp;done) | (go_simp;rfl));(case hp=>exact (bP.one (show Kd.M (Kd.int .u8) _ _ _ t120 [.int .u8 t120] from rfl) (bP.none _ _)))
   intro v122 w13 ho14 hb hg_ hnew_
   clear hg_ hnew_
   (first | rw [←Ny121.out] at ho14 | (simp only [Int.reduceToNat] at ho14;rw [←Ny121.out] at ho14))
   have HO123:=aS (Kd.bn (Kd.cK (Kd.cK (Kd.cK ho14 (Kd.cP (rel HO113.out))) (Kd.cP (rel HO116.out))) (Kd.cP (rel HO119.out))) (aA aq));replace HO113:=aS (Kd.bY (rel HO113.out) (dm ho14) hb);replace HO116:=aS (Kd.bY (rel HO116.out) (dm ho14) hb);replace HO119:=aS (Kd.bY (rel HO119.out) (dm ho14) hb);replace BK110:=fp BK110 hb;replace HB:=aM hb;clear hb ho14;refine hK.out _ _ ⟨bc BK110 0,bc BK110 1,bc BK110 2,bc BK110 3,bc BK110 4⟩ (fun hHeld=>?_);clear hK K;refine nm 15 ?_;refine dH 15 (N:=some 18) (bA 19 65535) HT_ (fun K hK=>?_);refine gb Tryz.func85 #[.string a0_3] ?_
   with_reducible refine (er.calls a0_3 t124 _ A6.out).mono ?_
   rintro e w15 ⟨v125,rfl,ho0,hb⟩
   refine ⟨_,rfl,?_⟩;have HO126:=aS (Kd.bn (Kd.cK (Kd.cK (Kd.cK (Kd.cK ho0 (Kd.cP (rel HO113.out))) (Kd.cP (rel HO116.out))) (Kd.cP (rel HO119.out))) (Kd.cP (rel HO123.out))) (aA aq));replace HO113:=aS (Kd.bY (rel HO113.out) (dm ho0) hb);replace HO116:=aS (Kd.bY (rel HO116.out) (dm ho0) hb);replace HO119:=aS (Kd.bY (rel HO119.out) (dm ho0) hb);replace HO123:=aS (Kd.bY (rel HO123.out) (dm ho0) hb);replace BK110:=fp BK110 hb;replace HB:=aM hb;(try clear hb);(try clear hk);(try clear hi);(try clear ho0);refine hK.out _ _ ⟨bc BK110 0,bc BK110 1,bc BK110 2,bc BK110 3,bc BK110 4⟩ (fun hHeld=>?_);clear hK K;refine nm 18 ?_;exact kZ (by simp only [jT,Act.put,eI,eG,lss]) (hCont (v122,v125) _ ⟨hHeld,(by (with_reducible repeat (first | apply Kd.bB | apply Kd.bC | apply Kd.bD));exact Kd.aK HO113.out (fun _ hk=>⟨hk.1.1.1.2,⟨hk.1.1.2,⟨hk.1.2,hk.2⟩⟩⟩)),(by (with_reducible repeat (first | apply Kd.bB | apply Kd.bC | apply Kd.bD));exact Kd.aK HO116.out (fun _ hk=>⟨hk.1.1.1.2,⟨hk.1.1.2,⟨hk.1.2,hk.2⟩⟩⟩)),(by (with_reducible repeat (first | apply Kd.bB | apply Kd.bC | apply Kd.bD));exact Kd.aK HO119.out (fun _ hk=>⟨hk.1.1.1.2,⟨hk.1.1.2,⟨hk.1.2,hk.2⟩⟩⟩)),(by (with_reducible repeat (first | apply Kd.bB | apply Kd.bC | apply Kd.bD));exact Kd.aK HO123.out (fun _ hk=>⟨hk.1.1.1.2,⟨hk.1.1.2,⟨hk.1.2,hk.2⟩⟩⟩)),(by (with_reducible repeat (first | apply Kd.bB | apply Kd.bC | apply Kd.bD));exact Kd.aK HO126.out (fun _ hk=>⟨hk.1.1.1.2,⟨hk.1.1.2,⟨hk.1.2,hk.2⟩⟩⟩)),(eA BK110.out),aq⟩)
  ·
   skip
   refine gb Tryz.func85 #[.string a0_3] ?_
   with_reducible refine (er.calls a0_3 t124 _ A6.out).mono ?_
   rintro e w13 ⟨v125,rfl,ho0,hb⟩
   refine ⟨_,rfl,?_⟩;have HO126:=aS (Kd.bn (Kd.cK (Kd.cK (Kd.cK ho0 (Kd.cP (rel HO113.out))) (Kd.cP (rel HO116.out))) (Kd.cP (rel HO119.out))) (aA aq));replace HO113:=aS (Kd.bY (rel HO113.out) (dm ho0) hb);replace HO116:=aS (Kd.bY (rel HO116.out) (dm ho0) hb);replace HO119:=aS (Kd.bY (rel HO119.out) (dm ho0) hb);replace BK110:=fp BK110 hb;replace HB:=aM hb;(try clear hb);(try clear hk);(try clear hi);(try clear ho0);refine hK.out _ _ ⟨bc BK110 0,bc BK110 1,bc BK110 2,bc BK110 3,bc BK110 4⟩ (fun hHeld=>?_);clear hK K;refine nm 18 ?_;refine dH 12 (N:=some 15) (bA 19 65535) HT_ (fun K hK=>?_)
   refine Kd.lP (Kd.int .u8) _ 5 ?hg (N:=15) ?hd (xs:=([t120]:List Int)) (inner:=[.int .u8 t120]) (ok:=fun _=>True) (okp:=fun _=>True) ?hr ?hp (fun _ hk=>hk) trivial (Below.refl _ _) (Nat.le_refl _) (by simp) ?_;(case hd=>rfl);(case hg=>rfl);(case hr=>first | (go_simp;done) | (go_simp;rfl));(case hp=>exact (bP.one (show Kd.M (Kd.int .u8) _ _ _ t120 [.int .u8 t120] from rfl) (bP.none _ _)))
   intro v122 w14 ho15 hb hg_ hnew_
   clear hg_ hnew_
   (first | rw [←Ny121.out] at ho15 | (simp only [Int.reduceToNat] at ho15;rw [←Ny121.out] at ho15))
   have HO123:=aS (Kd.bn (Kd.cK (Kd.cK (Kd.cK (Kd.cK ho15 (Kd.cP (rel HO113.out))) (Kd.cP (rel HO116.out))) (Kd.cP (rel HO119.out))) (Kd.cP (rel HO126.out))) (aA aq));replace HO113:=aS (Kd.bY (rel HO113.out) (dm ho15) hb);replace HO116:=aS (Kd.bY (rel HO116.out) (dm ho15) hb);replace HO119:=aS (Kd.bY (rel HO119.out) (dm ho15) hb);replace HO126:=aS (Kd.bY (rel HO126.out) (dm ho15) hb);replace BK110:=fp BK110 hb;replace HB:=aM hb;clear hb ho15;refine hK.out _ _ ⟨bc BK110 0,bc BK110 1,bc BK110 2,bc BK110 3,bc BK110 4⟩ (fun hHeld=>?_);clear hK K;refine nm 15 ?_;exact kZ (by simp only [jT,Act.put,eI,eG,lss]) (hCont (v122,v125) _ ⟨hHeld,(by (with_reducible repeat (first | apply Kd.bB | apply Kd.bC | apply Kd.bD));exact Kd.aK HO113.out (fun _ hk=>⟨hk.1.1.1.2,⟨hk.1.1.2,⟨hk.2,hk.1.2⟩⟩⟩)),(by (with_reducible repeat (first | apply Kd.bB | apply Kd.bC | apply Kd.bD));exact Kd.aK HO116.out (fun _ hk=>⟨hk.1.1.1.2,⟨hk.1.1.2,⟨hk.2,hk.1.2⟩⟩⟩)),(by (with_reducible repeat (first | apply Kd.bB | apply Kd.bC | apply Kd.bD));exact Kd.aK HO119.out (fun _ hk=>⟨hk.1.1.1.2,⟨hk.1.1.2,⟨hk.2,hk.1.2⟩⟩⟩)),(by (with_reducible repeat (first | apply Kd.bB | apply Kd.bC | apply Kd.bD));exact Kd.aK HO123.out (fun _ hk=>⟨hk.1.1.1.2,⟨hk.1.1.2,⟨hk.1.2,hk.2⟩⟩⟩)),(by (with_reducible repeat (first | apply Kd.bB | apply Kd.bC | apply Kd.bD));exact Kd.aK HO126.out (fun _ hk=>⟨hk.1.1.1.2,⟨hk.1.1.2,⟨hk.1.2,hk.2⟩⟩⟩)),(eA BK110.out),aq⟩)
 rintro ⟨v122,v125⟩ w16 ⟨hS_,h0_,h1_,h2_,h3_,h4_,h5_,h6_⟩
 have n0_:ah (Kd.R (Kd.int .u8) 5 w16 w.heap.size (fun k_=>some k_≠(v115:Value).ownBlock∧some k_≠(v118:Value).ownBlock∧some k_≠(v122:Value).ownBlock∧some k_≠(v125:Value).ownBlock) v112 t111):=⟨h0_⟩;have n1_:ah (Kd.R (Kd.int .u8) 5 w16 w.heap.size (fun k_=>some k_≠(v112:Value).ownBlock∧some k_≠(v118:Value).ownBlock∧some k_≠(v122:Value).ownBlock∧some k_≠(v125:Value).ownBlock) v115 t114):=⟨h1_⟩;have n2_:ah (Kd.R (Kd.int .u8) 5 w16 w.heap.size (fun k_=>some k_≠(v112:Value).ownBlock∧some k_≠(v115:Value).ownBlock∧some k_≠(v122:Value).ownBlock∧some k_≠(v125:Value).ownBlock) v118 t117):=⟨h2_⟩;have n3_:ah (Kd.R (Kd.int .u8) 5 w16 w.heap.size (fun k_=>some k_≠(v112:Value).ownBlock∧some k_≠(v115:Value).ownBlock∧some k_≠(v118:Value).ownBlock∧some k_≠(v125:Value).ownBlock) v122 y121):=⟨h3_⟩;have n4_:ah (Kd.R (Kd.int .u8) 5 w16 w.heap.size (fun k_=>some k_≠(v112:Value).ownBlock∧some k_≠(v115:Value).ownBlock∧some k_≠(v118:Value).ownBlock∧some k_≠(v122:Value).ownBlock) v125 t124):=⟨h4_⟩;have n5_:ah (w16.heap[gb110]? = some (.cells #[.string a0_0,.string a0_1,.int .i64 a0_2,.string a0_3,.bool a0_4] 34 (0,0))):=⟨h5_⟩;have n6_:ah (Below w.heap.size w w16):=⟨h6_⟩;clear BK110;clear HB;clear h0_ h1_ h2_ h3_ h4_ h5_ h6_;have HO113:=n0_;have HO116:=n1_;have HO119:=n2_;have HO123:=n3_;have HO126:=n4_;have BK110:=n5_;have HB:=n6_;clear n0_ n1_ n2_ n3_ n4_ n5_ n6_;have hHeld:w16.cell? ⟨gb110,0,none⟩=some (.string a0_0)∧w16.cell? ⟨gb110,1,none⟩=some (.string a0_1)∧w16.cell? ⟨gb110,2,none⟩=some (.int .i64 a0_2)∧w16.cell? ⟨gb110,3,none⟩=some (.string a0_3)∧w16.cell? ⟨gb110,4,none⟩=some (.bool a0_4):=hS_;obtain ⟨Ao17,co17,eo17⟩:=Kd.bp HO113.out
 (first | subst eo17 | (injection eo17 with f1_ f2_ f3_;have f4_:=f1_.symm;have f5_:=f3_.symm;clear f1_ f2_ f3_;subst f4_;subst f5_))
 obtain ⟨Ao18,co18,eo18⟩:=Kd.bp HO116.out
 (first | subst eo18 | (injection eo18 with f1_ f2_ f3_;have f4_:=f1_.symm;have f5_:=f3_.symm;clear f1_ f2_ f3_;subst f4_;subst f5_))
 obtain ⟨Ao19,co19,eo19⟩:=Kd.bp HO119.out
 (first | subst eo19 | (injection eo19 with f1_ f2_ f3_;have f4_:=f1_.symm;have f5_:=f3_.symm;clear f1_ f2_ f3_;subst f4_;subst f5_))
 obtain ⟨Ao20,co20,eo20⟩:=Kd.bp HO123.out
 (first | subst eo20 | (injection eo20 with f1_ f2_ f3_;have f4_:=f1_.symm;have f5_:=f3_.symm;clear f1_ f2_ f3_;subst f4_;subst f5_))
 obtain ⟨Ao21,co21,eo21⟩:=Kd.bp HO126.out
 (first | subst eo21 | (injection eo21 with f1_ f2_ f3_;have f4_:=f1_.symm;have f5_:=f3_.symm;clear f1_ f2_ f3_;subst f4_;subst f5_))
 refine kZ (a':=?_) ?_ ?_
 rotate_left
 ·
  simp only [jT,Act.put,eI,eG,lss]
  rfl
 refine dH 16 (N:=some 19) (bA 19 131071) HT_ (fun K hK=>?_)
 refine Kd.uK (Kd.slice 5 (Kd.int .u8)) _ 51 ?hg (N':=19) ?hd (xs:=([t111,t114,t117,y121,t124]:List (List Int))) (inner:=[.slice Ao17 t111.length co17,.slice Ao18 t114.length co18,.slice Ao19 t117.length co19,.slice Ao20 y121.length co20,.slice Ao21 t124.length co21]) (ok:=(fun k_=>k_≠gb110)) (okp:=(fun k_=>k_≠gb110)) ?hr ?hp (fun _ hk=>hk) ((show ∀ k_,w16.heap.size≤k_→(fun k_=>k_≠gb110) k_ from fun k_ hk=>Kd.nU (g:=gb110) (o:=.cells #[.string a0_0,.string a0_1,.int .i64 a0_2,.string a0_3,.bool a0_4] 34 (0,0)) (eA BK110.out) k_ hk) _ (Nat.le_refl _)) (Below.refl _ _) (Nat.le_refl _) (by simp) ?_;(case hd=>rfl);(case hg=>rfl);(case hr=>first | (go_simp;done) | (go_simp;rfl));(case hp=>exact (bP.one (show Kd.FK (Kd.slice 5 (Kd.int .u8)) _ _ t111 [.slice Ao17 t111.length co17] from (Kd.eE (Kd.aY (Kd.aK (ok':=(fun k_=>k_≠gb110)) (Kd.gP (HO113.out) BK110.out (by decide)) (fun k_ hk=>hk.2))).2.1 (Kd.oq (Kd.aK (ok':=(fun k_=>k_≠gb110)) (Kd.gP (HO113.out) BK110.out (by decide)) (fun k_ hk=>hk.2))))) (bP.one (show Kd.FK (Kd.slice 5 (Kd.int .u8)) _ _ t114 [.slice Ao18 t114.length co18] from (Kd.eE (Kd.aY (Kd.aK (ok':=(fun k_=>k_≠gb110)) (Kd.gP (HO116.out) BK110.out (by decide)) (fun k_ hk=>hk.2))).2.1 (Kd.oq (Kd.aK (ok':=(fun k_=>k_≠gb110)) (Kd.gP (HO116.out) BK110.out (by decide)) (fun k_ hk=>hk.2))))) (bP.one (show Kd.FK (Kd.slice 5 (Kd.int .u8)) _ _ t117 [.slice Ao19 t117.length co19] from (Kd.eE (Kd.aY (Kd.aK (ok':=(fun k_=>k_≠gb110)) (Kd.gP (HO119.out) BK110.out (by decide)) (fun k_ hk=>hk.2))).2.1 (Kd.oq (Kd.aK (ok':=(fun k_=>k_≠gb110)) (Kd.gP (HO119.out) BK110.out (by decide)) (fun k_ hk=>hk.2))))) (bP.one (show Kd.FK (Kd.slice 5 (Kd.int .u8)) _ _ y121 [.slice Ao20 y121.length co20] from (Kd.eE (Kd.aY (Kd.aK (ok':=(fun k_=>k_≠gb110)) (Kd.gP (HO123.out) BK110.out (by decide)) (fun k_ hk=>hk.2))).2.1 (Kd.oq (Kd.aK (ok':=(fun k_=>k_≠gb110)) (Kd.gP (HO123.out) BK110.out (by decide)) (fun k_ hk=>hk.2))))) (bP.one (show Kd.FK (Kd.slice 5 (Kd.int .u8)) _ _ t124 [.slice Ao21 t124.length co21] from (Kd.eE (Kd.aY (Kd.aK (ok':=(fun k_=>k_≠gb110)) (Kd.gP (HO126.out) BK110.out (by decide)) (fun k_ hk=>hk.2))).2.1 (Kd.oq (Kd.aK (ok':=(fun k_=>k_≠gb110)) (Kd.gP (HO126.out) BK110.out (by decide)) (fun k_ hk=>hk.2))))) (bP.none _ _)))))))
 intro v128 w22 ho23 hb hg_ hnew_
 clear hg_ hnew_
 (first | rw [←Ny127.out] at ho23 | (simp only [Int.reduceToNat] at ho23;rw [←Ny127.out] at ho23))
 have n0_:=aS (Kd.qz ho23 (aA aq));have n1_:=fp BK110 hb;have n2_:=aM hb;clear BK110;clear HB;clear HO113;clear HO116;clear HO119;clear HO123;clear HO126;have HO129:=n0_;have BK110:=n1_;have HB:=n2_;clear n0_ n1_ n2_;clear hb ho23;obtain ⟨Ao24,co24,eo24⟩:=Kd.qq HO129.out
 (first | subst eo24 | (injection eo24 with f1_ f2_ f3_;have f4_:=f1_.symm;have f5_:=f3_.symm;clear f1_ f2_ f3_;subst f4_;subst f5_))
 refine hK.out _ _ ⟨bc BK110 0,bc BK110 1,bc BK110 2,bc BK110 3,bc BK110 4⟩ (fun hHeld=>?_);clear hK K;refine nm 19 ?_;refine dH 17 (N:=some 20) (bA 19 262143) HT_ (fun K hK=>?_);refine gb Tryz.func84 #[.slice Ao24 y127.length co24] ?_
 with_reducible refine (bX.calls _ _ y127 t130 _ ?side1 ?side2 A7.out).mono ?_
 (case side1=>exact eH ((Kd.j3 HO129.out).2.2))
 (case side2=>exact (Kd.j3 HO129.out).2.1)
 rintro e w25 ⟨v131,rfl,ho0,hb⟩
 refine ⟨_,rfl,?_⟩;replace HO129:=aS (Kd.pG (by (with_reducible repeat (first | apply Kd.oR | apply Kd.oV | apply Kd.qv));exact HO129.out) (dm ho0) hb);have HO132:=aS (Kd.bn ho0 (aA aq));replace BK110:=fp BK110 hb;replace HB:=aM hb;(try clear hb);(try clear hk);(try clear hi);(try clear ho0);refine hK.out _ _ ⟨bc BK110 0,bc BK110 1,bc BK110 2,bc BK110 3,bc BK110 4⟩ (fun hHeld=>?_);clear hK K;refine nm 20 ?_;refine wj 18 2 (bA 19 524287) HT_ ?_
 refine fX HT_ ?_
 try go_wp2
 go_ret
 exact ⟨_,dP,by (with_reducible repeat (first | apply Kd.bB | apply Kd.bC | apply Kd.bD));exact HO132.out,aq⟩
def eM.f (a0:ByteArray):Option (Bool):=if (a0.size:Int)≥1 then (some (decide ((a0.size:Int)≤64))) else (some false)
theorem eM.calls (a0:ByteArray) (r:Bool) (w:World) (h:eM.f a0=some r) :
  Calls Tryz.prog 44 #[.string a0] w fun e w'=>e = .returned (.bool r)∧eJ w w':=by
 have H:(if (a0.size:Int)≥1 then (some (decide ((a0.size:Int)≤64))) else (some false))=some r:=h;clear h
 by_cases c2:(a0.size:Int)≥1
 ·
  rw [if_pos c2] at H;have c2b0:decide (1≤(a0.size:Int))=true:=decide_eq_true c2;have c2b1:decide (1≤a0.size)=true:=decide_eq_true (by omega);clear c2
  obtain rfl:=Option.some.inj H
  go_enter Tryz.func44,Tryz.ntmps44
  go_wp2
  go_ret
  exact ⟨cG,fO⟩
 ·
  rw [if_neg c2] at H;have c2b0:decide (1≤(a0.size:Int))=false:=decide_eq_false c2;have c2b1:decide (1≤a0.size)=false:=decide_eq_false (by omega);clear c2
  obtain rfl:=Option.some.inj H
  go_enter Tryz.func44,Tryz.ntmps44
  go_wp2
  go_ret
  exact ⟨cG,fO⟩
def eL.f (a0_0:ByteArray) (a0_1:ByteArray) (a0_2:Int) (a0_3:ByteArray) (a0_4:Bool):Option (Bool):=(eM.f a0_0).bind fun t134=>(if t134=true then ((eM.f a0_1).bind fun t135=>(if t135=true then (if a0_2≥0 then (if a0_2≤4294967295 then (if (a0_3.size:Int)≤256 then (if a0_4=true then (some (a0_3.toList == ([]:List UInt8))) else (some true)) else (some false)) else (some false)) else (some false)) else (some false))) else (some false))
theorem eL.calls (a0_0:ByteArray) (a0_1:ByteArray) (a0_2:Int) (a0_3:ByteArray) (a0_4:Bool) (r:Bool) (w:World) (h:eL.f a0_0 a0_1 a0_2 a0_3 a0_4=some r) :
  Calls Tryz.prog 27 #[.agg #[.string a0_0,.string a0_1,.int .i64 a0_2,.string a0_3,.bool a0_4]] w fun e w'=>e = .returned (.bool r)∧Below w.heap.size w w':=by
 have hu34:=Tryz.underlying34;have HB:=aS (Below.refl w.heap.size w);have H:((eM.f a0_0).bind fun t134=>(if t134=true then ((eM.f a0_1).bind fun t135=>(if t135=true then (if a0_2≥0 then (if a0_2≤4294967295 then (if (a0_3.size:Int)≤256 then (if a0_4=true then (some (a0_3.toList == ([]:List UInt8))) else (some true)) else (some false)) else (some false)) else (some false)) else (some false))) else (some false)))=some r:=h;clear h;replace H:=bU H;obtain ⟨t134,A20,H⟩:=H;have A2:=aS A20;clear A20
 by_cases c3:t134=true
 ·
  subst c3
  replace H:=jy H;replace H:=bU H;obtain ⟨t135,A40,H⟩:=H;have A4:=aS A40;clear A40
  by_cases c5:t135=true
  ·
   subst c5
   replace H:=jy H
   by_cases c6:a0_2≥0
   ·
    rw [if_pos c6] at H;have c6b0:decide (0≤a0_2)=true:=decide_eq_true c6;clear c6
    by_cases c7:a0_2≤4294967295
    ·
     rw [if_pos c7] at H;have c7b0:decide (a0_2≤4294967295)=true:=decide_eq_true c7;clear c7
     by_cases c8:(a0_3.size:Int)≤256
     ·
      rw [if_pos c8] at H;have c8b0:decide ((a0_3.size:Int)≤256)=true:=decide_eq_true c8;have c8b1:decide (a0_3.size≤256)=true:=decide_eq_true (by omega);clear c8
      by_cases c9:a0_4=true
      ·
       subst c9
       replace H:=jy H
       obtain rfl:=Option.some.inj H
       go_enter Tryz.func27,Tryz.ntmps27
       go_wp2_with (first | ((with_reducible refine gD 1 ?_);(try (refine ez (by rfl) ?_;dsimp only));refine dK 1 #[.string a0_0,.string a0_1,.int .i64 a0_2,.string a0_3,.bool true] 34 ?_;intro gb133 hg w10 hbox hb;have BK133:=aS (hbox);have GW133:=bsize hg;have GE133:=bsize hg;replace HB:=aM hb;clear hb hbox hg;have hcz11:=cO BK133) | ((with_reducible refine gC 44 ?_);refine dn 5 Tryz.func44 #[.string a0_0] ?_;(with_reducible refine (eM.calls a0_0 true _ A2.out).mono ?_);rintro e w' ⟨rfl,⟨nd,rfl⟩⟩;refine ⟨_,rfl,?_⟩) | (go_at_call 44;(with_reducible refine (eM.calls a0_1 true _ A4.out).mono ?_);rintro e w' ⟨rfl,⟨nd,rfl⟩⟩))
       go_ret
       exact ⟨dP,aq⟩
      ·
       replace c9:=Bool.eq_false_iff.mpr c9;subst c9
       replace H:=jw H
       obtain rfl:=Option.some.inj H
       go_enter Tryz.func27,Tryz.ntmps27
       go_wp2_with (first | ((with_reducible refine gD 1 ?_);(try (refine ez (by rfl) ?_;dsimp only));refine dK 1 #[.string a0_0,.string a0_1,.int .i64 a0_2,.string a0_3,.bool false] 34 ?_;intro gb133 hg w12 hbox hb;have BK133:=aS (hbox);have GW133:=bsize hg;have GE133:=bsize hg;replace HB:=aM hb;clear hb hbox hg;have hcz13:=cO BK133) | ((with_reducible refine gC 44 ?_);refine dn 5 Tryz.func44 #[.string a0_0] ?_;(with_reducible refine (eM.calls a0_0 true _ A2.out).mono ?_);rintro e w' ⟨rfl,⟨nd,rfl⟩⟩;refine ⟨_,rfl,?_⟩) | (go_at_call 44;(with_reducible refine (eM.calls a0_1 true _ A4.out).mono ?_);rintro e w' ⟨rfl,⟨nd,rfl⟩⟩))
       go_ret
       exact ⟨dP,aq⟩
     ·
      rw [if_neg c8] at H;have c8b0:decide ((a0_3.size:Int)≤256)=false:=decide_eq_false c8;have c8b1:decide (a0_3.size≤256)=false:=decide_eq_false (by omega);clear c8
      obtain rfl:=Option.some.inj H
      go_enter Tryz.func27,Tryz.ntmps27
      go_wp2_with (first | ((with_reducible refine gD 1 ?_);(try (refine ez (by rfl) ?_;dsimp only));refine dK 1 #[.string a0_0,.string a0_1,.int .i64 a0_2,.string a0_3,.bool a0_4] 34 ?_;intro gb133 hg w14 hbox hb;have BK133:=aS (hbox);have GW133:=bsize hg;have GE133:=bsize hg;replace HB:=aM hb;clear hb hbox hg;have hcz15:=cO BK133) | ((with_reducible refine gC 44 ?_);refine dn 5 Tryz.func44 #[.string a0_0] ?_;(with_reducible refine (eM.calls a0_0 true _ A2.out).mono ?_);rintro e w' ⟨rfl,⟨nd,rfl⟩⟩;refine ⟨_,rfl,?_⟩) | (go_at_call 44;(with_reducible refine (eM.calls a0_1 true _ A4.out).mono ?_);rintro e w' ⟨rfl,⟨nd,rfl⟩⟩))
      go_ret
      exact ⟨dP,aq⟩
    ·
     rw [if_neg c7] at H;have c7b0:decide (a0_2≤4294967295)=false:=decide_eq_false c7;clear c7
     obtain rfl:=Option.some.inj H
     go_enter Tryz.func27,Tryz.ntmps27
     go_wp2_with (first | ((with_reducible refine gD 1 ?_);(try (refine ez (by rfl) ?_;dsimp only));refine dK 1 #[.string a0_0,.string a0_1,.int .i64 a0_2,.string a0_3,.bool a0_4] 34 ?_;intro gb133 hg w16 hbox hb;have BK133:=aS (hbox);have GW133:=bsize hg;have GE133:=bsize hg;replace HB:=aM hb;clear hb hbox hg;have hcz17:=cO BK133) | ((with_reducible refine gC 44 ?_);refine dn 5 Tryz.func44 #[.string a0_0] ?_;(with_reducible refine (eM.calls a0_0 true _ A2.out).mono ?_);rintro e w' ⟨rfl,⟨nd,rfl⟩⟩;refine ⟨_,rfl,?_⟩) | (go_at_call 44;(with_reducible refine (eM.calls a0_1 true _ A4.out).mono ?_);rintro e w' ⟨rfl,⟨nd,rfl⟩⟩))
     go_ret
     exact ⟨dP,aq⟩
   ·
    rw [if_neg c6] at H;have c6b0:decide (0≤a0_2)=false:=decide_eq_false c6;clear c6
    obtain rfl:=Option.some.inj H
    go_enter Tryz.func27,Tryz.ntmps27
    go_wp2_with (first | ((with_reducible refine gD 1 ?_);(try (refine ez (by rfl) ?_;dsimp only));refine dK 1 #[.string a0_0,.string a0_1,.int .i64 a0_2,.string a0_3,.bool a0_4] 34 ?_;intro gb133 hg w18 hbox hb;have BK133:=aS (hbox);have GW133:=bsize hg;have GE133:=bsize hg;replace HB:=aM hb;clear hb hbox hg;have hcz19:=cO BK133) | ((with_reducible refine gC 44 ?_);refine dn 5 Tryz.func44 #[.string a0_0] ?_;(with_reducible refine (eM.calls a0_0 true _ A2.out).mono ?_);rintro e w' ⟨rfl,⟨nd,rfl⟩⟩;refine ⟨_,rfl,?_⟩) | (go_at_call 44;(with_reducible refine (eM.calls a0_1 true _ A4.out).mono ?_);rintro e w' ⟨rfl,⟨nd,rfl⟩⟩))
    go_ret
    exact ⟨dP,aq⟩
  ·
   replace c5:=Bool.eq_false_iff.mpr c5;subst c5
   replace H:=jw H
   obtain rfl:=Option.some.inj H
   go_enter Tryz.func27,Tryz.ntmps27
   go_wp2_with (first | ((with_reducible refine gD 1 ?_);(try (refine ez (by rfl) ?_;dsimp only));refine dK 1 #[.string a0_0,.string a0_1,.int .i64 a0_2,.string a0_3,.bool a0_4] 34 ?_;intro gb133 hg w20 hbox hb;have BK133:=aS (hbox);have GW133:=bsize hg;have GE133:=bsize hg;replace HB:=aM hb;clear hb hbox hg;have hcz21:=cO BK133) | ((with_reducible refine gC 44 ?_);refine dn 5 Tryz.func44 #[.string a0_0] ?_;(with_reducible refine (eM.calls a0_0 true _ A2.out).mono ?_);rintro e w' ⟨rfl,⟨nd,rfl⟩⟩;refine ⟨_,rfl,?_⟩) | (go_at_call 44;(with_reducible refine (eM.calls a0_1 false _ A4.out).mono ?_);rintro e w' ⟨rfl,⟨nd,rfl⟩⟩))
   go_ret
   exact ⟨dP,aq⟩
 ·
  replace c3:=Bool.eq_false_iff.mpr c3;subst c3
  replace H:=jw H
  obtain rfl:=Option.some.inj H
  go_enter Tryz.func27,Tryz.ntmps27
  go_wp2_with (first | ((with_reducible refine gD 1 ?_);(try (refine ez (by rfl) ?_;dsimp only));refine dK 1 #[.string a0_0,.string a0_1,.int .i64 a0_2,.string a0_3,.bool a0_4] 34 ?_;intro gb133 hg w22 hbox hb;have BK133:=aS (hbox);have GW133:=bsize hg;have GE133:=bsize hg;replace HB:=aM hb;clear hb hbox hg;have hcz23:=cO BK133) | ((with_reducible refine gC 44 ?_);refine dn 5 Tryz.func44 #[.string a0_0] ?_;(with_reducible refine (eM.calls a0_0 false _ A2.out).mono ?_);rintro e w' ⟨rfl,⟨nd,rfl⟩⟩;refine ⟨_,rfl,?_⟩))
  go_ret
  exact ⟨dP,aq⟩
def cr.l0:Nat→Int→List Int→Int→Int→Option (Int)
 | 0,_,_,_,_=>none
 | k+1,x3,x6,x7,x8=>if x8<x7 then (if 0≤x8 then (if x8<(x6.length:Int) then (if (rd x6 x8)=x3 then (cr.l0 k x3 x6 x7 (wrap64 (x8+1))) else (some (rd x6 x8))) else (none)) else (none)) else (some x3)
def cr.f (k:Nat) (l0:List Int):Option (Int):=cr.l0 k 0 l0 (l0.length:Int) 0
theorem cr.cF:∀ k,(∀ y0 y1 y2 y3,aH (cr.l0 k y0 y1 y2 y3) (cr.l0 (k+1) y0 y1 y2 y3))
 | 0=>fun _ _ _ _ r h=>by simp [cr.l0] at h
 | k+1=>by
  have ih0:=cr.cF k
  ·
   intro y0 y1 y2 y3
   unfold cr.l0
   exact eF
theorem cr.mono:∀ a0 k,aH (cr.f k a0) (cr.f (k+1) a0):=by
 intro a0 k
 have ih0:=cr.cF k
 unfold cr.f
 exact eF
theorem cr.calls (k:Nat) (A0:Option Addr) (c0:Nat) (l0:List Int) (r:Int) (w:World) (hr0:Kd.C (Kd.int .i64) w A0 l0.length l0) (hc0:l0.length≤c0) (h:cr.f k l0=some r) :
  Calls Tryz.prog 62 #[.slice A0 l0.length c0] w fun e w'=>e = .returned (.int .i64 r)∧eJ w w':=by
 have HR0:=aS hr0;have HC0:=aS hc0;clear hr0 hc0;have H:(cr.l0 k 0 l0 (l0.length:Int) 0)=some r:=h;clear h
 have H':=aS H
 clear H
 go_enter Tryz.func62,Tryz.ntmps62
 go_wp2
 go_loopg [8] k (fun kq v8 w'=>∃ (x8_1:Int),v8 = .int .i64 x8_1∧ah (cr.l0 kq 0 l0 (l0.length:Int) x8_1=some r)∧ah (kq≤k)∧eJ w w')
 case atStart=>exact ⟨(0),cG,H',⟨Nat.le_refl _⟩,fO⟩
 case round=>
  clear H';obtain ⟨x8_1,rfl,HA,HK1,⟨m1,rfl⟩⟩:=hrel
  cases gk with
  | zero=>exact absurd HA.out (by simp [cr.l0])
  | succ k1=>
   have H:=HA.out;clear HA
   simp only [cr.l0] at H
   by_cases c2:x8_1<(l0.length:Int)
   ·
    rw [if_pos c2] at H;have c2b0:decide (x8_1<(l0.length:Int))=true:=decide_eq_true c2;clear c2
    by_cases c3:0≤x8_1
    ·
     rw [if_pos c3] at H;have c3b0:decide (0≤x8_1)=true:=decide_eq_true c3;clear c3
     by_cases c4:x8_1<(l0.length:Int)
     ·
      rw [if_pos c4] at H;have c4b0:decide (x8_1<(l0.length:Int))=true:=decide_eq_true c4;clear c4
      by_cases c5:(rd l0 x8_1)=0
      ·
       rw [if_pos c5] at H;obtain ⟨c5b0,c5b1⟩:=jh c5;clear c5
       have H':=aS H
       clear H;have p136:0≤(x8_1:Int):=bJ;have q136:x8_1<(l0.length:Int):=bJ;obtain ⟨ad136,e136,hx136_0⟩:=Kd.iZ HR0.out x8_1 p136 q136;cases e136;replace p136:=eq_true p136;replace q136:=eq_true q136
       go_wp2
       go_roundg k1
       case measure=>have:=HK1.out;omega
       case rel=>exact ⟨(wrap64 (x8_1+1)),cG,H',⟨by have:=HK1.out;omega⟩,fO⟩
      ·
       rw [if_neg c5] at H;obtain ⟨c5b0,c5b1⟩:=iT c5
       obtain rfl:=Option.some.inj H
       have p136:0≤(x8_1:Int):=bJ;have q136:x8_1<(l0.length:Int):=bJ;obtain ⟨ad136,e136,hx136_0⟩:=Kd.iZ HR0.out x8_1 p136 q136;cases e136;replace p136:=eq_true p136;replace q136:=eq_true q136
       go_wp2
       go_ret
       exact ⟨cG,fO⟩
     ·
      rw [if_neg c4] at H;exact absurd H (by simp)
    ·
     rw [if_neg c3] at H;exact absurd H (by simp)
   ·
    rw [if_neg c2] at H;have c2b0:decide (x8_1<(l0.length:Int))=false:=decide_eq_false c2;clear c2
    obtain rfl:=Option.some.inj H
    go_wp2
    go_ret
    exact ⟨cG,fO⟩
def dz.f (a0:ByteArray):Option (Bool):=some (a0.toList != a0.toList)
theorem dz.calls (a0:ByteArray) (r:Bool) (w:World) (h:dz.f a0=some r) :
  Calls Tryz.prog 82 #[.string a0] w fun e w'=>e = .returned (.bool r)∧eJ w w':=by
 have H:(some (a0.toList != a0.toList))=some r:=h;clear h
 obtain rfl:=Option.some.inj H
 go_enter Tryz.func82,Tryz.ntmps82
 go_wp2
 go_ret
 exact ⟨cG,fO⟩
def eR.f (a0:ByteArray) (a1:ByteArray):Option (Int):=(dz.f a0).bind fun t137=>((dz.f a1).bind fun t138=>(if t137=true then (if t138=true then (some 0) else (some (-1))) else (if t138=true then (some 1) else (if (Op.bytesLess a0.toList a1.toList)=true then (some (-1)) else (if (Op.bytesLess a1.toList a0.toList)=true then (some 1) else (some 0))))))
theorem eR.calls (a0:ByteArray) (a1:ByteArray) (r:Int) (w:World) (h:eR.f a0 a1=some r) :
  Calls Tryz.prog 63 #[.string a0,.string a1] w fun e w'=>e = .returned (.int .i64 r)∧eJ w w':=by
 have H:((dz.f a0).bind fun t137=>((dz.f a1).bind fun t138=>(if t137=true then (if t138=true then (some 0) else (some (-1))) else (if t138=true then (some 1) else (if (Op.bytesLess a0.toList a1.toList)=true then (some (-1)) else (if (Op.bytesLess a1.toList a0.toList)=true then (some 1) else (some 0)))))))=some r:=h;clear h;replace H:=bU H;obtain ⟨t137,A30,H⟩:=H;have A3:=aS A30;clear A30;replace H:=bU H;obtain ⟨t138,A40,H⟩:=H;have A4:=aS A40;clear A40
 by_cases c5:t137=true
 ·
  subst c5
  replace H:=jy H
  by_cases c6:t138=true
  ·
   subst c6
   replace H:=jy H
   obtain rfl:=Option.some.inj H
   go_enter Tryz.func63,Tryz.ntmps63
   go_wp2_with (first | ((with_reducible refine gC 82 ?_);refine dn 8 Tryz.func82 #[.string a0] ?_;(with_reducible refine (dz.calls a0 true _ A3.out).mono ?_);rintro e w' ⟨rfl,⟨nd,rfl⟩⟩;refine ⟨_,rfl,?_⟩) | ((with_reducible refine gC 82 ?_);refine dn 10 Tryz.func82 #[.string a1] ?_;(with_reducible refine (dz.calls a1 true _ A4.out).mono ?_);rintro e w' ⟨rfl,⟨nd,rfl⟩⟩;refine ⟨_,rfl,?_⟩))
   go_ret
   exact ⟨cG,fO⟩
  ·
   replace c6:=Bool.eq_false_iff.mpr c6;subst c6
   replace H:=jw H
   obtain rfl:=Option.some.inj H
   go_enter Tryz.func63,Tryz.ntmps63
   go_wp2_with (first | ((with_reducible refine gC 82 ?_);refine dn 8 Tryz.func82 #[.string a0] ?_;(with_reducible refine (dz.calls a0 true _ A3.out).mono ?_);rintro e w' ⟨rfl,⟨nd,rfl⟩⟩;refine ⟨_,rfl,?_⟩) | ((with_reducible refine gC 82 ?_);refine dn 10 Tryz.func82 #[.string a1] ?_;(with_reducible refine (dz.calls a1 false _ A4.out).mono ?_);rintro e w' ⟨rfl,⟨nd,rfl⟩⟩;refine ⟨_,rfl,?_⟩))
   go_ret
   exact ⟨cG,fO⟩
 ·
  replace c5:=Bool.eq_false_iff.mpr c5;subst c5
  replace H:=jw H
  by_cases c7:t138=true
  ·
   subst c7
   replace H:=jy H
   obtain rfl:=Option.some.inj H
   go_enter Tryz.func63,Tryz.ntmps63
   go_wp2_with (first | ((with_reducible refine gC 82 ?_);refine dn 8 Tryz.func82 #[.string a0] ?_;(with_reducible refine (dz.calls a0 false _ A3.out).mono ?_);rintro e w' ⟨rfl,⟨nd,rfl⟩⟩;refine ⟨_,rfl,?_⟩) | ((with_reducible refine gC 82 ?_);refine dn 10 Tryz.func82 #[.string a1] ?_;(with_reducible refine (dz.calls a1 true _ A4.out).mono ?_);rintro e w' ⟨rfl,⟨nd,rfl⟩⟩;refine ⟨_,rfl,?_⟩))
   go_ret
   exact ⟨cG,fO⟩
  ·
   replace c7:=Bool.eq_false_iff.mpr c7;subst c7
   replace H:=jw H
   by_cases c8:(Op.bytesLess a0.toList a1.toList)=true
   ·
    rw [if_pos c8] at H;have c8b0:(Op.bytesLess a0.toList a1.toList)=true:=c8;clear c8
    obtain rfl:=Option.some.inj H
    go_enter Tryz.func63,Tryz.ntmps63
    go_wp2_with (first | ((with_reducible refine gC 82 ?_);refine dn 8 Tryz.func82 #[.string a0] ?_;(with_reducible refine (dz.calls a0 false _ A3.out).mono ?_);rintro e w' ⟨rfl,⟨nd,rfl⟩⟩;refine ⟨_,rfl,?_⟩) | ((with_reducible refine gC 82 ?_);refine dn 10 Tryz.func82 #[.string a1] ?_;(with_reducible refine (dz.calls a1 false _ A4.out).mono ?_);rintro e w' ⟨rfl,⟨nd,rfl⟩⟩;refine ⟨_,rfl,?_⟩))
    go_ret
    exact ⟨cG,fO⟩
   ·
    rw [if_neg c8] at H
    have c8b0:(Op.bytesLess a0.toList a1.toList)=false:=by simpa using c8
    clear c8
    by_cases c9:(Op.bytesLess a1.toList a0.toList)=true
    ·
     rw [if_pos c9] at H;have c9b0:(Op.bytesLess a1.toList a0.toList)=true:=c9;clear c9
     obtain rfl:=Option.some.inj H
     go_enter Tryz.func63,Tryz.ntmps63
     go_wp2_with (first | ((with_reducible refine gC 82 ?_);refine dn 8 Tryz.func82 #[.string a0] ?_;(with_reducible refine (dz.calls a0 false _ A3.out).mono ?_);rintro e w' ⟨rfl,⟨nd,rfl⟩⟩;refine ⟨_,rfl,?_⟩) | ((with_reducible refine gC 82 ?_);refine dn 10 Tryz.func82 #[.string a1] ?_;(with_reducible refine (dz.calls a1 false _ A4.out).mono ?_);rintro e w' ⟨rfl,⟨nd,rfl⟩⟩;refine ⟨_,rfl,?_⟩))
     go_ret
     exact ⟨cG,fO⟩
    ·
     rw [if_neg c9] at H
     have c9b0:(Op.bytesLess a1.toList a0.toList)=false:=by simpa using c9
     clear c9
     obtain rfl:=Option.some.inj H
     go_enter Tryz.func63,Tryz.ntmps63
     go_wp2_with (first | ((with_reducible refine gC 82 ?_);refine dn 8 Tryz.func82 #[.string a0] ?_;(with_reducible refine (dz.calls a0 false _ A3.out).mono ?_);rintro e w' ⟨rfl,⟨nd,rfl⟩⟩;refine ⟨_,rfl,?_⟩) | ((with_reducible refine gC 82 ?_);refine dn 10 Tryz.func82 #[.string a1] ?_;(with_reducible refine (dz.calls a1 false _ A4.out).mono ?_);rintro e w' ⟨rfl,⟨nd,rfl⟩⟩;refine ⟨_,rfl,?_⟩))
     go_ret
     exact ⟨cG,fO⟩
def dU.f (a0:Int):Option (Bool):=some (a0 != a0)
theorem dU.calls (a0:Int) (r:Bool) (w:World) (h:dU.f a0=some r) :
  Calls Tryz.prog 83 #[.int .i64 a0] w fun e w'=>e = .returned (.bool r)∧eJ w w':=by
 have H:(some (a0 != a0))=some r:=h;clear h
 obtain rfl:=Option.some.inj H
 go_enter Tryz.func83,Tryz.ntmps83
 go_wp2
 go_ret
 exact ⟨cG,fO⟩
def fI.f (a0:Int) (a1:Int):Option (Int):=(dU.f a0).bind fun t139=>((dU.f a1).bind fun t140=>(if t139=true then (if t140=true then (some 0) else (some (-1))) else (if t140=true then (some 1) else (if a0<a1 then (some (-1)) else (if a0 > a1 then (some 1) else (some 0))))))
theorem fI.calls (a0:Int) (a1:Int) (r:Int) (w:World) (h:fI.f a0 a1=some r) :
  Calls Tryz.prog 64 #[.int .i64 a0,.int .i64 a1] w fun e w'=>e = .returned (.int .i64 r)∧eJ w w':=by
 have H:((dU.f a0).bind fun t139=>((dU.f a1).bind fun t140=>(if t139=true then (if t140=true then (some 0) else (some (-1))) else (if t140=true then (some 1) else (if a0<a1 then (some (-1)) else (if a0 > a1 then (some 1) else (some 0)))))))=some r:=h;clear h;replace H:=bU H;obtain ⟨t139,A30,H⟩:=H;have A3:=aS A30;clear A30;replace H:=bU H;obtain ⟨t140,A40,H⟩:=H;have A4:=aS A40;clear A40
 by_cases c5:t139=true
 ·
  subst c5
  replace H:=jy H
  by_cases c6:t140=true
  ·
   subst c6
   replace H:=jy H
   obtain rfl:=Option.some.inj H
   go_enter Tryz.func64,Tryz.ntmps64
   go_wp2_with (first | ((with_reducible refine gC 83 ?_);refine dn 8 Tryz.func83 #[.int .i64 a0] ?_;(with_reducible refine (dU.calls a0 true _ A3.out).mono ?_);rintro e w' ⟨rfl,⟨nd,rfl⟩⟩;refine ⟨_,rfl,?_⟩) | ((with_reducible refine gC 83 ?_);refine dn 10 Tryz.func83 #[.int .i64 a1] ?_;(with_reducible refine (dU.calls a1 true _ A4.out).mono ?_);rintro e w' ⟨rfl,⟨nd,rfl⟩⟩;refine ⟨_,rfl,?_⟩))
   go_ret
   exact ⟨cG,fO⟩
  ·
   replace c6:=Bool.eq_false_iff.mpr c6;subst c6
   replace H:=jw H
   obtain rfl:=Option.some.inj H
   go_enter Tryz.func64,Tryz.ntmps64
   go_wp2_with (first | ((with_reducible refine gC 83 ?_);refine dn 8 Tryz.func83 #[.int .i64 a0] ?_;(with_reducible refine (dU.calls a0 true _ A3.out).mono ?_);rintro e w' ⟨rfl,⟨nd,rfl⟩⟩;refine ⟨_,rfl,?_⟩) | ((with_reducible refine gC 83 ?_);refine dn 10 Tryz.func83 #[.int .i64 a1] ?_;(with_reducible refine (dU.calls a1 false _ A4.out).mono ?_);rintro e w' ⟨rfl,⟨nd,rfl⟩⟩;refine ⟨_,rfl,?_⟩))
   go_ret
   exact ⟨cG,fO⟩
 ·
  replace c5:=Bool.eq_false_iff.mpr c5;subst c5
  replace H:=jw H
  by_cases c7:t140=true
  ·
   subst c7
   replace H:=jy H
   obtain rfl:=Option.some.inj H
   go_enter Tryz.func64,Tryz.ntmps64
   go_wp2_with (first | ((with_reducible refine gC 83 ?_);refine dn 8 Tryz.func83 #[.int .i64 a0] ?_;(with_reducible refine (dU.calls a0 false _ A3.out).mono ?_);rintro e w' ⟨rfl,⟨nd,rfl⟩⟩;refine ⟨_,rfl,?_⟩) | ((with_reducible refine gC 83 ?_);refine dn 10 Tryz.func83 #[.int .i64 a1] ?_;(with_reducible refine (dU.calls a1 true _ A4.out).mono ?_);rintro e w' ⟨rfl,⟨nd,rfl⟩⟩;refine ⟨_,rfl,?_⟩))
   go_ret
   exact ⟨cG,fO⟩
  ·
   replace c7:=Bool.eq_false_iff.mpr c7;subst c7
   replace H:=jw H
   by_cases c8:a0<a1
   ·
    rw [if_pos c8] at H;have c8b0:decide (a0<a1)=true:=decide_eq_true c8;clear c8
    obtain rfl:=Option.some.inj H
    go_enter Tryz.func64,Tryz.ntmps64
    go_wp2_with (first | ((with_reducible refine gC 83 ?_);refine dn 8 Tryz.func83 #[.int .i64 a0] ?_;(with_reducible refine (dU.calls a0 false _ A3.out).mono ?_);rintro e w' ⟨rfl,⟨nd,rfl⟩⟩;refine ⟨_,rfl,?_⟩) | ((with_reducible refine gC 83 ?_);refine dn 10 Tryz.func83 #[.int .i64 a1] ?_;(with_reducible refine (dU.calls a1 false _ A4.out).mono ?_);rintro e w' ⟨rfl,⟨nd,rfl⟩⟩;refine ⟨_,rfl,?_⟩))
    go_ret
    exact ⟨cG,fO⟩
   ·
    rw [if_neg c8] at H;have c8b0:decide (a0<a1)=false:=decide_eq_false c8;clear c8
    by_cases c9:a0 > a1
    ·
     rw [if_pos c9] at H;have c9b0:decide (a1<a0)=true:=decide_eq_true c9;clear c9
     obtain rfl:=Option.some.inj H
     go_enter Tryz.func64,Tryz.ntmps64
     go_wp2_with (first | ((with_reducible refine gC 83 ?_);refine dn 8 Tryz.func83 #[.int .i64 a0] ?_;(with_reducible refine (dU.calls a0 false _ A3.out).mono ?_);rintro e w' ⟨rfl,⟨nd,rfl⟩⟩;refine ⟨_,rfl,?_⟩) | ((with_reducible refine gC 83 ?_);refine dn 10 Tryz.func83 #[.int .i64 a1] ?_;(with_reducible refine (dU.calls a1 false _ A4.out).mono ?_);rintro e w' ⟨rfl,⟨nd,rfl⟩⟩;refine ⟨_,rfl,?_⟩))
     go_ret
     exact ⟨cG,fO⟩
    ·
     rw [if_neg c9] at H;have c9b0:decide (a1<a0)=false:=decide_eq_false c9;clear c9
     obtain rfl:=Option.some.inj H
     go_enter Tryz.func64,Tryz.ntmps64
     go_wp2_with (first | ((with_reducible refine gC 83 ?_);refine dn 8 Tryz.func83 #[.int .i64 a0] ?_;(with_reducible refine (dU.calls a0 false _ A3.out).mono ?_);rintro e w' ⟨rfl,⟨nd,rfl⟩⟩;refine ⟨_,rfl,?_⟩) | ((with_reducible refine gC 83 ?_);refine dn 10 Tryz.func83 #[.int .i64 a1] ?_;(with_reducible refine (dU.calls a1 false _ A4.out).mono ?_);rintro e w' ⟨rfl,⟨nd,rfl⟩⟩;refine ⟨_,rfl,?_⟩))
     go_ret
     exact ⟨cG,fO⟩
def bR.f (k:Nat) (a0_0:ByteArray) (a0_1:ByteArray) (a0_2:Int) (a0_3:ByteArray) (a0_4:Bool) (a1_0:ByteArray) (a1_1:ByteArray) (a1_2:Int) (a1_3:ByteArray) (a1_4:Bool):Option (Int):=(eR.f a0_0 a1_0).bind fun t143=>((eR.f a0_1 a1_1).bind fun t144=>((fI.f a1_2 a0_2).bind fun t145=>((cr.f k (([t143,t144,t145]:List Int))).bind fun t149=>(some t149))))
theorem bR.mono:∀ a0 a1 a2 a3 a4 a5 a6 a7 a8 a9 k,aH (bR.f k a0 a1 a2 a3 a4 a5 a6 a7 a8 a9) (bR.f (k+1) a0 a1 a2 a3 a4 a5 a6 a7 a8 a9):=by
 intro a0 a1 a2 a3 a4 a5 a6 a7 a8 a9 k
 unfold bR.f
 have m0:=@cr.mono;exact eF
def bR.T1:Bool × List (List Nat × List Nat):=(true,[([],[]),([0],[0]),([],[]),([2],[2]),([1,3],[1,3]),([],[]),([5],[5]),([],[]),([7],[7]),([6,8,4],[6,8]),([],[]),([10],[10]),([],[]),([12],[12]),([11,13,9],[11,13]),([4,9,14],[4,9,14]),([15,14],[15]),([16,16,0,1,2,3,4,5,6,7,8,9,10,11,12,13,14,15,16],[16])])
def bR.B1:List Nat:=[0,1,0,4,15,0,32,0,128,511,0,1024,0,4096,16383,32767,65535,131071]
theorem bR.rq:e9 .any (opsOf Tryz.f47 1)=bR.T1:=by kernel_rfl
theorem bR.oK:gj bR.T1.2 bR.B1=true:=by kernel_rfl
theorem bR.calls (k:Nat) (a0_0:ByteArray) (a0_1:ByteArray) (a0_2:Int) (a0_3:ByteArray) (a0_4:Bool) (a1_0:ByteArray) (a1_1:ByteArray) (a1_2:Int) (a1_3:ByteArray) (a1_4:Bool) (r:Int) (w:World) (h:bR.f k a0_0 a0_1 a0_2 a0_3 a0_4 a1_0 a1_1 a1_2 a1_3 a1_4=some r) :
  Calls Tryz.prog 47 #[.agg #[.string a0_0,.string a0_1,.int .i64 a0_2,.string a0_3,.bool a0_4],.agg #[.string a1_0,.string a1_1,.int .i64 a1_2,.string a1_3,.bool a1_4]] w fun e w'=>e = .returned (.int .i64 r)∧Below w.heap.size w w':=by
 have hu34:=Tryz.underlying34;have HB:=aS (Below.refl w.heap.size w);have H:((eR.f a0_0 a1_0).bind fun t143=>((eR.f a0_1 a1_1).bind fun t144=>((fI.f a1_2 a0_2).bind fun t145=>((cr.f k (([t143,t144,t145]:List Int))).bind fun t149=>(some t149)))))=some r:=h;clear h;replace H:=bU H;obtain ⟨t143,A30,H⟩:=H;have A3:=aS A30;clear A30;replace H:=bU H;obtain ⟨t144,A40,H⟩:=H;have A4:=aS A40;clear A40;replace H:=bU H;obtain ⟨t145,A50,H⟩:=H;have A5:=aS A50;clear A50
 obtain ⟨y146,hy146⟩:∃ y_:List Int,y_=(([t143,t144,t145]:List Int)):=⟨_,rfl⟩
 (first | replace H:=l9 hy146 H | rw [←hy146] at H);have Ny146:=aS hy146;clear hy146;replace H:=bU H;obtain ⟨t149,A60,H⟩:=H;have A6:=aS A60;clear A60
 obtain rfl:=Option.some.inj H
 go_enter Tryz.func47,Tryz.ntmps47
 try go_wp2_with (first | ((with_reducible refine gD 2 ?_);refine dK 2 #[.string a0_0,.string a0_1,.int .i64 a0_2,.string a0_3,.bool a0_4] 34 ?_;intro gb141 hg w7 hbox hb;have BK141:=aS (hbox);have GW141:=bsize hg;have GE141:=bsize hg;replace HB:=aM hb;clear hb hbox hg) | ((with_reducible refine gD 3 ?_);refine dK 3 #[.string a1_0,.string a1_1,.int .i64 a1_2,.string a1_3,.bool a1_4] 34 ?_;intro gb142 hg w8 hbox hb;have BK142:=aS (hbox);have GW142:=bsize hg;have GE142:=bsize hg;replace HB:=aM hb;have NB141_142:=aS ((by rw [hg];exact Nat.ne_of_lt (cR (g:=gb141) (o:=.cells #[.string a0_0,.string a0_1,.int .i64 a0_2,.string a0_3,.bool a0_4] 34 (0,0)) (eA BK141.out)):gb141≠gb142));have NB142_141:=aS ((by rw [hg];exact Nat.ne_of_gt (cR (g:=gb141) (o:=.cells #[.string a0_0,.string a0_1,.int .i64 a0_2,.string a0_3,.bool a0_4] 34 (0,0)) (eA BK141.out)):gb142≠gb141));replace BK141:=fp BK141 hb;clear hb hbox hg))
 replace BK141:=aS (ar BK141.out);replace BK142:=aS (ar BK142.out);replace HB:=aS (jS HB.out);refine di (n:=18) (S:=fun w'=>w'.cell? ⟨gb141,0,none⟩=some (.string a0_0)∧w'.cell? ⟨gb141,1,none⟩=some (.string a0_1)∧w'.cell? ⟨gb141,2,none⟩=some (.int .i64 a0_2)∧w'.cell? ⟨gb141,3,none⟩=some (.string a0_3)∧w'.cell? ⟨gb141,4,none⟩=some (.bool a0_4)∧w'.cell? ⟨gb142,0,none⟩=some (.string a1_0)∧w'.cell? ⟨gb142,1,none⟩=some (.string a1_1)∧w'.cell? ⟨gb142,2,none⟩=some (.int .i64 a1_2)∧w'.cell? ⟨gb142,3,none⟩=some (.string a1_3)∧w'.cell? ⟨gb142,4,none⟩=some (.bool a1_4)) (ds:=[]) (bA 18 0) (by kernel_rfl) rfl rfl ⟨bc BK141 0,bc BK141 1,bc BK141 2,bc BK141 3,bc BK141 4,bc BK142 0,bc BK142 1,bc BK142 2,bc BK142 3,bc BK142 4⟩ (fun hHeld=>?_);refine cD bR.rq bR.oK (fun HT_ HW_=>?_)
 generalize w8.drew=w9 at BK141 BK142 HB hHeld ⊢
 refine aZ [(0,5),(2,7),(5,10),(7,12),(10,15),(12,17),(1,6),(3,8),(6,11),(8,13),(11,16),(13,18)] ?_
 iterate 12 (first | (refine ck HT_ ?_) | (refine dY HT_ HW_ hHeld ?_))
 refine bT (bA 18 15855) (by kernel_rfl) ?_;refine dH 4 (N:=some 9) (bA 18 15871) HT_ (fun K hK=>?_);refine gb Tryz.func63 #[.string a0_0,.string a1_0] ?_
 with_reducible refine (eR.calls a0_0 a1_0 t143 _ A3.out).mono ?_
 rintro e w' ⟨rfl,⟨nd,rfl⟩⟩
 refine ⟨_,rfl,?_⟩;refine hK.out _ _ ⟨bc BK141 0,bc BK141 1,bc BK141 2,bc BK141 3,bc BK141 4,bc BK142 0,bc BK142 1,bc BK142 2,bc BK142 3,bc BK142 4⟩ (fun hHeld=>?_);clear hK K;refine nm 9 ?_;refine dH 9 (N:=some 14) (bA 18 16383) HT_ (fun K hK=>?_);refine gb Tryz.func63 #[.string a0_1,.string a1_1] ?_
 with_reducible refine (eR.calls a0_1 a1_1 t144 _ A4.out).mono ?_
 rintro e w' ⟨rfl,⟨nd,rfl⟩⟩
 refine ⟨_,rfl,?_⟩;refine hK.out _ _ ⟨bc BK141 0,bc BK141 1,bc BK141 2,bc BK141 3,bc BK141 4,bc BK142 0,bc BK142 1,bc BK142 2,bc BK142 3,bc BK142 4⟩ (fun hHeld=>?_);clear hK K;refine nm 14 ?_;refine dH 14 (N:=some 19) (bA 18 32767) HT_ (fun K hK=>?_);refine gb Tryz.func64 #[.int .i64 a1_2,.int .i64 a0_2] ?_
 with_reducible refine (fI.calls a1_2 a0_2 t145 _ A5.out).mono ?_
 rintro e w' ⟨rfl,⟨nd,rfl⟩⟩
 refine ⟨_,rfl,?_⟩;refine hK.out _ _ ⟨bc BK141 0,bc BK141 1,bc BK141 2,bc BK141 3,bc BK141 4,bc BK142 0,bc BK142 1,bc BK142 2,bc BK142 3,bc BK142 4⟩ (fun hHeld=>?_);clear hK K;refine nm 19 ?_;refine dH 15 (N:=some 20) (bA 18 65535) HT_ (fun K hK=>?_)
 refine Kd.lP (Kd.int .i64) _ 3 ?hg (N:=20) ?hd (xs:=([t143,t144,t145]:List Int)) (inner:=[.int .i64 t143,.int .i64 t144,.int .i64 t145]) (ok:=fun _=>True) (okp:=fun _=>True) ?hr ?hp (fun _ hk=>hk) trivial (Below.refl _ _) (Nat.le_refl _) (by simp) ?_;(case hd=>rfl);(case hg=>rfl);(case hr=>first | (go_simp;done) | (go_simp;rfl));(case hp=>exact (bP.one (show Kd.M (Kd.int .i64) _ _ _ t143 [.int .i64 t143] from rfl) (bP.one (show Kd.M (Kd.int .i64) _ _ _ t144 [.int .i64 t144] from rfl) (bP.one (show Kd.M (Kd.int .i64) _ _ _ t145 [.int .i64 t145] from rfl) (bP.none _ _)))))
 intro v147 w10 ho11 hb hg_ hnew_
 clear hg_ hnew_
 (first | rw [←Ny146.out] at ho11 | (simp only [Int.reduceToNat] at ho11;rw [←Ny146.out] at ho11))
 have HO148:=aS (Kd.bn ho11 (aA aq));replace BK141:=fp BK141 hb;replace BK142:=fp BK142 hb;replace HB:=aM hb;clear hb ho11;obtain ⟨Ao12,co12,eo12⟩:=Kd.bp HO148.out
 (first | subst eo12 | (injection eo12 with f1_ f2_ f3_;have f4_:=f1_.symm;have f5_:=f3_.symm;clear f1_ f2_ f3_;subst f4_;subst f5_))
 refine hK.out _ _ ⟨bc BK141 0,bc BK141 1,bc BK141 2,bc BK141 3,bc BK141 4,bc BK142 0,bc BK142 1,bc BK142 2,bc BK142 3,bc BK142 4⟩ (fun hHeld=>?_);clear hK K;refine nm 20 ?_;refine dH 16 (N:=some 21) (bA 18 131071) HT_ (fun K hK=>?_);refine gb Tryz.func62 #[.slice Ao12 y146.length co12] ?_
 with_reducible refine (cr.calls k _ _ y146 t149 _ ?side1 ?side2 A6.out).mono ?_
 (case side1=>exact eH ((Kd.aY HO148.out).2.2))
 (case side2=>exact (Kd.aY HO148.out).2.1)
 rintro e w' ⟨rfl,⟨nd,rfl⟩⟩
 refine ⟨_,rfl,?_⟩;refine hK.out _ _ ⟨bc BK141 0,bc BK141 1,bc BK141 2,bc BK141 3,bc BK141 4,bc BK142 0,bc BK142 1,bc BK142 2,bc BK142 3,bc BK142 4⟩ (fun hHeld=>?_);clear hK K;refine nm 21 ?_;refine wj 17 4 (bA 18 262143) HT_ ?_
 refine fX HT_ ?_
 try go_wp2
 go_ret
 exact ⟨dP,aq⟩
mutual
def aQ.l0:Nat→List (au)→List (au)→Int→Int→Option (Bool)
 | 0,_,_,_,_=>none
 | k+1,x0,x5,x6,x7=>if x7<x6 then (if 0≤x7 then (if x7<(x5.length:Int) then ((eL.f ((af x5 x7).f0) ((af x5 x7).f1) ((af x5 x7).f2) ((af x5 x7).f3) ((af x5 x7).f4)).bind fun t152=>(if t152=true then (if x7 > 0 then (if 0≤(wrap64 (x7 - 1)) then (if (wrap64 (x7 - 1))<(x0.length:Int) then ((bR.f k ((af x0 (wrap64 (x7 - 1))).f0) ((af x0 (wrap64 (x7 - 1))).f1) ((af x0 (wrap64 (x7 - 1))).f2) ((af x0 (wrap64 (x7 - 1))).f3) ((af x0 (wrap64 (x7 - 1))).f4) ((af x5 x7).f0) ((af x5 x7).f1) ((af x5 x7).f2) ((af x5 x7).f3) ((af x5 x7).f4)).bind fun t154=>(aQ.j1 k x0 x5 x6 x7 (decide (t154≥0)))) else (none)) else (none)) else (aQ.j1 k x0 x5 x6 x7 false)) else (aQ.j1 k x0 x5 x6 x7 true))) else (none)) else (none)) else (some true)
def aQ.j1:Nat→List (au)→List (au)→Int→Int→Bool→Option (Bool)
 | 0,_,_,_,_,_=>none
 | k+1,x0,x5,x6,x7,x28=>if x28=true then (some false) else (aQ.l0 k x0 x5 x6 (wrap64 (x7+1)))
end
def aQ.f (k:Nat) (l0:List (au)):Option (Bool):=aQ.l0 k l0 l0 (l0.length:Int) 0
theorem aQ.cF:∀ k,(∀ y0 y1 y2 y3,aH (aQ.l0 k y0 y1 y2 y3) (aQ.l0 (k+1) y0 y1 y2 y3))∧(∀ y0 y1 y2 y3 y4,aH (aQ.j1 k y0 y1 y2 y3 y4) (aQ.j1 (k+1) y0 y1 y2 y3 y4))
 | 0=>⟨fun _ _ _ _ r h=>by simp [aQ.l0] at h,fun _ _ _ _ _ r h=>by simp [aQ.j1] at h⟩
 | k+1=>by
  obtain ⟨ih0,ih1⟩:=aQ.cF k;refine ⟨?_,?_⟩
  ·
   intro y0 y1 y2 y3
   unfold aQ.l0
   have m0:=@bR.mono;exact eF
  ·
   intro y0 y1 y2 y3 y4
   unfold aQ.j1
   have m0:=@bR.mono;exact eF
theorem aQ.mono:∀ a0 k,aH (aQ.f k a0) (aQ.f (k+1) a0):=by
 intro a0 k
 obtain ⟨ih0,ih1⟩:=aQ.cF k
 unfold aQ.f
 have m0:=@bR.mono;exact eF
def aQ.T4:Bool × List (List Nat × List Nat):=(true,[([],[]),([0],[0]),([1],[1]),([2,1],[2]),([3],[3]),([4,3],[3,4]),([5,3,3],[3,5]),([6],[6]),([6],[6]),([8,6],[6,8]),([7,9,6],[6,7,9]),([10,6],[6,10]),([6],[6]),([11,12,6,6],[6,11,12]),([13,6],[6,13]),([6,14,3],[3,6,14]),([3,15],[3,15])])
def aQ.B4:List Nat:=[0,1,3,7,15,31,63,127,127,383,1023,2047,127,8191,16383,32767,65535]
theorem aQ.DB:e9 .any (opsOf Tryz.f73 4)=aQ.T4:=by kernel_rfl
theorem aQ.AP:gj aQ.T4.2 aQ.B4=true:=by kernel_rfl
theorem aQ.calls (k:Nat) (A0:Option Addr) (c0:Nat) (l0:List (au)) (r:Bool) (w:World) (hr0:Kd.C cm w A0 l0.length l0) (hc0:l0.length≤c0) (h:aQ.f k l0=some r) :
  Calls Tryz.prog 73 #[.slice A0 l0.length c0] w fun e w'=>e = .returned (.bool r)∧Below w.heap.size w w':=by
 have hu34:=Tryz.underlying34;have HR0:=aS hr0;have HC0:=aS hc0;clear hr0 hc0;have HB:=aS (Below.refl w.heap.size w);have H:(aQ.l0 k l0 l0 (l0.length:Int) 0)=some r:=h;clear h
 have H':=aS H
 clear H
 go_enter Tryz.func73,Tryz.ntmps73
 go_wp2
 go_loopg [7] k (fun kq v7 w'=>∃ (x7_1:Int),v7 = .int .i64 x7_1∧ah (aQ.l0 kq l0 l0 (l0.length:Int) x7_1=some r)∧ah (kq≤k)∧ah (Below w.heap.size w w'))
 case atStart=>exact ⟨(0),cG,H',⟨Nat.le_refl _⟩,⟨aq⟩⟩
 case round=>
  clear H';obtain ⟨x7_1,rfl,HA,HK1,HB⟩:=hrel
  cases gk with
  | zero=>exact absurd HA.out (by simp [aQ.l0])
  | succ k1=>
   have H:=HA.out;clear HA
   simp only [aQ.l0] at H
   by_cases c2:x7_1<(l0.length:Int)
   ·
    rw [if_pos c2] at H;have c2b0:decide (x7_1<(l0.length:Int))=true:=decide_eq_true c2;clear c2
    by_cases c3:0≤x7_1
    ·
     rw [if_pos c3] at H;have c3b0:decide (0≤x7_1)=true:=decide_eq_true c3;clear c3
     by_cases c4:x7_1<(l0.length:Int)
     ·
      rw [if_pos c4] at H;have c4b0:decide (x7_1<(l0.length:Int))=true:=decide_eq_true c4;clear c4;have HC5:=aS H;clear H;have p150:0≤(x7_1:Int):=bJ;have q150:x7_1<(l0.length:Int):=bJ;obtain ⟨ad150,e150,hx150_0,hx150_1,hx150_2,hx150_3,hx150_4⟩:=dN HR0.out x7_1 p150 q150;cases e150;replace hx150_0:=bx aq hx150_0;replace hx150_1:=bx aq hx150_1;replace hx150_2:=bx aq hx150_2;replace hx150_3:=bx aq hx150_3;replace hx150_4:=bx aq hx150_4;replace p150:=eq_true p150;replace q150:=eq_true q150
      go_upto_region 4 with (first | ((with_reducible refine gD 4 ?_);refine dK 4 #[.string (⟨#[]⟩:ByteArray),.string (⟨#[]⟩:ByteArray),.int .i64 0,.string (⟨#[]⟩:ByteArray),.bool false] 34 ?_;intro gb151 hg w6 hbox hb;have BK151:=aS (hbox);have GW151:=bsize hg;have GE151:=bsize hg;replace HB:=aM hb;clear hb hbox hg;have hcz7:=cO BK151))
      (try simp only [Act.put,eI,eG,lss])
      go_cut [28] (fun v28 wc=>∃ (kq:Nat) (x28_4:Bool),v28 = .bool x28_4∧ah (aQ.j1 kq l0 l0 (l0.length:Int) x7_1 x28_4=some r)∧ah (kq≤k1)∧ah (wc.heap[gb151]? = some (.cells #[.string ((af l0 x7_1).f0),.string ((af l0 x7_1).f1),.int .i64 ((af l0 x7_1).f2),.string ((af l0 x7_1).f3),.bool ((af l0 x7_1).f4)] 34 (0,0)))∧ah (Below w.heap.size w wc))
      case first=>
       have H:=HC5.out;clear HC5;replace H:=bU H;obtain ⟨t152,A80,H⟩:=H;have A8:=aS A80;clear A80
       by_cases c9:t152=true
       ·
        subst c9
        replace H:=jy H
        by_cases ef:x7_1 > 0
        ·
         rw [if_pos ef] at H;have c10b0:decide (0<x7_1)=true:=decide_eq_true ef;clear ef
         (first | rw [c10b0] | (simp only [cC,dw];rw [c10b0]) | skip)
         obtain ⟨ji11,hji11⟩:∃ j_:Int,(wrap64 (x7_1 - 1))=j_:=⟨_,rfl⟩
         replace H:(if 0≤(ji11) then (if (ji11)<(l0.length:Int) then ((bR.f k1 ((af l0 (ji11)).f0) ((af l0 (ji11)).f1) ((af l0 (ji11)).f2) ((af l0 (ji11)).f3) ((af l0 (ji11)).f4) ((af l0 x7_1).f0) ((af l0 x7_1).f1) ((af l0 x7_1).f2) ((af l0 x7_1).f3) ((af l0 x7_1).f4)).bind fun t154=>(aQ.j1 k1 l0 l0 (l0.length:Int) x7_1 (decide (t154≥0)))) else (none)) else (none))=some r:=by first | (rw [hji11] at H;exact H) | (simp only [hji11] at H ⊢;exact H)
         (try rw [hji11] at A8)
         have hji11w:(IntKind.i64.wrap (x7_1 - 1))=ji11:=(cC _).trans hji11
         by_cases c12:0≤(ji11)
         ·
          rw [if_pos c12] at H;have c12b0:decide (0≤(ji11))=true:=decide_eq_true c12;clear c12
          by_cases c13:(ji11)<(l0.length:Int)
          ·
           rw [if_pos c13] at H;have c13b0:decide ((ji11)<(l0.length:Int))=true:=decide_eq_true c13;clear c13;replace H:=bU H;obtain ⟨t154,A140,H⟩:=H;have A14:=aS A140;clear A140
           have H':=aS H
           clear H
           try go_wp2
           have n0_:ah ((((((w6.setCell ⟨gb151,0,none⟩ (.string ((af l0 x7_1).f0))).setCell ⟨gb151,1,none⟩ (.string ((af l0 x7_1).f1))).setCell ⟨gb151,2,none⟩ (.int .i64 ((af l0 x7_1).f2))).setCell ⟨gb151,3,none⟩ (.string ((af l0 x7_1).f3))).setCell ⟨gb151,4,none⟩ (.bool ((af l0 x7_1).f4))).heap[gb151]? = some (.cells #[.string ((af l0 x7_1).f0),.string ((af l0 x7_1).f1),.int .i64 ((af l0 x7_1).f2),.string ((af l0 x7_1).f3),.bool ((af l0 x7_1).f4)] 34 (0,0))):=⟨by (with_reducible repeat (first | refine ay ?_ _ | refine ar ?_ | refine ax ?_ _));refine bk (cs:=#[.string ((af l0 x7_1).f0),.string ((af l0 x7_1).f1),.int .i64 ((af l0 x7_1).f2),.string ((af l0 x7_1).f3),.bool false]) ?_ 4 _ rfl;(with_reducible repeat (first | refine ay ?_ _ | refine ar ?_ | refine ax ?_ _));refine bk (cs:=#[.string ((af l0 x7_1).f0),.string ((af l0 x7_1).f1),.int .i64 ((af l0 x7_1).f2),.string (⟨#[]⟩:ByteArray),.bool false]) ?_ 3 _ rfl;(with_reducible repeat (first | refine ay ?_ _ | refine ar ?_ | refine ax ?_ _));refine bk (cs:=#[.string ((af l0 x7_1).f0),.string ((af l0 x7_1).f1),.int .i64 0,.string (⟨#[]⟩:ByteArray),.bool false]) ?_ 2 _ rfl;(with_reducible repeat (first | refine ay ?_ _ | refine ar ?_ | refine ax ?_ _));refine bk (cs:=#[.string ((af l0 x7_1).f0),.string (⟨#[]⟩:ByteArray),.int .i64 0,.string (⟨#[]⟩:ByteArray),.bool false]) ?_ 1 _ rfl;(with_reducible repeat (first | refine ay ?_ _ | refine ar ?_ | refine ax ?_ _));refine bk (cs:=#[.string (⟨#[]⟩:ByteArray),.string (⟨#[]⟩:ByteArray),.int .i64 0,.string (⟨#[]⟩:ByteArray),.bool false]) ?_ 0 _ rfl;(with_reducible repeat (first | refine ay ?_ _ | refine ar ?_ | refine ax ?_ _));exact BK151.out⟩;have n1_:ah (Below w.heap.size w (((((w6.setCell ⟨gb151,0,none⟩ (.string ((af l0 x7_1).f0))).setCell ⟨gb151,1,none⟩ (.string ((af l0 x7_1).f1))).setCell ⟨gb151,2,none⟩ (.int .i64 ((af l0 x7_1).f2))).setCell ⟨gb151,3,none⟩ (.string ((af l0 x7_1).f3))).setCell ⟨gb151,4,none⟩ (.bool ((af l0 x7_1).f4)))):=⟨aq⟩;(try clear BK151);(try clear HB)
           generalize (((((w6.setCell ⟨gb151,0,none⟩ (.string ((af l0 x7_1).f0))).setCell ⟨gb151,1,none⟩ (.string ((af l0 x7_1).f1))).setCell ⟨gb151,2,none⟩ (.int .i64 ((af l0 x7_1).f2))).setCell ⟨gb151,3,none⟩ (.string ((af l0 x7_1).f3))).setCell ⟨gb151,4,none⟩ (.bool ((af l0 x7_1).f4)))=w15 at n0_ n1_ ⊢
           have BK151:=n0_;have HB:=n1_;clear n0_ n1_;replace BK151:=aS (ar BK151.out);replace HB:=aS (jS HB.out);have p153:0≤((ji11):Int):=bJ;have q153:(ji11)<(l0.length:Int):=bJ;obtain ⟨ad153,e153,hx153_0,hx153_1,hx153_2,hx153_3,hx153_4⟩:=dN HR0.out (ji11) p153 q153;have hw153_4:=hx153_4;have hw153_3:=hx153_3;have hw153_2:=hx153_2;have hw153_1:=hx153_1;have hw153_0:=hx153_0
           obtain rfl:ad150=ad153:=(by injection e153)
           replace hx153_0:=bx aq hx153_0;replace hx153_1:=bx aq hx153_1;replace hx153_2:=bx aq hx153_2;replace hx153_3:=bx aq hx153_3;replace hx153_4:=bx aq hx153_4;replace p153:=eq_true p153;replace q153:=eq_true q153;refine di (n:=17) (S:=fun w'=>w'.cell? ⟨gb151,0,none⟩=some (.string ((af l0 x7_1).f0))∧w'.cell? ⟨gb151,1,none⟩=some (.string ((af l0 x7_1).f1))∧w'.cell? ⟨gb151,2,none⟩=some (.int .i64 ((af l0 x7_1).f2))∧w'.cell? ⟨gb151,3,none⟩=some (.string ((af l0 x7_1).f3))∧w'.cell? ⟨gb151,4,none⟩=some (.bool ((af l0 x7_1).f4))∧w'.cell? (ad150.add (((ji11)).toNat*5))=some (.string ((af l0 (ji11)).f0))∧w'.cell? ⟨(ad150.add (((ji11)).toNat*5)).block,(ad150.add (((ji11)).toNat*5)).off+1,none⟩=some (.string ((af l0 (ji11)).f1))∧w'.cell? ⟨(ad150.add (((ji11)).toNat*5)).block,(ad150.add (((ji11)).toNat*5)).off+2,none⟩=some (.int .i64 ((af l0 (ji11)).f2))∧w'.cell? ⟨(ad150.add (((ji11)).toNat*5)).block,(ad150.add (((ji11)).toNat*5)).off+3,none⟩=some (.string ((af l0 (ji11)).f3))∧w'.cell? ⟨(ad150.add (((ji11)).toNat*5)).block,(ad150.add (((ji11)).toNat*5)).off+4,none⟩=some (.bool ((af l0 (ji11)).f4))) (ds:=[]) (bA 17 0) (by kernel_rfl) rfl rfl ⟨bc BK151 0,bc BK151 1,bc BK151 2,bc BK151 3,bc BK151 4,(bx aq hw153_0),(bx aq hw153_1),(bx aq hw153_2),(bx aq hw153_3),(bx aq hw153_4)⟩ (fun hHeld=>?_);refine cD aQ.DB aQ.AP (fun HT_ HW_=>?_)
           generalize w15.drew=w16 at BK151 HB hx153_0 hx153_1 hx153_2 hx153_3 hx153_4 hHeld ⊢
           refine ij (i:=0) (N:=some 12) (v:=?_) (a':=?_) (bA 17 1) rfl rfl (iz HT_.out HW_.out (by kernel_rfl)) (fun _ _ _ h=>h) (Or.inl ⟨by rfl,?_⟩) hHeld ?_ ?_
           rotate_left
           ·
            rintro w' ⟨s0,s1,s2,s3,s4,s5,s6,s7,s8,s9⟩
            go_simp
            with_reducible rfl
           rotate_left
           ·
            simp only [Act.put,eI,eG,lss,cC,dw]
            rfl
           refine dH 1 (N:=some 13) (bA 17 3) HT_ (fun K hK=>?_);refine gb Tryz.func27 #[.agg #[.string ((af l0 x7_1).f0),.string ((af l0 x7_1).f1),.int .i64 ((af l0 x7_1).f2),.string ((af l0 x7_1).f3),.bool ((af l0 x7_1).f4)]] ?_
           with_reducible refine (eL.calls ((af l0 x7_1).f0) ((af l0 x7_1).f1) ((af l0 x7_1).f2) ((af l0 x7_1).f3) ((af l0 x7_1).f4) true _ A8.out).mono ?_
           rintro e w17 ⟨rfl,hb⟩
           refine ⟨_,rfl,?_⟩;replace BK151:=fp BK151 hb;replace HB:=aM hb;(try clear hb);(try clear hk);(try clear hi);refine hK.out _ _ ⟨bc BK151 0,bc BK151 1,bc BK151 2,bc BK151 3,bc BK151 4,(bx aq hw153_0),(bx aq hw153_1),(bx aq hw153_2),(bx aq hw153_3),(bx aq hw153_4)⟩ (fun hHeld=>?_);clear hK K;refine nm 13 ?_;refine aZ [(2,14),(3,15),(4,16),(5,17),(6,18),(7,19),(8,20),(9,21),(10,22),(11,23),(12,24)] ?_
           iterate 11 (first | (refine ck HT_ ?_) | (refine dY HT_ HW_ hHeld ?_))
           refine bT (bA 17 8191) (by kernel_rfl) ?_;refine dH 13 (N:=some 25) (bA 17 16383) HT_ (fun K hK=>?_);refine Ba Tryz.func47 (by kernel_rfl) rfl #[.agg #[.string ((af l0 (ji11)).f0),.string ((af l0 (ji11)).f1),.int .i64 ((af l0 (ji11)).f2),.string ((af l0 (ji11)).f3),.bool ((af l0 (ji11)).f4)],.agg #[.string ((af l0 x7_1).f0),.string ((af l0 x7_1).f1),.int .i64 ((af l0 x7_1).f2),.string ((af l0 x7_1).f3),.bool ((af l0 x7_1).f4)]] (by rfl) rfl rfl (by (try simp only [List.map_toArray,List.map_cons,List.map_nil]);first | done | (simp only [hji11];rfl) | rfl | (simp only [mh,kY];rfl)) ?_
           with_reducible refine (bR.calls k1 ((af l0 (ji11)).f0) ((af l0 (ji11)).f1) ((af l0 (ji11)).f2) ((af l0 (ji11)).f3) ((af l0 (ji11)).f4) ((af l0 x7_1).f0) ((af l0 x7_1).f1) ((af l0 x7_1).f2) ((af l0 x7_1).f3) ((af l0 x7_1).f4) t154 _ A14.out).mono ?_
           rintro e w18 ⟨rfl,hb⟩
           refine ⟨_,rfl,?_⟩;replace BK151:=fp BK151 hb;replace HB:=aM hb;(try clear hb);(try clear hk);(try clear hi);refine hK.out _ _ ⟨bc BK151 0,bc BK151 1,bc BK151 2,bc BK151 3,bc BK151 4,(bx aq hw153_0),(bx aq hw153_1),(bx aq hw153_2),(bx aq hw153_3),(bx aq hw153_4)⟩ (fun hHeld=>?_);clear hK K;refine nm 25 ?_;refine aZ [(14,26),(15,27),(16,28)] ?_
           iterate 3 (refine ck HT_ ?_)
           refine bT (bA 17 131071) (by kernel_rfl) ?_;refine fX HT_ ?_
           try go_wp2
           go_meet
           case rel=>exact ⟨_,(decide (t154≥0)),cG,H',⟨by have:=HK1.out;first | omega | exact Nat.le_refl _⟩,⟨eA BK151.out⟩,⟨aq⟩⟩
          ·
           rw [if_neg c13] at H;exact absurd H (by simp)
         ·
          rw [if_neg c12] at H;exact absurd H (by simp)
        ·
         rw [if_neg ef] at H;have c10b0:decide (0<x7_1)=false:=decide_eq_false ef;clear ef
         (first | rw [c10b0] | (simp only [cC,dw];rw [c10b0]) | skip)
         have H':=aS H
         clear H
         try go_wp2
         have n0_:ah ((((((w6.setCell ⟨gb151,0,none⟩ (.string ((af l0 x7_1).f0))).setCell ⟨gb151,1,none⟩ (.string ((af l0 x7_1).f1))).setCell ⟨gb151,2,none⟩ (.int .i64 ((af l0 x7_1).f2))).setCell ⟨gb151,3,none⟩ (.string ((af l0 x7_1).f3))).setCell ⟨gb151,4,none⟩ (.bool ((af l0 x7_1).f4))).heap[gb151]? = some (.cells #[.string ((af l0 x7_1).f0),.string ((af l0 x7_1).f1),.int .i64 ((af l0 x7_1).f2),.string ((af l0 x7_1).f3),.bool ((af l0 x7_1).f4)] 34 (0,0))):=⟨by (with_reducible repeat (first | refine ay ?_ _ | refine ar ?_ | refine ax ?_ _));refine bk (cs:=#[.string ((af l0 x7_1).f0),.string ((af l0 x7_1).f1),.int .i64 ((af l0 x7_1).f2),.string ((af l0 x7_1).f3),.bool false]) ?_ 4 _ rfl;(with_reducible repeat (first | refine ay ?_ _ | refine ar ?_ | refine ax ?_ _));refine bk (cs:=#[.string ((af l0 x7_1).f0),.string ((af l0 x7_1).f1),.int .i64 ((af l0 x7_1).f2),.string (⟨#[]⟩:ByteArray),.bool false]) ?_ 3 _ rfl;(with_reducible repeat (first | refine ay ?_ _ | refine ar ?_ | refine ax ?_ _));refine bk (cs:=#[.string ((af l0 x7_1).f0),.string ((af l0 x7_1).f1),.int .i64 0,.string (⟨#[]⟩:ByteArray),.bool false]) ?_ 2 _ rfl;(with_reducible repeat (first | refine ay ?_ _ | refine ar ?_ | refine ax ?_ _));refine bk (cs:=#[.string ((af l0 x7_1).f0),.string (⟨#[]⟩:ByteArray),.int .i64 0,.string (⟨#[]⟩:ByteArray),.bool false]) ?_ 1 _ rfl;(with_reducible repeat (first | refine ay ?_ _ | refine ar ?_ | refine ax ?_ _));refine bk (cs:=#[.string (⟨#[]⟩:ByteArray),.string (⟨#[]⟩:ByteArray),.int .i64 0,.string (⟨#[]⟩:ByteArray),.bool false]) ?_ 0 _ rfl;(with_reducible repeat (first | refine ay ?_ _ | refine ar ?_ | refine ax ?_ _));exact BK151.out⟩;have n1_:ah (Below w.heap.size w (((((w6.setCell ⟨gb151,0,none⟩ (.string ((af l0 x7_1).f0))).setCell ⟨gb151,1,none⟩ (.string ((af l0 x7_1).f1))).setCell ⟨gb151,2,none⟩ (.int .i64 ((af l0 x7_1).f2))).setCell ⟨gb151,3,none⟩ (.string ((af l0 x7_1).f3))).setCell ⟨gb151,4,none⟩ (.bool ((af l0 x7_1).f4)))):=⟨aq⟩;(try clear BK151);(try clear HB)
         generalize (((((w6.setCell ⟨gb151,0,none⟩ (.string ((af l0 x7_1).f0))).setCell ⟨gb151,1,none⟩ (.string ((af l0 x7_1).f1))).setCell ⟨gb151,2,none⟩ (.int .i64 ((af l0 x7_1).f2))).setCell ⟨gb151,3,none⟩ (.string ((af l0 x7_1).f3))).setCell ⟨gb151,4,none⟩ (.bool ((af l0 x7_1).f4)))=w19 at n0_ n1_ ⊢
         have BK151:=n0_;have HB:=n1_;clear n0_ n1_;replace BK151:=aS (ar BK151.out);replace HB:=aS (jS HB.out);refine di (n:=17) (S:=fun w'=>w'.cell? ⟨gb151,0,none⟩=some (.string ((af l0 x7_1).f0))∧w'.cell? ⟨gb151,1,none⟩=some (.string ((af l0 x7_1).f1))∧w'.cell? ⟨gb151,2,none⟩=some (.int .i64 ((af l0 x7_1).f2))∧w'.cell? ⟨gb151,3,none⟩=some (.string ((af l0 x7_1).f3))∧w'.cell? ⟨gb151,4,none⟩=some (.bool ((af l0 x7_1).f4))) (ds:=[]) (bA 17 0) (by kernel_rfl) rfl rfl ⟨bc BK151 0,bc BK151 1,bc BK151 2,bc BK151 3,bc BK151 4⟩ (fun hHeld=>?_);refine cD aQ.DB aQ.AP (fun HT_ HW_=>?_)
         generalize w19.drew=w20 at BK151 HB hHeld ⊢
         refine ij (i:=0) (N:=some 12) (v:=?_) (a':=?_) (bA 17 1) rfl rfl (iz HT_.out HW_.out (by kernel_rfl)) (fun _ _ _ h=>h) (Or.inl ⟨by rfl,?_⟩) hHeld ?_ ?_
         rotate_left
         ·
          rintro w' ⟨s0,s1,s2,s3,s4⟩
          go_simp
          with_reducible rfl
         rotate_left
         ·
          simp only [Act.put,eI,eG,lss,cC,dw]
          rfl
         refine dH 1 (N:=some 13) (bA 17 3) HT_ (fun K hK=>?_);refine gb Tryz.func27 #[.agg #[.string ((af l0 x7_1).f0),.string ((af l0 x7_1).f1),.int .i64 ((af l0 x7_1).f2),.string ((af l0 x7_1).f3),.bool ((af l0 x7_1).f4)]] ?_
         with_reducible refine (eL.calls ((af l0 x7_1).f0) ((af l0 x7_1).f1) ((af l0 x7_1).f2) ((af l0 x7_1).f3) ((af l0 x7_1).f4) true _ A8.out).mono ?_
         rintro e w21 ⟨rfl,hb⟩
         refine ⟨_,rfl,?_⟩;replace BK151:=fp BK151 hb;replace HB:=aM hb;(try clear hb);(try clear hk);(try clear hi);refine hK.out _ _ ⟨bc BK151 0,bc BK151 1,bc BK151 2,bc BK151 3,bc BK151 4⟩ (fun hHeld=>?_);clear hK K;refine nm 13 ?_;refine aZ [(2,14),(3,15),(4,16),(5,17),(6,18),(7,19),(8,20),(9,21),(10,22),(11,23),(12,24),(13,25),(14,26),(15,27),(16,28)] ?_
         iterate 15 (first | (refine nR HT_ ?_) | (refine ck HT_ ?_))
         refine bT (bA 17 131071) (by kernel_rfl) ?_;refine fX HT_ ?_
         try go_wp2
         go_meet
         case rel=>exact ⟨_,(false),cG,H',⟨by have:=HK1.out;first | omega | exact Nat.le_refl _⟩,⟨eA BK151.out⟩,⟨aq⟩⟩
       ·
        replace c9:=Bool.eq_false_iff.mpr c9;subst c9
        replace H:=jw H
        have H':=aS H
        clear H
        try go_wp2
        have n0_:ah ((((((w6.setCell ⟨gb151,0,none⟩ (.string ((af l0 x7_1).f0))).setCell ⟨gb151,1,none⟩ (.string ((af l0 x7_1).f1))).setCell ⟨gb151,2,none⟩ (.int .i64 ((af l0 x7_1).f2))).setCell ⟨gb151,3,none⟩ (.string ((af l0 x7_1).f3))).setCell ⟨gb151,4,none⟩ (.bool ((af l0 x7_1).f4))).heap[gb151]? = some (.cells #[.string ((af l0 x7_1).f0),.string ((af l0 x7_1).f1),.int .i64 ((af l0 x7_1).f2),.string ((af l0 x7_1).f3),.bool ((af l0 x7_1).f4)] 34 (0,0))):=⟨by (with_reducible repeat (first | refine ay ?_ _ | refine ar ?_ | refine ax ?_ _));refine bk (cs:=#[.string ((af l0 x7_1).f0),.string ((af l0 x7_1).f1),.int .i64 ((af l0 x7_1).f2),.string ((af l0 x7_1).f3),.bool false]) ?_ 4 _ rfl;(with_reducible repeat (first | refine ay ?_ _ | refine ar ?_ | refine ax ?_ _));refine bk (cs:=#[.string ((af l0 x7_1).f0),.string ((af l0 x7_1).f1),.int .i64 ((af l0 x7_1).f2),.string (⟨#[]⟩:ByteArray),.bool false]) ?_ 3 _ rfl;(with_reducible repeat (first | refine ay ?_ _ | refine ar ?_ | refine ax ?_ _));refine bk (cs:=#[.string ((af l0 x7_1).f0),.string ((af l0 x7_1).f1),.int .i64 0,.string (⟨#[]⟩:ByteArray),.bool false]) ?_ 2 _ rfl;(with_reducible repeat (first | refine ay ?_ _ | refine ar ?_ | refine ax ?_ _));refine bk (cs:=#[.string ((af l0 x7_1).f0),.string (⟨#[]⟩:ByteArray),.int .i64 0,.string (⟨#[]⟩:ByteArray),.bool false]) ?_ 1 _ rfl;(with_reducible repeat (first | refine ay ?_ _ | refine ar ?_ | refine ax ?_ _));refine bk (cs:=#[.string (⟨#[]⟩:ByteArray),.string (⟨#[]⟩:ByteArray),.int .i64 0,.string (⟨#[]⟩:ByteArray),.bool false]) ?_ 0 _ rfl;(with_reducible repeat (first | refine ay ?_ _ | refine ar ?_ | refine ax ?_ _));exact BK151.out⟩;have n1_:ah (Below w.heap.size w (((((w6.setCell ⟨gb151,0,none⟩ (.string ((af l0 x7_1).f0))).setCell ⟨gb151,1,none⟩ (.string ((af l0 x7_1).f1))).setCell ⟨gb151,2,none⟩ (.int .i64 ((af l0 x7_1).f2))).setCell ⟨gb151,3,none⟩ (.string ((af l0 x7_1).f3))).setCell ⟨gb151,4,none⟩ (.bool ((af l0 x7_1).f4)))):=⟨aq⟩;(try clear BK151);(try clear HB)
        generalize (((((w6.setCell ⟨gb151,0,none⟩ (.string ((af l0 x7_1).f0))).setCell ⟨gb151,1,none⟩ (.string ((af l0 x7_1).f1))).setCell ⟨gb151,2,none⟩ (.int .i64 ((af l0 x7_1).f2))).setCell ⟨gb151,3,none⟩ (.string ((af l0 x7_1).f3))).setCell ⟨gb151,4,none⟩ (.bool ((af l0 x7_1).f4)))=w22 at n0_ n1_ ⊢
        have BK151:=n0_;have HB:=n1_;clear n0_ n1_;replace BK151:=aS (ar BK151.out);replace HB:=aS (jS HB.out);refine di (n:=17) (S:=fun w'=>w'.cell? ⟨gb151,0,none⟩=some (.string ((af l0 x7_1).f0))∧w'.cell? ⟨gb151,1,none⟩=some (.string ((af l0 x7_1).f1))∧w'.cell? ⟨gb151,2,none⟩=some (.int .i64 ((af l0 x7_1).f2))∧w'.cell? ⟨gb151,3,none⟩=some (.string ((af l0 x7_1).f3))∧w'.cell? ⟨gb151,4,none⟩=some (.bool ((af l0 x7_1).f4))) (ds:=[]) (bA 17 0) (by kernel_rfl) rfl rfl ⟨bc BK151 0,bc BK151 1,bc BK151 2,bc BK151 3,bc BK151 4⟩ (fun hHeld=>?_);refine cD aQ.DB aQ.AP (fun HT_ HW_=>?_)
        generalize w22.drew=w23 at BK151 HB hHeld ⊢
        refine ij (i:=0) (N:=some 12) (v:=?_) (a':=?_) (bA 17 1) rfl rfl (iz HT_.out HW_.out (by kernel_rfl)) (fun _ _ _ h=>h) (Or.inl ⟨by rfl,?_⟩) hHeld ?_ ?_
        rotate_left
        ·
         rintro w' ⟨s0,s1,s2,s3,s4⟩
         go_simp
         with_reducible rfl
        rotate_left
        ·
         simp only [Act.put,eI,eG,lss,cC,dw]
         rfl
        refine dH 1 (N:=some 13) (bA 17 3) HT_ (fun K hK=>?_);refine gb Tryz.func27 #[.agg #[.string ((af l0 x7_1).f0),.string ((af l0 x7_1).f1),.int .i64 ((af l0 x7_1).f2),.string ((af l0 x7_1).f3),.bool ((af l0 x7_1).f4)]] ?_
        with_reducible refine (eL.calls ((af l0 x7_1).f0) ((af l0 x7_1).f1) ((af l0 x7_1).f2) ((af l0 x7_1).f3) ((af l0 x7_1).f4) false _ A8.out).mono ?_
        rintro e w24 ⟨rfl,hb⟩
        refine ⟨_,rfl,?_⟩;replace BK151:=fp BK151 hb;replace HB:=aM hb;(try clear hb);(try clear hk);(try clear hi);refine hK.out _ _ ⟨bc BK151 0,bc BK151 1,bc BK151 2,bc BK151 3,bc BK151 4⟩ (fun hHeld=>?_);clear hK K;refine nm 13 ?_;refine aZ [(2,14),(3,15),(4,16),(5,17),(6,18),(7,19),(8,20),(9,21),(10,22),(11,23),(12,24),(13,25),(14,26),(15,27),(16,28)] ?_
        iterate 15 (first | (refine nR HT_ ?_) | (refine ck HT_ ?_))
        refine bT (bA 17 131071) (by kernel_rfl) ?_;refine fX HT_ ?_
        try go_wp2
        go_meet
        case rel=>exact ⟨_,(true),cG,H',⟨by have:=HK1.out;first | omega | exact Nat.le_refl _⟩,⟨eA BK151.out⟩,⟨aq⟩⟩
      case rest=>
       clear HC5;(try clear c2);(try clear c2b0);(try clear c3);(try clear c3b0);(try clear c4);(try clear c4b0);(try clear hcz7);(try clear hx150_0);(try clear hx150_1);(try clear hx150_2);(try clear hx150_3);(try clear hx150_4);(try clear p150);(try clear q150);obtain ⟨kq,x28_4,rfl,HA,HJ4,BK151,HB⟩:=hcut
       cases kq with
       | zero=>exact absurd HA.out (by simp [aQ.j1])
       | succ kj4=>
        have H:=HA.out;clear HA
        simp only [aQ.j1] at H
        by_cases c25:x28_4=true
        ·
         subst c25
         replace H:=jy H
         obtain rfl:=Option.some.inj H
         go_wp2
         go_ret
         exact ⟨dP,aq⟩
        ·
         replace c25:=Bool.eq_false_iff.mpr c25;subst c25
         replace H:=jw H
         have H':=aS H
         clear H
         go_wp2
         go_roundg kj4
         case measure=>have:=HK1.out;have:=HJ4.out;omega
         case rel=>exact ⟨(wrap64 (x7_1+1)),cG,H',⟨by have:=HK1.out;have:=HJ4.out;omega⟩,⟨aq⟩⟩
     ·
      rw [if_neg c4] at H;exact absurd H (by simp)
    ·
     rw [if_neg c3] at H;exact absurd H (by simp)
   ·
    rw [if_neg c2] at H;have c2b0:decide (x7_1<(l0.length:Int))=false:=decide_eq_false c2;clear c2
    obtain rfl:=Option.some.inj H
    go_wp2
    go_ret
    exact ⟨dP,aq⟩
def cN.bit (w:Int):Int:=if Go.bits .and .u32 w 1=1 then Go.bits .xor .u32 (w / 2) 2197175160 else w / 2
def cN.go:Nat→Int→Int
 | 0,w=>w
 | m+1,w=>cN.go m (cN.bit w)
def cN.f (a0 a1:Int):Option Int:=some (cN.go 8 (Go.bits .xor .u32 a0 (a1 % 4294967296)))
theorem cN.Ct (a0:Int) (w:World):Calls Tryz.prog 109 #[.int .u32 a0] w fun e w'=>e = .returned (.int .u32 (cN.bit a0))∧Below w.heap.size w w':=by
 go_enter Tryz.func109,Tryz.ntmps109
 go_wp2_with fail
 ·
  rename_i h
  refine bodyPost_ret (nH rfl (.tmp .nil)) rfl ⟨?_,Below.refl _ _⟩;rw [cN.bit,if_pos (by simpa using h)]
  rfl
 ·
  rename_i h
  refine bodyPost_ret (nH rfl (.tmp .nil)) rfl ⟨?_,Below.refl _ _⟩;rw [cN.bit,if_neg (by simpa using h)]
  rfl
theorem cN.calls (a0 a1:Int) (r:Int) (w:World) (h:cN.f a0 a1=some r) :
  Calls Tryz.prog 108 #[.int .u32 a0,.int .u8 a1] w fun e w'=>e = .returned (.int .u32 r)∧Below w.heap.size w w':=by
 obtain rfl:=Option.some.inj h
 clear h
 go_enter Tryz.func108,Tryz.ntmps108
 go_wp2_with fail
 go_loopw [0,10] (fun v0 v10 w2=>∃ (i:Nat) (x:Int),v10 = .int .i64 (i:Int)∧v0 = .int .u32 x∧ah (i≤8)∧ah (cN.go (8 - i) x=cN.go 8 (Go.bits .xor .u32 a0 (a1 % 4294967296)))∧ah (Below w.heap.size w w2)) (fun _ i _=>8 - (intOf i).toNat)
 case atStart=>exact ⟨0,_,rfl,rfl,⟨by omega⟩,⟨rfl⟩,⟨Below.refl _ _⟩⟩
 case round=>
  obtain ⟨i,x,rfl,rfl,hi,HA,HB⟩:=hrel;have hi8:=hi.out
  by_cases hlt:i<8
  ·
   obtain ⟨m,hm⟩:∃ m,8 - i=m+1:=⟨7 - i,by omega⟩
   have ha:=HA.out;rw [hm,cN.go] at ha;have HA2:=aS ha;have HM:=aS hm;clear ha HA hm
   go_wp2_with (first
    | (go_at_call 109;(with_reducible refine (cN.Ct _ _).mono ?_);rintro e w3 ⟨rfl,hb⟩;have HB2:=aS hb;clear hb))
   go_roundw
   case rel=>
    have hm:=HM.out;exact ⟨i+1,_,by go_num,rfl,⟨by omega⟩,⟨by rw [show 8 - (i+1)=m by omega];exact HA2.out⟩,⟨aE HB.out HB2.out⟩⟩
   case measure=>simp [intOf];omega
  ·
   have hd:8 - i=0:=by omega
   have ha:=HA.out;rw [hd,cN.go] at ha;have HA2:=aS ha;clear ha HA hd
   go_wp2_with fail
   refine bodyPost_ret (nH rfl (.tmp .nil)) rfl ⟨?_,HB.out⟩;rw [←HA2.out]
   rfl
def dF.l0:Nat→Int→List Int→Int→Int→Option (Int)
 | 0,_,_,_,_=>none
 | k+1,x5,x10,x11,x12=>if x12<x11 then (if 0≤x12 then (if x12<(x10.length:Int) then ((cN.f x5 (rd x10 x12)).bind fun t156=>(dF.l0 k t156 x10 x11 (wrap64 (x12+1)))) else (none)) else (none)) else (some (Go.bits .xor .u32 x5 4294967295))
def dF.f (k:Nat) (a0:Int) (l1:List Int):Option (Int):=dF.l0 k (Go.bits .xor .u32 a0 4294967295) l1 (l1.length:Int) 0
theorem dF.cF:∀ k,(∀ y0 y1 y2 y3,aH (dF.l0 k y0 y1 y2 y3) (dF.l0 (k+1) y0 y1 y2 y3))
 | 0=>fun _ _ _ _ r h=>by simp [dF.l0] at h
 | k+1=>by
  have ih0:=dF.cF k
  ·
   intro y0 y1 y2 y3
   unfold dF.l0
   exact eF
theorem dF.mono:∀ a0 a1 k,aH (dF.f k a0 a1) (dF.f (k+1) a0 a1):=by
 intro a0 a1 k
 have ih0:=dF.cF k
 unfold dF.f
 exact eF
theorem dF.calls (k:Nat) (a0:Int) (A1:Option Addr) (c1:Nat) (l1:List Int) (r:Int) (w:World) (hr1:Kd.C (Kd.int .u8) w A1 l1.length l1) (hc1:l1.length≤c1) (h:dF.f k a0 l1=some r) :
  Calls Tryz.prog 107 #[.int .u32 a0,.slice A1 l1.length c1] w fun e w'=>e = .returned (.int .u32 r)∧Below w.heap.size w w':=by
 have HR1:=aS hr1;have HC1:=aS hc1;clear hr1 hc1;have HB:=aS (Below.refl w.heap.size w);have H:(dF.l0 k (Go.bits .xor .u32 a0 4294967295) l1 (l1.length:Int) 0)=some r:=h;clear h
 have H':=aS H
 clear H
 go_enter Tryz.func107,Tryz.ntmps107
 go_wp2
 go_loopg [5,12] k (fun kq v5 v12 w'=>∃ (x5_1:Int) (x12_1:Int),v5 = .int .u32 x5_1∧v12 = .int .i64 x12_1∧ah (dF.l0 kq x5_1 l1 (l1.length:Int) x12_1=some r)∧ah (kq≤k)∧ah (Below w.heap.size w w'))
 case atStart=>exact ⟨(Go.bits .xor .u32 a0 4294967295),(0),cG,cG,H',⟨Nat.le_refl _⟩,⟨aq⟩⟩
 case round=>
  clear H';(try clear c1);obtain ⟨x5_1,x12_1,rfl,rfl,HA,HK1,HB⟩:=hrel
  cases gk with
  | zero=>exact absurd HA.out (by simp [dF.l0])
  | succ k1=>
   have H:=HA.out;clear HA
   simp only [dF.l0] at H
   by_cases c3:x12_1<(l1.length:Int)
   ·
    rw [if_pos c3] at H;have c3b0:decide (x12_1<(l1.length:Int))=true:=decide_eq_true c3;clear c3
    by_cases c4:0≤x12_1
    ·
     rw [if_pos c4] at H;have c4b0:decide (0≤x12_1)=true:=decide_eq_true c4;clear c4
     by_cases c5:x12_1<(l1.length:Int)
     ·
      rw [if_pos c5] at H;have c5b0:decide (x12_1<(l1.length:Int))=true:=decide_eq_true c5;clear c5;replace H:=bU H;obtain ⟨t156,A60,H⟩:=H;have A6:=aS A60;clear A60
      have H':=aS H
      clear H;have p155:0≤(x12_1:Int):=bJ;have q155:x12_1<(l1.length:Int):=bJ;obtain ⟨ad155,e155,hx155_0⟩:=Kd.iZ HR1.out x12_1 p155 q155;cases e155;replace hx155_0:=bx aq hx155_0;replace p155:=eq_true p155;replace q155:=eq_true q155
      go_wp2_with (first | ((with_reducible refine gC 108 ?_);refine dn 18 Tryz.func108 #[.int .u32 x5_1,.int .u8 (rd l1 x12_1)] ?_;(with_reducible refine (cN.calls x5_1 (rd l1 x12_1) t156 _ A6.out).mono ?_);rintro e w7 ⟨rfl,hb⟩;refine ⟨_,rfl,?_⟩;replace HB:=aM hb;(try clear hb);(try clear hk);(try clear hi)))
      go_roundg k1
      case measure=>have:=HK1.out;omega
      case rel=>exact ⟨(t156),(wrap64 (x12_1+1)),cG,cG,H',⟨by have:=HK1.out;omega⟩,⟨aq⟩⟩
     ·
      rw [if_neg c5] at H;exact absurd H (by simp)
    ·
     rw [if_neg c4] at H;exact absurd H (by simp)
   ·
    rw [if_neg c3] at H;have c3b0:decide (x12_1<(l1.length:Int))=false:=decide_eq_false c3;clear c3
    obtain rfl:=Option.some.inj H
    go_wp2
    go_ret
    exact ⟨dP,aq⟩
def fB.f (k:Nat) (l0:List Int):Option (Int):=(dF.f k 0 l0).bind fun t157=>(some t157)
theorem fB.mono:∀ a0 k,aH (fB.f k a0) (fB.f (k+1) a0):=by
 intro a0 k
 unfold fB.f
 have m0:=@dF.mono;exact eF
theorem fB.calls (k:Nat) (A0:Option Addr) (c0:Nat) (l0:List Int) (r:Int) (w:World) (hr0:Kd.C (Kd.int .u8) w A0 l0.length l0) (hc0:l0.length≤c0) (h:fB.f k l0=some r) :
  Calls Tryz.prog 104 #[.slice A0 l0.length c0] w fun e w'=>e = .returned (.int .u32 r)∧Below w.heap.size w w':=by
 have HR0:=aS hr0;have HC0:=aS hc0;clear hr0 hc0;have HB:=aS (Below.refl w.heap.size w);have H:((dF.f k 0 l0).bind fun t157=>(some t157))=some r:=h;clear h;replace H:=bU H;obtain ⟨t157,A20,H⟩:=H;have A2:=aS A20;clear A20
 obtain rfl:=Option.some.inj H
 go_enter Tryz.func104,Tryz.ntmps104
 go_wp2_with (first | ((with_reducible refine gC 107 ?_);refine dn 4 Tryz.func107 #[.int .u32 0,.slice A0 l0.length c0] ?_;(with_reducible refine (dF.calls k 0 _ _ l0 t157 _ ?side1 ?side2 A2.out).mono ?_);(case side1=>exact eH HR0.out);(case side2=>exact HC0.out);rintro e w3 ⟨rfl,hb⟩;refine ⟨_,rfl,?_⟩;replace HB:=aM hb;(try clear hb);(try clear hk);(try clear hi)))
 go_ret
 exact ⟨dP,aq⟩
def d9.f (k:Nat) (l0:List Int):Option (List Int):=(fB.f k l0).bind fun t158=>((eB.f (wrap64 (t158))).bind fun t159=>(some t159))
theorem d9.mono:∀ a0 k,aH (d9.f k a0) (d9.f (k+1) a0):=by
 intro a0 k
 unfold d9.f
 have m0:=@fB.mono;exact eF
theorem d9.calls (k:Nat) (A0:Option Addr) (c0:Nat) (l0:List Int) (r:List Int) (w:World) (hr0:Kd.C (Kd.int .u8) w A0 l0.length l0) (hc0:l0.length≤c0) (h:d9.f k l0=some r) :
  Calls Tryz.prog 102 #[.slice A0 l0.length c0] w fun e w'=>∃ v0_:Value,e = .returned (v0_)∧Kd.R (Kd.int .u8) 5 w' w.heap.size (fun _=>True) v0_ r∧Below w.heap.size w w':=by
 have HR0:=aS hr0;have HC0:=aS hc0;clear hr0 hc0;have HB:=aS (Below.refl w.heap.size w);have H:((fB.f k l0).bind fun t158=>((eB.f (wrap64 (t158))).bind fun t159=>(some t159)))=some r:=h;clear h;replace H:=bU H;obtain ⟨t158,A20,H⟩:=H;have A2:=aS A20;clear A20;replace H:=bU H;obtain ⟨t159,A30,H⟩:=H;have A3:=aS A30;clear A30
 obtain rfl:=Option.some.inj H
 go_enter Tryz.func102,Tryz.ntmps102
 go_wp2_with (first | ((with_reducible refine gC 104 ?_);refine dn 4 Tryz.func104 #[.slice A0 l0.length c0] ?_;(with_reducible refine (fB.calls k _ _ l0 t158 _ ?side1 ?side2 A2.out).mono ?_);(case side1=>exact eH HR0.out);(case side2=>exact HC0.out);rintro e w4 ⟨rfl,hb⟩;refine ⟨_,rfl,?_⟩;replace HB:=aM hb;(try clear hb);(try clear hk);(try clear hi)) | ((with_reducible refine gC 86 ?_);refine dn 6 Tryz.func86 #[.int .i64 (wrap64 (t158))] ?_;(with_reducible refine (eB.calls (wrap64 (t158)) t159 _ A3.out).mono ?_);rintro e w5 ⟨v160,rfl,ho0,hb⟩;refine ⟨_,rfl,?_⟩;have HO161:=aS (Kd.bn ho0 (aA aq));replace HB:=aM hb;(try clear hb);(try clear hk);(try clear hi);(try clear ho0)))
 go_ret
 exact ⟨_,dP,by (with_reducible repeat (first | apply Kd.bB | apply Kd.bC | apply Kd.bD));exact HO161.out,aq⟩
def fj.f (k:Nat) (l0:List Int):Option (List Int):=if (l0.length:Int) > 65535 then (some ([]:List Int)) else ((eB.f (l0.length:Int)).bind fun t162=>((d9.f k t162).bind fun t165=>((d9.f k l0).bind fun t168=>((bX.f (([t162,t165,t168,l0]:List (List Int)))).bind fun t174=>(some t174)))))
theorem fj.mono:∀ a0 k,aH (fj.f k a0) (fj.f (k+1) a0):=by
 intro a0 k
 unfold fj.f
 have m0:=@d9.mono;exact eF
theorem fj.calls (k:Nat) (P0_:Nat→Prop) (A0:Option Addr) (c0:Nat) (l0:List Int) (r:List Int) (w:World) (hs0:Kd.V (Kd.int .u8) 5 w w.heap.size (fun k_=>P0_ k_) (.slice A0 l0.length c0) l0) (h:fj.f k l0=some r) :
  Calls Tryz.prog 100 #[.slice A0 l0.length c0] w fun e w'=>∃ v0_:Value,e = .returned (v0_)∧Kd.R (Kd.int .u8) 5 w' w.heap.size (fun k_=>(w.heap.size≤k_)) v0_ r∧Below w.heap.size w w':=by
 have HO0:=aS (show Kd.V (Kd.int .u8) 5 w w.heap.size (fun k_=>(P0_ k_∨w.heap.size≤k_)) (.slice A0 l0.length c0) l0 from Kd.ep hs0 (fun k_ hk=>.inl hk));have HB:=aS (Below.refl w.heap.size w);have H:(if (l0.length:Int) > 65535 then (some ([]:List Int)) else ((eB.f (l0.length:Int)).bind fun t162=>((d9.f k t162).bind fun t165=>((d9.f k l0).bind fun t168=>((bX.f (([t162,t165,t168,l0]:List (List Int)))).bind fun t174=>(some t174))))))=some r:=h;clear h
 by_cases c2:(l0.length:Int) > 65535
 ·
  rw [if_pos c2] at H;have c2b0:decide (65535<(l0.length:Int))=true:=decide_eq_true c2;have c2b1:decide (65535<l0.length)=true:=decide_eq_true (by omega);clear c2
  obtain rfl:=Option.some.inj H
  go_enter Tryz.func100,Tryz.ntmps100
  go_wp2
  go_ret
  exact ⟨_,dP,by first | exact Kd.d6 _ _ _ _ _ | exact Kd.gB _ _ _ _ _ | exact Kd.fJ _ _ _ _ _ | exact Kd.gy _ _ _ _ _ | exact Kd.gE _ _ _ _ _,aq⟩
 ·
  rw [if_neg c2] at H;have c2b0:decide (65535<(l0.length:Int))=false:=decide_eq_false c2;have c2b1:decide (65535<l0.length)=false:=decide_eq_false (by omega);clear c2;replace H:=bU H;obtain ⟨t162,A30,H⟩:=H;have A3:=aS A30;clear A30;replace H:=bU H;obtain ⟨t165,A40,H⟩:=H;have A4:=aS A40;clear A40;replace H:=bU H;obtain ⟨t168,A50,H⟩:=H;have A5:=aS A50;clear A50
  obtain ⟨y171,hy171⟩:∃ y_:List (List Int),y_=(([t162,t165,t168,l0]:List (List Int))):=⟨_,rfl⟩
  (first | replace H:=l9 hy171 H | rw [←hy171] at H);have Ny171:=aS hy171;clear hy171;replace H:=bU H;obtain ⟨t174,A60,H⟩:=H;have A6:=aS A60;clear A60
  obtain rfl:=Option.some.inj H
  go_enter Tryz.func100,Tryz.ntmps100
  go_wp2_with (first | ((with_reducible refine gC 86 ?_);refine dn 9 Tryz.func86 #[.int .i64 (l0.length:Int)] ?_;(with_reducible refine (eB.calls (l0.length:Int) t162 _ A3.out).mono ?_);rintro e w7 ⟨v163,rfl,ho0,hb⟩;refine ⟨_,rfl,?_⟩;replace HO0:=aS (Kd.cZ (sel HO0.out) (dm ho0) hb);have HO164:=aS (Kd.bn (Kd.j6 (M:=fun k_=>(w.heap.size≤k_)) ho0 (aA aq) (fun k_ h_=>h_)) (aA aq));replace HB:=aM hb;(try clear hb);(try clear hk);(try clear hi);(try clear ho0);obtain ⟨Ao8,co8,eo8⟩:=Kd.bp HO164.out;subst eo8) | ((with_reducible refine gC 102 ?_);refine dn 12 Tryz.func102 #[.slice Ao8 t162.length co8] ?_;(with_reducible refine (d9.calls k _ _ t162 t165 _ ?side1 ?side2 A4.out).mono ?_);(case side1=>exact eH ((Kd.aY HO164.out).2.2));(case side2=>exact (Kd.aY HO164.out).2.1);rintro e w9 ⟨v166,rfl,ho0,hb⟩;refine ⟨_,rfl,?_⟩;replace HO0:=aS (Kd.cZ (sel HO0.out) (dm ho0) hb);have HO167:=aS (Kd.bn (Kd.cK (Kd.j6 (M:=fun k_=>(w.heap.size≤k_)) ho0 (aA aq) (fun k_ h_=>h_)) (Kd.cP (rel HO164.out))) (aA aq));replace HO164:=aS (Kd.bY (rel HO164.out) (dm ho0) hb);replace HB:=aM hb;(try clear hb);(try clear hk);(try clear hi);(try clear ho0)) | ((with_reducible refine gC 102 ?_);refine dn 14 Tryz.func102 #[.slice A0 l0.length c0] ?_;(with_reducible refine (d9.calls k _ _ l0 t168 _ ?side1 ?side2 A5.out).mono ?_);(case side1=>exact eH ((Kd.dJ HO0.out).2.2));(case side2=>exact (Kd.dJ HO0.out).2.1);rintro e w10 ⟨v169,rfl,ho0,hb⟩;refine ⟨_,rfl,?_⟩;replace HO0:=aS (Kd.cZ (sel HO0.out) (dm ho0) hb);have HO170:=aS (Kd.bn (Kd.cK (Kd.cK (Kd.j6 (M:=fun k_=>(w.heap.size≤k_)) ho0 (aA aq) (fun k_ h_=>h_)) (Kd.cP (rel HO164.out))) (Kd.cP (rel HO167.out))) (aA aq));replace HO164:=aS (Kd.bY (rel HO164.out) (dm ho0) hb);replace HO167:=aS (Kd.bY (rel HO167.out) (dm ho0) hb);replace HB:=aM hb;(try clear hb);(try clear hk);(try clear hi);(try clear ho0);obtain ⟨Ao11,co11,eo11⟩:=Kd.bp HO167.out;subst eo11;obtain ⟨Ao12,co12,eo12⟩:=Kd.bp HO170.out;subst eo12) | ((with_reducible refine gD 16 ?_);refine Kd.Bv (Kd.slice 5 (Kd.int .u8)) _ 51 ?hg (N':=16) ?hd (xs:=([t162,t165,t168,l0]:List (List Int))) (inner:=[.slice Ao8 t162.length co8,.slice Ao11 t165.length co11,.slice Ao12 t168.length co12,.slice A0 l0.length c0]) (ok:=(fun k_=>(P0_ k_∨w.heap.size≤k_))) (okp:=(fun k_=>(P0_ k_∨w.heap.size≤k_))) ?hr ?hp (fun _ hk=>hk) ((show ∀ k_,w10.heap.size≤k_→(fun k_=>(P0_ k_∨w.heap.size≤k_)) k_ from fun k_ hk=>(.inr (Nat.le_trans (aA aq) hk))) _ (Nat.le_refl _)) (Below.refl _ _) (Nat.le_refl _) (by simp) ?_;(case hd=>rfl);(case hg=>rfl);(case hr=>first | (go_simp;done) | (go_simp;rfl));(case hp=>exact (bP.one (show Kd.FK (Kd.slice 5 (Kd.int .u8)) _ _ t162 [.slice Ao8 t162.length co8] from (Kd.eE (Kd.aY (Kd.aK (ok':=(fun k_=>(P0_ k_∨w.heap.size≤k_))) (HO164.out) (fun k_ hk=>(.inr (hk.1.1.1))))).2.1 (Kd.oq (Kd.aK (ok':=(fun k_=>(P0_ k_∨w.heap.size≤k_))) (HO164.out) (fun k_ hk=>(.inr (hk.1.1.1))))))) (bP.one (show Kd.FK (Kd.slice 5 (Kd.int .u8)) _ _ t165 [.slice Ao11 t165.length co11] from (Kd.eE (Kd.aY (Kd.aK (ok':=(fun k_=>(P0_ k_∨w.heap.size≤k_))) (HO167.out) (fun k_ hk=>(.inr (hk.1.1.1))))).2.1 (Kd.oq (Kd.aK (ok':=(fun k_=>(P0_ k_∨w.heap.size≤k_))) (HO167.out) (fun k_ hk=>(.inr (hk.1.1.1))))))) (bP.one (show Kd.FK (Kd.slice 5 (Kd.int .u8)) _ _ t168 [.slice Ao12 t168.length co12] from (Kd.eE (Kd.aY (Kd.aK (ok':=(fun k_=>(P0_ k_∨w.heap.size≤k_))) (HO170.out) (fun k_ hk=>(.inr (hk.1.1.1))))).2.1 (Kd.oq (Kd.aK (ok':=(fun k_=>(P0_ k_∨w.heap.size≤k_))) (HO170.out) (fun k_ hk=>(.inr (hk.1.1.1))))))) (bP.one (show Kd.FK (Kd.slice 5 (Kd.int .u8)) _ _ l0 [.slice A0 l0.length c0] from (Kd.eE (Kd.dJ (Kd.ep (ok':=(fun k_=>(P0_ k_∨w.heap.size≤k_))) (HO0.out) (fun k_ hk=>hk.1.1.1))).2.1 (Kd.V_F (Kd.ep (ok':=(fun k_=>(P0_ k_∨w.heap.size≤k_))) (HO0.out) (fun k_ hk=>hk.1.1.1))))) (bP.none _ _))))));intro v172 w13 ho14 hb hg_ hnew_;clear hg_ hnew_;(first | rw [←Ny171.out] at ho14 | (simp only [Int.reduceToNat] at ho14;rw [←Ny171.out] at ho14));have n0_:=aS (Kd.cZ (sel HO0.out) (by first | exact Kd.qB ho14 | exact Kd.kJ ho14 | exact Kd.gi ho14 | exact Kd.V_base ho14) hb);have n1_:=aS (Kd.qz ho14 (aA aq));have n2_:=aM hb;clear HO0;clear HB;clear HO164;clear HO167;clear HO170;have HO0:=n0_;have HO173:=n1_;have HB:=n2_;clear n0_ n1_ n2_;clear hb ho14;obtain ⟨Ao15,co15,eo15⟩:=Kd.qq HO173.out;subst eo15) | ((with_reducible refine gC 84 ?_);refine dn 17 Tryz.func84 #[.slice Ao15 y171.length co15] ?_;(with_reducible refine (bX.calls _ _ y171 t174 _ ?side1 ?side2 A6.out).mono ?_);(case side1=>exact eH ((Kd.j3 HO173.out).2.2));(case side2=>exact (Kd.j3 HO173.out).2.1);rintro e w16 ⟨v175,rfl,ho0,hb⟩;refine ⟨_,rfl,?_⟩;replace HO0:=aS (Kd.cZ (sel HO0.out) (dm ho0) hb);replace HO173:=aS (Kd.pG (by (with_reducible repeat (first | apply Kd.oR | apply Kd.oV | apply Kd.qv));exact HO173.out) (dm ho0) hb);have HO176:=aS (Kd.bn (Kd.j6 (M:=fun k_=>(w.heap.size≤k_)) ho0 (aA aq) (fun k_ h_=>h_)) (aA aq));replace HB:=aM hb;(try clear hb);(try clear hk);(try clear hi);(try clear ho0)))
  go_ret
  exact ⟨_,dP,by (with_reducible repeat (first | apply Kd.bB | apply Kd.bC | apply Kd.bD));exact Kd.aK HO176.out (fun _ hk=>hk.1),aq⟩
mutual
def cJ.j0:Nat→List (au)→Bool→Option (List Int × Int)
 | 0,_,_=>none
 | k+1,x0,x15=>if x15=true then (some (([]:List Int),1)) else ((eB.f (x0.length:Int)).bind fun t178=>(cJ.l0 k t178 x0 (x0.length:Int) 0))
def cJ.l0:Nat→List Int→List (au)→Int→Int→Option (List Int × Int)
 | 0,_,_,_,_=>none
 | k+1,x4,x19,x20,x21=>if x21<x20 then (if 0≤x21 then (if x21<(x19.length:Int) then ((dh.f ((af x19 x21).f0) ((af x19 x21).f1) ((af x19 x21).f2) ((af x19 x21).f3) ((af x19 x21).f4)).bind fun t183=>(if x4.length+t183.length<140737488355328 then (cJ.l0 k (x4++t183) x19 x20 (wrap64 (x21+1))) else (none))) else (none)) else (none)) else ((fj.f k x4).bind fun t189=>(if (t189.length:Int)=0 then (some (([]:List Int),1)) else (some (t189,0))))
end
def cJ.f (k:Nat) (l0:List (au)):Option (List Int × Int):=(aQ.f k l0).bind fun t177=>(if t177=true then (cJ.j0 k l0 ((l0.length:Int) == 0)) else (cJ.j0 k l0 true))
theorem cJ.cF:∀ k,(∀ y0 y1,aH (cJ.j0 k y0 y1) (cJ.j0 (k+1) y0 y1))∧(∀ y0 y1 y2 y3,aH (cJ.l0 k y0 y1 y2 y3) (cJ.l0 (k+1) y0 y1 y2 y3))
 | 0=>⟨fun _ _ r h=>by simp [cJ.j0] at h,fun _ _ _ _ r h=>by simp [cJ.l0] at h⟩
 | k+1=>by
  obtain ⟨ih0,ih1⟩:=cJ.cF k;refine ⟨?_,?_⟩
  ·
   intro y0 y1
   unfold cJ.j0
   have m0:=@aQ.mono;have m1:=@fj.mono;exact eF
  ·
   intro y0 y1 y2 y3
   unfold cJ.l0
   have m0:=@aQ.mono;have m1:=@fj.mono;exact eF
theorem cJ.mono:∀ a0 k,aH (cJ.f k a0) (cJ.f (k+1) a0):=by
 intro a0 k
 obtain ⟨ih0,ih1⟩:=cJ.cF k
 unfold cJ.f
 have m0:=@aQ.mono;have m1:=@fj.mono;exact eF
theorem cJ.calls (k:Nat) (A0:Option Addr) (c0:Nat) (l0:List (au)) (r1:List Int) (r2:Int) (w:World) (hr0:Kd.C cm w A0 l0.length l0) (hc0:l0.length≤c0) (h:cJ.f k l0=some (r1,r2)) :
  Calls Tryz.prog 98 #[.slice A0 l0.length c0] w fun e w'=>∃ v0_:Value,e = .returned (.tuple #[v0_,.int .i64 r2])∧Kd.R (Kd.int .u8) 5 w' w.heap.size (fun _=>True) v0_ r1∧Below w.heap.size w w':=by
 have hu34:=Tryz.underlying34;have HR0:=aS hr0;have HC0:=aS hc0;clear hr0 hc0;have HB:=aS (Below.refl w.heap.size w);have H:((aQ.f k l0).bind fun t177=>(if t177=true then (cJ.j0 k l0 ((l0.length:Int) == 0)) else (cJ.j0 k l0 true)))=some (r1,r2):=h;clear h;have HC2:=aS H;clear H
 go_enter Tryz.func98,Tryz.ntmps98
 go_upto_region 1 with (fail)
 go_cut [15] (fun v15 wc=>∃ (kq:Nat) (x15_1:Bool),v15 = .bool x15_1∧ah (cJ.j0 kq l0 x15_1=some (r1,r2))∧ah (kq≤k)∧ah (Below w.heap.size w wc))
 case first=>
  have H:=HC2.out;clear HC2;replace H:=bU H;obtain ⟨t177,A30,H⟩:=H;have A3:=aS A30;clear A30
  by_cases c4:t177=true
  ·
   subst c4
   replace H:=jy H
   have H':=aS H
   clear H
   go_wp2_with (first | ((with_reducible refine gC 73 ?_);refine dn 9 Tryz.func73 #[.slice A0 l0.length c0] ?_;(with_reducible refine (aQ.calls k _ _ l0 true _ ?side1 ?side2 A3.out).mono ?_);(case side1=>exact eH (Kd.cH HR0.out HB.out));(case side2=>exact HC0.out);rintro e w5 ⟨rfl,hb⟩;refine ⟨_,rfl,?_⟩;replace HB:=aM hb;(try clear hb);(try clear hk);(try clear hi)))
   go_meet
   case rel=>exact ⟨_,(((l0.length:Int) == 0)),cG,H',⟨by first | omega | exact Nat.le_refl _⟩,⟨aq⟩⟩
  ·
   replace c4:=Bool.eq_false_iff.mpr c4;subst c4
   replace H:=jw H
   have H':=aS H
   clear H
   go_wp2_with (first | ((with_reducible refine gC 73 ?_);refine dn 9 Tryz.func73 #[.slice A0 l0.length c0] ?_;(with_reducible refine (aQ.calls k _ _ l0 false _ ?side1 ?side2 A3.out).mono ?_);(case side1=>exact eH (Kd.cH HR0.out HB.out));(case side2=>exact HC0.out);rintro e w6 ⟨rfl,hb⟩;refine ⟨_,rfl,?_⟩;replace HB:=aM hb;(try clear hb);(try clear hk);(try clear hi)))
   go_meet
   case rel=>exact ⟨_,(true),cG,H',⟨by first | omega | exact Nat.le_refl _⟩,⟨aq⟩⟩
 case rest=>
  clear HC2;obtain ⟨kq,x15_1,rfl,HA,HJ1,HB⟩:=hcut
  cases kq with
  | zero=>exact absurd HA.out (by simp [cJ.j0])
  | succ kj1=>
   have H:=HA.out;clear HA
   simp only [cJ.j0] at H
   by_cases c7:x15_1=true
   ·
    subst c7
    replace H:=jy H
    simp only [Option.some.injEq,Prod.mk.injEq] at H
    obtain ⟨rfl,rfl⟩:=H
    go_wp2
    go_ret2
    exact ⟨_,dP,by first | exact Kd.d6 _ _ _ _ _ | exact Kd.gB _ _ _ _ _ | exact Kd.fJ _ _ _ _ _ | exact Kd.gy _ _ _ _ _ | exact Kd.gE _ _ _ _ _,aq⟩
   ·
    replace c7:=Bool.eq_false_iff.mpr c7;subst c7
    replace H:=jw H;replace H:=bU H;obtain ⟨t178,A80,H⟩:=H;have A8:=aS A80;clear A80
    have H':=aS H
    clear H
    go_wp2_with (first | ((with_reducible refine gC 86 ?_);refine dn 18 Tryz.func86 #[.int .i64 (l0.length:Int)] ?_;(with_reducible refine (eB.calls (l0.length:Int) t178 _ A8.out).mono ?_);rintro e w9 ⟨v179,rfl,ho0,hb⟩;refine ⟨_,rfl,?_⟩;have HO180:=aS (Kd.bn ho0 (aA aq));replace HB:=aM hb;(try clear hb);(try clear hk);(try clear hi);(try clear ho0)))
    go_loopg [4,21] kj1 (fun kq v4 v21 w'=>∃ (x4_2:List Int) (x21_2:Int),v21 = .int .i64 x21_2∧ah (cJ.l0 kq x4_2 l0 (l0.length:Int) x21_2=some (r1,r2))∧ah (kq≤kj1)∧ah (Kd.R (Kd.int .u8) 5 w' w.heap.size (fun _=>True) v4 x4_2)∧ah (Below w.heap.size w w'))
    case atStart=>exact ⟨(t178),(0),cG,H',⟨Nat.le_refl _⟩,⟨by (with_reducible repeat (first | apply Kd.bB | apply Kd.bC | apply Kd.bD));exact HO180.out⟩,⟨aq⟩⟩
    case round=>
     clear H';(try clear c7);obtain ⟨x4_2,x21_2,rfl,HA,HK2,HO_4,HB⟩:=hrel
     cases gk with
     | zero=>exact absurd HA.out (by simp [cJ.l0])
     | succ k2=>
      have H:=HA.out;clear HA
      simp only [cJ.l0] at H
      by_cases ef:x21_2<(l0.length:Int)
      ·
       rw [if_pos ef] at H;have c10b0:decide (x21_2<(l0.length:Int))=true:=decide_eq_true ef;clear ef
       by_cases c11:0≤x21_2
       ·
        rw [if_pos c11] at H;have c11b0:decide (0≤x21_2)=true:=decide_eq_true c11;clear c11
        by_cases c12:x21_2<(l0.length:Int)
        ·
         rw [if_pos c12] at H;have c12b0:decide (x21_2<(l0.length:Int))=true:=decide_eq_true c12;clear c12;replace H:=bU H;obtain ⟨t183,A130,H⟩:=H;have A13:=aS A130;clear A130
         by_cases c14:x4_2.length+t183.length<140737488355328
         ·
          rw [if_pos c14] at H;have LMc14:=aS c14;clear c14
          obtain ⟨y186,hy186⟩:∃ y_:List Int,y_=(x4_2++t183):=⟨_,rfl⟩
          (first | replace H:=l9 hy186 H | rw [←hy186] at H);have Ny186:=aS hy186;clear hy186
          have H':=aS H
          clear H;have p181:0≤(x21_2:Int):=bJ;have q181:x21_2<(l0.length:Int):=bJ;obtain ⟨ad181,e181,hx181_0,hx181_1,hx181_2,hx181_3,hx181_4⟩:=dN HR0.out x21_2 p181 q181;cases e181;replace hx181_0:=bx aq hx181_0;replace hx181_1:=bx aq hx181_1;replace hx181_2:=bx aq hx181_2;replace hx181_3:=bx aq hx181_3;replace hx181_4:=bx aq hx181_4;replace p181:=eq_true p181;replace q181:=eq_true q181
          go_wp2_with (first | ((with_reducible refine gD 6 ?_);(try (refine ez (by rfl) ?_;dsimp only));refine dK 6 #[.string (⟨#[]⟩:ByteArray),.string (⟨#[]⟩:ByteArray),.int .i64 0,.string (⟨#[]⟩:ByteArray),.bool false] 34 ?_;intro gb182 hg w15 hbox hb;replace HO_4:=aS (Kd.dB (rel HO_4.out) hb);have BK182:=aS (hbox);have GW182:=bsize hg;have GE182:=bsize hg;replace HB:=aM hb;clear hb hbox hg;have hcz16:=cO BK182) | ((with_reducible refine gC 65 ?_);refine dn 27 Tryz.func65 #[.agg #[.string ((af l0 x21_2).f0),.string ((af l0 x21_2).f1),.int .i64 ((af l0 x21_2).f2),.string ((af l0 x21_2).f3),.bool ((af l0 x21_2).f4)]] ?_;(with_reducible refine (dh.calls ((af l0 x21_2).f0) ((af l0 x21_2).f1) ((af l0 x21_2).f2) ((af l0 x21_2).f3) ((af l0 x21_2).f4) t183 _ A13.out).mono ?_);rintro e w17 ⟨v184,rfl,ho0,hb⟩;refine ⟨_,rfl,?_⟩;have HO185:=aS (Kd.bn (Kd.cK ho0 (Kd.cP (by (with_reducible repeat (first | apply Kd.bB | apply Kd.bC | apply Kd.bD));exact (Kd.aK (Kd.fe (p:=⟨gb182,4,none⟩) (Kd.fe (p:=⟨gb182,3,none⟩) (Kd.fe (p:=⟨gb182,2,none⟩) (Kd.fe (p:=⟨gb182,1,none⟩) (Kd.fe (p:=⟨gb182,0,none⟩) (Kd.gP HO_4.out BK182.out (by decide)) (fun _ hk=>hk.2) (.string ((af l0 x21_2).f0))) (fun _ hk=>hk.2) (.string ((af l0 x21_2).f1))) (fun _ hk=>hk.2) (.int .i64 ((af l0 x21_2).f2))) (fun _ hk=>hk.2) (.string ((af l0 x21_2).f3))) (fun _ hk=>hk.2) (.bool ((af l0 x21_2).f4))) (fun _ h_=>h_.1))))) (aA aq));replace HO_4:=aS (Kd.bY (by (with_reducible repeat (first | apply Kd.bB | apply Kd.bC | apply Kd.bD));exact (Kd.aK (Kd.fe (p:=⟨gb182,4,none⟩) (Kd.fe (p:=⟨gb182,3,none⟩) (Kd.fe (p:=⟨gb182,2,none⟩) (Kd.fe (p:=⟨gb182,1,none⟩) (Kd.fe (p:=⟨gb182,0,none⟩) (Kd.gP HO_4.out BK182.out (by decide)) (fun _ hk=>hk.2) (.string ((af l0 x21_2).f0))) (fun _ hk=>hk.2) (.string ((af l0 x21_2).f1))) (fun _ hk=>hk.2) (.int .i64 ((af l0 x21_2).f2))) (fun _ hk=>hk.2) (.string ((af l0 x21_2).f3))) (fun _ hk=>hk.2) (.bool ((af l0 x21_2).f4))) (fun _ h_=>h_.1))) (dm ho0) hb);replace BK182:=aS (aI (g:=gb182) (o:=.cells #[.string ((af l0 x21_2).f0),.string ((af l0 x21_2).f1),.int .i64 ((af l0 x21_2).f2),.string ((af l0 x21_2).f3),.bool ((af l0 x21_2).f4)] 34 (0,0)) (by (with_reducible repeat (first | refine ay ?_ _ | refine ar ?_ | refine ax ?_ _));refine bk (cs:=#[.string ((af l0 x21_2).f0),.string ((af l0 x21_2).f1),.int .i64 ((af l0 x21_2).f2),.string ((af l0 x21_2).f3),.bool false]) ?_ 4 _ rfl;(with_reducible repeat (first | refine ay ?_ _ | refine ar ?_ | refine ax ?_ _));refine bk (cs:=#[.string ((af l0 x21_2).f0),.string ((af l0 x21_2).f1),.int .i64 ((af l0 x21_2).f2),.string (⟨#[]⟩:ByteArray),.bool false]) ?_ 3 _ rfl;(with_reducible repeat (first | refine ay ?_ _ | refine ar ?_ | refine ax ?_ _));refine bk (cs:=#[.string ((af l0 x21_2).f0),.string ((af l0 x21_2).f1),.int .i64 0,.string (⟨#[]⟩:ByteArray),.bool false]) ?_ 2 _ rfl;(with_reducible repeat (first | refine ay ?_ _ | refine ar ?_ | refine ax ?_ _));refine bk (cs:=#[.string ((af l0 x21_2).f0),.string (⟨#[]⟩:ByteArray),.int .i64 0,.string (⟨#[]⟩:ByteArray),.bool false]) ?_ 1 _ rfl;(with_reducible repeat (first | refine ay ?_ _ | refine ar ?_ | refine ax ?_ _));refine bk (cs:=#[.string (⟨#[]⟩:ByteArray),.string (⟨#[]⟩:ByteArray),.int .i64 0,.string (⟨#[]⟩:ByteArray),.bool false]) ?_ 0 _ rfl;(with_reducible repeat (first | refine ay ?_ _ | refine ar ?_ | refine ax ?_ _));exact BK182.out) hb);replace HB:=aM hb;(try clear hb);(try clear hk);(try clear hi);(try clear ho0);obtain ⟨Ao19,co19,eo19⟩:=Kd.bp HO185.out;subst eo19) | ((with_reducible refine fS (b:=.append) (xs:=#[.tmp 25,.tmp 27]) rfl ?_);(try (refine ez (by rfl) ?_;dsimp only));at_builtin;refine Kd.jl (Kd.int .u8) (w0:=w) w.heap.size rfl (.tmp 25) (.tmp 27) 51 5 (.int .u8 0) 1 rfl Tryz.underlying51 gL rfl (by decide) (by omega) u4 x4_2 t183 _ _ _ (fun k_=>some k_≠(.slice Ao19 t183.length co19:Value).ownBlock) (fun _=>False) rfl rfl ?aO ?aR (fun _ _ h=>h) (fun _ h=>h.elim) ?aF ?aB ?aS ?aL ?_;(case aR=>exact eH ((Kd.aY HO185.out).2.2));(case aB=>exact aq);(case aF=>exact (fun k_ hk=>Kd.iD (Kd.cP (rel HO185.out)) k_ hk));(case aO=>exact (rel (Kd.aK HO_4.out (fun _ hk=>hk.2))));(case aS=>exact (aA aq));(case aL=>have:=LMc14.out;omega);intro v187 w18 ho hb hg hat;rw [←Ny186.out] at ho;have n0_:=aS (eP (g:=gb182) (o:=.cells #[.string ((af l0 x21_2).f0),.string ((af l0 x21_2).f1),.int .i64 ((af l0 x21_2).f2),.string ((af l0 x21_2).f3),.bool ((af l0 x21_2).f4)] 34 (0,0)) (eA BK182.out) hg (Kd.lZ HO_4.out BK182.out (by decide)));have n1_:=aS (Kd.ju (ok:=(fun _=>True)) (rel HO185.out) hg hat);have n2_:=aS (hb);have n3_:=aS (ho);clear BK182;clear HO185;clear HB;clear HO_4;have BK182:=n0_;have HO185:=n1_;have HB:=n2_;have HO188:=n3_;clear n0_ n1_ n2_ n3_;clear ho hb hg hat))
          go_roundg k2
          case measure=>have:=HJ1.out;have:=HK2.out;omega
          case rel=>exact ⟨(y186),(wrap64 (x21_2+1)),cG,H',⟨by have:=HJ1.out;have:=HK2.out;omega⟩,⟨by (with_reducible repeat (first | apply Kd.bB | apply Kd.bC | apply Kd.bD));exact Kd.aK HO188.out (fun _ hk=>trivial)⟩,⟨aq⟩⟩
         ·
          rw [if_neg c14] at H;exact absurd H (by simp)
        ·
         rw [if_neg c12] at H;exact absurd H (by simp)
       ·
        rw [if_neg c11] at H;exact absurd H (by simp)
      ·
       rw [if_neg ef] at H;have c10b0:decide (x21_2<(l0.length:Int))=false:=decide_eq_false ef;clear ef;replace H:=bU H;obtain ⟨t189,A200,H⟩:=H;have A20:=aS A200;clear A200
       by_cases c21:(t189.length:Int)=0
       ·
        rw [if_pos c21] at H;obtain ⟨c21b0,c21b1⟩:=jh c21;clear c21
        simp only [Option.some.injEq,Prod.mk.injEq] at H
        obtain ⟨rfl,rfl⟩:=H;obtain ⟨Ao22,co22,eo22⟩:=Kd.bp HO_4.out;subst eo22
        go_wp2_with (first | ((with_reducible refine gC 100 ?_);refine dn 31 Tryz.func100 #[.slice Ao22 x4_2.length co22] ?_;(with_reducible refine (fj.calls k2 (fun k_=>some k_=(.slice Ao22 x4_2.length co22:Value).ownBlock) _ _ x4_2 t189 _ ?side1 A20.out).mono ?_);(case side1=>exact Kd.wC (Kd.jL rfl (HO_4.out)));rintro e w23 ⟨v190,rfl,ho0,hb⟩;refine ⟨_,rfl,?_⟩;have HO191:=aS (Kd.bn (Kd.cK (Kd.aK (ok':=fun k_=>True) ho0 (fun _ hk_=>trivial)) (Kd.cP (rel HO_4.out))) (aA aq));replace HO_4:=aS (Kd.bY (rel HO_4.out) (dm ho0) hb);replace HB:=aM hb;(try clear hb);(try clear hk);(try clear hi);(try clear ho0);obtain ⟨Ao24,co24,eo24⟩:=Kd.bp HO191.out;subst eo24))
        go_ret2
        exact ⟨_,dP,by first | exact Kd.d6 _ _ _ _ _ | exact Kd.gB _ _ _ _ _ | exact Kd.fJ _ _ _ _ _ | exact Kd.gy _ _ _ _ _ | exact Kd.gE _ _ _ _ _,aq⟩
       ·
        rw [if_neg c21] at H;obtain ⟨c21b0,c21b1⟩:=iT c21
        have c21b2:¬ (t189=[]):=fun h_=>c21 (by rw [h_];rfl)
        simp only [Option.some.injEq,Prod.mk.injEq] at H
        obtain ⟨rfl,rfl⟩:=H;obtain ⟨Ao25,co25,eo25⟩:=Kd.bp HO_4.out;subst eo25
        go_wp2_with (first | ((with_reducible refine gC 100 ?_);refine dn 31 Tryz.func100 #[.slice Ao25 x4_2.length co25] ?_;(with_reducible refine (fj.calls k2 (fun k_=>some k_=(.slice Ao25 x4_2.length co25:Value).ownBlock) _ _ x4_2 t189 _ ?side1 A20.out).mono ?_);(case side1=>exact Kd.wC (Kd.jL rfl (HO_4.out)));rintro e w26 ⟨v190,rfl,ho0,hb⟩;refine ⟨_,rfl,?_⟩;have HO191:=aS (Kd.bn (Kd.cK (Kd.aK (ok':=fun k_=>True) ho0 (fun _ hk_=>trivial)) (Kd.cP (rel HO_4.out))) (aA aq));replace HO_4:=aS (Kd.bY (rel HO_4.out) (dm ho0) hb);replace HB:=aM hb;(try clear hb);(try clear hk);(try clear hi);(try clear ho0);obtain ⟨Ao27,co27,eo27⟩:=Kd.bp HO191.out;subst eo27))
        go_ret2
        exact ⟨_,dP,by (with_reducible repeat (first | apply Kd.bB | apply Kd.bC | apply Kd.bD));exact Kd.aK HO191.out (fun _ hk=>trivial),aq⟩
def nY.f (a0_0:ByteArray) (a0_1:ByteArray) (a0_2:Int) (a0_3:ByteArray) (a0_4:Bool):Option (ByteArray × ByteArray × Int × ByteArray × Bool):=some (a0_0,a0_1,a0_2,(⟨#[]⟩:ByteArray),false)
theorem nY.calls (a0_0:ByteArray) (a0_1:ByteArray) (a0_2:Int) (a0_3:ByteArray) (a0_4:Bool) (r1:ByteArray) (r2:ByteArray) (r3:Int) (r4:ByteArray) (r5:Bool) (w:World) (h:nY.f a0_0 a0_1 a0_2 a0_3 a0_4=some (r1,r2,r3,r4,r5)) :
  Calls Tryz.prog 99 #[.agg #[.string a0_0,.string a0_1,.int .i64 a0_2,.string a0_3,.bool a0_4]] w fun e w'=>e = .returned (.agg #[.string r1,.string r2,.int .i64 r3,.string r4,.bool r5])∧Below w.heap.size w w':=by
 have hu34:=Tryz.underlying34;have HB:=aS (Below.refl w.heap.size w);have H:(some (a0_0,a0_1,a0_2,(⟨#[]⟩:ByteArray),false))=some (r1,r2,r3,r4,r5):=h;clear h
 simp only [Option.some.injEq,Prod.mk.injEq] at H
 obtain ⟨rfl,rfl,rfl,rfl,rfl⟩:=H
 go_enter Tryz.func99,Tryz.ntmps99
 go_wp2_with (first | ((with_reducible refine gD 1 ?_);refine dK 1 #[.string a0_0,.string a0_1,.int .i64 a0_2,.string a0_3,.bool a0_4] 34 ?_;intro gb192 hg w2 hbox hb;have BK192:=aS (hbox);have GW192:=bsize hg;have GE192:=bsize hg;replace HB:=aM hb;clear hb hbox hg) | ((with_reducible refine gD 2 ?_);refine dK 2 #[.string (⟨#[]⟩:ByteArray),.string (⟨#[]⟩:ByteArray),.int .i64 0,.string (⟨#[]⟩:ByteArray),.bool false] 34 ?_;intro gb193 hg w3 hbox hb;have BK193:=aS (hbox);have GW193:=bsize hg;have GE193:=bsize hg;replace HB:=aM hb;have NB192_193:=aS ((by rw [hg];exact Nat.ne_of_lt (cR (g:=gb192) (o:=.cells #[.string a0_0,.string a0_1,.int .i64 a0_2,.string a0_3,.bool a0_4] 34 (0,0)) (eA BK192.out)):gb192≠gb193));have NB193_192:=aS ((by rw [hg];exact Nat.ne_of_gt (cR (g:=gb192) (o:=.cells #[.string a0_0,.string a0_1,.int .i64 a0_2,.string a0_3,.bool a0_4] 34 (0,0)) (eA BK192.out)):gb193≠gb192));replace BK192:=fp BK192 hb;clear hb hbox hg;have hnb4:=NB192_193.out;have hnc4:=NB193_192.out;have hcz5:=cO BK192;have hcz6:=cO BK193))
 refine bodyPost_ret (results_cell_row rfl _ _ gb193 34 #[.string a0_0,.string a0_1,.int .i64 a0_2,.string (⟨#[]⟩:ByteArray),.bool false] (0,0) _ rfl (by (with_reducible repeat (first | refine ay ?_ _ | refine ar ?_ | refine ax ?_ _));refine bk (cs:=#[.string a0_0,.string a0_1,.int .i64 a0_2,.string (⟨#[]⟩:ByteArray),.bool false]) ?_ 4 _ rfl;(with_reducible repeat (first | refine ay ?_ _ | refine ar ?_ | refine ax ?_ _));refine bk (cs:=#[.string a0_0,.string a0_1,.int .i64 a0_2,.string (⟨#[]⟩:ByteArray),.bool false]) ?_ 3 _ rfl;(with_reducible repeat (first | refine ay ?_ _ | refine ar ?_ | refine ax ?_ _));refine bk (cs:=#[.string a0_0,.string a0_1,.int .i64 0,.string (⟨#[]⟩:ByteArray),.bool false]) ?_ 2 _ rfl;(with_reducible repeat (first | refine ay ?_ _ | refine ar ?_ | refine ax ?_ _));refine bk (cs:=#[.string a0_0,.string (⟨#[]⟩:ByteArray),.int .i64 0,.string (⟨#[]⟩:ByteArray),.bool false]) ?_ 1 _ rfl;(with_reducible repeat (first | refine ay ?_ _ | refine ar ?_ | refine ax ?_ _));refine bk (cs:=#[.string (⟨#[]⟩:ByteArray),.string (⟨#[]⟩:ByteArray),.int .i64 0,.string (⟨#[]⟩:ByteArray),.bool false]) ?_ 0 _ rfl;(with_reducible repeat (first | refine ay ?_ _ | refine ar ?_ | refine ax ?_ _));exact BK193.out) Tryz.underlying34 rfl (by kernel_rfl)) rfl ?_;exact ⟨dP,aq⟩
def cS.l0:Nat→List Int→List Int→List Int→List (List (au))→Int→Int→Option (List Int × List Int × Int)
 | 0,_,_,_,_,_,_=>none
 | k+1,x1,x7,x8,x16,x17,x18=>if x18<x17 then (if 0≤x18 then (if x18<(x16.length:Int) then ((cJ.f k (aN x16 x18)).bind fun bt198=>(if bt198.2=0 then (if 0<((aN x16 x18).length:Int) then ((nY.f ((af (aN x16 x18) 0).f0) ((af (aN x16 x18) 0).f1) ((af (aN x16 x18) 0).f2) ((af (aN x16 x18) 0).f3) ((af (aN x16 x18) 0).f4)).bind fun bt203=>((dh.f bt203.1 bt203.2.1 bt203.2.2.1 bt203.2.2.2.1 bt203.2.2.2.2).bind fun t208=>((eB.f (x7.length:Int)).bind fun t211=>((bX.f (([x8,t208,t211]:List (List Int)))).bind fun t217=>(if x7.length+bt198.1.length<140737488355328 then (cS.l0 k x1 (x7++bt198.1) t217 x16 x17 (wrap64 (x18+1))) else (none)))))) else (none)) else (some (([]:List Int),([]:List Int),bt198.2)))) else (none)) else (none)) else ((er.f (strOfNums x1)).bind fun t223=>(if x8.length+t223.length<140737488355328 then ((fj.f k (x8++t223)).bind fun t229=>(if (t229.length:Int)=0 then (some (([]:List Int),([]:List Int),1)) else (some (x7,t229,0)))) else (none)))
def cS.f (k:Nat) (l0:List (List (au))) (l1:List Int):Option (List Int × List Int × Int):=(eB.f (l0.length:Int)).bind fun t194=>(cS.l0 k l1 ([]:List Int) t194 l0 (l0.length:Int) 0)
theorem cS.cF:∀ k,(∀ y0 y1 y2 y3 y4 y5,aH (cS.l0 k y0 y1 y2 y3 y4 y5) (cS.l0 (k+1) y0 y1 y2 y3 y4 y5))
 | 0=>fun _ _ _ _ _ _ r h=>by simp [cS.l0] at h
 | k+1=>by
  have ih0:=cS.cF k
  ·
   intro y0 y1 y2 y3 y4 y5
   unfold cS.l0
   have m0:=@cJ.mono;have m1:=@fj.mono;exact eF
theorem cS.mono:∀ a0 a1 k,aH (cS.f k a0 a1) (cS.f (k+1) a0 a1):=by
 intro a0 a1 k
 have ih0:=cS.cF k
 unfold cS.f
 have m0:=@cJ.mono;have m1:=@fj.mono;exact eF
theorem cS.calls (k:Nat) (A0:Option Addr) (c0:Nat) (l0:List (List (au))) (A1:Option Addr) (c1:Nat) (l1:List Int) (r1:List Int) (r2:List Int) (r3:Int) (w:World) (hr0:Kd.C (Kd.slice 34 cm) w A0 l0.length l0) (hc0:l0.length≤c0) (hr1:Kd.C (Kd.int .u8) w A1 l1.length l1) (hc1:l1.length≤c1) (h:cS.f k l0 l1=some (r1,r2,r3)) :
  Calls Tryz.prog 89 #[.slice A0 l0.length c0,.slice A1 l1.length c1] w fun e w'=>∃ v0_ v1_:Value,e = .returned (.tuple #[v0_,v1_,.int .i64 r3])∧Kd.R (Kd.int .u8) 5 w' w.heap.size (fun k_=>some k_≠(v1_:Value).ownBlock) v0_ r1∧Kd.R (Kd.int .u8) 5 w' w.heap.size (fun k_=>some k_≠(v0_:Value).ownBlock) v1_ r2∧Below w.heap.size w w':=by
 have hu34:=Tryz.underlying34;have HR0:=aS hr0;have HC0:=aS hc0;clear hr0 hc0;have HR1:=aS hr1;have HC1:=aS hc1;clear hr1 hc1;have HB:=aS (Below.refl w.heap.size w);have H:((eB.f (l0.length:Int)).bind fun t194=>(cS.l0 k l1 ([]:List Int) t194 l0 (l0.length:Int) 0))=some (r1,r2,r3):=h;clear h;replace H:=bU H;obtain ⟨t194,A30,H⟩:=H;have A3:=aS A30;clear A30
 have H':=aS H
 clear H
 go_enter Tryz.func89,Tryz.ntmps89
 go_wp2_with (first | ((with_reducible refine gC 86 ?_);refine dn 15 Tryz.func86 #[.int .i64 (l0.length:Int)] ?_;(with_reducible refine (eB.calls (l0.length:Int) t194 _ A3.out).mono ?_);rintro e w4 ⟨v195,rfl,ho0,hb⟩;refine ⟨_,rfl,?_⟩;have HO196:=aS (Kd.bn ho0 (aA aq));replace HB:=aM hb;(try clear hb);(try clear hk);(try clear hi);(try clear ho0)))
 go_loopg [7,8,18] k (fun kq v7 v8 v18 w'=>∃ (x7_1:List Int) (x8_1:List Int) (x18_1:Int),v18 = .int .i64 x18_1∧ah (cS.l0 kq l1 x7_1 x8_1 l0 (l0.length:Int) x18_1=some (r1,r2,r3))∧ah (kq≤k)∧ah (Kd.R (Kd.int .u8) 5 w' w.heap.size (fun k_=>some k_≠(v8:Value).ownBlock) v7 x7_1)∧ah (Kd.R (Kd.int .u8) 5 w' w.heap.size (fun k_=>some k_≠(v7:Value).ownBlock) v8 x8_1)∧ah (Below w.heap.size w w'))
 case atStart=>exact ⟨(([]:List Int)),(t194),(0),cG,H',⟨Nat.le_refl _⟩,⟨by first | exact Kd.d6 _ _ _ _ _ | exact Kd.gB _ _ _ _ _ | exact Kd.fJ _ _ _ _ _ | exact Kd.gy _ _ _ _ _ | exact Kd.gE _ _ _ _ _⟩,⟨by (with_reducible repeat (first | apply Kd.bB | apply Kd.bC | apply Kd.bD));exact Kd.aK HO196.out (fun _ hk=>(by simp [Value.ownBlock]))⟩,⟨aq⟩⟩
 case round=>
  clear H';(try clear c1);obtain ⟨x7_1,x8_1,x18_1,rfl,HA,HK1,HO_7,HO_8,HB⟩:=hrel
  cases gk with
  | zero=>exact absurd HA.out (by simp [cS.l0])
  | succ k1=>
   have H:=HA.out;clear HA
   simp only [cS.l0] at H
   by_cases c5:x18_1<(l0.length:Int)
   ·
    rw [if_pos c5] at H;have c5b0:decide (x18_1<(l0.length:Int))=true:=decide_eq_true c5;clear c5
    by_cases c6:0≤x18_1
    ·
     rw [if_pos c6] at H;have c6b0:decide (0≤x18_1)=true:=decide_eq_true c6;clear c6
     by_cases c7:x18_1<(l0.length:Int)
     ·
      rw [if_pos c7] at H;have c7b0:decide (x18_1<(l0.length:Int))=true:=decide_eq_true c7;clear c7;replace H:=bU H;obtain ⟨⟨t198,t199⟩,A80,H⟩:=H;(try dsimp only at H);have A8:=aS A80;clear A80
      by_cases c9:t199=0
      ·
       rw [if_pos c9] at H;obtain ⟨c9b0,c9b1⟩:=jh c9;clear c9
       by_cases ef:0<((aN l0 x18_1).length:Int)
       ·
        rw [if_pos ef] at H;have c10b0:decide (0<((aN l0 x18_1).length:Int))=true:=decide_eq_true ef;have c10b1:decide (0<(aN l0 x18_1).length)=true:=decide_eq_true (by omega);clear ef;replace H:=bU H;obtain ⟨⟨t203,t204,t205,t206,t207⟩,A110,H⟩:=H;(try dsimp only at H);have A11:=aS A110;clear A110;replace H:=bU H;obtain ⟨t208,A120,H⟩:=H;have A12:=aS A120;clear A120;replace H:=bU H;obtain ⟨t211,A130,H⟩:=H;have A13:=aS A130;clear A130
        obtain ⟨y214,hy214⟩:∃ y_:List (List Int),y_=(([x8_1,t208,t211]:List (List Int))):=⟨_,rfl⟩
        (first | replace H:=l9 hy214 H | rw [←hy214] at H);have Ny214:=aS hy214;clear hy214;replace H:=bU H;obtain ⟨t217,A140,H⟩:=H;have A14:=aS A140;clear A140
        by_cases c15:x7_1.length+t198.length<140737488355328
        ·
         rw [if_pos c15] at H;have LMc15:=aS c15;clear c15
         obtain ⟨y220,hy220⟩:∃ y_:List Int,y_=(x7_1++t198):=⟨_,rfl⟩
         (first | replace H:=l9 hy220 H | rw [←hy220] at H);have Ny220:=aS hy220;clear hy220
         have H':=aS H
         clear H;have p197:0≤(x18_1:Int):=bJ;have q197:x18_1<(l0.length:Int):=bJ;obtain ⟨ad197,A197_0,c197_0,e197,hx197_0,hl197_0,hi197_0⟩:=rE HR0.out x18_1 p197 q197;cases e197;have hB_197_0:=aS hx197_0;replace hx197_0:=bx aq hx197_0;have HR197_0:=aS hi197_0;have HC197_0:=aS hl197_0;clear hi197_0 hl197_0;replace p197:=eq_true p197;replace q197:=eq_true q197
         go_wp2_with (first | ((with_reducible refine gC 98 ?_);refine dn 24 Tryz.func98 #[.slice A197_0 (aN l0 x18_1).length c197_0] ?_;(with_reducible refine (cJ.calls k1 _ _ (aN l0 x18_1) t198 t199 _ ?side1 ?side2 A8.out).mono ?_);(case side1=>exact eH (Kd.cH HR197_0.out HB.out));(case side2=>exact HC197_0.out);rintro e w16 ⟨v200,rfl,ho0,hb⟩;refine ⟨_,rfl,?_⟩;have HO201:=aS (Kd.bn (Kd.cK (Kd.cK ho0 (Kd.cP (rel HO_7.out))) (Kd.cP (rel HO_8.out))) (aA aq));replace HO_7:=aS (Kd.bY (rel HO_7.out) (dm ho0) hb);replace HO_8:=aS (Kd.bY (rel HO_8.out) (dm ho0) hb);replace HB:=aM hb;(try clear hb);(try clear hk);(try clear hi);(try clear ho0);have p202:0≤(0:Int):=(by omega);have q202:0<((aN l0 x18_1).length:Int):=bJ;obtain ⟨ad202,e202,hx202_0,hx202_1,hx202_2,hx202_3,hx202_4⟩:=dN HR197_0.out 0 p202 q202;cases e202;have qi202:(0<(aN l0 x18_1).length)=True:=eq_true (by omega);(try rw [show ((0:Int)).toNat=0 from rfl] at hx202_0);(try rw [show 0*5=0 from rfl] at hx202_0);(try rw [Addr.add_zero'] at hx202_0);(try rw [show ((0:Int)).toNat=0 from rfl] at hx202_1);(try rw [show 0*5=0 from rfl] at hx202_1);(try rw [Addr.add_zero'] at hx202_1);(try rw [show ((0:Int)).toNat=0 from rfl] at hx202_2);(try rw [show 0*5=0 from rfl] at hx202_2);(try rw [Addr.add_zero'] at hx202_2);(try rw [show ((0:Int)).toNat=0 from rfl] at hx202_3);(try rw [show 0*5=0 from rfl] at hx202_3);(try rw [Addr.add_zero'] at hx202_3);(try rw [show ((0:Int)).toNat=0 from rfl] at hx202_4);(try rw [show 0*5=0 from rfl] at hx202_4);(try rw [Addr.add_zero'] at hx202_4);replace hx202_0:=bx aq hx202_0;replace hx202_1:=bx aq hx202_1;replace hx202_2:=bx aq hx202_2;replace hx202_3:=bx aq hx202_3;replace hx202_4:=bx aq hx202_4;replace p202:=eq_true p202;replace q202:=eq_true q202) | ((with_reducible refine gC 99 ?_);refine dn 34 Tryz.func99 #[.agg #[.string ((af (aN l0 x18_1) 0).f0),.string ((af (aN l0 x18_1) 0).f1),.int .i64 ((af (aN l0 x18_1) 0).f2),.string ((af (aN l0 x18_1) 0).f3),.bool ((af (aN l0 x18_1) 0).f4)]] ?_;(with_reducible refine (nY.calls ((af (aN l0 x18_1) 0).f0) ((af (aN l0 x18_1) 0).f1) ((af (aN l0 x18_1) 0).f2) ((af (aN l0 x18_1) 0).f3) ((af (aN l0 x18_1) 0).f4) t203 t204 t205 t206 t207 _ A11.out).mono ?_);rintro e w17 ⟨rfl,hb⟩;refine ⟨_,rfl,?_⟩;replace HO_7:=aS (Kd.dB (rel HO_7.out) hb);replace HO_8:=aS (Kd.dB (rel HO_8.out) hb);replace HO201:=aS (Kd.dB (rel HO201.out) hb);replace HB:=aM hb;(try clear hb);(try clear hk);(try clear hi)) | ((with_reducible refine gC 65 ?_);refine dn 35 Tryz.func65 #[.agg #[.string t203,.string t204,.int .i64 t205,.string t206,.bool t207]] ?_;(with_reducible refine (dh.calls t203 t204 t205 t206 t207 t208 _ A12.out).mono ?_);rintro e w18 ⟨v209,rfl,ho0,hb⟩;refine ⟨_,rfl,?_⟩;have HO210:=aS (Kd.bn (Kd.cK (Kd.cK (Kd.cK ho0 (Kd.cP (rel HO_7.out))) (Kd.cP (rel HO_8.out))) (Kd.cP (rel HO201.out))) (aA aq));replace HO_7:=aS (Kd.bY (rel HO_7.out) (dm ho0) hb);replace HO_8:=aS (Kd.bY (rel HO_8.out) (dm ho0) hb);replace HO201:=aS (Kd.bY (rel HO201.out) (dm ho0) hb);replace HB:=aM hb;(try clear hb);(try clear hk);(try clear hi);(try clear ho0);obtain ⟨Ao19,co19,eo19⟩:=Kd.bp HO_7.out;subst eo19) | ((with_reducible refine gC 86 ?_);refine dn 38 Tryz.func86 #[.int .i64 (x7_1.length:Int)] ?_;(with_reducible refine (eB.calls (x7_1.length:Int) t211 _ A13.out).mono ?_);rintro e w20 ⟨v212,rfl,ho0,hb⟩;refine ⟨_,rfl,?_⟩;have HO213:=aS (Kd.bn (Kd.cK (Kd.cK (Kd.cK (Kd.cK ho0 (Kd.cP (rel HO_7.out))) (Kd.cP (rel HO_8.out))) (Kd.cP (rel HO201.out))) (Kd.cP (rel HO210.out))) (aA aq));replace HO_7:=aS (Kd.bY (rel HO_7.out) (dm ho0) hb);replace HO_8:=aS (Kd.bY (rel HO_8.out) (dm ho0) hb);replace HO201:=aS (Kd.bY (rel HO201.out) (dm ho0) hb);replace HO210:=aS (Kd.bY (rel HO210.out) (dm ho0) hb);replace HB:=aM hb;(try clear hb);(try clear hk);(try clear hi);(try clear ho0);obtain ⟨Ao21,co21,eo21⟩:=Kd.bp HO_8.out;subst eo21;obtain ⟨Ao22,co22,eo22⟩:=Kd.bp HO210.out;subst eo22;obtain ⟨Ao23,co23,eo23⟩:=Kd.bp HO213.out;subst eo23) | ((with_reducible refine gD 39 ?_);refine Kd.Bv (Kd.slice 5 (Kd.int .u8)) _ 51 ?hg (N':=39) ?hd (xs:=([x8_1,t208,t211]:List (List Int))) (inner:=[.slice Ao21 x8_1.length co21,.slice Ao22 t208.length co22,.slice Ao23 t211.length co23]) (ok:=(fun k_=>some k_≠(.slice Ao19 x7_1.length co19:Value).ownBlock∧some k_≠(v200:Value).ownBlock)) (okp:=(fun k_=>some k_≠(.slice Ao19 x7_1.length co19:Value).ownBlock∧some k_≠(v200:Value).ownBlock)) ?hr ?hp (fun _ hk=>hk) ((show ∀ k_,w20.heap.size≤k_→(fun k_=>some k_≠(.slice Ao19 x7_1.length co19:Value).ownBlock∧some k_≠(v200:Value).ownBlock) k_ from fun k_ hk=>⟨Kd.iD (Kd.cP (rel HO_7.out)) k_ hk,Kd.iD (Kd.cP (rel HO201.out)) k_ hk⟩) _ (Nat.le_refl _)) (Below.refl _ _) (Nat.le_refl _) (by simp) ?_;(case hd=>rfl);(case hg=>rfl);(case hr=>first | (go_simp;done) | (go_simp;rfl));(case hp=>exact (bP.one (show Kd.FK (Kd.slice 5 (Kd.int .u8)) _ _ x8_1 [.slice Ao21 x8_1.length co21] from (Kd.eE (Kd.aY (Kd.aK (ok':=(fun k_=>some k_≠(.slice Ao19 x7_1.length co19:Value).ownBlock∧some k_≠(v200:Value).ownBlock)) (HO_8.out) (fun k_ hk=>⟨hk.1.1.1,hk.1.1.2⟩))).2.1 (Kd.oq (Kd.aK (ok':=(fun k_=>some k_≠(.slice Ao19 x7_1.length co19:Value).ownBlock∧some k_≠(v200:Value).ownBlock)) (HO_8.out) (fun k_ hk=>⟨hk.1.1.1,hk.1.1.2⟩))))) (bP.one (show Kd.FK (Kd.slice 5 (Kd.int .u8)) _ _ t208 [.slice Ao22 t208.length co22] from (Kd.eE (Kd.aY (Kd.aK (ok':=(fun k_=>some k_≠(.slice Ao19 x7_1.length co19:Value).ownBlock∧some k_≠(v200:Value).ownBlock)) (HO210.out) (fun k_ hk=>⟨hk.1.1.1.2,hk.1.2⟩))).2.1 (Kd.oq (Kd.aK (ok':=(fun k_=>some k_≠(.slice Ao19 x7_1.length co19:Value).ownBlock∧some k_≠(v200:Value).ownBlock)) (HO210.out) (fun k_ hk=>⟨hk.1.1.1.2,hk.1.2⟩))))) (bP.one (show Kd.FK (Kd.slice 5 (Kd.int .u8)) _ _ t211 [.slice Ao23 t211.length co23] from (Kd.eE (Kd.aY (Kd.aK (ok':=(fun k_=>some k_≠(.slice Ao19 x7_1.length co19:Value).ownBlock∧some k_≠(v200:Value).ownBlock)) (HO213.out) (fun k_ hk=>⟨hk.1.1.1.2,hk.1.2⟩))).2.1 (Kd.oq (Kd.aK (ok':=(fun k_=>some k_≠(.slice Ao19 x7_1.length co19:Value).ownBlock∧some k_≠(v200:Value).ownBlock)) (HO213.out) (fun k_ hk=>⟨hk.1.1.1.2,hk.1.2⟩))))) (bP.none _ _)))));intro v215 w24 ho25 hb hg_ hnew_;clear hg_ hnew_;(first | rw [←Ny214.out] at ho25 | (simp only [Int.reduceToNat] at ho25;rw [←Ny214.out] at ho25));have n0_:=aS (Kd.dB (rel HO_7.out) hb);have n1_:=aS (Kd.dB (rel HO201.out) hb);have n2_:=aS (Kd.qz ho25 (aA aq));have n3_:=aM hb;clear HO_7;clear HO201;clear HB;clear HO210;clear HO213;clear HO_8;have HO_7:=n0_;have HO201:=n1_;have HO216:=n2_;have HB:=n3_;clear n0_ n1_ n2_ n3_;clear hb ho25;obtain ⟨Ao26,co26,eo26⟩:=Kd.qq HO216.out;subst eo26) | ((with_reducible refine gC 84 ?_);refine dn 40 Tryz.func84 #[.slice Ao26 y214.length co26] ?_;(with_reducible refine (bX.calls _ _ y214 t217 _ ?side1 ?side2 A14.out).mono ?_);(case side1=>exact eH ((Kd.j3 HO216.out).2.2));(case side2=>exact (Kd.j3 HO216.out).2.1);rintro e w27 ⟨v218,rfl,ho0,hb⟩;refine ⟨_,rfl,?_⟩;replace HO216:=aS (Kd.pG (by (with_reducible repeat (first | apply Kd.oR | apply Kd.oV | apply Kd.qv));exact HO216.out) (dm ho0) hb);have HO219:=aS (Kd.bn (Kd.cK (Kd.cK ho0 (Kd.cP (rel HO_7.out))) (Kd.cP (rel HO201.out))) (aA aq));replace HO_7:=aS (Kd.bY (rel HO_7.out) (dm ho0) hb);replace HO201:=aS (Kd.bY (rel HO201.out) (dm ho0) hb);replace HB:=aM hb;(try clear hb);(try clear hk);(try clear hi);(try clear ho0);obtain ⟨Ao29,co29,eo29⟩:=Kd.bp HO201.out;subst eo29) | ((with_reducible refine fS (b:=.append) (xs:=#[.tmp 41,.tmp 42]) rfl ?_);at_builtin;refine Kd.jl (Kd.int .u8) (w0:=w) w.heap.size rfl (.tmp 41) (.tmp 42) 51 5 (.int .u8 0) 1 rfl Tryz.underlying51 gL rfl (by decide) (by omega) (.slice Ao19 x7_1.length co19) x7_1 t198 _ _ _ (fun k_=>some k_≠(.slice Ao29 t198.length co29:Value).ownBlock∧some k_≠(v218:Value).ownBlock) (fun _=>False) rfl rfl ?aO ?aR (fun _ _ h=>h) (fun _ h=>h.elim) ?aF ?aB ?aS ?aL ?_;(case aR=>exact eH ((Kd.aY HO201.out).2.2));(case aB=>exact aq);(case aF=>exact (fun k_ hk=>⟨Kd.iD (Kd.cP (rel HO201.out)) k_ hk,Kd.iD (Kd.cP (rel HO219.out)) k_ hk⟩));(case aO=>exact (by (with_reducible repeat (first | apply Kd.bB | apply Kd.bC | apply Kd.bD));exact Kd.aK HO_7.out (fun _ hk=>⟨hk.1.1.1.2,hk.2⟩)));(case aS=>exact (aA aq));(case aL=>have:=LMc15.out;omega);intro v221 w28 ho hb hg hat;rw [←Ny220.out] at ho;have n0_:=aS (Kd.ju (ok:=(fun k_=>some k_≠(v218:Value).ownBlock)) (by (with_reducible repeat (first | apply Kd.bB | apply Kd.bC | apply Kd.bD));exact Kd.aK HO201.out (fun _ hk=>⟨hk.2,hk.1.1.1.1.2⟩)) hg hat);have n1_:=aS (Kd.Dr (ok:=(fun k_=>some k_≠(.slice Ao29 t198.length co29:Value).ownBlock∧some k_≠(v218:Value).ownBlock)) (by (with_reducible repeat (first | apply Kd.oR | apply Kd.oV | apply Kd.qv));exact Kd.xX HO216.out (fun _ hk=>⟨⟨hk.1.2,hk.2⟩,hk.1.1⟩)) hg hat);have n2_:=aS (Kd.ju (ok:=(fun k_=>some k_≠(.slice Ao29 t198.length co29:Value).ownBlock)) (by (with_reducible repeat (first | apply Kd.bB | apply Kd.bC | apply Kd.bD));exact Kd.aK HO219.out (fun _ hk=>⟨hk.2,hk.1.2⟩)) hg hat);have n3_:=aS (hb);have n4_:=aS (ho);clear HO201;clear HO216;clear HO219;clear HB;clear HO_7;have HO201:=n0_;have HO216:=n1_;have HO219:=n2_;have HB:=n3_;have HO222:=n4_;clear n0_ n1_ n2_ n3_ n4_;clear ho hb hg hat))
         go_roundg k1
         case measure=>have:=HK1.out;omega
         case rel=>exact ⟨(y220),(t217),(wrap64 (x18_1+1)),cG,H',⟨by have:=HK1.out;omega⟩,⟨by (with_reducible repeat (first | apply Kd.bB | apply Kd.bC | apply Kd.bD));exact Kd.aK HO222.out (fun _ hk=>hk.2)⟩,⟨by (with_reducible repeat (first | apply Kd.bB | apply Kd.bC | apply Kd.bD));exact Kd.aK HO219.out (fun _ hk=>hk.2)⟩,⟨aq⟩⟩
        ·
         rw [if_neg c15] at H;exact absurd H (by simp)
       ·
        rw [if_neg ef] at H;exact absurd H (by simp)
      ·
       rw [if_neg c9] at H;obtain ⟨c9b0,c9b1⟩:=iT c9
       simp only [Option.some.injEq,Prod.mk.injEq] at H
       obtain ⟨rfl,rfl,rfl⟩:=H;have p197:0≤(x18_1:Int):=bJ;have q197:x18_1<(l0.length:Int):=bJ;obtain ⟨ad197,A197_0,c197_0,e197,hx197_0,hl197_0,hi197_0⟩:=rE HR0.out x18_1 p197 q197;cases e197;have hB_197_0:=aS hx197_0;replace hx197_0:=bx aq hx197_0;have HR197_0:=aS hi197_0;have HC197_0:=aS hl197_0;clear hi197_0 hl197_0;replace p197:=eq_true p197;replace q197:=eq_true q197
       go_wp2_with (first | ((with_reducible refine gC 98 ?_);refine dn 24 Tryz.func98 #[.slice A197_0 (aN l0 x18_1).length c197_0] ?_;(with_reducible refine (cJ.calls k1 _ _ (aN l0 x18_1) t198 t199 _ ?side1 ?side2 A8.out).mono ?_);(case side1=>exact eH (Kd.cH HR197_0.out HB.out));(case side2=>exact HC197_0.out);rintro e w30 ⟨v200,rfl,ho0,hb⟩;refine ⟨_,rfl,?_⟩;have HO201:=aS (Kd.bn (Kd.cK (Kd.cK ho0 (Kd.cP (rel HO_7.out))) (Kd.cP (rel HO_8.out))) (aA aq));replace HO_7:=aS (Kd.bY (rel HO_7.out) (dm ho0) hb);replace HO_8:=aS (Kd.bY (rel HO_8.out) (dm ho0) hb);replace HB:=aM hb;(try clear hb);(try clear hk);(try clear hi);(try clear ho0)))
       go_ret3
       exact ⟨_,_,dP,by first | exact Kd.d6 _ _ _ _ _ | exact Kd.gB _ _ _ _ _ | exact Kd.fJ _ _ _ _ _ | exact Kd.gy _ _ _ _ _ | exact Kd.gE _ _ _ _ _,by first | exact Kd.d6 _ _ _ _ _ | exact Kd.gB _ _ _ _ _ | exact Kd.fJ _ _ _ _ _ | exact Kd.gy _ _ _ _ _ | exact Kd.gE _ _ _ _ _,aq⟩
     ·
      rw [if_neg c7] at H;exact absurd H (by simp)
    ·
     rw [if_neg c6] at H;exact absurd H (by simp)
   ·
    rw [if_neg c5] at H;have c5b0:decide (x18_1<(l0.length:Int))=false:=decide_eq_false c5;clear c5;replace H:=bU H;obtain ⟨t223,A310,H⟩:=H;have A31:=aS A310;clear A310
    by_cases c32:x8_1.length+t223.length<140737488355328
    ·
     rw [if_pos c32] at H;have LMc32:=aS c32;clear c32
     obtain ⟨y226,hy226⟩:∃ y_:List Int,y_=(x8_1++t223):=⟨_,rfl⟩
     (first | replace H:=l9 hy226 H | rw [←hy226] at H);have Ny226:=aS hy226;clear hy226;replace H:=bU H;obtain ⟨t229,A330,H⟩:=H;have A33:=aS A330;clear A330
     by_cases c34:(t229.length:Int)=0
     ·
      rw [if_pos c34] at H;obtain ⟨c34b0,c34b1⟩:=jh c34;clear c34
      simp only [Option.some.injEq,Prod.mk.injEq] at H
      obtain ⟨rfl,rfl,rfl⟩:=H;have hcv35:=Kd.jZ (P:=Tryz.prog) (A:=A1) (c:=c1) Tryz.underlying51 Tryz.underlying5 Tryz.underlying9 (Kd.cH HR1.out HB.out)
      have hcv36:=fun (m_:Nat)=>Kd.jZ (P:=Tryz.prog) (A:=A1) (c:=c1) Tryz.underlying51 Tryz.underlying5 Tryz.underlying9 (Kd.jJ ((Kd.cH HR1.out HB.out)) m_)
      go_wp2_with (first | ((with_reducible refine gC 85 ?_);refine dn 48 Tryz.func85 #[.string (strOfNums l1)] ?_;(with_reducible refine (er.calls (strOfNums l1) t223 _ A31.out).mono ?_);rintro e w37 ⟨v224,rfl,ho0,hb⟩;refine ⟨_,rfl,?_⟩;have HO225:=aS (Kd.bn (Kd.cK (Kd.cK ho0 (Kd.cP (rel HO_7.out))) (Kd.cP (rel HO_8.out))) (aA aq));replace HO_7:=aS (Kd.bY (rel HO_7.out) (dm ho0) hb);replace HO_8:=aS (Kd.bY (rel HO_8.out) (dm ho0) hb);replace HB:=aM hb;(try clear hb);(try clear hk);(try clear hi);(try clear ho0);obtain ⟨Ao39,co39,eo39⟩:=Kd.bp HO225.out;subst eo39) | ((with_reducible refine fS (b:=.append) (xs:=#[.tmp 45,.tmp 48]) rfl ?_);at_builtin;refine Kd.jl (Kd.int .u8) (w0:=w) w.heap.size rfl (.tmp 45) (.tmp 48) 51 5 (.int .u8 0) 1 rfl Tryz.underlying51 gL rfl (by decide) (by omega) u8 x8_1 t223 _ _ _ (fun k_=>some k_≠(u7:Value).ownBlock∧some k_≠(.slice Ao39 t223.length co39:Value).ownBlock) (fun _=>False) rfl rfl ?aO ?aR (fun _ _ h=>h) (fun _ h=>h.elim) ?aF ?aB ?aS ?aL ?_;(case aR=>exact eH ((Kd.aY HO225.out).2.2));(case aB=>exact aq);(case aF=>exact (fun k_ hk=>⟨Kd.iD (Kd.cP (rel HO_7.out)) k_ hk,Kd.iD (Kd.cP (rel HO225.out)) k_ hk⟩));(case aO=>exact (rel HO_8.out));(case aS=>exact (aA aq));(case aL=>have:=LMc32.out;omega);intro v227 w38 ho hb hg hat;rw [←Ny226.out] at ho;have n0_:=aS (Kd.ju (ok:=(fun k_=>some k_≠(.slice Ao39 t223.length co39:Value).ownBlock)) (by (with_reducible repeat (first | apply Kd.bB | apply Kd.bC | apply Kd.bD));exact Kd.aK HO_7.out (fun _ hk=>⟨hk.2,hk.1⟩)) hg hat);have n1_:=aS (Kd.ju (ok:=(fun k_=>some k_≠(u7:Value).ownBlock)) (by (with_reducible repeat (first | apply Kd.bB | apply Kd.bC | apply Kd.bD));exact Kd.aK HO225.out (fun _ hk=>⟨hk.1.2,hk.2⟩)) hg hat);have n2_:=aS (hb);have n3_:=aS (ho);clear HO_7;clear HO225;clear HB;clear HO_8;have HO_7:=n0_;have HO225:=n1_;have HB:=n2_;have HO228:=n3_;clear n0_ n1_ n2_ n3_;clear ho hb hg hat;obtain ⟨Ao40,co40,eo40⟩:=Kd.bp HO228.out;subst eo40) | ((with_reducible refine gC 100 ?_);refine dn 50 Tryz.func100 #[.slice Ao40 y226.length co40] ?_;(with_reducible refine (fj.calls k1 (fun k_=>some k_=(.slice Ao40 y226.length co40:Value).ownBlock) _ _ y226 t229 _ ?side1 A33.out).mono ?_);(case side1=>exact Kd.wC (Kd.jL rfl (HO228.out)));rintro e w41 ⟨v230,rfl,ho0,hb⟩;refine ⟨_,rfl,?_⟩;have HO231:=aS (Kd.bn (Kd.cK (Kd.cK (Kd.cK (Kd.aK (ok':=fun k_=>True) ho0 (fun _ hk_=>trivial)) (Kd.cP (rel HO_7.out))) (Kd.cP (rel HO225.out))) (Kd.cP (rel HO228.out))) (aA aq));replace HO_7:=aS (Kd.bY (rel HO_7.out) (dm ho0) hb);replace HO225:=aS (Kd.bY (rel HO225.out) (dm ho0) hb);replace HO228:=aS (Kd.bY (rel HO228.out) (dm ho0) hb);replace HB:=aM hb;(try clear hb);(try clear hk);(try clear hi);(try clear ho0);obtain ⟨Ao42,co42,eo42⟩:=Kd.bp HO231.out;subst eo42))
      go_ret3
      exact ⟨_,_,dP,by first | exact Kd.d6 _ _ _ _ _ | exact Kd.gB _ _ _ _ _ | exact Kd.fJ _ _ _ _ _ | exact Kd.gy _ _ _ _ _ | exact Kd.gE _ _ _ _ _,by first | exact Kd.d6 _ _ _ _ _ | exact Kd.gB _ _ _ _ _ | exact Kd.fJ _ _ _ _ _ | exact Kd.gy _ _ _ _ _ | exact Kd.gE _ _ _ _ _,aq⟩
     ·
      rw [if_neg c34] at H;obtain ⟨c34b0,c34b1⟩:=iT c34
      have c34b2:¬ (t229=[]):=fun h_=>c34 (by rw [h_];rfl)
      simp only [Option.some.injEq,Prod.mk.injEq] at H
      obtain ⟨rfl,rfl,rfl⟩:=H;have hcv43:=Kd.jZ (P:=Tryz.prog) (A:=A1) (c:=c1) Tryz.underlying51 Tryz.underlying5 Tryz.underlying9 (Kd.cH HR1.out HB.out)
      have hcv44:=fun (m_:Nat)=>Kd.jZ (P:=Tryz.prog) (A:=A1) (c:=c1) Tryz.underlying51 Tryz.underlying5 Tryz.underlying9 (Kd.jJ ((Kd.cH HR1.out HB.out)) m_)
      go_wp2_with (first | ((with_reducible refine gC 85 ?_);refine dn 48 Tryz.func85 #[.string (strOfNums l1)] ?_;(with_reducible refine (er.calls (strOfNums l1) t223 _ A31.out).mono ?_);rintro e w45 ⟨v224,rfl,ho0,hb⟩;refine ⟨_,rfl,?_⟩;have HO225:=aS (Kd.bn (Kd.cK (Kd.cK ho0 (Kd.cP (rel HO_7.out))) (Kd.cP (rel HO_8.out))) (aA aq));replace HO_7:=aS (Kd.bY (rel HO_7.out) (dm ho0) hb);replace HO_8:=aS (Kd.bY (rel HO_8.out) (dm ho0) hb);replace HB:=aM hb;(try clear hb);(try clear hk);(try clear hi);(try clear ho0);obtain ⟨Ao47,co47,eo47⟩:=Kd.bp HO225.out;subst eo47) | ((with_reducible refine fS (b:=.append) (xs:=#[.tmp 45,.tmp 48]) rfl ?_);at_builtin;refine Kd.jl (Kd.int .u8) (w0:=w) w.heap.size rfl (.tmp 45) (.tmp 48) 51 5 (.int .u8 0) 1 rfl Tryz.underlying51 gL rfl (by decide) (by omega) u8 x8_1 t223 _ _ _ (fun k_=>some k_≠(u7:Value).ownBlock∧some k_≠(.slice Ao47 t223.length co47:Value).ownBlock) (fun _=>False) rfl rfl ?aO ?aR (fun _ _ h=>h) (fun _ h=>h.elim) ?aF ?aB ?aS ?aL ?_;(case aR=>exact eH ((Kd.aY HO225.out).2.2));(case aB=>exact aq);(case aF=>exact (fun k_ hk=>⟨Kd.iD (Kd.cP (rel HO_7.out)) k_ hk,Kd.iD (Kd.cP (rel HO225.out)) k_ hk⟩));(case aO=>exact (rel HO_8.out));(case aS=>exact (aA aq));(case aL=>have:=LMc32.out;omega);intro v227 w46 ho hb hg hat;rw [←Ny226.out] at ho;have n0_:=aS (Kd.ju (ok:=(fun k_=>some k_≠(.slice Ao47 t223.length co47:Value).ownBlock)) (by (with_reducible repeat (first | apply Kd.bB | apply Kd.bC | apply Kd.bD));exact Kd.aK HO_7.out (fun _ hk=>⟨hk.2,hk.1⟩)) hg hat);have n1_:=aS (Kd.ju (ok:=(fun k_=>some k_≠(u7:Value).ownBlock)) (by (with_reducible repeat (first | apply Kd.bB | apply Kd.bC | apply Kd.bD));exact Kd.aK HO225.out (fun _ hk=>⟨hk.1.2,hk.2⟩)) hg hat);have n2_:=aS (hb);have n3_:=aS (ho);clear HO_7;clear HO225;clear HB;clear HO_8;have HO_7:=n0_;have HO225:=n1_;have HB:=n2_;have HO228:=n3_;clear n0_ n1_ n2_ n3_;clear ho hb hg hat;obtain ⟨Ao48,co48,eo48⟩:=Kd.bp HO228.out;subst eo48) | ((with_reducible refine gC 100 ?_);refine dn 50 Tryz.func100 #[.slice Ao48 y226.length co48] ?_;(with_reducible refine (fj.calls k1 (fun k_=>some k_=(.slice Ao48 y226.length co48:Value).ownBlock) _ _ y226 t229 _ ?side1 A33.out).mono ?_);(case side1=>exact Kd.wC (Kd.jL rfl (HO228.out)));rintro e w49 ⟨v230,rfl,ho0,hb⟩;refine ⟨_,rfl,?_⟩;have HO231:=aS (Kd.bn (Kd.cK (Kd.cK (Kd.cK (Kd.aK (ok':=fun k_=>True) ho0 (fun _ hk_=>trivial)) (Kd.cP (rel HO_7.out))) (Kd.cP (rel HO225.out))) (Kd.cP (rel HO228.out))) (aA aq));replace HO_7:=aS (Kd.bY (rel HO_7.out) (dm ho0) hb);replace HO225:=aS (Kd.bY (rel HO225.out) (dm ho0) hb);replace HO228:=aS (Kd.bY (rel HO228.out) (dm ho0) hb);replace HB:=aM hb;(try clear hb);(try clear hk);(try clear hi);(try clear ho0);obtain ⟨Ao50,co50,eo50⟩:=Kd.bp HO231.out;subst eo50))
      go_ret3
      exact ⟨_,_,dP,by (with_reducible repeat (first | apply Kd.bB | apply Kd.bC | apply Kd.bD));exact Kd.aK HO_7.out (fun _ hk=>hk.2),by (with_reducible repeat (first | apply Kd.bB | apply Kd.bC | apply Kd.bD));exact Kd.aK HO231.out (fun _ hk=>hk.1.1.2),aq⟩
    ·
     rw [if_neg c32] at H;exact absurd H (by simp)
def fq.f (k:Nat) (l0:List (List (au))) (l1:List Int):Option (List Int × Int):=(cS.f k l0 l1).bind fun bt232=>(if bt232.2.2=0 then ((eB.f (bt232.2.1.length:Int)).bind fun t239=>((bX.f (([bt232.1,bt232.2.1,t239]:List (List Int)))).bind fun t245=>(some (t245,0)))) else (some (([]:List Int),bt232.2.2)))
theorem fq.mono:∀ a0 a1 k,aH (fq.f k a0 a1) (fq.f (k+1) a0 a1):=by
 intro a0 a1 k
 unfold fq.f
 have m0:=@cS.mono;exact eF
theorem fq.calls (k:Nat) (A0:Option Addr) (c0:Nat) (l0:List (List (au))) (A1:Option Addr) (c1:Nat) (l1:List Int) (r1:List Int) (r2:Int) (w:World) (hr0:Kd.C (Kd.slice 34 cm) w A0 l0.length l0) (hc0:l0.length≤c0) (hr1:Kd.C (Kd.int .u8) w A1 l1.length l1) (hc1:l1.length≤c1) (h:fq.f k l0 l1=some (r1,r2)) :
  Calls Tryz.prog 69 #[.slice A0 l0.length c0,.slice A1 l1.length c1] w fun e w'=>∃ v0_:Value,e = .returned (.tuple #[v0_,.int .i64 r2])∧Kd.R (Kd.int .u8) 5 w' w.heap.size (fun _=>True) v0_ r1∧Below w.heap.size w w':=by
 have HR0:=aS hr0;have HC0:=aS hc0;clear hr0 hc0;have HR1:=aS hr1;have HC1:=aS hc1;clear hr1 hc1;have HB:=aS (Below.refl w.heap.size w);have H:((cS.f k l0 l1).bind fun bt232=>(if bt232.2.2=0 then ((eB.f (bt232.2.1.length:Int)).bind fun t239=>((bX.f (([bt232.1,bt232.2.1,t239]:List (List Int)))).bind fun t245=>(some (t245,0)))) else (some (([]:List Int),bt232.2.2))))=some (r1,r2):=h;clear h;replace H:=bU H;obtain ⟨⟨t232,t233,t234⟩,A30,H⟩:=H;(try dsimp only at H);have A3:=aS A30;clear A30
 by_cases c4:t234=0
 ·
  rw [if_pos c4] at H;obtain ⟨c4b0,c4b1⟩:=jh c4;clear c4;replace H:=bU H;obtain ⟨t239,A50,H⟩:=H;have A5:=aS A50;clear A50
  obtain ⟨y242,hy242⟩:∃ y_:List (List Int),y_=(([t232,t233,t239]:List (List Int))):=⟨_,rfl⟩
  (first | replace H:=l9 hy242 H | rw [←hy242] at H);have Ny242:=aS hy242;clear hy242;replace H:=bU H;obtain ⟨t245,A60,H⟩:=H;have A6:=aS A60;clear A60
  simp only [Option.some.injEq,Prod.mk.injEq] at H
  obtain ⟨rfl,rfl⟩:=H
  go_enter Tryz.func69,Tryz.ntmps69
  go_wp2_with (first | ((with_reducible refine gC 89 ?_);refine dn 12 Tryz.func89 #[.slice A0 l0.length c0,.slice A1 l1.length c1] ?_;(with_reducible refine (cS.calls k _ _ l0 _ _ l1 t232 t233 t234 _ ?side1 ?side2 ?side3 ?side4 A3.out).mono ?_);(case side1=>exact eH HR0.out);(case side2=>exact HC0.out);(case side3=>exact eH HR1.out);(case side4=>exact HC1.out);rintro e w7 ⟨v235,v237,rfl,ho0,ho1,hb⟩;refine ⟨_,rfl,?_⟩;have HO236:=aS (Kd.bn ho0 (aA aq));have HO238:=aS (Kd.bn ho1 (aA aq));replace HB:=aM hb;(try clear hb);(try clear hk);(try clear hi);(try clear ho0);(try clear ho1);obtain ⟨Ao8,co8,eo8⟩:=Kd.bp HO238.out;subst eo8) | ((with_reducible refine gC 86 ?_);refine dn 23 Tryz.func86 #[.int .i64 (t233.length:Int)] ?_;(with_reducible refine (eB.calls (t233.length:Int) t239 _ A5.out).mono ?_);rintro e w9 ⟨v240,rfl,ho0,hb⟩;refine ⟨_,rfl,?_⟩;have HO241:=aS (Kd.bn (Kd.cK (Kd.cK ho0 (Kd.cP (rel HO236.out))) (Kd.cP (rel HO238.out))) (aA aq));replace HO236:=aS (Kd.bY (rel HO236.out) (dm ho0) hb);replace HO238:=aS (Kd.bY (rel HO238.out) (dm ho0) hb);replace HB:=aM hb;(try clear hb);(try clear hk);(try clear hi);(try clear ho0);obtain ⟨Ao10,co10,eo10⟩:=Kd.bp HO236.out;subst eo10;obtain ⟨Ao11,co11,eo11⟩:=Kd.bp HO241.out;subst eo11) | ((with_reducible refine gD 24 ?_);refine Kd.Bv (Kd.slice 5 (Kd.int .u8)) _ 51 ?hg (N':=24) ?hd (xs:=([t232,t233,t239]:List (List Int))) (inner:=[.slice Ao10 t232.length co10,.slice Ao8 t233.length co8,.slice Ao11 t239.length co11]) (ok:=(fun _=>True)) (okp:=(fun _=>True)) ?hr ?hp (fun _ hk=>hk) ((show ∀ k_,w9.heap.size≤k_→(fun _=>True) k_ from fun k_ hk=>trivial) _ (Nat.le_refl _)) (Below.refl _ _) (Nat.le_refl _) (by simp) ?_;(case hd=>rfl);(case hg=>rfl);(case hr=>first | (go_simp;done) | (go_simp;rfl));(case hp=>exact (bP.one (show Kd.FK (Kd.slice 5 (Kd.int .u8)) _ _ t232 [.slice Ao10 t232.length co10] from (Kd.eE (Kd.aY (Kd.aK (ok':=(fun _=>True)) (HO236.out) (fun k_ hk=>trivial))).2.1 (Kd.oq (Kd.aK (ok':=(fun _=>True)) (HO236.out) (fun k_ hk=>trivial))))) (bP.one (show Kd.FK (Kd.slice 5 (Kd.int .u8)) _ _ t233 [.slice Ao8 t233.length co8] from (Kd.eE (Kd.aY (Kd.aK (ok':=(fun _=>True)) (HO238.out) (fun k_ hk=>trivial))).2.1 (Kd.oq (Kd.aK (ok':=(fun _=>True)) (HO238.out) (fun k_ hk=>trivial))))) (bP.one (show Kd.FK (Kd.slice 5 (Kd.int .u8)) _ _ t239 [.slice Ao11 t239.length co11] from (Kd.eE (Kd.aY (Kd.aK (ok':=(fun _=>True)) (HO241.out) (fun k_ hk=>trivial))).2.1 (Kd.oq (Kd.aK (ok':=(fun _=>True)) (HO241.out) (fun k_ hk=>trivial))))) (bP.none _ _)))));intro v243 w12 ho13 hb hg_ hnew_;clear hg_ hnew_;(first | rw [←Ny242.out] at ho13 | (simp only [Int.reduceToNat] at ho13;rw [←Ny242.out] at ho13));have n0_:=aS (Kd.qz ho13 (aA aq));have n1_:=aM hb;clear HB;clear HO236;clear HO238;clear HO241;have HO244:=n0_;have HB:=n1_;clear n0_ n1_;clear hb ho13;obtain ⟨Ao14,co14,eo14⟩:=Kd.qq HO244.out;subst eo14) | ((with_reducible refine gC 84 ?_);refine dn 25 Tryz.func84 #[.slice Ao14 y242.length co14] ?_;(with_reducible refine (bX.calls _ _ y242 t245 _ ?side1 ?side2 A6.out).mono ?_);(case side1=>exact eH ((Kd.j3 HO244.out).2.2));(case side2=>exact (Kd.j3 HO244.out).2.1);rintro e w15 ⟨v246,rfl,ho0,hb⟩;refine ⟨_,rfl,?_⟩;replace HO244:=aS (Kd.pG (by (with_reducible repeat (first | apply Kd.oR | apply Kd.oV | apply Kd.qv));exact HO244.out) (dm ho0) hb);have HO247:=aS (Kd.bn ho0 (aA aq));replace HB:=aM hb;(try clear hb);(try clear hk);(try clear hi);(try clear ho0)))
  go_ret2
  exact ⟨_,dP,by (with_reducible repeat (first | apply Kd.bB | apply Kd.bC | apply Kd.bD));exact HO247.out,aq⟩
 ·
  rw [if_neg c4] at H;obtain ⟨c4b0,c4b1⟩:=iT c4
  simp only [Option.some.injEq,Prod.mk.injEq] at H
  obtain ⟨rfl,rfl⟩:=H
  go_enter Tryz.func69,Tryz.ntmps69
  go_wp2_with (first | ((with_reducible refine gC 89 ?_);refine dn 12 Tryz.func89 #[.slice A0 l0.length c0,.slice A1 l1.length c1] ?_;(with_reducible refine (cS.calls k _ _ l0 _ _ l1 t232 t233 t234 _ ?side1 ?side2 ?side3 ?side4 A3.out).mono ?_);(case side1=>exact eH HR0.out);(case side2=>exact HC0.out);(case side3=>exact eH HR1.out);(case side4=>exact HC1.out);rintro e w16 ⟨v235,v237,rfl,ho0,ho1,hb⟩;refine ⟨_,rfl,?_⟩;have HO236:=aS (Kd.bn ho0 (aA aq));have HO238:=aS (Kd.bn ho1 (aA aq));replace HB:=aM hb;(try clear hb);(try clear hk);(try clear hi);(try clear ho0);(try clear ho1)))
  go_ret2
  exact ⟨_,dP,by first | exact Kd.d6 _ _ _ _ _ | exact Kd.gB _ _ _ _ _ | exact Kd.fJ _ _ _ _ _ | exact Kd.gy _ _ _ _ _ | exact Kd.gE _ _ _ _ _,aq⟩
def fk.f (a0:ByteArray) (a1:ByteArray):Option (ByteArray):=(er.f a0).bind fun t248=>((er.f a1).bind fun t251=>(if (strOfNums t248).size+(strOfNums t251).size≤9223372036854775807 then (some ((strOfNums t248)++(strOfNums t251))) else (none)))
def fk.T1:Bool × List (List Nat × List Nat):=(true,[([],[]),([0],[0]),([1],[1]),([],[]),([3,1],[3]),([4],[4]),([2,5],[2,5]),([6,4,0,1,2,3,4,5,6],[6])])
def fk.B1:List Nat:=[0,1,3,0,11,27,63,127]
theorem fk.rq:e9 .any (opsOf Tryz.f90 1)=fk.T1:=by kernel_rfl
theorem fk.oK:gj fk.T1.2 fk.B1=true:=by kernel_rfl
theorem fk.calls (a0:ByteArray) (a1:ByteArray) (r:ByteArray) (w:World) (h:fk.f a0 a1=some r) :
  Calls Tryz.prog 90 #[.string a0,.string a1] w fun e w'=>e = .returned (.string r)∧Below w.heap.size w w':=by
 have HB:=aS (Below.refl w.heap.size w);have H:((er.f a0).bind fun t248=>((er.f a1).bind fun t251=>(if (strOfNums t248).size+(strOfNums t251).size≤9223372036854775807 then (some ((strOfNums t248)++(strOfNums t251))) else (none))))=some r:=h;clear h;replace H:=bU H;obtain ⟨t248,A30,H⟩:=H;have A3:=aS A30;clear A30;replace H:=bU H;obtain ⟨t251,A40,H⟩:=H;have A4:=aS A40;clear A40
 by_cases c5:(strOfNums t248).size+(strOfNums t251).size≤9223372036854775807
 ·
  rw [if_pos c5] at H;have c5b0:=eq_true c5;have c5b1:decide ((strOfNums t248).size+(strOfNums t251).size≤9223372036854775807)=true:=decide_eq_true c5
  try have c5b2:(9223372036854775807<(strOfNums t248).size+(strOfNums t251).size)=False:=eq_false (Nat.not_lt.2 c5)
  obtain rfl:=Option.some.inj H
  go_enter Tryz.func90,Tryz.ntmps90
  try go_wp2
  replace HB:=aS (jS HB.out);refine di (n:=8) (S:=fun w'=>True) (ds:=[]) (bA 8 0) (by kernel_rfl) rfl rfl trivial (fun hHeld=>?_);refine cD fk.rq fk.oK (fun HT_ HW_=>?_)
  generalize w.drew=w6 at HB hHeld ⊢
  refine aZ [(0,5),(3,8)] ?_
  iterate 2 (refine ck HT_ ?_)
  refine bT (bA 8 9) (by kernel_rfl) ?_;refine dH 1 (N:=some 6) (bA 8 11) HT_ (fun K hK=>?_);refine gb Tryz.func85 #[.string a0] ?_
  with_reducible refine (er.calls a0 t248 _ A3.out).mono ?_
  rintro e w7 ⟨v249,rfl,ho0,hb⟩
  refine ⟨_,rfl,?_⟩;have HO250:=aS (Kd.bn ho0 (aA aq));replace HB:=aM hb;(try clear hb);(try clear hk);(try clear hi);(try clear ho0);refine hK.out _ _ trivial (fun hHeld=>?_);clear hK K;refine nm 6 ?_;refine AE (σ:=Value) 2 (bA 8 63) (fun s_=>[(7,.string (strOfNums t248)),(9,s_),(10,.string (strOfNums t251))]) (fun s_ w'=>(Kd.R (Kd.int .u8) 5 w' w.heap.size (fun k_=>some k_≠(s_:Value).ownBlock) v249 t248)∧(Kd.R (Kd.int .u8) 5 w' w.heap.size (fun k_=>some k_≠(v249:Value).ownBlock) s_ t251)∧(Below w.heap.size w w')) ?_ ?_
  rotate_left
  ·
   intro hCont
   refine xD (i:=2) (j:=4) (Ni:=some 7) (Nj:=some 9) (bA 8 15) (bA 8 27) rfl rfl rfl rfl (sj HT_.out (by kernel_rfl)) (by decide) (by decide) (fun K hK=>?_) (fun K hK=>?_)
   ·
    skip
    have hcv8:=lU (P:=Tryz.prog) Tryz.underlying51 Tryz.underlying5 Tryz.underlying9 (Kd.iS HO250.out);refine mg (w1:=?_) (v:=?_) (by rfl) rfl ?_ ?_
    rotate_left 2
    ·
     go_simp
     constructor
     ·
      rfl
     ·
      rfl
    clear hcv8;refine hK.out _ _ trivial (fun hHeld=>?_);clear hK K;refine nm 7 ?_;refine dH 4 (N:=some 9) (bA 8 31) HT_ (fun K hK=>?_);refine gb Tryz.func85 #[.string a1] ?_
    with_reducible refine (er.calls a1 t251 _ A4.out).mono ?_
    rintro e w9 ⟨v252,rfl,ho0,hb⟩
    refine ⟨_,rfl,?_⟩;have HO253:=aS (Kd.bn (Kd.cK ho0 (Kd.cP (rel HO250.out))) (aA aq));replace HO250:=aS (Kd.bY (rel HO250.out) (dm ho0) hb);replace HB:=aM hb;(try clear hb);(try clear hk);(try clear hi);(try clear ho0);refine hK.out _ _ trivial (fun hHeld=>?_);clear hK K;refine nm 9 ?_;refine dH 5 (N:=some 10) (bA 8 63) HT_ (fun K hK=>?_);have hcv10:=lU (P:=Tryz.prog) Tryz.underlying51 Tryz.underlying5 Tryz.underlying9 (Kd.iS HO253.out);refine mg (w1:=?_) (v:=?_) (by rfl) rfl ?_ ?_
    rotate_left 2
    ·
     go_simp
     constructor
     ·
      rfl
     ·
      rfl
    clear hcv10;refine hK.out _ _ trivial (fun hHeld=>?_);clear hK K;refine nm 10 ?_;exact kZ (by simp only [jT,Act.put,eI,eG,lss]) (hCont (v252) _ ⟨(rel (Kd.aK HO250.out (fun _ hk=>hk.2))),(rel (Kd.aK HO253.out (fun _ hk=>hk.2))),aq⟩)
   ·
    skip
    refine gb Tryz.func85 #[.string a1] ?_
    with_reducible refine (er.calls a1 t251 _ A4.out).mono ?_
    rintro e w8 ⟨v252,rfl,ho0,hb⟩
    refine ⟨_,rfl,?_⟩;have HO253:=aS (Kd.bn (Kd.cK ho0 (Kd.cP (rel HO250.out))) (aA aq));replace HO250:=aS (Kd.bY (rel HO250.out) (dm ho0) hb);replace HB:=aM hb;(try clear hb);(try clear hk);(try clear hi);(try clear ho0);refine hK.out _ _ trivial (fun hHeld=>?_);clear hK K;refine nm 9 ?_;refine xD (i:=2) (j:=5) (Ni:=some 7) (Nj:=some 10) (bA 8 31) (bA 8 59) rfl rfl rfl rfl (sj HT_.out (by kernel_rfl)) (by decide) (by decide) (fun K hK=>?_) (fun K hK=>?_)
    ·
     skip
     have hcv9:=lU (P:=Tryz.prog) Tryz.underlying51 Tryz.underlying5 Tryz.underlying9 (Kd.iS HO250.out);refine mg (w1:=?_) (v:=?_) (by rfl) rfl ?_ ?_
     rotate_left 2
     ·
      go_simp
      constructor
      ·
       rfl
      ·
       rfl
     clear hcv9;refine hK.out _ _ trivial (fun hHeld=>?_);clear hK K;refine nm 7 ?_;refine dH 5 (N:=some 10) (bA 8 63) HT_ (fun K hK=>?_);have hcv10:=lU (P:=Tryz.prog) Tryz.underlying51 Tryz.underlying5 Tryz.underlying9 (Kd.iS HO253.out);refine mg (w1:=?_) (v:=?_) (by rfl) rfl ?_ ?_
     rotate_left 2
     ·
      go_simp
      constructor
      ·
       rfl
      ·
       rfl
     clear hcv10;refine hK.out _ _ trivial (fun hHeld=>?_);clear hK K;refine nm 10 ?_;exact kZ (by simp only [jT,Act.put,eI,eG,lss]) (hCont (v252) _ ⟨(rel (Kd.aK HO250.out (fun _ hk=>hk.2))),(rel (Kd.aK HO253.out (fun _ hk=>hk.2))),aq⟩)
    ·
     skip
     have hcv9:=lU (P:=Tryz.prog) Tryz.underlying51 Tryz.underlying5 Tryz.underlying9 (Kd.iS HO253.out);refine mg (w1:=?_) (v:=?_) (by rfl) rfl ?_ ?_
     rotate_left 2
     ·
      go_simp
      constructor
      ·
       rfl
      ·
       rfl
     clear hcv9;refine hK.out _ _ trivial (fun hHeld=>?_);clear hK K;refine nm 10 ?_;refine dH 2 (N:=some 7) (bA 8 63) HT_ (fun K hK=>?_);have hcv10:=lU (P:=Tryz.prog) Tryz.underlying51 Tryz.underlying5 Tryz.underlying9 (Kd.iS HO250.out);refine mg (w1:=?_) (v:=?_) (by rfl) rfl ?_ ?_
     rotate_left 2
     ·
      go_simp
      constructor
      ·
       rfl
      ·
       rfl
     clear hcv10;refine hK.out _ _ trivial (fun hHeld=>?_);clear hK K;refine nm 7 ?_;exact kZ (by simp only [jT,Act.put,eI,eG,lss]) (hCont (v252) _ ⟨(rel (Kd.aK HO250.out (fun _ hk=>hk.2))),(rel (Kd.aK HO253.out (fun _ hk=>hk.2))),aq⟩)
  rintro v252 w11 ⟨h0_,h1_,h2_⟩
  have n0_:ah (Kd.R (Kd.int .u8) 5 w11 w.heap.size (fun k_=>some k_≠(v252:Value).ownBlock) v249 t248):=⟨h0_⟩;have n1_:ah (Kd.R (Kd.int .u8) 5 w11 w.heap.size (fun k_=>some k_≠(v249:Value).ownBlock) v252 t251):=⟨h1_⟩;have n2_:ah (Below w.heap.size w w11):=⟨h2_⟩;clear HB;clear h0_ h1_ h2_;have HO250:=n0_;have HO253:=n1_;have HB:=n2_;clear n0_ n1_ n2_;have hHeld:=trivial;refine kZ (a':=?_) ?_ ?_
  rotate_left
  ·
   simp only [jT,Act.put,eI,eG,lss]
   rfl
  refine aZ [(6,11),(7,4)] ?_
  iterate 2 (refine ck HT_ ?_)
  refine bT (bA 8 255) (by kernel_rfl) ?_;refine fX HT_ ?_
  try go_wp2
  go_ret
  exact ⟨dP,aq⟩
 ·
  rw [if_neg c5] at H;exact absurd H (by simp)
def cL.acc (a b:Int):Nat→Int
 | 0=>a
 | i+1=>IntKind.u32.wrap (cL.acc a b i+b)
def cL.outs (a b n:Int):Nat→List Int
 | 0=>[]
 | i+1=>cL.outs a b n i++[wrap64 (Int.tmod (cL.acc a b i) n)]
def cL.f (k:Nat) (a0:ByteArray) (a1:Int):Option (List Int):=
 if a0.size<140737488355327 then (fB.f k (bytesOf a0)).bind fun a=>(fB.f k ([1]++bytesOf a0)).bind fun b=>if IntKind.u32.wrap a1=0 then none else some (cL.outs a b (IntKind.u32.wrap a1) 3) else none
theorem cL.mono:∀ a0 a1 k,aH (cL.f k a0 a1) (cL.f (k+1) a0 a1):=fun a0 a1 k=>
 aH.ite (aH.bind (fB.mono _ _) fun _=>aH.bind (fB.mono _ _) fun _=>aH.refl _) (aH.refl _)
theorem iS {w:World} {base:Nat} {ok:Nat→Prop} {v:Value} {xs:List Int} (h:Kd.R (Kd.int .u8) 5 w base ok v xs):w.ownsRow base 5 1 v xs.length (nums .u8 xs):=by
 exact Kd.iS h
theorem nF {w:World} {base:Nat} {v:Value} {xs:List Int} (h:w.ownsRow base 5 1 v xs.length (nums .u8 xs)):Kd.R (Kd.int .u8) 5 w base (fun _=>True) v xs:=by
 exact Kd.nF h (fun _ _=>trivial)
theorem tq (a b n:Int):∀ i,(cL.outs a b n i).length=i
 | 0=>rfl
 | i+1=>by simp [cL.outs,tq a b n i]
theorem EK (a b n:Int) (i:Nat) (h:i<3):((cL.outs a b n i).length+1)*8≤140737488355328:=by rw [tq];omega
theorem cL.calls (k:Nat) (a0:ByteArray) (a1:Int) (r:List Int) (w:World) (h:cL.f k a0 a1=some r) :
  Calls Tryz.prog 101 #[.string a0,.int .i64 a1] w fun e w'=>∃ v0_:Value,e = .returned v0_∧Kd.R (Kd.int .i64) 3 w' w.heap.size (fun _=>True) v0_ r∧Below w.heap.size w w':=by
 have hu26:=Tryz.underlying51;have hu77:=Tryz.underlying50
 unfold cL.f at h
 by_cases hl:a0.size<140737488355327
 case neg=>rw [if_neg hl] at h;cases h
 rw [if_pos hl] at h;replace h:=bU h;obtain ⟨a,x1,h⟩:=h;replace h:=bU h;obtain ⟨b,x2,h⟩:=h
 by_cases hz:IntKind.u32.wrap a1=0
 ·
  rw [if_pos hz] at h;cases h
 rw [if_neg hz] at h
 obtain rfl:=Option.some.inj h
 obtain ⟨hz1,hz2⟩:=iT hz
 obtain ⟨z,hzz⟩:∃ z,z=[1]++bytesOf a0:=⟨_,rfl⟩
 rw [←hzz] at x2;have HZ:=aS hzz;clear hzz;have X1:=aS x1;have X2:=aS x2;have HL:=aS hl;clear x1 x2 hl h
 obtain ⟨n,hn⟩:∃ n,IntKind.u32.wrap a1=n:=⟨_,rfl⟩
 rw [hn] at hz hz1 hz2 ⊢
 go_enter Tryz.func101,Tryz.ntmps101
 go_wp2_with (first | ((with_reducible refine gD 9 ?_);refine Kd.E7 rfl (N:=9) rfl 9 51 5 _ a0 rfl rfl Tryz.underlying9 Tryz.underlying51 Tryz.underlying5 (by have:=HL.out;omega) ?_;intro v9 w1 ho hb;obtain ⟨A8,c8,rfl⟩:=Kd.mI ho;have HV:=aS (Kd.dJ ho);have HB:=aS hb;clear ho hb) | (go_at_call 104;(with_reducible refine (fB.calls k A8 c8 (bytesOf a0) a _ HV.out.2.2 HV.out.2.1 X1.out).mono ?_);rintro e_ w2 ⟨rfl,hb⟩;have HB2:=aS (aE HB.out hb);clear hb HB HV) | ((with_reducible refine gD 11 ?_);refine Kd.rI (Kd.int .u8) _ 5 ?hg (N:=11) ?hd (xs:=([1]:List Int)) (inner:=[.int .u8 1]) (ok:=fun _=>True) (okp:=fun _=>True) ?hr ?hp (fun _ hk=>hk) trivial (Below.refl _ _) (Nat.le_refl _) (by simp) ?_;(case hd=>rfl);(case hg=>rfl);(case hr=>(first | (go_simp;done) | (go_simp;rfl)));(case hp=>exact (bP.one (show Kd.M (Kd.int .u8) _ _ _ 1 [.int .u8 1] from rfl) (bP.none _ _)));intro v11 w3 ho hb hg_ hnew;have HR:=aS (Kd.bn ho HB2.out.size);have HB3:=aS (aE HB2.out hb);clear ho hb hg_ hnew HB2) | (at_builtin;refine pJ (w0:=w) w.heap.size rfl (.tmp 11) _ 51 9 5 rfl Tryz.underlying51 Tryz.underlying9 gL v11 [1] a0 rfl rfl ?aO HB3.out HB3.out.size ?aL ?_;(case aO=>exact iS HR.out);(case aL=>have:=HL.out;simp only [List.length_cons,List.length_nil];omega);intro v13 w4 ho hb hg_;rw [←HZ.out] at ho;obtain ⟨A13,c13,rfl,hcl,hC⟩:=Kd.eZ (nF ho);have HC4:=aS hC;have HL4:=aS hcl;have HB4:=aS hb;clear ho hb hg_ hcl hC HR HB3) | (go_at_call 104;(with_reducible refine (fB.calls k A13 c13 z b _ HC4.out HL4.out X2.out).mono ?_);rintro e_ w5 ⟨rfl,hb⟩;have HB5:=aS (aE HB4.out hb);clear hb HB4 HC4 HL4))
 go_loopw [5,7,15] (fun v5 v7 v15 wr=>∃ (i:Nat),v15 = .int .i64 (i:Int)∧v5 = .int .u32 (cL.acc a b i)∧ah (i≤3)∧ah (Kd.R (Kd.int .i64) 3 wr w.heap.size (fun _=>True) v7 (cL.outs a b n i))∧ah (Below w.heap.size w wr)) (fun _ _ i _=>3 - (intOf i).toNat)
 case atStart=>exact ⟨0,rfl,rfl,⟨by omega⟩,⟨Kd.d6 _ _ _ _ _⟩,HB5⟩
 case round=>
  obtain ⟨i,rfl,rfl,hi,HRr,HBr⟩:=hrel
  by_cases hlt:i<3
  ·
   have hq1:(i:Int)<3:=by omega
   have hwr:wrap64 ((i:Int)+1)=(i:Int)+1:=by rw [←cC,IntKind.wrap_i64];omega
   have hwr':=aS hwr
   clear hi
   go_wp2_with (first | (at_builtin;refine Kd.gJ (Kd.int .i64) (w0:=w) w.heap.size rfl _ _ 50 3 (.int .i64 0) 8 rfl hu77 info3 rfl (by decide) (by decide) u7 (cL.outs a b n i) (wrap64 (Int.tmod (cL.acc a b i) n)) [.int .i64 (wrap64 (Int.tmod (cL.acc a b i) n))] (fun _=>True) (fun _=>False) rfl rfl rfl (fun _ hk=>hk.elim) (fun _ _=>trivial) HRr.out HBr.out HBr.out.size ?hl ?_;(case hl=>exact EK _ _ _ _ hlt);intro v8 w6 ho hb hg hat;have HR4:=aS ho;have HB6:=aS hb;clear ho hb hg hat HRr HBr))
   go_roundw
   case rel=>exact ⟨i+1,by first | rfl | (rw [hwr];rfl),rfl,⟨hlt⟩,HR4,HB6⟩
   case measure=>first | exact iV hwr hlt | exact iV rfl hlt
  ·
   have hge:¬ ((i:Int)<3):=by omega
   obtain rfl:i=3:=by have:=hi.out;omega
   go_wp2
   go_ret
   exact ⟨_,rfl,HRr.out,HBr.out⟩
mutual
def bI.l0:Nat→List Int→List ByteArray→Int→Int→Option (List Int)
 | 0,_,_,_,_=>none
 | k+1,x3,x14,x15,x16=>if x16<x15 then (if 0≤x16 then (if x16<(x14.length:Int) then ((cL.f k (pF ByteArray.empty x14 x16) (wrap64 (8*(x3.length:Int)))).bind fun t258=>(bI.l1 k x3 x14 x15 x16 t258 (t258.length:Int) 0)) else (none)) else (none)) else (some x3)
def bI.l1:Nat→List Int→List ByteArray→Int→Int→List Int→Int→Int→Option (List Int)
 | 0,_,_,_,_,_,_,_=>none
 | k+1,x3,x14,x15,x16,x24,x25,x26=>if x26<x25 then (if 0≤x26 then (if x26<(x24.length:Int) then (if 0≤(wrap64 (Int.tdiv (rd x24 x26) 8)) then (if (wrap64 (Int.tdiv (rd x24 x26) 8))<(x3.length:Int) then (if 0≤(Int.tmod (rd x24 x26) 8) then (bI.l1 k (x3.set ((wrap64 (Int.tdiv (rd x24 x26) 8)):Int).toNat (Go.bits .or .u8 (rd x3 (wrap64 (Int.tdiv (rd x24 x26) 8))) (shl .u8 1 (Int.tmod (rd x24 x26) 8)))) x14 x15 x16 x24 x25 (wrap64 (x26+1))) else (none)) else (none)) else (none)) else (none)) else (none)) else (bI.l0 k x3 x14 x15 (wrap64 (x16+1)))
end
def bI.f (k:Nat) (l0:List ByteArray):Option (List Int):=if 0≤(mx 1 (wrap64 (Int.tdiv (wrap64 ((l0.length:Int)*8)) 8))) then (if (mx 1 (wrap64 (Int.tdiv (wrap64 ((l0.length:Int)*8)) 8)):Int).toNat≤281474976710656 then (bI.l0 k (List.replicate (mx 1 (wrap64 (Int.tdiv (wrap64 ((l0.length:Int)*8)) 8)):Int).toNat 0) l0 (l0.length:Int) 0) else (none)) else (none)
theorem bI.cF:∀ k,(∀ y0 y1 y2 y3,aH (bI.l0 k y0 y1 y2 y3) (bI.l0 (k+1) y0 y1 y2 y3))∧(∀ y0 y1 y2 y3 y4 y5 y6,aH (bI.l1 k y0 y1 y2 y3 y4 y5 y6) (bI.l1 (k+1) y0 y1 y2 y3 y4 y5 y6))
 | 0=>⟨fun _ _ _ _ r h=>by simp [bI.l0] at h,fun _ _ _ _ _ _ _ r h=>by simp [bI.l1] at h⟩
 | k+1=>by
  obtain ⟨ih0,ih1⟩:=bI.cF k;refine ⟨?_,?_⟩
  ·
   intro y0 y1 y2 y3
   unfold bI.l0
   have m0:=@cL.mono;exact eF
  ·
   intro y0 y1 y2 y3 y4 y5 y6
   unfold bI.l1
   have m0:=@cL.mono;exact eF
theorem bI.mono:∀ a0 k,aH (bI.f k a0) (bI.f (k+1) a0):=by
 intro a0 k
 obtain ⟨ih0,ih1⟩:=bI.cF k
 unfold bI.f
 have m0:=@cL.mono;exact eF
def bI.T8:Bool × List (List Nat × List Nat):=(true,[([],[]),([],[]),([1],[1]),([0,2],[0,2]),([3],[3]),([],[]),([5],[5]),([6],[6]),([4,7],[4,7]),([0,2,0,1,2,3,4,5,6,7,8],[0,2]),([9,8,0,1,2,3,4,5,6,7,8],[8,9])])
def bI.B8:List Nat:=[0,0,2,7,15,0,32,96,255,511,1023]
theorem bI.tW:e9 .any (opsOf Tryz.f91 8)=bI.T8:=by kernel_rfl
theorem bI.rK:gj bI.T8.2 bI.B8=true:=by kernel_rfl
theorem bI.calls (k:Nat) (A0:Option Addr) (c0:Nat) (l0:List ByteArray) (r:List Int) (w:World) (hr0:Kd.C Kd.string w A0 l0.length l0) (hc0:l0.length≤c0) (h:bI.f k l0=some r) :
  Calls Tryz.prog 91 #[.slice A0 l0.length c0] w fun e w'=>∃ v0_:Value,e = .returned (v0_)∧Kd.R (Kd.int .u8) 5 w' w.heap.size (fun _=>True) v0_ r∧Below w.heap.size w w':=by
 have HR0:=aS hr0;have HC0:=aS hc0;clear hr0 hc0;have HB:=aS (Below.refl w.heap.size w);have H:(if 0≤(mx 1 (wrap64 (Int.tdiv (wrap64 ((l0.length:Int)*8)) 8))) then (if (mx 1 (wrap64 (Int.tdiv (wrap64 ((l0.length:Int)*8)) 8)):Int).toNat≤281474976710656 then (bI.l0 k (List.replicate (mx 1 (wrap64 (Int.tdiv (wrap64 ((l0.length:Int)*8)) 8)):Int).toNat 0) l0 (l0.length:Int) 0) else (none)) else (none))=some r:=h;clear h
 obtain ⟨ji2,hji2⟩:∃ j_:Int,(mx 1 (wrap64 (Int.tdiv (wrap64 ((l0.length:Int)*8)) 8)))=j_:=⟨_,rfl⟩
 replace H:(if 0≤(ji2) then (if (ji2:Int).toNat≤281474976710656 then (bI.l0 k (List.replicate (ji2:Int).toNat 0) l0 (l0.length:Int) 0) else (none)) else (none))=some r:=by first | (rw [hji2] at H;exact H) | (simp only [hji2] at H ⊢;exact H)
 (try (have hji2l:1≤ji2:=by (rw [←hji2];unfold mx;(repeat' split)<;>omega)))
 (try (have hji2m:0≤ji2:=by omega))
 have hji2_:(if 1<(wrap64 (Int.tdiv (wrap64 ((l0.length:Int)*8)) 8)) then (wrap64 (Int.tdiv (wrap64 ((l0.length:Int)*8)) 8)) else 1)=ji2:=hji2
 by_cases c3:0≤(ji2)
 ·
  rw [if_pos c3] at H;have c3b0:=eq_true c3;have c3b1:decide (0≤(ji2))=true:=decide_eq_true c3;clear c3
  by_cases c4:(ji2:Int).toNat≤281474976710656
  ·
   rw [if_pos c4] at H;have c4b0:=eq_true c4;have c4b1:decide ((ji2:Int).toNat≤281474976710656)=true:=decide_eq_true c4;clear c4
   obtain ⟨y254,hy254⟩:∃ y_:List Int,y_=(List.replicate (ji2:Int).toNat 0):=⟨_,rfl⟩
   replace H:(bI.l0 k y254 l0 (l0.length:Int) 0)=some r:=pU hy254 H;have Ny254:=aS hy254;clear hy254
   have H':=aS H
   clear H
   go_enter Tryz.func91,Tryz.ntmps91
   go_wp2_with (first | ((with_reducible refine gD 13 ?_);refine Kd.Fb (Kd.int .u8) _ 5 rfl (N:=13) rfl 51 _ _ rfl ji2 rfl rfl Tryz.underlying51 (.int .u8 0) 1 gL rfl (by decide) (by omega) 0 (ok:=fun _=>True) (okp:=fun _=>True) rfl (fun _ hk=>hk) trivial (bJ) (Nat.le_trans (Nat.mul_le_mul_right _ (bJ:ji2.toNat≤281474976710656)) (by omega)) (Below.refl _ _) (Nat.le_refl _) ?_;intro v255 w5 ho6 hb hg_ hnew_;clear hg_ hnew_;(first | rw [←Ny254.out] at ho6 | (simp only [Int.reduceToNat] at ho6;rw [←Ny254.out] at ho6));have HO256:=aS (Kd.bn ho6 (aA aq));replace HB:=aM hb;clear hb ho6))
   go_loopg [16] k (fun kq v16 w'=>∃ (x3_1:List Int) (x16_1:Int),v16 = .int .i64 x16_1∧ah (bI.l0 kq x3_1 l0 (l0.length:Int) x16_1=some r)∧ah (kq≤k)∧ah (Kd.R (Kd.int .u8) 5 w' w.heap.size (fun _=>True) v255 x3_1)∧ah (Below w.heap.size w w'))
   case atStart=>exact ⟨(y254),(0),cG,H',⟨Nat.le_refl _⟩,⟨by (with_reducible repeat (first | apply Kd.bB | apply Kd.bC | apply Kd.bD));exact HO256.out⟩,⟨aq⟩⟩
   case round=>
    clear H';(try clear c3);(try clear c3b0);(try clear c3b1);(try clear c4);(try clear c4b0);(try clear c4b1);obtain ⟨x3_1,x16_1,rfl,HA,HK1,HO_3,HB⟩:=hrel
    cases gk with
    | zero=>exact absurd HA.out (by simp [bI.l0])
    | succ k1=>
     have H:=HA.out;clear HA
     simp only [bI.l0] at H
     by_cases c7:x16_1<(l0.length:Int)
     ·
      rw [if_pos c7] at H;have c7b0:decide (x16_1<(l0.length:Int))=true:=decide_eq_true c7;clear c7
      by_cases c8:0≤x16_1
      ·
       rw [if_pos c8] at H;have c8b0:decide (0≤x16_1)=true:=decide_eq_true c8;clear c8
       by_cases c9:x16_1<(l0.length:Int)
       ·
        rw [if_pos c9] at H;have c9b0:decide (x16_1<(l0.length:Int))=true:=decide_eq_true c9;clear c9;replace H:=bU H;obtain ⟨t258,A100,H⟩:=H;have A10:=aS A100;clear A100
        have H':=aS H
        clear H;have p257:0≤(x16_1:Int):=bJ;have q257:x16_1<(l0.length:Int):=bJ;obtain ⟨ad257,e257,hx257_0⟩:=Kd.Ca HR0.out x16_1 p257 q257;cases e257;replace hx257_0:=bx aq hx257_0;replace p257:=eq_true p257;replace q257:=eq_true q257;obtain ⟨Ao11,co11,eo11⟩:=Kd.bp HO_3.out;subst eo11
        go_wp2_with (first | ((with_reducible refine gC 101 ?_);refine dn 24 Tryz.func101 #[.string (pF ByteArray.empty l0 x16_1),.int .i64 (wrap64 (8*(x3_1.length:Int)))] ?_;(with_reducible refine (cL.calls k1 (pF ByteArray.empty l0 x16_1) (wrap64 (8*(x3_1.length:Int))) t258 _ A10.out).mono ?_);rintro e w12 ⟨v259,rfl,ho0,hb⟩;refine ⟨_,rfl,?_⟩;replace HO_3:=aS (Kd.dB (rel HO_3.out) hb);have HO260:=aS (Kd.bn ho0 (aA aq));replace HB:=aM hb;(try clear hb);(try clear hk);(try clear hi);(try clear ho0);obtain ⟨Ao13,co13,eo13⟩:=Kd.bp HO260.out;subst eo13))
        go_loopg [26] k1 (fun kq v26 w'=>∃ (x3_2:List Int) (x26_2:Int),v26 = .int .i64 x26_2∧ah (bI.l1 kq x3_2 l0 (l0.length:Int) x16_1 t258 (t258.length:Int) x26_2=some r)∧ah (kq≤k1)∧ah (Kd.R (Kd.int .u8) 5 w' w.heap.size (fun _=>True) (.slice Ao11 x3_1.length co11) x3_2)∧ah (Kd.R (Kd.int .i64) 3 w' w.heap.size (fun _=>True) (.slice Ao13 t258.length co13) t258)∧ah (Below w.heap.size w w'))
        case atStart=>exact ⟨(x3_1),(0),cG,H',⟨Nat.le_refl _⟩,⟨by (with_reducible repeat (first | apply Kd.bB | apply Kd.bC | apply Kd.bD));exact HO_3.out⟩,⟨by (with_reducible repeat (first | apply Kd.bB | apply Kd.bC | apply Kd.bD));exact HO260.out⟩,⟨aq⟩⟩
        case round=>
         clear H';(try clear c3);(try clear c3b0);(try clear c3b1);(try clear c4);(try clear c4b0);(try clear c4b1);(try clear c7);(try clear c7b0);(try clear c8);(try clear c8b0);(try clear c9);(try clear c9b0);(try clear hx257_0);(try clear p257);(try clear q257);obtain ⟨x3_2,x26_2,rfl,HA,HK2,HO_3,HO_24,HB⟩:=hrel;have hl3_2:=(Kd.aY HO_3.out).1;rw [hl3_2] at HO_3
         (try simp only [hl3_2])
         (try simp only [hl3_2] at HO_24)
         cases gk with
         | zero=>exact absurd HA.out (by simp [bI.l1])
         | succ k2=>
          have H:=HA.out;clear HA
          simp only [bI.l1] at H
          by_cases c14:x26_2<(t258.length:Int)
          ·
           rw [if_pos c14] at H;have c14b0:decide (x26_2<(t258.length:Int))=true:=decide_eq_true c14;clear c14
           by_cases c15:0≤x26_2
           ·
            rw [if_pos c15] at H;have c15b0:decide (0≤x26_2)=true:=decide_eq_true c15;clear c15
            by_cases c16:x26_2<(t258.length:Int)
            ·
             rw [if_pos c16] at H;have c16b0:decide (x26_2<(t258.length:Int))=true:=decide_eq_true c16;clear c16
             obtain ⟨ji17,hji17⟩:∃ j_:Int,(wrap64 (Int.tdiv (rd t258 x26_2) 8))=j_:=⟨_,rfl⟩
             replace H:(if 0≤(ji17) then (if (ji17)<(x3_2.length:Int) then (if 0≤(Int.tmod (rd t258 x26_2) 8) then (bI.l1 k2 (x3_2.set ((ji17):Int).toNat (Go.bits .or .u8 (rd x3_2 (ji17)) (shl .u8 1 (Int.tmod (rd t258 x26_2) 8)))) l0 (l0.length:Int) x16_1 t258 (t258.length:Int) (wrap64 (x26_2+1))) else (none)) else (none)) else (none))=some r:=by first | (rw [hji17] at H;exact H) | (simp only [hji17] at H ⊢;exact H)
             have hji17w:(IntKind.i64.wrap (Int.tdiv (rd t258 x26_2) 8))=ji17:=(cC _).trans hji17
             by_cases c18:0≤(ji17)
             ·
              rw [if_pos c18] at H;have c18b0:decide (0≤(ji17))=true:=decide_eq_true c18;clear c18
              by_cases c19:(ji17)<(x3_2.length:Int)
              ·
               rw [if_pos c19] at H;have c19b0:decide ((ji17)<(x3_2.length:Int))=true:=decide_eq_true c19;clear c19
               obtain ⟨ji20,hji20⟩:∃ j_:Int,(Int.tmod (rd t258 x26_2) 8)=j_:=⟨_,rfl⟩
               replace H:(if 0≤(ji20) then (bI.l1 k2 (x3_2.set ((ji17):Int).toNat (Go.bits .or .u8 (rd x3_2 (ji17)) (shl .u8 1 (ji20)))) l0 (l0.length:Int) x16_1 t258 (t258.length:Int) (wrap64 (x26_2+1))) else (none))=some r:=by first | (rw [hji20] at H;exact H) | (simp only [hji20] at H ⊢;exact H)
               by_cases c21:0≤(ji20)
               ·
                rw [if_pos c21] at H;have c21b0:=eq_true c21;have c21b1:decide (0≤(ji20))=true:=decide_eq_true c21;clear c21
                obtain ⟨ji22,hji22⟩:∃ j_:Int,(shl .u8 1 (ji20))=j_:=⟨_,rfl⟩
                replace H:(bI.l1 k2 (x3_2.set ((ji17):Int).toNat (Go.bits .or .u8 (rd x3_2 (ji17)) (ji22))) l0 (l0.length:Int) x16_1 t258 (t258.length:Int) (wrap64 (x26_2+1)))=some r:=by first | (rw [hji22] at H;exact H) | (simp only [hji22] at H ⊢;exact H)
                have hji22_:(IntKind.u8.wrap (1*2 ^ min (ji20).toNat 8))=ji22:=hji22;have hji22z:(ji20)≤8→(IntKind.u8.wrap (1*2 ^ (ji20).toNat))=ji22:=CO hji22
                have hji22u:(IntKind.u8.wrap (2 ^ min (ji20).toNat 8))=ji22:=by have h_:=hji22_;rw [Int.one_mul] at h_;exact h_
                have hji22v:(ji20)≤8→(IntKind.u8.wrap (2 ^ (ji20).toNat))=ji22:=fun hle_=>by have h_:=hji22z hle_;rw [Int.one_mul] at h_;exact h_
                obtain ⟨y263,hy263⟩:∃ y_:List Int,y_=(x3_2.set ((ji17):Int).toNat (Go.bits .or .u8 (rd x3_2 (ji17)) (ji22))):=⟨_,rfl⟩
                (first | replace H:=l9 hy263 H | rw [←hy263] at H);have Ny263:=aS hy263;clear hy263
                have H':=aS H
                clear H;have p261:0≤(x26_2:Int):=bJ;have q261:x26_2<(t258.length:Int):=bJ;obtain ⟨ad261,e261,hx261_0⟩:=Kd.iZ (Kd.aY HO_24.out).2.2 x26_2 p261 q261;cases e261;replace p261:=eq_true p261;replace q261:=eq_true q261
                try go_wp2
                replace HO_3:=aS (Kd.bD HO_3.out);replace HO_24:=aS (Kd.bD HO_24.out);replace HB:=aS (jS HB.out);have p262:0≤((ji17):Int):=bJ;have q262:(ji17)<(x3_2.length:Int):=bJ;obtain ⟨ad262,e262,hx262_0⟩:=Kd.iZ (Kd.aY HO_3.out).2.2 (ji17) p262 q262;cases e262;replace p262:=eq_true p262;replace q262:=eq_true q262;have p23:0≤((ji17):Int):=bJ;have q23:((ji17):Int)<((x3_2.length:Int):Int):=bJ;obtain ⟨go23,co23,eo23,gb23,gl23,cl23,HG23⟩:=Kd.n_ HO_3.out (by omega)
                (first | cases eo23 | (injection eo23 with ea_ en_ ec_;(first | subst ea_ | (injection ea_ with ea_;subst ea_));subst ec_;clear en_))
                have GB23:=aS gb23;have GG23:=aS HG23;clear gb23 gl23 HG23
                (first | simp only [add_plain] at hx262_0 | skip)
                obtain ⟨hx23_0,hf23_0⟩:=Kd.Ez 0 HO_3.out ((ji17):Int) p23 q23;replace p23:=eq_true p23;replace q23:=eq_true q23;have HP25:=Kd.FL HO_3.out ((ji17):Int) (Go.bits .or .u8 (rd x3_2 (ji17)) (ji22));rw [←Ny263.out] at HP25;have HQ25:=aS HP25;clear HP25;refine di (n:=11) (S:=fun w'=>w'.cell? ⟨go23,((ji17)).toNat,none⟩=some (.int .u8 (rd x3_2 (ji17)))) (ds:=[10]) (bA 11 0) (by kernel_rfl) rfl rfl (hx262_0) (fun hHeld=>?_);refine cD bI.tW bI.rK (fun HT_ HW_=>?_)
                generalize wr.drew=w24 at HO_3 HO_24 HB GG23 HQ25 hf23_0 hx23_0 hx262_0 hHeld ⊢
                refine aZ [(0,30),(1,31),(2,32),(3,33),(5,35),(6,36),(7,37)] ?_
                iterate 7 (refine ck HT_ ?_)
                refine bT (bA 11 239) (by kernel_rfl) ?_;refine ij (i:=4) (N:=some 34) (v:=?_) (a':=?_) (bA 11 255) rfl rfl (iz HT_.out HW_.out (by kernel_rfl)) (fun _ _ _ h=>h) (Or.inl ⟨by rfl,?_⟩) hHeld ?_ ?_
                rotate_left
                ·
                 intro w' s0
                 go_simp
                 with_reducible rfl
                rotate_left
                ·
                 simp only [Act.put,eI,eG,lss,cC,dw]
                 rfl
                refine aZ [(8,38),(9,39)] ?_
                iterate 2 (refine ck HT_ ?_)
                refine bT (bA 11 1023) (by kernel_rfl) ?_;refine jP (i:=10) (N:=none) (bA 11 2047) rfl rfl (jW HT_.out (by kernel_rfl)) (by decide) (fun K hK=>?_);refine F_ (w1:=?_) (by rfl) rfl ?_ ?_
                rotate_left
                ·
                 go_simp
                 rfl
                refine hK.out _ _ ?_;clear hK K;refine fX HT_ ?_
                try go_wp2
                (try simp only [←hl3_2])
                go_roundg k2
                case measure=>have:=HK1.out;have:=HK2.out;omega
                case rel=>exact ⟨(y263),(wrap64 (x26_2+1)),cG,H',⟨by have:=HK1.out;have:=HK2.out;omega⟩,⟨by (try simp only [hl3_2]);(with_reducible repeat (first | apply Kd.bB | apply Kd.bC | apply Kd.bD));exact HQ25.out⟩,⟨by (try simp only [hl3_2]);(with_reducible repeat (first | apply Kd.bB | apply Kd.bC | apply Kd.bD));exact Kd.aK (Kd.fe (p:=⟨go23,((ji17):Int).toNat,none⟩) (Kd.gP HO_24.out GG23.out (by decide)) (fun _ hk=>hk.2) (.int .u8 (Go.bits .or .u8 (rd x3_2 (ji17)) (ji22)))) (fun _ hk=>trivial)⟩,⟨aq⟩⟩
               ·
                rw [if_neg c21] at H;exact absurd H (by simp)
              ·
               rw [if_neg c19] at H;exact absurd H (by simp)
             ·
              rw [if_neg c18] at H;exact absurd H (by simp)
            ·
             rw [if_neg c16] at H;exact absurd H (by simp)
           ·
            rw [if_neg c15] at H;exact absurd H (by simp)
          ·
           rw [if_neg c14] at H;have c14b0:decide (x26_2<(t258.length:Int))=false:=decide_eq_false c14;clear c14
           have H':=aS H
           clear H
           go_wp2
           (try simp only [←hl3_2])
           go_roundg k2
           case measure=>have:=HK1.out;have:=HK2.out;omega
           case rel=>exact ⟨(x3_2),(wrap64 (x16_1+1)),cG,H',⟨by have:=HK1.out;have:=HK2.out;omega⟩,⟨by (try simp only [hl3_2]);(with_reducible repeat (first | apply Kd.bB | apply Kd.bC | apply Kd.bD));exact HO_3.out⟩,⟨aq⟩⟩
       ·
        rw [if_neg c9] at H;exact absurd H (by simp)
      ·
       rw [if_neg c8] at H;exact absurd H (by simp)
     ·
      rw [if_neg c7] at H;have c7b0:decide (x16_1<(l0.length:Int))=false:=decide_eq_false c7;clear c7
      obtain rfl:=Option.some.inj H
      go_wp2
      go_ret
      exact ⟨_,by first | rfl | (simp [iY,ja]<;>rfl) | (simp only [←hji2];first | rfl | (simp [iY,ja]<;>rfl)) | (simp [*,iY,ja]<;>rfl),by (with_reducible repeat (first | apply Kd.bB | apply Kd.bC | apply Kd.bD));exact HO_3.out,aq⟩
  ·
   rw [if_neg c4] at H;exact absurd H (by simp)
 ·
  rw [if_neg c3] at H;exact absurd H (by simp)
def cM.l0:Nat→List ByteArray→List (au)→Int→Int→Option (List Int)
 | 0,_,_,_,_=>none
 | k+1,x3,x6,x7,x8=>if x8<x7 then (if 0≤x8 then (if x8<(x6.length:Int) then ((fk.f ((af x6 x8).f0) ((af x6 x8).f1)).bind fun t266=>(if x3.length<8796093022208 then (cM.l0 k (x3++[t266]) x6 x7 (wrap64 (x8+1))) else (none))) else (none)) else (none)) else ((bI.f k x3).bind fun t270=>(some t270))
def cM.f (k:Nat) (l0:List (au)):Option (List Int):=cM.l0 k ([]:List ByteArray) l0 (l0.length:Int) 0
theorem cM.cF:∀ k,(∀ y0 y1 y2 y3,aH (cM.l0 k y0 y1 y2 y3) (cM.l0 (k+1) y0 y1 y2 y3))
 | 0=>fun _ _ _ _ r h=>by simp [cM.l0] at h
 | k+1=>by
  have ih0:=cM.cF k
  ·
   intro y0 y1 y2 y3
   unfold cM.l0
   have m0:=@bI.mono;exact eF
theorem cM.mono:∀ a0 k,aH (cM.f k a0) (cM.f (k+1) a0):=by
 intro a0 k
 have ih0:=cM.cF k
 unfold cM.f
 have m0:=@bI.mono;exact eF
theorem cM.calls (k:Nat) (A0:Option Addr) (c0:Nat) (l0:List (au)) (r:List Int) (w:World) (hr0:Kd.C cm w A0 l0.length l0) (hc0:l0.length≤c0) (h:cM.f k l0=some r) :
  Calls Tryz.prog 70 #[.slice A0 l0.length c0] w fun e w'=>∃ v0_:Value,e = .returned (v0_)∧Kd.R (Kd.int .u8) 5 w' w.heap.size (fun _=>True) v0_ r∧Below w.heap.size w w':=by
 have hu34:=Tryz.underlying34;have HR0:=aS hr0;have HC0:=aS hc0;clear hr0 hc0;have HB:=aS (Below.refl w.heap.size w);have H:(cM.l0 k ([]:List ByteArray) l0 (l0.length:Int) 0)=some r:=h;clear h
 have H':=aS H
 clear H
 go_enter Tryz.func70,Tryz.ntmps70
 go_wp2
 go_loopg [3,8] k (fun kq v3 v8 w'=>∃ (x3_1:List ByteArray) (x8_1:Int),v8 = .int .i64 x8_1∧ah (cM.l0 kq x3_1 l0 (l0.length:Int) x8_1=some r)∧ah (kq≤k)∧ah (Kd.R Kd.string 9 w' w.heap.size (fun _=>True) v3 x3_1)∧ah (Below w.heap.size w w'))
 case atStart=>exact ⟨(([]:List ByteArray)),(0),cG,H',⟨Nat.le_refl _⟩,⟨by first | exact Kd.d6 _ _ _ _ _ | exact Kd.gB _ _ _ _ _ | exact Kd.fJ _ _ _ _ _ | exact Kd.gy _ _ _ _ _ | exact Kd.gE _ _ _ _ _⟩,⟨aq⟩⟩
 case round=>
  clear H';obtain ⟨x3_1,x8_1,rfl,HA,HK1,HO_3,HB⟩:=hrel
  cases gk with
  | zero=>exact absurd HA.out (by simp [cM.l0])
  | succ k1=>
   have H:=HA.out;clear HA
   simp only [cM.l0] at H
   by_cases c2:x8_1<(l0.length:Int)
   ·
    rw [if_pos c2] at H;have c2b0:decide (x8_1<(l0.length:Int))=true:=decide_eq_true c2;clear c2
    by_cases c3:0≤x8_1
    ·
     rw [if_pos c3] at H;have c3b0:decide (0≤x8_1)=true:=decide_eq_true c3;clear c3
     by_cases c4:x8_1<(l0.length:Int)
     ·
      rw [if_pos c4] at H;have c4b0:decide (x8_1<(l0.length:Int))=true:=decide_eq_true c4;clear c4;replace H:=bU H;obtain ⟨t266,A50,H⟩:=H;have A5:=aS A50;clear A50
      by_cases c6:x3_1.length<8796093022208
      ·
       rw [if_pos c6] at H;have LMc6:=aS c6;clear c6
       obtain ⟨y267,hy267⟩:∃ y_:List ByteArray,y_=(x3_1++[t266]):=⟨_,rfl⟩
       (first | replace H:=l9 hy267 H | rw [←hy267] at H);have Ny267:=aS hy267;clear hy267
       have H':=aS H
       clear H;have p264:0≤(x8_1:Int):=bJ;have q264:x8_1<(l0.length:Int):=bJ;obtain ⟨ad264,e264,hx264_0,hx264_1,hx264_2,hx264_3,hx264_4⟩:=dN HR0.out x8_1 p264 q264;cases e264;replace hx264_0:=bx aq hx264_0;replace hx264_1:=bx aq hx264_1;replace hx264_2:=bx aq hx264_2;replace hx264_3:=bx aq hx264_3;replace hx264_4:=bx aq hx264_4;replace p264:=eq_true p264;replace q264:=eq_true q264
       go_wp2_with (first | ((with_reducible refine gD 5 ?_);refine dK 5 #[.string (⟨#[]⟩:ByteArray),.string (⟨#[]⟩:ByteArray),.int .i64 0,.string (⟨#[]⟩:ByteArray),.bool false] 34 ?_;intro gb265 hg w7 hbox hb;replace HO_3:=aS (Kd.dB (rel HO_3.out) hb);have BK265:=aS (hbox);have GW265:=bsize hg;have GE265:=bsize hg;replace HB:=aM hb;clear hb hbox hg;have hcz8:=cO BK265) | ((with_reducible refine gC 90 ?_);refine dn 17 Tryz.func90 #[.string ((af l0 x8_1).f0),.string ((af l0 x8_1).f1)] ?_;(with_reducible refine (fk.calls ((af l0 x8_1).f0) ((af l0 x8_1).f1) t266 _ A5.out).mono ?_);rintro e w9 ⟨rfl,hb⟩;refine ⟨_,rfl,?_⟩;replace HO_3:=aS (Kd.dB (by (with_reducible repeat (first | apply Kd.bB | apply Kd.bC | apply Kd.bD));exact (Kd.aK (Kd.fe (p:=⟨gb265,4,none⟩) (Kd.fe (p:=⟨gb265,3,none⟩) (Kd.fe (p:=⟨gb265,2,none⟩) (Kd.fe (p:=⟨gb265,1,none⟩) (Kd.fe (p:=⟨gb265,0,none⟩) (Kd.gP HO_3.out BK265.out (by decide)) (fun _ hk=>hk.2) (.string ((af l0 x8_1).f0))) (fun _ hk=>hk.2) (.string ((af l0 x8_1).f1))) (fun _ hk=>hk.2) (.int .i64 ((af l0 x8_1).f2))) (fun _ hk=>hk.2) (.string ((af l0 x8_1).f3))) (fun _ hk=>hk.2) (.bool ((af l0 x8_1).f4))) (fun _ h_=>h_.1))) hb);replace BK265:=aS (aI (g:=gb265) (o:=.cells #[.string ((af l0 x8_1).f0),.string ((af l0 x8_1).f1),.int .i64 ((af l0 x8_1).f2),.string ((af l0 x8_1).f3),.bool ((af l0 x8_1).f4)] 34 (0,0)) (by (with_reducible repeat (first | refine ay ?_ _ | refine ar ?_ | refine ax ?_ _));refine bk (cs:=#[.string ((af l0 x8_1).f0),.string ((af l0 x8_1).f1),.int .i64 ((af l0 x8_1).f2),.string ((af l0 x8_1).f3),.bool false]) ?_ 4 _ rfl;(with_reducible repeat (first | refine ay ?_ _ | refine ar ?_ | refine ax ?_ _));refine bk (cs:=#[.string ((af l0 x8_1).f0),.string ((af l0 x8_1).f1),.int .i64 ((af l0 x8_1).f2),.string (⟨#[]⟩:ByteArray),.bool false]) ?_ 3 _ rfl;(with_reducible repeat (first | refine ay ?_ _ | refine ar ?_ | refine ax ?_ _));refine bk (cs:=#[.string ((af l0 x8_1).f0),.string ((af l0 x8_1).f1),.int .i64 0,.string (⟨#[]⟩:ByteArray),.bool false]) ?_ 2 _ rfl;(with_reducible repeat (first | refine ay ?_ _ | refine ar ?_ | refine ax ?_ _));refine bk (cs:=#[.string ((af l0 x8_1).f0),.string (⟨#[]⟩:ByteArray),.int .i64 0,.string (⟨#[]⟩:ByteArray),.bool false]) ?_ 1 _ rfl;(with_reducible repeat (first | refine ay ?_ _ | refine ar ?_ | refine ax ?_ _));refine bk (cs:=#[.string (⟨#[]⟩:ByteArray),.string (⟨#[]⟩:ByteArray),.int .i64 0,.string (⟨#[]⟩:ByteArray),.bool false]) ?_ 0 _ rfl;(with_reducible repeat (first | refine ay ?_ _ | refine ar ?_ | refine ax ?_ _));exact BK265.out) hb);replace HB:=aM hb;(try clear hb);(try clear hk);(try clear hi)) | ((with_reducible refine fS (b:=.append) (xs:=#[.tmp 12,.tmp 18]) rfl ?_);at_builtin;refine Kd.gJ Kd.string (w0:=w) w.heap.size rfl (.tmp 12) (.tmp 18) 130 9 (.string ⟨#[]⟩) 16 rfl Tryz.underlying130 Gm rfl (by decide) (by omega) u3 x3_1 t266 [.string t266] (fun _=>True) (fun _=>False) rfl rfl ?aP (fun _ hk=>hk.elim) ?aF ?aO ?aB ?aS ?aL ?_;(case aP=>exact rfl);(case aB=>exact aq);(case aF=>exact (fun _ _=>trivial));(case aO=>exact (rel HO_3.out));(case aS=>exact (aA aq));(case aL=>have:=LMc6.out;omega);intro v268 w10 ho hb hg hat;rw [←Ny267.out] at ho;have n0_:=aS (eP (g:=gb265) (o:=.cells #[.string ((af l0 x8_1).f0),.string ((af l0 x8_1).f1),.int .i64 ((af l0 x8_1).f2),.string ((af l0 x8_1).f3),.bool ((af l0 x8_1).f4)] 34 (0,0)) (eA BK265.out) hg (Kd.lZ HO_3.out BK265.out (by decide)));have n1_:=aS (hb);have n2_:=aS (ho);clear BK265;clear HB;clear HO_3;have BK265:=n0_;have HB:=n1_;have HO269:=n2_;clear n0_ n1_ n2_;clear ho hb hg hat))
       go_roundg k1
       case measure=>have:=HK1.out;omega
       case rel=>exact ⟨(y267),(wrap64 (x8_1+1)),cG,H',⟨by have:=HK1.out;omega⟩,⟨by (with_reducible repeat (first | apply Kd.bB | apply Kd.bC | apply Kd.bD));exact HO269.out⟩,⟨aq⟩⟩
      ·
       rw [if_neg c6] at H;exact absurd H (by simp)
     ·
      rw [if_neg c4] at H;exact absurd H (by simp)
    ·
     rw [if_neg c3] at H;exact absurd H (by simp)
   ·
    rw [if_neg c2] at H;have c2b0:decide (x8_1<(l0.length:Int))=false:=decide_eq_false c2;clear c2;replace H:=bU H;obtain ⟨t270,A110,H⟩:=H;have A11:=aS A110;clear A110
    obtain rfl:=Option.some.inj H
    obtain ⟨Ao12,co12,eo12⟩:=Kd.bp HO_3.out;subst eo12
    go_wp2_with (first | ((with_reducible refine gC 91 ?_);refine dn 22 Tryz.func91 #[.slice Ao12 x3_1.length co12] ?_;(with_reducible refine (bI.calls k1 _ _ x3_1 t270 _ ?side1 ?side2 A11.out).mono ?_);(case side1=>exact eH ((Kd.aY HO_3.out).2.2));(case side2=>exact (Kd.aY HO_3.out).2.1);rintro e w13 ⟨v271,rfl,ho0,hb⟩;refine ⟨_,rfl,?_⟩;replace HO_3:=aS (Kd.dB (rel HO_3.out) hb);have HO272:=aS (Kd.bn ho0 (aA aq));replace HB:=aM hb;(try clear hb);(try clear hk);(try clear hi);(try clear ho0)))
    go_ret
    exact ⟨_,dP,by (with_reducible repeat (first | apply Kd.bB | apply Kd.bC | apply Kd.bD));exact HO272.out,aq⟩
def dD.f (l0:List Int):Option (List Int):=if l0.length*1≤140737488355328 then some l0 else none
theorem dD.calls (A0:Option Addr) (c0:Nat) (l0 r:List Int) (w:World) (hr0:Kd.C (Kd.int .u8) w A0 l0.length l0) (hc0:l0.length≤c0) (h:dD.f l0=some r) :
  Calls Tryz.prog 92 #[.slice A0 l0.length c0] w fun e w'=>∃ v0_:Value,e = .returned (v0_)∧Kd.R (Kd.int .u8) 5 w' w.heap.size (fun _=>True) v0_ r∧Below w.heap.size w w':=by
 unfold dD.f at h
 split at h
 ·
  rename_i hlim
  obtain rfl:=Option.some.inj h
  clear h;have HL:=aS hlim;clear hlim;have HR:=aS hr0;clear hr0;have HC:=aS hc0;clear hc0
  cases A0 with
  | none=>
   have hl:l0=[]:=by
    rcases Nat.eq_zero_or_pos l0.length with h0 | h0
    ·
     exact List.eq_nil_of_length_eq_zero h0
    ·
     obtain ⟨ad,h,_⟩:=HR.out.2.2 h0;cases h
   subst hl
   have hq:=fun (w:World) (n c n' c':Nat)=>Lib.run_eql_slice_nil (P:=Tryz.prog) w 51 5 none n c n' c' Tryz.underlying51
   go_enter Tryz.func92,Tryz.ntmps92
   go_wp2
   go_ret
   exact ⟨_,rfl,Kd.d6 _ _ _ _ _,Below.refl _ _⟩
  | some ad=>
   have hq:=fun (w:World) (n c n' c':Nat)=>Lib.run_eql_slice_nil (P:=Tryz.prog) w 51 5 (some ad) n c n' c' Tryz.underlying51
   go_enter Tryz.func92,Tryz.ntmps92
   go_wp2_with (first
    | ((with_reducible refine gD 5 ?_);refine Kd.rI (Kd.int .u8) _ 5 ?hg (N:=5) ?hd (xs:=[]) (inner:=[]) (ok:=fun _=>True) (okp:=fun _=>True) ?hr ?hp (fun _ hk=>hk) trivial (Below.refl _ _) (Nat.le_refl _) (by simp) ?_;(case hd=>rfl);(case hg=>rfl);(case hr=>first | (go_simp;done) | (go_simp;rfl));(case hp=>exact bP.none _ _);intro v1 w1 ho hb hg_ hnew_;clear hg_ hnew_;have HO:=aS ho;have HB:=aS hb;clear ho hb)
    | (at_builtin;refine Kd.jl (Kd.int .u8) (Rr:=((Kd.int .u8)).K w) (w0:=w) w.heap.size rfl (.tmp 5) _ 51 5 _ _ rfl Tryz.underlying51 gL rfl (by decide) (by decide) v1 [] l0 (some ad) l0.length c0 (fun _=>True) (fun _=>False) rfl rfl HO.out (HR.out.gK HB.out (fun _ _ hp=>hp)) (fun _ _ hp=>hp) (fun _ hk=>hk.elim) (fun _ _=>trivial) HB.out HB.out.size (by have:=HL.out;simp;omega) ?_;intro v2 w2 ho hb hg hat;clear hg hat;have HO2:=aS ho;have HB2:=aS hb;clear ho hb))
   go_ret
   exact ⟨_,rfl,HO2.out,HB2.out⟩
 ·
  cases h
end Go.Proofs.YtcbhfedcdnjljaaGreat.X

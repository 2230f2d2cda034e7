import Derived.Test.YtcbhfedcdnjljaaGreatProg
import Derived.WalkMore
import Derived.Deep.MidRow
import Derived.Test.YtcbhfedcdnjljaaGreatWAll
set_option linter.unusedVariables false
set_option linter.unusedSimpArgs false
namespace Go.Proofs.YtcbhfedcdnjljaaGreat.X
open Go.RowKit Go.Proofs.YtcbhfedcdnjljaaGreatW.PrintWords Go.Proofs.YtcbhfedcdnjljaaGreatW.PrintLast Go.Proofs.YtcbhfedcdnjljaaGreatW.PrintMore
attribute [local go_sem] gZ g_ iW iZ gF gD ic ig iX
def ER:Option Int→Value
 | none=>.nilIface
 | some c=>.iface 0 (.int .i64 c)
theorem jd:ER none = .nilIface:=rfl
theorem jh (c:Int):ER (some c) = .iface 0 (.int .i64 c):=rfl
theorem info3:(Tryz.prog.info? 3).map (fun i=>(i.zero,i.size,i.bytes))=some (some (.int .i64 0),1,8):=by kernel_rfl
theorem fE:(Tryz.prog.info? 5).map (fun i=>(i.zero,i.size,i.bytes))=some (some (.int .u8 0),1,1):=by kernel_rfl
theorem EZ:(Tryz.prog.info? 9).map (fun i=>(i.zero,i.size,i.bytes))=some (some (.string ⟨#[]⟩),1,16):=by kernel_rfl
theorem EL:(Tryz.prog.info? 23).map (fun i=>(i.zero,i.size,i.bytes))=some (some (.agg #[(.int .i64 0),(.int .i64 0),(.int .i64 0)]),3,24):=by kernel_rfl
theorem qd:(Tryz.prog.info? 32).map (fun i=>(i.zero,i.size,i.bytes))=some (some (.slice none 0 0),1,24):=by kernel_rfl
theorem fe:(Tryz.prog.info? 34).map (fun i=>(i.zero,i.size,i.bytes))=some (some (.agg #[(.string ⟨#[]⟩),(.string ⟨#[]⟩),(.int .i64 0),(.string ⟨#[]⟩),(.bool false)]),5,64):=by kernel_rfl
theorem Gb:(Tryz.prog.info? 51).map (fun i=>(i.zero,i.size,i.bytes))=some (some (.slice none 0 0),1,24):=by kernel_rfl
theorem mQ:(Tryz.prog.info? 64).map (fun i=>(i.zero,i.size,i.bytes))=some (some (.slice none 0 0),1,24):=by kernel_rfl
theorem EP:(Tryz.prog.info? 78).map (fun i=>(i.zero,i.size,i.bytes))=some (some (.agg #[(.slice none 0 0),(.int .i64 0)]),2,32):=by kernel_rfl
theorem qx:(Tryz.prog.info? 86).map (fun i=>(i.zero,i.size,i.bytes))=some (some (.pointer none),1,8):=by kernel_rfl
theorem BQ:(Tryz.prog.info? 96).map (fun i=>(i.zero,i.size,i.bytes))=some (some (.agg #[(.slice none 0 0),(.int .i64 0)]),2,32):=by kernel_rfl
-- the values' own types
structure av where
 f0:ByteArray
 f1:ByteArray
 f2:Int
 f3:ByteArray
 f4:Bool
def Dv:av:=⟨(⟨#[]⟩:ByteArray),(⟨#[]⟩:ByteArray),(0:Int),(⟨#[]⟩:ByteArray),false⟩
def cC:Kd av:=Kd.vQ (Kd.pair Kd.string (Kd.pair Kd.string (Kd.pair (Kd.int .i64) (Kd.pair Kd.string Kd.bool)))) (fun x:av=>(x.f0,x.f1,x.f2,x.f3,x.f4))
theorem tw:Kd.Heap cC:=Kd.sZ _ (Kd.lC Kd.pL (Kd.lC Kd.pL (Kd.lC (Kd.lq .i64) (Kd.lC Kd.pL Kd.Ce))))
theorem xP {w:World} {x:av} {cs:List Value} (h:cC.K w x cs):cs=[.string x.f0,.string x.f1,.int .i64 x.f2,.string x.f3,.bool x.f4]:=by
 obtain ⟨_,_,rfl,rfl,⟨_,_,rfl,rfl,⟨_,_,rfl,rfl,⟨_,_,rfl,rfl,rfl⟩⟩⟩⟩:=h;exact rfl
theorem Cc {w:World} {base:Nat} {ok:Nat→Prop} {x:av} {cs:List Value} (h:cC.M w base ok x cs):cs=[.string x.f0,.string x.f1,.int .i64 x.f2,.string x.f3,.bool x.f4]:=by
 obtain ⟨_,_,rfl,rfl,⟨_,_,rfl,rfl,⟨_,_,rfl,rfl,⟨_,_,rfl,rfl,rfl⟩⟩⟩⟩:=h;exact rfl
theorem uz (w:World) (x:av)  : cC.K w x [.string x.f0,.string x.f1,.int .i64 x.f2,.string x.f3,.bool x.f4]:=⟨[.string x.f0],[.string x.f1,.int .i64 x.f2,.string x.f3,.bool x.f4],rfl,rfl,⟨[.string x.f1],[.int .i64 x.f2,.string x.f3,.bool x.f4],rfl,rfl,⟨[.int .i64 x.f2],[.string x.f3,.bool x.f4],rfl,rfl,⟨[.string x.f3],[.bool x.f4],rfl,rfl,rfl⟩⟩⟩⟩
theorem jx (w:World) (base:Nat) (ok:Nat→Prop) (x:av)  : cC.M w base ok x [.string x.f0,.string x.f1,.int .i64 x.f2,.string x.f3,.bool x.f4]:=⟨[.string x.f0],[.string x.f1,.int .i64 x.f2,.string x.f3,.bool x.f4],rfl,rfl,⟨[.string x.f1],[.int .i64 x.f2,.string x.f3,.bool x.f4],rfl,rfl,⟨[.int .i64 x.f2],[.string x.f3,.bool x.f4],rfl,rfl,⟨[.string x.f3],[.bool x.f4],rfl,rfl,rfl⟩⟩⟩⟩
theorem FN (W:World) (ok:Nat→Prop) (x:av):Kd.FK cC W ok x [.string x.f0,.string x.f1,.int .i64 x.f2,.string x.f3,.bool x.f4]:=fun W2 _=>uz W2 x
def af (xs:List av) (i:Int):av:=xs.getD i.toNat Dv
theorem eT {w:World} {A:Option Addr} {n:Nat} {xs:List av} (h:Kd.C cC w A n xs) (i:Int) (h0:0≤i) (h1:i<n):∃ ad ,A=some ad∧w.cell? (ad.add (i.toNat*5))=some (.string (af xs i).f0)∧w.cell? ⟨(ad.add (i.toNat*5)).block,(ad.add (i.toNat*5)).off+1,none⟩=some (.string (af xs i).f1)∧w.cell? ⟨(ad.add (i.toNat*5)).block,(ad.add (i.toNat*5)).off+2,none⟩=some (.int .i64 (af xs i).f2)∧w.cell? ⟨(ad.add (i.toNat*5)).block,(ad.add (i.toNat*5)).off+3,none⟩=some (.string (af xs i).f3)∧w.cell? ⟨(ad.add (i.toNat*5)).block,(ad.add (i.toNat*5)).off+4,none⟩=some (.bool (af xs i).f4):=by
 obtain ⟨ad,c,e,_,hK,hc0⟩:=Kd.mF h Dv i h0 h1
 have hc:∀ j u,c[j]? = some u→w.cell? (ad.add (i.toNat*5+j))=some u:=hc0
 obtain rfl:=xP hK
 exact ⟨ad,e,hc 0 _ rfl,by rw [←lm _ _ 1 (by omega)];exact hc 1 _ rfl,by rw [←lm _ _ 2 (by omega)];exact hc 2 _ rfl,by rw [←lm _ _ 3 (by omega)];exact hc 3 _ rfl,by rw [←lm _ _ 4 (by omega)];exact hc 4 _ rfl⟩
def l9 (xs:List (List Int)) (i:Int):(List Int):=xs.getD i.toNat ([]:List Int)
theorem Dp {w:World} {A:Option Addr} {n:Nat} {xs:List (List Int)} (h:Kd.C (Kd.slice 5 (Kd.int .u8)) w A n xs) (i:Int) (h0:0≤i) (h1:i<n):∃ ad A0 c0,A=some ad∧w.cell? (ad.add i.toNat)=some (.slice A0 (l9 xs i).length c0)∧(l9 xs i).length≤c0∧(Kd.int .u8).C w A0 (l9 xs i).length (l9 xs i):=by
 obtain ⟨ad,c,e,_,hK,hc0⟩:=Kd.mF h ([]:List Int) i h0 h1
 have hc:∀ j u,c[j]? = some u→w.cell? (ad.add (i.toNat*1+j))=some u:=hc0
 obtain ⟨A0,c0,rfl,l0,g0⟩:=hK;exact ⟨ad,A0,c0,e,by have hq:=hc 0 _ rfl;rwa [Nat.mul_one,Nat.add_zero] at hq,l0,g0⟩
def wB (xs:List (List (List Int))) (i:Int):(List (List Int)):=xs.getD i.toNat ([]:List (List Int))
theorem at_L6 {w:World} {A:Option Addr} {n:Nat} {xs:List (List (List Int))} (h:Kd.C (Kd.slice 51 (Kd.slice 5 (Kd.int .u8))) w A n xs) (i:Int) (h0:0≤i) (h1:i<n):∃ ad A0 c0,A=some ad∧w.cell? (ad.add i.toNat)=some (.slice A0 (wB xs i).length c0)∧(wB xs i).length≤c0∧(Kd.slice 5 (Kd.int .u8)).C w A0 (wB xs i).length (wB xs i):=by
 obtain ⟨ad,c,e,_,hK,hc0⟩:=Kd.mF h ([]:List (List Int)) i h0 h1
 have hc:∀ j u,c[j]? = some u→w.cell? (ad.add (i.toNat*1+j))=some u:=hc0
 obtain ⟨A0,c0,rfl,l0,g0⟩:=hK;exact ⟨ad,A0,c0,e,by have hq:=hc 0 _ rfl;rwa [Nat.mul_one,Nat.add_zero] at hq,l0,g0⟩
def aQ (xs:List (List av)) (i:Int):(List av):=xs.getD i.toNat ([]:List av)
theorem qZ {w:World} {A:Option Addr} {n:Nat} {xs:List (List av)} (h:Kd.C (Kd.slice 34 cC) w A n xs) (i:Int) (h0:0≤i) (h1:i<n):∃ ad A0 c0,A=some ad∧w.cell? (ad.add i.toNat)=some (.slice A0 (aQ xs i).length c0)∧(aQ xs i).length≤c0∧cC.C w A0 (aQ xs i).length (aQ xs i):=by
 obtain ⟨ad,c,e,_,hK,hc0⟩:=Kd.mF h ([]:List av) i h0 h1
 have hc:∀ j u,c[j]? = some u→w.cell? (ad.add (i.toNat*1+j))=some u:=hc0
 obtain ⟨A0,c0,rfl,l0,g0⟩:=hK;exact ⟨ad,A0,c0,e,by have hq:=hc 0 _ rfl;rwa [Nat.mul_one,Nat.add_zero] at hq,l0,g0⟩
def wF (xs:List (List Int)) (i:Int):(List Int):=xs.getD i.toNat ([]:List Int)
theorem at_L9 {w:World} {A:Option Addr} {n:Nat} {xs:List (List Int)} (h:Kd.C (Kd.slice 3 (Kd.int .i64)) w A n xs) (i:Int) (h0:0≤i) (h1:i<n):∃ ad A0 c0,A=some ad∧w.cell? (ad.add i.toNat)=some (.slice A0 (wF xs i).length c0)∧(wF xs i).length≤c0∧(Kd.int .i64).C w A0 (wF xs i).length (wF xs i):=by
 obtain ⟨ad,c,e,_,hK,hc0⟩:=Kd.mF h ([]:List Int) i h0 h1
 have hc:∀ j u,c[j]? = some u→w.cell? (ad.add (i.toNat*1+j))=some u:=hc0
 obtain ⟨A0,c0,rfl,l0,g0⟩:=hK;exact ⟨ad,A0,c0,e,by have hq:=hc 0 _ rfl;rwa [Nat.mul_one,Nat.add_zero] at hq,l0,g0⟩
structure qn where
 f0:Int
 f1:Int
 f2:Int
def z23:qn:=⟨(0:Int),(0:Int),(0:Int)⟩
def k23:Kd qn:=Kd.vQ (Kd.pair (Kd.int .i64) (Kd.pair (Kd.int .i64) (Kd.int .i64))) (fun x:qn=>(x.f0,x.f1,x.f2))
theorem FJ:Kd.Heap k23:=Kd.sZ _ (Kd.lC (Kd.lq .i64) (Kd.lC (Kd.lq .i64) (Kd.lq .i64)))
theorem yA {w:World} {x:qn} {cs:List Value} (h:k23.K w x cs):cs=[.int .i64 x.f0,.int .i64 x.f1,.int .i64 x.f2]:=by
 obtain ⟨_,_,rfl,rfl,⟨_,_,rfl,rfl,rfl⟩⟩:=h;exact rfl
theorem Fs {w:World} {base:Nat} {ok:Nat→Prop} {x:qn} {cs:List Value} (h:k23.M w base ok x cs):cs=[.int .i64 x.f0,.int .i64 x.f1,.int .i64 x.f2]:=by
 obtain ⟨_,_,rfl,rfl,⟨_,_,rfl,rfl,rfl⟩⟩:=h;exact rfl
theorem EV (w:World) (x:qn)  : k23.K w x [.int .i64 x.f0,.int .i64 x.f1,.int .i64 x.f2]:=⟨[.int .i64 x.f0],[.int .i64 x.f1,.int .i64 x.f2],rfl,rfl,⟨[.int .i64 x.f1],[.int .i64 x.f2],rfl,rfl,rfl⟩⟩
theorem FP (w:World) (base:Nat) (ok:Nat→Prop) (x:qn)  : k23.M w base ok x [.int .i64 x.f0,.int .i64 x.f1,.int .i64 x.f2]:=⟨[.int .i64 x.f0],[.int .i64 x.f1,.int .i64 x.f2],rfl,rfl,⟨[.int .i64 x.f1],[.int .i64 x.f2],rfl,rfl,rfl⟩⟩
theorem FO (W:World) (ok:Nat→Prop) (x:qn):Kd.FK k23 W ok x [.int .i64 x.f0,.int .i64 x.f1,.int .i64 x.f2]:=fun W2 _=>EV W2 x
def yd (xs:List qn) (i:Int):qn:=xs.getD i.toNat z23
theorem Gg {w:World} {A:Option Addr} {n:Nat} {xs:List qn} (h:Kd.C k23 w A n xs) (i:Int) (h0:0≤i) (h1:i<n):∃ ad ,A=some ad∧w.cell? (ad.add (i.toNat*3))=some (.int .i64 (yd xs i).f0)∧w.cell? ⟨(ad.add (i.toNat*3)).block,(ad.add (i.toNat*3)).off+1,none⟩=some (.int .i64 (yd xs i).f1)∧w.cell? ⟨(ad.add (i.toNat*3)).block,(ad.add (i.toNat*3)).off+2,none⟩=some (.int .i64 (yd xs i).f2):=by
 obtain ⟨ad,c,e,_,hK,hc0⟩:=Kd.mF h z23 i h0 h1
 have hc:∀ j u,c[j]? = some u→w.cell? (ad.add (i.toNat*3+j))=some u:=hc0
 obtain rfl:=yA hK
 exact ⟨ad,e,hc 0 _ rfl,by rw [←lm _ _ 1 (by omega)];exact hc 1 _ rfl,by rw [←lm _ _ 2 (by omega)];exact hc 2 _ rfl⟩
structure ef where
 f0:(List av)
 f1:Int
def iU:ef:=⟨([]:List av),(0:Int)⟩
def qw:Kd ef:=Kd.vQ (Kd.pair (Kd.slice 34 cC) (Kd.int .i64)) (fun x:ef=>(x.f0,x.f1))
theorem Fz:Kd.Heap qw:=Kd.sZ _ (Kd.lC (Kd.AR 34 tw) (Kd.lq .i64))
theorem sY {w:World} {x:ef} {cs:List Value} (h:qw.K w x cs):∃ A0 c0,cs=[.slice A0 x.f0.length c0,.int .i64 x.f1]∧x.f0.length≤c0∧cC.C w A0 x.f0.length x.f0:=by
 obtain ⟨_,_,rfl,⟨A0,c0,rfl,l0,g0⟩,rfl⟩:=h;exact ⟨A0,c0,rfl,l0,g0⟩
theorem Fx {w:World} {base:Nat} {ok:Nat→Prop} {x:ef} {cs:List Value} (h:qw.M w base ok x cs):∃ v0,cs=[v0,.int .i64 x.f1]∧cC.R 34 w base ok v0 x.f0:=by
 obtain ⟨_,_,rfl,⟨v0,rfl,g0⟩,rfl⟩:=h;exact ⟨v0,rfl,g0⟩
theorem EQ (w:World) (x:ef) {A0:Option Addr} {c0:Nat} (l0:x.f0.length≤c0) (g0:cC.C w A0 x.f0.length x.f0):qw.K w x [.slice A0 x.f0.length c0,.int .i64 x.f1]:=⟨[.slice A0 x.f0.length c0],[.int .i64 x.f1],rfl,⟨A0,c0,rfl,l0,g0⟩,rfl⟩
theorem FR (w:World) (base:Nat) (ok:Nat→Prop) (x:ef) {v0:Value} (g0:cC.R 34 w base ok v0 x.f0):qw.M w base ok x [v0,.int .i64 x.f1]:=⟨[v0],[.int .i64 x.f1],rfl,⟨v0,rfl,g0⟩,rfl⟩
theorem Fq {W:World} {ok:Nat→Prop} {x:ef} {cs:List Value} (h:Kd.FK qw W ok x cs):∃ A0 c0,cs=[.slice A0 x.f0.length c0,.int .i64 x.f1]∧x.f0.length≤c0∧Kd.F cC W ok A0 x.f0.length x.f0:=by
 obtain ⟨A0,c0,rfl,l0,_⟩:=sY (Kd.pS h);exact ⟨A0,c0,rfl,l0,(fun W' hW=>by obtain ⟨A0_,c0_,he,l0_,g0_⟩:=sY (h W' hW);injection (Option.some.inj (show some (Value.slice A0 x.f0.length c0)=some (Value.slice A0_ x.f0.length c0_) from congrArg (fun l=>l[0]?) he)) with ha_ _ _;rw [ha_];exact g0_)⟩
theorem FQ (W:World) (ok:Nat→Prop) (x:ef) {A0:Option Addr} {c0:Nat} (l0:x.f0.length≤c0) (g0:Kd.F cC W ok A0 x.f0.length x.f0):Kd.FK qw W ok x [.slice A0 x.f0.length c0,.int .i64 x.f1]:=fun W2 hW=>EQ W2 x l0 (g0 W2 hW)
def bY (xs:List ef) (i:Int):ef:=xs.getD i.toNat iU
theorem ul {w:World} {A:Option Addr} {n:Nat} {xs:List ef} (h:Kd.C qw w A n xs) (i:Int) (h0:0≤i) (h1:i<n):∃ ad A0 c0,A=some ad∧w.cell? (ad.add (i.toNat*2))=some (.slice A0 (bY xs i).f0.length c0)∧w.cell? ⟨(ad.add (i.toNat*2)).block,(ad.add (i.toNat*2)).off+1,none⟩=some (.int .i64 (bY xs i).f1)∧(bY xs i).f0.length≤c0∧cC.C w A0 (bY xs i).f0.length (bY xs i).f0:=by
 obtain ⟨ad,c,e,_,hK,hc0⟩:=Kd.mF h iU i h0 h1
 have hc:∀ j u,c[j]? = some u→w.cell? (ad.add (i.toNat*2+j))=some u:=hc0
 obtain ⟨A0,c0,rfl,l0,g0⟩:=sY hK;exact ⟨ad,A0,c0,e,hc 0 _ rfl,by rw [←lm _ _ 1 (by omega)];exact hc 1 _ rfl,l0,g0⟩
def uo (xs:List (List (List av))) (i:Int):(List (List av)):=xs.getD i.toNat ([]:List (List av))
theorem FX {w:World} {A:Option Addr} {n:Nat} {xs:List (List (List av))} (h:Kd.C (Kd.slice 32 (Kd.slice 34 cC)) w A n xs) (i:Int) (h0:0≤i) (h1:i<n):∃ ad A0 c0,A=some ad∧w.cell? (ad.add i.toNat)=some (.slice A0 (uo xs i).length c0)∧(uo xs i).length≤c0∧(Kd.slice 34 cC).C w A0 (uo xs i).length (uo xs i):=by
 obtain ⟨ad,c,e,_,hK,hc0⟩:=Kd.mF h ([]:List (List av)) i h0 h1
 have hc:∀ j u,c[j]? = some u→w.cell? (ad.add (i.toNat*1+j))=some u:=hc0
 obtain ⟨A0,c0,rfl,l0,g0⟩:=hK;exact ⟨ad,A0,c0,e,by have hq:=hc 0 _ rfl;rwa [Nat.mul_one,Nat.add_zero] at hq,l0,g0⟩
end Go.Proofs.YtcbhfedcdnjljaaGreat.X

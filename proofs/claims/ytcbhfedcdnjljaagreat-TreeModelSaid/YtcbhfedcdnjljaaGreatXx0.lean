import Derived.Test.YtcbhfedcdnjljaaGreatProg
import Derived.WalkMore
import Derived.Deep.MidRow
import Derived.Test.YtcbhfedcdnjljaaGreatWAll
set_option linter.unusedVariables false
set_option linter.unusedSimpArgs false
namespace Go.Proofs.YtcbhfedcdnjljaaGreat.X
open Go.RowKit Go.Proofs.YtcbhfedcdnjljaaGreatW.PrintWords Go.Proofs.YtcbhfedcdnjljaaGreatW.PrintLast Go.Proofs.YtcbhfedcdnjljaaGreatW.PrintMore
attribute [local go_sem] lG lH mH mG kp ku lA lC mE
def FT:Option Int→Value
 | none=>.nilIface
 | some c=>.iface 0 (.int .i64 c)
theorem iY:FT none = .nilIface:=rfl
theorem ja (c:Int):FT (some c) = .iface 0 (.int .i64 c):=rfl
theorem info3:(Tryz.prog.info? 3).map (fun i=>(i.zero,i.size,i.bytes))=some (some (.int .i64 0),1,8):=by kernel_rfl
theorem gL:(Tryz.prog.info? 5).map (fun i=>(i.zero,i.size,i.bytes))=some (some (.int .u8 0),1,1):=by kernel_rfl
theorem Gm:(Tryz.prog.info? 9).map (fun i=>(i.zero,i.size,i.bytes))=some (some (.string ⟨#[]⟩),1,16):=by kernel_rfl
theorem FB:(Tryz.prog.info? 23).map (fun i=>(i.zero,i.size,i.bytes))=some (some (.agg #[(.int .i64 0),(.int .i64 0),(.int .i64 0)]),3,24):=by kernel_rfl
theorem qj:(Tryz.prog.info? 32).map (fun i=>(i.zero,i.size,i.bytes))=some (some (.slice none 0 0),1,24):=by kernel_rfl
theorem eO:(Tryz.prog.info? 34).map (fun i=>(i.zero,i.size,i.bytes))=some (some (.agg #[(.string ⟨#[]⟩),(.string ⟨#[]⟩),(.int .i64 0),(.string ⟨#[]⟩),(.bool false)]),5,64):=by kernel_rfl
theorem Fc:(Tryz.prog.info? 36).map (fun i=>(i.zero,i.size,i.bytes))=some (some (.agg #[(.int .i64 0),(.string ⟨#[]⟩),(.string ⟨#[]⟩),(.int .i64 0),(.string ⟨#[]⟩),(.bool false)]),6,72):=by kernel_rfl
theorem Hz:(Tryz.prog.info? 51).map (fun i=>(i.zero,i.size,i.bytes))=some (some (.slice none 0 0),1,24):=by kernel_rfl
theorem mV:(Tryz.prog.info? 64).map (fun i=>(i.zero,i.size,i.bytes))=some (some (.slice none 0 0),1,24):=by kernel_rfl
theorem FY:(Tryz.prog.info? 78).map (fun i=>(i.zero,i.size,i.bytes))=some (some (.agg #[(.slice none 0 0),(.int .i64 0)]),2,32):=by kernel_rfl
theorem qF:(Tryz.prog.info? 86).map (fun i=>(i.zero,i.size,i.bytes))=some (some (.pointer none),1,8):=by kernel_rfl
theorem Cf:(Tryz.prog.info? 96).map (fun i=>(i.zero,i.size,i.bytes))=some (some (.agg #[(.slice none 0 0),(.int .i64 0)]),2,32):=by kernel_rfl
-- the values' own types
structure au where
 f0:ByteArray
 f1:ByteArray
 f2:Int
 f3:ByteArray
 f4:Bool
def Ch:au:=⟨(⟨#[]⟩:ByteArray),(⟨#[]⟩:ByteArray),(0:Int),(⟨#[]⟩:ByteArray),false⟩
def cm:Kd au:=Kd.uG (Kd.pair Kd.string (Kd.pair Kd.string (Kd.pair (Kd.int .i64) (Kd.pair Kd.string Kd.bool)))) (fun x:au=>(x.f0,x.f1,x.f2,x.f3,x.f4))
theorem qR:Kd.Heap cm:=Kd.rB _ (Kd.ko Kd.pY (Kd.ko Kd.pY (Kd.ko (Kd.kF .i64) (Kd.ko Kd.pY Kd.Cr))))
theorem t8 {w:World} {x:au} {cs:List Value} (h:cm.K w x cs):cs=[.string x.f0,.string x.f1,.int .i64 x.f2,.string x.f3,.bool x.f4]:=by
 obtain ⟨_,_,rfl,rfl,⟨_,_,rfl,rfl,⟨_,_,rfl,rfl,⟨_,_,rfl,rfl,rfl⟩⟩⟩⟩:=h;exact rfl
theorem wN {w:World} {base:Nat} {ok:Nat→Prop} {x:au} {cs:List Value} (h:cm.M w base ok x cs):cs=[.string x.f0,.string x.f1,.int .i64 x.f2,.string x.f3,.bool x.f4]:=by
 obtain ⟨_,_,rfl,rfl,⟨_,_,rfl,rfl,⟨_,_,rfl,rfl,⟨_,_,rfl,rfl,rfl⟩⟩⟩⟩:=h;exact rfl
theorem sq (w:World) (x:au)  : cm.K w x [.string x.f0,.string x.f1,.int .i64 x.f2,.string x.f3,.bool x.f4]:=⟨[.string x.f0],[.string x.f1,.int .i64 x.f2,.string x.f3,.bool x.f4],rfl,rfl,⟨[.string x.f1],[.int .i64 x.f2,.string x.f3,.bool x.f4],rfl,rfl,⟨[.int .i64 x.f2],[.string x.f3,.bool x.f4],rfl,rfl,⟨[.string x.f3],[.bool x.f4],rfl,rfl,rfl⟩⟩⟩⟩
theorem ia (w:World) (base:Nat) (ok:Nat→Prop) (x:au)  : cm.M w base ok x [.string x.f0,.string x.f1,.int .i64 x.f2,.string x.f3,.bool x.f4]:=⟨[.string x.f0],[.string x.f1,.int .i64 x.f2,.string x.f3,.bool x.f4],rfl,rfl,⟨[.string x.f1],[.int .i64 x.f2,.string x.f3,.bool x.f4],rfl,rfl,⟨[.int .i64 x.f2],[.string x.f3,.bool x.f4],rfl,rfl,⟨[.string x.f3],[.bool x.f4],rfl,rfl,rfl⟩⟩⟩⟩
theorem Hq (W:World) (ok:Nat→Prop) (x:au):Kd.FK cm W ok x [.string x.f0,.string x.f1,.int .i64 x.f2,.string x.f3,.bool x.f4]:=fun W2 _=>sq W2 x
def af (xs:List au) (i:Int):au:=xs.getD i.toNat Ch
theorem dN {w:World} {A:Option Addr} {n:Nat} {xs:List au} (h:Kd.C cm w A n xs) (i:Int) (h0:0≤i) (h1:i<n):∃ ad ,A=some ad∧w.cell? (ad.add (i.toNat*5))=some (.string (af xs i).f0)∧w.cell? ⟨(ad.add (i.toNat*5)).block,(ad.add (i.toNat*5)).off+1,none⟩=some (.string (af xs i).f1)∧w.cell? ⟨(ad.add (i.toNat*5)).block,(ad.add (i.toNat*5)).off+2,none⟩=some (.int .i64 (af xs i).f2)∧w.cell? ⟨(ad.add (i.toNat*5)).block,(ad.add (i.toNat*5)).off+3,none⟩=some (.string (af xs i).f3)∧w.cell? ⟨(ad.add (i.toNat*5)).block,(ad.add (i.toNat*5)).off+4,none⟩=some (.bool (af xs i).f4):=by
 obtain ⟨ad,c,e,_,hK,hc0⟩:=Kd.lR h Ch i h0 h1
 have hc:∀ j u,c[j]? = some u→w.cell? (ad.add (i.toNat*5+j))=some u:=hc0
 obtain rfl:=t8 hK
 exact ⟨ad,e,hc 0 _ rfl,by rw [←iN _ _ 1 (by omega)];exact hc 1 _ rfl,by rw [←iN _ _ 2 (by omega)];exact hc 2 _ rfl,by rw [←iN _ _ 3 (by omega)];exact hc 3 _ rfl,by rw [←iN _ _ 4 (by omega)];exact hc 4 _ rfl⟩
def mq (xs:List (List Int)) (i:Int):(List Int):=xs.getD i.toNat ([]:List Int)
theorem Ea {w:World} {A:Option Addr} {n:Nat} {xs:List (List Int)} (h:Kd.C (Kd.slice 5 (Kd.int .u8)) w A n xs) (i:Int) (h0:0≤i) (h1:i<n):∃ ad A0 c0,A=some ad∧w.cell? (ad.add i.toNat)=some (.slice A0 (mq xs i).length c0)∧(mq xs i).length≤c0∧(Kd.int .u8).C w A0 (mq xs i).length (mq xs i):=by
 obtain ⟨ad,c,e,_,hK,hc0⟩:=Kd.lR h ([]:List Int) i h0 h1
 have hc:∀ j u,c[j]? = some u→w.cell? (ad.add (i.toNat*1+j))=some u:=hc0
 obtain ⟨A0,c0,rfl,l0,g0⟩:=hK;exact ⟨ad,A0,c0,e,by have hq:=hc 0 _ rfl;rwa [Nat.mul_one,Nat.add_zero] at hq,l0,g0⟩
def xq (xs:List (List (List Int))) (i:Int):(List (List Int)):=xs.getD i.toNat ([]:List (List Int))
theorem at_L6 {w:World} {A:Option Addr} {n:Nat} {xs:List (List (List Int))} (h:Kd.C (Kd.slice 51 (Kd.slice 5 (Kd.int .u8))) w A n xs) (i:Int) (h0:0≤i) (h1:i<n):∃ ad A0 c0,A=some ad∧w.cell? (ad.add i.toNat)=some (.slice A0 (xq xs i).length c0)∧(xq xs i).length≤c0∧(Kd.slice 5 (Kd.int .u8)).C w A0 (xq xs i).length (xq xs i):=by
 obtain ⟨ad,c,e,_,hK,hc0⟩:=Kd.lR h ([]:List (List Int)) i h0 h1
 have hc:∀ j u,c[j]? = some u→w.cell? (ad.add (i.toNat*1+j))=some u:=hc0
 obtain ⟨A0,c0,rfl,l0,g0⟩:=hK;exact ⟨ad,A0,c0,e,by have hq:=hc 0 _ rfl;rwa [Nat.mul_one,Nat.add_zero] at hq,l0,g0⟩
def aN (xs:List (List au)) (i:Int):(List au):=xs.getD i.toNat ([]:List au)
theorem rE {w:World} {A:Option Addr} {n:Nat} {xs:List (List au)} (h:Kd.C (Kd.slice 34 cm) w A n xs) (i:Int) (h0:0≤i) (h1:i<n):∃ ad A0 c0,A=some ad∧w.cell? (ad.add i.toNat)=some (.slice A0 (aN xs i).length c0)∧(aN xs i).length≤c0∧cm.C w A0 (aN xs i).length (aN xs i):=by
 obtain ⟨ad,c,e,_,hK,hc0⟩:=Kd.lR h ([]:List au) i h0 h1
 have hc:∀ j u,c[j]? = some u→w.cell? (ad.add (i.toNat*1+j))=some u:=hc0
 obtain ⟨A0,c0,rfl,l0,g0⟩:=hK;exact ⟨ad,A0,c0,e,by have hq:=hc 0 _ rfl;rwa [Nat.mul_one,Nat.add_zero] at hq,l0,g0⟩
def xA (xs:List (List Int)) (i:Int):(List Int):=xs.getD i.toNat ([]:List Int)
theorem at_L9 {w:World} {A:Option Addr} {n:Nat} {xs:List (List Int)} (h:Kd.C (Kd.slice 3 (Kd.int .i64)) w A n xs) (i:Int) (h0:0≤i) (h1:i<n):∃ ad A0 c0,A=some ad∧w.cell? (ad.add i.toNat)=some (.slice A0 (xA xs i).length c0)∧(xA xs i).length≤c0∧(Kd.int .i64).C w A0 (xA xs i).length (xA xs i):=by
 obtain ⟨ad,c,e,_,hK,hc0⟩:=Kd.lR h ([]:List Int) i h0 h1
 have hc:∀ j u,c[j]? = some u→w.cell? (ad.add (i.toNat*1+j))=some u:=hc0
 obtain ⟨A0,c0,rfl,l0,g0⟩:=hK;exact ⟨ad,A0,c0,e,by have hq:=hc 0 _ rfl;rwa [Nat.mul_one,Nat.add_zero] at hq,l0,g0⟩
structure qf where
 f0:Int
 f1:Int
 f2:Int
def z23:qf:=⟨(0:Int),(0:Int),(0:Int)⟩
def k23:Kd qf:=Kd.uG (Kd.pair (Kd.int .i64) (Kd.pair (Kd.int .i64) (Kd.int .i64))) (fun x:qf=>(x.f0,x.f1,x.f2))
theorem GZ:Kd.Heap k23:=Kd.rB _ (Kd.ko (Kd.kF .i64) (Kd.ko (Kd.kF .i64) (Kd.kF .i64)))
theorem xZ {w:World} {x:qf} {cs:List Value} (h:k23.K w x cs):cs=[.int .i64 x.f0,.int .i64 x.f1,.int .i64 x.f2]:=by
 obtain ⟨_,_,rfl,rfl,⟨_,_,rfl,rfl,rfl⟩⟩:=h;exact rfl
theorem GN {w:World} {base:Nat} {ok:Nat→Prop} {x:qf} {cs:List Value} (h:k23.M w base ok x cs):cs=[.int .i64 x.f0,.int .i64 x.f1,.int .i64 x.f2]:=by
 obtain ⟨_,_,rfl,rfl,⟨_,_,rfl,rfl,rfl⟩⟩:=h;exact rfl
theorem Fp (w:World) (x:qf)  : k23.K w x [.int .i64 x.f0,.int .i64 x.f1,.int .i64 x.f2]:=⟨[.int .i64 x.f0],[.int .i64 x.f1,.int .i64 x.f2],rfl,rfl,⟨[.int .i64 x.f1],[.int .i64 x.f2],rfl,rfl,rfl⟩⟩
theorem Ho (w:World) (base:Nat) (ok:Nat→Prop) (x:qf)  : k23.M w base ok x [.int .i64 x.f0,.int .i64 x.f1,.int .i64 x.f2]:=⟨[.int .i64 x.f0],[.int .i64 x.f1,.int .i64 x.f2],rfl,rfl,⟨[.int .i64 x.f1],[.int .i64 x.f2],rfl,rfl,rfl⟩⟩
theorem Hl (W:World) (ok:Nat→Prop) (x:qf):Kd.FK k23 W ok x [.int .i64 x.f0,.int .i64 x.f1,.int .i64 x.f2]:=fun W2 _=>Fp W2 x
def yd (xs:List qf) (i:Int):qf:=xs.getD i.toNat z23
theorem Ii {w:World} {A:Option Addr} {n:Nat} {xs:List qf} (h:Kd.C k23 w A n xs) (i:Int) (h0:0≤i) (h1:i<n):∃ ad ,A=some ad∧w.cell? (ad.add (i.toNat*3))=some (.int .i64 (yd xs i).f0)∧w.cell? ⟨(ad.add (i.toNat*3)).block,(ad.add (i.toNat*3)).off+1,none⟩=some (.int .i64 (yd xs i).f1)∧w.cell? ⟨(ad.add (i.toNat*3)).block,(ad.add (i.toNat*3)).off+2,none⟩=some (.int .i64 (yd xs i).f2):=by
 obtain ⟨ad,c,e,_,hK,hc0⟩:=Kd.lR h z23 i h0 h1
 have hc:∀ j u,c[j]? = some u→w.cell? (ad.add (i.toNat*3+j))=some u:=hc0
 obtain rfl:=xZ hK
 exact ⟨ad,e,hc 0 _ rfl,by rw [←iN _ _ 1 (by omega)];exact hc 1 _ rfl,by rw [←iN _ _ 2 (by omega)];exact hc 2 _ rfl⟩
structure dZ where
 f0:(List au)
 f1:Int
def iR:dZ:=⟨([]:List au),(0:Int)⟩
def qG:Kd dZ:=Kd.uG (Kd.pair (Kd.slice 34 cm) (Kd.int .i64)) (fun x:dZ=>(x.f0,x.f1))
theorem GY:Kd.Heap qG:=Kd.rB _ (Kd.ko (Kd.AU 34 qR) (Kd.kF .i64))
theorem ug {w:World} {x:dZ} {cs:List Value} (h:qG.K w x cs):∃ A0 c0,cs=[.slice A0 x.f0.length c0,.int .i64 x.f1]∧x.f0.length≤c0∧cm.C w A0 x.f0.length x.f0:=by
 obtain ⟨_,_,rfl,⟨A0,c0,rfl,l0,g0⟩,rfl⟩:=h;exact ⟨A0,c0,rfl,l0,g0⟩
theorem Gx {w:World} {base:Nat} {ok:Nat→Prop} {x:dZ} {cs:List Value} (h:qG.M w base ok x cs):∃ v0,cs=[v0,.int .i64 x.f1]∧cm.R 34 w base ok v0 x.f0:=by
 obtain ⟨_,_,rfl,⟨v0,rfl,g0⟩,rfl⟩:=h;exact ⟨v0,rfl,g0⟩
theorem Fw (w:World) (x:dZ) {A0:Option Addr} {c0:Nat} (l0:x.f0.length≤c0) (g0:cm.C w A0 x.f0.length x.f0):qG.K w x [.slice A0 x.f0.length c0,.int .i64 x.f1]:=⟨[.slice A0 x.f0.length c0],[.int .i64 x.f1],rfl,⟨A0,c0,rfl,l0,g0⟩,rfl⟩
theorem Hj (w:World) (base:Nat) (ok:Nat→Prop) (x:dZ) {v0:Value} (g0:cm.R 34 w base ok v0 x.f0):qG.M w base ok x [v0,.int .i64 x.f1]:=⟨[v0],[.int .i64 x.f1],rfl,⟨v0,rfl,g0⟩,rfl⟩
theorem Gy {W:World} {ok:Nat→Prop} {x:dZ} {cs:List Value} (h:Kd.FK qG W ok x cs):∃ A0 c0,cs=[.slice A0 x.f0.length c0,.int .i64 x.f1]∧x.f0.length≤c0∧Kd.F cm W ok A0 x.f0.length x.f0:=by
 obtain ⟨A0,c0,rfl,l0,_⟩:=ug (Kd.qy h);exact ⟨A0,c0,rfl,l0,(fun W' hW=>by obtain ⟨A0_,c0_,he,l0_,g0_⟩:=ug (h W' hW);injection (Option.some.inj (show some (Value.slice A0 x.f0.length c0)=some (Value.slice A0_ x.f0.length c0_) from congrArg (fun l=>l[0]?) he)) with ha_ _ _;rw [ha_];exact g0_)⟩
theorem Hi (W:World) (ok:Nat→Prop) (x:dZ) {A0:Option Addr} {c0:Nat} (l0:x.f0.length≤c0) (g0:Kd.F cm W ok A0 x.f0.length x.f0):Kd.FK qG W ok x [.slice A0 x.f0.length c0,.int .i64 x.f1]:=fun W2 hW=>Fw W2 x l0 (g0 W2 hW)
def bZ (xs:List dZ) (i:Int):dZ:=xs.getD i.toNat iR
theorem ur {w:World} {A:Option Addr} {n:Nat} {xs:List dZ} (h:Kd.C qG w A n xs) (i:Int) (h0:0≤i) (h1:i<n):∃ ad A0 c0,A=some ad∧w.cell? (ad.add (i.toNat*2))=some (.slice A0 (bZ xs i).f0.length c0)∧w.cell? ⟨(ad.add (i.toNat*2)).block,(ad.add (i.toNat*2)).off+1,none⟩=some (.int .i64 (bZ xs i).f1)∧(bZ xs i).f0.length≤c0∧cm.C w A0 (bZ xs i).f0.length (bZ xs i).f0:=by
 obtain ⟨ad,c,e,_,hK,hc0⟩:=Kd.lR h iR i h0 h1
 have hc:∀ j u,c[j]? = some u→w.cell? (ad.add (i.toNat*2+j))=some u:=hc0
 obtain ⟨A0,c0,rfl,l0,g0⟩:=ug hK;exact ⟨ad,A0,c0,e,hc 0 _ rfl,by rw [←iN _ _ 1 (by omega)];exact hc 1 _ rfl,l0,g0⟩
def uq (xs:List (List (List au))) (i:Int):(List (List au)):=xs.getD i.toNat ([]:List (List au))
theorem HJ {w:World} {A:Option Addr} {n:Nat} {xs:List (List (List au))} (h:Kd.C (Kd.slice 32 (Kd.slice 34 cm)) w A n xs) (i:Int) (h0:0≤i) (h1:i<n):∃ ad A0 c0,A=some ad∧w.cell? (ad.add i.toNat)=some (.slice A0 (uq xs i).length c0)∧(uq xs i).length≤c0∧(Kd.slice 34 cm).C w A0 (uq xs i).length (uq xs i):=by
 obtain ⟨ad,c,e,_,hK,hc0⟩:=Kd.lR h ([]:List (List au)) i h0 h1
 have hc:∀ j u,c[j]? = some u→w.cell? (ad.add (i.toNat*1+j))=some u:=hc0
 obtain ⟨A0,c0,rfl,l0,g0⟩:=hK;exact ⟨ad,A0,c0,e,by have hq:=hc 0 _ rfl;rwa [Nat.mul_one,Nat.add_zero] at hq,l0,g0⟩
structure jG where
 f0:Int
 f1:au
def z36:jG:=⟨(0:Int),Ch⟩
def pN:Kd jG:=Kd.uG (Kd.pair (Kd.int .i64) cm) (fun x:jG=>(x.f0,x.f1))
theorem GR:Kd.Heap pN:=Kd.rB _ (Kd.ko (Kd.kF .i64) qR)
theorem DW {w:World} {x:jG} {cs:List Value} (h:pN.K w x cs):cs=[.int .i64 x.f0,.string x.f1.f0,.string x.f1.f1,.int .i64 x.f1.f2,.string x.f1.f3,.bool x.f1.f4]:=by
 obtain ⟨_,_,rfl,rfl,s1⟩:=h
 obtain rfl:=t8 s1
 exact rfl
theorem GF {w:World} {base:Nat} {ok:Nat→Prop} {x:jG} {cs:List Value} (h:pN.M w base ok x cs):cs=[.int .i64 x.f0,.string x.f1.f0,.string x.f1.f1,.int .i64 x.f1.f2,.string x.f1.f3,.bool x.f1.f4]:=by
 obtain ⟨_,_,rfl,rfl,s1⟩:=h
 obtain rfl:=wN s1
 exact rfl
theorem Fk (w:World) (x:jG)  : pN.K w x [.int .i64 x.f0,.string x.f1.f0,.string x.f1.f1,.int .i64 x.f1.f2,.string x.f1.f3,.bool x.f1.f4]:=⟨[.int .i64 x.f0],[.string x.f1.f0,.string x.f1.f1,.int .i64 x.f1.f2,.string x.f1.f3,.bool x.f1.f4],rfl,rfl,(sq w x.f1 )⟩
theorem Hp (w:World) (base:Nat) (ok:Nat→Prop) (x:jG)  : pN.M w base ok x [.int .i64 x.f0,.string x.f1.f0,.string x.f1.f1,.int .i64 x.f1.f2,.string x.f1.f3,.bool x.f1.f4]:=⟨[.int .i64 x.f0],[.string x.f1.f0,.string x.f1.f1,.int .i64 x.f1.f2,.string x.f1.f3,.bool x.f1.f4],rfl,rfl,(ia w base ok x.f1 )⟩
theorem Hh (W:World) (ok:Nat→Prop) (x:jG):Kd.FK pN W ok x [.int .i64 x.f0,.string x.f1.f0,.string x.f1.f1,.int .i64 x.f1.f2,.string x.f1.f3,.bool x.f1.f4]:=fun W2 _=>Fk W2 x
def fA (xs:List jG) (i:Int):jG:=xs.getD i.toNat z36
theorem lE {w:World} {A:Option Addr} {n:Nat} {xs:List jG} (h:Kd.C pN w A n xs) (i:Int) (h0:0≤i) (h1:i<n):∃ ad ,A=some ad∧w.cell? (ad.add (i.toNat*6))=some (.int .i64 (fA xs i).f0)∧w.cell? ⟨(ad.add (i.toNat*6)).block,(ad.add (i.toNat*6)).off+1,none⟩=some (.string (fA xs i).f1.f0)∧w.cell? ⟨(ad.add (i.toNat*6)).block,(ad.add (i.toNat*6)).off+2,none⟩=some (.string (fA xs i).f1.f1)∧w.cell? ⟨(ad.add (i.toNat*6)).block,(ad.add (i.toNat*6)).off+3,none⟩=some (.int .i64 (fA xs i).f1.f2)∧w.cell? ⟨(ad.add (i.toNat*6)).block,(ad.add (i.toNat*6)).off+4,none⟩=some (.string (fA xs i).f1.f3)∧w.cell? ⟨(ad.add (i.toNat*6)).block,(ad.add (i.toNat*6)).off+5,none⟩=some (.bool (fA xs i).f1.f4):=by
 obtain ⟨ad,c,e,_,hK,hc0⟩:=Kd.lR h z36 i h0 h1
 have hc:∀ j u,c[j]? = some u→w.cell? (ad.add (i.toNat*6+j))=some u:=hc0
 obtain rfl:=DW hK
 exact ⟨ad,e,hc 0 _ rfl,by rw [←iN _ _ 1 (by omega)];exact hc 1 _ rfl,by rw [←iN _ _ 2 (by omega)];exact hc 2 _ rfl,by rw [←iN _ _ 3 (by omega)];exact hc 3 _ rfl,by rw [←iN _ _ 4 (by omega)];exact hc 4 _ rfl,by rw [←iN _ _ 5 (by omega)];exact hc 5 _ rfl⟩
def uL (xs:List (List jG)) (i:Int):(List jG):=xs.getD i.toNat ([]:List jG)
theorem Ic {w:World} {A:Option Addr} {n:Nat} {xs:List (List jG)} (h:Kd.C (Kd.slice 36 pN) w A n xs) (i:Int) (h0:0≤i) (h1:i<n):∃ ad A0 c0,A=some ad∧w.cell? (ad.add i.toNat)=some (.slice A0 (uL xs i).length c0)∧(uL xs i).length≤c0∧pN.C w A0 (uL xs i).length (uL xs i):=by
 obtain ⟨ad,c,e,_,hK,hc0⟩:=Kd.lR h ([]:List jG) i h0 h1
 have hc:∀ j u,c[j]? = some u→w.cell? (ad.add (i.toNat*1+j))=some u:=hc0
 obtain ⟨A0,c0,rfl,l0,g0⟩:=hK;exact ⟨ad,A0,c0,e,by have hq:=hc 0 _ rfl;rwa [Nat.mul_one,Nat.add_zero] at hq,l0,g0⟩
end Go.Proofs.YtcbhfedcdnjljaaGreat.X

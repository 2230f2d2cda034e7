import Derived.Test.YtcbhfedcdnjljaaGreatProg
import Derived.WalkMore
import Derived.Deep.MidRow
import Derived.Test.YtcbhfedcdnjljaaGreatWAll
set_option linter.unusedVariables false
set_option linter.unusedSimpArgs false
namespace Go.Proofs.YtcbhfedcdnjljaaGreat.X
open Go.RowKit Go.Proofs.YtcbhfedcdnjljaaGreatW.PrintWords Go.Proofs.YtcbhfedcdnjljaaGreatW.PrintLast Go.Proofs.YtcbhfedcdnjljaaGreatW.PrintMore
attribute [local go_sem] gn gu iu ic fJ fN gA gC ig
def Eg:Option Int→Value
 | none=>.nilIface
 | some c=>.iface 0 (.int .i64 c)
theorem gP:Eg none = .nilIface:=rfl
theorem gS (c:Int):Eg (some c) = .iface 0 (.int .i64 c):=rfl
theorem info3:(Tryz.prog.info? 3).map (fun i=>(i.zero,i.size,i.bytes))=some (some (.int .i64 0),1,8):=by kernel_rfl
theorem gJ:(Tryz.prog.info? 5).map (fun i=>(i.zero,i.size,i.bytes))=some (some (.int .u8 0),1,1):=by kernel_rfl
theorem Fh:(Tryz.prog.info? 9).map (fun i=>(i.zero,i.size,i.bytes))=some (some (.string ⟨#[]⟩),1,16):=by kernel_rfl
theorem Er:(Tryz.prog.info? 23).map (fun i=>(i.zero,i.size,i.bytes))=some (some (.agg #[(.int .i64 0),(.int .i64 0),(.int .i64 0)]),3,24):=by kernel_rfl
theorem qv:(Tryz.prog.info? 32).map (fun i=>(i.zero,i.size,i.bytes))=some (some (.slice none 0 0),1,24):=by kernel_rfl
theorem eB:(Tryz.prog.info? 34).map (fun i=>(i.zero,i.size,i.bytes))=some (some (.agg #[(.string ⟨#[]⟩),(.string ⟨#[]⟩),(.int .i64 0),(.string ⟨#[]⟩),(.bool false)]),5,64):=by kernel_rfl
theorem F9:(Tryz.prog.info? 51).map (fun i=>(i.zero,i.size,i.bytes))=some (some (.slice none 0 0),1,24):=by kernel_rfl
theorem mT:(Tryz.prog.info? 64).map (fun i=>(i.zero,i.size,i.bytes))=some (some (.slice none 0 0),1,24):=by kernel_rfl
theorem EP:(Tryz.prog.info? 78).map (fun i=>(i.zero,i.size,i.bytes))=some (some (.agg #[(.slice none 0 0),(.int .i64 0)]),2,32):=by kernel_rfl
theorem qm:(Tryz.prog.info? 86).map (fun i=>(i.zero,i.size,i.bytes))=some (some (.pointer none),1,8):=by kernel_rfl
theorem Bn:(Tryz.prog.info? 96).map (fun i=>(i.zero,i.size,i.bytes))=some (some (.agg #[(.slice none 0 0),(.int .i64 0)]),2,32):=by kernel_rfl
-- the values' own types
structure au where
 f0:ByteArray
 f1:ByteArray
 f2:Int
 f3:ByteArray
 f4:Bool
def yZ:au:=⟨(⟨#[]⟩:ByteArray),(⟨#[]⟩:ByteArray),(0:Int),(⟨#[]⟩:ByteArray),false⟩
def bP:Kd au:=Kd.vF (Kd.pair Kd.string (Kd.pair Kd.string (Kd.pair (Kd.int .i64) (Kd.pair Kd.string Kd.bool)))) (fun x:au=>(x.f0,x.f1,x.f2,x.f3,x.f4))
theorem tD:Kd.Heap bP:=Kd.tu _ (Kd.kU Kd.pO (Kd.kU Kd.pO (Kd.kU (Kd.ld .i64) (Kd.kU Kd.pO Kd.Bh))))
theorem wI {w:World} {x:au} {cs:List Value} (h:bP.K w x cs):cs=[.string x.f0,.string x.f1,.int .i64 x.f2,.string x.f3,.bool x.f4]:=by
 obtain ⟨_,_,rfl,rfl,⟨_,_,rfl,rfl,⟨_,_,rfl,rfl,⟨_,_,rfl,rfl,rfl⟩⟩⟩⟩:=h;exact rfl
theorem Bj {w:World} {base:Nat} {ok:Nat→Prop} {x:au} {cs:List Value} (h:bP.M w base ok x cs):cs=[.string x.f0,.string x.f1,.int .i64 x.f2,.string x.f3,.bool x.f4]:=by
 obtain ⟨_,_,rfl,rfl,⟨_,_,rfl,rfl,⟨_,_,rfl,rfl,⟨_,_,rfl,rfl,rfl⟩⟩⟩⟩:=h;exact rfl
theorem pV (w:World) (x:au)  : bP.K w x [.string x.f0,.string x.f1,.int .i64 x.f2,.string x.f3,.bool x.f4]:=⟨[.string x.f0],[.string x.f1,.int .i64 x.f2,.string x.f3,.bool x.f4],rfl,rfl,⟨[.string x.f1],[.int .i64 x.f2,.string x.f3,.bool x.f4],rfl,rfl,⟨[.int .i64 x.f2],[.string x.f3,.bool x.f4],rfl,rfl,⟨[.string x.f3],[.bool x.f4],rfl,rfl,rfl⟩⟩⟩⟩
theorem gT (w:World) (base:Nat) (ok:Nat→Prop) (x:au)  : bP.M w base ok x [.string x.f0,.string x.f1,.int .i64 x.f2,.string x.f3,.bool x.f4]:=⟨[.string x.f0],[.string x.f1,.int .i64 x.f2,.string x.f3,.bool x.f4],rfl,rfl,⟨[.string x.f1],[.int .i64 x.f2,.string x.f3,.bool x.f4],rfl,rfl,⟨[.int .i64 x.f2],[.string x.f3,.bool x.f4],rfl,rfl,⟨[.string x.f3],[.bool x.f4],rfl,rfl,rfl⟩⟩⟩⟩
theorem FN (W:World) (ok:Nat→Prop) (x:au):Kd.FK bP W ok x [.string x.f0,.string x.f1,.int .i64 x.f2,.string x.f3,.bool x.f4]:=fun W2 _=>pV W2 x
def af (xs:List au) (i:Int):au:=xs.getD i.toNat yZ
theorem eO {w:World} {A:Option Addr} {n:Nat} {xs:List au} (h:Kd.C bP w A n xs) (i:Int) (h0:0≤i) (h1:i<n):∃ ad ,A=some ad∧w.cell? (ad.add (i.toNat*5))=some (.string (af xs i).f0)∧w.cell? ⟨(ad.add (i.toNat*5)).block,(ad.add (i.toNat*5)).off+1,none⟩=some (.string (af xs i).f1)∧w.cell? ⟨(ad.add (i.toNat*5)).block,(ad.add (i.toNat*5)).off+2,none⟩=some (.int .i64 (af xs i).f2)∧w.cell? ⟨(ad.add (i.toNat*5)).block,(ad.add (i.toNat*5)).off+3,none⟩=some (.string (af xs i).f3)∧w.cell? ⟨(ad.add (i.toNat*5)).block,(ad.add (i.toNat*5)).off+4,none⟩=some (.bool (af xs i).f4):=by
 obtain ⟨ad,c,e,_,hK,hc0⟩:=Kd.mX h yZ i h0 h1
 have hc:∀ j u,c[j]? = some u→w.cell? (ad.add (i.toNat*5+j))=some u:=hc0
 obtain rfl:=wI hK
 exact ⟨ad,e,hc 0 _ rfl,by rw [←lD _ _ 1 (by omega)];exact hc 1 _ rfl,by rw [←lD _ _ 2 (by omega)];exact hc 2 _ rfl,by rw [←lD _ _ 3 (by omega)];exact hc 3 _ rfl,by rw [←lD _ _ 4 (by omega)];exact hc 4 _ rfl⟩
def l_ (xs:List (List Int)) (i:Int):(List Int):=xs.getD i.toNat ([]:List Int)
theorem Ds {w:World} {A:Option Addr} {n:Nat} {xs:List (List Int)} (h:Kd.C (Kd.slice 5 (Kd.int .u8)) w A n xs) (i:Int) (h0:0≤i) (h1:i<n):∃ ad A0 c0,A=some ad∧w.cell? (ad.add i.toNat)=some (.slice A0 (l_ xs i).length c0)∧(l_ xs i).length≤c0∧(Kd.int .u8).C w A0 (l_ xs i).length (l_ xs i):=by
 obtain ⟨ad,c,e,_,hK,hc0⟩:=Kd.mX h ([]:List Int) i h0 h1
 have hc:∀ j u,c[j]? = some u→w.cell? (ad.add (i.toNat*1+j))=some u:=hc0
 obtain ⟨A0,c0,rfl,l0,g0⟩:=hK;exact ⟨ad,A0,c0,e,by have hq:=hc 0 _ rfl;rwa [Nat.mul_one,Nat.add_zero] at hq,l0,g0⟩
def wg (xs:List (List (List Int))) (i:Int):(List (List Int)):=xs.getD i.toNat ([]:List (List Int))
theorem at_L6 {w:World} {A:Option Addr} {n:Nat} {xs:List (List (List Int))} (h:Kd.C (Kd.slice 51 (Kd.slice 5 (Kd.int .u8))) w A n xs) (i:Int) (h0:0≤i) (h1:i<n):∃ ad A0 c0,A=some ad∧w.cell? (ad.add i.toNat)=some (.slice A0 (wg xs i).length c0)∧(wg xs i).length≤c0∧(Kd.slice 5 (Kd.int .u8)).C w A0 (wg xs i).length (wg xs i):=by
 obtain ⟨ad,c,e,_,hK,hc0⟩:=Kd.mX h ([]:List (List Int)) i h0 h1
 have hc:∀ j u,c[j]? = some u→w.cell? (ad.add (i.toNat*1+j))=some u:=hc0
 obtain ⟨A0,c0,rfl,l0,g0⟩:=hK;exact ⟨ad,A0,c0,e,by have hq:=hc 0 _ rfl;rwa [Nat.mul_one,Nat.add_zero] at hq,l0,g0⟩
def aN (xs:List (List au)) (i:Int):(List au):=xs.getD i.toNat ([]:List au)
theorem qV {w:World} {A:Option Addr} {n:Nat} {xs:List (List au)} (h:Kd.C (Kd.slice 34 bP) w A n xs) (i:Int) (h0:0≤i) (h1:i<n):∃ ad A0 c0,A=some ad∧w.cell? (ad.add i.toNat)=some (.slice A0 (aN xs i).length c0)∧(aN xs i).length≤c0∧bP.C w A0 (aN xs i).length (aN xs i):=by
 obtain ⟨ad,c,e,_,hK,hc0⟩:=Kd.mX h ([]:List au) i h0 h1
 have hc:∀ j u,c[j]? = some u→w.cell? (ad.add (i.toNat*1+j))=some u:=hc0
 obtain ⟨A0,c0,rfl,l0,g0⟩:=hK;exact ⟨ad,A0,c0,e,by have hq:=hc 0 _ rfl;rwa [Nat.mul_one,Nat.add_zero] at hq,l0,g0⟩
def wq (xs:List (List Int)) (i:Int):(List Int):=xs.getD i.toNat ([]:List Int)
theorem at_L9 {w:World} {A:Option Addr} {n:Nat} {xs:List (List Int)} (h:Kd.C (Kd.slice 3 (Kd.int .i64)) w A n xs) (i:Int) (h0:0≤i) (h1:i<n):∃ ad A0 c0,A=some ad∧w.cell? (ad.add i.toNat)=some (.slice A0 (wq xs i).length c0)∧(wq xs i).length≤c0∧(Kd.int .i64).C w A0 (wq xs i).length (wq xs i):=by
 obtain ⟨ad,c,e,_,hK,hc0⟩:=Kd.mX h ([]:List Int) i h0 h1
 have hc:∀ j u,c[j]? = some u→w.cell? (ad.add (i.toNat*1+j))=some u:=hc0
 obtain ⟨A0,c0,rfl,l0,g0⟩:=hK;exact ⟨ad,A0,c0,e,by have hq:=hc 0 _ rfl;rwa [Nat.mul_one,Nat.add_zero] at hq,l0,g0⟩
structure qa where
 f0:Int
 f1:Int
 f2:Int
def z23:qa:=⟨(0:Int),(0:Int),(0:Int)⟩
def k23:Kd qa:=Kd.vF (Kd.pair (Kd.int .i64) (Kd.pair (Kd.int .i64) (Kd.int .i64))) (fun x:qa=>(x.f0,x.f1,x.f2))
theorem FL:Kd.Heap k23:=Kd.tu _ (Kd.kU (Kd.ld .i64) (Kd.kU (Kd.ld .i64) (Kd.ld .i64)))
theorem x_ {w:World} {x:qa} {cs:List Value} (h:k23.K w x cs):cs=[.int .i64 x.f0,.int .i64 x.f1,.int .i64 x.f2]:=by
 obtain ⟨_,_,rfl,rfl,⟨_,_,rfl,rfl,rfl⟩⟩:=h;exact rfl
theorem Fp {w:World} {base:Nat} {ok:Nat→Prop} {x:qa} {cs:List Value} (h:k23.M w base ok x cs):cs=[.int .i64 x.f0,.int .i64 x.f1,.int .i64 x.f2]:=by
 obtain ⟨_,_,rfl,rfl,⟨_,_,rfl,rfl,rfl⟩⟩:=h;exact rfl
theorem EN (w:World) (x:qa)  : k23.K w x [.int .i64 x.f0,.int .i64 x.f1,.int .i64 x.f2]:=⟨[.int .i64 x.f0],[.int .i64 x.f1,.int .i64 x.f2],rfl,rfl,⟨[.int .i64 x.f1],[.int .i64 x.f2],rfl,rfl,rfl⟩⟩
theorem FP (w:World) (base:Nat) (ok:Nat→Prop) (x:qa)  : k23.M w base ok x [.int .i64 x.f0,.int .i64 x.f1,.int .i64 x.f2]:=⟨[.int .i64 x.f0],[.int .i64 x.f1,.int .i64 x.f2],rfl,rfl,⟨[.int .i64 x.f1],[.int .i64 x.f2],rfl,rfl,rfl⟩⟩
theorem FQ (W:World) (ok:Nat→Prop) (x:qa):Kd.FK k23 W ok x [.int .i64 x.f0,.int .i64 x.f1,.int .i64 x.f2]:=fun W2 _=>EN W2 x
def xS (xs:List qa) (i:Int):qa:=xs.getD i.toNat z23
theorem FU {w:World} {A:Option Addr} {n:Nat} {xs:List qa} (h:Kd.C k23 w A n xs) (i:Int) (h0:0≤i) (h1:i<n):∃ ad ,A=some ad∧w.cell? (ad.add (i.toNat*3))=some (.int .i64 (xS xs i).f0)∧w.cell? ⟨(ad.add (i.toNat*3)).block,(ad.add (i.toNat*3)).off+1,none⟩=some (.int .i64 (xS xs i).f1)∧w.cell? ⟨(ad.add (i.toNat*3)).block,(ad.add (i.toNat*3)).off+2,none⟩=some (.int .i64 (xS xs i).f2):=by
 obtain ⟨ad,c,e,_,hK,hc0⟩:=Kd.mX h z23 i h0 h1
 have hc:∀ j u,c[j]? = some u→w.cell? (ad.add (i.toNat*3+j))=some u:=hc0
 obtain rfl:=x_ hK
 exact ⟨ad,e,hc 0 _ rfl,by rw [←lD _ _ 1 (by omega)];exact hc 1 _ rfl,by rw [←lD _ _ 2 (by omega)];exact hc 2 _ rfl⟩
structure d_ where
 f0:(List au)
 f1:Int
def iV:d_:=⟨([]:List au),(0:Int)⟩
def pQ:Kd d_:=Kd.vF (Kd.pair (Kd.slice 34 bP) (Kd.int .i64)) (fun x:d_=>(x.f0,x.f1))
theorem FI:Kd.Heap pQ:=Kd.tu _ (Kd.kU (Kd.AP 34 tD) (Kd.ld .i64))
theorem tI {w:World} {x:d_} {cs:List Value} (h:pQ.K w x cs):∃ A0 c0,cs=[.slice A0 x.f0.length c0,.int .i64 x.f1]∧x.f0.length≤c0∧bP.C w A0 x.f0.length x.f0:=by
 obtain ⟨_,_,rfl,⟨A0,c0,rfl,l0,g0⟩,rfl⟩:=h;exact ⟨A0,c0,rfl,l0,g0⟩
theorem Fy {w:World} {base:Nat} {ok:Nat→Prop} {x:d_} {cs:List Value} (h:pQ.M w base ok x cs):∃ v0,cs=[v0,.int .i64 x.f1]∧bP.R 34 w base ok v0 x.f0:=by
 obtain ⟨_,_,rfl,⟨v0,rfl,g0⟩,rfl⟩:=h;exact ⟨v0,rfl,g0⟩
theorem Eh (w:World) (x:d_) {A0:Option Addr} {c0:Nat} (l0:x.f0.length≤c0) (g0:bP.C w A0 x.f0.length x.f0):pQ.K w x [.slice A0 x.f0.length c0,.int .i64 x.f1]:=⟨[.slice A0 x.f0.length c0],[.int .i64 x.f1],rfl,⟨A0,c0,rfl,l0,g0⟩,rfl⟩
theorem FO (w:World) (base:Nat) (ok:Nat→Prop) (x:d_) {v0:Value} (g0:bP.R 34 w base ok v0 x.f0):pQ.M w base ok x [v0,.int .i64 x.f1]:=⟨[v0],[.int .i64 x.f1],rfl,⟨v0,rfl,g0⟩,rfl⟩
theorem Fo {W:World} {ok:Nat→Prop} {x:d_} {cs:List Value} (h:Kd.FK pQ W ok x cs):∃ A0 c0,cs=[.slice A0 x.f0.length c0,.int .i64 x.f1]∧x.f0.length≤c0∧Kd.F bP W ok A0 x.f0.length x.f0:=by
 obtain ⟨A0,c0,rfl,l0,_⟩:=tI (Kd.pR h);exact ⟨A0,c0,rfl,l0,(fun W' hW=>by obtain ⟨A0_,c0_,he,l0_,g0_⟩:=tI (h W' hW);injection (Option.some.inj (show some (Value.slice A0 x.f0.length c0)=some (Value.slice A0_ x.f0.length c0_) from congrArg (fun l=>l[0]?) he)) with ha_ _ _;rw [ha_];exact g0_)⟩
theorem FR (W:World) (ok:Nat→Prop) (x:d_) {A0:Option Addr} {c0:Nat} (l0:x.f0.length≤c0) (g0:Kd.F bP W ok A0 x.f0.length x.f0):Kd.FK pQ W ok x [.slice A0 x.f0.length c0,.int .i64 x.f1]:=fun W2 hW=>Eh W2 x l0 (g0 W2 hW)
def bZ (xs:List d_) (i:Int):d_:=xs.getD i.toNat iV
theorem uc {w:World} {A:Option Addr} {n:Nat} {xs:List d_} (h:Kd.C pQ w A n xs) (i:Int) (h0:0≤i) (h1:i<n):∃ ad A0 c0,A=some ad∧w.cell? (ad.add (i.toNat*2))=some (.slice A0 (bZ xs i).f0.length c0)∧w.cell? ⟨(ad.add (i.toNat*2)).block,(ad.add (i.toNat*2)).off+1,none⟩=some (.int .i64 (bZ xs i).f1)∧(bZ xs i).f0.length≤c0∧bP.C w A0 (bZ xs i).f0.length (bZ xs i).f0:=by
 obtain ⟨ad,c,e,_,hK,hc0⟩:=Kd.mX h iV i h0 h1
 have hc:∀ j u,c[j]? = some u→w.cell? (ad.add (i.toNat*2+j))=some u:=hc0
 obtain ⟨A0,c0,rfl,l0,g0⟩:=tI hK;exact ⟨ad,A0,c0,e,hc 0 _ rfl,by rw [←lD _ _ 1 (by omega)];exact hc 1 _ rfl,l0,g0⟩
def um (xs:List (List (List au))) (i:Int):(List (List au)):=xs.getD i.toNat ([]:List (List au))
theorem F8 {w:World} {A:Option Addr} {n:Nat} {xs:List (List (List au))} (h:Kd.C (Kd.slice 32 (Kd.slice 34 bP)) w A n xs) (i:Int) (h0:0≤i) (h1:i<n):∃ ad A0 c0,A=some ad∧w.cell? (ad.add i.toNat)=some (.slice A0 (um xs i).length c0)∧(um xs i).length≤c0∧(Kd.slice 34 bP).C w A0 (um xs i).length (um xs i):=by
 obtain ⟨ad,c,e,_,hK,hc0⟩:=Kd.mX h ([]:List (List au)) i h0 h1
 have hc:∀ j u,c[j]? = some u→w.cell? (ad.add (i.toNat*1+j))=some u:=hc0
 obtain ⟨A0,c0,rfl,l0,g0⟩:=hK;exact ⟨ad,A0,c0,e,by have hq:=hc 0 _ rfl;rwa [Nat.mul_one,Nat.add_zero] at hq,l0,g0⟩
end Go.Proofs.YtcbhfedcdnjljaaGreat.X

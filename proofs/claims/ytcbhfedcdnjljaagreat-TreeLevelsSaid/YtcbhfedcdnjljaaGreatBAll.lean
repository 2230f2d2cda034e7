import Derived.Lib.Strings
import Derived.Test.YtcbhfedcdnjljaaGreatXx14
namespace Go.Proofs.YtcbhfedcdnjljaaGreat.Pl
open Go.RowKit Go.Proofs.YtcbhfedcdnjljaaGreatW.PrintWords Go.Proofs.YtcbhfedcdnjljaaGreatW.PrintMore
def Bytes (l:List Int):Prop:=∀ x ∈ l,0≤x∧x<256
theorem Bytes.nil:Bytes []:=fun _ h=>by cases h
theorem Bytes.append {a b:List Int} (ha:Bytes a) (hb:Bytes b):Bytes (a++b):=fun x hx=>(List.mem_append.1 hx).elim (ha x) (hb x)
theorem Bytes.take {a:List Int} (ha:Bytes a) (n:Nat):Bytes (a.take n):=fun x hx=>ha x (List.mem_of_mem_take hx)
theorem Bytes.drop {a:List Int} (ha:Bytes a) (n:Nat):Bytes (a.drop n):=fun x hx=>ha x (List.mem_of_mem_drop hx)
theorem Bytes.cons {x:Int} {l:List Int} (h0:0≤x) (h1:x<256) (h:Bytes l):Bytes (x :: l):=fun y hy=>(List.mem_cons.1 hy).elim (fun e=>e▸⟨h0,h1⟩) (h y)
theorem n9 (s:ByteArray):Bytes (bytesOf s):=by
 intro x hx
 obtain ⟨b,_,rfl⟩:=List.mem_map.1 hx
 have:=b.toNat_lt
 omega
theorem rq (s:ByteArray):strOfNums (bytesOf s)=s:=by
 have h:((bytesOf s).map fun n=>UInt8.ofNat n.toNat)=s.data.toList:=by
  rw [bytesOf,List.map_map]
  conv=>rhs;rw [←List.map_id s.data.toList]
  refine List.map_congr_left fun b _=>?_
  simp
 unfold strOfNums
 rw [h]
theorem toList_inj {a b:ByteArray} (h:a.toList=b.toList):a=b:=by
 rw [ByteArray.toList_eq,ByteArray.toList_eq] at h
 obtain ⟨⟨a⟩⟩:=a
 obtain ⟨⟨b⟩⟩:=b
 simp at h
 rw [h]
theorem jU (l:List Int):(strOfNums l).size=l.length:=by simp [strOfNums,ByteArray.size]
theorem xo (s:ByteArray):(bytesOf s).length=s.size:=bytesOf_length s
theorem wu (s:ByteArray):s.size=0↔s=⟨#[]⟩:=by
 constructor
 ·
  intro h
  obtain ⟨a⟩:=s
  have:a.size=0:=h
  rw [Array.eq_empty_of_size_eq_zero this]
 ·
  rintro rfl;rfl
theorem fU {x:Int} (h0 : -9223372036854775808≤x) (h1:x<9223372036854775808):wrap64 x=x:=by unfold wrap64;omega
theorem _root_.Go.Proofs.YtcbhfedcdnjljaaGreatW.PrintWords.Ev.pos {α:Type} {c:Prop} [Decidable c] {f g:Nat→Option α} {r:α} (hc:c) (h:Ev f r):Ev (fun k=>if c then f k else g k) r:=by
 simpa only [if_pos hc] using h
theorem _root_.Go.Proofs.YtcbhfedcdnjljaaGreatW.PrintWords.Ev.neg {α:Type} {c:Prop} [Decidable c] {f g:Nat→Option α} {r:α} (hc:¬ c) (h:Ev g r):Ev (fun k=>if c then f k else g k) r:=by
 simpa only [if_neg hc] using h
theorem _root_.Go.Proofs.YtcbhfedcdnjljaaGreatW.PrintWords.Ev.eq {α:Type} {x:Option α} {r:α} (h:x=some r):Ev (fun _=>x) r:=by rw [h];exact Ev.now r
theorem _root_.Go.Proofs.YtcbhfedcdnjljaaGreatW.PrintWords.Ev.to {α:Type} {g:Nat→Option α} {r r':α} (h:Ev g r) (e:r=r'):Ev g r':=e▸h
theorem rZ {α:Type} {b:List α} (h:4≤b.length):∃ x0 x1 x2 x3 r,b=x0 :: x1 :: x2 :: x3 :: r:=by
 match b,h with
 | x0 :: x1 :: x2 :: x3 :: r,_=>exact ⟨x0,x1,x2,x3,r,rfl⟩
def num (n:Int):List Int:=if n<0 then [] else if n > 4294967295 then [] else [n / 16777216 % 256,n / 65536 % 256,n / 256 % 256,n % 256]
def text (s:ByteArray):List Int:=num s.size++bytesOf s
def texts (l:List ByteArray):List Int:=num l.length++(l.map text).flatten
def dZ (b:List Int):Int:=16777216*rd b 0+65536*rd b 1+256*rd b 2+rd b 3
def je (b:List Int):Int × List Int × Bool:=if b.length<4 then (0,[],false) else (dZ b,b.drop 4,true)
def fZ (b:List Int):ByteArray × List Int × Bool:=
 if b.length<4 then (⟨#[]⟩,[],false) else if dZ b > ((b.length - 4:Nat):Int) then (⟨#[]⟩,[],false) else (strOfNums ((b.drop 4).take (dZ b).toNat),(b.drop 4).drop (dZ b).toNat,true)
theorem yg {n:Int} (h0:0≤n) (h1:n≤4294967295):num n=[n / 16777216 % 256,n / 65536 % 256,n / 256 % 256,n % 256]:=by
 unfold num
 rw [if_neg (by omega),if_neg (by omega)]
theorem iA {n:Int} (h0:0≤n) (h1:n≤4294967295):(num n).length=4:=by rw [yg h0 h1];rfl
theorem eY (n:Int):(num n).length≤4:=by
 unfold num
 split
 ·
  simp
 ·
  split<;>simp
theorem ij (n:Int):Bytes (num n):=by
 unfold num
 split
 ·
  exact Bytes.nil
 ·
  split
  ·
   exact Bytes.nil
  ·
   refine Bytes.cons ?_ ?_ (Bytes.cons ?_ ?_ (Bytes.cons ?_ ?_ (Bytes.cons ?_ ?_ Bytes.nil)))<;>omega
theorem j4 {n:Int} (h0:0≤n) (h1:n≤4294967295) (r:List Int):dZ (num n++r)=n:=by
 rw [yg h0 h1]
 simp [dZ,rd]
 omega
theorem jc {b:List Int} (h:Bytes b) (hl:4≤b.length):0≤dZ b∧dZ b≤4294967295:=by
 match b,hl with
 | x0 :: x1 :: x2 :: x3 :: r,_=>
  have h0:=h x0 (by simp)
  have h1:=h x1 (by simp)
  have h2:=h x2 (by simp)
  have h3:=h x3 (by simp)
  simp [dZ,rd]
  omega
theorem qE {b:List Int} (h:Bytes b) (hl:4≤b.length):num (dZ b)=b.take 4:=by
 obtain ⟨g0,g1⟩:=jc h hl
 rw [yg g0 g1]
 match b,hl with
 | x0 :: x1 :: x2 :: x3 :: r,_=>
  have h0:=h x0 (by simp)
  have h1:=h x1 (by simp)
  have h2:=h x2 (by simp)
  have h3:=h x3 (by simp)
  simp [dZ,rd]
  omega
theorem yX {s:ByteArray} (h:s.size≤4294967295):(text s).length=4+s.size:=by
 unfold text
 rw [List.length_append,iA (by omega) (by omega),bytesOf_length]
theorem fo (s:ByteArray):(text s).length≤4+s.size:=by
 unfold text
 rw [List.length_append,bytesOf_length]
 have:=eY s.size
 omega
theorem mR (s:ByteArray):Bytes (text s):=(ij _).append (n9 s)
theorem ug {n:Int} (h0:0≤n) (h1:n≤4294967295) (r:List Int):je (num n++r)=(n,r,true):=by
 unfold je
 rw [if_neg (by rw [List.length_append,iA h0 h1];omega),j4 h0 h1]
 congr 2
 rw [←iA h0 h1,List.drop_left]
theorem oX {s:ByteArray} (h:s.size≤4294967295) (r:List Int):fZ (text s++r)=(s,r,true):=by
 have hl:=yX h
 have hv:dZ (text s++r)=s.size:=by rw [text,List.append_assoc,j4 (by omega) (by omega)]
 have hd:(text s++r).drop 4=bytesOf s++r:=by
  rw [text,List.append_assoc,← iA (n:=(s.size:Int)) (by omega) (by omega),List.drop_left]
 unfold fZ
 rw [if_neg (by rw [List.length_append];omega),hv,hd,if_neg (by rw [List.length_append];omega)]
 have h2:((s.size:Int)).toNat=(bytesOf s).length:=by rw [bytesOf_length];rfl
 rw [h2,List.take_left,List.drop_left,rq]
theorem jl {b:List Int} (hb:Bytes b):Bytes (fZ b).2.1:=by
 unfold fZ
 split
 ·
  exact Bytes.nil
 ·
  split
  ·
   exact Bytes.nil
  ·
   exact (hb.drop 4).drop _
def iS:List UInt8→List UInt8→Int
 | [],[]=>0
 | [],_ :: _=>-1
 | _ :: _,[]=>1
 | x :: a,y :: b=>if x<y then -1 else if y<x then 1 else iS a b
theorem Dh {x y:UInt8} (h:x<y):¬ y<x:=fun h2=>absurd (UInt8.lt_trans h h2) (UInt8.lt_irrefl x)
theorem wC {x y:UInt8} (h:¬ x<y) (h2:¬ y<x):x=y:=UInt8.le_antisymm (UInt8.not_lt.1 h2) (UInt8.not_lt.1 h)
theorem vL:∀ a b:List UInt8,iS a b=if Op.bytesLess a b=true then -1 else if Op.bytesLess b a=true then 1 else 0
 | [],[]=>rfl
 | [],_ :: _=>rfl
 | _ :: _,[]=>rfl
 | x :: a,y :: b=>by
  have ih:=vL a b
  by_cases h1:x<y
  ·
   simp [iS,Op.bytesLess,h1]
  ·
   by_cases h2:y<x
   ·
    have h3:¬ x=y:=fun h=>by rw [h] at h2;exact UInt8.lt_irrefl y h2
    simp [iS,Op.bytesLess,h1,h2,h3]
   ·
    have h3:=wC h1 h2
    subst h3
    simp only [iS,Op.bytesLess,h1,decide_false,Bool.false_or,beq_self_eq_true,Bool.true_and]
    exact ih
theorem zN:∀ a b:List UInt8,iS a b = -1∨iS a b=0∨iS a b=1
 | [],[]=>.inr (.inl rfl)
 | [],_ :: _=>.inl rfl
 | _ :: _,[]=>.inr (.inr rfl)
 | x :: a,y :: b=>by
  unfold iS
  split
  ·
   exact .inl rfl
  ·
   split
   ·
    exact .inr (.inr rfl)
   ·
    exact zN a b
theorem ld:∀ {a b:List UInt8},iS a b=0↔a=b
 | [],[]=>by simp [iS]
 | [],_ :: _=>by simp [iS]
 | _ :: _,[]=>by simp [iS]
 | x :: a,y :: b=>by
  have ih:=ld (a:=a) (b:=b)
  unfold iS
  by_cases h1:x<y
  ·
   rw [if_pos h1]
   have h3:¬ x=y:=fun h=>by rw [h] at h1;exact UInt8.lt_irrefl y h1
   simp [h3]
  ·
   rw [if_neg h1]
   by_cases h2:y<x
   ·
    rw [if_pos h2]
    have h3:¬ x=y:=fun h=>by rw [h] at h2;exact UInt8.lt_irrefl y h2
    simp [h3]
   ·
    rw [if_neg h2,wC h1 h2,ih]
    simp
theorem tb:∀ a b:List UInt8,iS b a = - iS a b
 | [],[]=>rfl
 | [],_ :: _=>rfl
 | _ :: _,[]=>rfl
 | x :: a,y :: b=>by
  have ih:=tb a b
  unfold iS
  by_cases h1:x<y
  ·
   simp [h1,Dh h1]
  ·
   by_cases h2:y<x
   ·
    simp [h1,h2]
   ·
    simp only [h1,h2,if_false]
    exact ih
theorem qG:∀ {a b c:List UInt8},iS a b = -1→iS b c = -1→iS a c = -1
 | [],[],_,h,_=>by simp [iS] at h
 | _ :: _,[],_,h,_=>by simp [iS] at h
 | [],_ :: _,[],_,h=>by simp [iS] at h
 | [],_ :: _,_ :: _,_,_=>rfl
 | _ :: _,_ :: _,[],_,h=>by simp [iS] at h
 | x :: a,y :: b,z :: c,h,h'=>by
  unfold iS at h h' ⊢
  by_cases h1:x<y
  ·
   by_cases h2:y<z
   ·
    rw [if_pos (UInt8.lt_trans h1 h2)]
   ·
    rw [if_neg h2] at h'
    by_cases h3:z<y
    ·
     rw [if_pos h3] at h';simp at h'
    ·
     rw [←wC h2 h3,if_pos h1]
  ·
   rw [if_neg h1] at h
   by_cases h2:y<x
   ·
    rw [if_pos h2] at h;simp at h
   ·
    rw [if_neg h2] at h
    have e:=wC h1 h2
    subst e
    by_cases h3:x<z
    ·
     rw [if_pos h3]
    ·
     rw [if_neg h3] at h' ⊢
     by_cases h4:z<x
     ·
      rw [if_pos h4] at h';simp at h'
     ·
      rw [if_neg h4] at h' ⊢
      exact qG h h'
def gR (a b:ByteArray):Int:=iS a.toList b.toList
def kV (a b:Int):Int:=if a<b then -1 else if b<a then 1 else 0
theorem iO {a b:ByteArray}:gR a b=0↔a=b:=⟨fun h=>toList_inj (ld.1 h),fun h=>ld.2 (by rw [h])⟩
theorem zn (a b:ByteArray):gR a b = -1∨gR a b=0∨gR a b=1:=zN _ _
theorem zH (a b:Int):kV a b = -1∨kV a b=0∨kV a b=1:=by
 unfold kV
 split
 ·
  exact .inl rfl
 ·
  split
  ·
   exact .inr (.inr rfl)
  ·
   exact .inr (.inl rfl)
theorem BU {a b:Int}:kV a b=0↔a=b:=by
 unfold kV
 split
 ·
  omega
 ·
  split<;>omega
theorem Cy (a b:Int):kV b a = - kV a b:=by unfold kV;split<;>split<;>first | omega | (split<;>omega)
def kz (r c:ByteArray) (t:Int) (r' c':ByteArray) (t':Int):Int:=if gR r r'=0 then (if gR c c'=0 then kV t' t else gR c c') else gR r r'
theorem Eb (r c t r' c' t'):kz r c t r' c' t' = -1∨kz r c t r' c' t'=0∨kz r c t r' c' t'=1:=by
 unfold kz
 split
 ·
  split
  ·
   exact zH _ _
  ·
   exact zn _ _
 ·
  exact zn _ _
theorem Dg (r c t r' c' t'):kz r' c' t' r c t = - kz r c t r' c' t':=by
 have h1:gR r' r = - gR r r':=tb _ _
 have h2:gR c' c = - gR c c':=tb _ _
 have h3:=Cy t' t
 unfold kz
 rw [h1,h2,h3]
 by_cases e1:gR r r'=0
 ·
  rw [if_pos e1,if_pos (by omega)]
  by_cases e2:gR c c'=0
  ·
   rw [if_pos e2,if_pos (by omega)]
  ·
   rw [if_neg e2,if_neg (by omega)]
 ·
  rw [if_neg e1,if_neg (by omega)]
theorem Bo {r c t r' c' t'}:kz r c t r' c' t'=0↔r=r'∧c=c'∧t=t':=by
 unfold kz
 by_cases e1:gR r r'=0
 ·
  rw [if_pos e1]
  by_cases e2:gR c c'=0
  ·
   rw [if_pos e2,BU]
   exact ⟨fun h=>⟨iO.1 e1,iO.1 e2,h.symm⟩,fun h=>h.2.2.symm⟩
  ·
   rw [if_neg e2]
   exact ⟨fun h=>absurd h e2,fun h=>absurd (iO.2 h.2.1) e2⟩
 ·
  rw [if_neg e1]
  exact ⟨fun h=>absurd h e1,fun h=>absurd (iO.2 h.1) e1⟩
theorem Ax {r c t r' c' t' r'' c'' t''} (h:kz r c t r' c' t' = -1) (h':kz r' c' t' r'' c'' t'' = -1):kz r c t r'' c'' t'' = -1:=by
 unfold kz at h h' ⊢
 by_cases e1:gR r r'=0
 ·
  rw [if_pos e1] at h
  have:=iO.1 e1
  subst this
  by_cases e2:gR r r''=0
  ·
   rw [if_pos e2] at h' ⊢
   by_cases e3:gR c c'=0
   ·
    rw [if_pos e3] at h
    have:=iO.1 e3
    subst this
    by_cases e4:gR c c''=0
    ·
     rw [if_pos e4] at h' ⊢
     unfold kV at h h' ⊢
     split at h<;>split at h'<;>first | (simp at h;done) | (rw [if_pos (by omega)]) | (split at h<;>simp at h;done) | (split at h'<;>simp at h')
    ·
     rw [if_neg e4] at h' ⊢
     exact h'
   ·
    rw [if_neg e3] at h
    by_cases e4:gR c' c''=0
    ·
     have:=iO.1 e4
     subst this
     rw [if_neg e3]
     exact h
    ·
     rw [if_neg e4] at h'
     have h5:gR c c'' = -1:=qG h h'
     rw [if_neg (by omega)]
     exact h5
  ·
   rw [if_neg e2] at h' ⊢
   exact h'
 ·
  rw [if_neg e1] at h
  by_cases e2:gR r' r''=0
  ·
   have:=iO.1 e2
   subst this
   rw [if_neg e1]
   exact h
  ·
   rw [if_neg e2] at h'
   have h5:gR r r'' = -1:=qG h h'
   rw [if_neg (by omega)]
   exact h5
def iu (r c:ByteArray) (t:Int) (v:ByteArray) (g:Bool):Bool:=decide (1≤r.size∧r.size≤64∧1≤c.size∧c.size≤64∧0≤t∧t≤4294967295∧v.size≤256∧(g=false∨v.size=0))
theorem eu {r c:ByteArray} {t:Int} {v:ByteArray} {g:Bool}:iu r c t v g=true↔1≤r.size∧r.size≤64∧1≤c.size∧c.size≤64∧0≤t∧t≤4294967295∧v.size≤256∧(g=false∨v.size=0):=by unfold iu;exact decide_eq_true_iff
theorem toList_nil {v:ByteArray}:(v.toList == ([]:List UInt8))=decide (v.size=0):=by
 rw [Bool.eq_iff_iff,beq_iff_eq,decide_eq_true_iff,wu]
 constructor
 ·
  intro h
  exact toList_inj (h.trans (by simp [ByteArray.toList_eq]))
 ·
  rintro rfl
  simp [ByteArray.toList_eq]
theorem f_ {c d:Bool} (h:c=true↔d=true):some c=some d:=by rw [Option.some.injEq,Bool.eq_iff_iff,h]
open Go.Proofs.YtcbhfedcdnjljaaGreat.X Go.Proofs.YtcbhfedcdnjljaaGreatW.PrintLast
theorem xX (s:ByteArray):eS.f s=some (decide (1≤s.size∧s.size≤64)):=by
 unfold eS.f
 by_cases h:s.size≥1
 ·
  rw [if_pos (by omega)]
  congr 1
  rw [decide_eq_decide]
  omega
 ·
  rw [if_neg (by omega)]
  congr 1
  symm
  rw [decide_eq_false_iff_not]
  omega
theorem kJ (r c:ByteArray) (t:Int) (v:ByteArray) (g:Bool):eP.f r c t v g=some (iu r c t v g):=by
 unfold eP.f
 simp only [xX,Option.bind_some,decide_eq_true_eq,toList_nil]
 split
 ·
  split
  ·
   split
   ·
    split
    ·
     split
     ·
      split
      ·
       exact f_ (by rename_i h;rw [eu,decide_eq_true_iff];exact ⟨fun hz=>⟨by omega,by omega,by omega,by omega,by omega,by omega,by omega,.inr hz⟩,fun hh=>hh.2.2.2.2.2.2.2.elim (fun e=>by rw [h] at e;cases e) id⟩)
      ·
       exact f_ (by rename_i h;rw [eu];exact ⟨fun _=>⟨by omega,by omega,by omega,by omega,by omega,by omega,by omega,.inl (by simpa using h)⟩,fun _=>rfl⟩)
     ·
      exact f_ (by rw [eu];simp only [Bool.false_eq_true,false_iff];omega)
    ·
     exact f_ (by rw [eu];simp only [Bool.false_eq_true,false_iff];omega)
   ·
    exact f_ (by rw [eu];simp only [Bool.false_eq_true,false_iff];omega)
  ·
   exact f_ (by rw [eu];simp only [Bool.false_eq_true,false_iff];omega)
 ·
  exact f_ (by rw [eu];simp only [Bool.false_eq_true,false_iff];omega)
theorem yt (a b:ByteArray):eV.f a b=some (gR a b):=by
 unfold eV.f dF.f gR
 rw [vL]
 simp only [Option.bind_some,bne_self_eq_false,Bool.false_eq_true,if_false]
 split
 ·
  rfl
 ·
  split<;>rfl
theorem vG (a b:Int):fM.f a b=some (kV a b):=by
 unfold fM.f dY.f kV
 simp only [Option.bind_some,bne_self_eq_false,Bool.false_eq_true,if_false]
 split
 ·
  rfl
 ·
  split<;>rfl
theorem CS (a b c:Int):Ev (fun k=>cx.f k [a,b,c]) (if a=0 then (if b=0 then c else b) else a):=by
 unfold cx.f
 have hl:(([a,b,c]:List Int).length:Int)=3:=rfl
 rw [hl]
 by_cases ha:a=0
 ·
  rw [if_pos ha]
  refine Ev.step (f:=fun k=>cx.l0 k 0 [a,b,c] 3 1) (fun k=>?_) ?_
  ·
   simp only [cx.l0,hl]
   rw [if_pos (by omega),if_pos (by omega),if_pos (by omega),show rd [a,b,c] 0=a from rfl,if_pos ha,fU (by omega) (by omega)]
   rfl
  by_cases hb:b=0
  ·
   rw [if_pos hb]
   refine Ev.step (f:=fun k=>cx.l0 k 0 [a,b,c] 3 2) (fun k=>?_) ?_
   ·
    simp only [cx.l0,hl]
    rw [if_pos (by omega),if_pos (by omega),if_pos (by omega),show rd [a,b,c] 1=b from rfl,if_pos hb,fU (by omega) (by omega)]
    rfl
   by_cases hc:c=0
   ·
    refine Ev.step (f:=fun k=>cx.l0 k 0 [a,b,c] 3 3) (fun k=>?_) ?_
    ·
     simp only [cx.l0,hl]
     rw [if_pos (by omega),if_pos (by omega),if_pos (by omega),show rd [a,b,c] 2=c from rfl,if_pos hc,fU (by omega) (by omega)]
     rfl
    refine Ev.step (f:=fun _=>some 0) (fun k=>?_) ((Ev.now 0).to hc.symm)
    simp only [cx.l0]
    rw [if_neg (by omega)]
   ·
    refine Ev.step (f:=fun _=>some c) (fun k=>?_) (Ev.now _)
    simp only [cx.l0,hl]
    rw [if_pos (by omega),if_pos (by omega),if_pos (by omega),show rd [a,b,c] 2=c from rfl,if_neg hc]
  ·
   rw [if_neg hb]
   refine Ev.step (f:=fun _=>some b) (fun k=>?_) (Ev.now _)
   simp only [cx.l0,hl]
   rw [if_pos (by omega),if_pos (by omega),if_pos (by omega),show rd [a,b,c] 1=b from rfl,if_neg hb]
 ·
  rw [if_neg ha]
  refine Ev.step (f:=fun _=>some a) (fun k=>?_) (Ev.now _)
  simp only [cx.l0,hl]
  rw [if_pos (by omega),if_pos (by omega),if_pos (by omega),show rd [a,b,c] 0=a from rfl,if_neg ha]
theorem o6 (r c:ByteArray) (t:Int) (v:ByteArray) (g:Bool) (r' c':ByteArray) (t':Int) (v':ByteArray) (g':Bool):Ev (fun k=>bU.f k r c t v g r' c' t' v' g') (kz r c t r' c' t'):=by
 unfold bU.f
 simp only [yt,vG,Option.bind_some]
 exact Ev.bind (CS _ _ _) (Ev.now _)
abbrev Cell:=av
abbrev mS (xs:List Cell) (i:Int):Cell:=af xs i
theorem gY (l:List Cell) (i:Nat) (h:i<l.length):mS l (i:Int)=l[i]:=by
 show l.getD (i:Int).toNat _=_
 rw [Int.toNat_natCast,List.getD_eq_getElem?_getD,List.getElem?_eq_getElem h]
 rfl
def cc (a b:Cell):Int:=kz a.f0 a.f1 a.f2 b.f0 b.f1 b.f2
def fK (a:Cell):Bool:=iu a.f0 a.f1 a.f2 a.f3 a.f4
theorem sq (a b:Cell):cc a b = -1∨cc a b=0∨cc a b=1:=Eb _ _ _ _ _ _
theorem o3 (a b:Cell):cc b a = - cc a b:=Dg _ _ _ _ _ _
theorem uN {a b:Cell}:cc a b=0↔a.f0=b.f0∧a.f1=b.f1∧a.f2=b.f2:=Bo
theorem jA {a b c:Cell} (h:cc a b = -1) (h':cc b c = -1):cc a c = -1:=Ax h h'
theorem oI (a:Cell):cc a a=0:=uN.2 ⟨rfl,rfl,rfl⟩
theorem lN {a b:Cell} (h:cc a b=0) (c:Cell):cc a c=cc b c:=by
 obtain ⟨h1,h2,h3⟩:=uN.1 h
 unfold cc
 rw [h1,h2,h3]
theorem tv {a b:Cell} (h:cc a b=0) (c:Cell):cc c a=cc c b:=by
 obtain ⟨h1,h2,h3⟩:=uN.1 h
 unfold cc
 rw [h1,h2,h3]
theorem E4 {a b:Cell} (h1:¬ cc a b = -1) (h2:¬ cc a b=0):cc b a = -1:=by
 have:=sq a b
 have:=o3 a b
 omega
theorem BO {a b:Cell} (h:cc a b=0):cc b a=0:=by
 have:=o3 a b
 omega
def ins (c:Cell):List Cell→List Cell
 | []=>[c]
 | x :: l=>if cc x c = -1 then x :: ins c l else if cc x c=0 then c :: l else c :: x :: l
def fP (l:List Cell):Prop:=l.Pairwise (fun a b=>cc a b = -1)
def gj (l:List Cell):Prop:=∀ c ∈ l,fK c=true
def j9 (l:List Cell):Prop:=gj l∧fP l
theorem oK {c x:Cell}:∀ {l:List Cell},x ∈ ins c l→x=c∨x ∈ l
 | [],h=>by simp only [ins,List.mem_singleton] at h;exact .inl h
 | y :: l,h=>by
  unfold ins at h
  split at h
  ·
   rcases List.mem_cons.1 h with rfl | h
   ·
    exact .inr (List.mem_cons_self)
   ·
    exact (oK h).imp id (List.mem_cons_of_mem _)
  ·
   split at h
   ·
    rcases List.mem_cons.1 h with rfl | h
    ·
     exact .inl rfl
    ·
     exact .inr (List.mem_cons_of_mem _ h)
   ·
    rcases List.mem_cons.1 h with rfl | h
    ·
     exact .inl rfl
    ·
     exact .inr h
theorem nh (c:Cell):∀ l:List Cell,c ∈ ins c l
 | []=>by simp [ins]
 | y :: l=>by
  unfold ins
  split
  ·
   exact List.mem_cons_of_mem _ (nh c l)
  ·
   split<;>exact List.mem_cons_self
theorem qH {c x:Cell} (hx:cc x c≠0):∀ {l:List Cell},x ∈ l→x ∈ ins c l
 | [],h=>by cases h
 | y :: l,h=>by
  unfold ins
  split
  ·
   rcases List.mem_cons.1 h with rfl | h
   ·
    exact List.mem_cons_self
   ·
    exact List.mem_cons_of_mem _ (qH hx h)
  ·
   split
   ·
    rename_i h0
    rcases List.mem_cons.1 h with rfl | h
    ·
     exact absurd h0 hx
    ·
     exact List.mem_cons_of_mem _ h
   ·
    exact List.mem_cons_of_mem _ h
theorem nk {c:Cell}:∀ {l:List Cell},fP l→fP (ins c l)
 | [],_=>by simp [ins,fP]
 | y :: l,h=>by
  obtain ⟨h1,h2⟩:=List.pairwise_cons.1 h
  unfold ins
  split
  ·
   rename_i hy
   refine List.pairwise_cons.2 ⟨fun z hz=>?_,nk h2⟩
   rcases oK hz with rfl | hz
   ·
    exact hy
   ·
    exact h1 z hz
  ·
   split
   ·
    rename_i h0
    refine List.pairwise_cons.2 ⟨fun z hz=>?_,h2⟩
    rw [←lN h0]
    exact h1 z hz
   ·
    rename_i hn h0
    have hg:=E4 hn h0
    refine List.pairwise_cons.2 ⟨fun z hz=>?_,h⟩
    rcases List.mem_cons.1 hz with rfl | hz
    ·
     exact hg
    ·
     exact jA hg (h1 z hz)
theorem Ag {c:Cell} {l:List Cell} (hc:fK c=true) (h:gj l):gj (ins c l):=fun x hx=>(oK hx).elim (fun e=>e▸hc) (h x)
theorem zk {c:Cell} {l:List Cell} (hc:fK c=true) (h:j9 l):j9 (ins c l):=⟨Ag hc h.1,nk h.2⟩
theorem ow (c:Cell):∀ l:List Cell,(ins c l).length≤l.length+1
 | []=>by simp [ins]
 | y :: l=>by
  have:=ow c l
  unfold ins
  split
  ·
   simp only [List.length_cons];omega
  ·
   split<;>simp only [List.length_cons]<;>omega
theorem rM:∀ (l o:List Cell),(l.foldl (fun o c=>ins c o) o).length≤o.length+l.length
 | [],o=>by simp
 | c :: l,o=>by
  have h1:=rM l (ins c o)
  have h2:=ow c o
  simp only [List.foldl_cons,List.length_cons]
  omega
theorem zo:j9 []:=⟨fun _ hx=>(by cases hx),List.Pairwise.nil⟩
theorem vF (c:Cell):∀ (l:List Cell) (i:Nat),i≤l.length→(∀ j (_:j<i) (hl:j<l.length),cc l[j] c = -1)→(∀ h:i<l.length,¬ cc l[i] c = -1)→
  ins c l=l.take i++c :: (l.drop (if h:i<l.length then (if cc l[i] c=0 then i+1 else i) else i))
 | [],i,hi,_,_=>by
  have:i=0:=by simpa using hi
  subst this
  simp [ins]
 | x :: l,0,_,_,h2=>by
  have h3:=h2 (by simp)
  simp only [List.getElem_cons_zero] at h3
  unfold ins
  rw [if_neg h3]
  by_cases h0:cc x c=0
  ·
   simp [h0]
  ·
   simp [h0]
 | x :: l,i+1,hi,h1,h2=>by
  have hx:=h1 0 (by omega) (by simp)
  simp only [List.getElem_cons_zero] at hx
  unfold ins
  rw [if_pos hx,vF c l i (by simpa using hi) (fun j hj hl=>by have:=h1 (j+1) (by omega) (by simpa using hl);simpa using this) (fun hl=>by have:=h2 (by simpa using hl);simpa using this)]
  by_cases hl:i<l.length
  ·
   by_cases h0:cc l[i] c=0
   ·
    simp [hl,h0]
   ·
    simp [hl,h0]
  ·
   simp [hl]
theorem gM {a:Cell}:fK a=true↔1≤a.f0.size∧a.f0.size≤64∧1≤a.f1.size∧a.f1.size≤64∧0≤a.f2∧a.f2≤4294967295∧a.f3.size≤256∧(a.f4=false∨a.f3.size=0):=eu
def qL (l:List Cell) (i:Nat):Bool:=fK (mS l i) && (i == 0 || cc (mS l ((i:Int) - 1)) (mS l i) == -1)
def kF (l:List Cell) (i:Nat):Nat→Bool
 | 0=>true
 | d+1=>qL l i && kF l (i+1) d
def jq (l:List Cell):Bool:=kF l 0 l.length
theorem qb (l:List Cell):∀ d i,kF l i d=true↔∀ j,i≤j→j<i+d→qL l j=true
 | 0,i=>⟨fun _ j h1 h2=>by omega,fun _=>rfl⟩
 | d+1,i=>by
  unfold kF
  rw [Bool.and_eq_true,qb l d (i+1)]
  constructor
  ·
   rintro ⟨h1,h2⟩ j h3 h4
   by_cases hj:j=i
   ·
    rw [hj];exact h1
   ·
    exact h2 j (by omega) (by omega)
  ·
   intro h
   exact ⟨h i (by omega) (by omega),fun j h3 h4=>h j (by omega) (by omega)⟩
theorem rC:∀ (l:List Cell),(∀ i (h:i+1<l.length),cc l[i] l[i+1] = -1)→fP l
 | [],_=>List.Pairwise.nil
 | [x],_=>by simp [fP]
 | x :: y :: l,h=>by
  have h1:cc x y = -1:=by have:=h 0 (by simp);simpa using this
  have h2:fP (y :: l):=rC (y :: l) (fun i hi=>by have:=h (i+1) (by simpa using hi);simpa using this)
  refine List.pairwise_cons.2 ⟨fun z hz=>?_,h2⟩
  rcases List.mem_cons.1 hz with rfl | hz
  ·
   exact h1
  ·
   exact jA h1 ((List.pairwise_cons.1 h2).1 z hz)
theorem kU {l:List Cell}:jq l=true↔j9 l:=by
 unfold jq
 rw [qb]
 constructor
 ·
  intro h
  refine ⟨fun x hx=>?_,rC l fun i hi=>?_⟩
  ·
   obtain ⟨i,hi,rfl⟩:=List.getElem_of_mem hx
   have:=h i (by omega) (by omega)
   unfold qL at this
   rw [Bool.and_eq_true,gY _ _ hi] at this
   exact this.1
  ·
   have:=h (i+1) (by omega) (by omega)
   unfold qL at this
   rw [Bool.and_eq_true,gY _ _ hi,show ((i+1:Nat):Int) - 1=(i:Int) by omega,gY _ _ (by omega)] at this
   simpa using this.2
 ·
  rintro ⟨h1,h2⟩ j _ hj
  have hj':j<l.length:=by omega
  unfold qL
  rw [gY _ _ hj',h1 _ (List.getElem_mem hj'),Bool.true_and]
  by_cases h0:j=0
  ·
   simp [h0]
  ·
   rw [show (j:Int) - 1=((j - 1:Nat):Int) by omega,gY _ _ (by omega),List.pairwise_iff_getElem.1 h2 (j - 1) j (by omega) hj' (by omega)]
   simp
def t6 (a:Cell):Prop:=a.f0.size≤140737488355328∧a.f1.size≤140737488355328
theorem vq {a:Cell} (h:fK a=true):t6 a:=by
 obtain ⟨_,h1,_,h2,_⟩:=gM.1 h
 exact ⟨by omega,by omega⟩
theorem mX (a b:Cell):Ev (fun k=>bU.f k a.f0 a.f1 a.f2 a.f3 a.f4 b.f0 b.f1 b.f2 b.f3 b.f4) (cc a b):=o6 _ _ _ _ _ _ _ _ _ _
theorem vM {l:List Cell} (h:0<l.length):qL l 0=fK l[0]:=by
 unfold qL
 rw [gY l 0 h]
 simp
theorem yG {l:List Cell} {i:Nat} (h:i<l.length) (h0:0<i):qL l i=(fK l[i] && (cc (l[i-1]'(by omega)) l[i] == -1)):=by
 unfold qL
 rw [gY l i h,show (i:Int) - 1=((i - 1:Nat):Int) by omega,gY l (i - 1) (by omega),show (i == 0)=false by simp;omega,Bool.false_or]
theorem uU (l:List Cell) (hn:l.length≤140737488355328) (d:Nat):∀ i:Nat,i≤l.length→l.length - i=d→Ev (fun k=>aT.l0 k l l (l.length:Int) (i:Int)) (kF l i d):=by
 induction d with
 | zero=>
  intro i hi hd
  refine Ev.step (f:=fun _=>some true) (fun k=>?_) (Ev.now _)
  simp only [aT.l0]
  rw [if_neg (by omega)]
 | succ d ih=>
  intro i hi hd
  have hlt:i<l.length:=by omega
  have hr:=gY l i hlt
  unfold mS at hr
  have jt:Ev (fun k=>aT.j1 k l l (l.length:Int) (i:Int) true) false:=Ev.step (f:=fun _=>some false) (fun k=>by simp only [aT.j1,if_true]) (Ev.now _)
  have jf:Ev (fun k=>aT.j1 k l l (l.length:Int) (i:Int) false) (kF l (i+1) d):=Ev.step (f:=fun k=>aT.l0 k l l (l.length:Int) ((i+1:Nat):Int)) (fun k=>by simp only [aT.j1,Bool.false_eq_true,if_false];rw [fU (by omega) (by omega)];rfl) (ih (i+1) (by omega) (by omega))
  unfold kF
  refine Ev.step (fun k=>by simp only [aT.l0];rw [if_pos (by omega),if_pos (by omega),if_pos (by omega),hr]) (Ev.bind (Ev.eq (kJ _ _ _ _ _)) ?_)
  by_cases hc:fK l[i]=true
  ·
   refine Ev.pos hc ?_
   by_cases h0:0<i
   ·
    have hr1:=gY l (i - 1) (by omega)
    unfold mS at hr1
    have hi1:wrap64 ((i:Int) - 1)=((i - 1:Nat):Int):=by rw [fU (by omega) (by omega)];omega
    refine Ev.pos (by omega) ?_
    rw [hi1,hr1,yG hlt h0,hc,Bool.true_and]
    refine Ev.pos (by omega) (Ev.pos (by omega) (Ev.bind (mX _ _) ?_))
    have hin:=sq (l[i-1]'(by omega)) l[i]
    by_cases h1:cc (l[i-1]'(by omega)) l[i] = -1
    ·
     rw [h1]
     exact jf
    ·
     rw [show (cc (l[i-1]'(by omega)) l[i] == -1)=false by simpa using h1,Bool.false_and,decide_eq_true (by omega)]
     exact jt
   ·
    have:i=0:=by omega
    subst this
    rw [vM hlt,hc,Bool.true_and]
    exact Ev.neg (by omega) jf
  ·
   have hc':fK l[i]=false:=by simpa using hc
   refine Ev.neg hc (jt.to ?_)
   by_cases h0:0<i
   ·
    rw [yG hlt h0,hc']
    rfl
   ·
    have:i=0:=by omega
    subst this
    rw [vM hlt,hc']
    rfl
theorem lM {l:List Cell} (hn:l.length≤140737488355328):Ev (fun k=>aT.f k l) (jq l):=by
 unfold aT.f jq
 exact uU l hn l.length 0 (by omega) (by omega)
theorem jw (n:Int):eH.f n=some (num n):=by
 unfold eH.f num
 split
 ·
  rfl
 ·
  split
  ·
   rfl
  ·
   rfl
theorem xQ {l:List Int} (h:l.length≤140737488355328):dH.f l=some l:=by
 unfold dH.f
 rw [if_pos (by omega)]
theorem Dr {x c:Int} (h0:0≤x) (h1:x<16777216) (h2:0≤c) (h3:c<256):Go.bits .or .i64 (wrap64 (x*256)) (wrap64 c)=x*256+c:=by
 rw [fU (by omega) (by omega),fU (by omega) (by omega)]
 have hw:∀ n:Int,0≤n→n<2 ^ 32→IntKind.i64.wrap n=n:=by
  intro n h4 h5
  rw [IntKind.wrap_i64]
  omega
 exact bits_join .i64 32 (by decide) hw 8 (x*256) c (by omega) (by omega) (by omega) h2 (by omega) (by omega)
theorem ke {b:List Int} (hb:Bytes b) (hl:b.length≤140737488355328):Ev (fun k=>bw.f k b) (je b):=by
 unfold bw.f je
 by_cases h4:b.length<4
 ·
  rw [if_pos h4]
  exact Ev.pos (by omega) (Ev.now _)
 ·
  rw [if_neg h4]
  refine Ev.neg (by omega) (Ev.pos (by omega) (Ev.bind (Ev.now _) ?_))
  obtain ⟨x0,x1,x2,x3,r,rfl⟩:=rZ (b:=b) (by omega)
  ·
   clear h4
   obtain ⟨a0,b0⟩:=hb x0 (by simp)
   obtain ⟨a1,b1⟩:=hb x1 (by simp)
   obtain ⟨a2,b2⟩:=hb x2 (by simp)
   obtain ⟨a3,b3⟩:=hb x3 (by simp)
   simp only [List.take_succ_cons,List.take_zero]
   have hlen:(([x0,x1,x2,x3]:List Int).length:Int)=4:=rfl
   rw [hlen]
   refine Ev.step (f:=fun k=>bw.l0 k (x0 :: x1 :: x2 :: x3 :: r) x0 [x0,x1,x2,x3] 4 1) (fun k=>?_) ?_
   ·
    simp only [bw.l0]
    rw [if_pos (by omega),if_pos (by omega),if_pos (by rw [hlen];omega)]
    rw [show rd [x0,x1,x2,x3] 0=x0 from rfl,Dr (by omega) (by omega) a0 b0,fU (by omega) (by omega)]
    simp
   refine Ev.step (f:=fun k=>bw.l0 k (x0 :: x1 :: x2 :: x3 :: r) (x0*256+x1) [x0,x1,x2,x3] 4 2) (fun k=>?_) ?_
   ·
    simp only [bw.l0]
    rw [if_pos (by omega),if_pos (by omega),if_pos (by rw [hlen];omega)]
    rw [show rd [x0,x1,x2,x3] 1=x1 from rfl,Dr (by omega) (by omega) a1 b1,fU (by omega) (by omega)]
    rfl
   refine Ev.step (f:=fun k=>bw.l0 k (x0 :: x1 :: x2 :: x3 :: r) ((x0*256+x1)*256+x2) [x0,x1,x2,x3] 4 3) (fun k=>?_) ?_
   ·
    simp only [bw.l0]
    rw [if_pos (by omega),if_pos (by omega),if_pos (by rw [hlen];omega)]
    rw [show rd [x0,x1,x2,x3] 2=x2 from rfl,Dr (by omega) (by omega) a2 b2,fU (by omega) (by omega)]
    rfl
   refine Ev.step (f:=fun k=>bw.l0 k (x0 :: x1 :: x2 :: x3 :: r) (((x0*256+x1)*256+x2)*256+x3) [x0,x1,x2,x3] 4 4) (fun k=>?_) ?_
   ·
    simp only [bw.l0]
    rw [if_pos (by omega),if_pos (by omega),if_pos (by rw [hlen];omega)]
    rw [show rd [x0,x1,x2,x3] 3=x3 from rfl,Dr (by omega) (by omega) a3 b3,fU (by omega) (by omega)]
    rfl
   refine Ev.step (f:=fun _=>some (dZ (x0 :: x1 :: x2 :: x3 :: r),r,true)) (fun k=>?_) (Ev.now _)
   simp only [bw.l0]
   rw [if_neg (by omega),if_pos (by simp only [List.length_cons];omega)]
   rw [show (x0 :: x1 :: x2 :: x3 :: r).drop 4=r from rfl,xQ (by simp only [List.length_cons] at hl;omega)]
   simp only [Option.bind_some,Option.some.injEq,Prod.mk.injEq,and_true]
   simp [dZ,rd]
   omega
theorem kf {s:ByteArray} (h:s.size≤140737488351232):eD.f s=some (text s):=by
 unfold eD.f
 rw [jw]
 simp only [Option.bind_some]
 rw [if_pos (by have:=eY s.size;omega)]
 rfl
theorem mV {b:List Int} (hb:Bytes b) (hl:b.length≤140737488355328):Ev (fun k=>eA.f k b) (fZ b):=by
 unfold eA.f
 refine Ev.bind (ke hb hl) ?_
 unfold je fZ
 by_cases h4:b.length<4
 ·
  simp only [if_pos h4]
  exact Ev.now _
 ·
  simp only [if_neg h4,if_true]
  obtain ⟨g0,g1⟩:=jc hb (by omega)
  by_cases hv:dZ b > ((b.length - 4:Nat):Int)
  ·
   rw [if_pos hv]
   exact Ev.pos (by rw [List.length_drop];exact hv) (Ev.now _)
  ·
   rw [if_neg hv]
   exact Ev.neg (by rw [List.length_drop];exact hv) (Ev.pos g0 (Ev.pos (by rw [List.length_drop];omega) (Ev.now _)))
theorem jP {b:List Int}:(fZ b).2.1.length≤b.length:=by
 unfold fZ
 split
 ·
  simp
 ·
  split
  ·
   simp
  ·
   simp only [List.length_drop];omega
theorem nW {l:List (List Int)} (h:fL l≤140737488355328):cw.f l=some l.flatten:=by
 unfold cw.f
 rw [if_pos h]
def kG (g:Bool):Int:=if g=true then 1 else 0
theorem C2 (g:Bool):0≤kG g∧kG g≤1:=by cases g<;>decide
def iF (r c:ByteArray) (t:Int) (v:ByteArray) (g:Bool):List Int:=text r++(text c++(num t++([kG g]++text v)))
theorem pK (r c:ByteArray) (t:Int) (v:ByteArray) (g:Bool):Bytes (iF r c t v g):=by
 obtain ⟨h0,h1⟩:=C2 g
 exact (mR _).append ((mR _).append ((ij _).append ((Bytes.cons h0 (by omega) Bytes.nil).append (mR _))))
theorem kZ (r c:ByteArray) (t:Int) (v:ByteArray) (g:Bool):(iF r c t v g).length≤17+r.size+c.size+v.size:=by
 have h1:=fo r
 have h2:=fo c
 have h3:=fo v
 have h4:=eY t
 unfold iF
 simp only [List.length_append,List.length_cons,List.length_nil]
 omega
theorem nI {r c:ByteArray} (t:Int) {v:ByteArray} (g:Bool) (hr:r.size≤1000000) (hc:c.size≤1000000) (hv:v.size≤1000000):dn.f r c t v g=some (iF r c t v g):=by
 unfold dn.f
 have hf:lH.f g=some (kG g):=by unfold lH.f kG;cases g<;>rfl
 simp only [kf (s:=r) (by omega),kf (s:=c) (by omega),kf (s:=v) (by omega),jw,hf,Option.bind_some]
 have hl:=kZ r c t v g
 unfold iF at hl
 simp only [List.length_append,List.length_cons,List.length_nil] at hl
 rw [nW (by simp only [fL,List.map_cons,List.map_nil,List.sum_cons,List.sum_nil,List.length_cons,List.length_nil];omega)]
 simp [iF]
def kR (b:List Int):Bool × List Int × Bool:=if b.length=0 then (false,[],false) else if rd b 0 > 1 then (false,[],false) else (rd b 0 == 1,b.drop 1,true)
theorem Ak (b:List Int):jC.f b=some (kR b):=by
 unfold jC.f kR
 by_cases h:b.length=0
 ·
  rw [if_pos (by omega),if_pos h]
 ·
  rw [if_neg (by omega),if_neg h,if_pos (by omega)]
  by_cases h1:rd b 0 > 1
  ·
   rw [if_pos h1,if_pos h1]
  ·
   rw [if_neg h1,if_neg h1,if_pos (by omega)]
   rfl
theorem yD (g:Bool) (r:List Int):kR ([kG g]++r)=(g,r,true):=by
 unfold kR
 cases g<;>simp [kG,rd]
abbrev EA:=ByteArray × ByteArray × Int × ByteArray × Bool × List Int × Bool
def iJ (b:List Int):EA:=
 let r:=fZ b
 let c:=fZ r.2.1
 let t:=je c.2.1
 let g:=kR t.2.1
 let v:=fZ g.2.1
 if (r.2.2 && (c.2.2 && (t.2.2 && (g.2.2 && (v.2.2 && iu r.1 c.1 t.1 v.1 g.1)))))=true then (r.1,c.1,t.1,v.1,g.1,v.2.1,true) else (⟨#[]⟩,⟨#[]⟩,0,⟨#[]⟩,false,[],false)
theorem rj {b:List Int} (hb:Bytes b):Bytes (kR b).2.1∧(kR b).2.1.length≤b.length:=by
 unfold kR
 split
 ·
  exact ⟨Bytes.nil,by simp⟩
 ·
  split
  ·
   exact ⟨Bytes.nil,by simp⟩
  ·
   exact ⟨hb.drop 1,by simp only [List.length_drop];omega⟩
theorem ri {b:List Int} (hb:Bytes b):Bytes (je b).2.1∧(je b).2.1.length≤b.length:=by
 unfold je
 split
 ·
  exact ⟨Bytes.nil,by simp⟩
 ·
  exact ⟨hb.drop 4,by simp only [List.length_drop];omega⟩
theorem yR {b:List Int} (hb:Bytes b) (hl:b.length≤140737488355328):Ev (fun k=>d9.f k b) (iJ b):=by
 have b1:=jl hb
 have l1:=Nat.le_trans (jP (b:=b)) hl
 have b2:=jl b1
 have l2:=Nat.le_trans (jP (b:=(fZ b).2.1)) l1
 obtain ⟨b3,m3⟩:=ri b2
 have l3:=Nat.le_trans m3 l2
 obtain ⟨b4,m4⟩:=rj b3
 have l4:=Nat.le_trans m4 l3
 have jt:∀ (x:List Int) (r c:ByteArray) (t:Int) (v:ByteArray) (g:Bool),Ev (fun k=>d9.j0 k x true r c t v g) (⟨#[]⟩,⟨#[]⟩,0,⟨#[]⟩,false,[],false):=fun x r c t v g=>Ev.step (fun k=>by simp only [d9.j0,if_true]) (Ev.now _)
 have jf:∀ (x:List Int) (r c:ByteArray) (t:Int) (v:ByteArray) (g:Bool),Ev (fun k=>d9.j0 k x false r c t v g) (r,c,t,v,g,x,true):=fun x r c t v g=>Ev.step (fun k=>by simp only [d9.j0,Bool.false_eq_true,if_false]) (Ev.now _)
 unfold d9.f iJ
 refine Ev.bind (mV hb hl) (Ev.bind (mV b1 l1) (Ev.bind (ke b2 l2) (Ev.bind (Ev.eq (Ak _)) (Ev.bind (mV b4 l4) ?_))))
 simp only
 generalize fZ b=r
 generalize fZ r.2.1=c
 generalize je c.2.1=t
 generalize kR t.2.1=g
 generalize fZ g.2.1=v
 by_cases h:(!r.2.2 || (!c.2.2 || (!t.2.2 || (!g.2.2 || (!v.2.2)))))=true
 ·
  refine Ev.pos h ?_
  have:(r.2.2 && (c.2.2 && (t.2.2 && (g.2.2 && (v.2.2 && iu r.1 c.1 t.1 v.1 g.1)))))=false:=by
   revert h
   cases r.2.2<;>cases c.2.2<;>cases t.2.2<;>cases g.2.2<;>cases v.2.2<;>simp
  rw [this]
  exact jt _ _ _ _ _ _
 ·
  refine Ev.neg h (Ev.bind (Ev.eq (kJ _ _ _ _ _)) ?_)
  have:(r.2.2 && (c.2.2 && (t.2.2 && (g.2.2 && (v.2.2 && iu r.1 c.1 t.1 v.1 g.1)))))=iu r.1 c.1 t.1 v.1 g.1:=by
   revert h
   cases r.2.2<;>cases c.2.2<;>cases t.2.2<;>cases g.2.2<;>cases v.2.2<;>simp
  rw [this]
  cases hr:iu r.1 c.1 t.1 v.1 g.1 with
  | true=>exact jf _ _ _ _ _ _
  | false=>exact jt _ _ _ _ _ _
theorem wA {r c:ByteArray} {t:Int} {v:ByteArray} {g:Bool} (h:iu r c t v g=true) (x:List Int):iJ (iF r c t v g++x)=(r,c,t,v,g,x,true):=by
 obtain ⟨h1,h2,h3,h4,h5,h6,h7,_⟩:=eu.1 h
 have e1:fZ (iF r c t v g++x)=(r,text c++(num t++([kG g]++(text v++x))),true):=by
  rw [show iF r c t v g++x=text r++(text c++(num t++([kG g]++(text v++x)))) by simp [iF]]
  exact oX (by omega) _
 have e2:fZ (text c++(num t++([kG g]++(text v++x))))=(c,num t++([kG g]++(text v++x)),true):=oX (by omega) _
 have e3:je (num t++([kG g]++(text v++x)))=(t,[kG g]++(text v++x),true):=ug h5 (by omega) _
 have e4:fZ (text v++x)=(v,x,true):=oX (by omega) _
 unfold iJ
 simp only [e1,e2,e3,yD,e4,h,Bool.and_self,if_true]
def xC (x:Nat):Nat:=if x % 2=1 then (x / 2) ^^^ 2197175160 else x / 2
def Ds:Nat→Nat→Nat
 | 0,w=>w
 | m+1,w=>Ds m (xC w)
def tP (w c:Nat):Nat:=Ds 8 (w ^^^ c)
def CV (w:Nat) (l:List Int):Nat:=l.foldl (fun w c=>tP w c.toNat) w
@[irreducible] def fS (l:List Int):Int:=((4294967295 - CV 4294967295 l:Nat):Int)
theorem AA (l:List Int):fS l=((4294967295 - CV 4294967295 l:Nat):Int):=by unfold fS;rfl
theorem zB {x:Nat} (h:x<4294967296):xC x<4294967296:=by
 unfold xC
 split
 ·
  exact Nat.xor_lt_two_pow (n:=32) (by omega) (by omega)
 ·
  omega
theorem Cp:∀ (m x:Nat),x<4294967296→Ds m x<4294967296
 | 0,_,h=>h
 | m+1,_,h=>Cp m _ (zB h)
theorem CP {w c:Nat} (hw:w<4294967296) (hc:c<4294967296):tP w c<4294967296:=Cp 8 _ (Nat.xor_lt_two_pow (n:=32) hw hc)
theorem ku (l:List Int):0≤fS l∧fS l≤4294967295:=by
 unfold fS
 omega
theorem wI (k:IntKind) (j:Nat) (hj:j≤k.bits) (hk:∀ n:Int,0≤n→n<2 ^ j→k.wrap n=n) (a b:Nat) (ha:a<2 ^ j) (hb:b<2 ^ j):Go.bits .xor k (a:Int) (b:Int)=((a ^^^ b:Nat):Int):=by
 have hp:2 ^ j≤2 ^ k.bits:=Nat.pow_le_pow_right (by decide) hj
 have ha':a % 2 ^ k.bits=a:=Nat.mod_eq_of_lt (Nat.lt_of_lt_of_le ha hp)
 have hb':b % 2 ^ k.bits=b:=Nat.mod_eq_of_lt (Nat.lt_of_lt_of_le hb hp)
 have cast:∀ n:Nat,n<2 ^ j→((n:Nat):Int)<2 ^ j:=fun n h=>by exact_mod_cast h
 simp only [Go.bits,BitVec.ofInt_natCast,BitVec.toNat_xor,BitVec.toNat_ofNat,ha',hb']
 exact hk _ (Int.natCast_nonneg _) (cast _ (Nat.xor_lt_two_pow ha hb))
theorem oD {a b:Nat} (ha:a<4294967296) (hb:b<4294967296):Go.bits .xor .u32 (a:Int) (b:Int)=((a ^^^ b:Nat):Int):=by
 have hk:∀ n:Int,0≤n→n<2 ^ 32→IntKind.u32.wrap n=n:=by
  intro n h4 h5
  rw [IntKind.wrap_u32]
  omega
 exact wI .u32 32 (by decide) hk a b ha hb
theorem Am {a:Nat} (ha:a<4294967296):Go.bits .and .u32 (a:Int) 1=((a % 2:Nat):Int):=by
 have hk:∀ n:Int,0≤n→n<2 ^ 32→IntKind.u32.wrap n=n:=by
  intro n h4 h5
  rw [IntKind.wrap_u32]
  omega
 have:=(bits_nat .u32 32 (by decide) hk a 1 ha (by decide)).1
 rw [Nat.and_one_is_mod] at this
 exact this
theorem zR {a:Nat} (ha:a<4294967296):Go.bits .xor .u32 (a:Int) 4294967295=((4294967295 - a:Nat):Int):=by
 have h:=oD ha (show 4294967295<4294967296 by decide)
 have h2:a ^^^ 4294967295=4294967295 - a:=by
  apply Nat.eq_of_testBit_eq
  intro i
  have h3:=Nat.testBit_two_pow_sub_succ (n:=32) (x:=a) (by simpa using ha) i
  rw [show (2:Nat) ^ 32 - (a+1)=4294967295 - a by omega] at h3
  rw [h3,Nat.testBit_xor,show (4294967295:Nat)=2 ^ 32 - 1 from rfl,Nat.testBit_two_pow_sub_one]
  by_cases hi:i<32
  ·
   simp [hi]
  ·
   have:a.testBit i=false:=Nat.testBit_lt_two_pow (Nat.lt_of_lt_of_le (by simpa using ha:a<2 ^ 32) (Nat.pow_le_pow_right (by decide) (by omega)))
   simp [hi,this]
 rw [h2] at h
 exact h
def lA (b:List Int):List Int:=num (fS b)
def frame (r:List Int):List Int:=num r.length++(lA (num r.length)++(lA r++r))
def frames (l:List (List Int)):List Int:=(l.map frame).flatten
theorem jY (b:List Int):(lA b).length=4:=by
 obtain ⟨h0,h1⟩:=ku b
 exact iA h0 (by omega)
theorem pN {r:List Int} (h:Bytes r):Bytes (frame r):=(ij _).append ((ij _).append ((ij _).append h))
theorem jB {r:List Int} (h:r.length≤65535):(frame r).length=12+r.length:=by
 unfold frame
 rw [List.length_append,List.length_append,List.length_append,jY,jY,iA (by omega) (by omega)]
 omega
def okF (d:List Int):Prop:=12≤d.length∧dZ d≤65535∧12+dZ d≤d.length∧dZ (d.drop 4)=fS (d.take 4)∧dZ (d.drop 8)=fS ((d.drop 12).take (dZ d).toNat)
instance (d:List Int):Decidable (okF d):=by unfold okF;infer_instance
def j6 (d:List Int):List Int × List Int × Bool:=if okF d then ((d.drop 12).take (dZ d).toNat,(d.drop 12).drop (dZ d).toNat,true) else ([],[],false)
theorem tG {n:Int} (h0:0≤n) (h1:n≤4294967295) (r:List Int):(num n++r).drop 4=r:=by rw [←iA h0 h1,List.drop_left]
theorem CY {n:Int} (h0:0≤n) (h1:n≤4294967295) (r:List Int):(num n++r).take 4=num n:=by rw [←iA h0 h1,List.take_left]
theorem sQ {r:List Int} (h:r.length≤65535) (s:List Int):dZ (frame r++s)=r.length∧(frame r++s).take 4=num r.length∧dZ ((frame r++s).drop 4)=fS (num r.length)∧dZ ((frame r++s).drop 8)=fS r∧(frame r++s).drop 12=r++s:=by
 have e:frame r++s=num r.length++(lA (num r.length)++(lA r++(r++s))):=by simp [frame]
 obtain ⟨a0,a1⟩:=ku (num r.length)
 obtain ⟨b0,b1⟩:=ku r
 have d4:(frame r++s).drop 4=lA (num r.length)++(lA r++(r++s)):=by rw [e];exact tG (by omega) (by omega) _
 have d8:(frame r++s).drop 8=lA r++(r++s):=by rw [show 8=4+4 from rfl,← List.drop_drop,d4];exact tG a0 a1 _
 have d12:(frame r++s).drop 12=r++s:=by rw [show 12=8+4 from rfl,← List.drop_drop,d8];exact tG b0 b1 _
 refine ⟨by rw [e];exact j4 (by omega) (by omega) _,by rw [e];exact CY (by omega) (by omega) _,by rw [d4];exact j4 a0 a1 _,by rw [d8];exact j4 b0 b1 _,d12⟩
theorem Ba {r:List Int} (h:r.length≤65535) (s:List Int):okF (frame r++s):=by
 obtain ⟨h1,h2,h3,h4,h5⟩:=sQ h s
 have hl:=jB h
 have hn:((r.length:Nat):Int).toNat=r.length:=by omega
 refine ⟨by rw [List.length_append];omega,by rw [h1];omega,by rw [h1,List.length_append];omega,by rw [h2,h3],?_⟩
 rw [h4,h5,h1,hn,List.take_left]
theorem AH {r:List Int} (h:r.length≤65535) (s:List Int):j6 (frame r++s)=(r,s,true):=by
 obtain ⟨h1,h2,h3,h4,h5⟩:=sQ h s
 have hn:((r.length:Nat):Int).toNat=r.length:=by omega
 unfold j6
 rw [if_pos (Ba h s),h1,h5,hn,List.take_left,List.drop_left]
theorem su {d:List Int} (h:¬ okF d):j6 d=([],[],false):=by
 unfold j6
 rw [if_neg h]
theorem za {p:List Int} {x y:Int} {s:List Int} (h4:(p++x :: s).length=4) (hb:Bytes (p++x :: s)) (hc:Bytes (p++y :: s)) (hne:x≠y) (t u:List Int):dZ (p++x :: s++t)≠dZ (p++y :: s++u):=by
 intro h
 have hb4:(p++x :: s)=num (dZ (p++x :: s++t)):=by
  have hv:dZ (p++x :: s++t)=dZ (p++x :: s):=by
   obtain ⟨a,b,c,d,r,e⟩:=rZ (b:=p++x :: s) (by omega)
   rw [e];rfl
  rw [hv,qE hb (by omega),List.take_of_length_le (by omega)]
 have hc4:(p++y :: s)=num (dZ (p++y :: s++u)):=by
  have hl:(p++y :: s).length=4:=by simpa using h4
  have hv:dZ (p++y :: s++u)=dZ (p++y :: s):=by
   obtain ⟨a,b,c,d,r,e⟩:=rZ (b:=p++y :: s) (by omega)
   rw [e];rfl
  rw [hv,qE hc (by omega),List.take_of_length_le (by omega)]
 rw [h,← hc4] at hb4
 have:=List.append_cancel_left hb4
 exact hne (List.cons.inj this).1
def Turn (a b:List Int):Prop:=∃ p x y s,a=p++x :: s∧b=p++y :: s∧x≠y
theorem Turn.set {a:List Int} {j:Nat} {y:Int} (hj:j<a.length) (hne:a[j]?≠some y):Turn a (a.set j y):=by
 refine ⟨a.take j,a[j],y,a.drop (j+1),?_,?_,fun e=>hne (by rw [List.getElem?_eq_getElem hj,e])⟩
 ·
  rw [←List.drop_eq_getElem_cons hj,List.take_append_drop]
 ·
  rw [List.set_eq_take_append_cons_drop,if_pos hj]
theorem Turn.dZ {a b:List Int} (h:Turn a b) (h4:a.length=4) (ha:Bytes a) (hb:Bytes b) (t u:List Int):Pl.dZ (a++t)≠Pl.dZ (b++u):=by
 obtain ⟨p,x,y,s,rfl,rfl,hne⟩:=h
 exact za h4 ha hb hne t u
theorem Turn.length {a b:List Int} (h:Turn a b):b.length=a.length:=by
 obtain ⟨p,x,y,s,rfl,rfl,_⟩:=h
 simp
theorem Fj (l:List Int) (i:Nat) (h:i<l.length):rd l (i:Int)=l[i]:=by
 simp [rd,List.getD_eq_getElem?_getD,List.getElem?_eq_getElem h]
theorem EM {x:Nat} (h:x<4294967296):cN.bit (x:Int)=(xC x:Int):=by
 unfold cN.bit xC
 rw [Am h]
 have hd:(x:Int) / 2=((x / 2:Nat):Int):=by omega
 rw [hd]
 by_cases h1:x % 2=1
 ·
  rw [if_pos (by omega),if_pos h1]
  exact oD (a:=x / 2) (b:=2197175160) (by omega) (by omega)
 ·
  rw [if_neg (by omega),if_neg h1]
theorem go_eq:∀ (m:Nat) {x:Nat},x<4294967296→cN.go m (x:Int)=(Ds m x:Int)
 | 0,_,_=>rfl
 | m+1,x,h=>by
  rw [cN.go,EM h,go_eq m (zB h)]
  rfl
theorem Di {w:Nat} {c:Int} (hw:w<4294967296) (hc:0≤c∧c<256):cN.f (w:Int) c=some (tP w c.toNat:Int):=by
 have hc1:c % 4294967296=((c.toNat:Nat):Int):=by omega
 have hc2:c.toNat<4294967296:=by omega
 unfold cN.f
 rw [hc1,oD hw hc2,go_eq 8 (Nat.xor_lt_two_pow (n:=32) hw hc2)]
 rfl
theorem D4 {l:List Int} (hb:Bytes l) (hl:l.length≤140737488355328) (d:Nat):∀ (i w:Nat),i≤l.length→l.length - i=d→w<4294967296→
  Ev (fun k=>dK.l0 k (w:Int) l (l.length:Int) (i:Int)) ((4294967295 - CV w (l.drop i):Nat):Int):=by
 induction d with
 | zero=>
  intro i w hi hd hw
  rw [List.drop_eq_nil_of_le (by omega)]
  refine Ev.step (f:=fun _=>some ((4294967295 - w:Nat):Int)) (fun k=>?_) (Ev.now _)
  simp only [dK.l0]
  rw [if_neg (by omega),zR hw]
 | succ d ih=>
  intro i w hi hd hw
  have h1:i<l.length:=by omega
  have hc:=hb _ (List.getElem_mem h1)
  rw [List.drop_eq_getElem_cons h1]
  refine Ev.step (f:=fun k=>dK.l0 k ((tP w (l[i]).toNat:Nat):Int) l (l.length:Int) ((i+1:Nat):Int)) (fun k=>?_) (ih (i+1) (tP w (l[i]).toNat) (by omega) (by omega) (CP hw (by omega)))
  simp only [dK.l0]
  rw [if_pos (by omega),if_pos (by omega),if_pos (by omega),Fj _ _ h1,Di hw hc,fU (by omega) (by omega)]
  rfl
theorem oW {l:List Int} (hb:Bytes l) (hl:l.length≤140737488355328):Ev (fun k=>fH.f k l) (fS l):=by
 unfold fH.f dK.f
 have h:=D4 hb hl l.length 0 4294967295 (by omega) (by omega) (by omega)
 rw [List.drop_zero,← AA] at h
 have e:Go.bits .xor .u32 0 4294967295=((4294967295:Nat):Int):=oD (a:=0) (b:=4294967295) (by omega) (by omega)
 rw [e]
 exact Ev.bind h (Ev.now _)
theorem uE (l:List Int) (i:Nat) (h:i<l.length):rd l (i:Int)=l[i]:=by
 simp [rd,List.getD_eq_getElem?_getD,List.getElem?_eq_getElem h]
theorem CA (l m:List Int) (hm:l.length=m.length) (hl:l.length≤140737488355328) (d:Nat):∀ i:Nat,i≤l.length→l.length - i=d→
  Ev (fun k=>aW.l0 k l m (l.length:Int) (i:Int)) (decide (l.drop i=m.drop i)):=by
 induction d with
 | zero=>
  intro i hi hd
  refine Ev.step (f:=fun _=>some true) (fun k=>?_) ?_
  ·
   simp only [aW.l0]
   rw [if_neg (by omega)]
  ·
   rw [List.drop_eq_nil_of_le (by omega),List.drop_eq_nil_of_le (by omega)]
   exact Ev.now _
 | succ d ih=>
  intro i hi hd
  have h1:i<l.length:=by omega
  have h2:i<m.length:=by omega
  rw [List.drop_eq_getElem_cons h1,List.drop_eq_getElem_cons h2]
  by_cases he:l[i]=m[i]
  ·
   refine Ev.step (f:=fun k=>aW.l0 k l m (l.length:Int) ((i+1:Nat):Int)) (fun k=>?_) ((ih (i+1) (by omega) (by omega)).to (by simp only [he,List.cons.injEq,true_and]))
   simp only [aW.l0]
   rw [if_pos (by omega),if_pos (by omega),if_pos (by omega),if_pos (by omega),uE _ _ h1,uE _ _ h2,if_pos he,fU (by omega) (by omega)]
   rfl
  ·
   refine Ev.step (f:=fun _=>some false) (fun k=>?_) ((Ev.now false).to (by simp only [List.cons.injEq,he,false_and,decide_false]))
   simp only [aW.l0]
   rw [if_pos (by omega),if_pos (by omega),if_pos (by omega),if_pos (by omega),uE _ _ h1,uE _ _ h2,if_neg he]
theorem x_ {l m:List Int} (hl:l.length≤140737488355328):Ev (fun k=>aW.f k l m) (decide (l=m)):=by
 unfold aW.f
 by_cases h:l.length=m.length
 ·
  refine Ev.pos (by omega) ?_
  have:=CA l m h hl l.length 0 (by omega) (by omega)
  simpa using this
 ·
  refine Ev.neg (by omega) ((Ev.now false).to ?_)
  symm
  rw [decide_eq_false_iff_not]
  intro e
  exact h (by rw [e])
theorem mN {l:List Int} (hb:Bytes l) (hl:l.length≤140737488355328):Ev (fun k=>eC.f k l) (lA l):=by
 unfold eC.f
 refine Ev.bind (oW hb hl) ?_
 obtain ⟨h0,h1⟩:=ku l
 rw [fU (by omega) (by omega),jw]
 exact Ev.now _
theorem si {l:List Int} (hb:Bytes l) (hl:l.length≤140737488355328):Ev (fun k=>fw.f k l) (if l.length > 65535 then [] else frame l):=by
 unfold fw.f
 by_cases h:l.length > 65535
 ·
  rw [if_pos h]
  exact Ev.pos (by omega) (Ev.now _)
 ·
  rw [if_neg h]
  refine Ev.neg (by omega) (Ev.bind (Ev.eq (jw _)) (Ev.bind (mN (ij _) (by have:=eY l.length;omega)) (Ev.bind (mN hb hl) (Ev.bind (Ev.eq (nW ?_)) ((Ev.now _).to ?_)))))
  ·
   have h1:=eY l.length
   have h2:=jY (num l.length)
   have h3:=jY l
   simp only [fL,List.map_cons,List.map_nil,List.sum_cons,List.sum_nil]
   omega
  ·
   simp [frame]
def jr (c:Cell):List Int:=iF c.f0 c.f1 c.f2 c.f3 c.f4
def iH (l:List Cell):List Int:=num l.length++(l.map jr).flatten
theorem uY {c:Cell} (h:fK c=true):(jr c).length≤401:=by
 obtain ⟨_,h1,_,h2,_,_,h3,_⟩:=gM.1 h
 have:=kZ c.f0 c.f1 c.f2 c.f3 c.f4
 unfold jr
 omega
theorem qt:∀ l:List Cell,Bytes (l.map jr).flatten
 | []=>Bytes.nil
 | c :: l=>by rw [List.map_cons,List.flatten_cons];exact (pK _ _ _ _ _).append (qt l)
theorem sO (l:List Cell):Bytes (iH l):=(ij _).append (qt l)
theorem xI {r:List Int} (h:r.length≤65535):¬ (((frame r).length:Nat):Int)=0:=by
 rw [jB h]
 omega
theorem Er (l:List Cell) (hr:gj l) (hl:l.length≤450) (d:Nat):∀ (i:Nat) (acc:List Int),i≤l.length→l.length - i=d→acc.length+((l.drop i).map jr).flatten.length≤60154→Bytes acc→Ev (fun k=>cJ.l0 k acc l (l.length:Int) (i:Int)) (frame (acc++((l.drop i).map jr).flatten),0):=by
 induction d with
 | zero=>
  intro i acc hi hd ha hb
  rw [List.drop_eq_nil_of_le (by omega)] at ha ⊢
  simp only [List.map_nil,List.flatten_nil,List.length_nil] at ha
  have h:=si hb (by omega)
  rw [if_neg (by omega)] at h
  refine Ev.step (fun k=>by simp only [cJ.l0];rw [if_neg (by omega)]) ?_
  refine Ev.bind h ?_
  refine Ev.neg (xI (by omega)) ?_
  exact (Ev.now _).to (by simp)
 | succ d ih=>
  intro i acc hi hd ha hb
  have hlt:i<l.length:=by omega
  have hri:=hr _ (List.getElem_mem hlt)
  have hz:=uY hri
  have hrd:=gY l i hlt
  unfold mS at hrd
  obtain ⟨_,z1,_,z2,_,_,z3,_⟩:=gM.1 hri
  have hp:dn.f l[i].f0 l[i].f1 l[i].f2 l[i].f3 l[i].f4=some (jr l[i]):=nI _ _ (by omega) (by omega) (by omega)
  rw [List.drop_eq_getElem_cons hlt,List.map_cons,List.flatten_cons,List.length_append] at ha
  rw [List.drop_eq_getElem_cons hlt,List.map_cons,List.flatten_cons,← List.append_assoc]
  refine Ev.step (f:=fun k=>cJ.l0 k (acc++jr l[i]) l (l.length:Int) ((i+1:Nat):Int)) (fun k=>?_) (ih (i+1) (acc++jr l[i]) (by omega) (by omega) (by rw [List.length_append];omega) (hb.append (pK _ _ _ _ _)))
  simp only [cJ.l0]
  rw [if_pos (by omega),if_pos (by omega),if_pos (by omega),hrd,hp,Option.bind_some,if_pos (by omega),fU (by omega) (by omega)]
  rfl
theorem vW {l:List Cell} (hs:j9 l) (h0:l.length≠0) (hl:l.length≤450) (hb:(iH l).length≤60154):Ev (fun k=>cJ.f k l) (frame (iH l),0):=by
 unfold cJ.f
 refine Ev.bind (lM (by omega)) ?_
 rw [kU.2 hs]
 refine Ev.pos rfl ?_
 rw [show ((l.length:Int) == 0)=false from beq_eq_false_iff_ne.2 (by omega)]
 refine Ev.step (fun k=>by simp only [cJ.j0,Bool.false_eq_true,if_false];rw [jw]) (Ev.bind (Ev.now _) ?_)
 have:=Er l hs.1 hl l.length 0 (num l.length) (by omega) (by omega) (by rw [List.drop_zero,← List.length_append];exact hb) (ij _)
 rw [List.drop_zero] at this
 exact this
def nF (key:ByteArray) (n:Int):List Int:=
 [fS (bytesOf key) % n,(fS (bytesOf key)+fS ([1]++bytesOf key)) % 4294967296 % n,(fS (bytesOf key)+2*fS ([1]++bytesOf key)) % 4294967296 % n]
theorem qU {key:ByteArray} {n:Int} (h:0<n):∀ i ∈ nF key n,0≤i∧i<n:=by
 intro i hi
 simp only [nF,List.mem_cons,List.not_mem_nil,or_false] at hi
 rcases hi with rfl | rfl | rfl<;>exact ⟨Int.emod_nonneg _ (by omega),Int.emod_lt_of_pos _ h⟩
def bv (b0 b1 b2 b3 b4 b5 b6 b7:Bool):Int:=b0.toInt+2*(b1.toInt+2*(b2.toInt+2*(b3.toInt+2*(b4.toInt+2*(b5.toInt+2*(b6.toInt+2*b7.toInt))))))
theorem lG (b:Bool):0≤b.toInt∧b.toInt≤1:=by cases b<;>decide
theorem Fg (b0 b1 b2 b3 b4 b5 b6 b7:Bool):0≤bv b0 b1 b2 b3 b4 b5 b6 b7∧bv b0 b1 b2 b3 b4 b5 b6 b7<256:=by
 have:=lG b0;have:=lG b1;have:=lG b2;have:=lG b3;have:=lG b4;have:=lG b5;have:=lG b6;have:=lG b7
 unfold bv
 omega
theorem or0:∀ b0 b1 b2 b3 b4 b5 b6 b7:Bool,Go.bits .or .u8 (bv b0 b1 b2 b3 b4 b5 b6 b7) (shl .u8 1 0)=bv true b1 b2 b3 b4 b5 b6 b7:=by decide +kernel
theorem or1:∀ b0 b1 b2 b3 b4 b5 b6 b7:Bool,Go.bits .or .u8 (bv b0 b1 b2 b3 b4 b5 b6 b7) (shl .u8 1 1)=bv b0 true b2 b3 b4 b5 b6 b7:=by decide +kernel
theorem or2:∀ b0 b1 b2 b3 b4 b5 b6 b7:Bool,Go.bits .or .u8 (bv b0 b1 b2 b3 b4 b5 b6 b7) (shl .u8 1 2)=bv b0 b1 true b3 b4 b5 b6 b7:=by decide +kernel
theorem or3:∀ b0 b1 b2 b3 b4 b5 b6 b7:Bool,Go.bits .or .u8 (bv b0 b1 b2 b3 b4 b5 b6 b7) (shl .u8 1 3)=bv b0 b1 b2 true b4 b5 b6 b7:=by decide +kernel
theorem or4:∀ b0 b1 b2 b3 b4 b5 b6 b7:Bool,Go.bits .or .u8 (bv b0 b1 b2 b3 b4 b5 b6 b7) (shl .u8 1 4)=bv b0 b1 b2 b3 true b5 b6 b7:=by decide +kernel
theorem or5:∀ b0 b1 b2 b3 b4 b5 b6 b7:Bool,Go.bits .or .u8 (bv b0 b1 b2 b3 b4 b5 b6 b7) (shl .u8 1 5)=bv b0 b1 b2 b3 b4 true b6 b7:=by decide +kernel
theorem or6:∀ b0 b1 b2 b3 b4 b5 b6 b7:Bool,Go.bits .or .u8 (bv b0 b1 b2 b3 b4 b5 b6 b7) (shl .u8 1 6)=bv b0 b1 b2 b3 b4 b5 true b7:=by decide +kernel
theorem or7:∀ b0 b1 b2 b3 b4 b5 b6 b7:Bool,Go.bits .or .u8 (bv b0 b1 b2 b3 b4 b5 b6 b7) (shl .u8 1 7)=bv b0 b1 b2 b3 b4 b5 b6 true:=by decide +kernel
theorem Db:∀ x:Fin 256,∀ k:Fin 8,decide (Go.bits .and .u8 (shr .u8 (x.val:Int) (k.val:Int)) 1=0)=decide (((x.val:Int) / 2 ^ k.val) % 2=0):=by decide +kernel
def byteOf (s:List Bool) (j:Nat):Int:=bv (s.getD (8*j) false) (s.getD (8*j+1) false) (s.getD (8*j+2) false) (s.getD (8*j+3) false) (s.getD (8*j+4) false) (s.getD (8*j+5) false) (s.getD (8*j+6) false) (s.getD (8*j+7) false)
def iI (s:List Bool) (m:Nat):List Int:=(List.range m).map (byteOf s)
theorem iQ (s:List Bool) (m:Nat):(iI s m).length=m:=by simp [iI]
theorem nP (s:List Bool) {m j:Nat} (h:j<m):(iI s m)[j]'(by rw [iQ];exact h)=byteOf s j:=by simp [iI]
theorem wO (s:List Bool) (m:Nat):Bytes (iI s m):=by
 intro x hx
 simp only [iI,List.mem_map,List.mem_range] at hx
 obtain ⟨j,_,rfl⟩:=hx
 exact Fg _ _ _ _ _ _ _ _
theorem kI (s:List Bool) (i q:Nat) (h:i<s.length):(s.set i true).getD q false=if i=q then true else s.getD q false:=by
 rw [List.getD_eq_getElem?_getD,List.getD_eq_getElem?_getD,List.getElem?_set]
 split
 ·
  simp
 ·
  rfl
theorem zW (s:List Bool) (i j:Nat) (h:i<s.length):byteOf (s.set i true) j=if j=i / 8 then Go.bits .or .u8 (byteOf s j) (shl .u8 1 ((i % 8:Nat):Int)) else byteOf s j:=by
 by_cases hj:j=i / 8
 ·
  rw [if_pos hj]
  subst hj
  unfold byteOf
  simp only [kI s i _ h]
  have h8:i % 8<8:=Nat.mod_lt _ (by omega)
  have he:i=8*(i / 8)+i % 8:=by omega
  obtain ⟨r,hr⟩:∃ r,r=i % 8:=⟨_,rfl⟩
  rw [←hr] at h8 he ⊢
  generalize i / 8=q at he ⊢
  subst he
  clear hr
  have e0:(8*q+r=8*q)=(r=0):=propext ⟨fun h=>by omega,fun h=>by omega⟩
  have e1:(8*q+r=8*q+1)=(r=1):=propext ⟨fun h=>by omega,fun h=>by omega⟩
  have e2:(8*q+r=8*q+2)=(r=2):=propext ⟨fun h=>by omega,fun h=>by omega⟩
  have e3:(8*q+r=8*q+3)=(r=3):=propext ⟨fun h=>by omega,fun h=>by omega⟩
  have e4:(8*q+r=8*q+4)=(r=4):=propext ⟨fun h=>by omega,fun h=>by omega⟩
  have e5:(8*q+r=8*q+5)=(r=5):=propext ⟨fun h=>by omega,fun h=>by omega⟩
  have e6:(8*q+r=8*q+6)=(r=6):=propext ⟨fun h=>by omega,fun h=>by omega⟩
  have e7:(8*q+r=8*q+7)=(r=7):=propext ⟨fun h=>by omega,fun h=>by omega⟩
  simp only [e0,e1,e2,e3,e4,e5,e6,e7]
  clear e0 e1 e2 e3 e4 e5 e6 e7
  obtain rfl | rfl | rfl | rfl | rfl | rfl | rfl | rfl:r=0∨r=1∨r=2∨r=3∨r=4∨r=5∨r=6∨r=7:=by omega
  ·
   exact (or0 _ _ _ _ _ _ _ _).symm
  ·
   exact (or1 _ _ _ _ _ _ _ _).symm
  ·
   exact (or2 _ _ _ _ _ _ _ _).symm
  ·
   exact (or3 _ _ _ _ _ _ _ _).symm
  ·
   exact (or4 _ _ _ _ _ _ _ _).symm
  ·
   exact (or5 _ _ _ _ _ _ _ _).symm
  ·
   exact (or6 _ _ _ _ _ _ _ _).symm
  ·
   exact (or7 _ _ _ _ _ _ _ _).symm
 ·
  rw [if_neg hj]
  unfold byteOf
  simp only [kI s i _ h]
  rw [if_neg (by omega),if_neg (by omega),if_neg (by omega),if_neg (by omega),if_neg (by omega),if_neg (by omega),if_neg (by omega),if_neg (by omega)]
def mT (f:List Int) (i:Int):List Int:=f.set (i / 8).toNat (Go.bits .or .u8 (rd f (i / 8)) (shl .u8 1 (i % 8)))
def jW (s:List Bool) (i:Int):List Bool:=s.set i.toNat true
theorem yU (s:List Bool) (m:Nat) (hs:s.length=8*m) (i:Int) (h0:0≤i) (h1:i<8*m):mT (iI s m) i=iI (jW s i) m:=by
 obtain ⟨n,rfl⟩:∃ n:Nat,i=(n:Int):=⟨i.toNat,by omega⟩
 have hq:((n:Int) / 8)=((n / 8:Nat):Int):=by omega
 have hr:((n:Int) % 8)=((n % 8:Nat):Int):=by omega
 unfold mT jW
 rw [hq,hr,Int.toNat_natCast,Int.toNat_natCast]
 have hlt:n / 8<m:=by omega
 have hrd:rd (iI s m) ((n / 8:Nat):Int)=byteOf s (n / 8):=by
  unfold rd
  rw [Int.toNat_natCast,List.getD_eq_getElem?_getD,List.getElem?_eq_getElem (by rw [iQ];exact hlt),nP s hlt]
  rfl
 rw [hrd]
 apply List.ext_getElem
 ·
  rw [List.length_set,iQ,iQ]
 ·
  intro j hj1 hj2
  rw [iQ] at hj2
  rw [List.getElem_set,nP s hj2,show (iI (s.set n true) m)[j]=byteOf (s.set n true) j from nP _ hj2,zW s n j (by omega)]
  by_cases he:n / 8=j
  ·
   rw [if_pos he,if_pos he.symm,← he]
  ·
   rw [if_neg he,if_neg (fun h=>he h.symm)]
def yh (n:Int) (s:List Bool) (keys:List ByteArray):List Bool:=keys.foldl (fun s k=>(nF k n).foldl jW s) s
theorem mw:∀ (l:List Int) (s:List Bool),(l.foldl jW s).length=s.length
 | [],_=>rfl
 | i :: l,s=>by
  rw [List.foldl_cons,mw l]
  unfold jW
  rw [List.length_set]
def jv (keys:List ByteArray):Nat:=max 1 keys.length
def sB (keys:List ByteArray):List Int:=iI (yh (8*(jv keys:Int)) (List.replicate (8*jv keys) false) keys) (jv keys)
theorem oV (keys:List ByteArray):(sB keys).length=jv keys:=iQ _ _
theorem zb (keys:List ByteArray):Bytes (sB keys):=wO _ _
def hasB (f:List Int) (is:List Int):Bool:=is.all fun i=>decide (¬ (rd f (i / 8) / 2 ^ (i % 8).toNat) % 2=0)
def sV (f:List Int) (key:ByteArray):Bool:=if f.length=0 then true else hasB f (nF key (8*(f.length:Int)))
theorem FE:∀ b0 b1 b2 b3 b4 b5 b6 b7:Bool,(bv b0 b1 b2 b3 b4 b5 b6 b7 / 2 ^ 0) % 2=b0.toInt∧(bv b0 b1 b2 b3 b4 b5 b6 b7 / 2 ^ 1) % 2=b1.toInt∧(bv b0 b1 b2 b3 b4 b5 b6 b7 / 2 ^ 2) % 2=b2.toInt∧(bv b0 b1 b2 b3 b4 b5 b6 b7 / 2 ^ 3) % 2=b3.toInt∧(bv b0 b1 b2 b3 b4 b5 b6 b7 / 2 ^ 4) % 2=b4.toInt∧(bv b0 b1 b2 b3 b4 b5 b6 b7 / 2 ^ 5) % 2=b5.toInt∧(bv b0 b1 b2 b3 b4 b5 b6 b7 / 2 ^ 6) % 2=b6.toInt∧(bv b0 b1 b2 b3 b4 b5 b6 b7 / 2 ^ 7) % 2=b7.toInt:=by decide +kernel
theorem Ao (s:List Bool) (j r:Nat) (h:r<8):(byteOf s j / 2 ^ r) % 2=(s.getD (8*j+r) false).toInt:=by
 have hg:=FE (s.getD (8*j) false) (s.getD (8*j+1) false) (s.getD (8*j+2) false) (s.getD (8*j+3) false) (s.getD (8*j+4) false) (s.getD (8*j+5) false) (s.getD (8*j+6) false) (s.getD (8*j+7) false)
 unfold byteOf
 obtain ⟨g0,g1,g2,g3,g4,g5,g6,g7⟩:=hg
 obtain rfl | rfl | rfl | rfl | rfl | rfl | rfl | rfl:r=0∨r=1∨r=2∨r=3∨r=4∨r=5∨r=6∨r=7:=by omega
 ·
  exact g0
 ·
  exact g1
 ·
  exact g2
 ·
  exact g3
 ·
  exact g4
 ·
  exact g5
 ·
  exact g6
 ·
  exact g7
theorem vJ (l:List Int) (q:Nat):∀ (s:List Bool),s.getD q false=true→(l.foldl jW s).getD q false=true:=by
 induction l with
 | nil=>exact fun s h=>h
 | cons i l ih=>
  intro s h
  refine ih _ ?_
  unfold jW
  rw [List.getD_eq_getElem?_getD,List.getElem?_set]
  split
  ·
   split
   ·
    rfl
   ·
    rename_i he hlt
    rw [List.getD_eq_getElem?_getD,List.getElem?_eq_none (by omega)] at h
    exact h
  ·
   rw [←List.getD_eq_getElem?_getD];exact h
theorem DP (l:List Int):∀ (s:List Bool),∀ i ∈ l,0≤i→i.toNat<s.length→(l.foldl jW s).getD i.toNat false=true:=by
 induction l with
 | nil=>intro s i hi;cases hi
 | cons j l ih=>
  intro s i hi h0 h1
  have hl:(jW s j).length=s.length:=by unfold jW;rw [List.length_set]
  rcases List.mem_cons.1 hi with rfl | hi
  ·
   refine vJ l _ _ ?_
   unfold jW
   rw [kI s _ _ h1,if_pos rfl]
  ·
   exact ih (jW s j) i hi h0 (by rw [hl];exact h1)
theorem uD (n:Int) (q:Nat):∀ (keys:List ByteArray) (s:List Bool),s.getD q false=true→(yh n s keys).getD q false=true
 | [],_,h=>h
 | _ :: keys,s,h=>uD n q keys _ (vJ _ q s h)
theorem yF (n:Int) (key:ByteArray) (i:Int) (hi:i ∈ nF key n) (h0:0≤i):∀ (keys:List ByteArray) (s:List Bool),key ∈ keys→i.toNat<s.length→(yh n s keys).getD i.toNat false=true
 | [],_,h,_=>by cases h
 | k :: keys,s,h,h1=>by
  rcases List.mem_cons.1 h with rfl | h
  ·
   exact uD n _ keys _ (DP _ s i hi h0 h1)
  ·
   exact yF n key i hi h0 keys _ h (by rw [mw];exact h1)
theorem B0 {key:ByteArray} {keys:List ByteArray} (h:key ∈ keys):sV (sB keys) key=true:=by
 have hm:0<jv keys:=by unfold jv;omega
 unfold sV
 rw [oV,if_neg (by omega)]
 unfold hasB
 rw [List.all_eq_true]
 intro i hi
 obtain ⟨h0,h1⟩:=qU (by omega) i hi
 obtain ⟨n,rfl⟩:∃ n:Nat,i=(n:Int):=⟨i.toNat,by omega⟩
 have hq:((n:Int) / 8)=((n / 8:Nat):Int):=by omega
 have hr:((n:Int) % 8).toNat=n % 8:=by omega
 have hlt:n / 8<jv keys:=by omega
 have hs:=yF (8*(jv keys:Int)) key (n:Int) hi h0 keys (List.replicate (8*jv keys) false) h (by rw [List.length_replicate];omega)
 have hrd:rd (sB keys) ((n / 8:Nat):Int)=byteOf (yh (8*(jv keys:Int)) (List.replicate (8*jv keys) false) keys) (n / 8):=by
  unfold rd
  rw [Int.toNat_natCast,List.getD_eq_getElem?_getD,List.getElem?_eq_getElem (by rw [oV];exact hlt)]
  exact nP _ hlt
 rw [hq,hr,hrd,Ao _ _ _ (Nat.mod_lt _ (by omega)),show 8*(n / 8)+n % 8=n by omega]
 rw [Int.toNat_natCast] at hs
 rw [hs]
 decide
def rJ (r c:ByteArray):ByteArray:=strOfNums (text r)++strOfNums (text c)
theorem vB (r c:ByteArray):(rJ r c).size≤8+r.size+c.size:=by
 unfold rJ
 rw [ByteArray.size_append,jU,jU]
 have:=fo r
 have:=fo c
 omega
def mG (l:List Cell):List ByteArray:=l.map fun c=>rJ c.f0 c.f1
def eO (l:List Cell):List Int:=sB (mG l)
theorem lJ (l:List Cell):(eO l).length=max 1 l.length:=by
 unfold eO
 rw [oV]
 simp [jv,mG]
theorem wk (l:List Cell):Bytes (eO l):=zb _
def qJ:List Cell→List Int
 | []=>[]
 | c :: _=>iF c.f0 c.f1 c.f2 ⟨#[]⟩ false
def jI (bs:List (List Cell)):List Int:=(bs.map fun l=>frame (iH l)).flatten
def l_:Nat→List (List Cell)→List Int
 | _,[]=>[]
 | off,l :: bs=>qJ l++(num off++l_ (off+(frame (iH l)).length) bs)
def jb (bs:List (List Cell)) (fl:List Int):List Int:=num bs.length++(l_ 0 bs++text (strOfNums fl))
def iB (bs:List (List Cell)) (fl:List Int):List Int:=jI bs++(frame (jb bs fl)++num (frame (jb bs fl)).length)
def jo (b:List Cell):Prop:=j9 b∧b≠[]∧b.length≤450∧(iH b).length≤60154
theorem zm {b:List Cell} (h:jo b):(qJ b).length≤145:=by
 cases b with
 | nil=>simp [qJ]
 | cons c b=>
  obtain ⟨_,h1,_,h2,_⟩:=gM.1 (h.1.1 c List.mem_cons_self)
  have:=kZ c.f0 c.f1 c.f2 ⟨#[]⟩ false
  have h0:(⟨#[]⟩:ByteArray).size=0:=rfl
  show (iF c.f0 c.f1 c.f2 ⟨#[]⟩ false).length≤145
  omega
theorem tX (b:List Cell):Bytes (qJ b):=by
 cases b with
 | nil=>exact Bytes.nil
 | cons c b=>exact pK _ _ _ _ _
theorem wH:∀ (bs:List (List Cell)) (off:Nat),(∀ b ∈ bs,jo b)→(l_ off bs).length≤149*bs.length
 | [],_,_=>by simp [l_]
 | b :: bs,off,h=>by
  have h1:=zm (h b List.mem_cons_self)
  have h2:=eY off
  have h3:=wH bs (off+(frame (iH b)).length) (fun x hx=>h x (List.mem_cons_of_mem _ hx))
  unfold l_
  simp only [List.length_append,List.length_cons]
  omega
theorem sG:∀ (bs:List (List Cell)) (off:Nat),Bytes (l_ off bs)
 | [],_=>Bytes.nil
 | b :: bs,off=>by
  unfold l_
  exact (tX b).append ((ij _).append (sG bs _))
theorem yY (bs:List (List Cell)) (fl:List Int):Bytes (jb bs fl):=(ij _).append ((sG _ _).append (mR _))
theorem tJ {bs:List (List Cell)} {fl:List Int} (h:∀ b ∈ bs,jo b) (hb:bs.length≤421) (hf:fl.length≤1000):(jb bs fl).length≤63800:=by
 have h1:=wH bs 0 h
 have h2:=eY bs.length
 have h3:=fo (strOfNums fl)
 rw [jU] at h3
 unfold jb
 simp only [List.length_append]
 omega
theorem zA {b:List Cell} (h:jo b):(iH b).length≤60154:=h.2.2.2
theorem wQ {b:List Cell} (h:jo b):(frame (iH b)).length≤60166:=by
 have:=zA h
 rw [jB (by omega)]
 omega
theorem nT (b:List Cell) (bs:List (List Cell)):jI (b :: bs)=frame (iH b)++jI bs:=by simp [jI]
theorem qX:∀ (bs:List (List Cell)),Bytes (jI bs)
 | []=>Bytes.nil
 | b :: bs=>by
  rw [nT]
  exact (pN (sO b)).append (qX bs)
theorem sy:∀ (bs:List (List Cell)),(∀ b ∈ bs,jo b)→(jI bs).length≤60166*bs.length
 | [],_=>by simp [jI]
 | b :: bs,h=>by
  have h1:=wQ (h b List.mem_cons_self)
  have h2:=sy bs (fun x hx=>h x (List.mem_cons_of_mem _ hx))
  rw [nT]
  simp only [List.length_append,List.length_cons]
  omega
theorem xh (bs:List (List Cell)) (fl:List Int):Bytes (iB bs fl):=(qX bs).append ((pN (yY bs fl)).append (ij _))
theorem p_ {l:List Cell} (h:l.length≤1000000000):eW.f l=some l:=by
 unfold eW.f
 rw [if_pos (by omega)]
def iy (c:Cell):Nat:=(iF c.f0 c.f1 c.f2 c.f3 c.f4).length
theorem zj {c:Cell} (h:fK c=true):iy c≤401:=by
 obtain ⟨_,h1,_,h2,_,_,h3,_⟩:=gM.1 h
 have:=kZ c.f0 c.f1 c.f2 c.f3 c.f4
 unfold iy
 omega
theorem Dy {c:Cell} (h:fK c=true):dn.f c.f0 c.f1 c.f2 c.f3 c.f4=some (iF c.f0 c.f1 c.f2 c.f3 c.f4):=by
 obtain ⟨_,h1,_,h2,_,_,h3,_⟩:=gM.1 h
 exact nI _ _ (by omega) (by omega) (by omega)
def iE (size:Nat):List Cell→List Cell→Nat→List (List Cell)
 | [],now,_=>if now=[] then [] else [now]
 | c :: l,now,n=>if n+iy c≥size then (now++[c]) :: iE size l [] 0 else iE size l (now++[c]) (n+iy c)
theorem mP (size:Nat):∀ (l now:List Cell) (n:Nat),(iE size l now n).length≤l.length+1
 | [],now,n=>by unfold iE;split<;>simp
 | c :: l,now,n=>by
  unfold iE
  split
  ·
   have:=mP size l [] 0
   simp only [List.length_cons];omega
  ·
   have:=mP size l (now++[c]) (n+iy c)
   simp only [List.length_cons];omega
theorem CZ (size:Nat) (N:Nat) (hN:N≤1000) (ih:∀ (l:List Cell) (out:List (List Cell)),l.length<N→gj l→out.length+l.length≤1000→Ev (fun k=>bD.l0 k l (size:Int) out) (out++iE size l [] 0,0))
  (l:List Cell) (out:List (List Cell)) (hl:l.length≤N) (hl0:0<l.length) (hr:gj l) (ho:out.length+l.length≤1000) (d:Nat):∀ (i n:Nat),i≤l.length→l.length - i=d→n≤401*i→Ev (fun k=>bD.l1 k l (size:Int) out (n:Int) l (l.length:Int) (i:Int)) (out++iE size (l.drop i) (l.take i) n,0):=by
 induction d with
 | zero=>
  intro i n hi hd hn
  have:i=l.length:=by omega
  subst this
  rw [List.drop_eq_nil_of_le (Nat.le_refl _),List.take_length]
  refine Ev.step (f:=fun _=>some (out++[l],0)) (fun k=>?_) ((Ev.now _).to ?_)
  ·
   simp only [bD.l1]
   rw [if_neg (by omega),p_ (by omega),Option.bind_some,if_pos (by omega)]
  ·
   unfold iE
   rw [if_neg (fun e=>by rw [e] at hl0;simp at hl0)]
 | succ d ih2=>
  intro i n hi hd hn
  have hlt:i<l.length:=by omega
  have hri:=hr _ (List.getElem_mem hlt)
  have hz:=zj hri
  have hrd:=gY l i hlt
  unfold mS at hrd
  rw [List.drop_eq_getElem_cons hlt]
  unfold iE
  have e1:wrap64 ((n:Int)+((iF l[i].f0 l[i].f1 l[i].f2 l[i].f3 l[i].f4).length:Int))=((n+iy l[i]:Nat):Int):=by
   show wrap64 ((n:Int)+((iy l[i]:Nat):Int))=_
   rw [fU (by omega) (by omega)];rfl
  have e2:wrap64 ((i:Int)+1)=((i+1:Nat):Int):=by rw [fU (by omega) (by omega)];rfl
  have e3:l.take i++[l[i]]=l.take (i+1):=by rw [List.take_succ_eq_append_getElem hlt]
  refine Ev.step (fun k=>by simp only [bD.l1];rw [if_pos (by omega),if_pos (by omega),if_pos (by omega),hrd,Dy hri,Option.bind_some,e1,e2]) ?_
  clear e1 e2
  by_cases hs:n+iy l[i]≥size
  ·
   rw [if_pos hs,e3]
   refine Ev.pos (by omega) (Ev.pos (by omega) (Ev.pos (by omega) ?_))
   rw [Int.toNat_natCast,p_ (by rw [List.length_take];omega)]
   refine Ev.bind (Ev.now _) (Ev.pos (by omega) ?_)
   refine (ih (l.drop (i+1)) (out++[l.take (i+1)]) (by rw [List.length_drop];omega) (fun x hx=>hr x (List.mem_of_mem_drop hx)) (by rw [List.length_append,List.length_drop,List.length_singleton];omega)).to ?_
   rw [List.append_assoc]
   rfl
  ·
   rw [if_neg hs,e3]
   exact Ev.neg (by omega) (ih2 (i+1) (n+iy l[i]) (by omega) (by omega) (by omega))
theorem Cx (size:Nat) (N:Nat):∀ (l:List Cell) (out:List (List Cell)),l.length<N→N≤1000→gj l→out.length+l.length≤1000→Ev (fun k=>bD.l0 k l (size:Int) out) (out++iE size l [] 0,0):=by
 induction N with
 | zero=>intro l out hl;omega
 | succ N ih=>
  intro l out hl hN hr ho
  by_cases h0:l.length=0
  ·
   have:l=[]:=List.eq_nil_of_length_eq_zero h0
   subst this
   refine Ev.step (f:=fun _=>some (out,0)) (fun k=>?_) ((Ev.now _).to (by simp [iE]))
   simp only [bD.l0]
   rw [if_neg (by simp)]
  ·
   refine Ev.step (f:=fun k=>bD.l1 k l (size:Int) out 0 l (l.length:Int) 0) (fun k=>?_) ?_
   ·
    simp only [bD.l0]
    rw [if_pos (by omega)]
   ·
    exact CZ size N (by omega) (fun l' out' h1 h2 h3=>ih l' out' h1 (by omega) h2 h3) l out (by omega) (by omega) hr ho l.length 0 0 (by omega) (by omega) (by omega)
def xN (size:Int) (l:List Cell):List (List Cell) × Int:=if jq l=true∧1≤size then (iE size.toNat l [] 0,0) else ([],1)
theorem xH {l:List Cell} (size:Int) (hl:l.length≤900):Ev (fun k=>bD.f k l size) (xN size l):=by
 have jt:¬ (jq l=true∧1≤size)→Ev (fun k=>bD.j0 k l size true) (xN size l):=fun h=>by
  unfold xN
  rw [if_neg h]
  exact Ev.step (f:=fun _=>some ([],1)) (fun k=>by simp only [bD.j0,if_true]) (Ev.now _)
 unfold bD.f
 refine Ev.bind (lM (by omega)) ?_
 cases hs:jq l with
 | false=>exact Ev.neg Bool.false_ne_true (jt (by rw [hs];simp))
 | true=>
  refine Ev.pos rfl ?_
  by_cases h1:size<1
  ·
   rw [decide_eq_true h1]
   exact jt (by omega)
  ·
   rw [decide_eq_false h1]
   unfold xN
   rw [if_pos ⟨hs,by omega⟩]
   have hr:=(kU.1 hs).1
   obtain ⟨n,rfl⟩:=Int.eq_ofNat_of_zero_le (show 0≤size by omega)
   refine Ev.step (f:=fun k=>bD.l0 k l ((n:Nat):Int) []) (fun k=>by simp only [bD.j0,Bool.false_eq_true,if_false]) ?_
   rw [Int.toNat_natCast]
   have:=Cx n 901 l [] (by omega) (by omega) hr (by simp;omega)
   rw [List.nil_append] at this
   exact this
theorem oU (size:Nat):∀ (l now:List Cell) (n:Nat),(iE size l now n).flatten=now++l
 | [],now,n=>by
  unfold iE
  split
  ·
   rename_i h;simp [h]
  ·
   simp
 | c :: l,now,n=>by
  unfold iE
  split
  ·
   rw [List.flatten_cons,oU size l [] 0];simp
  ·
   rw [oU size l (now++[c])];simp
def gL (b:List Cell):Nat:=(b.map iy).sum
theorem nE (a b:List Cell):gL (a++b)=gL a+gL b:=by simp [gL]
theorem qW (c:Cell):gL [c]=iy c:=by simp [gL]
def OkB (size:Nat) (b:List Cell):Prop:=b≠[]∧∀ k,k<b.length→gL (b.take k)<size
theorem ud (size:Nat) (hs:0<size):∀ (l now:List Cell) (n:Nat),n=gL now→(∀ k,k≤now.length→gL (now.take k)<size)→∀ b ∈ iE size l now n,OkB size b
 | [],now,n,_,hk,b,hb=>by
  unfold iE at hb
  split at hb
  ·
   cases hb
  ·
   rename_i h
   rw [List.mem_singleton] at hb
   subst hb
   exact ⟨h,fun k hlt=>hk k (by omega)⟩
 | c :: l,now,n,hn,hk,b,hb=>by
  have hpre:∀ k,k<(now++[c]).length→gL ((now++[c]).take k)<size:=fun k hlt=>by
   rw [List.length_append,List.length_singleton] at hlt
   rw [List.take_append_of_le_length (by omega)]
   exact hk k (by omega)
  unfold iE at hb
  split at hb
  ·
   rcases List.mem_cons.1 hb with rfl | hb
   ·
    exact ⟨by simp,hpre⟩
   ·
    exact ud size hs l [] 0 rfl (fun k hk0=>by simpa [gL] using hs) b hb
  ·
   rename_i h
   refine ud size hs l (now++[c]) (n+iy c) (by rw [nE,qW,hn]) (fun k hk1=>?_) b hb
   by_cases he:k=(now++[c]).length
   ·
    rw [he,List.take_length,nE,qW,← hn];omega
   ·
    exact hpre k (by omega)
theorem tq (size:Nat):∀ (l now:List Cell) (n:Nat),n=gL now→∀ (i:Nat) (h:i+1<(iE size l now n).length),size≤gL ((iE size l now n)[i]'(by omega))
 | [],now,n,_,i,h=>by
  exfalso
  unfold iE at h
  split at h<;>simp at h
 | c :: l,now,n,hn,i,h=>by
  by_cases hc:n+iy c≥size
  ·
   have e:iE size (c :: l) now n=(now++[c]) :: iE size l [] 0:=by
    conv=>lhs;unfold iE
    rw [if_pos hc]
   cases i with
   | zero=>
    simp only [e,List.getElem_cons_zero]
    rw [nE,qW,← hn]
    exact hc
   | succ i=>
    simp only [e,List.getElem_cons_succ]
    exact tq size l [] 0 rfl i (by rw [e] at h;simpa using h)
  ·
   have e:iE size (c :: l) now n=iE size l (now++[c]) (n+iy c):=by
    conv=>lhs;unfold iE
    rw [if_neg hc]
   simp only [e]
   exact tq size l (now++[c]) (n+iy c) (by rw [nE,qW,hn]) i (by rw [e] at h;exact h)
theorem Ca {x:List (List Cell)} (h:j9 x.flatten):∀ b ∈ x,j9 b:=fun b hb=>
 ⟨fun c hc=>h.1 c (List.mem_flatten.2 ⟨b,hb,hc⟩),(List.pairwise_flatten.1 h.2).1 b hb⟩
theorem Cz {x:Int}:IntKind.u32.wrap x=x % 4294967296:=by
 unfold IntKind.wrap
 simp only [IntKind.signed,IntKind.bits,Bool.false_and,Bool.false_eq_true,if_false]
 rfl
theorem yN (s:ByteArray):(bytesOf s).length=s.size:=by
 have h:=jU (bytesOf s)
 rw [rq] at h
 exact h.symm
theorem q6 {key:ByteArray} {n:Int} (hk:key.size≤100000) (h0:0<n) (h1:n≤4294967295):Ev (fun k=>cL.f k key n) (nF key n):=by
 unfold cL.f
 have hl:=yN key
 have hb:Bytes ([1]++bytesOf key):=Bytes.append (Bytes.cons (by decide) (by decide) Bytes.nil) (n9 _)
 refine Ev.pos (by omega) (Ev.bind (oW (n9 key) (by omega)) (Ev.bind (oW hb (by simp only [List.length_append,List.length_cons,List.length_nil];omega)) ?_))
 have hw:IntKind.u32.wrap n=n:=by rw [Cz];omega
 rw [hw]
 refine Ev.neg (by omega) ?_
 obtain ⟨a0,a1⟩:=ku (bytesOf key)
 obtain ⟨b0,b1⟩:=ku ([1]++bytesOf key)
 unfold nF
 generalize fS (bytesOf key)=a at a0 a1 ⊢
 generalize fS ([1]++bytesOf key)=b at b0 b1 ⊢
 have e:cL.outs a b n 3=[a % n,(a+b) % 4294967296 % n,(a+2*b) % 4294967296 % n]:=by
  have hq:∀ x:Int,0≤x→x<4294967296→wrap64 (Int.tmod x n)=x % n:=fun x hx0 hx1=>by
   rw [Int.tmod_eq_emod_of_nonneg hx0]
   have h2:=Int.emod_nonneg x (show n≠0 by omega)
   have h3:=Int.emod_lt_of_pos x h0
   exact fU (by omega) (by omega)
  have e0:cL.acc a b 0=a:=rfl
  have e1:cL.acc a b 1=(a+b) % 4294967296:=by show IntKind.u32.wrap (a+b)=_;rw [Cz]
  have e2:cL.acc a b 2=(a+2*b) % 4294967296:=by
   show IntKind.u32.wrap (cL.acc a b 1+b)=_
   rw [e1,Cz]
   omega
  show (([]++[wrap64 (Int.tmod (cL.acc a b 0) n)])++[wrap64 (Int.tmod (cL.acc a b 1) n)])++[wrap64 (Int.tmod (cL.acc a b 2) n)]=_
  rw [e0,e1,e2,hq a a0 (by omega),hq _ (Int.emod_nonneg _ (by omega)) (Int.emod_lt_of_pos _ (by omega)),hq _ (Int.emod_nonneg _ (by omega)) (Int.emod_lt_of_pos _ (by omega))]
  rfl
 rw [e]
 exact Ev.now _
theorem wU (f:List Int) (i:Int):(mT f i).length=f.length:=by unfold mT;rw [List.length_set]
theorem Cr {x:Int} {n:Nat} (x0:0≤x) (x1:x<8*(n:Int)) (hn:n≤100000):wrap64 (Int.tdiv x 8)=x / 8∧Int.tmod x 8=x % 8∧0≤x / 8∧x / 8<(n:Int)∧0≤x % 8∧(x / 8).toNat<n∧(x % 8).toNat<8:=by
 have h1:0≤x / 8∧x / 8<(n:Int)∧0≤x % 8∧(x / 8).toNat<n∧(x % 8).toNat<8∧x / 8<1000000:=by omega
 refine ⟨?_,Int.tmod_eq_emod_of_nonneg x0,h1.1,h1.2.1,h1.2.2.1,h1.2.2.2.1,h1.2.2.2.2.1⟩
 rw [Int.tdiv_eq_ediv_of_nonneg x0]
 obtain ⟨h2,-,-,-,-,h3⟩:=h1
 generalize x / 8=y at h2 h3 ⊢
 exact fU (by omega) (by omega)
theorem Eh (keys:List ByteArray) (len q:Int) (bs:List Int) (r:List Int) (d:Nat):∀ (i:Nat) (f:List Int),i≤bs.length→bs.length≤1000→f.length≤100000→(∀ x ∈ bs,0≤x∧x<8*(f.length:Int))→bs.length - i=d→
  Ev (fun k=>bG.l0 k ((bs.drop i).foldl mT f) keys len (wrap64 (q+1))) r→Ev (fun k=>bG.l1 k f keys len q bs (bs.length:Int) (i:Int)) r:=by
 induction d with
 | zero=>
  intro i f hi hb hf hx hd hk
  rw [List.drop_eq_nil_of_le (by omega),List.foldl_nil] at hk
  exact Ev.step (fun k=>by simp only [bG.l1];rw [if_neg (by omega)]) hk
 | succ d ih=>
  intro i f hi hb hf hx hd hk
  have hlt:i<bs.length:=by omega
  have q1:(i:Int)<(bs.length:Int):=by omega
  have q2:(0:Int)≤(i:Int):=by omega
  have hr:rd bs (i:Int)=bs[i]:=by unfold rd;rw [Int.toNat_natCast,List.getD_eq_getElem?_getD,List.getElem?_eq_getElem hlt];rfl
  obtain ⟨x0,x1⟩:=hx _ (List.getElem_mem hlt)
  obtain ⟨e1,e2,p1,p2,p3,p4,p5⟩:=Cr x0 x1 hf
  have e3:wrap64 ((i:Int)+1)=((i+1:Nat):Int):=by rw [fU (by omega) (by omega)];rfl
  have hstep:∀ k,bG.l1 (k+1) f keys len q bs (bs.length:Int) (i:Int)=bG.l1 k (mT f bs[i]) keys len q bs (bs.length:Int) ((i+1:Nat):Int):=fun k=>by
   simp only [bG.l1]
   rw [if_pos q1,if_pos q2,if_pos q1,hr,e1,e2,if_pos p1,if_pos p2,if_pos p3,e3]
   unfold mT
   with_reducible rfl
  have hl:=wU f bs[i]
  rw [List.drop_eq_getElem_cons hlt,List.foldl_cons] at hk
  have hx':∀ x ∈ bs,0≤x∧x<8*((mT f bs[i]).length:Int):=by rw [hl];exact hx
  have hf':(mT f bs[i]).length≤100000:=by rw [hl];exact hf
  clear hx hf hr e1 e2 p1 p2 p3 p4 p5 x0 x1 hl
  generalize mT f bs[i]=f2 at hstep hk hx' hf'
  exact Ev.step hstep (ih (i+1) f2 hlt hb hf' hx' (by omega) hk)
theorem DU (keys:List ByteArray) (m:Nat) (hm:m≤100000) (hm0:0<m) (hk:∀ x ∈ keys,x.size≤100000) (hl:keys.length≤100000) (d:Nat):∀ (i:Nat) (s:List Bool),i≤keys.length→s.length=8*m→keys.length - i=d→
  Ev (fun k=>bG.l0 k (iI s m) keys (keys.length:Int) (i:Int)) (iI (yh (8*(m:Int)) s (keys.drop i)) m):=by
 induction d with
 | zero=>
  intro i s hi hs hd
  rw [List.drop_eq_nil_of_le (by omega)]
  exact Ev.step (f:=fun _=>some (iI s m)) (fun k=>by simp only [bG.l0];rw [if_neg (by omega)]) (Ev.now _)
 | succ d ih=>
  intro i s hi hs hd
  have hlt:i<keys.length:=by omega
  have hr:mo ByteArray.empty keys (i:Int)=keys[i]:=by unfold mo;rw [Int.toNat_natCast,List.getD_eq_getElem?_getD,List.getElem?_eq_getElem hlt];rfl
  have hbl:=iQ s m
  have e1:wrap64 (8*((iI s m).length:Int))=8*(m:Int):=by rw [hbl,fU (by omega) (by omega)]
  have e3:wrap64 ((i:Int)+1)=((i+1:Nat):Int):=by rw [fU (by omega) (by omega)];rfl
  refine Ev.step (fun k=>by simp only [bG.l0];rw [if_pos (by omega),if_pos (by omega),if_pos (by omega),hr,e1]) (Ev.bind (q6 (hk _ (List.getElem_mem hlt)) (by omega) (by omega)) ?_)
  refine Eh keys _ _ _ _ _ 0 (iI s m) (Nat.zero_le _) (by simp [nF]) (by rw [hbl];exact hm) (by rw [hbl];exact qU (by omega)) rfl ?_
  rw [List.drop_zero,e3]
  have hfold:∀ (l:List Int) (s:List Bool),s.length=8*m→(∀ x ∈ l,0≤x∧x<8*(m:Int))→l.foldl mT (iI s m)=iI (l.foldl jW s) m:=by
   intro l
   induction l with
   | nil=>intro s _ _;rfl
   | cons x l ihl=>
    intro s hs hx
    obtain ⟨x0,x1⟩:=hx x List.mem_cons_self
    rw [List.foldl_cons,List.foldl_cons,yU s m hs x x0 x1]
    exact ihl _ (by unfold jW;rw [List.length_set];exact hs) (fun y hy=>hx y (List.mem_cons_of_mem _ hy))
  rw [hfold _ s hs (qU (by omega)),List.drop_eq_getElem_cons hlt]
  exact ih (i+1) _ (by omega) (by rw [mw];exact hs) (by omega)
theorem yH (m:Nat):List.replicate m (0:Int)=iI (List.replicate (8*m) false) m:=by
 apply List.ext_getElem
 ·
  rw [List.length_replicate,iQ]
 ·
  intro j h1 h2
  rw [List.length_replicate] at h1
  rw [List.getElem_replicate,nP _ h1]
  have hf:∀ q:Nat,(List.replicate (8*m) false).getD q false=false:=fun q=>by
   rw [List.getD_eq_getElem?_getD,List.getElem?_replicate]
   split<;>rfl
  unfold byteOf
  simp only [hf]
  decide
theorem wg {keys:List ByteArray} (hk:∀ x ∈ keys,x.size≤100000) (hl:keys.length≤100000):Ev (fun k=>bG.f k keys) (sB keys):=by
 unfold bG.f
 have hz:mx 1 (wrap64 (Int.tdiv (wrap64 ((keys.length:Int)*8)) 8))=(jv keys:Int):=by
  rw [fU (x:=(keys.length:Int)*8) (by omega) (by omega),Int.tdiv_eq_ediv_of_nonneg (by omega),fU (by omega) (by omega)]
  unfold mx jv
  split<;>omega
 rw [hz]
 have hs1:jv keys≤100000:=by unfold jv;omega
 have hs0:0<jv keys:=by unfold jv;omega
 refine Ev.pos (by omega) (Ev.pos (by omega) ?_)
 rw [Int.toNat_natCast,yH]
 exact DU keys (jv keys) hs1 hs0 hk hl keys.length 0 _ (Nat.zero_le _) (by rw [List.length_replicate]) rfl
theorem Eo (f:List Int) (hf:f.length≤100000) (hb:Bytes f) (bs:List Int) (hx:∀ x ∈ bs,0≤x∧x<8*(f.length:Int)) (hl:bs.length≤1000) (d:Nat):∀ i:Nat,i≤bs.length→bs.length - i=d→
  Ev (fun k=>dO.l0 k f bs (bs.length:Int) (i:Int)) (hasB f (bs.drop i)):=by
 induction d with
 | zero=>
  intro i hi hd
  rw [List.drop_eq_nil_of_le (by omega)]
  exact Ev.step (f:=fun _=>some true) (fun k=>by simp only [dO.l0];rw [if_neg (by omega)]) (Ev.now _)
 | succ d ih=>
  intro i hi hd
  have hlt:i<bs.length:=by omega
  have q1:(i:Int)<(bs.length:Int):=by omega
  have q2:(0:Int)≤(i:Int):=by omega
  have hr:rd bs (i:Int)=bs[i]:=by unfold rd;rw [Int.toNat_natCast,List.getD_eq_getElem?_getD,List.getElem?_eq_getElem hlt];rfl
  obtain ⟨x0,x1⟩:=hx _ (List.getElem_mem hlt)
  obtain ⟨e1,e2,p1,p2,p3,p4,p5⟩:=Cr x0 x1 hf
  have e3:wrap64 ((i:Int)+1)=((i+1:Nat):Int):=by rw [fU (by omega) (by omega)];rfl
  refine Ev.step (fun k=>by simp only [dO.l0];rw [if_pos q1,if_pos q2,if_pos q1,hr,e1,e2,if_pos p1,if_pos p2,if_pos p3,e3]) ?_
  have hq:rd f (bs[i] / 8)=f[(bs[i] / 8).toNat]'p4:=by
   unfold rd
   rw [List.getD_eq_getElem?_getD,List.getElem?_eq_getElem p4]
   rfl
  obtain ⟨v0,v1⟩:=hb _ (List.getElem_mem p4)
  rw [←hq] at v0 v1
  have v2:(rd f (bs[i] / 8)).toNat<256:=by generalize rd f (bs[i] / 8)=v at v0 v1 ⊢;omega
  have ht:=Db ⟨(rd f (bs[i] / 8)).toNat,v2⟩ ⟨(bs[i] % 8).toNat,p5⟩
  simp only [Int.toNat_of_nonneg v0,Int.toNat_of_nonneg (Int.emod_nonneg bs[i] (show (8:Int)≠0 by decide))] at ht
  have ht2:=decide_eq_decide.1 ht
  rw [List.drop_eq_getElem_cons hlt]
  unfold hasB
  rw [List.all_cons]
  by_cases hc:(rd f (bs[i] / 8) / 2 ^ (bs[i] % 8).toNat) % 2=0
  ·
   rw [decide_eq_false (fun h=>h hc),Bool.false_and]
   exact Ev.pos (ht2.2 hc) (Ev.now _)
  ·
   have hc':=fun h=>hc (ht2.1 h)
   rw [decide_eq_true hc,Bool.true_and]
   clear hc ht ht2 v0 v1 v2 hq e1 e2 p1 p2 p3 p4 p5 x0 x1 hr
   exact Ev.neg hc' (ih (i+1) (by omega) (by omega))
theorem wZ {f:List Int} {key:ByteArray} (hf:f.length≤100000) (hb:Bytes f) (hk:key.size≤100000):Ev (fun k=>dO.f k f key) (sV f key):=by
 unfold dO.f sV
 by_cases h0:f.length=0
 ·
  rw [if_pos h0]
  exact Ev.pos (by omega) (Ev.now _)
 ·
  rw [if_neg h0]
  have e1:wrap64 (8*(f.length:Int))=8*(f.length:Int):=fU (by omega) (by omega)
  rw [e1]
  refine Ev.neg (by omega) (Ev.bind (q6 hk (by omega) (by omega)) ?_)
  have:=Eo f hf hb (nF key (8*(f.length:Int))) (qU (by omega)) (by simp [nF]) _ 0 (Nat.zero_le _) rfl
  rwa [List.drop_zero] at this
theorem ru {r c:ByteArray} (hr:r.size≤1000000) (hc:c.size≤1000000):fB.f r c=some (rJ r c):=by
 unfold fB.f
 rw [kf (by omega),kf (by omega)]
 simp only [Option.bind_some]
 have h1:=fo r
 have h2:=fo c
 rw [if_pos (by rw [jU,jU];omega)]
 rfl
theorem yM {l:List Cell} (hr:gj l):∀ x ∈ mG l,x.size≤100000:=by
 intro x hx
 obtain ⟨c,hc,rfl⟩:=List.mem_map.1 hx
 obtain ⟨_,h1,_,h2,_⟩:=gM.1 (hr c hc)
 have:=vB c.f0 c.f1
 omega
theorem Bk (l:List Cell) (hr:gj l) (hl:l.length≤10000) (d:Nat):∀ i:Nat,i≤l.length→l.length - i=d→Ev (fun k=>cM.l0 k (mG (l.take i)) l (l.length:Int) (i:Int)) (eO l):=by
 induction d with
 | zero=>
  intro i hi hd
  rw [List.take_of_length_le (by omega)]
  refine Ev.step (fun k=>by simp only [cM.l0];rw [if_neg (by omega)]) ?_
  exact Ev.bind (wg (yM hr) (by unfold mG;rw [List.length_map];omega)) (Ev.now _)
 | succ d ih=>
  intro i hi hd
  have hlt:i<l.length:=by omega
  have q1:(i:Int)<(l.length:Int):=by omega
  have q2:(0:Int)≤(i:Int):=by omega
  have hrd:=gY l i hlt
  unfold mS at hrd
  obtain ⟨_,z1,_,z2,_⟩:=gM.1 (hr _ (List.getElem_mem hlt))
  have hlen:(mG (l.take i)).length<8796093022208:=by unfold mG;rw [List.length_map,List.length_take];omega
  have hih:=ih (i+1) (by omega) (by omega)
  have hsz1:l[i].f0.size≤1000000:=by omega
  have hsz2:l[i].f1.size≤1000000:=by omega
  have e3:wrap64 ((i:Int)+1)=((i+1:Nat):Int):=by rw [fU (by omega) (by omega)];rfl
  have e4:mG (l.take i)++[rJ l[i].f0 l[i].f1]=mG (l.take (i+1)):=by
   unfold mG
   rw [List.take_succ_eq_append_getElem hlt,List.map_append]
   rfl
  refine Ev.step (f:=fun k=>cM.l0 k (mG (l.take (i+1))) l (l.length:Int) ((i+1:Nat):Int)) (fun k=>?_) hih
  simp only [cM.l0]
  rw [if_pos q1,if_pos q2,if_pos q1,hrd,ru hsz1 hsz2,Option.bind_some,if_pos hlen,e3,e4]
theorem o8 {l:List Cell} (hr:gj l) (hl:l.length≤10000):Ev (fun k=>cM.f k l) (eO l):=by
 unfold cM.f
 exact Bk l hr hl l.length 0 (Nat.zero_le _) rfl
theorem uy (bs:List (List Cell)) (i:Nat) (h:i<bs.length):aQ bs (i:Int)=bs[i]:=by
 show bs.getD (i:Int).toNat _=_
 rw [Int.toNat_natCast,List.getD_eq_getElem?_getD,List.getElem?_eq_getElem h]
 rfl
theorem DX {b:List Cell} (h:jo b):Ev (fun k=>cJ.f k b) (frame (iH b),0):=by
 exact vW h.1 (fun he=>h.2.1 (List.eq_nil_of_length_eq_zero he)) h.2.2.1 h.2.2.2
theorem CH (bs:List (List Cell)) (fl:List Int) (hok:∀ b ∈ bs,jo b) (hb:bs.length≤421) (hf:fl.length≤1000) (d:Nat):∀ (i:Nat) (all foot:List Int),i≤bs.length→bs.length - i=d→all.length≤60166*i→foot.length≤4+149*i→Bytes foot→
  Ev (fun k=>cU.l0 k fl all foot bs (bs.length:Int) (i:Int)) (all++jI (bs.drop i),frame (foot++(l_ all.length (bs.drop i)++text (strOfNums fl))),0):=by
 induction d with
 | zero=>
  intro i all foot hi hd ha hfo hby
  rw [List.drop_eq_nil_of_le (by omega)]
  have h3:=fo (strOfNums fl)
  rw [jU] at h3
  have h4:(foot++text (strOfNums fl)).length≤65535:=by rw [List.length_append];omega
  have hp:=si (hby.append (mR (strOfNums fl))) (by omega)
  rw [if_neg (by omega)] at hp
  refine Ev.step (fun k=>by simp only [cU.l0];rw [if_neg (by omega),kf (by rw [jU];omega),Option.bind_some,if_pos (by omega)]) (Ev.bind hp (Ev.neg (xI h4) ?_))
  exact (Ev.now _).to (by simp [jI,l_])
 | succ d ih=>
  intro i all foot hi hd ha hfo hby
  have hlt:i<bs.length:=by omega
  have q1:(i:Int)<(bs.length:Int):=by omega
  have q2:(0:Int)≤(i:Int):=by omega
  have hB:=hok _ (List.getElem_mem hlt)
  have hrd:=uy bs i hlt
  have e3:wrap64 ((i:Int)+1)=((i+1:Nat):Int):=by rw [fU (by omega) (by omega)];rfl
  have hfr:=wQ hB
  have hkb:=zm hB
  have hnl:=eY all.length
  rw [List.drop_eq_getElem_cons hlt,nT]
  obtain ⟨b,hbe⟩:∃ b,bs[i]=b:=⟨_,rfl⟩
  rw [hbe] at hB hrd hfr hkb ⊢
  cases b with
  | nil=>exact absurd rfl hB.2.1
  | cons c b=>
   obtain ⟨_,z1,_,z2,_⟩:=gM.1 (hB.1.1 c List.mem_cons_self)
   have hcp:dn.f c.f0 c.f1 c.f2 ⟨#[]⟩ false=some (qJ (c :: b)):=nI c.f2 false (by omega) (by omega) (by decide)
   have hcc:cw.f [foot,qJ (c :: b),num all.length]=some (foot++qJ (c :: b)++num all.length):=by
    rw [nW (by simp only [fL,List.map_cons,List.map_nil,List.sum_cons,List.sum_nil];omega)]
    simp
   have hput:=DX hB
   have e5:l_ all.length ((c :: b) :: bs.drop (i+1))=qJ (c :: b)++(num all.length++l_ (all.length+(frame (iH (c :: b))).length) (bs.drop (i+1))):=rfl
   rw [e5]
   have hbF:0<((c :: b).length:Int):=by simp only [List.length_cons];omega
   have hk0:af (c :: b) 0=c:=rfl
   generalize frame (iH (c :: b))=F at hput hfr ⊢
   have hkb2:=tX (c :: b)
   generalize qJ (c :: b)=K at hkb hcp hcc hkb2 ⊢
   have hkey:nS.f c.f0 c.f1 c.f2 c.f3 c.f4=some (c.f0,c.f1,c.f2,⟨#[]⟩,false):=rfl
   have hal:all.length+F.length<140737488355328:=by omega
   have hstep:Ev (fun k=>cU.l0 k fl (all++F) (foot++K++num all.length) bs (bs.length:Int) ((i+1:Nat):Int)) (all++(F++jI (bs.drop (i+1))),frame (foot++(K++(num all.length++l_ (all.length+F.length) (bs.drop (i+1)))++text (strOfNums fl))),0):=by
    refine (ih (i+1) (all++F) (foot++K++num all.length) (by omega) (by omega) (by rw [List.length_append];omega) (by simp only [List.length_append];omega) ((hby.append hkb2).append (ij _))).to ?_
    rw [List.length_append]
    simp only [List.append_assoc]
   refine Ev.step (f:=fun k=>(cJ.f k (c :: b)).bind fun bt=>if bt.2=0 then (if all.length+bt.1.length<140737488355328 then cU.l0 k fl (all++bt.1) (foot++K++num all.length) bs (bs.length:Int) ((i+1:Nat):Int) else none) else some ([],[],bt.2)) (fun k=>?_) (Ev.bind hput (Ev.pos rfl (Ev.pos hal hstep)))
   simp only [cU.l0]
   rw [if_pos q1,if_pos q2,if_pos q1,hrd,e3]
   simp only [if_pos hbF,hk0,hkey,hcp,hcc,jw,Option.bind_some]
theorem Dd {bs:List (List Cell)} {fl:List Int} (hok:∀ b ∈ bs,jo b) (hb:bs.length≤421) (hf:fl.length≤1000):Ev (fun k=>cU.f k bs fl) (jI bs,frame (jb bs fl),0):=by
 unfold cU.f
 have hn:=eY bs.length
 refine Ev.bind (Ev.eq (jw _)) ?_
 have:=CH bs fl hok hb hf bs.length 0 [] (num bs.length) (Nat.zero_le _) rfl (by simp) (by omega) (ij _)
 rw [List.drop_zero,List.nil_append] at this
 exact this
theorem xj {bs:List (List Cell)} {fl:List Int} (hok:∀ b ∈ bs,jo b) (hb:bs.length≤421) (hf:fl.length≤1000):Ev (fun k=>fD.f k bs fl) (iB bs fl,0):=by
 unfold fD.f
 have h1:=sy bs hok
 have h2:=tJ hok hb hf
 have h3:=jB (r:=jb bs fl) (by omega)
 have h4:=eY (frame (jb bs fl)).length
 refine Ev.bind (Dd hok hb hf) (Ev.pos rfl (Ev.bind (Ev.eq (jw _)) (Ev.bind (Ev.eq (nW ?_)) ?_)))
 ·
  show fL [jI bs,frame (jb bs fl),num (frame (jb bs fl)).length]≤_
  simp only [fL,List.map_cons,List.map_nil,List.sum_cons,List.sum_nil]
  omega
 ·
  exact (Ev.now _).to (by simp [iB])
theorem qq {b:List Cell}:∀ {x:List (List Cell)},b ∈ x→b.length≤x.flatten.length
 | [],h=>by cases h
 | a :: x,h=>by
  rw [List.flatten_cons,List.length_append]
  rcases List.mem_cons.1 h with rfl | h
  ·
   omega
  ·
   have:=qq h
   omega
theorem Fh {W:Nat}:∀ l:List Cell,(∀ c ∈ l,(jr c).length≤W)→(iH l).length≤4+W*l.length:=fun l h=>by
 have hf:∀ l:List Cell,(∀ c ∈ l,(jr c).length≤W)→(l.map jr).flatten.length≤W*l.length:=fun l=>by
  induction l with
  | nil=>exact fun _=>Nat.zero_le _
  | cons c l ih=>
   intro h
   have h1:=h c List.mem_cons_self
   have h2:=ih (fun x hx=>h x (List.mem_cons_of_mem _ hx))
   rw [List.map_cons,List.flatten_cons,List.length_append,List.length_cons,Nat.mul_succ]
   omega
 have h1:=hf l h
 have h2:=eY l.length
 unfold iH
 rw [List.length_append]
 omega
theorem tC {W:Nat} {l:List Cell} (h:j9 l) (hl:l.length≤420) (hw:∀ c ∈ l,(jr c).length≤W) (hW:W*l.length≤60150) {size:Nat} (hs:0<size):∀ b ∈ iE size l [] 0,jo b:=by
 intro b hb
 have hfl:=oU size l [] 0
 rw [List.nil_append] at hfl
 have hp:=Ca (x:=iE size l [] 0) (by rw [hfl];exact h) b hb
 refine ⟨hp,(ud size hs l [] 0 rfl (fun k hk=>by
  have:k=0:=by simpa using hk
  subst this
  simpa [gL] using hs) b hb).1,?_⟩
 have hlen:b.length≤(iE size l [] 0).flatten.length:=by
  exact qq hb
 rw [hfl] at hlen
 have hb2:=Fh (W:=W) b (fun c hc=>hw c (by rw [←hfl];exact List.mem_flatten.2 ⟨b,hb,hc⟩))
 have:=Nat.mul_le_mul_left W hlen
 exact ⟨by omega,by omega⟩
def wM (size:Int) (l:List Cell):List Int × Int:=if jq l=true∧1≤size then (iB (iE size.toNat l [] 0) (eO l),0) else ([],1)
theorem ur {W:Nat} {l:List Cell} (size:Int) (hl:l.length≤420) (hw:∀ c ∈ l,(jr c).length≤W) (hW:W*l.length≤60150):Ev (fun k=>gX.f k l size) (wM size l):=by
 unfold gX.f wM
 refine Ev.bind (xH size (by omega)) ?_
 unfold xN
 by_cases h:jq l=true∧1≤size
 ·
  rw [if_pos h,if_pos h]
  have hs:=kU.1 h.1
  have hg:=mP size.toNat l [] 0
  refine Ev.pos rfl (Ev.bind (o8 hs.1 (by omega)) (Ev.bind (xj (bs:=iE size.toNat l [] 0) (fl:=eO l) (tC hs hl hw hW (by omega)) (by omega) (by rw [lJ];omega)) (Ev.now _)))
 ·
  rw [if_neg h,if_neg h]
  exact Ev.neg (by decide) (Ev.now _)
theorem Em {l:List Cell} {r c:ByteArray} (hl:l.length≤10000) (hr:r.size≤10000) (hc:c.size≤10000):Ev (fun k=>eX.f k (eO l) r c) (sV (eO l) (rJ r c)):=by
 unfold eX.f
 have hk:=vB r c
 have hf:=lJ l
 exact Ev.bind (Ev.eq (ru (by omega) (by omega))) (wZ (by omega) (wk l) (by omega))
theorem EU {l:List Cell} {x:Cell} (h:x ∈ l):sV (eO l) (rJ x.f0 x.f1)=true:=B0 (List.mem_map.2 ⟨x,h,rfl⟩)
def dR (t:Cell):List Cell→Nat
 | []=>0
 | x :: l=>if cc x t = -1 then dR t l+1 else 0
theorem pU (t:Cell):∀ l:List Cell,dR t l≤l.length
 | []=>Nat.le_refl _
 | x :: l=>by
  have:=pU t l
  unfold dR
  split<;>simp only [List.length_cons]<;>omega
theorem rL (t:Cell):∀ (l:List Cell) (i:Nat),i≤l.length→(∀ j (_:j<i) (hl:j<l.length),cc l[j] t = -1)→(∀ h:i<l.length,¬ cc l[i] t = -1)→dR t l=i
 | [],i,hi,_,_=>by simp at hi;simp [dR,hi]
 | x :: l,0,_,_,h2=>by
  have:=h2 (by simp)
  simp only [List.getElem_cons_zero] at this
  unfold dR
  rw [if_neg this]
 | x :: l,i+1,hi,h1,h2=>by
  have hx:=h1 0 (by omega) (by simp)
  simp only [List.getElem_cons_zero] at hx
  unfold dR
  rw [if_pos hx,rL t l i (by simpa using hi) (fun j hj hl=>by have:=h1 (j+1) (by omega) (by simpa using hl);simpa using this) (fun hl=>by have:=h2 (by simpa using hl);simpa using this)]
def zM (r c:ByteArray) (t:Int) (x:Cell):Bool:=decide (x.f0=r∧x.f1=c∧x.f2≤t)
theorem mE {r c:ByteArray} {t:Int} {x:Cell}:zM r c t x=true↔x.f0=r∧x.f1=c∧x.f2≤t:=decide_eq_true_iff
def kE (r c:ByteArray) (t:Int) (l:List Cell):Option Cell:=l.find? (zM r c t)
def fV (r c:ByteArray) (t:Int):Cell:=⟨r,c,t,⟨#[]⟩,false⟩
theorem sA {x y:Cell} (h1:x.f0=y.f0) (h2:x.f1=y.f1):cc x y=kV y.f2 x.f2:=by
 unfold cc kz
 rw [if_pos (iO.2 h1),if_pos (iO.2 h2)]
theorem qu {a b:Int}:kV a b = -1↔a<b:=by
 unfold kV
 split
 ·
  simp [*]
 ·
  split<;>simp<;>omega
theorem yq {x y z:Cell} (h1:y.f0=z.f0) (h2:y.f1=z.f1) (h:¬ (x.f0=y.f0∧x.f1=y.f1)):cc x y=cc x z:=by
 unfold cc kz
 rw [←h1,← h2]
 by_cases e1:gR x.f0 y.f0=0
 ·
  rw [if_pos e1]
  by_cases e2:gR x.f1 y.f1=0
  ·
   exact absurd ⟨iO.1 e1,iO.1 e2⟩ h
  ·
   rw [if_neg e2,if_pos e1,if_neg e2]
 ·
  rw [if_neg e1,if_neg e1]
theorem xG (r c:ByteArray) (t:Int):∀ {l:List Cell},fP l→kE r c t l=if h:dR (fV r c t) l<l.length then (if l[dR (fV r c t) l].f0=r∧l[dR (fV r c t) l].f1=c then some l[dR (fV r c t) l] else none) else none
 | [],_=>by simp [kE]
 | x :: l,h=>by
  obtain ⟨h1,h2⟩:=List.pairwise_cons.1 h
  by_cases hx:cc x (fV r c t) = -1
  ·
   have hn:zM r c t x=false:=by
    cases ho:zM r c t x with
    | false=>rfl
    | true=>
     obtain ⟨e1,e2,e3⟩:=mE.1 ho
     rw [sA (y:=fV r c t) e1 e2,qu] at hx
     have:(fV r c t).f2=t:=rfl
     omega
   unfold kE
   rw [List.find?_cons_of_neg (by simp [hn])]
   have ih:=xG r c t h2
   unfold kE at ih
   rw [ih]
   simp only [dR,if_pos hx,List.length_cons,Nat.add_lt_add_iff_right,List.getElem_cons_succ]
  ·
   simp only [dR,if_neg hx,List.length_cons,Nat.zero_lt_succ,dif_pos,List.getElem_cons_zero]
   by_cases hk:x.f0=r∧x.f1=c
   ·
    rw [if_pos hk]
    rw [sA (y:=fV r c t) hk.1 hk.2,qu] at hx
    have:(fV r c t).f2=t:=rfl
    exact List.find?_cons_of_pos (mE.2 ⟨hk.1,hk.2,by omega⟩)
   ·
    rw [if_neg hk]
    refine List.find?_eq_none.2 fun y hy=>?_
    rcases List.mem_cons.1 hy with rfl | hy
    ·
     intro ho
     obtain ⟨e1,e2,_⟩:=mE.1 ho
     exact hk ⟨e1,e2⟩
    ·
     intro ho
     obtain ⟨e1,e2,_⟩:=mE.1 ho
     have hxy:=h1 y hy
     rw [yq (y:=y) (z:=fV r c t) e1 e2 (by rw [e1,e2];exact hk)] at hxy
     exact hx hxy
def qQ:Option Cell→ByteArray × ByteArray × Int × ByteArray × Bool × Bool
 | none=>(⟨#[]⟩,⟨#[]⟩,0,⟨#[]⟩,false,false)
 | some c=>(c.f0,c.f1,c.f2,c.f3,c.f4,true)
theorem Ei {x:Int} (h0:0≤x) (h1:x<18446744073709551616):IntKind.u64.wrap x=x:=by
 unfold IntKind.wrap
 simp only [IntKind.signed,IntKind.bits,Bool.false_and,Bool.false_eq_true,if_false]
 omega
theorem DQ (l:List Cell) (t:Cell) (ho:fP l) (hn:l.length≤2199023255552) (d:Nat):∀ lo hi:Nat,hi - lo≤d→lo≤hi→hi≤l.length→(∀ j (_:j<lo) (hl:j<l.length),cc l[j] t = -1)→(∀ j (_:hi≤j) (hl:j<l.length),¬ cc l[j] t = -1)→
  Ev (fun k=>bB.l0 k l (l.length:Int) (lo:Int) (hi:Int) t.f0 t.f1 t.f2 t.f3 t.f4) ((dR t l:Int),if h:dR t l<l.length then cc l[dR t l] t == 0 else false):=by
 induction d with
 | zero=>
  intro lo hi hd h1 h2 h3 h4
  have:lo=hi:=by omega
  subst this
  have hp:=rL t l lo h2 h3 (fun h=>h4 lo (by omega) h)
  rw [hp]
  by_cases hl:lo<l.length
  ·
   have hr:=gY l lo hl
   unfold mS at hr
   rw [dif_pos hl]
   refine Ev.step (fun k=>by simp only [bB.l0];rw [if_neg (by omega),if_pos (by omega),if_pos (by omega),if_pos (by omega),hr]) (Ev.bind (mX _ _) (Ev.now _))
  ·
   rw [dif_neg hl]
   exact Ev.step (f:=fun _=>some ((lo:Int),false)) (fun k=>by simp only [bB.l0];rw [if_neg (by omega),if_neg (by omega)]) (Ev.now _)
 | succ d ih=>
  intro lo hi hd h1 h2 h3 h4
  by_cases hlt:lo<hi
  ·
   have hm:wrap64 (IntKind.u64.wrap (wrap64 ((lo:Int)+(hi:Int))) / 2)=(((lo+hi) / 2:Nat):Int):=by
    rw [fU (x:=(lo:Int)+(hi:Int)) (by omega) (by omega),Ei (by omega) (by omega),fU (by omega) (by omega)]
    omega
   have hml:(lo+hi) / 2<l.length:=by omega
   have hr:=gY l ((lo+hi) / 2) hml
   unfold mS at hr
   refine Ev.step (fun k=>by simp only [bB.l0];rw [if_pos (by omega),hm,if_pos (by omega),if_pos (by omega),hr]) (Ev.bind (mX _ _) ?_)
   have hin:=sq l[(lo+hi) / 2] t
   by_cases hc:cc l[(lo+hi) / 2] t = -1
   ·
    refine Ev.pos (by omega) ?_
    rw [fU (by omega) (by omega)]
    refine ih ((lo+hi) / 2+1) hi (by omega) (by omega) h2 (fun j hj hl=>?_) h4
    by_cases hjm:j=(lo+hi) / 2
    ·
     subst hjm;exact hc
    ·
     exact jA (List.pairwise_iff_getElem.1 ho j ((lo+hi) / 2) hl hml (by omega)) hc
   ·
    refine Ev.neg (by omega) (ih lo ((lo+hi) / 2) (by omega) (by omega) (by omega) h3 (fun j hj hl=>?_))
    by_cases hjm:j=(lo+hi) / 2
    ·
     subst hjm;exact hc
    ·
     exact fun hjt=>hc (jA (List.pairwise_iff_getElem.1 ho ((lo+hi) / 2) j hml hl (by omega)) hjt)
  ·
   exact ih lo hi (by omega) h1 h2 h3 h4
theorem vp {l:List Cell} (t:Cell) (ho:fP l) (hn:l.length≤2199023255552):Ev (fun k=>bB.f k l t.f0 t.f1 t.f2 t.f3 t.f4) ((dR t l:Int),if h:dR t l<l.length then cc l[dR t l] t == 0 else false):=by
 unfold bB.f
 exact DQ l t ho hn l.length 0 l.length (by omega) (by omega) (by omega) (fun j hj=>by omega) (fun j hj hl=>by omega)
theorem qi {l:List Cell} (r c:ByteArray) (t:Int) (ho:fP l) (hn:l.length≤1000000000):Ev (fun k=>cE.f k l r c t) (qQ (kE r c t l)):=by
 have jt:Ev (fun k=>cE.j0 k l (dR (fV r c t) l) true) (qQ none):=Ev.step (f:=fun _=>some (qQ none)) (fun k=>by simp only [cE.j0,if_true];rfl) (Ev.now _)
 rw [xG r c t ho]
 unfold cE.f
 by_cases hp:dR (fV r c t) l<l.length
 ·
  rw [dif_pos hp]
  refine Ev.bind (vp (fV r c t) ho (by omega)) ?_
  have hr:=gY l _ hp
  unfold mS at hr
  have jf:Ev (fun k=>cE.j0 k l (dR (fV r c t) l) false) (qQ (some l[dR (fV r c t) l])):=Ev.step (f:=fun _=>some (qQ (some l[dR (fV r c t) l]))) (fun k=>by simp only [cE.j0,Bool.false_eq_true,if_false];rw [if_pos (by omega),if_pos (by omega),hr];rfl) (Ev.now _)
  simp only
  rw [hr]
  refine Ev.neg (by omega) (Ev.pos (by omega) (Ev.pos (by omega) ?_))
  by_cases e1:l[dR (fV r c t) l].f0=r
  ·
   refine Ev.pos (by rw [e1]) ?_
   by_cases e2:l[dR (fV r c t) l].f1=c
   ·
    rw [if_pos ⟨e1,e2⟩,e2,bne_self_eq_false]
    exact jf
   ·
    rw [if_neg (fun h=>e2 h.2),show (l[dR (fV r c t) l].f1.toList != c.toList)=true by simpa using fun h=>e2 (toList_inj h)]
    exact jt
  ·
   rw [if_neg (fun h=>e1 h.1)]
   exact Ev.neg (fun h=>e1 (toList_inj h)) jt
 ·
  rw [dif_neg hp]
  have:=pU (fV r c t) l
  refine Ev.bind (vp (fV r c t) ho (by omega)) ?_
  simp only
  exact Ev.pos (by omega) jt
def jn (b:List Cell):Cell:=mS b ((b.length - 1:Nat):Int)
theorem yw {b:List Cell} (h:b≠[]):jn b=b[b.length - 1]'(by have:=List.length_pos_iff.2 h;omega):=gY b _ _
theorem o9 {b:List Cell} (h:b≠[]):jn b ∈ b:=by rw [yw h];exact List.getElem_mem _
theorem DT {b:List Cell} (h:b≠[]) (hl:b.length≤100000) (t:Cell):Ev (fun k=>cF.f k b t.f0 t.f1 t.f2 t.f3 t.f4) (cc (jn b) t):=by
 have hp:=List.length_pos_iff.2 h
 have p1:(b.length:Int) - 1=((b.length - 1:Nat):Int):=by omega
 have b1:b.length - 1≤1000000000:=by omega
 have b2:(0:Int)≤((b.length - 1:Nat):Int):=by omega
 have b3:((b.length - 1:Nat):Int)<(b.length:Int):=by omega
 have e1:wrap64 ((b.length:Int) - 1)=((b.length - 1:Nat):Int):=by rw [p1];exact fU (by omega) (by omega)
 unfold cF.f
 rw [e1]
 exact Ev.pos b2 (Ev.pos b3 (Ev.bind (mX (jn b) t) (Ev.now _)))
theorem Bp (bs:List (List Cell)) (M:List Cell) (hM:M.length=bs.length) (t:Cell) (hn:bs.length≤1000000000) (hg:∀ (i:Nat) (h:i<bs.length),Ev (fun k=>cF.f k bs[i] t.f0 t.f1 t.f2 t.f3 t.f4) (cc (M[i]'(by omega)) t)) (ho:fP M) (d:Nat) :
  ∀ lo hi:Nat,hi - lo≤d→lo≤hi→hi≤M.length→(∀ j (_:j<lo) (hl:j<M.length),cc M[j] t = -1)→(∀ j (_:hi≤j) (hl:j<M.length),¬ cc M[j] t = -1)→
  Ev (fun k=>bI.l0 k bs (bs.length:Int) (lo:Int) (hi:Int) t.f0 t.f1 t.f2 t.f3 t.f4) ((dR t M:Int),if h:dR t M<M.length then cc M[dR t M] t == 0 else false):=by
 induction d with
 | zero=>
  intro lo hi hd h1 h2 h3 h4
  have:lo=hi:=by omega
  subst this
  have hp:=rL t M lo h2 h3 (fun h=>h4 lo (by omega) h)
  rw [hp]
  have hnl:¬ (lo:Int)<(lo:Int):=by omega
  by_cases hl:lo<M.length
  ·
   have hl2:lo<bs.length:=by omega
   have hr:=uy bs lo hl2
   have q1:(lo:Int)<(bs.length:Int):=by omega
   have q2:(0:Int)≤(lo:Int):=by omega
   rw [dif_pos hl]
   exact Ev.step (fun k=>by simp only [bI.l0];rw [if_neg hnl,if_pos q1,if_pos q2,if_pos q1,hr]) (Ev.bind (hg lo hl2) (Ev.now _))
  ·
   have q1:¬ (lo:Int)<(bs.length:Int):=by omega
   rw [dif_neg hl]
   exact Ev.step (f:=fun _=>some ((lo:Int),false)) (fun k=>by simp only [bI.l0];rw [if_neg hnl,if_neg q1]) (Ev.now _)
 | succ d ih=>
  intro lo hi hd h1 h2 h3 h4
  by_cases hlt:lo<hi
  ·
   obtain ⟨m,hmd⟩:∃ m,m=(lo+hi) / 2:=⟨_,rfl⟩
   have hml:m<M.length:=by omega
   have hmb:m<bs.length:=by omega
   have ihA:=ih (m+1) hi (by omega) (by omega) h2
   have ihB:=ih lo m (by omega) (by omega) (by omega)
   have hlo:lo≤m:=by omega
   have q0:(lo:Int)<(hi:Int):=by omega
   have q1:(0:Int)≤(m:Int):=by omega
   have q2:(m:Int)<(bs.length:Int):=by omega
   have hr:=uy bs m hmb
   have b1:m+1≤2000000000:=by omega
   have hm:wrap64 (IntKind.u64.wrap (wrap64 ((lo:Int)+(hi:Int))) / 2)=(m:Int):=by
    rw [fU (x:=(lo:Int)+(hi:Int)) (by omega) (by omega),Ei (by omega) (by omega),fU (by omega) (by omega)]
    omega
   have hm1:wrap64 ((m:Int)+1)=((m+1:Nat):Int):=by rw [fU (by omega) (by omega)];rfl
   have hin:=sq M[m] t
   clear hmd hd
   refine Ev.step (fun k=>by simp only [bI.l0];rw [if_pos q0,hm,if_pos q1,if_pos q2,hr,hm1]) (Ev.bind (hg m hmb) ?_)
   clear hm hm1 hr
   by_cases hc:cc M[m] t = -1
   ·
    refine Ev.pos (by omega) (ihA (fun j hj hl=>?_) h4)
    by_cases hjm:j=m
    ·
     subst hjm;exact hc
    ·
     exact jA (List.pairwise_iff_getElem.1 ho j m hl hml (by omega)) hc
   ·
    refine Ev.neg (by omega) (ihB h3 (fun j hj hl=>?_))
    by_cases hjm:j=m
    ·
     subst hjm;exact hc
    ·
     exact fun hjt=>hc (jA (List.pairwise_iff_getElem.1 ho m j hml hl (by omega)) hjt)
  ·
   exact ih lo hi (by omega) h1 h2 h3 h4
theorem vH:∀ {bs:List (List Cell)},(∀ b ∈ bs,b≠[])→fP bs.flatten→fP (bs.map jn)
 | [],_,_=>List.Pairwise.nil
 | b :: bs,h,ho=>by
  rw [List.flatten_cons] at ho
  obtain ⟨h1,h2,h3⟩:=List.pairwise_append.1 ho
  refine List.pairwise_cons.2 ⟨fun x hx=>?_,vH (fun y hy=>h y (List.mem_cons_of_mem _ hy)) h2⟩
  obtain ⟨b2,hb2,rfl⟩:=List.mem_map.1 hx
  exact h3 _ (o9 (h b List.mem_cons_self)) _ (List.mem_flatten.2 ⟨b2,hb2,o9 (h b2 (List.mem_cons_of_mem _ hb2))⟩)
theorem Ef {b:List Cell} (h:b≠[]) (ho:fP b) {x:Cell} (hx:x ∈ b):x=jn b∨cc x (jn b) = -1:=by
 obtain ⟨i,hi,rfl⟩:=List.mem_iff_getElem.1 hx
 rw [yw h]
 by_cases he:i=b.length - 1
 ·
  subst he;exact .inl rfl
 ·
  exact .inr (List.pairwise_iff_getElem.1 ho i (b.length - 1) hi (by omega) (by omega))
theorem sP (r c:ByteArray) (t:Int):∀ {bs:List (List Cell)},(∀ b ∈ bs,b≠[])→fP bs.flatten→
  kE r c t bs.flatten=if dR (fV r c t) (bs.map jn)=bs.length then none else kE r c t (bs.getD (dR (fV r c t) (bs.map jn)) [])
 | [],_,_=>rfl
 | b :: bs,h,ho=>by
  have hb:=h b List.mem_cons_self
  rw [List.flatten_cons] at ho
  obtain ⟨h1,h2,h3⟩:=List.pairwise_append.1 ho
  have ih:=sP r c t (fun y hy=>h y (List.mem_cons_of_mem _ hy)) h2
  by_cases hl:cc (jn b) (fV r c t) = -1
  ·
   have hp:dR (fV r c t) ((b :: bs).map jn)=dR (fV r c t) (bs.map jn)+1:=by simp [dR,hl]
   have hn:∀ x ∈ b,¬ zM r c t x=true:=by
    intro x hx hox
    have hxl:cc x (fV r c t) = -1:=by
     rcases Ef hb h1 hx with e | e
     ·
      rw [e];exact hl
     ·
      exact jA e hl
    obtain ⟨e1,e2,e3⟩:=mE.1 hox
    rw [sA (y:=fV r c t) e1 e2,qu] at hxl
    have:(fV r c t).f2=t:=rfl
    omega
   rw [hp,List.flatten_cons]
   unfold kE at ih ⊢
   rw [List.find?_append,List.find?_eq_none.2 hn,Option.none_or,ih]
   simp only [List.length_cons,Nat.add_right_cancel_iff,List.getD_cons_succ]
  ·
   have hp:dR (fV r c t) ((b :: bs).map jn)=0:=by simp [dR,hl]
   rw [hp,List.flatten_cons,if_neg (by simp),List.getD_cons_zero]
   unfold kE
   rw [List.find?_append]
   cases hf:b.find? (zM r c t) with
   | some x=>rfl
   | none=>
    rw [Option.none_or]
    refine List.find?_eq_none.2 fun y hy hoy=>?_
    obtain ⟨e1,e2,e3⟩:=mE.1 hoy
    have hly:=h3 _ (o9 hb) y hy
    by_cases hk:(jn b).f0=y.f0∧(jn b).f1=y.f1
    ·
     have hle:¬ cc (jn b) (fV r c t) = -1:=hl
     rw [sA (y:=fV r c t) (hk.1.trans e1) (hk.2.trans e2),qu] at hle
     have ht:(fV r c t).f2=t:=rfl
     exact List.find?_eq_none.1 hf _ (o9 hb) (mE.2 ⟨hk.1.trans e1,hk.2.trans e2,by omega⟩)
    ·
     rw [yq (y:=y) (z:=fV r c t) e1 e2 hk] at hly
     exact hl hly
theorem EC {l:List Cell} {bs:List (List Cell)} (r c:ByteArray) (t:Int) (hfl:bs.flatten=l) (hok:∀ b ∈ bs,jo b) (hs:j9 l) (hl:l.length≤900) (hbl:bs.length≤1000) (hr:r.size≤10000) (hc:c.size≤10000) :
  Ev (fun k=>dG.f k bs (eO l) r c t) (qQ (kE r c t l)):=by
 unfold dG.f
 refine Ev.bind (Em (by omega) hr hc) ?_
 cases hm:sV (eO l) (rJ r c) with
 | false=>
  refine (Ev.neg Bool.false_ne_true (Ev.now _)).to ?_
  have hn:kE r c t l=none:=by
   unfold kE
   refine List.find?_eq_none.2 fun x hx hox=>?_
   obtain ⟨e1,e2,_⟩:=mE.1 hox
   have:=EU hx
   rw [e1,e2,hm] at this
   exact Bool.false_ne_true this
  rw [hn]
  rfl
 | true=>
  refine Ev.pos rfl ?_
  have hne:∀ b ∈ bs,b≠[]:=fun b hb=>(hok b hb).2.1
  have hof:fP bs.flatten:=by rw [hfl];exact hs.2
  have hM:(bs.map jn).length=bs.length:=List.length_map ..
  have hse:=Bp bs (bs.map jn) hM (fV r c t) (by omega) (fun i h=>by
   have:=DT (hne _ (List.getElem_mem h)) (by have:=(hok _ (List.getElem_mem h)).2.2.1;omega) (fV r c t)
   rw [List.getElem_map]
   exact this) (vH hne hof) bs.length 0 bs.length (by omega) (by omega) (by omega) (fun j hj=>by omega) (fun j hj hl=>by omega)
  refine Ev.bind (show Ev (fun k=>bI.f k bs r c t ⟨#[]⟩ false) _ from hse) ?_
  have hfb:=sP r c t hne hof
  rw [hfl] at hfb
  have hpl:=pU (fV r c t) (bs.map jn)
  rw [hM] at hpl
  generalize dR (fV r c t) (bs.map jn)=p at hfb hpl ⊢
  by_cases hp:p=bs.length
  ·
   rw [if_pos hp] at hfb
   rw [hfb]
   exact Ev.pos (show ((p:Nat):Int)=(bs.length:Int) by omega) (Ev.now _)
  ·
   rw [if_neg hp] at hfb
   rw [hfb]
   have hlt:p<bs.length:=by omega
   have hB:=hok _ (List.getElem_mem hlt)
   have hgd:bs.getD p []=bs[p]:=by rw [List.getD_eq_getElem?_getD,List.getElem?_eq_getElem hlt];rfl
   refine Ev.neg (show ¬ ((p:Nat):Int)=(bs.length:Int) by omega) (Ev.pos (show (0:Int)≤((p:Nat):Int)∧((p:Nat):Int)<(bs.length:Int) by omega) ?_)
   rw [show ((p:Nat):Int).toNat=p from Int.toNat_natCast p,hgd]
   exact qi r c t hB.1.2 (by have:=hB.2.2.1;omega)
def pT (last:Bool):List Cell→Int→Bool→Int→Int→Int × Int
 | [],_,_,lo,hi=>(lo,hi)
 | c :: r,n,first,lo,hi=>pT last r (n+iy c) false (if first=true then lo else mx lo (n+1)) (if r=[]∧last=false then mn hi (n+iy c) else hi)
def nu:List (List Cell)→Int→Int→Int × Int
 | [],lo,hi=>(lo,hi)
 | b :: bs,lo,hi=>nu bs (pT (decide (bs=[])) b 0 true lo hi).1 (pT (decide (bs=[])) b 0 true lo hi).2
def rN (bs:List (List Cell)):Bool:=decide ((nu bs 1 4294967296).1≤(nu bs 1 4294967296).2)
def Cv (last:Bool) (b:List Cell) (s:Int):Prop:=(∀ j,j<b.length→(gL (b.take j):Int)<s)∧(last=false→s≤(gL b:Int))
theorem Fb {a b s:Int}:mx a b≤s↔a≤s∧b≤s:=by unfold mx;split<;>omega
theorem EY {a b s:Int}:s≤mn a b↔s≤a∧s≤b:=by unfold mn;split<;>omega
theorem zD (last:Bool) (s:Int):∀ (b:List Cell) (n:Int) (first:Bool) (lo hi:Int),((pT last b n first lo hi).1≤s∧s≤(pT last b n first lo hi).2)↔(lo≤s∧s≤hi∧(∀ j,j<b.length→(first=true→0<j)→n+(gL (b.take j):Int)<s)∧(b≠[]→last=false→s≤n+(gL b:Int)))
 | [],n,first,lo,hi=>by simp [pT]
 | c :: r,n,first,lo,hi=>by
  have hc:gL (c :: r)=iy c+gL r:=by simp [gL]
  rw [pT,zD last s r]
  have hhi:s≤(if r=[]∧last=false then mn hi (n+iy c) else hi)↔s≤hi∧(r=[]→last=false→s≤n+iy c):=by
   split
   ·
    rename_i h
    rw [EY]
    exact ⟨fun h2=>⟨h2.1,fun _ _=>h2.2⟩,fun h2=>⟨h2.1,h2.2 h.1 h.2⟩⟩
   ·
    rename_i h
    exact ⟨fun h2=>⟨h2,fun h3 h4=>absurd ⟨h3,h4⟩ h⟩,fun h2=>h2.1⟩
  have hlo:(if first=true then lo else mx lo (n+1))≤s↔lo≤s∧(first=true∨n<s):=by
   split
   ·
    rename_i h
    exact ⟨fun h2=>⟨h2,.inl h⟩,fun h2=>h2.1⟩
   ·
    rename_i h
    rw [Fb]
    exact ⟨fun h2=>⟨h2.1,.inr (by omega)⟩,fun h2=>⟨h2.1,by rcases h2.2 with h3 | h3;exact absurd h3 h;omega⟩⟩
  rw [hhi,hlo]
  constructor
  ·
   rintro ⟨⟨l1,l2⟩,⟨u1,u2⟩,h3,h4⟩
   refine ⟨l1,u1,?_,?_⟩
   ·
    intro j hj hf
    cases j with
    | zero=>
     rw [List.take_zero,show gL []=0 from rfl]
     rcases l2 with l2 | l2
     ·
      exact absurd (hf l2) (by omega)
     ·
      simpa using l2
    | succ j=>
     have h5:=h3 j (by simpa using hj) (fun h=>by cases h)
     rw [List.take_succ_cons,show gL (c :: r.take j)=iy c+gL (r.take j) by simp [gL]]
     omega
   ·
    intro _ hl
    rw [hc]
    by_cases hr:r=[]
    ·
     have:=u2 hr hl
     subst hr
     simp [gL]
     omega
    ·
     have:=h4 hr hl
     omega
  ·
   rintro ⟨l1,u1,h3,h4⟩
   refine ⟨⟨l1,?_⟩,⟨u1,?_⟩,?_,?_⟩
   ·
    cases first with
    | true=>exact .inl rfl
    | false=>
     have:=h3 0 (by simp) (fun h=>by cases h)
     rw [List.take_zero,show gL []=0 from rfl] at this
     exact .inr (by simpa using this)
   ·
    intro hr hl
    have:=h4 (by simp) hl
    rw [hc] at this
    subst hr
    simp [gL] at this
    omega
   ·
    intro j hj _
    have h5:=h3 (j+1) (by simpa using hj) (fun _=>by omega)
    rw [List.take_succ_cons,show gL (c :: r.take j)=iy c+gL (r.take j) by simp [gL]] at h5
    omega
   ·
    intro hr hl
    have:=h4 (by simp) hl
    rw [hc] at this
    omega
def tK:List (List Cell)→Int→Prop
 | [],_=>True
 | b :: bs,s=>Cv (decide (bs=[])) b s∧tK bs s
theorem tD (s:Int) (hs:0<s):∀ (bs:List (List Cell)) (lo hi:Int),(∀ b ∈ bs,b≠[])→(((nu bs lo hi).1≤s∧s≤(nu bs lo hi).2)↔(lo≤s∧s≤hi∧tK bs s))
 | [],lo,hi,_=>by simp [nu,tK]
 | b :: bs,lo,hi,h=>by
  have hb:=h b List.mem_cons_self
  rw [nu,tD s hs bs _ _ (fun x hx=>h x (List.mem_cons_of_mem _ hx))]
  have:=zD (decide (bs=[])) s b 0 true lo hi
  show _↔(lo≤s∧s≤hi∧Cv (decide (bs=[])) b s∧tK bs s)
  unfold Cv
  constructor
  ·
   rintro ⟨h1,h2,h3⟩
   obtain ⟨a1,a2,a3,a4⟩:=this.1 ⟨h1,h2⟩
   refine ⟨a1,a2,⟨fun j hj=>?_,fun hl=>by have:=a4 hb hl;omega⟩,h3⟩
   by_cases hj0:0<j
   ·
    have:=a3 j hj (fun _=>hj0)
    omega
   ·
    have:j=0:=by omega
    subst this
    rw [List.take_zero]
    simpa [gL] using hs
  ·
   rintro ⟨h1,h2,⟨h3,h4⟩,h5⟩
   obtain ⟨a1,a2⟩:=this.2 ⟨h1,h2,fun j hj _=>by have:=h3 j hj;omega,fun _ hl=>by have:=h4 hl;omega⟩
   exact ⟨a1,a2,h5⟩
theorem zJ:∀ (bs:List (List Cell)) (lo hi:Int),lo≤(nu bs lo hi).1
 | [],lo,_=>Int.le_refl _
 | b :: bs,lo,hi=>by
  rw [nu]
  have hin:∀ (b:List Cell) (last:Bool) (n:Int) (first:Bool) (lo hi:Int),lo≤(pT last b n first lo hi).1:=by
   intro b last
   induction b with
   | nil=>intro n first lo hi;exact Int.le_refl _
   | cons c r ih=>
    intro n first lo hi
    rw [pT]
    refine Int.le_trans ?_ (ih _ _ _ _)
    split
    ·
     exact Int.le_refl _
    ·
     unfold mx;split<;>omega
  exact Int.le_trans (hin b _ 0 true lo hi) (zJ bs _ _)
theorem C6 {bs:List (List Cell)} (h:∀ b ∈ bs,b≠[]):rN bs=true↔∃ s:Int,1≤s∧s≤4294967296∧tK bs s:=by
 unfold rN
 rw [decide_eq_true_iff]
 constructor
 ·
  intro hle
  have hlo:=zJ bs 1 4294967296
  obtain ⟨a1,a2,a3⟩:=(tD (nu bs 1 4294967296).1 (by omega) bs 1 4294967296 h).1 ⟨Int.le_refl _,hle⟩
  exact ⟨_,a1,a2,a3⟩
 ·
  rintro ⟨s,h1,h2,h3⟩
  obtain ⟨a1,a2⟩:=(tD s (by omega) bs 1 4294967296 h).2 ⟨h1,h2,h3⟩
  exact Int.le_trans a1 a2
theorem Bb {size:Nat}:∀ (bs:List (List Cell)),(∀ b ∈ bs,OkB size b)→(∀ (i:Nat) (h:i+1<bs.length),size≤gL (bs[i]'(by omega)))→tK bs size
 | [],_,_=>trivial
 | b :: bs,h1,h2=>by
  refine ⟨⟨fun j hj=>by have:=(h1 b List.mem_cons_self).2 j hj;omega,fun hl=>?_⟩,Bb bs (fun x hx=>h1 x (List.mem_cons_of_mem _ hx)) (fun i hi=>?_)⟩
  ·
   cases bs with
   | nil=>simp at hl
   | cons b2 bs=>
    have:=h2 0 (by simp)
    simp only [List.getElem_cons_zero] at this
    omega
  ·
   have:=h2 (i+1) (by simpa using hi)
   simpa using this
theorem D8 {size:Nat} (hs:0<size) (l:List Cell):tK (iE size l [] 0) size:=
 Bb _ (ud size hs l [] 0 rfl (fun k hk=>by
  have:k=0:=by simpa using hk
  subst this
  simpa [gL] using hs)) (fun i h=>tq size l [] 0 rfl i h)
theorem Ct {n:Nat} (h:n≤1000000000):wrap64 (n:Int)=(n:Int):=fU (by omega) (by omega)
theorem z6 {n m:Nat} (h:n+m≤1000000000):wrap64 ((n:Int)+(m:Int))=((n+m:Nat):Int):=by
 rw [←Int.natCast_add]
 exact Ct h
theorem AU (bs:List (List Cell)) (i:Nat) (hi:i<bs.length) (hbl:bs.length≤1000) (l:List Cell) (hr:gj l) (hl:l.length≤450) (hl0:0<l.length) (r:Bool) (d:Nat):∀ (j n:Nat) (lo hi':Int),j≤l.length→l.length - j=d→n≤401*j→
  Ev (fun k=>aV.l0 k bs (pT (decide (i+1=bs.length)) (l.drop j) n (decide (j=0)) lo hi').1 (pT (decide (i+1=bs.length)) (l.drop j) n (decide (j=0)) lo hi').2 bs (bs.length:Int) (wrap64 ((i:Int)+1))) r→
  Ev (fun k=>aV.l1 k bs lo hi' (i:Int) l (n:Int) bs (bs.length:Int) (i:Int) l (l.length:Int) (j:Int)) r:=by
 induction d with
 | zero=>
  intro j n lo hi' hj hd hn hk
  rw [List.drop_eq_nil_of_le (by omega),pT] at hk
  have hnj:¬ (j:Int)<(l.length:Int):=by omega
  exact Ev.step (fun k=>by simp only [aV.l1];rw [if_neg hnj]) hk
 | succ d ih=>
  intro j n lo hi' hj hd hn hk
  have hlt:j<l.length:=by omega
  have q1:(j:Int)<(l.length:Int):=by omega
  have q2:(0:Int)≤(j:Int):=by omega
  have hc:=hr _ (List.getElem_mem hlt)
  have hcl:=zj hc
  have hput:=Dy hc
  have hrd:=gY l j hlt
  unfold mS at hrd
  have hlast:((j:Int)=(l.length:Int) - 1)↔l.drop (j+1)=[]:=by
   rw [List.drop_eq_nil_iff]
   omega
  have hib:((i:Int)<(bs.length:Int) - 1)↔¬ i+1=bs.length:=by omega
  have hj0:((j:Int) > 0)↔¬ j=0:=by omega
  have p1:(l.length:Int) - 1=((l.length - 1:Nat):Int):=by omega
  have p2:(bs.length:Int) - 1=((bs.length - 1:Nat):Int):=by omega
  have b1:l.length - 1≤1000000000:=by omega
  have b2:bs.length - 1≤1000000000:=by omega
  have b3:j+1≤1000000000:=by omega
  have b4:n+1≤1000000000:=by omega
  have b5:n+iy l[j]≤1000000000:=by omega
  have e6:((n+iy l[j]:Nat):Int)=(n:Int)+(iy l[j]:Int):=by omega
  have hnn:n+iy l[j]≤401*(j+1):=by omega
  have ihh:=fun lo hi'=>ih (j+1) (n+iy l[j]) lo hi' (by omega) (by omega) hnn
  have hz:decide (j+1=0)=false:=decide_eq_false (by omega)
  have e1:wrap64 ((l.length:Int) - 1)=(l.length:Int) - 1:=by rw [p1];exact Ct b1
  have e2:wrap64 ((bs.length:Int) - 1)=(bs.length:Int) - 1:=by rw [p2];exact Ct b2
  have e3:wrap64 ((j:Int)+1)=((j+1:Nat):Int):=z6 (m:=1) b3
  have e4:wrap64 ((n:Int)+1)=(n:Int)+1:=z6 (m:=1) b4
  have e5:wrap64 ((n:Int)+((iF l[j].f0 l[j].f1 l[j].f2 l[j].f3 l[j].f4).length:Int))=((n+iy l[j]:Nat):Int):=z6 b5
  rw [List.drop_eq_getElem_cons hlt,pT] at hk
  rw [hz] at ihh
  clear hn hnn hd hj hcl ih
  -- the new bounds
  have hj2:∀ (c:Bool) (k:Nat),(c=true↔(l.drop (j+1)=[]∧decide (i+1=bs.length)=false))→
    aV.j2 (k+1) bs lo hi' (i:Int) l (n:Int) (j:Int) bs (bs.length:Int) (i:Int) l (l.length:Int) (j:Int) c l[j].f0 l[j].f1 l[j].f2 l[j].f3 l[j].f4 =
    aV.l1 k bs (if decide (j=0)=true then lo else mx lo ((n:Int)+1)) (if l.drop (j+1)=[]∧decide (i+1=bs.length)=false then mn hi' ((n:Int)+(iy l[j]:Int)) else hi') (i:Int) l ((n+iy l[j]:Nat):Int) bs (bs.length:Int) (i:Int) l (l.length:Int) ((j+1:Nat):Int):=by
   intro c k hcc
   simp only [aV.j2,hput,Option.bind_some]
   by_cases hj':j=0
   ·
    have hn0:¬ ((j:Int) > 0):=fun h=>(hj0.1 h) hj'
    rw [if_neg hn0,if_neg hn0,if_pos (decide_eq_true hj')]
    cases c with
    | true=>rw [if_pos rfl,if_pos (hcc.1 rfl)];rw [e5,e3,e6]
    | false=>rw [if_neg Bool.false_ne_true,if_neg (fun h=>Bool.false_ne_true (hcc.2 h))];rw [e5,e3]
   ·
    have hn0:((j:Int) > 0):=hj0.2 hj'
    rw [if_pos hn0,if_pos hn0,if_neg (fun h=>hj' (of_decide_eq_true h))]
    cases c with
    | true=>rw [if_pos rfl,if_pos (hcc.1 rfl)];rw [e5,e4,e3,e6]
    | false=>rw [if_neg Bool.false_ne_true,if_neg (fun h=>Bool.false_ne_true (hcc.2 h))];rw [e5,e4,e3]
  have hk2:=ihh _ _ hk
  by_cases hlst:(j:Int)=(l.length:Int) - 1
  ·
   refine Ev.step (fun k=>by simp only [aV.l1];rw [if_pos q1,if_pos q2,if_pos q1,e1,if_pos hlst,e2,hrd]) (Ev.step (fun k=>hj2 _ k ?_) hk2)
   rw [decide_eq_true_iff,hib,decide_eq_false_iff_not]
   exact ⟨fun h=>⟨hlast.1 hlst,h⟩,fun h=>h.2⟩
  ·
   refine Ev.step (fun k=>by simp only [aV.l1];rw [if_pos q1,if_pos q2,if_pos q1,e1,if_neg hlst,hrd]) (Ev.step (fun k=>hj2 _ k ?_) hk2)
   exact ⟨fun h=>absurd h Bool.false_ne_true,fun h=>absurd (hlast.2 h.1) hlst⟩
theorem zV (bs:List (List Cell)) (hbl:bs.length≤1000) (hok:∀ b ∈ bs,jo b) (d:Nat):∀ (i:Nat) (lo hi:Int),i≤bs.length→bs.length - i=d→Ev (fun k=>aV.l0 k bs lo hi bs (bs.length:Int) (i:Int)) (decide ((nu (bs.drop i) lo hi).1≤(nu (bs.drop i) lo hi).2)):=by
 induction d with
 | zero=>
  intro i lo hi h1 h2
  rw [List.drop_eq_nil_of_le (by omega)]
  exact Ev.step (f:=fun _=>some (decide (lo≤hi))) (fun k=>by simp only [aV.l0];rw [if_neg (by omega)]) (Ev.now _)
 | succ d ih=>
  intro i lo hi h1 h2
  have hlt:i<bs.length:=by omega
  have q1:(i:Int)<(bs.length:Int):=by omega
  have q2:(0:Int)≤(i:Int):=by omega
  have hB:=hok _ (List.getElem_mem hlt)
  have hrd:=uy bs i hlt
  have hb0:0<bs[i].length:=List.length_pos_iff.2 hB.2.1
  have ihh:=fun lo hi=>ih (i+1) lo hi (by omega) (by omega)
  have b3:i+1≤1000000000:=by omega
  have hdl:decide (bs.drop (i+1)=[])=decide (i+1=bs.length):=by
   congr 1
   rw [List.drop_eq_nil_iff]
   exact propext ⟨fun h=>by omega,fun h=>by omega⟩
  have e3:wrap64 ((i:Int)+1)=((i+1:Nat):Int):=z6 (m:=1) b3
  rw [List.drop_eq_getElem_cons hlt,nu,hdl]
  refine Ev.step (fun k=>by simp only [aV.l0];rw [if_pos q1,if_pos q2,if_pos q1,hrd]) ?_
  refine AU bs i hlt hbl bs[i] hB.1.1 hB.2.2.1 hb0 _ bs[i].length 0 0 lo hi (Nat.zero_le _) rfl (Nat.zero_le _) ?_
  rw [e3,List.drop_zero]
  exact ihh _ _
theorem AL {bs:List (List Cell)} (hbl:bs.length≤1000) (hok:∀ b ∈ bs,jo b):Ev (fun k=>aV.f k bs) (rN bs):=by
 unfold aV.f rN
 exact zV bs hbl hok bs.length 0 1 4294967296 (Nat.zero_le _) rfl
theorem CG {b:List Int} (hb:Bytes b) (h12:12≤b.length) (s:List Int):b.take 12=b.take 4++(lA (b.take 4)++lA s)↔dZ (b.drop 4)=fS (b.take 4)∧dZ (b.drop 8)=fS s:=by
 have e12:b.take 12=b.take 4++((b.drop 4).take 4++(b.drop 8).take 4):=by
  rw [show 12=4+(4+4) from rfl,List.take_add,List.take_add,List.drop_drop]
 have n4:=qE (hb.drop 4) (by rw [List.length_drop];omega)
 have n8:=qE (hb.drop 8) (by rw [List.length_drop];omega)
 obtain ⟨a0,a1⟩:=ku (b.take 4)
 obtain ⟨b0,b1⟩:=ku s
 obtain ⟨c0,c1⟩:=jc (hb.drop 4) (by rw [List.length_drop];omega)
 obtain ⟨d0,d1⟩:=jc (hb.drop 8) (by rw [List.length_drop];omega)
 rw [e12,List.append_cancel_left_eq,← n4,← n8]
 constructor
 ·
  intro h
  have h1:=List.append_inj h (by rw [jY,iA c0 c1])
  have v1:=congrArg dZ (show num (dZ (b.drop 4))++[]=num (fS (b.take 4))++[] by have e:=h1.1;unfold lA at e;rw [e])
  have v2:=congrArg dZ (show num (dZ (b.drop 8))++[]=num (fS s)++[] by have e:=h1.2;unfold lA at e;rw [e])
  rw [j4 c0 c1,j4 a0 a1] at v1
  rw [j4 d0 d1,j4 b0 b1] at v2
  exact ⟨v1,v2⟩
 ·
  rintro ⟨h1,h2⟩
  rw [h1,h2]
  rfl
theorem wR {b:List Int} (hb:Bytes b) (hl:b.length≤140737488355328):Ev (fun k=>bZ.f k b) (j6 b):=by
 have jt:∀ n l,Ev (fun k=>bZ.j0 k n l true) ([],[],false):=fun n l=>Ev.step (fun k=>by simp only [bZ.j0,if_true]) (Ev.now _)
 unfold bZ.f
 by_cases h:b.length<12
 ·
  rw [su (fun ho=>by have:=ho.1;omega)]
  exact Ev.pos (by omega) (Ev.now _)
 refine Ev.neg (by omega) (Ev.bind (ke hb hl) (Ev.pos (by omega) (Ev.bind (Ev.eq (xQ (by rw [List.length_drop];omega))) ?_)))
 obtain ⟨g0,g1⟩:=jc hb (by omega)
 have hcn:je b=(dZ b,b.drop 4,true):=by unfold je;rw [if_neg (by omega)]
 rw [hcn]
 simp only
 have hd:((b.drop 12).length:Int)=(b.length:Int) - 12:=by rw [List.length_drop];omega
 by_cases h1:dZ b > 65535
 ·
  rw [su (fun ho=>by have:=ho.2.1;omega)]
  exact Ev.pos h1 (jt _ _)
 refine Ev.neg h1 ?_
 by_cases h2:dZ b > ((b.drop 12).length:Int)
 ·
  rw [su (fun ho=>by have:=ho.2.2.1;omega)]
  exact Ev.pos h2 (jt _ _)
 refine Ev.neg h2 (Ev.pos (by omega) (Ev.bind (Ev.now _) (Ev.bind (mN (hb.take 4) (by rw [List.length_take];omega)) (Ev.pos g0 (Ev.pos (by omega) (Ev.bind (mN ((hb.drop 12).take _) (by rw [List.length_take,List.length_drop];omega)) ?_))))))
 have s1:=jY (b.take 4)
 have s2:=jY ((b.drop 12).take (dZ b).toNat)
 refine Ev.bind (Ev.eq (nW ?_)) (Ev.bind (x_ (by rw [List.length_take];omega)) ?_)
 ·
  simp only [fL,List.map_cons,List.map_nil,List.sum_cons,List.sum_nil,List.length_take]
  omega
 have hc:[b.take 4,lA (b.take 4),lA ((b.drop 12).take (dZ b).toNat)].flatten=b.take 4++(lA (b.take 4)++lA ((b.drop 12).take (dZ b).toNat)):=by simp
 rw [hc]
 have hi:=CG hb (by omega) ((b.drop 12).take (dZ b).toNat)
 by_cases ho:okF b
 ·
  have h45:dZ (b.drop 4)=fS (b.take 4)∧dZ (b.drop 8)=fS ((b.drop 12).take (dZ b).toNat):=⟨ho.2.2.2.1,ho.2.2.2.2⟩
  rw [decide_eq_true (hi.2 h45)]
  unfold j6
  rw [if_pos ho]
  refine Ev.step (fun k=>by simp only [bZ.j0,Bool.not_true,Bool.false_eq_true,if_false];rfl) (Ev.pos g0 (Ev.pos (by omega) (Ev.now _)))
 ·
  have h45:¬ (dZ (b.drop 4)=fS (b.take 4)∧dZ (b.drop 8)=fS ((b.drop 12).take (dZ b).toNat)):=fun hh=>ho ⟨by omega,by omega,by omega,hh.1,hh.2⟩
  rw [decide_eq_false (fun e=>h45 (hi.1 e)),su ho]
  exact jt _ _
def rX (x:EA):Cell:=⟨x.1,x.2.1,x.2.2.1,x.2.2.2.1,x.2.2.2.2.1⟩
def mO:Nat→List Int→List Cell→List Cell × Bool
 | 0,b,out=>(out,decide (b.length=0))
 | n+1,b,out=>if (iJ b).2.2.2.2.2.2=true then mO n (iJ b).2.2.2.2.2.1 (out++[rX (iJ b)]) else (out++[rX (iJ b)],false)
theorem uc {b:List Int} (hb:Bytes b):Bytes (iJ b).2.2.2.2.2.1∧(iJ b).2.2.2.2.2.1.length≤b.length:=by
 have b1:=jl hb
 have l1:=jP (b:=b)
 have b2:=jl b1
 have l2:=jP (b:=(fZ b).2.1)
 obtain ⟨b3,l3⟩:=ri b2
 obtain ⟨b4,l4⟩:=rj b3
 have b5:=jl b4
 have l5:=jP (b:=(kR (je (fZ (fZ b).2.1).2.1).2.1).2.1)
 unfold iJ
 dsimp only
 split
 ·
  exact ⟨b5,Nat.le_trans l5 (Nat.le_trans l4 (Nat.le_trans l3 (Nat.le_trans l2 l1)))⟩
 ·
  exact ⟨Bytes.nil,by simp⟩
theorem Dc (n:Nat):∀ (b:List Int) (out:List Cell),Bytes b→b.length≤140737488355328→n≤4294967295→out.length+n≤4294967295→Ev (fun k=>cV.l0 k b (n:Int) true out) (mO n b out):=by
 induction n with
 | zero=>
  intro b out hb hl hn ho
  refine Ev.step (f:=fun _=>some (out,((b.length:Int) == 0))) (fun k=>?_) ((Ev.now _).to ?_)
  ·
   simp only [cV.l0,if_true]
   rw [if_neg (by omega)]
  ·
   unfold mO
   congr 1
   rw [Bool.eq_iff_iff,beq_iff_eq,decide_eq_true_iff]
   omega
 | succ n ih=>
  intro b out hb hl hn ho
  have hr:=uc hb
  refine Ev.step (fun k=>by simp only [cV.l0,if_true];rw [if_pos (by omega)]) ?_
  refine Ev.bind (yR hb hl) ?_
  refine Ev.pos (by omega) ?_
  rw [show wrap64 (((n+1:Nat):Int) - 1)=(n:Int) by rw [fU (by omega) (by omega)];omega]
  unfold mO
  cases hc:(iJ b).2.2.2.2.2.2 with
  | true=>
   rw [if_pos rfl]
   exact ih _ _ hr.1 (Nat.le_trans hr.2 hl) (by omega) (by rw [List.length_append,List.length_singleton];omega)
  | false=>
   rw [if_neg Bool.false_ne_true]
   exact Ev.step (f:=fun _=>some (out++[rX (iJ b)],false)) (fun k=>by simp only [cV.l0,Bool.false_eq_true,if_false];rfl) (Ev.now _)
def j7 (b:List Int):List Cell × Bool:=if b.length<4 then ([],false) else mO (dZ b).toNat (b.drop 4) []
theorem CK {b:List Int} (hb:Bytes b) (hl:b.length≤140737488355328):Ev (fun k=>cV.f k b) (j7 b):=by
 unfold cV.f j7
 refine Ev.bind (ke hb hl) ?_
 unfold je
 by_cases h:b.length<4
 ·
  rw [if_pos h,if_pos h]
  exact Ev.step (f:=fun _=>some ([],false)) (fun k=>by simp only [cV.l0,Bool.false_eq_true,if_false]) (Ev.now _)
 ·
  rw [if_neg h,if_neg h]
  obtain ⟨g0,g1⟩:=jc hb (by omega)
  have:=Dc (dZ b).toNat (b.drop 4) [] (hb.drop 4) (by rw [List.length_drop];omega) (by omega) (by simp;omega)
  rw [show (((dZ b).toNat:Nat):Int)=dZ b by omega] at this
  exact this
def AF (b:List Int):List Cell × List Int × Int:=if (j6 b).2.2=true∧(j7 (j6 b).1).2=true∧(j7 (j6 b).1).1.length≠0∧jq (j7 (j6 b).1).1=true then ((j7 (j6 b).1).1,(j6 b).2.1,0) else ([],[],2)
theorem sE:∀ (l:List Cell) (r:List Int) (out:List Cell),gj l→mO l.length ((l.map jr).flatten++r) out=(out++l,decide (r.length=0))
 | [],r,out,_=>by simp [mO]
 | c :: l,r,out,h=>by
  have hc:=h c List.mem_cons_self
  have e:iJ (jr c++((l.map jr).flatten++r))=(c.f0,c.f1,c.f2,c.f3,c.f4,(l.map jr).flatten++r,true):=wA hc _
  rw [List.map_cons,List.flatten_cons,List.append_assoc,List.length_cons]
  unfold mO
  rw [e,if_pos rfl,sE l r _ (fun x hx=>h x (List.mem_cons_of_mem _ hx))]
  simp [rX]
theorem yS {l:List Cell} (h:gj l) (hl:l.length≤450):j7 (iH l)=(l,true):=by
 have hn:(num (l.length:Int)).length=4:=iA (by omega) (by omega)
 have hc:=ug (n:=(l.length:Int)) (by omega) (by omega) ((l.map jr).flatten)
 unfold je at hc
 have h4:¬ (num (l.length:Int)++(l.map jr).flatten).length<4:=by rw [List.length_append];omega
 rw [if_neg h4] at hc
 simp only [Prod.mk.injEq,and_true] at hc
 unfold j7 iH
 rw [if_neg h4,hc.1,hc.2,Int.toNat_natCast]
 have:=sE l [] [] h
 rw [List.append_nil] at this
 rw [this]
 simp
theorem BJ {l:List Cell} (h:j9 l) (h0:l.length≠0) (hl:l.length≤450) (hb:(iH l).length≤60154) (r:List Int):AF (frame (iH l)++r)=(l,r,0):=by
 have hc:=AH (r:=iH l) (by omega) r
 unfold AF
 rw [hc]
 have hs:=kU.2 h
 simp only [yS h.1 hl]
 rw [if_pos ⟨trivial,trivial,h0,hs⟩]
theorem xV (n:Nat):∀ (b:List Int) (out:List Cell),(mO n b out).1.length≤out.length+n
 :=by
 induction n with
 | zero=>intro b out;unfold mO;simp
 | succ n ih=>
  intro b out
  unfold mO
  split
  ·
   have:=ih (iJ b).2.2.2.2.2.1 (out++[rX (iJ b)])
   rw [List.length_append,List.length_singleton] at this
   omega
  ·
   simp only [List.length_append,List.length_singleton];omega
theorem vZ {b:List Int} (hb:Bytes b):(j7 b).1.length≤4294967295:=by
 unfold j7
 by_cases h:b.length<4
 ·
  rw [if_pos h];simp
 ·
  rw [if_neg h]
  obtain ⟨g0,g1⟩:=jc hb (by omega)
  have:=xV (dZ b).toNat (b.drop 4) []
  simp only [List.length_nil] at this
  omega
theorem uX {b:List Int} (hb:Bytes b):Bytes (j6 b).1∧(j6 b).1.length≤b.length∧(j6 b).2.1.length≤b.length:=by
 unfold j6
 split
 ·
  refine ⟨(hb.drop 12).take _,?_,?_⟩
  ·
   simp only [List.length_take,List.length_drop];omega
  ·
   simp only [List.length_drop];omega
 ·
  exact ⟨Bytes.nil,by simp,by simp⟩
theorem wJ {b:List Int} (hb:Bytes b) (hl:b.length≤140737488355328):Ev (fun k=>dM.f k b) (AF b):=by
 obtain ⟨hrb,hrl,hsl⟩:=uX hb
 have hcl:=vZ hrb
 have jt:∀ (x:List Int) (l:List Cell),Ev (fun k=>dM.j0 k x l true) ([],[],2):=fun x l=>Ev.step (f:=fun _=>some ([],[],2)) (fun k=>by simp only [dM.j0,if_true]) (Ev.now _)
 have jf:∀ (x:List Int) (l:List Cell),x.length≤140737488355328→Ev (fun k=>dM.j0 k x l false) (l,x,0):=fun x l h=>by
  refine Ev.step (f:=fun _=>some (l,x,0)) (fun k=>?_) (Ev.now _)
  simp only [dM.j0,Bool.false_eq_true,if_false]
  unfold dH.f
  rw [if_pos (by omega)]
  rfl
 unfold dM.f AF
 refine Ev.bind (wR hb hl) ?_
 cases hc:(j6 b).2.2 with
 | false=>
  rw [if_neg (by simp)]
  exact Ev.neg Bool.false_ne_true (Ev.now _)
 | true=>
  refine Ev.pos rfl (Ev.bind (CK hrb (by omega)) ?_)
  cases h2:(j7 (j6 b).1).2 with
  | false=>
   rw [if_neg (by simp)]
   exact Ev.neg Bool.false_ne_true (jt _ _)
  | true=>
   refine Ev.pos rfl ?_
   by_cases h0:(j7 (j6 b).1).1.length=0
   ·
    rw [if_neg (by simp [h0])]
    exact Ev.pos (by omega) (jt _ _)
   ·
    refine Ev.neg (by omega) ?_
    refine Ev.bind (lM (by omega)) ?_
    cases hs:jq (j7 (j6 b).1).1 with
    | false=>
     rw [if_neg (by simp)]
     exact jt _ _
    | true=>
     rw [if_pos ⟨rfl,rfl,h0,rfl⟩]
     exact jf _ _ (by omega)
def pO (b:List Int):Int:=(b.length:Int) - 4 - dZ (b.drop (b.length - 4))
theorem Df {b:List Int} (hb:Bytes b) (hl:b.length≤100000000) (h4:4≤b.length):Ev (fun k=>bw.f k (b.drop (b.length - 4))) (dZ (b.drop (b.length - 4)),(b.drop (b.length - 4)).drop 4,true):=by
 have hd:(b.drop (b.length - 4)).length=4:=by rw [List.length_drop];omega
 have hc:=ke (b:=b.drop (b.length - 4)) (fun x hx=>hb x (List.mem_of_mem_drop hx)) (by omega)
 unfold je at hc
 rwa [if_neg (by omega)] at hc
theorem EF {b:List Int} (hb:Bytes b) (hl:b.length≤100000000) (h4:4≤b.length):wrap64 (wrap64 ((b.length:Int) - 4) - dZ (b.drop (b.length - 4)))=pO b:=by
 have hd:(b.drop (b.length - 4)).length=4:=by rw [List.length_drop];omega
 obtain ⟨v0,v1⟩:=jc (b:=b.drop (b.length - 4)) (fun x hx=>hb x (List.mem_of_mem_drop hx)) (by omega)
 unfold pO
 generalize dZ (b.drop (b.length - 4))=v at v0 v1 ⊢
 rw [fU (x:=(b.length:Int) - 4) (by omega) (by omega)]
 exact fU (by omega) (by omega)
theorem Ec {b:List Int} (hb:Bytes b) (h4:4≤b.length):pO b≤(b.length:Int) - 4:=by
 have hd:(b.drop (b.length - 4)).length=4:=by rw [List.length_drop];omega
 obtain ⟨v0,v1⟩:=jc (b:=b.drop (b.length - 4)) (fun x hx=>hb x (List.mem_of_mem_drop hx)) (by omega)
 unfold pO
 omega
theorem Cq {b:List Int} {l:List Cell} {bs:List (List Cell)} {o:Option (List Cell × List (List Cell) × List Int)} (hb:Bytes b) (hl:b.length≤100000000) (h4:4≤b.length) (he:0≤pO b) (hs:Ev (fun k=>aJ.lp k (b.take (pO b).toNat) [] []) (some (l,bs))) (ht:Ev (fun k=>aJ.tail k b l bs) o):Ev (fun k=>aJ.f k b) o:=by
 have hw:=EF hb hl h4
 have hn:¬ (b.length:Int)<4:=by omega
 have hle:=Ec hb h4
 have h1:¬ pO b<0:=by omega
 have h2:pO b≤(b.length:Int):=by omega
 unfold aJ.f
 refine Ev.neg hn (Ev.bind (Df hb hl h4) ?_)
 simp only [hw]
 exact Ev.neg h1 (Ev.pos h2 (Ev.bind hs ht))
theorem sD {l:List Cell} (hl:l.length≤100000):Ev (fun k=>aT.f k l) (jq l):=lM (by omega)
theorem DB {b:List Int} {l:List Cell} {bs:List (List Cell)} (hr:gj l) (hl:l.length≤900) (hok:∀ b ∈ bs,jo b) (hbl:bs.length≤421) :
  Ev (fun k=>aJ.tail k b l bs) (if jq l=true∧rN bs=true∧iB bs (eO l)=b then some (l,bs,eO l) else none):=by
 unfold aJ.tail
 have hfl:=lJ l
 have hfs:(eO l).length≤1000:=by omega
 have hb1:=xj (fl:=eO l) hok hbl hfs
 have htl:(iB bs (eO l)).length≤140737488355328:=by
  have h1:=sy bs hok
  have h2:=tJ hok hbl hfs
  have h3:=jB (r:=jb bs (eO l)) (by omega)
  have h4:=eY (frame (jb bs (eO l))).length
  unfold iB
  simp only [List.length_append]
  omega
 refine Ev.bind (o8 hr (by omega)) (Ev.bind (sD (by omega)) ?_)
 cases h1:jq l with
 | false=>
  rw [if_neg (fun h=>Bool.false_ne_true h.1)]
  exact Ev.neg Bool.false_ne_true (Ev.now _)
 | true=>
  refine Ev.pos rfl (Ev.bind (AL (by omega) hok) ?_)
  cases h2:rN bs with
  | false=>
   rw [if_neg (fun h=>Bool.false_ne_true h.2.1)]
   exact Ev.neg Bool.false_ne_true (Ev.now _)
  | true=>
   refine Ev.pos rfl (Ev.bind hb1 (Ev.pos rfl (Ev.bind (x_ htl) ?_)))
   by_cases h3:iB bs (eO l)=b
   ·
    exact (Ev.pos (decide_eq_true h3) (Ev.now _)).to (if_pos ⟨rfl,rfl,h3⟩).symm
   ·
    exact (Ev.neg (fun h=>h3 (of_decide_eq_true h)) (Ev.now _)).to (if_neg (fun h=>h3 h.2.2)).symm
theorem vA {r:Option (List Cell × List (List Cell))} {x:List Int} (hx:Bytes x):∀ (bs:List (List Cell)) (l0:List Cell) (bs0:List (List Cell)),(∀ b ∈ bs,jo b)→(jI bs).length+x.length≤100000000→l0.length+450*bs.length≤100000000→bs0.length+bs.length≤100000000→
  Ev (fun k=>aJ.lp k x (l0++bs.flatten) (bs0++bs)) r→Ev (fun k=>aJ.lp k (jI bs++x) l0 bs0) r
 | [],l0,bs0,_,_,_,_,hk=>by
  rw [List.flatten_nil,List.append_nil,List.append_nil] at hk
  exact hk
 | b :: bs,l0,bs0,hok,hl,h1,h2,hk=>by
  have hB:=hok b List.mem_cons_self
  have hfr:=jB (r:=iH b) (by have:=zA hB;omega)
  have hb0:b.length≠0:=fun he=>hB.2.1 (List.eq_nil_of_length_eq_zero he)
  have hbb:=hB.2.2.1
  rw [nT,List.length_append] at hl
  simp only [List.length_cons] at h1 h2
  have ih:=vA hx bs (l0++b) (bs0++[b]) (fun x hx=>hok x (List.mem_cons_of_mem _ hx)) (by omega) (by rw [List.length_append];omega) (by simp only [List.length_append,List.length_cons,List.length_nil];omega) (by
   rw [List.flatten_cons] at hk
   simp only [List.append_assoc,List.singleton_append]
   exact hk)
  rw [nT,List.append_assoc]
  have hg:=wJ (b:=frame (iH b)++(jI bs++x)) ((pN (sO b)).append ((qX bs).append hx)) (by simp only [List.length_append];omega)
  rw [BJ hB.1 hb0 hbb hB.2.2.2] at hg
  have hne:¬ ((frame (iH b)++(jI bs++x)).length:Int)=0:=by rw [List.length_append];omega
  have hlim:(l0.length+b.length)*64≤140737488355328∧(bs0.length+1)*24≤140737488355328:=by omega
  refine Ev.step (fun k=>by simp only [aJ.lp];rfl) ?_
  exact Ev.neg hne (Ev.bind hg (Ev.pos rfl (Ev.pos hlim ih)))
theorem DL (l:List Cell) (bs:List (List Cell)):Ev (fun k=>aJ.lp k [] l bs) (some (l,bs)):=by
 refine Ev.step (f:=fun _=>some (some (l,bs))) (fun k=>?_) (Ev.now _)
 simp only [aJ.lp,List.length_nil]
 rfl
theorem vw {bs:List (List Cell)} {fl:List Int} (hok:∀ b ∈ bs,jo b) (hbl:bs.length≤421) (hf:fl.length≤1000):(frame (jb bs fl)).length≤63812∧(num (frame (jb bs fl)).length).length=4:=by
 have h2:=tJ hok hbl hf
 have h3:=jB (r:=jb bs fl) (by omega)
 exact ⟨by omega,iA (by omega) (by omega)⟩
theorem rm {bs:List (List Cell)} {fl:List Int} (hok:∀ b ∈ bs,jo b) (hbl:bs.length≤421) (hf:fl.length≤1000):(iB bs fl).length=(jI bs).length+(frame (jb bs fl)).length+4∧(iB bs fl).length≤100000000:=by
 obtain ⟨h1,h2⟩:=vw hok hbl hf
 have h3:=sy bs hok
 unfold iB
 simp only [List.length_append]
 omega
theorem AQ {bs:List (List Cell)} {fl:List Int} (hok:∀ b ∈ bs,jo b) (hbl:bs.length≤421) (hf:fl.length≤1000):pO (iB bs fl)=((jI bs).length:Int):=by
 obtain ⟨h1,h2⟩:=vw hok hbl hf
 obtain ⟨h3,h4⟩:=rm hok hbl hf
 have hd:(iB bs fl).drop ((iB bs fl).length - 4)=num (frame (jb bs fl)).length:=by
  rw [h3]
  unfold iB
  rw [←List.append_assoc,show (jI bs).length+(frame (jb bs fl)).length+4 - 4=(jI bs++frame (jb bs fl)).length by rw [List.length_append];omega,List.drop_left]
 unfold pO
 rw [hd,h3,show num ((frame (jb bs fl)).length:Int)=num ((frame (jb bs fl)).length:Int)++[] by rw [List.append_nil],j4 (by omega) (by omega)]
 omega
theorem AP {bs:List (List Cell)} (hok:∀ b ∈ bs,jo b) (hbl:bs.length≤421) (hs:j9 bs.flatten) (hl:bs.flatten.length≤900) (hc:rN bs=true) :
  Ev (fun k=>aJ.f k (iB bs (eO bs.flatten))) (some (bs.flatten,bs,eO bs.flatten)):=by
 have hfl:=lJ bs.flatten
 have hfs:(eO bs.flatten).length≤1000:=by omega
 obtain ⟨h3,h4⟩:=rm hok hbl hfs
 have he:=AQ hok hbl hfs
 have hby:=xh bs (eO bs.flatten)
 refine Cq hby h4 (by omega) (by rw [he];omega) ?_ ((DB hs.1 hl hok hbl).to (if_pos ⟨kU.2 hs,hc,rfl⟩))
 rw [he,Int.toNat_natCast,show (iB bs (eO bs.flatten)).take (jI bs).length=jI bs from by unfold iB;rw [List.take_left]]
 have:=vA (r:=some (bs.flatten,bs)) Bytes.nil bs [] [] hok (by simp only [List.length_nil];omega) (by simp only [List.length_nil];omega) (by simp only [List.length_nil];omega) (DL _ _)
 rwa [List.append_nil] at this
theorem BV {W:Nat} {l:List Cell} (hs:j9 l) (hl:l.length≤420) (hw:∀ c ∈ l,(jr c).length≤W) (hW:W*l.length≤60150) {size:Nat} (h0:0<size) (h1:size≤4294967296):Ev (fun k=>aJ.f k (iB (iE size l [] 0) (eO l))) (some (l,iE size l [] 0,eO l)):=by
 have hfl:(iE size l [] 0).flatten=l:=by rw [oU,List.nil_append]
 have hg:=mP size l [] 0
 have hok:=tC hs hl hw hW h0
 have hc:rN (iE size l [] 0)=true:=(C6 (fun b hb=>(hok b hb).2.1)).2 ⟨(size:Int),by omega,by omega,D8 h0 l⟩
 have:=AP hok (by omega) (by rw [hfl];exact hs) (by rw [hfl];omega) hc
 rwa [hfl] at this
theorem oL:∀ {r r':List Cell},fP r→fP r'→(∀ c,c ∈ r↔c ∈ r')→r=r'
 | [],[],_,_,_=>rfl
 | [],b :: r',_,_,h=>by have:=(h b).2 List.mem_cons_self;cases this
 | a :: r,[],_,_,h=>by have:=(h a).1 List.mem_cons_self;cases this
 | a :: r,b :: r',h1,h2,h=>by
  obtain ⟨ha,h1'⟩:=List.pairwise_cons.1 h1
  obtain ⟨hb,h2'⟩:=List.pairwise_cons.1 h2
  have e:a=b:=by
   rcases List.mem_cons.1 ((h a).1 List.mem_cons_self) with e | h3
   ·
    exact e
   ·
    rcases List.mem_cons.1 ((h b).2 List.mem_cons_self) with e | h4
    ·
     exact e.symm
    ·
     have:=ha b h4
     have:=hb a h3
     have:=o3 a b
     omega
  subst e
  rw [oL h1' h2' (fun c=>?_)]
  constructor
  ·
   intro hc
   rcases List.mem_cons.1 ((h c).1 (List.mem_cons_of_mem _ hc)) with rfl | h3
   ·
    have:=ha c hc
    have:=oI c
    omega
   ·
    exact h3
  ·
   intro hc
   rcases List.mem_cons.1 ((h c).2 (List.mem_cons_of_mem _ hc)) with rfl | h3
   ·
    have:=hb c hc
    have:=oI c
    omega
   ·
    exact h3
theorem zL {l:List Cell} (h:fP l) {a b:Cell} (ha:a ∈ l) (hb:b ∈ l) (he:cc a b=0):a=b:=by
 obtain ⟨i,hi,rfl⟩:=List.getElem_of_mem ha
 obtain ⟨j,hj,rfl⟩:=List.getElem_of_mem hb
 rcases Nat.lt_trichotomy i j with hlt | rfl | hlt
 ·
  have:=List.pairwise_iff_getElem.1 h i j hi hj hlt
  omega
 ·
  rfl
 ·
  have:=List.pairwise_iff_getElem.1 h j i hj hi hlt
  have:=o3 l[j] l[i]
  omega
theorem iP:∀ (l:List Cell) {o:List Cell},fP o→fP (l.foldl (fun o c=>ins c o) o)
 | [],_,h=>h
 | _ :: l,_,h=>iP l (nk h)
theorem pI {a c:Cell} {o:List Cell} (h:fP o):c ∈ ins a o↔c=a∨(c ∈ o∧cc a c≠0):=by
 constructor
 ·
  intro hc
  by_cases e:c=a
  ·
   exact .inl e
  ·
   rcases oK hc with e' | ho
   ·
    exact absurd e' e
   ·
    exact .inr ⟨ho,fun h0=>e (zL (nk (c:=a) h) (nh a o) hc h0).symm⟩
 ·
  rintro (rfl | ⟨ho,h0⟩)
  ·
   exact nh c o
  ·
   exact qH (fun h=>h0 (BO h)) ho
theorem iN:∀ {l o:List Cell} {c:Cell},fP l→fP o→(c ∈ l.foldl (fun o c=>ins c o) o↔c ∈ l∨(c ∈ o∧∀ d ∈ l,cc d c≠0))
 | [],_,_,_,_=>by simp
 | a :: l,o,c,h,ho=>by
  obtain ⟨h1,h2⟩:=List.pairwise_cons.1 h
  rw [List.foldl_cons,iN h2 (nk ho),pI ho]
  constructor
  ·
   rintro (hc | ⟨rfl | ⟨hc,h0⟩,h3⟩)
   ·
    exact .inl (List.mem_cons_of_mem _ hc)
   ·
    exact .inl List.mem_cons_self
   ·
    refine .inr ⟨hc,fun d hd=>?_⟩
    rcases List.mem_cons.1 hd with rfl | hd
    ·
     exact h0
    ·
     exact h3 d hd
  ·
   rintro (hc | ⟨hc,h3⟩)
   ·
    rcases List.mem_cons.1 hc with rfl | hc
    ·
     refine .inr ⟨.inl rfl,fun d hd=>?_⟩
     have:=h1 d hd
     have:=o3 c d
     omega
    ·
     exact .inl hc
   ·
    exact .inr ⟨.inr ⟨hc,h3 a List.mem_cons_self⟩,fun d hd=>h3 d (List.mem_cons_of_mem _ hd)⟩
def w8 (c:Cell):Int:=(iF c.f0 c.f1 c.f2 c.f3 c.f4).length
def eL (l:List Cell):Int:=(l.map w8).sum
theorem qz {c:Cell} (h:fK c=true):gS.f c.f0 c.f1 c.f2 c.f3 c.f4=some (w8 c):=by
 obtain ⟨_,h1,_,h2,_,_,h3,_⟩:=gM.1 h
 unfold gS.f
 rw [nI c.f2 c.f4 (by omega) (by omega) (by omega)]
 rfl
theorem z8 {c:Cell} (h:fK c=true):0≤w8 c∧w8 c≤401:=by
 obtain ⟨_,h1,_,h2,_,_,h3,_⟩:=gM.1 h
 have:=kZ c.f0 c.f1 c.f2 c.f3 c.f4
 unfold w8
 omega
theorem j5 (l m:List Cell):eL (l++m)=eL l+eL m:=by simp [eL]
theorem lK (c:Cell) (l:List Cell):eL (c :: l)=w8 c+eL l:=by simp [eL]
theorem yj:∀ {l:List Cell},gj l→0≤eL l∧eL l≤401*l.length
 | [],_=>by simp [eL]
 | c :: l,h=>by
  have h1:=z8 (h c List.mem_cons_self)
  have h2:=yj (l:=l) (fun x hx=>h x (List.mem_cons_of_mem _ hx))
  rw [lK]
  simp only [List.length_cons]
  omega
theorem sI (t:Cell):∀ (l:List Cell) (j:Nat),j<dR t l→∀ hl:j<l.length,cc l[j] t = -1
 | [],j,h,_=>by simp [dR] at h
 | x :: l,j,h,hl=>by
  unfold dR at h
  split at h
  ·
   rename_i hx
   cases j with
   | zero=>exact hx
   | succ j=>exact sI t l j (by omega) (by simpa using hl)
  ·
   omega
theorem zl (t:Cell):∀ (l:List Cell) (h:dR t l<l.length),¬ cc l[dR t l] t = -1
 | [],h=>by simp at h
 | x :: l,h=>by
  by_cases hx:cc x t = -1
  ·
   have e:dR t (x :: l)=dR t l+1:=by simp [dR,hx]
   simp only [e,List.getElem_cons_succ]
   exact zl t l (by rw [e] at h;simpa using h)
  ·
   have e:dR t (x :: l)=0:=by simp [dR,hx]
   simp only [e,List.getElem_cons_zero]
   exact hx
theorem DI (c:Cell) (l:List Cell):ins c l=l.take (dR c l)++c :: l.drop (if h:dR c l<l.length then (if cc l[dR c l] c=0 then dR c l+1 else dR c l) else dR c l):=
 vF c l (dR c l) (pU c l) (sI c l) (zl c l)
theorem uF {xs:List Cell} {n:Int} (c:Cell) (ho:j9 xs) (hn:n=eL xs) (hl:xs.length≤2199023255500) :
  Ev (fun k=>gJ.f k xs n c.f0 c.f1 c.f2 c.f3 c.f4) (if fK c=true then (ins c xs,eL (ins c xs),true) else (xs,n,false)):=by
 unfold gJ.f
 rw [kJ]
 cases hr:fK c with
 | false=>
  rw [if_neg Bool.false_ne_true]
  unfold fK at hr
  simp only [hr,Option.bind_some]
  exact Ev.neg Bool.false_ne_true (Ev.now _)
 | true=>
  have hr':=hr
  unfold fK at hr'
  rw [if_pos rfl]
  simp only [hr',Option.bind_some]
  refine Ev.pos (by first | trivial | rfl) (Ev.bind (vp c ho.2 (by omega)) ?_)
  have hp:=DI c xs
  have hpl:=pU c xs
  have hs:=yj ho.1
  have hc:=z8 hr
  by_cases hlt:dR c xs<xs.length
  ·
   rw [dif_pos hlt] at hp ⊢
   by_cases h0:cc xs[dR c xs] c=0
   ·
    rw [if_pos h0] at hp
    refine Ev.pos (by simpa using h0) (Ev.pos ⟨by omega,by simpa using hlt⟩ ?_)
    have hq:=gY xs _ hlt
    unfold mS at hq
    have hrx:=ho.1 _ (List.getElem_mem hlt)
    simp only [hq,qz hrx,qz hr,Option.bind_some,Int.toNat_natCast]
    have hx:=z8 hrx
    have e1:eL xs=eL (xs.take (dR c xs))+(w8 xs[dR c xs]+eL (xs.drop (dR c xs+1))):=by
     conv=>lhs;rw [←List.take_append_drop (dR c xs) xs,List.drop_eq_getElem_cons hlt]
     rw [j5,lK]
    have e2:xs.set (dR c xs) c=ins c xs:=by rw [hp,List.set_eq_take_append_cons_drop,if_pos hlt]
    have e3:wrap64 (wrap64 (n - w8 xs[dR c xs])+w8 c)=eL (ins c xs):=by
     rw [hp,j5,lK,fU (x:=n - w8 xs[dR c xs]) (by omega) (by omega),fU (by omega) (by omega)]
     omega
    have e4:(⟨c.f0,c.f1,c.f2,c.f3,c.f4⟩:Cell)=c:=rfl
    rw [e4,e2,e3]
    exact Ev.now _
   ·
    rw [if_neg h0] at hp
    refine Ev.neg (by simpa using h0) (Ev.pos ⟨by omega,by simpa using hpl,by omega⟩ ?_)
    simp only [qz hr,Option.bind_some,Int.toNat_natCast]
    have e3:wrap64 (n+w8 c)=eL (ins c xs):=by
     have e1:eL xs=eL (xs.take (dR c xs))+eL (xs.drop (dR c xs)):=by rw [←j5,List.take_append_drop]
     rw [hp,j5,lK,fU (by omega) (by omega)]
     omega
    have e4:(⟨c.f0,c.f1,c.f2,c.f3,c.f4⟩:Cell)=c:=rfl
    rw [e4,← hp,e3]
    exact Ev.now _
  ·
   rw [dif_neg hlt] at hp ⊢
   refine Ev.neg Bool.false_ne_true (Ev.pos ⟨by omega,by simpa using hpl,by omega⟩ ?_)
   simp only [qz hr,Option.bind_some,Int.toNat_natCast]
   have e3:wrap64 (n+w8 c)=eL (ins c xs):=by
    have e1:eL xs=eL (xs.take (dR c xs))+eL (xs.drop (dR c xs)):=by rw [←j5,List.take_append_drop]
    rw [hp,j5,lK,fU (by omega) (by omega)]
    omega
   have e4:(⟨c.f0,c.f1,c.f2,c.f3,c.f4⟩:Cell)=c:=rfl
   rw [e4,← hp,e3]
   exact Ev.now _
abbrev Src:=ef
abbrev zS:Src:=iU
def hd (s:Src):Cell:=mS s.f0 0
def tM (a b:Src):Bool:=decide (cc (hd a) (hd b) = -1) || (decide (cc (hd a) (hd b)=0) && decide (a.f1<b.f1))
def oq (a b:Src):Prop:=tM b a=false
theorem kT {a b:Src}:oq a b↔cc (hd a) (hd b) = -1∨(cc (hd a) (hd b)=0∧a.f1≤b.f1):=by
 have h1:=sq (hd a) (hd b)
 have h2:=o3 (hd a) (hd b)
 unfold oq tM
 simp only [Bool.or_eq_false_iff,Bool.and_eq_false_iff,decide_eq_false_iff_not]
 omega
theorem zG {a b:Src}:tM a b=true↔cc (hd a) (hd b) = -1∨(cc (hd a) (hd b)=0∧a.f1<b.f1):=by
 unfold tM
 simp only [Bool.or_eq_true,Bool.and_eq_true,decide_eq_true_iff]
theorem qR (a:Src):oq a a:=kT.2 (.inr ⟨oI _,Int.le_refl _⟩)
theorem py {a b:Src} (h:tM a b=true):oq a b:=kT.2 ((zG.1 h).imp id (fun h=>⟨h.1,Int.le_of_lt h.2⟩))
theorem pu {a b c:Src} (h:oq a b) (h':oq b c):oq a c:=by
 rcases kT.1 h with h1 | ⟨h1,h2⟩<;>rcases kT.1 h' with h3 | ⟨h3,h4⟩
 ·
  exact kT.2 (.inl (jA h1 h3))
 ·
  exact kT.2 (.inl (by rw [←tv h3];exact h1))
 ·
  exact kT.2 (.inl (by rw [lN h1];exact h3))
 ·
  exact kT.2 (.inr ⟨by rw [lN h1];exact h3,by omega⟩)
theorem Bu (a b:Int):Ev (fun k=>cx.f k [a,b]) (if a=0 then b else a):=by
 unfold cx.f
 have hl:(([a,b]:List Int).length:Int)=2:=rfl
 rw [hl]
 by_cases ha:a=0
 ·
  rw [if_pos ha]
  refine Ev.step (f:=fun k=>cx.l0 k 0 [a,b] 2 1) (fun k=>?_) ?_
  ·
   simp only [cx.l0,hl]
   rw [if_pos (by omega),if_pos (by omega),if_pos (by omega),show rd [a,b] 0=a from rfl,if_pos ha,fU (by omega) (by omega)]
   rfl
  by_cases hb:b=0
  ·
   refine Ev.step (f:=fun k=>cx.l0 k 0 [a,b] 2 2) (fun k=>?_) ?_
   ·
    simp only [cx.l0,hl]
    rw [if_pos (by omega),if_pos (by omega),if_pos (by omega),show rd [a,b] 1=b from rfl,if_pos hb,fU (by omega) (by omega)]
    rfl
   refine Ev.step (f:=fun _=>some 0) (fun k=>?_) ((Ev.now 0).to hb.symm)
   simp only [cx.l0]
   rw [if_neg (by omega)]
  ·
   refine Ev.step (f:=fun _=>some b) (fun k=>?_) (Ev.now _)
   simp only [cx.l0,hl]
   rw [if_pos (by omega),if_pos (by omega),if_pos (by omega),show rd [a,b] 1=b from rfl,if_neg hb]
 ·
  rw [if_neg ha]
  refine Ev.step (f:=fun _=>some a) (fun k=>?_) (Ev.now _)
  simp only [cx.l0,hl]
  rw [if_pos (by omega),if_pos (by omega),if_pos (by omega),show rd [a,b] 0=a from rfl,if_neg ha]
abbrev gQ (xs:List Src) (i:Nat):Src:=xs.getD i zS
theorem uS {xs:List Src} {i j:Nat} (hi:i<xs.length) (hj:j<xs.length) (h0:0<(gQ xs i).f0.length) (h1:0<(gQ xs j).f0.length):Ev (fun k=>bJ.f k xs (i:Int) (j:Int)) (tM (gQ xs i) (gQ xs j)):=by
 have hc:=sq (hd (gQ xs i)) (hd (gQ xs j))
 unfold bJ.f
 have ei:bY xs (i:Int)=gQ xs i:=by show xs.getD (i:Int).toNat _=_;rw [Int.toNat_natCast]
 have ej:bY xs (j:Int)=gQ xs j:=by show xs.getD (j:Int).toNat _=_;rw [Int.toNat_natCast]
 rw [ei,ej]
 refine Ev.pos (by omega) (Ev.pos (by omega) (Ev.pos (by omega) (Ev.pos (by omega) (Ev.pos (by omega) (Ev.pos (by omega) ?_)))))
 refine Ev.bind (o6 _ _ _ _ _ _ _ _ _ _) ?_
 rw [vG]
 refine Ev.congr (fun k=>Option.bind_some _ _) (Ev.bind (Bu _ _) (Ev.eq ?_))
 congr 1
 rw [Bool.eq_iff_iff,decide_eq_true_iff,zG]
 show (if cc (hd (gQ xs i)) (hd (gQ xs j))=0 then kV (gQ xs i).f1 (gQ xs j).f1 else cc (hd (gQ xs i)) (hd (gQ xs j)))<0↔_
 have hn:=zH (gQ xs i).f1 (gQ xs j).f1
 have hn2:=qu (a:=(gQ xs i).f1) (b:=(gQ xs j).f1)
 split<;>omega
theorem qC {xs:List Src} {i j:Nat} (hi:i<xs.length) (hj:j<xs.length):(iT xs i j).Perm xs:=by
 unfold iT
 have e1:xs.getD j zS=xs[j]:=by rw [List.getD_eq_getElem?_getD,List.getElem?_eq_getElem hj];rfl
 have e2:xs.getD i zS=xs[i]:=by rw [List.getD_eq_getElem?_getD,List.getElem?_eq_getElem hi];rfl
 rw [e1,e2]
 exact List.set_set_perm hi hj
theorem xY {xs:List Src} {i:Nat} (hi:i<xs.length) (v:Src) (m:Nat):gQ (xs.set i v) m=if m=i then v else gQ xs m:=by
 unfold gQ
 rw [List.getD_eq_getElem?_getD,List.getD_eq_getElem?_getD]
 by_cases h:m=i
 ·
  subst h
  rw [List.getElem?_set_self hi,if_pos rfl]
  rfl
 ·
  rw [List.getElem?_set_ne (fun e=>h e.symm),if_neg h]
theorem rK {xs:List Src} {i j:Nat} (hi:i<xs.length) (hj:j<xs.length) (m:Nat):gQ (iT xs i j) m=if m=j then gQ xs i else if m=i then gQ xs j else gQ xs m:=by
 unfold iT
 rw [xY (by rw [List.length_set];exact hj),xY hi]
def oF (n:Nat) (xs:List Src):Prop:=∀ m,0<m→m<n→oq (gQ xs ((m - 1) / 2)) (gQ xs m)
theorem Da {n:Nat} {xs:List Src} (h:oF n xs):∀ m,m<n→oq (gQ xs 0) (gQ xs m):=by
 intro m
 induction m using Nat.strongRecOn with
 | _ m ih=>
  intro hm
  by_cases h0:m=0
  ·
   subst h0
   exact qR _
  ·
   exact pu (ih ((m - 1) / 2) (by omega) (by omega)) (h m (by omega) hm)
def Dq (n i:Nat) (xs:List Src):Prop:=(∀ m,0<m→m<n→(m - 1) / 2≠i→oq (gQ xs ((m - 1) / 2)) (gQ xs m))∧(0<i→∀ m,0<m→m<n→(m - 1) / 2=i→oq (gQ xs ((i - 1) / 2)) (gQ xs m))
def ux {α:Type} (f:Nat→Nat→Option α) (r:α):Prop:=∃ k0,∀ k m,k0≤k→k0≤m→f k m=some r
theorem zy (n:Nat) (d:Nat):∀ (xs:List Src) (i:Nat),n - i≤d→Dq n i xs→n≤xs.length→(∀ m,m<n→0<(gQ xs m).f0.length)→∃ r q,ux (fun k m=>iG k n m xs i) (r,q)∧r.Perm xs∧oF n r∧∀ m,n≤m→gQ r m=gQ xs m:=by
 induction d with
 | zero=>
  intro xs i hd hP hn hne
  refine ⟨xs,i,⟨1,fun k m _ hm=>?_⟩,List.Perm.refl _,fun m h0 hm=>hP.1 m h0 hm (by omega),fun _ _=>rfl⟩
  obtain ⟨m,rfl⟩:∃ m',m=m'+1:=⟨m - 1,by omega⟩
  show iG k n (m+1) _ _=_
  rw [iG,if_pos (by omega)]
 | succ d ih=>
  intro xs i hd hP hn hne
  by_cases hj1:n≤2*i+1
  ·
   refine ⟨xs,i,⟨1,fun k m _ hm=>?_⟩,List.Perm.refl _,fun m h0 hm=>hP.1 m h0 hm (by omega),fun _ _=>rfl⟩
   obtain ⟨m,rfl⟩:∃ m',m=m'+1:=⟨m - 1,by omega⟩
   show iG k n (m+1) _ _=_
   rw [iG,if_pos hj1]
  ·
   have hb:∃ b:Bool,Ev (fun k=>if 2*i+2<n then bJ.f k xs ((2*i+2:Nat):Int) ((2*i+1:Nat):Int) else some false) b∧∀ m,0<m→m<n→(m - 1) / 2=i→oq (gQ xs (if b=true then 2*i+2 else 2*i+1)) (gQ xs m)∧(if b=true then 2*i+2 else 2*i+1)<n:=by
    by_cases h2:2*i+2<n
    ·
     refine ⟨_,Ev.pos h2 (uS (by omega) (by omega) (hne _ h2) (hne _ (by omega))),fun m h0 hm hp=>?_⟩
     have hm2:m=2*i+1∨m=2*i+2:=by omega
     cases hb:tM (gQ xs (2*i+2)) (gQ xs (2*i+1)) with
     | true=>
      rw [if_pos rfl]
      rcases hm2 with rfl | rfl
      ·
       exact ⟨py hb,by omega⟩
      ·
       exact ⟨qR _,by omega⟩
     | false=>
      rw [if_neg Bool.false_ne_true]
      rcases hm2 with rfl | rfl
      ·
       exact ⟨qR _,by omega⟩
      ·
       exact ⟨hb,by omega⟩
    ·
     refine ⟨false,Ev.neg h2 (Ev.now _),fun m h0 hm hp=>?_⟩
     obtain rfl:m=2*i+1:=by omega
     exact ⟨qR _,by simp;omega⟩
   obtain ⟨b,hbe,hbl⟩:=hb
   obtain ⟨j,hj⟩:∃ j,(if b=true then 2*i+2 else 2*i+1)=j:=⟨_,rfl⟩
   have hj3:j=2*i+1∨j=2*i+2:=by rw [←hj];cases b<;>simp
   have hjn:j<n:=by rw [←hj];exact (hbl (2*i+1) (by omega) (by omega) (by omega)).2
   have hjl:∀ m,0<m→m<n→(m - 1) / 2=i→oq (gQ xs j) (gQ xs m):=fun m h0 hm hp=>by rw [←hj];exact (hbl m h0 hm hp).1
   have hce:=uS (xs:=xs) (i:=j) (j:=i) (by omega) (by omega) (hne _ hjn) (hne _ (by omega))
   obtain ⟨k1,hk1⟩:=hbe
   obtain ⟨k2,hk2⟩:=hce
   cases hc:tM (gQ xs j) (gQ xs i) with
   | false=>
    refine ⟨xs,i,⟨k1+k2+1,fun k m hk hm=>?_⟩,List.Perm.refl _,fun m h0 hm=>?_,fun _ _=>rfl⟩
    ·
     obtain ⟨m,rfl⟩:∃ m',m=m'+1:=⟨m - 1,by omega⟩
     have e1:=hk1 k (by omega)
     have e2:=hk2 k (by omega)
     simp only at e1 e2
     show iG k n (m+1) _ _=_
     rw [iG,if_neg hj1,e1,Option.bind_some,hj,e2,Option.bind_some,hc,if_neg Bool.false_ne_true]
    ·
     by_cases hp:(m - 1) / 2=i
     ·
      rw [hp]
      exact pu hc (hjl m h0 hm hp)
     ·
      exact hP.1 m h0 hm hp
   | true=>
    have hil:i<xs.length:=by omega
    have hjx:j<xs.length:=by omega
    have hg:=rK hil hjx
    have hP':Dq n j (iT xs i j):=by
     refine ⟨fun m h0 hm hp=>?_,fun _ m h0 hm hp=>?_⟩
     ·
      rw [hg,hg]
      by_cases hmj:m=j
      ·
       subst hmj
       rw [if_pos rfl,if_neg hp,if_pos (by omega)]
       exact py hc
      ·
       rw [if_neg hp,if_neg hmj]
       by_cases hpi:(m - 1) / 2=i
       ·
        rw [if_pos hpi,if_neg (by omega)]
        exact hjl m h0 hm hpi
       ·
        rw [if_neg hpi]
        by_cases hmi:m=i
        ·
         subst hmi
         rw [if_pos rfl]
         exact hP.2 h0 j (by omega) hjn (by omega)
        ·
         rw [if_neg hmi]
         exact hP.1 m h0 hm hpi
     ·
      rw [show (j - 1) / 2=i by omega,hg,hg,if_neg (by omega),if_pos rfl,if_neg (by omega),if_neg (by omega)]
      have:=hP.1 m h0 hm (by omega)
      rw [hp] at this
      exact this
    obtain ⟨r,q,⟨k3,hk3⟩,hpm,hh,hf⟩:=ih (iT xs i j) j (by omega) hP' (by rw [fR];exact hn) (fun m hm=>by
     rw [hg]
     split
     ·
      exact hne _ (by omega)
     ·
      split
      ·
       exact hne _ hjn
      ·
       exact hne _ hm)
    refine ⟨r,q,⟨k1+k2+k3+1,fun k m hk hm=>?_⟩,hpm.trans (qC hil hjx),hh,fun m hm=>?_⟩
    ·
     obtain ⟨m,rfl⟩:∃ m',m=m'+1:=⟨m - 1,by omega⟩
     have e1:=hk1 k (by omega)
     have e2:=hk2 k (by omega)
     simp only at e1 e2
     show iG k n (m+1) _ _=_
     rw [iG,if_neg hj1,e1,Option.bind_some,hj,e2,Option.bind_some,hc,if_pos rfl]
     exact hk3 k m (by omega) (by omega)
    ·
     rw [hf m hm,hg,if_neg (by omega),if_neg (by omega)]
def UpP (j:Nat) (xs:List Src):Prop:=(∀ m,0<m→m<xs.length→m≠j→oq (gQ xs ((m - 1) / 2)) (gQ xs m))∧(0<j→∀ m,0<m→m<xs.length→(m - 1) / 2=j→oq (gQ xs ((j - 1) / 2)) (gQ xs m))
theorem Fm:∀ (j:Nat) (xs:List Src),j<xs.length→UpP j xs→(∀ m,m<xs.length→0<(gQ xs m).f0.length)→∃ r,ux (fun k m=>mC k m xs j) r∧r.Perm xs∧oF r.length r:=by
 intro j
 induction j using Nat.strongRecOn with
 | _ j ih=>
  intro xs hjl hP hne
  by_cases h0:j=0
  ·
   subst h0
   refine ⟨xs,⟨1,fun k m _ hm=>?_⟩,List.Perm.refl _,fun m h0 hm=>hP.1 m h0 hm (by omega)⟩
   obtain ⟨m,rfl⟩:∃ m',m=m'+1:=⟨m - 1,by omega⟩
   show mC k (m+1) _ _=_
   rw [mC,if_pos rfl]
  ·
   obtain ⟨i,hi⟩:∃ i,(j - 1) / 2=i:=⟨_,rfl⟩
   have hil:i<xs.length:=by omega
   obtain ⟨k1,hk1⟩:=uS (xs:=xs) (i:=j) (j:=i) hjl hil (hne _ hjl) (hne _ hil)
   cases hc:tM (gQ xs j) (gQ xs i) with
   | false=>
    refine ⟨xs,⟨k1+1,fun k m hk hm=>?_⟩,List.Perm.refl _,fun m h0 hm=>?_⟩
    ·
     obtain ⟨m,rfl⟩:∃ m',m=m'+1:=⟨m - 1,by omega⟩
     have e1:=hk1 k (by omega)
     simp only at e1
     show mC k (m+1) _ _=_
     rw [mC,if_neg h0,hi,e1,Option.bind_some,hc,if_neg Bool.false_ne_true]
    ·
     by_cases hm2:m=j
     ·
      subst hm2
      rw [hi]
      exact hc
     ·
      exact hP.1 m h0 hm hm2
   | true=>
    have hg:=rK hil hjl
    have hP':UpP i (iT xs i j):=by
     refine ⟨fun m h0 hm hp=>?_,fun h0i m h0 hm hp=>?_⟩
     ·
      rw [fR] at hm
      rw [hg,hg]
      by_cases hmj:m=j
      ·
       subst hmj
       rw [if_pos rfl,hi,if_neg (by omega),if_pos rfl]
       exact py hc
      ·
       rw [if_neg hmj,if_neg hp]
       by_cases hpj:(m - 1) / 2=j
       ·
        rw [if_pos hpj]
        have:=hP.2 (by omega) m h0 hm hpj
        rw [hi] at this
        exact this
       ·
        rw [if_neg hpj]
        by_cases hpi:(m - 1) / 2=i
        ·
         rw [if_pos hpi]
         have:=hP.1 m h0 hm hmj
         rw [hpi] at this
         exact pu (py hc) this
        ·
         rw [if_neg hpi]
         exact hP.1 m h0 hm hmj
     ·
      rw [fR] at hm
      have h1:=hP.1 i h0i hil (by omega)
      rw [hg,hg,if_neg (by omega),if_neg (by omega)]
      by_cases hmj:m=j
      ·
       rw [if_pos hmj]
       exact h1
      ·
       rw [if_neg hmj,if_neg (by omega)]
       have:=hP.1 m h0 hm hmj
       rw [hp] at this
       exact pu h1 this
    obtain ⟨r,⟨k3,hk3⟩,hpm,hh⟩:=ih i (by omega) (iT xs i j) (by rw [fR];exact hil) hP' (fun m hm=>by
     rw [fR] at hm
     rw [hg]
     split
     ·
      exact hne _ hil
     ·
      split
      ·
       exact hne _ hjl
      ·
       exact hne _ hm)
    refine ⟨r,⟨k1+k3+1,fun k m hk hm=>?_⟩,hpm.trans (qC hil hjl),hh⟩
    obtain ⟨m,rfl⟩:∃ m',m=m'+1:=⟨m - 1,by omega⟩
    have e1:=hk1 k (by omega)
    simp only at e1
    show mC k (m+1) _ _=_
    rw [mC,if_neg h0,hi,e1,Option.bind_some,hc,if_pos rfl]
    exact hk3 k m (by omega) (by omega)
abbrev m9 (L:List (List Cell)) (i:Nat):List Cell:=L.getD i []
def C0 (L:List (List Cell)) (c:Cell):Prop:=∃ i,i<L.length∧c ∈ m9 L i∧∀ j,j<i→∀ d ∈ m9 L j,cc d c≠0
structure oM (L:List (List Cell)) (r:List Cell):Prop where
 ord:fP r
 win:∀ c ∈ r,C0 L c
 all:∀ i,i<L.length→∀ c ∈ m9 L i,∃ d ∈ r,cc d c=0
def gO (L:List (List Cell)):Prop:=∀ i,fP (m9 L i)
theorem uf {L:List (List Cell)} {r:List Cell} (hL:gO L) (h:oM L r) (c:Cell):c ∈ r↔C0 L c:=by
 refine ⟨h.win c,fun hc=>?_⟩
 obtain ⟨i,hi,hm,hf⟩:=hc
 obtain ⟨d,hd,he⟩:=h.all i hi c hm
 obtain ⟨j,hj,hdm,hdf⟩:=h.win d hd
 have hij:i=j:=by
  rcases Nat.lt_trichotomy i j with hlt | e | hlt
  ·
   exact absurd (BO he) (hdf i hlt c hm)
  ·
   exact e
  ·
   exact absurd he (hf j hlt d hdm)
 subst hij
 rw [←zL (hL i) hdm hm he]
 exact hd
theorem yK {L:List (List Cell)} {r r':List Cell} (hL:gO L) (h:oM L r) (h':oM L r'):r=r':=
 oL h.ord h'.ord (fun c=>(uf hL h c).trans (uf hL h' c).symm)
structure vu (L:List (List Cell)) (q:List Src) (out:List Cell):Prop where
 heap:oF q.length q
 ne:∀ s ∈ q,0<s.f0.length
 nod:(q.map (fun s:Src=>s.f1)).Nodup
 suf:∀ s ∈ q,∃ i:Nat,s.f1=(i:Int)∧i<L.length∧∃ used,m9 L i=used++s.f0∧∀ c ∈ used,∃ d ∈ out,cc d c=0
 done:∀ i,i<L.length→(∀ s ∈ q,s.f1≠(i:Int))→∀ c ∈ m9 L i,∃ d ∈ out,cc d c=0
 ord:fP out
 win:∀ c ∈ out,C0 L c
 low:∀ d ∈ out,∀ s ∈ q,∀ c ∈ s.f0,cc d c = -1∨cc d c=0
def ol (q:List Src):Nat:=(q.map (fun s:Src=>s.f0.length)).sum
theorem o7 (s:Src) (q:List Src):ol (s :: q)=s.f0.length+ol q:=by simp [ol]
theorem vI {q q':List Src} (h:q.Perm q'):ol q=ol q':=by
 unfold ol
 exact List.Perm.sum_nat (h.map _)
theorem sW:∀ {q:List Src},(∀ s ∈ q,0<s.f0.length)→q.length≤ol q
 | [],_=>Nat.zero_le _
 | s :: q,h=>by
  have:=sW (q:=q) (fun s hs=>h s (List.mem_cons_of_mem _ hs))
  have:=h s List.mem_cons_self
  rw [o7,List.length_cons]
  omega
theorem nB {s:Src} (h:0<s.f0.length):s.f0=hd s :: s.f0.drop 1:=by
 obtain ⟨l,n⟩:=s
 cases l with
 | nil=>cases h
 | cons c l=>rfl
theorem rS {q:List Src} {m:Nat} (h:m<q.length):gQ q m ∈ q:=by
 unfold gQ
 rw [List.getD_eq_getElem?_getD,List.getElem?_eq_getElem h]
 exact List.getElem_mem h
theorem Eu {q:List Src} {s:Src} (h:s ∈ q):∃ m,m<q.length∧gQ q m=s:=by
 obtain ⟨m,hm,rfl⟩:=List.getElem_of_mem h
 refine ⟨m,hm,?_⟩
 unfold gQ
 rw [List.getD_eq_getElem?_getD,List.getElem?_eq_getElem hm]
 rfl
theorem D_ {out:List Cell} (h:0<out.length):mS out ((out.length:Int) - 1)=out[out.length - 1]:=by
 rw [show ((out.length:Int) - 1)=((out.length - 1:Nat):Int) by omega]
 exact gY out _ (by omega)
theorem DM {out:List Cell} (c:Cell):Ev (fun k=>nD k out c) (if h:0<out.length then !(cc out[out.length - 1] c == 0) else true):=by
 unfold nD
 by_cases h:out.length=0
 ·
  rw [dif_neg (by omega)]
  exact Ev.pos h (Ev.now _)
 ·
  rw [dif_pos (by omega)]
  have e:=D_ (out:=out) (by omega)
  unfold mS at e
  rw [e]
  exact Ev.neg h (Ev.bind (mX _ _) (Ev.now _))
def ox (s:Src) (q:List Src):List Src:=if s.f0.length=1 then q else (⟨s.f0.drop 1,s.f1⟩:Src) :: q
theorem DR {s:Src} {q:List Src} (hh:oF (q.length+1) (s :: q)) (hs:0<s.f0.length) (hne:∀ x ∈ q,0<x.f0.length):∃ q',Ev (fun k=>oJ k s q) q'∧q'.Perm (ox s q)∧oF q'.length q':=by
 have hsame:∀ (x:Src) m,0<m→gQ (x :: q) m=gQ (s :: q) m:=by
  intro x m hm
  obtain ⟨m,rfl⟩:∃ m',m=m'+1:=⟨m - 1,by omega⟩
  rfl
 unfold oJ ox
 by_cases h1:s.f0.length=1
 ·
  rw [if_pos h1]
  have hg:=rK (xs:=(⟨s.f0.drop 1,s.f1⟩:Src) :: q) (i:=0) (j:=q.length) (by simp) (by simp)
  obtain ⟨r,p,⟨k0,hk⟩,hpm,hr,hf⟩:=zy q.length q.length (iT ((⟨s.f0.drop 1,s.f1⟩:Src) :: q) 0 q.length) 0 (by omega) ⟨fun m h0 hm hp=>by
    rw [hg,hg,if_neg (by omega),if_neg hp,if_neg (by omega),if_neg (by omega),hsame _ _ (by omega),hsame _ _ h0]
    exact hh m h0 (by omega),fun h=>absurd h (by omega)⟩ (by rw [fR];simp) (fun m hm=>by
    rw [hg,if_neg (by omega)]
    split
    ·
     rename_i h0
     rw [hsame _ _ (by omega)]
     have:gQ (s :: q) q.length ∈ s :: q:=rS (by simp)
     have h2:gQ (s :: q) q.length=gQ q (q.length - 1):=by
      obtain ⟨n,hn⟩:∃ n,q.length=n+1:=⟨q.length - 1,by omega⟩
      rw [hn]
      rfl
     rw [h2]
     exact hne _ (rS (by omega))
    ·
     rename_i h0
     obtain ⟨m,rfl⟩:∃ m',m=m'+1:=⟨m - 1,by omega⟩
     exact hne _ (rS (by omega)))
  have hrl:r.length=q.length+1:=by rw [hpm.length_eq,fR];rfl
  have hlast:gQ r q.length=(⟨s.f0.drop 1,s.f1⟩:Src):=by
   rw [hf _ (Nat.le_refl _),hg,if_pos rfl]
   rfl
  have hsplit:r=r.take q.length++[(⟨s.f0.drop 1,s.f1⟩:Src)]:=by
   have e:=List.take_append_drop q.length r
   have e2:r.drop q.length=[(⟨s.f0.drop 1,s.f1⟩:Src)]:=by
    rw [List.drop_eq_getElem_cons (by omega),List.drop_eq_nil_of_le (by omega)]
    congr 1
    rw [←hlast]
    unfold gQ
    rw [List.getD_eq_getElem?_getD,List.getElem?_eq_getElem (by omega)]
    rfl
   rw [e2] at e
   exact e.symm
  have hp2:(r.take q.length).Perm q:=by
   have h3:((⟨s.f0.drop 1,s.f1⟩:Src) :: r.take q.length).Perm ((⟨s.f0.drop 1,s.f1⟩:Src) :: q):=by
    refine (List.perm_append_comm (l₁:=[(⟨s.f0.drop 1,s.f1⟩:Src)]) (l₂:=r.take q.length)).trans ?_
    rw [←hsplit]
    exact hpm.trans (qC (by simp) (by simp))
   exact (List.perm_cons _).1 h3
  refine ⟨r.take q.length,⟨k0,fun k hk2=>?_⟩,hp2,fun m h0 hm=>?_⟩
  ·
   have e:=hk k k hk2 hk2
   simp only at e
   show (if s.f0.length=1 then _ else _)=_
   rw [if_pos h1,e]
   rfl
  ·
   have hml:m<q.length:=by rw [List.length_take] at hm;omega
   have hgt:∀ m,m<q.length→gQ (r.take q.length) m=gQ r m:=by
    intro m hm
    unfold gQ
    rw [List.getD_eq_getElem?_getD,List.getD_eq_getElem?_getD,List.getElem?_take,if_pos hm]
   rw [hgt _ (by omega),hgt _ hml]
   exact hr m h0 hml
 ·
  rw [if_neg h1]
  obtain ⟨r,p,⟨k0,hk⟩,hpm,hr,_⟩:=zy (q.length+1) (q.length+1) ((⟨s.f0.drop 1,s.f1⟩:Src) :: q) 0 (by omega) ⟨fun m h0 hm hp=>by
    rw [hsame _ _ (by omega),hsame _ _ h0]
    exact hh m h0 hm,fun h=>absurd h (by omega)⟩ (by simp) (fun m hm=>by
    by_cases h0:m=0
    ·
     subst h0
     show 0<(s.f0.drop 1).length
     rw [List.length_drop]
     omega
    ·
     obtain ⟨m,rfl⟩:∃ m',m=m'+1:=⟨m - 1,by omega⟩
     exact hne _ (rS (by omega)))
  refine ⟨r,⟨k0,fun k hk2=>?_⟩,hpm,?_⟩
  ·
   have e:=hk k k hk2 hk2
   simp only at e
   show (if s.f0.length=1 then _ else _)=_
   rw [if_neg h1,e]
   rfl
  ·
   rw [hpm.length_eq]
   exact hr
theorem Dt {L:List (List Cell)} {q:List Src} {out:List Cell} (hL:gO L) (h:vu L q out) {s:Src} (hs:s ∈ q) {c:Cell} (hc:c ∈ s.f0):cc (hd s) c = -1∨cc (hd s) c=0:=by
 obtain ⟨i,_,hi,used,hu,_⟩:=h.suf s hs
 have ho:=hL i
 rw [hu,nB (h.ne s hs)] at ho
 obtain ⟨_,ho,_⟩:=List.pairwise_append.1 ho
 rw [nB (h.ne s hs)] at hc
 rcases List.mem_cons.1 hc with rfl | hc
 ·
  exact .inr (oI _)
 ·
  exact .inl ((List.pairwise_cons.1 ho).1 c hc)
theorem D6 {L:List (List Cell)} {q:List Src} {out:List Cell} (hL:gO L) (h:vu L q out) {s:Src} (hs:s ∈ q) {c:Cell} (hc:c ∈ s.f0.drop 1):cc (hd s) c = -1:=by
 obtain ⟨i,_,hi,used,hu,_⟩:=h.suf s hs
 have ho:=hL i
 rw [hu,nB (h.ne s hs)] at ho
 obtain ⟨_,ho,_⟩:=List.pairwise_append.1 ho
 exact (List.pairwise_cons.1 ho).1 c hc
theorem rQ {s x:Src} {q:List Src} (h:x ∈ ox s q):x ∈ q∨(x=(⟨s.f0.drop 1,s.f1⟩:Src)∧s.f0.length≠1):=by
 unfold ox at h
 split at h
 ·
  exact .inl h
 ·
  rename_i h1
  rcases List.mem_cons.1 h with rfl | h
  ·
   exact .inr ⟨rfl,h1⟩
  ·
   exact .inl h
theorem CM {L:List (List Cell)} {s:Src} {q q':List Src} {out:List Cell} (hL:gO L) (h:vu L (s :: q) out) (hp:q'.Perm (ox s q)) (hh:oF q'.length q') {b:Bool} (hb:b=if h:0<out.length then !(cc out[out.length - 1] (hd s) == 0) else true):vu L q' (if b=true then out++[hd s] else out):=by
 have hs:=h.ne s List.mem_cons_self
 have hlow:∀ d ∈ out,cc d (hd s) = -1∨cc d (hd s)=0:=fun d hd_=>h.low d hd_ s List.mem_cons_self (hd s) (by rw [nB hs];exact List.mem_cons_self)
 have hmin:∀ x ∈ s :: q,oq s x:=by
  intro x hx
  obtain ⟨m,hm,rfl⟩:=Eu hx
  exact Da h.heap m hm
 -- what is put out is above all that is out
 have habove:b=true→∀ d ∈ out,cc d (hd s) = -1:=by
  intro hbt d hd_
  have h0:0<out.length:=List.length_pos_of_mem hd_
  rw [hb,dif_pos h0] at hbt
  have hne:cc out[out.length - 1] (hd s)≠0:=by simpa using hbt
  have hlast:cc out[out.length - 1] (hd s) = -1:=(hlow _ (List.getElem_mem _)).resolve_right hne
  obtain ⟨i,hi,rfl⟩:=List.getElem_of_mem hd_
  by_cases hl:i=out.length - 1
  ·
   subst hl
   exact hlast
  ·
   exact jA (List.pairwise_iff_getElem.1 h.ord i (out.length - 1) hi (by omega) (by omega)) hlast
 have hcov:∃ d ∈ (if b=true then out++[hd s] else out),cc d (hd s)=0:=by
  cases b with
  | true=>exact ⟨hd s,by simp,oI _⟩
  | false=>
   by_cases h0:0<out.length
   ·
    rw [dif_pos h0] at hb
    exact ⟨out[out.length - 1],by simp,by simpa using hb.symm⟩
   ·
    rw [dif_neg h0] at hb
    cases hb
 have hsub:∀ d ∈ out,d ∈ (if b=true then out++[hd s] else out):=by
  intro d hd_
  split
  ·
   exact List.mem_append_left _ hd_
  ·
   exact hd_
 have hnod:=h.nod
 rw [List.map_cons,List.nodup_cons] at hnod
 refine ⟨hh,fun x hx=>?_,?_,fun x hx=>?_,fun i hi hno c hc=>?_,?_,?_,?_⟩
 ·
  rcases rQ (hp.subset hx) with hx | ⟨rfl,h1⟩
  ·
   exact h.ne x (List.mem_cons_of_mem _ hx)
  ·
   show 0<(s.f0.drop 1).length
   rw [List.length_drop]
   omega
 ·
  rw [(hp.map _).nodup_iff]
  unfold ox
  split
  ·
   exact hnod.2
  ·
   rw [List.map_cons,List.nodup_cons]
   exact hnod
 ·
  rcases rQ (hp.subset hx) with hx | ⟨rfl,h1⟩
  ·
   obtain ⟨i,e1,e2,used,e3,e4⟩:=h.suf x (List.mem_cons_of_mem _ hx)
   exact ⟨i,e1,e2,used,e3,fun c hc=>(e4 c hc).elim (fun d hd_=>⟨d,hsub d hd_.1,hd_.2⟩)⟩
  ·
   obtain ⟨i,e1,e2,used,e3,e4⟩:=h.suf s List.mem_cons_self
   refine ⟨i,e1,e2,used++[hd s],?_,fun c hc=>?_⟩
   ·
    rw [e3]
    conv=>lhs;rw [nB hs]
    simp
   ·
    rcases List.mem_append.1 hc with hc | hc
    ·
     exact (e4 c hc).elim (fun d hd_=>⟨d,hsub d hd_.1,hd_.2⟩)
    ·
     rw [List.mem_singleton.1 hc]
     exact hcov
 ·
  by_cases his:s.f1=(i:Int)
  ·
   have h1:s.f0.length=1:=by
    refine Classical.byContradiction fun h1=>?_
    refine hno (⟨s.f0.drop 1,s.f1⟩:Src) (hp.symm.subset ?_) his
    unfold ox
    rw [if_neg h1]
    exact List.mem_cons_self
   obtain ⟨i',e1,e2,used,e3,e4⟩:=h.suf s List.mem_cons_self
   have:i'=i:=by omega
   subst this
   rw [e3] at hc
   rcases List.mem_append.1 hc with hc | hc
   ·
    exact (e4 c hc).elim (fun d hd_=>⟨d,hsub d hd_.1,hd_.2⟩)
   ·
    rw [nB hs,List.drop_eq_nil_of_le (by omega)] at hc
    rw [List.mem_singleton.1 hc]
    exact hcov
  ·
   refine (h.done i hi (fun x hx=>?_) c hc).elim (fun d hd_=>⟨d,hsub d hd_.1,hd_.2⟩)
   rcases List.mem_cons.1 hx with rfl | hx
   ·
    exact his
   ·
    refine hno x (hp.symm.subset ?_)
    unfold ox
    split
    ·
     exact hx
    ·
     exact List.mem_cons_of_mem _ hx
 ·
  split
  ·
   rename_i hbt
   exact List.pairwise_append.2 ⟨h.ord,List.pairwise_singleton _ _,fun d hd_ c hc=>by rw [List.mem_singleton.1 hc];exact habove hbt d hd_⟩
  ·
   exact h.ord
 ·
  intro c hc
  split at hc
  ·
   rename_i hbt
   rcases List.mem_append.1 hc with hc | hc
   ·
    exact h.win c hc
   ·
    rw [List.mem_singleton.1 hc]
    obtain ⟨i,e1,e2,used,e3,e4⟩:=h.suf s List.mem_cons_self
    refine ⟨i,e2,?_,fun j hj d hdj hde=>?_⟩
    ·
     rw [e3,nB hs]
     simp
    ·
     have hcontra:∀ e ∈ out,cc e d=0→False:=by
      intro e he h0
      have h1:=habove hbt e he
      have h2:=lN h0 (hd s)
      omega
     by_cases hsrc:∃ x ∈ s :: q,x.f1=(j:Int)
     ·
      obtain ⟨x,hx,hxj⟩:=hsrc
      obtain ⟨j',f1,f2,used',f3,f4⟩:=h.suf x hx
      have:j'=j:=by omega
      subst this
      rw [f3] at hdj
      rcases List.mem_append.1 hdj with hdj | hdj
      ·
       obtain ⟨e,he,h0⟩:=f4 d hdj
       exact hcontra e he h0
      ·
       have h1:=Dt hL h hx hdj
       rcases kT.1 (hmin x hx) with h2 | ⟨h2,h3⟩
       ·
        have:cc (hd s) d = -1:=by
         rcases h1 with h1 | h1
         ·
          exact jA h2 h1
         ·
          rw [←tv h1]
          exact h2
        have:=o3 (hd s) d
        omega
       ·
        omega
     ·
      obtain ⟨e,he,h0⟩:=h.done j (by omega) (fun x hx he=>hsrc ⟨x,hx,he⟩) d hdj
      exact hcontra e he h0
  ·
   exact h.win c hc
 ·
  intro d hd_ x hx c hc
  have hxo:x ∈ q∨(x=(⟨s.f0.drop 1,s.f1⟩:Src)∧s.f0.length≠1):=rQ (hp.subset hx)
  have hold:d ∈ out→cc d c = -1∨cc d c=0:=by
   intro hdo
   rcases hxo with hx | ⟨rfl,_⟩
   ·
    exact h.low d hdo x (List.mem_cons_of_mem _ hx) c hc
   ·
    exact h.low d hdo s List.mem_cons_self c (List.mem_of_mem_drop hc)
  split at hd_
  ·
   rcases List.mem_append.1 hd_ with hd_ | hd_
   ·
    exact hold hd_
   ·
    rw [List.mem_singleton.1 hd_]
    rcases hxo with hx | ⟨rfl,_⟩
    ·
     have hx':x ∈ s :: q:=List.mem_cons_of_mem _ hx
     have h1:=Dt hL h hx' hc
     rcases kT.1 (hmin x hx') with h2 | ⟨h2,_⟩<;>rcases h1 with h1 | h1
     ·
      exact .inl (jA h2 h1)
     ·
      exact .inl (by rw [←tv h1];exact h2)
     ·
      exact .inl (by rw [lN h2];exact h1)
     ·
      exact .inr (by rw [lN h2];exact h1)
    ·
     exact .inl (D6 hL h List.mem_cons_self hc)
  ·
   exact hold hd_
theorem DV {L:List (List Cell)} (hL:gO L) (N:Nat):∀ (q:List Src) (out:List Cell),ol q≤N→N+out.length≤1000000→vu L q out→∃ r,ux (fun k m=>oh k m q out) r∧oM L r:=by
 induction N with
 | zero=>
  intro q out hN ho h
  have hl:=sW h.ne
  obtain rfl:q=[]:=List.length_eq_zero_iff.1 (by omega)
  refine ⟨out,⟨1,fun k m _ hm=>?_⟩,h.ord,h.win,fun i hi=>h.done i hi (fun s hs=>by cases hs)⟩
  obtain ⟨m,rfl⟩:∃ m',m=m'+1:=⟨m - 1,by omega⟩
  rfl
 | succ N ih=>
  intro q out hN ho h
  cases q with
  | nil=>
   refine ⟨out,⟨1,fun k m _ hm=>?_⟩,h.ord,h.win,fun i hi=>h.done i hi (fun s hs=>by cases hs)⟩
   obtain ⟨m,rfl⟩:∃ m',m=m'+1:=⟨m - 1,by omega⟩
   rfl
  | cons s q=>
   have hs:=h.ne s List.mem_cons_self
   have hl:=sW h.ne
   rw [List.length_cons] at hl
   obtain ⟨q',⟨k1,hk1⟩,hp,hh⟩:=DR h.heap hs (fun x hx=>h.ne x (List.mem_cons_of_mem _ hx))
   obtain ⟨k2,hk2⟩:=DM (out:=out) (hd s)
   obtain ⟨b,hb⟩:∃ b,b=if h:0<out.length then !(cc out[out.length - 1] (hd s) == 0) else true:=⟨_,rfl⟩
   rw [←hb] at hk2
   have hinv:=CM hL h hp hh hb
   have ht:ol q'+1=ol (s :: q):=by
    rw [vI hp,o7]
    unfold ox
    split
    ·
     omega
    ·
     rw [o7]
     show (s.f0.drop 1).length+_+1=_
     rw [List.length_drop]
     omega
   have hlen:N+(if b=true then out++[hd s] else out).length≤1000000:=by
    split
    ·
     rw [List.length_append,List.length_singleton]
     omega
    ·
     omega
   obtain ⟨r,⟨k3,hk3⟩,hr⟩:=ih q' (if b=true then out++[hd s] else out) (by omega) hlen hinv
   refine ⟨r,⟨k1+k2+k3+1,fun k m hk hm=>?_⟩,hr⟩
   obtain ⟨m,rfl⟩:∃ m',m=m'+1:=⟨m - 1,by omega⟩
   have e1:=hk1 k (by omega)
   have e2:=hk2 k (by omega)
   have e3:=hk3 k m (by omega) (by omega)
   simp only at e1 e2 e3
   show oh k (m+1) (s :: q) out=_
   rw [oh,if_pos ⟨hs,by omega,by omega⟩]
   show ((nD k out (hd s)).bind fun b=>_)=_
   rw [e2,Option.bind_some,e1,Option.bind_some]
   exact e3
def lV:List (List Cell)→Nat→List Src
 | [],_=>[]
 | l :: ls,i=>if l.length=0 then lV ls (i+1) else (⟨l,(i:Int)⟩:Src) :: lV ls (i+1)
theorem qA:∀ {ls:List (List Cell)} {i:Nat} {s:Src},s ∈ lV ls i→∃ j,i≤j∧j<i+ls.length∧s=⟨m9 ls (j - i),(j:Int)⟩∧0<s.f0.length
 | [],i,s,h=>by cases h
 | l :: ls,i,s,h=>by
  have hrec:s ∈ lV ls (i+1)→∃ j,i≤j∧j<i+(l :: ls).length∧s=⟨m9 (l :: ls) (j - i),(j:Int)⟩∧0<s.f0.length:=by
   intro h
   obtain ⟨j,h1,h2,h3,h4⟩:=qA h
   refine ⟨j,by omega,by rw [List.length_cons];omega,?_,h4⟩
   rw [h3]
   congr 1
   rw [show j - i=(j - (i+1))+1 by omega]
   rfl
  unfold lV at h
  split at h
  ·
   exact hrec h
  ·
   rename_i h0
   rcases List.mem_cons.1 h with rfl | h
   ·
    exact ⟨i,Nat.le_refl _,by simp,by rw [Nat.sub_self];rfl,by show 0<l.length;omega⟩
   ·
    exact hrec h
theorem xA:∀ {ls:List (List Cell)} {i j:Nat},j<ls.length→0<(m9 ls j).length→(⟨m9 ls j,((i+j:Nat):Int)⟩:Src) ∈ lV ls i
 | [],_,_,h,_=>by cases h
 | l :: ls,i,0,_,h=>by
  unfold lV
  rw [if_neg (by show ¬ l.length=0;exact Nat.pos_iff_ne_zero.1 h)]
  exact List.mem_cons_self
 | l :: ls,i,j+1,h,h0=>by
  have:=xA (ls:=ls) (i:=i+1) (j:=j) (by simpa using h) h0
  rw [show i+1+j=i+(j+1) by omega] at this
  unfold lV
  split
  ·
   exact this
  ·
   exact List.mem_cons_of_mem _ this
theorem tr:∀ (ls:List (List Cell)) (i:Nat),((lV ls i).map (fun s:Src=>s.f1)).Nodup
 | [],_=>List.nodup_nil
 | l :: ls,i=>by
  unfold lV
  split
  ·
   exact tr ls (i+1)
  ·
   rw [List.map_cons,List.nodup_cons]
   refine ⟨fun h=>?_,tr ls (i+1)⟩
   obtain ⟨s,hs,he⟩:=List.mem_map.1 h
   obtain ⟨j,h1,_,h2,_⟩:=qA hs
   rw [h2] at he
   simp only at he
   omega
theorem uH:∀ (ls:List (List Cell)) (i:Nat) (q:List Src),q.length+ls.length≤1000000→oF q.length q→(∀ s ∈ q,0<s.f0.length)→∃ q',Ev (fun k=>mL k ls i q) q'∧q'.Perm (q++lV ls i)∧oF q'.length q'
 | [],i,q,_,hh,_=>⟨q,Ev.now _,by rw [show lV [] i=[] from rfl,List.append_nil],hh⟩
 | l :: ls,i,q,hn,hh,hne=>by
  rw [List.length_cons] at hn
  by_cases h0:l.length=0
  ·
   obtain ⟨q',he,hp,hh'⟩:=uH ls (i+1) q (by omega) hh hne
   refine ⟨q',Ev.congr (fun k=>?_) he,?_,hh'⟩
   ·
    rw [mL,if_pos h0]
   ·
    rw [lV,if_pos h0]
    exact hp
  ·
   have hg1:∀ m,m<q.length→gQ (q++[(⟨l,(i:Int)⟩:Src)]) m=gQ q m:=by
    intro m hm
    unfold gQ
    rw [List.getD_eq_getElem?_getD,List.getD_eq_getElem?_getD,List.getElem?_append_left hm]
   have hne2:∀ s ∈ q++[(⟨l,(i:Int)⟩:Src)],0<s.f0.length:=by
    intro s hs
    rcases List.mem_append.1 hs with hs | hs
    ·
     exact hne s hs
    ·
     rw [List.mem_singleton.1 hs]
     show 0<l.length
     omega
   obtain ⟨r,⟨k1,hk1⟩,hpm,hr⟩:=Fm q.length (q++[(⟨l,(i:Int)⟩:Src)]) (by simp) ⟨fun m h0 hm hp=>by
     rw [List.length_append,List.length_singleton] at hm
     rw [hg1 _ (by omega),hg1 _ (by omega)]
     exact hh m h0 (by omega),fun _ m h0 hm hp=>by
     rw [List.length_append,List.length_singleton] at hm
     omega⟩ (fun m hm=>hne2 _ (rS hm))
   have hrl:r.length=q.length+1:=by rw [hpm.length_eq];simp
   obtain ⟨q',⟨k2,hk2⟩,hp,hh'⟩:=uH ls (i+1) r (by omega) hr (fun s hs=>hne2 s (hpm.subset hs))
   refine ⟨q',⟨k1+k2,fun k hk=>?_⟩,?_,hh'⟩
   ·
    have e1:=hk1 k k (by omega) (by omega)
    have e2:=hk2 k (by omega)
    simp only at e1 e2
    show mL k (l :: ls) i q=_
    rw [mL,if_neg h0,if_pos (by omega),e1,Option.bind_some]
    exact e2
   ·
    rw [lV,if_neg h0]
    refine hp.trans ((hpm.append_right _).trans ?_)
    rw [List.append_assoc]
    exact List.Perm.refl _
def gi (L:List (List Cell)):Nat:=(L.map List.length).sum
theorem wY:∀ (ls:List (List Cell)) (i:Nat),ol (lV ls i)=gi ls
 | [],_=>rfl
 | l :: ls,i=>by
  have:=wY ls (i+1)
  unfold lV
  split
  ·
   rename_i h0
   rw [this]
   simp [gi,h0]
  ·
   rw [o7,this]
   simp [gi]
theorem xT {L:List (List Cell)} (hL:gO L) (hn:L.length≤1000) (ht:gi L≤100000):∃ r,Ev (fun k=>fQ.f k L) r∧oM L r:=by
 obtain ⟨q,⟨k1,hk1⟩,hp,hh⟩:=uH L 0 [] (by simp;omega) (fun m _ hm=>by cases hm) (fun s hs=>by cases hs)
 rw [List.nil_append] at hp
 have hinv:vu L q []:=by
  refine ⟨hh,fun s hs=>?_,(hp.map _).nodup_iff.2 (tr L 0),fun s hs=>?_,fun i hi hno c hc=>?_,List.Pairwise.nil,fun c hc=>(by cases hc),fun d hd=>(by cases hd)⟩
  ·
   obtain ⟨j,_,_,_,h4⟩:=qA (hp.subset hs)
   exact h4
  ·
   obtain ⟨j,_,h2,h3,_⟩:=qA (hp.subset hs)
   refine ⟨j,by rw [h3],by omega,[],?_,fun c hc=>by cases hc⟩
   rw [h3]
   rfl
  ·
   have:=xA (ls:=L) (i:=0) hi (List.length_pos_of_mem hc)
   rw [Nat.zero_add] at this
   exact absurd rfl (hno _ (hp.symm.subset this))
 have htq:ol q=gi L:=by rw [vI hp,wY]
 obtain ⟨r,⟨k2,hk2⟩,hr⟩:=DV hL (gi L) q [] (by omega) (by simp;omega) hinv
 refine ⟨r,⟨k1+k2+1,fun k hk=>?_⟩,hr⟩
 have e1:=hk1 k (by omega)
 have e2:=hk2 k k (by omega) (by omega)
 simp only at e1 e2
 show fQ.f k L=_
 unfold fQ.f
 rw [if_neg (by omega),e1,Option.bind_some]
 exact e2
theorem pR (L:List (List Cell)) (i:Nat) (h:i<L.length):m9 L i=L[i]:=by
 unfold m9
 rw [List.getD_eq_getElem?_getD,List.getElem?_eq_getElem h]
 rfl
theorem gN (l:List Cell) (L:List (List Cell)):gi (l :: L)=l.length+gi L:=by simp [gi]
def cS (L:List (List Cell)):List Cell:=L.foldr (fun l o=>l.foldl (fun o c=>ins c o) o) []
theorem jK:∀ {L:List (List Cell)},gO L→oM L (cS L)
 | [],_=>⟨List.Pairwise.nil,fun c hc=>(by cases hc),fun i hi=>(by cases hi)⟩
 | l :: L,h=>by
  have hl:fP l:=h 0
  obtain ⟨i1,i2,i3⟩:=jK (L:=L) (fun i=>h (i+1))
  have hm:∀ c,c ∈ cS (l :: L)↔c ∈ l∨(c ∈ cS L∧∀ d ∈ l,cc d c≠0):=fun c=>iN hl i1
  refine ⟨iP l i1,fun c hc=>?_,fun i hi c hc=>?_⟩
  ·
   rcases (hm c).1 hc with hc | ⟨hc,h0⟩
   ·
    exact ⟨0,by simp,hc,fun j hj=>by omega⟩
   ·
    obtain ⟨i,e1,e2,e3⟩:=i2 c hc
    refine ⟨i+1,by rw [List.length_cons];omega,e2,fun j hj d hd=>?_⟩
    cases j with
    | zero=>exact h0 d hd
    | succ j=>exact e3 j (by omega) d hd
  ·
   cases i with
   | zero=>exact ⟨c,(hm c).2 (.inl hc),oI c⟩
   | succ i=>
    obtain ⟨d,hd,h0⟩:=i3 i (by simpa using hi) c hc
    by_cases hex:∃ e ∈ l,cc e d=0
    ·
     obtain ⟨e,he,h1⟩:=hex
     exact ⟨e,(hm e).2 (.inl he),by rw [lN h1];exact h0⟩
    ·
     exact ⟨d,(hm d).2 (.inr ⟨hd,fun e he h1=>hex ⟨e,he,h1⟩⟩),h0⟩
theorem rE:∀ {L:List (List Cell)} {l:List Cell},l ∈ L→l.length≤gi L
 | m :: L,l,h=>by
  rw [gN]
  rcases List.mem_cons.1 h with rfl | h
  ·
   omega
  ·
   have:=rE h
   omega
theorem sg {L:List (List Cell)} (hL:gO L) (hn:L.length≤1000) (ht:gi L≤100000):Ev (fun k=>fQ.f k L) (cS L):=by
 obtain ⟨r,he,hr⟩:=xT hL hn ht
 rw [yK hL (jK hL) hr]
 exact he
theorem n_:∀ (L:List (List Cell)),(cS L).length≤gi L
 | []=>Nat.zero_le _
 | l :: L=>by
  have:=n_ L
  have:=rM l (cS L)
  rw [gN]
  show (l.foldl (fun o c=>ins c o) (cS L)).length≤_
  omega
theorem uG {l:List Cell} (h:fP l):cS [l]=l:=by
 refine oL (iP l List.Pairwise.nil) h (fun c=>?_)
 rw [show cS [l]=l.foldl (fun o c=>ins c o) [] from rfl,iN h List.Pairwise.nil]
 exact ⟨fun hc=>hc.elim id (fun hc=>by cases hc.1),.inl⟩
theorem vS {l:List Cell} {L:List (List Cell)} (h:gO (l :: L)):gO L:=fun i=>h (i+1)
theorem kD {L:List (List Cell)} (h:gO L):fP (cS L):=(jK h).ord
theorem qV {a b:List Cell} (ha:fP a) (hb:fP b) (c:Cell):c ∈ cS [a,b]↔c ∈ a∨(c ∈ b∧∀ d ∈ a,cc d c≠0):=by
 have e:cS [a,b]=a.foldl (fun o c=>ins c o) b:=by
  show a.foldl (fun o c=>ins c o) (cS [b])=_
  rw [uG hb]
 rw [e,iN ha hb]
theorem kK:∀ {X Y:List (List Cell)},gO X→gO Y→cS (X++Y)=cS [cS X,cS Y]
 | [],Y,_,hY=>by
  have hy:=kD hY
  show cS Y=_
  refine oL hy (iP _ (iP _ List.Pairwise.nil)) (fun c=>?_)
  rw [qV (a:=cS []) List.Pairwise.nil hy]
  exact ⟨fun h=>.inr ⟨h,fun d hd=>by cases hd⟩,fun h=>h.elim (fun h=>by cases h) (fun h=>h.1)⟩
 | l :: X,Y,hX,hY=>by
  have hl:fP l:=hX 0
  have hX':=vS hX
  have hx:=kD hX'
  have hy:=kD hY
  have ih:=kK hX' hY
  have hxl:fP (cS (l :: X)):=kD hX
  have h2:fP (cS [cS X,cS Y]):=iP _ (iP _ List.Pairwise.nil)
  have e:cS (l :: X++Y)=l.foldl (fun o c=>ins c o) (cS [cS X,cS Y]):=by
   show l.foldl (fun o c=>ins c o) (cS (X++Y))=_
   rw [ih]
  rw [e]
  refine oL (iP l h2) (iP _ (iP _ List.Pairwise.nil)) (fun c=>?_)
  have hm:∀ c,c ∈ cS (l :: X)↔c ∈ l∨(c ∈ cS X∧∀ d ∈ l,cc d c≠0):=fun c=>iN hl hx
  rw [iN hl h2,qV hx hy,qV hxl hy,hm]
  constructor
  ·
   rintro (h | ⟨h | ⟨h1,h3⟩,h4⟩)
   ·
    exact .inl (.inl h)
   ·
    exact .inl (.inr ⟨h,h4⟩)
   ·
    refine .inr ⟨h1,fun d hd=>?_⟩
    rcases (hm d).1 hd with hd | hd
    ·
     exact h4 d hd
    ·
     exact h3 d hd.1
  ·
   rintro ((h | ⟨h1,h2⟩) | ⟨h1,h2⟩)
   ·
    exact .inl h
   ·
    exact .inr ⟨.inl h1,h2⟩
   ·
    refine .inr ⟨.inr ⟨h1,fun d hd h0=>?_⟩,fun d hd=>h2 d ((hm d).2 (.inl hd))⟩
    by_cases hex:∃ e ∈ l,cc e d=0
    ·
     obtain ⟨e,he,h3⟩:=hex
     exact h2 e ((hm e).2 (.inl he)) (by rw [lN h3];exact h0)
    ·
     exact h2 d ((hm d).2 (.inr ⟨hd,fun e he h3=>hex ⟨e,he,h3⟩⟩)) h0
theorem kC {L:List (List Cell)}:gO L↔∀ l ∈ L,fP l:=by
 constructor
 ·
  intro h l hl
  obtain ⟨i,hi,rfl⟩:=List.getElem_of_mem hl
  have:=h i
  rw [pR L i hi] at this
  exact this
 ·
  intro h i
  by_cases hi:i<L.length
  ·
   rw [pR L i hi]
   exact h _ (List.getElem_mem hi)
  ·
   unfold m9
   rw [List.getD_eq_getElem?_getD,List.getElem?_eq_none (by omega)]
   exact List.Pairwise.nil
theorem lf:∀ (X Y:List (List Cell)),gi (X++Y)=gi X+gi Y
 | [],Y=>by simp [gi]
 | l :: X,Y=>by
  have:=lf X Y
  rw [List.cons_append,gN,gN]
  omega
abbrev iR:=List Cell × List (List Cell) × List Int
structure mH (t:iR):Prop where
 srt:j9 t.1
 ne:t.1≠[]
 get:∀ (r c:ByteArray) (a:Int),r.size≤10000→c.size≤10000→Ev (fun k=>dG.f k t.2.1 t.2.2 r c a) (qQ (kE r c a t.1))
def Makes (s:Int) (P:Cell→Prop) (N:Nat):Prop:=∀ l,j9 l→l≠[]→l.length≤N→(∀ c ∈ l,P c)→∃ t:iR,t.1=l∧Ev (fun k=>eJ.f k l s) t∧mH t
theorem DN {s:Int} {W N:Nat} {P:Cell→Prop} (h1:1≤s) (h2:s≤4096) (hN:N≤420) (hW:W*N≤60150) (hP:∀ c,P c→(jr c).length≤W):Makes s P N:=fun l hs hn hl hq=>by
 have hw:∀ c ∈ l,(jr c).length≤W:=fun c hc=>hP c (hq c hc)
 have h0:0<s.toNat:=by omega
 have hW1:W*l.length≤60150:=Nat.le_trans (Nat.mul_le_mul_left W hl) hW
 have hg:=mP s.toNat l [] 0
 have hg2:(iE s.toNat l [] 0).length≤1000:=by omega
 refine ⟨(l,iE s.toNat l [] 0,eO l),rfl,?_,hs,hn,fun r c a hr hc=>EC r c a (by rw [oU,List.nil_append]) (tC hs (by omega) hw hW1 h0) hs (by omega) hg2 hr hc⟩
 have hb:=ur (l:=l) s (by omega) hw hW1
 unfold wM at hb
 rw [if_pos ⟨kU.2 hs,h1⟩] at hb
 unfold eJ.f
 exact Ev.neg hn (Ev.bind hb (Ev.pos rfl (Ev.bind (BV hs (by omega) hw hW1 h0 (by omega)) (Ev.now _))))
def tl (ls:List (List iR)):List (List Cell):=ls.flatten.map (fun t=>t.1)
theorem rB (a b:List (List iR)):tl (a++b)=tl a++tl b:=by simp [tl]
theorem lT (a:List iR) (b:List (List iR)):tl (a :: b)=a.map (fun t=>t.1)++tl b:=by simp [tl]
theorem zT:∀ (l:List iR) (o:List (List Cell)),(∀ t ∈ l,t.1.length≤1000000000)→o.length+l.length≤1000000→cA.l1 l o=some (o++l.map (fun t=>t.1))
 | [],o,_,_=>by simp [cA.l1]
 | t :: l,o,h,hl=>by
  simp only [List.length_cons] at hl
  have ih:=zT l (o++[t.1]) (fun x hx=>h x (List.mem_cons_of_mem _ hx)) (by rw [List.length_append,List.length_singleton];omega)
  simp only [cA.l1]
  rw [p_ (h t List.mem_cons_self)]
  show (if o.length<2199023255552 then cA.l1 l (o++[t.1]) else none)=_
  rw [if_pos (by omega),ih,List.append_assoc]
  rfl
theorem Dn:∀ (ls:List (List iR)) (o:List (List Cell)),(∀ l ∈ ls,∀ t ∈ l,t.1.length≤1000000000)→o.length+ls.flatten.length≤1000000→cA.l0 ls o=some (o++tl ls)
 | [],o,_,_=>by simp [cA.l0,tl]
 | l :: ls,o,h,hl=>by
  rw [List.flatten_cons,List.length_append] at hl
  simp only [cA.l0]
  rw [zT l o (h l List.mem_cons_self) (by omega)]
  show cA.l0 ls (o++l.map (fun t=>t.1))=_
  rw [Dn ls _ (fun x hx=>h x (List.mem_cons_of_mem _ hx)) (by rw [List.length_append,List.length_map];omega),lT,List.append_assoc]
structure gT (P:Cell→Prop) (p:Nat) (xs:List Cell) (n:Int) (ls:List (List iR)):Prop where
 srt:j9 xs
 rP:n=eL xs
 tab:∀ l ∈ ls,∀ t ∈ l,mH t
 tot:gi (xs :: tl ls)≤p
 wid:∀ l ∈ xs :: tl ls,∀ c ∈ l,P c
theorem uw:∀ (l:List iR),(∀ t ∈ l,mH t)→l.length≤gi (l.map (fun t=>t.1))
 | [],_=>Nat.zero_le _
 | t :: l,h=>by
  have h1:=uw l (fun x hx=>h x (List.mem_cons_of_mem _ hx))
  have h2:=List.length_pos_iff.2 (h t List.mem_cons_self).ne
  rw [List.map_cons,gN,List.length_cons]
  omega
section
variable {P:Cell→Prop} {p:Nat} {xs:List Cell} {n:Int} {ls:List (List iR)}
theorem gT.ok (h:gT P p xs n ls):∀ t ∈ ls.flatten,mH t:=fun t ht=>by
 obtain ⟨l,hl,ht⟩:=List.mem_flatten.1 ht
 exact h.tab l hl t ht
theorem gT.few (h:gT P p xs n ls):xs.length+ls.flatten.length≤p:=by
 have h1:=uw ls.flatten h.ok
 have h2:=h.tot
 rw [gN] at h2
 have h3:gi (tl ls)=gi (ls.flatten.map (fun t=>t.1)):=rfl
 omega
theorem gT.small (h:gT P p xs n ls) {t:iR} (ht:t ∈ ls.flatten):t.1.length≤p:=by
 have h1:=rE (L:=xs :: tl ls) (List.mem_cons_of_mem _ (List.mem_map.2 ⟨t,ht,rfl⟩))
 have h2:=h.tot
 omega
theorem gT.qy (h:gT P p xs n ls):gO (xs :: tl ls):=kC.2 (fun l hl=>by
 rcases List.mem_cons.1 hl with rfl | hl
 ·
  exact h.srt.2
 ·
  obtain ⟨t,ht,rfl⟩:=List.mem_map.1 hl
  exact (h.ok t ht).srt.2)
theorem xk (h:gT P p xs n ls) (hp:p≤900):Ev (fun k=>dP.f k xs ls) (cS (xs :: tl ls)):=by
 have hf:=h.few
 unfold dP.f
 refine Ev.bind (a:=xs :: tl ls) ?_ (sg h.qy (by rw [List.length_cons];unfold tl;rw [List.length_map];omega) (by have:=h.tot;omega))
 unfold cA.f
 rw [p_ (by omega)]
 have h0:=Dn ls [xs] (fun l hl t ht=>by have:=h.small (List.mem_flatten.2 ⟨l,hl,ht⟩);omega) (by rw [List.length_singleton];omega)
 rw [show (some xs).bind (fun c=>cA.l0 ls [c])=cA.l0 ls [xs] from rfl,h0]
 exact Ev.now _
end
theorem AX {U V W:List (List Cell)} (hU:gO U) (hV:gO V) (hW:gO W):cS (U++(V++W))=cS (U++(cS V :: W)):=by
 have hr:=kD hV
 have h1:gO [cS V]:=kC.2 (fun l hl=>by rw [List.mem_singleton.1 hl];exact hr)
 have hap:∀ {A B:List (List Cell)},gO A→gO B→gO (A++B):=fun hA hB=>kC.2 (fun l hl=>(List.mem_append.1 hl).elim (kC.1 hA l) (kC.1 hB l))
 rw [show cS V :: W=[cS V]++W from rfl,kK hU (hap hV hW),kK hU (hap h1 hW),kK hV hW,kK h1 hW,uG hr]
theorem xw {α:Type} (z a b:α):∀ (i:Nat) (l:List α),i+1<l.length→l=l.take i++l.getD i z :: l.getD (i+1) z :: l.drop (i+2)∧(l.set i a).set (i+1) b=l.take i++a :: b :: l.drop (i+2)
 | 0,x :: y :: l,_=>⟨rfl,rfl⟩
 | 0,[],h=>absurd h (by simp)
 | 0,[_],h=>absurd h (by simp)
 | i+1,[],h=>absurd h (by simp)
 | i+1,x :: l,h=>by
  obtain ⟨h1,h2⟩:=xw z a b i l (by simpa using h)
  refine ⟨?_,?_⟩
  ·
   have:=congrArg (List.cons x) h1
   simpa using this
  ·
   have:=congrArg (List.cons x) h2
   simpa using this
theorem DF {L:List (List Cell)} (h:∀ l ∈ L,j9 l):j9 (cS L):=by
 have ho:gO L:=kC.2 (fun l hl=>(h l hl).2)
 refine ⟨fun c hc=>?_,kD ho⟩
 obtain ⟨i,h1,h2,_⟩:=(jK ho).win c hc
 rw [pR L i h1] at h2
 exact (h _ (List.getElem_mem _)).1 c h2
theorem Es {L:List (List Cell)} (ho:gO L) {l:List Cell} (hl:l ∈ L) (hn:l≠[]):cS L≠[]:=fun he=>by
 obtain ⟨c,hc⟩:=List.exists_mem_of_ne_nil l hn
 obtain ⟨i,hi,e⟩:=List.getElem_of_mem hl
 obtain ⟨d,hd,_⟩:=(jK ho).all i hi c (by rw [pR L i hi,e];exact hc)
 rw [he] at hd
 cases hd
structure FD (P:Cell→Prop) (p:Nat) (xs:List Cell) (n:Int) (i:Nat) (ls r:List (List iR)):Prop where
 inv:gT P p xs n r
 all:cS (xs :: tl r)=cS (xs :: tl ls)
 len:r.length=(bK.gl ls i).length
theorem BN {ls:List (List iR)} {i:Nat} (hi:i<ls.length):i+1<(bK.gl ls i).length∧tl (bK.gl ls i)=tl ls∧(∀ l ∈ bK.gl ls i,l ∈ ls∨l=[])∧(bK.gl ls i).length≤ls.length+1∧(bK.gl ls i).getD i []=ls.getD i []∧(i+1<ls.length→bK.gl ls i=ls):=by
 unfold bK.gl
 by_cases e:i+1=ls.length
 ·
  rw [if_pos e]
  refine ⟨by rw [List.length_append,List.length_singleton];omega,by rw [rB];simp [tl],fun l hl=>?_,by rw [List.length_append,List.length_singleton];omega,?_,fun h=>absurd e (by omega)⟩
  ·
   rcases List.mem_append.1 hl with h | h
   ·
    exact .inl h
   ·
    exact .inr (List.mem_singleton.1 h)
  ·
   rw [List.getD_eq_getElem?_getD,List.getElem?_append_left hi,← List.getD_eq_getElem?_getD]
 ·
  rw [if_neg e]
  exact ⟨by omega,rfl,fun l hl=>.inl hl,by omega,rfl,fun _=>rfl⟩
theorem D5 {s:Int} {P:Cell→Prop} {p:Nat} {xs:List Cell} {n:Int} {ls:List (List iR)} {i:Nat} (hM:Makes s P p) (hp:p≤900) (h:gT P p xs n ls) (hlv:ls.length≤1000000) (hi:i<ls.length) (hx:ls.getD i []≠[]) :
  ∃ r t,Ev (fun k=>bK.f k s ls i) r∧r=((bK.gl ls i).set i []).set (i+1) [t]∧FD P p xs n i ls r:=by
 obtain ⟨g1,g2,g3,g4,g5,_⟩:=BN hi
 generalize hG:bK.gl ls i=G at g1 g2 g3 g4 g5
 have hGt:∀ l ∈ G,∀ t ∈ l,mH t:=fun l hl t ht=>(g3 l hl).elim (fun h1=>h.tab l h1 t ht) (fun h1=>by rw [h1] at ht;cases ht)
 obtain ⟨X,hX⟩:∃ X,G.getD i []=X:=⟨_,rfl⟩
 obtain ⟨Y,hY⟩:∃ Y,G.getD (i+1) []=Y:=⟨_,rfl⟩
 have hd:=(xw ([]:List iR) [] [] i G g1).1
 rw [hX,hY] at hd
 generalize hA:G.take i=A at hd
 generalize hB:G.drop (i+2)=B at hd
 have hXm:X ∈ G:=by rw [hd];simp
 have hYm:Y ∈ G:=by rw [hd];simp
 have hXYt:∀ t ∈ X++Y,mH t:=fun t ht=>(List.mem_append.1 ht).elim (hGt X hXm t) (hGt Y hYm t)
 have hAt:∀ t ∈ A.flatten,mH t:=fun t ht=>by
  obtain ⟨l,hl,ht⟩:=List.mem_flatten.1 ht
  exact hGt l (by rw [hd];exact List.mem_append_left _ hl) t ht
 have hBt:∀ t ∈ B.flatten,mH t:=fun t ht=>by
  obtain ⟨l,hl,ht⟩:=List.mem_flatten.1 ht
  exact hGt l (by rw [hd];simp [hl]) t ht
 have qy:∀ {l:List iR},(∀ t ∈ l,mH t)→gO (l.map (fun t=>t.1)):=fun hl=>kC.2 (fun l hm=>by
  obtain ⟨t,ht,rfl⟩:=List.mem_map.1 hm
  exact (hl t ht).srt.2)
 have htl:tl ls=tl A++((X++Y).map (fun t=>t.1)++tl B):=by
  rw [←g2,hd,rB,lT,lT,List.map_append,List.append_assoc]
 have htot:=h.tot
 have hl1:gi (xs :: tl ls)=xs.length+(gi (tl A)+(gi ((X++Y).map (fun t=>t.1))+gi (tl B))):=by rw [gN,htl,lf,lf]
 obtain ⟨C,hC⟩:∃ C,cS ((X++Y).map (fun t=>t.1))=C:=⟨_,rfl⟩
 have hCl:C.length≤gi ((X++Y).map (fun t=>t.1)):=hC▸n_ _
 have hXne:X≠[]:=by rw [←hX,g5];exact hx
 have hCs:j9 C:=hC▸DF (fun l hm=>by
  obtain ⟨t,ht,rfl⟩:=List.mem_map.1 hm
  exact (hXYt t ht).srt)
 have hCn:C≠[]:=by
  obtain ⟨t,ht⟩:=List.exists_mem_of_ne_nil X hXne
  exact hC▸Es (qy hXYt) (List.mem_map.2 ⟨t,List.mem_append_left _ ht,rfl⟩) (hGt X hXm t ht).ne
 have hCw:∀ c ∈ C,P c:=fun c hc=>by
  rw [←hC] at hc
  obtain ⟨j,h1,h2,_⟩:=(jK (qy hXYt)).win c hc
  rw [pR _ j h1] at h2
  exact h.wid _ (List.mem_cons_of_mem _ (by rw [htl];exact List.mem_append_right _ (List.mem_append_left _ (List.getElem_mem h1)))) c h2
 obtain ⟨t,ht1,ht2,ht3⟩:=hM C hCs hCn (by omega) hCw
 have hlen:X.length+Y.length≤gi ((X++Y).map (fun t=>t.1)):=by
  rw [←List.length_append]
  exact uw (X++Y) hXYt
 have hr:=(xw ([]:List iR) [] [t] i G g1).2
 rw [hA,hB] at hr
 refine ⟨(G.set i []).set (i+1) [t],t,?_,rfl,?_⟩
 ·
  unfold bK.f
  rw [hG,hX,hY]
  refine Ev.pos ⟨by omega,by omega⟩ (Ev.bind (a:=(X++Y).map (fun t=>t.1)) ?_ (Ev.bind (a:=C) ?_ (Ev.bind ht2 (Ev.now _))))
  ·
   rw [zT (X++Y) [] (fun t ht=>by have:=rE (L:=(X++Y).map (fun t=>t.1)) (List.mem_map.2 ⟨t,ht,rfl⟩);omega) (by rw [List.length_append,List.length_nil];omega),List.nil_append]
   exact Ev.now _
  ·
   rw [←hC]
   exact sg (qy hXYt) (by rw [List.length_map,List.length_append];omega) (by omega)
 ·
  have htr:tl ((G.set i []).set (i+1) [t])=tl A++(C :: tl B):=by
   rw [hr,rB,lT,lT,List.map_nil,List.nil_append,List.map_cons,List.map_nil,ht1]
   rfl
  have hl2:gi (xs :: tl ((G.set i []).set (i+1) [t]))=xs.length+(gi (tl A)+(C.length+gi (tl B))):=by rw [gN,htr,lf,gN]
  have hal:cS (xs :: tl ((G.set i []).set (i+1) [t]))=cS (xs :: tl ls):=by
   rw [htr,htl,← List.cons_append,← List.cons_append,← hC]
   exact (AX (U:=xs :: tl A) (kC.2 (fun l hl=>by
    rcases List.mem_cons.1 hl with rfl | hl
    ·
     exact h.srt.2
    ·
     exact kC.1 (qy hAt) l hl)) (qy hXYt) (qy hBt)).symm
  refine ⟨⟨h.srt,h.rP,fun l hl t' ht'=>?_,by omega,fun l hl c hc=>?_⟩,hal,by rw [List.length_set,List.length_set,hG]⟩
  rotate_left
  ·
   rw [htr] at hl
   rcases List.mem_cons.1 hl with rfl | hl
   ·
    exact h.wid _ List.mem_cons_self c hc
   ·
    rcases List.mem_append.1 hl with hl | hl
    ·
     exact h.wid _ (List.mem_cons_of_mem _ (by rw [htl];exact List.mem_append_left _ hl)) c hc
    ·
     rcases List.mem_cons.1 hl with rfl | hl
     ·
      exact hCw c hc
     ·
      exact h.wid _ (List.mem_cons_of_mem _ (by rw [htl];exact List.mem_append_right _ (List.mem_append_right _ hl))) c hc
  rw [hr] at hl
  rcases List.mem_append.1 hl with h1 | h1
  ·
   exact hGt l (by rw [hd];exact List.mem_append_left _ h1) t' ht'
  ·
   rcases List.mem_cons.1 h1 with rfl | h1
   ·
    cases ht'
   ·
    rcases List.mem_cons.1 h1 with rfl | h1
    ·
     rw [List.mem_singleton.1 ht'];exact ht3
    ·
     exact hGt l (by rw [hd];simp [h1]) t' ht'
section
variable {P:Cell→Prop} {p:Nat} {xs:List Cell} {n:Int} {ls:List (List iR)} {s s3:Int}
theorem Dk {r1 r:List (List iR)} {i:Nat} (h1:Ev (fun k=>bK.f k s ls i) r1) (hi:i<ls.length) (hs:s3<((ls.getD i []).length:Int)) (h2:ux (fun k m=>aU.lp k s s3 m (i+1) r1) r):ux (fun k m=>aU.lp k s s3 m i ls) r:=by
 obtain ⟨k1,h1⟩:=h1
 obtain ⟨k2,h2⟩:=h2
 refine ⟨max k1 (k2+1),fun k m hk hm=>?_⟩
 obtain ⟨m,rfl⟩:∃ j,m=j+1:=⟨m - 1,by omega⟩
 simp only [aU.lp]
 rw [if_pos hi,if_pos hs,show bK.f k s ls i=some r1 from h1 k (by omega)]
 exact h2 k m (by omega) (by omega)
theorem Du {r:List (List iR)} {i:Nat} (hi:i<ls.length) (hs:¬ s3<((ls.getD i []).length:Int)) (h2:ux (fun k m=>aU.lp k s s3 m (i+1) ls) r):ux (fun k m=>aU.lp k s s3 m i ls) r:=by
 obtain ⟨k2,h2⟩:=h2
 refine ⟨k2+1,fun k m hk hm=>?_⟩
 obtain ⟨m,rfl⟩:∃ j,m=j+1:=⟨m - 1,by omega⟩
 simp only [aU.lp]
 rw [if_pos hi,if_neg hs]
 exact h2 k m (by omega) (by omega)
theorem Bc {i:Nat} (hi:¬ i<ls.length):ux (fun k m=>aU.lp k s s3 m i ls) ls:=by
 refine ⟨1,fun k m _ hm=>?_⟩
 obtain ⟨m,rfl⟩:∃ j,m=j+1:=⟨m - 1,by omega⟩
 simp only [aU.lp]
 rw [if_neg hi]
theorem E9 (hM:Makes s P p) (hp:p≤900) (h3:1≤s3) (d:Nat):∀ (i:Nat) (ls:List (List iR)),ls.length - i=d→gT P p xs n ls→ls.length+1≤1000000→
  ∃ r,ux (fun k m=>aU.lp k s s3 m i ls) r∧gT P p xs n r∧cS (xs :: tl r)=cS (xs :: tl ls)∧r.length≤ls.length+1:=by
 induction d with
 | zero=>exact fun i ls hd h hl=>⟨ls,Bc (by omega),h,rfl,by omega⟩
 | succ d ih=>
  intro i ls hd h hl
  have hi:i<ls.length:=by omega
  by_cases hs:s3<((ls.getD i []).length:Int)
  rotate_left
  ·
   obtain ⟨r,h1,h2,h4,h5⟩:=ih (i+1) ls (by omega) h hl
   exact ⟨r,Du hi hs h1,h2,h4,h5⟩
  have hx:ls.getD i []≠[]:=fun e=>by
   rw [e] at hs
   have:s3<0:=hs
   omega
  obtain ⟨r1,t,e1,e2,e3⟩:=D5 hM hp h (by omega) hi hx
  obtain ⟨g1,_,_,g4,_,g6⟩:=BN hi
  have hlen:=e3.len
  by_cases hlast:i+1<ls.length
  ·
   rw [g6 hlast] at hlen
   obtain ⟨r,h1,h2,h4,h5⟩:=ih (i+1) r1 (by omega) e3.inv (by omega)
   exact ⟨r,Dk e1 hi hs h1,h2,h4.trans e3.all,by omega⟩
  ·
   have hb:¬ s3<((r1.getD (i+1) []).length:Int):=by
    rw [e2,List.getD_eq_getElem?_getD,List.getElem?_set_self (by rw [List.length_set];exact g1)]
    show ¬ s3<1
    omega
   exact ⟨r1,Dk e1 hi hs (Du (by omega) hb (Bc (by omega))),e3.inv,e3.all,by omega⟩
theorem CW (hM:Makes s P p) (hp:p≤900) (h3:1≤s3) (h:gT P p xs n ls) (hx:xs≠[]) (hl:ls.length+2≤1000000) :
  ∃ r,Ev (fun k=>aU.f k s s3 xs n ls) ([],0,r)∧gT P p [] 0 r∧cS ([] :: tl r)=cS (xs :: tl ls)∧r.length≤ls.length+2:=by
 have htot:=h.tot
 rw [gN] at htot
 have hfew:=h.few
 obtain ⟨t,ht1,ht2,ht3⟩:=hM xs h.srt hx (by omega) (h.wid xs List.mem_cons_self)
 obtain ⟨G,hG⟩:∃ G,aU.gl ls=G:=⟨_,rfl⟩
 have hg:(∃ l0 R,G=l0 :: R)∧tl G=tl ls∧(∀ l ∈ G,l ∈ ls∨l=[])∧G.length≤ls.length+1:=by
  rw [←hG]
  unfold aU.gl
  by_cases e:ls.length=0
  ·
   rw [if_pos e,List.length_eq_zero_iff.1 e]
   exact ⟨⟨[],[],rfl⟩,rfl,fun l hl=>.inr (List.mem_singleton.1 hl),by simp⟩
  ·
   rw [if_neg e]
   exact ⟨List.exists_cons_of_length_pos (by omega),rfl,fun l hl=>.inl hl,by omega⟩
 obtain ⟨⟨l0,R,rfl⟩,g2,g3,g4⟩:=hg
 have hl0:l0.length≤p:=by
  have h1:=uw l0 (fun x hx=>(g3 l0 List.mem_cons_self).elim (fun h1=>h.tab l0 h1 x hx) (fun h1=>by rw [h1] at hx;cases hx))
  rw [←g2,lT,lf] at htot
  omega
 have htl:tl ((l0 :: R).set 0 (t :: l0))=xs :: tl ls:=by
  rw [←g2]
  show tl ((t :: l0) :: R)=_
  rw [lT,lT,List.map_cons,ht1]
  rfl
 have hI:gT P p [] 0 ((l0 :: R).set 0 (t :: l0)):=⟨zo,by simp [eL],fun l hl x hx=>by
  rcases List.mem_cons.1 (show l ∈ (t :: l0) :: R from hl) with rfl | hl
  ·
   rcases List.mem_cons.1 hx with rfl | hx
   ·
    exact ht3
   ·
    exact (g3 l0 List.mem_cons_self).elim (fun h1=>h.tab l0 h1 x hx) (fun h1=>by rw [h1] at hx;cases hx)
  ·
   exact (g3 l (List.mem_cons_of_mem _ hl)).elim (fun h1=>h.tab l h1 x hx) (fun h1=>by rw [h1] at hx;cases hx),by rw [gN,htl,gN,List.length_nil];omega,fun l hl c hc=>by
  rcases List.mem_cons.1 hl with rfl | hl
  ·
   cases hc
  ·
   rw [htl] at hl;exact h.wid l hl c hc⟩
 obtain ⟨r,⟨k0,h1⟩,h2,h4,h5⟩:=E9 hM hp h3 _ 0 _ rfl hI (by rw [List.length_set];omega)
 rw [List.length_set] at h5
 refine ⟨r,?_,h2,h4.trans (by rw [htl];rfl),by omega⟩
 unfold aU.f
 rw [hG,p_ (by omega)]
 refine Ev.neg (fun e=>hx (List.length_eq_zero_iff.1 e)) (Ev.pos ⟨by omega,?_⟩ (Ev.bind (Ev.now _) (Ev.bind ht2 (Ev.bind (a:=r) ⟨k0,fun k hk=>h1 k k hk hk⟩ (Ev.now _)))))
 show l0.length<1099511627776
 omega
def rD (a b:ByteArray) (t:Int) (l:List Cell):Bool:=(qQ (kE a b t l)).2.2.2.2.2 && (qQ (kE a b t l)).2.2.1 == t
theorem Ek (h:gT P p xs n ls) (hp:p≤900) (a b:ByteArray) (t:Int) (ha:a.size≤10000) (hb:b.size≤10000):Ev (fun k=>bT.f k xs ls a b t) ((xs :: tl ls).any (rD a b t)):=by
 have l1:∀ l:List iR,(∀ x ∈ l,mH x)→Ev (fun k=>bT.l1 k a b t l) ((l.map (fun x=>x.1)).any (rD a b t)):=fun l=>by
  induction l with
  | nil=>exact fun _=>Ev.now _
  | cons x l ih=>
   intro hx
   have hv:=ih (fun y hy=>hx y (List.mem_cons_of_mem _ hy))
   have hg:=(hx x List.mem_cons_self).get a b t ha hb
   rw [List.map_cons,List.any_cons]
   cases hc:rD a b t x.1 with
   | true=>exact Ev.bind hg (Ev.pos hc (Ev.now _))
   | false=>exact Ev.bind hg (Ev.neg (fun h1=>Bool.false_ne_true (hc.symm.trans h1)) hv)
 have l0:∀ ls:List (List iR),(∀ l ∈ ls,∀ x ∈ l,mH x)→Ev (fun k=>bT.l0 k a b t ls) ((tl ls).any (rD a b t)):=fun ls=>by
  induction ls with
  | nil=>exact fun _=>Ev.now _
  | cons l ls ih=>
   intro hl
   have hv:=ih (fun y hy=>hl y (List.mem_cons_of_mem _ hy))
   have hu:=l1 l (hl l List.mem_cons_self)
   rw [lT,List.any_append]
   cases hc:(l.map (fun x=>x.1)).any (rD a b t) with
   | true=>rw [hc] at hu;exact Ev.bind hu (Ev.pos rfl (Ev.now _))
   | false=>rw [hc] at hu;exact Ev.bind hu (Ev.neg Bool.false_ne_true hv)
 have hv:=l0 ls h.tab
 have hf:=h.few
 have hn:=qi (l:=xs) a b t h.srt.2 (by omega)
 unfold bT.f
 rw [List.any_cons]
 cases hc:rD a b t xs with
 | true=>exact Ev.bind hn (Ev.pos hc (Ev.now _))
 | false=>exact Ev.bind hn (Ev.neg (fun h1=>Bool.false_ne_true (hc.symm.trans h1)) hv)
theorem DJ {L:List (List Cell)} {c:Cell} (hx:fP xs) (hL:gO L):cS (ins c xs :: L)=ins c (cS (xs :: L)):=by
 have hi:fP (ins c xs):=nk hx
 have hr:=kD hL
 have h1:fP (cS (xs :: L)):=iP xs hr
 refine oL (iP _ hr) (nk h1) (fun d=>?_)
 rw [pI h1]
 show d ∈ (ins c xs).foldl (fun o c=>ins c o) (cS L)↔d=c∨(d ∈ xs.foldl (fun o c=>ins c o) (cS L)∧cc c d≠0)
 rw [iN hi hr,iN hx hr,pI hx]
 constructor
 ·
  rintro ((h | ⟨h,h0⟩) | ⟨h,h0⟩)
  ·
   exact .inl h
  ·
   exact .inr ⟨.inl h,h0⟩
  ·
   refine .inr ⟨.inr ⟨h,fun e he he0=>?_⟩,h0 c (nh c xs)⟩
   by_cases hec:cc e c=0
   ·
    exact h0 c (nh c xs) (by rw [←lN hec];exact he0)
   ·
    exact h0 e (qH hec he) he0
 ·
  rintro (h | ⟨h | ⟨h,h0⟩,hc⟩)
  ·
   exact .inl (.inl h)
  ·
   exact .inl (.inr ⟨h,hc⟩)
  ·
   refine .inr ⟨h,fun e he=>?_⟩
   rcases oK he with rfl | he
   ·
    exact hc
   ·
    exact h0 e he
theorem Ew {s1:Int} {c:Cell} (hM:Makes s P (p+1)) (hp:p+1≤420) (h3:1≤s3) (hc:fK c=true) (hw:P c) (h:gT P p xs n ls) (hl:ls.length+2≤1000000) (hfull:(xs :: tl ls).any (rD c.f0 c.f1 c.f2)=true∨(cS (xs :: tl ls)).length≠400) :
  ∃ xs' n' ls',Ev (fun k=>cB.f k s1 s s3 xs n ls c.f0 c.f1 c.f2 c.f3 c.f4) (xs',n',ls',0)∧gT P (p+1) xs' n' ls'∧cS (xs' :: tl ls')=ins c (cS (xs :: tl ls))∧ls'.length≤ls.length+2:=by
 obtain ⟨_,z1,_,z2,_⟩:=gM.1 hc
 have hf:=h.few
 have hI:gT P (p+1) (ins c xs) (eL (ins c xs)) ls:=⟨zk hc h.srt,rfl,h.tab,by
  have:=h.tot
  have:=ow c xs
  rw [gN] at *
  omega,fun l hl d hd=>by
  rcases List.mem_cons.1 hl with rfl | hl
  ·
   exact (oK hd).elim (fun e=>e▸hw) (h.wid xs List.mem_cons_self d)
  ·
   exact h.wid l (List.mem_cons_of_mem _ hl) d hd⟩
 have hrf:cS (ins c xs :: tl ls)=ins c (cS (xs :: tl ls)):=DJ h.srt.2 (vS h.qy)
 have hput:=uF c h.srt h.rP (by omega)
 rw [if_pos hc] at hput
 have htail:∃ xs' n' ls',Ev (fun k=>cB.tail k s1 s s3 xs n ls c.f0 c.f1 c.f2 c.f3 c.f4) (xs',n',ls',0)∧gT P (p+1) xs' n' ls'∧cS (xs' :: tl ls')=ins c (cS (xs :: tl ls))∧ls'.length≤ls.length+2:=by
  unfold cB.tail
  by_cases hs:s1≤eL (ins c xs)
  ·
   obtain ⟨r,e1,e2,e3,e4⟩:=CW hM (by omega) h3 hI (fun e=>by have:=nh c xs;rw [e] at this;cases this) hl
   exact ⟨[],0,r,Ev.bind hput (Ev.pos hs (Ev.bind e1 (Ev.now _))),e2,e3.trans hrf,e4⟩
  ·
   exact ⟨ins c xs,eL (ins c xs),ls,Ev.bind hput (Ev.neg hs (Ev.now _)),hI,hrf,by omega⟩
 obtain ⟨xs',n',ls',e1,e2,e3,e4⟩:=htail
 refine ⟨xs',n',ls',?_,e2,e3,e4⟩
 unfold cB.f
 rw [kJ,show iu c.f0 c.f1 c.f2 c.f3 c.f4=true from hc]
 have hv:=Ek h (by omega) c.f0 c.f1 c.f2 (by omega) (by omega)
 refine Ev.bind (Ev.now _) (Ev.pos rfl (Ev.bind hv ?_))
 cases hk:(xs :: tl ls).any (rD c.f0 c.f1 c.f2) with
 | true=>exact Ev.pos rfl e1
 | false=>
  rw [hk] at hfull
  refine Ev.neg Bool.false_ne_true (Ev.bind (xk h (by omega)) (Ev.neg ?_ e1))
  have:=hfull.resolve_left Bool.false_ne_true
  omega
end
theorem vX (r c:ByteArray) (t:Int) (v:ByteArray) (g:Bool):gh.f r c t v g=some (iu r c t v g):=by
 unfold gh.f
 simp only [toList_nil]
 split
 ·
  exact f_ (by rw [eu];simp only [Bool.false_eq_true,false_iff];omega)
 split
 ·
  exact f_ (by rw [eu];simp only [Bool.false_eq_true,false_iff];omega)
 split
 ·
  exact f_ (by rw [eu];simp only [Bool.false_eq_true,false_iff];omega)
 split
 ·
  exact f_ (by rw [eu];simp only [Bool.false_eq_true,false_iff];omega)
 split
 ·
  exact f_ (by rw [eu];simp only [Bool.false_eq_true,false_iff];omega)
 split
 ·
  exact f_ (by rw [eu];simp only [Bool.false_eq_true,false_iff];omega)
 split
 ·
  split
  ·
   exact f_ (by rename_i h;rw [eu,decide_eq_true_iff];exact ⟨fun hz=>⟨by omega,by omega,by omega,by omega,by omega,by omega,by omega,.inr hz⟩,fun hh=>hh.2.2.2.2.2.2.2.elim (fun e=>by rw [h] at e;cases e) id⟩)
  ·
   exact f_ (by rename_i h;rw [eu];exact ⟨fun _=>⟨by omega,by omega,by omega,by omega,by omega,by omega,by omega,.inl (by simpa using h)⟩,fun _=>rfl⟩)
 ·
  exact f_ (by rw [eu];simp only [Bool.false_eq_true,false_iff];omega)
def yx (l:List Cell):Bool:=decide (l.length≤80) && l.all fK
theorem CI {l:List Cell}:yx l=true↔l.length≤80∧gj l:=by
 unfold yx gj
 rw [Bool.and_eq_true,decide_eq_true_iff,List.all_eq_true]
theorem Ar (l:List Cell) (hn:l.length≤1000000000) (d:Nat):∀ i:Nat,i≤l.length→l.length - i=d→Ev (fun k=>bQ.l0 k l (i:Int)) ((l.drop i).all fK):=by
 induction d with
 | zero=>
  intro i hi hd
  rw [List.drop_eq_nil_of_le (by omega)]
  refine Ev.step (f:=fun _=>some true) (fun k=>?_) (Ev.now _)
  simp only [bQ.l0]
  rw [if_neg (by omega)]
 | succ d ih=>
  intro i hi hd
  have hlt:i<l.length:=by omega
  rw [List.drop_eq_getElem_cons hlt,List.all_cons]
  have hr:=gY l i hlt
  unfold mS at hr
  have hk:∀ k,bQ.l0 (k+1) l (i:Int)=if fK l[i]=true then bQ.l0 k l ((i+1:Nat):Int) else some false:=by
   intro k
   simp only [bQ.l0]
   rw [if_pos (by omega),if_pos (by omega),hr,vX,fU (by omega) (by omega)]
   rfl
  cases hc:fK l[i] with
  | true=>
   refine Ev.step (f:=fun k=>bQ.l0 k l ((i+1:Nat):Int)) (fun k=>by rw [hk,if_pos hc]) ?_
   rw [Bool.true_and]
   exact ih (i+1) (by omega) (by omega)
  | false=>exact Ev.step (f:=fun _=>some false) (fun k=>by rw [hk,if_neg (by rw [hc];exact Bool.false_ne_true)]) (Ev.now _)
theorem Au {l:List Cell}:Ev (fun k=>bQ.f k l) (yx l):=by
 unfold bQ.f yx
 by_cases h:l.length≤80
 ·
  rw [decide_eq_true h,Bool.true_and]
  refine Ev.neg (by omega) ?_
  have:=Ar l (by omega) l.length 0 (by omega) (by omega)
  rw [List.drop_zero] at this
  exact this
 ·
  rw [decide_eq_false h,Bool.false_and]
  exact Ev.pos (by omega) (Ev.now _)
theorem CU:Ev (fun k=>cO.f k) true:=Ev.of (fun k=>cO.mono k) (k:=200) (by kernel_rfl)
def lW (a b c:Int):Prop:=1≤a∧a≤4096∧1≤b∧b≤4096∧1≤c∧c≤8
instance (a b c:Int):Decidable (lW a b c):=by unfold lW;infer_instance
theorem CJ (a b c:Int):gb.f a b c=some (decide (lW a b c)):=by
 unfold gb.f
 (repeat' split)<;>(congr 1;rw [eq_comm];first | (rw [decide_eq_false_iff_not];unfold lW;omega) | (rw [Bool.eq_iff_iff,decide_eq_true_iff,decide_eq_true_iff];unfold lW;omega))
theorem AE {a b:Int} (h:1≤a):fJ.f a b=some (decide (a≤b)):=by
 unfold fJ.f
 rw [if_pos h]
theorem Et {a b c:Int} (h:lW a b c):aq.f a b c=some true:=by
 obtain ⟨h1,h2,h3,h4,h5,h6⟩:=h
 unfold aq.f
 rw [AE h1,AE h3,AE h5,decide_eq_true h2,decide_eq_true h4,decide_eq_true h6]
 rfl
def PR (c:Cell):Prop:=(jr c).length≤401
theorem EN {a b c:Int} (h:lW a b c) {N:Nat} (hN:N≤100):Makes b PR N:=DN (W:=401) h.2.2.1 h.2.2.2.1 (by omega) (by omega) (fun _ h=>h)
theorem Bf {a b c:Int} (hs:lW a b c) {p:Nat} (hp:p+1≤100) {d:Cell} (hd:fK d=true) {xs:List Cell} {n:Int} {ls:List (List iR)} (h:gT PR p xs n ls) (hl:ls.length+2≤1000000) :
  ∃ xs' n' ls',Ev (fun k=>cB.f k a b c xs n ls d.f0 d.f1 d.f2 d.f3 d.f4) (xs',n',ls',0)∧gT PR (p+1) xs' n' ls'∧cS (xs' :: tl ls')=ins d (cS (xs :: tl ls))∧ls'.length≤ls.length+2:=
 Ew (EN hs hp) (by omega) hs.2.2.2.2.1 hd (uY hd) h hl (.inr (by
  have:=n_ (xs :: tl ls)
  have:=h.tot
  omega))
abbrev St:=List Cell × Int × List (List iR)
theorem C3 {p:Nat}:gT PR p [] 0 []:=⟨zo,by simp [eL],fun l hl=>(by cases hl),Nat.zero_le _,fun l hl c hc=>by
 rcases List.mem_cons.1 hl with rfl | hl
 ·
  cases hc
 ·
  cases hl⟩
theorem tI (s:ByteArray):s.toList.length=s.size:=by
 rw [ByteArray.toList_eq,Array.length_toList]
 rfl
theorem lS (s:ByteArray) (i:Nat) (h:i<s.toList.length):bt s (i:Int)=((s.toList[i]).toNat:Int):=by
 have hs:i<s.size:=by rw [tI] at h;exact h
 unfold bt
 rw [dif_pos (by simpa using hs)]
 simp only [Int.toNat_natCast,ByteArray.toList_eq]
 rfl
theorem wP (a b:ByteArray) (ha:a.size≤140737488355328) (d:Nat):∀ i:Nat,i≤a.size→i≤b.size→a.size - i=d→Ev (fun k=>aI.l0 k a b (i:Int)) (iS (a.toList.drop i) (b.toList.drop i)):=by
 have la:=tI a
 have lb:=tI b
 induction d with
 | zero=>
  intro i h1 h2 hd
  rw [List.drop_eq_nil_of_le (show a.toList.length≤i by omega)]
  refine Ev.step (f:=fun k=>aI.j1 k a b (i:Int) false) (fun k=>?_) ?_
  ·
   simp only [aI.l0]
   rw [if_neg (by omega)]
  by_cases hl:b.size=i
  ·
   rw [List.drop_eq_nil_of_le (show b.toList.length≤i by omega)]
   refine Ev.step (f:=fun _=>some 0) (fun k=>?_) (Ev.now _)
   simp only [aI.j1,Bool.false_eq_true,if_false]
   rw [if_neg (by omega),if_neg (by omega)]
  ·
   rw [List.drop_eq_getElem_cons (by omega)]
   refine Ev.step (f:=fun _=>some (-1)) (fun k=>?_) (Ev.now _)
   simp only [aI.j1,Bool.false_eq_true,if_false]
   rw [if_pos (by omega)]
 | succ d ih=>
  intro i h1 h2 hd
  have hia:i<a.toList.length:=by omega
  rw [List.drop_eq_getElem_cons hia]
  by_cases hl:b.size=i
  ·
   rw [List.drop_eq_nil_of_le (show b.toList.length≤i by omega)]
   refine Ev.step (f:=fun k=>aI.j1 k a b (i:Int) false) (fun k=>?_) ?_
   ·
    simp only [aI.l0]
    rw [if_pos (by omega),decide_eq_false (by omega)]
   refine Ev.step (f:=fun _=>some 1) (fun k=>?_) (Ev.now _)
   simp only [aI.j1,Bool.false_eq_true,if_false]
   rw [if_neg (by omega),if_pos (by omega)]
  ·
   have hib:i<b.toList.length:=by omega
   rw [List.drop_eq_getElem_cons hib]
   refine Ev.step (f:=fun k=>aI.j1 k a b (i:Int) true) (fun k=>?_) ?_
   ·
    simp only [aI.l0]
    rw [if_pos (by omega),decide_eq_true (by omega)]
   have ba:=lS a i hia
   have bb:=lS b i hib
   unfold iS
   by_cases c1:a.toList[i]<b.toList[i]
   ·
    rw [if_pos c1]
    have:=UInt8.lt_iff_toNat_lt.1 c1
    refine Ev.step (f:=fun _=>some (-1)) (fun k=>?_) (Ev.now _)
    simp only [aI.j1,if_true]
    rw [if_pos (by omega),if_pos (by omega),if_pos (by omega),if_pos (by omega)]
   ·
    rw [if_neg c1]
    have n1:¬ (a.toList[i]).toNat<(b.toList[i]).toNat:=fun h=>c1 (UInt8.lt_iff_toNat_lt.2 h)
    by_cases c2:b.toList[i]<a.toList[i]
    ·
     rw [if_pos c2]
     have:=UInt8.lt_iff_toNat_lt.1 c2
     refine Ev.step (f:=fun _=>some 1) (fun k=>?_) (Ev.now _)
     simp only [aI.j1,if_true]
     rw [if_pos (by omega),if_pos (by omega),if_pos (by omega),if_neg (by omega),if_pos (by omega)]
    ·
     rw [if_neg c2]
     have n2:¬ (b.toList[i]).toNat<(a.toList[i]).toNat:=fun h=>c2 (UInt8.lt_iff_toNat_lt.2 h)
     refine Ev.step (f:=fun k=>aI.l0 k a b ((i+1:Nat):Int)) (fun k=>?_) (ih (i+1) (by omega) (by omega) (by omega))
     simp only [aI.j1,if_true]
     rw [if_pos (by omega),if_pos (by omega),if_pos (by omega),if_neg (by omega),if_neg (by omega),fU (by omega) (by omega)]
     rfl
theorem rI {a b:ByteArray} (ha:a.size≤140737488355328):Ev (fun k=>aI.f k a b) (gR a b):=by
 unfold aI.f
 have:=wP a b ha a.size 0 (by omega) (by omega) (by omega)
 exact this
theorem ua {r c:ByteArray} {t:Int} {v:ByteArray} {g:Bool} {r' c':ByteArray} {t':Int} {v':ByteArray} {g':Bool} (h1:r.size≤140737488355328) (h2:c.size≤140737488355328):Ev (fun k=>cT.f k r c t v g r' c' t' v' g') (kz r c t r' c' t'):=by
 unfold cT.f kz
 by_cases e1:r.toList=r'.toList
 ·
  have z1:gR r r'=0:=ld.2 e1
  rw [if_pos z1]
  refine Ev.pos e1 ?_
  by_cases e2:c.toList=c'.toList
  ·
   have z2:gR c c'=0:=ld.2 e2
   rw [if_pos z2]
   refine Ev.pos e2 ?_
   unfold kV
   by_cases k1:t'<t
   ·
    simp only [gt_iff_lt,k1,if_true]
    exact Ev.now _
   ·
    by_cases k2:t<t'
    ·
     simp only [gt_iff_lt,k1,k2,if_true,if_false]
     exact Ev.now _
    ·
     simp only [gt_iff_lt,k1,k2,if_false]
     exact Ev.now _
  ·
   have z2:¬ gR c c'=0:=fun h=>e2 (ld.1 h)
   rw [if_neg z2]
   exact Ev.neg e2 (Ev.bind (rI h2) (Ev.now _))
 ·
  have z1:¬ gR r r'=0:=fun h=>e1 (ld.1 h)
  rw [if_neg z1]
  exact Ev.neg e1 (Ev.bind (rI h1) (Ev.now _))
theorem Bg {a:Cell} (h:t6 a) (b:Cell):Ev (fun k=>cT.f k a.f0 a.f1 a.f2 a.f3 a.f4 b.f0 b.f1 b.f2 b.f3 b.f4) (cc a b):=ua h.1 h.2
theorem sF (c:Cell):∀ (l:List Cell),(∀ x ∈ l,t6 x)→∃ n b,Ev (fun k=>aD.idx k c l) n∧Ev (fun k=>aD.eqv k c (l.drop n)) b∧ins c l=l.take n++c :: l.drop (if b=true then n+1 else n)
 | [],_=>⟨0,false,Ev.now _,Ev.now _,rfl⟩
 | x :: l,hs=>by
  have hx:Ev (fun k=>aD.cq k x c) (cc x c):=Bg (hs x List.mem_cons_self) c
  by_cases h1:cc x c = -1
  ·
   obtain ⟨n,b,e1,e2,e3⟩:=sF c l (fun y hy=>hs y (List.mem_cons_of_mem _ hy))
   refine ⟨n+1,b,Ev.bind hx (Ev.pos h1 (Ev.bind e1 (Ev.now _))),e2,?_⟩
   unfold ins
   rw [if_pos h1,e3]
   cases b<;>simp
  ·
   by_cases h0:cc x c=0
   ·
    refine ⟨0,true,Ev.bind hx (Ev.neg h1 (Ev.now _)),Ev.bind (a:=cc x c) hx (by rw [h0];exact Ev.now _),?_⟩
    unfold ins
    rw [if_neg h1,if_pos h0]
    rfl
   ·
    refine ⟨0,false,Ev.bind hx (Ev.neg h1 (Ev.now _)),Ev.bind (a:=cc x c) hx (by rw [beq_false_of_ne h0];exact Ev.now _),?_⟩
    unfold ins
    rw [if_neg h1,if_neg h0]
    rfl
theorem yP {l:List Cell} (c:Cell) (hs:∀ x ∈ l,t6 x) (hn:l.length≤1000000000):Ev (fun k=>aD.f k l c.f0 c.f1 c.f2 c.f3 c.f4) (ins c l):=by
 obtain ⟨n,b,e1,e2,e3⟩:=sF c l hs
 rw [e3]
 unfold aD.f
 exact Ev.bind e1 (Ev.bind e2 (Ev.pos (by omega) (Ev.now _)))
theorem t8 (n:Int):fI.f n=some (num n):=by
 unfold fI.f num
 by_cases h0:n<0
 ·
  rw [if_pos h0,if_pos h0]
 ·
  rw [if_neg h0,if_neg h0]
  by_cases h1:n > 4294967295
  ·
   rw [if_pos h1,if_pos h1]
  ·
   rw [if_neg h1,if_neg h1]
   have d:∀ m:Int,0≤m→Int.tdiv n m=n / m:=fun m hm=>Int.tdiv_eq_ediv_of_nonneg (by omega)
   rw [d _ (by omega),d _ (by omega),d _ (by omega),fU (by omega) (by omega),fU (by omega) (by omega),fU (by omega) (by omega)]
   rw [Int.tmod_eq_emod_of_nonneg (by omega),Int.tmod_eq_emod_of_nonneg (by omega),Int.tmod_eq_emod_of_nonneg (by omega)]
   have e:∀ x:Int,x % 256 % 256=x % 256:=fun x=>by omega
   rw [e,e,e]
theorem nK {s:ByteArray} (h:s.size≤140737488351232):dV.f s=some (text s):=by
 unfold dV.f
 rw [t8]
 simp only [Option.bind_some]
 rw [if_pos (by omega),if_pos (by have:=eY s.size;rw [xo];omega)]
 rfl
theorem yT {r c:ByteArray} (t:Int) {v:ByteArray} (g:Bool) (hr:r.size≤1000000) (hc:c.size≤1000000) (hv:v.size≤1000000):Ev (fun k=>bk.f k r c t v g) (iF r c t v g):=by
 have h1:=fo r
 have h2:=fo c
 have h3:=fo v
 have h4:=eY t
 unfold bk.f
 refine Ev.bind (Ev.eq (nK (by omega))) (Ev.bind (Ev.eq (nK (by omega))) (Ev.pos (by omega) ?_))
 refine Ev.step (fun k=>by simp only [bk.j0];rfl) (Ev.bind (Ev.eq (t8 _)) ?_)
 refine Ev.pos (by rw [List.length_append];omega) ?_
 refine Ev.step (fun k=>by simp only [bk.j1];rfl) ?_
 cases g with
 | true=>
  refine Ev.pos rfl ?_
  refine Ev.pos (by simp only [List.length_append];omega) (Ev.bind (Ev.now _) (Ev.bind (Ev.eq (nK (by omega))) ?_))
  refine Ev.pos (by simp only [List.length_append,List.length_cons,List.length_nil];omega) ((Ev.now _).to ?_)
  simp [iF,kG]
 | false=>
  refine Ev.neg Bool.false_ne_true ?_
  refine Ev.pos (by simp only [List.length_append];omega) (Ev.bind (Ev.now _) (Ev.bind (Ev.eq (nK (by omega))) ?_))
  refine Ev.pos (by simp only [List.length_append,List.length_cons,List.length_nil];omega) ((Ev.now _).to ?_)
  simp [iF,kG]
theorem Co {c:Cell} (h:fK c=true):Ev (fun k=>bk.f k c.f0 c.f1 c.f2 c.f3 c.f4) (iF c.f0 c.f1 c.f2 c.f3 c.f4):=by
 obtain ⟨_,h1,_,h2,_,_,h3,_⟩:=gM.1 h
 exact yT _ _ (by omega) (by omega) (by omega)
end Go.Proofs.YtcbhfedcdnjljaaGreat.Pl

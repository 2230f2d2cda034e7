import Derived.Lib.Strings
import Derived.Test.YtcbhfedcdnjljaaGreatXx7
namespace Go.Proofs.YtcbhfedcdnjljaaGreat.Pl
open Go.RowKit Go.Proofs.YtcbhfedcdnjljaaGreatW.PrintWords Go.Proofs.YtcbhfedcdnjljaaGreatW.PrintMore
def Bytes (l:List Int):Prop:=∀ x ∈ l,0≤x∧x<256
theorem Bytes.nil:Bytes []:=fun _ h=>by cases h
theorem Bytes.append {a b:List Int} (ha:Bytes a) (hb:Bytes b):Bytes (a++b):=fun x hx=>(List.mem_append.1 hx).elim (ha x) (hb x)
theorem Bytes.take {a:List Int} (ha:Bytes a) (n:Nat):Bytes (a.take n):=fun x hx=>ha x (List.mem_of_mem_take hx)
theorem Bytes.drop {a:List Int} (ha:Bytes a) (n:Nat):Bytes (a.drop n):=fun x hx=>ha x (List.mem_of_mem_drop hx)
theorem Bytes.cons {x:Int} {l:List Int} (h0:0≤x) (h1:x<256) (h:Bytes l):Bytes (x :: l):=fun y hy=>(List.mem_cons.1 hy).elim (fun e=>e▸⟨h0,h1⟩) (h y)
theorem oC (s:ByteArray):Bytes (bytesOf s):=by
 intro x hx
 obtain ⟨b,_,rfl⟩:=List.mem_map.1 hx
 have:=b.toNat_lt
 omega
theorem rT (s:ByteArray):strOfNums (bytesOf s)=s:=by
 have h:((bytesOf s).map fun n=>UInt8.ofNat n.toNat)=s.data.toList:=by
  rw [bytesOf,List.map_map]
  conv=>rhs;rw [←List.map_id s.data.toList]
  refine List.map_congr_left fun b _=>?_
  simp
 unfold strOfNums
 rw [h]
theorem toList_inj {a b:ByteArray} (h:a.toList=b.toList):a=b:=by
 rw [ByteArray.toList_eq,ByteArray.toList_eq] at h
 obtain ⟨⟨a⟩⟩:=a
 obtain ⟨⟨b⟩⟩:=b
 simp at h
 rw [h]
theorem jR (l:List Int):(strOfNums l).size=l.length:=by simp [strOfNums,ByteArray.size]
theorem wX (s:ByteArray):s.size=0↔s=⟨#[]⟩:=by
 constructor
 ·
  intro h
  obtain ⟨a⟩:=s
  have:a.size=0:=h
  rw [Array.eq_empty_of_size_eq_zero this]
 ·
  rintro rfl;rfl
theorem fZ {x:Int} (h0 : -9223372036854775808≤x) (h1:x<9223372036854775808):wrap64 x=x:=by unfold wrap64;omega
theorem _root_.Go.Proofs.YtcbhfedcdnjljaaGreatW.PrintWords.Ev.pos {α:Type} {c:Prop} [Decidable c] {f g:Nat→Option α} {r:α} (hc:c) (h:Ev f r):Ev (fun k=>if c then f k else g k) r:=by
 simpa only [if_pos hc] using h
theorem _root_.Go.Proofs.YtcbhfedcdnjljaaGreatW.PrintWords.Ev.neg {α:Type} {c:Prop} [Decidable c] {f g:Nat→Option α} {r:α} (hc:¬ c) (h:Ev g r):Ev (fun k=>if c then f k else g k) r:=by
 simpa only [if_neg hc] using h
theorem _root_.Go.Proofs.YtcbhfedcdnjljaaGreatW.PrintWords.Ev.eq {α:Type} {x:Option α} {r:α} (h:x=some r):Ev (fun _=>x) r:=by rw [h];exact Ev.now r
theorem _root_.Go.Proofs.YtcbhfedcdnjljaaGreatW.PrintWords.Ev.to {α:Type} {g:Nat→Option α} {r r':α} (h:Ev g r) (e:r=r'):Ev g r':=e▸h
theorem sn {α:Type} {b:List α} (h:4≤b.length):∃ x0 x1 x2 x3 r,b=x0 :: x1 :: x2 :: x3 :: r:=by
 match b,h with
 | x0 :: x1 :: x2 :: x3 :: r,_=>exact ⟨x0,x1,x2,x3,r,rfl⟩
def num (n:Int):List Int:=if n<0 then [] else if n > 4294967295 then [] else [n / 16777216 % 256,n / 65536 % 256,n / 256 % 256,n % 256]
def text (s:ByteArray):List Int:=num s.size++bytesOf s
def texts (l:List ByteArray):List Int:=num l.length++(l.map text).flatten
def dS (b:List Int):Int:=16777216*rd b 0+65536*rd b 1+256*rd b 2+rd b 3
def iX (b:List Int):Int × List Int × Bool:=if b.length<4 then (0,[],false) else (dS b,b.drop 4,true)
def fV (b:List Int):ByteArray × List Int × Bool:=
 if b.length<4 then (⟨#[]⟩,[],false) else if dS b > ((b.length - 4:Nat):Int) then (⟨#[]⟩,[],false) else (strOfNums ((b.drop 4).take (dS b).toNat),(b.drop 4).drop (dS b).toNat,true)
theorem xR {n:Int} (h0:0≤n) (h1:n≤4294967295):num n=[n / 16777216 % 256,n / 65536 % 256,n / 256 % 256,n % 256]:=by
 unfold num
 rw [if_neg (by omega),if_neg (by omega)]
theorem iC {n:Int} (h0:0≤n) (h1:n≤4294967295):(num n).length=4:=by rw [xR h0 h1];rfl
theorem fF (n:Int):(num n).length≤4:=by
 unfold num
 split
 ·
  simp
 ·
  split<;>simp
theorem g_ (n:Int):Bytes (num n):=by
 unfold num
 split
 ·
  exact Bytes.nil
 ·
  split
  ·
   exact Bytes.nil
  ·
   refine Bytes.cons ?_ ?_ (Bytes.cons ?_ ?_ (Bytes.cons ?_ ?_ (Bytes.cons ?_ ?_ Bytes.nil)))<;>omega
theorem jX {n:Int} (h0:0≤n) (h1:n≤4294967295) (r:List Int):dS (num n++r)=n:=by
 rw [xR h0 h1]
 simp [dS,rd]
 omega
theorem iU {b:List Int} (h:Bytes b) (hl:4≤b.length):0≤dS b∧dS b≤4294967295:=by
 match b,hl with
 | x0 :: x1 :: x2 :: x3 :: r,_=>
  have h0:=h x0 (by simp)
  have h1:=h x1 (by simp)
  have h2:=h x2 (by simp)
  have h3:=h x3 (by simp)
  simp [dS,rd]
  omega
theorem rp {b:List Int} (h:Bytes b) (hl:4≤b.length):num (dS b)=b.take 4:=by
 obtain ⟨g0,g1⟩:=iU h hl
 rw [xR g0 g1]
 match b,hl with
 | x0 :: x1 :: x2 :: x3 :: r,_=>
  have h0:=h x0 (by simp)
  have h1:=h x1 (by simp)
  have h2:=h x2 (by simp)
  have h3:=h x3 (by simp)
  simp [dS,rd]
  omega
theorem zG {s:ByteArray} (h:s.size≤4294967295):(text s).length=4+s.size:=by
 unfold text
 rw [List.length_append,iC (by omega) (by omega),bytesOf_length]
theorem gO (s:ByteArray):(text s).length≤4+s.size:=by
 unfold text
 rw [List.length_append,bytesOf_length]
 have:=fF s.size
 omega
theorem nh (s:ByteArray):Bytes (text s):=(g_ _).append (oC s)
theorem ux {n:Int} (h0:0≤n) (h1:n≤4294967295) (r:List Int):iX (num n++r)=(n,r,true):=by
 unfold iX
 rw [if_neg (by rw [List.length_append,iC h0 h1];omega),jX h0 h1]
 congr 2
 rw [←iC h0 h1,List.drop_left]
theorem py {s:ByteArray} (h:s.size≤4294967295) (r:List Int):fV (text s++r)=(s,r,true):=by
 have hl:=zG h
 have hv:dS (text s++r)=s.size:=by rw [text,List.append_assoc,jX (by omega) (by omega)]
 have hd:(text s++r).drop 4=bytesOf s++r:=by
  rw [text,List.append_assoc,← iC (n:=(s.size:Int)) (by omega) (by omega),List.drop_left]
 unfold fV
 rw [if_neg (by rw [List.length_append];omega),hv,hd,if_neg (by rw [List.length_append];omega)]
 have h2:((s.size:Int)).toNat=(bytesOf s).length:=by rw [bytesOf_length];rfl
 rw [h2,List.take_left,List.drop_left,rT]
theorem jb {b:List Int} (hb:Bytes b):Bytes (fV b).2.1:=by
 unfold fV
 split
 ·
  exact Bytes.nil
 ·
  split
  ·
   exact Bytes.nil
  ·
   exact (hb.drop 4).drop _
def iP:List UInt8→List UInt8→Int
 | [],[]=>0
 | [],_ :: _=>-1
 | _ :: _,[]=>1
 | x :: a,y :: b=>if x<y then -1 else if y<x then 1 else iP a b
theorem C_ {x y:UInt8} (h:x<y):¬ y<x:=fun h2=>absurd (UInt8.lt_trans h h2) (UInt8.lt_irrefl x)
theorem xu {x y:UInt8} (h:¬ x<y) (h2:¬ y<x):x=y:=UInt8.le_antisymm (UInt8.not_lt.1 h2) (UInt8.not_lt.1 h)
theorem rV:∀ a b:List UInt8,iP a b=if Op.bytesLess a b=true then -1 else if Op.bytesLess b a=true then 1 else 0
 | [],[]=>rfl
 | [],_ :: _=>rfl
 | _ :: _,[]=>rfl
 | x :: a,y :: b=>by
  have ih:=rV a b
  by_cases h1:x<y
  ·
   simp [iP,Op.bytesLess,h1]
  ·
   by_cases h2:y<x
   ·
    have h3:¬ x=y:=fun h=>by rw [h] at h2;exact UInt8.lt_irrefl y h2
    simp [iP,Op.bytesLess,h1,h2,h3]
   ·
    have h3:=xu h1 h2
    subst h3
    simp only [iP,Op.bytesLess,h1,decide_false,Bool.false_or,beq_self_eq_true,Bool.true_and]
    exact ih
theorem Ar:∀ a b:List UInt8,iP a b = -1∨iP a b=0∨iP a b=1
 | [],[]=>.inr (.inl rfl)
 | [],_ :: _=>.inl rfl
 | _ :: _,[]=>.inr (.inr rfl)
 | x :: a,y :: b=>by
  unfold iP
  split
  ·
   exact .inl rfl
  ·
   split
   ·
    exact .inr (.inr rfl)
   ·
    exact Ar a b
theorem lD:∀ {a b:List UInt8},iP a b=0↔a=b
 | [],[]=>by simp [iP]
 | [],_ :: _=>by simp [iP]
 | _ :: _,[]=>by simp [iP]
 | x :: a,y :: b=>by
  have ih:=lD (a:=a) (b:=b)
  unfold iP
  by_cases h1:x<y
  ·
   rw [if_pos h1]
   have h3:¬ x=y:=fun h=>by rw [h] at h1;exact UInt8.lt_irrefl y h1
   simp [h3]
  ·
   rw [if_neg h1]
   by_cases h2:y<x
   ·
    rw [if_pos h2]
    have h3:¬ x=y:=fun h=>by rw [h] at h2;exact UInt8.lt_irrefl y h2
    simp [h3]
   ·
    rw [if_neg h2,xu h1 h2,ih]
    simp
theorem t_:∀ a b:List UInt8,iP b a = - iP a b
 | [],[]=>rfl
 | [],_ :: _=>rfl
 | _ :: _,[]=>rfl
 | x :: a,y :: b=>by
  have ih:=t_ a b
  unfold iP
  by_cases h1:x<y
  ·
   simp [h1,C_ h1]
  ·
   by_cases h2:y<x
   ·
    simp [h1,h2]
   ·
    simp only [h1,h2,if_false]
    exact ih
theorem qO:∀ {a b c:List UInt8},iP a b = -1→iP b c = -1→iP a c = -1
 | [],[],_,h,_=>by simp [iP] at h
 | _ :: _,[],_,h,_=>by simp [iP] at h
 | [],_ :: _,[],_,h=>by simp [iP] at h
 | [],_ :: _,_ :: _,_,_=>rfl
 | _ :: _,_ :: _,[],_,h=>by simp [iP] at h
 | x :: a,y :: b,z :: c,h,h'=>by
  unfold iP at h h' ⊢
  by_cases h1:x<y
  ·
   by_cases h2:y<z
   ·
    rw [if_pos (UInt8.lt_trans h1 h2)]
   ·
    rw [if_neg h2] at h'
    by_cases h3:z<y
    ·
     rw [if_pos h3] at h';simp at h'
    ·
     rw [←xu h2 h3,if_pos h1]
  ·
   rw [if_neg h1] at h
   by_cases h2:y<x
   ·
    rw [if_pos h2] at h;simp at h
   ·
    rw [if_neg h2] at h
    have e:=xu h1 h2
    subst e
    by_cases h3:x<z
    ·
     rw [if_pos h3]
    ·
     rw [if_neg h3] at h' ⊢
     by_cases h4:z<x
     ·
      rw [if_pos h4] at h';simp at h'
     ·
      rw [if_neg h4] at h' ⊢
      exact qO h h'
def fR (a b:ByteArray):Int:=iP a.toList b.toList
def kX (a b:Int):Int:=if a<b then -1 else if b<a then 1 else 0
theorem iM {a b:ByteArray}:fR a b=0↔a=b:=⟨fun h=>toList_inj (lD.1 h),fun h=>lD.2 (by rw [h])⟩
theorem AA (a b:ByteArray):fR a b = -1∨fR a b=0∨fR a b=1:=Ar _ _
theorem z6 (a b:Int):kX a b = -1∨kX a b=0∨kX a b=1:=by
 unfold kX
 split
 ·
  exact .inl rfl
 ·
  split
  ·
   exact .inr (.inr rfl)
  ·
   exact .inr (.inl rfl)
theorem CY {a b:Int}:kX a b=0↔a=b:=by
 unfold kX
 split
 ·
  omega
 ·
  split<;>omega
theorem DJ (a b:Int):kX b a = - kX a b:=by unfold kX;split<;>split<;>first | omega | (split<;>omega)
def kG (r c:ByteArray) (t:Int) (r' c':ByteArray) (t':Int):Int:=if fR r r'=0 then (if fR c c'=0 then kX t' t else fR c c') else fR r r'
theorem Er (r c t r' c' t'):kG r c t r' c' t' = -1∨kG r c t r' c' t'=0∨kG r c t r' c' t'=1:=by
 unfold kG
 split
 ·
  split
  ·
   exact z6 _ _
  ·
   exact AA _ _
 ·
  exact AA _ _
theorem C9 (r c t r' c' t'):kG r' c' t' r c t = - kG r c t r' c' t':=by
 have h1:fR r' r = - fR r r':=t_ _ _
 have h2:fR c' c = - fR c c':=t_ _ _
 have h3:=DJ t' t
 unfold kG
 rw [h1,h2,h3]
 by_cases e1:fR r r'=0
 ·
  rw [if_pos e1,if_pos (by omega)]
  by_cases e2:fR c c'=0
  ·
   rw [if_pos e2,if_pos (by omega)]
  ·
   rw [if_neg e2,if_neg (by omega)]
 ·
  rw [if_neg e1,if_neg (by omega)]
theorem BO {r c t r' c' t'}:kG r c t r' c' t'=0↔r=r'∧c=c'∧t=t':=by
 unfold kG
 by_cases e1:fR r r'=0
 ·
  rw [if_pos e1]
  by_cases e2:fR c c'=0
  ·
   rw [if_pos e2,CY]
   exact ⟨fun h=>⟨iM.1 e1,iM.1 e2,h.symm⟩,fun h=>h.2.2.symm⟩
  ·
   rw [if_neg e2]
   exact ⟨fun h=>absurd h e2,fun h=>absurd (iM.2 h.2.1) e2⟩
 ·
  rw [if_neg e1]
  exact ⟨fun h=>absurd h e1,fun h=>absurd (iM.2 h.1) e1⟩
theorem AK {r c t r' c' t' r'' c'' t''} (h:kG r c t r' c' t' = -1) (h':kG r' c' t' r'' c'' t'' = -1):kG r c t r'' c'' t'' = -1:=by
 unfold kG at h h' ⊢
 by_cases e1:fR r r'=0
 ·
  rw [if_pos e1] at h
  have:=iM.1 e1
  subst this
  by_cases e2:fR r r''=0
  ·
   rw [if_pos e2] at h' ⊢
   by_cases e3:fR c c'=0
   ·
    rw [if_pos e3] at h
    have:=iM.1 e3
    subst this
    by_cases e4:fR c c''=0
    ·
     rw [if_pos e4] at h' ⊢
     unfold kX at h h' ⊢
     split at h<;>split at h'<;>first | (simp at h;done) | (rw [if_pos (by omega)]) | (split at h<;>simp at h;done) | (split at h'<;>simp at h')
    ·
     rw [if_neg e4] at h' ⊢
     exact h'
   ·
    rw [if_neg e3] at h
    by_cases e4:fR c' c''=0
    ·
     have:=iM.1 e4
     subst this
     rw [if_neg e3]
     exact h
    ·
     rw [if_neg e4] at h'
     have h5:fR c c'' = -1:=qO h h'
     rw [if_neg (by omega)]
     exact h5
  ·
   rw [if_neg e2] at h' ⊢
   exact h'
 ·
  rw [if_neg e1] at h
  by_cases e2:fR r' r''=0
  ·
   have:=iM.1 e2
   subst this
   rw [if_neg e1]
   exact h
  ·
   rw [if_neg e2] at h'
   have h5:fR r r'' = -1:=qO h h'
   rw [if_neg (by omega)]
   exact h5
def ic (r c:ByteArray) (t:Int) (v:ByteArray) (g:Bool):Bool:=decide (1≤r.size∧r.size≤64∧1≤c.size∧c.size≤64∧0≤t∧t≤4294967295∧v.size≤256∧(g=false∨v.size=0))
theorem d7 {r c:ByteArray} {t:Int} {v:ByteArray} {g:Bool}:ic r c t v g=true↔1≤r.size∧r.size≤64∧1≤c.size∧c.size≤64∧0≤t∧t≤4294967295∧v.size≤256∧(g=false∨v.size=0):=by unfold ic;exact decide_eq_true_iff
theorem toList_nil {v:ByteArray}:(v.toList == ([]:List UInt8))=decide (v.size=0):=by
 rw [Bool.eq_iff_iff,beq_iff_eq,decide_eq_true_iff,wX]
 constructor
 ·
  intro h
  exact toList_inj (h.trans (by simp [ByteArray.toList_eq]))
 ·
  rintro rfl
  simp [ByteArray.toList_eq]
theorem fY {c d:Bool} (h:c=true↔d=true):some c=some d:=by rw [Option.some.injEq,Bool.eq_iff_iff,h]
open Go.Proofs.YtcbhfedcdnjljaaGreat.X Go.Proofs.YtcbhfedcdnjljaaGreatW.PrintLast
theorem yY (s:ByteArray):eM.f s=some (decide (1≤s.size∧s.size≤64)):=by
 unfold eM.f
 by_cases h:s.size≥1
 ·
  rw [if_pos (by omega)]
  congr 1
  rw [decide_eq_decide]
  omega
 ·
  rw [if_neg (by omega)]
  congr 1
  symm
  rw [decide_eq_false_iff_not]
  omega
theorem kM (r c:ByteArray) (t:Int) (v:ByteArray) (g:Bool):eL.f r c t v g=some (ic r c t v g):=by
 unfold eL.f
 simp only [yY,Option.bind_some,decide_eq_true_eq,toList_nil]
 split
 ·
  split
  ·
   split
   ·
    split
    ·
     split
     ·
      split
      ·
       exact fY (by rename_i h;rw [d7,decide_eq_true_iff];exact ⟨fun hz=>⟨by omega,by omega,by omega,by omega,by omega,by omega,by omega,.inr hz⟩,fun hh=>hh.2.2.2.2.2.2.2.elim (fun e=>by rw [h] at e;cases e) id⟩)
      ·
       exact fY (by rename_i h;rw [d7];exact ⟨fun _=>⟨by omega,by omega,by omega,by omega,by omega,by omega,by omega,.inl (by simpa using h)⟩,fun _=>rfl⟩)
     ·
      exact fY (by rw [d7];simp only [Bool.false_eq_true,false_iff];omega)
    ·
     exact fY (by rw [d7];simp only [Bool.false_eq_true,false_iff];omega)
   ·
    exact fY (by rw [d7];simp only [Bool.false_eq_true,false_iff];omega)
  ·
   exact fY (by rw [d7];simp only [Bool.false_eq_true,false_iff];omega)
 ·
  exact fY (by rw [d7];simp only [Bool.false_eq_true,false_iff];omega)
theorem xC (a b:ByteArray):eR.f a b=some (fR a b):=by
 unfold eR.f dz.f fR
 rw [rV]
 simp only [Option.bind_some,bne_self_eq_false,Bool.false_eq_true,if_false]
 split
 ·
  rfl
 ·
  split<;>rfl
theorem wA (a b:Int):fI.f a b=some (kX a b):=by
 unfold fI.f dU.f kX
 simp only [Option.bind_some,bne_self_eq_false,Bool.false_eq_true,if_false]
 split
 ·
  rfl
 ·
  split<;>rfl
theorem DA (a b c:Int):Ev (fun k=>cr.f k [a,b,c]) (if a=0 then (if b=0 then c else b) else a):=by
 unfold cr.f
 have hl:(([a,b,c]:List Int).length:Int)=3:=rfl
 rw [hl]
 by_cases ha:a=0
 ·
  rw [if_pos ha]
  refine Ev.step (f:=fun k=>cr.l0 k 0 [a,b,c] 3 1) (fun k=>?_) ?_
  ·
   simp only [cr.l0,hl]
   rw [if_pos (by omega),if_pos (by omega),if_pos (by omega),show rd [a,b,c] 0=a from rfl,if_pos ha,fZ (by omega) (by omega)]
   rfl
  by_cases hb:b=0
  ·
   rw [if_pos hb]
   refine Ev.step (f:=fun k=>cr.l0 k 0 [a,b,c] 3 2) (fun k=>?_) ?_
   ·
    simp only [cr.l0,hl]
    rw [if_pos (by omega),if_pos (by omega),if_pos (by omega),show rd [a,b,c] 1=b from rfl,if_pos hb,fZ (by omega) (by omega)]
    rfl
   by_cases hc:c=0
   ·
    refine Ev.step (f:=fun k=>cr.l0 k 0 [a,b,c] 3 3) (fun k=>?_) ?_
    ·
     simp only [cr.l0,hl]
     rw [if_pos (by omega),if_pos (by omega),if_pos (by omega),show rd [a,b,c] 2=c from rfl,if_pos hc,fZ (by omega) (by omega)]
     rfl
    refine Ev.step (f:=fun _=>some 0) (fun k=>?_) ((Ev.now 0).to hc.symm)
    simp only [cr.l0]
    rw [if_neg (by omega)]
   ·
    refine Ev.step (f:=fun _=>some c) (fun k=>?_) (Ev.now _)
    simp only [cr.l0,hl]
    rw [if_pos (by omega),if_pos (by omega),if_pos (by omega),show rd [a,b,c] 2=c from rfl,if_neg hc]
  ·
   rw [if_neg hb]
   refine Ev.step (f:=fun _=>some b) (fun k=>?_) (Ev.now _)
   simp only [cr.l0,hl]
   rw [if_pos (by omega),if_pos (by omega),if_pos (by omega),show rd [a,b,c] 1=b from rfl,if_neg hb]
 ·
  rw [if_neg ha]
  refine Ev.step (f:=fun _=>some a) (fun k=>?_) (Ev.now _)
  simp only [cr.l0,hl]
  rw [if_pos (by omega),if_pos (by omega),if_pos (by omega),show rd [a,b,c] 0=a from rfl,if_neg ha]
theorem pV (r c:ByteArray) (t:Int) (v:ByteArray) (g:Bool) (r' c':ByteArray) (t':Int) (v':ByteArray) (g':Bool):Ev (fun k=>bR.f k r c t v g r' c' t' v' g') (kG r c t r' c' t'):=by
 unfold bR.f
 simp only [xC,wA,Option.bind_some]
 exact Ev.bind (DA _ _ _) (Ev.now _)
abbrev Cell:=au
abbrev mD (xs:List Cell) (i:Int):Cell:=af xs i
theorem gG (l:List Cell) (i:Nat) (h:i<l.length):mD l (i:Int)=l[i]:=by
 show l.getD (i:Int).toNat _=_
 rw [Int.toNat_natCast,List.getD_eq_getElem?_getD,List.getElem?_eq_getElem h]
 rfl
def cc (a b:Cell):Int:=kG a.f0 a.f1 a.f2 b.f0 b.f1 b.f2
def fT (a:Cell):Bool:=ic a.f0 a.f1 a.f2 a.f3 a.f4
theorem sU (a b:Cell):cc a b = -1∨cc a b=0∨cc a b=1:=Er _ _ _ _ _ _
theorem mM (a b:Cell):cc b a = - cc a b:=C9 _ _ _ _ _ _
theorem nM {a b:Cell}:cc a b=0↔a.f0=b.f0∧a.f1=b.f1∧a.f2=b.f2:=BO
theorem jA {a b c:Cell} (h:cc a b = -1) (h':cc b c = -1):cc a c = -1:=AK h h'
theorem oT (a:Cell):cc a a=0:=nM.2 ⟨rfl,rfl,rfl⟩
theorem lN {a b:Cell} (h:cc a b=0) (c:Cell):cc a c=cc b c:=by
 obtain ⟨h1,h2,h3⟩:=nM.1 h
 unfold cc
 rw [h1,h2,h3]
theorem tU {a b:Cell} (h:cc a b=0) (c:Cell):cc c a=cc c b:=by
 obtain ⟨h1,h2,h3⟩:=nM.1 h
 unfold cc
 rw [h1,h2,h3]
theorem Gf {a b:Cell} (h1:¬ cc a b = -1) (h2:¬ cc a b=0):cc b a = -1:=by
 have:=sU a b
 have:=mM a b
 omega
theorem Co {a b:Cell} (h:cc a b=0):cc b a=0:=by
 have:=mM a b
 omega
def ins (c:Cell):List Cell→List Cell
 | []=>[c]
 | x :: l=>if cc x c = -1 then x :: ins c l else if cc x c=0 then c :: l else c :: x :: l
def eT (l:List Cell):Prop:=l.Pairwise (fun a b=>cc a b = -1)
def fW (l:List Cell):Prop:=∀ c ∈ l,fT c=true
def iG (l:List Cell):Prop:=fW l∧eT l
theorem o3 {c x:Cell}:∀ {l:List Cell},x ∈ ins c l→x=c∨x ∈ l
 | [],h=>by simp only [ins,List.mem_singleton] at h;exact .inl h
 | y :: l,h=>by
  unfold ins at h
  split at h
  ·
   rcases List.mem_cons.1 h with rfl | h
   ·
    exact .inr (List.mem_cons_self)
   ·
    exact (o3 h).imp id (List.mem_cons_of_mem _)
  ·
   split at h
   ·
    rcases List.mem_cons.1 h with rfl | h
    ·
     exact .inl rfl
    ·
     exact .inr (List.mem_cons_of_mem _ h)
   ·
    rcases List.mem_cons.1 h with rfl | h
    ·
     exact .inl rfl
    ·
     exact .inr h
theorem o4 (c:Cell):∀ l:List Cell,c ∈ ins c l
 | []=>by simp [ins]
 | y :: l=>by
  unfold ins
  split
  ·
   exact List.mem_cons_of_mem _ (o4 c l)
  ·
   split<;>exact List.mem_cons_self
theorem qN {c x:Cell} (hx:cc x c≠0):∀ {l:List Cell},x ∈ l→x ∈ ins c l
 | [],h=>by cases h
 | y :: l,h=>by
  unfold ins
  split
  ·
   rcases List.mem_cons.1 h with rfl | h
   ·
    exact List.mem_cons_self
   ·
    exact List.mem_cons_of_mem _ (qN hx h)
  ·
   split
   ·
    rename_i h0
    rcases List.mem_cons.1 h with rfl | h
    ·
     exact absurd h0 hx
    ·
     exact List.mem_cons_of_mem _ h
   ·
    exact List.mem_cons_of_mem _ h
theorem nG {c:Cell}:∀ {l:List Cell},eT l→eT (ins c l)
 | [],_=>by simp [ins,eT]
 | y :: l,h=>by
  obtain ⟨h1,h2⟩:=List.pairwise_cons.1 h
  unfold ins
  split
  ·
   rename_i hy
   refine List.pairwise_cons.2 ⟨fun z hz=>?_,nG h2⟩
   rcases o3 hz with rfl | hz
   ·
    exact hy
   ·
    exact h1 z hz
  ·
   split
   ·
    rename_i h0
    refine List.pairwise_cons.2 ⟨fun z hz=>?_,h2⟩
    rw [←lN h0]
    exact h1 z hz
   ·
    rename_i hn h0
    have hg:=Gf hn h0
    refine List.pairwise_cons.2 ⟨fun z hz=>?_,h⟩
    rcases List.mem_cons.1 hz with rfl | hz
    ·
     exact hg
    ·
     exact jA hg (h1 z hz)
theorem Bc {c:Cell} {l:List Cell} (hc:fT c=true) (h:fW l):fW (ins c l):=fun x hx=>(o3 hx).elim (fun e=>e▸hc) (h x)
theorem zX {c:Cell} {l:List Cell} (hc:fT c=true) (h:iG l):iG (ins c l):=⟨Bc hc h.1,nG h.2⟩
theorem rC (c:Cell):∀ l:List Cell,(ins c l).length≤l.length+1
 | []=>by simp [ins]
 | y :: l=>by
  have:=rC c l
  unfold ins
  split
  ·
   simp only [List.length_cons];omega
  ·
   split<;>simp only [List.length_cons]<;>omega
theorem sw:∀ (l o:List Cell),(l.foldl (fun o c=>ins c o) o).length≤o.length+l.length
 | [],o=>by simp
 | c :: l,o=>by
  have h1:=sw l (ins c o)
  have h2:=rC c o
  simp only [List.foldl_cons,List.length_cons]
  omega
theorem vO:iG []:=⟨fun _ hx=>(by cases hx),List.Pairwise.nil⟩
theorem wg (c:Cell):∀ (l:List Cell) (i:Nat),i≤l.length→(∀ j (_:j<i) (hl:j<l.length),cc l[j] c = -1)→(∀ h:i<l.length,¬ cc l[i] c = -1)→
  ins c l=l.take i++c :: (l.drop (if h:i<l.length then (if cc l[i] c=0 then i+1 else i) else i))
 | [],i,hi,_,_=>by
  have:i=0:=by simpa using hi
  subst this
  simp [ins]
 | x :: l,0,_,_,h2=>by
  have h3:=h2 (by simp)
  simp only [List.getElem_cons_zero] at h3
  unfold ins
  rw [if_neg h3]
  by_cases h0:cc x c=0
  ·
   simp [h0]
  ·
   simp [h0]
 | x :: l,i+1,hi,h1,h2=>by
  have hx:=h1 0 (by omega) (by simp)
  simp only [List.getElem_cons_zero] at hx
  unfold ins
  rw [if_pos hx,wg c l i (by simpa using hi) (fun j hj hl=>by have:=h1 (j+1) (by omega) (by simpa using hl);simpa using this) (fun hl=>by have:=h2 (by simpa using hl);simpa using this)]
  by_cases hl:i<l.length
  ·
   by_cases h0:cc l[i] c=0
   ·
    simp [hl,h0]
   ·
    simp [hl,h0]
  ·
   simp [hl]
theorem fo {a:Cell}:fT a=true↔1≤a.f0.size∧a.f0.size≤64∧1≤a.f1.size∧a.f1.size≤64∧0≤a.f2∧a.f2≤4294967295∧a.f3.size≤256∧(a.f4=false∨a.f3.size=0):=d7
def rj (l:List Cell) (i:Nat):Bool:=fT (mD l i) && (i == 0 || cc (mD l ((i:Int) - 1)) (mD l i) == -1)
def kI (l:List Cell) (i:Nat):Nat→Bool
 | 0=>true
 | d+1=>rj l i && kI l (i+1) d
def jd (l:List Cell):Bool:=kI l 0 l.length
theorem qw (l:List Cell):∀ d i,kI l i d=true↔∀ j,i≤j→j<i+d→rj l j=true
 | 0,i=>⟨fun _ j h1 h2=>by omega,fun _=>rfl⟩
 | d+1,i=>by
  unfold kI
  rw [Bool.and_eq_true,qw l d (i+1)]
  constructor
  ·
   rintro ⟨h1,h2⟩ j h3 h4
   by_cases hj:j=i
   ·
    rw [hj];exact h1
   ·
    exact h2 j (by omega) (by omega)
  ·
   intro h
   exact ⟨h i (by omega) (by omega),fun j h3 h4=>h j (by omega) (by omega)⟩
theorem sD:∀ (l:List Cell),(∀ i (h:i+1<l.length),cc l[i] l[i+1] = -1)→eT l
 | [],_=>List.Pairwise.nil
 | [x],_=>by simp [eT]
 | x :: y :: l,h=>by
  have h1:cc x y = -1:=by have:=h 0 (by simp);simpa using this
  have h2:eT (y :: l):=sD (y :: l) (fun i hi=>by have:=h (i+1) (by simpa using hi);simpa using this)
  refine List.pairwise_cons.2 ⟨fun z hz=>?_,h2⟩
  rcases List.mem_cons.1 hz with rfl | hz
  ·
   exact h1
  ·
   exact jA h1 ((List.pairwise_cons.1 h2).1 z hz)
theorem kS {l:List Cell}:jd l=true↔iG l:=by
 unfold jd
 rw [qw]
 constructor
 ·
  intro h
  refine ⟨fun x hx=>?_,sD l fun i hi=>?_⟩
  ·
   obtain ⟨i,hi,rfl⟩:=List.getElem_of_mem hx
   have:=h i (by omega) (by omega)
   unfold rj at this
   rw [Bool.and_eq_true,gG _ _ hi] at this
   exact this.1
  ·
   have:=h (i+1) (by omega) (by omega)
   unfold rj at this
   rw [Bool.and_eq_true,gG _ _ hi,show ((i+1:Nat):Int) - 1=(i:Int) by omega,gG _ _ (by omega)] at this
   simpa using this.2
 ·
  rintro ⟨h1,h2⟩ j _ hj
  have hj':j<l.length:=by omega
  unfold rj
  rw [gG _ _ hj',h1 _ (List.getElem_mem hj'),Bool.true_and]
  by_cases h0:j=0
  ·
   simp [h0]
  ·
   rw [show (j:Int) - 1=((j - 1:Nat):Int) by omega,gG _ _ (by omega),List.pairwise_iff_getElem.1 h2 (j - 1) j (by omega) hj' (by omega)]
   simp
def uF (a:Cell):Prop:=a.f0.size≤140737488355328∧a.f1.size≤140737488355328
theorem ql {a:Cell} (h:fT a=true):uF a:=by
 obtain ⟨_,h1,_,h2,_⟩:=fo.1 h
 exact ⟨by omega,by omega⟩
theorem mP (a b:Cell):Ev (fun k=>bR.f k a.f0 a.f1 a.f2 a.f3 a.f4 b.f0 b.f1 b.f2 b.f3 b.f4) (cc a b):=pV _ _ _ _ _ _ _ _ _ _
theorem vZ {l:List Cell} (h:0<l.length):rj l 0=fT l[0]:=by
 unfold rj
 rw [gG l 0 h]
 simp
theorem xM {l:List Cell} {i:Nat} (h:i<l.length) (h0:0<i):rj l i=(fT l[i] && (cc (l[i-1]'(by omega)) l[i] == -1)):=by
 unfold rj
 rw [gG l i h,show (i:Int) - 1=((i - 1:Nat):Int) by omega,gG l (i - 1) (by omega),show (i == 0)=false by simp;omega,Bool.false_or]
theorem vT (l:List Cell) (hn:l.length≤140737488355328) (d:Nat):∀ i:Nat,i≤l.length→l.length - i=d→Ev (fun k=>aQ.l0 k l l (l.length:Int) (i:Int)) (kI l i d):=by
 induction d with
 | zero=>
  intro i hi hd
  refine Ev.step (f:=fun _=>some true) (fun k=>?_) (Ev.now _)
  simp only [aQ.l0]
  rw [if_neg (by omega)]
 | succ d ih=>
  intro i hi hd
  have hlt:i<l.length:=by omega
  have hr:=gG l i hlt
  unfold mD at hr
  have jt:Ev (fun k=>aQ.j1 k l l (l.length:Int) (i:Int) true) false:=Ev.step (f:=fun _=>some false) (fun k=>by simp only [aQ.j1,if_true]) (Ev.now _)
  have jf:Ev (fun k=>aQ.j1 k l l (l.length:Int) (i:Int) false) (kI l (i+1) d):=Ev.step (f:=fun k=>aQ.l0 k l l (l.length:Int) ((i+1:Nat):Int)) (fun k=>by simp only [aQ.j1,Bool.false_eq_true,if_false];rw [fZ (by omega) (by omega)];rfl) (ih (i+1) (by omega) (by omega))
  unfold kI
  refine Ev.step (fun k=>by simp only [aQ.l0];rw [if_pos (by omega),if_pos (by omega),if_pos (by omega),hr]) (Ev.bind (Ev.eq (kM _ _ _ _ _)) ?_)
  by_cases hc:fT l[i]=true
  ·
   refine Ev.pos hc ?_
   by_cases h0:0<i
   ·
    have hr1:=gG l (i - 1) (by omega)
    unfold mD at hr1
    have hi1:wrap64 ((i:Int) - 1)=((i - 1:Nat):Int):=by rw [fZ (by omega) (by omega)];omega
    refine Ev.pos (by omega) ?_
    rw [hi1,hr1,xM hlt h0,hc,Bool.true_and]
    refine Ev.pos (by omega) (Ev.pos (by omega) (Ev.bind (mP _ _) ?_))
    have hin:=sU (l[i-1]'(by omega)) l[i]
    by_cases h1:cc (l[i-1]'(by omega)) l[i] = -1
    ·
     rw [h1]
     exact jf
    ·
     rw [show (cc (l[i-1]'(by omega)) l[i] == -1)=false by simpa using h1,Bool.false_and,decide_eq_true (by omega)]
     exact jt
   ·
    have:i=0:=by omega
    subst this
    rw [vZ hlt,hc,Bool.true_and]
    exact Ev.neg (by omega) jf
  ·
   have hc':fT l[i]=false:=by simpa using hc
   refine Ev.neg hc (jt.to ?_)
   by_cases h0:0<i
   ·
    rw [xM hlt h0,hc']
    rfl
   ·
    have:i=0:=by omega
    subst this
    rw [vZ hlt,hc']
    rfl
theorem lT {l:List Cell} (hn:l.length≤140737488355328):Ev (fun k=>aQ.f k l) (jd l):=by
 unfold aQ.f jd
 exact vT l hn l.length 0 (by omega) (by omega)
theorem js (n:Int):eB.f n=some (num n):=by
 unfold eB.f num
 split
 ·
  rfl
 ·
  split
  ·
   rfl
  ·
   rfl
theorem yC {l:List Int} (h:l.length≤140737488355328):dD.f l=some l:=by
 unfold dD.f
 rw [if_pos (by omega)]
theorem Ee {x c:Int} (h0:0≤x) (h1:x<16777216) (h2:0≤c) (h3:c<256):Go.bits .or .i64 (wrap64 (x*256)) (wrap64 c)=x*256+c:=by
 rw [fZ (by omega) (by omega),fZ (by omega) (by omega)]
 have hw:∀ n:Int,0≤n→n<2 ^ 32→IntKind.i64.wrap n=n:=by
  intro n h4 h5
  rw [IntKind.wrap_i64]
  omega
 exact bits_join .i64 32 (by decide) hw 8 (x*256) c (by omega) (by omega) (by omega) h2 (by omega) (by omega)
theorem ke {b:List Int} (hb:Bytes b) (hl:b.length≤140737488355328):Ev (fun k=>bq.f k b) (iX b):=by
 unfold bq.f iX
 by_cases h4:b.length<4
 ·
  rw [if_pos h4]
  exact Ev.pos (by omega) (Ev.now _)
 ·
  rw [if_neg h4]
  refine Ev.neg (by omega) (Ev.pos (by omega) (Ev.bind (Ev.now _) ?_))
  obtain ⟨x0,x1,x2,x3,r,rfl⟩:=sn (b:=b) (by omega)
  ·
   clear h4
   obtain ⟨a0,b0⟩:=hb x0 (by simp)
   obtain ⟨a1,b1⟩:=hb x1 (by simp)
   obtain ⟨a2,b2⟩:=hb x2 (by simp)
   obtain ⟨a3,b3⟩:=hb x3 (by simp)
   simp only [List.take_succ_cons,List.take_zero]
   have hlen:(([x0,x1,x2,x3]:List Int).length:Int)=4:=rfl
   rw [hlen]
   refine Ev.step (f:=fun k=>bq.l0 k (x0 :: x1 :: x2 :: x3 :: r) x0 [x0,x1,x2,x3] 4 1) (fun k=>?_) ?_
   ·
    simp only [bq.l0]
    rw [if_pos (by omega),if_pos (by omega),if_pos (by rw [hlen];omega)]
    rw [show rd [x0,x1,x2,x3] 0=x0 from rfl,Ee (by omega) (by omega) a0 b0,fZ (by omega) (by omega)]
    simp
   refine Ev.step (f:=fun k=>bq.l0 k (x0 :: x1 :: x2 :: x3 :: r) (x0*256+x1) [x0,x1,x2,x3] 4 2) (fun k=>?_) ?_
   ·
    simp only [bq.l0]
    rw [if_pos (by omega),if_pos (by omega),if_pos (by rw [hlen];omega)]
    rw [show rd [x0,x1,x2,x3] 1=x1 from rfl,Ee (by omega) (by omega) a1 b1,fZ (by omega) (by omega)]
    rfl
   refine Ev.step (f:=fun k=>bq.l0 k (x0 :: x1 :: x2 :: x3 :: r) ((x0*256+x1)*256+x2) [x0,x1,x2,x3] 4 3) (fun k=>?_) ?_
   ·
    simp only [bq.l0]
    rw [if_pos (by omega),if_pos (by omega),if_pos (by rw [hlen];omega)]
    rw [show rd [x0,x1,x2,x3] 2=x2 from rfl,Ee (by omega) (by omega) a2 b2,fZ (by omega) (by omega)]
    rfl
   refine Ev.step (f:=fun k=>bq.l0 k (x0 :: x1 :: x2 :: x3 :: r) (((x0*256+x1)*256+x2)*256+x3) [x0,x1,x2,x3] 4 4) (fun k=>?_) ?_
   ·
    simp only [bq.l0]
    rw [if_pos (by omega),if_pos (by omega),if_pos (by rw [hlen];omega)]
    rw [show rd [x0,x1,x2,x3] 3=x3 from rfl,Ee (by omega) (by omega) a3 b3,fZ (by omega) (by omega)]
    rfl
   refine Ev.step (f:=fun _=>some (dS (x0 :: x1 :: x2 :: x3 :: r),r,true)) (fun k=>?_) (Ev.now _)
   simp only [bq.l0]
   rw [if_neg (by omega),if_pos (by simp only [List.length_cons];omega)]
   rw [show (x0 :: x1 :: x2 :: x3 :: r).drop 4=r from rfl,yC (by simp only [List.length_cons] at hl;omega)]
   simp only [Option.bind_some,Option.some.injEq,Prod.mk.injEq,and_true]
   simp [dS,rd]
   omega
theorem kf {s:ByteArray} (h:s.size≤140737488351232):er.f s=some (text s):=by
 unfold er.f
 rw [js]
 simp only [Option.bind_some]
 rw [if_pos (by have:=fF s.size;omega)]
 rfl
theorem mZ {b:List Int} (hb:Bytes b) (hl:b.length≤140737488355328):Ev (fun k=>d_.f k b) (fV b):=by
 unfold d_.f
 refine Ev.bind (ke hb hl) ?_
 unfold iX fV
 by_cases h4:b.length<4
 ·
  simp only [if_pos h4]
  exact Ev.now _
 ·
  simp only [if_neg h4,if_true]
  obtain ⟨g0,g1⟩:=iU hb (by omega)
  by_cases hv:dS b > ((b.length - 4:Nat):Int)
  ·
   rw [if_pos hv]
   exact Ev.pos (by rw [List.length_drop];exact hv) (Ev.now _)
  ·
   rw [if_neg hv]
   exact Ev.neg (by rw [List.length_drop];exact hv) (Ev.pos g0 (Ev.pos (by rw [List.length_drop];omega) (Ev.now _)))
theorem jV {b:List Int}:(fV b).2.1.length≤b.length:=by
 unfold fV
 split
 ·
  simp
 ·
  split
  ·
   simp
  ·
   simp only [List.length_drop];omega
theorem nW {l:List (List Int)} (h:fG l≤140737488355328):bX.f l=some l.flatten:=by
 unfold bX.f
 rw [if_pos h]
def lS (g:Bool):Int:=if g=true then 1 else 0
theorem Dh (g:Bool):0≤lS g∧lS g≤1:=by cases g<;>decide
def jE (r c:ByteArray) (t:Int) (v:ByteArray) (g:Bool):List Int:=text r++(text c++(num t++([lS g]++text v)))
theorem pZ (r c:ByteArray) (t:Int) (v:ByteArray) (g:Bool):Bytes (jE r c t v g):=by
 obtain ⟨h0,h1⟩:=Dh g
 exact (nh _).append ((nh _).append ((g_ _).append ((Bytes.cons h0 (by omega) Bytes.nil).append (nh _))))
theorem lq (r c:ByteArray) (t:Int) (v:ByteArray) (g:Bool):(jE r c t v g).length≤17+r.size+c.size+v.size:=by
 have h1:=gO r
 have h2:=gO c
 have h3:=gO v
 have h4:=fF t
 unfold jE
 simp only [List.length_append,List.length_cons,List.length_nil]
 omega
theorem nO {r c:ByteArray} (t:Int) {v:ByteArray} (g:Bool) (hr:r.size≤1000000) (hc:c.size≤1000000) (hv:v.size≤1000000):dh.f r c t v g=some (jE r c t v g):=by
 unfold dh.f
 have hf:lg.f g=some (lS g):=by unfold lg.f lS;cases g<;>rfl
 simp only [kf (s:=r) (by omega),kf (s:=c) (by omega),kf (s:=v) (by omega),js,hf,Option.bind_some]
 have hl:=lq r c t v g
 unfold jE at hl
 simp only [List.length_append,List.length_cons,List.length_nil] at hl
 rw [nW (by simp only [fG,List.map_cons,List.map_nil,List.sum_cons,List.sum_nil,List.length_cons,List.length_nil];omega)]
 simp [jE]
def kU (b:List Int):Bool × List Int × Bool:=if b.length=0 then (false,[],false) else if rd b 0 > 1 then (false,[],false) else (rd b 0 == 1,b.drop 1,true)
theorem AF (b:List Int):jC.f b=some (kU b):=by
 unfold jC.f kU
 by_cases h:b.length=0
 ·
  rw [if_pos (by omega),if_pos h]
 ·
  rw [if_neg (by omega),if_neg h,if_pos (by omega)]
  by_cases h1:rd b 0 > 1
  ·
   rw [if_pos h1,if_pos h1]
  ·
   rw [if_neg h1,if_neg h1,if_pos (by omega)]
   rfl
theorem yS (g:Bool) (r:List Int):kU ([lS g]++r)=(g,r,true):=by
 unfold kU
 cases g<;>simp [lS,rd]
abbrev FU:=ByteArray × ByteArray × Int × ByteArray × Bool × List Int × Bool
def iK (b:List Int):FU:=
 let r:=fV b
 let c:=fV r.2.1
 let t:=iX c.2.1
 let g:=kU t.2.1
 let v:=fV g.2.1
 if (r.2.2 && (c.2.2 && (t.2.2 && (g.2.2 && (v.2.2 && ic r.1 c.1 t.1 v.1 g.1)))))=true then (r.1,c.1,t.1,v.1,g.1,v.2.1,true) else (⟨#[]⟩,⟨#[]⟩,0,⟨#[]⟩,false,[],false)
theorem rL {b:List Int} (hb:Bytes b):Bytes (kU b).2.1∧(kU b).2.1.length≤b.length:=by
 unfold kU
 split
 ·
  exact ⟨Bytes.nil,by simp⟩
 ·
  split
  ·
   exact ⟨Bytes.nil,by simp⟩
  ·
   exact ⟨hb.drop 1,by simp only [List.length_drop];omega⟩
theorem rR {b:List Int} (hb:Bytes b):Bytes (iX b).2.1∧(iX b).2.1.length≤b.length:=by
 unfold iX
 split
 ·
  exact ⟨Bytes.nil,by simp⟩
 ·
  exact ⟨hb.drop 4,by simp only [List.length_drop];omega⟩
theorem zI {b:List Int} (hb:Bytes b) (hl:b.length≤140737488355328):Ev (fun k=>dX.f k b) (iK b):=by
 have b1:=jb hb
 have l1:=Nat.le_trans (jV (b:=b)) hl
 have b2:=jb b1
 have l2:=Nat.le_trans (jV (b:=(fV b).2.1)) l1
 obtain ⟨b3,m3⟩:=rR b2
 have l3:=Nat.le_trans m3 l2
 obtain ⟨b4,m4⟩:=rL b3
 have l4:=Nat.le_trans m4 l3
 have jt:∀ (x:List Int) (r c:ByteArray) (t:Int) (v:ByteArray) (g:Bool),Ev (fun k=>dX.j0 k x true r c t v g) (⟨#[]⟩,⟨#[]⟩,0,⟨#[]⟩,false,[],false):=fun x r c t v g=>Ev.step (fun k=>by simp only [dX.j0,if_true]) (Ev.now _)
 have jf:∀ (x:List Int) (r c:ByteArray) (t:Int) (v:ByteArray) (g:Bool),Ev (fun k=>dX.j0 k x false r c t v g) (r,c,t,v,g,x,true):=fun x r c t v g=>Ev.step (fun k=>by simp only [dX.j0,Bool.false_eq_true,if_false]) (Ev.now _)
 unfold dX.f iK
 refine Ev.bind (mZ hb hl) (Ev.bind (mZ b1 l1) (Ev.bind (ke b2 l2) (Ev.bind (Ev.eq (AF _)) (Ev.bind (mZ b4 l4) ?_))))
 simp only
 generalize fV b=r
 generalize fV r.2.1=c
 generalize iX c.2.1=t
 generalize kU t.2.1=g
 generalize fV g.2.1=v
 by_cases h:(!r.2.2 || (!c.2.2 || (!t.2.2 || (!g.2.2 || (!v.2.2)))))=true
 ·
  refine Ev.pos h ?_
  have:(r.2.2 && (c.2.2 && (t.2.2 && (g.2.2 && (v.2.2 && ic r.1 c.1 t.1 v.1 g.1)))))=false:=by
   revert h
   cases r.2.2<;>cases c.2.2<;>cases t.2.2<;>cases g.2.2<;>cases v.2.2<;>simp
  rw [this]
  exact jt _ _ _ _ _ _
 ·
  refine Ev.neg h (Ev.bind (Ev.eq (kM _ _ _ _ _)) ?_)
  have:(r.2.2 && (c.2.2 && (t.2.2 && (g.2.2 && (v.2.2 && ic r.1 c.1 t.1 v.1 g.1)))))=ic r.1 c.1 t.1 v.1 g.1:=by
   revert h
   cases r.2.2<;>cases c.2.2<;>cases t.2.2<;>cases g.2.2<;>cases v.2.2<;>simp
  rw [this]
  cases hr:ic r.1 c.1 t.1 v.1 g.1 with
  | true=>exact jf _ _ _ _ _ _
  | false=>exact jt _ _ _ _ _ _
theorem xh {r c:ByteArray} {t:Int} {v:ByteArray} {g:Bool} (h:ic r c t v g=true) (x:List Int):iK (jE r c t v g++x)=(r,c,t,v,g,x,true):=by
 obtain ⟨h1,h2,h3,h4,h5,h6,h7,_⟩:=d7.1 h
 have e1:fV (jE r c t v g++x)=(r,text c++(num t++([lS g]++(text v++x))),true):=by
  rw [show jE r c t v g++x=text r++(text c++(num t++([lS g]++(text v++x)))) by simp [jE]]
  exact py (by omega) _
 have e2:fV (text c++(num t++([lS g]++(text v++x))))=(c,num t++([lS g]++(text v++x)),true):=py (by omega) _
 have e3:iX (num t++([lS g]++(text v++x)))=(t,[lS g]++(text v++x),true):=ux h5 (by omega) _
 have e4:fV (text v++x)=(v,x,true):=py (by omega) _
 unfold iK
 simp only [e1,e2,e3,yS,e4,h,Bool.and_self,if_true]
def yF (x:Nat):Nat:=if x % 2=1 then (x / 2) ^^^ 2197175160 else x / 2
def D4:Nat→Nat→Nat
 | 0,w=>w
 | m+1,w=>D4 m (yF w)
def uJ (w c:Nat):Nat:=D4 8 (w ^^^ c)
def Df (w:Nat) (l:List Int):Nat:=l.foldl (fun w c=>uJ w c.toNat) w
@[irreducible] def fM (l:List Int):Int:=((4294967295 - Df 4294967295 l:Nat):Int)
theorem Bq (l:List Int):fM l=((4294967295 - Df 4294967295 l:Nat):Int):=by unfold fM;rfl
theorem Ap {x:Nat} (h:x<4294967296):yF x<4294967296:=by
 unfold yF
 split
 ·
  exact Nat.xor_lt_two_pow (n:=32) (by omega) (by omega)
 ·
  omega
theorem CF:∀ (m x:Nat),x<4294967296→D4 m x<4294967296
 | 0,_,h=>h
 | m+1,_,h=>CF m _ (Ap h)
theorem Dc {w c:Nat} (hw:w<4294967296) (hc:c<4294967296):uJ w c<4294967296:=CF 8 _ (Nat.xor_lt_two_pow (n:=32) hw hc)
theorem kz (l:List Int):0≤fM l∧fM l≤4294967295:=by
 unfold fM
 omega
theorem yL (k:IntKind) (j:Nat) (hj:j≤k.bits) (hk:∀ n:Int,0≤n→n<2 ^ j→k.wrap n=n) (a b:Nat) (ha:a<2 ^ j) (hb:b<2 ^ j):Go.bits .xor k (a:Int) (b:Int)=((a ^^^ b:Nat):Int):=by
 have hp:2 ^ j≤2 ^ k.bits:=Nat.pow_le_pow_right (by decide) hj
 have ha':a % 2 ^ k.bits=a:=Nat.mod_eq_of_lt (Nat.lt_of_lt_of_le ha hp)
 have hb':b % 2 ^ k.bits=b:=Nat.mod_eq_of_lt (Nat.lt_of_lt_of_le hb hp)
 have cast:∀ n:Nat,n<2 ^ j→((n:Nat):Int)<2 ^ j:=fun n h=>by exact_mod_cast h
 simp only [Go.bits,BitVec.ofInt_natCast,BitVec.toNat_xor,BitVec.toNat_ofNat,ha',hb']
 exact hk _ (Int.natCast_nonneg _) (cast _ (Nat.xor_lt_two_pow ha hb))
theorem oN {a b:Nat} (ha:a<4294967296) (hb:b<4294967296):Go.bits .xor .u32 (a:Int) (b:Int)=((a ^^^ b:Nat):Int):=by
 have hk:∀ n:Int,0≤n→n<2 ^ 32→IntKind.u32.wrap n=n:=by
  intro n h4 h5
  rw [IntKind.wrap_u32]
  omega
 exact yL .u32 32 (by decide) hk a b ha hb
theorem Bn {a:Nat} (ha:a<4294967296):Go.bits .and .u32 (a:Int) 1=((a % 2:Nat):Int):=by
 have hk:∀ n:Int,0≤n→n<2 ^ 32→IntKind.u32.wrap n=n:=by
  intro n h4 h5
  rw [IntKind.wrap_u32]
  omega
 have:=(bits_nat .u32 32 (by decide) hk a 1 ha (by decide)).1
 rw [Nat.and_one_is_mod] at this
 exact this
theorem AH {a:Nat} (ha:a<4294967296):Go.bits .xor .u32 (a:Int) 4294967295=((4294967295 - a:Nat):Int):=by
 have h:=oN ha (show 4294967295<4294967296 by decide)
 have h2:a ^^^ 4294967295=4294967295 - a:=by
  apply Nat.eq_of_testBit_eq
  intro i
  have h3:=Nat.testBit_two_pow_sub_succ (n:=32) (x:=a) (by simpa using ha) i
  rw [show (2:Nat) ^ 32 - (a+1)=4294967295 - a by omega] at h3
  rw [h3,Nat.testBit_xor,show (4294967295:Nat)=2 ^ 32 - 1 from rfl,Nat.testBit_two_pow_sub_one]
  by_cases hi:i<32
  ·
   simp [hi]
  ·
   have:a.testBit i=false:=Nat.testBit_lt_two_pow (Nat.lt_of_lt_of_le (by simpa using ha:a<2 ^ 32) (Nat.pow_le_pow_right (by decide) (by omega)))
   simp [hi,this]
 rw [h2] at h
 exact h
def lm (b:List Int):List Int:=num (fM b)
def frame (r:List Int):List Int:=num r.length++(lm (num r.length)++(lm r++r))
def frames (l:List (List Int)):List Int:=(l.map frame).flatten
theorem jY (b:List Int):(lm b).length=4:=by
 obtain ⟨h0,h1⟩:=kz b
 exact iC h0 (by omega)
theorem pX {r:List Int} (h:Bytes r):Bytes (frame r):=(g_ _).append ((g_ _).append ((g_ _).append h))
theorem jv {r:List Int} (h:r.length≤65535):(frame r).length=12+r.length:=by
 unfold frame
 rw [List.length_append,List.length_append,List.length_append,jY,jY,iC (by omega) (by omega)]
 omega
def okF (d:List Int):Prop:=12≤d.length∧dS d≤65535∧12+dS d≤d.length∧dS (d.drop 4)=fM (d.take 4)∧dS (d.drop 8)=fM ((d.drop 12).take (dS d).toNat)
instance (d:List Int):Decidable (okF d):=by unfold okF;infer_instance
def j9 (d:List Int):List Int × List Int × Bool:=if okF d then ((d.drop 12).take (dS d).toNat,(d.drop 12).drop (dS d).toNat,true) else ([],[],false)
theorem tM {n:Int} (h0:0≤n) (h1:n≤4294967295) (r:List Int):(num n++r).drop 4=r:=by rw [←iC h0 h1,List.drop_left]
theorem DI {n:Int} (h0:0≤n) (h1:n≤4294967295) (r:List Int):(num n++r).take 4=num n:=by rw [←iC h0 h1,List.take_left]
theorem tF {r:List Int} (h:r.length≤65535) (s:List Int):dS (frame r++s)=r.length∧(frame r++s).take 4=num r.length∧dS ((frame r++s).drop 4)=fM (num r.length)∧dS ((frame r++s).drop 8)=fM r∧(frame r++s).drop 12=r++s:=by
 have e:frame r++s=num r.length++(lm (num r.length)++(lm r++(r++s))):=by simp [frame]
 obtain ⟨a0,a1⟩:=kz (num r.length)
 obtain ⟨b0,b1⟩:=kz r
 have d4:(frame r++s).drop 4=lm (num r.length)++(lm r++(r++s)):=by rw [e];exact tM (by omega) (by omega) _
 have d8:(frame r++s).drop 8=lm r++(r++s):=by rw [show 8=4+4 from rfl,← List.drop_drop,d4];exact tM a0 a1 _
 have d12:(frame r++s).drop 12=r++s:=by rw [show 12=8+4 from rfl,← List.drop_drop,d8];exact tM b0 b1 _
 refine ⟨by rw [e];exact jX (by omega) (by omega) _,by rw [e];exact DI (by omega) (by omega) _,by rw [d4];exact jX a0 a1 _,by rw [d8];exact jX b0 b1 _,d12⟩
theorem Cn {r:List Int} (h:r.length≤65535) (s:List Int):okF (frame r++s):=by
 obtain ⟨h1,h2,h3,h4,h5⟩:=tF h s
 have hl:=jv h
 have hn:((r.length:Nat):Int).toNat=r.length:=by omega
 refine ⟨by rw [List.length_append];omega,by rw [h1];omega,by rw [h1,List.length_append];omega,by rw [h2,h3],?_⟩
 rw [h4,h5,h1,hn,List.take_left]
theorem Bw {r:List Int} (h:r.length≤65535) (s:List Int):j9 (frame r++s)=(r,s,true):=by
 obtain ⟨h1,h2,h3,h4,h5⟩:=tF h s
 have hn:((r.length:Nat):Int).toNat=r.length:=by omega
 unfold j9
 rw [if_pos (Cn h s),h1,h5,hn,List.take_left,List.drop_left]
theorem tb {d:List Int} (h:¬ okF d):j9 d=([],[],false):=by
 unfold j9
 rw [if_neg h]
theorem zB {p:List Int} {x y:Int} {s:List Int} (h4:(p++x :: s).length=4) (hb:Bytes (p++x :: s)) (hc:Bytes (p++y :: s)) (hne:x≠y) (t u:List Int):dS (p++x :: s++t)≠dS (p++y :: s++u):=by
 intro h
 have hb4:(p++x :: s)=num (dS (p++x :: s++t)):=by
  have hv:dS (p++x :: s++t)=dS (p++x :: s):=by
   obtain ⟨a,b,c,d,r,e⟩:=sn (b:=p++x :: s) (by omega)
   rw [e];rfl
  rw [hv,rp hb (by omega),List.take_of_length_le (by omega)]
 have hc4:(p++y :: s)=num (dS (p++y :: s++u)):=by
  have hl:(p++y :: s).length=4:=by simpa using h4
  have hv:dS (p++y :: s++u)=dS (p++y :: s):=by
   obtain ⟨a,b,c,d,r,e⟩:=sn (b:=p++y :: s) (by omega)
   rw [e];rfl
  rw [hv,rp hc (by omega),List.take_of_length_le (by omega)]
 rw [h,← hc4] at hb4
 have:=List.append_cancel_left hb4
 exact hne (List.cons.inj this).1
def Turn (a b:List Int):Prop:=∃ p x y s,a=p++x :: s∧b=p++y :: s∧x≠y
theorem Turn.set {a:List Int} {j:Nat} {y:Int} (hj:j<a.length) (hne:a[j]?≠some y):Turn a (a.set j y):=by
 refine ⟨a.take j,a[j],y,a.drop (j+1),?_,?_,fun e=>hne (by rw [List.getElem?_eq_getElem hj,e])⟩
 ·
  rw [←List.drop_eq_getElem_cons hj,List.take_append_drop]
 ·
  rw [List.set_eq_take_append_cons_drop,if_pos hj]
theorem Turn.dS {a b:List Int} (h:Turn a b) (h4:a.length=4) (ha:Bytes a) (hb:Bytes b) (t u:List Int):Pl.dS (a++t)≠Pl.dS (b++u):=by
 obtain ⟨p,x,y,s,rfl,rfl,hne⟩:=h
 exact zB h4 ha hb hne t u
theorem Turn.length {a b:List Int} (h:Turn a b):b.length=a.length:=by
 obtain ⟨p,x,y,s,rfl,rfl,_⟩:=h
 simp
theorem Gd (l:List Int) (i:Nat) (h:i<l.length):rd l (i:Int)=l[i]:=by
 simp [rd,List.getD_eq_getElem?_getD,List.getElem?_eq_getElem h]
theorem FX {x:Nat} (h:x<4294967296):cN.bit (x:Int)=(yF x:Int):=by
 unfold cN.bit yF
 rw [Bn h]
 have hd:(x:Int) / 2=((x / 2:Nat):Int):=by omega
 rw [hd]
 by_cases h1:x % 2=1
 ·
  rw [if_pos (by omega),if_pos h1]
  exact oN (a:=x / 2) (b:=2197175160) (by omega) (by omega)
 ·
  rw [if_neg (by omega),if_neg h1]
theorem go_eq:∀ (m:Nat) {x:Nat},x<4294967296→cN.go m (x:Int)=(D4 m x:Int)
 | 0,_,_=>rfl
 | m+1,x,h=>by
  rw [cN.go,FX h,go_eq m (Ap h)]
  rfl
theorem Du {w:Nat} {c:Int} (hw:w<4294967296) (hc:0≤c∧c<256):cN.f (w:Int) c=some (uJ w c.toNat:Int):=by
 have hc1:c % 4294967296=((c.toNat:Nat):Int):=by omega
 have hc2:c.toNat<4294967296:=by omega
 unfold cN.f
 rw [hc1,oN hw hc2,go_eq 8 (Nat.xor_lt_two_pow (n:=32) hw hc2)]
 rfl
theorem En {l:List Int} (hb:Bytes l) (hl:l.length≤140737488355328) (d:Nat):∀ (i w:Nat),i≤l.length→l.length - i=d→w<4294967296→
  Ev (fun k=>dF.l0 k (w:Int) l (l.length:Int) (i:Int)) ((4294967295 - Df w (l.drop i):Nat):Int):=by
 induction d with
 | zero=>
  intro i w hi hd hw
  rw [List.drop_eq_nil_of_le (by omega)]
  refine Ev.step (f:=fun _=>some ((4294967295 - w:Nat):Int)) (fun k=>?_) (Ev.now _)
  simp only [dF.l0]
  rw [if_neg (by omega),AH hw]
 | succ d ih=>
  intro i w hi hd hw
  have h1:i<l.length:=by omega
  have hc:=hb _ (List.getElem_mem h1)
  rw [List.drop_eq_getElem_cons h1]
  refine Ev.step (f:=fun k=>dF.l0 k ((uJ w (l[i]).toNat:Nat):Int) l (l.length:Int) ((i+1:Nat):Int)) (fun k=>?_) (ih (i+1) (uJ w (l[i]).toNat) (by omega) (by omega) (Dc hw (by omega)))
  simp only [dF.l0]
  rw [if_pos (by omega),if_pos (by omega),if_pos (by omega),Gd _ _ h1,Du hw hc,fZ (by omega) (by omega)]
  rfl
theorem pH {l:List Int} (hb:Bytes l) (hl:l.length≤140737488355328):Ev (fun k=>fB.f k l) (fM l):=by
 unfold fB.f dF.f
 have h:=En hb hl l.length 0 4294967295 (by omega) (by omega) (by omega)
 rw [List.drop_zero,← Bq] at h
 have e:Go.bits .xor .u32 0 4294967295=((4294967295:Nat):Int):=oN (a:=0) (b:=4294967295) (by omega) (by omega)
 rw [e]
 exact Ev.bind h (Ev.now _)
theorem uM (l:List Int) (i:Nat) (h:i<l.length):rd l (i:Int)=l[i]:=by
 simp [rd,List.getD_eq_getElem?_getD,List.getElem?_eq_getElem h]
theorem DM (l m:List Int) (hm:l.length=m.length) (hl:l.length≤140737488355328) (d:Nat):∀ i:Nat,i≤l.length→l.length - i=d→
  Ev (fun k=>aV.l0 k l m (l.length:Int) (i:Int)) (decide (l.drop i=m.drop i)):=by
 induction d with
 | zero=>
  intro i hi hd
  refine Ev.step (f:=fun _=>some true) (fun k=>?_) ?_
  ·
   simp only [aV.l0]
   rw [if_neg (by omega)]
  ·
   rw [List.drop_eq_nil_of_le (by omega),List.drop_eq_nil_of_le (by omega)]
   exact Ev.now _
 | succ d ih=>
  intro i hi hd
  have h1:i<l.length:=by omega
  have h2:i<m.length:=by omega
  rw [List.drop_eq_getElem_cons h1,List.drop_eq_getElem_cons h2]
  by_cases he:l[i]=m[i]
  ·
   refine Ev.step (f:=fun k=>aV.l0 k l m (l.length:Int) ((i+1:Nat):Int)) (fun k=>?_) ((ih (i+1) (by omega) (by omega)).to (by simp only [he,List.cons.injEq,true_and]))
   simp only [aV.l0]
   rw [if_pos (by omega),if_pos (by omega),if_pos (by omega),if_pos (by omega),uM _ _ h1,uM _ _ h2,if_pos he,fZ (by omega) (by omega)]
   rfl
  ·
   refine Ev.step (f:=fun _=>some false) (fun k=>?_) ((Ev.now false).to (by simp only [List.cons.injEq,he,false_and,decide_false]))
   simp only [aV.l0]
   rw [if_pos (by omega),if_pos (by omega),if_pos (by omega),if_pos (by omega),uM _ _ h1,uM _ _ h2,if_neg he]
theorem yx {l m:List Int} (hl:l.length≤140737488355328):Ev (fun k=>aV.f k l m) (decide (l=m)):=by
 unfold aV.f
 by_cases h:l.length=m.length
 ·
  refine Ev.pos (by omega) ?_
  have:=DM l m h hl l.length 0 (by omega) (by omega)
  simpa using this
 ·
  refine Ev.neg (by omega) ((Ev.now false).to ?_)
  symm
  rw [decide_eq_false_iff_not]
  intro e
  exact h (by rw [e])
theorem mT {l:List Int} (hb:Bytes l) (hl:l.length≤140737488355328):Ev (fun k=>d9.f k l) (lm l):=by
 unfold d9.f
 refine Ev.bind (pH hb hl) ?_
 obtain ⟨h0,h1⟩:=kz l
 rw [fZ (by omega) (by omega),js]
 exact Ev.now _
theorem sy {l:List Int} (hb:Bytes l) (hl:l.length≤140737488355328):Ev (fun k=>fj.f k l) (if l.length > 65535 then [] else frame l):=by
 unfold fj.f
 by_cases h:l.length > 65535
 ·
  rw [if_pos h]
  exact Ev.pos (by omega) (Ev.now _)
 ·
  rw [if_neg h]
  refine Ev.neg (by omega) (Ev.bind (Ev.eq (js _)) (Ev.bind (mT (g_ _) (by have:=fF l.length;omega)) (Ev.bind (mT hb hl) (Ev.bind (Ev.eq (nW ?_)) ((Ev.now _).to ?_)))))
  ·
   have h1:=fF l.length
   have h2:=jY (num l.length)
   have h3:=jY l
   simp only [fG,List.map_cons,List.map_nil,List.sum_cons,List.sum_nil]
   omega
  ·
   simp [frame]
def jr (c:Cell):List Int:=jE c.f0 c.f1 c.f2 c.f3 c.f4
def iA (l:List Cell):List Int:=num l.length++(l.map jr).flatten
theorem Ak {c:Cell} (h:fT c=true):(jr c).length≤401:=by
 obtain ⟨_,h1,_,h2,_,_,h3,_⟩:=fo.1 h
 have:=lq c.f0 c.f1 c.f2 c.f3 c.f4
 unfold jr
 omega
theorem qE:∀ l:List Cell,Bytes (l.map jr).flatten
 | []=>Bytes.nil
 | c :: l=>by rw [List.map_cons,List.flatten_cons];exact (pZ _ _ _ _ _).append (qE l)
theorem tJ (l:List Cell):Bytes (iA l):=(g_ _).append (qE l)
theorem yp {r:List Int} (h:r.length≤65535):¬ (((frame r).length:Nat):Int)=0:=by
 rw [jv h]
 omega
theorem FA (l:List Cell) (hr:fW l) (hl:l.length≤450) (d:Nat):∀ (i:Nat) (acc:List Int),i≤l.length→l.length - i=d→acc.length+((l.drop i).map jr).flatten.length≤60154→Bytes acc→Ev (fun k=>cJ.l0 k acc l (l.length:Int) (i:Int)) (frame (acc++((l.drop i).map jr).flatten),0):=by
 induction d with
 | zero=>
  intro i acc hi hd ha hb
  rw [List.drop_eq_nil_of_le (by omega)] at ha ⊢
  simp only [List.map_nil,List.flatten_nil,List.length_nil] at ha
  have h:=sy hb (by omega)
  rw [if_neg (by omega)] at h
  refine Ev.step (fun k=>by simp only [cJ.l0];rw [if_neg (by omega)]) ?_
  refine Ev.bind h ?_
  refine Ev.neg (yp (by omega)) ?_
  exact (Ev.now _).to (by simp)
 | succ d ih=>
  intro i acc hi hd ha hb
  have hlt:i<l.length:=by omega
  have hri:=hr _ (List.getElem_mem hlt)
  have hz:=Ak hri
  have hrd:=gG l i hlt
  unfold mD at hrd
  obtain ⟨_,z1,_,z2,_,_,z3,_⟩:=fo.1 hri
  have hp:dh.f l[i].f0 l[i].f1 l[i].f2 l[i].f3 l[i].f4=some (jr l[i]):=nO _ _ (by omega) (by omega) (by omega)
  rw [List.drop_eq_getElem_cons hlt,List.map_cons,List.flatten_cons,List.length_append] at ha
  rw [List.drop_eq_getElem_cons hlt,List.map_cons,List.flatten_cons,← List.append_assoc]
  refine Ev.step (f:=fun k=>cJ.l0 k (acc++jr l[i]) l (l.length:Int) ((i+1:Nat):Int)) (fun k=>?_) (ih (i+1) (acc++jr l[i]) (by omega) (by omega) (by rw [List.length_append];omega) (hb.append (pZ _ _ _ _ _)))
  simp only [cJ.l0]
  rw [if_pos (by omega),if_pos (by omega),if_pos (by omega),hrd,hp,Option.bind_some,if_pos (by omega),fZ (by omega) (by omega)]
  rfl
theorem wT {l:List Cell} (hs:iG l) (h0:l.length≠0) (hl:l.length≤450) (hb:(iA l).length≤60154):Ev (fun k=>cJ.f k l) (frame (iA l),0):=by
 unfold cJ.f
 refine Ev.bind (lT (by omega)) ?_
 rw [kS.2 hs]
 refine Ev.pos rfl ?_
 rw [show ((l.length:Int) == 0)=false from beq_eq_false_iff_ne.2 (by omega)]
 refine Ev.step (fun k=>by simp only [cJ.j0,Bool.false_eq_true,if_false];rw [js]) (Ev.bind (Ev.now _) ?_)
 have:=FA l hs.1 hl l.length 0 (num l.length) (by omega) (by omega) (by rw [List.drop_zero,← List.length_append];exact hb) (g_ _)
 rw [List.drop_zero] at this
 exact this
def nT (key:ByteArray) (n:Int):List Int:=
 [fM (bytesOf key) % n,(fM (bytesOf key)+fM ([1]++bytesOf key)) % 4294967296 % n,(fM (bytesOf key)+2*fM ([1]++bytesOf key)) % 4294967296 % n]
theorem qU {key:ByteArray} {n:Int} (h:0<n):∀ i ∈ nT key n,0≤i∧i<n:=by
 intro i hi
 simp only [nT,List.mem_cons,List.not_mem_nil,or_false] at hi
 rcases hi with rfl | rfl | rfl<;>exact ⟨Int.emod_nonneg _ (by omega),Int.emod_lt_of_pos _ h⟩
def bv (b0 b1 b2 b3 b4 b5 b6 b7:Bool):Int:=b0.toInt+2*(b1.toInt+2*(b2.toInt+2*(b3.toInt+2*(b4.toInt+2*(b5.toInt+2*(b6.toInt+2*b7.toInt))))))
theorem lI (b:Bool):0≤b.toInt∧b.toInt≤1:=by cases b<;>decide
theorem Ga (b0 b1 b2 b3 b4 b5 b6 b7:Bool):0≤bv b0 b1 b2 b3 b4 b5 b6 b7∧bv b0 b1 b2 b3 b4 b5 b6 b7<256:=by
 have:=lI b0;have:=lI b1;have:=lI b2;have:=lI b3;have:=lI b4;have:=lI b5;have:=lI b6;have:=lI b7
 unfold bv
 omega
theorem or0:∀ b0 b1 b2 b3 b4 b5 b6 b7:Bool,Go.bits .or .u8 (bv b0 b1 b2 b3 b4 b5 b6 b7) (shl .u8 1 0)=bv true b1 b2 b3 b4 b5 b6 b7:=by decide +kernel
theorem or1:∀ b0 b1 b2 b3 b4 b5 b6 b7:Bool,Go.bits .or .u8 (bv b0 b1 b2 b3 b4 b5 b6 b7) (shl .u8 1 1)=bv b0 true b2 b3 b4 b5 b6 b7:=by decide +kernel
theorem or2:∀ b0 b1 b2 b3 b4 b5 b6 b7:Bool,Go.bits .or .u8 (bv b0 b1 b2 b3 b4 b5 b6 b7) (shl .u8 1 2)=bv b0 b1 true b3 b4 b5 b6 b7:=by decide +kernel
theorem or3:∀ b0 b1 b2 b3 b4 b5 b6 b7:Bool,Go.bits .or .u8 (bv b0 b1 b2 b3 b4 b5 b6 b7) (shl .u8 1 3)=bv b0 b1 b2 true b4 b5 b6 b7:=by decide +kernel
theorem or4:∀ b0 b1 b2 b3 b4 b5 b6 b7:Bool,Go.bits .or .u8 (bv b0 b1 b2 b3 b4 b5 b6 b7) (shl .u8 1 4)=bv b0 b1 b2 b3 true b5 b6 b7:=by decide +kernel
theorem or5:∀ b0 b1 b2 b3 b4 b5 b6 b7:Bool,Go.bits .or .u8 (bv b0 b1 b2 b3 b4 b5 b6 b7) (shl .u8 1 5)=bv b0 b1 b2 b3 b4 true b6 b7:=by decide +kernel
theorem or6:∀ b0 b1 b2 b3 b4 b5 b6 b7:Bool,Go.bits .or .u8 (bv b0 b1 b2 b3 b4 b5 b6 b7) (shl .u8 1 6)=bv b0 b1 b2 b3 b4 b5 true b7:=by decide +kernel
theorem or7:∀ b0 b1 b2 b3 b4 b5 b6 b7:Bool,Go.bits .or .u8 (bv b0 b1 b2 b3 b4 b5 b6 b7) (shl .u8 1 7)=bv b0 b1 b2 b3 b4 b5 b6 true:=by decide +kernel
theorem DG:∀ x:Fin 256,∀ k:Fin 8,decide (Go.bits .and .u8 (shr .u8 (x.val:Int) (k.val:Int)) 1=0)=decide (((x.val:Int) / 2 ^ k.val) % 2=0):=by decide +kernel
def byteOf (s:List Bool) (j:Nat):Int:=bv (s.getD (8*j) false) (s.getD (8*j+1) false) (s.getD (8*j+2) false) (s.getD (8*j+3) false) (s.getD (8*j+4) false) (s.getD (8*j+5) false) (s.getD (8*j+6) false) (s.getD (8*j+7) false)
def iy (s:List Bool) (m:Nat):List Int:=(List.range m).map (byteOf s)
theorem iO (s:List Bool) (m:Nat):(iy s m).length=m:=by simp [iy]
theorem nV (s:List Bool) {m j:Nat} (h:j<m):(iy s m)[j]'(by rw [iO];exact h)=byteOf s j:=by simp [iy]
theorem yj (s:List Bool) (m:Nat):Bytes (iy s m):=by
 intro x hx
 simp only [iy,List.mem_map,List.mem_range] at hx
 obtain ⟨j,_,rfl⟩:=hx
 exact Ga _ _ _ _ _ _ _ _
theorem kD (s:List Bool) (i q:Nat) (h:i<s.length):(s.set i true).getD q false=if i=q then true else s.getD q false:=by
 rw [List.getD_eq_getElem?_getD,List.getD_eq_getElem?_getD,List.getElem?_set]
 split
 ·
  simp
 ·
  rfl
theorem Bs (s:List Bool) (i j:Nat) (h:i<s.length):byteOf (s.set i true) j=if j=i / 8 then Go.bits .or .u8 (byteOf s j) (shl .u8 1 ((i % 8:Nat):Int)) else byteOf s j:=by
 by_cases hj:j=i / 8
 ·
  rw [if_pos hj]
  subst hj
  unfold byteOf
  simp only [kD s i _ h]
  have h8:i % 8<8:=Nat.mod_lt _ (by omega)
  have he:i=8*(i / 8)+i % 8:=by omega
  obtain ⟨r,hr⟩:∃ r,r=i % 8:=⟨_,rfl⟩
  rw [←hr] at h8 he ⊢
  generalize i / 8=q at he ⊢
  subst he
  clear hr
  have e0:(8*q+r=8*q)=(r=0):=propext ⟨fun h=>by omega,fun h=>by omega⟩
  have e1:(8*q+r=8*q+1)=(r=1):=propext ⟨fun h=>by omega,fun h=>by omega⟩
  have e2:(8*q+r=8*q+2)=(r=2):=propext ⟨fun h=>by omega,fun h=>by omega⟩
  have e3:(8*q+r=8*q+3)=(r=3):=propext ⟨fun h=>by omega,fun h=>by omega⟩
  have e4:(8*q+r=8*q+4)=(r=4):=propext ⟨fun h=>by omega,fun h=>by omega⟩
  have e5:(8*q+r=8*q+5)=(r=5):=propext ⟨fun h=>by omega,fun h=>by omega⟩
  have e6:(8*q+r=8*q+6)=(r=6):=propext ⟨fun h=>by omega,fun h=>by omega⟩
  have e7:(8*q+r=8*q+7)=(r=7):=propext ⟨fun h=>by omega,fun h=>by omega⟩
  simp only [e0,e1,e2,e3,e4,e5,e6,e7]
  clear e0 e1 e2 e3 e4 e5 e6 e7
  obtain rfl | rfl | rfl | rfl | rfl | rfl | rfl | rfl:r=0∨r=1∨r=2∨r=3∨r=4∨r=5∨r=6∨r=7:=by omega
  ·
   exact (or0 _ _ _ _ _ _ _ _).symm
  ·
   exact (or1 _ _ _ _ _ _ _ _).symm
  ·
   exact (or2 _ _ _ _ _ _ _ _).symm
  ·
   exact (or3 _ _ _ _ _ _ _ _).symm
  ·
   exact (or4 _ _ _ _ _ _ _ _).symm
  ·
   exact (or5 _ _ _ _ _ _ _ _).symm
  ·
   exact (or6 _ _ _ _ _ _ _ _).symm
  ·
   exact (or7 _ _ _ _ _ _ _ _).symm
 ·
  rw [if_neg hj]
  unfold byteOf
  simp only [kD s i _ h]
  rw [if_neg (by omega),if_neg (by omega),if_neg (by omega),if_neg (by omega),if_neg (by omega),if_neg (by omega),if_neg (by omega),if_neg (by omega)]
def m8 (f:List Int) (i:Int):List Int:=f.set (i / 8).toNat (Go.bits .or .u8 (rd f (i / 8)) (shl .u8 1 (i % 8)))
def jM (s:List Bool) (i:Int):List Bool:=s.set i.toNat true
theorem zK (s:List Bool) (m:Nat) (hs:s.length=8*m) (i:Int) (h0:0≤i) (h1:i<8*m):m8 (iy s m) i=iy (jM s i) m:=by
 obtain ⟨n,rfl⟩:∃ n:Nat,i=(n:Int):=⟨i.toNat,by omega⟩
 have hq:((n:Int) / 8)=((n / 8:Nat):Int):=by omega
 have hr:((n:Int) % 8)=((n % 8:Nat):Int):=by omega
 unfold m8 jM
 rw [hq,hr,Int.toNat_natCast,Int.toNat_natCast]
 have hlt:n / 8<m:=by omega
 have hrd:rd (iy s m) ((n / 8:Nat):Int)=byteOf s (n / 8):=by
  unfold rd
  rw [Int.toNat_natCast,List.getD_eq_getElem?_getD,List.getElem?_eq_getElem (by rw [iO];exact hlt),nV s hlt]
  rfl
 rw [hrd]
 apply List.ext_getElem
 ·
  rw [List.length_set,iO,iO]
 ·
  intro j hj1 hj2
  rw [iO] at hj2
  rw [List.getElem_set,nV s hj2,show (iy (s.set n true) m)[j]=byteOf (s.set n true) j from nV _ hj2,Bs s n j (by omega)]
  by_cases he:n / 8=j
  ·
   rw [if_pos he,if_pos he.symm,← he]
  ·
   rw [if_neg he,if_neg (fun h=>he h.symm)]
def xP (n:Int) (s:List Bool) (keys:List ByteArray):List Bool:=keys.foldl (fun s k=>(nT k n).foldl jM s) s
theorem mz:∀ (l:List Int) (s:List Bool),(l.foldl jM s).length=s.length
 | [],_=>rfl
 | i :: l,s=>by
  rw [List.foldl_cons,mz l]
  unfold jM
  rw [List.length_set]
def jo (keys:List ByteArray):Nat:=max 1 keys.length
def sP (keys:List ByteArray):List Int:=iy (xP (8*(jo keys:Int)) (List.replicate (8*jo keys) false) keys) (jo keys)
theorem pq (keys:List ByteArray):(sP keys).length=jo keys:=iO _ _
theorem zA (keys:List ByteArray):Bytes (sP keys):=yj _ _
def hasB (f:List Int) (is:List Int):Bool:=is.all fun i=>decide (¬ (rd f (i / 8) / 2 ^ (i % 8).toNat) % 2=0)
def t6 (f:List Int) (key:ByteArray):Bool:=if f.length=0 then true else hasB f (nT key (8*(f.length:Int)))
theorem G1:∀ b0 b1 b2 b3 b4 b5 b6 b7:Bool,(bv b0 b1 b2 b3 b4 b5 b6 b7 / 2 ^ 0) % 2=b0.toInt∧(bv b0 b1 b2 b3 b4 b5 b6 b7 / 2 ^ 1) % 2=b1.toInt∧(bv b0 b1 b2 b3 b4 b5 b6 b7 / 2 ^ 2) % 2=b2.toInt∧(bv b0 b1 b2 b3 b4 b5 b6 b7 / 2 ^ 3) % 2=b3.toInt∧(bv b0 b1 b2 b3 b4 b5 b6 b7 / 2 ^ 4) % 2=b4.toInt∧(bv b0 b1 b2 b3 b4 b5 b6 b7 / 2 ^ 5) % 2=b5.toInt∧(bv b0 b1 b2 b3 b4 b5 b6 b7 / 2 ^ 6) % 2=b6.toInt∧(bv b0 b1 b2 b3 b4 b5 b6 b7 / 2 ^ 7) % 2=b7.toInt:=by decide +kernel
theorem Br (s:List Bool) (j r:Nat) (h:r<8):(byteOf s j / 2 ^ r) % 2=(s.getD (8*j+r) false).toInt:=by
 have hg:=G1 (s.getD (8*j) false) (s.getD (8*j+1) false) (s.getD (8*j+2) false) (s.getD (8*j+3) false) (s.getD (8*j+4) false) (s.getD (8*j+5) false) (s.getD (8*j+6) false) (s.getD (8*j+7) false)
 unfold byteOf
 obtain ⟨g0,g1,g2,g3,g4,g5,g6,g7⟩:=hg
 obtain rfl | rfl | rfl | rfl | rfl | rfl | rfl | rfl:r=0∨r=1∨r=2∨r=3∨r=4∨r=5∨r=6∨r=7:=by omega
 ·
  exact g0
 ·
  exact g1
 ·
  exact g2
 ·
  exact g3
 ·
  exact g4
 ·
  exact g5
 ·
  exact g6
 ·
  exact g7
theorem wk (l:List Int) (q:Nat):∀ (s:List Bool),s.getD q false=true→(l.foldl jM s).getD q false=true:=by
 induction l with
 | nil=>exact fun s h=>h
 | cons i l ih=>
  intro s h
  refine ih _ ?_
  unfold jM
  rw [List.getD_eq_getElem?_getD,List.getElem?_set]
  split
  ·
   split
   ·
    rfl
   ·
    rename_i he hlt
    rw [List.getD_eq_getElem?_getD,List.getElem?_eq_none (by omega)] at h
    exact h
  ·
   rw [←List.getD_eq_getElem?_getD];exact h
theorem Ei (l:List Int):∀ (s:List Bool),∀ i ∈ l,0≤i→i.toNat<s.length→(l.foldl jM s).getD i.toNat false=true:=by
 induction l with
 | nil=>intro s i hi;cases hi
 | cons j l ih=>
  intro s i hi h0 h1
  have hl:(jM s j).length=s.length:=by unfold jM;rw [List.length_set]
  rcases List.mem_cons.1 hi with rfl | hi
  ·
   refine wk l _ _ ?_
   unfold jM
   rw [kD s _ _ h1,if_pos rfl]
  ·
   exact ih (jM s j) i hi h0 (by rw [hl];exact h1)
theorem vu (n:Int) (q:Nat):∀ (keys:List ByteArray) (s:List Bool),s.getD q false=true→(xP n s keys).getD q false=true
 | [],_,h=>h
 | _ :: keys,s,h=>vu n q keys _ (wk _ q s h)
theorem yQ (n:Int) (key:ByteArray) (i:Int) (hi:i ∈ nT key n) (h0:0≤i):∀ (keys:List ByteArray) (s:List Bool),key ∈ keys→i.toNat<s.length→(xP n s keys).getD i.toNat false=true
 | [],_,h,_=>by cases h
 | k :: keys,s,h,h1=>by
  rcases List.mem_cons.1 h with rfl | h
  ·
   exact vu n _ keys _ (Ei _ s i hi h0 h1)
  ·
   exact yQ n key i hi h0 keys _ h (by rw [mz];exact h1)
theorem CC {key:ByteArray} {keys:List ByteArray} (h:key ∈ keys):t6 (sP keys) key=true:=by
 have hm:0<jo keys:=by unfold jo;omega
 unfold t6
 rw [pq,if_neg (by omega)]
 unfold hasB
 rw [List.all_eq_true]
 intro i hi
 obtain ⟨h0,h1⟩:=qU (by omega) i hi
 obtain ⟨n,rfl⟩:∃ n:Nat,i=(n:Int):=⟨i.toNat,by omega⟩
 have hq:((n:Int) / 8)=((n / 8:Nat):Int):=by omega
 have hr:((n:Int) % 8).toNat=n % 8:=by omega
 have hlt:n / 8<jo keys:=by omega
 have hs:=yQ (8*(jo keys:Int)) key (n:Int) hi h0 keys (List.replicate (8*jo keys) false) h (by rw [List.length_replicate];omega)
 have hrd:rd (sP keys) ((n / 8:Nat):Int)=byteOf (xP (8*(jo keys:Int)) (List.replicate (8*jo keys) false) keys) (n / 8):=by
  unfold rd
  rw [Int.toNat_natCast,List.getD_eq_getElem?_getD,List.getElem?_eq_getElem (by rw [pq];exact hlt)]
  exact nV _ hlt
 rw [hq,hr,hrd,Br _ _ _ (Nat.mod_lt _ (by omega)),show 8*(n / 8)+n % 8=n by omega]
 rw [Int.toNat_natCast] at hs
 rw [hs]
 decide
def rX (r c:ByteArray):ByteArray:=strOfNums (text r)++strOfNums (text c)
theorem wE (r c:ByteArray):(rX r c).size≤8+r.size+c.size:=by
 unfold rX
 rw [ByteArray.size_append,jR,jR]
 have:=gO r
 have:=gO c
 omega
def ng (l:List Cell):List ByteArray:=l.map fun c=>rX c.f0 c.f1
def eK (l:List Cell):List Int:=sP (ng l)
theorem lV (l:List Cell):(eK l).length=max 1 l.length:=by
 unfold eK
 rw [pq]
 simp [jo,ng]
theorem wP (l:List Cell):Bytes (eK l):=zA _
def qM:List Cell→List Int
 | []=>[]
 | c :: _=>jE c.f0 c.f1 c.f2 ⟨#[]⟩ false
def jH (bs:List (List Cell)):List Int:=(bs.map fun l=>frame (iA l)).flatten
def mr:Nat→List (List Cell)→List Int
 | _,[]=>[]
 | off,l :: bs=>qM l++(num off++mr (off+(frame (iA l)).length) bs)
def iW (bs:List (List Cell)) (fl:List Int):List Int:=num bs.length++(mr 0 bs++text (strOfNums fl))
def iE (bs:List (List Cell)) (fl:List Int):List Int:=jH bs++(frame (iW bs fl)++num (frame (iW bs fl)).length)
def jj (b:List Cell):Prop:=iG b∧b≠[]∧b.length≤450∧(iA b).length≤60154
theorem z_ {b:List Cell} (h:jj b):(qM b).length≤145:=by
 cases b with
 | nil=>simp [qM]
 | cons c b=>
  obtain ⟨_,h1,_,h2,_⟩:=fo.1 (h.1.1 c List.mem_cons_self)
  have:=lq c.f0 c.f1 c.f2 ⟨#[]⟩ false
  have h0:(⟨#[]⟩:ByteArray).size=0:=rfl
  show (jE c.f0 c.f1 c.f2 ⟨#[]⟩ false).length≤145
  omega
theorem uD (b:List Cell):Bytes (qM b):=by
 cases b with
 | nil=>exact Bytes.nil
 | cons c b=>exact pZ _ _ _ _ _
theorem yE:∀ (bs:List (List Cell)) (off:Nat),(∀ b ∈ bs,jj b)→(mr off bs).length≤149*bs.length
 | [],_,_=>by simp [mr]
 | b :: bs,off,h=>by
  have h1:=z_ (h b List.mem_cons_self)
  have h2:=fF off
  have h3:=yE bs (off+(frame (iA b)).length) (fun x hx=>h x (List.mem_cons_of_mem _ hx))
  unfold mr
  simp only [List.length_append,List.length_cons]
  omega
theorem tE:∀ (bs:List (List Cell)) (off:Nat),Bytes (mr off bs)
 | [],_=>Bytes.nil
 | b :: bs,off=>by
  unfold mr
  exact (uD b).append ((g_ _).append (tE bs _))
theorem zq (bs:List (List Cell)) (fl:List Int):Bytes (iW bs fl):=(g_ _).append ((tE _ _).append (nh _))
theorem tN {bs:List (List Cell)} {fl:List Int} (h:∀ b ∈ bs,jj b) (hb:bs.length≤421) (hf:fl.length≤1000):(iW bs fl).length≤63800:=by
 have h1:=yE bs 0 h
 have h2:=fF bs.length
 have h3:=gO (strOfNums fl)
 rw [jR] at h3
 unfold iW
 simp only [List.length_append]
 omega
theorem Ao {b:List Cell} (h:jj b):(iA b).length≤60154:=h.2.2.2
theorem xE {b:List Cell} (h:jj b):(frame (iA b)).length≤60166:=by
 have:=Ao h
 rw [jv (by omega)]
 omega
theorem nX (b:List Cell) (bs:List (List Cell)):jH (b :: bs)=frame (iA b)++jH bs:=by simp [jH]
theorem ru:∀ (bs:List (List Cell)),Bytes (jH bs)
 | []=>Bytes.nil
 | b :: bs=>by
  rw [nX]
  exact (pX (tJ b)).append (ru bs)
theorem sV:∀ (bs:List (List Cell)),(∀ b ∈ bs,jj b)→(jH bs).length≤60166*bs.length
 | [],_=>by simp [jH]
 | b :: bs,h=>by
  have h1:=xE (h b List.mem_cons_self)
  have h2:=sV bs (fun x hx=>h x (List.mem_cons_of_mem _ hx))
  rw [nX]
  simp only [List.length_append,List.length_cons]
  omega
theorem yh (bs:List (List Cell)) (fl:List Int):Bytes (iE bs fl):=(ru bs).append ((pX (zq bs fl)).append (g_ _))
theorem qm {l:List Cell} (h:l.length≤1000000000):eN.f l=some l:=by
 unfold eN.f
 rw [if_pos (by omega)]
def iu (c:Cell):Nat:=(jE c.f0 c.f1 c.f2 c.f3 c.f4).length
theorem zR {c:Cell} (h:fT c=true):iu c≤401:=by
 obtain ⟨_,h1,_,h2,_,_,h3,_⟩:=fo.1 h
 have:=lq c.f0 c.f1 c.f2 c.f3 c.f4
 unfold iu
 omega
theorem Ec {c:Cell} (h:fT c=true):dh.f c.f0 c.f1 c.f2 c.f3 c.f4=some (jE c.f0 c.f1 c.f2 c.f3 c.f4):=by
 obtain ⟨_,h1,_,h2,_,_,h3,_⟩:=fo.1 h
 exact nO _ _ (by omega) (by omega) (by omega)
def iH (size:Nat):List Cell→List Cell→Nat→List (List Cell)
 | [],now,_=>if now=[] then [] else [now]
 | c :: l,now,n=>if n+iu c≥size then (now++[c]) :: iH size l [] 0 else iH size l (now++[c]) (n+iu c)
theorem ni (size:Nat):∀ (l now:List Cell) (n:Nat),(iH size l now n).length≤l.length+1
 | [],now,n=>by unfold iH;split<;>simp
 | c :: l,now,n=>by
  unfold iH
  split
  ·
   have:=ni size l [] 0
   simp only [List.length_cons];omega
  ·
   have:=ni size l (now++[c]) (n+iu c)
   simp only [List.length_cons];omega
theorem Di (size:Nat) (N:Nat) (hN:N≤1000) (ih:∀ (l:List Cell) (out:List (List Cell)),l.length<N→fW l→out.length+l.length≤1000→Ev (fun k=>bw.l0 k l (size:Int) out) (out++iH size l [] 0,0))
  (l:List Cell) (out:List (List Cell)) (hl:l.length≤N) (hl0:0<l.length) (hr:fW l) (ho:out.length+l.length≤1000) (d:Nat):∀ (i n:Nat),i≤l.length→l.length - i=d→n≤401*i→Ev (fun k=>bw.l1 k l (size:Int) out (n:Int) l (l.length:Int) (i:Int)) (out++iH size (l.drop i) (l.take i) n,0):=by
 induction d with
 | zero=>
  intro i n hi hd hn
  have:i=l.length:=by omega
  subst this
  rw [List.drop_eq_nil_of_le (Nat.le_refl _),List.take_length]
  refine Ev.step (f:=fun _=>some (out++[l],0)) (fun k=>?_) ((Ev.now _).to ?_)
  ·
   simp only [bw.l1]
   rw [if_neg (by omega),qm (by omega),Option.bind_some,if_pos (by omega)]
  ·
   unfold iH
   rw [if_neg (fun e=>by rw [e] at hl0;simp at hl0)]
 | succ d ih2=>
  intro i n hi hd hn
  have hlt:i<l.length:=by omega
  have hri:=hr _ (List.getElem_mem hlt)
  have hz:=zR hri
  have hrd:=gG l i hlt
  unfold mD at hrd
  rw [List.drop_eq_getElem_cons hlt]
  unfold iH
  have e1:wrap64 ((n:Int)+((jE l[i].f0 l[i].f1 l[i].f2 l[i].f3 l[i].f4).length:Int))=((n+iu l[i]:Nat):Int):=by
   show wrap64 ((n:Int)+((iu l[i]:Nat):Int))=_
   rw [fZ (by omega) (by omega)];rfl
  have e2:wrap64 ((i:Int)+1)=((i+1:Nat):Int):=by rw [fZ (by omega) (by omega)];rfl
  have e3:l.take i++[l[i]]=l.take (i+1):=by rw [List.take_succ_eq_append_getElem hlt]
  refine Ev.step (fun k=>by simp only [bw.l1];rw [if_pos (by omega),if_pos (by omega),if_pos (by omega),hrd,Ec hri,Option.bind_some,e1,e2]) ?_
  clear e1 e2
  by_cases hs:n+iu l[i]≥size
  ·
   rw [if_pos hs,e3]
   refine Ev.pos (by omega) (Ev.pos (by omega) (Ev.pos (by omega) ?_))
   rw [Int.toNat_natCast,qm (by rw [List.length_take];omega)]
   refine Ev.bind (Ev.now _) (Ev.pos (by omega) ?_)
   refine (ih (l.drop (i+1)) (out++[l.take (i+1)]) (by rw [List.length_drop];omega) (fun x hx=>hr x (List.mem_of_mem_drop hx)) (by rw [List.length_append,List.length_drop,List.length_singleton];omega)).to ?_
   rw [List.append_assoc]
   rfl
  ·
   rw [if_neg hs,e3]
   exact Ev.neg (by omega) (ih2 (i+1) (n+iu l[i]) (by omega) (by omega) (by omega))
theorem DC (size:Nat) (N:Nat):∀ (l:List Cell) (out:List (List Cell)),l.length<N→N≤1000→fW l→out.length+l.length≤1000→Ev (fun k=>bw.l0 k l (size:Int) out) (out++iH size l [] 0,0):=by
 induction N with
 | zero=>intro l out hl;omega
 | succ N ih=>
  intro l out hl hN hr ho
  by_cases h0:l.length=0
  ·
   have:l=[]:=List.eq_nil_of_length_eq_zero h0
   subst this
   refine Ev.step (f:=fun _=>some (out,0)) (fun k=>?_) ((Ev.now _).to (by simp [iH]))
   simp only [bw.l0]
   rw [if_neg (by simp)]
  ·
   refine Ev.step (f:=fun k=>bw.l1 k l (size:Int) out 0 l (l.length:Int) 0) (fun k=>?_) ?_
   ·
    simp only [bw.l0]
    rw [if_pos (by omega)]
   ·
    exact Di size N (by omega) (fun l' out' h1 h2 h3=>ih l' out' h1 (by omega) h2 h3) l out (by omega) (by omega) hr ho l.length 0 0 (by omega) (by omega) (by omega)
def yo (size:Int) (l:List Cell):List (List Cell) × Int:=if jd l=true∧1≤size then (iH size.toNat l [] 0,0) else ([],1)
theorem zi {l:List Cell} (size:Int) (hl:l.length≤900):Ev (fun k=>bw.f k l size) (yo size l):=by
 have jt:¬ (jd l=true∧1≤size)→Ev (fun k=>bw.j0 k l size true) (yo size l):=fun h=>by
  unfold yo
  rw [if_neg h]
  exact Ev.step (f:=fun _=>some ([],1)) (fun k=>by simp only [bw.j0,if_true]) (Ev.now _)
 unfold bw.f
 refine Ev.bind (lT (by omega)) ?_
 cases hs:jd l with
 | false=>exact Ev.neg Bool.false_ne_true (jt (by rw [hs];simp))
 | true=>
  refine Ev.pos rfl ?_
  by_cases h1:size<1
  ·
   rw [decide_eq_true h1]
   exact jt (by omega)
  ·
   rw [decide_eq_false h1]
   unfold yo
   rw [if_pos ⟨hs,by omega⟩]
   have hr:=(kS.1 hs).1
   obtain ⟨n,rfl⟩:=Int.eq_ofNat_of_zero_le (show 0≤size by omega)
   refine Ev.step (f:=fun k=>bw.l0 k l ((n:Nat):Int) []) (fun k=>by simp only [bw.j0,Bool.false_eq_true,if_false]) ?_
   rw [Int.toNat_natCast]
   have:=DC n 901 l [] (by omega) (by omega) hr (by simp;omega)
   rw [List.nil_append] at this
   exact this
theorem pu (size:Nat):∀ (l now:List Cell) (n:Nat),(iH size l now n).flatten=now++l
 | [],now,n=>by
  unfold iH
  split
  ·
   rename_i h;simp [h]
  ·
   simp
 | c :: l,now,n=>by
  unfold iH
  split
  ·
   rw [List.flatten_cons,pu size l [] 0];simp
  ·
   rw [pu size l (now++[c])];simp
def gN (b:List Cell):Nat:=(b.map iu).sum
theorem nN (a b:List Cell):gN (a++b)=gN a+gN b:=by simp [gN]
theorem rG (c:Cell):gN [c]=iu c:=by simp [gN]
def OkB (size:Nat) (b:List Cell):Prop:=b≠[]∧∀ k,k<b.length→gN (b.take k)<size
theorem uH (size:Nat) (hs:0<size):∀ (l now:List Cell) (n:Nat),n=gN now→(∀ k,k≤now.length→gN (now.take k)<size)→∀ b ∈ iH size l now n,OkB size b
 | [],now,n,_,hk,b,hb=>by
  unfold iH at hb
  split at hb
  ·
   cases hb
  ·
   rename_i h
   rw [List.mem_singleton] at hb
   subst hb
   exact ⟨h,fun k hlt=>hk k (by omega)⟩
 | c :: l,now,n,hn,hk,b,hb=>by
  have hpre:∀ k,k<(now++[c]).length→gN ((now++[c]).take k)<size:=fun k hlt=>by
   rw [List.length_append,List.length_singleton] at hlt
   rw [List.take_append_of_le_length (by omega)]
   exact hk k (by omega)
  unfold iH at hb
  split at hb
  ·
   rcases List.mem_cons.1 hb with rfl | hb
   ·
    exact ⟨by simp,hpre⟩
   ·
    exact uH size hs l [] 0 rfl (fun k hk0=>by simpa [gN] using hs) b hb
  ·
   rename_i h
   refine uH size hs l (now++[c]) (n+iu c) (by rw [nN,rG,hn]) (fun k hk1=>?_) b hb
   by_cases he:k=(now++[c]).length
   ·
    rw [he,List.take_length,nN,rG,← hn];omega
   ·
    exact hpre k (by omega)
theorem ua (size:Nat):∀ (l now:List Cell) (n:Nat),n=gN now→∀ (i:Nat) (h:i+1<(iH size l now n).length),size≤gN ((iH size l now n)[i]'(by omega))
 | [],now,n,_,i,h=>by
  exfalso
  unfold iH at h
  split at h<;>simp at h
 | c :: l,now,n,hn,i,h=>by
  by_cases hc:n+iu c≥size
  ·
   have e:iH size (c :: l) now n=(now++[c]) :: iH size l [] 0:=by
    conv=>lhs;unfold iH
    rw [if_pos hc]
   cases i with
   | zero=>
    simp only [e,List.getElem_cons_zero]
    rw [nN,rG,← hn]
    exact hc
   | succ i=>
    simp only [e,List.getElem_cons_succ]
    exact ua size l [] 0 rfl i (by rw [e] at h;simpa using h)
  ·
   have e:iH size (c :: l) now n=iH size l (now++[c]) (n+iu c):=by
    conv=>lhs;unfold iH
    rw [if_neg hc]
   simp only [e]
   exact ua size l (now++[c]) (n+iu c) (by rw [nN,rG,hn]) i (by rw [e] at h;exact h)
theorem Cp {x:List (List Cell)} (h:iG x.flatten):∀ b ∈ x,iG b:=fun b hb=>
 ⟨fun c hc=>h.1 c (List.mem_flatten.2 ⟨b,hb,hc⟩),(List.pairwise_flatten.1 h.2).1 b hb⟩
theorem Dt {x:Int}:IntKind.u32.wrap x=x % 4294967296:=by
 unfold IntKind.wrap
 simp only [IntKind.signed,IntKind.bits,Bool.false_and,Bool.false_eq_true,if_false]
 rfl
theorem zO (s:ByteArray):(bytesOf s).length=s.size:=by
 have h:=jR (bytesOf s)
 rw [rT] at h
 exact h.symm
theorem rN {key:ByteArray} {n:Int} (hk:key.size≤100000) (h0:0<n) (h1:n≤4294967295):Ev (fun k=>cL.f k key n) (nT key n):=by
 unfold cL.f
 have hl:=zO key
 have hb:Bytes ([1]++bytesOf key):=Bytes.append (Bytes.cons (by decide) (by decide) Bytes.nil) (oC _)
 refine Ev.pos (by omega) (Ev.bind (pH (oC key) (by omega)) (Ev.bind (pH hb (by simp only [List.length_append,List.length_cons,List.length_nil];omega)) ?_))
 have hw:IntKind.u32.wrap n=n:=by rw [Dt];omega
 rw [hw]
 refine Ev.neg (by omega) ?_
 obtain ⟨a0,a1⟩:=kz (bytesOf key)
 obtain ⟨b0,b1⟩:=kz ([1]++bytesOf key)
 unfold nT
 generalize fM (bytesOf key)=a at a0 a1 ⊢
 generalize fM ([1]++bytesOf key)=b at b0 b1 ⊢
 have e:cL.outs a b n 3=[a % n,(a+b) % 4294967296 % n,(a+2*b) % 4294967296 % n]:=by
  have hq:∀ x:Int,0≤x→x<4294967296→wrap64 (Int.tmod x n)=x % n:=fun x hx0 hx1=>by
   rw [Int.tmod_eq_emod_of_nonneg hx0]
   have h2:=Int.emod_nonneg x (show n≠0 by omega)
   have h3:=Int.emod_lt_of_pos x h0
   exact fZ (by omega) (by omega)
  have e0:cL.acc a b 0=a:=rfl
  have e1:cL.acc a b 1=(a+b) % 4294967296:=by show IntKind.u32.wrap (a+b)=_;rw [Dt]
  have e2:cL.acc a b 2=(a+2*b) % 4294967296:=by
   show IntKind.u32.wrap (cL.acc a b 1+b)=_
   rw [e1,Dt]
   omega
  show (([]++[wrap64 (Int.tmod (cL.acc a b 0) n)])++[wrap64 (Int.tmod (cL.acc a b 1) n)])++[wrap64 (Int.tmod (cL.acc a b 2) n)]=_
  rw [e0,e1,e2,hq a a0 (by omega),hq _ (Int.emod_nonneg _ (by omega)) (Int.emod_lt_of_pos _ (by omega)),hq _ (Int.emod_nonneg _ (by omega)) (Int.emod_lt_of_pos _ (by omega))]
  rfl
 rw [e]
 exact Ev.now _
theorem zo (f:List Int) (i:Int):(m8 f i).length=f.length:=by unfold m8;rw [List.length_set]
theorem Cv {x:Int} {n:Nat} (x0:0≤x) (x1:x<8*(n:Int)) (hn:n≤100000):wrap64 (Int.tdiv x 8)=x / 8∧Int.tmod x 8=x % 8∧0≤x / 8∧x / 8<(n:Int)∧0≤x % 8∧(x / 8).toNat<n∧(x % 8).toNat<8:=by
 have h1:0≤x / 8∧x / 8<(n:Int)∧0≤x % 8∧(x / 8).toNat<n∧(x % 8).toNat<8∧x / 8<1000000:=by omega
 refine ⟨?_,Int.tmod_eq_emod_of_nonneg x0,h1.1,h1.2.1,h1.2.2.1,h1.2.2.2.1,h1.2.2.2.2.1⟩
 rw [Int.tdiv_eq_ediv_of_nonneg x0]
 obtain ⟨h2,-,-,-,-,h3⟩:=h1
 generalize x / 8=y at h2 h3 ⊢
 exact fZ (by omega) (by omega)
theorem EN (keys:List ByteArray) (len q:Int) (bs:List Int) (r:List Int) (d:Nat):∀ (i:Nat) (f:List Int),i≤bs.length→bs.length≤1000→f.length≤100000→(∀ x ∈ bs,0≤x∧x<8*(f.length:Int))→bs.length - i=d→
  Ev (fun k=>bI.l0 k ((bs.drop i).foldl m8 f) keys len (wrap64 (q+1))) r→Ev (fun k=>bI.l1 k f keys len q bs (bs.length:Int) (i:Int)) r:=by
 induction d with
 | zero=>
  intro i f hi hb hf hx hd hk
  rw [List.drop_eq_nil_of_le (by omega),List.foldl_nil] at hk
  exact Ev.step (fun k=>by simp only [bI.l1];rw [if_neg (by omega)]) hk
 | succ d ih=>
  intro i f hi hb hf hx hd hk
  have hlt:i<bs.length:=by omega
  have q1:(i:Int)<(bs.length:Int):=by omega
  have q2:(0:Int)≤(i:Int):=by omega
  have hr:rd bs (i:Int)=bs[i]:=by unfold rd;rw [Int.toNat_natCast,List.getD_eq_getElem?_getD,List.getElem?_eq_getElem hlt];rfl
  obtain ⟨x0,x1⟩:=hx _ (List.getElem_mem hlt)
  obtain ⟨e1,e2,p1,p2,p3,p4,p5⟩:=Cv x0 x1 hf
  have e3:wrap64 ((i:Int)+1)=((i+1:Nat):Int):=by rw [fZ (by omega) (by omega)];rfl
  have hstep:∀ k,bI.l1 (k+1) f keys len q bs (bs.length:Int) (i:Int)=bI.l1 k (m8 f bs[i]) keys len q bs (bs.length:Int) ((i+1:Nat):Int):=fun k=>by
   simp only [bI.l1]
   rw [if_pos q1,if_pos q2,if_pos q1,hr,e1,e2,if_pos p1,if_pos p2,if_pos p3,e3]
   unfold m8
   with_reducible rfl
  have hl:=zo f bs[i]
  rw [List.drop_eq_getElem_cons hlt,List.foldl_cons] at hk
  have hx':∀ x ∈ bs,0≤x∧x<8*((m8 f bs[i]).length:Int):=by rw [hl];exact hx
  have hf':(m8 f bs[i]).length≤100000:=by rw [hl];exact hf
  clear hx hf hr e1 e2 p1 p2 p3 p4 p5 x0 x1 hl
  generalize m8 f bs[i]=f2 at hstep hk hx' hf'
  exact Ev.step hstep (ih (i+1) f2 hlt hb hf' hx' (by omega) hk)
theorem EH (keys:List ByteArray) (m:Nat) (hm:m≤100000) (hm0:0<m) (hk:∀ x ∈ keys,x.size≤100000) (hl:keys.length≤100000) (d:Nat):∀ (i:Nat) (s:List Bool),i≤keys.length→s.length=8*m→keys.length - i=d→
  Ev (fun k=>bI.l0 k (iy s m) keys (keys.length:Int) (i:Int)) (iy (xP (8*(m:Int)) s (keys.drop i)) m):=by
 induction d with
 | zero=>
  intro i s hi hs hd
  rw [List.drop_eq_nil_of_le (by omega)]
  exact Ev.step (f:=fun _=>some (iy s m)) (fun k=>by simp only [bI.l0];rw [if_neg (by omega)]) (Ev.now _)
 | succ d ih=>
  intro i s hi hs hd
  have hlt:i<keys.length:=by omega
  have hr:pF ByteArray.empty keys (i:Int)=keys[i]:=by unfold pF;rw [Int.toNat_natCast,List.getD_eq_getElem?_getD,List.getElem?_eq_getElem hlt];rfl
  have hbl:=iO s m
  have e1:wrap64 (8*((iy s m).length:Int))=8*(m:Int):=by rw [hbl,fZ (by omega) (by omega)]
  have e3:wrap64 ((i:Int)+1)=((i+1:Nat):Int):=by rw [fZ (by omega) (by omega)];rfl
  refine Ev.step (fun k=>by simp only [bI.l0];rw [if_pos (by omega),if_pos (by omega),if_pos (by omega),hr,e1]) (Ev.bind (rN (hk _ (List.getElem_mem hlt)) (by omega) (by omega)) ?_)
  refine EN keys _ _ _ _ _ 0 (iy s m) (Nat.zero_le _) (by simp [nT]) (by rw [hbl];exact hm) (by rw [hbl];exact qU (by omega)) rfl ?_
  rw [List.drop_zero,e3]
  have hfold:∀ (l:List Int) (s:List Bool),s.length=8*m→(∀ x ∈ l,0≤x∧x<8*(m:Int))→l.foldl m8 (iy s m)=iy (l.foldl jM s) m:=by
   intro l
   induction l with
   | nil=>intro s _ _;rfl
   | cons x l ihl=>
    intro s hs hx
    obtain ⟨x0,x1⟩:=hx x List.mem_cons_self
    rw [List.foldl_cons,List.foldl_cons,zK s m hs x x0 x1]
    exact ihl _ (by unfold jM;rw [List.length_set];exact hs) (fun y hy=>hx y (List.mem_cons_of_mem _ hy))
  rw [hfold _ s hs (qU (by omega)),List.drop_eq_getElem_cons hlt]
  exact ih (i+1) _ (by omega) (by rw [mz];exact hs) (by omega)
theorem zF (m:Nat):List.replicate m (0:Int)=iy (List.replicate (8*m) false) m:=by
 apply List.ext_getElem
 ·
  rw [List.length_replicate,iO]
 ·
  intro j h1 h2
  rw [List.length_replicate] at h1
  rw [List.getElem_replicate,nV _ h1]
  have hf:∀ q:Nat,(List.replicate (8*m) false).getD q false=false:=fun q=>by
   rw [List.getD_eq_getElem?_getD,List.getElem?_replicate]
   split<;>rfl
  unfold byteOf
  simp only [hf]
  decide
theorem wZ {keys:List ByteArray} (hk:∀ x ∈ keys,x.size≤100000) (hl:keys.length≤100000):Ev (fun k=>bI.f k keys) (sP keys):=by
 unfold bI.f
 have hz:mx 1 (wrap64 (Int.tdiv (wrap64 ((keys.length:Int)*8)) 8))=(jo keys:Int):=by
  rw [fZ (x:=(keys.length:Int)*8) (by omega) (by omega),Int.tdiv_eq_ediv_of_nonneg (by omega),fZ (by omega) (by omega)]
  unfold mx jo
  split<;>omega
 rw [hz]
 have hs1:jo keys≤100000:=by unfold jo;omega
 have hs0:0<jo keys:=by unfold jo;omega
 refine Ev.pos (by omega) (Ev.pos (by omega) ?_)
 rw [Int.toNat_natCast,zF]
 exact EH keys (jo keys) hs1 hs0 hk hl keys.length 0 _ (Nat.zero_le _) (by rw [List.length_replicate]) rfl
theorem Fq (f:List Int) (hf:f.length≤100000) (hb:Bytes f) (bs:List Int) (hx:∀ x ∈ bs,0≤x∧x<8*(f.length:Int)) (hl:bs.length≤1000) (d:Nat):∀ i:Nat,i≤bs.length→bs.length - i=d→
  Ev (fun k=>dM.l0 k f bs (bs.length:Int) (i:Int)) (hasB f (bs.drop i)):=by
 induction d with
 | zero=>
  intro i hi hd
  rw [List.drop_eq_nil_of_le (by omega)]
  exact Ev.step (f:=fun _=>some true) (fun k=>by simp only [dM.l0];rw [if_neg (by omega)]) (Ev.now _)
 | succ d ih=>
  intro i hi hd
  have hlt:i<bs.length:=by omega
  have q1:(i:Int)<(bs.length:Int):=by omega
  have q2:(0:Int)≤(i:Int):=by omega
  have hr:rd bs (i:Int)=bs[i]:=by unfold rd;rw [Int.toNat_natCast,List.getD_eq_getElem?_getD,List.getElem?_eq_getElem hlt];rfl
  obtain ⟨x0,x1⟩:=hx _ (List.getElem_mem hlt)
  obtain ⟨e1,e2,p1,p2,p3,p4,p5⟩:=Cv x0 x1 hf
  have e3:wrap64 ((i:Int)+1)=((i+1:Nat):Int):=by rw [fZ (by omega) (by omega)];rfl
  refine Ev.step (fun k=>by simp only [dM.l0];rw [if_pos q1,if_pos q2,if_pos q1,hr,e1,e2,if_pos p1,if_pos p2,if_pos p3,e3]) ?_
  have hq:rd f (bs[i] / 8)=f[(bs[i] / 8).toNat]'p4:=by
   unfold rd
   rw [List.getD_eq_getElem?_getD,List.getElem?_eq_getElem p4]
   rfl
  obtain ⟨v0,v1⟩:=hb _ (List.getElem_mem p4)
  rw [←hq] at v0 v1
  have v2:(rd f (bs[i] / 8)).toNat<256:=by generalize rd f (bs[i] / 8)=v at v0 v1 ⊢;omega
  have ht:=DG ⟨(rd f (bs[i] / 8)).toNat,v2⟩ ⟨(bs[i] % 8).toNat,p5⟩
  simp only [Int.toNat_of_nonneg v0,Int.toNat_of_nonneg (Int.emod_nonneg bs[i] (show (8:Int)≠0 by decide))] at ht
  have ht2:=decide_eq_decide.1 ht
  rw [List.drop_eq_getElem_cons hlt]
  unfold hasB
  rw [List.all_cons]
  by_cases hc:(rd f (bs[i] / 8) / 2 ^ (bs[i] % 8).toNat) % 2=0
  ·
   rw [decide_eq_false (fun h=>h hc),Bool.false_and]
   exact Ev.pos (ht2.2 hc) (Ev.now _)
  ·
   have hc':=fun h=>hc (ht2.1 h)
   rw [decide_eq_true hc,Bool.true_and]
   clear hc ht ht2 v0 v1 v2 hq e1 e2 p1 p2 p3 p4 p5 x0 x1 hr
   exact Ev.neg hc' (ih (i+1) (by omega) (by omega))
theorem yG {f:List Int} {key:ByteArray} (hf:f.length≤100000) (hb:Bytes f) (hk:key.size≤100000):Ev (fun k=>dM.f k f key) (t6 f key):=by
 unfold dM.f t6
 by_cases h0:f.length=0
 ·
  rw [if_pos h0]
  exact Ev.pos (by omega) (Ev.now _)
 ·
  rw [if_neg h0]
  have e1:wrap64 (8*(f.length:Int))=8*(f.length:Int):=fZ (by omega) (by omega)
  rw [e1]
  refine Ev.neg (by omega) (Ev.bind (rN hk (by omega) (by omega)) ?_)
  have:=Fq f hf hb (nT key (8*(f.length:Int))) (qU (by omega)) (by simp [nT]) _ 0 (Nat.zero_le _) rfl
  rwa [List.drop_zero] at this
theorem rM {r c:ByteArray} (hr:r.size≤1000000) (hc:c.size≤1000000):fk.f r c=some (rX r c):=by
 unfold fk.f
 rw [kf (by omega),kf (by omega)]
 simp only [Option.bind_some]
 have h1:=gO r
 have h2:=gO c
 rw [if_pos (by rw [jR,jR];omega)]
 rfl
theorem zH {l:List Cell} (hr:fW l):∀ x ∈ ng l,x.size≤100000:=by
 intro x hx
 obtain ⟨c,hc,rfl⟩:=List.mem_map.1 hx
 obtain ⟨_,h1,_,h2,_⟩:=fo.1 (hr c hc)
 have:=wE c.f0 c.f1
 omega
theorem CZ (l:List Cell) (hr:fW l) (hl:l.length≤10000) (d:Nat):∀ i:Nat,i≤l.length→l.length - i=d→Ev (fun k=>cM.l0 k (ng (l.take i)) l (l.length:Int) (i:Int)) (eK l):=by
 induction d with
 | zero=>
  intro i hi hd
  rw [List.take_of_length_le (by omega)]
  refine Ev.step (fun k=>by simp only [cM.l0];rw [if_neg (by omega)]) ?_
  exact Ev.bind (wZ (zH hr) (by unfold ng;rw [List.length_map];omega)) (Ev.now _)
 | succ d ih=>
  intro i hi hd
  have hlt:i<l.length:=by omega
  have q1:(i:Int)<(l.length:Int):=by omega
  have q2:(0:Int)≤(i:Int):=by omega
  have hrd:=gG l i hlt
  unfold mD at hrd
  obtain ⟨_,z1,_,z2,_⟩:=fo.1 (hr _ (List.getElem_mem hlt))
  have hlen:(ng (l.take i)).length<8796093022208:=by unfold ng;rw [List.length_map,List.length_take];omega
  have hih:=ih (i+1) (by omega) (by omega)
  have hsz1:l[i].f0.size≤1000000:=by omega
  have hsz2:l[i].f1.size≤1000000:=by omega
  have e3:wrap64 ((i:Int)+1)=((i+1:Nat):Int):=by rw [fZ (by omega) (by omega)];rfl
  have e4:ng (l.take i)++[rX l[i].f0 l[i].f1]=ng (l.take (i+1)):=by
   unfold ng
   rw [List.take_succ_eq_append_getElem hlt,List.map_append]
   rfl
  refine Ev.step (f:=fun k=>cM.l0 k (ng (l.take (i+1))) l (l.length:Int) ((i+1:Nat):Int)) (fun k=>?_) hih
  simp only [cM.l0]
  rw [if_pos q1,if_pos q2,if_pos q1,hrd,rM hsz1 hsz2,Option.bind_some,if_pos hlen,e3,e4]
theorem pO {l:List Cell} (hr:fW l) (hl:l.length≤10000):Ev (fun k=>cM.f k l) (eK l):=by
 unfold cM.f
 exact CZ l hr hl l.length 0 (Nat.zero_le _) rfl
theorem vp (bs:List (List Cell)) (i:Nat) (h:i<bs.length):aN bs (i:Int)=bs[i]:=by
 show bs.getD (i:Int).toNat _=_
 rw [Int.toNat_natCast,List.getD_eq_getElem?_getD,List.getElem?_eq_getElem h]
 rfl
theorem EV {b:List Cell} (h:jj b):Ev (fun k=>cJ.f k b) (frame (iA b),0):=by
 exact wT h.1 (fun he=>h.2.1 (List.eq_nil_of_length_eq_zero he)) h.2.2.1 h.2.2.2
theorem C6 (bs:List (List Cell)) (fl:List Int) (hok:∀ b ∈ bs,jj b) (hb:bs.length≤421) (hf:fl.length≤1000) (d:Nat):∀ (i:Nat) (all foot:List Int),i≤bs.length→bs.length - i=d→all.length≤60166*i→foot.length≤4+149*i→Bytes foot→
  Ev (fun k=>cS.l0 k fl all foot bs (bs.length:Int) (i:Int)) (all++jH (bs.drop i),frame (foot++(mr all.length (bs.drop i)++text (strOfNums fl))),0):=by
 induction d with
 | zero=>
  intro i all foot hi hd ha hfo hby
  rw [List.drop_eq_nil_of_le (by omega)]
  have h3:=gO (strOfNums fl)
  rw [jR] at h3
  have h4:(foot++text (strOfNums fl)).length≤65535:=by rw [List.length_append];omega
  have hp:=sy (hby.append (nh (strOfNums fl))) (by omega)
  rw [if_neg (by omega)] at hp
  refine Ev.step (fun k=>by simp only [cS.l0];rw [if_neg (by omega),kf (by rw [jR];omega),Option.bind_some,if_pos (by omega)]) (Ev.bind hp (Ev.neg (yp h4) ?_))
  exact (Ev.now _).to (by simp [jH,mr])
 | succ d ih=>
  intro i all foot hi hd ha hfo hby
  have hlt:i<bs.length:=by omega
  have q1:(i:Int)<(bs.length:Int):=by omega
  have q2:(0:Int)≤(i:Int):=by omega
  have hB:=hok _ (List.getElem_mem hlt)
  have hrd:=vp bs i hlt
  have e3:wrap64 ((i:Int)+1)=((i+1:Nat):Int):=by rw [fZ (by omega) (by omega)];rfl
  have hfr:=xE hB
  have hkb:=z_ hB
  have hnl:=fF all.length
  rw [List.drop_eq_getElem_cons hlt,nX]
  obtain ⟨b,hbe⟩:∃ b,bs[i]=b:=⟨_,rfl⟩
  rw [hbe] at hB hrd hfr hkb ⊢
  cases b with
  | nil=>exact absurd rfl hB.2.1
  | cons c b=>
   obtain ⟨_,z1,_,z2,_⟩:=fo.1 (hB.1.1 c List.mem_cons_self)
   have hcp:dh.f c.f0 c.f1 c.f2 ⟨#[]⟩ false=some (qM (c :: b)):=nO c.f2 false (by omega) (by omega) (by decide)
   have hcc:bX.f [foot,qM (c :: b),num all.length]=some (foot++qM (c :: b)++num all.length):=by
    rw [nW (by simp only [fG,List.map_cons,List.map_nil,List.sum_cons,List.sum_nil];omega)]
    simp
   have hput:=EV hB
   have e5:mr all.length ((c :: b) :: bs.drop (i+1))=qM (c :: b)++(num all.length++mr (all.length+(frame (iA (c :: b))).length) (bs.drop (i+1))):=rfl
   rw [e5]
   have hbF:0<((c :: b).length:Int):=by simp only [List.length_cons];omega
   have hk0:af (c :: b) 0=c:=rfl
   generalize frame (iA (c :: b))=F at hput hfr ⊢
   have hkb2:=uD (c :: b)
   generalize qM (c :: b)=K at hkb hcp hcc hkb2 ⊢
   have hkey:nY.f c.f0 c.f1 c.f2 c.f3 c.f4=some (c.f0,c.f1,c.f2,⟨#[]⟩,false):=rfl
   have hal:all.length+F.length<140737488355328:=by omega
   have hstep:Ev (fun k=>cS.l0 k fl (all++F) (foot++K++num all.length) bs (bs.length:Int) ((i+1:Nat):Int)) (all++(F++jH (bs.drop (i+1))),frame (foot++(K++(num all.length++mr (all.length+F.length) (bs.drop (i+1)))++text (strOfNums fl))),0):=by
    refine (ih (i+1) (all++F) (foot++K++num all.length) (by omega) (by omega) (by rw [List.length_append];omega) (by simp only [List.length_append];omega) ((hby.append hkb2).append (g_ _))).to ?_
    rw [List.length_append]
    simp only [List.append_assoc]
   refine Ev.step (f:=fun k=>(cJ.f k (c :: b)).bind fun bt=>if bt.2=0 then (if all.length+bt.1.length<140737488355328 then cS.l0 k fl (all++bt.1) (foot++K++num all.length) bs (bs.length:Int) ((i+1:Nat):Int) else none) else some ([],[],bt.2)) (fun k=>?_) (Ev.bind hput (Ev.pos rfl (Ev.pos hal hstep)))
   simp only [cS.l0]
   rw [if_pos q1,if_pos q2,if_pos q1,hrd,e3]
   simp only [if_pos hbF,hk0,hkey,hcp,hcc,js,Option.bind_some]
theorem DH {bs:List (List Cell)} {fl:List Int} (hok:∀ b ∈ bs,jj b) (hb:bs.length≤421) (hf:fl.length≤1000):Ev (fun k=>cS.f k bs fl) (jH bs,frame (iW bs fl),0):=by
 unfold cS.f
 have hn:=fF bs.length
 refine Ev.bind (Ev.eq (js _)) ?_
 have:=C6 bs fl hok hb hf bs.length 0 [] (num bs.length) (Nat.zero_le _) rfl (by simp) (by omega) (g_ _)
 rw [List.drop_zero,List.nil_append] at this
 exact this
theorem xG {bs:List (List Cell)} {fl:List Int} (hok:∀ b ∈ bs,jj b) (hb:bs.length≤421) (hf:fl.length≤1000):Ev (fun k=>fq.f k bs fl) (iE bs fl,0):=by
 unfold fq.f
 have h1:=sV bs hok
 have h2:=tN hok hb hf
 have h3:=jv (r:=iW bs fl) (by omega)
 have h4:=fF (frame (iW bs fl)).length
 refine Ev.bind (DH hok hb hf) (Ev.pos rfl (Ev.bind (Ev.eq (js _)) (Ev.bind (Ev.eq (nW ?_)) ?_)))
 ·
  show fG [jH bs,frame (iW bs fl),num (frame (iW bs fl)).length]≤_
  simp only [fG,List.map_cons,List.map_nil,List.sum_cons,List.sum_nil]
  omega
 ·
  exact (Ev.now _).to (by simp [iE])
theorem qu {b:List Cell}:∀ {x:List (List Cell)},b ∈ x→b.length≤x.flatten.length
 | [],h=>by cases h
 | a :: x,h=>by
  rw [List.flatten_cons,List.length_append]
  rcases List.mem_cons.1 h with rfl | h
  ·
   omega
  ·
   have:=qu h
   omega
theorem F8 {W:Nat}:∀ l:List Cell,(∀ c ∈ l,(jr c).length≤W)→(iA l).length≤4+W*l.length:=fun l h=>by
 have hf:∀ l:List Cell,(∀ c ∈ l,(jr c).length≤W)→(l.map jr).flatten.length≤W*l.length:=fun l=>by
  induction l with
  | nil=>exact fun _=>Nat.zero_le _
  | cons c l ih=>
   intro h
   have h1:=h c List.mem_cons_self
   have h2:=ih (fun x hx=>h x (List.mem_cons_of_mem _ hx))
   rw [List.map_cons,List.flatten_cons,List.length_append,List.length_cons,Nat.mul_succ]
   omega
 have h1:=hf l h
 have h2:=fF l.length
 unfold iA
 rw [List.length_append]
 omega
theorem tO {W:Nat} {l:List Cell} (h:iG l) (hl:l.length≤420) (hw:∀ c ∈ l,(jr c).length≤W) (hW:W*l.length≤60150) {size:Nat} (hs:0<size):∀ b ∈ iH size l [] 0,jj b:=by
 intro b hb
 have hfl:=pu size l [] 0
 rw [List.nil_append] at hfl
 have hp:=Cp (x:=iH size l [] 0) (by rw [hfl];exact h) b hb
 refine ⟨hp,(uH size hs l [] 0 rfl (fun k hk=>by
  have:k=0:=by simpa using hk
  subst this
  simpa [gN] using hs) b hb).1,?_⟩
 have hlen:b.length≤(iH size l [] 0).flatten.length:=by
  exact qu hb
 rw [hfl] at hlen
 have hb2:=F8 (W:=W) b (fun c hc=>hw c (by rw [←hfl];exact List.mem_flatten.2 ⟨b,hb,hc⟩))
 have:=Nat.mul_le_mul_left W hlen
 exact ⟨by omega,by omega⟩
def yw (size:Int) (l:List Cell):List Int × Int:=if jd l=true∧1≤size then (iE (iH size.toNat l [] 0) (eK l),0) else ([],1)
theorem uo {W:Nat} {l:List Cell} (size:Int) (hl:l.length≤420) (hw:∀ c ∈ l,(jr c).length≤W) (hW:W*l.length≤60150):Ev (fun k=>gV.f k l size) (yw size l):=by
 unfold gV.f yw
 refine Ev.bind (zi size (by omega)) ?_
 unfold yo
 by_cases h:jd l=true∧1≤size
 ·
  rw [if_pos h,if_pos h]
  have hs:=kS.1 h.1
  have hg:=ni size.toNat l [] 0
  refine Ev.pos rfl (Ev.bind (pO hs.1 (by omega)) (Ev.bind (xG (bs:=iH size.toNat l [] 0) (fl:=eK l) (tO hs hl hw hW (by omega)) (by omega) (by rw [lV];omega)) (Ev.now _)))
 ·
  rw [if_neg h,if_neg h]
  exact Ev.neg (by decide) (Ev.now _)
theorem Fh {l:List Cell} {r c:ByteArray} (hl:l.length≤10000) (hr:r.size≤10000) (hc:c.size≤10000):Ev (fun k=>eU.f k (eK l) r c) (t6 (eK l) (rX r c)):=by
 unfold eU.f
 have hk:=wE r c
 have hf:=lV l
 exact Ev.bind (Ev.eq (rM (by omega) (by omega))) (yG (by omega) (wP l) (by omega))
theorem Fz {l:List Cell} {x:Cell} (h:x ∈ l):t6 (eK l) (rX x.f0 x.f1)=true:=CC (List.mem_map.2 ⟨x,h,rfl⟩)
def dQ (t:Cell):List Cell→Nat
 | []=>0
 | x :: l=>if cc x t = -1 then dQ t l+1 else 0
theorem qh (t:Cell):∀ l:List Cell,dQ t l≤l.length
 | []=>Nat.le_refl _
 | x :: l=>by
  have:=qh t l
  unfold dQ
  split<;>simp only [List.length_cons]<;>omega
theorem sF (t:Cell):∀ (l:List Cell) (i:Nat),i≤l.length→(∀ j (_:j<i) (hl:j<l.length),cc l[j] t = -1)→(∀ h:i<l.length,¬ cc l[i] t = -1)→dQ t l=i
 | [],i,hi,_,_=>by simp at hi;simp [dQ,hi]
 | x :: l,0,_,_,h2=>by
  have:=h2 (by simp)
  simp only [List.getElem_cons_zero] at this
  unfold dQ
  rw [if_neg this]
 | x :: l,i+1,hi,h1,h2=>by
  have hx:=h1 0 (by omega) (by simp)
  simp only [List.getElem_cons_zero] at hx
  unfold dQ
  rw [if_pos hx,sF t l i (by simpa using hi) (fun j hj hl=>by have:=h1 (j+1) (by omega) (by simpa using hl);simpa using this) (fun hl=>by have:=h2 (by simpa using hl);simpa using this)]
def oh (r c:ByteArray) (t:Int) (x:Cell):Bool:=decide (x.f0=r∧x.f1=c∧x.f2≤t)
theorem e8 {r c:ByteArray} {t:Int} {x:Cell}:oh r c t x=true↔x.f0=r∧x.f1=c∧x.f2≤t:=decide_eq_true_iff
def dL (r c:ByteArray) (t:Int) (l:List Cell):Option Cell:=l.find? (oh r c t)
def fP (r c:ByteArray) (t:Int):Cell:=⟨r,c,t,⟨#[]⟩,false⟩
theorem oZ {x y:Cell} (h1:x.f0=y.f0) (h2:x.f1=y.f1):cc x y=kX y.f2 x.f2:=by
 unfold cc kG
 rw [if_pos (iM.2 h1),if_pos (iM.2 h2)]
theorem nB {a b:Int}:kX a b = -1↔a<b:=by
 unfold kX
 split
 ·
  simp [*]
 ·
  split<;>simp<;>omega
theorem uc {x y z:Cell} (h1:y.f0=z.f0) (h2:y.f1=z.f1) (h:¬ (x.f0=y.f0∧x.f1=y.f1)):cc x y=cc x z:=by
 unfold cc kG
 rw [←h1,← h2]
 by_cases e1:fR x.f0 y.f0=0
 ·
  rw [if_pos e1]
  by_cases e2:fR x.f1 y.f1=0
  ·
   exact absurd ⟨iM.1 e1,iM.1 e2⟩ h
  ·
   rw [if_neg e2,if_pos e1,if_neg e2]
 ·
  rw [if_neg e1,if_neg e1]
theorem zn (r c:ByteArray) (t:Int):∀ {l:List Cell},eT l→dL r c t l=if h:dQ (fP r c t) l<l.length then (if l[dQ (fP r c t) l].f0=r∧l[dQ (fP r c t) l].f1=c then some l[dQ (fP r c t) l] else none) else none
 | [],_=>by simp [dL]
 | x :: l,h=>by
  obtain ⟨h1,h2⟩:=List.pairwise_cons.1 h
  by_cases hx:cc x (fP r c t) = -1
  ·
   have hn:oh r c t x=false:=by
    cases ho:oh r c t x with
    | false=>rfl
    | true=>
     obtain ⟨e1,e2,e3⟩:=e8.1 ho
     rw [oZ (y:=fP r c t) e1 e2,nB] at hx
     have:(fP r c t).f2=t:=rfl
     omega
   unfold dL
   rw [List.find?_cons_of_neg (by simp [hn])]
   have ih:=zn r c t h2
   unfold dL at ih
   rw [ih]
   simp only [dQ,if_pos hx,List.length_cons,Nat.add_lt_add_iff_right,List.getElem_cons_succ]
  ·
   simp only [dQ,if_neg hx,List.length_cons,Nat.zero_lt_succ,dif_pos,List.getElem_cons_zero]
   by_cases hk:x.f0=r∧x.f1=c
   ·
    rw [if_pos hk]
    rw [oZ (y:=fP r c t) hk.1 hk.2,nB] at hx
    have:(fP r c t).f2=t:=rfl
    exact List.find?_cons_of_pos (e8.2 ⟨hk.1,hk.2,by omega⟩)
   ·
    rw [if_neg hk]
    refine List.find?_eq_none.2 fun y hy=>?_
    rcases List.mem_cons.1 hy with rfl | hy
    ·
     intro ho
     obtain ⟨e1,e2,_⟩:=e8.1 ho
     exact hk ⟨e1,e2⟩
    ·
     intro ho
     obtain ⟨e1,e2,_⟩:=e8.1 ho
     have hxy:=h1 y hy
     rw [uc (y:=y) (z:=fP r c t) e1 e2 (by rw [e1,e2];exact hk)] at hxy
     exact hx hxy
def rz (r c:ByteArray) (t:Int):List Cell→Cell→Cell
 | [],b=>b
 | x :: l,b=>rz r c t l (if oh r c t x=true∧x.f2 > b.f2 then x else b)
theorem u_ (r c:ByteArray) (t:Int):∀ (l:List Cell) (b:Cell),(∀ x ∈ l,oh r c t x=true→x.f2≤b.f2)→rz r c t l b=b
 | [],_,_=>rfl
 | x :: l,b,h=>by
  unfold rz
  rw [if_neg (fun hx=>by have:=h x List.mem_cons_self hx.1;omega)]
  exact u_ r c t l b (fun y hy=>h y (List.mem_cons_of_mem _ hy))
theorem uO (r c:ByteArray) (t:Int) (z:Cell) (hz:z.f2 = -1):∀ {l:List Cell},iG l→rz r c t l z=(dL r c t l).getD z
 | [],_=>rfl
 | x :: l,⟨hr,h⟩=>by
  obtain ⟨h1,h2⟩:=List.pairwise_cons.1 h
  unfold rz dL
  by_cases hx:oh r c t x=true
  ·
   have h0:=(fo.1 (hr x List.mem_cons_self)).2.2.2.2.1
   rw [if_pos ⟨hx,by omega⟩,List.find?_cons_of_pos hx]
   refine u_ r c t l x fun y hy ho=>?_
   obtain ⟨e1,e2,_⟩:=e8.1 hx
   obtain ⟨f1,f2,_⟩:=e8.1 ho
   have:=h1 y hy
   rw [oZ (e1.trans f1.symm) (e2.trans f2.symm),nB] at this
   omega
  ·
   rw [if_neg (fun h=>hx h.1),List.find?_cons_of_neg hx]
   exact uO r c t z hz ⟨fun y hy=>hr y (List.mem_cons_of_mem _ hy),h2⟩
def jD:Option Cell→ByteArray × ByteArray × Int × ByteArray × Bool × Bool
 | none=>(⟨#[]⟩,⟨#[]⟩,0,⟨#[]⟩,false,false)
 | some c=>(c.f0,c.f1,c.f2,c.f3,c.f4,true)
theorem Ff {x:Int} (h0:0≤x) (h1:x<18446744073709551616):IntKind.u64.wrap x=x:=by
 unfold IntKind.wrap
 simp only [IntKind.signed,IntKind.bits,Bool.false_and,Bool.false_eq_true,if_false]
 omega
theorem EU (l:List Cell) (t:Cell) (ho:eT l) (hn:l.length≤2199023255552) (d:Nat):∀ lo hi:Nat,hi - lo≤d→lo≤hi→hi≤l.length→(∀ j (_:j<lo) (hl:j<l.length),cc l[j] t = -1)→(∀ j (_:hi≤j) (hl:j<l.length),¬ cc l[j] t = -1)→
  Ev (fun k=>br.l0 k l (l.length:Int) (lo:Int) (hi:Int) t.f0 t.f1 t.f2 t.f3 t.f4) ((dQ t l:Int),if h:dQ t l<l.length then cc l[dQ t l] t == 0 else false):=by
 induction d with
 | zero=>
  intro lo hi hd h1 h2 h3 h4
  have:lo=hi:=by omega
  subst this
  have hp:=sF t l lo h2 h3 (fun h=>h4 lo (by omega) h)
  rw [hp]
  by_cases hl:lo<l.length
  ·
   have hr:=gG l lo hl
   unfold mD at hr
   rw [dif_pos hl]
   refine Ev.step (fun k=>by simp only [br.l0];rw [if_neg (by omega),if_pos (by omega),if_pos (by omega),if_pos (by omega),hr]) (Ev.bind (mP _ _) (Ev.now _))
  ·
   rw [dif_neg hl]
   exact Ev.step (f:=fun _=>some ((lo:Int),false)) (fun k=>by simp only [br.l0];rw [if_neg (by omega),if_neg (by omega)]) (Ev.now _)
 | succ d ih=>
  intro lo hi hd h1 h2 h3 h4
  by_cases hlt:lo<hi
  ·
   have hm:wrap64 (IntKind.u64.wrap (wrap64 ((lo:Int)+(hi:Int))) / 2)=(((lo+hi) / 2:Nat):Int):=by
    rw [fZ (x:=(lo:Int)+(hi:Int)) (by omega) (by omega),Ff (by omega) (by omega),fZ (by omega) (by omega)]
    omega
   have hml:(lo+hi) / 2<l.length:=by omega
   have hr:=gG l ((lo+hi) / 2) hml
   unfold mD at hr
   refine Ev.step (fun k=>by simp only [br.l0];rw [if_pos (by omega),hm,if_pos (by omega),if_pos (by omega),hr]) (Ev.bind (mP _ _) ?_)
   have hin:=sU l[(lo+hi) / 2] t
   by_cases hc:cc l[(lo+hi) / 2] t = -1
   ·
    refine Ev.pos (by omega) ?_
    rw [fZ (by omega) (by omega)]
    refine ih ((lo+hi) / 2+1) hi (by omega) (by omega) h2 (fun j hj hl=>?_) h4
    by_cases hjm:j=(lo+hi) / 2
    ·
     subst hjm;exact hc
    ·
     exact jA (List.pairwise_iff_getElem.1 ho j ((lo+hi) / 2) hl hml (by omega)) hc
   ·
    refine Ev.neg (by omega) (ih lo ((lo+hi) / 2) (by omega) (by omega) (by omega) h3 (fun j hj hl=>?_))
    by_cases hjm:j=(lo+hi) / 2
    ·
     subst hjm;exact hc
    ·
     exact fun hjt=>hc (jA (List.pairwise_iff_getElem.1 ho ((lo+hi) / 2) j hml hl (by omega)) hjt)
  ·
   exact ih lo hi (by omega) h1 h2 h3 h4
theorem vE {l:List Cell} (t:Cell) (ho:eT l) (hn:l.length≤2199023255552):Ev (fun k=>br.f k l t.f0 t.f1 t.f2 t.f3 t.f4) ((dQ t l:Int),if h:dQ t l<l.length then cc l[dQ t l] t == 0 else false):=by
 unfold br.f
 exact EU l t ho hn l.length 0 l.length (by omega) (by omega) (by omega) (fun j hj=>by omega) (fun j hj hl=>by omega)
theorem nD {l:List Cell} (r c:ByteArray) (t:Int) (ho:eT l) (hn:l.length≤1000000000):Ev (fun k=>cA.f k l r c t) (jD (dL r c t l)):=by
 have jt:Ev (fun k=>cA.j0 k l (dQ (fP r c t) l) true) (jD none):=Ev.step (f:=fun _=>some (jD none)) (fun k=>by simp only [cA.j0,if_true];rfl) (Ev.now _)
 rw [zn r c t ho]
 unfold cA.f
 by_cases hp:dQ (fP r c t) l<l.length
 ·
  rw [dif_pos hp]
  refine Ev.bind (vE (fP r c t) ho (by omega)) ?_
  have hr:=gG l _ hp
  unfold mD at hr
  have jf:Ev (fun k=>cA.j0 k l (dQ (fP r c t) l) false) (jD (some l[dQ (fP r c t) l])):=Ev.step (f:=fun _=>some (jD (some l[dQ (fP r c t) l]))) (fun k=>by simp only [cA.j0,Bool.false_eq_true,if_false];rw [if_pos (by omega),if_pos (by omega),hr];rfl) (Ev.now _)
  simp only
  rw [hr]
  refine Ev.neg (by omega) (Ev.pos (by omega) (Ev.pos (by omega) ?_))
  by_cases e1:l[dQ (fP r c t) l].f0=r
  ·
   refine Ev.pos (by rw [e1]) ?_
   by_cases e2:l[dQ (fP r c t) l].f1=c
   ·
    rw [if_pos ⟨e1,e2⟩,e2,bne_self_eq_false]
    exact jf
   ·
    rw [if_neg (fun h=>e2 h.2),show (l[dQ (fP r c t) l].f1.toList != c.toList)=true by simpa using fun h=>e2 (toList_inj h)]
    exact jt
  ·
   rw [if_neg (fun h=>e1 h.1)]
   exact Ev.neg (fun h=>e1 (toList_inj h)) jt
 ·
  rw [dif_neg hp]
  have:=qh (fP r c t) l
  refine Ev.bind (vE (fP r c t) ho (by omega)) ?_
  simp only
  exact Ev.pos (by omega) jt
def je (b:List Cell):Cell:=mD b ((b.length - 1:Nat):Int)
theorem xS {b:List Cell} (h:b≠[]):je b=b[b.length - 1]'(by have:=List.length_pos_iff.2 h;omega):=gG b _ _
theorem pP {b:List Cell} (h:b≠[]):je b ∈ b:=by rw [xS h];exact List.getElem_mem _
theorem Ep {b:List Cell} (h:b≠[]) (hl:b.length≤100000) (t:Cell):Ev (fun k=>cB.f k b t.f0 t.f1 t.f2 t.f3 t.f4) (cc (je b) t):=by
 have hp:=List.length_pos_iff.2 h
 have p1:(b.length:Int) - 1=((b.length - 1:Nat):Int):=by omega
 have b1:b.length - 1≤1000000000:=by omega
 have b2:(0:Int)≤((b.length - 1:Nat):Int):=by omega
 have b3:((b.length - 1:Nat):Int)<(b.length:Int):=by omega
 have e1:wrap64 ((b.length:Int) - 1)=((b.length - 1:Nat):Int):=by rw [p1];exact fZ (by omega) (by omega)
 unfold cB.f
 rw [e1]
 exact Ev.pos b2 (Ev.pos b3 (Ev.bind (mP (je b) t) (Ev.now _)))
theorem BV (bs:List (List Cell)) (M:List Cell) (hM:M.length=bs.length) (t:Cell) (hn:bs.length≤1000000000) (hg:∀ (i:Nat) (h:i<bs.length),Ev (fun k=>cB.f k bs[i] t.f0 t.f1 t.f2 t.f3 t.f4) (cc (M[i]'(by omega)) t)) (ho:eT M) (d:Nat) :
  ∀ lo hi:Nat,hi - lo≤d→lo≤hi→hi≤M.length→(∀ j (_:j<lo) (hl:j<M.length),cc M[j] t = -1)→(∀ j (_:hi≤j) (hl:j<M.length),¬ cc M[j] t = -1)→
  Ev (fun k=>bK.l0 k bs (bs.length:Int) (lo:Int) (hi:Int) t.f0 t.f1 t.f2 t.f3 t.f4) ((dQ t M:Int),if h:dQ t M<M.length then cc M[dQ t M] t == 0 else false):=by
 induction d with
 | zero=>
  intro lo hi hd h1 h2 h3 h4
  have:lo=hi:=by omega
  subst this
  have hp:=sF t M lo h2 h3 (fun h=>h4 lo (by omega) h)
  rw [hp]
  have hnl:¬ (lo:Int)<(lo:Int):=by omega
  by_cases hl:lo<M.length
  ·
   have hl2:lo<bs.length:=by omega
   have hr:=vp bs lo hl2
   have q1:(lo:Int)<(bs.length:Int):=by omega
   have q2:(0:Int)≤(lo:Int):=by omega
   rw [dif_pos hl]
   exact Ev.step (fun k=>by simp only [bK.l0];rw [if_neg hnl,if_pos q1,if_pos q2,if_pos q1,hr]) (Ev.bind (hg lo hl2) (Ev.now _))
  ·
   have q1:¬ (lo:Int)<(bs.length:Int):=by omega
   rw [dif_neg hl]
   exact Ev.step (f:=fun _=>some ((lo:Int),false)) (fun k=>by simp only [bK.l0];rw [if_neg hnl,if_neg q1]) (Ev.now _)
 | succ d ih=>
  intro lo hi hd h1 h2 h3 h4
  by_cases hlt:lo<hi
  ·
   obtain ⟨m,hmd⟩:∃ m,m=(lo+hi) / 2:=⟨_,rfl⟩
   have hml:m<M.length:=by omega
   have hmb:m<bs.length:=by omega
   have ihA:=ih (m+1) hi (by omega) (by omega) h2
   have ihB:=ih lo m (by omega) (by omega) (by omega)
   have hlo:lo≤m:=by omega
   have q0:(lo:Int)<(hi:Int):=by omega
   have q1:(0:Int)≤(m:Int):=by omega
   have q2:(m:Int)<(bs.length:Int):=by omega
   have hr:=vp bs m hmb
   have b1:m+1≤2000000000:=by omega
   have hm:wrap64 (IntKind.u64.wrap (wrap64 ((lo:Int)+(hi:Int))) / 2)=(m:Int):=by
    rw [fZ (x:=(lo:Int)+(hi:Int)) (by omega) (by omega),Ff (by omega) (by omega),fZ (by omega) (by omega)]
    omega
   have hm1:wrap64 ((m:Int)+1)=((m+1:Nat):Int):=by rw [fZ (by omega) (by omega)];rfl
   have hin:=sU M[m] t
   clear hmd hd
   refine Ev.step (fun k=>by simp only [bK.l0];rw [if_pos q0,hm,if_pos q1,if_pos q2,hr,hm1]) (Ev.bind (hg m hmb) ?_)
   clear hm hm1 hr
   by_cases hc:cc M[m] t = -1
   ·
    refine Ev.pos (by omega) (ihA (fun j hj hl=>?_) h4)
    by_cases hjm:j=m
    ·
     subst hjm;exact hc
    ·
     exact jA (List.pairwise_iff_getElem.1 ho j m hl hml (by omega)) hc
   ·
    refine Ev.neg (by omega) (ihB h3 (fun j hj hl=>?_))
    by_cases hjm:j=m
    ·
     subst hjm;exact hc
    ·
     exact fun hjt=>hc (jA (List.pairwise_iff_getElem.1 ho m j hml hl (by omega)) hjt)
  ·
   exact ih lo hi (by omega) h1 h2 h3 h4
theorem wF:∀ {bs:List (List Cell)},(∀ b ∈ bs,b≠[])→eT bs.flatten→eT (bs.map je)
 | [],_,_=>List.Pairwise.nil
 | b :: bs,h,ho=>by
  rw [List.flatten_cons] at ho
  obtain ⟨h1,h2,h3⟩:=List.pairwise_append.1 ho
  refine List.pairwise_cons.2 ⟨fun x hx=>?_,wF (fun y hy=>h y (List.mem_cons_of_mem _ hy)) h2⟩
  obtain ⟨b2,hb2,rfl⟩:=List.mem_map.1 hx
  exact h3 _ (pP (h b List.mem_cons_self)) _ (List.mem_flatten.2 ⟨b2,hb2,pP (h b2 (List.mem_cons_of_mem _ hb2))⟩)
theorem EF {b:List Cell} (h:b≠[]) (ho:eT b) {x:Cell} (hx:x ∈ b):x=je b∨cc x (je b) = -1:=by
 obtain ⟨i,hi,rfl⟩:=List.mem_iff_getElem.1 hx
 rw [xS h]
 by_cases he:i=b.length - 1
 ·
  subst he;exact .inl rfl
 ·
  exact .inr (List.pairwise_iff_getElem.1 ho i (b.length - 1) hi (by omega) (by omega))
theorem tI (r c:ByteArray) (t:Int):∀ {bs:List (List Cell)},(∀ b ∈ bs,b≠[])→eT bs.flatten→
  dL r c t bs.flatten=if dQ (fP r c t) (bs.map je)=bs.length then none else dL r c t (bs.getD (dQ (fP r c t) (bs.map je)) [])
 | [],_,_=>rfl
 | b :: bs,h,ho=>by
  have hb:=h b List.mem_cons_self
  rw [List.flatten_cons] at ho
  obtain ⟨h1,h2,h3⟩:=List.pairwise_append.1 ho
  have ih:=tI r c t (fun y hy=>h y (List.mem_cons_of_mem _ hy)) h2
  by_cases hl:cc (je b) (fP r c t) = -1
  ·
   have hp:dQ (fP r c t) ((b :: bs).map je)=dQ (fP r c t) (bs.map je)+1:=by simp [dQ,hl]
   have hn:∀ x ∈ b,¬ oh r c t x=true:=by
    intro x hx hox
    have hxl:cc x (fP r c t) = -1:=by
     rcases EF hb h1 hx with e | e
     ·
      rw [e];exact hl
     ·
      exact jA e hl
    obtain ⟨e1,e2,e3⟩:=e8.1 hox
    rw [oZ (y:=fP r c t) e1 e2,nB] at hxl
    have:(fP r c t).f2=t:=rfl
    omega
   rw [hp,List.flatten_cons]
   unfold dL at ih ⊢
   rw [List.find?_append,List.find?_eq_none.2 hn,Option.none_or,ih]
   simp only [List.length_cons,Nat.add_right_cancel_iff,List.getD_cons_succ]
  ·
   have hp:dQ (fP r c t) ((b :: bs).map je)=0:=by simp [dQ,hl]
   rw [hp,List.flatten_cons,if_neg (by simp),List.getD_cons_zero]
   unfold dL
   rw [List.find?_append]
   cases hf:b.find? (oh r c t) with
   | some x=>rfl
   | none=>
    rw [Option.none_or]
    refine List.find?_eq_none.2 fun y hy hoy=>?_
    obtain ⟨e1,e2,e3⟩:=e8.1 hoy
    have hly:=h3 _ (pP hb) y hy
    by_cases hk:(je b).f0=y.f0∧(je b).f1=y.f1
    ·
     have hle:¬ cc (je b) (fP r c t) = -1:=hl
     rw [oZ (y:=fP r c t) (hk.1.trans e1) (hk.2.trans e2),nB] at hle
     have ht:(fP r c t).f2=t:=rfl
     exact List.find?_eq_none.1 hf _ (pP hb) (e8.2 ⟨hk.1.trans e1,hk.2.trans e2,by omega⟩)
    ·
     rw [uc (y:=y) (z:=fP r c t) e1 e2 hk] at hly
     exact hl hly
theorem FJ {l:List Cell} {bs:List (List Cell)} (r c:ByteArray) (t:Int) (hfl:bs.flatten=l) (hok:∀ b ∈ bs,jj b) (hs:iG l) (hl:l.length≤900) (hbl:bs.length≤1000) (hr:r.size≤10000) (hc:c.size≤10000) :
  Ev (fun k=>dA.f k bs (eK l) r c t) (jD (dL r c t l)):=by
 unfold dA.f
 refine Ev.bind (Fh (by omega) hr hc) ?_
 cases hm:t6 (eK l) (rX r c) with
 | false=>
  refine (Ev.neg Bool.false_ne_true (Ev.now _)).to ?_
  have hn:dL r c t l=none:=by
   unfold dL
   refine List.find?_eq_none.2 fun x hx hox=>?_
   obtain ⟨e1,e2,_⟩:=e8.1 hox
   have:=Fz hx
   rw [e1,e2,hm] at this
   exact Bool.false_ne_true this
  rw [hn]
  rfl
 | true=>
  refine Ev.pos rfl ?_
  have hne:∀ b ∈ bs,b≠[]:=fun b hb=>(hok b hb).2.1
  have hof:eT bs.flatten:=by rw [hfl];exact hs.2
  have hM:(bs.map je).length=bs.length:=List.length_map ..
  have hse:=BV bs (bs.map je) hM (fP r c t) (by omega) (fun i h=>by
   have:=Ep (hne _ (List.getElem_mem h)) (by have:=(hok _ (List.getElem_mem h)).2.2.1;omega) (fP r c t)
   rw [List.getElem_map]
   exact this) (wF hne hof) bs.length 0 bs.length (by omega) (by omega) (by omega) (fun j hj=>by omega) (fun j hj hl=>by omega)
  refine Ev.bind (show Ev (fun k=>bK.f k bs r c t ⟨#[]⟩ false) _ from hse) ?_
  have hfb:=tI r c t hne hof
  rw [hfl] at hfb
  have hpl:=qh (fP r c t) (bs.map je)
  rw [hM] at hpl
  generalize dQ (fP r c t) (bs.map je)=p at hfb hpl ⊢
  by_cases hp:p=bs.length
  ·
   rw [if_pos hp] at hfb
   rw [hfb]
   exact Ev.pos (show ((p:Nat):Int)=(bs.length:Int) by omega) (Ev.now _)
  ·
   rw [if_neg hp] at hfb
   rw [hfb]
   have hlt:p<bs.length:=by omega
   have hB:=hok _ (List.getElem_mem hlt)
   have hgd:bs.getD p []=bs[p]:=by rw [List.getD_eq_getElem?_getD,List.getElem?_eq_getElem hlt];rfl
   refine Ev.neg (show ¬ ((p:Nat):Int)=(bs.length:Int) by omega) (Ev.pos (show (0:Int)≤((p:Nat):Int)∧((p:Nat):Int)<(bs.length:Int) by omega) ?_)
   rw [show ((p:Nat):Int).toNat=p from Int.toNat_natCast p,hgd]
   exact nD r c t hB.1.2 (by have:=hB.2.2.1;omega)
def qI (last:Bool):List Cell→Int→Bool→Int→Int→Int × Int
 | [],_,_,lo,hi=>(lo,hi)
 | c :: r,n,first,lo,hi=>qI last r (n+iu c) false (if first=true then lo else mx lo (n+1)) (if r=[]∧last=false then mn hi (n+iu c) else hi)
def nL:List (List Cell)→Int→Int→Int × Int
 | [],lo,hi=>(lo,hi)
 | b :: bs,lo,hi=>nL bs (qI (decide (bs=[])) b 0 true lo hi).1 (qI (decide (bs=[])) b 0 true lo hi).2
def si (bs:List (List Cell)):Bool:=decide ((nL bs 1 4294967296).1≤(nL bs 1 4294967296).2)
def DU (last:Bool) (b:List Cell) (s:Int):Prop:=(∀ j,j<b.length→(gN (b.take j):Int)<s)∧(last=false→s≤(gN b:Int))
theorem Gl {a b s:Int}:mx a b≤s↔a≤s∧b≤s:=by unfold mx;split<;>omega
theorem Gr {a b s:Int}:s≤mn a b↔s≤a∧s≤b:=by unfold mn;split<;>omega
theorem Az (last:Bool) (s:Int):∀ (b:List Cell) (n:Int) (first:Bool) (lo hi:Int),((qI last b n first lo hi).1≤s∧s≤(qI last b n first lo hi).2)↔(lo≤s∧s≤hi∧(∀ j,j<b.length→(first=true→0<j)→n+(gN (b.take j):Int)<s)∧(b≠[]→last=false→s≤n+(gN b:Int)))
 | [],n,first,lo,hi=>by simp [qI]
 | c :: r,n,first,lo,hi=>by
  have hc:gN (c :: r)=iu c+gN r:=by simp [gN]
  rw [qI,Az last s r]
  have hhi:s≤(if r=[]∧last=false then mn hi (n+iu c) else hi)↔s≤hi∧(r=[]→last=false→s≤n+iu c):=by
   split
   ·
    rename_i h
    rw [Gr]
    exact ⟨fun h2=>⟨h2.1,fun _ _=>h2.2⟩,fun h2=>⟨h2.1,h2.2 h.1 h.2⟩⟩
   ·
    rename_i h
    exact ⟨fun h2=>⟨h2,fun h3 h4=>absurd ⟨h3,h4⟩ h⟩,fun h2=>h2.1⟩
  have hlo:(if first=true then lo else mx lo (n+1))≤s↔lo≤s∧(first=true∨n<s):=by
   split
   ·
    rename_i h
    exact ⟨fun h2=>⟨h2,.inl h⟩,fun h2=>h2.1⟩
   ·
    rename_i h
    rw [Gl]
    exact ⟨fun h2=>⟨h2.1,.inr (by omega)⟩,fun h2=>⟨h2.1,by rcases h2.2 with h3 | h3;exact absurd h3 h;omega⟩⟩
  rw [hhi,hlo]
  constructor
  ·
   rintro ⟨⟨l1,l2⟩,⟨u1,u2⟩,h3,h4⟩
   refine ⟨l1,u1,?_,?_⟩
   ·
    intro j hj hf
    cases j with
    | zero=>
     rw [List.take_zero,show gN []=0 from rfl]
     rcases l2 with l2 | l2
     ·
      exact absurd (hf l2) (by omega)
     ·
      simpa using l2
    | succ j=>
     have h5:=h3 j (by simpa using hj) (fun h=>by cases h)
     rw [List.take_succ_cons,show gN (c :: r.take j)=iu c+gN (r.take j) by simp [gN]]
     omega
   ·
    intro _ hl
    rw [hc]
    by_cases hr:r=[]
    ·
     have:=u2 hr hl
     subst hr
     simp [gN]
     omega
    ·
     have:=h4 hr hl
     omega
  ·
   rintro ⟨l1,u1,h3,h4⟩
   refine ⟨⟨l1,?_⟩,⟨u1,?_⟩,?_,?_⟩
   ·
    cases first with
    | true=>exact .inl rfl
    | false=>
     have:=h3 0 (by simp) (fun h=>by cases h)
     rw [List.take_zero,show gN []=0 from rfl] at this
     exact .inr (by simpa using this)
   ·
    intro hr hl
    have:=h4 (by simp) hl
    rw [hc] at this
    subst hr
    simp [gN] at this
    omega
   ·
    intro j hj _
    have h5:=h3 (j+1) (by simpa using hj) (fun _=>by omega)
    rw [List.take_succ_cons,show gN (c :: r.take j)=iu c+gN (r.take j) by simp [gN]] at h5
    omega
   ·
    intro hr hl
    have:=h4 (by simp) hl
    rw [hc] at this
    omega
def ul:List (List Cell)→Int→Prop
 | [],_=>True
 | b :: bs,s=>DU (decide (bs=[])) b s∧ul bs s
theorem tV (s:Int) (hs:0<s):∀ (bs:List (List Cell)) (lo hi:Int),(∀ b ∈ bs,b≠[])→(((nL bs lo hi).1≤s∧s≤(nL bs lo hi).2)↔(lo≤s∧s≤hi∧ul bs s))
 | [],lo,hi,_=>by simp [nL,ul]
 | b :: bs,lo,hi,h=>by
  have hb:=h b List.mem_cons_self
  rw [nL,tV s hs bs _ _ (fun x hx=>h x (List.mem_cons_of_mem _ hx))]
  have:=Az (decide (bs=[])) s b 0 true lo hi
  show _↔(lo≤s∧s≤hi∧DU (decide (bs=[])) b s∧ul bs s)
  unfold DU
  constructor
  ·
   rintro ⟨h1,h2,h3⟩
   obtain ⟨a1,a2,a3,a4⟩:=this.1 ⟨h1,h2⟩
   refine ⟨a1,a2,⟨fun j hj=>?_,fun hl=>by have:=a4 hb hl;omega⟩,h3⟩
   by_cases hj0:0<j
   ·
    have:=a3 j hj (fun _=>hj0)
    omega
   ·
    have:j=0:=by omega
    subst this
    rw [List.take_zero]
    simpa [gN] using hs
  ·
   rintro ⟨h1,h2,⟨h3,h4⟩,h5⟩
   obtain ⟨a1,a2⟩:=this.2 ⟨h1,h2,fun j hj _=>by have:=h3 j hj;omega,fun _ hl=>by have:=h4 hl;omega⟩
   exact ⟨a1,a2,h5⟩
theorem Ae:∀ (bs:List (List Cell)) (lo hi:Int),lo≤(nL bs lo hi).1
 | [],lo,_=>Int.le_refl _
 | b :: bs,lo,hi=>by
  rw [nL]
  have hin:∀ (b:List Cell) (last:Bool) (n:Int) (first:Bool) (lo hi:Int),lo≤(qI last b n first lo hi).1:=by
   intro b last
   induction b with
   | nil=>intro n first lo hi;exact Int.le_refl _
   | cons c r ih=>
    intro n first lo hi
    rw [qI]
    refine Int.le_trans ?_ (ih _ _ _ _)
    split
    ·
     exact Int.le_refl _
    ·
     unfold mx;split<;>omega
  exact Int.le_trans (hin b _ 0 true lo hi) (Ae bs _ _)
theorem C2 {bs:List (List Cell)} (h:∀ b ∈ bs,b≠[]):si bs=true↔∃ s:Int,1≤s∧s≤4294967296∧ul bs s:=by
 unfold si
 rw [decide_eq_true_iff]
 constructor
 ·
  intro hle
  have hlo:=Ae bs 1 4294967296
  obtain ⟨a1,a2,a3⟩:=(tV (nL bs 1 4294967296).1 (by omega) bs 1 4294967296 h).1 ⟨Int.le_refl _,hle⟩
  exact ⟨_,a1,a2,a3⟩
 ·
  rintro ⟨s,h1,h2,h3⟩
  obtain ⟨a1,a2⟩:=(tV s (by omega) bs 1 4294967296 h).2 ⟨h1,h2,h3⟩
  exact Int.le_trans a1 a2
theorem Cu {size:Nat}:∀ (bs:List (List Cell)),(∀ b ∈ bs,OkB size b)→(∀ (i:Nat) (h:i+1<bs.length),size≤gN (bs[i]'(by omega)))→ul bs size
 | [],_,_=>trivial
 | b :: bs,h1,h2=>by
  refine ⟨⟨fun j hj=>by have:=(h1 b List.mem_cons_self).2 j hj;omega,fun hl=>?_⟩,Cu bs (fun x hx=>h1 x (List.mem_cons_of_mem _ hx)) (fun i hi=>?_)⟩
  ·
   cases bs with
   | nil=>simp at hl
   | cons b2 bs=>
    have:=h2 0 (by simp)
    simp only [List.getElem_cons_zero] at this
    omega
  ·
   have:=h2 (i+1) (by simpa using hi)
   simpa using this
theorem E8 {size:Nat} (hs:0<size) (l:List Cell):ul (iH size l [] 0) size:=
 Cu _ (uH size hs l [] 0 rfl (fun k hk=>by
  have:k=0:=by simpa using hk
  subst this
  simpa [gN] using hs)) (fun i h=>ua size l [] 0 rfl i h)
theorem Dj {n:Nat} (h:n≤1000000000):wrap64 (n:Int)=(n:Int):=fZ (by omega) (by omega)
theorem AR {n m:Nat} (h:n+m≤1000000000):wrap64 ((n:Int)+(m:Int))=((n+m:Nat):Int):=by
 rw [←Int.natCast_add]
 exact Dj h
theorem Bx (bs:List (List Cell)) (i:Nat) (hi:i<bs.length) (hbl:bs.length≤1000) (l:List Cell) (hr:fW l) (hl:l.length≤450) (hl0:0<l.length) (r:Bool) (d:Nat):∀ (j n:Nat) (lo hi':Int),j≤l.length→l.length - j=d→n≤401*j→
  Ev (fun k=>aW.l0 k bs (qI (decide (i+1=bs.length)) (l.drop j) n (decide (j=0)) lo hi').1 (qI (decide (i+1=bs.length)) (l.drop j) n (decide (j=0)) lo hi').2 bs (bs.length:Int) (wrap64 ((i:Int)+1))) r→
  Ev (fun k=>aW.l1 k bs lo hi' (i:Int) l (n:Int) bs (bs.length:Int) (i:Int) l (l.length:Int) (j:Int)) r:=by
 induction d with
 | zero=>
  intro j n lo hi' hj hd hn hk
  rw [List.drop_eq_nil_of_le (by omega),qI] at hk
  have hnj:¬ (j:Int)<(l.length:Int):=by omega
  exact Ev.step (fun k=>by simp only [aW.l1];rw [if_neg hnj]) hk
 | succ d ih=>
  intro j n lo hi' hj hd hn hk
  have hlt:j<l.length:=by omega
  have q1:(j:Int)<(l.length:Int):=by omega
  have q2:(0:Int)≤(j:Int):=by omega
  have hc:=hr _ (List.getElem_mem hlt)
  have hcl:=zR hc
  have hput:=Ec hc
  have hrd:=gG l j hlt
  unfold mD at hrd
  have hlast:((j:Int)=(l.length:Int) - 1)↔l.drop (j+1)=[]:=by
   rw [List.drop_eq_nil_iff]
   omega
  have hib:((i:Int)<(bs.length:Int) - 1)↔¬ i+1=bs.length:=by omega
  have hj0:((j:Int) > 0)↔¬ j=0:=by omega
  have p1:(l.length:Int) - 1=((l.length - 1:Nat):Int):=by omega
  have p2:(bs.length:Int) - 1=((bs.length - 1:Nat):Int):=by omega
  have b1:l.length - 1≤1000000000:=by omega
  have b2:bs.length - 1≤1000000000:=by omega
  have b3:j+1≤1000000000:=by omega
  have b4:n+1≤1000000000:=by omega
  have b5:n+iu l[j]≤1000000000:=by omega
  have e6:((n+iu l[j]:Nat):Int)=(n:Int)+(iu l[j]:Int):=by omega
  have hnn:n+iu l[j]≤401*(j+1):=by omega
  have ihh:=fun lo hi'=>ih (j+1) (n+iu l[j]) lo hi' (by omega) (by omega) hnn
  have hz:decide (j+1=0)=false:=decide_eq_false (by omega)
  have e1:wrap64 ((l.length:Int) - 1)=(l.length:Int) - 1:=by rw [p1];exact Dj b1
  have e2:wrap64 ((bs.length:Int) - 1)=(bs.length:Int) - 1:=by rw [p2];exact Dj b2
  have e3:wrap64 ((j:Int)+1)=((j+1:Nat):Int):=AR (m:=1) b3
  have e4:wrap64 ((n:Int)+1)=(n:Int)+1:=AR (m:=1) b4
  have e5:wrap64 ((n:Int)+((jE l[j].f0 l[j].f1 l[j].f2 l[j].f3 l[j].f4).length:Int))=((n+iu l[j]:Nat):Int):=AR b5
  rw [List.drop_eq_getElem_cons hlt,qI] at hk
  rw [hz] at ihh
  clear hn hnn hd hj hcl ih
  -- the new bounds
  have hj2:∀ (c:Bool) (k:Nat),(c=true↔(l.drop (j+1)=[]∧decide (i+1=bs.length)=false))→
    aW.j2 (k+1) bs lo hi' (i:Int) l (n:Int) (j:Int) bs (bs.length:Int) (i:Int) l (l.length:Int) (j:Int) c l[j].f0 l[j].f1 l[j].f2 l[j].f3 l[j].f4 =
    aW.l1 k bs (if decide (j=0)=true then lo else mx lo ((n:Int)+1)) (if l.drop (j+1)=[]∧decide (i+1=bs.length)=false then mn hi' ((n:Int)+(iu l[j]:Int)) else hi') (i:Int) l ((n+iu l[j]:Nat):Int) bs (bs.length:Int) (i:Int) l (l.length:Int) ((j+1:Nat):Int):=by
   intro c k hcc
   simp only [aW.j2,hput,Option.bind_some]
   by_cases hj':j=0
   ·
    have hn0:¬ ((j:Int) > 0):=fun h=>(hj0.1 h) hj'
    rw [if_neg hn0,if_neg hn0,if_pos (decide_eq_true hj')]
    cases c with
    | true=>rw [if_pos rfl,if_pos (hcc.1 rfl)];rw [e5,e3,e6]
    | false=>rw [if_neg Bool.false_ne_true,if_neg (fun h=>Bool.false_ne_true (hcc.2 h))];rw [e5,e3]
   ·
    have hn0:((j:Int) > 0):=hj0.2 hj'
    rw [if_pos hn0,if_pos hn0,if_neg (fun h=>hj' (of_decide_eq_true h))]
    cases c with
    | true=>rw [if_pos rfl,if_pos (hcc.1 rfl)];rw [e5,e4,e3,e6]
    | false=>rw [if_neg Bool.false_ne_true,if_neg (fun h=>Bool.false_ne_true (hcc.2 h))];rw [e5,e4,e3]
  have hk2:=ihh _ _ hk
  by_cases hlst:(j:Int)=(l.length:Int) - 1
  ·
   refine Ev.step (fun k=>by simp only [aW.l1];rw [if_pos q1,if_pos q2,if_pos q1,e1,if_pos hlst,e2,hrd]) (Ev.step (fun k=>hj2 _ k ?_) hk2)
   rw [decide_eq_true_iff,hib,decide_eq_false_iff_not]
   exact ⟨fun h=>⟨hlast.1 hlst,h⟩,fun h=>h.2⟩
  ·
   refine Ev.step (fun k=>by simp only [aW.l1];rw [if_pos q1,if_pos q2,if_pos q1,e1,if_neg hlst,hrd]) (Ev.step (fun k=>hj2 _ k ?_) hk2)
   exact ⟨fun h=>absurd h Bool.false_ne_true,fun h=>absurd (hlast.2 h.1) hlst⟩
theorem AB (bs:List (List Cell)) (hbl:bs.length≤1000) (hok:∀ b ∈ bs,jj b) (d:Nat):∀ (i:Nat) (lo hi:Int),i≤bs.length→bs.length - i=d→Ev (fun k=>aW.l0 k bs lo hi bs (bs.length:Int) (i:Int)) (decide ((nL (bs.drop i) lo hi).1≤(nL (bs.drop i) lo hi).2)):=by
 induction d with
 | zero=>
  intro i lo hi h1 h2
  rw [List.drop_eq_nil_of_le (by omega)]
  exact Ev.step (f:=fun _=>some (decide (lo≤hi))) (fun k=>by simp only [aW.l0];rw [if_neg (by omega)]) (Ev.now _)
 | succ d ih=>
  intro i lo hi h1 h2
  have hlt:i<bs.length:=by omega
  have q1:(i:Int)<(bs.length:Int):=by omega
  have q2:(0:Int)≤(i:Int):=by omega
  have hB:=hok _ (List.getElem_mem hlt)
  have hrd:=vp bs i hlt
  have hb0:0<bs[i].length:=List.length_pos_iff.2 hB.2.1
  have ihh:=fun lo hi=>ih (i+1) lo hi (by omega) (by omega)
  have b3:i+1≤1000000000:=by omega
  have hdl:decide (bs.drop (i+1)=[])=decide (i+1=bs.length):=by
   congr 1
   rw [List.drop_eq_nil_iff]
   exact propext ⟨fun h=>by omega,fun h=>by omega⟩
  have e3:wrap64 ((i:Int)+1)=((i+1:Nat):Int):=AR (m:=1) b3
  rw [List.drop_eq_getElem_cons hlt,nL,hdl]
  refine Ev.step (fun k=>by simp only [aW.l0];rw [if_pos q1,if_pos q2,if_pos q1,hrd]) ?_
  refine Bx bs i hlt hbl bs[i] hB.1.1 hB.2.2.1 hb0 _ bs[i].length 0 0 lo hi (Nat.zero_le _) rfl (Nat.zero_le _) ?_
  rw [e3,List.drop_zero]
  exact ihh _ _
theorem Bl {bs:List (List Cell)} (hbl:bs.length≤1000) (hok:∀ b ∈ bs,jj b):Ev (fun k=>aW.f k bs) (si bs):=by
 unfold aW.f si
 exact AB bs hbl hok bs.length 0 1 4294967296 (Nat.zero_le _) rfl
theorem DN {b:List Int} (hb:Bytes b) (h12:12≤b.length) (s:List Int):b.take 12=b.take 4++(lm (b.take 4)++lm s)↔dS (b.drop 4)=fM (b.take 4)∧dS (b.drop 8)=fM s:=by
 have e12:b.take 12=b.take 4++((b.drop 4).take 4++(b.drop 8).take 4):=by
  rw [show 12=4+(4+4) from rfl,List.take_add,List.take_add,List.drop_drop]
 have n4:=rp (hb.drop 4) (by rw [List.length_drop];omega)
 have n8:=rp (hb.drop 8) (by rw [List.length_drop];omega)
 obtain ⟨a0,a1⟩:=kz (b.take 4)
 obtain ⟨b0,b1⟩:=kz s
 obtain ⟨c0,c1⟩:=iU (hb.drop 4) (by rw [List.length_drop];omega)
 obtain ⟨d0,d1⟩:=iU (hb.drop 8) (by rw [List.length_drop];omega)
 rw [e12,List.append_cancel_left_eq,← n4,← n8]
 constructor
 ·
  intro h
  have h1:=List.append_inj h (by rw [jY,iC c0 c1])
  have v1:=congrArg dS (show num (dS (b.drop 4))++[]=num (fM (b.take 4))++[] by have e:=h1.1;unfold lm at e;rw [e])
  have v2:=congrArg dS (show num (dS (b.drop 8))++[]=num (fM s)++[] by have e:=h1.2;unfold lm at e;rw [e])
  rw [jX c0 c1,jX a0 a1] at v1
  rw [jX d0 d1,jX b0 b1] at v2
  exact ⟨v1,v2⟩
 ·
  rintro ⟨h1,h2⟩
  rw [h1,h2]
  rfl
theorem yN {b:List Int} (hb:Bytes b) (hl:b.length≤140737488355328):Ev (fun k=>bW.f k b) (j9 b):=by
 have jt:∀ n l,Ev (fun k=>bW.j0 k n l true) ([],[],false):=fun n l=>Ev.step (fun k=>by simp only [bW.j0,if_true]) (Ev.now _)
 unfold bW.f
 by_cases h:b.length<12
 ·
  rw [tb (fun ho=>by have:=ho.1;omega)]
  exact Ev.pos (by omega) (Ev.now _)
 refine Ev.neg (by omega) (Ev.bind (ke hb hl) (Ev.pos (by omega) (Ev.bind (Ev.eq (yC (by rw [List.length_drop];omega))) ?_)))
 obtain ⟨g0,g1⟩:=iU hb (by omega)
 have hcn:iX b=(dS b,b.drop 4,true):=by unfold iX;rw [if_neg (by omega)]
 rw [hcn]
 simp only
 have hd:((b.drop 12).length:Int)=(b.length:Int) - 12:=by rw [List.length_drop];omega
 by_cases h1:dS b > 65535
 ·
  rw [tb (fun ho=>by have:=ho.2.1;omega)]
  exact Ev.pos h1 (jt _ _)
 refine Ev.neg h1 ?_
 by_cases h2:dS b > ((b.drop 12).length:Int)
 ·
  rw [tb (fun ho=>by have:=ho.2.2.1;omega)]
  exact Ev.pos h2 (jt _ _)
 refine Ev.neg h2 (Ev.pos (by omega) (Ev.bind (Ev.now _) (Ev.bind (mT (hb.take 4) (by rw [List.length_take];omega)) (Ev.pos g0 (Ev.pos (by omega) (Ev.bind (mT ((hb.drop 12).take _) (by rw [List.length_take,List.length_drop];omega)) ?_))))))
 have s1:=jY (b.take 4)
 have s2:=jY ((b.drop 12).take (dS b).toNat)
 refine Ev.bind (Ev.eq (nW ?_)) (Ev.bind (yx (by rw [List.length_take];omega)) ?_)
 ·
  simp only [fG,List.map_cons,List.map_nil,List.sum_cons,List.sum_nil,List.length_take]
  omega
 have hc:[b.take 4,lm (b.take 4),lm ((b.drop 12).take (dS b).toNat)].flatten=b.take 4++(lm (b.take 4)++lm ((b.drop 12).take (dS b).toNat)):=by simp
 rw [hc]
 have hi:=DN hb (by omega) ((b.drop 12).take (dS b).toNat)
 by_cases ho:okF b
 ·
  have h45:dS (b.drop 4)=fM (b.take 4)∧dS (b.drop 8)=fM ((b.drop 12).take (dS b).toNat):=⟨ho.2.2.2.1,ho.2.2.2.2⟩
  rw [decide_eq_true (hi.2 h45)]
  unfold j9
  rw [if_pos ho]
  refine Ev.step (fun k=>by simp only [bW.j0,Bool.not_true,Bool.false_eq_true,if_false];rfl) (Ev.pos g0 (Ev.pos (by omega) (Ev.now _)))
 ·
  have h45:¬ (dS (b.drop 4)=fM (b.take 4)∧dS (b.drop 8)=fM ((b.drop 12).take (dS b).toNat)):=fun hh=>ho ⟨by omega,by omega,by omega,hh.1,hh.2⟩
  rw [decide_eq_false (fun e=>h45 (hi.1 e)),tb ho]
  exact jt _ _
def rZ (x:FU):Cell:=⟨x.1,x.2.1,x.2.2.1,x.2.2.2.1,x.2.2.2.2.1⟩
def mN:Nat→List Int→List Cell→List Cell × Bool
 | 0,b,out=>(out,decide (b.length=0))
 | n+1,b,out=>if (iK b).2.2.2.2.2.2=true then mN n (iK b).2.2.2.2.2.1 (out++[rZ (iK b)]) else (out++[rZ (iK b)],false)
theorem uE {b:List Int} (hb:Bytes b):Bytes (iK b).2.2.2.2.2.1∧(iK b).2.2.2.2.2.1.length≤b.length:=by
 have b1:=jb hb
 have l1:=jV (b:=b)
 have b2:=jb b1
 have l2:=jV (b:=(fV b).2.1)
 obtain ⟨b3,l3⟩:=rR b2
 obtain ⟨b4,l4⟩:=rL b3
 have b5:=jb b4
 have l5:=jV (b:=(kU (iX (fV (fV b).2.1).2.1).2.1).2.1)
 unfold iK
 dsimp only
 split
 ·
  exact ⟨b5,Nat.le_trans l5 (Nat.le_trans l4 (Nat.le_trans l3 (Nat.le_trans l2 l1)))⟩
 ·
  exact ⟨Bytes.nil,by simp⟩
theorem Dp (n:Nat):∀ (b:List Int) (out:List Cell),Bytes b→b.length≤140737488355328→n≤4294967295→out.length+n≤4294967295→Ev (fun k=>cT.l0 k b (n:Int) true out) (mN n b out):=by
 induction n with
 | zero=>
  intro b out hb hl hn ho
  refine Ev.step (f:=fun _=>some (out,((b.length:Int) == 0))) (fun k=>?_) ((Ev.now _).to ?_)
  ·
   simp only [cT.l0,if_true]
   rw [if_neg (by omega)]
  ·
   unfold mN
   congr 1
   rw [Bool.eq_iff_iff,beq_iff_eq,decide_eq_true_iff]
   omega
 | succ n ih=>
  intro b out hb hl hn ho
  have hr:=uE hb
  refine Ev.step (fun k=>by simp only [cT.l0,if_true];rw [if_pos (by omega)]) ?_
  refine Ev.bind (zI hb hl) ?_
  refine Ev.pos (by omega) ?_
  rw [show wrap64 (((n+1:Nat):Int) - 1)=(n:Int) by rw [fZ (by omega) (by omega)];omega]
  unfold mN
  cases hc:(iK b).2.2.2.2.2.2 with
  | true=>
   rw [if_pos rfl]
   exact ih _ _ hr.1 (Nat.le_trans hr.2 hl) (by omega) (by rw [List.length_append,List.length_singleton];omega)
  | false=>
   rw [if_neg Bool.false_ne_true]
   exact Ev.step (f:=fun _=>some (out++[rZ (iK b)],false)) (fun k=>by simp only [cT.l0,Bool.false_eq_true,if_false];rfl) (Ev.now _)
def j7 (b:List Int):List Cell × Bool:=if b.length<4 then ([],false) else mN (dS b).toNat (b.drop 4) []
theorem DS {b:List Int} (hb:Bytes b) (hl:b.length≤140737488355328):Ev (fun k=>cT.f k b) (j7 b):=by
 unfold cT.f j7
 refine Ev.bind (ke hb hl) ?_
 unfold iX
 by_cases h:b.length<4
 ·
  rw [if_pos h,if_pos h]
  exact Ev.step (f:=fun _=>some ([],false)) (fun k=>by simp only [cT.l0,Bool.false_eq_true,if_false]) (Ev.now _)
 ·
  rw [if_neg h,if_neg h]
  obtain ⟨g0,g1⟩:=iU hb (by omega)
  have:=Dp (dS b).toNat (b.drop 4) [] (hb.drop 4) (by rw [List.length_drop];omega) (by omega) (by simp;omega)
  rw [show (((dS b).toNat:Nat):Int)=dS b by omega] at this
  exact this
def BH (b:List Int):List Cell × List Int × Int:=if (j9 b).2.2=true∧(j7 (j9 b).1).2=true∧(j7 (j9 b).1).1.length≠0∧jd (j7 (j9 b).1).1=true then ((j7 (j9 b).1).1,(j9 b).2.1,0) else ([],[],2)
theorem tH:∀ (l:List Cell) (r:List Int) (out:List Cell),fW l→mN l.length ((l.map jr).flatten++r) out=(out++l,decide (r.length=0))
 | [],r,out,_=>by simp [mN]
 | c :: l,r,out,h=>by
  have hc:=h c List.mem_cons_self
  have e:iK (jr c++((l.map jr).flatten++r))=(c.f0,c.f1,c.f2,c.f3,c.f4,(l.map jr).flatten++r,true):=xh hc _
  rw [List.map_cons,List.flatten_cons,List.append_assoc,List.length_cons]
  unfold mN
  rw [e,if_pos rfl,tH l r _ (fun x hx=>h x (List.mem_cons_of_mem _ hx))]
  simp [rZ]
theorem zu {l:List Cell} (h:fW l) (hl:l.length≤450):j7 (iA l)=(l,true):=by
 have hn:(num (l.length:Int)).length=4:=iC (by omega) (by omega)
 have hc:=ux (n:=(l.length:Int)) (by omega) (by omega) ((l.map jr).flatten)
 unfold iX at hc
 have h4:¬ (num (l.length:Int)++(l.map jr).flatten).length<4:=by rw [List.length_append];omega
 rw [if_neg h4] at hc
 simp only [Prod.mk.injEq,and_true] at hc
 unfold j7 iA
 rw [if_neg h4,hc.1,hc.2,Int.toNat_natCast]
 have:=tH l [] [] h
 rw [List.append_nil] at this
 rw [this]
 simp
theorem Cd {l:List Cell} (h:iG l) (h0:l.length≠0) (hl:l.length≤450) (hb:(iA l).length≤60154) (r:List Int):BH (frame (iA l)++r)=(l,r,0):=by
 have hc:=Bw (r:=iA l) (by omega) r
 unfold BH
 rw [hc]
 have hs:=kS.2 h
 simp only [zu h.1 hl]
 rw [if_pos ⟨trivial,trivial,h0,hs⟩]
theorem yg (n:Nat):∀ (b:List Int) (out:List Cell),(mN n b out).1.length≤out.length+n
 :=by
 induction n with
 | zero=>intro b out;unfold mN;simp
 | succ n ih=>
  intro b out
  unfold mN
  split
  ·
   have:=ih (iK b).2.2.2.2.2.1 (out++[rZ (iK b)])
   rw [List.length_append,List.length_singleton] at this
   omega
  ·
   simp only [List.length_append,List.length_singleton];omega
theorem wQ {b:List Int} (hb:Bytes b):(j7 b).1.length≤4294967295:=by
 unfold j7
 by_cases h:b.length<4
 ·
  rw [if_pos h];simp
 ·
  rw [if_neg h]
  obtain ⟨g0,g1⟩:=iU hb (by omega)
  have:=yg (dS b).toNat (b.drop 4) []
  simp only [List.length_nil] at this
  omega
theorem vz {b:List Int} (hb:Bytes b):Bytes (j9 b).1∧(j9 b).1.length≤b.length∧(j9 b).2.1.length≤b.length:=by
 unfold j9
 split
 ·
  refine ⟨(hb.drop 12).take _,?_,?_⟩
  ·
   simp only [List.length_take,List.length_drop];omega
  ·
   simp only [List.length_drop];omega
 ·
  exact ⟨Bytes.nil,by simp,by simp⟩
theorem zl {b:List Int} (hb:Bytes b) (hl:b.length≤140737488355328):Ev (fun k=>dI.f k b) (BH b):=by
 obtain ⟨hrb,hrl,hsl⟩:=vz hb
 have hcl:=wQ hrb
 have jt:∀ (x:List Int) (l:List Cell),Ev (fun k=>dI.j0 k x l true) ([],[],2):=fun x l=>Ev.step (f:=fun _=>some ([],[],2)) (fun k=>by simp only [dI.j0,if_true]) (Ev.now _)
 have jf:∀ (x:List Int) (l:List Cell),x.length≤140737488355328→Ev (fun k=>dI.j0 k x l false) (l,x,0):=fun x l h=>by
  refine Ev.step (f:=fun _=>some (l,x,0)) (fun k=>?_) (Ev.now _)
  simp only [dI.j0,Bool.false_eq_true,if_false]
  unfold dD.f
  rw [if_pos (by omega)]
  rfl
 unfold dI.f BH
 refine Ev.bind (yN hb hl) ?_
 cases hc:(j9 b).2.2 with
 | false=>
  rw [if_neg (by simp)]
  exact Ev.neg Bool.false_ne_true (Ev.now _)
 | true=>
  refine Ev.pos rfl (Ev.bind (DS hrb (by omega)) ?_)
  cases h2:(j7 (j9 b).1).2 with
  | false=>
   rw [if_neg (by simp)]
   exact Ev.neg Bool.false_ne_true (jt _ _)
  | true=>
   refine Ev.pos rfl ?_
   by_cases h0:(j7 (j9 b).1).1.length=0
   ·
    rw [if_neg (by simp [h0])]
    exact Ev.pos (by omega) (jt _ _)
   ·
    refine Ev.neg (by omega) ?_
    refine Ev.bind (lT (by omega)) ?_
    cases hs:jd (j7 (j9 b).1).1 with
    | false=>
     rw [if_neg (by simp)]
     exact jt _ _
    | true=>
     rw [if_pos ⟨rfl,rfl,h0,rfl⟩]
     exact jf _ _ (by omega)
def qa (b:List Int):Int:=(b.length:Int) - 4 - dS (b.drop (b.length - 4))
theorem Dw {b:List Int} (hb:Bytes b) (hl:b.length≤100000000) (h4:4≤b.length):Ev (fun k=>bq.f k (b.drop (b.length - 4))) (dS (b.drop (b.length - 4)),(b.drop (b.length - 4)).drop 4,true):=by
 have hd:(b.drop (b.length - 4)).length=4:=by rw [List.length_drop];omega
 have hc:=ke (b:=b.drop (b.length - 4)) (fun x hx=>hb x (List.mem_of_mem_drop hx)) (by omega)
 unfold iX at hc
 rwa [if_neg (by omega)] at hc
theorem FR {b:List Int} (hb:Bytes b) (hl:b.length≤100000000) (h4:4≤b.length):wrap64 (wrap64 ((b.length:Int) - 4) - dS (b.drop (b.length - 4)))=qa b:=by
 have hd:(b.drop (b.length - 4)).length=4:=by rw [List.length_drop];omega
 obtain ⟨v0,v1⟩:=iU (b:=b.drop (b.length - 4)) (fun x hx=>hb x (List.mem_of_mem_drop hx)) (by omega)
 unfold qa
 generalize dS (b.drop (b.length - 4))=v at v0 v1 ⊢
 rw [fZ (x:=(b.length:Int) - 4) (by omega) (by omega)]
 exact fZ (by omega) (by omega)
theorem Eo {b:List Int} (hb:Bytes b) (h4:4≤b.length):qa b≤(b.length:Int) - 4:=by
 have hd:(b.drop (b.length - 4)).length=4:=by rw [List.length_drop];omega
 obtain ⟨v0,v1⟩:=iU (b:=b.drop (b.length - 4)) (fun x hx=>hb x (List.mem_of_mem_drop hx)) (by omega)
 unfold qa
 omega
theorem Cj {b:List Int} {l:List Cell} {bs:List (List Cell)} {o:Option (List Cell × List (List Cell) × List Int)} (hb:Bytes b) (hl:b.length≤100000000) (h4:4≤b.length) (he:0≤qa b) (hs:Ev (fun k=>aJ.lp k (b.take (qa b).toNat) [] []) (some (l,bs))) (ht:Ev (fun k=>aJ.tail k b l bs) o):Ev (fun k=>aJ.f k b) o:=by
 have hw:=FR hb hl h4
 have hn:¬ (b.length:Int)<4:=by omega
 have hle:=Eo hb h4
 have h1:¬ qa b<0:=by omega
 have h2:qa b≤(b.length:Int):=by omega
 unfold aJ.f
 refine Ev.neg hn (Ev.bind (Dw hb hl h4) ?_)
 simp only [hw]
 exact Ev.neg h1 (Ev.pos h2 (Ev.bind hs ht))
theorem tf {l:List Cell} (hl:l.length≤100000):Ev (fun k=>aQ.f k l) (jd l):=lT (by omega)
theorem ET {b:List Int} {l:List Cell} {bs:List (List Cell)} (hr:fW l) (hl:l.length≤900) (hok:∀ b ∈ bs,jj b) (hbl:bs.length≤421) :
  Ev (fun k=>aJ.tail k b l bs) (if jd l=true∧si bs=true∧iE bs (eK l)=b then some (l,bs,eK l) else none):=by
 unfold aJ.tail
 have hfl:=lV l
 have hfs:(eK l).length≤1000:=by omega
 have hb1:=xG (fl:=eK l) hok hbl hfs
 have htl:(iE bs (eK l)).length≤140737488355328:=by
  have h1:=sV bs hok
  have h2:=tN hok hbl hfs
  have h3:=jv (r:=iW bs (eK l)) (by omega)
  have h4:=fF (frame (iW bs (eK l))).length
  unfold iE
  simp only [List.length_append]
  omega
 refine Ev.bind (pO hr (by omega)) (Ev.bind (tf (by omega)) ?_)
 cases h1:jd l with
 | false=>
  rw [if_neg (fun h=>Bool.false_ne_true h.1)]
  exact Ev.neg Bool.false_ne_true (Ev.now _)
 | true=>
  refine Ev.pos rfl (Ev.bind (Bl (by omega) hok) ?_)
  cases h2:si bs with
  | false=>
   rw [if_neg (fun h=>Bool.false_ne_true h.2.1)]
   exact Ev.neg Bool.false_ne_true (Ev.now _)
  | true=>
   refine Ev.pos rfl (Ev.bind hb1 (Ev.pos rfl (Ev.bind (yx htl) ?_)))
   by_cases h3:iE bs (eK l)=b
   ·
    exact (Ev.pos (decide_eq_true h3) (Ev.now _)).to (if_pos ⟨rfl,rfl,h3⟩).symm
   ·
    exact (Ev.neg (fun h=>h3 (of_decide_eq_true h)) (Ev.now _)).to (if_neg (fun h=>h3 h.2.2)).symm
theorem wM {r:Option (List Cell × List (List Cell))} {x:List Int} (hx:Bytes x):∀ (bs:List (List Cell)) (l0:List Cell) (bs0:List (List Cell)),(∀ b ∈ bs,jj b)→(jH bs).length+x.length≤100000000→l0.length+450*bs.length≤100000000→bs0.length+bs.length≤100000000→
  Ev (fun k=>aJ.lp k x (l0++bs.flatten) (bs0++bs)) r→Ev (fun k=>aJ.lp k (jH bs++x) l0 bs0) r
 | [],l0,bs0,_,_,_,_,hk=>by
  rw [List.flatten_nil,List.append_nil,List.append_nil] at hk
  exact hk
 | b :: bs,l0,bs0,hok,hl,h1,h2,hk=>by
  have hB:=hok b List.mem_cons_self
  have hfr:=jv (r:=iA b) (by have:=Ao hB;omega)
  have hb0:b.length≠0:=fun he=>hB.2.1 (List.eq_nil_of_length_eq_zero he)
  have hbb:=hB.2.2.1
  rw [nX,List.length_append] at hl
  simp only [List.length_cons] at h1 h2
  have ih:=wM hx bs (l0++b) (bs0++[b]) (fun x hx=>hok x (List.mem_cons_of_mem _ hx)) (by omega) (by rw [List.length_append];omega) (by simp only [List.length_append,List.length_cons,List.length_nil];omega) (by
   rw [List.flatten_cons] at hk
   simp only [List.append_assoc,List.singleton_append]
   exact hk)
  rw [nX,List.append_assoc]
  have hg:=zl (b:=frame (iA b)++(jH bs++x)) ((pX (tJ b)).append ((ru bs).append hx)) (by simp only [List.length_append];omega)
  rw [Cd hB.1 hb0 hbb hB.2.2.2] at hg
  have hne:¬ ((frame (iA b)++(jH bs++x)).length:Int)=0:=by rw [List.length_append];omega
  have hlim:(l0.length+b.length)*64≤140737488355328∧(bs0.length+1)*24≤140737488355328:=by omega
  refine Ev.step (fun k=>by simp only [aJ.lp];rfl) ?_
  exact Ev.neg hne (Ev.bind hg (Ev.pos rfl (Ev.pos hlim ih)))
theorem E4 (l:List Cell) (bs:List (List Cell)):Ev (fun k=>aJ.lp k [] l bs) (some (l,bs)):=by
 refine Ev.step (f:=fun _=>some (some (l,bs))) (fun k=>?_) (Ev.now _)
 simp only [aJ.lp,List.length_nil]
 rfl
theorem wJ {bs:List (List Cell)} {fl:List Int} (hok:∀ b ∈ bs,jj b) (hbl:bs.length≤421) (hf:fl.length≤1000):(frame (iW bs fl)).length≤63812∧(num (frame (iW bs fl)).length).length=4:=by
 have h2:=tN hok hbl hf
 have h3:=jv (r:=iW bs fl) (by omega)
 exact ⟨by omega,iC (by omega) (by omega)⟩
theorem rS {bs:List (List Cell)} {fl:List Int} (hok:∀ b ∈ bs,jj b) (hbl:bs.length≤421) (hf:fl.length≤1000):(iE bs fl).length=(jH bs).length+(frame (iW bs fl)).length+4∧(iE bs fl).length≤100000000:=by
 obtain ⟨h1,h2⟩:=wJ hok hbl hf
 have h3:=sV bs hok
 unfold iE
 simp only [List.length_append]
 omega
theorem Bd {bs:List (List Cell)} {fl:List Int} (hok:∀ b ∈ bs,jj b) (hbl:bs.length≤421) (hf:fl.length≤1000):qa (iE bs fl)=((jH bs).length:Int):=by
 obtain ⟨h1,h2⟩:=wJ hok hbl hf
 obtain ⟨h3,h4⟩:=rS hok hbl hf
 have hd:(iE bs fl).drop ((iE bs fl).length - 4)=num (frame (iW bs fl)).length:=by
  rw [h3]
  unfold iE
  rw [←List.append_assoc,show (jH bs).length+(frame (iW bs fl)).length+4 - 4=(jH bs++frame (iW bs fl)).length by rw [List.length_append];omega,List.drop_left]
 unfold qa
 rw [hd,h3,show num ((frame (iW bs fl)).length:Int)=num ((frame (iW bs fl)).length:Int)++[] by rw [List.append_nil],jX (by omega) (by omega)]
 omega
theorem AQ {bs:List (List Cell)} (hok:∀ b ∈ bs,jj b) (hbl:bs.length≤421) (hs:iG bs.flatten) (hl:bs.flatten.length≤900) (hc:si bs=true) :
  Ev (fun k=>aJ.f k (iE bs (eK bs.flatten))) (some (bs.flatten,bs,eK bs.flatten)):=by
 have hfl:=lV bs.flatten
 have hfs:(eK bs.flatten).length≤1000:=by omega
 obtain ⟨h3,h4⟩:=rS hok hbl hfs
 have he:=Bd hok hbl hfs
 have hby:=yh bs (eK bs.flatten)
 refine Cj hby h4 (by omega) (by rw [he];omega) ?_ ((ET hs.1 hl hok hbl).to (if_pos ⟨kS.2 hs,hc,rfl⟩))
 rw [he,Int.toNat_natCast,show (iE bs (eK bs.flatten)).take (jH bs).length=jH bs from by unfold iE;rw [List.take_left]]
 have:=wM (r:=some (bs.flatten,bs)) Bytes.nil bs [] [] hok (by simp only [List.length_nil];omega) (by simp only [List.length_nil];omega) (by simp only [List.length_nil];omega) (E4 _ _)
 rwa [List.append_nil] at this
theorem Cw {W:Nat} {l:List Cell} (hs:iG l) (hl:l.length≤420) (hw:∀ c ∈ l,(jr c).length≤W) (hW:W*l.length≤60150) {size:Nat} (h0:0<size) (h1:size≤4294967296):Ev (fun k=>aJ.f k (iE (iH size l [] 0) (eK l))) (some (l,iH size l [] 0,eK l)):=by
 have hfl:(iH size l [] 0).flatten=l:=by rw [pu,List.nil_append]
 have hg:=ni size l [] 0
 have hok:=tO hs hl hw hW h0
 have hc:si (iH size l [] 0)=true:=(C2 (fun b hb=>(hok b hb).2.1)).2 ⟨(size:Int),by omega,by omega,E8 h0 l⟩
 have:=AQ hok (by omega) (by rw [hfl];exact hs) (by rw [hfl];omega) hc
 rwa [hfl] at this
theorem oW:∀ {r r':List Cell},eT r→eT r'→(∀ c,c ∈ r↔c ∈ r')→r=r'
 | [],[],_,_,_=>rfl
 | [],b :: r',_,_,h=>by have:=(h b).2 List.mem_cons_self;cases this
 | a :: r,[],_,_,h=>by have:=(h a).1 List.mem_cons_self;cases this
 | a :: r,b :: r',h1,h2,h=>by
  obtain ⟨ha,h1'⟩:=List.pairwise_cons.1 h1
  obtain ⟨hb,h2'⟩:=List.pairwise_cons.1 h2
  have e:a=b:=by
   rcases List.mem_cons.1 ((h a).1 List.mem_cons_self) with e | h3
   ·
    exact e
   ·
    rcases List.mem_cons.1 ((h b).2 List.mem_cons_self) with e | h4
    ·
     exact e.symm
    ·
     have:=ha b h4
     have:=hb a h3
     have:=mM a b
     omega
  subst e
  rw [oW h1' h2' (fun c=>?_)]
  constructor
  ·
   intro hc
   rcases List.mem_cons.1 ((h c).1 (List.mem_cons_of_mem _ hc)) with rfl | h3
   ·
    have:=ha c hc
    have:=oT c
    omega
   ·
    exact h3
  ·
   intro hc
   rcases List.mem_cons.1 ((h c).2 (List.mem_cons_of_mem _ hc)) with rfl | h3
   ·
    have:=hb c hc
    have:=oT c
    omega
   ·
    exact h3
theorem vD {l:List Cell} (h:eT l) {a b:Cell} (ha:a ∈ l) (hb:b ∈ l) (he:cc a b=0):a=b:=by
 obtain ⟨i,hi,rfl⟩:=List.getElem_of_mem ha
 obtain ⟨j,hj,rfl⟩:=List.getElem_of_mem hb
 rcases Nat.lt_trichotomy i j with hlt | rfl | hlt
 ·
  have:=List.pairwise_iff_getElem.1 h i j hi hj hlt
  omega
 ·
  rfl
 ·
  have:=List.pairwise_iff_getElem.1 h j i hj hi hlt
  have:=mM l[j] l[i]
  omega
theorem hO:∀ (l:List Cell) {o:List Cell},eT o→eT (l.foldl (fun o c=>ins c o) o)
 | [],_,h=>h
 | _ :: l,_,h=>hO l (nG h)
theorem p_ {a c:Cell} {o:List Cell} (h:eT o):c ∈ ins a o↔c=a∨(c ∈ o∧cc a c≠0):=by
 constructor
 ·
  intro hc
  by_cases e:c=a
  ·
   exact .inl e
  ·
   rcases o3 hc with e' | ho
   ·
    exact absurd e' e
   ·
    exact .inr ⟨ho,fun h0=>e (vD (nG (c:=a) h) (o4 a o) hc h0).symm⟩
 ·
  rintro (rfl | ⟨ho,h0⟩)
  ·
   exact o4 c o
  ·
   exact qN (fun h=>h0 (Co h)) ho
theorem gX:∀ {l o:List Cell} {c:Cell},eT l→eT o→(c ∈ l.foldl (fun o c=>ins c o) o↔c ∈ l∨(c ∈ o∧∀ d ∈ l,cc d c≠0))
 | [],_,_,_,_=>by simp
 | a :: l,o,c,h,ho=>by
  obtain ⟨h1,h2⟩:=List.pairwise_cons.1 h
  rw [List.foldl_cons,gX h2 (nG ho),p_ ho]
  constructor
  ·
   rintro (hc | ⟨rfl | ⟨hc,h0⟩,h3⟩)
   ·
    exact .inl (List.mem_cons_of_mem _ hc)
   ·
    exact .inl List.mem_cons_self
   ·
    refine .inr ⟨hc,fun d hd=>?_⟩
    rcases List.mem_cons.1 hd with rfl | hd
    ·
     exact h0
    ·
     exact h3 d hd
  ·
   rintro (hc | ⟨hc,h3⟩)
   ·
    rcases List.mem_cons.1 hc with rfl | hc
    ·
     refine .inr ⟨.inl rfl,fun d hd=>?_⟩
     have:=h1 d hd
     have:=mM c d
     omega
    ·
     exact .inl hc
   ·
    exact .inr ⟨.inr ⟨hc,h3 a List.mem_cons_self⟩,fun d hd=>h3 d (List.mem_cons_of_mem _ hd)⟩
def w8 (c:Cell):Int:=(jE c.f0 c.f1 c.f2 c.f3 c.f4).length
def fU (l:List Cell):Int:=(l.map w8).sum
theorem qP {c:Cell} (h:fT c=true):gR.f c.f0 c.f1 c.f2 c.f3 c.f4=some (w8 c):=by
 obtain ⟨_,h1,_,h2,_,_,h3,_⟩:=fo.1 h
 unfold gR.f
 rw [nO c.f2 c.f4 (by omega) (by omega) (by omega)]
 rfl
theorem Bh {c:Cell} (h:fT c=true):0≤w8 c∧w8 c≤401:=by
 obtain ⟨_,h1,_,h2,_,_,h3,_⟩:=fo.1 h
 have:=lq c.f0 c.f1 c.f2 c.f3 c.f4
 unfold w8
 omega
theorem j8 (l m:List Cell):fU (l++m)=fU l+fU m:=by simp [fU]
theorem mU (c:Cell) (l:List Cell):fU (c :: l)=w8 c+fU l:=by simp [fU]
theorem zm:∀ {l:List Cell},fW l→0≤fU l∧fU l≤401*l.length
 | [],_=>by simp [fU]
 | c :: l,h=>by
  have h1:=Bh (h c List.mem_cons_self)
  have h2:=zm (l:=l) (fun x hx=>h x (List.mem_cons_of_mem _ hx))
  rw [mU]
  simp only [List.length_cons]
  omega
theorem tw (t:Cell):∀ (l:List Cell) (j:Nat),j<dQ t l→∀ hl:j<l.length,cc l[j] t = -1
 | [],j,h,_=>by simp [dQ] at h
 | x :: l,j,h,hl=>by
  unfold dQ at h
  split at h
  ·
   rename_i hx
   cases j with
   | zero=>exact hx
   | succ j=>exact tw t l j (by omega) (by simpa using hl)
  ·
   omega
theorem zZ (t:Cell):∀ (l:List Cell) (h:dQ t l<l.length),¬ cc l[dQ t l] t = -1
 | [],h=>by simp at h
 | x :: l,h=>by
  by_cases hx:cc x t = -1
  ·
   have e:dQ t (x :: l)=dQ t l+1:=by simp [dQ,hx]
   simp only [e,List.getElem_cons_succ]
   exact zZ t l (by rw [e] at h;simpa using h)
  ·
   have e:dQ t (x :: l)=0:=by simp [dQ,hx]
   simp only [e,List.getElem_cons_zero]
   exact hx
theorem EC (c:Cell) (l:List Cell):ins c l=l.take (dQ c l)++c :: l.drop (if h:dQ c l<l.length then (if cc l[dQ c l] c=0 then dQ c l+1 else dQ c l) else dQ c l):=
 wg c l (dQ c l) (qh c l) (tw c l) (zZ c l)
theorem AW {xs:List Cell} {n:Int} (c:Cell) (ho:iG xs) (hn:n=fU xs) (hl:xs.length≤2199023255500) :
  Ev (fun k=>gW.f k xs n c.f0 c.f1 c.f2 c.f3 c.f4) (if fT c=true then (ins c xs,fU (ins c xs),true) else (xs,n,false)):=by
 unfold gW.f
 rw [kM]
 cases hr:fT c with
 | false=>
  rw [if_neg Bool.false_ne_true]
  unfold fT at hr
  simp only [hr,Option.bind_some]
  exact Ev.neg Bool.false_ne_true (Ev.now _)
 | true=>
  have hr':=hr
  unfold fT at hr'
  rw [if_pos rfl]
  simp only [hr',Option.bind_some]
  refine Ev.pos (by first | trivial | rfl) (Ev.bind (vE c ho.2 (by omega)) ?_)
  have hp:=EC c xs
  have hpl:=qh c xs
  have hs:=zm ho.1
  have hc:=Bh hr
  by_cases hlt:dQ c xs<xs.length
  ·
   rw [dif_pos hlt] at hp ⊢
   by_cases h0:cc xs[dQ c xs] c=0
   ·
    rw [if_pos h0] at hp
    refine Ev.pos (by simpa using h0) (Ev.pos ⟨by omega,by simpa using hlt⟩ ?_)
    have hq:=gG xs _ hlt
    unfold mD at hq
    have hrx:=ho.1 _ (List.getElem_mem hlt)
    simp only [hq,qP hrx,qP hr,Option.bind_some,Int.toNat_natCast]
    have hx:=Bh hrx
    have e1:fU xs=fU (xs.take (dQ c xs))+(w8 xs[dQ c xs]+fU (xs.drop (dQ c xs+1))):=by
     conv=>lhs;rw [←List.take_append_drop (dQ c xs) xs,List.drop_eq_getElem_cons hlt]
     rw [j8,mU]
    have e2:xs.set (dQ c xs) c=ins c xs:=by rw [hp,List.set_eq_take_append_cons_drop,if_pos hlt]
    have e3:wrap64 (wrap64 (n - w8 xs[dQ c xs])+w8 c)=fU (ins c xs):=by
     rw [hp,j8,mU,fZ (x:=n - w8 xs[dQ c xs]) (by omega) (by omega),fZ (by omega) (by omega)]
     omega
    have e4:(⟨c.f0,c.f1,c.f2,c.f3,c.f4⟩:Cell)=c:=rfl
    rw [e4,e2,e3]
    exact Ev.now _
   ·
    rw [if_neg h0] at hp
    refine Ev.neg (by simpa using h0) (Ev.pos ⟨by omega,by simpa using hpl,by omega⟩ ?_)
    simp only [qP hr,Option.bind_some,Int.toNat_natCast]
    have e3:wrap64 (n+w8 c)=fU (ins c xs):=by
     have e1:fU xs=fU (xs.take (dQ c xs))+fU (xs.drop (dQ c xs)):=by rw [←j8,List.take_append_drop]
     rw [hp,j8,mU,fZ (by omega) (by omega)]
     omega
    have e4:(⟨c.f0,c.f1,c.f2,c.f3,c.f4⟩:Cell)=c:=rfl
    rw [e4,← hp,e3]
    exact Ev.now _
  ·
   rw [dif_neg hlt] at hp ⊢
   refine Ev.neg Bool.false_ne_true (Ev.pos ⟨by omega,by simpa using hpl,by omega⟩ ?_)
   simp only [qP hr,Option.bind_some,Int.toNat_natCast]
   have e3:wrap64 (n+w8 c)=fU (ins c xs):=by
    have e1:fU xs=fU (xs.take (dQ c xs))+fU (xs.drop (dQ c xs)):=by rw [←j8,List.take_append_drop]
    rw [hp,j8,mU,fZ (by omega) (by omega)]
    omega
   have e4:(⟨c.f0,c.f1,c.f2,c.f3,c.f4⟩:Cell)=c:=rfl
   rw [e4,← hp,e3]
   exact Ev.now _
abbrev Src:=dZ
abbrev zS:Src:=iR
def hd (s:Src):Cell:=mD s.f0 0
def uS (a b:Src):Bool:=decide (cc (hd a) (hd b) = -1) || (decide (cc (hd a) (hd b)=0) && decide (a.f1<b.f1))
def oG (a b:Src):Prop:=uS b a=false
theorem kT {a b:Src}:oG a b↔cc (hd a) (hd b) = -1∨(cc (hd a) (hd b)=0∧a.f1≤b.f1):=by
 have h1:=sU (hd a) (hd b)
 have h2:=mM (hd a) (hd b)
 unfold oG uS
 simp only [Bool.or_eq_false_iff,Bool.and_eq_false_iff,decide_eq_false_iff_not]
 omega
theorem Ag {a b:Src}:uS a b=true↔cc (hd a) (hd b) = -1∨(cc (hd a) (hd b)=0∧a.f1<b.f1):=by
 unfold uS
 simp only [Bool.or_eq_true,Bool.and_eq_true,decide_eq_true_iff]
theorem qW (a:Src):oG a a:=kT.2 (.inr ⟨oT _,Int.le_refl _⟩)
theorem pR {a b:Src} (h:uS a b=true):oG a b:=kT.2 ((Ag.1 h).imp id (fun h=>⟨h.1,Int.le_of_lt h.2⟩))
theorem pS {a b c:Src} (h:oG a b) (h':oG b c):oG a c:=by
 rcases kT.1 h with h1 | ⟨h1,h2⟩<;>rcases kT.1 h' with h3 | ⟨h3,h4⟩
 ·
  exact kT.2 (.inl (jA h1 h3))
 ·
  exact kT.2 (.inl (by rw [←tU h3];exact h1))
 ·
  exact kT.2 (.inl (by rw [lN h1];exact h3))
 ·
  exact kT.2 (.inr ⟨by rw [lN h1];exact h3,by omega⟩)
theorem Cz (a b:Int):Ev (fun k=>cr.f k [a,b]) (if a=0 then b else a):=by
 unfold cr.f
 have hl:(([a,b]:List Int).length:Int)=2:=rfl
 rw [hl]
 by_cases ha:a=0
 ·
  rw [if_pos ha]
  refine Ev.step (f:=fun k=>cr.l0 k 0 [a,b] 2 1) (fun k=>?_) ?_
  ·
   simp only [cr.l0,hl]
   rw [if_pos (by omega),if_pos (by omega),if_pos (by omega),show rd [a,b] 0=a from rfl,if_pos ha,fZ (by omega) (by omega)]
   rfl
  by_cases hb:b=0
  ·
   refine Ev.step (f:=fun k=>cr.l0 k 0 [a,b] 2 2) (fun k=>?_) ?_
   ·
    simp only [cr.l0,hl]
    rw [if_pos (by omega),if_pos (by omega),if_pos (by omega),show rd [a,b] 1=b from rfl,if_pos hb,fZ (by omega) (by omega)]
    rfl
   refine Ev.step (f:=fun _=>some 0) (fun k=>?_) ((Ev.now 0).to hb.symm)
   simp only [cr.l0]
   rw [if_neg (by omega)]
  ·
   refine Ev.step (f:=fun _=>some b) (fun k=>?_) (Ev.now _)
   simp only [cr.l0,hl]
   rw [if_pos (by omega),if_pos (by omega),if_pos (by omega),show rd [a,b] 1=b from rfl,if_neg hb]
 ·
  rw [if_neg ha]
  refine Ev.step (f:=fun _=>some a) (fun k=>?_) (Ev.now _)
  simp only [cr.l0,hl]
  rw [if_pos (by omega),if_pos (by omega),if_pos (by omega),show rd [a,b] 0=a from rfl,if_neg ha]
abbrev gQ (xs:List Src) (i:Nat):Src:=xs.getD i zS
theorem vN {xs:List Src} {i j:Nat} (hi:i<xs.length) (hj:j<xs.length) (h0:0<(gQ xs i).f0.length) (h1:0<(gQ xs j).f0.length):Ev (fun k=>bN.f k xs (i:Int) (j:Int)) (uS (gQ xs i) (gQ xs j)):=by
 have hc:=sU (hd (gQ xs i)) (hd (gQ xs j))
 unfold bN.f
 have ei:bZ xs (i:Int)=gQ xs i:=by show xs.getD (i:Int).toNat _=_;rw [Int.toNat_natCast]
 have ej:bZ xs (j:Int)=gQ xs j:=by show xs.getD (j:Int).toNat _=_;rw [Int.toNat_natCast]
 rw [ei,ej]
 refine Ev.pos (by omega) (Ev.pos (by omega) (Ev.pos (by omega) (Ev.pos (by omega) (Ev.pos (by omega) (Ev.pos (by omega) ?_)))))
 refine Ev.bind (pV _ _ _ _ _ _ _ _ _ _) ?_
 rw [wA]
 refine Ev.congr (fun k=>Option.bind_some _ _) (Ev.bind (Cz _ _) (Ev.eq ?_))
 congr 1
 rw [Bool.eq_iff_iff,decide_eq_true_iff,Ag]
 show (if cc (hd (gQ xs i)) (hd (gQ xs j))=0 then kX (gQ xs i).f1 (gQ xs j).f1 else cc (hd (gQ xs i)) (hd (gQ xs j)))<0↔_
 have hn:=z6 (gQ xs i).f1 (gQ xs j).f1
 have hn2:=nB (a:=(gQ xs i).f1) (b:=(gQ xs j).f1)
 split<;>omega
theorem rH {xs:List Src} {i j:Nat} (hi:i<xs.length) (hj:j<xs.length):(iQ xs i j).Perm xs:=by
 unfold iQ
 have e1:xs.getD j zS=xs[j]:=by rw [List.getD_eq_getElem?_getD,List.getElem?_eq_getElem hj];rfl
 have e2:xs.getD i zS=xs[i]:=by rw [List.getD_eq_getElem?_getD,List.getElem?_eq_getElem hi];rfl
 rw [e1,e2]
 exact List.set_set_perm hi hj
theorem yO {xs:List Src} {i:Nat} (hi:i<xs.length) (v:Src) (m:Nat):gQ (xs.set i v) m=if m=i then v else gQ xs m:=by
 unfold gQ
 rw [List.getD_eq_getElem?_getD,List.getD_eq_getElem?_getD]
 by_cases h:m=i
 ·
  subst h
  rw [List.getElem?_set_self hi,if_pos rfl]
  rfl
 ·
  rw [List.getElem?_set_ne (fun e=>h e.symm),if_neg h]
theorem sE {xs:List Src} {i j:Nat} (hi:i<xs.length) (hj:j<xs.length) (m:Nat):gQ (iQ xs i j) m=if m=j then gQ xs i else if m=i then gQ xs j else gQ xs m:=by
 unfold iQ
 rw [yO (by rw [List.length_set];exact hj),yO hi]
def oI (n:Nat) (xs:List Src):Prop:=∀ m,0<m→m<n→oG (gQ xs ((m - 1) / 2)) (gQ xs m)
theorem Dm {n:Nat} {xs:List Src} (h:oI n xs):∀ m,m<n→oG (gQ xs 0) (gQ xs m):=by
 intro m
 induction m using Nat.strongRecOn with
 | _ m ih=>
  intro hm
  by_cases h0:m=0
  ·
   subst h0
   exact qW _
  ·
   exact pS (ih ((m - 1) / 2) (by omega) (by omega)) (h m (by omega) hm)
def D7 (n i:Nat) (xs:List Src):Prop:=(∀ m,0<m→m<n→(m - 1) / 2≠i→oG (gQ xs ((m - 1) / 2)) (gQ xs m))∧(0<i→∀ m,0<m→m<n→(m - 1) / 2=i→oG (gQ xs ((i - 1) / 2)) (gQ xs m))
def vk {α:Type} (f:Nat→Nat→Option α) (r:α):Prop:=∃ k0,∀ k m,k0≤k→k0≤m→f k m=some r
theorem Am (n:Nat) (d:Nat):∀ (xs:List Src) (i:Nat),n - i≤d→D7 n i xs→n≤xs.length→(∀ m,m<n→0<(gQ xs m).f0.length)→∃ r q,vk (fun k m=>iB k n m xs i) (r,q)∧r.Perm xs∧oI n r∧∀ m,n≤m→gQ r m=gQ xs m:=by
 induction d with
 | zero=>
  intro xs i hd hP hn hne
  refine ⟨xs,i,⟨1,fun k m _ hm=>?_⟩,List.Perm.refl _,fun m h0 hm=>hP.1 m h0 hm (by omega),fun _ _=>rfl⟩
  obtain ⟨m,rfl⟩:∃ m',m=m'+1:=⟨m - 1,by omega⟩
  show iB k n (m+1) _ _=_
  rw [iB,if_pos (by omega)]
 | succ d ih=>
  intro xs i hd hP hn hne
  by_cases hj1:n≤2*i+1
  ·
   refine ⟨xs,i,⟨1,fun k m _ hm=>?_⟩,List.Perm.refl _,fun m h0 hm=>hP.1 m h0 hm (by omega),fun _ _=>rfl⟩
   obtain ⟨m,rfl⟩:∃ m',m=m'+1:=⟨m - 1,by omega⟩
   show iB k n (m+1) _ _=_
   rw [iB,if_pos hj1]
  ·
   have hb:∃ b:Bool,Ev (fun k=>if 2*i+2<n then bN.f k xs ((2*i+2:Nat):Int) ((2*i+1:Nat):Int) else some false) b∧∀ m,0<m→m<n→(m - 1) / 2=i→oG (gQ xs (if b=true then 2*i+2 else 2*i+1)) (gQ xs m)∧(if b=true then 2*i+2 else 2*i+1)<n:=by
    by_cases h2:2*i+2<n
    ·
     refine ⟨_,Ev.pos h2 (vN (by omega) (by omega) (hne _ h2) (hne _ (by omega))),fun m h0 hm hp=>?_⟩
     have hm2:m=2*i+1∨m=2*i+2:=by omega
     cases hb:uS (gQ xs (2*i+2)) (gQ xs (2*i+1)) with
     | true=>
      rw [if_pos rfl]
      rcases hm2 with rfl | rfl
      ·
       exact ⟨pR hb,by omega⟩
      ·
       exact ⟨qW _,by omega⟩
     | false=>
      rw [if_neg Bool.false_ne_true]
      rcases hm2 with rfl | rfl
      ·
       exact ⟨qW _,by omega⟩
      ·
       exact ⟨hb,by omega⟩
    ·
     refine ⟨false,Ev.neg h2 (Ev.now _),fun m h0 hm hp=>?_⟩
     obtain rfl:m=2*i+1:=by omega
     exact ⟨qW _,by simp;omega⟩
   obtain ⟨b,hbe,hbl⟩:=hb
   obtain ⟨j,hj⟩:∃ j,(if b=true then 2*i+2 else 2*i+1)=j:=⟨_,rfl⟩
   have hj3:j=2*i+1∨j=2*i+2:=by rw [←hj];cases b<;>simp
   have hjn:j<n:=by rw [←hj];exact (hbl (2*i+1) (by omega) (by omega) (by omega)).2
   have hjl:∀ m,0<m→m<n→(m - 1) / 2=i→oG (gQ xs j) (gQ xs m):=fun m h0 hm hp=>by rw [←hj];exact (hbl m h0 hm hp).1
   have hce:=vN (xs:=xs) (i:=j) (j:=i) (by omega) (by omega) (hne _ hjn) (hne _ (by omega))
   obtain ⟨k1,hk1⟩:=hbe
   obtain ⟨k2,hk2⟩:=hce
   cases hc:uS (gQ xs j) (gQ xs i) with
   | false=>
    refine ⟨xs,i,⟨k1+k2+1,fun k m hk hm=>?_⟩,List.Perm.refl _,fun m h0 hm=>?_,fun _ _=>rfl⟩
    ·
     obtain ⟨m,rfl⟩:∃ m',m=m'+1:=⟨m - 1,by omega⟩
     have e1:=hk1 k (by omega)
     have e2:=hk2 k (by omega)
     simp only at e1 e2
     show iB k n (m+1) _ _=_
     rw [iB,if_neg hj1,e1,Option.bind_some,hj,e2,Option.bind_some,hc,if_neg Bool.false_ne_true]
    ·
     by_cases hp:(m - 1) / 2=i
     ·
      rw [hp]
      exact pS hc (hjl m h0 hm hp)
     ·
      exact hP.1 m h0 hm hp
   | true=>
    have hil:i<xs.length:=by omega
    have hjx:j<xs.length:=by omega
    have hg:=sE hil hjx
    have hP':D7 n j (iQ xs i j):=by
     refine ⟨fun m h0 hm hp=>?_,fun _ m h0 hm hp=>?_⟩
     ·
      rw [hg,hg]
      by_cases hmj:m=j
      ·
       subst hmj
       rw [if_pos rfl,if_neg hp,if_pos (by omega)]
       exact pR hc
      ·
       rw [if_neg hp,if_neg hmj]
       by_cases hpi:(m - 1) / 2=i
       ·
        rw [if_pos hpi,if_neg (by omega)]
        exact hjl m h0 hm hpi
       ·
        rw [if_neg hpi]
        by_cases hmi:m=i
        ·
         subst hmi
         rw [if_pos rfl]
         exact hP.2 h0 j (by omega) hjn (by omega)
        ·
         rw [if_neg hmi]
         exact hP.1 m h0 hm hpi
     ·
      rw [show (j - 1) / 2=i by omega,hg,hg,if_neg (by omega),if_pos rfl,if_neg (by omega),if_neg (by omega)]
      have:=hP.1 m h0 hm (by omega)
      rw [hp] at this
      exact this
    obtain ⟨r,q,⟨k3,hk3⟩,hpm,hh,hf⟩:=ih (iQ xs i j) j (by omega) hP' (by rw [fK];exact hn) (fun m hm=>by
     rw [hg]
     split
     ·
      exact hne _ (by omega)
     ·
      split
      ·
       exact hne _ hjn
      ·
       exact hne _ hm)
    refine ⟨r,q,⟨k1+k2+k3+1,fun k m hk hm=>?_⟩,hpm.trans (rH hil hjx),hh,fun m hm=>?_⟩
    ·
     obtain ⟨m,rfl⟩:∃ m',m=m'+1:=⟨m - 1,by omega⟩
     have e1:=hk1 k (by omega)
     have e2:=hk2 k (by omega)
     simp only at e1 e2
     show iB k n (m+1) _ _=_
     rw [iB,if_neg hj1,e1,Option.bind_some,hj,e2,Option.bind_some,hc,if_pos rfl]
     exact hk3 k m (by omega) (by omega)
    ·
     rw [hf m hm,hg,if_neg (by omega),if_neg (by omega)]
def UpP (j:Nat) (xs:List Src):Prop:=(∀ m,0<m→m<xs.length→m≠j→oG (gQ xs ((m - 1) / 2)) (gQ xs m))∧(0<j→∀ m,0<m→m<xs.length→(m - 1) / 2=j→oG (gQ xs ((j - 1) / 2)) (gQ xs m))
theorem Gi:∀ (j:Nat) (xs:List Src),j<xs.length→UpP j xs→(∀ m,m<xs.length→0<(gQ xs m).f0.length)→∃ r,vk (fun k m=>mF k m xs j) r∧r.Perm xs∧oI r.length r:=by
 intro j
 induction j using Nat.strongRecOn with
 | _ j ih=>
  intro xs hjl hP hne
  by_cases h0:j=0
  ·
   subst h0
   refine ⟨xs,⟨1,fun k m _ hm=>?_⟩,List.Perm.refl _,fun m h0 hm=>hP.1 m h0 hm (by omega)⟩
   obtain ⟨m,rfl⟩:∃ m',m=m'+1:=⟨m - 1,by omega⟩
   show mF k (m+1) _ _=_
   rw [mF,if_pos rfl]
  ·
   obtain ⟨i,hi⟩:∃ i,(j - 1) / 2=i:=⟨_,rfl⟩
   have hil:i<xs.length:=by omega
   obtain ⟨k1,hk1⟩:=vN (xs:=xs) (i:=j) (j:=i) hjl hil (hne _ hjl) (hne _ hil)
   cases hc:uS (gQ xs j) (gQ xs i) with
   | false=>
    refine ⟨xs,⟨k1+1,fun k m hk hm=>?_⟩,List.Perm.refl _,fun m h0 hm=>?_⟩
    ·
     obtain ⟨m,rfl⟩:∃ m',m=m'+1:=⟨m - 1,by omega⟩
     have e1:=hk1 k (by omega)
     simp only at e1
     show mF k (m+1) _ _=_
     rw [mF,if_neg h0,hi,e1,Option.bind_some,hc,if_neg Bool.false_ne_true]
    ·
     by_cases hm2:m=j
     ·
      subst hm2
      rw [hi]
      exact hc
     ·
      exact hP.1 m h0 hm hm2
   | true=>
    have hg:=sE hil hjl
    have hP':UpP i (iQ xs i j):=by
     refine ⟨fun m h0 hm hp=>?_,fun h0i m h0 hm hp=>?_⟩
     ·
      rw [fK] at hm
      rw [hg,hg]
      by_cases hmj:m=j
      ·
       subst hmj
       rw [if_pos rfl,hi,if_neg (by omega),if_pos rfl]
       exact pR hc
      ·
       rw [if_neg hmj,if_neg hp]
       by_cases hpj:(m - 1) / 2=j
       ·
        rw [if_pos hpj]
        have:=hP.2 (by omega) m h0 hm hpj
        rw [hi] at this
        exact this
       ·
        rw [if_neg hpj]
        by_cases hpi:(m - 1) / 2=i
        ·
         rw [if_pos hpi]
         have:=hP.1 m h0 hm hmj
         rw [hpi] at this
         exact pS (pR hc) this
        ·
         rw [if_neg hpi]
         exact hP.1 m h0 hm hmj
     ·
      rw [fK] at hm
      have h1:=hP.1 i h0i hil (by omega)
      rw [hg,hg,if_neg (by omega),if_neg (by omega)]
      by_cases hmj:m=j
      ·
       rw [if_pos hmj]
       exact h1
      ·
       rw [if_neg hmj,if_neg (by omega)]
       have:=hP.1 m h0 hm hmj
       rw [hp] at this
       exact pS h1 this
    obtain ⟨r,⟨k3,hk3⟩,hpm,hh⟩:=ih i (by omega) (iQ xs i j) (by rw [fK];exact hil) hP' (fun m hm=>by
     rw [fK] at hm
     rw [hg]
     split
     ·
      exact hne _ hil
     ·
      split
      ·
       exact hne _ hjl
      ·
       exact hne _ hm)
    refine ⟨r,⟨k1+k3+1,fun k m hk hm=>?_⟩,hpm.trans (rH hil hjl),hh⟩
    obtain ⟨m,rfl⟩:∃ m',m=m'+1:=⟨m - 1,by omega⟩
    have e1:=hk1 k (by omega)
    simp only at e1
    show mF k (m+1) _ _=_
    rw [mF,if_neg h0,hi,e1,Option.bind_some,hc,if_pos rfl]
    exact hk3 k m (by omega) (by omega)
abbrev nA (L:List (List Cell)) (i:Nat):List Cell:=L.getD i []
def Da (L:List (List Cell)) (c:Cell):Prop:=∃ i,i<L.length∧c ∈ nA L i∧∀ j,j<i→∀ d ∈ nA L j,cc d c≠0
structure oX (L:List (List Cell)) (r:List Cell):Prop where
 ord:eT r
 win:∀ c ∈ r,Da L c
 all:∀ i,i<L.length→∀ c ∈ nA L i,∃ d ∈ r,cc d c=0
def gA (L:List (List Cell)):Prop:=∀ i,eT (nA L i)
theorem uy {L:List (List Cell)} {r:List Cell} (hL:gA L) (h:oX L r) (c:Cell):c ∈ r↔Da L c:=by
 refine ⟨h.win c,fun hc=>?_⟩
 obtain ⟨i,hi,hm,hf⟩:=hc
 obtain ⟨d,hd,he⟩:=h.all i hi c hm
 obtain ⟨j,hj,hdm,hdf⟩:=h.win d hd
 have hij:i=j:=by
  rcases Nat.lt_trichotomy i j with hlt | e | hlt
  ·
   exact absurd (Co he) (hdf i hlt c hm)
  ·
   exact e
  ·
   exact absurd he (hf j hlt d hdm)
 subst hij
 rw [←vD (hL i) hdm hm he]
 exact hd
theorem zx {L:List (List Cell)} {r r':List Cell} (hL:gA L) (h:oX L r) (h':oX L r'):r=r':=
 oW h.ord h'.ord (fun c=>(uy hL h c).trans (uy hL h' c).symm)
structure vV (L:List (List Cell)) (q:List Src) (out:List Cell):Prop where
 heap:oI q.length q
 ne:∀ s ∈ q,0<s.f0.length
 nod:(q.map (fun s:Src=>s.f1)).Nodup
 suf:∀ s ∈ q,∃ i:Nat,s.f1=(i:Int)∧i<L.length∧∃ used,nA L i=used++s.f0∧∀ c ∈ used,∃ d ∈ out,cc d c=0
 done:∀ i,i<L.length→(∀ s ∈ q,s.f1≠(i:Int))→∀ c ∈ nA L i,∃ d ∈ out,cc d c=0
 ord:eT out
 win:∀ c ∈ out,Da L c
 low:∀ d ∈ out,∀ s ∈ q,∀ c ∈ s.f0,cc d c = -1∨cc d c=0
def ow (q:List Src):Nat:=(q.map (fun s:Src=>s.f0.length)).sum
theorem pQ (s:Src) (q:List Src):ow (s :: q)=s.f0.length+ow q:=by simp [ow]
theorem wG {q q':List Src} (h:q.Perm q'):ow q=ow q':=by
 unfold ow
 exact List.Perm.sum_nat (h.map _)
theorem uj:∀ {q:List Src},(∀ s ∈ q,0<s.f0.length)→q.length≤ow q
 | [],_=>Nat.zero_le _
 | s :: q,h=>by
  have:=uj (q:=q) (fun s hs=>h s (List.mem_cons_of_mem _ hs))
  have:=h s List.mem_cons_self
  rw [pQ,List.length_cons]
  omega
theorem nJ {s:Src} (h:0<s.f0.length):s.f0=hd s :: s.f0.drop 1:=by
 obtain ⟨l,n⟩:=s
 cases l with
 | nil=>cases h
 | cons c l=>rfl
theorem sO {q:List Src} {m:Nat} (h:m<q.length):gQ q m ∈ q:=by
 unfold gQ
 rw [List.getD_eq_getElem?_getD,List.getElem?_eq_getElem h]
 exact List.getElem_mem h
theorem Fx {q:List Src} {s:Src} (h:s ∈ q):∃ m,m<q.length∧gQ q m=s:=by
 obtain ⟨m,hm,rfl⟩:=List.getElem_of_mem h
 refine ⟨m,hm,?_⟩
 unfold gQ
 rw [List.getD_eq_getElem?_getD,List.getElem?_eq_getElem hm]
 rfl
theorem ES {out:List Cell} (h:0<out.length):mD out ((out.length:Int) - 1)=out[out.length - 1]:=by
 rw [show ((out.length:Int) - 1)=((out.length - 1:Nat):Int) by omega]
 exact gG out _ (by omega)
theorem E3 {out:List Cell} (c:Cell):Ev (fun k=>ny k out c) (if h:0<out.length then !(cc out[out.length - 1] c == 0) else true):=by
 unfold ny
 by_cases h:out.length=0
 ·
  rw [dif_neg (by omega)]
  exact Ev.pos h (Ev.now _)
 ·
  rw [dif_pos (by omega)]
  have e:=ES (out:=out) (by omega)
  unfold mD at e
  rw [e]
  exact Ev.neg h (Ev.bind (mP _ _) (Ev.now _))
def oO (s:Src) (q:List Src):List Src:=if s.f0.length=1 then q else (⟨s.f0.drop 1,s.f1⟩:Src) :: q
theorem Eg {s:Src} {q:List Src} (hh:oI (q.length+1) (s :: q)) (hs:0<s.f0.length) (hne:∀ x ∈ q,0<x.f0.length):∃ q',Ev (fun k=>oU k s q) q'∧q'.Perm (oO s q)∧oI q'.length q':=by
 have hsame:∀ (x:Src) m,0<m→gQ (x :: q) m=gQ (s :: q) m:=by
  intro x m hm
  obtain ⟨m,rfl⟩:∃ m',m=m'+1:=⟨m - 1,by omega⟩
  rfl
 unfold oU oO
 by_cases h1:s.f0.length=1
 ·
  rw [if_pos h1]
  have hg:=sE (xs:=(⟨s.f0.drop 1,s.f1⟩:Src) :: q) (i:=0) (j:=q.length) (by simp) (by simp)
  obtain ⟨r,p,⟨k0,hk⟩,hpm,hr,hf⟩:=Am q.length q.length (iQ ((⟨s.f0.drop 1,s.f1⟩:Src) :: q) 0 q.length) 0 (by omega) ⟨fun m h0 hm hp=>by
    rw [hg,hg,if_neg (by omega),if_neg hp,if_neg (by omega),if_neg (by omega),hsame _ _ (by omega),hsame _ _ h0]
    exact hh m h0 (by omega),fun h=>absurd h (by omega)⟩ (by rw [fK];simp) (fun m hm=>by
    rw [hg,if_neg (by omega)]
    split
    ·
     rename_i h0
     rw [hsame _ _ (by omega)]
     have:gQ (s :: q) q.length ∈ s :: q:=sO (by simp)
     have h2:gQ (s :: q) q.length=gQ q (q.length - 1):=by
      obtain ⟨n,hn⟩:∃ n,q.length=n+1:=⟨q.length - 1,by omega⟩
      rw [hn]
      rfl
     rw [h2]
     exact hne _ (sO (by omega))
    ·
     rename_i h0
     obtain ⟨m,rfl⟩:∃ m',m=m'+1:=⟨m - 1,by omega⟩
     exact hne _ (sO (by omega)))
  have hrl:r.length=q.length+1:=by rw [hpm.length_eq,fK];rfl
  have hlast:gQ r q.length=(⟨s.f0.drop 1,s.f1⟩:Src):=by
   rw [hf _ (Nat.le_refl _),hg,if_pos rfl]
   rfl
  have hsplit:r=r.take q.length++[(⟨s.f0.drop 1,s.f1⟩:Src)]:=by
   have e:=List.take_append_drop q.length r
   have e2:r.drop q.length=[(⟨s.f0.drop 1,s.f1⟩:Src)]:=by
    rw [List.drop_eq_getElem_cons (by omega),List.drop_eq_nil_of_le (by omega)]
    congr 1
    rw [←hlast]
    unfold gQ
    rw [List.getD_eq_getElem?_getD,List.getElem?_eq_getElem (by omega)]
    rfl
   rw [e2] at e
   exact e.symm
  have hp2:(r.take q.length).Perm q:=by
   have h3:((⟨s.f0.drop 1,s.f1⟩:Src) :: r.take q.length).Perm ((⟨s.f0.drop 1,s.f1⟩:Src) :: q):=by
    refine (List.perm_append_comm (l₁:=[(⟨s.f0.drop 1,s.f1⟩:Src)]) (l₂:=r.take q.length)).trans ?_
    rw [←hsplit]
    exact hpm.trans (rH (by simp) (by simp))
   exact (List.perm_cons _).1 h3
  refine ⟨r.take q.length,⟨k0,fun k hk2=>?_⟩,hp2,fun m h0 hm=>?_⟩
  ·
   have e:=hk k k hk2 hk2
   simp only at e
   show (if s.f0.length=1 then _ else _)=_
   rw [if_pos h1,e]
   rfl
  ·
   have hml:m<q.length:=by rw [List.length_take] at hm;omega
   have hgt:∀ m,m<q.length→gQ (r.take q.length) m=gQ r m:=by
    intro m hm
    unfold gQ
    rw [List.getD_eq_getElem?_getD,List.getD_eq_getElem?_getD,List.getElem?_take,if_pos hm]
   rw [hgt _ (by omega),hgt _ hml]
   exact hr m h0 hml
 ·
  rw [if_neg h1]
  obtain ⟨r,p,⟨k0,hk⟩,hpm,hr,_⟩:=Am (q.length+1) (q.length+1) ((⟨s.f0.drop 1,s.f1⟩:Src) :: q) 0 (by omega) ⟨fun m h0 hm hp=>by
    rw [hsame _ _ (by omega),hsame _ _ h0]
    exact hh m h0 hm,fun h=>absurd h (by omega)⟩ (by simp) (fun m hm=>by
    by_cases h0:m=0
    ·
     subst h0
     show 0<(s.f0.drop 1).length
     rw [List.length_drop]
     omega
    ·
     obtain ⟨m,rfl⟩:∃ m',m=m'+1:=⟨m - 1,by omega⟩
     exact hne _ (sO (by omega)))
  refine ⟨r,⟨k0,fun k hk2=>?_⟩,hpm,?_⟩
  ·
   have e:=hk k k hk2 hk2
   simp only at e
   show (if s.f0.length=1 then _ else _)=_
   rw [if_neg h1,e]
   rfl
  ·
   rw [hpm.length_eq]
   exact hr
theorem D3 {L:List (List Cell)} {q:List Src} {out:List Cell} (hL:gA L) (h:vV L q out) {s:Src} (hs:s ∈ q) {c:Cell} (hc:c ∈ s.f0):cc (hd s) c = -1∨cc (hd s) c=0:=by
 obtain ⟨i,_,hi,used,hu,_⟩:=h.suf s hs
 have ho:=hL i
 rw [hu,nJ (h.ne s hs)] at ho
 obtain ⟨_,ho,_⟩:=List.pairwise_append.1 ho
 rw [nJ (h.ne s hs)] at hc
 rcases List.mem_cons.1 hc with rfl | hc
 ·
  exact .inr (oT _)
 ·
  exact .inl ((List.pairwise_cons.1 ho).1 c hc)
theorem Es {L:List (List Cell)} {q:List Src} {out:List Cell} (hL:gA L) (h:vV L q out) {s:Src} (hs:s ∈ q) {c:Cell} (hc:c ∈ s.f0.drop 1):cc (hd s) c = -1:=by
 obtain ⟨i,_,hi,used,hu,_⟩:=h.suf s hs
 have ho:=hL i
 rw [hu,nJ (h.ne s hs)] at ho
 obtain ⟨_,ho,_⟩:=List.pairwise_append.1 ho
 exact (List.pairwise_cons.1 ho).1 c hc
theorem su {s x:Src} {q:List Src} (h:x ∈ oO s q):x ∈ q∨(x=(⟨s.f0.drop 1,s.f1⟩:Src)∧s.f0.length≠1):=by
 unfold oO at h
 split at h
 ·
  exact .inl h
 ·
  rename_i h1
  rcases List.mem_cons.1 h with rfl | h
  ·
   exact .inr ⟨rfl,h1⟩
  ·
   exact .inl h
theorem DL {L:List (List Cell)} {s:Src} {q q':List Src} {out:List Cell} (hL:gA L) (h:vV L (s :: q) out) (hp:q'.Perm (oO s q)) (hh:oI q'.length q') {b:Bool} (hb:b=if h:0<out.length then !(cc out[out.length - 1] (hd s) == 0) else true):vV L q' (if b=true then out++[hd s] else out):=by
 have hs:=h.ne s List.mem_cons_self
 have hlow:∀ d ∈ out,cc d (hd s) = -1∨cc d (hd s)=0:=fun d hd_=>h.low d hd_ s List.mem_cons_self (hd s) (by rw [nJ hs];exact List.mem_cons_self)
 have hmin:∀ x ∈ s :: q,oG s x:=by
  intro x hx
  obtain ⟨m,hm,rfl⟩:=Fx hx
  exact Dm h.heap m hm
 -- what is put out is above all that is out
 have habove:b=true→∀ d ∈ out,cc d (hd s) = -1:=by
  intro hbt d hd_
  have h0:0<out.length:=List.length_pos_of_mem hd_
  rw [hb,dif_pos h0] at hbt
  have hne:cc out[out.length - 1] (hd s)≠0:=by simpa using hbt
  have hlast:cc out[out.length - 1] (hd s) = -1:=(hlow _ (List.getElem_mem _)).resolve_right hne
  obtain ⟨i,hi,rfl⟩:=List.getElem_of_mem hd_
  by_cases hl:i=out.length - 1
  ·
   subst hl
   exact hlast
  ·
   exact jA (List.pairwise_iff_getElem.1 h.ord i (out.length - 1) hi (by omega) (by omega)) hlast
 have hcov:∃ d ∈ (if b=true then out++[hd s] else out),cc d (hd s)=0:=by
  cases b with
  | true=>exact ⟨hd s,by simp,oT _⟩
  | false=>
   by_cases h0:0<out.length
   ·
    rw [dif_pos h0] at hb
    exact ⟨out[out.length - 1],by simp,by simpa using hb.symm⟩
   ·
    rw [dif_neg h0] at hb
    cases hb
 have hsub:∀ d ∈ out,d ∈ (if b=true then out++[hd s] else out):=by
  intro d hd_
  split
  ·
   exact List.mem_append_left _ hd_
  ·
   exact hd_
 have hnod:=h.nod
 rw [List.map_cons,List.nodup_cons] at hnod
 refine ⟨hh,fun x hx=>?_,?_,fun x hx=>?_,fun i hi hno c hc=>?_,?_,?_,?_⟩
 ·
  rcases su (hp.subset hx) with hx | ⟨rfl,h1⟩
  ·
   exact h.ne x (List.mem_cons_of_mem _ hx)
  ·
   show 0<(s.f0.drop 1).length
   rw [List.length_drop]
   omega
 ·
  rw [(hp.map _).nodup_iff]
  unfold oO
  split
  ·
   exact hnod.2
  ·
   rw [List.map_cons,List.nodup_cons]
   exact hnod
 ·
  rcases su (hp.subset hx) with hx | ⟨rfl,h1⟩
  ·
   obtain ⟨i,e1,e2,used,e3,e4⟩:=h.suf x (List.mem_cons_of_mem _ hx)
   exact ⟨i,e1,e2,used,e3,fun c hc=>(e4 c hc).elim (fun d hd_=>⟨d,hsub d hd_.1,hd_.2⟩)⟩
  ·
   obtain ⟨i,e1,e2,used,e3,e4⟩:=h.suf s List.mem_cons_self
   refine ⟨i,e1,e2,used++[hd s],?_,fun c hc=>?_⟩
   ·
    rw [e3]
    conv=>lhs;rw [nJ hs]
    simp
   ·
    rcases List.mem_append.1 hc with hc | hc
    ·
     exact (e4 c hc).elim (fun d hd_=>⟨d,hsub d hd_.1,hd_.2⟩)
    ·
     rw [List.mem_singleton.1 hc]
     exact hcov
 ·
  by_cases his:s.f1=(i:Int)
  ·
   have h1:s.f0.length=1:=by
    refine Classical.byContradiction fun h1=>?_
    refine hno (⟨s.f0.drop 1,s.f1⟩:Src) (hp.symm.subset ?_) his
    unfold oO
    rw [if_neg h1]
    exact List.mem_cons_self
   obtain ⟨i',e1,e2,used,e3,e4⟩:=h.suf s List.mem_cons_self
   have:i'=i:=by omega
   subst this
   rw [e3] at hc
   rcases List.mem_append.1 hc with hc | hc
   ·
    exact (e4 c hc).elim (fun d hd_=>⟨d,hsub d hd_.1,hd_.2⟩)
   ·
    rw [nJ hs,List.drop_eq_nil_of_le (by omega)] at hc
    rw [List.mem_singleton.1 hc]
    exact hcov
  ·
   refine (h.done i hi (fun x hx=>?_) c hc).elim (fun d hd_=>⟨d,hsub d hd_.1,hd_.2⟩)
   rcases List.mem_cons.1 hx with rfl | hx
   ·
    exact his
   ·
    refine hno x (hp.symm.subset ?_)
    unfold oO
    split
    ·
     exact hx
    ·
     exact List.mem_cons_of_mem _ hx
 ·
  split
  ·
   rename_i hbt
   exact List.pairwise_append.2 ⟨h.ord,List.pairwise_singleton _ _,fun d hd_ c hc=>by rw [List.mem_singleton.1 hc];exact habove hbt d hd_⟩
  ·
   exact h.ord
 ·
  intro c hc
  split at hc
  ·
   rename_i hbt
   rcases List.mem_append.1 hc with hc | hc
   ·
    exact h.win c hc
   ·
    rw [List.mem_singleton.1 hc]
    obtain ⟨i,e1,e2,used,e3,e4⟩:=h.suf s List.mem_cons_self
    refine ⟨i,e2,?_,fun j hj d hdj hde=>?_⟩
    ·
     rw [e3,nJ hs]
     simp
    ·
     have hcontra:∀ e ∈ out,cc e d=0→False:=by
      intro e he h0
      have h1:=habove hbt e he
      have h2:=lN h0 (hd s)
      omega
     by_cases hsrc:∃ x ∈ s :: q,x.f1=(j:Int)
     ·
      obtain ⟨x,hx,hxj⟩:=hsrc
      obtain ⟨j',f1,f2,used',f3,f4⟩:=h.suf x hx
      have:j'=j:=by omega
      subst this
      rw [f3] at hdj
      rcases List.mem_append.1 hdj with hdj | hdj
      ·
       obtain ⟨e,he,h0⟩:=f4 d hdj
       exact hcontra e he h0
      ·
       have h1:=D3 hL h hx hdj
       rcases kT.1 (hmin x hx) with h2 | ⟨h2,h3⟩
       ·
        have:cc (hd s) d = -1:=by
         rcases h1 with h1 | h1
         ·
          exact jA h2 h1
         ·
          rw [←tU h1]
          exact h2
        have:=mM (hd s) d
        omega
       ·
        omega
     ·
      obtain ⟨e,he,h0⟩:=h.done j (by omega) (fun x hx he=>hsrc ⟨x,hx,he⟩) d hdj
      exact hcontra e he h0
  ·
   exact h.win c hc
 ·
  intro d hd_ x hx c hc
  have hxo:x ∈ q∨(x=(⟨s.f0.drop 1,s.f1⟩:Src)∧s.f0.length≠1):=su (hp.subset hx)
  have hold:d ∈ out→cc d c = -1∨cc d c=0:=by
   intro hdo
   rcases hxo with hx | ⟨rfl,_⟩
   ·
    exact h.low d hdo x (List.mem_cons_of_mem _ hx) c hc
   ·
    exact h.low d hdo s List.mem_cons_self c (List.mem_of_mem_drop hc)
  split at hd_
  ·
   rcases List.mem_append.1 hd_ with hd_ | hd_
   ·
    exact hold hd_
   ·
    rw [List.mem_singleton.1 hd_]
    rcases hxo with hx | ⟨rfl,_⟩
    ·
     have hx':x ∈ s :: q:=List.mem_cons_of_mem _ hx
     have h1:=D3 hL h hx' hc
     rcases kT.1 (hmin x hx') with h2 | ⟨h2,_⟩<;>rcases h1 with h1 | h1
     ·
      exact .inl (jA h2 h1)
     ·
      exact .inl (by rw [←tU h1];exact h2)
     ·
      exact .inl (by rw [lN h2];exact h1)
     ·
      exact .inr (by rw [lN h2];exact h1)
    ·
     exact .inl (Es hL h List.mem_cons_self hc)
  ·
   exact hold hd_
theorem EQ {L:List (List Cell)} (hL:gA L) (N:Nat):∀ (q:List Src) (out:List Cell),ow q≤N→N+out.length≤1000000→vV L q out→∃ r,vk (fun k m=>oz k m q out) r∧oX L r:=by
 induction N with
 | zero=>
  intro q out hN ho h
  have hl:=uj h.ne
  obtain rfl:q=[]:=List.length_eq_zero_iff.1 (by omega)
  refine ⟨out,⟨1,fun k m _ hm=>?_⟩,h.ord,h.win,fun i hi=>h.done i hi (fun s hs=>by cases hs)⟩
  obtain ⟨m,rfl⟩:∃ m',m=m'+1:=⟨m - 1,by omega⟩
  rfl
 | succ N ih=>
  intro q out hN ho h
  cases q with
  | nil=>
   refine ⟨out,⟨1,fun k m _ hm=>?_⟩,h.ord,h.win,fun i hi=>h.done i hi (fun s hs=>by cases hs)⟩
   obtain ⟨m,rfl⟩:∃ m',m=m'+1:=⟨m - 1,by omega⟩
   rfl
  | cons s q=>
   have hs:=h.ne s List.mem_cons_self
   have hl:=uj h.ne
   rw [List.length_cons] at hl
   obtain ⟨q',⟨k1,hk1⟩,hp,hh⟩:=Eg h.heap hs (fun x hx=>h.ne x (List.mem_cons_of_mem _ hx))
   obtain ⟨k2,hk2⟩:=E3 (out:=out) (hd s)
   obtain ⟨b,hb⟩:∃ b,b=if h:0<out.length then !(cc out[out.length - 1] (hd s) == 0) else true:=⟨_,rfl⟩
   rw [←hb] at hk2
   have hinv:=DL hL h hp hh hb
   have ht:ow q'+1=ow (s :: q):=by
    rw [wG hp,pQ]
    unfold oO
    split
    ·
     omega
    ·
     rw [pQ]
     show (s.f0.drop 1).length+_+1=_
     rw [List.length_drop]
     omega
   have hlen:N+(if b=true then out++[hd s] else out).length≤1000000:=by
    split
    ·
     rw [List.length_append,List.length_singleton]
     omega
    ·
     omega
   obtain ⟨r,⟨k3,hk3⟩,hr⟩:=ih q' (if b=true then out++[hd s] else out) (by omega) hlen hinv
   refine ⟨r,⟨k1+k2+k3+1,fun k m hk hm=>?_⟩,hr⟩
   obtain ⟨m,rfl⟩:∃ m',m=m'+1:=⟨m - 1,by omega⟩
   have e1:=hk1 k (by omega)
   have e2:=hk2 k (by omega)
   have e3:=hk3 k m (by omega) (by omega)
   simp only at e1 e2 e3
   show oz k (m+1) (s :: q) out=_
   rw [oz,if_pos ⟨hs,by omega,by omega⟩]
   show ((ny k out (hd s)).bind fun b=>_)=_
   rw [e2,Option.bind_some,e1,Option.bind_some]
   exact e3
def lY:List (List Cell)→Nat→List Src
 | [],_=>[]
 | l :: ls,i=>if l.length=0 then lY ls (i+1) else (⟨l,(i:Int)⟩:Src) :: lY ls (i+1)
theorem qY:∀ {ls:List (List Cell)} {i:Nat} {s:Src},s ∈ lY ls i→∃ j,i≤j∧j<i+ls.length∧s=⟨nA ls (j - i),(j:Int)⟩∧0<s.f0.length
 | [],i,s,h=>by cases h
 | l :: ls,i,s,h=>by
  have hrec:s ∈ lY ls (i+1)→∃ j,i≤j∧j<i+(l :: ls).length∧s=⟨nA (l :: ls) (j - i),(j:Int)⟩∧0<s.f0.length:=by
   intro h
   obtain ⟨j,h1,h2,h3,h4⟩:=qY h
   refine ⟨j,by omega,by rw [List.length_cons];omega,?_,h4⟩
   rw [h3]
   congr 1
   rw [show j - i=(j - (i+1))+1 by omega]
   rfl
  unfold lY at h
  split at h
  ·
   exact hrec h
  ·
   rename_i h0
   rcases List.mem_cons.1 h with rfl | h
   ·
    exact ⟨i,Nat.le_refl _,by simp,by rw [Nat.sub_self];rfl,by show 0<l.length;omega⟩
   ·
    exact hrec h
theorem yZ:∀ {ls:List (List Cell)} {i j:Nat},j<ls.length→0<(nA ls j).length→(⟨nA ls j,((i+j:Nat):Int)⟩:Src) ∈ lY ls i
 | [],_,_,h,_=>by cases h
 | l :: ls,i,0,_,h=>by
  unfold lY
  rw [if_neg (by show ¬ l.length=0;exact Nat.pos_iff_ne_zero.1 h)]
  exact List.mem_cons_self
 | l :: ls,i,j+1,h,h0=>by
  have:=yZ (ls:=ls) (i:=i+1) (j:=j) (by simpa using h) h0
  rw [show i+1+j=i+(j+1) by omega] at this
  unfold lY
  split
  ·
   exact this
  ·
   exact List.mem_cons_of_mem _ this
theorem ud:∀ (ls:List (List Cell)) (i:Nat),((lY ls i).map (fun s:Src=>s.f1)).Nodup
 | [],_=>List.nodup_nil
 | l :: ls,i=>by
  unfold lY
  split
  ·
   exact ud ls (i+1)
  ·
   rw [List.map_cons,List.nodup_cons]
   refine ⟨fun h=>?_,ud ls (i+1)⟩
   obtain ⟨s,hs,he⟩:=List.mem_map.1 h
   obtain ⟨j,h1,_,h2,_⟩:=qY hs
   rw [h2] at he
   simp only at he
   omega
theorem vL:∀ (ls:List (List Cell)) (i:Nat) (q:List Src),q.length+ls.length≤1000000→oI q.length q→(∀ s ∈ q,0<s.f0.length)→∃ q',Ev (fun k=>m9 k ls i q) q'∧q'.Perm (q++lY ls i)∧oI q'.length q'
 | [],i,q,_,hh,_=>⟨q,Ev.now _,by rw [show lY [] i=[] from rfl,List.append_nil],hh⟩
 | l :: ls,i,q,hn,hh,hne=>by
  rw [List.length_cons] at hn
  by_cases h0:l.length=0
  ·
   obtain ⟨q',he,hp,hh'⟩:=vL ls (i+1) q (by omega) hh hne
   refine ⟨q',Ev.congr (fun k=>?_) he,?_,hh'⟩
   ·
    rw [m9,if_pos h0]
   ·
    rw [lY,if_pos h0]
    exact hp
  ·
   have hg1:∀ m,m<q.length→gQ (q++[(⟨l,(i:Int)⟩:Src)]) m=gQ q m:=by
    intro m hm
    unfold gQ
    rw [List.getD_eq_getElem?_getD,List.getD_eq_getElem?_getD,List.getElem?_append_left hm]
   have hne2:∀ s ∈ q++[(⟨l,(i:Int)⟩:Src)],0<s.f0.length:=by
    intro s hs
    rcases List.mem_append.1 hs with hs | hs
    ·
     exact hne s hs
    ·
     rw [List.mem_singleton.1 hs]
     show 0<l.length
     omega
   obtain ⟨r,⟨k1,hk1⟩,hpm,hr⟩:=Gi q.length (q++[(⟨l,(i:Int)⟩:Src)]) (by simp) ⟨fun m h0 hm hp=>by
     rw [List.length_append,List.length_singleton] at hm
     rw [hg1 _ (by omega),hg1 _ (by omega)]
     exact hh m h0 (by omega),fun _ m h0 hm hp=>by
     rw [List.length_append,List.length_singleton] at hm
     omega⟩ (fun m hm=>hne2 _ (sO hm))
   have hrl:r.length=q.length+1:=by rw [hpm.length_eq];simp
   obtain ⟨q',⟨k2,hk2⟩,hp,hh'⟩:=vL ls (i+1) r (by omega) hr (fun s hs=>hne2 s (hpm.subset hs))
   refine ⟨q',⟨k1+k2,fun k hk=>?_⟩,?_,hh'⟩
   ·
    have e1:=hk1 k k (by omega) (by omega)
    have e2:=hk2 k (by omega)
    simp only at e1 e2
    show m9 k (l :: ls) i q=_
    rw [m9,if_neg h0,if_pos (by omega),e1,Option.bind_some]
    exact e2
   ·
    rw [lY,if_neg h0]
    refine hp.trans ((hpm.append_right _).trans ?_)
    rw [List.append_assoc]
    exact List.Perm.refl _
def gh (L:List (List Cell)):Nat:=(L.map List.length).sum
theorem yM:∀ (ls:List (List Cell)) (i:Nat),ow (lY ls i)=gh ls
 | [],_=>rfl
 | l :: ls,i=>by
  have:=yM ls (i+1)
  unfold lY
  split
  ·
   rename_i h0
   rw [this]
   simp [gh,h0]
  ·
   rw [pQ,this]
   simp [gh]
theorem ze {L:List (List Cell)} (hL:gA L) (hn:L.length≤1000) (ht:gh L≤100000):∃ r,Ev (fun k=>fN.f k L) r∧oX L r:=by
 obtain ⟨q,⟨k1,hk1⟩,hp,hh⟩:=vL L 0 [] (by simp;omega) (fun m _ hm=>by cases hm) (fun s hs=>by cases hs)
 rw [List.nil_append] at hp
 have hinv:vV L q []:=by
  refine ⟨hh,fun s hs=>?_,(hp.map _).nodup_iff.2 (ud L 0),fun s hs=>?_,fun i hi hno c hc=>?_,List.Pairwise.nil,fun c hc=>(by cases hc),fun d hd=>(by cases hd)⟩
  ·
   obtain ⟨j,_,_,_,h4⟩:=qY (hp.subset hs)
   exact h4
  ·
   obtain ⟨j,_,h2,h3,_⟩:=qY (hp.subset hs)
   refine ⟨j,by rw [h3],by omega,[],?_,fun c hc=>by cases hc⟩
   rw [h3]
   rfl
  ·
   have:=yZ (ls:=L) (i:=0) hi (List.length_pos_of_mem hc)
   rw [Nat.zero_add] at this
   exact absurd rfl (hno _ (hp.symm.subset this))
 have htq:ow q=gh L:=by rw [wG hp,yM]
 obtain ⟨r,⟨k2,hk2⟩,hr⟩:=EQ hL (gh L) q [] (by omega) (by simp;omega) hinv
 refine ⟨r,⟨k1+k2+1,fun k hk=>?_⟩,hr⟩
 have e1:=hk1 k (by omega)
 have e2:=hk2 k k (by omega) (by omega)
 simp only at e1 e2
 show fN.f k L=_
 unfold fN.f
 rw [if_neg (by omega),e1,Option.bind_some]
 exact e2
theorem qd (L:List (List Cell)) (i:Nat) (h:i<L.length):nA L i=L[i]:=by
 unfold nA
 rw [List.getD_eq_getElem?_getD,List.getElem?_eq_getElem h]
 rfl
theorem gM (l:List Cell) (L:List (List Cell)):gh (l :: L)=l.length+gh L:=by simp [gh]
def cE (L:List (List Cell)):List Cell:=L.foldr (fun l o=>l.foldl (fun o c=>ins c o) o) []
theorem jI:∀ {L:List (List Cell)},gA L→oX L (cE L)
 | [],_=>⟨List.Pairwise.nil,fun c hc=>(by cases hc),fun i hi=>(by cases hi)⟩
 | l :: L,h=>by
  have hl:eT l:=h 0
  obtain ⟨i1,i2,i3⟩:=jI (L:=L) (fun i=>h (i+1))
  have hm:∀ c,c ∈ cE (l :: L)↔c ∈ l∨(c ∈ cE L∧∀ d ∈ l,cc d c≠0):=fun c=>gX hl i1
  refine ⟨hO l i1,fun c hc=>?_,fun i hi c hc=>?_⟩
  ·
   rcases (hm c).1 hc with hc | ⟨hc,h0⟩
   ·
    exact ⟨0,by simp,hc,fun j hj=>by omega⟩
   ·
    obtain ⟨i,e1,e2,e3⟩:=i2 c hc
    refine ⟨i+1,by rw [List.length_cons];omega,e2,fun j hj d hd=>?_⟩
    cases j with
    | zero=>exact h0 d hd
    | succ j=>exact e3 j (by omega) d hd
  ·
   cases i with
   | zero=>exact ⟨c,(hm c).2 (.inl hc),oT c⟩
   | succ i=>
    obtain ⟨d,hd,h0⟩:=i3 i (by simpa using hi) c hc
    by_cases hex:∃ e ∈ l,cc e d=0
    ·
     obtain ⟨e,he,h1⟩:=hex
     exact ⟨e,(hm e).2 (.inl he),by rw [lN h1];exact h0⟩
    ·
     exact ⟨d,(hm d).2 (.inr ⟨hd,fun e he h1=>hex ⟨e,he,h1⟩⟩),h0⟩
theorem sG:∀ {L:List (List Cell)} {l:List Cell},l ∈ L→l.length≤gh L
 | m :: L,l,h=>by
  rw [gM]
  rcases List.mem_cons.1 h with rfl | h
  ·
   omega
  ·
   have:=sG h
   omega
theorem rW {L:List (List Cell)} (hL:gA L) (hn:L.length≤1000) (ht:gh L≤100000):Ev (fun k=>fN.f k L) (cE L):=by
 obtain ⟨r,he,hr⟩:=ze hL hn ht
 rw [zx hL (jI hL) hr]
 exact he
theorem jK:∀ (L:List (List Cell)),(cE L).length≤gh L
 | []=>Nat.zero_le _
 | l :: L=>by
  have:=jK L
  have:=sw l (cE L)
  rw [gM]
  show (l.foldl (fun o c=>ins c o) (cE L)).length≤_
  omega
theorem uV {l:List Cell} (h:eT l):cE [l]=l:=by
 refine oW (hO l List.Pairwise.nil) h (fun c=>?_)
 rw [show cE [l]=l.foldl (fun o c=>ins c o) [] from rfl,gX h List.Pairwise.nil]
 exact ⟨fun hc=>hc.elim id (fun hc=>by cases hc.1),.inl⟩
theorem pM {l:List Cell} {L:List (List Cell)} (h:gA (l :: L)):gA L:=fun i=>h (i+1)
theorem jq {L:List (List Cell)} (h:gA L):eT (cE L):=(jI h).ord
theorem rD {a b:List Cell} (ha:eT a) (hb:eT b) (c:Cell):c ∈ cE [a,b]↔c ∈ a∨(c ∈ b∧∀ d ∈ a,cc d c≠0):=by
 have e:cE [a,b]=a.foldl (fun o c=>ins c o) b:=by
  show a.foldl (fun o c=>ins c o) (cE [b])=_
  rw [uV hb]
 rw [e,gX ha hb]
theorem kL:∀ {X Y:List (List Cell)},gA X→gA Y→cE (X++Y)=cE [cE X,cE Y]
 | [],Y,_,hY=>by
  have hy:=jq hY
  show cE Y=_
  refine oW hy (hO _ (hO _ List.Pairwise.nil)) (fun c=>?_)
  rw [rD (a:=cE []) List.Pairwise.nil hy]
  exact ⟨fun h=>.inr ⟨h,fun d hd=>by cases hd⟩,fun h=>h.elim (fun h=>by cases h) (fun h=>h.1)⟩
 | l :: X,Y,hX,hY=>by
  have hl:eT l:=hX 0
  have hX':=pM hX
  have hx:=jq hX'
  have hy:=jq hY
  have ih:=kL hX' hY
  have hxl:eT (cE (l :: X)):=jq hX
  have h2:eT (cE [cE X,cE Y]):=hO _ (hO _ List.Pairwise.nil)
  have e:cE (l :: X++Y)=l.foldl (fun o c=>ins c o) (cE [cE X,cE Y]):=by
   show l.foldl (fun o c=>ins c o) (cE (X++Y))=_
   rw [ih]
  rw [e]
  refine oW (hO l h2) (hO _ (hO _ List.Pairwise.nil)) (fun c=>?_)
  have hm:∀ c,c ∈ cE (l :: X)↔c ∈ l∨(c ∈ cE X∧∀ d ∈ l,cc d c≠0):=fun c=>gX hl hx
  rw [gX hl h2,rD hx hy,rD hxl hy,hm]
  constructor
  ·
   rintro (h | ⟨h | ⟨h1,h3⟩,h4⟩)
   ·
    exact .inl (.inl h)
   ·
    exact .inl (.inr ⟨h,h4⟩)
   ·
    refine .inr ⟨h1,fun d hd=>?_⟩
    rcases (hm d).1 hd with hd | hd
    ·
     exact h4 d hd
    ·
     exact h3 d hd.1
  ·
   rintro ((h | ⟨h1,h2⟩) | ⟨h1,h2⟩)
   ·
    exact .inl h
   ·
    exact .inr ⟨.inl h1,h2⟩
   ·
    refine .inr ⟨.inr ⟨h1,fun d hd h0=>?_⟩,fun d hd=>h2 d ((hm d).2 (.inl hd))⟩
    by_cases hex:∃ e ∈ l,cc e d=0
    ·
     obtain ⟨e,he,h3⟩:=hex
     exact h2 e ((hm e).2 (.inl he)) (by rw [lN h3];exact h0)
    ·
     exact h2 d ((hm d).2 (.inr ⟨hd,fun e he h3=>hex ⟨e,he,h3⟩⟩)) h0
theorem j4 {L:List (List Cell)}:gA L↔∀ l ∈ L,eT l:=by
 constructor
 ·
  intro h l hl
  obtain ⟨i,hi,rfl⟩:=List.getElem_of_mem hl
  have:=h i
  rw [qd L i hi] at this
  exact this
 ·
  intro h i
  by_cases hi:i<L.length
  ·
   rw [qd L i hi]
   exact h _ (List.getElem_mem hi)
  ·
   unfold nA
   rw [List.getD_eq_getElem?_getD,List.getElem?_eq_none (by omega)]
   exact List.Pairwise.nil
theorem lJ:∀ (X Y:List (List Cell)),gh (X++Y)=gh X+gh Y
 | [],Y=>by simp [gh]
 | l :: X,Y=>by
  have:=lJ X Y
  rw [List.cons_append,gM,gM]
  omega
abbrev jx:=List Cell × List (List Cell) × List Int
structure lK (t:jx):Prop where
 srt:iG t.1
 ne:t.1≠[]
 get:∀ (r c:ByteArray) (a:Int),r.size≤10000→c.size≤10000→Ev (fun k=>dA.f k t.2.1 t.2.2 r c a) (jD (dL r c a t.1))
def Makes (s:Int) (P:Cell→Prop) (N:Nat):Prop:=∀ l,iG l→l≠[]→l.length≤N→(∀ c ∈ l,P c)→∃ t:jx,t.1=l∧Ev (fun k=>eD.f k l s) t∧lK t
theorem Ek {s:Int} {W N:Nat} {P:Cell→Prop} (h1:1≤s) (h2:s≤4096) (hN:N≤420) (hW:W*N≤60150) (hP:∀ c,P c→(jr c).length≤W):Makes s P N:=fun l hs hn hl hq=>by
 have hw:∀ c ∈ l,(jr c).length≤W:=fun c hc=>hP c (hq c hc)
 have h0:0<s.toNat:=by omega
 have hW1:W*l.length≤60150:=Nat.le_trans (Nat.mul_le_mul_left W hl) hW
 have hg:=ni s.toNat l [] 0
 have hg2:(iH s.toNat l [] 0).length≤1000:=by omega
 refine ⟨(l,iH s.toNat l [] 0,eK l),rfl,?_,hs,hn,fun r c a hr hc=>FJ r c a (by rw [pu,List.nil_append]) (tO hs (by omega) hw hW1 h0) hs (by omega) hg2 hr hc⟩
 have hb:=uo (l:=l) s (by omega) hw hW1
 unfold yw at hb
 rw [if_pos ⟨kS.2 hs,h1⟩] at hb
 unfold eD.f
 exact Ev.neg hn (Ev.bind hb (Ev.pos rfl (Ev.bind (Cw hs (by omega) hw hW1 h0 (by omega)) (Ev.now _))))
def tl (ls:List (List jx)):List (List Cell):=ls.flatten.map (fun t=>t.1)
theorem sJ (a b:List (List jx)):tl (a++b)=tl a++tl b:=by simp [tl]
theorem kW (a:List jx) (b:List (List jx)):tl (a :: b)=a.map (fun t=>t.1)++tl b:=by simp [tl]
theorem BJ:∀ (l:List jx) (o:List (List Cell)),(∀ t ∈ l,t.1.length≤1000000000)→o.length+l.length≤1000000→cw.l1 l o=some (o++l.map (fun t=>t.1))
 | [],o,_,_=>by simp [cw.l1]
 | t :: l,o,h,hl=>by
  simp only [List.length_cons] at hl
  have ih:=BJ l (o++[t.1]) (fun x hx=>h x (List.mem_cons_of_mem _ hx)) (by rw [List.length_append,List.length_singleton];omega)
  simp only [cw.l1]
  rw [qm (h t List.mem_cons_self)]
  show (if o.length<2199023255552 then cw.l1 l (o++[t.1]) else none)=_
  rw [if_pos (by omega),ih,List.append_assoc]
  rfl
theorem D1:∀ (ls:List (List jx)) (o:List (List Cell)),(∀ l ∈ ls,∀ t ∈ l,t.1.length≤1000000000)→o.length+ls.flatten.length≤1000000→cw.l0 ls o=some (o++tl ls)
 | [],o,_,_=>by simp [cw.l0,tl]
 | l :: ls,o,h,hl=>by
  rw [List.flatten_cons,List.length_append] at hl
  simp only [cw.l0]
  rw [BJ l o (h l List.mem_cons_self) (by omega)]
  show cw.l0 ls (o++l.map (fun t=>t.1))=_
  rw [D1 ls _ (fun x hx=>h x (List.mem_cons_of_mem _ hx)) (by rw [List.length_append,List.length_map];omega),kW,List.append_assoc]
structure fE (P:Cell→Prop) (p:Nat) (xs:List Cell) (n:Int) (ls:List (List jx)):Prop where
 srt:iG xs
 siz:n=fU xs
 tab:∀ l ∈ ls,∀ t ∈ l,lK t
 tot:gh (xs :: tl ls)≤p
 wid:∀ l ∈ xs :: tl ls,∀ c ∈ l,P c
theorem uU:∀ (l:List jx),(∀ t ∈ l,lK t)→l.length≤gh (l.map (fun t=>t.1))
 | [],_=>Nat.zero_le _
 | t :: l,h=>by
  have h1:=uU l (fun x hx=>h x (List.mem_cons_of_mem _ hx))
  have h2:=List.length_pos_iff.2 (h t List.mem_cons_self).ne
  rw [List.map_cons,gM,List.length_cons]
  omega
section
variable {P:Cell→Prop} {p:Nat} {xs:List Cell} {n:Int} {ls:List (List jx)}
theorem fE.ok (h:fE P p xs n ls):∀ t ∈ ls.flatten,lK t:=fun t ht=>by
 obtain ⟨l,hl,ht⟩:=List.mem_flatten.1 ht
 exact h.tab l hl t ht
theorem fE.few (h:fE P p xs n ls):xs.length+ls.flatten.length≤p:=by
 have h1:=uU ls.flatten h.ok
 have h2:=h.tot
 rw [gM] at h2
 have h3:gh (tl ls)=gh (ls.flatten.map (fun t=>t.1)):=rfl
 omega
theorem fE.small (h:fE P p xs n ls) {t:jx} (ht:t ∈ ls.flatten):t.1.length≤p:=by
 have h1:=sG (L:=xs :: tl ls) (List.mem_cons_of_mem _ (List.mem_map.2 ⟨t,ht,rfl⟩))
 have h2:=h.tot
 omega
theorem fE.o9 (h:fE P p xs n ls):gA (xs :: tl ls):=j4.2 (fun l hl=>by
 rcases List.mem_cons.1 hl with rfl | hl
 ·
  exact h.srt.2
 ·
  obtain ⟨t,ht,rfl⟩:=List.mem_map.1 hl
  exact (h.ok t ht).srt.2)
theorem o7 (h:fE P p xs n ls) (hp:p≤900):Ev (fun k=>cX.f k xs ls) (cE (xs :: tl ls)):=by
 have hf:=h.few
 unfold cX.f
 refine Ev.bind (a:=xs :: tl ls) ?_ (rW h.o9 (by rw [List.length_cons];unfold tl;rw [List.length_map];omega) (by have:=h.tot;omega))
 unfold cw.f
 rw [qm (by omega)]
 have h0:=D1 ls [xs] (fun l hl t ht=>by have:=h.small (List.mem_flatten.2 ⟨l,hl,ht⟩);omega) (by rw [List.length_singleton];omega)
 rw [show (some xs).bind (fun c=>cw.l0 ls [c])=cw.l0 ls [xs] from rfl,h0]
 exact Ev.now _
end
theorem BD {U V W:List (List Cell)} (hU:gA U) (hV:gA V) (hW:gA W):cE (U++(V++W))=cE (U++(cE V :: W)):=by
 have hr:=jq hV
 have h1:gA [cE V]:=j4.2 (fun l hl=>by rw [List.mem_singleton.1 hl];exact hr)
 have hap:∀ {A B:List (List Cell)},gA A→gA B→gA (A++B):=fun hA hB=>j4.2 (fun l hl=>(List.mem_append.1 hl).elim (j4.1 hA l) (j4.1 hB l))
 rw [show cE V :: W=[cE V]++W from rfl,kL hU (hap hV hW),kL hU (hap h1 hW),kL hV hW,kL h1 hW,uV hr]
theorem zj {α:Type} (z a b:α):∀ (i:Nat) (l:List α),i+1<l.length→l=l.take i++l.getD i z :: l.getD (i+1) z :: l.drop (i+2)∧(l.set i a).set (i+1) b=l.take i++a :: b :: l.drop (i+2)
 | 0,x :: y :: l,_=>⟨rfl,rfl⟩
 | 0,[],h=>absurd h (by simp)
 | 0,[_],h=>absurd h (by simp)
 | i+1,[],h=>absurd h (by simp)
 | i+1,x :: l,h=>by
  obtain ⟨h1,h2⟩:=zj z a b i l (by simpa using h)
  refine ⟨?_,?_⟩
  ·
   have:=congrArg (List.cons x) h1
   simpa using this
  ·
   have:=congrArg (List.cons x) h2
   simpa using this
theorem ED {L:List (List Cell)} (h:∀ l ∈ L,iG l):iG (cE L):=by
 have ho:gA L:=j4.2 (fun l hl=>(h l hl).2)
 refine ⟨fun c hc=>?_,jq ho⟩
 obtain ⟨i,h1,h2,_⟩:=(jI ho).win c hc
 rw [qd L i h1] at h2
 exact (h _ (List.getElem_mem _)).1 c h2
theorem Fu {L:List (List Cell)} (ho:gA L) {l:List Cell} (hl:l ∈ L) (hn:l≠[]):cE L≠[]:=fun he=>by
 obtain ⟨c,hc⟩:=List.exists_mem_of_ne_nil l hn
 obtain ⟨i,hi,e⟩:=List.getElem_of_mem hl
 obtain ⟨d,hd,_⟩:=(jI ho).all i hi c (by rw [qd L i hi,e];exact hc)
 rw [he] at hd
 cases hd
structure G2 (P:Cell→Prop) (p:Nat) (xs:List Cell) (n:Int) (i:Nat) (ls r:List (List jx)):Prop where
 inv:fE P p xs n r
 all:cE (xs :: tl r)=cE (xs :: tl ls)
 len:r.length=(bV.gl ls i).length
theorem CW {ls:List (List jx)} {i:Nat} (hi:i<ls.length):i+1<(bV.gl ls i).length∧tl (bV.gl ls i)=tl ls∧(∀ l ∈ bV.gl ls i,l ∈ ls∨l=[])∧(bV.gl ls i).length≤ls.length+1∧(bV.gl ls i).getD i []=ls.getD i []∧(i+1<ls.length→bV.gl ls i=ls):=by
 unfold bV.gl
 by_cases e:i+1=ls.length
 ·
  rw [if_pos e]
  refine ⟨by rw [List.length_append,List.length_singleton];omega,by rw [sJ];simp [tl],fun l hl=>?_,by rw [List.length_append,List.length_singleton];omega,?_,fun h=>absurd e (by omega)⟩
  ·
   rcases List.mem_append.1 hl with h | h
   ·
    exact .inl h
   ·
    exact .inr (List.mem_singleton.1 h)
  ·
   rw [List.getD_eq_getElem?_getD,List.getElem?_append_left hi,← List.getD_eq_getElem?_getD]
 ·
  rw [if_neg e]
  exact ⟨by omega,rfl,fun l hl=>.inl hl,by omega,rfl,fun _=>rfl⟩
theorem EW {s:Int} {P:Cell→Prop} {p:Nat} {xs:List Cell} {n:Int} {ls:List (List jx)} {i:Nat} (hM:Makes s P p) (hp:p≤900) (h:fE P p xs n ls) (hlv:ls.length≤1000000) (hi:i<ls.length) (hx:ls.getD i []≠[]) :
  ∃ r t,Ev (fun k=>bV.f k s ls i) r∧r=((bV.gl ls i).set i []).set (i+1) [t]∧G2 P p xs n i ls r:=by
 obtain ⟨g1,g2,g3,g4,g5,_⟩:=CW hi
 generalize hG:bV.gl ls i=G at g1 g2 g3 g4 g5
 have hGt:∀ l ∈ G,∀ t ∈ l,lK t:=fun l hl t ht=>(g3 l hl).elim (fun h1=>h.tab l h1 t ht) (fun h1=>by rw [h1] at ht;cases ht)
 obtain ⟨X,hX⟩:∃ X,G.getD i []=X:=⟨_,rfl⟩
 obtain ⟨Y,hY⟩:∃ Y,G.getD (i+1) []=Y:=⟨_,rfl⟩
 have hd:=(zj ([]:List jx) [] [] i G g1).1
 rw [hX,hY] at hd
 generalize hA:G.take i=A at hd
 generalize hB:G.drop (i+2)=B at hd
 have hXm:X ∈ G:=by rw [hd];simp
 have hYm:Y ∈ G:=by rw [hd];simp
 have hXYt:∀ t ∈ X++Y,lK t:=fun t ht=>(List.mem_append.1 ht).elim (hGt X hXm t) (hGt Y hYm t)
 have hAt:∀ t ∈ A.flatten,lK t:=fun t ht=>by
  obtain ⟨l,hl,ht⟩:=List.mem_flatten.1 ht
  exact hGt l (by rw [hd];exact List.mem_append_left _ hl) t ht
 have hBt:∀ t ∈ B.flatten,lK t:=fun t ht=>by
  obtain ⟨l,hl,ht⟩:=List.mem_flatten.1 ht
  exact hGt l (by rw [hd];simp [hl]) t ht
 have o9:∀ {l:List jx},(∀ t ∈ l,lK t)→gA (l.map (fun t=>t.1)):=fun hl=>j4.2 (fun l hm=>by
  obtain ⟨t,ht,rfl⟩:=List.mem_map.1 hm
  exact (hl t ht).srt.2)
 have htl:tl ls=tl A++((X++Y).map (fun t=>t.1)++tl B):=by
  rw [←g2,hd,sJ,kW,kW,List.map_append,List.append_assoc]
 have htot:=h.tot
 have hl1:gh (xs :: tl ls)=xs.length+(gh (tl A)+(gh ((X++Y).map (fun t=>t.1))+gh (tl B))):=by rw [gM,htl,lJ,lJ]
 obtain ⟨C,hC⟩:∃ C,cE ((X++Y).map (fun t=>t.1))=C:=⟨_,rfl⟩
 have hCl:C.length≤gh ((X++Y).map (fun t=>t.1)):=hC▸jK _
 have hXne:X≠[]:=by rw [←hX,g5];exact hx
 have hCs:iG C:=hC▸ED (fun l hm=>by
  obtain ⟨t,ht,rfl⟩:=List.mem_map.1 hm
  exact (hXYt t ht).srt)
 have hCn:C≠[]:=by
  obtain ⟨t,ht⟩:=List.exists_mem_of_ne_nil X hXne
  exact hC▸Fu (o9 hXYt) (List.mem_map.2 ⟨t,List.mem_append_left _ ht,rfl⟩) (hGt X hXm t ht).ne
 have hCw:∀ c ∈ C,P c:=fun c hc=>by
  rw [←hC] at hc
  obtain ⟨j,h1,h2,_⟩:=(jI (o9 hXYt)).win c hc
  rw [qd _ j h1] at h2
  exact h.wid _ (List.mem_cons_of_mem _ (by rw [htl];exact List.mem_append_right _ (List.mem_append_left _ (List.getElem_mem h1)))) c h2
 obtain ⟨t,ht1,ht2,ht3⟩:=hM C hCs hCn (by omega) hCw
 have hlen:X.length+Y.length≤gh ((X++Y).map (fun t=>t.1)):=by
  rw [←List.length_append]
  exact uU (X++Y) hXYt
 have hr:=(zj ([]:List jx) [] [t] i G g1).2
 rw [hA,hB] at hr
 refine ⟨(G.set i []).set (i+1) [t],t,?_,rfl,?_⟩
 ·
  unfold bV.f
  rw [hG,hX,hY]
  refine Ev.pos ⟨by omega,by omega⟩ (Ev.bind (a:=(X++Y).map (fun t=>t.1)) ?_ (Ev.bind (a:=C) ?_ (Ev.bind ht2 (Ev.now _))))
  ·
   rw [BJ (X++Y) [] (fun t ht=>by have:=sG (L:=(X++Y).map (fun t=>t.1)) (List.mem_map.2 ⟨t,ht,rfl⟩);omega) (by rw [List.length_append,List.length_nil];omega),List.nil_append]
   exact Ev.now _
  ·
   rw [←hC]
   exact rW (o9 hXYt) (by rw [List.length_map,List.length_append];omega) (by omega)
 ·
  have htr:tl ((G.set i []).set (i+1) [t])=tl A++(C :: tl B):=by
   rw [hr,sJ,kW,kW,List.map_nil,List.nil_append,List.map_cons,List.map_nil,ht1]
   rfl
  have hl2:gh (xs :: tl ((G.set i []).set (i+1) [t]))=xs.length+(gh (tl A)+(C.length+gh (tl B))):=by rw [gM,htr,lJ,gM]
  have hal:cE (xs :: tl ((G.set i []).set (i+1) [t]))=cE (xs :: tl ls):=by
   rw [htr,htl,← List.cons_append,← List.cons_append,← hC]
   exact (BD (U:=xs :: tl A) (j4.2 (fun l hl=>by
    rcases List.mem_cons.1 hl with rfl | hl
    ·
     exact h.srt.2
    ·
     exact j4.1 (o9 hAt) l hl)) (o9 hXYt) (o9 hBt)).symm
  refine ⟨⟨h.srt,h.siz,fun l hl t' ht'=>?_,by omega,fun l hl c hc=>?_⟩,hal,by rw [List.length_set,List.length_set,hG]⟩
  rotate_left
  ·
   rw [htr] at hl
   rcases List.mem_cons.1 hl with rfl | hl
   ·
    exact h.wid _ List.mem_cons_self c hc
   ·
    rcases List.mem_append.1 hl with hl | hl
    ·
     exact h.wid _ (List.mem_cons_of_mem _ (by rw [htl];exact List.mem_append_left _ hl)) c hc
    ·
     rcases List.mem_cons.1 hl with rfl | hl
     ·
      exact hCw c hc
     ·
      exact h.wid _ (List.mem_cons_of_mem _ (by rw [htl];exact List.mem_append_right _ (List.mem_append_right _ hl))) c hc
  rw [hr] at hl
  rcases List.mem_append.1 hl with h1 | h1
  ·
   exact hGt l (by rw [hd];exact List.mem_append_left _ h1) t' ht'
  ·
   rcases List.mem_cons.1 h1 with rfl | h1
   ·
    cases ht'
   ·
    rcases List.mem_cons.1 h1 with rfl | h1
    ·
     rw [List.mem_singleton.1 ht'];exact ht3
    ·
     exact hGt l (by rw [hd];simp [h1]) t' ht'
section
variable {P:Cell→Prop} {p:Nat} {xs:List Cell} {n:Int} {ls:List (List jx)} {s s3:Int}
theorem D5 {r1 r:List (List jx)} {i:Nat} (h1:Ev (fun k=>bV.f k s ls i) r1) (hi:i<ls.length) (hs:s3<((ls.getD i []).length:Int)) (h2:vk (fun k m=>bh.lp k s s3 m (i+1) r1) r):vk (fun k m=>bh.lp k s s3 m i ls) r:=by
 obtain ⟨k1,h1⟩:=h1
 obtain ⟨k2,h2⟩:=h2
 refine ⟨max k1 (k2+1),fun k m hk hm=>?_⟩
 obtain ⟨m,rfl⟩:∃ j,m=j+1:=⟨m - 1,by omega⟩
 simp only [bh.lp]
 rw [if_pos hi,if_pos hs,show bV.f k s ls i=some r1 from h1 k (by omega)]
 exact h2 k m (by omega) (by omega)
theorem Ed {r:List (List jx)} {i:Nat} (hi:i<ls.length) (hs:¬ s3<((ls.getD i []).length:Int)) (h2:vk (fun k m=>bh.lp k s s3 m (i+1) ls) r):vk (fun k m=>bh.lp k s s3 m i ls) r:=by
 obtain ⟨k2,h2⟩:=h2
 refine ⟨k2+1,fun k m hk hm=>?_⟩
 obtain ⟨m,rfl⟩:∃ j,m=j+1:=⟨m - 1,by omega⟩
 simp only [bh.lp]
 rw [if_pos hi,if_neg hs]
 exact h2 k m (by omega) (by omega)
theorem Ce {i:Nat} (hi:¬ i<ls.length):vk (fun k m=>bh.lp k s s3 m i ls) ls:=by
 refine ⟨1,fun k m _ hm=>?_⟩
 obtain ⟨m,rfl⟩:∃ j,m=j+1:=⟨m - 1,by omega⟩
 simp only [bh.lp]
 rw [if_neg hi]
theorem Gg (hM:Makes s P p) (hp:p≤900) (h3:1≤s3) (d:Nat):∀ (i:Nat) (ls:List (List jx)),ls.length - i=d→fE P p xs n ls→ls.length+1≤1000000→
  ∃ r,vk (fun k m=>bh.lp k s s3 m i ls) r∧fE P p xs n r∧cE (xs :: tl r)=cE (xs :: tl ls)∧r.length≤ls.length+1:=by
 induction d with
 | zero=>exact fun i ls hd h hl=>⟨ls,Ce (by omega),h,rfl,by omega⟩
 | succ d ih=>
  intro i ls hd h hl
  have hi:i<ls.length:=by omega
  by_cases hs:s3<((ls.getD i []).length:Int)
  rotate_left
  ·
   obtain ⟨r,h1,h2,h4,h5⟩:=ih (i+1) ls (by omega) h hl
   exact ⟨r,Ed hi hs h1,h2,h4,h5⟩
  have hx:ls.getD i []≠[]:=fun e=>by
   rw [e] at hs
   have:s3<0:=hs
   omega
  obtain ⟨r1,t,e1,e2,e3⟩:=EW hM hp h (by omega) hi hx
  obtain ⟨g1,_,_,g4,_,g6⟩:=CW hi
  have hlen:=e3.len
  by_cases hlast:i+1<ls.length
  ·
   rw [g6 hlast] at hlen
   obtain ⟨r,h1,h2,h4,h5⟩:=ih (i+1) r1 (by omega) e3.inv (by omega)
   exact ⟨r,D5 e1 hi hs h1,h2,h4.trans e3.all,by omega⟩
  ·
   have hb:¬ s3<((r1.getD (i+1) []).length:Int):=by
    rw [e2,List.getD_eq_getElem?_getD,List.getElem?_set_self (by rw [List.length_set];exact g1)]
    show ¬ s3<1
    omega
   exact ⟨r1,D5 e1 hi hs (Ed (by omega) hb (Ce (by omega))),e3.inv,e3.all,by omega⟩
theorem za (hM:Makes s P p) (hp:p≤900) (h3:1≤s3) (h:fE P p xs n ls) (hx:xs≠[]) (hl:ls.length+2≤1000000) :
  ∃ r,Ev (fun k=>bh.f k s s3 xs n ls) ([],0,r)∧fE P p [] 0 r∧cE ([] :: tl r)=cE (xs :: tl ls)∧r.length≤ls.length+2:=by
 have htot:=h.tot
 rw [gM] at htot
 have hfew:=h.few
 obtain ⟨t,ht1,ht2,ht3⟩:=hM xs h.srt hx (by omega) (h.wid xs List.mem_cons_self)
 obtain ⟨G,hG⟩:∃ G,bh.gl ls=G:=⟨_,rfl⟩
 have hg:(∃ l0 R,G=l0 :: R)∧tl G=tl ls∧(∀ l ∈ G,l ∈ ls∨l=[])∧G.length≤ls.length+1:=by
  rw [←hG]
  unfold bh.gl
  by_cases e:ls.length=0
  ·
   rw [if_pos e,List.length_eq_zero_iff.1 e]
   exact ⟨⟨[],[],rfl⟩,rfl,fun l hl=>.inr (List.mem_singleton.1 hl),by simp⟩
  ·
   rw [if_neg e]
   exact ⟨List.exists_cons_of_length_pos (by omega),rfl,fun l hl=>.inl hl,by omega⟩
 obtain ⟨⟨l0,R,rfl⟩,g2,g3,g4⟩:=hg
 have hl0:l0.length≤p:=by
  have h1:=uU l0 (fun x hx=>(g3 l0 List.mem_cons_self).elim (fun h1=>h.tab l0 h1 x hx) (fun h1=>by rw [h1] at hx;cases hx))
  rw [←g2,kW,lJ] at htot
  omega
 have htl:tl ((l0 :: R).set 0 (t :: l0))=xs :: tl ls:=by
  rw [←g2]
  show tl ((t :: l0) :: R)=_
  rw [kW,kW,List.map_cons,ht1]
  rfl
 have hI:fE P p [] 0 ((l0 :: R).set 0 (t :: l0)):=⟨vO,by simp [fU],fun l hl x hx=>by
  rcases List.mem_cons.1 (show l ∈ (t :: l0) :: R from hl) with rfl | hl
  ·
   rcases List.mem_cons.1 hx with rfl | hx
   ·
    exact ht3
   ·
    exact (g3 l0 List.mem_cons_self).elim (fun h1=>h.tab l0 h1 x hx) (fun h1=>by rw [h1] at hx;cases hx)
  ·
   exact (g3 l (List.mem_cons_of_mem _ hl)).elim (fun h1=>h.tab l h1 x hx) (fun h1=>by rw [h1] at hx;cases hx),by rw [gM,htl,gM,List.length_nil];omega,fun l hl c hc=>by
  rcases List.mem_cons.1 hl with rfl | hl
  ·
   cases hc
  ·
   rw [htl] at hl;exact h.wid l hl c hc⟩
 obtain ⟨r,⟨k0,h1⟩,h2,h4,h5⟩:=Gg hM hp h3 _ 0 _ rfl hI (by rw [List.length_set];omega)
 rw [List.length_set] at h5
 refine ⟨r,?_,h2,h4.trans (by rw [htl];rfl),by omega⟩
 unfold bh.f
 rw [hG,qm (by omega)]
 refine Ev.neg (fun e=>hx (List.length_eq_zero_iff.1 e)) (Ev.pos ⟨by omega,?_⟩ (Ev.bind (Ev.now _) (Ev.bind ht2 (Ev.bind (a:=r) ⟨k0,fun k hk=>h1 k k hk hk⟩ (Ev.now _)))))
 show l0.length<1099511627776
 omega
theorem Cx (hM:Makes s P p) (hp:p≤900) (h3:1≤s3) (h:fE P p xs n ls) (hl:ls.length+2≤1000000) :
  ∃ xs' n' r,Ev (fun k=>bh.f k s s3 xs n ls) (xs',n',r)∧fE P p xs' n' r∧cE (xs' :: tl r)=cE (xs :: tl ls)∧r.length≤ls.length+2:=by
 by_cases hx:xs=[]
 ·
  refine ⟨xs,n,ls,?_,h,rfl,by omega⟩
  unfold bh.f
  exact Ev.pos (by rw [hx];rfl) (Ev.now _)
 ·
  obtain ⟨r,h1,h2⟩:=za hM hp h3 h hx hl
  exact ⟨[],0,r,h1,h2⟩
def r8 (a b:ByteArray) (t:Int) (l:List Cell):Bool:=(jD (dL a b t l)).2.2.2.2.2 && (jD (dL a b t l)).2.2.1 == t
theorem Ft (h:fE P p xs n ls) (hp:p≤900) (a b:ByteArray) (t:Int) (ha:a.size≤10000) (hb:b.size≤10000):Ev (fun k=>bQ.f k xs ls a b t) ((xs :: tl ls).any (r8 a b t)):=by
 have l1:∀ l:List jx,(∀ x ∈ l,lK x)→Ev (fun k=>bQ.l1 k a b t l) ((l.map (fun x=>x.1)).any (r8 a b t)):=fun l=>by
  induction l with
  | nil=>exact fun _=>Ev.now _
  | cons x l ih=>
   intro hx
   have hv:=ih (fun y hy=>hx y (List.mem_cons_of_mem _ hy))
   have hg:=(hx x List.mem_cons_self).get a b t ha hb
   rw [List.map_cons,List.any_cons]
   cases hc:r8 a b t x.1 with
   | true=>exact Ev.bind hg (Ev.pos hc (Ev.now _))
   | false=>exact Ev.bind hg (Ev.neg (fun h1=>Bool.false_ne_true (hc.symm.trans h1)) hv)
 have l0:∀ ls:List (List jx),(∀ l ∈ ls,∀ x ∈ l,lK x)→Ev (fun k=>bQ.l0 k a b t ls) ((tl ls).any (r8 a b t)):=fun ls=>by
  induction ls with
  | nil=>exact fun _=>Ev.now _
  | cons l ls ih=>
   intro hl
   have hv:=ih (fun y hy=>hl y (List.mem_cons_of_mem _ hy))
   have hu:=l1 l (hl l List.mem_cons_self)
   rw [kW,List.any_append]
   cases hc:(l.map (fun x=>x.1)).any (r8 a b t) with
   | true=>rw [hc] at hu;exact Ev.bind hu (Ev.pos rfl (Ev.now _))
   | false=>rw [hc] at hu;exact Ev.bind hu (Ev.neg Bool.false_ne_true hv)
 have hv:=l0 ls h.tab
 have hf:=h.few
 have hn:=nD (l:=xs) a b t h.srt.2 (by omega)
 unfold bQ.f
 rw [List.any_cons]
 cases hc:r8 a b t xs with
 | true=>exact Ev.bind hn (Ev.pos hc (Ev.now _))
 | false=>exact Ev.bind hn (Ev.neg (fun h1=>Bool.false_ne_true (hc.symm.trans h1)) hv)
theorem EP {L:List (List Cell)} {c:Cell} (hx:eT xs) (hL:gA L):cE (ins c xs :: L)=ins c (cE (xs :: L)):=by
 have hi:eT (ins c xs):=nG hx
 have hr:=jq hL
 have h1:eT (cE (xs :: L)):=hO xs hr
 refine oW (hO _ hr) (nG h1) (fun d=>?_)
 rw [p_ h1]
 show d ∈ (ins c xs).foldl (fun o c=>ins c o) (cE L)↔d=c∨(d ∈ xs.foldl (fun o c=>ins c o) (cE L)∧cc c d≠0)
 rw [gX hi hr,gX hx hr,p_ hx]
 constructor
 ·
  rintro ((h | ⟨h,h0⟩) | ⟨h,h0⟩)
  ·
   exact .inl h
  ·
   exact .inr ⟨.inl h,h0⟩
  ·
   refine .inr ⟨.inr ⟨h,fun e he he0=>?_⟩,h0 c (o4 c xs)⟩
   by_cases hec:cc e c=0
   ·
    exact h0 c (o4 c xs) (by rw [←lN hec];exact he0)
   ·
    exact h0 e (qN hec he) he0
 ·
  rintro (h | ⟨h | ⟨h,h0⟩,hc⟩)
  ·
   exact .inl (.inl h)
  ·
   exact .inl (.inr ⟨h,hc⟩)
  ·
   refine .inr ⟨h,fun e he=>?_⟩
   rcases o3 he with rfl | he
   ·
    exact hc
   ·
    exact h0 e he
theorem Fv {s1:Int} {c:Cell} (hM:Makes s P (p+1)) (hp:p+1≤420) (h3:1≤s3) (hc:fT c=true) (hw:P c) (h:fE P p xs n ls) (hl:ls.length+2≤1000000) (hfull:(xs :: tl ls).any (r8 c.f0 c.f1 c.f2)=true∨(cE (xs :: tl ls)).length≠400) :
  ∃ xs' n' ls',Ev (fun k=>cx.f k s1 s s3 xs n ls c.f0 c.f1 c.f2 c.f3 c.f4) (xs',n',ls',0)∧fE P (p+1) xs' n' ls'∧cE (xs' :: tl ls')=ins c (cE (xs :: tl ls))∧ls'.length≤ls.length+2:=by
 obtain ⟨_,z1,_,z2,_⟩:=fo.1 hc
 have hf:=h.few
 have hI:fE P (p+1) (ins c xs) (fU (ins c xs)) ls:=⟨zX hc h.srt,rfl,h.tab,by
  have:=h.tot
  have:=rC c xs
  rw [gM] at *
  omega,fun l hl d hd=>by
  rcases List.mem_cons.1 hl with rfl | hl
  ·
   exact (o3 hd).elim (fun e=>e▸hw) (h.wid xs List.mem_cons_self d)
  ·
   exact h.wid l (List.mem_cons_of_mem _ hl) d hd⟩
 have hrf:cE (ins c xs :: tl ls)=ins c (cE (xs :: tl ls)):=EP h.srt.2 (pM h.o9)
 have hput:=AW c h.srt h.siz (by omega)
 rw [if_pos hc] at hput
 have htail:∃ xs' n' ls',Ev (fun k=>cx.tail k s1 s s3 xs n ls c.f0 c.f1 c.f2 c.f3 c.f4) (xs',n',ls',0)∧fE P (p+1) xs' n' ls'∧cE (xs' :: tl ls')=ins c (cE (xs :: tl ls))∧ls'.length≤ls.length+2:=by
  unfold cx.tail
  by_cases hs:s1≤fU (ins c xs)
  ·
   obtain ⟨r,e1,e2,e3,e4⟩:=za hM (by omega) h3 hI (fun e=>by have:=o4 c xs;rw [e] at this;cases this) hl
   exact ⟨[],0,r,Ev.bind hput (Ev.pos hs (Ev.bind e1 (Ev.now _))),e2,e3.trans hrf,e4⟩
  ·
   exact ⟨ins c xs,fU (ins c xs),ls,Ev.bind hput (Ev.neg hs (Ev.now _)),hI,hrf,by omega⟩
 obtain ⟨xs',n',ls',e1,e2,e3,e4⟩:=htail
 refine ⟨xs',n',ls',?_,e2,e3,e4⟩
 unfold cx.f
 rw [kM,show ic c.f0 c.f1 c.f2 c.f3 c.f4=true from hc]
 have hv:=Ft h (by omega) c.f0 c.f1 c.f2 (by omega) (by omega)
 refine Ev.bind (Ev.now _) (Ev.pos rfl (Ev.bind hv ?_))
 cases hk:(xs :: tl ls).any (r8 c.f0 c.f1 c.f2) with
 | true=>exact Ev.pos rfl e1
 | false=>
  rw [hk] at hfull
  refine Ev.neg Bool.false_ne_true (Ev.bind (o7 h (by omega)) (Ev.neg ?_ e1))
  have:=hfull.resolve_left Bool.false_ne_true
  omega
end
theorem Dx:Ev (fun k=>cI.f k) true:=Ev.of (fun k=>cI.mono k) (k:=200) (by kernel_rfl)
def kO (a b c:Int):Prop:=1≤a∧a≤4096∧1≤b∧b≤4096∧1≤c∧c≤8
instance (a b c:Int):Decidable (kO a b c):=by unfold kO;infer_instance
theorem Dd (a b c:Int):f_.f a b c=some (decide (kO a b c)):=by
 unfold f_.f
 (repeat' split)<;>(congr 1;rw [eq_comm];first | (rw [decide_eq_false_iff_not];unfold kO;omega) | (rw [Bool.eq_iff_iff,decide_eq_true_iff,decide_eq_true_iff];unfold kO;omega))
theorem AL {a b:Int} (h:1≤a):eV.f a b=some (decide (a≤b)):=by
 unfold eV.f
 rw [if_pos h]
theorem Fo {a b c:Int} (h:kO a b c):ak.f a b c=some true:=by
 obtain ⟨h1,h2,h3,h4,h5,h6⟩:=h
 unfold ak.f
 rw [AL h1,AL h3,AL h5,decide_eq_true h2,decide_eq_true h4,decide_eq_true h6]
 rfl
theorem Bj (a b:Int):eV.f a b=some (decide (1≤a∧a≤b)):=by
 unfold eV.f
 by_cases h:a≥1
 ·
  rw [if_pos h]
  congr 1
  rw [Bool.eq_iff_iff,decide_eq_true_iff,decide_eq_true_iff]
  exact ⟨fun h2=>⟨h,h2⟩,fun h2=>h2.2⟩
 ·
  rw [if_neg h]
  congr 1
  exact (decide_eq_false (fun h2=>h h2.1)).symm
theorem Fs {a b c:Int} (h:¬ kO a b c):ak.f a b c=some false:=by
 unfold ak.f
 rw [Bj,Bj,Bj]
 show some (decide (1≤a∧a≤4096) && decide (1≤b∧b≤4096) && decide (1≤c∧c≤8))=some false
 congr 1
 rw [Bool.eq_false_iff]
 intro h2
 simp only [Bool.and_eq_true,decide_eq_true_iff] at h2
 exact h ⟨h2.1.1.1,h2.1.1.2,h2.1.2.1,h2.1.2.2,h2.2.1,h2.2.2⟩
def PR (c:Cell):Prop:=(jr c).length≤401
theorem B_ {a b c:Int} (h:kO a b c) {N:Nat} (hN:N≤100):Makes b PR N:=Ek (W:=401) h.2.2.1 h.2.2.2.1 (by omega) (by omega) (fun _ h=>h)
theorem sY {P:Cell→Prop} {p q:Nat} {xs:List Cell} {n:Int} {ls:List (List jx)} (h:fE P p xs n ls) (hq:p≤q):fE P q xs n ls:=⟨h.srt,h.siz,h.tab,Nat.le_trans h.tot hq,h.wid⟩
theorem Cc {a b c:Int} (hs:kO a b c) {p:Nat} (hp:p+1≤100) {d:Cell} (hd:fT d=true) {xs:List Cell} {n:Int} {ls:List (List jx)} (h:fE PR p xs n ls) (hl:ls.length+2≤1000000) :
  ∃ xs' n' ls',Ev (fun k=>cx.f k a b c xs n ls d.f0 d.f1 d.f2 d.f3 d.f4) (xs',n',ls',0)∧fE PR (p+1) xs' n' ls'∧cE (xs' :: tl ls')=ins d (cE (xs :: tl ls))∧ls'.length≤ls.length+2:=
 Fv (B_ hs hp) (by omega) hs.2.2.2.2.1 hd (Ak hd) h hl (.inr (by
  have:=jK (xs :: tl ls)
  have:=h.tot
  omega))
abbrev St:=List Cell × Int × List (List jx)
theorem Dv {p:Nat}:fE PR p [] 0 []:=⟨vO,by simp [fU],fun l hl=>(by cases hl),Nat.zero_le _,fun l hl c hc=>by
 rcases List.mem_cons.1 hl with rfl | hl
 ·
  cases hc
 ·
  cases hl⟩
def mA (l:List Cell) (t:Int) (x:Cell):Prop:=x.f2≤t∧∀ y ∈ l,y.f0=x.f0→y.f1=x.f1→y.f2≤t→y.f2≤x.f2
instance (l:List Cell) (t:Int) (x:Cell):Decidable (mA l t x):=by unfold mA;infer_instance
def uR (p c:Cell):Bool:=decide (p.f0=c.f0∧p.f1=c.f1)
def sg (t:Int):Option Cell→Cell→Bool
 | none,_=>true
 | some p,c=>!(uR p c) || decide (p.f2 > t)
theorem qL {a b:Cell} (h:cc a b = -1) (h0:a.f0=b.f0) (h1:a.f1=b.f1):b.f2<a.f2:=by
 rw [oZ h0 h1,nB] at h
 exact h
theorem F7 {x p c:Cell} (h1:cc x p = -1) (h2:cc p c = -1) (e0:x.f0=c.f0) (e1:x.f1=c.f1):p.f0=c.f0∧p.f1=c.f1:=by
 refine Classical.byContradiction fun hn=>?_
 have h:=uc (x:=p) (y:=x) (z:=c) e0 e1 (fun h=>hn ⟨h.1.trans e0,h.2.trans e1⟩)
 have:=mM x p
 omega
theorem Bu {a b:List Cell} {c:Cell} (t:Int) (h:eT (a++c :: b)) (ht:c.f2≤t):sg t a.getLast? c=decide (mA (a++c :: b) t c):=by
 obtain ⟨ha,hcb,hx⟩:=List.pairwise_append.1 h
 obtain ⟨hcb,_⟩:=List.pairwise_cons.1 hcb
 have hback:∀ y ∈ b,y.f0=c.f0→y.f1=c.f1→y.f2≤c.f2:=fun y hy e0 e1=>Int.le_of_lt (qL (hcb y hy) e0.symm e1.symm)
 rcases List.eq_nil_or_concat a with rfl | ⟨a',p,rfl⟩
 ·
  rw [eq_comm,show sg t ([]:List Cell).getLast? c=true from rfl,decide_eq_true_iff]
  refine ⟨ht,fun y hy e0 e1 _=>?_⟩
  rcases List.mem_cons.1 hy with rfl | hy
  ·
   exact Int.le_refl _
  ·
   exact hback y hy e0 e1
 ·
  simp only [List.concat_eq_append] at *
  have hl:(a'++[p]).getLast? = some p:=by simp
  rw [hl]
  have hpc:cc p c = -1:=hx p (by simp) c (by simp)
  obtain ⟨_,_,hap⟩:=List.pairwise_append.1 ha
  cases hn:sg t (some p) c with
  | true=>
   rw [eq_comm,decide_eq_true_iff]
   refine ⟨ht,fun y hy e0 e1 hyt=>?_⟩
   rcases List.mem_append.1 hy with hy | hy
   ·
    exfalso
    unfold sg uR at hn
    have hp:p.f0=c.f0∧p.f1=c.f1∧p.f2≤t:=by
     rcases List.mem_append.1 hy with hy | hy
     ·
      have h1:=hap y hy p (by simp)
      have h2:=F7 h1 hpc e0 e1
      have:=qL h1 (e0.trans h2.1.symm) (e1.trans h2.2.symm)
      exact ⟨h2.1,h2.2,by omega⟩
     ·
      obtain rfl:=List.mem_singleton.1 hy
      exact ⟨e0,e1,hyt⟩
    simp only [Bool.or_eq_true,Bool.not_eq_true',decide_eq_false_iff_not,decide_eq_true_iff] at hn
    rcases hn with hn | hn
    ·
     exact hn ⟨hp.1,hp.2.1⟩
    ·
     omega
   ·
    rcases List.mem_cons.1 hy with rfl | hy
    ·
     exact Int.le_refl _
    ·
     exact hback y hy e0 e1
  | false=>
   rw [eq_comm,decide_eq_false_iff_not]
   unfold sg uR at hn
   simp only [Bool.or_eq_false_iff,Bool.not_eq_false',decide_eq_true_iff,decide_eq_false_iff_not] at hn
   obtain ⟨⟨e0,e1⟩,h2⟩:=hn
   intro hN
   have h3:=hN.2 p (by simp) e0 e1 (by omega)
   have h4:=qL hpc e0 e1
   omega
def mO (F:Bool→Cell→Bool) (t:Int):Option Cell→List Cell→List Cell
 | _,[]=>[]
 | p,c :: l=>if F (sg t p c) c=true then c :: mO F t (some c) l else mO F t (some c) l
theorem xU (F:Bool→Cell→Bool) (t:Int) (hF:∀ c:Cell,¬ c.f2≤t→F true c=F false c):∀ (b a:List Cell),eT (a++b)→mO F t a.getLast? b=b.filter (fun c=>F (decide (mA (a++b) t c)) c)
 | [],_,_=>rfl
 | c :: b,a,h=>by
  have ih:=xU F t hF b (a++[c]) (by simpa using h)
  rw [show (a++[c]).getLast? = some c by simp,show a++[c]++b=a++c :: b by simp] at ih
  have he:F (sg t a.getLast? c) c=F (decide (mA (a++c :: b) t c)) c:=by
   by_cases hc:c.f2≤t
   ·
    rw [Bu t h hc]
   ·
    have h1:=hF c hc
    cases sg t a.getLast? c<;>cases decide (mA (a++c :: b) t c)<;>simp_all
  unfold mO
  rw [List.filter_cons,he,ih]
def kE (t:Int) (n:Bool) (c:Cell):Bool:=decide (c.f2≤t) && (n && !c.f4)
def sM (l:List Cell) (t:Int):List Cell:=l.filter (fun c=>kE t (decide (mA l t c)) c)
theorem Dg {l:List Cell} (t:Int) (h:eT l):mO (kE t) t none l=sM l t:=
 xU (kE t) t (fun c hc=>by simp [kE,hc]) l [] h
theorem C4 {l:List Cell} {x:Cell} (t:Int) (h:eT l) (hx:x ∈ l):dL x.f0 x.f1 t l=some x↔mA l t x:=by
 have hord:∀ y ∈ l,y.f0=x.f0→y.f1=x.f1→y.f2=x.f2→y=x:=by
  intro y hy e0 e1 e2
  refine Classical.byContradiction fun hne=>?_
  have h0:cc y x=0:=nM.2 ⟨e0,e1,e2⟩
  obtain ⟨i,hi,rfl⟩:=List.getElem_of_mem hy
  obtain ⟨j,hj,rfl⟩:=List.getElem_of_mem hx
  rcases Nat.lt_trichotomy i j with hlt | rfl | hlt
  ·
   have:=List.pairwise_iff_getElem.1 h i j hi hj hlt
   omega
  ·
   exact hne rfl
  ·
   have:=List.pairwise_iff_getElem.1 h j i hj hi hlt
   have:=mM l[j] l[i]
   omega
 constructor
 ·
  intro hf
  obtain ⟨hp,a,b,rfl,hno⟩:=List.find?_eq_some_iff_append.1 hf
  obtain ⟨_,_,hxt⟩:=e8.1 hp
  refine ⟨hxt,fun y hy e0 e1 hyt=>?_⟩
  obtain ⟨_,hcb,_⟩:=List.pairwise_append.1 h
  obtain ⟨hcb,_⟩:=List.pairwise_cons.1 hcb
  rcases List.mem_append.1 hy with hy | hy
  ·
   have:=hno y hy
   rw [e8.2 ⟨e0,e1,hyt⟩] at this
   cases this
  ·
   rcases List.mem_cons.1 hy with rfl | hy
   ·
    exact Int.le_refl _
   ·
    exact Int.le_of_lt (qL (hcb y hy) e0.symm e1.symm)
 ·
  intro hN
  cases hf:dL x.f0 x.f1 t l with
  | none=>
   have:=List.find?_eq_none.1 hf x hx
   exact absurd (e8.2 ⟨rfl,rfl,hN.1⟩) this
  | some y=>
   have hy:=List.mem_of_find?_eq_some hf
   obtain ⟨hp,a,b,hl,hno⟩:=List.find?_eq_some_iff_append.1 hf
   obtain ⟨e0,e1,hyt⟩:=e8.1 hp
   have h1:=hN.2 y hy e0 e1 hyt
   have hcb:x.f2≤y.f2:=by
    rw [hl] at h hx
    obtain ⟨_,hcb,_⟩:=List.pairwise_append.1 h
    obtain ⟨hcb,_⟩:=List.pairwise_cons.1 hcb
    rcases List.mem_append.1 hx with hx | hx
    ·
     have:=hno x hx
     rw [e8.2 ⟨rfl,rfl,hN.1⟩] at this
     cases this
    ·
     rcases List.mem_cons.1 hx with rfl | hx
     ·
      exact Int.le_refl _
     ·
      exact Int.le_of_lt (qL (hcb x hx) e0 e1)
   rw [hord y hy e0 e1 (by omega)]
theorem tX (l:List Cell) (t:Int):(sM l t).Sublist l:=List.filter_sublist
def isC (o:Option Cell) (x:Cell):Bool:=match o with
 | none=>false
 | some y=>(y.f0.toList == x.f0.toList && (y.f1.toList == x.f1.toList && (y.f2 == x.f2 && (y.f3.toList == x.f3.toList && (y.f4 == x.f4)))))
theorem Eu {o:Option Cell} {x:Cell}:isC o x=true↔o=some x:=by
 cases o with
 | none=>exact ⟨fun h=>(by cases h),fun h=>(by cases h)⟩
 | some y=>
  show (_ && _)=true↔_
  simp only [Bool.and_eq_true,beq_iff_eq,Option.some.injEq]
  constructor
  ·
   rintro ⟨h0,h1,h2,h3,h4⟩
   cases y;cases x
   simp only at h0 h1 h2 h3 h4
   rw [toList_inj h0,toList_inj h1,h2,toList_inj h3,h4]
  ·
   rintro rfl
   exact ⟨rfl,rfl,rfl,rfl,rfl⟩
theorem Gu (a b:Cell):aT.sm a b=uR a b:=by
 unfold aT.sm uR
 rw [Bool.eq_iff_iff,Bool.and_eq_true,beq_iff_eq,beq_iff_eq,decide_eq_true_iff]
 exact ⟨fun h=>⟨toList_inj h.1,toList_inj h.2⟩,fun h=>by rw [h.1,h.2];exact ⟨rfl,rfl⟩⟩
theorem xY {l:List Cell} {i:Nat} (h:i<l.length):aT.at_ l i=l[i]:=gG l i h
theorem xK (l:List Cell) (t:Int):∀ i,i≤l.length→aT.pre l t i++mO (kE t) t (if i=0 then none else l[i - 1]?) (l.drop i)=mO (kE t) t none l
 | 0,_=>by simp [aT.pre]
 | i+1,hi=>by
  have hlt:i<l.length:=hi
  have hk:aT.keep l t i=kE t (sg t (if i=0 then none else l[i - 1]?) l[i]) l[i]:=by
   unfold aT.keep aT.nw kE
   rw [xY hlt]
   by_cases h0:i=0
   ·
    rw [if_pos h0,decide_eq_true h0]
    rfl
   ·
    rw [if_neg h0,decide_eq_false h0,xY (show i - 1<l.length by omega),List.getElem?_eq_getElem (show i - 1<l.length by omega),Gu]
    rfl
  have e:mO (kE t) t (if i=0 then none else l[i - 1]?) (l[i] :: l.drop (i+1))=if kE t (sg t (if i=0 then none else l[i - 1]?) l[i]) l[i]=true then l[i] :: mO (kE t) t (some l[i]) (l.drop (i+1)) else mO (kE t) t (some l[i]) (l.drop (i+1)):=rfl
  rw [←xK l t i (by omega),List.drop_eq_getElem_cons hlt,e,if_neg (Nat.succ_ne_zero i),Nat.add_sub_cancel,List.getElem?_eq_getElem hlt,aT.pre,hk,xY hlt]
  generalize kE t (sg t (if i=0 then none else l[i - 1]?) l[i]) l[i]=b
  cases b with
  | true=>rw [if_pos rfl,if_pos rfl,List.append_assoc];rfl
  | false=>rw [if_neg Bool.false_ne_true,if_neg Bool.false_ne_true,List.append_nil]
theorem tZ {l:List Cell} (t:Int) (hn:l.length≤1000000000) (h:eT l):Ev (fun k=>aT.f k l t) (sM l t):=by
 have e:=xK l t l.length (Nat.le_refl _)
 rw [List.drop_length,show mO (kE t) t (if l.length=0 then none else l[l.length - 1]?) []=[] from rfl,List.append_nil,Dg t h] at e
 exact Ev.pos (by omega) ((Ev.now _).to e)
section
variable {a b:ByteArray} {t:Int} {l m:List Cell}
theorem lQ (h:eT l) {c:Cell}:dL a b t l=some c↔c ∈ l∧oh a b t c=true∧∀ y ∈ l,oh a b t y=true→y.f2≤c.f2:=by
 have hf:∀ {c:Cell},dL a b t l=some c→c ∈ l∧oh a b t c=true∧∀ y ∈ l,oh a b t y=true→y.f2≤c.f2:=fun {c} hc=>by
  obtain ⟨h0,p,q,rfl,h1⟩:=List.find?_eq_some_iff_append.1 hc
  obtain ⟨_,h2,_⟩:=List.pairwise_append.1 h
  obtain ⟨h3,_⟩:=List.pairwise_cons.1 h2
  refine ⟨by simp,h0,fun y hy hoy=>?_⟩
  rcases List.mem_append.1 hy with hy | hy
  ·
   have:=h1 y hy
   rw [hoy] at this
   cases this
  ·
   rcases List.mem_cons.1 hy with rfl | hy
   ·
    exact Int.le_refl _
   ·
    obtain ⟨e1,e2,_⟩:=e8.1 h0
    obtain ⟨g1,g2,_⟩:=e8.1 hoy
    exact Int.le_of_lt (qL (h3 y hy) (e1.trans g1.symm) (e2.trans g2.symm))
 refine ⟨hf,fun ⟨h1,h2,h3⟩=>?_⟩
 cases hc:dL a b t l with
 | none=>exact absurd h2 (List.find?_eq_none.1 hc c h1)
 | some d=>
  obtain ⟨g1,g2,g3⟩:=hf hc
  obtain ⟨e1,e2,_⟩:=e8.1 h2
  obtain ⟨k1,k2,_⟩:=e8.1 g2
  rw [vD h g1 h1 (nM.2 ⟨k1.trans e1.symm,k2.trans e2.symm,Int.le_antisymm (h3 d g1 g2) (g3 c h1 h2)⟩)]
def kC:Option Cell→Option Cell→Option Cell
 | none,y=>y
 | some x,none=>some x
 | some x,some y=>if x.f2<y.f2 then some y else some x
theorem oo (x:Option Cell):kC x none=x:=by cases x<;>rfl
theorem AX (x y z:Option Cell):kC (kC x y) z=kC x (kC y z):=by
 cases x with
 | none=>rfl
 | some x=>
  cases y with
  | none=>rfl
  | some y=>
   cases z with
   | none=>rw [oo,oo]
   | some z=>
    unfold kC
    by_cases h1:x.f2<y.f2<;>by_cases h2:y.f2<z.f2<;>by_cases h3:x.f2<z.f2<;>simp [h1,h2,h3]<;>omega
theorem AZ (hl:eT l) (hm:eT m):dL a b t (l.foldl (fun o c=>ins c o) m)=kC (dL a b t l) (dL a b t m):=by
 have hr:=hO l hm
 have hmem:=fun c=>gX (c:=c) hl hm
 cases hx:dL a b t l with
 | none=>
  have hno:∀ x ∈ l,¬ oh a b t x=true:=List.find?_eq_none.1 hx
  show _=dL a b t m
  cases hy:dL a b t m with
  | none=>
   refine List.find?_eq_none.2 fun z hz=>?_
   rcases (hmem z).1 hz with h | h
   ·
    exact hno z h
   ·
    exact List.find?_eq_none.1 hy z h.1
  | some y=>
   obtain ⟨h1,h2,h3⟩:=(lQ hm).1 hy
   refine (lQ hr).2 ⟨(hmem y).2 (.inr ⟨h1,fun d hd hc=>hno d hd ?_⟩),h2,fun z hz ho=>?_⟩
   ·
    obtain ⟨e1,e2,e3⟩:=nM.1 hc
    obtain ⟨k1,k2,k3⟩:=e8.1 h2
    exact e8.2 ⟨e1.trans k1,e2.trans k2,by omega⟩
   ·
    rcases (hmem z).1 hz with h | h
    ·
     exact absurd ho (hno z h)
    ·
     exact h3 z h.1 ho
 | some x=>
  obtain ⟨h1,h2,h3⟩:=(lQ hl).1 hx
  have hxin:x ∈ l.foldl (fun o c=>ins c o) m:=(hmem x).2 (.inl h1)
  have keep:(∀ y ∈ m,oh a b t y=true→y.f2≤x.f2)→dL a b t (l.foldl (fun o c=>ins c o) m)=some x:=fun hk=>(lQ hr).2 ⟨hxin,h2,fun z hz ho=>by
   rcases (hmem z).1 hz with h | h
   ·
    exact h3 z h ho
   ·
    exact hk z h.1 ho⟩
  cases hy:dL a b t m with
  | none=>exact keep (fun y hy1 ho=>absurd ho (List.find?_eq_none.1 hy y hy1))
  | some y=>
   obtain ⟨g1,g2,g3⟩:=(lQ hm).1 hy
   show _=if x.f2<y.f2 then some y else some x
   by_cases hlt:x.f2<y.f2
   ·
    rw [if_pos hlt]
    refine (lQ hr).2 ⟨(hmem y).2 (.inr ⟨g1,fun d hd hc=>?_⟩),g2,fun z hz ho=>?_⟩
    ·
     obtain ⟨e1,e2,e3⟩:=nM.1 hc
     obtain ⟨k1,k2,k3⟩:=e8.1 g2
     have:=h3 d hd (e8.2 ⟨e1.trans k1,e2.trans k2,by omega⟩)
     omega
    ·
     rcases (hmem z).1 hz with h | h
     ·
      have:=h3 z h ho
      omega
     ·
      exact g3 z h.1 ho
   ·
    rw [if_neg hlt]
    exact keep (fun z hz ho=>by have:=g3 z hz ho;omega)
theorem xQ (a b:ByteArray) (t:Int):∀ (L:List (List Cell)) (z:Option Cell),gA L→L.foldl (fun z l=>kC z (dL a b t l)) z=kC z (dL a b t (cE L))
 | [],z,_=>(oo z).symm
 | l :: L,z,h=>by
  rw [List.foldl_cons,xQ a b t L _ (pM h),AX,← AZ (j4.1 h l List.mem_cons_self) (jq (pM h))]
  rfl
end
def l8 (z:Option Cell):Cell:=z.getD aU.z0
section
variable {P:Cell→Prop} {p:Nat} {xs:List Cell} {n:Int} {ls:List (List jx)} {a b:ByteArray} {t:Int}
theorem tT (z:Option Cell) {l:List Cell} (hl:fW l):bF.next (l8 z) ⟨(jD (dL a b t l)).1,(jD (dL a b t l)).2.1,(jD (dL a b t l)).2.2.1,(jD (dL a b t l)).2.2.2.1,(jD (dL a b t l)).2.2.2.2.1⟩ (jD (dL a b t l)).2.2.2.2.2=l8 (kC z (dL a b t l)):=by
 unfold bF.next
 cases hf:dL a b t l with
 | none=>
  rw [oo]
  exact if_neg (fun h=>Bool.false_ne_true h.1)
 | some c=>
  show (if true=true∧(l8 z).f2<c.f2 then c else l8 z)=_
  have h0:0≤c.f2:=(fo.1 (hl c (List.mem_of_find?_eq_some hf))).2.2.2.2.1
  cases z with
  | none=>exact if_pos ⟨rfl,show (-1:Int)<c.f2 by omega⟩
  | some x=>
   show (if true=true∧x.f2<c.f2 then c else x)=l8 (if x.f2<c.f2 then some c else some x)
   by_cases h:x.f2<c.f2
   ·
    rw [if_pos ⟨rfl,h⟩,if_pos h];rfl
   ·
    rw [if_neg (fun hh=>h hh.2),if_neg h];rfl
theorem pE {z:Option Cell} (hz:(l8 z).f2=min t 4294967295):∀ {L:List (List Cell)},(∀ l ∈ L,fW l)→L.foldl (fun z l=>kC z (dL a b t l)) z=z
 | [],_=>rfl
 | l :: L,h=>by
  have hs:kC z (dL a b t l)=z:=by
   cases hf:dL a b t l with
   | none=>exact oo z
   | some c=>
    have hr:=fo.1 (h l List.mem_cons_self c (List.mem_of_find?_eq_some hf))
    have ht:=(e8.1 (List.find?_some hf)).2.2
    have h1:c.f2≤min t 4294967295:=by omega
    cases z with
    | none=>
     have h2:(-1:Int)=min t 4294967295:=hz
     omega
    | some x=>
     have h2:x.f2=min t 4294967295:=hz
     exact if_neg (by omega)
  rw [List.foldl_cons,hs]
  exact pE hz (fun l hl=>h l (List.mem_cons_of_mem _ hl))
theorem Cl (ha:a.size≤10000) (hb:b.size≤10000):∀ (l:List jx) (z:Option Cell),(∀ x ∈ l,lK x)→∃ f,Ev (fun k=>aU.l1 k a b t l (l8 z)) (l8 ((l.map (fun x=>x.1)).foldl (fun z l=>kC z (dL a b t l)) z),f)∧(f=true→(l8 ((l.map (fun x=>x.1)).foldl (fun z l=>kC z (dL a b t l)) z)).f2=min t 4294967295)
 | [],z,_=>⟨false,Ev.now _,fun h=>by cases h⟩
 | x :: l,z,h=>by
  have hx:=h x List.mem_cons_self
  have hg:=hx.get a b t ha hb
  have hr:∀ y ∈ l.map (fun x=>x.1),fW y:=fun y hy=>by
   obtain ⟨u,hu,rfl⟩:=List.mem_map.1 hy
   exact (h u (List.mem_cons_of_mem _ hu)).srt.1
  rw [List.map_cons,List.foldl_cons]
  by_cases e:(l8 (kC z (dL a b t x.1))).f2=min t 4294967295
  ·
   refine ⟨true,?_,fun _=>by rw [pE e hr];exact e⟩
   rw [pE e hr]
   unfold aU.l1
   refine Ev.bind hg ?_
   rw [tT z hx.srt.1]
   exact Ev.pos (by rw [e];exact beq_self_eq_true _) (Ev.now _)
  ·
   obtain ⟨f,h1,h2⟩:=Cl ha hb l (kC z (dL a b t x.1)) (fun y hy=>h y (List.mem_cons_of_mem _ hy))
   refine ⟨f,?_,h2⟩
   unfold aU.l1
   refine Ev.bind hg ?_
   rw [tT z hx.srt.1]
   exact Ev.neg (fun hh=>e (eq_of_beq hh)) h1
theorem CN (ha:a.size≤10000) (hb:b.size≤10000):∀ (ls:List (List jx)) (z:Option Cell),(∀ l ∈ ls,∀ x ∈ l,lK x)→Ev (fun k=>aU.l0 k a b t ls (l8 z)) (l8 ((tl ls).foldl (fun z l=>kC z (dL a b t l)) z))
 | [],z,_=>Ev.now _
 | l :: ls,z,h=>by
  obtain ⟨f,h1,h2⟩:=Cl (t:=t) ha hb l z (h l List.mem_cons_self)
  have hr:∀ y ∈ tl ls,fW y:=fun y hy=>by
   obtain ⟨u,hu,rfl⟩:=List.mem_map.1 hy
   obtain ⟨v,hv,hu⟩:=List.mem_flatten.1 hu
   exact (h v (List.mem_cons_of_mem _ hv) u hu).srt.1
  rw [kW,List.foldl_append]
  unfold aU.l0
  refine Ev.bind h1 ?_
  cases f with
  | true=>
   refine Ev.pos rfl ?_
   rw [pE (h2 rfl) hr]
   exact Ev.now _
  | false=>exact Ev.neg Bool.false_ne_true (CN ha hb ls _ (fun l hl=>h l (List.mem_cons_of_mem _ hl)))
theorem Be (h:fE P p xs n ls) (hp:p≤900) (ha:a.size≤10000) (hb:b.size≤10000):Ev (fun k=>aU.f k xs ls a b t) (l8 (dL a b t (cE (xs :: tl ls)))):=by
 have hf:=h.few
 have hn:=nD (l:=xs) a b t h.srt.2 (by omega)
 have hr:∀ y ∈ tl ls,fW y:=fun y hy=>by
  obtain ⟨u,hu,rfl⟩:=List.mem_map.1 hy
  exact (h.ok u hu).srt.1
 have e:dL a b t (cE (xs :: tl ls))=(tl ls).foldl (fun z l=>kC z (dL a b t l)) (dL a b t xs):=(xQ a b t (xs :: tl ls) none h.o9).symm
 have e1:=tT (a:=a) (b:=b) (t:=t) none h.srt.1
 rw [e]
 unfold aU.f
 refine Ev.bind hn ?_
 rw [show aU.z0=l8 none from rfl,e1]
 by_cases hz:(l8 (dL a b t xs)).f2=min t 4294967295
 ·
  rw [pE hz hr]
  exact Ev.pos (by rw [show kC none (dL a b t xs)=dL a b t xs from rfl,hz];exact beq_self_eq_true _) (Ev.now _)
 ·
  exact Ev.neg (fun hh=>hz (eq_of_beq hh)) (CN ha hb ls _ h.tab)
theorem zN (h:fE P p xs n ls) (hp:p≤900):Ev (fun k=>bS.f k xs ls a b t) ((sM (cE (xs :: tl ls)) t).filter (bS.keep a b)):=by
 have hl:=jK (xs :: tl ls)
 have ht:=h.tot
 have hv:=List.Sublist.length_le (tX (cE (xs :: tl ls)) t)
 unfold bS.f
 exact Ev.bind (o7 h hp) (Ev.bind (tZ t (by omega) (jq h.o9)) (Ev.pos (by omega) (Ev.now _)))
end
theorem wS (r c:ByteArray) (t:Int) (v:ByteArray) (g:Bool):fC.f r c t v g=some (ic r c t v g):=by
 unfold fC.f
 simp only [toList_nil]
 split
 ·
  exact fY (by rw [d7];simp only [Bool.false_eq_true,false_iff];omega)
 split
 ·
  exact fY (by rw [d7];simp only [Bool.false_eq_true,false_iff];omega)
 split
 ·
  exact fY (by rw [d7];simp only [Bool.false_eq_true,false_iff];omega)
 split
 ·
  exact fY (by rw [d7];simp only [Bool.false_eq_true,false_iff];omega)
 split
 ·
  exact fY (by rw [d7];simp only [Bool.false_eq_true,false_iff];omega)
 split
 ·
  exact fY (by rw [d7];simp only [Bool.false_eq_true,false_iff];omega)
 split
 ·
  split
  ·
   exact fY (by rename_i h;rw [d7,decide_eq_true_iff];exact ⟨fun hz=>⟨by omega,by omega,by omega,by omega,by omega,by omega,by omega,.inr hz⟩,fun hh=>hh.2.2.2.2.2.2.2.elim (fun e=>by rw [h] at e;cases e) id⟩)
  ·
   exact fY (by rename_i h;rw [d7];exact ⟨fun _=>⟨by omega,by omega,by omega,by omega,by omega,by omega,by omega,.inl (by simpa using h)⟩,fun _=>rfl⟩)
 ·
  exact fY (by rw [d7];simp only [Bool.false_eq_true,false_iff];omega)
theorem t5 (s:ByteArray):s.toList.length=s.size:=by
 rw [ByteArray.toList_eq,Array.length_toList]
 rfl
theorem lM (s:ByteArray) (i:Nat) (h:i<s.toList.length):bt s (i:Int)=((s.toList[i]).toNat:Int):=by
 have hs:i<s.size:=by rw [t5] at h;exact h
 unfold bt
 rw [dif_pos (by simpa using hs)]
 simp only [Int.toNat_natCast,ByteArray.toList_eq]
 rfl
theorem yD (a b:ByteArray) (ha:a.size≤140737488355328) (d:Nat):∀ i:Nat,i≤a.size→i≤b.size→a.size - i=d→Ev (fun k=>aD.l0 k a b (i:Int)) (iP (a.toList.drop i) (b.toList.drop i)):=by
 have la:=t5 a
 have lb:=t5 b
 induction d with
 | zero=>
  intro i h1 h2 hd
  rw [List.drop_eq_nil_of_le (show a.toList.length≤i by omega)]
  refine Ev.step (f:=fun k=>aD.j1 k a b (i:Int) false) (fun k=>?_) ?_
  ·
   simp only [aD.l0]
   rw [if_neg (by omega)]
  by_cases hl:b.size=i
  ·
   rw [List.drop_eq_nil_of_le (show b.toList.length≤i by omega)]
   refine Ev.step (f:=fun _=>some 0) (fun k=>?_) (Ev.now _)
   simp only [aD.j1,Bool.false_eq_true,if_false]
   rw [if_neg (by omega),if_neg (by omega)]
  ·
   rw [List.drop_eq_getElem_cons (by omega)]
   refine Ev.step (f:=fun _=>some (-1)) (fun k=>?_) (Ev.now _)
   simp only [aD.j1,Bool.false_eq_true,if_false]
   rw [if_pos (by omega)]
 | succ d ih=>
  intro i h1 h2 hd
  have hia:i<a.toList.length:=by omega
  rw [List.drop_eq_getElem_cons hia]
  by_cases hl:b.size=i
  ·
   rw [List.drop_eq_nil_of_le (show b.toList.length≤i by omega)]
   refine Ev.step (f:=fun k=>aD.j1 k a b (i:Int) false) (fun k=>?_) ?_
   ·
    simp only [aD.l0]
    rw [if_pos (by omega),decide_eq_false (by omega)]
   refine Ev.step (f:=fun _=>some 1) (fun k=>?_) (Ev.now _)
   simp only [aD.j1,Bool.false_eq_true,if_false]
   rw [if_neg (by omega),if_pos (by omega)]
  ·
   have hib:i<b.toList.length:=by omega
   rw [List.drop_eq_getElem_cons hib]
   refine Ev.step (f:=fun k=>aD.j1 k a b (i:Int) true) (fun k=>?_) ?_
   ·
    simp only [aD.l0]
    rw [if_pos (by omega),decide_eq_true (by omega)]
   have ba:=lM a i hia
   have bb:=lM b i hib
   unfold iP
   by_cases c1:a.toList[i]<b.toList[i]
   ·
    rw [if_pos c1]
    have:=UInt8.lt_iff_toNat_lt.1 c1
    refine Ev.step (f:=fun _=>some (-1)) (fun k=>?_) (Ev.now _)
    simp only [aD.j1,if_true]
    rw [if_pos (by omega),if_pos (by omega),if_pos (by omega),if_pos (by omega)]
   ·
    rw [if_neg c1]
    have n1:¬ (a.toList[i]).toNat<(b.toList[i]).toNat:=fun h=>c1 (UInt8.lt_iff_toNat_lt.2 h)
    by_cases c2:b.toList[i]<a.toList[i]
    ·
     rw [if_pos c2]
     have:=UInt8.lt_iff_toNat_lt.1 c2
     refine Ev.step (f:=fun _=>some 1) (fun k=>?_) (Ev.now _)
     simp only [aD.j1,if_true]
     rw [if_pos (by omega),if_pos (by omega),if_pos (by omega),if_neg (by omega),if_pos (by omega)]
    ·
     rw [if_neg c2]
     have n2:¬ (b.toList[i]).toNat<(a.toList[i]).toNat:=fun h=>c2 (UInt8.lt_iff_toNat_lt.2 h)
     refine Ev.step (f:=fun k=>aD.l0 k a b ((i+1:Nat):Int)) (fun k=>?_) (ih (i+1) (by omega) (by omega) (by omega))
     simp only [aD.j1,if_true]
     rw [if_pos (by omega),if_pos (by omega),if_pos (by omega),if_neg (by omega),if_neg (by omega),fZ (by omega) (by omega)]
     rfl
theorem mX {a b:ByteArray} (ha:a.size≤140737488355328):Ev (fun k=>aD.f k a b) (fR a b):=by
 unfold aD.f
 have:=yD a b ha a.size 0 (by omega) (by omega) (by omega)
 exact this
theorem uz {r c:ByteArray} {t:Int} {v:ByteArray} {g:Bool} {r' c':ByteArray} {t':Int} {v':ByteArray} {g':Bool} (h1:r.size≤140737488355328) (h2:c.size≤140737488355328):Ev (fun k=>cQ.f k r c t v g r' c' t' v' g') (kG r c t r' c' t'):=by
 unfold cQ.f kG
 by_cases e1:r.toList=r'.toList
 ·
  have z1:fR r r'=0:=lD.2 e1
  rw [if_pos z1]
  refine Ev.pos e1 ?_
  by_cases e2:c.toList=c'.toList
  ·
   have z2:fR c c'=0:=lD.2 e2
   rw [if_pos z2]
   refine Ev.pos e2 ?_
   unfold kX
   by_cases k1:t'<t
   ·
    simp only [gt_iff_lt,k1,if_true]
    exact Ev.now _
   ·
    by_cases k2:t<t'
    ·
     simp only [gt_iff_lt,k1,k2,if_true,if_false]
     exact Ev.now _
    ·
     simp only [gt_iff_lt,k1,k2,if_false]
     exact Ev.now _
  ·
   have z2:¬ fR c c'=0:=fun h=>e2 (lD.1 h)
   rw [if_neg z2]
   exact Ev.neg e2 (Ev.bind (mX h2) (Ev.now _))
 ·
  have z1:¬ fR r r'=0:=fun h=>e1 (lD.1 h)
  rw [if_neg z1]
  exact Ev.neg e1 (Ev.bind (mX h1) (Ev.now _))
theorem CX {a:Cell} (h:uF a) (b:Cell):Ev (fun k=>cQ.f k a.f0 a.f1 a.f2 a.f3 a.f4 b.f0 b.f1 b.f2 b.f3 b.f4) (cc a b):=uz h.1 h.2
theorem tD (c:Cell):∀ (l:List Cell),(∀ x ∈ l,uF x)→∃ n b,Ev (fun k=>aG.idx k c l) n∧Ev (fun k=>aG.eqv k c (l.drop n)) b∧ins c l=l.take n++c :: l.drop (if b=true then n+1 else n)
 | [],_=>⟨0,false,Ev.now _,Ev.now _,rfl⟩
 | x :: l,hs=>by
  have hx:Ev (fun k=>aG.cq k x c) (cc x c):=CX (hs x List.mem_cons_self) c
  by_cases h1:cc x c = -1
  ·
   obtain ⟨n,b,e1,e2,e3⟩:=tD c l (fun y hy=>hs y (List.mem_cons_of_mem _ hy))
   refine ⟨n+1,b,Ev.bind hx (Ev.pos h1 (Ev.bind e1 (Ev.now _))),e2,?_⟩
   unfold ins
   rw [if_pos h1,e3]
   cases b<;>simp
  ·
   by_cases h0:cc x c=0
   ·
    refine ⟨0,true,Ev.bind hx (Ev.neg h1 (Ev.now _)),Ev.bind (a:=cc x c) hx (by rw [h0];exact Ev.now _),?_⟩
    unfold ins
    rw [if_neg h1,if_pos h0]
    rfl
   ·
    refine ⟨0,false,Ev.bind hx (Ev.neg h1 (Ev.now _)),Ev.bind (a:=cc x c) hx (by rw [beq_false_of_ne h0];exact Ev.now _),?_⟩
    unfold ins
    rw [if_neg h1,if_neg h0]
    rfl
theorem zD {l:List Cell} (c:Cell) (hs:∀ x ∈ l,uF x) (hn:l.length≤1000000000):Ev (fun k=>aG.f k l c.f0 c.f1 c.f2 c.f3 c.f4) (ins c l):=by
 obtain ⟨n,b,e1,e2,e3⟩:=tD c l hs
 rw [e3]
 unfold aG.f
 exact Ev.bind e1 (Ev.bind e2 (Ev.pos (by omega) (Ev.now _)))
theorem yT (r c:ByteArray) (t:Int):∀ (l:List Cell) (b:Cell),bE.yH r c t l b=rz r c t l b
 | [],_=>rfl
 | x :: l,b=>by
  unfold bE.yH rz
  rw [yT r c t l]
  congr 1
  have e:(x.f0.toList == r.toList && x.f1.toList == c.toList && decide (x.f2≤t) && decide (b.f2<x.f2))=true↔(oh r c t x=true∧x.f2 > b.f2):=by
   rw [e8,Bool.and_eq_true,Bool.and_eq_true,Bool.and_eq_true,beq_iff_eq,beq_iff_eq,decide_eq_true_iff,decide_eq_true_iff]
   exact ⟨fun h=>⟨⟨toList_inj h.1.1.1,toList_inj h.1.1.2,h.1.2⟩,h.2⟩,fun h=>⟨⟨⟨by rw [h.1.1],by rw [h.1.2.1]⟩,h.1.2.2⟩,h.2⟩⟩
  by_cases h:oh r c t x=true∧x.f2 > b.f2
  ·
   rw [if_pos h,if_pos (e.2 h)]
  ·
   rw [if_neg h,if_neg (fun h2=>h (e.1 h2))]
theorem rO {l:List Cell} (r c:ByteArray) (t:Int) (hs:iG l) (hn:l.length≤1000000000):Ev (fun k=>bE.f k l r c t) (jD (dL r c t l)):=by
 unfold bE.f
 refine Ev.pos (by omega) ((Ev.now _).to ?_)
 rw [yT,uO r c t _ rfl hs]
 unfold bE.FH
 cases hf:dL r c t l with
 | none=>rfl
 | some x=>
  have hx:=List.mem_of_find?_eq_some hf
  have h0:=(fo.1 (hs.1 x hx)).2.2.2.2.1
  show (if x.f2<0 then _ else _)=_
  rw [if_neg (by omega)]
  rfl
theorem EG (o:Option Cell) (x:Cell):(if (jD o).2.2.2.2.2=true then some ((jD o).1.toList == x.f0.toList && ((jD o).2.1.toList == x.f1.toList && ((jD o).2.2.1 == x.f2 && ((jD o).2.2.2.1.toList == x.f3.toList && ((jD o).2.2.2.2.1 == x.f4))))) else some false)=some (isC o x):=by
 cases o with
 | none=>rfl
 | some y=>rfl
theorem wO {l:List Cell} {x:Cell} (t:Int) (hs:iG l) (hn:l.length≤1000000000) (hx:x ∈ l):Ev (fun k=>cY.f k l x.f0 x.f1 x.f2 x.f3 x.f4 t) (decide (mA l t x)):=by
 unfold cY.f
 refine Ev.bind (rO x.f0 x.f1 t hs hn) (Ev.eq ?_)
 rw [EG]
 congr 1
 rw [Bool.eq_iff_iff,Eu,decide_eq_true_iff]
 exact C4 t hs.2 hx
theorem vY (l:List Cell) (t:Int) (hs:iG l) (hn:l.length≤1000000000) (d:Nat):∀ (i:Nat) (o:List Cell),i≤l.length→l.length - i=d→o.length≤i→Ev (fun k=>aX.l0 k l t o (i:Int)) (o++(l.drop i).filter (fun c=>kE t (decide (mA l t c)) c)):=by
 induction d with
 | zero=>
  intro i o hi hd ho
  rw [List.drop_eq_nil_of_le (by omega)]
  refine Ev.step (f:=fun _=>some o) (fun k=>?_) ((Ev.now _).to (by simp))
  simp only [aX.l0]
  rw [if_neg (by omega)]
 | succ d ih=>
  intro i o hi hd ho
  have hlt:i<l.length:=by omega
  have hr:=gG l i hlt
  unfold mD at hr
  have hw:wrap64 ((i:Int)+1)=((i+1:Nat):Int):=by rw [fZ (by omega) (by omega)];rfl
  have hm:l[i] ∈ l:=List.getElem_mem hlt
  rw [List.drop_eq_getElem_cons hlt,List.filter_cons]
  have go:∀ b:Bool,Ev (fun k=>if b=true then (if o.length<2199023255552 then aX.l0 k l t (o++[l[i]]) ((i+1:Nat):Int) else none) else aX.l0 k l t o ((i+1:Nat):Int)) (o++if b=true then l[i] :: (l.drop (i+1)).filter (fun c=>kE t (decide (mA l t c)) c) else (l.drop (i+1)).filter (fun c=>kE t (decide (mA l t c)) c)):=by
   intro b
   cases b with
   | true=>exact Ev.pos rfl (Ev.pos (by omega) ((ih (i+1) (o++[l[i]]) (by omega) (by omega) (by rw [List.length_append];simp;omega)).to (by simp)))
   | false=>exact Ev.neg Bool.false_ne_true ((ih (i+1) o (by omega) (by omega) (by omega)).to (by simp))
  obtain ⟨nf,hnf⟩:∃ nf:Nat→Option Bool,nf=fun k=>cY.f k l l[i].f0 l[i].f1 l[i].f2 l[i].f3 l[i].f4 t:=⟨_,rfl⟩
  have hv:Ev nf (decide (mA l t l[i])):=by rw [hnf];exact wO t hs hn hm
  have hk:∀ k,cY.f k l l[i].f0 l[i].f1 l[i].f2 l[i].f3 l[i].f4 t=nf k:=fun k=>by rw [hnf]
  clear hnf
  refine Ev.step (f:=fun k=>(nf k).bind fun b=>if b=true then (if l[i].f4=true then aX.l0 k l t o ((i+1:Nat):Int) else (if o.length<2199023255552 then aX.l0 k l t (o++[l[i]]) ((i+1:Nat):Int) else none)) else aX.l0 k l t o ((i+1:Nat):Int)) (fun k=>by simp only [aX.l0];rw [if_pos (by omega),if_pos (by omega),hr,hw,hk]) (Ev.bind hv ?_)
  have hg:=go (kE t (decide (mA l t l[i])) l[i])
  refine Ev.congr (fun k=>?_) hg
  unfold kE
  by_cases hN:mA l t l[i]
  ·
   rw [decide_eq_true hN,decide_eq_true hN.1,if_pos rfl,Bool.true_and,Bool.true_and]
   by_cases h4:l[i].f4=true
   ·
    rw [if_pos h4,h4]
    rfl
   ·
    rw [if_neg h4,Bool.eq_false_iff.2 h4]
    rfl
  ·
   rw [decide_eq_false hN,Bool.false_and,Bool.and_false]
   rfl
theorem vS {l:List Cell} (t:Int) (hs:iG l) (hn:l.length≤1000000000):Ev (fun k=>aX.f k l t) (sM l t):=by
 unfold aX.f
 have:=vY l t hs hn l.length 0 [] (by omega) (by omega) (by simp)
 rw [List.drop_zero,List.nil_append] at this
 exact this
theorem Dy (l:List Cell) (hl:l.length≤1000000000) (d:Nat):∀ i:Nat,i≤l.length→l.length - i=d→Ev (fun k=>bG.l0 k l l (i:Int)) true:=by
 induction d with
 | zero=>
  intro i hi hd
  refine Ev.step (f:=fun _=>some true) (fun k=>?_) (Ev.now _)
  simp only [bG.l0]
  rw [if_neg (by omega)]
 | succ d ih=>
  intro i hi hd
  refine Ev.step (f:=fun k=>bG.l0 k l l ((i+1:Nat):Int)) (fun k=>?_) (ih (i+1) (by omega) (by omega))
  simp only [bG.l0]
  rw [if_pos (by omega),if_pos (by omega),if_pos (by omega),if_neg (by simp),fZ (by omega) (by omega)]
  rfl
theorem xJ {l m:List Cell} (e:l=m) (hl:l.length≤1000000000):Ev (fun k=>bG.f k l m) true:=by
 subst e
 unfold bG.f
 exact Ev.pos rfl (Dy l hl l.length 0 (by omega) (by omega))
end Go.Proofs.YtcbhfedcdnjljaaGreat.Pl

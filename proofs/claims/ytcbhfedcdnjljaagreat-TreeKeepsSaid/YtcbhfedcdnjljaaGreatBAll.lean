import Derived.Lib.Strings
import Derived.Test.YtcbhfedcdnjljaaGreatXx16
namespace Go.Proofs.YtcbhfedcdnjljaaGreat.Pl
open Go.RowKit Go.Proofs.YtcbhfedcdnjljaaGreatW.PrintWords Go.Proofs.YtcbhfedcdnjljaaGreatW.PrintMore
def Bytes (l:List Int):Prop:=∀ x ∈ l,0≤x∧x<256
theorem Bytes.nil:Bytes []:=fun _ h=>by cases h
theorem Bytes.append {a b:List Int} (ha:Bytes a) (hb:Bytes b):Bytes (a++b):=fun x hx=>(List.mem_append.1 hx).elim (ha x) (hb x)
theorem Bytes.take {a:List Int} (ha:Bytes a) (n:Nat):Bytes (a.take n):=fun x hx=>ha x (List.mem_of_mem_take hx)
theorem Bytes.drop {a:List Int} (ha:Bytes a) (n:Nat):Bytes (a.drop n):=fun x hx=>ha x (List.mem_of_mem_drop hx)
theorem Bytes.cons {x:Int} {l:List Int} (h0:0≤x) (h1:x<256) (h:Bytes l):Bytes (x :: l):=fun y hy=>(List.mem_cons.1 hy).elim (fun e=>e▸⟨h0,h1⟩) (h y)
theorem ol (s:ByteArray):Bytes (bytesOf s):=by
 intro x hx
 obtain ⟨b,_,rfl⟩:=List.mem_map.1 hx
 have:=b.toNat_lt
 omega
theorem rq (s:ByteArray):strOfNums (bytesOf s)=s:=by
 have h:((bytesOf s).map fun n=>UInt8.ofNat n.toNat)=s.data.toList:=by
  rw [bytesOf,List.map_map]
  conv=>rhs;rw [←List.map_id s.data.toList]
  refine List.map_congr_left fun b _=>?_
  simp
 unfold strOfNums
 rw [h]
theorem toList_inj {a b:ByteArray} (h:a.toList=b.toList):a=b:=by
 rw [ByteArray.toList_eq,ByteArray.toList_eq] at h
 obtain ⟨⟨a⟩⟩:=a
 obtain ⟨⟨b⟩⟩:=b
 simp at h
 rw [h]
theorem jS (l:List Int):(strOfNums l).size=l.length:=by simp [strOfNums,ByteArray.size]
theorem vT (s:ByteArray):s.size=0↔s=⟨#[]⟩:=by
 constructor
 ·
  intro h
  obtain ⟨a⟩:=s
  have:a.size=0:=h
  rw [Array.eq_empty_of_size_eq_zero this]
 ·
  rintro rfl;rfl
theorem fU {x:Int} (h0 : -9223372036854775808≤x) (h1:x<9223372036854775808):wrap64 x=x:=by unfold wrap64;omega
theorem _root_.Go.Proofs.YtcbhfedcdnjljaaGreatW.PrintWords.Ev.pos {α:Type} {c:Prop} [Decidable c] {f g:Nat→Option α} {r:α} (hc:c) (h:Ev f r):Ev (fun k=>if c then f k else g k) r:=by
 simpa only [if_pos hc] using h
theorem _root_.Go.Proofs.YtcbhfedcdnjljaaGreatW.PrintWords.Ev.neg {α:Type} {c:Prop} [Decidable c] {f g:Nat→Option α} {r:α} (hc:¬ c) (h:Ev g r):Ev (fun k=>if c then f k else g k) r:=by
 simpa only [if_neg hc] using h
theorem _root_.Go.Proofs.YtcbhfedcdnjljaaGreatW.PrintWords.Ev.eq {α:Type} {x:Option α} {r:α} (h:x=some r):Ev (fun _=>x) r:=by rw [h];exact Ev.now r
theorem _root_.Go.Proofs.YtcbhfedcdnjljaaGreatW.PrintWords.Ev.to {α:Type} {g:Nat→Option α} {r r':α} (h:Ev g r) (e:r=r'):Ev g r':=e▸h
theorem rK {α:Type} {b:List α} (h:4≤b.length):∃ x0 x1 x2 x3 r,b=x0 :: x1 :: x2 :: x3 :: r:=by
 match b,h with
 | x0 :: x1 :: x2 :: x3 :: r,_=>exact ⟨x0,x1,x2,x3,r,rfl⟩
def num (n:Int):List Int:=if n<0 then [] else if n > 4294967295 then [] else [n / 16777216 % 256,n / 65536 % 256,n / 256 % 256,n % 256]
def text (s:ByteArray):List Int:=num s.size++bytesOf s
def texts (l:List ByteArray):List Int:=num l.length++(l.map text).flatten
def dX (b:List Int):Int:=16777216*rd b 0+65536*rd b 1+256*rd b 2+rd b 3
def jb (b:List Int):Int × List Int × Bool:=if b.length<4 then (0,[],false) else (dX b,b.drop 4,true)
def fW (b:List Int):ByteArray × List Int × Bool:=
 if b.length<4 then (⟨#[]⟩,[],false) else if dX b > ((b.length - 4:Nat):Int) then (⟨#[]⟩,[],false) else (strOfNums ((b.drop 4).take (dX b).toNat),(b.drop 4).drop (dX b).toNat,true)
theorem xT {n:Int} (h0:0≤n) (h1:n≤4294967295):num n=[n / 16777216 % 256,n / 65536 % 256,n / 256 % 256,n % 256]:=by
 unfold num
 rw [if_neg (by omega),if_neg (by omega)]
theorem iz {n:Int} (h0:0≤n) (h1:n≤4294967295):(num n).length=4:=by rw [xT h0 h1];rfl
theorem fC (n:Int):(num n).length≤4:=by
 unfold num
 split
 ·
  simp
 ·
  split<;>simp
theorem ij (n:Int):Bytes (num n):=by
 unfold num
 split
 ·
  exact Bytes.nil
 ·
  split
  ·
   exact Bytes.nil
  ·
   refine Bytes.cons ?_ ?_ (Bytes.cons ?_ ?_ (Bytes.cons ?_ ?_ (Bytes.cons ?_ ?_ Bytes.nil)))<;>omega
theorem jU {n:Int} (h0:0≤n) (h1:n≤4294967295) (r:List Int):dX (num n++r)=n:=by
 rw [xT h0 h1]
 simp [dX,rd]
 omega
theorem iZ {b:List Int} (h:Bytes b) (hl:4≤b.length):0≤dX b∧dX b≤4294967295:=by
 match b,hl with
 | x0 :: x1 :: x2 :: x3 :: r,_=>
  have h0:=h x0 (by simp)
  have h1:=h x1 (by simp)
  have h2:=h x2 (by simp)
  have h3:=h x3 (by simp)
  simp [dX,rd]
  omega
theorem qA {b:List Int} (h:Bytes b) (hl:4≤b.length):num (dX b)=b.take 4:=by
 obtain ⟨g0,g1⟩:=iZ h hl
 rw [xT g0 g1]
 match b,hl with
 | x0 :: x1 :: x2 :: x3 :: r,_=>
  have h0:=h x0 (by simp)
  have h1:=h x1 (by simp)
  have h2:=h x2 (by simp)
  have h3:=h x3 (by simp)
  simp [dX,rd]
  omega
theorem yI {s:ByteArray} (h:s.size≤4294967295):(text s).length=4+s.size:=by
 unfold text
 rw [List.length_append,iz (by omega) (by omega),bytesOf_length]
theorem gG (s:ByteArray):(text s).length≤4+s.size:=by
 unfold text
 rw [List.length_append,bytesOf_length]
 have:=fC s.size
 omega
theorem mZ (s:ByteArray):Bytes (text s):=(ij _).append (ol s)
theorem ul {n:Int} (h0:0≤n) (h1:n≤4294967295) (r:List Int):jb (num n++r)=(n,r,true):=by
 unfold jb
 rw [if_neg (by rw [List.length_append,iz h0 h1];omega),jU h0 h1]
 congr 2
 rw [←iz h0 h1,List.drop_left]
theorem oY {s:ByteArray} (h:s.size≤4294967295) (r:List Int):fW (text s++r)=(s,r,true):=by
 have hl:=yI h
 have hv:dX (text s++r)=s.size:=by rw [text,List.append_assoc,jU (by omega) (by omega)]
 have hd:(text s++r).drop 4=bytesOf s++r:=by
  rw [text,List.append_assoc,← iz (n:=(s.size:Int)) (by omega) (by omega),List.drop_left]
 unfold fW
 rw [if_neg (by rw [List.length_append];omega),hv,hd,if_neg (by rw [List.length_append];omega)]
 have h2:((s.size:Int)).toNat=(bytesOf s).length:=by rw [bytesOf_length];rfl
 rw [h2,List.take_left,List.drop_left,rq]
theorem je {b:List Int} (hb:Bytes b):Bytes (fW b).2.1:=by
 unfold fW
 split
 ·
  exact Bytes.nil
 ·
  split
  ·
   exact Bytes.nil
  ·
   exact (hb.drop 4).drop _
def iS:List UInt8→List UInt8→Int
 | [],[]=>0
 | [],_ :: _=>-1
 | _ :: _,[]=>1
 | x :: a,y :: b=>if x<y then -1 else if y<x then 1 else iS a b
theorem CA {x y:UInt8} (h:x<y):¬ y<x:=fun h2=>absurd (UInt8.lt_trans h h2) (UInt8.lt_irrefl x)
theorem wm {x y:UInt8} (h:¬ x<y) (h2:¬ y<x):x=y:=UInt8.le_antisymm (UInt8.not_lt.1 h2) (UInt8.not_lt.1 h)
theorem vo:∀ a b:List UInt8,iS a b=if Op.bytesLess a b=true then -1 else if Op.bytesLess b a=true then 1 else 0
 | [],[]=>rfl
 | [],_ :: _=>rfl
 | _ :: _,[]=>rfl
 | x :: a,y :: b=>by
  have ih:=vo a b
  by_cases h1:x<y
  ·
   simp [iS,Op.bytesLess,h1]
  ·
   by_cases h2:y<x
   ·
    have h3:¬ x=y:=fun h=>by rw [h] at h2;exact UInt8.lt_irrefl y h2
    simp [iS,Op.bytesLess,h1,h2,h3]
   ·
    have h3:=wm h1 h2
    subst h3
    simp only [iS,Op.bytesLess,h1,decide_false,Bool.false_or,beq_self_eq_true,Bool.true_and]
    exact ih
theorem zC:∀ a b:List UInt8,iS a b = -1∨iS a b=0∨iS a b=1
 | [],[]=>.inr (.inl rfl)
 | [],_ :: _=>.inl rfl
 | _ :: _,[]=>.inr (.inr rfl)
 | x :: a,y :: b=>by
  unfold iS
  split
  ·
   exact .inl rfl
  ·
   split
   ·
    exact .inr (.inr rfl)
   ·
    exact zC a b
theorem kZ:∀ {a b:List UInt8},iS a b=0↔a=b
 | [],[]=>by simp [iS]
 | [],_ :: _=>by simp [iS]
 | _ :: _,[]=>by simp [iS]
 | x :: a,y :: b=>by
  have ih:=kZ (a:=a) (b:=b)
  unfold iS
  by_cases h1:x<y
  ·
   rw [if_pos h1]
   have h3:¬ x=y:=fun h=>by rw [h] at h1;exact UInt8.lt_irrefl y h1
   simp [h3]
  ·
   rw [if_neg h1]
   by_cases h2:y<x
   ·
    rw [if_pos h2]
    have h3:¬ x=y:=fun h=>by rw [h] at h2;exact UInt8.lt_irrefl y h2
    simp [h3]
   ·
    rw [if_neg h2,wm h1 h2,ih]
    simp
theorem sY:∀ a b:List UInt8,iS b a = - iS a b
 | [],[]=>rfl
 | [],_ :: _=>rfl
 | _ :: _,[]=>rfl
 | x :: a,y :: b=>by
  have ih:=sY a b
  unfold iS
  by_cases h1:x<y
  ·
   simp [h1,CA h1]
  ·
   by_cases h2:y<x
   ·
    simp [h1,h2]
   ·
    simp only [h1,h2,if_false]
    exact ih
theorem qO:∀ {a b c:List UInt8},iS a b = -1→iS b c = -1→iS a c = -1
 | [],[],_,h,_=>by simp [iS] at h
 | _ :: _,[],_,h,_=>by simp [iS] at h
 | [],_ :: _,[],_,h=>by simp [iS] at h
 | [],_ :: _,_ :: _,_,_=>rfl
 | _ :: _,_ :: _,[],_,h=>by simp [iS] at h
 | x :: a,y :: b,z :: c,h,h'=>by
  unfold iS at h h' ⊢
  by_cases h1:x<y
  ·
   by_cases h2:y<z
   ·
    rw [if_pos (UInt8.lt_trans h1 h2)]
   ·
    rw [if_neg h2] at h'
    by_cases h3:z<y
    ·
     rw [if_pos h3] at h';simp at h'
    ·
     rw [←wm h2 h3,if_pos h1]
  ·
   rw [if_neg h1] at h
   by_cases h2:y<x
   ·
    rw [if_pos h2] at h;simp at h
   ·
    rw [if_neg h2] at h
    have e:=wm h1 h2
    subst e
    by_cases h3:x<z
    ·
     rw [if_pos h3]
    ·
     rw [if_neg h3] at h' ⊢
     by_cases h4:z<x
     ·
      rw [if_pos h4] at h';simp at h'
     ·
      rw [if_neg h4] at h' ⊢
      exact qO h h'
def gO (a b:ByteArray):Int:=iS a.toList b.toList
def kP (a b:Int):Int:=if a<b then -1 else if b<a then 1 else 0
theorem iQ {a b:ByteArray}:gO a b=0↔a=b:=⟨fun h=>toList_inj (kZ.1 h),fun h=>kZ.2 (by rw [h])⟩
theorem zq (a b:ByteArray):gO a b = -1∨gO a b=0∨gO a b=1:=zC _ _
theorem zA (a b:Int):kP a b = -1∨kP a b=0∨kP a b=1:=by
 unfold kP
 split
 ·
  exact .inl rfl
 ·
  split
  ·
   exact .inr (.inr rfl)
  ·
   exact .inr (.inl rfl)
theorem Bv {a b:Int}:kP a b=0↔a=b:=by
 unfold kP
 split
 ·
  omega
 ·
  split<;>omega
theorem Cs (a b:Int):kP b a = - kP a b:=by unfold kP;split<;>split<;>first | omega | (split<;>omega)
def kD (r c:ByteArray) (t:Int) (r' c':ByteArray) (t':Int):Int:=if gO r r'=0 then (if gO c c'=0 then kP t' t else gO c c') else gO r r'
theorem D_ (r c t r' c' t'):kD r c t r' c' t' = -1∨kD r c t r' c' t'=0∨kD r c t r' c' t'=1:=by
 unfold kD
 split
 ·
  split
  ·
   exact zA _ _
  ·
   exact zq _ _
 ·
  exact zq _ _
theorem CU (r c t r' c' t'):kD r' c' t' r c t = - kD r c t r' c' t':=by
 have h1:gO r' r = - gO r r':=sY _ _
 have h2:gO c' c = - gO c c':=sY _ _
 have h3:=Cs t' t
 unfold kD
 rw [h1,h2,h3]
 by_cases e1:gO r r'=0
 ·
  rw [if_pos e1,if_pos (by omega)]
  by_cases e2:gO c c'=0
  ·
   rw [if_pos e2,if_pos (by omega)]
  ·
   rw [if_neg e2,if_neg (by omega)]
 ·
  rw [if_neg e1,if_neg (by omega)]
theorem Bp {r c t r' c' t'}:kD r c t r' c' t'=0↔r=r'∧c=c'∧t=t':=by
 unfold kD
 by_cases e1:gO r r'=0
 ·
  rw [if_pos e1]
  by_cases e2:gO c c'=0
  ·
   rw [if_pos e2,Bv]
   exact ⟨fun h=>⟨iQ.1 e1,iQ.1 e2,h.symm⟩,fun h=>h.2.2.symm⟩
  ·
   rw [if_neg e2]
   exact ⟨fun h=>absurd h e2,fun h=>absurd (iQ.2 h.2.1) e2⟩
 ·
  rw [if_neg e1]
  exact ⟨fun h=>absurd h e1,fun h=>absurd (iQ.2 h.1) e1⟩
theorem zO {r c t r' c' t' r'' c'' t''} (h:kD r c t r' c' t' = -1) (h':kD r' c' t' r'' c'' t'' = -1):kD r c t r'' c'' t'' = -1:=by
 unfold kD at h h' ⊢
 by_cases e1:gO r r'=0
 ·
  rw [if_pos e1] at h
  have:=iQ.1 e1
  subst this
  by_cases e2:gO r r''=0
  ·
   rw [if_pos e2] at h' ⊢
   by_cases e3:gO c c'=0
   ·
    rw [if_pos e3] at h
    have:=iQ.1 e3
    subst this
    by_cases e4:gO c c''=0
    ·
     rw [if_pos e4] at h' ⊢
     unfold kP at h h' ⊢
     split at h<;>split at h'<;>first | (simp at h;done) | (rw [if_pos (by omega)]) | (split at h<;>simp at h;done) | (split at h'<;>simp at h')
    ·
     rw [if_neg e4] at h' ⊢
     exact h'
   ·
    rw [if_neg e3] at h
    by_cases e4:gO c' c''=0
    ·
     have:=iQ.1 e4
     subst this
     rw [if_neg e3]
     exact h
    ·
     rw [if_neg e4] at h'
     have h5:gO c c'' = -1:=qO h h'
     rw [if_neg (by omega)]
     exact h5
  ·
   rw [if_neg e2] at h' ⊢
   exact h'
 ·
  rw [if_neg e1] at h
  by_cases e2:gO r' r''=0
  ·
   have:=iQ.1 e2
   subst this
   rw [if_neg e1]
   exact h
  ·
   rw [if_neg e2] at h'
   have h5:gO r r'' = -1:=qO h h'
   rw [if_neg (by omega)]
   exact h5
def iP (r c:ByteArray) (t:Int) (v:ByteArray) (g:Bool):Bool:=decide (1≤r.size∧r.size≤64∧1≤c.size∧c.size≤64∧0≤t∧t≤4294967295∧v.size≤256∧(g=false∨v.size=0))
theorem ep {r c:ByteArray} {t:Int} {v:ByteArray} {g:Bool}:iP r c t v g=true↔1≤r.size∧r.size≤64∧1≤c.size∧c.size≤64∧0≤t∧t≤4294967295∧v.size≤256∧(g=false∨v.size=0):=by unfold iP;exact decide_eq_true_iff
theorem toList_nil {v:ByteArray}:(v.toList == ([]:List UInt8))=decide (v.size=0):=by
 rw [Bool.eq_iff_iff,beq_iff_eq,decide_eq_true_iff,vT]
 constructor
 ·
  intro h
  exact toList_inj (h.trans (by simp [ByteArray.toList_eq]))
 ·
  rintro rfl
  simp [ByteArray.toList_eq]
theorem fX {c d:Bool} (h:c=true↔d=true):some c=some d:=by rw [Option.some.injEq,Bool.eq_iff_iff,h]
open Go.Proofs.YtcbhfedcdnjljaaGreat.X Go.Proofs.YtcbhfedcdnjljaaGreatW.PrintLast
theorem xD (s:ByteArray):eT.f s=some (decide (1≤s.size∧s.size≤64)):=by
 unfold eT.f
 by_cases h:s.size≥1
 ·
  rw [if_pos (by omega)]
  congr 1
  rw [decide_eq_decide]
  omega
 ·
  rw [if_neg (by omega)]
  congr 1
  symm
  rw [decide_eq_false_iff_not]
  omega
theorem l9 (r c:ByteArray) (t:Int) (v:ByteArray) (g:Bool):eR.f r c t v g=some (iP r c t v g):=by
 unfold eR.f
 simp only [xD,Option.bind_some,decide_eq_true_eq,toList_nil]
 split
 ·
  split
  ·
   split
   ·
    split
    ·
     split
     ·
      split
      ·
       exact fX (by rename_i h;rw [ep,decide_eq_true_iff];exact ⟨fun hz=>⟨by omega,by omega,by omega,by omega,by omega,by omega,by omega,.inr hz⟩,fun hh=>hh.2.2.2.2.2.2.2.elim (fun e=>by rw [h] at e;cases e) id⟩)
      ·
       exact fX (by rename_i h;rw [ep];exact ⟨fun _=>⟨by omega,by omega,by omega,by omega,by omega,by omega,by omega,.inl (by simpa using h)⟩,fun _=>rfl⟩)
     ·
      exact fX (by rw [ep];simp only [Bool.false_eq_true,false_iff];omega)
    ·
     exact fX (by rw [ep];simp only [Bool.false_eq_true,false_iff];omega)
   ·
    exact fX (by rw [ep];simp only [Bool.false_eq_true,false_iff];omega)
  ·
   exact fX (by rw [ep];simp only [Bool.false_eq_true,false_iff];omega)
 ·
  exact fX (by rw [ep];simp only [Bool.false_eq_true,false_iff];omega)
theorem xY (a b:ByteArray):eS.f a b=some (gO a b):=by
 unfold eS.f dD.f gO
 rw [vo]
 simp only [Option.bind_some,bne_self_eq_false,Bool.false_eq_true,if_false]
 split
 ·
  rfl
 ·
  split<;>rfl
theorem vw (a b:Int):fH.f a b=some (kP a b):=by
 unfold fH.f dY.f kP
 simp only [Option.bind_some,bne_self_eq_false,Bool.false_eq_true,if_false]
 split
 ·
  rfl
 ·
  split<;>rfl
theorem CR (a b c:Int):Ev (fun k=>cB.f k [a,b,c]) (if a=0 then (if b=0 then c else b) else a):=by
 unfold cB.f
 have hl:(([a,b,c]:List Int).length:Int)=3:=rfl
 rw [hl]
 by_cases ha:a=0
 ·
  rw [if_pos ha]
  refine Ev.step (f:=fun k=>cB.l0 k 0 [a,b,c] 3 1) (fun k=>?_) ?_
  ·
   simp only [cB.l0,hl]
   rw [if_pos (by omega),if_pos (by omega),if_pos (by omega),show rd [a,b,c] 0=a from rfl,if_pos ha,fU (by omega) (by omega)]
   rfl
  by_cases hb:b=0
  ·
   rw [if_pos hb]
   refine Ev.step (f:=fun k=>cB.l0 k 0 [a,b,c] 3 2) (fun k=>?_) ?_
   ·
    simp only [cB.l0,hl]
    rw [if_pos (by omega),if_pos (by omega),if_pos (by omega),show rd [a,b,c] 1=b from rfl,if_pos hb,fU (by omega) (by omega)]
    rfl
   by_cases hc:c=0
   ·
    refine Ev.step (f:=fun k=>cB.l0 k 0 [a,b,c] 3 3) (fun k=>?_) ?_
    ·
     simp only [cB.l0,hl]
     rw [if_pos (by omega),if_pos (by omega),if_pos (by omega),show rd [a,b,c] 2=c from rfl,if_pos hc,fU (by omega) (by omega)]
     rfl
    refine Ev.step (f:=fun _=>some 0) (fun k=>?_) ((Ev.now 0).to hc.symm)
    simp only [cB.l0]
    rw [if_neg (by omega)]
   ·
    refine Ev.step (f:=fun _=>some c) (fun k=>?_) (Ev.now _)
    simp only [cB.l0,hl]
    rw [if_pos (by omega),if_pos (by omega),if_pos (by omega),show rd [a,b,c] 2=c from rfl,if_neg hc]
  ·
   rw [if_neg hb]
   refine Ev.step (f:=fun _=>some b) (fun k=>?_) (Ev.now _)
   simp only [cB.l0,hl]
   rw [if_pos (by omega),if_pos (by omega),if_pos (by omega),show rd [a,b,c] 1=b from rfl,if_neg hb]
 ·
  rw [if_neg ha]
  refine Ev.step (f:=fun _=>some a) (fun k=>?_) (Ev.now _)
  simp only [cB.l0,hl]
  rw [if_pos (by omega),if_pos (by omega),if_pos (by omega),show rd [a,b,c] 0=a from rfl,if_neg ha]
theorem pu (r c:ByteArray) (t:Int) (v:ByteArray) (g:Bool) (r' c':ByteArray) (t':Int) (v':ByteArray) (g':Bool):Ev (fun k=>bT.f k r c t v g r' c' t' v' g') (kD r c t r' c' t'):=by
 unfold bT.f
 simp only [xY,vw,Option.bind_some]
 exact Ev.bind (CR _ _ _) (Ev.now _)
abbrev Cell:=au
abbrev lP (xs:List Cell) (i:Int):Cell:=af xs i
theorem fQ (l:List Cell) (i:Nat) (h:i<l.length):lP l (i:Int)=l[i]:=by
 show l.getD (i:Int).toNat _=_
 rw [Int.toNat_natCast,List.getD_eq_getElem?_getD,List.getElem?_eq_getElem h]
 rfl
def cc (a b:Cell):Int:=kD a.f0 a.f1 a.f2 b.f0 b.f1 b.f2
def fS (a:Cell):Bool:=iP a.f0 a.f1 a.f2 a.f3 a.f4
theorem su (a b:Cell):cc a b = -1∨cc a b=0∨cc a b=1:=D_ _ _ _ _ _ _
theorem nU (a b:Cell):cc b a = - cc a b:=CU _ _ _ _ _ _
theorem uF {a b:Cell}:cc a b=0↔a.f0=b.f0∧a.f1=b.f1∧a.f2=b.f2:=Bp
theorem jx {a b c:Cell} (h:cc a b = -1) (h':cc b c = -1):cc a c = -1:=zO h h'
theorem oL (a:Cell):cc a a=0:=uF.2 ⟨rfl,rfl,rfl⟩
theorem lE {a b:Cell} (h:cc a b=0) (c:Cell):cc a c=cc b c:=by
 obtain ⟨h1,h2,h3⟩:=uF.1 h
 unfold cc
 rw [h1,h2,h3]
theorem sU {a b:Cell} (h:cc a b=0) (c:Cell):cc c a=cc c b:=by
 obtain ⟨h1,h2,h3⟩:=uF.1 h
 unfold cc
 rw [h1,h2,h3]
theorem EY {a b:Cell} (h1:¬ cc a b = -1) (h2:¬ cc a b=0):cc b a = -1:=by
 have:=su a b
 have:=nU a b
 omega
theorem Cb {a b:Cell} (h:cc a b=0):cc b a=0:=by
 have:=nU a b
 omega
def ins (c:Cell):List Cell→List Cell
 | []=>[c]
 | x :: l=>if cc x c = -1 then x :: ins c l else if cc x c=0 then c :: l else c :: x :: l
def tP (l:List Cell):List Cell:=l.foldl (fun o c=>ins c o) []
def fj (l:List Cell):Prop:=l.Pairwise (fun a b=>cc a b = -1)
def gV (l:List Cell):Prop:=∀ c ∈ l,fS c=true
def kf (l:List Cell):Prop:=gV l∧fj l
theorem ny {c x:Cell}:∀ {l:List Cell},x ∈ ins c l→x=c∨x ∈ l
 | [],h=>by simp only [ins,List.mem_singleton] at h;exact .inl h
 | y :: l,h=>by
  unfold ins at h
  split at h
  ·
   rcases List.mem_cons.1 h with rfl | h
   ·
    exact .inr (List.mem_cons_self)
   ·
    exact (ny h).imp id (List.mem_cons_of_mem _)
  ·
   split at h
   ·
    rcases List.mem_cons.1 h with rfl | h
    ·
     exact .inl rfl
    ·
     exact .inr (List.mem_cons_of_mem _ h)
   ·
    rcases List.mem_cons.1 h with rfl | h
    ·
     exact .inl rfl
    ·
     exact .inr h
theorem oK (c:Cell):∀ l:List Cell,c ∈ ins c l
 | []=>by simp [ins]
 | y :: l=>by
  unfold ins
  split
  ·
   exact List.mem_cons_of_mem _ (oK c l)
  ·
   split<;>exact List.mem_cons_self
theorem qR {c x:Cell} (hx:cc x c≠0):∀ {l:List Cell},x ∈ l→x ∈ ins c l
 | [],h=>by cases h
 | y :: l,h=>by
  unfold ins
  split
  ·
   rcases List.mem_cons.1 h with rfl | h
   ·
    exact List.mem_cons_self
   ·
    exact List.mem_cons_of_mem _ (qR hx h)
  ·
   split
   ·
    rename_i h0
    rcases List.mem_cons.1 h with rfl | h
    ·
     exact absurd h0 hx
    ·
     exact List.mem_cons_of_mem _ h
   ·
    exact List.mem_cons_of_mem _ h
theorem nC {c:Cell}:∀ {l:List Cell},fj l→fj (ins c l)
 | [],_=>by simp [ins,fj]
 | y :: l,h=>by
  obtain ⟨h1,h2⟩:=List.pairwise_cons.1 h
  unfold ins
  split
  ·
   rename_i hy
   refine List.pairwise_cons.2 ⟨fun z hz=>?_,nC h2⟩
   rcases ny hz with rfl | hz
   ·
    exact hy
   ·
    exact h1 z hz
  ·
   split
   ·
    rename_i h0
    refine List.pairwise_cons.2 ⟨fun z hz=>?_,h2⟩
    rw [←lE h0]
    exact h1 z hz
   ·
    rename_i hn h0
    have hg:=EY hn h0
    refine List.pairwise_cons.2 ⟨fun z hz=>?_,h⟩
    rcases List.mem_cons.1 hz with rfl | hz
    ·
     exact hg
    ·
     exact jx hg (h1 z hz)
theorem AQ {c:Cell} {l:List Cell} (hc:fS c=true) (h:gV l):gV (ins c l):=fun x hx=>(ny hx).elim (fun e=>e▸hc) (h x)
theorem Ee {c:Cell} {l:List Cell} (hc:fS c=true) (h:kf l):kf (ins c l):=⟨AQ hc h.1,nC h.2⟩
theorem ow (c:Cell):∀ l:List Cell,(ins c l).length≤l.length+1
 | []=>by simp [ins]
 | y :: l=>by
  have:=ow c l
  unfold ins
  split
  ·
   simp only [List.length_cons];omega
  ·
   split<;>simp only [List.length_cons]<;>omega
theorem o3:∀ (l o:List Cell),(l.foldl (fun o c=>ins c o) o).length≤o.length+l.length
 | [],o=>by simp
 | c :: l,o=>by
  have h1:=o3 l (ins c o)
  have h2:=ow c o
  simp only [List.foldl_cons,List.length_cons]
  omega
theorem zL:kf []:=⟨fun _ hx=>(by cases hx),List.Pairwise.nil⟩
theorem xo (l:List Cell):(tP l).length≤l.length:=by
 have:=o3 l []
 simpa [tP] using this
theorem rV (c:Cell):∀ (l:List Cell) (i:Nat),i≤l.length→(∀ j (_:j<i) (hl:j<l.length),cc l[j] c = -1)→(∀ h:i<l.length,¬ cc l[i] c = -1)→
  ins c l=l.take i++c :: (l.drop (if h:i<l.length then (if cc l[i] c=0 then i+1 else i) else i))
 | [],i,hi,_,_=>by
  have:i=0:=by simpa using hi
  subst this
  simp [ins]
 | x :: l,0,_,_,h2=>by
  have h3:=h2 (by simp)
  simp only [List.getElem_cons_zero] at h3
  unfold ins
  rw [if_neg h3]
  by_cases h0:cc x c=0
  ·
   simp [h0]
  ·
   simp [h0]
 | x :: l,i+1,hi,h1,h2=>by
  have hx:=h1 0 (by omega) (by simp)
  simp only [List.getElem_cons_zero] at hx
  unfold ins
  rw [if_pos hx,rV c l i (by simpa using hi) (fun j hj hl=>by have:=h1 (j+1) (by omega) (by simpa using hl);simpa using this) (fun hl=>by have:=h2 (by simpa using hl);simpa using this)]
  by_cases hl:i<l.length
  ·
   by_cases h0:cc l[i] c=0
   ·
    simp [hl,h0]
   ·
    simp [hl,h0]
  ·
   simp [hl]
theorem g_ {a:Cell}:fS a=true↔1≤a.f0.size∧a.f0.size≤64∧1≤a.f1.size∧a.f1.size≤64∧0≤a.f2∧a.f2≤4294967295∧a.f3.size≤256∧(a.f4=false∨a.f3.size=0):=ep
def qM (l:List Cell) (i:Nat):Bool:=fS (lP l i) && (i == 0 || cc (lP l ((i:Int) - 1)) (lP l i) == -1)
def ku (l:List Cell) (i:Nat):Nat→Bool
 | 0=>true
 | d+1=>qM l i && ku l (i+1) d
def jk (l:List Cell):Bool:=ku l 0 l.length
theorem qp (l:List Cell):∀ d i,ku l i d=true↔∀ j,i≤j→j<i+d→qM l j=true
 | 0,i=>⟨fun _ j h1 h2=>by omega,fun _=>rfl⟩
 | d+1,i=>by
  unfold ku
  rw [Bool.and_eq_true,qp l d (i+1)]
  constructor
  ·
   rintro ⟨h1,h2⟩ j h3 h4
   by_cases hj:j=i
   ·
    rw [hj];exact h1
   ·
    exact h2 j (by omega) (by omega)
  ·
   intro h
   exact ⟨h i (by omega) (by omega),fun j h3 h4=>h j (by omega) (by omega)⟩
theorem rG:∀ (l:List Cell),(∀ i (h:i+1<l.length),cc l[i] l[i+1] = -1)→fj l
 | [],_=>List.Pairwise.nil
 | [x],_=>by simp [fj]
 | x :: y :: l,h=>by
  have h1:cc x y = -1:=by have:=h 0 (by simp);simpa using this
  have h2:fj (y :: l):=rG (y :: l) (fun i hi=>by have:=h (i+1) (by simpa using hi);simpa using this)
  refine List.pairwise_cons.2 ⟨fun z hz=>?_,h2⟩
  rcases List.mem_cons.1 hz with rfl | hz
  ·
   exact h1
  ·
   exact jx h1 ((List.pairwise_cons.1 h2).1 z hz)
theorem kJ {l:List Cell}:jk l=true↔kf l:=by
 unfold jk
 rw [qp]
 constructor
 ·
  intro h
  refine ⟨fun x hx=>?_,rG l fun i hi=>?_⟩
  ·
   obtain ⟨i,hi,rfl⟩:=List.getElem_of_mem hx
   have:=h i (by omega) (by omega)
   unfold qM at this
   rw [Bool.and_eq_true,fQ _ _ hi] at this
   exact this.1
  ·
   have:=h (i+1) (by omega) (by omega)
   unfold qM at this
   rw [Bool.and_eq_true,fQ _ _ hi,show ((i+1:Nat):Int) - 1=(i:Int) by omega,fQ _ _ (by omega)] at this
   simpa using this.2
 ·
  rintro ⟨h1,h2⟩ j _ hj
  have hj':j<l.length:=by omega
  unfold qM
  rw [fQ _ _ hj',h1 _ (List.getElem_mem hj'),Bool.true_and]
  by_cases h0:j=0
  ·
   simp [h0]
  ·
   rw [show (j:Int) - 1=((j - 1:Nat):Int) by omega,fQ _ _ (by omega),List.pairwise_iff_getElem.1 h2 (j - 1) j (by omega) hj' (by omega)]
   simp
def lX (a:Cell):Prop:=a.f0.size≤140737488355328∧a.f1.size≤140737488355328
theorem uR {a:Cell} (h:fS a=true):lX a:=by
 obtain ⟨_,h1,_,h2,_⟩:=g_.1 h
 exact ⟨by omega,by omega⟩
theorem mQ (a b:Cell):Ev (fun k=>bT.f k a.f0 a.f1 a.f2 a.f3 a.f4 b.f0 b.f1 b.f2 b.f3 b.f4) (cc a b):=pu _ _ _ _ _ _ _ _ _ _
theorem vB {l:List Cell} (h:0<l.length):qM l 0=fS l[0]:=by
 unfold qM
 rw [fQ l 0 h]
 simp
theorem wL {l:List Cell} {i:Nat} (h:i<l.length) (h0:0<i):qM l i=(fS l[i] && (cc (l[i-1]'(by omega)) l[i] == -1)):=by
 unfold qM
 rw [fQ l i h,show (i:Int) - 1=((i - 1:Nat):Int) by omega,fQ l (i - 1) (by omega),show (i == 0)=false by simp;omega,Bool.false_or]
theorem uO (l:List Cell) (hn:l.length≤140737488355328) (d:Nat):∀ i:Nat,i≤l.length→l.length - i=d→Ev (fun k=>aQ.l0 k l l (l.length:Int) (i:Int)) (ku l i d):=by
 induction d with
 | zero=>
  intro i hi hd
  refine Ev.step (f:=fun _=>some true) (fun k=>?_) (Ev.now _)
  simp only [aQ.l0]
  rw [if_neg (by omega)]
 | succ d ih=>
  intro i hi hd
  have hlt:i<l.length:=by omega
  have hr:=fQ l i hlt
  unfold lP at hr
  have jt:Ev (fun k=>aQ.j1 k l l (l.length:Int) (i:Int) true) false:=Ev.step (f:=fun _=>some false) (fun k=>by simp only [aQ.j1,if_true]) (Ev.now _)
  have jf:Ev (fun k=>aQ.j1 k l l (l.length:Int) (i:Int) false) (ku l (i+1) d):=Ev.step (f:=fun k=>aQ.l0 k l l (l.length:Int) ((i+1:Nat):Int)) (fun k=>by simp only [aQ.j1,Bool.false_eq_true,if_false];rw [fU (by omega) (by omega)];rfl) (ih (i+1) (by omega) (by omega))
  unfold ku
  refine Ev.step (fun k=>by simp only [aQ.l0];rw [if_pos (by omega),if_pos (by omega),if_pos (by omega),hr]) (Ev.bind (Ev.eq (l9 _ _ _ _ _)) ?_)
  by_cases hc:fS l[i]=true
  ·
   refine Ev.pos hc ?_
   by_cases h0:0<i
   ·
    have hr1:=fQ l (i - 1) (by omega)
    unfold lP at hr1
    have hi1:wrap64 ((i:Int) - 1)=((i - 1:Nat):Int):=by rw [fU (by omega) (by omega)];omega
    refine Ev.pos (by omega) ?_
    rw [hi1,hr1,wL hlt h0,hc,Bool.true_and]
    refine Ev.pos (by omega) (Ev.pos (by omega) (Ev.bind (mQ _ _) ?_))
    have hin:=su (l[i-1]'(by omega)) l[i]
    by_cases h1:cc (l[i-1]'(by omega)) l[i] = -1
    ·
     rw [h1]
     exact jf
    ·
     rw [show (cc (l[i-1]'(by omega)) l[i] == -1)=false by simpa using h1,Bool.false_and,decide_eq_true (by omega)]
     exact jt
   ·
    have:i=0:=by omega
    subst this
    rw [vB hlt,hc,Bool.true_and]
    exact Ev.neg (by omega) jf
  ·
   have hc':fS l[i]=false:=by simpa using hc
   refine Ev.neg hc (jt.to ?_)
   by_cases h0:0<i
   ·
    rw [wL hlt h0,hc']
    rfl
   ·
    have:i=0:=by omega
    subst this
    rw [vB hlt,hc']
    rfl
theorem lO {l:List Cell} (hn:l.length≤140737488355328):Ev (fun k=>aQ.f k l) (jk l):=by
 unfold aQ.f jk
 exact uO l hn l.length 0 (by omega) (by omega)
theorem js (n:Int):eH.f n=some (num n):=by
 unfold eH.f num
 split
 ·
  rfl
 ·
  split
  ·
   rfl
  ·
   rfl
theorem wR {l:List Int} (h:l.length≤140737488355328):dI.f l=some l:=by
 unfold dI.f
 rw [if_pos (by omega)]
theorem Dc {x c:Int} (h0:0≤x) (h1:x<16777216) (h2:0≤c) (h3:c<256):Go.bits .or .i64 (wrap64 (x*256)) (wrap64 c)=x*256+c:=by
 rw [fU (by omega) (by omega),fU (by omega) (by omega)]
 have hw:∀ n:Int,0≤n→n<2 ^ 32→IntKind.i64.wrap n=n:=by
  intro n h4 h5
  rw [IntKind.wrap_i64]
  omega
 exact bits_join .i64 32 (by decide) hw 8 (x*256) c (by omega) (by omega) (by omega) h2 (by omega) (by omega)
theorem j8 {b:List Int} (hb:Bytes b) (hl:b.length≤140737488355328):Ev (fun k=>br.f k b) (jb b):=by
 unfold br.f jb
 by_cases h4:b.length<4
 ·
  rw [if_pos h4]
  exact Ev.pos (by omega) (Ev.now _)
 ·
  rw [if_neg h4]
  refine Ev.neg (by omega) (Ev.pos (by omega) (Ev.bind (Ev.now _) ?_))
  obtain ⟨x0,x1,x2,x3,r,rfl⟩:=rK (b:=b) (by omega)
  ·
   clear h4
   obtain ⟨a0,b0⟩:=hb x0 (by simp)
   obtain ⟨a1,b1⟩:=hb x1 (by simp)
   obtain ⟨a2,b2⟩:=hb x2 (by simp)
   obtain ⟨a3,b3⟩:=hb x3 (by simp)
   simp only [List.take_succ_cons,List.take_zero]
   have hlen:(([x0,x1,x2,x3]:List Int).length:Int)=4:=rfl
   rw [hlen]
   refine Ev.step (f:=fun k=>br.l0 k (x0 :: x1 :: x2 :: x3 :: r) x0 [x0,x1,x2,x3] 4 1) (fun k=>?_) ?_
   ·
    simp only [br.l0]
    rw [if_pos (by omega),if_pos (by omega),if_pos (by rw [hlen];omega)]
    rw [show rd [x0,x1,x2,x3] 0=x0 from rfl,Dc (by omega) (by omega) a0 b0,fU (by omega) (by omega)]
    simp
   refine Ev.step (f:=fun k=>br.l0 k (x0 :: x1 :: x2 :: x3 :: r) (x0*256+x1) [x0,x1,x2,x3] 4 2) (fun k=>?_) ?_
   ·
    simp only [br.l0]
    rw [if_pos (by omega),if_pos (by omega),if_pos (by rw [hlen];omega)]
    rw [show rd [x0,x1,x2,x3] 1=x1 from rfl,Dc (by omega) (by omega) a1 b1,fU (by omega) (by omega)]
    rfl
   refine Ev.step (f:=fun k=>br.l0 k (x0 :: x1 :: x2 :: x3 :: r) ((x0*256+x1)*256+x2) [x0,x1,x2,x3] 4 3) (fun k=>?_) ?_
   ·
    simp only [br.l0]
    rw [if_pos (by omega),if_pos (by omega),if_pos (by rw [hlen];omega)]
    rw [show rd [x0,x1,x2,x3] 2=x2 from rfl,Dc (by omega) (by omega) a2 b2,fU (by omega) (by omega)]
    rfl
   refine Ev.step (f:=fun k=>br.l0 k (x0 :: x1 :: x2 :: x3 :: r) (((x0*256+x1)*256+x2)*256+x3) [x0,x1,x2,x3] 4 4) (fun k=>?_) ?_
   ·
    simp only [br.l0]
    rw [if_pos (by omega),if_pos (by omega),if_pos (by rw [hlen];omega)]
    rw [show rd [x0,x1,x2,x3] 3=x3 from rfl,Dc (by omega) (by omega) a3 b3,fU (by omega) (by omega)]
    rfl
   refine Ev.step (f:=fun _=>some (dX (x0 :: x1 :: x2 :: x3 :: r),r,true)) (fun k=>?_) (Ev.now _)
   simp only [br.l0]
   rw [if_neg (by omega),if_pos (by simp only [List.length_cons];omega)]
   rw [show (x0 :: x1 :: x2 :: x3 :: r).drop 4=r from rfl,wR (by simp only [List.length_cons] at hl;omega)]
   simp only [Option.bind_some,Option.some.injEq,Prod.mk.injEq,and_true]
   simp [dX,rd]
   omega
theorem j5 {s:ByteArray} (h:s.size≤140737488351232):eE.f s=some (text s):=by
 unfold eE.f
 rw [js]
 simp only [Option.bind_some]
 rw [if_pos (by have:=fC s.size;omega)]
 rfl
theorem mN {b:List Int} (hb:Bytes b) (hl:b.length≤140737488355328):Ev (fun k=>eA.f k b) (fW b):=by
 unfold eA.f
 refine Ev.bind (j8 hb hl) ?_
 unfold jb fW
 by_cases h4:b.length<4
 ·
  simp only [if_pos h4]
  exact Ev.now _
 ·
  simp only [if_neg h4,if_true]
  obtain ⟨g0,g1⟩:=iZ hb (by omega)
  by_cases hv:dX b > ((b.length - 4:Nat):Int)
  ·
   rw [if_pos hv]
   exact Ev.pos (by rw [List.length_drop];exact hv) (Ev.now _)
  ·
   rw [if_neg hv]
   exact Ev.neg (by rw [List.length_drop];exact hv) (Ev.pos g0 (Ev.pos (by rw [List.length_drop];omega) (Ev.now _)))
theorem jO {b:List Int}:(fW b).2.1.length≤b.length:=by
 unfold fW
 split
 ·
  simp
 ·
  split
  ·
   simp
  ·
   simp only [List.length_drop];omega
theorem nR {l:List (List Int)} (h:fG l≤140737488355328):cA.f l=some l.flatten:=by
 unfold cA.f
 rw [if_pos h]
def lH (g:Bool):Int:=if g=true then 1 else 0
theorem C0 (g:Bool):0≤lH g∧lH g≤1:=by cases g<;>decide
def jC (r c:ByteArray) (t:Int) (v:ByteArray) (g:Bool):List Int:=text r++(text c++(num t++([lH g]++text v)))
theorem pM (r c:ByteArray) (t:Int) (v:ByteArray) (g:Bool):Bytes (jC r c t v g):=by
 obtain ⟨h0,h1⟩:=C0 g
 exact (mZ _).append ((mZ _).append ((ij _).append ((Bytes.cons h0 (by omega) Bytes.nil).append (mZ _))))
theorem kT (r c:ByteArray) (t:Int) (v:ByteArray) (g:Bool):(jC r c t v g).length≤17+r.size+c.size+v.size:=by
 have h1:=gG r
 have h2:=gG c
 have h3:=gG v
 have h4:=fC t
 unfold jC
 simp only [List.length_append,List.length_cons,List.length_nil]
 omega
theorem nK {r c:ByteArray} (t:Int) {v:ByteArray} (g:Bool) (hr:r.size≤1000000) (hc:c.size≤1000000) (hv:v.size≤1000000):dz.f r c t v g=some (jC r c t v g):=by
 unfold dz.f
 have hf:kX.f g=some (lH g):=by unfold kX.f lH;cases g<;>rfl
 simp only [j5 (s:=r) (by omega),j5 (s:=c) (by omega),j5 (s:=v) (by omega),js,hf,Option.bind_some]
 have hl:=kT r c t v g
 unfold jC at hl
 simp only [List.length_append,List.length_cons,List.length_nil] at hl
 rw [nR (by simp only [fG,List.map_cons,List.map_nil,List.sum_cons,List.sum_nil,List.length_cons,List.length_nil];omega)]
 simp [jC]
def kM (b:List Int):Bool × List Int × Bool:=if b.length=0 then (false,[],false) else if rd b 0 > 1 then (false,[],false) else (rd b 0 == 1,b.drop 1,true)
theorem z8 (b:List Int):ju.f b=some (kM b):=by
 unfold ju.f kM
 by_cases h:b.length=0
 ·
  rw [if_pos (by omega),if_pos h]
 ·
  rw [if_neg (by omega),if_neg h,if_pos (by omega)]
  by_cases h1:rd b 0 > 1
  ·
   rw [if_pos h1,if_pos h1]
  ·
   rw [if_neg h1,if_neg h1,if_pos (by omega)]
   rfl
theorem xJ (g:Bool) (r:List Int):kM ([lH g]++r)=(g,r,true):=by
 unfold kM
 cases g<;>simp [lH,rd]
abbrev Eo:=ByteArray × ByteArray × Int × ByteArray × Bool × List Int × Bool
def iJ (b:List Int):Eo:=
 let r:=fW b
 let c:=fW r.2.1
 let t:=jb c.2.1
 let g:=kM t.2.1
 let v:=fW g.2.1
 if (r.2.2 && (c.2.2 && (t.2.2 && (g.2.2 && (v.2.2 && iP r.1 c.1 t.1 v.1 g.1)))))=true then (r.1,c.1,t.1,v.1,g.1,v.2.1,true) else (⟨#[]⟩,⟨#[]⟩,0,⟨#[]⟩,false,[],false)
theorem ri {b:List Int} (hb:Bytes b):Bytes (kM b).2.1∧(kM b).2.1.length≤b.length:=by
 unfold kM
 split
 ·
  exact ⟨Bytes.nil,by simp⟩
 ·
  split
  ·
   exact ⟨Bytes.nil,by simp⟩
  ·
   exact ⟨hb.drop 1,by simp only [List.length_drop];omega⟩
theorem rj {b:List Int} (hb:Bytes b):Bytes (jb b).2.1∧(jb b).2.1.length≤b.length:=by
 unfold jb
 split
 ·
  exact ⟨Bytes.nil,by simp⟩
 ·
  exact ⟨hb.drop 4,by simp only [List.length_drop];omega⟩
theorem yJ {b:List Int} (hb:Bytes b) (hl:b.length≤140737488355328):Ev (fun k=>d7.f k b) (iJ b):=by
 have b1:=je hb
 have l1:=Nat.le_trans (jO (b:=b)) hl
 have b2:=je b1
 have l2:=Nat.le_trans (jO (b:=(fW b).2.1)) l1
 obtain ⟨b3,m3⟩:=rj b2
 have l3:=Nat.le_trans m3 l2
 obtain ⟨b4,m4⟩:=ri b3
 have l4:=Nat.le_trans m4 l3
 have jt:∀ (x:List Int) (r c:ByteArray) (t:Int) (v:ByteArray) (g:Bool),Ev (fun k=>d7.j0 k x true r c t v g) (⟨#[]⟩,⟨#[]⟩,0,⟨#[]⟩,false,[],false):=fun x r c t v g=>Ev.step (fun k=>by simp only [d7.j0,if_true]) (Ev.now _)
 have jf:∀ (x:List Int) (r c:ByteArray) (t:Int) (v:ByteArray) (g:Bool),Ev (fun k=>d7.j0 k x false r c t v g) (r,c,t,v,g,x,true):=fun x r c t v g=>Ev.step (fun k=>by simp only [d7.j0,Bool.false_eq_true,if_false]) (Ev.now _)
 unfold d7.f iJ
 refine Ev.bind (mN hb hl) (Ev.bind (mN b1 l1) (Ev.bind (j8 b2 l2) (Ev.bind (Ev.eq (z8 _)) (Ev.bind (mN b4 l4) ?_))))
 simp only
 generalize fW b=r
 generalize fW r.2.1=c
 generalize jb c.2.1=t
 generalize kM t.2.1=g
 generalize fW g.2.1=v
 by_cases h:(!r.2.2 || (!c.2.2 || (!t.2.2 || (!g.2.2 || (!v.2.2)))))=true
 ·
  refine Ev.pos h ?_
  have:(r.2.2 && (c.2.2 && (t.2.2 && (g.2.2 && (v.2.2 && iP r.1 c.1 t.1 v.1 g.1)))))=false:=by
   revert h
   cases r.2.2<;>cases c.2.2<;>cases t.2.2<;>cases g.2.2<;>cases v.2.2<;>simp
  rw [this]
  exact jt _ _ _ _ _ _
 ·
  refine Ev.neg h (Ev.bind (Ev.eq (l9 _ _ _ _ _)) ?_)
  have:(r.2.2 && (c.2.2 && (t.2.2 && (g.2.2 && (v.2.2 && iP r.1 c.1 t.1 v.1 g.1)))))=iP r.1 c.1 t.1 v.1 g.1:=by
   revert h
   cases r.2.2<;>cases c.2.2<;>cases t.2.2<;>cases g.2.2<;>cases v.2.2<;>simp
  rw [this]
  cases hr:iP r.1 c.1 t.1 v.1 g.1 with
  | true=>exact jf _ _ _ _ _ _
  | false=>exact jt _ _ _ _ _ _
theorem vR {r c:ByteArray} {t:Int} {v:ByteArray} {g:Bool} (h:iP r c t v g=true) (x:List Int):iJ (jC r c t v g++x)=(r,c,t,v,g,x,true):=by
 obtain ⟨h1,h2,h3,h4,h5,h6,h7,_⟩:=ep.1 h
 have e1:fW (jC r c t v g++x)=(r,text c++(num t++([lH g]++(text v++x))),true):=by
  rw [show jC r c t v g++x=text r++(text c++(num t++([lH g]++(text v++x)))) by simp [jC]]
  exact oY (by omega) _
 have e2:fW (text c++(num t++([lH g]++(text v++x))))=(c,num t++([lH g]++(text v++x)),true):=oY (by omega) _
 have e3:jb (num t++([lH g]++(text v++x)))=(t,[lH g]++(text v++x),true):=ul h5 (by omega) _
 have e4:fW (text v++x)=(v,x,true):=oY (by omega) _
 unfold iJ
 simp only [e1,e2,e3,xJ,e4,h,Bool.and_self,if_true]
def xh (x:Nat):Nat:=if x % 2=1 then (x / 2) ^^^ 2197175160 else x / 2
def Df:Nat→Nat→Nat
 | 0,w=>w
 | m+1,w=>Df m (xh w)
def ug (w c:Nat):Nat:=Df 8 (w ^^^ c)
def CB (w:Nat) (l:List Int):Nat:=l.foldl (fun w c=>ug w c.toNat) w
@[irreducible] def fM (l:List Int):Int:=((4294967295 - CB 4294967295 l:Nat):Int)
theorem Ap (l:List Int):fM l=((4294967295 - CB 4294967295 l:Nat):Int):=by unfold fM;rfl
theorem zF {x:Nat} (h:x<4294967296):xh x<4294967296:=by
 unfold xh
 split
 ·
  exact Nat.xor_lt_two_pow (n:=32) (by omega) (by omega)
 ·
  omega
theorem Bo:∀ (m x:Nat),x<4294967296→Df m x<4294967296
 | 0,_,h=>h
 | m+1,_,h=>Bo m _ (zF h)
theorem CI {w c:Nat} (hw:w<4294967296) (hc:c<4294967296):ug w c<4294967296:=Bo 8 _ (Nat.xor_lt_two_pow (n:=32) hw hc)
theorem kp (l:List Int):0≤fM l∧fM l≤4294967295:=by
 unfold fM
 omega
theorem xu (k:IntKind) (j:Nat) (hj:j≤k.bits) (hk:∀ n:Int,0≤n→n<2 ^ j→k.wrap n=n) (a b:Nat) (ha:a<2 ^ j) (hb:b<2 ^ j):Go.bits .xor k (a:Int) (b:Int)=((a ^^^ b:Nat):Int):=by
 have hp:2 ^ j≤2 ^ k.bits:=Nat.pow_le_pow_right (by decide) hj
 have ha':a % 2 ^ k.bits=a:=Nat.mod_eq_of_lt (Nat.lt_of_lt_of_le ha hp)
 have hb':b % 2 ^ k.bits=b:=Nat.mod_eq_of_lt (Nat.lt_of_lt_of_le hb hp)
 have cast:∀ n:Nat,n<2 ^ j→((n:Nat):Int)<2 ^ j:=fun n h=>by exact_mod_cast h
 simp only [Go.bits,BitVec.ofInt_natCast,BitVec.toNat_xor,BitVec.toNat_ofNat,ha',hb']
 exact hk _ (Int.natCast_nonneg _) (cast _ (Nat.xor_lt_two_pow ha hb))
theorem oB {a b:Nat} (ha:a<4294967296) (hb:b<4294967296):Go.bits .xor .u32 (a:Int) (b:Int)=((a ^^^ b:Nat):Int):=by
 have hk:∀ n:Int,0≤n→n<2 ^ 32→IntKind.u32.wrap n=n:=by
  intro n h4 h5
  rw [IntKind.wrap_u32]
  omega
 exact xu .u32 32 (by decide) hk a b ha hb
theorem Ag {a:Nat} (ha:a<4294967296):Go.bits .and .u32 (a:Int) 1=((a % 2:Nat):Int):=by
 have hk:∀ n:Int,0≤n→n<2 ^ 32→IntKind.u32.wrap n=n:=by
  intro n h4 h5
  rw [IntKind.wrap_u32]
  omega
 have:=(bits_nat .u32 32 (by decide) hk a 1 ha (by decide)).1
 rw [Nat.and_one_is_mod] at this
 exact this
theorem AB {a:Nat} (ha:a<4294967296):Go.bits .xor .u32 (a:Int) 4294967295=((4294967295 - a:Nat):Int):=by
 have h:=oB ha (show 4294967295<4294967296 by decide)
 have h2:a ^^^ 4294967295=4294967295 - a:=by
  apply Nat.eq_of_testBit_eq
  intro i
  have h3:=Nat.testBit_two_pow_sub_succ (n:=32) (x:=a) (by simpa using ha) i
  rw [show (2:Nat) ^ 32 - (a+1)=4294967295 - a by omega] at h3
  rw [h3,Nat.testBit_xor,show (4294967295:Nat)=2 ^ 32 - 1 from rfl,Nat.testBit_two_pow_sub_one]
  by_cases hi:i<32
  ·
   simp [hi]
  ·
   have:a.testBit i=false:=Nat.testBit_lt_two_pow (Nat.lt_of_lt_of_le (by simpa using ha:a<2 ^ 32) (Nat.pow_le_pow_right (by decide) (by omega)))
   simp [hi,this]
 rw [h2] at h
 exact h
def kW (b:List Int):List Int:=num (fM b)
def frame (r:List Int):List Int:=num r.length++(kW (num r.length)++(kW r++r))
def frames (l:List (List Int)):List Int:=(l.map frame).flatten
theorem jV (b:List Int):(kW b).length=4:=by
 obtain ⟨h0,h1⟩:=kp b
 exact iz h0 (by omega)
theorem pI {r:List Int} (h:Bytes r):Bytes (frame r):=(ij _).append ((ij _).append ((ij _).append h))
theorem jz {r:List Int} (h:r.length≤65535):(frame r).length=12+r.length:=by
 unfold frame
 rw [List.length_append,List.length_append,List.length_append,jV,jV,iz (by omega) (by omega)]
 omega
def okF (d:List Int):Prop:=12≤d.length∧dX d≤65535∧12+dX d≤d.length∧dX (d.drop 4)=fM (d.take 4)∧dX (d.drop 8)=fM ((d.drop 12).take (dX d).toNat)
instance (d:List Int):Decidable (okF d):=by unfold okF;infer_instance
def ke (d:List Int):List Int × List Int × Bool:=if okF d then ((d.drop 12).take (dX d).toNat,(d.drop 12).drop (dX d).toNat,true) else ([],[],false)
theorem sR {n:Int} (h0:0≤n) (h1:n≤4294967295) (r:List Int):(num n++r).drop 4=r:=by rw [←iz h0 h1,List.drop_left]
theorem Co {n:Int} (h0:0≤n) (h1:n≤4294967295) (r:List Int):(num n++r).take 4=num n:=by rw [←iz h0 h1,List.take_left]
theorem sP {r:List Int} (h:r.length≤65535) (s:List Int):dX (frame r++s)=r.length∧(frame r++s).take 4=num r.length∧dX ((frame r++s).drop 4)=fM (num r.length)∧dX ((frame r++s).drop 8)=fM r∧(frame r++s).drop 12=r++s:=by
 have e:frame r++s=num r.length++(kW (num r.length)++(kW r++(r++s))):=by simp [frame]
 obtain ⟨a0,a1⟩:=kp (num r.length)
 obtain ⟨b0,b1⟩:=kp r
 have d4:(frame r++s).drop 4=kW (num r.length)++(kW r++(r++s)):=by rw [e];exact sR (by omega) (by omega) _
 have d8:(frame r++s).drop 8=kW r++(r++s):=by rw [show 8=4+4 from rfl,← List.drop_drop,d4];exact sR a0 a1 _
 have d12:(frame r++s).drop 12=r++s:=by rw [show 12=8+4 from rfl,← List.drop_drop,d8];exact sR b0 b1 _
 refine ⟨by rw [e];exact jU (by omega) (by omega) _,by rw [e];exact Co (by omega) (by omega) _,by rw [d4];exact jU a0 a1 _,by rw [d8];exact jU b0 b1 _,d12⟩
theorem Bb {r:List Int} (h:r.length≤65535) (s:List Int):okF (frame r++s):=by
 obtain ⟨h1,h2,h3,h4,h5⟩:=sP h s
 have hl:=jz h
 have hn:((r.length:Nat):Int).toNat=r.length:=by omega
 refine ⟨by rw [List.length_append];omega,by rw [h1];omega,by rw [h1,List.length_append];omega,by rw [h2,h3],?_⟩
 rw [h4,h5,h1,hn,List.take_left]
theorem Ao {r:List Int} (h:r.length≤65535) (s:List Int):ke (frame r++s)=(r,s,true):=by
 obtain ⟨h1,h2,h3,h4,h5⟩:=sP h s
 have hn:((r.length:Nat):Int).toNat=r.length:=by omega
 unfold ke
 rw [if_pos (Bb h s),h1,h5,hn,List.take_left,List.drop_left]
theorem sj {d:List Int} (h:¬ okF d):ke d=([],[],false):=by
 unfold ke
 rw [if_neg h]
theorem yL {p:List Int} {x y:Int} {s:List Int} (h4:(p++x :: s).length=4) (hb:Bytes (p++x :: s)) (hc:Bytes (p++y :: s)) (hne:x≠y) (t u:List Int):dX (p++x :: s++t)≠dX (p++y :: s++u):=by
 intro h
 have hb4:(p++x :: s)=num (dX (p++x :: s++t)):=by
  have hv:dX (p++x :: s++t)=dX (p++x :: s):=by
   obtain ⟨a,b,c,d,r,e⟩:=rK (b:=p++x :: s) (by omega)
   rw [e];rfl
  rw [hv,qA hb (by omega),List.take_of_length_le (by omega)]
 have hc4:(p++y :: s)=num (dX (p++y :: s++u)):=by
  have hl:(p++y :: s).length=4:=by simpa using h4
  have hv:dX (p++y :: s++u)=dX (p++y :: s):=by
   obtain ⟨a,b,c,d,r,e⟩:=rK (b:=p++y :: s) (by omega)
   rw [e];rfl
  rw [hv,qA hc (by omega),List.take_of_length_le (by omega)]
 rw [h,← hc4] at hb4
 have:=List.append_cancel_left hb4
 exact hne (List.cons.inj this).1
def Turn (a b:List Int):Prop:=∃ p x y s,a=p++x :: s∧b=p++y :: s∧x≠y
theorem Turn.set {a:List Int} {j:Nat} {y:Int} (hj:j<a.length) (hne:a[j]?≠some y):Turn a (a.set j y):=by
 refine ⟨a.take j,a[j],y,a.drop (j+1),?_,?_,fun e=>hne (by rw [List.getElem?_eq_getElem hj,e])⟩
 ·
  rw [←List.drop_eq_getElem_cons hj,List.take_append_drop]
 ·
  rw [List.set_eq_take_append_cons_drop,if_pos hj]
theorem Turn.dX {a b:List Int} (h:Turn a b) (h4:a.length=4) (ha:Bytes a) (hb:Bytes b) (t u:List Int):Pl.dX (a++t)≠Pl.dX (b++u):=by
 obtain ⟨p,x,y,s,rfl,rfl,hne⟩:=h
 exact yL h4 ha hb hne t u
theorem Turn.length {a b:List Int} (h:Turn a b):b.length=a.length:=by
 obtain ⟨p,x,y,s,rfl,rfl,_⟩:=h
 simp
theorem E_ (l:List Int) (i:Nat) (h:i<l.length):rd l (i:Int)=l[i]:=by
 simp [rd,List.getD_eq_getElem?_getD,List.getElem?_eq_getElem h]
theorem EL {x:Nat} (h:x<4294967296):cR.bit (x:Int)=(xh x:Int):=by
 unfold cR.bit xh
 rw [Ag h]
 have hd:(x:Int) / 2=((x / 2:Nat):Int):=by omega
 rw [hd]
 by_cases h1:x % 2=1
 ·
  rw [if_pos (by omega),if_pos h1]
  exact oB (a:=x / 2) (b:=2197175160) (by omega) (by omega)
 ·
  rw [if_neg (by omega),if_neg h1]
theorem go_eq:∀ (m:Nat) {x:Nat},x<4294967296→cR.go m (x:Int)=(Df m x:Int)
 | 0,_,_=>rfl
 | m+1,x,h=>by
  rw [cR.go,EL h,go_eq m (zF h)]
  rfl
theorem Cn {w:Nat} {c:Int} (hw:w<4294967296) (hc:0≤c∧c<256):cR.f (w:Int) c=some (ug w c.toNat:Int):=by
 have hc1:c % 4294967296=((c.toNat:Nat):Int):=by omega
 have hc2:c.toNat<4294967296:=by omega
 unfold cR.f
 rw [hc1,oB hw hc2,go_eq 8 (Nat.xor_lt_two_pow (n:=32) hw hc2)]
 rfl
theorem DR {l:List Int} (hb:Bytes l) (hl:l.length≤140737488355328) (d:Nat):∀ (i w:Nat),i≤l.length→l.length - i=d→w<4294967296→
  Ev (fun k=>dK.l0 k (w:Int) l (l.length:Int) (i:Int)) ((4294967295 - CB w (l.drop i):Nat):Int):=by
 induction d with
 | zero=>
  intro i w hi hd hw
  rw [List.drop_eq_nil_of_le (by omega)]
  refine Ev.step (f:=fun _=>some ((4294967295 - w:Nat):Int)) (fun k=>?_) (Ev.now _)
  simp only [dK.l0]
  rw [if_neg (by omega),AB hw]
 | succ d ih=>
  intro i w hi hd hw
  have h1:i<l.length:=by omega
  have hc:=hb _ (List.getElem_mem h1)
  rw [List.drop_eq_getElem_cons h1]
  refine Ev.step (f:=fun k=>dK.l0 k ((ug w (l[i]).toNat:Nat):Int) l (l.length:Int) ((i+1:Nat):Int)) (fun k=>?_) (ih (i+1) (ug w (l[i]).toNat) (by omega) (by omega) (CI hw (by omega)))
  simp only [dK.l0]
  rw [if_pos (by omega),if_pos (by omega),if_pos (by omega),E_ _ _ h1,Cn hw hc,fU (by omega) (by omega)]
  rfl
theorem oV {l:List Int} (hb:Bytes l) (hl:l.length≤140737488355328):Ev (fun k=>fA.f k l) (fM l):=by
 unfold fA.f dK.f
 have h:=DR hb hl l.length 0 4294967295 (by omega) (by omega) (by omega)
 rw [List.drop_zero,← Ap] at h
 have e:Go.bits .xor .u32 0 4294967295=((4294967295:Nat):Int):=oB (a:=0) (b:=4294967295) (by omega) (by omega)
 rw [e]
 exact Ev.bind h (Ev.now _)
theorem uy (l:List Int) (i:Nat) (h:i<l.length):rd l (i:Int)=l[i]:=by
 simp [rd,List.getD_eq_getElem?_getD,List.getElem?_eq_getElem h]
theorem Cx (l m:List Int) (hm:l.length=m.length) (hl:l.length≤140737488355328) (d:Nat):∀ i:Nat,i≤l.length→l.length - i=d→
  Ev (fun k=>aW.l0 k l m (l.length:Int) (i:Int)) (decide (l.drop i=m.drop i)):=by
 induction d with
 | zero=>
  intro i hi hd
  refine Ev.step (f:=fun _=>some true) (fun k=>?_) ?_
  ·
   simp only [aW.l0]
   rw [if_neg (by omega)]
  ·
   rw [List.drop_eq_nil_of_le (by omega),List.drop_eq_nil_of_le (by omega)]
   exact Ev.now _
 | succ d ih=>
  intro i hi hd
  have h1:i<l.length:=by omega
  have h2:i<m.length:=by omega
  rw [List.drop_eq_getElem_cons h1,List.drop_eq_getElem_cons h2]
  by_cases he:l[i]=m[i]
  ·
   refine Ev.step (f:=fun k=>aW.l0 k l m (l.length:Int) ((i+1:Nat):Int)) (fun k=>?_) ((ih (i+1) (by omega) (by omega)).to (by simp only [he,List.cons.injEq,true_and]))
   simp only [aW.l0]
   rw [if_pos (by omega),if_pos (by omega),if_pos (by omega),if_pos (by omega),uy _ _ h1,uy _ _ h2,if_pos he,fU (by omega) (by omega)]
   rfl
  ·
   refine Ev.step (f:=fun _=>some false) (fun k=>?_) ((Ev.now false).to (by simp only [List.cons.injEq,he,false_and,decide_false]))
   simp only [aW.l0]
   rw [if_pos (by omega),if_pos (by omega),if_pos (by omega),if_pos (by omega),uy _ _ h1,uy _ _ h2,if_neg he]
theorem wT {l m:List Int} (hl:l.length≤140737488355328):Ev (fun k=>aW.f k l m) (decide (l=m)):=by
 unfold aW.f
 by_cases h:l.length=m.length
 ·
  refine Ev.pos (by omega) ?_
  have:=Cx l m h hl l.length 0 (by omega) (by omega)
  simpa using this
 ·
  refine Ev.neg (by omega) ((Ev.now false).to ?_)
  symm
  rw [decide_eq_false_iff_not]
  intro e
  exact h (by rw [e])
theorem mW {l:List Int} (hb:Bytes l) (hl:l.length≤140737488355328):Ev (fun k=>eD.f k l) (kW l):=by
 unfold eD.f
 refine Ev.bind (oV hb hl) ?_
 obtain ⟨h0,h1⟩:=kp l
 rw [fU (by omega) (by omega),js]
 exact Ev.now _
theorem r8 {l:List Int} (hb:Bytes l) (hl:l.length≤140737488355328):Ev (fun k=>fk.f k l) (if l.length > 65535 then [] else frame l):=by
 unfold fk.f
 by_cases h:l.length > 65535
 ·
  rw [if_pos h]
  exact Ev.pos (by omega) (Ev.now _)
 ·
  rw [if_neg h]
  refine Ev.neg (by omega) (Ev.bind (Ev.eq (js _)) (Ev.bind (mW (ij _) (by have:=fC l.length;omega)) (Ev.bind (mW hb hl) (Ev.bind (Ev.eq (nR ?_)) ((Ev.now _).to ?_)))))
  ·
   have h1:=fC l.length
   have h2:=jV (num l.length)
   have h3:=jV l
   simp only [fG,List.map_cons,List.map_nil,List.sum_cons,List.sum_nil]
   omega
  ·
   simp [frame]
def jq (c:Cell):List Int:=jC c.f0 c.f1 c.f2 c.f3 c.f4
def iB (l:List Cell):List Int:=num l.length++(l.map jq).flatten
theorem zl {c:Cell} (h:fS c=true):(jq c).length≤401:=by
 obtain ⟨_,h1,_,h2,_,_,h3,_⟩:=g_.1 h
 have:=kT c.f0 c.f1 c.f2 c.f3 c.f4
 unfold jq
 omega
theorem pW:∀ l:List Cell,Bytes (l.map jq).flatten
 | []=>Bytes.nil
 | c :: l=>by rw [List.map_cons,List.flatten_cons];exact (pM _ _ _ _ _).append (pW l)
theorem sN (l:List Cell):Bytes (iB l):=(ij _).append (pW l)
theorem xR {r:List Int} (h:r.length≤65535):¬ (((frame r).length:Nat):Int)=0:=by
 rw [jz h]
 omega
theorem Ef (l:List Cell) (hr:gV l) (hl:l.length≤450) (d:Nat):∀ (i:Nat) (acc:List Int),i≤l.length→l.length - i=d→acc.length+((l.drop i).map jq).flatten.length≤60154→Bytes acc→Ev (fun k=>cM.l0 k acc l (l.length:Int) (i:Int)) (frame (acc++((l.drop i).map jq).flatten),0):=by
 induction d with
 | zero=>
  intro i acc hi hd ha hb
  rw [List.drop_eq_nil_of_le (by omega)] at ha ⊢
  simp only [List.map_nil,List.flatten_nil,List.length_nil] at ha
  have h:=r8 hb (by omega)
  rw [if_neg (by omega)] at h
  refine Ev.step (fun k=>by simp only [cM.l0];rw [if_neg (by omega)]) ?_
  refine Ev.bind h ?_
  refine Ev.neg (xR (by omega)) ?_
  exact (Ev.now _).to (by simp)
 | succ d ih=>
  intro i acc hi hd ha hb
  have hlt:i<l.length:=by omega
  have hri:=hr _ (List.getElem_mem hlt)
  have hz:=zl hri
  have hrd:=fQ l i hlt
  unfold lP at hrd
  obtain ⟨_,z1,_,z2,_,_,z3,_⟩:=g_.1 hri
  have hp:dz.f l[i].f0 l[i].f1 l[i].f2 l[i].f3 l[i].f4=some (jq l[i]):=nK _ _ (by omega) (by omega) (by omega)
  rw [List.drop_eq_getElem_cons hlt,List.map_cons,List.flatten_cons,List.length_append] at ha
  rw [List.drop_eq_getElem_cons hlt,List.map_cons,List.flatten_cons,← List.append_assoc]
  refine Ev.step (f:=fun k=>cM.l0 k (acc++jq l[i]) l (l.length:Int) ((i+1:Nat):Int)) (fun k=>?_) (ih (i+1) (acc++jq l[i]) (by omega) (by omega) (by rw [List.length_append];omega) (hb.append (pM _ _ _ _ _)))
  simp only [cM.l0]
  rw [if_pos (by omega),if_pos (by omega),if_pos (by omega),hrd,hp,Option.bind_some,if_pos (by omega),fU (by omega) (by omega)]
  rfl
theorem v_ {l:List Cell} (hs:kf l) (h0:l.length≠0) (hl:l.length≤450) (hb:(iB l).length≤60154):Ev (fun k=>cM.f k l) (frame (iB l),0):=by
 unfold cM.f
 refine Ev.bind (lO (by omega)) ?_
 rw [kJ.2 hs]
 refine Ev.pos rfl ?_
 rw [show ((l.length:Int) == 0)=false from beq_eq_false_iff_ne.2 (by omega)]
 refine Ev.step (fun k=>by simp only [cM.j0,Bool.false_eq_true,if_false];rw [js]) (Ev.bind (Ev.now _) ?_)
 have:=Ef l hs.1 hl l.length 0 (num l.length) (by omega) (by omega) (by rw [List.drop_zero,← List.length_append];exact hb) (ij _)
 rw [List.drop_zero] at this
 exact this
def nF (key:ByteArray) (n:Int):List Int:=
 [fM (bytesOf key) % n,(fM (bytesOf key)+fM ([1]++bytesOf key)) % 4294967296 % n,(fM (bytesOf key)+2*fM ([1]++bytesOf key)) % 4294967296 % n]
theorem qH {key:ByteArray} {n:Int} (h:0<n):∀ i ∈ nF key n,0≤i∧i<n:=by
 intro i hi
 simp only [nF,List.mem_cons,List.not_mem_nil,or_false] at hi
 rcases hi with rfl | rfl | rfl<;>exact ⟨Int.emod_nonneg _ (by omega),Int.emod_lt_of_pos _ h⟩
def bv (b0 b1 b2 b3 b4 b5 b6 b7:Bool):Int:=b0.toInt+2*(b1.toInt+2*(b2.toInt+2*(b3.toInt+2*(b4.toInt+2*(b5.toInt+2*(b6.toInt+2*b7.toInt))))))
theorem lf (b:Bool):0≤b.toInt∧b.toInt≤1:=by cases b<;>decide
theorem Ff (b0 b1 b2 b3 b4 b5 b6 b7:Bool):0≤bv b0 b1 b2 b3 b4 b5 b6 b7∧bv b0 b1 b2 b3 b4 b5 b6 b7<256:=by
 have:=lf b0;have:=lf b1;have:=lf b2;have:=lf b3;have:=lf b4;have:=lf b5;have:=lf b6;have:=lf b7
 unfold bv
 omega
theorem or0:∀ b0 b1 b2 b3 b4 b5 b6 b7:Bool,Go.bits .or .u8 (bv b0 b1 b2 b3 b4 b5 b6 b7) (shl .u8 1 0)=bv true b1 b2 b3 b4 b5 b6 b7:=by decide +kernel
theorem or1:∀ b0 b1 b2 b3 b4 b5 b6 b7:Bool,Go.bits .or .u8 (bv b0 b1 b2 b3 b4 b5 b6 b7) (shl .u8 1 1)=bv b0 true b2 b3 b4 b5 b6 b7:=by decide +kernel
theorem or2:∀ b0 b1 b2 b3 b4 b5 b6 b7:Bool,Go.bits .or .u8 (bv b0 b1 b2 b3 b4 b5 b6 b7) (shl .u8 1 2)=bv b0 b1 true b3 b4 b5 b6 b7:=by decide +kernel
theorem or3:∀ b0 b1 b2 b3 b4 b5 b6 b7:Bool,Go.bits .or .u8 (bv b0 b1 b2 b3 b4 b5 b6 b7) (shl .u8 1 3)=bv b0 b1 b2 true b4 b5 b6 b7:=by decide +kernel
theorem or4:∀ b0 b1 b2 b3 b4 b5 b6 b7:Bool,Go.bits .or .u8 (bv b0 b1 b2 b3 b4 b5 b6 b7) (shl .u8 1 4)=bv b0 b1 b2 b3 true b5 b6 b7:=by decide +kernel
theorem or5:∀ b0 b1 b2 b3 b4 b5 b6 b7:Bool,Go.bits .or .u8 (bv b0 b1 b2 b3 b4 b5 b6 b7) (shl .u8 1 5)=bv b0 b1 b2 b3 b4 true b6 b7:=by decide +kernel
theorem or6:∀ b0 b1 b2 b3 b4 b5 b6 b7:Bool,Go.bits .or .u8 (bv b0 b1 b2 b3 b4 b5 b6 b7) (shl .u8 1 6)=bv b0 b1 b2 b3 b4 b5 true b7:=by decide +kernel
theorem or7:∀ b0 b1 b2 b3 b4 b5 b6 b7:Bool,Go.bits .or .u8 (bv b0 b1 b2 b3 b4 b5 b6 b7) (shl .u8 1 7)=bv b0 b1 b2 b3 b4 b5 b6 true:=by decide +kernel
theorem CJ:∀ x:Fin 256,∀ k:Fin 8,decide (Go.bits .and .u8 (shr .u8 (x.val:Int) (k.val:Int)) 1=0)=decide (((x.val:Int) / 2 ^ k.val) % 2=0):=by decide +kernel
def byteOf (s:List Bool) (j:Nat):Int:=bv (s.getD (8*j) false) (s.getD (8*j+1) false) (s.getD (8*j+2) false) (s.getD (8*j+3) false) (s.getD (8*j+4) false) (s.getD (8*j+5) false) (s.getD (8*j+6) false) (s.getD (8*j+7) false)
def iC (s:List Bool) (m:Nat):List Int:=(List.range m).map (byteOf s)
theorem iN (s:List Bool) (m:Nat):(iC s m).length=m:=by simp [iC]
theorem nV (s:List Bool) {m j:Nat} (h:j<m):(iC s m)[j]'(by rw [iN];exact h)=byteOf s j:=by simp [iC]
theorem wN (s:List Bool) (m:Nat):Bytes (iC s m):=by
 intro x hx
 simp only [iC,List.mem_map,List.mem_range] at hx
 obtain ⟨j,_,rfl⟩:=hx
 exact Ff _ _ _ _ _ _ _ _
theorem kC (s:List Bool) (i q:Nat) (h:i<s.length):(s.set i true).getD q false=if i=q then true else s.getD q false:=by
 rw [List.getD_eq_getElem?_getD,List.getD_eq_getElem?_getD,List.getElem?_set]
 split
 ·
  simp
 ·
  rfl
theorem zM (s:List Bool) (i j:Nat) (h:i<s.length):byteOf (s.set i true) j=if j=i / 8 then Go.bits .or .u8 (byteOf s j) (shl .u8 1 ((i % 8:Nat):Int)) else byteOf s j:=by
 by_cases hj:j=i / 8
 ·
  rw [if_pos hj]
  subst hj
  unfold byteOf
  simp only [kC s i _ h]
  have h8:i % 8<8:=Nat.mod_lt _ (by omega)
  have he:i=8*(i / 8)+i % 8:=by omega
  obtain ⟨r,hr⟩:∃ r,r=i % 8:=⟨_,rfl⟩
  rw [←hr] at h8 he ⊢
  generalize i / 8=q at he ⊢
  subst he
  clear hr
  have e0:(8*q+r=8*q)=(r=0):=propext ⟨fun h=>by omega,fun h=>by omega⟩
  have e1:(8*q+r=8*q+1)=(r=1):=propext ⟨fun h=>by omega,fun h=>by omega⟩
  have e2:(8*q+r=8*q+2)=(r=2):=propext ⟨fun h=>by omega,fun h=>by omega⟩
  have e3:(8*q+r=8*q+3)=(r=3):=propext ⟨fun h=>by omega,fun h=>by omega⟩
  have e4:(8*q+r=8*q+4)=(r=4):=propext ⟨fun h=>by omega,fun h=>by omega⟩
  have e5:(8*q+r=8*q+5)=(r=5):=propext ⟨fun h=>by omega,fun h=>by omega⟩
  have e6:(8*q+r=8*q+6)=(r=6):=propext ⟨fun h=>by omega,fun h=>by omega⟩
  have e7:(8*q+r=8*q+7)=(r=7):=propext ⟨fun h=>by omega,fun h=>by omega⟩
  simp only [e0,e1,e2,e3,e4,e5,e6,e7]
  clear e0 e1 e2 e3 e4 e5 e6 e7
  obtain rfl | rfl | rfl | rfl | rfl | rfl | rfl | rfl:r=0∨r=1∨r=2∨r=3∨r=4∨r=5∨r=6∨r=7:=by omega
  ·
   exact (or0 _ _ _ _ _ _ _ _).symm
  ·
   exact (or1 _ _ _ _ _ _ _ _).symm
  ·
   exact (or2 _ _ _ _ _ _ _ _).symm
  ·
   exact (or3 _ _ _ _ _ _ _ _).symm
  ·
   exact (or4 _ _ _ _ _ _ _ _).symm
  ·
   exact (or5 _ _ _ _ _ _ _ _).symm
  ·
   exact (or6 _ _ _ _ _ _ _ _).symm
  ·
   exact (or7 _ _ _ _ _ _ _ _).symm
 ·
  rw [if_neg hj]
  unfold byteOf
  simp only [kC s i _ h]
  rw [if_neg (by omega),if_neg (by omega),if_neg (by omega),if_neg (by omega),if_neg (by omega),if_neg (by omega),if_neg (by omega),if_neg (by omega)]
def mM (f:List Int) (i:Int):List Int:=f.set (i / 8).toNat (Go.bits .or .u8 (rd f (i / 8)) (shl .u8 1 (i % 8)))
def jL (s:List Bool) (i:Int):List Bool:=s.set i.toNat true
theorem yS (s:List Bool) (m:Nat) (hs:s.length=8*m) (i:Int) (h0:0≤i) (h1:i<8*m):mM (iC s m) i=iC (jL s i) m:=by
 obtain ⟨n,rfl⟩:∃ n:Nat,i=(n:Int):=⟨i.toNat,by omega⟩
 have hq:((n:Int) / 8)=((n / 8:Nat):Int):=by omega
 have hr:((n:Int) % 8)=((n % 8:Nat):Int):=by omega
 unfold mM jL
 rw [hq,hr,Int.toNat_natCast,Int.toNat_natCast]
 have hlt:n / 8<m:=by omega
 have hrd:rd (iC s m) ((n / 8:Nat):Int)=byteOf s (n / 8):=by
  unfold rd
  rw [Int.toNat_natCast,List.getD_eq_getElem?_getD,List.getElem?_eq_getElem (by rw [iN];exact hlt),nV s hlt]
  rfl
 rw [hrd]
 apply List.ext_getElem
 ·
  rw [List.length_set,iN,iN]
 ·
  intro j hj1 hj2
  rw [iN] at hj2
  rw [List.getElem_set,nV s hj2,show (iC (s.set n true) m)[j]=byteOf (s.set n true) j from nV _ hj2,zM s n j (by omega)]
  by_cases he:n / 8=j
  ·
   rw [if_pos he,if_pos he.symm,← he]
  ·
   rw [if_neg he,if_neg (fun h=>he h.symm)]
def xO (n:Int) (s:List Bool) (keys:List ByteArray):List Bool:=keys.foldl (fun s k=>(nF k n).foldl jL s) s
theorem mq:∀ (l:List Int) (s:List Bool),(l.foldl jL s).length=s.length
 | [],_=>rfl
 | i :: l,s=>by
  rw [List.foldl_cons,mq l]
  unfold jL
  rw [List.length_set]
def jo (keys:List ByteArray):Nat:=max 1 keys.length
def sn (keys:List ByteArray):List Int:=iC (xO (8*(jo keys:Int)) (List.replicate (8*jo keys) false) keys) (jo keys)
theorem o8 (keys:List ByteArray):(sn keys).length=jo keys:=iN _ _
theorem yV (keys:List ByteArray):Bytes (sn keys):=wN _ _
def hasB (f:List Int) (is:List Int):Bool:=is.all fun i=>decide (¬ (rd f (i / 8) / 2 ^ (i % 8).toNat) % 2=0)
def tb (f:List Int) (key:ByteArray):Bool:=if f.length=0 then true else hasB f (nF key (8*(f.length:Int)))
theorem FD:∀ b0 b1 b2 b3 b4 b5 b6 b7:Bool,(bv b0 b1 b2 b3 b4 b5 b6 b7 / 2 ^ 0) % 2=b0.toInt∧(bv b0 b1 b2 b3 b4 b5 b6 b7 / 2 ^ 1) % 2=b1.toInt∧(bv b0 b1 b2 b3 b4 b5 b6 b7 / 2 ^ 2) % 2=b2.toInt∧(bv b0 b1 b2 b3 b4 b5 b6 b7 / 2 ^ 3) % 2=b3.toInt∧(bv b0 b1 b2 b3 b4 b5 b6 b7 / 2 ^ 4) % 2=b4.toInt∧(bv b0 b1 b2 b3 b4 b5 b6 b7 / 2 ^ 5) % 2=b5.toInt∧(bv b0 b1 b2 b3 b4 b5 b6 b7 / 2 ^ 6) % 2=b6.toInt∧(bv b0 b1 b2 b3 b4 b5 b6 b7 / 2 ^ 7) % 2=b7.toInt:=by decide +kernel
theorem AV (s:List Bool) (j r:Nat) (h:r<8):(byteOf s j / 2 ^ r) % 2=(s.getD (8*j+r) false).toInt:=by
 have hg:=FD (s.getD (8*j) false) (s.getD (8*j+1) false) (s.getD (8*j+2) false) (s.getD (8*j+3) false) (s.getD (8*j+4) false) (s.getD (8*j+5) false) (s.getD (8*j+6) false) (s.getD (8*j+7) false)
 unfold byteOf
 obtain ⟨g0,g1,g2,g3,g4,g5,g6,g7⟩:=hg
 obtain rfl | rfl | rfl | rfl | rfl | rfl | rfl | rfl:r=0∨r=1∨r=2∨r=3∨r=4∨r=5∨r=6∨r=7:=by omega
 ·
  exact g0
 ·
  exact g1
 ·
  exact g2
 ·
  exact g3
 ·
  exact g4
 ·
  exact g5
 ·
  exact g6
 ·
  exact g7
theorem vv (l:List Int) (q:Nat):∀ (s:List Bool),s.getD q false=true→(l.foldl jL s).getD q false=true:=by
 induction l with
 | nil=>exact fun s h=>h
 | cons i l ih=>
  intro s h
  refine ih _ ?_
  unfold jL
  rw [List.getD_eq_getElem?_getD,List.getElem?_set]
  split
  ·
   split
   ·
    rfl
   ·
    rename_i he hlt
    rw [List.getD_eq_getElem?_getD,List.getElem?_eq_none (by omega)] at h
    exact h
  ·
   rw [←List.getD_eq_getElem?_getD];exact h
theorem D7 (l:List Int):∀ (s:List Bool),∀ i ∈ l,0≤i→i.toNat<s.length→(l.foldl jL s).getD i.toNat false=true:=by
 induction l with
 | nil=>intro s i hi;cases hi
 | cons j l ih=>
  intro s i hi h0 h1
  have hl:(jL s j).length=s.length:=by unfold jL;rw [List.length_set]
  rcases List.mem_cons.1 hi with rfl | hi
  ·
   refine vv l _ _ ?_
   unfold jL
   rw [kC s _ _ h1,if_pos rfl]
  ·
   exact ih (jL s j) i hi h0 (by rw [hl];exact h1)
theorem tO (n:Int) (q:Nat):∀ (keys:List ByteArray) (s:List Bool),s.getD q false=true→(xO n s keys).getD q false=true
 | [],_,h=>h
 | k :: keys,s,h=>tO n q keys _ (vv _ q s h)
theorem wM (n:Int) (key:ByteArray) (i:Int) (hi:i ∈ nF key n) (h0:0≤i):∀ (keys:List ByteArray) (s:List Bool),key ∈ keys→i.toNat<s.length→(xO n s keys).getD i.toNat false=true
 | [],_,h,_=>by cases h
 | k :: keys,s,h,h1=>by
  rcases List.mem_cons.1 h with rfl | h
  ·
   exact tO n _ keys _ (D7 _ s i hi h0 h1)
  ·
   exact wM n key i hi h0 keys _ h (by rw [mq];exact h1)
theorem Cc {key:ByteArray} {keys:List ByteArray} (h:key ∈ keys):tb (sn keys) key=true:=by
 have hm:0<jo keys:=by unfold jo;omega
 unfold tb
 rw [o8,if_neg (by omega)]
 unfold hasB
 rw [List.all_eq_true]
 intro i hi
 obtain ⟨h0,h1⟩:=qH (by omega) i hi
 obtain ⟨n,rfl⟩:∃ n:Nat,i=(n:Int):=⟨i.toNat,by omega⟩
 have hq:((n:Int) / 8)=((n / 8:Nat):Int):=by omega
 have hr:((n:Int) % 8).toNat=n % 8:=by omega
 have hlt:n / 8<jo keys:=by omega
 have hs:=wM (8*(jo keys:Int)) key (n:Int) hi h0 keys (List.replicate (8*jo keys) false) h (by rw [List.length_replicate];omega)
 have hrd:rd (sn keys) ((n / 8:Nat):Int)=byteOf (xO (8*(jo keys:Int)) (List.replicate (8*jo keys) false) keys) (n / 8):=by
  unfold rd
  rw [Int.toNat_natCast,List.getD_eq_getElem?_getD,List.getElem?_eq_getElem (by rw [o8];exact hlt)]
  exact nV _ hlt
 rw [hq,hr,hrd,AV _ _ _ (Nat.mod_lt _ (by omega)),show 8*(n / 8)+n % 8=n by omega]
 rw [Int.toNat_natCast] at hs
 rw [hs]
 decide
def rE (r c:ByteArray):ByteArray:=strOfNums (text r)++strOfNums (text c)
theorem vu (r c:ByteArray):(rE r c).size≤8+r.size+c.size:=by
 unfold rE
 rw [ByteArray.size_append,jS,jS]
 have:=gG r
 have:=gG c
 omega
def mI (l:List Cell):List ByteArray:=l.map fun c=>rE c.f0 c.f1
def eP (l:List Cell):List Int:=sn (mI l)
theorem lM (l:List Cell):(eP l).length=max 1 l.length:=by
 unfold eP
 rw [o8]
 simp [jo,mI]
theorem vP (l:List Cell):Bytes (eP l):=yV _
def qY:List Cell→List Int
 | []=>[]
 | c :: _=>jC c.f0 c.f1 c.f2 ⟨#[]⟩ false
def jH (bs:List (List Cell)):List Int:=(bs.map fun l=>frame (iB l)).flatten
def l8:Nat→List (List Cell)→List Int
 | _,[]=>[]
 | off,l :: bs=>qY l++(num off++l8 (off+(frame (iB l)).length) bs)
def i_ (bs:List (List Cell)) (fl:List Int):List Int:=num bs.length++(l8 0 bs++text (strOfNums fl))
def iD (bs:List (List Cell)) (fl:List Int):List Int:=jH bs++(frame (i_ bs fl)++num (frame (i_ bs fl)).length)
def jj (b:List Cell):Prop:=kf b∧b≠[]∧b.length≤450∧(iB b).length≤60154
theorem zy {b:List Cell} (h:jj b):(qY b).length≤145:=by
 cases b with
 | nil=>simp [qY]
 | cons c b=>
  obtain ⟨_,h1,_,h2,_⟩:=g_.1 (h.1.1 c List.mem_cons_self)
  have:=kT c.f0 c.f1 c.f2 ⟨#[]⟩ false
  have h0:(⟨#[]⟩:ByteArray).size=0:=rfl
  show (jC c.f0 c.f1 c.f2 ⟨#[]⟩ false).length≤145
  omega
theorem uh (b:List Cell):Bytes (qY b):=by
 cases b with
 | nil=>exact Bytes.nil
 | cons c b=>exact pM _ _ _ _ _
theorem wK:∀ (bs:List (List Cell)) (off:Nat),(∀ b ∈ bs,jj b)→(l8 off bs).length≤149*bs.length
 | [],_,_=>by simp [l8]
 | b :: bs,off,h=>by
  have h1:=zy (h b List.mem_cons_self)
  have h2:=fC off
  have h3:=wK bs (off+(frame (iB b)).length) (fun x hx=>h x (List.mem_cons_of_mem _ hx))
  unfold l8
  simp only [List.length_append,List.length_cons]
  omega
theorem sM:∀ (bs:List (List Cell)) (off:Nat),Bytes (l8 off bs)
 | [],_=>Bytes.nil
 | b :: bs,off=>by
  unfold l8
  exact (uh b).append ((ij _).append (sM bs _))
theorem yQ (bs:List (List Cell)) (fl:List Int):Bytes (i_ bs fl):=(ij _).append ((sM _ _).append (mZ _))
theorem sW {bs:List (List Cell)} {fl:List Int} (h:∀ b ∈ bs,jj b) (hb:bs.length≤421) (hf:fl.length≤1000):(i_ bs fl).length≤63800:=by
 have h1:=wK bs 0 h
 have h2:=fC bs.length
 have h3:=gG (strOfNums fl)
 rw [jS] at h3
 unfold i_
 simp only [List.length_append]
 omega
theorem za {b:List Cell} (h:jj b):(iB b).length≤60154:=h.2.2.2
theorem wB {b:List Cell} (h:jj b):(frame (iB b)).length≤60166:=by
 have:=za h
 rw [jz (by omega)]
 omega
theorem nQ (b:List Cell) (bs:List (List Cell)):jH (b :: bs)=frame (iB b)++jH bs:=by simp [jH]
theorem qJ:∀ (bs:List (List Cell)),Bytes (jH bs)
 | []=>Bytes.nil
 | b :: bs=>by
  rw [nQ]
  exact (pI (sN b)).append (qJ bs)
theorem si:∀ (bs:List (List Cell)),(∀ b ∈ bs,jj b)→(jH bs).length≤60166*bs.length
 | [],_=>by simp [jH]
 | b :: bs,h=>by
  have h1:=wB (h b List.mem_cons_self)
  have h2:=si bs (fun x hx=>h x (List.mem_cons_of_mem _ hx))
  rw [nQ]
  simp only [List.length_append,List.length_cons]
  omega
theorem wC (bs:List (List Cell)) (fl:List Int):Bytes (iD bs fl):=(qJ bs).append ((pI (yQ bs fl)).append (ij _))
theorem pX {l:List Cell} (h:l.length≤1000000000):eV.f l=some l:=by
 unfold eV.f
 rw [if_pos (by omega)]
def iw (c:Cell):Nat:=(jC c.f0 c.f1 c.f2 c.f3 c.f4).length
theorem zi {c:Cell} (h:fS c=true):iw c≤401:=by
 obtain ⟨_,h1,_,h2,_,_,h3,_⟩:=g_.1 h
 have:=kT c.f0 c.f1 c.f2 c.f3 c.f4
 unfold iw
 omega
theorem Du {c:Cell} (h:fS c=true):dz.f c.f0 c.f1 c.f2 c.f3 c.f4=some (jC c.f0 c.f1 c.f2 c.f3 c.f4):=by
 obtain ⟨_,h1,_,h2,_,_,h3,_⟩:=g_.1 h
 exact nK _ _ (by omega) (by omega) (by omega)
def iE (size:Nat):List Cell→List Cell→Nat→List (List Cell)
 | [],now,_=>if now=[] then [] else [now]
 | c :: l,now,n=>if n+iw c≥size then (now++[c]) :: iE size l [] 0 else iE size l (now++[c]) (n+iw c)
theorem mS (size:Nat):∀ (l now:List Cell) (n:Nat),(iE size l now n).length≤l.length+1
 | [],now,n=>by unfold iE;split<;>simp
 | c :: l,now,n=>by
  unfold iE
  split
  ·
   have:=mS size l [] 0
   simp only [List.length_cons];omega
  ·
   have:=mS size l (now++[c]) (n+iw c)
   simp only [List.length_cons];omega
theorem C4 (size:Nat) (N:Nat) (hN:N≤1000) (ih:∀ (l:List Cell) (out:List (List Cell)),l.length<N→gV l→out.length+l.length≤1000→Ev (fun k=>bD.l0 k l (size:Int) out) (out++iE size l [] 0,0))
  (l:List Cell) (out:List (List Cell)) (hl:l.length≤N) (hl0:0<l.length) (hr:gV l) (ho:out.length+l.length≤1000) (d:Nat):∀ (i n:Nat),i≤l.length→l.length - i=d→n≤401*i→Ev (fun k=>bD.l1 k l (size:Int) out (n:Int) l (l.length:Int) (i:Int)) (out++iE size (l.drop i) (l.take i) n,0):=by
 induction d with
 | zero=>
  intro i n hi hd hn
  have:i=l.length:=by omega
  subst this
  rw [List.drop_eq_nil_of_le (Nat.le_refl _),List.take_length]
  refine Ev.step (f:=fun _=>some (out++[l],0)) (fun k=>?_) ((Ev.now _).to ?_)
  ·
   simp only [bD.l1]
   rw [if_neg (by omega),pX (by omega),Option.bind_some,if_pos (by omega)]
  ·
   unfold iE
   rw [if_neg (fun e=>by rw [e] at hl0;simp at hl0)]
 | succ d ih2=>
  intro i n hi hd hn
  have hlt:i<l.length:=by omega
  have hri:=hr _ (List.getElem_mem hlt)
  have hz:=zi hri
  have hrd:=fQ l i hlt
  unfold lP at hrd
  rw [List.drop_eq_getElem_cons hlt]
  unfold iE
  have e1:wrap64 ((n:Int)+((jC l[i].f0 l[i].f1 l[i].f2 l[i].f3 l[i].f4).length:Int))=((n+iw l[i]:Nat):Int):=by
   show wrap64 ((n:Int)+((iw l[i]:Nat):Int))=_
   rw [fU (by omega) (by omega)];rfl
  have e2:wrap64 ((i:Int)+1)=((i+1:Nat):Int):=by rw [fU (by omega) (by omega)];rfl
  have e3:l.take i++[l[i]]=l.take (i+1):=by rw [List.take_succ_eq_append_getElem hlt]
  refine Ev.step (fun k=>by simp only [bD.l1];rw [if_pos (by omega),if_pos (by omega),if_pos (by omega),hrd,Du hri,Option.bind_some,e1,e2]) ?_
  clear e1 e2
  by_cases hs:n+iw l[i]≥size
  ·
   rw [if_pos hs,e3]
   refine Ev.pos (by omega) (Ev.pos (by omega) (Ev.pos (by omega) ?_))
   rw [Int.toNat_natCast,pX (by rw [List.length_take];omega)]
   refine Ev.bind (Ev.now _) (Ev.pos (by omega) ?_)
   refine (ih (l.drop (i+1)) (out++[l.take (i+1)]) (by rw [List.length_drop];omega) (fun x hx=>hr x (List.mem_of_mem_drop hx)) (by rw [List.length_append,List.length_drop,List.length_singleton];omega)).to ?_
   rw [List.append_assoc]
   rfl
  ·
   rw [if_neg hs,e3]
   exact Ev.neg (by omega) (ih2 (i+1) (n+iw l[i]) (by omega) (by omega) (by omega))
theorem Cy (size:Nat) (N:Nat):∀ (l:List Cell) (out:List (List Cell)),l.length<N→N≤1000→gV l→out.length+l.length≤1000→Ev (fun k=>bD.l0 k l (size:Int) out) (out++iE size l [] 0,0):=by
 induction N with
 | zero=>intro l out hl;omega
 | succ N ih=>
  intro l out hl hN hr ho
  by_cases h0:l.length=0
  ·
   have:l=[]:=List.eq_nil_of_length_eq_zero h0
   subst this
   refine Ev.step (f:=fun _=>some (out,0)) (fun k=>?_) ((Ev.now _).to (by simp [iE]))
   simp only [bD.l0]
   rw [if_neg (by simp)]
  ·
   refine Ev.step (f:=fun k=>bD.l1 k l (size:Int) out 0 l (l.length:Int) 0) (fun k=>?_) ?_
   ·
    simp only [bD.l0]
    rw [if_pos (by omega)]
   ·
    exact C4 size N (by omega) (fun l' out' h1 h2 h3=>ih l' out' h1 (by omega) h2 h3) l out (by omega) (by omega) hr ho l.length 0 0 (by omega) (by omega) (by omega)
def xP (size:Int) (l:List Cell):List (List Cell) × Int:=if jk l=true∧1≤size then (iE size.toNat l [] 0,0) else ([],1)
theorem yt {l:List Cell} (size:Int) (hl:l.length≤900):Ev (fun k=>bD.f k l size) (xP size l):=by
 have jt:¬ (jk l=true∧1≤size)→Ev (fun k=>bD.j0 k l size true) (xP size l):=fun h=>by
  unfold xP
  rw [if_neg h]
  exact Ev.step (f:=fun _=>some ([],1)) (fun k=>by simp only [bD.j0,if_true]) (Ev.now _)
 unfold bD.f
 refine Ev.bind (lO (by omega)) ?_
 cases hs:jk l with
 | false=>exact Ev.neg Bool.false_ne_true (jt (by rw [hs];simp))
 | true=>
  refine Ev.pos rfl ?_
  by_cases h1:size<1
  ·
   rw [decide_eq_true h1]
   exact jt (by omega)
  ·
   rw [decide_eq_false h1]
   unfold xP
   rw [if_pos ⟨hs,by omega⟩]
   have hr:=(kJ.1 hs).1
   obtain ⟨n,rfl⟩:=Int.eq_ofNat_of_zero_le (show 0≤size by omega)
   refine Ev.step (f:=fun k=>bD.l0 k l ((n:Nat):Int) []) (fun k=>by simp only [bD.j0,Bool.false_eq_true,if_false]) ?_
   rw [Int.toNat_natCast]
   have:=Cy n 901 l [] (by omega) (by omega) hr (by simp;omega)
   rw [List.nil_append] at this
   exact this
theorem oU (size:Nat):∀ (l now:List Cell) (n:Nat),(iE size l now n).flatten=now++l
 | [],now,n=>by
  unfold iE
  split
  ·
   rename_i h;simp [h]
  ·
   simp
 | c :: l,now,n=>by
  unfold iE
  split
  ·
   rw [List.flatten_cons,oU size l [] 0];simp
  ·
   rw [oU size l (now++[c])];simp
def gH (b:List Cell):Nat:=(b.map iw).sum
theorem nH (a b:List Cell):gH (a++b)=gH a+gH b:=by simp [gH]
theorem qE (c:Cell):gH [c]=iw c:=by simp [gH]
def OkB (size:Nat) (b:List Cell):Prop:=b≠[]∧∀ k,k<b.length→gH (b.take k)<size
theorem ua (size:Nat) (hs:0<size):∀ (l now:List Cell) (n:Nat),n=gH now→(∀ k,k≤now.length→gH (now.take k)<size)→∀ b ∈ iE size l now n,OkB size b
 | [],now,n,_,hk,b,hb=>by
  unfold iE at hb
  split at hb
  ·
   cases hb
  ·
   rename_i h
   rw [List.mem_singleton] at hb
   subst hb
   exact ⟨h,fun k hlt=>hk k (by omega)⟩
 | c :: l,now,n,hn,hk,b,hb=>by
  have hpre:∀ k,k<(now++[c]).length→gH ((now++[c]).take k)<size:=fun k hlt=>by
   rw [List.length_append,List.length_singleton] at hlt
   rw [List.take_append_of_le_length (by omega)]
   exact hk k (by omega)
  unfold iE at hb
  split at hb
  ·
   rcases List.mem_cons.1 hb with rfl | hb
   ·
    exact ⟨by simp,hpre⟩
   ·
    exact ua size hs l [] 0 rfl (fun k hk0=>by simpa [gH] using hs) b hb
  ·
   rename_i h
   refine ua size hs l (now++[c]) (n+iw c) (by rw [nH,qE,hn]) (fun k hk1=>?_) b hb
   by_cases he:k=(now++[c]).length
   ·
    rw [he,List.take_length,nH,qE,← hn];omega
   ·
    exact hpre k (by omega)
theorem tG (size:Nat):∀ (l now:List Cell) (n:Nat),n=gH now→∀ (i:Nat) (h:i+1<(iE size l now n).length),size≤gH ((iE size l now n)[i]'(by omega))
 | [],now,n,_,i,h=>by
  exfalso
  unfold iE at h
  split at h<;>simp at h
 | c :: l,now,n,hn,i,h=>by
  by_cases hc:n+iw c≥size
  ·
   have e:iE size (c :: l) now n=(now++[c]) :: iE size l [] 0:=by
    conv=>lhs;unfold iE
    rw [if_pos hc]
   cases i with
   | zero=>
    simp only [e,List.getElem_cons_zero]
    rw [nH,qE,← hn]
    exact hc
   | succ i=>
    simp only [e,List.getElem_cons_succ]
    exact tG size l [] 0 rfl i (by rw [e] at h;simpa using h)
  ·
   have e:iE size (c :: l) now n=iE size l (now++[c]) (n+iw c):=by
    conv=>lhs;unfold iE
    rw [if_neg hc]
   simp only [e]
   exact tG size l (now++[c]) (n+iw c) (by rw [nH,qE,hn]) i (by rw [e] at h;exact h)
theorem BD {x:List (List Cell)} (h:kf x.flatten):∀ b ∈ x,kf b:=fun b hb=>
 ⟨fun c hc=>h.1 c (List.mem_flatten.2 ⟨b,hb,hc⟩),(List.pairwise_flatten.1 h.2).1 b hb⟩
theorem Cp {x:Int}:IntKind.u32.wrap x=x % 4294967296:=by
 unfold IntKind.wrap
 simp only [IntKind.signed,IntKind.bits,Bool.false_and,Bool.false_eq_true,if_false]
 rfl
theorem yD (s:ByteArray):(bytesOf s).length=s.size:=by
 have h:=jS (bytesOf s)
 rw [rq] at h
 exact h.symm
theorem rz {key:ByteArray} {n:Int} (hk:key.size≤100000) (h0:0<n) (h1:n≤4294967295):Ev (fun k=>cO.f k key n) (nF key n):=by
 unfold cO.f
 have hl:=yD key
 have hb:Bytes ([1]++bytesOf key):=Bytes.append (Bytes.cons (by decide) (by decide) Bytes.nil) (ol _)
 refine Ev.pos (by omega) (Ev.bind (oV (ol key) (by omega)) (Ev.bind (oV hb (by simp only [List.length_append,List.length_cons,List.length_nil];omega)) ?_))
 have hw:IntKind.u32.wrap n=n:=by rw [Cp];omega
 rw [hw]
 refine Ev.neg (by omega) ?_
 obtain ⟨a0,a1⟩:=kp (bytesOf key)
 obtain ⟨b0,b1⟩:=kp ([1]++bytesOf key)
 unfold nF
 generalize fM (bytesOf key)=a at a0 a1 ⊢
 generalize fM ([1]++bytesOf key)=b at b0 b1 ⊢
 have e:cO.outs a b n 3=[a % n,(a+b) % 4294967296 % n,(a+2*b) % 4294967296 % n]:=by
  have hq:∀ x:Int,0≤x→x<4294967296→wrap64 (Int.tmod x n)=x % n:=fun x hx0 hx1=>by
   rw [Int.tmod_eq_emod_of_nonneg hx0]
   have h2:=Int.emod_nonneg x (show n≠0 by omega)
   have h3:=Int.emod_lt_of_pos x h0
   exact fU (by omega) (by omega)
  have e0:cO.acc a b 0=a:=rfl
  have e1:cO.acc a b 1=(a+b) % 4294967296:=by show IntKind.u32.wrap (a+b)=_;rw [Cp]
  have e2:cO.acc a b 2=(a+2*b) % 4294967296:=by
   show IntKind.u32.wrap (cO.acc a b 1+b)=_
   rw [e1,Cp]
   omega
  show (([]++[wrap64 (Int.tmod (cO.acc a b 0) n)])++[wrap64 (Int.tmod (cO.acc a b 1) n)])++[wrap64 (Int.tmod (cO.acc a b 2) n)]=_
  rw [e0,e1,e2,hq a a0 (by omega),hq _ (Int.emod_nonneg _ (by omega)) (Int.emod_lt_of_pos _ (by omega)),hq _ (Int.emod_nonneg _ (by omega)) (Int.emod_lt_of_pos _ (by omega))]
  rfl
 rw [e]
 exact Ev.now _
theorem xI (f:List Int) (i:Int):(mM f i).length=f.length:=by unfold mM;rw [List.length_set]
theorem Cg {x:Int} {n:Nat} (x0:0≤x) (x1:x<8*(n:Int)) (hn:n≤100000):wrap64 (Int.tdiv x 8)=x / 8∧Int.tmod x 8=x % 8∧0≤x / 8∧x / 8<(n:Int)∧0≤x % 8∧(x / 8).toNat<n∧(x % 8).toNat<8:=by
 have h1:0≤x / 8∧x / 8<(n:Int)∧0≤x % 8∧(x / 8).toNat<n∧(x % 8).toNat<8∧x / 8<1000000:=by omega
 refine ⟨?_,Int.tmod_eq_emod_of_nonneg x0,h1.1,h1.2.1,h1.2.2.1,h1.2.2.2.1,h1.2.2.2.2.1⟩
 rw [Int.tdiv_eq_ediv_of_nonneg x0]
 obtain ⟨h2,-,-,-,-,h3⟩:=h1
 generalize x / 8=y at h2 h3 ⊢
 exact fU (by omega) (by omega)
theorem Dv (keys:List ByteArray) (len q:Int) (bs:List Int) (r:List Int) (d:Nat):∀ (i:Nat) (f:List Int),i≤bs.length→bs.length≤1000→f.length≤100000→(∀ x ∈ bs,0≤x∧x<8*(f.length:Int))→bs.length - i=d→
  Ev (fun k=>bI.l0 k ((bs.drop i).foldl mM f) keys len (wrap64 (q+1))) r→Ev (fun k=>bI.l1 k f keys len q bs (bs.length:Int) (i:Int)) r:=by
 induction d with
 | zero=>
  intro i f hi hb hf hx hd hk
  rw [List.drop_eq_nil_of_le (by omega),List.foldl_nil] at hk
  exact Ev.step (fun k=>by simp only [bI.l1];rw [if_neg (by omega)]) hk
 | succ d ih=>
  intro i f hi hb hf hx hd hk
  have hlt:i<bs.length:=by omega
  have q1:(i:Int)<(bs.length:Int):=by omega
  have q2:(0:Int)≤(i:Int):=by omega
  have hr:rd bs (i:Int)=bs[i]:=by unfold rd;rw [Int.toNat_natCast,List.getD_eq_getElem?_getD,List.getElem?_eq_getElem hlt];rfl
  obtain ⟨x0,x1⟩:=hx _ (List.getElem_mem hlt)
  obtain ⟨e1,e2,p1,p2,p3,p4,p5⟩:=Cg x0 x1 hf
  have e3:wrap64 ((i:Int)+1)=((i+1:Nat):Int):=by rw [fU (by omega) (by omega)];rfl
  have hstep:∀ k,bI.l1 (k+1) f keys len q bs (bs.length:Int) (i:Int)=bI.l1 k (mM f bs[i]) keys len q bs (bs.length:Int) ((i+1:Nat):Int):=fun k=>by
   simp only [bI.l1]
   rw [if_pos q1,if_pos q2,if_pos q1,hr,e1,e2,if_pos p1,if_pos p2,if_pos p3,e3]
   unfold mM
   with_reducible rfl
  have hl:=xI f bs[i]
  rw [List.drop_eq_getElem_cons hlt,List.foldl_cons] at hk
  have hx':∀ x ∈ bs,0≤x∧x<8*((mM f bs[i]).length:Int):=by rw [hl];exact hx
  have hf':(mM f bs[i]).length≤100000:=by rw [hl];exact hf
  clear hx hf hr e1 e2 p1 p2 p3 p4 p5 x0 x1 hl
  generalize mM f bs[i]=f2 at hstep hk hx' hf'
  exact Ev.step hstep (ih (i+1) f2 hlt hb hf' hx' (by omega) hk)
theorem Ec (keys:List ByteArray) (m:Nat) (hm:m≤100000) (hm0:0<m) (hk:∀ x ∈ keys,x.size≤100000) (hl:keys.length≤100000) (d:Nat):∀ (i:Nat) (s:List Bool),i≤keys.length→s.length=8*m→keys.length - i=d→
  Ev (fun k=>bI.l0 k (iC s m) keys (keys.length:Int) (i:Int)) (iC (xO (8*(m:Int)) s (keys.drop i)) m):=by
 induction d with
 | zero=>
  intro i s hi hs hd
  rw [List.drop_eq_nil_of_le (by omega)]
  exact Ev.step (f:=fun _=>some (iC s m)) (fun k=>by simp only [bI.l0];rw [if_neg (by omega)]) (Ev.now _)
 | succ d ih=>
  intro i s hi hs hd
  have hlt:i<keys.length:=by omega
  have hr:o7 ByteArray.empty keys (i:Int)=keys[i]:=by unfold o7;rw [Int.toNat_natCast,List.getD_eq_getElem?_getD,List.getElem?_eq_getElem hlt];rfl
  have hbl:=iN s m
  have e1:wrap64 (8*((iC s m).length:Int))=8*(m:Int):=by rw [hbl,fU (by omega) (by omega)]
  have e3:wrap64 ((i:Int)+1)=((i+1:Nat):Int):=by rw [fU (by omega) (by omega)];rfl
  refine Ev.step (fun k=>by simp only [bI.l0];rw [if_pos (by omega),if_pos (by omega),if_pos (by omega),hr,e1]) (Ev.bind (rz (hk _ (List.getElem_mem hlt)) (by omega) (by omega)) ?_)
  refine Dv keys _ _ _ _ _ 0 (iC s m) (Nat.zero_le _) (by simp [nF]) (by rw [hbl];exact hm) (by rw [hbl];exact qH (by omega)) rfl ?_
  rw [List.drop_zero,e3]
  have hfold:∀ (l:List Int) (s:List Bool),s.length=8*m→(∀ x ∈ l,0≤x∧x<8*(m:Int))→l.foldl mM (iC s m)=iC (l.foldl jL s) m:=by
   intro l
   induction l with
   | nil=>intro s _ _;rfl
   | cons x l ihl=>
    intro s hs hx
    obtain ⟨x0,x1⟩:=hx x List.mem_cons_self
    rw [List.foldl_cons,List.foldl_cons,yS s m hs x x0 x1]
    exact ihl _ (by unfold jL;rw [List.length_set];exact hs) (fun y hy=>hx y (List.mem_cons_of_mem _ hy))
  rw [hfold _ s hs (qH (by omega)),List.drop_eq_getElem_cons hlt]
  exact ih (i+1) _ (by omega) (by rw [mq];exact hs) (by omega)
theorem yE (m:Nat):List.replicate m (0:Int)=iC (List.replicate (8*m) false) m:=by
 apply List.ext_getElem
 ·
  rw [List.length_replicate,iN]
 ·
  intro j h1 h2
  rw [List.length_replicate] at h1
  rw [List.getElem_replicate,nV _ h1]
  have hf:∀ q:Nat,(List.replicate (8*m) false).getD q false=false:=fun q=>by
   rw [List.getD_eq_getElem?_getD,List.getElem?_replicate]
   split<;>rfl
  unfold byteOf
  simp only [hf]
  decide
theorem vZ {keys:List ByteArray} (hk:∀ x ∈ keys,x.size≤100000) (hl:keys.length≤100000):Ev (fun k=>bI.f k keys) (sn keys):=by
 unfold bI.f
 have hz:mx 1 (wrap64 (Int.tdiv (wrap64 ((keys.length:Int)*8)) 8))=(jo keys:Int):=by
  rw [fU (x:=(keys.length:Int)*8) (by omega) (by omega),Int.tdiv_eq_ediv_of_nonneg (by omega),fU (by omega) (by omega)]
  unfold mx jo
  split<;>omega
 rw [hz]
 have hs1:jo keys≤100000:=by unfold jo;omega
 have hs0:0<jo keys:=by unfold jo;omega
 refine Ev.pos (by omega) (Ev.pos (by omega) ?_)
 rw [Int.toNat_natCast,yE]
 exact Ec keys (jo keys) hs1 hs0 hk hl keys.length 0 _ (Nat.zero_le _) (by rw [List.length_replicate]) rfl
theorem El (f:List Int) (hf:f.length≤100000) (hb:Bytes f) (bs:List Int) (hx:∀ x ∈ bs,0≤x∧x<8*(f.length:Int)) (hl:bs.length≤1000) (d:Nat):∀ i:Nat,i≤bs.length→bs.length - i=d→
  Ev (fun k=>dP.l0 k f bs (bs.length:Int) (i:Int)) (hasB f (bs.drop i)):=by
 induction d with
 | zero=>
  intro i hi hd
  rw [List.drop_eq_nil_of_le (by omega)]
  exact Ev.step (f:=fun _=>some true) (fun k=>by simp only [dP.l0];rw [if_neg (by omega)]) (Ev.now _)
 | succ d ih=>
  intro i hi hd
  have hlt:i<bs.length:=by omega
  have q1:(i:Int)<(bs.length:Int):=by omega
  have q2:(0:Int)≤(i:Int):=by omega
  have hr:rd bs (i:Int)=bs[i]:=by unfold rd;rw [Int.toNat_natCast,List.getD_eq_getElem?_getD,List.getElem?_eq_getElem hlt];rfl
  obtain ⟨x0,x1⟩:=hx _ (List.getElem_mem hlt)
  obtain ⟨e1,e2,p1,p2,p3,p4,p5⟩:=Cg x0 x1 hf
  have e3:wrap64 ((i:Int)+1)=((i+1:Nat):Int):=by rw [fU (by omega) (by omega)];rfl
  refine Ev.step (fun k=>by simp only [dP.l0];rw [if_pos q1,if_pos q2,if_pos q1,hr,e1,e2,if_pos p1,if_pos p2,if_pos p3,e3]) ?_
  have hq:rd f (bs[i] / 8)=f[(bs[i] / 8).toNat]'p4:=by
   unfold rd
   rw [List.getD_eq_getElem?_getD,List.getElem?_eq_getElem p4]
   rfl
  obtain ⟨v0,v1⟩:=hb _ (List.getElem_mem p4)
  rw [←hq] at v0 v1
  have v2:(rd f (bs[i] / 8)).toNat<256:=by generalize rd f (bs[i] / 8)=v at v0 v1 ⊢;omega
  have ht:=CJ ⟨(rd f (bs[i] / 8)).toNat,v2⟩ ⟨(bs[i] % 8).toNat,p5⟩
  simp only [Int.toNat_of_nonneg v0,Int.toNat_of_nonneg (Int.emod_nonneg bs[i] (show (8:Int)≠0 by decide))] at ht
  have ht2:=decide_eq_decide.1 ht
  rw [List.drop_eq_getElem_cons hlt]
  unfold hasB
  rw [List.all_cons]
  by_cases hc:(rd f (bs[i] / 8) / 2 ^ (bs[i] % 8).toNat) % 2=0
  ·
   rw [decide_eq_false (fun h=>h hc),Bool.false_and]
   exact Ev.pos (ht2.2 hc) (Ev.now _)
  ·
   have hc':=fun h=>hc (ht2.1 h)
   rw [decide_eq_true hc,Bool.true_and]
   clear hc ht ht2 v0 v1 v2 hq e1 e2 p1 p2 p3 p4 p5 x0 x1 hr
   exact Ev.neg hc' (ih (i+1) (by omega) (by omega))
theorem wD {f:List Int} {key:ByteArray} (hf:f.length≤100000) (hb:Bytes f) (hk:key.size≤100000):Ev (fun k=>dP.f k f key) (tb f key):=by
 unfold dP.f tb
 by_cases h0:f.length=0
 ·
  rw [if_pos h0]
  exact Ev.pos (by omega) (Ev.now _)
 ·
  rw [if_neg h0]
  have e1:wrap64 (8*(f.length:Int))=8*(f.length:Int):=fU (by omega) (by omega)
  rw [e1]
  refine Ev.neg (by omega) (Ev.bind (rz hk (by omega) (by omega)) ?_)
  have:=El f hf hb (nF key (8*(f.length:Int))) (qH (by omega)) (by simp [nF]) _ 0 (Nat.zero_le _) rfl
  rwa [List.drop_zero] at this
theorem rA {r c:ByteArray} (hr:r.size≤1000000) (hc:c.size≤1000000):fe.f r c=some (rE r c):=by
 unfold fe.f
 rw [j5 (by omega),j5 (by omega)]
 simp only [Option.bind_some]
 have h1:=gG r
 have h2:=gG c
 rw [if_pos (by rw [jS,jS];omega)]
 rfl
theorem yH {l:List Cell} (hr:gV l):∀ x ∈ mI l,x.size≤100000:=by
 intro x hx
 obtain ⟨c,hc,rfl⟩:=List.mem_map.1 hx
 obtain ⟨_,h1,_,h2,_⟩:=g_.1 (hr c hc)
 have:=vu c.f0 c.f1
 omega
theorem A_ (l:List Cell) (hr:gV l) (hl:l.length≤10000) (d:Nat):∀ i:Nat,i≤l.length→l.length - i=d→Ev (fun k=>cP.l0 k (mI (l.take i)) l (l.length:Int) (i:Int)) (eP l):=by
 induction d with
 | zero=>
  intro i hi hd
  rw [List.take_of_length_le (by omega)]
  refine Ev.step (fun k=>by simp only [cP.l0];rw [if_neg (by omega)]) ?_
  exact Ev.bind (vZ (yH hr) (by unfold mI;rw [List.length_map];omega)) (Ev.now _)
 | succ d ih=>
  intro i hi hd
  have hlt:i<l.length:=by omega
  have q1:(i:Int)<(l.length:Int):=by omega
  have q2:(0:Int)≤(i:Int):=by omega
  have hrd:=fQ l i hlt
  unfold lP at hrd
  obtain ⟨_,z1,_,z2,_⟩:=g_.1 (hr _ (List.getElem_mem hlt))
  have hlen:(mI (l.take i)).length<8796093022208:=by unfold mI;rw [List.length_map,List.length_take];omega
  have hih:=ih (i+1) (by omega) (by omega)
  have hsz1:l[i].f0.size≤1000000:=by omega
  have hsz2:l[i].f1.size≤1000000:=by omega
  have e3:wrap64 ((i:Int)+1)=((i+1:Nat):Int):=by rw [fU (by omega) (by omega)];rfl
  have e4:mI (l.take i)++[rE l[i].f0 l[i].f1]=mI (l.take (i+1)):=by
   unfold mI
   rw [List.take_succ_eq_append_getElem hlt,List.map_append]
   rfl
  refine Ev.step (f:=fun k=>cP.l0 k (mI (l.take (i+1))) l (l.length:Int) ((i+1:Nat):Int)) (fun k=>?_) hih
  simp only [cP.l0]
  rw [if_pos q1,if_pos q2,if_pos q1,hrd,rA hsz1 hsz2,Option.bind_some,if_pos hlen,e3,e4]
theorem pE {l:List Cell} (hr:gV l) (hl:l.length≤10000):Ev (fun k=>cP.f k l) (eP l):=by
 unfold cP.f
 exact A_ l hr hl l.length 0 (Nat.zero_le _) rfl
theorem ud (bs:List (List Cell)) (i:Nat) (h:i<bs.length):aN bs (i:Int)=bs[i]:=by
 show bs.getD (i:Int).toNat _=_
 rw [Int.toNat_natCast,List.getD_eq_getElem?_getD,List.getElem?_eq_getElem h]
 rfl
theorem Ea {b:List Cell} (h:jj b):Ev (fun k=>cM.f k b) (frame (iB b),0):=by
 exact v_ h.1 (fun he=>h.2.1 (List.eq_nil_of_length_eq_zero he)) h.2.2.1 h.2.2.2
theorem Cz (bs:List (List Cell)) (fl:List Int) (hok:∀ b ∈ bs,jj b) (hb:bs.length≤421) (hf:fl.length≤1000) (d:Nat):∀ (i:Nat) (all foot:List Int),i≤bs.length→bs.length - i=d→all.length≤60166*i→foot.length≤4+149*i→Bytes foot→
  Ev (fun k=>cX.l0 k fl all foot bs (bs.length:Int) (i:Int)) (all++jH (bs.drop i),frame (foot++(l8 all.length (bs.drop i)++text (strOfNums fl))),0):=by
 induction d with
 | zero=>
  intro i all foot hi hd ha hfo hby
  rw [List.drop_eq_nil_of_le (by omega)]
  have h3:=gG (strOfNums fl)
  rw [jS] at h3
  have h4:(foot++text (strOfNums fl)).length≤65535:=by rw [List.length_append];omega
  have hp:=r8 (hby.append (mZ (strOfNums fl))) (by omega)
  rw [if_neg (by omega)] at hp
  refine Ev.step (fun k=>by simp only [cX.l0];rw [if_neg (by omega),j5 (by rw [jS];omega),Option.bind_some,if_pos (by omega)]) (Ev.bind hp (Ev.neg (xR h4) ?_))
  exact (Ev.now _).to (by simp [jH,l8])
 | succ d ih=>
  intro i all foot hi hd ha hfo hby
  have hlt:i<bs.length:=by omega
  have q1:(i:Int)<(bs.length:Int):=by omega
  have q2:(0:Int)≤(i:Int):=by omega
  have hB:=hok _ (List.getElem_mem hlt)
  have hrd:=ud bs i hlt
  have e3:wrap64 ((i:Int)+1)=((i+1:Nat):Int):=by rw [fU (by omega) (by omega)];rfl
  have hfr:=wB hB
  have hkb:=zy hB
  have hnl:=fC all.length
  rw [List.drop_eq_getElem_cons hlt,nQ]
  obtain ⟨b,hbe⟩:∃ b,bs[i]=b:=⟨_,rfl⟩
  rw [hbe] at hB hrd hfr hkb ⊢
  cases b with
  | nil=>exact absurd rfl hB.2.1
  | cons c b=>
   obtain ⟨_,z1,_,z2,_⟩:=g_.1 (hB.1.1 c List.mem_cons_self)
   have hcp:dz.f c.f0 c.f1 c.f2 ⟨#[]⟩ false=some (qY (c :: b)):=nK c.f2 false (by omega) (by omega) (by decide)
   have hcc:cA.f [foot,qY (c :: b),num all.length]=some (foot++qY (c :: b)++num all.length):=by
    rw [nR (by simp only [fG,List.map_cons,List.map_nil,List.sum_cons,List.sum_nil];omega)]
    simp
   have hput:=Ea hB
   have e5:l8 all.length ((c :: b) :: bs.drop (i+1))=qY (c :: b)++(num all.length++l8 (all.length+(frame (iB (c :: b))).length) (bs.drop (i+1))):=rfl
   rw [e5]
   have hbF:0<((c :: b).length:Int):=by simp only [List.length_cons];omega
   have hk0:af (c :: b) 0=c:=rfl
   generalize frame (iB (c :: b))=F at hput hfr ⊢
   have hkb2:=uh (c :: b)
   generalize qY (c :: b)=K at hkb hcp hcc hkb2 ⊢
   have hkey:nS.f c.f0 c.f1 c.f2 c.f3 c.f4=some (c.f0,c.f1,c.f2,⟨#[]⟩,false):=rfl
   have hal:all.length+F.length<140737488355328:=by omega
   have hstep:Ev (fun k=>cX.l0 k fl (all++F) (foot++K++num all.length) bs (bs.length:Int) ((i+1:Nat):Int)) (all++(F++jH (bs.drop (i+1))),frame (foot++(K++(num all.length++l8 (all.length+F.length) (bs.drop (i+1)))++text (strOfNums fl))),0):=by
    refine (ih (i+1) (all++F) (foot++K++num all.length) (by omega) (by omega) (by rw [List.length_append];omega) (by simp only [List.length_append];omega) ((hby.append hkb2).append (ij _))).to ?_
    rw [List.length_append]
    simp only [List.append_assoc]
   refine Ev.step (f:=fun k=>(cM.f k (c :: b)).bind fun bt=>if bt.2=0 then (if all.length+bt.1.length<140737488355328 then cX.l0 k fl (all++bt.1) (foot++K++num all.length) bs (bs.length:Int) ((i+1:Nat):Int) else none) else some ([],[],bt.2)) (fun k=>?_) (Ev.bind hput (Ev.pos rfl (Ev.pos hal hstep)))
   simp only [cX.l0]
   rw [if_pos q1,if_pos q2,if_pos q1,hrd,e3]
   simp only [if_pos hbF,hk0,hkey,hcp,hcc,js,Option.bind_some]
theorem CG {bs:List (List Cell)} {fl:List Int} (hok:∀ b ∈ bs,jj b) (hb:bs.length≤421) (hf:fl.length≤1000):Ev (fun k=>cX.f k bs fl) (jH bs,frame (i_ bs fl),0):=by
 unfold cX.f
 have hn:=fC bs.length
 refine Ev.bind (Ev.eq (js _)) ?_
 have:=Cz bs fl hok hb hf bs.length 0 [] (num bs.length) (Nat.zero_le _) rfl (by simp) (by omega) (ij _)
 rw [List.drop_zero,List.nil_append] at this
 exact this
theorem wG {bs:List (List Cell)} {fl:List Int} (hok:∀ b ∈ bs,jj b) (hb:bs.length≤421) (hf:fl.length≤1000):Ev (fun k=>fq.f k bs fl) (iD bs fl,0):=by
 unfold fq.f
 have h1:=si bs hok
 have h2:=sW hok hb hf
 have h3:=jz (r:=i_ bs fl) (by omega)
 have h4:=fC (frame (i_ bs fl)).length
 refine Ev.bind (CG hok hb hf) (Ev.pos rfl (Ev.bind (Ev.eq (js _)) (Ev.bind (Ev.eq (nR ?_)) ?_)))
 ·
  show fG [jH bs,frame (i_ bs fl),num (frame (i_ bs fl)).length]≤_
  simp only [fG,List.map_cons,List.map_nil,List.sum_cons,List.sum_nil]
  omega
 ·
  exact (Ev.now _).to (by simp [iD])
theorem qw {b:List Cell}:∀ {x:List (List Cell)},b ∈ x→b.length≤x.flatten.length
 | [],h=>by cases h
 | a :: x,h=>by
  rw [List.flatten_cons,List.length_append]
  rcases List.mem_cons.1 h with rfl | h
  ·
   omega
  ·
   have:=qw h
   omega
theorem Fc {W:Nat}:∀ l:List Cell,(∀ c ∈ l,(jq c).length≤W)→(iB l).length≤4+W*l.length:=fun l h=>by
 have hf:∀ l:List Cell,(∀ c ∈ l,(jq c).length≤W)→(l.map jq).flatten.length≤W*l.length:=fun l=>by
  induction l with
  | nil=>exact fun _=>Nat.zero_le _
  | cons c l ih=>
   intro h
   have h1:=h c List.mem_cons_self
   have h2:=ih (fun x hx=>h x (List.mem_cons_of_mem _ hx))
   rw [List.map_cons,List.flatten_cons,List.length_append,List.length_cons,Nat.mul_succ]
   omega
 have h1:=hf l h
 have h2:=fC l.length
 unfold iB
 rw [List.length_append]
 omega
theorem tH {W:Nat} {l:List Cell} (h:kf l) (hl:l.length≤420) (hw:∀ c ∈ l,(jq c).length≤W) (hW:W*l.length≤60150) {size:Nat} (hs:0<size):∀ b ∈ iE size l [] 0,jj b:=by
 intro b hb
 have hfl:=oU size l [] 0
 rw [List.nil_append] at hfl
 have hp:=BD (x:=iE size l [] 0) (by rw [hfl];exact h) b hb
 refine ⟨hp,(ua size hs l [] 0 rfl (fun k hk=>by
  have:k=0:=by simpa using hk
  subst this
  simpa [gH] using hs) b hb).1,?_⟩
 have hlen:b.length≤(iE size l [] 0).flatten.length:=by
  exact qw hb
 rw [hfl] at hlen
 have hb2:=Fc (W:=W) b (fun c hc=>hw c (by rw [←hfl];exact List.mem_flatten.2 ⟨b,hb,hc⟩))
 have:=Nat.mul_le_mul_left W hlen
 exact ⟨by omega,by omega⟩
def yh (size:Int) (l:List Cell):List Int × Int:=if jk l=true∧1≤size then (iD (iE size.toNat l [] 0) (eP l),0) else ([],1)
theorem tX {W:Nat} {l:List Cell} (size:Int) (hl:l.length≤420) (hw:∀ c ∈ l,(jq c).length≤W) (hW:W*l.length≤60150):Ev (fun k=>gX.f k l size) (yh size l):=by
 unfold gX.f yh
 refine Ev.bind (yt size (by omega)) ?_
 unfold xP
 by_cases h:jk l=true∧1≤size
 ·
  rw [if_pos h,if_pos h]
  have hs:=kJ.1 h.1
  have hg:=mS size.toNat l [] 0
  refine Ev.pos rfl (Ev.bind (pE hs.1 (by omega)) (Ev.bind (wG (bs:=iE size.toNat l [] 0) (fl:=eP l) (tH hs hl hw hW (by omega)) (by omega) (by rw [lM];omega)) (Ev.now _)))
 ·
  rw [if_neg h,if_neg h]
  exact Ev.neg (by decide) (Ev.now _)
theorem EK {l:List Cell} {r c:ByteArray} (hl:l.length≤10000) (hr:r.size≤10000) (hc:c.size≤10000):Ev (fun k=>eX.f k (eP l) r c) (tb (eP l) (rE r c)):=by
 unfold eX.f
 have hk:=vu r c
 have hf:=lM l
 exact Ev.bind (Ev.eq (rA (by omega) (by omega))) (wD (by omega) (vP l) (by omega))
theorem Em {l:List Cell} {x:Cell} (h:x ∈ l):tb (eP l) (rE x.f0 x.f1)=true:=Cc (List.mem_map.2 ⟨x,h,rfl⟩)
def dV (t:Cell):List Cell→Nat
 | []=>0
 | x :: l=>if cc x t = -1 then dV t l+1 else 0
theorem qg (t:Cell):∀ l:List Cell,dV t l≤l.length
 | []=>Nat.le_refl _
 | x :: l=>by
  have:=qg t l
  unfold dV
  split<;>simp only [List.length_cons]<;>omega
theorem rP (t:Cell):∀ (l:List Cell) (i:Nat),i≤l.length→(∀ j (_:j<i) (hl:j<l.length),cc l[j] t = -1)→(∀ h:i<l.length,¬ cc l[i] t = -1)→dV t l=i
 | [],i,hi,_,_=>by simp at hi;simp [dV,hi]
 | x :: l,0,_,_,h2=>by
  have:=h2 (by simp)
  simp only [List.getElem_cons_zero] at this
  unfold dV
  rw [if_neg this]
 | x :: l,i+1,hi,h1,h2=>by
  have hx:=h1 0 (by omega) (by simp)
  simp only [List.getElem_cons_zero] at hx
  unfold dV
  rw [if_pos hx,rP t l i (by simpa using hi) (fun j hj hl=>by have:=h1 (j+1) (by omega) (by simpa using hl);simpa using this) (fun hl=>by have:=h2 (by simpa using hl);simpa using this)]
def zI (r c:ByteArray) (t:Int) (x:Cell):Bool:=decide (x.f0=r∧x.f1=c∧x.f2≤t)
theorem mz {r c:ByteArray} {t:Int} {x:Cell}:zI r c t x=true↔x.f0=r∧x.f1=c∧x.f2≤t:=decide_eq_true_iff
def kz (r c:ByteArray) (t:Int) (l:List Cell):Option Cell:=l.find? (zI r c t)
def fR (r c:ByteArray) (t:Int):Cell:=⟨r,c,t,⟨#[]⟩,false⟩
theorem qo {x y:Cell} (h1:x.f0=y.f0) (h2:x.f1=y.f1):cc x y=kP y.f2 x.f2:=by
 unfold cc kD
 rw [if_pos (iQ.2 h1),if_pos (iQ.2 h2)]
theorem oH {a b:Int}:kP a b = -1↔a<b:=by
 unfold kP
 split
 ·
  simp [*]
 ·
  split<;>simp<;>omega
theorem tv {x y z:Cell} (h1:y.f0=z.f0) (h2:y.f1=z.f1) (h:¬ (x.f0=y.f0∧x.f1=y.f1)):cc x y=cc x z:=by
 unfold cc kD
 rw [←h1,← h2]
 by_cases e1:gO x.f0 y.f0=0
 ·
  rw [if_pos e1]
  by_cases e2:gO x.f1 y.f1=0
  ·
   exact absurd ⟨iQ.1 e1,iQ.1 e2⟩ h
  ·
   rw [if_neg e2,if_pos e1,if_neg e2]
 ·
  rw [if_neg e1,if_neg e1]
theorem wZ (r c:ByteArray) (t:Int):∀ {l:List Cell},fj l→kz r c t l=if h:dV (fR r c t) l<l.length then (if l[dV (fR r c t) l].f0=r∧l[dV (fR r c t) l].f1=c then some l[dV (fR r c t) l] else none) else none
 | [],_=>by simp [kz]
 | x :: l,h=>by
  obtain ⟨h1,h2⟩:=List.pairwise_cons.1 h
  by_cases hx:cc x (fR r c t) = -1
  ·
   have hn:zI r c t x=false:=by
    cases ho:zI r c t x with
    | false=>rfl
    | true=>
     obtain ⟨e1,e2,e3⟩:=mz.1 ho
     rw [qo (y:=fR r c t) e1 e2,oH] at hx
     have:(fR r c t).f2=t:=rfl
     omega
   unfold kz
   rw [List.find?_cons_of_neg (by simp [hn])]
   have ih:=wZ r c t h2
   unfold kz at ih
   rw [ih]
   simp only [dV,if_pos hx,List.length_cons,Nat.add_lt_add_iff_right,List.getElem_cons_succ]
  ·
   simp only [dV,if_neg hx,List.length_cons,Nat.zero_lt_succ,dif_pos,List.getElem_cons_zero]
   by_cases hk:x.f0=r∧x.f1=c
   ·
    rw [if_pos hk]
    rw [qo (y:=fR r c t) hk.1 hk.2,oH] at hx
    have:(fR r c t).f2=t:=rfl
    exact List.find?_cons_of_pos (mz.2 ⟨hk.1,hk.2,by omega⟩)
   ·
    rw [if_neg hk]
    refine List.find?_eq_none.2 fun y hy=>?_
    rcases List.mem_cons.1 hy with rfl | hy
    ·
     intro ho
     obtain ⟨e1,e2,_⟩:=mz.1 ho
     exact hk ⟨e1,e2⟩
    ·
     intro ho
     obtain ⟨e1,e2,_⟩:=mz.1 ho
     have hxy:=h1 y hy
     rw [tv (y:=y) (z:=fR r c t) e1 e2 (by rw [e1,e2];exact hk)] at hxy
     exact hx hxy
def qI:Option Cell→ByteArray × ByteArray × Int × ByteArray × Bool × Bool
 | none=>(⟨#[]⟩,⟨#[]⟩,0,⟨#[]⟩,false,false)
 | some c=>(c.f0,c.f1,c.f2,c.f3,c.f4,true)
theorem Ej {x:Int} (h0:0≤x) (h1:x<18446744073709551616):IntKind.u64.wrap x=x:=by
 unfold IntKind.wrap
 simp only [IntKind.signed,IntKind.bits,Bool.false_and,Bool.false_eq_true,if_false]
 omega
theorem DC (l:List Cell) (t:Cell) (ho:fj l) (hn:l.length≤2199023255552) (d:Nat):∀ lo hi:Nat,hi - lo≤d→lo≤hi→hi≤l.length→(∀ j (_:j<lo) (hl:j<l.length),cc l[j] t = -1)→(∀ j (_:hi≤j) (hl:j<l.length),¬ cc l[j] t = -1)→
  Ev (fun k=>bC.l0 k l (l.length:Int) (lo:Int) (hi:Int) t.f0 t.f1 t.f2 t.f3 t.f4) ((dV t l:Int),if h:dV t l<l.length then cc l[dV t l] t == 0 else false):=by
 induction d with
 | zero=>
  intro lo hi hd h1 h2 h3 h4
  have:lo=hi:=by omega
  subst this
  have hp:=rP t l lo h2 h3 (fun h=>h4 lo (by omega) h)
  rw [hp]
  by_cases hl:lo<l.length
  ·
   have hr:=fQ l lo hl
   unfold lP at hr
   rw [dif_pos hl]
   refine Ev.step (fun k=>by simp only [bC.l0];rw [if_neg (by omega),if_pos (by omega),if_pos (by omega),if_pos (by omega),hr]) (Ev.bind (mQ _ _) (Ev.now _))
  ·
   rw [dif_neg hl]
   exact Ev.step (f:=fun _=>some ((lo:Int),false)) (fun k=>by simp only [bC.l0];rw [if_neg (by omega),if_neg (by omega)]) (Ev.now _)
 | succ d ih=>
  intro lo hi hd h1 h2 h3 h4
  by_cases hlt:lo<hi
  ·
   have hm:wrap64 (IntKind.u64.wrap (wrap64 ((lo:Int)+(hi:Int))) / 2)=(((lo+hi) / 2:Nat):Int):=by
    rw [fU (x:=(lo:Int)+(hi:Int)) (by omega) (by omega),Ej (by omega) (by omega),fU (by omega) (by omega)]
    omega
   have hml:(lo+hi) / 2<l.length:=by omega
   have hr:=fQ l ((lo+hi) / 2) hml
   unfold lP at hr
   refine Ev.step (fun k=>by simp only [bC.l0];rw [if_pos (by omega),hm,if_pos (by omega),if_pos (by omega),hr]) (Ev.bind (mQ _ _) ?_)
   have hin:=su l[(lo+hi) / 2] t
   by_cases hc:cc l[(lo+hi) / 2] t = -1
   ·
    refine Ev.pos (by omega) ?_
    rw [fU (by omega) (by omega)]
    refine ih ((lo+hi) / 2+1) hi (by omega) (by omega) h2 (fun j hj hl=>?_) h4
    by_cases hjm:j=(lo+hi) / 2
    ·
     subst hjm;exact hc
    ·
     exact jx (List.pairwise_iff_getElem.1 ho j ((lo+hi) / 2) hl hml (by omega)) hc
   ·
    refine Ev.neg (by omega) (ih lo ((lo+hi) / 2) (by omega) (by omega) (by omega) h3 (fun j hj hl=>?_))
    by_cases hjm:j=(lo+hi) / 2
    ·
     subst hjm;exact hc
    ·
     exact fun hjt=>hc (jx (List.pairwise_iff_getElem.1 ho ((lo+hi) / 2) j hml hl (by omega)) hjt)
  ·
   exact ih lo hi (by omega) h1 h2 h3 h4
theorem uV {l:List Cell} (t:Cell) (ho:fj l) (hn:l.length≤2199023255552):Ev (fun k=>bC.f k l t.f0 t.f1 t.f2 t.f3 t.f4) ((dV t l:Int),if h:dV t l<l.length then cc l[dV t l] t == 0 else false):=by
 unfold bC.f
 exact DC l t ho hn l.length 0 l.length (by omega) (by omega) (by omega) (fun j hj=>by omega) (fun j hj hl=>by omega)
theorem qi {l:List Cell} (r c:ByteArray) (t:Int) (ho:fj l) (hn:l.length≤1000000000):Ev (fun k=>cF.f k l r c t) (qI (kz r c t l)):=by
 have jt:Ev (fun k=>cF.j0 k l (dV (fR r c t) l) true) (qI none):=Ev.step (f:=fun _=>some (qI none)) (fun k=>by simp only [cF.j0,if_true];rfl) (Ev.now _)
 rw [wZ r c t ho]
 unfold cF.f
 by_cases hp:dV (fR r c t) l<l.length
 ·
  rw [dif_pos hp]
  refine Ev.bind (uV (fR r c t) ho (by omega)) ?_
  have hr:=fQ l _ hp
  unfold lP at hr
  have jf:Ev (fun k=>cF.j0 k l (dV (fR r c t) l) false) (qI (some l[dV (fR r c t) l])):=Ev.step (f:=fun _=>some (qI (some l[dV (fR r c t) l]))) (fun k=>by simp only [cF.j0,Bool.false_eq_true,if_false];rw [if_pos (by omega),if_pos (by omega),hr];rfl) (Ev.now _)
  simp only
  rw [hr]
  refine Ev.neg (by omega) (Ev.pos (by omega) (Ev.pos (by omega) ?_))
  by_cases e1:l[dV (fR r c t) l].f0=r
  ·
   refine Ev.pos (by rw [e1]) ?_
   by_cases e2:l[dV (fR r c t) l].f1=c
   ·
    rw [if_pos ⟨e1,e2⟩,e2,bne_self_eq_false]
    exact jf
   ·
    rw [if_neg (fun h=>e2 h.2),show (l[dV (fR r c t) l].f1.toList != c.toList)=true by simpa using fun h=>e2 (toList_inj h)]
    exact jt
  ·
   rw [if_neg (fun h=>e1 h.1)]
   exact Ev.neg (fun h=>e1 (toList_inj h)) jt
 ·
  rw [dif_neg hp]
  have:=qg (fR r c t) l
  refine Ev.bind (uV (fR r c t) ho (by omega)) ?_
  simp only
  exact Ev.pos (by omega) jt
def jg (b:List Cell):Cell:=lP b ((b.length - 1:Nat):Int)
theorem xL {b:List Cell} (h:b≠[]):jg b=b[b.length - 1]'(by have:=List.length_pos_iff.2 h;omega):=fQ b _ _
theorem pH {b:List Cell} (h:b≠[]):jg b ∈ b:=by rw [xL h];exact List.getElem_mem _
theorem Dw {b:List Cell} (h:b≠[]) (hl:b.length≤100000) (t:Cell):Ev (fun k=>cG.f k b t.f0 t.f1 t.f2 t.f3 t.f4) (cc (jg b) t):=by
 have hp:=List.length_pos_iff.2 h
 have p1:(b.length:Int) - 1=((b.length - 1:Nat):Int):=by omega
 have b1:b.length - 1≤1000000000:=by omega
 have b2:(0:Int)≤((b.length - 1:Nat):Int):=by omega
 have b3:((b.length - 1:Nat):Int)<(b.length:Int):=by omega
 have e1:wrap64 ((b.length:Int) - 1)=((b.length - 1:Nat):Int):=by rw [p1];exact fU (by omega) (by omega)
 unfold cG.f
 rw [e1]
 exact Ev.pos b2 (Ev.pos b3 (Ev.bind (mQ (jg b) t) (Ev.now _)))
theorem Bt (bs:List (List Cell)) (M:List Cell) (hM:M.length=bs.length) (t:Cell) (hn:bs.length≤1000000000) (hg:∀ (i:Nat) (h:i<bs.length),Ev (fun k=>cG.f k bs[i] t.f0 t.f1 t.f2 t.f3 t.f4) (cc (M[i]'(by omega)) t)) (ho:fj M) (d:Nat) :
  ∀ lo hi:Nat,hi - lo≤d→lo≤hi→hi≤M.length→(∀ j (_:j<lo) (hl:j<M.length),cc M[j] t = -1)→(∀ j (_:hi≤j) (hl:j<M.length),¬ cc M[j] t = -1)→
  Ev (fun k=>bJ.l0 k bs (bs.length:Int) (lo:Int) (hi:Int) t.f0 t.f1 t.f2 t.f3 t.f4) ((dV t M:Int),if h:dV t M<M.length then cc M[dV t M] t == 0 else false):=by
 induction d with
 | zero=>
  intro lo hi hd h1 h2 h3 h4
  have:lo=hi:=by omega
  subst this
  have hp:=rP t M lo h2 h3 (fun h=>h4 lo (by omega) h)
  rw [hp]
  have hnl:¬ (lo:Int)<(lo:Int):=by omega
  by_cases hl:lo<M.length
  ·
   have hl2:lo<bs.length:=by omega
   have hr:=ud bs lo hl2
   have q1:(lo:Int)<(bs.length:Int):=by omega
   have q2:(0:Int)≤(lo:Int):=by omega
   rw [dif_pos hl]
   exact Ev.step (fun k=>by simp only [bJ.l0];rw [if_neg hnl,if_pos q1,if_pos q2,if_pos q1,hr]) (Ev.bind (hg lo hl2) (Ev.now _))
  ·
   have q1:¬ (lo:Int)<(bs.length:Int):=by omega
   rw [dif_neg hl]
   exact Ev.step (f:=fun _=>some ((lo:Int),false)) (fun k=>by simp only [bJ.l0];rw [if_neg hnl,if_neg q1]) (Ev.now _)
 | succ d ih=>
  intro lo hi hd h1 h2 h3 h4
  by_cases hlt:lo<hi
  ·
   obtain ⟨m,hmd⟩:∃ m,m=(lo+hi) / 2:=⟨_,rfl⟩
   have hml:m<M.length:=by omega
   have hmb:m<bs.length:=by omega
   have ihA:=ih (m+1) hi (by omega) (by omega) h2
   have ihB:=ih lo m (by omega) (by omega) (by omega)
   have hlo:lo≤m:=by omega
   have q0:(lo:Int)<(hi:Int):=by omega
   have q1:(0:Int)≤(m:Int):=by omega
   have q2:(m:Int)<(bs.length:Int):=by omega
   have hr:=ud bs m hmb
   have b1:m+1≤2000000000:=by omega
   have hm:wrap64 (IntKind.u64.wrap (wrap64 ((lo:Int)+(hi:Int))) / 2)=(m:Int):=by
    rw [fU (x:=(lo:Int)+(hi:Int)) (by omega) (by omega),Ej (by omega) (by omega),fU (by omega) (by omega)]
    omega
   have hm1:wrap64 ((m:Int)+1)=((m+1:Nat):Int):=by rw [fU (by omega) (by omega)];rfl
   have hin:=su M[m] t
   clear hmd hd
   refine Ev.step (fun k=>by simp only [bJ.l0];rw [if_pos q0,hm,if_pos q1,if_pos q2,hr,hm1]) (Ev.bind (hg m hmb) ?_)
   clear hm hm1 hr
   by_cases hc:cc M[m] t = -1
   ·
    refine Ev.pos (by omega) (ihA (fun j hj hl=>?_) h4)
    by_cases hjm:j=m
    ·
     subst hjm;exact hc
    ·
     exact jx (List.pairwise_iff_getElem.1 ho j m hl hml (by omega)) hc
   ·
    refine Ev.neg (by omega) (ihB h3 (fun j hj hl=>?_))
    by_cases hjm:j=m
    ·
     subst hjm;exact hc
    ·
     exact fun hjt=>hc (jx (List.pairwise_iff_getElem.1 ho m j hml hl (by omega)) hjt)
  ·
   exact ih lo hi (by omega) h1 h2 h3 h4
theorem vC:∀ {bs:List (List Cell)},(∀ b ∈ bs,b≠[])→fj bs.flatten→fj (bs.map jg)
 | [],_,_=>List.Pairwise.nil
 | b :: bs,h,ho=>by
  rw [List.flatten_cons] at ho
  obtain ⟨h1,h2,h3⟩:=List.pairwise_append.1 ho
  refine List.pairwise_cons.2 ⟨fun x hx=>?_,vC (fun y hy=>h y (List.mem_cons_of_mem _ hy)) h2⟩
  obtain ⟨b2,hb2,rfl⟩:=List.mem_map.1 hx
  exact h3 _ (pH (h b List.mem_cons_self)) _ (List.mem_flatten.2 ⟨b2,hb2,pH (h b2 (List.mem_cons_of_mem _ hb2))⟩)
theorem D4 {b:List Cell} (h:b≠[]) (ho:fj b) {x:Cell} (hx:x ∈ b):x=jg b∨cc x (jg b) = -1:=by
 obtain ⟨i,hi,rfl⟩:=List.mem_iff_getElem.1 hx
 rw [xL h]
 by_cases he:i=b.length - 1
 ·
  subst he;exact .inl rfl
 ·
  exact .inr (List.pairwise_iff_getElem.1 ho i (b.length - 1) hi (by omega) (by omega))
theorem sO (r c:ByteArray) (t:Int):∀ {bs:List (List Cell)},(∀ b ∈ bs,b≠[])→fj bs.flatten→
  kz r c t bs.flatten=if dV (fR r c t) (bs.map jg)=bs.length then none else kz r c t (bs.getD (dV (fR r c t) (bs.map jg)) [])
 | [],_,_=>rfl
 | b :: bs,h,ho=>by
  have hb:=h b List.mem_cons_self
  rw [List.flatten_cons] at ho
  obtain ⟨h1,h2,h3⟩:=List.pairwise_append.1 ho
  have ih:=sO r c t (fun y hy=>h y (List.mem_cons_of_mem _ hy)) h2
  by_cases hl:cc (jg b) (fR r c t) = -1
  ·
   have hp:dV (fR r c t) ((b :: bs).map jg)=dV (fR r c t) (bs.map jg)+1:=by simp [dV,hl]
   have hn:∀ x ∈ b,¬ zI r c t x=true:=by
    intro x hx hox
    have hxl:cc x (fR r c t) = -1:=by
     rcases D4 hb h1 hx with e | e
     ·
      rw [e];exact hl
     ·
      exact jx e hl
    obtain ⟨e1,e2,e3⟩:=mz.1 hox
    rw [qo (y:=fR r c t) e1 e2,oH] at hxl
    have:(fR r c t).f2=t:=rfl
    omega
   rw [hp,List.flatten_cons]
   unfold kz at ih ⊢
   rw [List.find?_append,List.find?_eq_none.2 hn,Option.none_or,ih]
   simp only [List.length_cons,Nat.add_right_cancel_iff,List.getD_cons_succ]
  ·
   have hp:dV (fR r c t) ((b :: bs).map jg)=0:=by simp [dV,hl]
   rw [hp,List.flatten_cons,if_neg (by simp),List.getD_cons_zero]
   unfold kz
   rw [List.find?_append]
   cases hf:b.find? (zI r c t) with
   | some x=>rfl
   | none=>
    rw [Option.none_or]
    refine List.find?_eq_none.2 fun y hy hoy=>?_
    obtain ⟨e1,e2,e3⟩:=mz.1 hoy
    have hly:=h3 _ (pH hb) y hy
    by_cases hk:(jg b).f0=y.f0∧(jg b).f1=y.f1
    ·
     have hle:¬ cc (jg b) (fR r c t) = -1:=hl
     rw [qo (y:=fR r c t) (hk.1.trans e1) (hk.2.trans e2),oH] at hle
     have ht:(fR r c t).f2=t:=rfl
     exact List.find?_eq_none.1 hf _ (pH hb) (mz.2 ⟨hk.1.trans e1,hk.2.trans e2,by omega⟩)
    ·
     rw [tv (y:=y) (z:=fR r c t) e1 e2 hk] at hly
     exact hl hly
theorem Ep {l:List Cell} {bs:List (List Cell)} (r c:ByteArray) (t:Int) (hfl:bs.flatten=l) (hok:∀ b ∈ bs,jj b) (hs:kf l) (hl:l.length≤900) (hbl:bs.length≤1000) (hr:r.size≤10000) (hc:c.size≤10000) :
  Ev (fun k=>dG.f k bs (eP l) r c t) (qI (kz r c t l)):=by
 unfold dG.f
 refine Ev.bind (EK (by omega) hr hc) ?_
 cases hm:tb (eP l) (rE r c) with
 | false=>
  refine (Ev.neg Bool.false_ne_true (Ev.now _)).to ?_
  have hn:kz r c t l=none:=by
   unfold kz
   refine List.find?_eq_none.2 fun x hx hox=>?_
   obtain ⟨e1,e2,_⟩:=mz.1 hox
   have:=Em hx
   rw [e1,e2,hm] at this
   exact Bool.false_ne_true this
  rw [hn]
  rfl
 | true=>
  refine Ev.pos rfl ?_
  have hne:∀ b ∈ bs,b≠[]:=fun b hb=>(hok b hb).2.1
  have hof:fj bs.flatten:=by rw [hfl];exact hs.2
  have hM:(bs.map jg).length=bs.length:=List.length_map ..
  have hse:=Bt bs (bs.map jg) hM (fR r c t) (by omega) (fun i h=>by
   have:=Dw (hne _ (List.getElem_mem h)) (by have:=(hok _ (List.getElem_mem h)).2.2.1;omega) (fR r c t)
   rw [List.getElem_map]
   exact this) (vC hne hof) bs.length 0 bs.length (by omega) (by omega) (by omega) (fun j hj=>by omega) (fun j hj hl=>by omega)
  refine Ev.bind (show Ev (fun k=>bJ.f k bs r c t ⟨#[]⟩ false) _ from hse) ?_
  have hfb:=sO r c t hne hof
  rw [hfl] at hfb
  have hpl:=qg (fR r c t) (bs.map jg)
  rw [hM] at hpl
  generalize dV (fR r c t) (bs.map jg)=p at hfb hpl ⊢
  by_cases hp:p=bs.length
  ·
   rw [if_pos hp] at hfb
   rw [hfb]
   exact Ev.pos (show ((p:Nat):Int)=(bs.length:Int) by omega) (Ev.now _)
  ·
   rw [if_neg hp] at hfb
   rw [hfb]
   have hlt:p<bs.length:=by omega
   have hB:=hok _ (List.getElem_mem hlt)
   have hgd:bs.getD p []=bs[p]:=by rw [List.getD_eq_getElem?_getD,List.getElem?_eq_getElem hlt];rfl
   refine Ev.neg (show ¬ ((p:Nat):Int)=(bs.length:Int) by omega) (Ev.pos (show (0:Int)≤((p:Nat):Int)∧((p:Nat):Int)<(bs.length:Int) by omega) ?_)
   rw [show ((p:Nat):Int).toNat=p from Int.toNat_natCast p,hgd]
   exact qi r c t hB.1.2 (by have:=hB.2.2.1;omega)
def qu (last:Bool):List Cell→Int→Bool→Int→Int→Int × Int
 | [],_,_,lo,hi=>(lo,hi)
 | c :: r,n,first,lo,hi=>qu last r (n+iw c) false (if first=true then lo else mx lo (n+1)) (if r=[]∧last=false then mn hi (n+iw c) else hi)
def nr:List (List Cell)→Int→Int→Int × Int
 | [],lo,hi=>(lo,hi)
 | b :: bs,lo,hi=>nr bs (qu (decide (bs=[])) b 0 true lo hi).1 (qu (decide (bs=[])) b 0 true lo hi).2
def rF (bs:List (List Cell)):Bool:=decide ((nr bs 1 4294967296).1≤(nr bs 1 4294967296).2)
def C5 (last:Bool) (b:List Cell) (s:Int):Prop:=(∀ j,j<b.length→(gH (b.take j):Int)<s)∧(last=false→s≤(gH b:Int))
theorem Fm {a b s:Int}:mx a b≤s↔a≤s∧b≤s:=by unfold mx;split<;>omega
theorem Fe {a b s:Int}:s≤mn a b↔s≤a∧s≤b:=by unfold mn;split<;>omega
theorem zm (last:Bool) (s:Int):∀ (b:List Cell) (n:Int) (first:Bool) (lo hi:Int),((qu last b n first lo hi).1≤s∧s≤(qu last b n first lo hi).2)↔(lo≤s∧s≤hi∧(∀ j,j<b.length→(first=true→0<j)→n+(gH (b.take j):Int)<s)∧(b≠[]→last=false→s≤n+(gH b:Int)))
 | [],n,first,lo,hi=>by simp [qu]
 | c :: r,n,first,lo,hi=>by
  have hc:gH (c :: r)=iw c+gH r:=by simp [gH]
  rw [qu,zm last s r]
  have hhi:s≤(if r=[]∧last=false then mn hi (n+iw c) else hi)↔s≤hi∧(r=[]→last=false→s≤n+iw c):=by
   split
   ·
    rename_i h
    rw [Fe]
    exact ⟨fun h2=>⟨h2.1,fun _ _=>h2.2⟩,fun h2=>⟨h2.1,h2.2 h.1 h.2⟩⟩
   ·
    rename_i h
    exact ⟨fun h2=>⟨h2,fun h3 h4=>absurd ⟨h3,h4⟩ h⟩,fun h2=>h2.1⟩
  have hlo:(if first=true then lo else mx lo (n+1))≤s↔lo≤s∧(first=true∨n<s):=by
   split
   ·
    rename_i h
    exact ⟨fun h2=>⟨h2,.inl h⟩,fun h2=>h2.1⟩
   ·
    rename_i h
    rw [Fm]
    exact ⟨fun h2=>⟨h2.1,.inr (by omega)⟩,fun h2=>⟨h2.1,by rcases h2.2 with h3 | h3;exact absurd h3 h;omega⟩⟩
  rw [hhi,hlo]
  constructor
  ·
   rintro ⟨⟨l1,l2⟩,⟨u1,u2⟩,h3,h4⟩
   refine ⟨l1,u1,?_,?_⟩
   ·
    intro j hj hf
    cases j with
    | zero=>
     rw [List.take_zero,show gH []=0 from rfl]
     rcases l2 with l2 | l2
     ·
      exact absurd (hf l2) (by omega)
     ·
      simpa using l2
    | succ j=>
     have h5:=h3 j (by simpa using hj) (fun h=>by cases h)
     rw [List.take_succ_cons,show gH (c :: r.take j)=iw c+gH (r.take j) by simp [gH]]
     omega
   ·
    intro _ hl
    rw [hc]
    by_cases hr:r=[]
    ·
     have:=u2 hr hl
     subst hr
     simp [gH]
     omega
    ·
     have:=h4 hr hl
     omega
  ·
   rintro ⟨l1,u1,h3,h4⟩
   refine ⟨⟨l1,?_⟩,⟨u1,?_⟩,?_,?_⟩
   ·
    cases first with
    | true=>exact .inl rfl
    | false=>
     have:=h3 0 (by simp) (fun h=>by cases h)
     rw [List.take_zero,show gH []=0 from rfl] at this
     exact .inr (by simpa using this)
   ·
    intro hr hl
    have:=h4 (by simp) hl
    rw [hc] at this
    subst hr
    simp [gH] at this
    omega
   ·
    intro j hj _
    have h5:=h3 (j+1) (by simpa using hj) (fun _=>by omega)
    rw [List.take_succ_cons,show gH (c :: r.take j)=iw c+gH (r.take j) by simp [gH]] at h5
    omega
   ·
    intro hr hl
    have:=h4 (by simp) hl
    rw [hc] at this
    omega
def tF:List (List Cell)→Int→Prop
 | [],_=>True
 | b :: bs,s=>C5 (decide (bs=[])) b s∧tF bs s
theorem tE (s:Int) (hs:0<s):∀ (bs:List (List Cell)) (lo hi:Int),(∀ b ∈ bs,b≠[])→(((nr bs lo hi).1≤s∧s≤(nr bs lo hi).2)↔(lo≤s∧s≤hi∧tF bs s))
 | [],lo,hi,_=>by simp [nr,tF]
 | b :: bs,lo,hi,h=>by
  have hb:=h b List.mem_cons_self
  rw [nr,tE s hs bs _ _ (fun x hx=>h x (List.mem_cons_of_mem _ hx))]
  have:=zm (decide (bs=[])) s b 0 true lo hi
  show _↔(lo≤s∧s≤hi∧C5 (decide (bs=[])) b s∧tF bs s)
  unfold C5
  constructor
  ·
   rintro ⟨h1,h2,h3⟩
   obtain ⟨a1,a2,a3,a4⟩:=this.1 ⟨h1,h2⟩
   refine ⟨a1,a2,⟨fun j hj=>?_,fun hl=>by have:=a4 hb hl;omega⟩,h3⟩
   by_cases hj0:0<j
   ·
    have:=a3 j hj (fun _=>hj0)
    omega
   ·
    have:j=0:=by omega
    subst this
    rw [List.take_zero]
    simpa [gH] using hs
  ·
   rintro ⟨h1,h2,⟨h3,h4⟩,h5⟩
   obtain ⟨a1,a2⟩:=this.2 ⟨h1,h2,fun j hj _=>by have:=h3 j hj;omega,fun _ hl=>by have:=h4 hl;omega⟩
   exact ⟨a1,a2,h5⟩
theorem zJ:∀ (bs:List (List Cell)) (lo hi:Int),lo≤(nr bs lo hi).1
 | [],lo,_=>Int.le_refl _
 | b :: bs,lo,hi=>by
  rw [nr]
  have hin:∀ (b:List Cell) (last:Bool) (n:Int) (first:Bool) (lo hi:Int),lo≤(qu last b n first lo hi).1:=by
   intro b last
   induction b with
   | nil=>intro n first lo hi;exact Int.le_refl _
   | cons c r ih=>
    intro n first lo hi
    rw [qu]
    refine Int.le_trans ?_ (ih _ _ _ _)
    split
    ·
     exact Int.le_refl _
    ·
     unfold mx;split<;>omega
  exact Int.le_trans (hin b _ 0 true lo hi) (zJ bs _ _)
theorem CT {bs:List (List Cell)} (h:∀ b ∈ bs,b≠[]):rF bs=true↔∃ s:Int,1≤s∧s≤4294967296∧tF bs s:=by
 unfold rF
 rw [decide_eq_true_iff]
 constructor
 ·
  intro hle
  have hlo:=zJ bs 1 4294967296
  obtain ⟨a1,a2,a3⟩:=(tE (nr bs 1 4294967296).1 (by omega) bs 1 4294967296 h).1 ⟨Int.le_refl _,hle⟩
  exact ⟨_,a1,a2,a3⟩
 ·
  rintro ⟨s,h1,h2,h3⟩
  obtain ⟨a1,a2⟩:=(tE s (by omega) bs 1 4294967296 h).2 ⟨h1,h2,h3⟩
  exact Int.le_trans a1 a2
theorem BQ {size:Nat}:∀ (bs:List (List Cell)),(∀ b ∈ bs,OkB size b)→(∀ (i:Nat) (h:i+1<bs.length),size≤gH (bs[i]'(by omega)))→tF bs size
 | [],_,_=>trivial
 | b :: bs,h1,h2=>by
  refine ⟨⟨fun j hj=>by have:=(h1 b List.mem_cons_self).2 j hj;omega,fun hl=>?_⟩,BQ bs (fun x hx=>h1 x (List.mem_cons_of_mem _ hx)) (fun i hi=>?_)⟩
  ·
   cases bs with
   | nil=>simp at hl
   | cons b2 bs=>
    have:=h2 0 (by simp)
    simp only [List.getElem_cons_zero] at this
    omega
  ·
   have:=h2 (i+1) (by simpa using hi)
   simpa using this
theorem D5 {size:Nat} (hs:0<size) (l:List Cell):tF (iE size l [] 0) size:=
 BQ _ (ua size hs l [] 0 rfl (fun k hk=>by
  have:k=0:=by simpa using hk
  subst this
  simpa [gH] using hs)) (fun i h=>tG size l [] 0 rfl i h)
theorem CD {n:Nat} (h:n≤1000000000):wrap64 (n:Int)=(n:Int):=fU (by omega) (by omega)
theorem z6 {n m:Nat} (h:n+m≤1000000000):wrap64 ((n:Int)+(m:Int))=((n+m:Nat):Int):=by
 rw [←Int.natCast_add]
 exact CD h
theorem AE (bs:List (List Cell)) (i:Nat) (hi:i<bs.length) (hbl:bs.length≤1000) (l:List Cell) (hr:gV l) (hl:l.length≤450) (hl0:0<l.length) (r:Bool) (d:Nat):∀ (j n:Nat) (lo hi':Int),j≤l.length→l.length - j=d→n≤401*j→
  Ev (fun k=>aV.l0 k bs (qu (decide (i+1=bs.length)) (l.drop j) n (decide (j=0)) lo hi').1 (qu (decide (i+1=bs.length)) (l.drop j) n (decide (j=0)) lo hi').2 bs (bs.length:Int) (wrap64 ((i:Int)+1))) r→
  Ev (fun k=>aV.l1 k bs lo hi' (i:Int) l (n:Int) bs (bs.length:Int) (i:Int) l (l.length:Int) (j:Int)) r:=by
 induction d with
 | zero=>
  intro j n lo hi' hj hd hn hk
  rw [List.drop_eq_nil_of_le (by omega),qu] at hk
  have hnj:¬ (j:Int)<(l.length:Int):=by omega
  exact Ev.step (fun k=>by simp only [aV.l1];rw [if_neg hnj]) hk
 | succ d ih=>
  intro j n lo hi' hj hd hn hk
  have hlt:j<l.length:=by omega
  have q1:(j:Int)<(l.length:Int):=by omega
  have q2:(0:Int)≤(j:Int):=by omega
  have hc:=hr _ (List.getElem_mem hlt)
  have hcl:=zi hc
  have hput:=Du hc
  have hrd:=fQ l j hlt
  unfold lP at hrd
  have hlast:((j:Int)=(l.length:Int) - 1)↔l.drop (j+1)=[]:=by
   rw [List.drop_eq_nil_iff]
   omega
  have hib:((i:Int)<(bs.length:Int) - 1)↔¬ i+1=bs.length:=by omega
  have hj0:((j:Int) > 0)↔¬ j=0:=by omega
  have p1:(l.length:Int) - 1=((l.length - 1:Nat):Int):=by omega
  have p2:(bs.length:Int) - 1=((bs.length - 1:Nat):Int):=by omega
  have b1:l.length - 1≤1000000000:=by omega
  have b2:bs.length - 1≤1000000000:=by omega
  have b3:j+1≤1000000000:=by omega
  have b4:n+1≤1000000000:=by omega
  have b5:n+iw l[j]≤1000000000:=by omega
  have e6:((n+iw l[j]:Nat):Int)=(n:Int)+(iw l[j]:Int):=by omega
  have hnn:n+iw l[j]≤401*(j+1):=by omega
  have ihh:=fun lo hi'=>ih (j+1) (n+iw l[j]) lo hi' (by omega) (by omega) hnn
  have hz:decide (j+1=0)=false:=decide_eq_false (by omega)
  have e1:wrap64 ((l.length:Int) - 1)=(l.length:Int) - 1:=by rw [p1];exact CD b1
  have e2:wrap64 ((bs.length:Int) - 1)=(bs.length:Int) - 1:=by rw [p2];exact CD b2
  have e3:wrap64 ((j:Int)+1)=((j+1:Nat):Int):=z6 (m:=1) b3
  have e4:wrap64 ((n:Int)+1)=(n:Int)+1:=z6 (m:=1) b4
  have e5:wrap64 ((n:Int)+((jC l[j].f0 l[j].f1 l[j].f2 l[j].f3 l[j].f4).length:Int))=((n+iw l[j]:Nat):Int):=z6 b5
  rw [List.drop_eq_getElem_cons hlt,qu] at hk
  rw [hz] at ihh
  clear hn hnn hd hj hcl ih
  -- the new bounds
  have hj2:∀ (c:Bool) (k:Nat),(c=true↔(l.drop (j+1)=[]∧decide (i+1=bs.length)=false))→
    aV.j2 (k+1) bs lo hi' (i:Int) l (n:Int) (j:Int) bs (bs.length:Int) (i:Int) l (l.length:Int) (j:Int) c l[j].f0 l[j].f1 l[j].f2 l[j].f3 l[j].f4 =
    aV.l1 k bs (if decide (j=0)=true then lo else mx lo ((n:Int)+1)) (if l.drop (j+1)=[]∧decide (i+1=bs.length)=false then mn hi' ((n:Int)+(iw l[j]:Int)) else hi') (i:Int) l ((n+iw l[j]:Nat):Int) bs (bs.length:Int) (i:Int) l (l.length:Int) ((j+1:Nat):Int):=by
   intro c k hcc
   simp only [aV.j2,hput,Option.bind_some]
   by_cases hj':j=0
   ·
    have hn0:¬ ((j:Int) > 0):=fun h=>(hj0.1 h) hj'
    rw [if_neg hn0,if_neg hn0,if_pos (decide_eq_true hj')]
    cases c with
    | true=>rw [if_pos rfl,if_pos (hcc.1 rfl)];rw [e5,e3,e6]
    | false=>rw [if_neg Bool.false_ne_true,if_neg (fun h=>Bool.false_ne_true (hcc.2 h))];rw [e5,e3]
   ·
    have hn0:((j:Int) > 0):=hj0.2 hj'
    rw [if_pos hn0,if_pos hn0,if_neg (fun h=>hj' (of_decide_eq_true h))]
    cases c with
    | true=>rw [if_pos rfl,if_pos (hcc.1 rfl)];rw [e5,e4,e3,e6]
    | false=>rw [if_neg Bool.false_ne_true,if_neg (fun h=>Bool.false_ne_true (hcc.2 h))];rw [e5,e4,e3]
  have hk2:=ihh _ _ hk
  by_cases hlst:(j:Int)=(l.length:Int) - 1
  ·
   refine Ev.step (fun k=>by simp only [aV.l1];rw [if_pos q1,if_pos q2,if_pos q1,e1,if_pos hlst,e2,hrd]) (Ev.step (fun k=>hj2 _ k ?_) hk2)
   rw [decide_eq_true_iff,hib,decide_eq_false_iff_not]
   exact ⟨fun h=>⟨hlast.1 hlst,h⟩,fun h=>h.2⟩
  ·
   refine Ev.step (fun k=>by simp only [aV.l1];rw [if_pos q1,if_pos q2,if_pos q1,e1,if_neg hlst,hrd]) (Ev.step (fun k=>hj2 _ k ?_) hk2)
   exact ⟨fun h=>absurd h Bool.false_ne_true,fun h=>absurd (hlast.2 h.1) hlst⟩
theorem Ah (bs:List (List Cell)) (hbl:bs.length≤1000) (hok:∀ b ∈ bs,jj b) (d:Nat):∀ (i:Nat) (lo hi:Int),i≤bs.length→bs.length - i=d→Ev (fun k=>aV.l0 k bs lo hi bs (bs.length:Int) (i:Int)) (decide ((nr (bs.drop i) lo hi).1≤(nr (bs.drop i) lo hi).2)):=by
 induction d with
 | zero=>
  intro i lo hi h1 h2
  rw [List.drop_eq_nil_of_le (by omega)]
  exact Ev.step (f:=fun _=>some (decide (lo≤hi))) (fun k=>by simp only [aV.l0];rw [if_neg (by omega)]) (Ev.now _)
 | succ d ih=>
  intro i lo hi h1 h2
  have hlt:i<bs.length:=by omega
  have q1:(i:Int)<(bs.length:Int):=by omega
  have q2:(0:Int)≤(i:Int):=by omega
  have hB:=hok _ (List.getElem_mem hlt)
  have hrd:=ud bs i hlt
  have hb0:0<bs[i].length:=List.length_pos_iff.2 hB.2.1
  have ihh:=fun lo hi=>ih (i+1) lo hi (by omega) (by omega)
  have b3:i+1≤1000000000:=by omega
  have hdl:decide (bs.drop (i+1)=[])=decide (i+1=bs.length):=by
   congr 1
   rw [List.drop_eq_nil_iff]
   exact propext ⟨fun h=>by omega,fun h=>by omega⟩
  have e3:wrap64 ((i:Int)+1)=((i+1:Nat):Int):=z6 (m:=1) b3
  rw [List.drop_eq_getElem_cons hlt,nr,hdl]
  refine Ev.step (fun k=>by simp only [aV.l0];rw [if_pos q1,if_pos q2,if_pos q1,hrd]) ?_
  refine AE bs i hlt hbl bs[i] hB.1.1 hB.2.2.1 hb0 _ bs[i].length 0 0 lo hi (Nat.zero_le _) rfl (Nat.zero_le _) ?_
  rw [e3,List.drop_zero]
  exact ihh _ _
theorem Am {bs:List (List Cell)} (hbl:bs.length≤1000) (hok:∀ b ∈ bs,jj b):Ev (fun k=>aV.f k bs) (rF bs):=by
 unfold aV.f rF
 exact Ah bs hbl hok bs.length 0 1 4294967296 (Nat.zero_le _) rfl
theorem CX {b:List Int} (hb:Bytes b) (h12:12≤b.length) (s:List Int):b.take 12=b.take 4++(kW (b.take 4)++kW s)↔dX (b.drop 4)=fM (b.take 4)∧dX (b.drop 8)=fM s:=by
 have e12:b.take 12=b.take 4++((b.drop 4).take 4++(b.drop 8).take 4):=by
  rw [show 12=4+(4+4) from rfl,List.take_add,List.take_add,List.drop_drop]
 have n4:=qA (hb.drop 4) (by rw [List.length_drop];omega)
 have n8:=qA (hb.drop 8) (by rw [List.length_drop];omega)
 obtain ⟨a0,a1⟩:=kp (b.take 4)
 obtain ⟨b0,b1⟩:=kp s
 obtain ⟨c0,c1⟩:=iZ (hb.drop 4) (by rw [List.length_drop];omega)
 obtain ⟨d0,d1⟩:=iZ (hb.drop 8) (by rw [List.length_drop];omega)
 rw [e12,List.append_cancel_left_eq,← n4,← n8]
 constructor
 ·
  intro h
  have h1:=List.append_inj h (by rw [jV,iz c0 c1])
  have v1:=congrArg dX (show num (dX (b.drop 4))++[]=num (fM (b.take 4))++[] by have e:=h1.1;unfold kW at e;rw [e])
  have v2:=congrArg dX (show num (dX (b.drop 8))++[]=num (fM s)++[] by have e:=h1.2;unfold kW at e;rw [e])
  rw [jU c0 c1,jU a0 a1] at v1
  rw [jU d0 d1,jU b0 b1] at v2
  exact ⟨v1,v2⟩
 ·
  rintro ⟨h1,h2⟩
  rw [h1,h2]
  rfl
theorem yc {b:List Int} (hb:Bytes b) (hl:b.length≤140737488355328):Ev (fun k=>ck.f k b) (ke b):=by
 have jt:∀ n l,Ev (fun k=>ck.j0 k n l true) ([],[],false):=fun n l=>Ev.step (fun k=>by simp only [ck.j0,if_true]) (Ev.now _)
 unfold ck.f
 by_cases h:b.length<12
 ·
  rw [sj (fun ho=>by have:=ho.1;omega)]
  exact Ev.pos (by omega) (Ev.now _)
 refine Ev.neg (by omega) (Ev.bind (j8 hb hl) (Ev.pos (by omega) (Ev.bind (Ev.eq (wR (by rw [List.length_drop];omega))) ?_)))
 obtain ⟨g0,g1⟩:=iZ hb (by omega)
 have hcn:jb b=(dX b,b.drop 4,true):=by unfold jb;rw [if_neg (by omega)]
 rw [hcn]
 simp only
 have hd:((b.drop 12).length:Int)=(b.length:Int) - 12:=by rw [List.length_drop];omega
 by_cases h1:dX b > 65535
 ·
  rw [sj (fun ho=>by have:=ho.2.1;omega)]
  exact Ev.pos h1 (jt _ _)
 refine Ev.neg h1 ?_
 by_cases h2:dX b > ((b.drop 12).length:Int)
 ·
  rw [sj (fun ho=>by have:=ho.2.2.1;omega)]
  exact Ev.pos h2 (jt _ _)
 refine Ev.neg h2 (Ev.pos (by omega) (Ev.bind (Ev.now _) (Ev.bind (mW (hb.take 4) (by rw [List.length_take];omega)) (Ev.pos g0 (Ev.pos (by omega) (Ev.bind (mW ((hb.drop 12).take _) (by rw [List.length_take,List.length_drop];omega)) ?_))))))
 have s1:=jV (b.take 4)
 have s2:=jV ((b.drop 12).take (dX b).toNat)
 refine Ev.bind (Ev.eq (nR ?_)) (Ev.bind (wT (by rw [List.length_take];omega)) ?_)
 ·
  simp only [fG,List.map_cons,List.map_nil,List.sum_cons,List.sum_nil,List.length_take]
  omega
 have hc:[b.take 4,kW (b.take 4),kW ((b.drop 12).take (dX b).toNat)].flatten=b.take 4++(kW (b.take 4)++kW ((b.drop 12).take (dX b).toNat)):=by simp
 rw [hc]
 have hi:=CX hb (by omega) ((b.drop 12).take (dX b).toNat)
 by_cases ho:okF b
 ·
  have h45:dX (b.drop 4)=fM (b.take 4)∧dX (b.drop 8)=fM ((b.drop 12).take (dX b).toNat):=⟨ho.2.2.2.1,ho.2.2.2.2⟩
  rw [decide_eq_true (hi.2 h45)]
  unfold ke
  rw [if_pos ho]
  refine Ev.step (fun k=>by simp only [ck.j0,Bool.not_true,Bool.false_eq_true,if_false];rfl) (Ev.pos g0 (Ev.pos (by omega) (Ev.now _)))
 ·
  have h45:¬ (dX (b.drop 4)=fM (b.take 4)∧dX (b.drop 8)=fM ((b.drop 12).take (dX b).toNat)):=fun hh=>ho ⟨by omega,by omega,by omega,hh.1,hh.2⟩
  rw [decide_eq_false (fun e=>h45 (hi.1 e)),sj ho]
  exact jt _ _
def r9 (x:Eo):Cell:=⟨x.1,x.2.1,x.2.2.1,x.2.2.2.1,x.2.2.2.2.1⟩
def mV:Nat→List Int→List Cell→List Cell × Bool
 | 0,b,out=>(out,decide (b.length=0))
 | n+1,b,out=>if (iJ b).2.2.2.2.2.2=true then mV n (iJ b).2.2.2.2.2.1 (out++[r9 (iJ b)]) else (out++[r9 (iJ b)],false)
theorem tZ {b:List Int} (hb:Bytes b):Bytes (iJ b).2.2.2.2.2.1∧(iJ b).2.2.2.2.2.1.length≤b.length:=by
 have b1:=je hb
 have l1:=jO (b:=b)
 have b2:=je b1
 have l2:=jO (b:=(fW b).2.1)
 obtain ⟨b3,l3⟩:=rj b2
 obtain ⟨b4,l4⟩:=ri b3
 have b5:=je b4
 have l5:=jO (b:=(kM (jb (fW (fW b).2.1).2.1).2.1).2.1)
 unfold iJ
 dsimp only
 split
 ·
  exact ⟨b5,Nat.le_trans l5 (Nat.le_trans l4 (Nat.le_trans l3 (Nat.le_trans l2 l1)))⟩
 ·
  exact ⟨Bytes.nil,by simp⟩
theorem Da (n:Nat):∀ (b:List Int) (out:List Cell),Bytes b→b.length≤140737488355328→n≤4294967295→out.length+n≤4294967295→Ev (fun k=>cW.l0 k b (n:Int) true out) (mV n b out):=by
 induction n with
 | zero=>
  intro b out hb hl hn ho
  refine Ev.step (f:=fun _=>some (out,((b.length:Int) == 0))) (fun k=>?_) ((Ev.now _).to ?_)
  ·
   simp only [cW.l0,if_true]
   rw [if_neg (by omega)]
  ·
   unfold mV
   congr 1
   rw [Bool.eq_iff_iff,beq_iff_eq,decide_eq_true_iff]
   omega
 | succ n ih=>
  intro b out hb hl hn ho
  have hr:=tZ hb
  refine Ev.step (fun k=>by simp only [cW.l0,if_true];rw [if_pos (by omega)]) ?_
  refine Ev.bind (yJ hb hl) ?_
  refine Ev.pos (by omega) ?_
  rw [show wrap64 (((n+1:Nat):Int) - 1)=(n:Int) by rw [fU (by omega) (by omega)];omega]
  unfold mV
  cases hc:(iJ b).2.2.2.2.2.2 with
  | true=>
   rw [if_pos rfl]
   exact ih _ _ hr.1 (Nat.le_trans hr.2 hl) (by omega) (by rw [List.length_append,List.length_singleton];omega)
  | false=>
   rw [if_neg Bool.false_ne_true]
   exact Ev.step (f:=fun _=>some (out++[r9 (iJ b)],false)) (fun k=>by simp only [cW.l0,Bool.false_eq_true,if_false];rfl) (Ev.now _)
def j3 (b:List Int):List Cell × Bool:=if b.length<4 then ([],false) else mV (dX b).toNat (b.drop 4) []
theorem Cw {b:List Int} (hb:Bytes b) (hl:b.length≤140737488355328):Ev (fun k=>cW.f k b) (j3 b):=by
 unfold cW.f j3
 refine Ev.bind (j8 hb hl) ?_
 unfold jb
 by_cases h:b.length<4
 ·
  rw [if_pos h,if_pos h]
  exact Ev.step (f:=fun _=>some ([],false)) (fun k=>by simp only [cW.l0,Bool.false_eq_true,if_false]) (Ev.now _)
 ·
  rw [if_neg h,if_neg h]
  obtain ⟨g0,g1⟩:=iZ hb (by omega)
  have:=Da (dX b).toNat (b.drop 4) [] (hb.drop 4) (by rw [List.length_drop];omega) (by omega) (by simp;omega)
  rw [show (((dX b).toNat:Nat):Int)=dX b by omega] at this
  exact this
def AF (b:List Int):List Cell × List Int × Int:=if (ke b).2.2=true∧(j3 (ke b).1).2=true∧(j3 (ke b).1).1.length≠0∧jk (j3 (ke b).1).1=true then ((j3 (ke b).1).1,(ke b).2.1,0) else ([],[],2)
theorem sQ:∀ (l:List Cell) (r:List Int) (out:List Cell),gV l→mV l.length ((l.map jq).flatten++r) out=(out++l,decide (r.length=0))
 | [],r,out,_=>by simp [mV]
 | c :: l,r,out,h=>by
  have hc:=h c List.mem_cons_self
  have e:iJ (jq c++((l.map jq).flatten++r))=(c.f0,c.f1,c.f2,c.f3,c.f4,(l.map jq).flatten++r,true):=vR hc _
  rw [List.map_cons,List.flatten_cons,List.append_assoc,List.length_cons]
  unfold mV
  rw [e,if_pos rfl,sQ l r _ (fun x hx=>h x (List.mem_cons_of_mem _ hx))]
  simp [r9]
theorem yF {l:List Cell} (h:gV l) (hl:l.length≤450):j3 (iB l)=(l,true):=by
 have hn:(num (l.length:Int)).length=4:=iz (by omega) (by omega)
 have hc:=ul (n:=(l.length:Int)) (by omega) (by omega) ((l.map jq).flatten)
 unfold jb at hc
 have h4:¬ (num (l.length:Int)++(l.map jq).flatten).length<4:=by rw [List.length_append];omega
 rw [if_neg h4] at hc
 simp only [Prod.mk.injEq,and_true] at hc
 unfold j3 iB
 rw [if_neg h4,hc.1,hc.2,Int.toNat_natCast]
 have:=sQ l [] [] h
 rw [List.append_nil] at this
 rw [this]
 simp
theorem AZ {l:List Cell} (h:kf l) (h0:l.length≠0) (hl:l.length≤450) (hb:(iB l).length≤60154) (r:List Int):AF (frame (iB l)++r)=(l,r,0):=by
 have hc:=Ao (r:=iB l) (by omega) r
 unfold AF
 rw [hc]
 have hs:=kJ.2 h
 simp only [yF h.1 hl]
 rw [if_pos ⟨trivial,trivial,h0,hs⟩]
theorem wQ (n:Nat):∀ (b:List Int) (out:List Cell),(mV n b out).1.length≤out.length+n
 :=by
 induction n with
 | zero=>intro b out;unfold mV;simp
 | succ n ih=>
  intro b out
  unfold mV
  split
  ·
   have:=ih (iJ b).2.2.2.2.2.1 (out++[r9 (iJ b)])
   rw [List.length_append,List.length_singleton] at this
   omega
  ·
   simp only [List.length_append,List.length_singleton];omega
theorem vQ {b:List Int} (hb:Bytes b):(j3 b).1.length≤4294967295:=by
 unfold j3
 by_cases h:b.length<4
 ·
  rw [if_pos h];simp
 ·
  rw [if_neg h]
  obtain ⟨g0,g1⟩:=iZ hb (by omega)
  have:=wQ (dX b).toNat (b.drop 4) []
  simp only [List.length_nil] at this
  omega
theorem u_ {b:List Int} (hb:Bytes b):Bytes (ke b).1∧(ke b).1.length≤b.length∧(ke b).2.1.length≤b.length:=by
 unfold ke
 split
 ·
  refine ⟨(hb.drop 12).take _,?_,?_⟩
  ·
   simp only [List.length_take,List.length_drop];omega
  ·
   simp only [List.length_drop];omega
 ·
  exact ⟨Bytes.nil,by simp,by simp⟩
theorem wO {b:List Int} (hb:Bytes b) (hl:b.length≤140737488355328):Ev (fun k=>dM.f k b) (AF b):=by
 obtain ⟨hrb,hrl,hsl⟩:=u_ hb
 have hcl:=vQ hrb
 have jt:∀ (x:List Int) (l:List Cell),Ev (fun k=>dM.j0 k x l true) ([],[],2):=fun x l=>Ev.step (f:=fun _=>some ([],[],2)) (fun k=>by simp only [dM.j0,if_true]) (Ev.now _)
 have jf:∀ (x:List Int) (l:List Cell),x.length≤140737488355328→Ev (fun k=>dM.j0 k x l false) (l,x,0):=fun x l h=>by
  refine Ev.step (f:=fun _=>some (l,x,0)) (fun k=>?_) (Ev.now _)
  simp only [dM.j0,Bool.false_eq_true,if_false]
  unfold dI.f
  rw [if_pos (by omega)]
  rfl
 unfold dM.f AF
 refine Ev.bind (yc hb hl) ?_
 cases hc:(ke b).2.2 with
 | false=>
  rw [if_neg (by simp)]
  exact Ev.neg Bool.false_ne_true (Ev.now _)
 | true=>
  refine Ev.pos rfl (Ev.bind (Cw hrb (by omega)) ?_)
  cases h2:(j3 (ke b).1).2 with
  | false=>
   rw [if_neg (by simp)]
   exact Ev.neg Bool.false_ne_true (jt _ _)
  | true=>
   refine Ev.pos rfl ?_
   by_cases h0:(j3 (ke b).1).1.length=0
   ·
    rw [if_neg (by simp [h0])]
    exact Ev.pos (by omega) (jt _ _)
   ·
    refine Ev.neg (by omega) ?_
    refine Ev.bind (lO (by omega)) ?_
    cases hs:jk (j3 (ke b).1).1 with
    | false=>
     rw [if_neg (by simp)]
     exact jt _ _
    | true=>
     rw [if_pos ⟨rfl,rfl,h0,rfl⟩]
     exact jf _ _ (by omega)
def pL (b:List Int):Int:=(b.length:Int) - 4 - dX (b.drop (b.length - 4))
theorem Ct {b:List Int} (hb:Bytes b) (hl:b.length≤100000000) (h4:4≤b.length):Ev (fun k=>br.f k (b.drop (b.length - 4))) (dX (b.drop (b.length - 4)),(b.drop (b.length - 4)).drop 4,true):=by
 have hd:(b.drop (b.length - 4)).length=4:=by rw [List.length_drop];omega
 have hc:=j8 (b:=b.drop (b.length - 4)) (fun x hx=>hb x (List.mem_of_mem_drop hx)) (by omega)
 unfold jb at hc
 rwa [if_neg (by omega)] at hc
theorem ER {b:List Int} (hb:Bytes b) (hl:b.length≤100000000) (h4:4≤b.length):wrap64 (wrap64 ((b.length:Int) - 4) - dX (b.drop (b.length - 4)))=pL b:=by
 have hd:(b.drop (b.length - 4)).length=4:=by rw [List.length_drop];omega
 obtain ⟨v0,v1⟩:=iZ (b:=b.drop (b.length - 4)) (fun x hx=>hb x (List.mem_of_mem_drop hx)) (by omega)
 unfold pL
 generalize dX (b.drop (b.length - 4))=v at v0 v1 ⊢
 rw [fU (x:=(b.length:Int) - 4) (by omega) (by omega)]
 exact fU (by omega) (by omega)
theorem D2 {b:List Int} (hb:Bytes b) (h4:4≤b.length):pL b≤(b.length:Int) - 4:=by
 have hd:(b.drop (b.length - 4)).length=4:=by rw [List.length_drop];omega
 obtain ⟨v0,v1⟩:=iZ (b:=b.drop (b.length - 4)) (fun x hx=>hb x (List.mem_of_mem_drop hx)) (by omega)
 unfold pL
 omega
theorem BP {b:List Int} {l:List Cell} {bs:List (List Cell)} {o:Option (List Cell × List (List Cell) × List Int)} (hb:Bytes b) (hl:b.length≤100000000) (h4:4≤b.length) (he:0≤pL b) (hs:Ev (fun k=>aI.lp k (b.take (pL b).toNat) [] []) (some (l,bs))) (ht:Ev (fun k=>aI.tail k b l bs) o):Ev (fun k=>aI.f k b) o:=by
 have hw:=ER hb hl h4
 have hn:¬ (b.length:Int)<4:=by omega
 have hle:=D2 hb h4
 have h1:¬ pL b<0:=by omega
 have h2:pL b≤(b.length:Int):=by omega
 unfold aI.f
 refine Ev.neg hn (Ev.bind (Ct hb hl h4) ?_)
 simp only [hw]
 exact Ev.neg h1 (Ev.pos h2 (Ev.bind hs ht))
theorem sA {l:List Cell} (hl:l.length≤100000):Ev (fun k=>aQ.f k l) (jk l):=lO (by omega)
theorem DQ {b:List Int} {l:List Cell} {bs:List (List Cell)} (hr:gV l) (hl:l.length≤900) (hok:∀ b ∈ bs,jj b) (hbl:bs.length≤421) :
  Ev (fun k=>aI.tail k b l bs) (if jk l=true∧rF bs=true∧iD bs (eP l)=b then some (l,bs,eP l) else none):=by
 unfold aI.tail
 have hfl:=lM l
 have hfs:(eP l).length≤1000:=by omega
 have hb1:=wG (fl:=eP l) hok hbl hfs
 have htl:(iD bs (eP l)).length≤140737488355328:=by
  have h1:=si bs hok
  have h2:=sW hok hbl hfs
  have h3:=jz (r:=i_ bs (eP l)) (by omega)
  have h4:=fC (frame (i_ bs (eP l))).length
  unfold iD
  simp only [List.length_append]
  omega
 refine Ev.bind (pE hr (by omega)) (Ev.bind (sA (by omega)) ?_)
 cases h1:jk l with
 | false=>
  rw [if_neg (fun h=>Bool.false_ne_true h.1)]
  exact Ev.neg Bool.false_ne_true (Ev.now _)
 | true=>
  refine Ev.pos rfl (Ev.bind (Am (by omega) hok) ?_)
  cases h2:rF bs with
  | false=>
   rw [if_neg (fun h=>Bool.false_ne_true h.2.1)]
   exact Ev.neg Bool.false_ne_true (Ev.now _)
  | true=>
   refine Ev.pos rfl (Ev.bind hb1 (Ev.pos rfl (Ev.bind (wT htl) ?_)))
   by_cases h3:iD bs (eP l)=b
   ·
    exact (Ev.pos (decide_eq_true h3) (Ev.now _)).to (if_pos ⟨rfl,rfl,h3⟩).symm
   ·
    exact (Ev.neg (fun h=>h3 (of_decide_eq_true h)) (Ev.now _)).to (if_neg (fun h=>h3 h.2.2)).symm
theorem vJ {r:Option (List Cell × List (List Cell))} {x:List Int} (hx:Bytes x):∀ (bs:List (List Cell)) (l0:List Cell) (bs0:List (List Cell)),(∀ b ∈ bs,jj b)→(jH bs).length+x.length≤100000000→l0.length+450*bs.length≤100000000→bs0.length+bs.length≤100000000→
  Ev (fun k=>aI.lp k x (l0++bs.flatten) (bs0++bs)) r→Ev (fun k=>aI.lp k (jH bs++x) l0 bs0) r
 | [],l0,bs0,_,_,_,_,hk=>by
  rw [List.flatten_nil,List.append_nil,List.append_nil] at hk
  exact hk
 | b :: bs,l0,bs0,hok,hl,h1,h2,hk=>by
  have hB:=hok b List.mem_cons_self
  have hfr:=jz (r:=iB b) (by have:=za hB;omega)
  have hb0:b.length≠0:=fun he=>hB.2.1 (List.eq_nil_of_length_eq_zero he)
  have hbb:=hB.2.2.1
  rw [nQ,List.length_append] at hl
  simp only [List.length_cons] at h1 h2
  have ih:=vJ hx bs (l0++b) (bs0++[b]) (fun x hx=>hok x (List.mem_cons_of_mem _ hx)) (by omega) (by rw [List.length_append];omega) (by simp only [List.length_append,List.length_cons,List.length_nil];omega) (by
   rw [List.flatten_cons] at hk
   simp only [List.append_assoc,List.singleton_append]
   exact hk)
  rw [nQ,List.append_assoc]
  have hg:=wO (b:=frame (iB b)++(jH bs++x)) ((pI (sN b)).append ((qJ bs).append hx)) (by simp only [List.length_append];omega)
  rw [AZ hB.1 hb0 hbb hB.2.2.2] at hg
  have hne:¬ ((frame (iB b)++(jH bs++x)).length:Int)=0:=by rw [List.length_append];omega
  have hlim:(l0.length+b.length)*64≤140737488355328∧(bs0.length+1)*24≤140737488355328:=by omega
  refine Ev.step (fun k=>by simp only [aI.lp];rfl) ?_
  exact Ev.neg hne (Ev.bind hg (Ev.pos rfl (Ev.pos hlim ih)))
theorem D6 (l:List Cell) (bs:List (List Cell)):Ev (fun k=>aI.lp k [] l bs) (some (l,bs)):=by
 refine Ev.step (f:=fun _=>some (some (l,bs))) (fun k=>?_) (Ev.now _)
 simp only [aI.lp,List.length_nil]
 rfl
theorem vH {bs:List (List Cell)} {fl:List Int} (hok:∀ b ∈ bs,jj b) (hbl:bs.length≤421) (hf:fl.length≤1000):(frame (i_ bs fl)).length≤63812∧(num (frame (i_ bs fl)).length).length=4:=by
 have h2:=sW hok hbl hf
 have h3:=jz (r:=i_ bs fl) (by omega)
 exact ⟨by omega,iz (by omega) (by omega)⟩
theorem ru {bs:List (List Cell)} {fl:List Int} (hok:∀ b ∈ bs,jj b) (hbl:bs.length≤421) (hf:fl.length≤1000):(iD bs fl).length=(jH bs).length+(frame (i_ bs fl)).length+4∧(iD bs fl).length≤100000000:=by
 obtain ⟨h1,h2⟩:=vH hok hbl hf
 have h3:=si bs hok
 unfold iD
 simp only [List.length_append]
 omega
theorem Ak {bs:List (List Cell)} {fl:List Int} (hok:∀ b ∈ bs,jj b) (hbl:bs.length≤421) (hf:fl.length≤1000):pL (iD bs fl)=((jH bs).length:Int):=by
 obtain ⟨h1,h2⟩:=vH hok hbl hf
 obtain ⟨h3,h4⟩:=ru hok hbl hf
 have hd:(iD bs fl).drop ((iD bs fl).length - 4)=num (frame (i_ bs fl)).length:=by
  rw [h3]
  unfold iD
  rw [←List.append_assoc,show (jH bs).length+(frame (i_ bs fl)).length+4 - 4=(jH bs++frame (i_ bs fl)).length by rw [List.length_append];omega,List.drop_left]
 unfold pL
 rw [hd,h3,show num ((frame (i_ bs fl)).length:Int)=num ((frame (i_ bs fl)).length:Int)++[] by rw [List.append_nil],jU (by omega) (by omega)]
 omega
theorem Ar {bs:List (List Cell)} (hok:∀ b ∈ bs,jj b) (hbl:bs.length≤421) (hs:kf bs.flatten) (hl:bs.flatten.length≤900) (hc:rF bs=true) :
  Ev (fun k=>aI.f k (iD bs (eP bs.flatten))) (some (bs.flatten,bs,eP bs.flatten)):=by
 have hfl:=lM bs.flatten
 have hfs:(eP bs.flatten).length≤1000:=by omega
 obtain ⟨h3,h4⟩:=ru hok hbl hfs
 have he:=Ak hok hbl hfs
 have hby:=wC bs (eP bs.flatten)
 refine BP hby h4 (by omega) (by rw [he];omega) ?_ ((DQ hs.1 hl hok hbl).to (if_pos ⟨kJ.2 hs,hc,rfl⟩))
 rw [he,Int.toNat_natCast,show (iD bs (eP bs.flatten)).take (jH bs).length=jH bs from by unfold iD;rw [List.take_left]]
 have:=vJ (r:=some (bs.flatten,bs)) Bytes.nil bs [] [] hok (by simp only [List.length_nil];omega) (by simp only [List.length_nil];omega) (by simp only [List.length_nil];omega) (D6 _ _)
 rwa [List.append_nil] at this
theorem Bs {W:Nat} {l:List Cell} (hs:kf l) (hl:l.length≤420) (hw:∀ c ∈ l,(jq c).length≤W) (hW:W*l.length≤60150) {size:Nat} (h0:0<size) (h1:size≤4294967296):Ev (fun k=>aI.f k (iD (iE size l [] 0) (eP l))) (some (l,iE size l [] 0,eP l)):=by
 have hfl:(iE size l [] 0).flatten=l:=by rw [oU,List.nil_append]
 have hg:=mS size l [] 0
 have hok:=tH hs hl hw hW h0
 have hc:rF (iE size l [] 0)=true:=(CT (fun b hb=>(hok b hb).2.1)).2 ⟨(size:Int),by omega,by omega,D5 h0 l⟩
 have:=Ar hok (by omega) (by rw [hfl];exact hs) (by rw [hfl];omega) hc
 rwa [hfl] at this
theorem oP:∀ {r r':List Cell},fj r→fj r'→(∀ c,c ∈ r↔c ∈ r')→r=r'
 | [],[],_,_,_=>rfl
 | [],b :: r',_,_,h=>by have:=(h b).2 List.mem_cons_self;cases this
 | a :: r,[],_,_,h=>by have:=(h a).1 List.mem_cons_self;cases this
 | a :: r,b :: r',h1,h2,h=>by
  obtain ⟨ha,h1'⟩:=List.pairwise_cons.1 h1
  obtain ⟨hb,h2'⟩:=List.pairwise_cons.1 h2
  have e:a=b:=by
   rcases List.mem_cons.1 ((h a).1 List.mem_cons_self) with e | h3
   ·
    exact e
   ·
    rcases List.mem_cons.1 ((h b).2 List.mem_cons_self) with e | h4
    ·
     exact e.symm
    ·
     have:=ha b h4
     have:=hb a h3
     have:=nU a b
     omega
  subst e
  rw [oP h1' h2' (fun c=>?_)]
  constructor
  ·
   intro hc
   rcases List.mem_cons.1 ((h c).1 (List.mem_cons_of_mem _ hc)) with rfl | h3
   ·
    have:=ha c hc
    have:=oL c
    omega
   ·
    exact h3
  ·
   intro hc
   rcases List.mem_cons.1 ((h c).2 (List.mem_cons_of_mem _ hc)) with rfl | h3
   ·
    have:=hb c hc
    have:=oL c
    omega
   ·
    exact h3
theorem yY {l:List Cell} (h:fj l) {a b:Cell} (ha:a ∈ l) (hb:b ∈ l) (he:cc a b=0):a=b:=by
 obtain ⟨i,hi,rfl⟩:=List.getElem_of_mem ha
 obtain ⟨j,hj,rfl⟩:=List.getElem_of_mem hb
 rcases Nat.lt_trichotomy i j with hlt | rfl | hlt
 ·
  have:=List.pairwise_iff_getElem.1 h i j hi hj hlt
  omega
 ·
  rfl
 ·
  have:=List.pairwise_iff_getElem.1 h j i hj hi hlt
  have:=nU l[j] l[i]
  omega
theorem iO:∀ (l:List Cell) {o:List Cell},fj o→fj (l.foldl (fun o c=>ins c o) o)
 | [],_,h=>h
 | c :: l,_,h=>iO l (nC h)
theorem pJ {a c:Cell} {o:List Cell} (h:fj o):c ∈ ins a o↔c=a∨(c ∈ o∧cc a c≠0):=by
 constructor
 ·
  intro hc
  by_cases e:c=a
  ·
   exact .inl e
  ·
   rcases ny hc with e' | ho
   ·
    exact absurd e' e
   ·
    exact .inr ⟨ho,fun h0=>e (yY (nC (c:=a) h) (oK a o) hc h0).symm⟩
 ·
  rintro (rfl | ⟨ho,h0⟩)
  ·
   exact oK c o
  ·
   exact qR (fun h=>h0 (Cb h)) ho
theorem iR:∀ {l o:List Cell} {c:Cell},fj l→fj o→(c ∈ l.foldl (fun o c=>ins c o) o↔c ∈ l∨(c ∈ o∧∀ d ∈ l,cc d c≠0))
 | [],_,_,_,_=>by simp
 | a :: l,o,c,h,ho=>by
  obtain ⟨h1,h2⟩:=List.pairwise_cons.1 h
  rw [List.foldl_cons,iR h2 (nC ho),pJ ho]
  constructor
  ·
   rintro (hc | ⟨rfl | ⟨hc,h0⟩,h3⟩)
   ·
    exact .inl (List.mem_cons_of_mem _ hc)
   ·
    exact .inl List.mem_cons_self
   ·
    refine .inr ⟨hc,fun d hd=>?_⟩
    rcases List.mem_cons.1 hd with rfl | hd
    ·
     exact h0
    ·
     exact h3 d hd
  ·
   rintro (hc | ⟨hc,h3⟩)
   ·
    rcases List.mem_cons.1 hc with rfl | hc
    ·
     refine .inr ⟨.inl rfl,fun d hd=>?_⟩
     have:=h1 d hd
     have:=nU c d
     omega
    ·
     exact .inl hc
   ·
    exact .inr ⟨.inr ⟨hc,h3 a List.mem_cons_self⟩,fun d hd=>h3 d (List.mem_cons_of_mem _ hd)⟩
def w8 (c:Cell):Int:=(jC c.f0 c.f1 c.f2 c.f3 c.f4).length
def fV (l:List Cell):Int:=(l.map w8).sum
theorem qP {c:Cell} (h:fS c=true):gR.f c.f0 c.f1 c.f2 c.f3 c.f4=some (w8 c):=by
 obtain ⟨_,h1,_,h2,_,_,h3,_⟩:=g_.1 h
 unfold gR.f
 rw [nK c.f2 c.f4 (by omega) (by omega) (by omega)]
 rfl
theorem zX {c:Cell} (h:fS c=true):0≤w8 c∧w8 c≤401:=by
 obtain ⟨_,h1,_,h2,_,_,h3,_⟩:=g_.1 h
 have:=kT c.f0 c.f1 c.f2 c.f3 c.f4
 unfold w8
 omega
theorem kg (l m:List Cell):fV (l++m)=fV l+fV m:=by simp [fV]
theorem mO (c:Cell) (l:List Cell):fV (c :: l)=w8 c+fV l:=by simp [fV]
theorem wY:∀ {l:List Cell},gV l→0≤fV l∧fV l≤401*l.length
 | [],_=>by simp [fV]
 | c :: l,h=>by
  have h1:=zX (h c List.mem_cons_self)
  have h2:=wY (l:=l) (fun x hx=>h x (List.mem_cons_of_mem _ hx))
  rw [mO]
  simp only [List.length_cons]
  omega
theorem sC (t:Cell):∀ (l:List Cell) (j:Nat),j<dV t l→∀ hl:j<l.length,cc l[j] t = -1
 | [],j,h,_=>by simp [dV] at h
 | x :: l,j,h,hl=>by
  unfold dV at h
  split at h
  ·
   rename_i hx
   cases j with
   | zero=>exact hx
   | succ j=>exact sC t l j (by omega) (by simpa using hl)
  ·
   omega
theorem zK (t:Cell):∀ (l:List Cell) (h:dV t l<l.length),¬ cc l[dV t l] t = -1
 | [],h=>by simp at h
 | x :: l,h=>by
  by_cases hx:cc x t = -1
  ·
   have e:dV t (x :: l)=dV t l+1:=by simp [dV,hx]
   simp only [e,List.getElem_cons_succ]
   exact zK t l (by rw [e] at h;simpa using h)
  ·
   have e:dV t (x :: l)=0:=by simp [dV,hx]
   simp only [e,List.getElem_cons_zero]
   exact hx
theorem DT (c:Cell) (l:List Cell):ins c l=l.take (dV c l)++c :: l.drop (if h:dV c l<l.length then (if cc l[dV c l] c=0 then dV c l+1 else dV c l) else dV c l):=
 rV c l (dV c l) (qg c l) (sC c l) (zK c l)
theorem AR {xs:List Cell} {n:Int} (c:Cell) (ho:kf xs) (hn:n=fV xs) (hl:xs.length≤2199023255500) :
  Ev (fun k=>gY.f k xs n c.f0 c.f1 c.f2 c.f3 c.f4) (if fS c=true then (ins c xs,fV (ins c xs),true) else (xs,n,false)):=by
 unfold gY.f
 rw [l9]
 cases hr:fS c with
 | false=>
  rw [if_neg Bool.false_ne_true]
  unfold fS at hr
  simp only [hr,Option.bind_some]
  exact Ev.neg Bool.false_ne_true (Ev.now _)
 | true=>
  have hr':=hr
  unfold fS at hr'
  rw [if_pos rfl]
  simp only [hr',Option.bind_some]
  refine Ev.pos (by first | trivial | rfl) (Ev.bind (uV c ho.2 (by omega)) ?_)
  have hp:=DT c xs
  have hpl:=qg c xs
  have hs:=wY ho.1
  have hc:=zX hr
  by_cases hlt:dV c xs<xs.length
  ·
   rw [dif_pos hlt] at hp ⊢
   by_cases h0:cc xs[dV c xs] c=0
   ·
    rw [if_pos h0] at hp
    refine Ev.pos (by simpa using h0) (Ev.pos ⟨by omega,by simpa using hlt⟩ ?_)
    have hq:=fQ xs _ hlt
    unfold lP at hq
    have hrx:=ho.1 _ (List.getElem_mem hlt)
    simp only [hq,qP hrx,qP hr,Option.bind_some,Int.toNat_natCast]
    have hx:=zX hrx
    have e1:fV xs=fV (xs.take (dV c xs))+(w8 xs[dV c xs]+fV (xs.drop (dV c xs+1))):=by
     conv=>lhs;rw [←List.take_append_drop (dV c xs) xs,List.drop_eq_getElem_cons hlt]
     rw [kg,mO]
    have e2:xs.set (dV c xs) c=ins c xs:=by rw [hp,List.set_eq_take_append_cons_drop,if_pos hlt]
    have e3:wrap64 (wrap64 (n - w8 xs[dV c xs])+w8 c)=fV (ins c xs):=by
     rw [hp,kg,mO,fU (x:=n - w8 xs[dV c xs]) (by omega) (by omega),fU (by omega) (by omega)]
     omega
    have e4:(⟨c.f0,c.f1,c.f2,c.f3,c.f4⟩:Cell)=c:=rfl
    rw [e4,e2,e3]
    exact Ev.now _
   ·
    rw [if_neg h0] at hp
    refine Ev.neg (by simpa using h0) (Ev.pos ⟨by omega,by simpa using hpl,by omega⟩ ?_)
    simp only [qP hr,Option.bind_some,Int.toNat_natCast]
    have e3:wrap64 (n+w8 c)=fV (ins c xs):=by
     have e1:fV xs=fV (xs.take (dV c xs))+fV (xs.drop (dV c xs)):=by rw [←kg,List.take_append_drop]
     rw [hp,kg,mO,fU (by omega) (by omega)]
     omega
    have e4:(⟨c.f0,c.f1,c.f2,c.f3,c.f4⟩:Cell)=c:=rfl
    rw [e4,← hp,e3]
    exact Ev.now _
  ·
   rw [dif_neg hlt] at hp ⊢
   refine Ev.neg Bool.false_ne_true (Ev.pos ⟨by omega,by simpa using hpl,by omega⟩ ?_)
   simp only [qP hr,Option.bind_some,Int.toNat_natCast]
   have e3:wrap64 (n+w8 c)=fV (ins c xs):=by
    have e1:fV xs=fV (xs.take (dV c xs))+fV (xs.drop (dV c xs)):=by rw [←kg,List.take_append_drop]
    rw [hp,kg,mO,fU (by omega) (by omega)]
    omega
   have e4:(⟨c.f0,c.f1,c.f2,c.f3,c.f4⟩:Cell)=c:=rfl
   rw [e4,← hp,e3]
   exact Ev.now _
abbrev Src:=d_
abbrev zS:Src:=iV
def hd (s:Src):Cell:=lP s.f0 0
def tT (a b:Src):Bool:=decide (cc (hd a) (hd b) = -1) || (decide (cc (hd a) (hd b)=0) && decide (a.f1<b.f1))
def oq (a b:Src):Prop:=tT b a=false
theorem kO {a b:Src}:oq a b↔cc (hd a) (hd b) = -1∨(cc (hd a) (hd b)=0∧a.f1≤b.f1):=by
 have h1:=su (hd a) (hd b)
 have h2:=nU (hd a) (hd b)
 unfold oq tT
 simp only [Bool.or_eq_false_iff,Bool.and_eq_false_iff,decide_eq_false_iff_not]
 omega
theorem zj {a b:Src}:tT a b=true↔cc (hd a) (hd b) = -1∨(cc (hd a) (hd b)=0∧a.f1<b.f1):=by
 unfold tT
 simp only [Bool.or_eq_true,Bool.and_eq_true,decide_eq_true_iff]
theorem qL (a:Src):oq a a:=kO.2 (.inr ⟨oL _,Int.le_refl _⟩)
theorem pq {a b:Src} (h:tT a b=true):oq a b:=kO.2 ((zj.1 h).imp id (fun h=>⟨h.1,Int.le_of_lt h.2⟩))
theorem pG {a b c:Src} (h:oq a b) (h':oq b c):oq a c:=by
 rcases kO.1 h with h1 | ⟨h1,h2⟩<;>rcases kO.1 h' with h3 | ⟨h3,h4⟩
 ·
  exact kO.2 (.inl (jx h1 h3))
 ·
  exact kO.2 (.inl (by rw [←sU h3];exact h1))
 ·
  exact kO.2 (.inl (by rw [lE h1];exact h3))
 ·
  exact kO.2 (.inr ⟨by rw [lE h1];exact h3,by omega⟩)
theorem Br (a b:Int):Ev (fun k=>cB.f k [a,b]) (if a=0 then b else a):=by
 unfold cB.f
 have hl:(([a,b]:List Int).length:Int)=2:=rfl
 rw [hl]
 by_cases ha:a=0
 ·
  rw [if_pos ha]
  refine Ev.step (f:=fun k=>cB.l0 k 0 [a,b] 2 1) (fun k=>?_) ?_
  ·
   simp only [cB.l0,hl]
   rw [if_pos (by omega),if_pos (by omega),if_pos (by omega),show rd [a,b] 0=a from rfl,if_pos ha,fU (by omega) (by omega)]
   rfl
  by_cases hb:b=0
  ·
   refine Ev.step (f:=fun k=>cB.l0 k 0 [a,b] 2 2) (fun k=>?_) ?_
   ·
    simp only [cB.l0,hl]
    rw [if_pos (by omega),if_pos (by omega),if_pos (by omega),show rd [a,b] 1=b from rfl,if_pos hb,fU (by omega) (by omega)]
    rfl
   refine Ev.step (f:=fun _=>some 0) (fun k=>?_) ((Ev.now 0).to hb.symm)
   simp only [cB.l0]
   rw [if_neg (by omega)]
  ·
   refine Ev.step (f:=fun _=>some b) (fun k=>?_) (Ev.now _)
   simp only [cB.l0,hl]
   rw [if_pos (by omega),if_pos (by omega),if_pos (by omega),show rd [a,b] 1=b from rfl,if_neg hb]
 ·
  rw [if_neg ha]
  refine Ev.step (f:=fun _=>some a) (fun k=>?_) (Ev.now _)
  simp only [cB.l0,hl]
  rw [if_pos (by omega),if_pos (by omega),if_pos (by omega),show rd [a,b] 0=a from rfl,if_neg ha]
abbrev gQ (xs:List Src) (i:Nat):Src:=xs.getD i zS
theorem uL {xs:List Src} {i j:Nat} (hi:i<xs.length) (hj:j<xs.length) (h0:0<(gQ xs i).f0.length) (h1:0<(gQ xs j).f0.length):Ev (fun k=>bK.f k xs (i:Int) (j:Int)) (tT (gQ xs i) (gQ xs j)):=by
 have hc:=su (hd (gQ xs i)) (hd (gQ xs j))
 unfold bK.f
 have ei:bZ xs (i:Int)=gQ xs i:=by show xs.getD (i:Int).toNat _=_;rw [Int.toNat_natCast]
 have ej:bZ xs (j:Int)=gQ xs j:=by show xs.getD (j:Int).toNat _=_;rw [Int.toNat_natCast]
 rw [ei,ej]
 refine Ev.pos (by omega) (Ev.pos (by omega) (Ev.pos (by omega) (Ev.pos (by omega) (Ev.pos (by omega) (Ev.pos (by omega) ?_)))))
 refine Ev.bind (pu _ _ _ _ _ _ _ _ _ _) ?_
 rw [vw]
 refine Ev.congr (fun k=>Option.bind_some _ _) (Ev.bind (Br _ _) (Ev.eq ?_))
 congr 1
 rw [Bool.eq_iff_iff,decide_eq_true_iff,zj]
 show (if cc (hd (gQ xs i)) (hd (gQ xs j))=0 then kP (gQ xs i).f1 (gQ xs j).f1 else cc (hd (gQ xs i)) (hd (gQ xs j)))<0↔_
 have hn:=zA (gQ xs i).f1 (gQ xs j).f1
 have hn2:=oH (a:=(gQ xs i).f1) (b:=(gQ xs j).f1)
 split<;>omega
theorem qK {xs:List Src} {i j:Nat} (hi:i<xs.length) (hj:j<xs.length):(iT xs i j).Perm xs:=by
 unfold iT
 have e1:xs.getD j zS=xs[j]:=by rw [List.getD_eq_getElem?_getD,List.getElem?_eq_getElem hj];rfl
 have e2:xs.getD i zS=xs[i]:=by rw [List.getD_eq_getElem?_getD,List.getElem?_eq_getElem hi];rfl
 rw [e1,e2]
 exact List.set_set_perm hi hj
theorem xK {xs:List Src} {i:Nat} (hi:i<xs.length) (v:Src) (m:Nat):gQ (xs.set i v) m=if m=i then v else gQ xs m:=by
 unfold gQ
 rw [List.getD_eq_getElem?_getD,List.getD_eq_getElem?_getD]
 by_cases h:m=i
 ·
  subst h
  rw [List.getElem?_set_self hi,if_pos rfl]
  rfl
 ·
  rw [List.getElem?_set_ne (fun e=>h e.symm),if_neg h]
theorem rM {xs:List Src} {i j:Nat} (hi:i<xs.length) (hj:j<xs.length) (m:Nat):gQ (iT xs i j) m=if m=j then gQ xs i else if m=i then gQ xs j else gQ xs m:=by
 unfold iT
 rw [xK (by rw [List.length_set];exact hj),xK hi]
def ox (n:Nat) (xs:List Src):Prop:=∀ m,0<m→m<n→oq (gQ xs ((m - 1) / 2)) (gQ xs m)
theorem Cq {n:Nat} {xs:List Src} (h:ox n xs):∀ m,m<n→oq (gQ xs 0) (gQ xs m):=by
 intro m
 induction m using Nat.strongRecOn with
 | _ m ih=>
  intro hm
  by_cases h0:m=0
  ·
   subst h0
   exact qL _
  ·
   exact pG (ih ((m - 1) / 2) (by omega) (by omega)) (h m (by omega) hm)
def Dg (n i:Nat) (xs:List Src):Prop:=(∀ m,0<m→m<n→(m - 1) / 2≠i→oq (gQ xs ((m - 1) / 2)) (gQ xs m))∧(0<i→∀ m,0<m→m<n→(m - 1) / 2=i→oq (gQ xs ((i - 1) / 2)) (gQ xs m))
def tQ {α:Type} (f:Nat→Nat→Option α) (r:α):Prop:=∃ k0,∀ k m,k0≤k→k0≤m→f k m=some r
theorem zk (n:Nat) (d:Nat):∀ (xs:List Src) (i:Nat),n - i≤d→Dg n i xs→n≤xs.length→(∀ m,m<n→0<(gQ xs m).f0.length)→∃ r q,tQ (fun k m=>iG k n m xs i) (r,q)∧r.Perm xs∧ox n r∧∀ m,n≤m→gQ r m=gQ xs m:=by
 induction d with
 | zero=>
  intro xs i hd hP hn hne
  refine ⟨xs,i,⟨1,fun k m _ hm=>?_⟩,List.Perm.refl _,fun m h0 hm=>hP.1 m h0 hm (by omega),fun _ _=>rfl⟩
  obtain ⟨m,rfl⟩:∃ m',m=m'+1:=⟨m - 1,by omega⟩
  show iG k n (m+1) _ _=_
  rw [iG,if_pos (by omega)]
 | succ d ih=>
  intro xs i hd hP hn hne
  by_cases hj1:n≤2*i+1
  ·
   refine ⟨xs,i,⟨1,fun k m _ hm=>?_⟩,List.Perm.refl _,fun m h0 hm=>hP.1 m h0 hm (by omega),fun _ _=>rfl⟩
   obtain ⟨m,rfl⟩:∃ m',m=m'+1:=⟨m - 1,by omega⟩
   show iG k n (m+1) _ _=_
   rw [iG,if_pos hj1]
  ·
   have hb:∃ b:Bool,Ev (fun k=>if 2*i+2<n then bK.f k xs ((2*i+2:Nat):Int) ((2*i+1:Nat):Int) else some false) b∧∀ m,0<m→m<n→(m - 1) / 2=i→oq (gQ xs (if b=true then 2*i+2 else 2*i+1)) (gQ xs m)∧(if b=true then 2*i+2 else 2*i+1)<n:=by
    by_cases h2:2*i+2<n
    ·
     refine ⟨_,Ev.pos h2 (uL (by omega) (by omega) (hne _ h2) (hne _ (by omega))),fun m h0 hm hp=>?_⟩
     have hm2:m=2*i+1∨m=2*i+2:=by omega
     cases hb:tT (gQ xs (2*i+2)) (gQ xs (2*i+1)) with
     | true=>
      rw [if_pos rfl]
      rcases hm2 with rfl | rfl
      ·
       exact ⟨pq hb,by omega⟩
      ·
       exact ⟨qL _,by omega⟩
     | false=>
      rw [if_neg Bool.false_ne_true]
      rcases hm2 with rfl | rfl
      ·
       exact ⟨qL _,by omega⟩
      ·
       exact ⟨hb,by omega⟩
    ·
     refine ⟨false,Ev.neg h2 (Ev.now _),fun m h0 hm hp=>?_⟩
     obtain rfl:m=2*i+1:=by omega
     exact ⟨qL _,by simp;omega⟩
   obtain ⟨b,hbe,hbl⟩:=hb
   obtain ⟨j,hj⟩:∃ j,(if b=true then 2*i+2 else 2*i+1)=j:=⟨_,rfl⟩
   have hj3:j=2*i+1∨j=2*i+2:=by rw [←hj];cases b<;>simp
   have hjn:j<n:=by rw [←hj];exact (hbl (2*i+1) (by omega) (by omega) (by omega)).2
   have hjl:∀ m,0<m→m<n→(m - 1) / 2=i→oq (gQ xs j) (gQ xs m):=fun m h0 hm hp=>by rw [←hj];exact (hbl m h0 hm hp).1
   have hce:=uL (xs:=xs) (i:=j) (j:=i) (by omega) (by omega) (hne _ hjn) (hne _ (by omega))
   obtain ⟨k1,hk1⟩:=hbe
   obtain ⟨k2,hk2⟩:=hce
   cases hc:tT (gQ xs j) (gQ xs i) with
   | false=>
    refine ⟨xs,i,⟨k1+k2+1,fun k m hk hm=>?_⟩,List.Perm.refl _,fun m h0 hm=>?_,fun _ _=>rfl⟩
    ·
     obtain ⟨m,rfl⟩:∃ m',m=m'+1:=⟨m - 1,by omega⟩
     have e1:=hk1 k (by omega)
     have e2:=hk2 k (by omega)
     simp only at e1 e2
     show iG k n (m+1) _ _=_
     rw [iG,if_neg hj1,e1,Option.bind_some,hj,e2,Option.bind_some,hc,if_neg Bool.false_ne_true]
    ·
     by_cases hp:(m - 1) / 2=i
     ·
      rw [hp]
      exact pG hc (hjl m h0 hm hp)
     ·
      exact hP.1 m h0 hm hp
   | true=>
    have hil:i<xs.length:=by omega
    have hjx:j<xs.length:=by omega
    have hg:=rM hil hjx
    have hP':Dg n j (iT xs i j):=by
     refine ⟨fun m h0 hm hp=>?_,fun _ m h0 hm hp=>?_⟩
     ·
      rw [hg,hg]
      by_cases hmj:m=j
      ·
       subst hmj
       rw [if_pos rfl,if_neg hp,if_pos (by omega)]
       exact pq hc
      ·
       rw [if_neg hp,if_neg hmj]
       by_cases hpi:(m - 1) / 2=i
       ·
        rw [if_pos hpi,if_neg (by omega)]
        exact hjl m h0 hm hpi
       ·
        rw [if_neg hpi]
        by_cases hmi:m=i
        ·
         subst hmi
         rw [if_pos rfl]
         exact hP.2 h0 j (by omega) hjn (by omega)
        ·
         rw [if_neg hmi]
         exact hP.1 m h0 hm hpi
     ·
      rw [show (j - 1) / 2=i by omega,hg,hg,if_neg (by omega),if_pos rfl,if_neg (by omega),if_neg (by omega)]
      have:=hP.1 m h0 hm (by omega)
      rw [hp] at this
      exact this
    obtain ⟨r,q,⟨k3,hk3⟩,hpm,hh,hf⟩:=ih (iT xs i j) j (by omega) hP' (by rw [fK];exact hn) (fun m hm=>by
     rw [hg]
     split
     ·
      exact hne _ (by omega)
     ·
      split
      ·
       exact hne _ hjn
      ·
       exact hne _ hm)
    refine ⟨r,q,⟨k1+k2+k3+1,fun k m hk hm=>?_⟩,hpm.trans (qK hil hjx),hh,fun m hm=>?_⟩
    ·
     obtain ⟨m,rfl⟩:∃ m',m=m'+1:=⟨m - 1,by omega⟩
     have e1:=hk1 k (by omega)
     have e2:=hk2 k (by omega)
     simp only at e1 e2
     show iG k n (m+1) _ _=_
     rw [iG,if_neg hj1,e1,Option.bind_some,hj,e2,Option.bind_some,hc,if_pos rfl]
     exact hk3 k m (by omega) (by omega)
    ·
     rw [hf m hm,hg,if_neg (by omega),if_neg (by omega)]
def UpP (j:Nat) (xs:List Src):Prop:=(∀ m,0<m→m<xs.length→m≠j→oq (gQ xs ((m - 1) / 2)) (gQ xs m))∧(0<j→∀ m,0<m→m<xs.length→(m - 1) / 2=j→oq (gQ xs ((j - 1) / 2)) (gQ xs m))
theorem EW:∀ (j:Nat) (xs:List Src),j<xs.length→UpP j xs→(∀ m,m<xs.length→0<(gQ xs m).f0.length)→∃ r,tQ (fun k m=>mA k m xs j) r∧r.Perm xs∧ox r.length r:=by
 intro j
 induction j using Nat.strongRecOn with
 | _ j ih=>
  intro xs hjl hP hne
  by_cases h0:j=0
  ·
   subst h0
   refine ⟨xs,⟨1,fun k m _ hm=>?_⟩,List.Perm.refl _,fun m h0 hm=>hP.1 m h0 hm (by omega)⟩
   obtain ⟨m,rfl⟩:∃ m',m=m'+1:=⟨m - 1,by omega⟩
   show mA k (m+1) _ _=_
   rw [mA,if_pos rfl]
  ·
   obtain ⟨i,hi⟩:∃ i,(j - 1) / 2=i:=⟨_,rfl⟩
   have hil:i<xs.length:=by omega
   obtain ⟨k1,hk1⟩:=uL (xs:=xs) (i:=j) (j:=i) hjl hil (hne _ hjl) (hne _ hil)
   cases hc:tT (gQ xs j) (gQ xs i) with
   | false=>
    refine ⟨xs,⟨k1+1,fun k m hk hm=>?_⟩,List.Perm.refl _,fun m h0 hm=>?_⟩
    ·
     obtain ⟨m,rfl⟩:∃ m',m=m'+1:=⟨m - 1,by omega⟩
     have e1:=hk1 k (by omega)
     simp only at e1
     show mA k (m+1) _ _=_
     rw [mA,if_neg h0,hi,e1,Option.bind_some,hc,if_neg Bool.false_ne_true]
    ·
     by_cases hm2:m=j
     ·
      subst hm2
      rw [hi]
      exact hc
     ·
      exact hP.1 m h0 hm hm2
   | true=>
    have hg:=rM hil hjl
    have hP':UpP i (iT xs i j):=by
     refine ⟨fun m h0 hm hp=>?_,fun h0i m h0 hm hp=>?_⟩
     ·
      rw [fK] at hm
      rw [hg,hg]
      by_cases hmj:m=j
      ·
       subst hmj
       rw [if_pos rfl,hi,if_neg (by omega),if_pos rfl]
       exact pq hc
      ·
       rw [if_neg hmj,if_neg hp]
       by_cases hpj:(m - 1) / 2=j
       ·
        rw [if_pos hpj]
        have:=hP.2 (by omega) m h0 hm hpj
        rw [hi] at this
        exact this
       ·
        rw [if_neg hpj]
        by_cases hpi:(m - 1) / 2=i
        ·
         rw [if_pos hpi]
         have:=hP.1 m h0 hm hmj
         rw [hpi] at this
         exact pG (pq hc) this
        ·
         rw [if_neg hpi]
         exact hP.1 m h0 hm hmj
     ·
      rw [fK] at hm
      have h1:=hP.1 i h0i hil (by omega)
      rw [hg,hg,if_neg (by omega),if_neg (by omega)]
      by_cases hmj:m=j
      ·
       rw [if_pos hmj]
       exact h1
      ·
       rw [if_neg hmj,if_neg (by omega)]
       have:=hP.1 m h0 hm hmj
       rw [hp] at this
       exact pG h1 this
    obtain ⟨r,⟨k3,hk3⟩,hpm,hh⟩:=ih i (by omega) (iT xs i j) (by rw [fK];exact hil) hP' (fun m hm=>by
     rw [fK] at hm
     rw [hg]
     split
     ·
      exact hne _ hil
     ·
      split
      ·
       exact hne _ hjl
      ·
       exact hne _ hm)
    refine ⟨r,⟨k1+k3+1,fun k m hk hm=>?_⟩,hpm.trans (qK hil hjl),hh⟩
    obtain ⟨m,rfl⟩:∃ m',m=m'+1:=⟨m - 1,by omega⟩
    have e1:=hk1 k (by omega)
    simp only at e1
    show mA k (m+1) _ _=_
    rw [mA,if_neg h0,hi,e1,Option.bind_some,hc,if_pos rfl]
    exact hk3 k m (by omega) (by omega)
abbrev nD (L:List (List Cell)) (i:Nat):List Cell:=L.getD i []
def CS (L:List (List Cell)) (c:Cell):Prop:=∃ i,i<L.length∧c ∈ nD L i∧∀ j,j<i→∀ d ∈ nD L j,cc d c≠0
structure oN (L:List (List Cell)) (r:List Cell):Prop where
 ord:fj r
 win:∀ c ∈ r,CS L c
 all:∀ i,i<L.length→∀ c ∈ nD L i,∃ d ∈ r,cc d c=0
def gE (L:List (List Cell)):Prop:=∀ i,fj (nD L i)
theorem uo {L:List (List Cell)} {r:List Cell} (hL:gE L) (h:oN L r) (c:Cell):c ∈ r↔CS L c:=by
 refine ⟨h.win c,fun hc=>?_⟩
 obtain ⟨i,hi,hm,hf⟩:=hc
 obtain ⟨d,hd,he⟩:=h.all i hi c hm
 obtain ⟨j,hj,hdm,hdf⟩:=h.win d hd
 have hij:i=j:=by
  rcases Nat.lt_trichotomy i j with hlt | e | hlt
  ·
   exact absurd (Cb he) (hdf i hlt c hm)
  ·
   exact e
  ·
   exact absurd he (hf j hlt d hdm)
 subst hij
 rw [←yY (hL i) hdm hm he]
 exact hd
theorem yB {L:List (List Cell)} {r r':List Cell} (hL:gE L) (h:oN L r) (h':oN L r'):r=r':=
 oP h.ord h'.ord (fun c=>(uo hL h c).trans (uo hL h' c).symm)
structure uT (L:List (List Cell)) (q:List Src) (out:List Cell):Prop where
 heap:ox q.length q
 ne:∀ s ∈ q,0<s.f0.length
 nod:(q.map (fun s:Src=>s.f1)).Nodup
 suf:∀ s ∈ q,∃ i:Nat,s.f1=(i:Int)∧i<L.length∧∃ used,nD L i=used++s.f0∧∀ c ∈ used,∃ d ∈ out,cc d c=0
 done:∀ i,i<L.length→(∀ s ∈ q,s.f1≠(i:Int))→∀ c ∈ nD L i,∃ d ∈ out,cc d c=0
 ord:fj out
 win:∀ c ∈ out,CS L c
 low:∀ d ∈ out,∀ s ∈ q,∀ c ∈ s.f0,cc d c = -1∨cc d c=0
def n9 (q:List Src):Nat:=(q.map (fun s:Src=>s.f0.length)).sum
theorem pF (s:Src) (q:List Src):n9 (s :: q)=s.f0.length+n9 q:=by simp [n9]
theorem vp {q q':List Src} (h:q.Perm q'):n9 q=n9 q':=by
 unfold n9
 exact List.Perm.sum_nat (h.map _)
theorem tj:∀ {q:List Src},(∀ s ∈ q,0<s.f0.length)→q.length≤n9 q
 | [],_=>Nat.zero_le _
 | s :: q,h=>by
  have:=tj (q:=q) (fun s hs=>h s (List.mem_cons_of_mem _ hs))
  have:=h s List.mem_cons_self
  rw [pF,List.length_cons]
  omega
theorem nE {s:Src} (h:0<s.f0.length):s.f0=hd s :: s.f0.drop 1:=by
 obtain ⟨l,n⟩:=s
 cases l with
 | nil=>cases h
 | cons c l=>rfl
theorem rC {q:List Src} {m:Nat} (h:m<q.length):gQ q m ∈ q:=by
 unfold gQ
 rw [List.getD_eq_getElem?_getD,List.getElem?_eq_getElem h]
 exact List.getElem_mem h
theorem Ez {q:List Src} {s:Src} (h:s ∈ q):∃ m,m<q.length∧gQ q m=s:=by
 obtain ⟨m,hm,rfl⟩:=List.getElem_of_mem h
 refine ⟨m,hm,?_⟩
 unfold gQ
 rw [List.getD_eq_getElem?_getD,List.getElem?_eq_getElem hm]
 rfl
theorem DJ {out:List Cell} (h:0<out.length):lP out ((out.length:Int) - 1)=out[out.length - 1]:=by
 rw [show ((out.length:Int) - 1)=((out.length - 1:Nat):Int) by omega]
 exact fQ out _ (by omega)
theorem DI {out:List Cell} (c:Cell):Ev (fun k=>nk k out c) (if h:0<out.length then !(cc out[out.length - 1] c == 0) else true):=by
 unfold nk
 by_cases h:out.length=0
 ·
  rw [dif_neg (by omega)]
  exact Ev.pos h (Ev.now _)
 ·
  rw [dif_pos (by omega)]
  have e:=DJ (out:=out) (by omega)
  unfold lP at e
  rw [e]
  exact Ev.neg h (Ev.bind (mQ _ _) (Ev.now _))
def oA (s:Src) (q:List Src):List Src:=if s.f0.length=1 then q else (⟨s.f0.drop 1,s.f1⟩:Src) :: q
theorem DK {s:Src} {q:List Src} (hh:ox (q.length+1) (s :: q)) (hs:0<s.f0.length) (hne:∀ x ∈ q,0<x.f0.length):∃ q',Ev (fun k=>oQ k s q) q'∧q'.Perm (oA s q)∧ox q'.length q':=by
 have hsame:∀ (x:Src) m,0<m→gQ (x :: q) m=gQ (s :: q) m:=by
  intro x m hm
  obtain ⟨m,rfl⟩:∃ m',m=m'+1:=⟨m - 1,by omega⟩
  rfl
 unfold oQ oA
 by_cases h1:s.f0.length=1
 ·
  rw [if_pos h1]
  have hg:=rM (xs:=(⟨s.f0.drop 1,s.f1⟩:Src) :: q) (i:=0) (j:=q.length) (by simp) (by simp)
  obtain ⟨r,p,⟨k0,hk⟩,hpm,hr,hf⟩:=zk q.length q.length (iT ((⟨s.f0.drop 1,s.f1⟩:Src) :: q) 0 q.length) 0 (by omega) ⟨fun m h0 hm hp=>by
    rw [hg,hg,if_neg (by omega),if_neg hp,if_neg (by omega),if_neg (by omega),hsame _ _ (by omega),hsame _ _ h0]
    exact hh m h0 (by omega),fun h=>absurd h (by omega)⟩ (by rw [fK];simp) (fun m hm=>by
    rw [hg,if_neg (by omega)]
    split
    ·
     rename_i h0
     rw [hsame _ _ (by omega)]
     have:gQ (s :: q) q.length ∈ s :: q:=rC (by simp)
     have h2:gQ (s :: q) q.length=gQ q (q.length - 1):=by
      obtain ⟨n,hn⟩:∃ n,q.length=n+1:=⟨q.length - 1,by omega⟩
      rw [hn]
      rfl
     rw [h2]
     exact hne _ (rC (by omega))
    ·
     rename_i h0
     obtain ⟨m,rfl⟩:∃ m',m=m'+1:=⟨m - 1,by omega⟩
     exact hne _ (rC (by omega)))
  have hrl:r.length=q.length+1:=by rw [hpm.length_eq,fK];rfl
  have hlast:gQ r q.length=(⟨s.f0.drop 1,s.f1⟩:Src):=by
   rw [hf _ (Nat.le_refl _),hg,if_pos rfl]
   rfl
  have hsplit:r=r.take q.length++[(⟨s.f0.drop 1,s.f1⟩:Src)]:=by
   have e:=List.take_append_drop q.length r
   have e2:r.drop q.length=[(⟨s.f0.drop 1,s.f1⟩:Src)]:=by
    rw [List.drop_eq_getElem_cons (by omega),List.drop_eq_nil_of_le (by omega)]
    congr 1
    rw [←hlast]
    unfold gQ
    rw [List.getD_eq_getElem?_getD,List.getElem?_eq_getElem (by omega)]
    rfl
   rw [e2] at e
   exact e.symm
  have hp2:(r.take q.length).Perm q:=by
   have h3:((⟨s.f0.drop 1,s.f1⟩:Src) :: r.take q.length).Perm ((⟨s.f0.drop 1,s.f1⟩:Src) :: q):=by
    refine (List.perm_append_comm (l₁:=[(⟨s.f0.drop 1,s.f1⟩:Src)]) (l₂:=r.take q.length)).trans ?_
    rw [←hsplit]
    exact hpm.trans (qK (by simp) (by simp))
   exact (List.perm_cons _).1 h3
  refine ⟨r.take q.length,⟨k0,fun k hk2=>?_⟩,hp2,fun m h0 hm=>?_⟩
  ·
   have e:=hk k k hk2 hk2
   simp only at e
   show (if s.f0.length=1 then _ else _)=_
   rw [if_pos h1,e]
   rfl
  ·
   have hml:m<q.length:=by rw [List.length_take] at hm;omega
   have hgt:∀ m,m<q.length→gQ (r.take q.length) m=gQ r m:=by
    intro m hm
    unfold gQ
    rw [List.getD_eq_getElem?_getD,List.getD_eq_getElem?_getD,List.getElem?_take,if_pos hm]
   rw [hgt _ (by omega),hgt _ hml]
   exact hr m h0 hml
 ·
  rw [if_neg h1]
  obtain ⟨r,p,⟨k0,hk⟩,hpm,hr,_⟩:=zk (q.length+1) (q.length+1) ((⟨s.f0.drop 1,s.f1⟩:Src) :: q) 0 (by omega) ⟨fun m h0 hm hp=>by
    rw [hsame _ _ (by omega),hsame _ _ h0]
    exact hh m h0 hm,fun h=>absurd h (by omega)⟩ (by simp) (fun m hm=>by
    by_cases h0:m=0
    ·
     subst h0
     show 0<(s.f0.drop 1).length
     rw [List.length_drop]
     omega
    ·
     obtain ⟨m,rfl⟩:∃ m',m=m'+1:=⟨m - 1,by omega⟩
     exact hne _ (rC (by omega)))
  refine ⟨r,⟨k0,fun k hk2=>?_⟩,hpm,?_⟩
  ·
   have e:=hk k k hk2 hk2
   simp only at e
   show (if s.f0.length=1 then _ else _)=_
   rw [if_neg h1,e]
   rfl
  ·
   rw [hpm.length_eq]
   exact hr
theorem Dn {L:List (List Cell)} {q:List Src} {out:List Cell} (hL:gE L) (h:uT L q out) {s:Src} (hs:s ∈ q) {c:Cell} (hc:c ∈ s.f0):cc (hd s) c = -1∨cc (hd s) c=0:=by
 obtain ⟨i,_,hi,used,hu,_⟩:=h.suf s hs
 have ho:=hL i
 rw [hu,nE (h.ne s hs)] at ho
 obtain ⟨_,ho,_⟩:=List.pairwise_append.1 ho
 rw [nE (h.ne s hs)] at hc
 rcases List.mem_cons.1 hc with rfl | hc
 ·
  exact .inr (oL _)
 ·
  exact .inl ((List.pairwise_cons.1 ho).1 c hc)
theorem DA {L:List (List Cell)} {q:List Src} {out:List Cell} (hL:gE L) (h:uT L q out) {s:Src} (hs:s ∈ q) {c:Cell} (hc:c ∈ s.f0.drop 1):cc (hd s) c = -1:=by
 obtain ⟨i,_,hi,used,hu,_⟩:=h.suf s hs
 have ho:=hL i
 rw [hu,nE (h.ne s hs)] at ho
 obtain ⟨_,ho,_⟩:=List.pairwise_append.1 ho
 exact (List.pairwise_cons.1 ho).1 c hc
theorem rX {s x:Src} {q:List Src} (h:x ∈ oA s q):x ∈ q∨(x=(⟨s.f0.drop 1,s.f1⟩:Src)∧s.f0.length≠1):=by
 unfold oA at h
 split at h
 ·
  exact .inl h
 ·
  rename_i h1
  rcases List.mem_cons.1 h with rfl | h
  ·
   exact .inr ⟨rfl,h1⟩
  ·
   exact .inl h
theorem CY {L:List (List Cell)} {s:Src} {q q':List Src} {out:List Cell} (hL:gE L) (h:uT L (s :: q) out) (hp:q'.Perm (oA s q)) (hh:ox q'.length q') {b:Bool} (hb:b=if h:0<out.length then !(cc out[out.length - 1] (hd s) == 0) else true):uT L q' (if b=true then out++[hd s] else out):=by
 have hs:=h.ne s List.mem_cons_self
 have hlow:∀ d ∈ out,cc d (hd s) = -1∨cc d (hd s)=0:=fun d hd_=>h.low d hd_ s List.mem_cons_self (hd s) (by rw [nE hs];exact List.mem_cons_self)
 have hmin:∀ x ∈ s :: q,oq s x:=by
  intro x hx
  obtain ⟨m,hm,rfl⟩:=Ez hx
  exact Cq h.heap m hm
 -- what is put out is above all that is out
 have habove:b=true→∀ d ∈ out,cc d (hd s) = -1:=by
  intro hbt d hd_
  have h0:0<out.length:=List.length_pos_of_mem hd_
  rw [hb,dif_pos h0] at hbt
  have hne:cc out[out.length - 1] (hd s)≠0:=by simpa using hbt
  have hlast:cc out[out.length - 1] (hd s) = -1:=(hlow _ (List.getElem_mem _)).resolve_right hne
  obtain ⟨i,hi,rfl⟩:=List.getElem_of_mem hd_
  by_cases hl:i=out.length - 1
  ·
   subst hl
   exact hlast
  ·
   exact jx (List.pairwise_iff_getElem.1 h.ord i (out.length - 1) hi (by omega) (by omega)) hlast
 have hcov:∃ d ∈ (if b=true then out++[hd s] else out),cc d (hd s)=0:=by
  cases b with
  | true=>exact ⟨hd s,by simp,oL _⟩
  | false=>
   by_cases h0:0<out.length
   ·
    rw [dif_pos h0] at hb
    exact ⟨out[out.length - 1],by simp,by simpa using hb.symm⟩
   ·
    rw [dif_neg h0] at hb
    cases hb
 have hsub:∀ d ∈ out,d ∈ (if b=true then out++[hd s] else out):=by
  intro d hd_
  split
  ·
   exact List.mem_append_left _ hd_
  ·
   exact hd_
 have hnod:=h.nod
 rw [List.map_cons,List.nodup_cons] at hnod
 refine ⟨hh,fun x hx=>?_,?_,fun x hx=>?_,fun i hi hno c hc=>?_,?_,?_,?_⟩
 ·
  rcases rX (hp.subset hx) with hx | ⟨rfl,h1⟩
  ·
   exact h.ne x (List.mem_cons_of_mem _ hx)
  ·
   show 0<(s.f0.drop 1).length
   rw [List.length_drop]
   omega
 ·
  rw [(hp.map _).nodup_iff]
  unfold oA
  split
  ·
   exact hnod.2
  ·
   rw [List.map_cons,List.nodup_cons]
   exact hnod
 ·
  rcases rX (hp.subset hx) with hx | ⟨rfl,h1⟩
  ·
   obtain ⟨i,e1,e2,used,e3,e4⟩:=h.suf x (List.mem_cons_of_mem _ hx)
   exact ⟨i,e1,e2,used,e3,fun c hc=>(e4 c hc).elim (fun d hd_=>⟨d,hsub d hd_.1,hd_.2⟩)⟩
  ·
   obtain ⟨i,e1,e2,used,e3,e4⟩:=h.suf s List.mem_cons_self
   refine ⟨i,e1,e2,used++[hd s],?_,fun c hc=>?_⟩
   ·
    rw [e3]
    conv=>lhs;rw [nE hs]
    simp
   ·
    rcases List.mem_append.1 hc with hc | hc
    ·
     exact (e4 c hc).elim (fun d hd_=>⟨d,hsub d hd_.1,hd_.2⟩)
    ·
     rw [List.mem_singleton.1 hc]
     exact hcov
 ·
  by_cases his:s.f1=(i:Int)
  ·
   have h1:s.f0.length=1:=by
    refine Classical.byContradiction fun h1=>?_
    refine hno (⟨s.f0.drop 1,s.f1⟩:Src) (hp.symm.subset ?_) his
    unfold oA
    rw [if_neg h1]
    exact List.mem_cons_self
   obtain ⟨i',e1,e2,used,e3,e4⟩:=h.suf s List.mem_cons_self
   have:i'=i:=by omega
   subst this
   rw [e3] at hc
   rcases List.mem_append.1 hc with hc | hc
   ·
    exact (e4 c hc).elim (fun d hd_=>⟨d,hsub d hd_.1,hd_.2⟩)
   ·
    rw [nE hs,List.drop_eq_nil_of_le (by omega)] at hc
    rw [List.mem_singleton.1 hc]
    exact hcov
  ·
   refine (h.done i hi (fun x hx=>?_) c hc).elim (fun d hd_=>⟨d,hsub d hd_.1,hd_.2⟩)
   rcases List.mem_cons.1 hx with rfl | hx
   ·
    exact his
   ·
    refine hno x (hp.symm.subset ?_)
    unfold oA
    split
    ·
     exact hx
    ·
     exact List.mem_cons_of_mem _ hx
 ·
  split
  ·
   rename_i hbt
   exact List.pairwise_append.2 ⟨h.ord,List.pairwise_singleton _ _,fun d hd_ c hc=>by rw [List.mem_singleton.1 hc];exact habove hbt d hd_⟩
  ·
   exact h.ord
 ·
  intro c hc
  split at hc
  ·
   rename_i hbt
   rcases List.mem_append.1 hc with hc | hc
   ·
    exact h.win c hc
   ·
    rw [List.mem_singleton.1 hc]
    obtain ⟨i,e1,e2,used,e3,e4⟩:=h.suf s List.mem_cons_self
    refine ⟨i,e2,?_,fun j hj d hdj hde=>?_⟩
    ·
     rw [e3,nE hs]
     simp
    ·
     have hcontra:∀ e ∈ out,cc e d=0→False:=by
      intro e he h0
      have h1:=habove hbt e he
      have h2:=lE h0 (hd s)
      omega
     by_cases hsrc:∃ x ∈ s :: q,x.f1=(j:Int)
     ·
      obtain ⟨x,hx,hxj⟩:=hsrc
      obtain ⟨j',f1,f2,used',f3,f4⟩:=h.suf x hx
      have:j'=j:=by omega
      subst this
      rw [f3] at hdj
      rcases List.mem_append.1 hdj with hdj | hdj
      ·
       obtain ⟨e,he,h0⟩:=f4 d hdj
       exact hcontra e he h0
      ·
       have h1:=Dn hL h hx hdj
       rcases kO.1 (hmin x hx) with h2 | ⟨h2,h3⟩
       ·
        have:cc (hd s) d = -1:=by
         rcases h1 with h1 | h1
         ·
          exact jx h2 h1
         ·
          rw [←sU h1]
          exact h2
        have:=nU (hd s) d
        omega
       ·
        omega
     ·
      obtain ⟨e,he,h0⟩:=h.done j (by omega) (fun x hx he=>hsrc ⟨x,hx,he⟩) d hdj
      exact hcontra e he h0
  ·
   exact h.win c hc
 ·
  intro d hd_ x hx c hc
  have hxo:x ∈ q∨(x=(⟨s.f0.drop 1,s.f1⟩:Src)∧s.f0.length≠1):=rX (hp.subset hx)
  have hold:d ∈ out→cc d c = -1∨cc d c=0:=by
   intro hdo
   rcases hxo with hx | ⟨rfl,_⟩
   ·
    exact h.low d hdo x (List.mem_cons_of_mem _ hx) c hc
   ·
    exact h.low d hdo s List.mem_cons_self c (List.mem_of_mem_drop hc)
  split at hd_
  ·
   rcases List.mem_append.1 hd_ with hd_ | hd_
   ·
    exact hold hd_
   ·
    rw [List.mem_singleton.1 hd_]
    rcases hxo with hx | ⟨rfl,_⟩
    ·
     have hx':x ∈ s :: q:=List.mem_cons_of_mem _ hx
     have h1:=Dn hL h hx' hc
     rcases kO.1 (hmin x hx') with h2 | ⟨h2,_⟩<;>rcases h1 with h1 | h1
     ·
      exact .inl (jx h2 h1)
     ·
      exact .inl (by rw [←sU h1];exact h2)
     ·
      exact .inl (by rw [lE h2];exact h1)
     ·
      exact .inr (by rw [lE h2];exact h1)
    ·
     exact .inl (DA hL h List.mem_cons_self hc)
  ·
   exact hold hd_
theorem Ed {L:List (List Cell)} (hL:gE L) (N:Nat):∀ (q:List Src) (out:List Cell),n9 q≤N→N+out.length≤1000000→uT L q out→∃ r,tQ (fun k m=>nY k m q out) r∧oN L r:=by
 induction N with
 | zero=>
  intro q out hN ho h
  have hl:=tj h.ne
  obtain rfl:q=[]:=List.length_eq_zero_iff.1 (by omega)
  refine ⟨out,⟨1,fun k m _ hm=>?_⟩,h.ord,h.win,fun i hi=>h.done i hi (fun s hs=>by cases hs)⟩
  obtain ⟨m,rfl⟩:∃ m',m=m'+1:=⟨m - 1,by omega⟩
  rfl
 | succ N ih=>
  intro q out hN ho h
  cases q with
  | nil=>
   refine ⟨out,⟨1,fun k m _ hm=>?_⟩,h.ord,h.win,fun i hi=>h.done i hi (fun s hs=>by cases hs)⟩
   obtain ⟨m,rfl⟩:∃ m',m=m'+1:=⟨m - 1,by omega⟩
   rfl
  | cons s q=>
   have hs:=h.ne s List.mem_cons_self
   have hl:=tj h.ne
   rw [List.length_cons] at hl
   obtain ⟨q',⟨k1,hk1⟩,hp,hh⟩:=DK h.heap hs (fun x hx=>h.ne x (List.mem_cons_of_mem _ hx))
   obtain ⟨k2,hk2⟩:=DI (out:=out) (hd s)
   obtain ⟨b,hb⟩:∃ b,b=if h:0<out.length then !(cc out[out.length - 1] (hd s) == 0) else true:=⟨_,rfl⟩
   rw [←hb] at hk2
   have hinv:=CY hL h hp hh hb
   have ht:n9 q'+1=n9 (s :: q):=by
    rw [vp hp,pF]
    unfold oA
    split
    ·
     omega
    ·
     rw [pF]
     show (s.f0.drop 1).length+_+1=_
     rw [List.length_drop]
     omega
   have hlen:N+(if b=true then out++[hd s] else out).length≤1000000:=by
    split
    ·
     rw [List.length_append,List.length_singleton]
     omega
    ·
     omega
   obtain ⟨r,⟨k3,hk3⟩,hr⟩:=ih q' (if b=true then out++[hd s] else out) (by omega) hlen hinv
   refine ⟨r,⟨k1+k2+k3+1,fun k m hk hm=>?_⟩,hr⟩
   obtain ⟨m,rfl⟩:∃ m',m=m'+1:=⟨m - 1,by omega⟩
   have e1:=hk1 k (by omega)
   have e2:=hk2 k (by omega)
   have e3:=hk3 k m (by omega) (by omega)
   simp only at e1 e2 e3
   show nY k (m+1) (s :: q) out=_
   rw [nY,if_pos ⟨hs,by omega,by omega⟩]
   show ((nk k out (hd s)).bind fun b=>_)=_
   rw [e2,Option.bind_some,e1,Option.bind_some]
   exact e3
def lR:List (List Cell)→Nat→List Src
 | [],_=>[]
 | l :: ls,i=>if l.length=0 then lR ls (i+1) else (⟨l,(i:Int)⟩:Src) :: lR ls (i+1)
theorem qy:∀ {ls:List (List Cell)} {i:Nat} {s:Src},s ∈ lR ls i→∃ j,i≤j∧j<i+ls.length∧s=⟨nD ls (j - i),(j:Int)⟩∧0<s.f0.length
 | [],i,s,h=>by cases h
 | l :: ls,i,s,h=>by
  have hrec:s ∈ lR ls (i+1)→∃ j,i≤j∧j<i+(l :: ls).length∧s=⟨nD (l :: ls) (j - i),(j:Int)⟩∧0<s.f0.length:=by
   intro h
   obtain ⟨j,h1,h2,h3,h4⟩:=qy h
   refine ⟨j,by omega,by rw [List.length_cons];omega,?_,h4⟩
   rw [h3]
   congr 1
   rw [show j - i=(j - (i+1))+1 by omega]
   rfl
  unfold lR at h
  split at h
  ·
   exact hrec h
  ·
   rename_i h0
   rcases List.mem_cons.1 h with rfl | h
   ·
    exact ⟨i,Nat.le_refl _,by simp,by rw [Nat.sub_self];rfl,by show 0<l.length;omega⟩
   ·
    exact hrec h
theorem xj:∀ {ls:List (List Cell)} {i j:Nat},j<ls.length→0<(nD ls j).length→(⟨nD ls j,((i+j:Nat):Int)⟩:Src) ∈ lR ls i
 | [],_,_,h,_=>by cases h
 | l :: ls,i,0,_,h=>by
  unfold lR
  rw [if_neg (by show ¬ l.length=0;exact Nat.pos_iff_ne_zero.1 h)]
  exact List.mem_cons_self
 | l :: ls,i,j+1,h,h0=>by
  have:=xj (ls:=ls) (i:=i+1) (j:=j) (by simpa using h) h0
  rw [show i+1+j=i+(j+1) by omega] at this
  unfold lR
  split
  ·
   exact this
  ·
   exact List.mem_cons_of_mem _ this
theorem sX:∀ (ls:List (List Cell)) (i:Nat),((lR ls i).map (fun s:Src=>s.f1)).Nodup
 | [],_=>List.nodup_nil
 | l :: ls,i=>by
  unfold lR
  split
  ·
   exact sX ls (i+1)
  ·
   rw [List.map_cons,List.nodup_cons]
   refine ⟨fun h=>?_,sX ls (i+1)⟩
   obtain ⟨s,hs,he⟩:=List.mem_map.1 h
   obtain ⟨j,h1,_,h2,_⟩:=qy hs
   rw [h2] at he
   simp only at he
   omega
theorem uK:∀ (ls:List (List Cell)) (i:Nat) (q:List Src),q.length+ls.length≤1000000→ox q.length q→(∀ s ∈ q,0<s.f0.length)→∃ q',Ev (fun k=>mH k ls i q) q'∧q'.Perm (q++lR ls i)∧ox q'.length q'
 | [],i,q,_,hh,_=>⟨q,Ev.now _,by rw [show lR [] i=[] from rfl,List.append_nil],hh⟩
 | l :: ls,i,q,hn,hh,hne=>by
  rw [List.length_cons] at hn
  by_cases h0:l.length=0
  ·
   obtain ⟨q',he,hp,hh'⟩:=uK ls (i+1) q (by omega) hh hne
   refine ⟨q',Ev.congr (fun k=>?_) he,?_,hh'⟩
   ·
    rw [mH,if_pos h0]
   ·
    rw [lR,if_pos h0]
    exact hp
  ·
   have hg1:∀ m,m<q.length→gQ (q++[(⟨l,(i:Int)⟩:Src)]) m=gQ q m:=by
    intro m hm
    unfold gQ
    rw [List.getD_eq_getElem?_getD,List.getD_eq_getElem?_getD,List.getElem?_append_left hm]
   have hne2:∀ s ∈ q++[(⟨l,(i:Int)⟩:Src)],0<s.f0.length:=by
    intro s hs
    rcases List.mem_append.1 hs with hs | hs
    ·
     exact hne s hs
    ·
     rw [List.mem_singleton.1 hs]
     show 0<l.length
     omega
   obtain ⟨r,⟨k1,hk1⟩,hpm,hr⟩:=EW q.length (q++[(⟨l,(i:Int)⟩:Src)]) (by simp) ⟨fun m h0 hm hp=>by
     rw [List.length_append,List.length_singleton] at hm
     rw [hg1 _ (by omega),hg1 _ (by omega)]
     exact hh m h0 (by omega),fun _ m h0 hm hp=>by
     rw [List.length_append,List.length_singleton] at hm
     omega⟩ (fun m hm=>hne2 _ (rC hm))
   have hrl:r.length=q.length+1:=by rw [hpm.length_eq];simp
   obtain ⟨q',⟨k2,hk2⟩,hp,hh'⟩:=uK ls (i+1) r (by omega) hr (fun s hs=>hne2 s (hpm.subset hs))
   refine ⟨q',⟨k1+k2,fun k hk=>?_⟩,?_,hh'⟩
   ·
    have e1:=hk1 k k (by omega) (by omega)
    have e2:=hk2 k (by omega)
    simp only at e1 e2
    show mH k (l :: ls) i q=_
    rw [mH,if_neg h0,if_pos (by omega),e1,Option.bind_some]
    exact e2
   ·
    rw [lR,if_neg h0]
    refine hp.trans ((hpm.append_right _).trans ?_)
    rw [List.append_assoc]
    exact List.Perm.refl _
def gh (L:List (List Cell)):Nat:=(L.map List.length).sum
theorem xk:∀ (ls:List (List Cell)) (i:Nat),n9 (lR ls i)=gh ls
 | [],_=>rfl
 | l :: ls,i=>by
  have:=xk ls (i+1)
  unfold lR
  split
  ·
   rename_i h0
   rw [this]
   simp [gh,h0]
  ·
   rw [pF,this]
   simp [gh]
theorem wH {L:List (List Cell)} (hL:gE L) (hn:L.length≤1000) (ht:gh L≤100000):∃ r,Ev (fun k=>fL.f k L) r∧oN L r:=by
 obtain ⟨q,⟨k1,hk1⟩,hp,hh⟩:=uK L 0 [] (by simp;omega) (fun m _ hm=>by cases hm) (fun s hs=>by cases hs)
 rw [List.nil_append] at hp
 have hinv:uT L q []:=by
  refine ⟨hh,fun s hs=>?_,(hp.map _).nodup_iff.2 (sX L 0),fun s hs=>?_,fun i hi hno c hc=>?_,List.Pairwise.nil,fun c hc=>(by cases hc),fun d hd=>(by cases hd)⟩
  ·
   obtain ⟨j,_,_,_,h4⟩:=qy (hp.subset hs)
   exact h4
  ·
   obtain ⟨j,_,h2,h3,_⟩:=qy (hp.subset hs)
   refine ⟨j,by rw [h3],by omega,[],?_,fun c hc=>by cases hc⟩
   rw [h3]
   rfl
  ·
   have:=xj (ls:=L) (i:=0) hi (List.length_pos_of_mem hc)
   rw [Nat.zero_add] at this
   exact absurd rfl (hno _ (hp.symm.subset this))
 have htq:n9 q=gh L:=by rw [vp hp,xk]
 obtain ⟨r,⟨k2,hk2⟩,hr⟩:=Ed hL (gh L) q [] (by omega) (by simp;omega) hinv
 refine ⟨r,⟨k1+k2+1,fun k hk=>?_⟩,hr⟩
 have e1:=hk1 k (by omega)
 have e2:=hk2 k k (by omega) (by omega)
 simp only at e1 e2
 show fL.f k L=_
 unfold fL.f
 rw [if_neg (by omega),e1,Option.bind_some]
 exact e2
theorem qt (L:List (List Cell)) (i:Nat) (h:i<L.length):nD L i=L[i]:=by
 unfold nD
 rw [List.getD_eq_getElem?_getD,List.getElem?_eq_getElem h]
 rfl
theorem gI (l:List Cell) (L:List (List Cell)):gh (l :: L)=l.length+gh L:=by simp [gh]
def cQ (L:List (List Cell)):List Cell:=L.foldr (fun l o=>l.foldl (fun o c=>ins c o) o) []
theorem jJ:∀ {L:List (List Cell)},gE L→oN L (cQ L)
 | [],_=>⟨List.Pairwise.nil,fun c hc=>(by cases hc),fun i hi=>(by cases hi)⟩
 | l :: L,h=>by
  have hl:fj l:=h 0
  obtain ⟨i1,i2,i3⟩:=jJ (L:=L) (fun i=>h (i+1))
  have hm:∀ c,c ∈ cQ (l :: L)↔c ∈ l∨(c ∈ cQ L∧∀ d ∈ l,cc d c≠0):=fun c=>iR hl i1
  refine ⟨iO l i1,fun c hc=>?_,fun i hi c hc=>?_⟩
  ·
   rcases (hm c).1 hc with hc | ⟨hc,h0⟩
   ·
    exact ⟨0,by simp,hc,fun j hj=>by omega⟩
   ·
    obtain ⟨i,e1,e2,e3⟩:=i2 c hc
    refine ⟨i+1,by rw [List.length_cons];omega,e2,fun j hj d hd=>?_⟩
    cases j with
    | zero=>exact h0 d hd
    | succ j=>exact e3 j (by omega) d hd
  ·
   cases i with
   | zero=>exact ⟨c,(hm c).2 (.inl hc),oL c⟩
   | succ i=>
    obtain ⟨d,hd,h0⟩:=i3 i (by simpa using hi) c hc
    by_cases hex:∃ e ∈ l,cc e d=0
    ·
     obtain ⟨e,he,h1⟩:=hex
     exact ⟨e,(hm e).2 (.inl he),by rw [lE h1];exact h0⟩
    ·
     exact ⟨d,(hm d).2 (.inr ⟨hd,fun e he h1=>hex ⟨e,he,h1⟩⟩),h0⟩
theorem rU:∀ {L:List (List Cell)} {l:List Cell},l ∈ L→l.length≤gh L
 | m :: L,l,h=>by
  rw [gI]
  rcases List.mem_cons.1 h with rfl | h
  ·
   omega
  ·
   have:=rU h
   omega
theorem rI {L:List (List Cell)} (hL:gE L) (hn:L.length≤1000) (ht:gh L≤100000):Ev (fun k=>fL.f k L) (cQ L):=by
 obtain ⟨r,he,hr⟩:=wH hL hn ht
 rw [yB hL (jJ hL) hr]
 exact he
theorem mh:∀ (L:List (List Cell)),(cQ L).length≤gh L
 | []=>Nat.zero_le _
 | l :: L=>by
  have:=mh L
  have:=o3 l (cQ L)
  rw [gI]
  show (l.foldl (fun o c=>ins c o) (cQ L)).length≤_
  omega
theorem ux {l:List Cell} (h:fj l):cQ [l]=l:=by
 refine oP (iO l List.Pairwise.nil) h (fun c=>?_)
 rw [show cQ [l]=l.foldl (fun o c=>ins c o) [] from rfl,iR h List.Pairwise.nil]
 exact ⟨fun hc=>hc.elim id (fun hc=>by cases hc.1),.inl⟩
theorem vM {l:List Cell} {L:List (List Cell)} (h:gE (l :: L)):gE L:=fun i=>h (i+1)
theorem jP {L:List (List Cell)} (h:gE L):fj (cQ L):=(jJ h).ord
theorem qF {a b:List Cell} (ha:fj a) (hb:fj b) (c:Cell):c ∈ cQ [a,b]↔c ∈ a∨(c ∈ b∧∀ d ∈ a,cc d c≠0):=by
 have e:cQ [a,b]=a.foldl (fun o c=>ins c o) b:=by
  show a.foldl (fun o c=>ins c o) (cQ [b])=_
  rw [ux hb]
 rw [e,iR ha hb]
theorem kI:∀ {X Y:List (List Cell)},gE X→gE Y→cQ (X++Y)=cQ [cQ X,cQ Y]
 | [],Y,_,hY=>by
  have hy:=jP hY
  show cQ Y=_
  refine oP hy (iO _ (iO _ List.Pairwise.nil)) (fun c=>?_)
  rw [qF (a:=cQ []) List.Pairwise.nil hy]
  exact ⟨fun h=>.inr ⟨h,fun d hd=>by cases hd⟩,fun h=>h.elim (fun h=>by cases h) (fun h=>h.1)⟩
 | l :: X,Y,hX,hY=>by
  have hl:fj l:=hX 0
  have hX':=vM hX
  have hx:=jP hX'
  have hy:=jP hY
  have ih:=kI hX' hY
  have hxl:fj (cQ (l :: X)):=jP hX
  have h2:fj (cQ [cQ X,cQ Y]):=iO _ (iO _ List.Pairwise.nil)
  have e:cQ (l :: X++Y)=l.foldl (fun o c=>ins c o) (cQ [cQ X,cQ Y]):=by
   show l.foldl (fun o c=>ins c o) (cQ (X++Y))=_
   rw [ih]
  rw [e]
  refine oP (iO l h2) (iO _ (iO _ List.Pairwise.nil)) (fun c=>?_)
  have hm:∀ c,c ∈ cQ (l :: X)↔c ∈ l∨(c ∈ cQ X∧∀ d ∈ l,cc d c≠0):=fun c=>iR hl hx
  rw [iR hl h2,qF hx hy,qF hxl hy,hm]
  constructor
  ·
   rintro (h | ⟨h | ⟨h1,h3⟩,h4⟩)
   ·
    exact .inl (.inl h)
   ·
    exact .inl (.inr ⟨h,h4⟩)
   ·
    refine .inr ⟨h1,fun d hd=>?_⟩
    rcases (hm d).1 hd with hd | hd
    ·
     exact h4 d hd
    ·
     exact h3 d hd.1
  ·
   rintro ((h | ⟨h1,h2⟩) | ⟨h1,h2⟩)
   ·
    exact .inl h
   ·
    exact .inr ⟨.inl h1,h2⟩
   ·
    refine .inr ⟨.inr ⟨h1,fun d hd h0=>?_⟩,fun d hd=>h2 d ((hm d).2 (.inl hd))⟩
    by_cases hex:∃ e ∈ l,cc e d=0
    ·
     obtain ⟨e,he,h3⟩:=hex
     exact h2 e ((hm e).2 (.inl he)) (by rw [lE h3];exact h0)
    ·
     exact h2 d ((hm d).2 (.inr ⟨hd,fun e he h3=>hex ⟨e,he,h3⟩⟩)) h0
theorem kE {L:List (List Cell)}:gE L↔∀ l ∈ L,fj l:=by
 constructor
 ·
  intro h l hl
  obtain ⟨i,hi,rfl⟩:=List.getElem_of_mem hl
  have:=h i
  rw [qt L i hi] at this
  exact this
 ·
  intro h i
  by_cases hi:i<L.length
  ·
   rw [qt L i hi]
   exact h _ (List.getElem_mem hi)
  ·
   unfold nD
   rw [List.getD_eq_getElem?_getD,List.getElem?_eq_none (by omega)]
   exact List.Pairwise.nil
theorem kV:∀ (X Y:List (List Cell)),gh (X++Y)=gh X+gh Y
 | [],Y=>by simp [gh]
 | l :: X,Y=>by
  have:=kV X Y
  rw [List.cons_append,gI,gI]
  omega
abbrev jY:=List Cell × List (List Cell) × List Int
structure mY (t:jY):Prop where
 srt:kf t.1
 ne:t.1≠[]
 get:∀ (r c:ByteArray) (a:Int),r.size≤10000→c.size≤10000→Ev (fun k=>dG.f k t.2.1 t.2.2 r c a) (qI (kz r c a t.1))
def Makes (s:Int) (P:Cell→Prop) (N:Nat):Prop:=∀ l,kf l→l≠[]→l.length≤N→(∀ c ∈ l,P c)→∃ t:jY,t.1=l∧Ev (fun k=>eK.f k l s) t∧mY t
theorem Dx {s:Int} {W N:Nat} {P:Cell→Prop} (h1:1≤s) (h2:s≤4096) (hN:N≤420) (hW:W*N≤60150) (hP:∀ c,P c→(jq c).length≤W):Makes s P N:=fun l hs hn hl hq=>by
 have hw:∀ c ∈ l,(jq c).length≤W:=fun c hc=>hP c (hq c hc)
 have h0:0<s.toNat:=by omega
 have hW1:W*l.length≤60150:=Nat.le_trans (Nat.mul_le_mul_left W hl) hW
 have hg:=mS s.toNat l [] 0
 have hg2:(iE s.toNat l [] 0).length≤1000:=by omega
 refine ⟨(l,iE s.toNat l [] 0,eP l),rfl,?_,hs,hn,fun r c a hr hc=>Ep r c a (by rw [oU,List.nil_append]) (tH hs (by omega) hw hW1 h0) hs (by omega) hg2 hr hc⟩
 have hb:=tX (l:=l) s (by omega) hw hW1
 unfold yh at hb
 rw [if_pos ⟨kJ.2 hs,h1⟩] at hb
 unfold eK.f
 exact Ev.neg hn (Ev.bind hb (Ev.pos rfl (Ev.bind (Bs hs (by omega) hw hW1 h0 (by omega)) (Ev.now _))))
def tl (ls:List (List jY)):List (List Cell):=ls.flatten.map (fun t=>t.1)
theorem rT (a b:List (List jY)):tl (a++b)=tl a++tl b:=by simp [tl]
theorem lG (a:List jY) (b:List (List jY)):tl (a :: b)=a.map (fun t=>t.1)++tl b:=by simp [tl]
theorem z_:∀ (l:List jY) (o:List (List Cell)),(∀ t ∈ l,t.1.length≤1000000000)→o.length+l.length≤1000000→cC.l1 l o=some (o++l.map (fun t=>t.1))
 | [],o,_,_=>by simp [cC.l1]
 | t :: l,o,h,hl=>by
  simp only [List.length_cons] at hl
  have ih:=z_ l (o++[t.1]) (fun x hx=>h x (List.mem_cons_of_mem _ hx)) (by rw [List.length_append,List.length_singleton];omega)
  simp only [cC.l1]
  rw [pX (h t List.mem_cons_self)]
  show (if o.length<2199023255552 then cC.l1 l (o++[t.1]) else none)=_
  rw [if_pos (by omega),ih,List.append_assoc]
  rfl
theorem Dh:∀ (ls:List (List jY)) (o:List (List Cell)),(∀ l ∈ ls,∀ t ∈ l,t.1.length≤1000000000)→o.length+ls.flatten.length≤1000000→cC.l0 ls o=some (o++tl ls)
 | [],o,_,_=>by simp [cC.l0,tl]
 | l :: ls,o,h,hl=>by
  rw [List.flatten_cons,List.length_append] at hl
  simp only [cC.l0]
  rw [z_ l o (h l List.mem_cons_self) (by omega)]
  show cC.l0 ls (o++l.map (fun t=>t.1))=_
  rw [Dh ls _ (fun x hx=>h x (List.mem_cons_of_mem _ hx)) (by rw [List.length_append,List.length_map];omega),lG,List.append_assoc]
structure gb (P:Cell→Prop) (p:Nat) (xs:List Cell) (n:Int) (ls:List (List jY)):Prop where
 srt:kf xs
 siz:n=fV xs
 tab:∀ l ∈ ls,∀ t ∈ l,mY t
 tot:gh (xs :: tl ls)≤p
 wid:∀ l ∈ xs :: tl ls,∀ c ∈ l,P c
theorem t6:∀ (l:List jY),(∀ t ∈ l,mY t)→l.length≤gh (l.map (fun t=>t.1))
 | [],_=>Nat.zero_le _
 | t :: l,h=>by
  have h1:=t6 l (fun x hx=>h x (List.mem_cons_of_mem _ hx))
  have h2:=List.length_pos_iff.2 (h t List.mem_cons_self).ne
  rw [List.map_cons,gI,List.length_cons]
  omega
section
variable {P:Cell→Prop} {p:Nat} {xs:List Cell} {n:Int} {ls:List (List jY)}
theorem gb.ok (h:gb P p xs n ls):∀ t ∈ ls.flatten,mY t:=fun t ht=>by
 obtain ⟨l,hl,ht⟩:=List.mem_flatten.1 ht
 exact h.tab l hl t ht
theorem gb.few (h:gb P p xs n ls):xs.length+ls.flatten.length≤p:=by
 have h1:=t6 ls.flatten h.ok
 have h2:=h.tot
 rw [gI] at h2
 have h3:gh (tl ls)=gh (ls.flatten.map (fun t=>t.1)):=rfl
 omega
theorem gb.small (h:gb P p xs n ls) {t:jY} (ht:t ∈ ls.flatten):t.1.length≤p:=by
 have h1:=rU (L:=xs :: tl ls) (List.mem_cons_of_mem _ (List.mem_map.2 ⟨t,ht,rfl⟩))
 have h2:=h.tot
 omega
theorem gb.pN (h:gb P p xs n ls):gE (xs :: tl ls):=kE.2 (fun l hl=>by
 rcases List.mem_cons.1 hl with rfl | hl
 ·
  exact h.srt.2
 ·
  obtain ⟨t,ht,rfl⟩:=List.mem_map.1 hl
  exact (h.ok t ht).srt.2)
theorem oW (h:gb P p xs n ls) (hp:p≤900):Ev (fun k=>dh.f k xs ls) (cQ (xs :: tl ls)):=by
 have hf:=h.few
 unfold dh.f
 refine Ev.bind (a:=xs :: tl ls) ?_ (rI h.pN (by rw [List.length_cons];unfold tl;rw [List.length_map];omega) (by have:=h.tot;omega))
 unfold cC.f
 rw [pX (by omega)]
 have h0:=Dh ls [xs] (fun l hl t ht=>by have:=h.small (List.mem_flatten.2 ⟨l,hl,ht⟩);omega) (by rw [List.length_singleton];omega)
 rw [show (some xs).bind (fun c=>cC.l0 ls [c])=cC.l0 ls [xs] from rfl,h0]
 exact Ev.now _
end
theorem zZ {U V W:List (List Cell)} (hU:gE U) (hV:gE V) (hW:gE W):cQ (U++(V++W))=cQ (U++(cQ V :: W)):=by
 have hr:=jP hV
 have h1:gE [cQ V]:=kE.2 (fun l hl=>by rw [List.mem_singleton.1 hl];exact hr)
 have hap:∀ {A B:List (List Cell)},gE A→gE B→gE (A++B):=fun hA hB=>kE.2 (fun l hl=>(List.mem_append.1 hl).elim (kE.1 hA l) (kE.1 hB l))
 rw [show cQ V :: W=[cQ V]++W from rfl,kI hU (hap hV hW),kI hU (hap h1 hW),kI hV hW,kI h1 hW,ux hr]
theorem wX {α:Type} (z a b:α):∀ (i:Nat) (l:List α),i+1<l.length→l=l.take i++l.getD i z :: l.getD (i+1) z :: l.drop (i+2)∧(l.set i a).set (i+1) b=l.take i++a :: b :: l.drop (i+2)
 | 0,x :: y :: l,_=>⟨rfl,rfl⟩
 | 0,[],h=>absurd h (by simp)
 | 0,[_],h=>absurd h (by simp)
 | i+1,[],h=>absurd h (by simp)
 | i+1,x :: l,h=>by
  obtain ⟨h1,h2⟩:=wX z a b i l (by simpa using h)
  refine ⟨?_,?_⟩
  ·
   have:=congrArg (List.cons x) h1
   simpa using this
  ·
   have:=congrArg (List.cons x) h2
   simpa using this
theorem DY {L:List (List Cell)} (h:∀ l ∈ L,kf l):kf (cQ L):=by
 have ho:gE L:=kE.2 (fun l hl=>(h l hl).2)
 refine ⟨fun c hc=>?_,jP ho⟩
 obtain ⟨i,h1,h2,_⟩:=(jJ ho).win c hc
 rw [qt L i h1] at h2
 exact (h _ (List.getElem_mem _)).1 c h2
theorem EU {L:List (List Cell)} (ho:gE L) {l:List Cell} (hl:l ∈ L) (hn:l≠[]):cQ L≠[]:=fun he=>by
 obtain ⟨c,hc⟩:=List.exists_mem_of_ne_nil l hn
 obtain ⟨i,hi,e⟩:=List.getElem_of_mem hl
 obtain ⟨d,hd,_⟩:=(jJ ho).all i hi c (by rw [qt L i hi,e];exact hc)
 rw [he] at hd
 cases hd
structure FG (P:Cell→Prop) (p:Nat) (xs:List Cell) (n:Int) (i:Nat) (ls r:List (List jY)):Prop where
 inv:gb P p xs n r
 all:cQ (xs :: tl r)=cQ (xs :: tl ls)
 len:r.length=(bY.gl ls i).length
theorem Ch {ls:List (List jY)} {i:Nat} (hi:i<ls.length):i+1<(bY.gl ls i).length∧tl (bY.gl ls i)=tl ls∧(∀ l ∈ bY.gl ls i,l ∈ ls∨l=[])∧(bY.gl ls i).length≤ls.length+1∧(bY.gl ls i).getD i []=ls.getD i []∧(i+1<ls.length→bY.gl ls i=ls):=by
 unfold bY.gl
 by_cases e:i+1=ls.length
 ·
  rw [if_pos e]
  refine ⟨by rw [List.length_append,List.length_singleton];omega,by rw [rT];simp [tl],fun l hl=>?_,by rw [List.length_append,List.length_singleton];omega,?_,fun h=>absurd e (by omega)⟩
  ·
   rcases List.mem_append.1 hl with h | h
   ·
    exact .inl h
   ·
    exact .inr (List.mem_singleton.1 h)
  ·
   rw [List.getD_eq_getElem?_getD,List.getElem?_append_left hi,← List.getD_eq_getElem?_getD]
 ·
  rw [if_neg e]
  exact ⟨by omega,rfl,fun l hl=>.inl hl,by omega,rfl,fun _=>rfl⟩
theorem DV {s:Int} {P:Cell→Prop} {p:Nat} {xs:List Cell} {n:Int} {ls:List (List jY)} {i:Nat} (hM:Makes s P p) (hp:p≤900) (h:gb P p xs n ls) (hlv:ls.length≤1000000) (hi:i<ls.length) (hx:ls.getD i []≠[]) :
  ∃ r t,Ev (fun k=>bY.f k s ls i) r∧r=((bY.gl ls i).set i []).set (i+1) [t]∧FG P p xs n i ls r:=by
 obtain ⟨g1,g2,g3,g4,g5,_⟩:=Ch hi
 generalize hG:bY.gl ls i=G at g1 g2 g3 g4 g5
 have hGt:∀ l ∈ G,∀ t ∈ l,mY t:=fun l hl t ht=>(g3 l hl).elim (fun h1=>h.tab l h1 t ht) (fun h1=>by rw [h1] at ht;cases ht)
 obtain ⟨X,hX⟩:∃ X,G.getD i []=X:=⟨_,rfl⟩
 obtain ⟨Y,hY⟩:∃ Y,G.getD (i+1) []=Y:=⟨_,rfl⟩
 have hd:=(wX ([]:List jY) [] [] i G g1).1
 rw [hX,hY] at hd
 generalize hA:G.take i=A at hd
 generalize hB:G.drop (i+2)=B at hd
 have hXm:X ∈ G:=by rw [hd];simp
 have hYm:Y ∈ G:=by rw [hd];simp
 have hXYt:∀ t ∈ X++Y,mY t:=fun t ht=>(List.mem_append.1 ht).elim (hGt X hXm t) (hGt Y hYm t)
 have hAt:∀ t ∈ A.flatten,mY t:=fun t ht=>by
  obtain ⟨l,hl,ht⟩:=List.mem_flatten.1 ht
  exact hGt l (by rw [hd];exact List.mem_append_left _ hl) t ht
 have hBt:∀ t ∈ B.flatten,mY t:=fun t ht=>by
  obtain ⟨l,hl,ht⟩:=List.mem_flatten.1 ht
  exact hGt l (by rw [hd];simp [hl]) t ht
 have pN:∀ {l:List jY},(∀ t ∈ l,mY t)→gE (l.map (fun t=>t.1)):=fun hl=>kE.2 (fun l hm=>by
  obtain ⟨t,ht,rfl⟩:=List.mem_map.1 hm
  exact (hl t ht).srt.2)
 have htl:tl ls=tl A++((X++Y).map (fun t=>t.1)++tl B):=by
  rw [←g2,hd,rT,lG,lG,List.map_append,List.append_assoc]
 have htot:=h.tot
 have hl1:gh (xs :: tl ls)=xs.length+(gh (tl A)+(gh ((X++Y).map (fun t=>t.1))+gh (tl B))):=by rw [gI,htl,kV,kV]
 obtain ⟨C,hC⟩:∃ C,cQ ((X++Y).map (fun t=>t.1))=C:=⟨_,rfl⟩
 have hCl:C.length≤gh ((X++Y).map (fun t=>t.1)):=hC▸mh _
 have hXne:X≠[]:=by rw [←hX,g5];exact hx
 have hCs:kf C:=hC▸DY (fun l hm=>by
  obtain ⟨t,ht,rfl⟩:=List.mem_map.1 hm
  exact (hXYt t ht).srt)
 have hCn:C≠[]:=by
  obtain ⟨t,ht⟩:=List.exists_mem_of_ne_nil X hXne
  exact hC▸EU (pN hXYt) (List.mem_map.2 ⟨t,List.mem_append_left _ ht,rfl⟩) (hGt X hXm t ht).ne
 have hCw:∀ c ∈ C,P c:=fun c hc=>by
  rw [←hC] at hc
  obtain ⟨j,h1,h2,_⟩:=(jJ (pN hXYt)).win c hc
  rw [qt _ j h1] at h2
  exact h.wid _ (List.mem_cons_of_mem _ (by rw [htl];exact List.mem_append_right _ (List.mem_append_left _ (List.getElem_mem h1)))) c h2
 obtain ⟨t,ht1,ht2,ht3⟩:=hM C hCs hCn (by omega) hCw
 have hlen:X.length+Y.length≤gh ((X++Y).map (fun t=>t.1)):=by
  rw [←List.length_append]
  exact t6 (X++Y) hXYt
 have hr:=(wX ([]:List jY) [] [t] i G g1).2
 rw [hA,hB] at hr
 refine ⟨(G.set i []).set (i+1) [t],t,?_,rfl,?_⟩
 ·
  unfold bY.f
  rw [hG,hX,hY]
  refine Ev.pos ⟨by omega,by omega⟩ (Ev.bind (a:=(X++Y).map (fun t=>t.1)) ?_ (Ev.bind (a:=C) ?_ (Ev.bind ht2 (Ev.now _))))
  ·
   rw [z_ (X++Y) [] (fun t ht=>by have:=rU (L:=(X++Y).map (fun t=>t.1)) (List.mem_map.2 ⟨t,ht,rfl⟩);omega) (by rw [List.length_append,List.length_nil];omega),List.nil_append]
   exact Ev.now _
  ·
   rw [←hC]
   exact rI (pN hXYt) (by rw [List.length_map,List.length_append];omega) (by omega)
 ·
  have htr:tl ((G.set i []).set (i+1) [t])=tl A++(C :: tl B):=by
   rw [hr,rT,lG,lG,List.map_nil,List.nil_append,List.map_cons,List.map_nil,ht1]
   rfl
  have hl2:gh (xs :: tl ((G.set i []).set (i+1) [t]))=xs.length+(gh (tl A)+(C.length+gh (tl B))):=by rw [gI,htr,kV,gI]
  have hal:cQ (xs :: tl ((G.set i []).set (i+1) [t]))=cQ (xs :: tl ls):=by
   rw [htr,htl,← List.cons_append,← List.cons_append,← hC]
   exact (zZ (U:=xs :: tl A) (kE.2 (fun l hl=>by
    rcases List.mem_cons.1 hl with rfl | hl
    ·
     exact h.srt.2
    ·
     exact kE.1 (pN hAt) l hl)) (pN hXYt) (pN hBt)).symm
  refine ⟨⟨h.srt,h.siz,fun l hl t' ht'=>?_,by omega,fun l hl c hc=>?_⟩,hal,by rw [List.length_set,List.length_set,hG]⟩
  rotate_left
  ·
   rw [htr] at hl
   rcases List.mem_cons.1 hl with rfl | hl
   ·
    exact h.wid _ List.mem_cons_self c hc
   ·
    rcases List.mem_append.1 hl with hl | hl
    ·
     exact h.wid _ (List.mem_cons_of_mem _ (by rw [htl];exact List.mem_append_left _ hl)) c hc
    ·
     rcases List.mem_cons.1 hl with rfl | hl
     ·
      exact hCw c hc
     ·
      exact h.wid _ (List.mem_cons_of_mem _ (by rw [htl];exact List.mem_append_right _ (List.mem_append_right _ hl))) c hc
  rw [hr] at hl
  rcases List.mem_append.1 hl with h1 | h1
  ·
   exact hGt l (by rw [hd];exact List.mem_append_left _ h1) t' ht'
  ·
   rcases List.mem_cons.1 h1 with rfl | h1
   ·
    cases ht'
   ·
    rcases List.mem_cons.1 h1 with rfl | h1
    ·
     rw [List.mem_singleton.1 ht'];exact ht3
    ·
     exact hGt l (by rw [hd];simp [h1]) t' ht'
section
variable {P:Cell→Prop} {p:Nat} {xs:List Cell} {n:Int} {ls:List (List jY)} {s s3:Int}
theorem Dq {r1 r:List (List jY)} {i:Nat} (h1:Ev (fun k=>bY.f k s ls i) r1) (hi:i<ls.length) (hs:s3<((ls.getD i []).length:Int)) (h2:tQ (fun k m=>bp.lp k s s3 m (i+1) r1) r):tQ (fun k m=>bp.lp k s s3 m i ls) r:=by
 obtain ⟨k1,h1⟩:=h1
 obtain ⟨k2,h2⟩:=h2
 refine ⟨max k1 (k2+1),fun k m hk hm=>?_⟩
 obtain ⟨m,rfl⟩:∃ j,m=j+1:=⟨m - 1,by omega⟩
 simp only [bp.lp]
 rw [if_pos hi,if_pos hs,show bY.f k s ls i=some r1 from h1 k (by omega)]
 exact h2 k m (by omega) (by omega)
theorem Dp {r:List (List jY)} {i:Nat} (hi:i<ls.length) (hs:¬ s3<((ls.getD i []).length:Int)) (h2:tQ (fun k m=>bp.lp k s s3 m (i+1) ls) r):tQ (fun k m=>bp.lp k s s3 m i ls) r:=by
 obtain ⟨k2,h2⟩:=h2
 refine ⟨k2+1,fun k m hk hm=>?_⟩
 obtain ⟨m,rfl⟩:∃ j,m=j+1:=⟨m - 1,by omega⟩
 simp only [bp.lp]
 rw [if_pos hi,if_neg hs]
 exact h2 k m (by omega) (by omega)
theorem Cj {i:Nat} (hi:¬ i<ls.length):tQ (fun k m=>bp.lp k s s3 m i ls) ls:=by
 refine ⟨1,fun k m _ hm=>?_⟩
 obtain ⟨m,rfl⟩:∃ j,m=j+1:=⟨m - 1,by omega⟩
 simp only [bp.lp]
 rw [if_neg hi]
theorem E9 (hM:Makes s P p) (hp:p≤900) (h3:1≤s3) (d:Nat):∀ (i:Nat) (ls:List (List jY)),ls.length - i=d→gb P p xs n ls→ls.length+1≤1000000→
  ∃ r,tQ (fun k m=>bp.lp k s s3 m i ls) r∧gb P p xs n r∧cQ (xs :: tl r)=cQ (xs :: tl ls)∧r.length≤ls.length+1:=by
 induction d with
 | zero=>exact fun i ls hd h hl=>⟨ls,Cj (by omega),h,rfl,by omega⟩
 | succ d ih=>
  intro i ls hd h hl
  have hi:i<ls.length:=by omega
  by_cases hs:s3<((ls.getD i []).length:Int)
  rotate_left
  ·
   obtain ⟨r,h1,h2,h4,h5⟩:=ih (i+1) ls (by omega) h hl
   exact ⟨r,Dp hi hs h1,h2,h4,h5⟩
  have hx:ls.getD i []≠[]:=fun e=>by
   rw [e] at hs
   have:s3<0:=hs
   omega
  obtain ⟨r1,t,e1,e2,e3⟩:=DV hM hp h (by omega) hi hx
  obtain ⟨g1,_,_,g4,_,g6⟩:=Ch hi
  have hlen:=e3.len
  by_cases hlast:i+1<ls.length
  ·
   rw [g6 hlast] at hlen
   obtain ⟨r,h1,h2,h4,h5⟩:=ih (i+1) r1 (by omega) e3.inv (by omega)
   exact ⟨r,Dq e1 hi hs h1,h2,h4.trans e3.all,by omega⟩
  ·
   have hb:¬ s3<((r1.getD (i+1) []).length:Int):=by
    rw [e2,List.getD_eq_getElem?_getD,List.getElem?_set_self (by rw [List.length_set];exact g1)]
    show ¬ s3<1
    omega
   exact ⟨r1,Dq e1 hi hs (Dp (by omega) hb (Cj (by omega))),e3.inv,e3.all,by omega⟩
theorem C3 (hM:Makes s P p) (hp:p≤900) (h3:1≤s3) (h:gb P p xs n ls) (hx:xs≠[]) (hl:ls.length+2≤1000000) :
  ∃ r,Ev (fun k=>bp.f k s s3 xs n ls) ([],0,r)∧gb P p [] 0 r∧cQ ([] :: tl r)=cQ (xs :: tl ls)∧r.length≤ls.length+2:=by
 have htot:=h.tot
 rw [gI] at htot
 have hfew:=h.few
 obtain ⟨t,ht1,ht2,ht3⟩:=hM xs h.srt hx (by omega) (h.wid xs List.mem_cons_self)
 obtain ⟨G,hG⟩:∃ G,bp.gl ls=G:=⟨_,rfl⟩
 have hg:(∃ l0 R,G=l0 :: R)∧tl G=tl ls∧(∀ l ∈ G,l ∈ ls∨l=[])∧G.length≤ls.length+1:=by
  rw [←hG]
  unfold bp.gl
  by_cases e:ls.length=0
  ·
   rw [if_pos e,List.length_eq_zero_iff.1 e]
   exact ⟨⟨[],[],rfl⟩,rfl,fun l hl=>.inr (List.mem_singleton.1 hl),by simp⟩
  ·
   rw [if_neg e]
   exact ⟨List.exists_cons_of_length_pos (by omega),rfl,fun l hl=>.inl hl,by omega⟩
 obtain ⟨⟨l0,R,rfl⟩,g2,g3,g4⟩:=hg
 have hl0:l0.length≤p:=by
  have h1:=t6 l0 (fun x hx=>(g3 l0 List.mem_cons_self).elim (fun h1=>h.tab l0 h1 x hx) (fun h1=>by rw [h1] at hx;cases hx))
  rw [←g2,lG,kV] at htot
  omega
 have htl:tl ((l0 :: R).set 0 (t :: l0))=xs :: tl ls:=by
  rw [←g2]
  show tl ((t :: l0) :: R)=_
  rw [lG,lG,List.map_cons,ht1]
  rfl
 have hI:gb P p [] 0 ((l0 :: R).set 0 (t :: l0)):=⟨zL,by simp [fV],fun l hl x hx=>by
  rcases List.mem_cons.1 (show l ∈ (t :: l0) :: R from hl) with rfl | hl
  ·
   rcases List.mem_cons.1 hx with rfl | hx
   ·
    exact ht3
   ·
    exact (g3 l0 List.mem_cons_self).elim (fun h1=>h.tab l0 h1 x hx) (fun h1=>by rw [h1] at hx;cases hx)
  ·
   exact (g3 l (List.mem_cons_of_mem _ hl)).elim (fun h1=>h.tab l h1 x hx) (fun h1=>by rw [h1] at hx;cases hx),by rw [gI,htl,gI,List.length_nil];omega,fun l hl c hc=>by
  rcases List.mem_cons.1 hl with rfl | hl
  ·
   cases hc
  ·
   rw [htl] at hl;exact h.wid l hl c hc⟩
 obtain ⟨r,⟨k0,h1⟩,h2,h4,h5⟩:=E9 hM hp h3 _ 0 _ rfl hI (by rw [List.length_set];omega)
 rw [List.length_set] at h5
 refine ⟨r,?_,h2,h4.trans (by rw [htl];rfl),by omega⟩
 unfold bp.f
 rw [hG,pX (by omega)]
 refine Ev.neg (fun e=>hx (List.length_eq_zero_iff.1 e)) (Ev.pos ⟨by omega,?_⟩ (Ev.bind (Ev.now _) (Ev.bind ht2 (Ev.bind (a:=r) ⟨k0,fun k hk=>h1 k k hk hk⟩ (Ev.now _)))))
 show l0.length<1099511627776
 omega
def rL (a b:ByteArray) (t:Int) (l:List Cell):Bool:=(qI (kz a b t l)).2.2.2.2.2 && (qI (kz a b t l)).2.2.1 == t
theorem ET (h:gb P p xs n ls) (hp:p≤900) (a b:ByteArray) (t:Int) (ha:a.size≤10000) (hb:b.size≤10000):Ev (fun k=>bS.f k xs ls a b t) ((xs :: tl ls).any (rL a b t)):=by
 have l1:∀ l:List jY,(∀ x ∈ l,mY x)→Ev (fun k=>bS.l1 k a b t l) ((l.map (fun x=>x.1)).any (rL a b t)):=fun l=>by
  induction l with
  | nil=>exact fun _=>Ev.now _
  | cons x l ih=>
   intro hx
   have hv:=ih (fun y hy=>hx y (List.mem_cons_of_mem _ hy))
   have hg:=(hx x List.mem_cons_self).get a b t ha hb
   rw [List.map_cons,List.any_cons]
   cases hc:rL a b t x.1 with
   | true=>exact Ev.bind hg (Ev.pos hc (Ev.now _))
   | false=>exact Ev.bind hg (Ev.neg (fun h1=>Bool.false_ne_true (hc.symm.trans h1)) hv)
 have l0:∀ ls:List (List jY),(∀ l ∈ ls,∀ x ∈ l,mY x)→Ev (fun k=>bS.l0 k a b t ls) ((tl ls).any (rL a b t)):=fun ls=>by
  induction ls with
  | nil=>exact fun _=>Ev.now _
  | cons l ls ih=>
   intro hl
   have hv:=ih (fun y hy=>hl y (List.mem_cons_of_mem _ hy))
   have hu:=l1 l (hl l List.mem_cons_self)
   rw [lG,List.any_append]
   cases hc:(l.map (fun x=>x.1)).any (rL a b t) with
   | true=>rw [hc] at hu;exact Ev.bind hu (Ev.pos rfl (Ev.now _))
   | false=>rw [hc] at hu;exact Ev.bind hu (Ev.neg Bool.false_ne_true hv)
 have hv:=l0 ls h.tab
 have hf:=h.few
 have hn:=qi (l:=xs) a b t h.srt.2 (by omega)
 unfold bS.f
 rw [List.any_cons]
 cases hc:rL a b t xs with
 | true=>exact Ev.bind hn (Ev.pos hc (Ev.now _))
 | false=>exact Ev.bind hn (Ev.neg (fun h1=>Bool.false_ne_true (hc.symm.trans h1)) hv)
theorem DX {L:List (List Cell)} {c:Cell} (hx:fj xs) (hL:gE L):cQ (ins c xs :: L)=ins c (cQ (xs :: L)):=by
 have hi:fj (ins c xs):=nC hx
 have hr:=jP hL
 have h1:fj (cQ (xs :: L)):=iO xs hr
 refine oP (iO _ hr) (nC h1) (fun d=>?_)
 rw [pJ h1]
 show d ∈ (ins c xs).foldl (fun o c=>ins c o) (cQ L)↔d=c∨(d ∈ xs.foldl (fun o c=>ins c o) (cQ L)∧cc c d≠0)
 rw [iR hi hr,iR hx hr,pJ hx]
 constructor
 ·
  rintro ((h | ⟨h,h0⟩) | ⟨h,h0⟩)
  ·
   exact .inl h
  ·
   exact .inr ⟨.inl h,h0⟩
  ·
   refine .inr ⟨.inr ⟨h,fun e he he0=>?_⟩,h0 c (oK c xs)⟩
   by_cases hec:cc e c=0
   ·
    exact h0 c (oK c xs) (by rw [←lE hec];exact he0)
   ·
    exact h0 e (qR hec he) he0
 ·
  rintro (h | ⟨h | ⟨h,h0⟩,hc⟩)
  ·
   exact .inl (.inl h)
  ·
   exact .inl (.inr ⟨h,hc⟩)
  ·
   refine .inr ⟨h,fun e he=>?_⟩
   rcases ny he with rfl | he
   ·
    exact hc
   ·
    exact h0 e he
theorem Ei {s1:Int} {c:Cell} (hM:Makes s P (p+1)) (hp:p+1≤420) (h3:1≤s3) (hc:fS c=true) (hw:P c) (h:gb P p xs n ls) (hl:ls.length+2≤1000000) (hfull:(xs :: tl ls).any (rL c.f0 c.f1 c.f2)=true∨(cQ (xs :: tl ls)).length≠400) :
  ∃ xs' n' ls',Ev (fun k=>cL.f k s1 s s3 xs n ls c.f0 c.f1 c.f2 c.f3 c.f4) (xs',n',ls',0)∧gb P (p+1) xs' n' ls'∧cQ (xs' :: tl ls')=ins c (cQ (xs :: tl ls))∧ls'.length≤ls.length+2:=by
 obtain ⟨_,z1,_,z2,_⟩:=g_.1 hc
 have hf:=h.few
 have hI:gb P (p+1) (ins c xs) (fV (ins c xs)) ls:=⟨Ee hc h.srt,rfl,h.tab,by
  have:=h.tot
  have:=ow c xs
  rw [gI] at *
  omega,fun l hl d hd=>by
  rcases List.mem_cons.1 hl with rfl | hl
  ·
   exact (ny hd).elim (fun e=>e▸hw) (h.wid xs List.mem_cons_self d)
  ·
   exact h.wid l (List.mem_cons_of_mem _ hl) d hd⟩
 have hrf:cQ (ins c xs :: tl ls)=ins c (cQ (xs :: tl ls)):=DX h.srt.2 (vM h.pN)
 have hput:=AR c h.srt h.siz (by omega)
 rw [if_pos hc] at hput
 have htail:∃ xs' n' ls',Ev (fun k=>cL.tail k s1 s s3 xs n ls c.f0 c.f1 c.f2 c.f3 c.f4) (xs',n',ls',0)∧gb P (p+1) xs' n' ls'∧cQ (xs' :: tl ls')=ins c (cQ (xs :: tl ls))∧ls'.length≤ls.length+2:=by
  unfold cL.tail
  by_cases hs:s1≤fV (ins c xs)
  ·
   obtain ⟨r,e1,e2,e3,e4⟩:=C3 hM (by omega) h3 hI (fun e=>by have:=oK c xs;rw [e] at this;cases this) hl
   exact ⟨[],0,r,Ev.bind hput (Ev.pos hs (Ev.bind e1 (Ev.now _))),e2,e3.trans hrf,e4⟩
  ·
   exact ⟨ins c xs,fV (ins c xs),ls,Ev.bind hput (Ev.neg hs (Ev.now _)),hI,hrf,by omega⟩
 obtain ⟨xs',n',ls',e1,e2,e3,e4⟩:=htail
 refine ⟨xs',n',ls',?_,e2,e3,e4⟩
 unfold cL.f
 rw [l9,show iP c.f0 c.f1 c.f2 c.f3 c.f4=true from hc]
 have hv:=ET h (by omega) c.f0 c.f1 c.f2 (by omega) (by omega)
 refine Ev.bind (Ev.now _) (Ev.pos rfl (Ev.bind hv ?_))
 cases hk:(xs :: tl ls).any (rL c.f0 c.f1 c.f2) with
 | true=>exact Ev.pos rfl e1
 | false=>
  rw [hk] at hfull
  refine Ev.neg Bool.false_ne_true (Ev.bind (oW h (by omega)) (Ev.neg ?_ e1))
  have:=hfull.resolve_left Bool.false_ne_true
  omega
end
theorem vS (r c:ByteArray) (t:Int) (v:ByteArray) (g:Bool):f_.f r c t v g=some (iP r c t v g):=by
 unfold f_.f
 simp only [toList_nil]
 split
 ·
  exact fX (by rw [ep];simp only [Bool.false_eq_true,false_iff];omega)
 split
 ·
  exact fX (by rw [ep];simp only [Bool.false_eq_true,false_iff];omega)
 split
 ·
  exact fX (by rw [ep];simp only [Bool.false_eq_true,false_iff];omega)
 split
 ·
  exact fX (by rw [ep];simp only [Bool.false_eq_true,false_iff];omega)
 split
 ·
  exact fX (by rw [ep];simp only [Bool.false_eq_true,false_iff];omega)
 split
 ·
  exact fX (by rw [ep];simp only [Bool.false_eq_true,false_iff];omega)
 split
 ·
  split
  ·
   exact fX (by rename_i h;rw [ep,decide_eq_true_iff];exact ⟨fun hz=>⟨by omega,by omega,by omega,by omega,by omega,by omega,by omega,.inr hz⟩,fun hh=>hh.2.2.2.2.2.2.2.elim (fun e=>by rw [h] at e;cases e) id⟩)
  ·
   exact fX (by rename_i h;rw [ep];exact ⟨fun _=>⟨by omega,by omega,by omega,by omega,by omega,by omega,by omega,.inl (by simpa using h)⟩,fun _=>rfl⟩)
 ·
  exact fX (by rw [ep];simp only [Bool.false_eq_true,false_iff];omega)
def wW (l:List Cell):Bool:=decide (l.length≤80) && l.all fS
theorem Db {l:List Cell}:wW l=true↔l.length≤80∧gV l:=by
 unfold wW gV
 rw [Bool.and_eq_true,decide_eq_true_iff,List.all_eq_true]
theorem zN (l:List Cell) (hn:l.length≤1000000000) (d:Nat):∀ i:Nat,i≤l.length→l.length - i=d→Ev (fun k=>bQ.l0 k l (i:Int)) ((l.drop i).all fS):=by
 induction d with
 | zero=>
  intro i hi hd
  rw [List.drop_eq_nil_of_le (by omega)]
  refine Ev.step (f:=fun _=>some true) (fun k=>?_) (Ev.now _)
  simp only [bQ.l0]
  rw [if_neg (by omega)]
 | succ d ih=>
  intro i hi hd
  have hlt:i<l.length:=by omega
  rw [List.drop_eq_getElem_cons hlt,List.all_cons]
  have hr:=fQ l i hlt
  unfold lP at hr
  have hk:∀ k,bQ.l0 (k+1) l (i:Int)=if fS l[i]=true then bQ.l0 k l ((i+1:Nat):Int) else some false:=by
   intro k
   simp only [bQ.l0]
   rw [if_pos (by omega),if_pos (by omega),hr,vS,fU (by omega) (by omega)]
   rfl
  cases hc:fS l[i] with
  | true=>
   refine Ev.step (f:=fun k=>bQ.l0 k l ((i+1:Nat):Int)) (fun k=>by rw [hk,if_pos hc]) ?_
   rw [Bool.true_and]
   exact ih (i+1) (by omega) (by omega)
  | false=>exact Ev.step (f:=fun _=>some false) (fun k=>by rw [hk,if_neg (by rw [hc];exact Bool.false_ne_true)]) (Ev.now _)
theorem Ae {l:List Cell}:Ev (fun k=>bQ.f k l) (wW l):=by
 unfold bQ.f wW
 by_cases h:l.length≤80
 ·
  rw [decide_eq_true h,Bool.true_and]
  refine Ev.neg (by omega) ?_
  have:=zN l (by omega) l.length 0 (by omega) (by omega)
  rw [List.drop_zero] at this
  exact this
 ·
  rw [decide_eq_false h,Bool.false_and]
  exact Ev.pos (by omega) (Ev.now _)
theorem C2:Ev (fun k=>cS.f k) true:=Ev.of (fun k=>cS.mono k) (k:=200) (by kernel_rfl)
def lU (a b c:Int):Prop:=1≤a∧a≤4096∧1≤b∧b≤4096∧1≤c∧c≤8
instance (a b c:Int):Decidable (lU a b c):=by unfold lU;infer_instance
theorem CN (a b c:Int):fZ.f a b c=some (decide (lU a b c)):=by
 unfold fZ.f
 (repeat' split)<;>(congr 1;rw [eq_comm];first | (rw [decide_eq_false_iff_not];unfold lU;omega) | (rw [Bool.eq_iff_iff,decide_eq_true_iff,decide_eq_true_iff];unfold lU;omega))
theorem zR {a b:Int} (h:1≤a):fB.f a b=some (decide (a≤b)):=by
 unfold fB.f
 rw [if_pos h]
theorem EC {a b c:Int} (h:lU a b c):ak.f a b c=some true:=by
 obtain ⟨h1,h2,h3,h4,h5,h6⟩:=h
 unfold ak.f
 rw [zR h1,zR h3,zR h5,decide_eq_true h2,decide_eq_true h4,decide_eq_true h6]
 rfl
def PR (c:Cell):Prop:=(jq c).length≤401
theorem Es {a b c:Int} (h:lU a b c) {N:Nat} (hN:N≤100):Makes b PR N:=Dx (W:=401) h.2.2.1 h.2.2.2.1 (by omega) (by omega) (fun _ h=>h)
theorem D3 {P:Cell→Prop} {p q:Nat} {xs:List Cell} {n:Int} {ls:List (List jY)} (h:gb P p xs n ls) (hq:p≤q):gb P q xs n ls:=⟨h.srt,h.siz,h.tab,Nat.le_trans h.tot hq,h.wid⟩
theorem BS {a b c:Int} (hs:lU a b c) {p:Nat} (hp:p+1≤100) {d:Cell} (hd:fS d=true) {xs:List Cell} {n:Int} {ls:List (List jY)} (h:gb PR p xs n ls) (hl:ls.length+2≤1000000) :
  ∃ xs' n' ls',Ev (fun k=>cL.f k a b c xs n ls d.f0 d.f1 d.f2 d.f3 d.f4) (xs',n',ls',0)∧gb PR (p+1) xs' n' ls'∧cQ (xs' :: tl ls')=ins d (cQ (xs :: tl ls))∧ls'.length≤ls.length+2:=
 Ei (Es hs hp) (by omega) hs.2.2.2.2.1 hd (zl hd) h hl (.inr (by
  have:=mh (xs :: tl ls)
  have:=h.tot
  omega))
abbrev St:=List Cell × Int × List (List jY)
theorem C9 {p:Nat}:gb PR p [] 0 []:=⟨zL,by simp [fV],fun l hl=>(by cases hl),Nat.zero_le _,fun l hl c hc=>by
 rcases List.mem_cons.1 hl with rfl | hl
 ·
  cases hc
 ·
  cases hl⟩
def tL (l:List Cell) (t:Int) (x:Cell):Prop:=x.f2≤t∧∀ y ∈ l,y.f0=x.f0→y.f1=x.f1→y.f2≤t→y.f2≤x.f2
instance (l:List Cell) (t:Int) (x:Cell):Decidable (tL l t x):=by unfold tL;infer_instance
def uz (p c:Cell):Bool:=decide (p.f0=c.f0∧p.f1=c.f1)
def rS (t:Int):Option Cell→Cell→Bool
 | none,_=>true
 | some p,c=>!(uz p c) || decide (p.f2 > t)
theorem xV {a b:Cell} (h:cc a b = -1) (h0:a.f0=b.f0) (h1:a.f1=b.f1):b.f2<a.f2:=by
 rw [qo h0 h1,oH] at h
 exact h
theorem EF {x p c:Cell} (h1:cc x p = -1) (h2:cc p c = -1) (e0:x.f0=c.f0) (e1:x.f1=c.f1):p.f0=c.f0∧p.f1=c.f1:=by
 refine Classical.byContradiction fun hn=>?_
 have h:=tv (x:=p) (y:=x) (z:=c) e0 e1 (fun h=>hn ⟨h.1.trans e0,h.2.trans e1⟩)
 have:=nU x p
 omega
theorem Az {a b:List Cell} {c:Cell} (t:Int) (h:fj (a++c :: b)) (ht:c.f2≤t):rS t a.getLast? c=decide (tL (a++c :: b) t c):=by
 obtain ⟨ha,hcb,hx⟩:=List.pairwise_append.1 h
 obtain ⟨hcb,_⟩:=List.pairwise_cons.1 hcb
 have hback:∀ y ∈ b,y.f0=c.f0→y.f1=c.f1→y.f2≤c.f2:=fun y hy e0 e1=>Int.le_of_lt (xV (hcb y hy) e0.symm e1.symm)
 rcases List.eq_nil_or_concat a with rfl | ⟨a',p,rfl⟩
 ·
  rw [eq_comm,show rS t ([]:List Cell).getLast? c=true from rfl,decide_eq_true_iff]
  refine ⟨ht,fun y hy e0 e1 _=>?_⟩
  rcases List.mem_cons.1 hy with rfl | hy
  ·
   exact Int.le_refl _
  ·
   exact hback y hy e0 e1
 ·
  simp only [List.concat_eq_append] at *
  have hl:(a'++[p]).getLast? = some p:=by simp
  rw [hl]
  have hpc:cc p c = -1:=hx p (by simp) c (by simp)
  obtain ⟨_,_,hap⟩:=List.pairwise_append.1 ha
  cases hn:rS t (some p) c with
  | true=>
   rw [eq_comm,decide_eq_true_iff]
   refine ⟨ht,fun y hy e0 e1 hyt=>?_⟩
   rcases List.mem_append.1 hy with hy | hy
   ·
    exfalso
    unfold rS uz at hn
    have hp:p.f0=c.f0∧p.f1=c.f1∧p.f2≤t:=by
     rcases List.mem_append.1 hy with hy | hy
     ·
      have h1:=hap y hy p (by simp)
      have h2:=EF h1 hpc e0 e1
      have:=xV h1 (e0.trans h2.1.symm) (e1.trans h2.2.symm)
      exact ⟨h2.1,h2.2,by omega⟩
     ·
      obtain rfl:=List.mem_singleton.1 hy
      exact ⟨e0,e1,hyt⟩
    simp only [Bool.or_eq_true,Bool.not_eq_true',decide_eq_false_iff_not,decide_eq_true_iff] at hn
    rcases hn with hn | hn
    ·
     exact hn ⟨hp.1,hp.2.1⟩
    ·
     omega
   ·
    rcases List.mem_cons.1 hy with rfl | hy
    ·
     exact Int.le_refl _
    ·
     exact hback y hy e0 e1
  | false=>
   rw [eq_comm,decide_eq_false_iff_not]
   unfold rS uz at hn
   simp only [Bool.or_eq_false_iff,Bool.not_eq_false',decide_eq_true_iff,decide_eq_false_iff_not] at hn
   obtain ⟨⟨e0,e1⟩,h2⟩:=hn
   intro hN
   have h3:=hN.2 p (by simp) e0 e1 (by omega)
   have h4:=xV hpc e0 e1
   omega
def mK (F:Bool→Cell→Bool) (t:Int):Option Cell→List Cell→List Cell
 | _,[]=>[]
 | p,c :: l=>if F (rS t p c) c=true then c :: mK F t (some c) l else mK F t (some c) l
theorem yp (F:Bool→Cell→Bool) (t:Int) (hF:∀ c:Cell,¬ c.f2≤t→F true c=F false c):∀ (b a:List Cell),fj (a++b)→mK F t a.getLast? b=b.filter (fun c=>F (decide (tL (a++b) t c)) c)
 | [],_,_=>rfl
 | c :: b,a,h=>by
  have ih:=yp F t hF b (a++[c]) (by simpa using h)
  rw [show (a++[c]).getLast? = some c by simp,show a++[c]++b=a++c :: b by simp] at ih
  have he:F (rS t a.getLast? c) c=F (decide (tL (a++c :: b) t c)) c:=by
   by_cases hc:c.f2≤t
   ·
    rw [Az t h hc]
   ·
    have h1:=hF c hc
    cases rS t a.getLast? c<;>cases decide (tL (a++c :: b) t c)<;>simp_all
  unfold mK
  rw [List.filter_cons,he,ih]
def mP (t:Int) (n:Bool) (c:Cell):Bool:=decide (c.f2≤t) && (n && !c.f4)
def zU (l:List Cell) (t:Int):List Cell:=l.filter (fun c=>mP t (decide (tL l t c)) c)
theorem CF {l:List Cell} (t:Int) (h:fj l):mK (mP t) t none l=zU l t:=
 yp (mP t) t (fun c hc=>by simp [mP,hc]) l [] h
theorem Cu (l:List Cell) (t:Int):(zU l t).Sublist l:=List.filter_sublist
theorem EZ (a b:Cell):aU.sm a b=uz a b:=by
 unfold aU.sm uz
 rw [Bool.eq_iff_iff,Bool.and_eq_true,beq_iff_eq,beq_iff_eq,decide_eq_true_iff]
 exact ⟨fun h=>⟨toList_inj h.1,toList_inj h.2⟩,fun h=>by rw [h.1,h.2];exact ⟨rfl,rfl⟩⟩
theorem yu {l:List Cell} {i:Nat} (h:i<l.length):aU.at_ l i=l[i]:=fQ l i h
theorem yo (l:List Cell) (t:Int):∀ i,i≤l.length→aU.pre l t i++mK (mP t) t (if i=0 then none else l[i - 1]?) (l.drop i)=mK (mP t) t none l
 | 0,_=>by simp [aU.pre]
 | i+1,hi=>by
  have hlt:i<l.length:=hi
  have hk:aU.keep l t i=mP t (rS t (if i=0 then none else l[i - 1]?) l[i]) l[i]:=by
   unfold aU.keep aU.nw mP
   rw [yu hlt]
   by_cases h0:i=0
   ·
    rw [if_pos h0,decide_eq_true h0]
    rfl
   ·
    rw [if_neg h0,decide_eq_false h0,yu (show i - 1<l.length by omega),List.getElem?_eq_getElem (show i - 1<l.length by omega),EZ]
    rfl
  have e:mK (mP t) t (if i=0 then none else l[i - 1]?) (l[i] :: l.drop (i+1))=if mP t (rS t (if i=0 then none else l[i - 1]?) l[i]) l[i]=true then l[i] :: mK (mP t) t (some l[i]) (l.drop (i+1)) else mK (mP t) t (some l[i]) (l.drop (i+1)):=rfl
  rw [←yo l t i (by omega),List.drop_eq_getElem_cons hlt,e,if_neg (Nat.succ_ne_zero i),Nat.add_sub_cancel,List.getElem?_eq_getElem hlt,aU.pre,hk,yu hlt]
  generalize mP t (rS t (if i=0 then none else l[i - 1]?) l[i]) l[i]=b
  cases b with
  | true=>rw [if_pos rfl,if_pos rfl,List.append_assoc];rfl
  | false=>rw [if_neg Bool.false_ne_true,if_neg Bool.false_ne_true,List.append_nil]
theorem sS {l:List Cell} (t:Int) (hn:l.length≤1000000000) (h:fj l):Ev (fun k=>aU.f k l t) (zU l t):=by
 have e:=yo l t l.length (Nat.le_refl _)
 rw [List.drop_length,show mK (mP t) t (if l.length=0 then none else l[l.length - 1]?) []=[] from rfl,List.append_nil,CF t h] at e
 exact Ev.pos (by omega) ((Ev.now _).to e)
section
variable {a b:ByteArray} {t:Int} {l m:List Cell}
end
section
variable {P:Cell→Prop} {p:Nat} {xs:List Cell} {n:Int} {ls:List (List jY)} {a b:ByteArray} {t:Int}
theorem yN (h:gb P p xs n ls) (hp:p≤900):Ev (fun k=>cE.f k xs ls a b t) ((zU (cQ (xs :: tl ls)) t).filter (cE.keep a b)):=by
 have hl:=mh (xs :: tl ls)
 have ht:=h.tot
 have hv:=List.Sublist.length_le (Cu (cQ (xs :: tl ls)) t)
 unfold cE.f
 exact Ev.bind (oW h hp) (Ev.bind (sS t (by omega) (jP h.pN)) (Ev.pos (by omega) (Ev.now _)))
end
theorem tg (s:ByteArray):s.toList.length=s.size:=by
 rw [ByteArray.toList_eq,Array.length_toList]
 rfl
theorem lK (s:ByteArray) (i:Nat) (h:i<s.toList.length):bt s (i:Int)=((s.toList[i]).toNat:Int):=by
 have hs:i<s.size:=by rw [tg] at h;exact h
 unfold bt
 rw [dif_pos (by simpa using hs)]
 simp only [Int.toNat_natCast,ByteArray.toList_eq]
 rfl
theorem xM (a b:ByteArray) (ha:a.size≤140737488355328) (d:Nat):∀ i:Nat,i≤a.size→i≤b.size→a.size - i=d→Ev (fun k=>aH.l0 k a b (i:Int)) (iS (a.toList.drop i) (b.toList.drop i)):=by
 have la:=tg a
 have lb:=tg b
 induction d with
 | zero=>
  intro i h1 h2 hd
  rw [List.drop_eq_nil_of_le (show a.toList.length≤i by omega)]
  refine Ev.step (f:=fun k=>aH.j1 k a b (i:Int) false) (fun k=>?_) ?_
  ·
   simp only [aH.l0]
   rw [if_neg (by omega)]
  by_cases hl:b.size=i
  ·
   rw [List.drop_eq_nil_of_le (show b.toList.length≤i by omega)]
   refine Ev.step (f:=fun _=>some 0) (fun k=>?_) (Ev.now _)
   simp only [aH.j1,Bool.false_eq_true,if_false]
   rw [if_neg (by omega),if_neg (by omega)]
  ·
   rw [List.drop_eq_getElem_cons (by omega)]
   refine Ev.step (f:=fun _=>some (-1)) (fun k=>?_) (Ev.now _)
   simp only [aH.j1,Bool.false_eq_true,if_false]
   rw [if_pos (by omega)]
 | succ d ih=>
  intro i h1 h2 hd
  have hia:i<a.toList.length:=by omega
  rw [List.drop_eq_getElem_cons hia]
  by_cases hl:b.size=i
  ·
   rw [List.drop_eq_nil_of_le (show b.toList.length≤i by omega)]
   refine Ev.step (f:=fun k=>aH.j1 k a b (i:Int) false) (fun k=>?_) ?_
   ·
    simp only [aH.l0]
    rw [if_pos (by omega),decide_eq_false (by omega)]
   refine Ev.step (f:=fun _=>some 1) (fun k=>?_) (Ev.now _)
   simp only [aH.j1,Bool.false_eq_true,if_false]
   rw [if_neg (by omega),if_pos (by omega)]
  ·
   have hib:i<b.toList.length:=by omega
   rw [List.drop_eq_getElem_cons hib]
   refine Ev.step (f:=fun k=>aH.j1 k a b (i:Int) true) (fun k=>?_) ?_
   ·
    simp only [aH.l0]
    rw [if_pos (by omega),decide_eq_true (by omega)]
   have ba:=lK a i hia
   have bb:=lK b i hib
   unfold iS
   by_cases c1:a.toList[i]<b.toList[i]
   ·
    rw [if_pos c1]
    have:=UInt8.lt_iff_toNat_lt.1 c1
    refine Ev.step (f:=fun _=>some (-1)) (fun k=>?_) (Ev.now _)
    simp only [aH.j1,if_true]
    rw [if_pos (by omega),if_pos (by omega),if_pos (by omega),if_pos (by omega)]
   ·
    rw [if_neg c1]
    have n1:¬ (a.toList[i]).toNat<(b.toList[i]).toNat:=fun h=>c1 (UInt8.lt_iff_toNat_lt.2 h)
    by_cases c2:b.toList[i]<a.toList[i]
    ·
     rw [if_pos c2]
     have:=UInt8.lt_iff_toNat_lt.1 c2
     refine Ev.step (f:=fun _=>some 1) (fun k=>?_) (Ev.now _)
     simp only [aH.j1,if_true]
     rw [if_pos (by omega),if_pos (by omega),if_pos (by omega),if_neg (by omega),if_pos (by omega)]
    ·
     rw [if_neg c2]
     have n2:¬ (b.toList[i]).toNat<(a.toList[i]).toNat:=fun h=>c2 (UInt8.lt_iff_toNat_lt.2 h)
     refine Ev.step (f:=fun k=>aH.l0 k a b ((i+1:Nat):Int)) (fun k=>?_) (ih (i+1) (by omega) (by omega) (by omega))
     simp only [aH.j1,if_true]
     rw [if_pos (by omega),if_pos (by omega),if_pos (by omega),if_neg (by omega),if_neg (by omega),fU (by omega) (by omega)]
     rfl
theorem rD {a b:ByteArray} (ha:a.size≤140737488355328):Ev (fun k=>aH.f k a b) (gO a b):=by
 unfold aH.f
 have:=xM a b ha a.size 0 (by omega) (by omega) (by omega)
 exact this
theorem ur {r c:ByteArray} {t:Int} {v:ByteArray} {g:Bool} {r' c':ByteArray} {t':Int} {v':ByteArray} {g':Bool} (h1:r.size≤140737488355328) (h2:c.size≤140737488355328):Ev (fun k=>cT.f k r c t v g r' c' t' v' g') (kD r c t r' c' t'):=by
 unfold cT.f kD
 by_cases e1:r.toList=r'.toList
 ·
  have z1:gO r r'=0:=kZ.2 e1
  rw [if_pos z1]
  refine Ev.pos e1 ?_
  by_cases e2:c.toList=c'.toList
  ·
   have z2:gO c c'=0:=kZ.2 e2
   rw [if_pos z2]
   refine Ev.pos e2 ?_
   unfold kP
   by_cases k1:t'<t
   ·
    simp only [gt_iff_lt,k1,if_true]
    exact Ev.now _
   ·
    by_cases k2:t<t'
    ·
     simp only [gt_iff_lt,k1,k2,if_true,if_false]
     exact Ev.now _
    ·
     simp only [gt_iff_lt,k1,k2,if_false]
     exact Ev.now _
  ·
   have z2:¬ gO c c'=0:=fun h=>e2 (kZ.1 h)
   rw [if_neg z2]
   exact Ev.neg e2 (Ev.bind (rD h2) (Ev.now _))
 ·
  have z1:¬ gO r r'=0:=fun h=>e1 (kZ.1 h)
  rw [if_neg z1]
  exact Ev.neg e1 (Ev.bind (rD h1) (Ev.now _))
theorem vK {a:Cell} (h:lX a) (b:Cell):Ev (fun k=>cT.f k a.f0 a.f1 a.f2 a.f3 a.f4 b.f0 b.f1 b.f2 b.f3 b.f4) (cc a b):=ur h.1 h.2
theorem yO (l:List Cell) (c:Cell) (hs:∀ x ∈ l,lX x) (hn:l.length≤1000000000) (d:Nat):∀ i:Nat,i≤l.length→l.length - i=d→(∀ j (_:j<i) (hl:j<l.length),cc l[j] c = -1)→Ev (fun k=>av.l0 k l (i:Int) c.f0 c.f1 c.f2 c.f3 c.f4) (ins c l):=by
 have hj2:∀ i:Nat,i≤l.length→(∀ j (_:j<i) (hl:j<l.length),cc l[j] c = -1)→(∀ h:i<l.length,¬ cc l[i] c = -1)→Ev (fun k=>av.j1 k l (i:Int) false c.f0 c.f1 c.f2 c.f3 c.f4) (ins c l):=by
  intro i hi h1 h2
  rw [rV c l i hi h1 h2]
  by_cases hlt:i<l.length
  ·
   have hr:=fQ l i hlt
   unfold lP at hr
   refine Ev.step (fun k=>by simp only [av.j1,Bool.false_eq_true,if_false];rw [if_pos (by omega),if_pos (by omega),Option.bind_some,if_pos (by omega),hr]) (Ev.bind (vK (hs _ (List.getElem_mem hlt)) c) ?_)
   rw [dif_pos hlt]
   by_cases h0:cc l[i] c=0
   ·
    rw [if_pos h0,h0]
    refine Ev.step (f:=fun _=>some (l.take i++c :: l.drop (i+1))) (fun k=>?_) (Ev.now _)
    simp only [av.j2,BEq.rfl,if_true]
    rw [fU (by omega) (by omega),if_pos (by omega),if_pos (by omega)]
    simp only [Option.bind_some]
    rw [if_pos (by omega),if_pos (by omega)]
    rw [Int.toNat_natCast,show ((i:Int)+1).toNat=i+1 by omega]
    have t1:(l.take i).length=i:=by rw [List.length_take];omega
    have t2:(l.drop (i+1)).length=l.length - (i+1):=List.length_drop
    rw [if_pos (by rw [List.length_nil,t1];omega),if_pos (by simp only [List.length_append,List.length_nil,List.length_cons,t1];omega),if_pos (by simp only [List.length_append,List.length_nil,List.length_cons,t1,t2];omega)]
    simp
   ·
    rw [if_neg h0,show (cc l[i] c == 0)=false by simpa using h0]
    refine Ev.step (f:=fun _=>some (l.take i++c :: l.drop i)) (fun k=>?_) (Ev.now _)
    simp only [av.j2,Bool.false_eq_true,if_false,Option.bind_some]
    rw [if_pos (by omega),if_pos (by omega),Int.toNat_natCast]
    have t1:(l.take i).length=i:=by rw [List.length_take];omega
    have t2:(l.drop i).length=l.length - i:=List.length_drop
    rw [if_pos (by rw [List.length_nil,t1];omega),if_pos (by simp only [List.length_append,List.length_nil,List.length_cons,t1];omega),if_pos (by simp only [List.length_append,List.length_nil,List.length_cons,t1,t2];omega)]
    simp
  ·
   rw [dif_neg hlt]
   refine Ev.step (fun k=>by simp only [av.j1,Bool.false_eq_true,if_false];rw [if_pos (by omega),if_pos (by omega),Option.bind_some,if_neg (by omega)]) ?_
   refine Ev.step (f:=fun _=>some (l.take i++c :: l.drop i)) (fun k=>?_) (Ev.now _)
   simp only [av.j2,Bool.false_eq_true,if_false,Option.bind_some]
   rw [if_pos (by omega),if_pos (by omega),Int.toNat_natCast]
   have t1:(l.take i).length=i:=by rw [List.length_take];omega
   have t2:(l.drop i).length=l.length - i:=List.length_drop
   rw [if_pos (by rw [List.length_nil,t1];omega),if_pos (by simp only [List.length_append,List.length_nil,List.length_cons,t1];omega),if_pos (by simp only [List.length_append,List.length_nil,List.length_cons,t1,t2];omega)]
   simp
 induction d with
 | zero=>
  intro i hi hd h1
  refine Ev.step (f:=fun k=>av.j1 k l (i:Int) false c.f0 c.f1 c.f2 c.f3 c.f4) (fun k=>?_) (hj2 i hi h1 (fun h=>by omega))
  simp only [av.l0]
  rw [if_neg (by omega)]
 | succ d ih=>
  intro i hi hd h1
  have hlt:i<l.length:=by omega
  have hr:=fQ l i hlt
  unfold lP at hr
  refine Ev.step (fun k=>by simp only [av.l0];rw [if_pos (by omega),if_pos (by omega),hr]) (Ev.bind (vK (hs _ (List.getElem_mem hlt)) c) ?_)
  by_cases h0:cc l[i] c = -1
  ·
   rw [h0]
   refine Ev.step (f:=fun k=>av.l0 k l ((i+1:Nat):Int) c.f0 c.f1 c.f2 c.f3 c.f4) (fun k=>?_) (ih (i+1) (by omega) (by omega) (fun j hj hl=>?_))
   ·
    simp only [av.j1,BEq.rfl,if_true]
    rw [fU (by omega) (by omega)]
    rfl
   ·
    by_cases hji:j=i
    ·
     subst hji;exact h0
    ·
     exact h1 j (by omega) hl
  ·
   rw [show (cc l[i] c == -1)=false by simpa using h0]
   exact hj2 i hi h1 (fun _=>h0)
theorem yU {l:List Cell} (c:Cell) (hs:∀ x ∈ l,lX x) (hn:l.length≤1000000000):Ev (fun k=>av.f k l c.f0 c.f1 c.f2 c.f3 c.f4) (ins c l):=by
 unfold av.f
 exact yO l c hs hn l.length 0 (by omega) (by omega) (fun j hj=>by omega)
theorem BF {c:Cell} {l:List Cell} (hc:lX c) (h:∀ x ∈ l,lX x):∀ x ∈ ins c l,lX x:=fun x hx=>(ny hx).elim (fun e=>e▸hc) (h x)
theorem yR (l:List Cell) (hs:∀ x ∈ l,lX x) (hn:l.length≤500000000) (d:Nat):∀ (i:Nat) (o:List Cell),i≤l.length→l.length - i=d→(∀ x ∈ o,lX x)→o.length≤i→Ev (fun k=>cg.l0 k l o (i:Int)) ((l.drop i).foldl (fun o c=>ins c o) o):=by
 induction d with
 | zero=>
  intro i o hi hd ho hl
  rw [List.drop_eq_nil_of_le (by omega)]
  refine Ev.step (f:=fun _=>some o) (fun k=>?_) (Ev.now _)
  simp only [cg.l0]
  rw [if_neg (by omega)]
 | succ d ih=>
  intro i o hi hd ho hl
  have hlt:i<l.length:=by omega
  have hr:=fQ l i hlt
  unfold lP at hr
  rw [List.drop_eq_getElem_cons hlt,List.foldl_cons]
  refine Ev.step (fun k=>by simp only [cg.l0];rw [if_pos (by omega),if_pos (by omega),hr]) (Ev.bind (yU l[i] ho (by omega)) ?_)
  rw [fU (by omega) (by omega)]
  have:=ow l[i] o
  exact ih (i+1) _ (by omega) (by omega) (BF (hs _ (List.getElem_mem hlt)) ho) (by omega)
theorem yK {l:List Cell} (hs:∀ x ∈ l,lX x) (hn:l.length≤500000000):Ev (fun k=>cg.f k l) (tP l):=by
 unfold cg.f tP
 have:=yR l hs hn l.length 0 [] (by omega) (by omega) (fun x hx=>by cases hx) (by simp)
 rw [List.drop_zero] at this
 exact this
theorem Cr (l:List Cell) (hl:l.length≤1000000000) (d:Nat):∀ i:Nat,i≤l.length→l.length - i=d→Ev (fun k=>bW.l0 k l l (i:Int)) true:=by
 induction d with
 | zero=>
  intro i hi hd
  refine Ev.step (f:=fun _=>some true) (fun k=>?_) (Ev.now _)
  simp only [bW.l0]
  rw [if_neg (by omega)]
 | succ d ih=>
  intro i hi hd
  refine Ev.step (f:=fun k=>bW.l0 k l l ((i+1:Nat):Int)) (fun k=>?_) (ih (i+1) (by omega) (by omega))
  simp only [bW.l0]
  rw [if_pos (by omega),if_pos (by omega),if_pos (by omega),if_neg (by simp),fU (by omega) (by omega)]
  rfl
theorem CM {l m:List Cell} (e:l=m) (hl:l.length≤1000000000):Ev (fun k=>bW.f k l m) true:=by
 subst e
 unfold bW.f
 exact Ev.pos rfl (Cr l hl l.length 0 (by omega) (by omega))
end Go.Proofs.YtcbhfedcdnjljaaGreat.Pl

import Derived.Lib.Strings
import Derived.Test.YtcbhfedcdnjljaaXx14
namespace Go.Proofs.Ytcbhfedcdnjljaa.Pl
open Go.RowKit Go.Proofs.YtcbhfedcdnjljaaW.PrintWords Go.Proofs.YtcbhfedcdnjljaaW.PrintMore
def Bytes (l:List Int):Prop:=∀ x ∈ l,0≤x∧x<256
theorem Bytes.nil:Bytes []:=fun _ h=>by cases h
theorem Bytes.append {a b:List Int} (ha:Bytes a) (hb:Bytes b):Bytes (a++b):=fun x hx=>(List.mem_append.1 hx).elim (ha x) (hb x)
theorem Bytes.take {a:List Int} (ha:Bytes a) (n:Nat):Bytes (a.take n):=fun x hx=>ha x (List.mem_of_mem_take hx)
theorem Bytes.drop {a:List Int} (ha:Bytes a) (n:Nat):Bytes (a.drop n):=fun x hx=>ha x (List.mem_of_mem_drop hx)
theorem Bytes.cons {x:Int} {l:List Int} (h0:0≤x) (h1:x<256) (h:Bytes l):Bytes (x :: l):=fun y hy=>(List.mem_cons.1 hy).elim (fun e=>e▸⟨h0,h1⟩) (h y)
theorem bytes_bytesOf (s:ByteArray):Bytes (bytesOf s):=by
 intro x hx
 obtain ⟨b,_,rfl⟩:=List.mem_map.1 hx
 have:=b.toNat_lt
 omega
theorem strOf_bytesOf (s:ByteArray):strOfNums (bytesOf s)=s:=by
 have h:((bytesOf s).map fun n=>UInt8.ofNat n.toNat)=s.data.toList:=by
  rw [bytesOf,List.map_map]
  conv=>rhs;rw [←List.map_id s.data.toList]
  refine List.map_congr_left fun b _=>?_
  simp
 unfold strOfNums
 rw [h]
theorem toList_inj {a b:ByteArray} (h:a.toList=b.toList):a=b:=by
 rw [ByteArray.toList_eq,ByteArray.toList_eq] at h
 obtain ⟨⟨a⟩⟩:=a
 obtain ⟨⟨b⟩⟩:=b
 simp at h
 rw [h]
theorem strOf_size (l:List Int):(strOfNums l).size=l.length:=by simp [strOfNums,ByteArray.size]
theorem size_zero_iff (s:ByteArray):s.size=0↔s=⟨#[]⟩:=by
 constructor
 ·
  intro h
  obtain ⟨a⟩:=s
  have:a.size=0:=h
  rw [Array.eq_empty_of_size_eq_zero this]
 ·
  rintro rfl;rfl
theorem w64 {x:Int} (h0 : -9223372036854775808≤x) (h1:x<9223372036854775808):wrap64 x=x:=by unfold wrap64;omega
theorem _root_.Go.Proofs.YtcbhfedcdnjljaaW.PrintWords.Ev.pos {α:Type} {c:Prop} [Decidable c] {f g:Nat→Option α} {r:α} (hc:c) (h:Ev f r):Ev (fun k=>if c then f k else g k) r:=by
 simpa only [if_pos hc] using h
theorem _root_.Go.Proofs.YtcbhfedcdnjljaaW.PrintWords.Ev.neg {α:Type} {c:Prop} [Decidable c] {f g:Nat→Option α} {r:α} (hc:¬ c) (h:Ev g r):Ev (fun k=>if c then f k else g k) r:=by
 simpa only [if_neg hc] using h
theorem _root_.Go.Proofs.YtcbhfedcdnjljaaW.PrintWords.Ev.eq {α:Type} {x:Option α} {r:α} (h:x=some r):Ev (fun _=>x) r:=by rw [h];exact Ev.now r
theorem _root_.Go.Proofs.YtcbhfedcdnjljaaW.PrintWords.Ev.to {α:Type} {g:Nat→Option α} {r r':α} (h:Ev g r) (e:r=r'):Ev g r':=e▸h
theorem four_form {α:Type} {b:List α} (h:4≤b.length):∃ x0 x1 x2 x3 r,b=x0 :: x1 :: x2 :: x3 :: r:=by
 match b,h with
 | x0 :: x1 :: x2 :: x3 :: r,_=>exact ⟨x0,x1,x2,x3,r,rfl⟩
def num (n:Int):List Int:=if n<0 then [] else if n > 4294967295 then [] else [n / 16777216 % 256,n / 65536 % 256,n / 256 % 256,n % 256]
def text (s:ByteArray):List Int:=num s.size++bytesOf s
def texts (l:List ByteArray):List Int:=num l.length++(l.map text).flatten
def val4 (b:List Int):Int:=16777216*rd b 0+65536*rd b 1+256*rd b 2+rd b 3
def cutNum (b:List Int):Int × List Int × Bool:=if b.length<4 then (0,[],false) else (val4 b,b.drop 4,true)
def cutText (b:List Int):ByteArray × List Int × Bool:=
 if b.length<4 then (⟨#[]⟩,[],false) else if val4 b > ((b.length - 4:Nat):Int) then (⟨#[]⟩,[],false) else (strOfNums ((b.drop 4).take (val4 b).toNat),(b.drop 4).drop (val4 b).toNat,true)
theorem num_in {n:Int} (h0:0≤n) (h1:n≤4294967295):num n=[n / 16777216 % 256,n / 65536 % 256,n / 256 % 256,n % 256]:=by
 unfold num
 rw [if_neg (by omega),if_neg (by omega)]
theorem num_length {n:Int} (h0:0≤n) (h1:n≤4294967295):(num n).length=4:=by rw [num_in h0 h1];rfl
theorem num_length_le (n:Int):(num n).length≤4:=by
 unfold num
 split
 ·
  simp
 ·
  split<;>simp
theorem bytes_num (n:Int):Bytes (num n):=by
 unfold num
 split
 ·
  exact Bytes.nil
 ·
  split
  ·
   exact Bytes.nil
  ·
   refine Bytes.cons ?_ ?_ (Bytes.cons ?_ ?_ (Bytes.cons ?_ ?_ (Bytes.cons ?_ ?_ Bytes.nil)))<;>omega
theorem val4_num {n:Int} (h0:0≤n) (h1:n≤4294967295) (r:List Int):val4 (num n++r)=n:=by
 rw [num_in h0 h1]
 simp [val4,rd]
 omega
theorem val4_nonneg {b:List Int} (h:Bytes b) (hl:4≤b.length):0≤val4 b∧val4 b≤4294967295:=by
 match b,hl with
 | x0 :: x1 :: x2 :: x3 :: r,_=>
  have h0:=h x0 (by simp)
  have h1:=h x1 (by simp)
  have h2:=h x2 (by simp)
  have h3:=h x3 (by simp)
  simp [val4,rd]
  omega
theorem num_val4 {b:List Int} (h:Bytes b) (hl:4≤b.length):num (val4 b)=b.take 4:=by
 obtain ⟨g0,g1⟩:=val4_nonneg h hl
 rw [num_in g0 g1]
 match b,hl with
 | x0 :: x1 :: x2 :: x3 :: r,_=>
  have h0:=h x0 (by simp)
  have h1:=h x1 (by simp)
  have h2:=h x2 (by simp)
  have h3:=h x3 (by simp)
  simp [val4,rd]
  omega
theorem text_length {s:ByteArray} (h:s.size≤4294967295):(text s).length=4+s.size:=by
 unfold text
 rw [List.length_append,num_length (by omega) (by omega),bytesOf_length]
theorem text_length_le (s:ByteArray):(text s).length≤4+s.size:=by
 unfold text
 rw [List.length_append,bytesOf_length]
 have:=num_length_le s.size
 omega
theorem bytes_text (s:ByteArray):Bytes (text s):=(bytes_num _).append (bytes_bytesOf s)
theorem cutNum_num {n:Int} (h0:0≤n) (h1:n≤4294967295) (r:List Int):cutNum (num n++r)=(n,r,true):=by
 unfold cutNum
 rw [if_neg (by rw [List.length_append,num_length h0 h1];omega),val4_num h0 h1]
 congr 2
 rw [←num_length h0 h1,List.drop_left]
theorem cutText_text {s:ByteArray} (h:s.size≤4294967295) (r:List Int):cutText (text s++r)=(s,r,true):=by
 have hl:=text_length h
 have hv:val4 (text s++r)=s.size:=by rw [text,List.append_assoc,val4_num (by omega) (by omega)]
 have hd:(text s++r).drop 4=bytesOf s++r:=by
  rw [text,List.append_assoc,← num_length (n:=(s.size:Int)) (by omega) (by omega),List.drop_left]
 unfold cutText
 rw [if_neg (by rw [List.length_append];omega),hv,hd,if_neg (by rw [List.length_append];omega)]
 have h2:((s.size:Int)).toNat=(bytesOf s).length:=by rw [bytesOf_length];rfl
 rw [h2,List.take_left,List.drop_left,strOf_bytesOf]
theorem cutText_rest_bytes {b:List Int} (hb:Bytes b):Bytes (cutText b).2.1:=by
 unfold cutText
 split
 ·
  exact Bytes.nil
 ·
  split
  ·
   exact Bytes.nil
  ·
   exact (hb.drop 4).drop _
def cmpB:List UInt8→List UInt8→Int
 | [],[]=>0
 | [],_ :: _=>-1
 | _ :: _,[]=>1
 | x :: a,y :: b=>if x<y then -1 else if y<x then 1 else cmpB a b
theorem u8_asymm {x y:UInt8} (h:x<y):¬ y<x:=fun h2=>absurd (UInt8.lt_trans h h2) (UInt8.lt_irrefl x)
theorem u8_eq {x y:UInt8} (h:¬ x<y) (h2:¬ y<x):x=y:=UInt8.le_antisymm (UInt8.not_lt.1 h2) (UInt8.not_lt.1 h)
theorem cmpB_less:∀ a b:List UInt8,cmpB a b=if Op.bytesLess a b=true then -1 else if Op.bytesLess b a=true then 1 else 0
 | [],[]=>rfl
 | [],_ :: _=>rfl
 | _ :: _,[]=>rfl
 | x :: a,y :: b=>by
  have ih:=cmpB_less a b
  by_cases h1:x<y
  ·
   simp [cmpB,Op.bytesLess,h1]
  ·
   by_cases h2:y<x
   ·
    have h3:¬ x=y:=fun h=>by rw [h] at h2;exact UInt8.lt_irrefl y h2
    simp [cmpB,Op.bytesLess,h1,h2,h3]
   ·
    have h3:=u8_eq h1 h2
    subst h3
    simp only [cmpB,Op.bytesLess,h1,decide_false,Bool.false_or,beq_self_eq_true,Bool.true_and]
    exact ih
theorem cmpB_in:∀ a b:List UInt8,cmpB a b = -1∨cmpB a b=0∨cmpB a b=1
 | [],[]=>.inr (.inl rfl)
 | [],_ :: _=>.inl rfl
 | _ :: _,[]=>.inr (.inr rfl)
 | x :: a,y :: b=>by
  unfold cmpB
  split
  ·
   exact .inl rfl
  ·
   split
   ·
    exact .inr (.inr rfl)
   ·
    exact cmpB_in a b
theorem cmpB_zero:∀ {a b:List UInt8},cmpB a b=0↔a=b
 | [],[]=>by simp [cmpB]
 | [],_ :: _=>by simp [cmpB]
 | _ :: _,[]=>by simp [cmpB]
 | x :: a,y :: b=>by
  have ih:=cmpB_zero (a:=a) (b:=b)
  unfold cmpB
  by_cases h1:x<y
  ·
   rw [if_pos h1]
   have h3:¬ x=y:=fun h=>by rw [h] at h1;exact UInt8.lt_irrefl y h1
   simp [h3]
  ·
   rw [if_neg h1]
   by_cases h2:y<x
   ·
    rw [if_pos h2]
    have h3:¬ x=y:=fun h=>by rw [h] at h2;exact UInt8.lt_irrefl y h2
    simp [h3]
   ·
    rw [if_neg h2,u8_eq h1 h2,ih]
    simp
theorem cmpB_neg:∀ a b:List UInt8,cmpB b a = - cmpB a b
 | [],[]=>rfl
 | [],_ :: _=>rfl
 | _ :: _,[]=>rfl
 | x :: a,y :: b=>by
  have ih:=cmpB_neg a b
  unfold cmpB
  by_cases h1:x<y
  ·
   simp [h1,u8_asymm h1]
  ·
   by_cases h2:y<x
   ·
    simp [h1,h2]
   ·
    simp only [h1,h2,if_false]
    exact ih
theorem cmpB_trans:∀ {a b c:List UInt8},cmpB a b = -1→cmpB b c = -1→cmpB a c = -1
 | [],[],_,h,_=>by simp [cmpB] at h
 | _ :: _,[],_,h,_=>by simp [cmpB] at h
 | [],_ :: _,[],_,h=>by simp [cmpB] at h
 | [],_ :: _,_ :: _,_,_=>rfl
 | _ :: _,_ :: _,[],_,h=>by simp [cmpB] at h
 | x :: a,y :: b,z :: c,h,h'=>by
  unfold cmpB at h h' ⊢
  by_cases h1:x<y
  ·
   by_cases h2:y<z
   ·
    rw [if_pos (UInt8.lt_trans h1 h2)]
   ·
    rw [if_neg h2] at h'
    by_cases h3:z<y
    ·
     rw [if_pos h3] at h';simp at h'
    ·
     rw [←u8_eq h2 h3,if_pos h1]
  ·
   rw [if_neg h1] at h
   by_cases h2:y<x
   ·
    rw [if_pos h2] at h;simp at h
   ·
    rw [if_neg h2] at h
    have e:=u8_eq h1 h2
    subst e
    by_cases h3:x<z
    ·
     rw [if_pos h3]
    ·
     rw [if_neg h3] at h' ⊢
     by_cases h4:z<x
     ·
      rw [if_pos h4] at h';simp at h'
     ·
      rw [if_neg h4] at h' ⊢
      exact cmpB_trans h h'
def cmpT (a b:ByteArray):Int:=cmpB a.toList b.toList
def cmpN (a b:Int):Int:=if a<b then -1 else if b<a then 1 else 0
theorem cmpT_zero {a b:ByteArray}:cmpT a b=0↔a=b:=⟨fun h=>toList_inj (cmpB_zero.1 h),fun h=>cmpB_zero.2 (by rw [h])⟩
theorem cmpT_in (a b:ByteArray):cmpT a b = -1∨cmpT a b=0∨cmpT a b=1:=cmpB_in _ _
theorem cmpN_in (a b:Int):cmpN a b = -1∨cmpN a b=0∨cmpN a b=1:=by
 unfold cmpN
 split
 ·
  exact .inl rfl
 ·
  split
  ·
   exact .inr (.inr rfl)
  ·
   exact .inr (.inl rfl)
theorem cmpN_zero {a b:Int}:cmpN a b=0↔a=b:=by
 unfold cmpN
 split
 ·
  omega
 ·
  split<;>omega
theorem cmpN_neg (a b:Int):cmpN b a = - cmpN a b:=by unfold cmpN;split<;>split<;>first | omega | (split<;>omega)
def cmpC (r c:ByteArray) (t:Int) (r' c':ByteArray) (t':Int):Int:=if cmpT r r'=0 then (if cmpT c c'=0 then cmpN t' t else cmpT c c') else cmpT r r'
theorem cmpC_in (r c t r' c' t'):cmpC r c t r' c' t' = -1∨cmpC r c t r' c' t'=0∨cmpC r c t r' c' t'=1:=by
 unfold cmpC
 split
 ·
  split
  ·
   exact cmpN_in _ _
  ·
   exact cmpT_in _ _
 ·
  exact cmpT_in _ _
theorem cmpC_neg (r c t r' c' t'):cmpC r' c' t' r c t = - cmpC r c t r' c' t':=by
 have h1:cmpT r' r = - cmpT r r':=cmpB_neg _ _
 have h2:cmpT c' c = - cmpT c c':=cmpB_neg _ _
 have h3:=cmpN_neg t' t
 unfold cmpC
 rw [h1,h2,h3]
 by_cases e1:cmpT r r'=0
 ·
  rw [if_pos e1,if_pos (by omega)]
  by_cases e2:cmpT c c'=0
  ·
   rw [if_pos e2,if_pos (by omega)]
  ·
   rw [if_neg e2,if_neg (by omega)]
 ·
  rw [if_neg e1,if_neg (by omega)]
theorem cmpC_zero {r c t r' c' t'}:cmpC r c t r' c' t'=0↔r=r'∧c=c'∧t=t':=by
 unfold cmpC
 by_cases e1:cmpT r r'=0
 ·
  rw [if_pos e1]
  by_cases e2:cmpT c c'=0
  ·
   rw [if_pos e2,cmpN_zero]
   exact ⟨fun h=>⟨cmpT_zero.1 e1,cmpT_zero.1 e2,h.symm⟩,fun h=>h.2.2.symm⟩
  ·
   rw [if_neg e2]
   exact ⟨fun h=>absurd h e2,fun h=>absurd (cmpT_zero.2 h.2.1) e2⟩
 ·
  rw [if_neg e1]
  exact ⟨fun h=>absurd h e1,fun h=>absurd (cmpT_zero.2 h.1) e1⟩
theorem cmpC_trans {r c t r' c' t' r'' c'' t''} (h:cmpC r c t r' c' t' = -1) (h':cmpC r' c' t' r'' c'' t'' = -1):cmpC r c t r'' c'' t'' = -1:=by
 unfold cmpC at h h' ⊢
 by_cases e1:cmpT r r'=0
 ·
  rw [if_pos e1] at h
  have:=cmpT_zero.1 e1
  subst this
  by_cases e2:cmpT r r''=0
  ·
   rw [if_pos e2] at h' ⊢
   by_cases e3:cmpT c c'=0
   ·
    rw [if_pos e3] at h
    have:=cmpT_zero.1 e3
    subst this
    by_cases e4:cmpT c c''=0
    ·
     rw [if_pos e4] at h' ⊢
     unfold cmpN at h h' ⊢
     split at h<;>split at h'<;>first | (simp at h;done) | (rw [if_pos (by omega)]) | (split at h<;>simp at h;done) | (split at h'<;>simp at h')
    ·
     rw [if_neg e4] at h' ⊢
     exact h'
   ·
    rw [if_neg e3] at h
    by_cases e4:cmpT c' c''=0
    ·
     have:=cmpT_zero.1 e4
     subst this
     rw [if_neg e3]
     exact h
    ·
     rw [if_neg e4] at h'
     have h5:cmpT c c'' = -1:=cmpB_trans h h'
     rw [if_neg (by omega)]
     exact h5
  ·
   rw [if_neg e2] at h' ⊢
   exact h'
 ·
  rw [if_neg e1] at h
  by_cases e2:cmpT r' r''=0
  ·
   have:=cmpT_zero.1 e2
   subst this
   rw [if_neg e1]
   exact h
  ·
   rw [if_neg e2] at h'
   have h5:cmpT r r'' = -1:=cmpB_trans h h'
   rw [if_neg (by omega)]
   exact h5
def cellRight (r c:ByteArray) (t:Int) (v:ByteArray) (g:Bool):Bool:=decide (1≤r.size∧r.size≤64∧1≤c.size∧c.size≤64∧0≤t∧t≤4294967295∧v.size≤256∧(g=false∨v.size=0))
theorem cellRight_iff {r c:ByteArray} {t:Int} {v:ByteArray} {g:Bool}:cellRight r c t v g=true↔1≤r.size∧r.size≤64∧1≤c.size∧c.size≤64∧0≤t∧t≤4294967295∧v.size≤256∧(g=false∨v.size=0):=by unfold cellRight;exact decide_eq_true_iff
theorem toList_nil {v:ByteArray}:(v.toList == ([]:List UInt8))=decide (v.size=0):=by
 rw [Bool.eq_iff_iff,beq_iff_eq,decide_eq_true_iff,size_zero_iff]
 constructor
 ·
  intro h
  exact toList_inj (h.trans (by simp [ByteArray.toList_eq]))
 ·
  rintro rfl
  simp [ByteArray.toList_eq]
theorem some_bool {c d:Bool} (h:c=true↔d=true):some c=some d:=by rw [Option.some.injEq,Bool.eq_iff_iff,h]
open Go.Proofs.Ytcbhfedcdnjljaa.X Go.Proofs.YtcbhfedcdnjljaaW.PrintLast
theorem cell_name_eq (s:ByteArray):cell_name.f s=some (decide (1≤s.size∧s.size≤64)):=by
 unfold cell_name.f
 by_cases h:s.size≥1
 ·
  rw [if_pos (by omega)]
  congr 1
  rw [decide_eq_decide]
  omega
 ·
  rw [if_neg (by omega)]
  congr 1
  symm
  rw [decide_eq_false_iff_not]
  omega
theorem cell_Right_eq (r c:ByteArray) (t:Int) (v:ByteArray) (g:Bool):cell_Right.f r c t v g=some (cellRight r c t v g):=by
 unfold cell_Right.f
 simp only [cell_name_eq,Option.bind_some,decide_eq_true_eq,toList_nil]
 split
 ·
  split
  ·
   split
   ·
    split
    ·
     split
     ·
      split
      ·
       exact some_bool (by rename_i h;rw [cellRight_iff,decide_eq_true_iff];exact ⟨fun hz=>⟨by omega,by omega,by omega,by omega,by omega,by omega,by omega,.inr hz⟩,fun hh=>hh.2.2.2.2.2.2.2.elim (fun e=>by rw [h] at e;cases e) id⟩)
      ·
       exact some_bool (by rename_i h;rw [cellRight_iff];exact ⟨fun _=>⟨by omega,by omega,by omega,by omega,by omega,by omega,by omega,.inl (by simpa using h)⟩,fun _=>rfl⟩)
     ·
      exact some_bool (by rw [cellRight_iff];simp only [Bool.false_eq_true,false_iff];omega)
    ·
     exact some_bool (by rw [cellRight_iff];simp only [Bool.false_eq_true,false_iff];omega)
   ·
    exact some_bool (by rw [cellRight_iff];simp only [Bool.false_eq_true,false_iff];omega)
  ·
   exact some_bool (by rw [cellRight_iff];simp only [Bool.false_eq_true,false_iff];omega)
 ·
  exact some_bool (by rw [cellRight_iff];simp only [Bool.false_eq_true,false_iff];omega)
theorem cmpString_eq (a b:ByteArray):cmp_Compare_string.f a b=some (cmpT a b):=by
 unfold cmp_Compare_string.f cmp_isNaN_string.f cmpT
 rw [cmpB_less]
 simp only [Option.bind_some,bne_self_eq_false,Bool.false_eq_true,if_false]
 split
 ·
  rfl
 ·
  split<;>rfl
theorem cmpInt_eq (a b:Int):cmp_Compare_int.f a b=some (cmpN a b):=by
 unfold cmp_Compare_int.f cmp_isNaN_int.f cmpN
 simp only [Option.bind_some,bne_self_eq_false,Bool.false_eq_true,if_false]
 split
 ·
  rfl
 ·
  split<;>rfl
theorem cmpOr_ev (a b c:Int):Ev (fun k=>cmp_Or_int.f k [a,b,c]) (if a=0 then (if b=0 then c else b) else a):=by
 unfold cmp_Or_int.f
 have hl:(([a,b,c]:List Int).length:Int)=3:=rfl
 rw [hl]
 by_cases ha:a=0
 ·
  rw [if_pos ha]
  refine Ev.step (f:=fun k=>cmp_Or_int.l0 k 0 [a,b,c] 3 1) (fun k=>?_) ?_
  ·
   simp only [cmp_Or_int.l0,hl]
   rw [if_pos (by omega),if_pos (by omega),if_pos (by omega),show rd [a,b,c] 0=a from rfl,if_pos ha,w64 (by omega) (by omega)]
   rfl
  by_cases hb:b=0
  ·
   rw [if_pos hb]
   refine Ev.step (f:=fun k=>cmp_Or_int.l0 k 0 [a,b,c] 3 2) (fun k=>?_) ?_
   ·
    simp only [cmp_Or_int.l0,hl]
    rw [if_pos (by omega),if_pos (by omega),if_pos (by omega),show rd [a,b,c] 1=b from rfl,if_pos hb,w64 (by omega) (by omega)]
    rfl
   by_cases hc:c=0
   ·
    refine Ev.step (f:=fun k=>cmp_Or_int.l0 k 0 [a,b,c] 3 3) (fun k=>?_) ?_
    ·
     simp only [cmp_Or_int.l0,hl]
     rw [if_pos (by omega),if_pos (by omega),if_pos (by omega),show rd [a,b,c] 2=c from rfl,if_pos hc,w64 (by omega) (by omega)]
     rfl
    refine Ev.step (f:=fun _=>some 0) (fun k=>?_) ((Ev.now 0).to hc.symm)
    simp only [cmp_Or_int.l0]
    rw [if_neg (by omega)]
   ·
    refine Ev.step (f:=fun _=>some c) (fun k=>?_) (Ev.now _)
    simp only [cmp_Or_int.l0,hl]
    rw [if_pos (by omega),if_pos (by omega),if_pos (by omega),show rd [a,b,c] 2=c from rfl,if_neg hc]
  ·
   rw [if_neg hb]
   refine Ev.step (f:=fun _=>some b) (fun k=>?_) (Ev.now _)
   simp only [cmp_Or_int.l0,hl]
   rw [if_pos (by omega),if_pos (by omega),if_pos (by omega),show rd [a,b,c] 1=b from rfl,if_neg hb]
 ·
  rw [if_neg ha]
  refine Ev.step (f:=fun _=>some a) (fun k=>?_) (Ev.now _)
  simp only [cmp_Or_int.l0,hl]
  rw [if_pos (by omega),if_pos (by omega),if_pos (by omega),show rd [a,b,c] 0=a from rfl,if_neg ha]
theorem cell_Compare_ev (r c:ByteArray) (t:Int) (v:ByteArray) (g:Bool) (r' c':ByteArray) (t':Int) (v':ByteArray) (g':Bool):Ev (fun k=>cell_Compare.f k r c t v g r' c' t' v' g') (cmpC r c t r' c' t'):=by
 unfold cell_Compare.f
 simp only [cmpString_eq,cmpInt_eq,Option.bind_some]
 exact Ev.bind (cmpOr_ev _ _ _) (Ev.now _)
abbrev Cell:=S26
abbrev rdC (xs:List Cell) (i:Int):Cell:=rd_T26 xs i
theorem rdC_at (l:List Cell) (i:Nat) (h:i<l.length):rdC l (i:Int)=l[i]:=by
 show l.getD (i:Int).toNat _=_
 rw [Int.toNat_natCast,List.getD_eq_getElem?_getD,List.getElem?_eq_getElem h]
 rfl
def cc (a b:Cell):Int:=cmpC a.f0 a.f1 a.f2 b.f0 b.f1 b.f2
def rightC (a:Cell):Bool:=cellRight a.f0 a.f1 a.f2 a.f3 a.f4
theorem cc_in (a b:Cell):cc a b = -1∨cc a b=0∨cc a b=1:=cmpC_in _ _ _ _ _ _
theorem cc_neg (a b:Cell):cc b a = - cc a b:=cmpC_neg _ _ _ _ _ _
theorem cc_zero {a b:Cell}:cc a b=0↔a.f0=b.f0∧a.f1=b.f1∧a.f2=b.f2:=cmpC_zero
theorem cc_trans {a b c:Cell} (h:cc a b = -1) (h':cc b c = -1):cc a c = -1:=cmpC_trans h h'
theorem cc_self (a:Cell):cc a a=0:=cc_zero.2 ⟨rfl,rfl,rfl⟩
theorem cc_left {a b:Cell} (h:cc a b=0) (c:Cell):cc a c=cc b c:=by
 obtain ⟨h1,h2,h3⟩:=cc_zero.1 h
 unfold cc
 rw [h1,h2,h3]
theorem cc_right {a b:Cell} (h:cc a b=0) (c:Cell):cc c a=cc c b:=by
 obtain ⟨h1,h2,h3⟩:=cc_zero.1 h
 unfold cc
 rw [h1,h2,h3]
theorem cc_gt {a b:Cell} (h1:¬ cc a b = -1) (h2:¬ cc a b=0):cc b a = -1:=by
 have:=cc_in a b
 have:=cc_neg a b
 omega
theorem cc_sym {a b:Cell} (h:cc a b=0):cc b a=0:=by
 have:=cc_neg a b
 omega
def ins (c:Cell):List Cell→List Cell
 | []=>[c]
 | x :: l=>if cc x c = -1 then x :: ins c l else if cc x c=0 then c :: l else c :: x :: l
def OrdC (l:List Cell):Prop:=l.Pairwise (fun a b=>cc a b = -1)
def RightsC (l:List Cell):Prop:=∀ c ∈ l,rightC c=true
def SrtC (l:List Cell):Prop:=RightsC l∧OrdC l
theorem mem_ins {c x:Cell}:∀ {l:List Cell},x ∈ ins c l→x=c∨x ∈ l
 | [],h=>by simp only [ins,List.mem_singleton] at h;exact .inl h
 | y :: l,h=>by
  unfold ins at h
  split at h
  ·
   rcases List.mem_cons.1 h with rfl | h
   ·
    exact .inr (List.mem_cons_self)
   ·
    exact (mem_ins h).imp id (List.mem_cons_of_mem _)
  ·
   split at h
   ·
    rcases List.mem_cons.1 h with rfl | h
    ·
     exact .inl rfl
    ·
     exact .inr (List.mem_cons_of_mem _ h)
   ·
    rcases List.mem_cons.1 h with rfl | h
    ·
     exact .inl rfl
    ·
     exact .inr h
theorem ins_mem (c:Cell):∀ l:List Cell,c ∈ ins c l
 | []=>by simp [ins]
 | y :: l=>by
  unfold ins
  split
  ·
   exact List.mem_cons_of_mem _ (ins_mem c l)
  ·
   split<;>exact List.mem_cons_self
theorem mem_ins_of {c x:Cell} (hx:cc x c≠0):∀ {l:List Cell},x ∈ l→x ∈ ins c l
 | [],h=>by cases h
 | y :: l,h=>by
  unfold ins
  split
  ·
   rcases List.mem_cons.1 h with rfl | h
   ·
    exact List.mem_cons_self
   ·
    exact List.mem_cons_of_mem _ (mem_ins_of hx h)
  ·
   split
   ·
    rename_i h0
    rcases List.mem_cons.1 h with rfl | h
    ·
     exact absurd h0 hx
    ·
     exact List.mem_cons_of_mem _ h
   ·
    exact List.mem_cons_of_mem _ h
theorem ord_ins {c:Cell}:∀ {l:List Cell},OrdC l→OrdC (ins c l)
 | [],_=>by simp [ins,OrdC]
 | y :: l,h=>by
  obtain ⟨h1,h2⟩:=List.pairwise_cons.1 h
  unfold ins
  split
  ·
   rename_i hy
   refine List.pairwise_cons.2 ⟨fun z hz=>?_,ord_ins h2⟩
   rcases mem_ins hz with rfl | hz
   ·
    exact hy
   ·
    exact h1 z hz
  ·
   split
   ·
    rename_i h0
    refine List.pairwise_cons.2 ⟨fun z hz=>?_,h2⟩
    rw [←cc_left h0]
    exact h1 z hz
   ·
    rename_i hn h0
    have hg:=cc_gt hn h0
    refine List.pairwise_cons.2 ⟨fun z hz=>?_,h⟩
    rcases List.mem_cons.1 hz with rfl | hz
    ·
     exact hg
    ·
     exact cc_trans hg (h1 z hz)
theorem rights_ins {c:Cell} {l:List Cell} (hc:rightC c=true) (h:RightsC l):RightsC (ins c l):=fun x hx=>(mem_ins hx).elim (fun e=>e▸hc) (h x)
theorem srt_ins {c:Cell} {l:List Cell} (hc:rightC c=true) (h:SrtC l):SrtC (ins c l):=⟨rights_ins hc h.1,ord_ins h.2⟩
theorem ins_length (c:Cell):∀ l:List Cell,(ins c l).length≤l.length+1
 | []=>by simp [ins]
 | y :: l=>by
  have:=ins_length c l
  unfold ins
  split
  ·
   simp only [List.length_cons];omega
  ·
   split<;>simp only [List.length_cons]<;>omega
theorem foldl_length:∀ (l o:List Cell),(l.foldl (fun o c=>ins c o) o).length≤o.length+l.length
 | [],o=>by simp
 | c :: l,o=>by
  have h1:=foldl_length l (ins c o)
  have h2:=ins_length c o
  simp only [List.foldl_cons,List.length_cons]
  omega
theorem srt_nil:SrtC []:=⟨fun _ hx=>(by cases hx),List.Pairwise.nil⟩
theorem ins_split (c:Cell):∀ (l:List Cell) (i:Nat),i≤l.length→(∀ j (_:j<i) (hl:j<l.length),cc l[j] c = -1)→(∀ h:i<l.length,¬ cc l[i] c = -1)→
  ins c l=l.take i++c :: (l.drop (if h:i<l.length then (if cc l[i] c=0 then i+1 else i) else i))
 | [],i,hi,_,_=>by
  have:i=0:=by simpa using hi
  subst this
  simp [ins]
 | x :: l,0,_,_,h2=>by
  have h3:=h2 (by simp)
  simp only [List.getElem_cons_zero] at h3
  unfold ins
  rw [if_neg h3]
  by_cases h0:cc x c=0
  ·
   simp [h0]
  ·
   simp [h0]
 | x :: l,i+1,hi,h1,h2=>by
  have hx:=h1 0 (by omega) (by simp)
  simp only [List.getElem_cons_zero] at hx
  unfold ins
  rw [if_pos hx,ins_split c l i (by simpa using hi) (fun j hj hl=>by have:=h1 (j+1) (by omega) (by simpa using hl);simpa using this) (fun hl=>by have:=h2 (by simpa using hl);simpa using this)]
  by_cases hl:i<l.length
  ·
   by_cases h0:cc l[i] c=0
   ·
    simp [hl,h0]
   ·
    simp [hl,h0]
  ·
   simp [hl]
theorem rightC_iff {a:Cell}:rightC a=true↔1≤a.f0.size∧a.f0.size≤64∧1≤a.f1.size∧a.f1.size≤64∧0≤a.f2∧a.f2≤4294967295∧a.f3.size≤256∧(a.f4=false∨a.f3.size=0):=cellRight_iff
def chkC (l:List Cell) (i:Nat):Bool:=rightC (rdC l i) && (i == 0 || cc (rdC l ((i:Int) - 1)) (rdC l i) == -1)
def sortedFrom (l:List Cell) (i:Nat):Nat→Bool
 | 0=>true
 | d+1=>chkC l i && sortedFrom l (i+1) d
def sortedC (l:List Cell):Bool:=sortedFrom l 0 l.length
theorem sortedFrom_iff (l:List Cell):∀ d i,sortedFrom l i d=true↔∀ j,i≤j→j<i+d→chkC l j=true
 | 0,i=>⟨fun _ j h1 h2=>by omega,fun _=>rfl⟩
 | d+1,i=>by
  unfold sortedFrom
  rw [Bool.and_eq_true,sortedFrom_iff l d (i+1)]
  constructor
  ·
   rintro ⟨h1,h2⟩ j h3 h4
   by_cases hj:j=i
   ·
    rw [hj];exact h1
   ·
    exact h2 j (by omega) (by omega)
  ·
   intro h
   exact ⟨h i (by omega) (by omega),fun j h3 h4=>h j (by omega) (by omega)⟩
theorem ord_of_chain:∀ (l:List Cell),(∀ i (h:i+1<l.length),cc l[i] l[i+1] = -1)→OrdC l
 | [],_=>List.Pairwise.nil
 | [x],_=>by simp [OrdC]
 | x :: y :: l,h=>by
  have h1:cc x y = -1:=by have:=h 0 (by simp);simpa using this
  have h2:OrdC (y :: l):=ord_of_chain (y :: l) (fun i hi=>by have:=h (i+1) (by simpa using hi);simpa using this)
  refine List.pairwise_cons.2 ⟨fun z hz=>?_,h2⟩
  rcases List.mem_cons.1 hz with rfl | hz
  ·
   exact h1
  ·
   exact cc_trans h1 ((List.pairwise_cons.1 h2).1 z hz)
theorem sortedC_iff {l:List Cell}:sortedC l=true↔SrtC l:=by
 unfold sortedC
 rw [sortedFrom_iff]
 constructor
 ·
  intro h
  refine ⟨fun x hx=>?_,ord_of_chain l fun i hi=>?_⟩
  ·
   obtain ⟨i,hi,rfl⟩:=List.getElem_of_mem hx
   have:=h i (by omega) (by omega)
   unfold chkC at this
   rw [Bool.and_eq_true,rdC_at _ _ hi] at this
   exact this.1
  ·
   have:=h (i+1) (by omega) (by omega)
   unfold chkC at this
   rw [Bool.and_eq_true,rdC_at _ _ hi,show ((i+1:Nat):Int) - 1=(i:Int) by omega,rdC_at _ _ (by omega)] at this
   simpa using this.2
 ·
  rintro ⟨h1,h2⟩ j _ hj
  have hj':j<l.length:=by omega
  unfold chkC
  rw [rdC_at _ _ hj',h1 _ (List.getElem_mem hj'),Bool.true_and]
  by_cases h0:j=0
  ·
   simp [h0]
  ·
   rw [show (j:Int) - 1=((j - 1:Nat):Int) by omega,rdC_at _ _ (by omega),List.pairwise_iff_getElem.1 h2 (j - 1) j (by omega) hj' (by omega)]
   simp
theorem cell_CC_ev (a b:Cell):Ev (fun k=>cell_Compare.f k a.f0 a.f1 a.f2 a.f3 a.f4 b.f0 b.f1 b.f2 b.f3 b.f4) (cc a b):=cell_Compare_ev _ _ _ _ _ _ _ _ _ _
theorem chkC_zero {l:List Cell} (h:0<l.length):chkC l 0=rightC l[0]:=by
 unfold chkC
 rw [rdC_at l 0 h]
 simp
theorem chkC_pos {l:List Cell} {i:Nat} (h:i<l.length) (h0:0<i):chkC l i=(rightC l[i] && (cc (l[i-1]'(by omega)) l[i] == -1)):=by
 unfold chkC
 rw [rdC_at l i h,show (i:Int) - 1=((i - 1:Nat):Int) by omega,rdC_at l (i - 1) (by omega),show (i == 0)=false by simp;omega,Bool.false_or]
theorem cell_Sorted_l0 (l:List Cell) (hn:l.length≤140737488355328) (d:Nat):∀ i:Nat,i≤l.length→l.length - i=d→Ev (fun k=>cell_Sorted.l0 k l l (l.length:Int) (i:Int)) (sortedFrom l i d):=by
 induction d with
 | zero=>
  intro i hi hd
  refine Ev.step (f:=fun _=>some true) (fun k=>?_) (Ev.now _)
  simp only [cell_Sorted.l0]
  rw [if_neg (by omega)]
 | succ d ih=>
  intro i hi hd
  have hlt:i<l.length:=by omega
  have hr:=rdC_at l i hlt
  unfold rdC at hr
  have jt:Ev (fun k=>cell_Sorted.j1 k l l (l.length:Int) (i:Int) true) false:=Ev.step (f:=fun _=>some false) (fun k=>by simp only [cell_Sorted.j1,if_true]) (Ev.now _)
  have jf:Ev (fun k=>cell_Sorted.j1 k l l (l.length:Int) (i:Int) false) (sortedFrom l (i+1) d):=Ev.step (f:=fun k=>cell_Sorted.l0 k l l (l.length:Int) ((i+1:Nat):Int)) (fun k=>by simp only [cell_Sorted.j1,Bool.false_eq_true,if_false];rw [w64 (by omega) (by omega)];rfl) (ih (i+1) (by omega) (by omega))
  unfold sortedFrom
  refine Ev.step (fun k=>by simp only [cell_Sorted.l0];rw [if_pos (by omega),if_pos (by omega),if_pos (by omega),hr]) (Ev.bind (Ev.eq (cell_Right_eq _ _ _ _ _)) ?_)
  by_cases hc:rightC l[i]=true
  ·
   refine Ev.pos hc ?_
   by_cases h0:0<i
   ·
    have hr1:=rdC_at l (i - 1) (by omega)
    unfold rdC at hr1
    have hi1:wrap64 ((i:Int) - 1)=((i - 1:Nat):Int):=by rw [w64 (by omega) (by omega)];omega
    refine Ev.pos (by omega) ?_
    rw [hi1,hr1,chkC_pos hlt h0,hc,Bool.true_and]
    refine Ev.pos (by omega) (Ev.pos (by omega) (Ev.bind (cell_CC_ev _ _) ?_))
    have hin:=cc_in (l[i-1]'(by omega)) l[i]
    by_cases h1:cc (l[i-1]'(by omega)) l[i] = -1
    ·
     rw [h1]
     exact jf
    ·
     rw [show (cc (l[i-1]'(by omega)) l[i] == -1)=false by simpa using h1,Bool.false_and,decide_eq_true (by omega)]
     exact jt
   ·
    have:i=0:=by omega
    subst this
    rw [chkC_zero hlt,hc,Bool.true_and]
    exact Ev.neg (by omega) jf
  ·
   have hc':rightC l[i]=false:=by simpa using hc
   refine Ev.neg hc (jt.to ?_)
   by_cases h0:0<i
   ·
    rw [chkC_pos hlt h0,hc']
    rfl
   ·
    have:i=0:=by omega
    subst this
    rw [chkC_zero hlt,hc']
    rfl
theorem cell_Sorted_ev {l:List Cell} (hn:l.length≤140737488355328):Ev (fun k=>cell_Sorted.f k l) (sortedC l):=by
 unfold cell_Sorted.f sortedC
 exact cell_Sorted_l0 l hn l.length 0 (by omega) (by omega)
theorem wire_Num_eq (n:Int):wire_Num.f n=some (num n):=by
 unfold wire_Num.f num
 split
 ·
  rfl
 ·
  split
  ·
   rfl
  ·
   rfl
theorem clone_eq {l:List Int} (h:l.length≤140737488355328):slices_Clone_byte_byte.f l=some l:=by
 unfold slices_Clone_byte_byte.f
 rw [if_pos (by omega)]
theorem or8 {x c:Int} (h0:0≤x) (h1:x<16777216) (h2:0≤c) (h3:c<256):Go.bits .or .i64 (wrap64 (x*256)) (wrap64 c)=x*256+c:=by
 rw [w64 (by omega) (by omega),w64 (by omega) (by omega)]
 have hw:∀ n:Int,0≤n→n<2 ^ 32→IntKind.i64.wrap n=n:=by
  intro n h4 h5
  rw [IntKind.wrap_i64]
  omega
 exact bits_join .i64 32 (by decide) hw 8 (x*256) c (by omega) (by omega) (by omega) h2 (by omega) (by omega)
theorem wire_CutNum_ev {b:List Int} (hb:Bytes b) (hl:b.length≤140737488355328):Ev (fun k=>wire_CutNum.f k b) (cutNum b):=by
 unfold wire_CutNum.f cutNum
 by_cases h4:b.length<4
 ·
  rw [if_pos h4]
  exact Ev.pos (by omega) (Ev.now _)
 ·
  rw [if_neg h4]
  refine Ev.neg (by omega) (Ev.pos (by omega) (Ev.bind (Ev.now _) ?_))
  obtain ⟨x0,x1,x2,x3,r,rfl⟩:=four_form (b:=b) (by omega)
  ·
   clear h4
   obtain ⟨a0,b0⟩:=hb x0 (by simp)
   obtain ⟨a1,b1⟩:=hb x1 (by simp)
   obtain ⟨a2,b2⟩:=hb x2 (by simp)
   obtain ⟨a3,b3⟩:=hb x3 (by simp)
   simp only [List.take_succ_cons,List.take_zero]
   have hlen:(([x0,x1,x2,x3]:List Int).length:Int)=4:=rfl
   rw [hlen]
   refine Ev.step (f:=fun k=>wire_CutNum.l0 k (x0 :: x1 :: x2 :: x3 :: r) x0 [x0,x1,x2,x3] 4 1) (fun k=>?_) ?_
   ·
    simp only [wire_CutNum.l0]
    rw [if_pos (by omega),if_pos (by omega),if_pos (by rw [hlen];omega)]
    rw [show rd [x0,x1,x2,x3] 0=x0 from rfl,or8 (by omega) (by omega) a0 b0,w64 (by omega) (by omega)]
    simp
   refine Ev.step (f:=fun k=>wire_CutNum.l0 k (x0 :: x1 :: x2 :: x3 :: r) (x0*256+x1) [x0,x1,x2,x3] 4 2) (fun k=>?_) ?_
   ·
    simp only [wire_CutNum.l0]
    rw [if_pos (by omega),if_pos (by omega),if_pos (by rw [hlen];omega)]
    rw [show rd [x0,x1,x2,x3] 1=x1 from rfl,or8 (by omega) (by omega) a1 b1,w64 (by omega) (by omega)]
    rfl
   refine Ev.step (f:=fun k=>wire_CutNum.l0 k (x0 :: x1 :: x2 :: x3 :: r) ((x0*256+x1)*256+x2) [x0,x1,x2,x3] 4 3) (fun k=>?_) ?_
   ·
    simp only [wire_CutNum.l0]
    rw [if_pos (by omega),if_pos (by omega),if_pos (by rw [hlen];omega)]
    rw [show rd [x0,x1,x2,x3] 2=x2 from rfl,or8 (by omega) (by omega) a2 b2,w64 (by omega) (by omega)]
    rfl
   refine Ev.step (f:=fun k=>wire_CutNum.l0 k (x0 :: x1 :: x2 :: x3 :: r) (((x0*256+x1)*256+x2)*256+x3) [x0,x1,x2,x3] 4 4) (fun k=>?_) ?_
   ·
    simp only [wire_CutNum.l0]
    rw [if_pos (by omega),if_pos (by omega),if_pos (by rw [hlen];omega)]
    rw [show rd [x0,x1,x2,x3] 3=x3 from rfl,or8 (by omega) (by omega) a3 b3,w64 (by omega) (by omega)]
    rfl
   refine Ev.step (f:=fun _=>some (val4 (x0 :: x1 :: x2 :: x3 :: r),r,true)) (fun k=>?_) (Ev.now _)
   simp only [wire_CutNum.l0]
   rw [if_neg (by omega),if_pos (by simp only [List.length_cons];omega)]
   rw [show (x0 :: x1 :: x2 :: x3 :: r).drop 4=r from rfl,clone_eq (by simp only [List.length_cons] at hl;omega)]
   simp only [Option.bind_some,Option.some.injEq,Prod.mk.injEq,and_true]
   simp [val4,rd]
   omega
theorem wire_Text_eq {s:ByteArray} (h:s.size≤140737488351232):wire_Text.f s=some (text s):=by
 unfold wire_Text.f
 rw [wire_Num_eq]
 simp only [Option.bind_some]
 rw [if_pos (by have:=num_length_le s.size;omega)]
 rfl
theorem wire_CutText_ev {b:List Int} (hb:Bytes b) (hl:b.length≤140737488355328):Ev (fun k=>wire_CutText.f k b) (cutText b):=by
 unfold wire_CutText.f
 refine Ev.bind (wire_CutNum_ev hb hl) ?_
 unfold cutNum cutText
 by_cases h4:b.length<4
 ·
  simp only [if_pos h4]
  exact Ev.now _
 ·
  simp only [if_neg h4,if_true]
  obtain ⟨g0,g1⟩:=val4_nonneg hb (by omega)
  by_cases hv:val4 b > ((b.length - 4:Nat):Int)
  ·
   rw [if_pos hv]
   exact Ev.pos (by rw [List.length_drop];exact hv) (Ev.now _)
  ·
   rw [if_neg hv]
   exact Ev.neg (by rw [List.length_drop];exact hv) (Ev.pos g0 (Ev.pos (by rw [List.length_drop];omega) (Ev.now _)))
theorem cutText_rest_le {b:List Int}:(cutText b).2.1.length≤b.length:=by
 unfold cutText
 split
 ·
  simp
 ·
  split
  ·
   simp
  ·
   simp only [List.length_drop];omega
theorem concat_eq {l:List (List Int)} (h:lenSum l≤140737488355328):slices_Concat_byte_byte.f l=some l.flatten:=by
 unfold slices_Concat_byte_byte.f
 rw [if_pos h]
def flagC (g:Bool):Int:=if g=true then 1 else 0
theorem flagC_in (g:Bool):0≤flagC g∧flagC g≤1:=by cases g<;>decide
def cellB (r c:ByteArray) (t:Int) (v:ByteArray) (g:Bool):List Int:=text r++(text c++(num t++([flagC g]++text v)))
theorem bytes_cellB (r c:ByteArray) (t:Int) (v:ByteArray) (g:Bool):Bytes (cellB r c t v g):=by
 obtain ⟨h0,h1⟩:=flagC_in g
 exact (bytes_text _).append ((bytes_text _).append ((bytes_num _).append ((Bytes.cons h0 (by omega) Bytes.nil).append (bytes_text _))))
theorem cellB_length (r c:ByteArray) (t:Int) (v:ByteArray) (g:Bool):(cellB r c t v g).length≤17+r.size+c.size+v.size:=by
 have h1:=text_length_le r
 have h2:=text_length_le c
 have h3:=text_length_le v
 have h4:=num_length_le t
 unfold cellB
 simp only [List.length_append,List.length_cons,List.length_nil]
 omega
theorem cell_Put_eq {r c:ByteArray} (t:Int) {v:ByteArray} (g:Bool) (hr:r.size≤1000000) (hc:c.size≤1000000) (hv:v.size≤1000000):cell_Put.f r c t v g=some (cellB r c t v g):=by
 unfold cell_Put.f
 have hf:cell_flag.f g=some (flagC g):=by unfold cell_flag.f flagC;cases g<;>rfl
 simp only [wire_Text_eq (s:=r) (by omega),wire_Text_eq (s:=c) (by omega),wire_Text_eq (s:=v) (by omega),wire_Num_eq,hf,Option.bind_some]
 have hl:=cellB_length r c t v g
 unfold cellB at hl
 simp only [List.length_append,List.length_cons,List.length_nil] at hl
 rw [concat_eq (by simp only [lenSum,List.map_cons,List.map_nil,List.sum_cons,List.sum_nil,List.length_cons,List.length_nil];omega)]
 simp [cellB]
def cutFlag (b:List Int):Bool × List Int × Bool:=if b.length=0 then (false,[],false) else if rd b 0 > 1 then (false,[],false) else (rd b 0 == 1,b.drop 1,true)
theorem cutFlag_eq (b:List Int):cell_cutFlag.f b=some (cutFlag b):=by
 unfold cell_cutFlag.f cutFlag
 by_cases h:b.length=0
 ·
  rw [if_pos (by omega),if_pos h]
 ·
  rw [if_neg (by omega),if_neg h,if_pos (by omega)]
  by_cases h1:rd b 0 > 1
  ·
   rw [if_pos h1,if_pos h1]
  ·
   rw [if_neg h1,if_neg h1,if_pos (by omega)]
   rfl
theorem cutFlag_flag (g:Bool) (r:List Int):cutFlag ([flagC g]++r)=(g,r,true):=by
 unfold cutFlag
 cases g<;>simp [flagC,rd]
abbrev Cut7:=ByteArray × ByteArray × Int × ByteArray × Bool × List Int × Bool
def cutCell (b:List Int):Cut7:=
 let r:=cutText b
 let c:=cutText r.2.1
 let t:=cutNum c.2.1
 let g:=cutFlag t.2.1
 let v:=cutText g.2.1
 if (r.2.2 && (c.2.2 && (t.2.2 && (g.2.2 && (v.2.2 && cellRight r.1 c.1 t.1 v.1 g.1)))))=true then (r.1,c.1,t.1,v.1,g.1,v.2.1,true) else (⟨#[]⟩,⟨#[]⟩,0,⟨#[]⟩,false,[],false)
theorem cutFlag_bytes {b:List Int} (hb:Bytes b):Bytes (cutFlag b).2.1∧(cutFlag b).2.1.length≤b.length:=by
 unfold cutFlag
 split
 ·
  exact ⟨Bytes.nil,by simp⟩
 ·
  split
  ·
   exact ⟨Bytes.nil,by simp⟩
  ·
   exact ⟨hb.drop 1,by simp only [List.length_drop];omega⟩
theorem cutNum_bytes' {b:List Int} (hb:Bytes b):Bytes (cutNum b).2.1∧(cutNum b).2.1.length≤b.length:=by
 unfold cutNum
 split
 ·
  exact ⟨Bytes.nil,by simp⟩
 ·
  exact ⟨hb.drop 4,by simp only [List.length_drop];omega⟩
theorem cell_Cut_ev {b:List Int} (hb:Bytes b) (hl:b.length≤140737488355328):Ev (fun k=>cell_Cut.f k b) (cutCell b):=by
 have b1:=cutText_rest_bytes hb
 have l1:=Nat.le_trans (cutText_rest_le (b:=b)) hl
 have b2:=cutText_rest_bytes b1
 have l2:=Nat.le_trans (cutText_rest_le (b:=(cutText b).2.1)) l1
 obtain ⟨b3,m3⟩:=cutNum_bytes' b2
 have l3:=Nat.le_trans m3 l2
 obtain ⟨b4,m4⟩:=cutFlag_bytes b3
 have l4:=Nat.le_trans m4 l3
 have jt:∀ (x:List Int) (r c:ByteArray) (t:Int) (v:ByteArray) (g:Bool),Ev (fun k=>cell_Cut.j0 k x true r c t v g) (⟨#[]⟩,⟨#[]⟩,0,⟨#[]⟩,false,[],false):=fun x r c t v g=>Ev.step (fun k=>by simp only [cell_Cut.j0,if_true]) (Ev.now _)
 have jf:∀ (x:List Int) (r c:ByteArray) (t:Int) (v:ByteArray) (g:Bool),Ev (fun k=>cell_Cut.j0 k x false r c t v g) (r,c,t,v,g,x,true):=fun x r c t v g=>Ev.step (fun k=>by simp only [cell_Cut.j0,Bool.false_eq_true,if_false]) (Ev.now _)
 unfold cell_Cut.f cutCell
 refine Ev.bind (wire_CutText_ev hb hl) (Ev.bind (wire_CutText_ev b1 l1) (Ev.bind (wire_CutNum_ev b2 l2) (Ev.bind (Ev.eq (cutFlag_eq _)) (Ev.bind (wire_CutText_ev b4 l4) ?_))))
 simp only
 generalize cutText b=r
 generalize cutText r.2.1=c
 generalize cutNum c.2.1=t
 generalize cutFlag t.2.1=g
 generalize cutText g.2.1=v
 by_cases h:(!r.2.2 || (!c.2.2 || (!t.2.2 || (!g.2.2 || (!v.2.2)))))=true
 ·
  refine Ev.pos h ?_
  have:(r.2.2 && (c.2.2 && (t.2.2 && (g.2.2 && (v.2.2 && cellRight r.1 c.1 t.1 v.1 g.1)))))=false:=by
   revert h
   cases r.2.2<;>cases c.2.2<;>cases t.2.2<;>cases g.2.2<;>cases v.2.2<;>simp
  rw [this]
  exact jt _ _ _ _ _ _
 ·
  refine Ev.neg h (Ev.bind (Ev.eq (cell_Right_eq _ _ _ _ _)) ?_)
  have:(r.2.2 && (c.2.2 && (t.2.2 && (g.2.2 && (v.2.2 && cellRight r.1 c.1 t.1 v.1 g.1)))))=cellRight r.1 c.1 t.1 v.1 g.1:=by
   revert h
   cases r.2.2<;>cases c.2.2<;>cases t.2.2<;>cases g.2.2<;>cases v.2.2<;>simp
  rw [this]
  cases hr:cellRight r.1 c.1 t.1 v.1 g.1 with
  | true=>exact jf _ _ _ _ _ _
  | false=>exact jt _ _ _ _ _ _
theorem cutCell_cellB {r c:ByteArray} {t:Int} {v:ByteArray} {g:Bool} (h:cellRight r c t v g=true) (x:List Int):cutCell (cellB r c t v g++x)=(r,c,t,v,g,x,true):=by
 obtain ⟨h1,h2,h3,h4,h5,h6,h7,_⟩:=cellRight_iff.1 h
 have e1:cutText (cellB r c t v g++x)=(r,text c++(num t++([flagC g]++(text v++x))),true):=by
  rw [show cellB r c t v g++x=text r++(text c++(num t++([flagC g]++(text v++x)))) by simp [cellB]]
  exact cutText_text (by omega) _
 have e2:cutText (text c++(num t++([flagC g]++(text v++x))))=(c,num t++([flagC g]++(text v++x)),true):=cutText_text (by omega) _
 have e3:cutNum (num t++([flagC g]++(text v++x)))=(t,[flagC g]++(text v++x),true):=cutNum_num h5 (by omega) _
 have e4:cutText (text v++x)=(v,x,true):=cutText_text (by omega) _
 unfold cutCell
 simp only [e1,e2,e3,cutFlag_flag,e4,h,Bool.and_self,if_true]
def bitN (x:Nat):Nat:=if x % 2=1 then (x / 2) ^^^ 2197175160 else x / 2
def goN:Nat→Nat→Nat
 | 0,w=>w
 | m+1,w=>goN m (bitN w)
def stepN (w c:Nat):Nat:=goN 8 (w ^^^ c)
def crcN (w:Nat) (l:List Int):Nat:=l.foldl (fun w c=>stepN w c.toNat) w
@[irreducible] def crcSum (l:List Int):Int:=((4294967295 - crcN 4294967295 l:Nat):Int)
theorem crcSum_def (l:List Int):crcSum l=((4294967295 - crcN 4294967295 l:Nat):Int):=by unfold crcSum;rfl
theorem bitN_lt {x:Nat} (h:x<4294967296):bitN x<4294967296:=by
 unfold bitN
 split
 ·
  exact Nat.xor_lt_two_pow (n:=32) (by omega) (by omega)
 ·
  omega
theorem goN_lt:∀ (m x:Nat),x<4294967296→goN m x<4294967296
 | 0,_,h=>h
 | m+1,_,h=>goN_lt m _ (bitN_lt h)
theorem stepN_lt {w c:Nat} (hw:w<4294967296) (hc:c<4294967296):stepN w c<4294967296:=goN_lt 8 _ (Nat.xor_lt_two_pow (n:=32) hw hc)
theorem crcSum_in (l:List Int):0≤crcSum l∧crcSum l≤4294967295:=by
 unfold crcSum
 omega
theorem bits_xor_nat (k:IntKind) (j:Nat) (hj:j≤k.bits) (hk:∀ n:Int,0≤n→n<2 ^ j→k.wrap n=n) (a b:Nat) (ha:a<2 ^ j) (hb:b<2 ^ j):Go.bits .xor k (a:Int) (b:Int)=((a ^^^ b:Nat):Int):=by
 have hp:2 ^ j≤2 ^ k.bits:=Nat.pow_le_pow_right (by decide) hj
 have ha':a % 2 ^ k.bits=a:=Nat.mod_eq_of_lt (Nat.lt_of_lt_of_le ha hp)
 have hb':b % 2 ^ k.bits=b:=Nat.mod_eq_of_lt (Nat.lt_of_lt_of_le hb hp)
 have cast:∀ n:Nat,n<2 ^ j→((n:Nat):Int)<2 ^ j:=fun n h=>by exact_mod_cast h
 simp only [Go.bits,BitVec.ofInt_natCast,BitVec.toNat_xor,BitVec.toNat_ofNat,ha',hb']
 exact hk _ (Int.natCast_nonneg _) (cast _ (Nat.xor_lt_two_pow ha hb))
theorem bits_xor32 {a b:Nat} (ha:a<4294967296) (hb:b<4294967296):Go.bits .xor .u32 (a:Int) (b:Int)=((a ^^^ b:Nat):Int):=by
 have hk:∀ n:Int,0≤n→n<2 ^ 32→IntKind.u32.wrap n=n:=by
  intro n h4 h5
  rw [IntKind.wrap_u32]
  omega
 exact bits_xor_nat .u32 32 (by decide) hk a b ha hb
theorem bits_one32 {a:Nat} (ha:a<4294967296):Go.bits .and .u32 (a:Int) 1=((a % 2:Nat):Int):=by
 have hk:∀ n:Int,0≤n→n<2 ^ 32→IntKind.u32.wrap n=n:=by
  intro n h4 h5
  rw [IntKind.wrap_u32]
  omega
 have:=(bits_nat .u32 32 (by decide) hk a 1 ha (by decide)).1
 rw [Nat.and_one_is_mod] at this
 exact this
theorem bits_all32 {a:Nat} (ha:a<4294967296):Go.bits .xor .u32 (a:Int) 4294967295=((4294967295 - a:Nat):Int):=by
 have h:=bits_xor32 ha (show 4294967295<4294967296 by decide)
 have h2:a ^^^ 4294967295=4294967295 - a:=by
  apply Nat.eq_of_testBit_eq
  intro i
  have h3:=Nat.testBit_two_pow_sub_succ (n:=32) (x:=a) (by simpa using ha) i
  rw [show (2:Nat) ^ 32 - (a+1)=4294967295 - a by omega] at h3
  rw [h3,Nat.testBit_xor,show (4294967295:Nat)=2 ^ 32 - 1 from rfl,Nat.testBit_two_pow_sub_one]
  by_cases hi:i<32
  ·
   simp [hi]
  ·
   have:a.testBit i=false:=Nat.testBit_lt_two_pow (Nat.lt_of_lt_of_le (by simpa using ha:a<2 ^ 32) (Nat.pow_le_pow_right (by decide) (by omega)))
   simp [hi,this]
 rw [h2] at h
 exact h
def sumB (b:List Int):List Int:=num (crcSum b)
def frame (r:List Int):List Int:=num r.length++(sumB (num r.length)++(sumB r++r))
def frames (l:List (List Int)):List Int:=(l.map frame).flatten
theorem sumB_length (b:List Int):(sumB b).length=4:=by
 obtain ⟨h0,h1⟩:=crcSum_in b
 exact num_length h0 (by omega)
theorem bytes_frame {r:List Int} (h:Bytes r):Bytes (frame r):=(bytes_num _).append ((bytes_num _).append ((bytes_num _).append h))
theorem frame_length {r:List Int} (h:r.length≤65535):(frame r).length=12+r.length:=by
 unfold frame
 rw [List.length_append,List.length_append,List.length_append,sumB_length,sumB_length,num_length (by omega) (by omega)]
 omega
def okF (d:List Int):Prop:=12≤d.length∧val4 d≤65535∧12+val4 d≤d.length∧val4 (d.drop 4)=crcSum (d.take 4)∧val4 (d.drop 8)=crcSum ((d.drop 12).take (val4 d).toNat)
instance (d:List Int):Decidable (okF d):=by unfold okF;infer_instance
def cutF (d:List Int):List Int × List Int × Bool:=if okF d then ((d.drop 12).take (val4 d).toNat,(d.drop 12).drop (val4 d).toNat,true) else ([],[],false)
theorem drop_num {n:Int} (h0:0≤n) (h1:n≤4294967295) (r:List Int):(num n++r).drop 4=r:=by rw [←num_length h0 h1,List.drop_left]
theorem take_num {n:Int} (h0:0≤n) (h1:n≤4294967295) (r:List Int):(num n++r).take 4=num n:=by rw [←num_length h0 h1,List.take_left]
theorem frame_parts {r:List Int} (h:r.length≤65535) (s:List Int):val4 (frame r++s)=r.length∧(frame r++s).take 4=num r.length∧val4 ((frame r++s).drop 4)=crcSum (num r.length)∧val4 ((frame r++s).drop 8)=crcSum r∧(frame r++s).drop 12=r++s:=by
 have e:frame r++s=num r.length++(sumB (num r.length)++(sumB r++(r++s))):=by simp [frame]
 obtain ⟨a0,a1⟩:=crcSum_in (num r.length)
 obtain ⟨b0,b1⟩:=crcSum_in r
 have d4:(frame r++s).drop 4=sumB (num r.length)++(sumB r++(r++s)):=by rw [e];exact drop_num (by omega) (by omega) _
 have d8:(frame r++s).drop 8=sumB r++(r++s):=by rw [show 8=4+4 from rfl,← List.drop_drop,d4];exact drop_num a0 a1 _
 have d12:(frame r++s).drop 12=r++s:=by rw [show 12=8+4 from rfl,← List.drop_drop,d8];exact drop_num b0 b1 _
 refine ⟨by rw [e];exact val4_num (by omega) (by omega) _,by rw [e];exact take_num (by omega) (by omega) _,by rw [d4];exact val4_num a0 a1 _,by rw [d8];exact val4_num b0 b1 _,d12⟩
theorem okF_frame {r:List Int} (h:r.length≤65535) (s:List Int):okF (frame r++s):=by
 obtain ⟨h1,h2,h3,h4,h5⟩:=frame_parts h s
 have hl:=frame_length h
 have hn:((r.length:Nat):Int).toNat=r.length:=by omega
 refine ⟨by rw [List.length_append];omega,by rw [h1];omega,by rw [h1,List.length_append];omega,by rw [h2,h3],?_⟩
 rw [h4,h5,h1,hn,List.take_left]
theorem cutF_frame {r:List Int} (h:r.length≤65535) (s:List Int):cutF (frame r++s)=(r,s,true):=by
 obtain ⟨h1,h2,h3,h4,h5⟩:=frame_parts h s
 have hn:((r.length:Nat):Int).toNat=r.length:=by omega
 unfold cutF
 rw [if_pos (okF_frame h s),h1,h5,hn,List.take_left,List.drop_left]
theorem cutF_no {d:List Int} (h:¬ okF d):cutF d=([],[],false):=by
 unfold cutF
 rw [if_neg h]
theorem val4_turned {p:List Int} {x y:Int} {s:List Int} (h4:(p++x :: s).length=4) (hb:Bytes (p++x :: s)) (hc:Bytes (p++y :: s)) (hne:x≠y) (t u:List Int):val4 (p++x :: s++t)≠val4 (p++y :: s++u):=by
 intro h
 have hb4:(p++x :: s)=num (val4 (p++x :: s++t)):=by
  have hv:val4 (p++x :: s++t)=val4 (p++x :: s):=by
   obtain ⟨a,b,c,d,r,e⟩:=four_form (b:=p++x :: s) (by omega)
   rw [e];rfl
  rw [hv,num_val4 hb (by omega),List.take_of_length_le (by omega)]
 have hc4:(p++y :: s)=num (val4 (p++y :: s++u)):=by
  have hl:(p++y :: s).length=4:=by simpa using h4
  have hv:val4 (p++y :: s++u)=val4 (p++y :: s):=by
   obtain ⟨a,b,c,d,r,e⟩:=four_form (b:=p++y :: s) (by omega)
   rw [e];rfl
  rw [hv,num_val4 hc (by omega),List.take_of_length_le (by omega)]
 rw [h,← hc4] at hb4
 have:=List.append_cancel_left hb4
 exact hne (List.cons.inj this).1
def Turn (a b:List Int):Prop:=∃ p x y s,a=p++x :: s∧b=p++y :: s∧x≠y
theorem Turn.set {a:List Int} {j:Nat} {y:Int} (hj:j<a.length) (hne:a[j]?≠some y):Turn a (a.set j y):=by
 refine ⟨a.take j,a[j],y,a.drop (j+1),?_,?_,fun e=>hne (by rw [List.getElem?_eq_getElem hj,e])⟩
 ·
  rw [←List.drop_eq_getElem_cons hj,List.take_append_drop]
 ·
  rw [List.set_eq_take_append_cons_drop,if_pos hj]
theorem Turn.val4 {a b:List Int} (h:Turn a b) (h4:a.length=4) (ha:Bytes a) (hb:Bytes b) (t u:List Int):Pl.val4 (a++t)≠Pl.val4 (b++u):=by
 obtain ⟨p,x,y,s,rfl,rfl,hne⟩:=h
 exact val4_turned h4 ha hb hne t u
theorem Turn.length {a b:List Int} (h:Turn a b):b.length=a.length:=by
 obtain ⟨p,x,y,s,rfl,rfl,_⟩:=h
 simp
theorem rd_at (l:List Int) (i:Nat) (h:i<l.length):rd l (i:Int)=l[i]:=by
 simp [rd,List.getD_eq_getElem?_getD,List.getElem?_eq_getElem h]
theorem bit_eq {x:Nat} (h:x<4294967296):check_word_eight.bit (x:Int)=(bitN x:Int):=by
 unfold check_word_eight.bit bitN
 rw [bits_one32 h]
 have hd:(x:Int) / 2=((x / 2:Nat):Int):=by omega
 rw [hd]
 by_cases h1:x % 2=1
 ·
  rw [if_pos (by omega),if_pos h1]
  exact bits_xor32 (a:=x / 2) (b:=2197175160) (by omega) (by omega)
 ·
  rw [if_neg (by omega),if_neg h1]
theorem go_eq:∀ (m:Nat) {x:Nat},x<4294967296→check_word_eight.go m (x:Int)=(goN m x:Int)
 | 0,_,_=>rfl
 | m+1,x,h=>by
  rw [check_word_eight.go,bit_eq h,go_eq m (bitN_lt h)]
  rfl
theorem eight_eq {w:Nat} {c:Int} (hw:w<4294967296) (hc:0≤c∧c<256):check_word_eight.f (w:Int) c=some (stepN w c.toNat:Int):=by
 have hc1:c % 4294967296=((c.toNat:Nat):Int):=by omega
 have hc2:c.toNat<4294967296:=by omega
 unfold check_word_eight.f
 rw [hc1,bits_xor32 hw hc2,go_eq 8 (Nat.xor_lt_two_pow (n:=32) hw hc2)]
 rfl
theorem more_l0 {l:List Int} (hb:Bytes l) (hl:l.length≤140737488355328) (d:Nat):∀ (i w:Nat),i≤l.length→l.length - i=d→w<4294967296→
  Ev (fun k=>check_More.l0 k (w:Int) l (l.length:Int) (i:Int)) ((4294967295 - crcN w (l.drop i):Nat):Int):=by
 induction d with
 | zero=>
  intro i w hi hd hw
  rw [List.drop_eq_nil_of_le (by omega)]
  refine Ev.step (f:=fun _=>some ((4294967295 - w:Nat):Int)) (fun k=>?_) (Ev.now _)
  simp only [check_More.l0]
  rw [if_neg (by omega),bits_all32 hw]
 | succ d ih=>
  intro i w hi hd hw
  have h1:i<l.length:=by omega
  have hc:=hb _ (List.getElem_mem h1)
  rw [List.drop_eq_getElem_cons h1]
  refine Ev.step (f:=fun k=>check_More.l0 k ((stepN w (l[i]).toNat:Nat):Int) l (l.length:Int) ((i+1:Nat):Int)) (fun k=>?_) (ih (i+1) (stepN w (l[i]).toNat) (by omega) (by omega) (stepN_lt hw (by omega)))
  simp only [check_More.l0]
  rw [if_pos (by omega),if_pos (by omega),if_pos (by omega),rd_at _ _ h1,eight_eq hw hc,w64 (by omega) (by omega)]
  rfl
theorem check_Sum_ev {l:List Int} (hb:Bytes l) (hl:l.length≤140737488355328):Ev (fun k=>check_Sum.f k l) (crcSum l):=by
 unfold check_Sum.f check_More.f
 have h:=more_l0 hb hl l.length 0 4294967295 (by omega) (by omega) (by omega)
 rw [List.drop_zero,← crcSum_def] at h
 have e:Go.bits .xor .u32 0 4294967295=((4294967295:Nat):Int):=bits_xor32 (a:=0) (b:=4294967295) (by omega) (by omega)
 rw [e]
 exact Ev.bind h (Ev.now _)
theorem rd_nat (l:List Int) (i:Nat) (h:i<l.length):rd l (i:Int)=l[i]:=by
 simp [rd,List.getD_eq_getElem?_getD,List.getElem?_eq_getElem h]
theorem equal_l0 (l m:List Int) (hm:l.length=m.length) (hl:l.length≤140737488355328) (d:Nat):∀ i:Nat,i≤l.length→l.length - i=d→
  Ev (fun k=>slices_Equal_byte_byte.l0 k l m (l.length:Int) (i:Int)) (decide (l.drop i=m.drop i)):=by
 induction d with
 | zero=>
  intro i hi hd
  refine Ev.step (f:=fun _=>some true) (fun k=>?_) ?_
  ·
   simp only [slices_Equal_byte_byte.l0]
   rw [if_neg (by omega)]
  ·
   rw [List.drop_eq_nil_of_le (by omega),List.drop_eq_nil_of_le (by omega)]
   exact Ev.now _
 | succ d ih=>
  intro i hi hd
  have h1:i<l.length:=by omega
  have h2:i<m.length:=by omega
  rw [List.drop_eq_getElem_cons h1,List.drop_eq_getElem_cons h2]
  by_cases he:l[i]=m[i]
  ·
   refine Ev.step (f:=fun k=>slices_Equal_byte_byte.l0 k l m (l.length:Int) ((i+1:Nat):Int)) (fun k=>?_) ((ih (i+1) (by omega) (by omega)).to (by simp only [he,List.cons.injEq,true_and]))
   simp only [slices_Equal_byte_byte.l0]
   rw [if_pos (by omega),if_pos (by omega),if_pos (by omega),if_pos (by omega),rd_nat _ _ h1,rd_nat _ _ h2,if_pos he,w64 (by omega) (by omega)]
   rfl
  ·
   refine Ev.step (f:=fun _=>some false) (fun k=>?_) ((Ev.now false).to (by simp only [List.cons.injEq,he,false_and,decide_false]))
   simp only [slices_Equal_byte_byte.l0]
   rw [if_pos (by omega),if_pos (by omega),if_pos (by omega),if_pos (by omega),rd_nat _ _ h1,rd_nat _ _ h2,if_neg he]
theorem equal_ev {l m:List Int} (hl:l.length≤140737488355328):Ev (fun k=>slices_Equal_byte_byte.f k l m) (decide (l=m)):=by
 unfold slices_Equal_byte_byte.f
 by_cases h:l.length=m.length
 ·
  refine Ev.pos (by omega) ?_
  have:=equal_l0 l m h hl l.length 0 (by omega) (by omega)
  simpa using this
 ·
  refine Ev.neg (by omega) ((Ev.now false).to ?_)
  symm
  rw [decide_eq_false_iff_not]
  intro e
  exact h (by rw [e])
theorem frame_sum_ev {l:List Int} (hb:Bytes l) (hl:l.length≤140737488355328):Ev (fun k=>frame_sum.f k l) (sumB l):=by
 unfold frame_sum.f
 refine Ev.bind (check_Sum_ev hb hl) ?_
 obtain ⟨h0,h1⟩:=crcSum_in l
 rw [w64 (by omega) (by omega),wire_Num_eq]
 exact Ev.now _
theorem frame_Put_ev {l:List Int} (hb:Bytes l) (hl:l.length≤140737488355328):Ev (fun k=>frame_Put.f k l) (if l.length > 65535 then [] else frame l):=by
 unfold frame_Put.f
 by_cases h:l.length > 65535
 ·
  rw [if_pos h]
  exact Ev.pos (by omega) (Ev.now _)
 ·
  rw [if_neg h]
  refine Ev.neg (by omega) (Ev.bind (Ev.eq (wire_Num_eq _)) (Ev.bind (frame_sum_ev (bytes_num _) (by have:=num_length_le l.length;omega)) (Ev.bind (frame_sum_ev hb hl) (Ev.bind (Ev.eq (concat_eq ?_)) ((Ev.now _).to ?_)))))
  ·
   have h1:=num_length_le l.length
   have h2:=sumB_length (num l.length)
   have h3:=sumB_length l
   simp only [lenSum,List.map_cons,List.map_nil,List.sum_cons,List.sum_nil]
   omega
  ·
   simp [frame]
def oneB (c:Cell):List Int:=cellB c.f0 c.f1 c.f2 c.f3 c.f4
def bodyB (l:List Cell):List Int:=num l.length++(l.map oneB).flatten
theorem oneB_le {c:Cell} (h:rightC c=true):(oneB c).length≤401:=by
 obtain ⟨_,h1,_,h2,_,_,h3,_⟩:=rightC_iff.1 h
 have:=cellB_length c.f0 c.f1 c.f2 c.f3 c.f4
 unfold oneB
 omega
theorem bytes_flat_one:∀ l:List Cell,Bytes (l.map oneB).flatten
 | []=>Bytes.nil
 | c :: l=>by rw [List.map_cons,List.flatten_cons];exact (bytes_cellB _ _ _ _ _).append (bytes_flat_one l)
theorem bytes_bodyB (l:List Cell):Bytes (bodyB l):=(bytes_num _).append (bytes_flat_one l)
theorem frame_ne {r:List Int} (h:r.length≤65535):¬ (((frame r).length:Nat):Int)=0:=by
 rw [frame_length h]
 omega
theorem put_l0 (l:List Cell) (hr:RightsC l) (hl:l.length≤450) (d:Nat):∀ (i:Nat) (acc:List Int),i≤l.length→l.length - i=d→acc.length+((l.drop i).map oneB).flatten.length≤60154→Bytes acc→Ev (fun k=>block_Put.l0 k acc l (l.length:Int) (i:Int)) (frame (acc++((l.drop i).map oneB).flatten),0):=by
 induction d with
 | zero=>
  intro i acc hi hd ha hb
  rw [List.drop_eq_nil_of_le (by omega)] at ha ⊢
  simp only [List.map_nil,List.flatten_nil,List.length_nil] at ha
  have h:=frame_Put_ev hb (by omega)
  rw [if_neg (by omega)] at h
  refine Ev.step (fun k=>by simp only [block_Put.l0];rw [if_neg (by omega)]) ?_
  refine Ev.bind h ?_
  refine Ev.neg (frame_ne (by omega)) ?_
  exact (Ev.now _).to (by simp)
 | succ d ih=>
  intro i acc hi hd ha hb
  have hlt:i<l.length:=by omega
  have hri:=hr _ (List.getElem_mem hlt)
  have hz:=oneB_le hri
  have hrd:=rdC_at l i hlt
  unfold rdC at hrd
  obtain ⟨_,z1,_,z2,_,_,z3,_⟩:=rightC_iff.1 hri
  have hp:cell_Put.f l[i].f0 l[i].f1 l[i].f2 l[i].f3 l[i].f4=some (oneB l[i]):=cell_Put_eq _ _ (by omega) (by omega) (by omega)
  rw [List.drop_eq_getElem_cons hlt,List.map_cons,List.flatten_cons,List.length_append] at ha
  rw [List.drop_eq_getElem_cons hlt,List.map_cons,List.flatten_cons,← List.append_assoc]
  refine Ev.step (f:=fun k=>block_Put.l0 k (acc++oneB l[i]) l (l.length:Int) ((i+1:Nat):Int)) (fun k=>?_) (ih (i+1) (acc++oneB l[i]) (by omega) (by omega) (by rw [List.length_append];omega) (hb.append (bytes_cellB _ _ _ _ _)))
  simp only [block_Put.l0]
  rw [if_pos (by omega),if_pos (by omega),if_pos (by omega),hrd,hp,Option.bind_some,if_pos (by omega),w64 (by omega) (by omega)]
  rfl
theorem block_Put_evW {l:List Cell} (hs:SrtC l) (h0:l.length≠0) (hl:l.length≤450) (hb:(bodyB l).length≤60154):Ev (fun k=>block_Put.f k l) (frame (bodyB l),0):=by
 unfold block_Put.f
 refine Ev.bind (cell_Sorted_ev (by omega)) ?_
 rw [sortedC_iff.2 hs]
 refine Ev.pos rfl ?_
 rw [show ((l.length:Int) == 0)=false from beq_eq_false_iff_ne.2 (by omega)]
 refine Ev.step (fun k=>by simp only [block_Put.j0,Bool.false_eq_true,if_false];rw [wire_Num_eq]) (Ev.bind (Ev.now _) ?_)
 have:=put_l0 l hs.1 hl l.length 0 (num l.length) (by omega) (by omega) (by rw [List.drop_zero,← List.length_append];exact hb) (bytes_num _)
 rw [List.drop_zero] at this
 exact this
def bitsK (key:ByteArray) (n:Int):List Int:=
 [crcSum (bytesOf key) % n,(crcSum (bytesOf key)+crcSum ([1]++bytesOf key)) % 4294967296 % n,(crcSum (bytesOf key)+2*crcSum ([1]++bytesOf key)) % 4294967296 % n]
theorem bitsK_in {key:ByteArray} {n:Int} (h:0<n):∀ i ∈ bitsK key n,0≤i∧i<n:=by
 intro i hi
 simp only [bitsK,List.mem_cons,List.not_mem_nil,or_false] at hi
 rcases hi with rfl | rfl | rfl<;>exact ⟨Int.emod_nonneg _ (by omega),Int.emod_lt_of_pos _ h⟩
def bv (b0 b1 b2 b3 b4 b5 b6 b7:Bool):Int:=b0.toInt+2*(b1.toInt+2*(b2.toInt+2*(b3.toInt+2*(b4.toInt+2*(b5.toInt+2*(b6.toInt+2*b7.toInt))))))
theorem toInt_in (b:Bool):0≤b.toInt∧b.toInt≤1:=by cases b<;>decide
theorem bv_in (b0 b1 b2 b3 b4 b5 b6 b7:Bool):0≤bv b0 b1 b2 b3 b4 b5 b6 b7∧bv b0 b1 b2 b3 b4 b5 b6 b7<256:=by
 have:=toInt_in b0;have:=toInt_in b1;have:=toInt_in b2;have:=toInt_in b3;have:=toInt_in b4;have:=toInt_in b5;have:=toInt_in b6;have:=toInt_in b7
 unfold bv
 omega
theorem or0:∀ b0 b1 b2 b3 b4 b5 b6 b7:Bool,Go.bits .or .u8 (bv b0 b1 b2 b3 b4 b5 b6 b7) (shl .u8 1 0)=bv true b1 b2 b3 b4 b5 b6 b7:=by decide +kernel
theorem or1:∀ b0 b1 b2 b3 b4 b5 b6 b7:Bool,Go.bits .or .u8 (bv b0 b1 b2 b3 b4 b5 b6 b7) (shl .u8 1 1)=bv b0 true b2 b3 b4 b5 b6 b7:=by decide +kernel
theorem or2:∀ b0 b1 b2 b3 b4 b5 b6 b7:Bool,Go.bits .or .u8 (bv b0 b1 b2 b3 b4 b5 b6 b7) (shl .u8 1 2)=bv b0 b1 true b3 b4 b5 b6 b7:=by decide +kernel
theorem or3:∀ b0 b1 b2 b3 b4 b5 b6 b7:Bool,Go.bits .or .u8 (bv b0 b1 b2 b3 b4 b5 b6 b7) (shl .u8 1 3)=bv b0 b1 b2 true b4 b5 b6 b7:=by decide +kernel
theorem or4:∀ b0 b1 b2 b3 b4 b5 b6 b7:Bool,Go.bits .or .u8 (bv b0 b1 b2 b3 b4 b5 b6 b7) (shl .u8 1 4)=bv b0 b1 b2 b3 true b5 b6 b7:=by decide +kernel
theorem or5:∀ b0 b1 b2 b3 b4 b5 b6 b7:Bool,Go.bits .or .u8 (bv b0 b1 b2 b3 b4 b5 b6 b7) (shl .u8 1 5)=bv b0 b1 b2 b3 b4 true b6 b7:=by decide +kernel
theorem or6:∀ b0 b1 b2 b3 b4 b5 b6 b7:Bool,Go.bits .or .u8 (bv b0 b1 b2 b3 b4 b5 b6 b7) (shl .u8 1 6)=bv b0 b1 b2 b3 b4 b5 true b7:=by decide +kernel
theorem or7:∀ b0 b1 b2 b3 b4 b5 b6 b7:Bool,Go.bits .or .u8 (bv b0 b1 b2 b3 b4 b5 b6 b7) (shl .u8 1 7)=bv b0 b1 b2 b3 b4 b5 b6 true:=by decide +kernel
theorem test_dec:∀ x:Fin 256,∀ k:Fin 8,decide (Go.bits .and .u8 (shr .u8 (x.val:Int) (k.val:Int)) 1=0)=decide (((x.val:Int) / 2 ^ k.val) % 2=0):=by decide +kernel
def byteOf (s:List Bool) (j:Nat):Int:=bv (s.getD (8*j) false) (s.getD (8*j+1) false) (s.getD (8*j+2) false) (s.getD (8*j+3) false) (s.getD (8*j+4) false) (s.getD (8*j+5) false) (s.getD (8*j+6) false) (s.getD (8*j+7) false)
def bytesF (s:List Bool) (m:Nat):List Int:=(List.range m).map (byteOf s)
theorem bytesF_length (s:List Bool) (m:Nat):(bytesF s m).length=m:=by simp [bytesF]
theorem bytesF_at (s:List Bool) {m j:Nat} (h:j<m):(bytesF s m)[j]'(by rw [bytesF_length];exact h)=byteOf s j:=by simp [bytesF]
theorem bytes_bytesF (s:List Bool) (m:Nat):Bytes (bytesF s m):=by
 intro x hx
 simp only [bytesF,List.mem_map,List.mem_range] at hx
 obtain ⟨j,_,rfl⟩:=hx
 exact bv_in _ _ _ _ _ _ _ _
theorem getD_set (s:List Bool) (i q:Nat) (h:i<s.length):(s.set i true).getD q false=if i=q then true else s.getD q false:=by
 rw [List.getD_eq_getElem?_getD,List.getD_eq_getElem?_getD,List.getElem?_set]
 split
 ·
  simp
 ·
  rfl
theorem byteOf_set (s:List Bool) (i j:Nat) (h:i<s.length):byteOf (s.set i true) j=if j=i / 8 then Go.bits .or .u8 (byteOf s j) (shl .u8 1 ((i % 8:Nat):Int)) else byteOf s j:=by
 by_cases hj:j=i / 8
 ·
  rw [if_pos hj]
  subst hj
  unfold byteOf
  simp only [getD_set s i _ h]
  have h8:i % 8<8:=Nat.mod_lt _ (by omega)
  have he:i=8*(i / 8)+i % 8:=by omega
  obtain ⟨r,hr⟩:∃ r,r=i % 8:=⟨_,rfl⟩
  rw [←hr] at h8 he ⊢
  generalize i / 8=q at he ⊢
  subst he
  clear hr
  have e0:(8*q+r=8*q)=(r=0):=propext ⟨fun h=>by omega,fun h=>by omega⟩
  have e1:(8*q+r=8*q+1)=(r=1):=propext ⟨fun h=>by omega,fun h=>by omega⟩
  have e2:(8*q+r=8*q+2)=(r=2):=propext ⟨fun h=>by omega,fun h=>by omega⟩
  have e3:(8*q+r=8*q+3)=(r=3):=propext ⟨fun h=>by omega,fun h=>by omega⟩
  have e4:(8*q+r=8*q+4)=(r=4):=propext ⟨fun h=>by omega,fun h=>by omega⟩
  have e5:(8*q+r=8*q+5)=(r=5):=propext ⟨fun h=>by omega,fun h=>by omega⟩
  have e6:(8*q+r=8*q+6)=(r=6):=propext ⟨fun h=>by omega,fun h=>by omega⟩
  have e7:(8*q+r=8*q+7)=(r=7):=propext ⟨fun h=>by omega,fun h=>by omega⟩
  simp only [e0,e1,e2,e3,e4,e5,e6,e7]
  clear e0 e1 e2 e3 e4 e5 e6 e7
  obtain rfl | rfl | rfl | rfl | rfl | rfl | rfl | rfl:r=0∨r=1∨r=2∨r=3∨r=4∨r=5∨r=6∨r=7:=by omega
  ·
   exact (or0 _ _ _ _ _ _ _ _).symm
  ·
   exact (or1 _ _ _ _ _ _ _ _).symm
  ·
   exact (or2 _ _ _ _ _ _ _ _).symm
  ·
   exact (or3 _ _ _ _ _ _ _ _).symm
  ·
   exact (or4 _ _ _ _ _ _ _ _).symm
  ·
   exact (or5 _ _ _ _ _ _ _ _).symm
  ·
   exact (or6 _ _ _ _ _ _ _ _).symm
  ·
   exact (or7 _ _ _ _ _ _ _ _).symm
 ·
  rw [if_neg hj]
  unfold byteOf
  simp only [getD_set s i _ h]
  rw [if_neg (by omega),if_neg (by omega),if_neg (by omega),if_neg (by omega),if_neg (by omega),if_neg (by omega),if_neg (by omega),if_neg (by omega)]
def orBit (f:List Int) (i:Int):List Int:=f.set (i / 8).toNat (Go.bits .or .u8 (rd f (i / 8)) (shl .u8 1 (i % 8)))
def setBit (s:List Bool) (i:Int):List Bool:=s.set i.toNat true
theorem orBit_bytes (s:List Bool) (m:Nat) (hs:s.length=8*m) (i:Int) (h0:0≤i) (h1:i<8*m):orBit (bytesF s m) i=bytesF (setBit s i) m:=by
 obtain ⟨n,rfl⟩:∃ n:Nat,i=(n:Int):=⟨i.toNat,by omega⟩
 have hq:((n:Int) / 8)=((n / 8:Nat):Int):=by omega
 have hr:((n:Int) % 8)=((n % 8:Nat):Int):=by omega
 unfold orBit setBit
 rw [hq,hr,Int.toNat_natCast,Int.toNat_natCast]
 have hlt:n / 8<m:=by omega
 have hrd:rd (bytesF s m) ((n / 8:Nat):Int)=byteOf s (n / 8):=by
  unfold rd
  rw [Int.toNat_natCast,List.getD_eq_getElem?_getD,List.getElem?_eq_getElem (by rw [bytesF_length];exact hlt),bytesF_at s hlt]
  rfl
 rw [hrd]
 apply List.ext_getElem
 ·
  rw [List.length_set,bytesF_length,bytesF_length]
 ·
  intro j hj1 hj2
  rw [bytesF_length] at hj2
  rw [List.getElem_set,bytesF_at s hj2,show (bytesF (s.set n true) m)[j]=byteOf (s.set n true) j from bytesF_at _ hj2,byteOf_set s n j (by omega)]
  by_cases he:n / 8=j
  ·
   rw [if_pos he,if_pos he.symm,← he]
  ·
   rw [if_neg he,if_neg (fun h=>he h.symm)]
def setK (n:Int) (s:List Bool) (keys:List ByteArray):List Bool:=keys.foldl (fun s k=>(bitsK k n).foldl setBit s) s
theorem foldl_set_length:∀ (l:List Int) (s:List Bool),(l.foldl setBit s).length=s.length
 | [],_=>rfl
 | i :: l,s=>by
  rw [List.foldl_cons,foldl_set_length l]
  unfold setBit
  rw [List.length_set]
def sizeK (keys:List ByteArray):Nat:=max 1 keys.length
def makeF (keys:List ByteArray):List Int:=bytesF (setK (8*(sizeK keys:Int)) (List.replicate (8*sizeK keys) false) keys) (sizeK keys)
theorem makeF_length (keys:List ByteArray):(makeF keys).length=sizeK keys:=bytesF_length _ _
theorem bytes_makeF (keys:List ByteArray):Bytes (makeF keys):=bytes_bytesF _ _
def hasB (f:List Int) (is:List Int):Bool:=is.all fun i=>decide (¬ (rd f (i / 8) / 2 ^ (i % 8).toNat) % 2=0)
def hasF (f:List Int) (key:ByteArray):Bool:=if f.length=0 then true else hasB f (bitsK key (8*(f.length:Int)))
theorem get0:∀ b0 b1 b2 b3 b4 b5 b6 b7:Bool,(bv b0 b1 b2 b3 b4 b5 b6 b7 / 2 ^ 0) % 2=b0.toInt∧(bv b0 b1 b2 b3 b4 b5 b6 b7 / 2 ^ 1) % 2=b1.toInt∧(bv b0 b1 b2 b3 b4 b5 b6 b7 / 2 ^ 2) % 2=b2.toInt∧(bv b0 b1 b2 b3 b4 b5 b6 b7 / 2 ^ 3) % 2=b3.toInt∧(bv b0 b1 b2 b3 b4 b5 b6 b7 / 2 ^ 4) % 2=b4.toInt∧(bv b0 b1 b2 b3 b4 b5 b6 b7 / 2 ^ 5) % 2=b5.toInt∧(bv b0 b1 b2 b3 b4 b5 b6 b7 / 2 ^ 6) % 2=b6.toInt∧(bv b0 b1 b2 b3 b4 b5 b6 b7 / 2 ^ 7) % 2=b7.toInt:=by decide +kernel
theorem byteOf_bit (s:List Bool) (j r:Nat) (h:r<8):(byteOf s j / 2 ^ r) % 2=(s.getD (8*j+r) false).toInt:=by
 have hg:=get0 (s.getD (8*j) false) (s.getD (8*j+1) false) (s.getD (8*j+2) false) (s.getD (8*j+3) false) (s.getD (8*j+4) false) (s.getD (8*j+5) false) (s.getD (8*j+6) false) (s.getD (8*j+7) false)
 unfold byteOf
 obtain ⟨g0,g1,g2,g3,g4,g5,g6,g7⟩:=hg
 obtain rfl | rfl | rfl | rfl | rfl | rfl | rfl | rfl:r=0∨r=1∨r=2∨r=3∨r=4∨r=5∨r=6∨r=7:=by omega
 ·
  exact g0
 ·
  exact g1
 ·
  exact g2
 ·
  exact g3
 ·
  exact g4
 ·
  exact g5
 ·
  exact g6
 ·
  exact g7
theorem set_keeps (l:List Int) (q:Nat):∀ (s:List Bool),s.getD q false=true→(l.foldl setBit s).getD q false=true:=by
 induction l with
 | nil=>exact fun s h=>h
 | cons i l ih=>
  intro s h
  refine ih _ ?_
  unfold setBit
  rw [List.getD_eq_getElem?_getD,List.getElem?_set]
  split
  ·
   split
   ·
    rfl
   ·
    rename_i he hlt
    rw [List.getD_eq_getElem?_getD,List.getElem?_eq_none (by omega)] at h
    exact h
  ·
   rw [←List.getD_eq_getElem?_getD];exact h
theorem set_has (l:List Int):∀ (s:List Bool),∀ i ∈ l,0≤i→i.toNat<s.length→(l.foldl setBit s).getD i.toNat false=true:=by
 induction l with
 | nil=>intro s i hi;cases hi
 | cons j l ih=>
  intro s i hi h0 h1
  have hl:(setBit s j).length=s.length:=by unfold setBit;rw [List.length_set]
  rcases List.mem_cons.1 hi with rfl | hi
  ·
   refine set_keeps l _ _ ?_
   unfold setBit
   rw [getD_set s _ _ h1,if_pos rfl]
  ·
   exact ih (setBit s j) i hi h0 (by rw [hl];exact h1)
theorem setK_keeps (n:Int) (q:Nat):∀ (keys:List ByteArray) (s:List Bool),s.getD q false=true→(setK n s keys).getD q false=true
 | [],_,h=>h
 | k :: keys,s,h=>setK_keeps n q keys _ (set_keeps _ q s h)
theorem setK_has (n:Int) (key:ByteArray) (i:Int) (hi:i ∈ bitsK key n) (h0:0≤i):∀ (keys:List ByteArray) (s:List Bool),key ∈ keys→i.toNat<s.length→(setK n s keys).getD i.toNat false=true
 | [],_,h,_=>by cases h
 | k :: keys,s,h,h1=>by
  rcases List.mem_cons.1 h with rfl | h
  ·
   exact setK_keeps n _ keys _ (set_has _ s i hi h0 h1)
  ·
   exact setK_has n key i hi h0 keys _ h (by rw [foldl_set_length];exact h1)
theorem hasF_make {key:ByteArray} {keys:List ByteArray} (h:key ∈ keys):hasF (makeF keys) key=true:=by
 have hm:0<sizeK keys:=by unfold sizeK;omega
 unfold hasF
 rw [makeF_length,if_neg (by omega)]
 unfold hasB
 rw [List.all_eq_true]
 intro i hi
 obtain ⟨h0,h1⟩:=bitsK_in (by omega) i hi
 obtain ⟨n,rfl⟩:∃ n:Nat,i=(n:Int):=⟨i.toNat,by omega⟩
 have hq:((n:Int) / 8)=((n / 8:Nat):Int):=by omega
 have hr:((n:Int) % 8).toNat=n % 8:=by omega
 have hlt:n / 8<sizeK keys:=by omega
 have hs:=setK_has (8*(sizeK keys:Int)) key (n:Int) hi h0 keys (List.replicate (8*sizeK keys) false) h (by rw [List.length_replicate];omega)
 have hrd:rd (makeF keys) ((n / 8:Nat):Int)=byteOf (setK (8*(sizeK keys:Int)) (List.replicate (8*sizeK keys) false) keys) (n / 8):=by
  unfold rd
  rw [Int.toNat_natCast,List.getD_eq_getElem?_getD,List.getElem?_eq_getElem (by rw [makeF_length];exact hlt)]
  exact bytesF_at _ hlt
 rw [hq,hr,hrd,byteOf_bit _ _ _ (Nat.mod_lt _ (by omega)),show 8*(n / 8)+n % 8=n by omega]
 rw [Int.toNat_natCast] at hs
 rw [hs]
 decide
def keyT (r c:ByteArray):ByteArray:=strOfNums (text r)++strOfNums (text c)
theorem keyT_size (r c:ByteArray):(keyT r c).size≤8+r.size+c.size:=by
 unfold keyT
 rw [ByteArray.size_append,strOf_size,strOf_size]
 have:=text_length_le r
 have:=text_length_le c
 omega
def keysT (l:List Cell):List ByteArray:=l.map fun c=>keyT c.f0 c.f1
def filterB (l:List Cell):List Int:=makeF (keysT l)
theorem filterB_length (l:List Cell):(filterB l).length=max 1 l.length:=by
 unfold filterB
 rw [makeF_length]
 simp [sizeK,keysT]
theorem bytes_filterB (l:List Cell):Bytes (filterB l):=bytes_makeF _
def keyB:List Cell→List Int
 | []=>[]
 | c :: _=>cellB c.f0 c.f1 c.f2 ⟨#[]⟩ false
def allB (bs:List (List Cell)):List Int:=(bs.map fun l=>frame (bodyB l)).flatten
def footL:Nat→List (List Cell)→List Int
 | _,[]=>[]
 | off,l :: bs=>keyB l++(num off++footL (off+(frame (bodyB l)).length) bs)
def footC (bs:List (List Cell)) (fl:List Int):List Int:=num bs.length++(footL 0 bs++text (strOfNums fl))
def tableB (bs:List (List Cell)) (fl:List Int):List Int:=allB bs++(frame (footC bs fl)++num (frame (footC bs fl)).length)
def BlkOk (b:List Cell):Prop:=SrtC b∧b≠[]∧b.length≤450∧(bodyB b).length≤60154
theorem keyB_le {b:List Cell} (h:BlkOk b):(keyB b).length≤145:=by
 cases b with
 | nil=>simp [keyB]
 | cons c b=>
  obtain ⟨_,h1,_,h2,_⟩:=rightC_iff.1 (h.1.1 c List.mem_cons_self)
  have:=cellB_length c.f0 c.f1 c.f2 ⟨#[]⟩ false
  have h0:(⟨#[]⟩:ByteArray).size=0:=rfl
  show (cellB c.f0 c.f1 c.f2 ⟨#[]⟩ false).length≤145
  omega
theorem bytes_keyB (b:List Cell):Bytes (keyB b):=by
 cases b with
 | nil=>exact Bytes.nil
 | cons c b=>exact bytes_cellB _ _ _ _ _
theorem footL_le:∀ (bs:List (List Cell)) (off:Nat),(∀ b ∈ bs,BlkOk b)→(footL off bs).length≤149*bs.length
 | [],_,_=>by simp [footL]
 | b :: bs,off,h=>by
  have h1:=keyB_le (h b List.mem_cons_self)
  have h2:=num_length_le off
  have h3:=footL_le bs (off+(frame (bodyB b)).length) (fun x hx=>h x (List.mem_cons_of_mem _ hx))
  unfold footL
  simp only [List.length_append,List.length_cons]
  omega
theorem bytes_footL:∀ (bs:List (List Cell)) (off:Nat),Bytes (footL off bs)
 | [],_=>Bytes.nil
 | b :: bs,off=>by
  unfold footL
  exact (bytes_keyB b).append ((bytes_num _).append (bytes_footL bs _))
theorem bytes_footC (bs:List (List Cell)) (fl:List Int):Bytes (footC bs fl):=(bytes_num _).append ((bytes_footL _ _).append (bytes_text _))
theorem footC_le {bs:List (List Cell)} {fl:List Int} (h:∀ b ∈ bs,BlkOk b) (hb:bs.length≤421) (hf:fl.length≤1000):(footC bs fl).length≤63800:=by
 have h1:=footL_le bs 0 h
 have h2:=num_length_le bs.length
 have h3:=text_length_le (strOfNums fl)
 rw [strOf_size] at h3
 unfold footC
 simp only [List.length_append]
 omega
theorem body_le {b:List Cell} (h:BlkOk b):(bodyB b).length≤60154:=h.2.2.2
theorem frame_le {b:List Cell} (h:BlkOk b):(frame (bodyB b)).length≤60166:=by
 have:=body_le h
 rw [frame_length (by omega)]
 omega
theorem allB_cons (b:List Cell) (bs:List (List Cell)):allB (b :: bs)=frame (bodyB b)++allB bs:=by simp [allB]
theorem bytes_allB:∀ (bs:List (List Cell)),Bytes (allB bs)
 | []=>Bytes.nil
 | b :: bs=>by
  rw [allB_cons]
  exact (bytes_frame (bytes_bodyB b)).append (bytes_allB bs)
theorem allB_le:∀ (bs:List (List Cell)),(∀ b ∈ bs,BlkOk b)→(allB bs).length≤60166*bs.length
 | [],_=>by simp [allB]
 | b :: bs,h=>by
  have h1:=frame_le (h b List.mem_cons_self)
  have h2:=allB_le bs (fun x hx=>h x (List.mem_cons_of_mem _ hx))
  rw [allB_cons]
  simp only [List.length_append,List.length_cons]
  omega
theorem bytes_tableB (bs:List (List Cell)) (fl:List Int):Bytes (tableB bs fl):=(bytes_allB bs).append ((bytes_frame (bytes_footC bs fl)).append (bytes_num _))
theorem clone_C {l:List Cell} (h:l.length≤1000000000):api_Cell_40.f l=some l:=by
 unfold api_Cell_40.f
 rw [if_pos (by omega)]
def lenC (c:Cell):Nat:=(cellB c.f0 c.f1 c.f2 c.f3 c.f4).length
theorem lenC_le {c:Cell} (h:rightC c=true):lenC c≤401:=by
 obtain ⟨_,h1,_,h2,_,_,h3,_⟩:=rightC_iff.1 h
 have:=cellB_length c.f0 c.f1 c.f2 c.f3 c.f4
 unfold lenC
 omega
theorem put_C {c:Cell} (h:rightC c=true):cell_Put.f c.f0 c.f1 c.f2 c.f3 c.f4=some (cellB c.f0 c.f1 c.f2 c.f3 c.f4):=by
 obtain ⟨_,h1,_,h2,_,_,h3,_⟩:=rightC_iff.1 h
 exact cell_Put_eq _ _ (by omega) (by omega) (by omega)
def goB (size:Nat):List Cell→List Cell→Nat→List (List Cell)
 | [],now,_=>if now=[] then [] else [now]
 | c :: l,now,n=>if n+lenC c≥size then (now++[c]) :: goB size l [] 0 else goB size l (now++[c]) (n+lenC c)
theorem goB_length (size:Nat):∀ (l now:List Cell) (n:Nat),(goB size l now n).length≤l.length+1
 | [],now,n=>by unfold goB;split<;>simp
 | c :: l,now,n=>by
  unfold goB
  split
  ·
   have:=goB_length size l [] 0
   simp only [List.length_cons];omega
  ·
   have:=goB_length size l (now++[c]) (n+lenC c)
   simp only [List.length_cons];omega
theorem block_l1 (size:Nat) (N:Nat) (hN:N≤1000) (ih:∀ (l:List Cell) (out:List (List Cell)),l.length<N→RightsC l→out.length+l.length≤1000→Ev (fun k=>block_Cut.l0 k l (size:Int) out) (out++goB size l [] 0,0))
  (l:List Cell) (out:List (List Cell)) (hl:l.length≤N) (hl0:0<l.length) (hr:RightsC l) (ho:out.length+l.length≤1000) (d:Nat):∀ (i n:Nat),i≤l.length→l.length - i=d→n≤401*i→Ev (fun k=>block_Cut.l1 k l (size:Int) out (n:Int) l (l.length:Int) (i:Int)) (out++goB size (l.drop i) (l.take i) n,0):=by
 induction d with
 | zero=>
  intro i n hi hd hn
  have:i=l.length:=by omega
  subst this
  rw [List.drop_eq_nil_of_le (Nat.le_refl _),List.take_length]
  refine Ev.step (f:=fun _=>some (out++[l],0)) (fun k=>?_) ((Ev.now _).to ?_)
  ·
   simp only [block_Cut.l1]
   rw [if_neg (by omega),clone_C (by omega),Option.bind_some,if_pos (by omega)]
  ·
   unfold goB
   rw [if_neg (fun e=>by rw [e] at hl0;simp at hl0)]
 | succ d ih2=>
  intro i n hi hd hn
  have hlt:i<l.length:=by omega
  have hri:=hr _ (List.getElem_mem hlt)
  have hz:=lenC_le hri
  have hrd:=rdC_at l i hlt
  unfold rdC at hrd
  rw [List.drop_eq_getElem_cons hlt]
  unfold goB
  have e1:wrap64 ((n:Int)+((cellB l[i].f0 l[i].f1 l[i].f2 l[i].f3 l[i].f4).length:Int))=((n+lenC l[i]:Nat):Int):=by
   show wrap64 ((n:Int)+((lenC l[i]:Nat):Int))=_
   rw [w64 (by omega) (by omega)];rfl
  have e2:wrap64 ((i:Int)+1)=((i+1:Nat):Int):=by rw [w64 (by omega) (by omega)];rfl
  have e3:l.take i++[l[i]]=l.take (i+1):=by rw [List.take_succ_eq_append_getElem hlt]
  refine Ev.step (fun k=>by simp only [block_Cut.l1];rw [if_pos (by omega),if_pos (by omega),if_pos (by omega),hrd,put_C hri,Option.bind_some,e1,e2]) ?_
  clear e1 e2
  by_cases hs:n+lenC l[i]≥size
  ·
   rw [if_pos hs,e3]
   refine Ev.pos (by omega) (Ev.pos (by omega) (Ev.pos (by omega) ?_))
   rw [Int.toNat_natCast,clone_C (by rw [List.length_take];omega)]
   refine Ev.bind (Ev.now _) (Ev.pos (by omega) ?_)
   refine (ih (l.drop (i+1)) (out++[l.take (i+1)]) (by rw [List.length_drop];omega) (fun x hx=>hr x (List.mem_of_mem_drop hx)) (by rw [List.length_append,List.length_drop,List.length_singleton];omega)).to ?_
   rw [List.append_assoc]
   rfl
  ·
   rw [if_neg hs,e3]
   exact Ev.neg (by omega) (ih2 (i+1) (n+lenC l[i]) (by omega) (by omega) (by omega))
theorem block_l0 (size:Nat) (N:Nat):∀ (l:List Cell) (out:List (List Cell)),l.length<N→N≤1000→RightsC l→out.length+l.length≤1000→Ev (fun k=>block_Cut.l0 k l (size:Int) out) (out++goB size l [] 0,0):=by
 induction N with
 | zero=>intro l out hl;omega
 | succ N ih=>
  intro l out hl hN hr ho
  by_cases h0:l.length=0
  ·
   have:l=[]:=List.eq_nil_of_length_eq_zero h0
   subst this
   refine Ev.step (f:=fun _=>some (out,0)) (fun k=>?_) ((Ev.now _).to (by simp [goB]))
   simp only [block_Cut.l0]
   rw [if_neg (by simp)]
  ·
   refine Ev.step (f:=fun k=>block_Cut.l1 k l (size:Int) out 0 l (l.length:Int) 0) (fun k=>?_) ?_
   ·
    simp only [block_Cut.l0]
    rw [if_pos (by omega)]
   ·
    exact block_l1 size N (by omega) (fun l' out' h1 h2 h3=>ih l' out' h1 (by omega) h2 h3) l out (by omega) (by omega) hr ho l.length 0 0 (by omega) (by omega) (by omega)
def cutB (size:Int) (l:List Cell):List (List Cell) × Int:=if sortedC l=true∧1≤size then (goB size.toNat l [] 0,0) else ([],1)
theorem block_Cut_ev {l:List Cell} (size:Int) (hl:l.length≤900):Ev (fun k=>block_Cut.f k l size) (cutB size l):=by
 have jt:¬ (sortedC l=true∧1≤size)→Ev (fun k=>block_Cut.j0 k l size true) (cutB size l):=fun h=>by
  unfold cutB
  rw [if_neg h]
  exact Ev.step (f:=fun _=>some ([],1)) (fun k=>by simp only [block_Cut.j0,if_true]) (Ev.now _)
 unfold block_Cut.f
 refine Ev.bind (cell_Sorted_ev (by omega)) ?_
 cases hs:sortedC l with
 | false=>exact Ev.neg Bool.false_ne_true (jt (by rw [hs];simp))
 | true=>
  refine Ev.pos rfl ?_
  by_cases h1:size<1
  ·
   rw [decide_eq_true h1]
   exact jt (by omega)
  ·
   rw [decide_eq_false h1]
   unfold cutB
   rw [if_pos ⟨hs,by omega⟩]
   have hr:=(sortedC_iff.1 hs).1
   obtain ⟨n,rfl⟩:=Int.eq_ofNat_of_zero_le (show 0≤size by omega)
   refine Ev.step (f:=fun k=>block_Cut.l0 k l ((n:Nat):Int) []) (fun k=>by simp only [block_Cut.j0,Bool.false_eq_true,if_false]) ?_
   rw [Int.toNat_natCast]
   have:=block_l0 n 901 l [] (by omega) (by omega) hr (by simp;omega)
   rw [List.nil_append] at this
   exact this
theorem goB_flat (size:Nat):∀ (l now:List Cell) (n:Nat),(goB size l now n).flatten=now++l
 | [],now,n=>by
  unfold goB
  split
  ·
   rename_i h;simp [h]
  ·
   simp
 | c :: l,now,n=>by
  unfold goB
  split
  ·
   rw [List.flatten_cons,goB_flat size l [] 0];simp
  ·
   rw [goB_flat size l (now++[c])];simp
def sumC (b:List Cell):Nat:=(b.map lenC).sum
theorem sumC_append (a b:List Cell):sumC (a++b)=sumC a+sumC b:=by simp [sumC]
theorem sumC_one (c:Cell):sumC [c]=lenC c:=by simp [sumC]
def OkB (size:Nat) (b:List Cell):Prop:=b≠[]∧∀ k,k<b.length→sumC (b.take k)<size
theorem goB_ok (size:Nat) (hs:0<size):∀ (l now:List Cell) (n:Nat),n=sumC now→(∀ k,k≤now.length→sumC (now.take k)<size)→∀ b ∈ goB size l now n,OkB size b
 | [],now,n,_,hk,b,hb=>by
  unfold goB at hb
  split at hb
  ·
   cases hb
  ·
   rename_i h
   rw [List.mem_singleton] at hb
   subst hb
   exact ⟨h,fun k hlt=>hk k (by omega)⟩
 | c :: l,now,n,hn,hk,b,hb=>by
  have hpre:∀ k,k<(now++[c]).length→sumC ((now++[c]).take k)<size:=fun k hlt=>by
   rw [List.length_append,List.length_singleton] at hlt
   rw [List.take_append_of_le_length (by omega)]
   exact hk k (by omega)
  unfold goB at hb
  split at hb
  ·
   rcases List.mem_cons.1 hb with rfl | hb
   ·
    exact ⟨by simp,hpre⟩
   ·
    exact goB_ok size hs l [] 0 rfl (fun k hk0=>by simpa [sumC] using hs) b hb
  ·
   rename_i h
   refine goB_ok size hs l (now++[c]) (n+lenC c) (by rw [sumC_append,sumC_one,hn]) (fun k hk1=>?_) b hb
   by_cases he:k=(now++[c]).length
   ·
    rw [he,List.take_length,sumC_append,sumC_one,← hn];omega
   ·
    exact hpre k (by omega)
theorem goB_full (size:Nat):∀ (l now:List Cell) (n:Nat),n=sumC now→∀ (i:Nat) (h:i+1<(goB size l now n).length),size≤sumC ((goB size l now n)[i]'(by omega))
 | [],now,n,_,i,h=>by
  exfalso
  unfold goB at h
  split at h<;>simp at h
 | c :: l,now,n,hn,i,h=>by
  by_cases hc:n+lenC c≥size
  ·
   have e:goB size (c :: l) now n=(now++[c]) :: goB size l [] 0:=by
    conv=>lhs;unfold goB
    rw [if_pos hc]
   cases i with
   | zero=>
    simp only [e,List.getElem_cons_zero]
    rw [sumC_append,sumC_one,← hn]
    exact hc
   | succ i=>
    simp only [e,List.getElem_cons_succ]
    exact goB_full size l [] 0 rfl i (by rw [e] at h;simpa using h)
  ·
   have e:goB size (c :: l) now n=goB size l (now++[c]) (n+lenC c):=by
    conv=>lhs;unfold goB
    rw [if_neg hc]
   simp only [e]
   exact goB_full size l (now++[c]) (n+lenC c) (by rw [sumC_append,sumC_one,hn]) i (by rw [e] at h;exact h)
theorem srt_parts {x:List (List Cell)} (h:SrtC x.flatten):∀ b ∈ x,SrtC b:=fun b hb=>
 ⟨fun c hc=>h.1 c (List.mem_flatten.2 ⟨b,hb,hc⟩),(List.pairwise_flatten.1 h.2).1 b hb⟩
theorem u32w {x:Int}:IntKind.u32.wrap x=x % 4294967296:=by
 unfold IntKind.wrap
 simp only [IntKind.signed,IntKind.bits,Bool.false_and,Bool.false_eq_true,if_false]
 rfl
theorem bytesOf_len (s:ByteArray):(bytesOf s).length=s.size:=by
 have h:=strOf_size (bytesOf s)
 rw [strOf_bytesOf] at h
 exact h.symm
theorem bloom_Bits_ev {key:ByteArray} {n:Int} (hk:key.size≤100000) (h0:0<n) (h1:n≤4294967295):Ev (fun k=>bloom_Bits.f k key n) (bitsK key n):=by
 unfold bloom_Bits.f
 have hl:=bytesOf_len key
 have hb:Bytes ([1]++bytesOf key):=Bytes.append (Bytes.cons (by decide) (by decide) Bytes.nil) (bytes_bytesOf _)
 refine Ev.pos (by omega) (Ev.bind (check_Sum_ev (bytes_bytesOf key) (by omega)) (Ev.bind (check_Sum_ev hb (by simp only [List.length_append,List.length_cons,List.length_nil];omega)) ?_))
 have hw:IntKind.u32.wrap n=n:=by rw [u32w];omega
 rw [hw]
 refine Ev.neg (by omega) ?_
 obtain ⟨a0,a1⟩:=crcSum_in (bytesOf key)
 obtain ⟨b0,b1⟩:=crcSum_in ([1]++bytesOf key)
 unfold bitsK
 generalize crcSum (bytesOf key)=a at a0 a1 ⊢
 generalize crcSum ([1]++bytesOf key)=b at b0 b1 ⊢
 have e:bloom_Bits.outs a b n 3=[a % n,(a+b) % 4294967296 % n,(a+2*b) % 4294967296 % n]:=by
  have hq:∀ x:Int,0≤x→x<4294967296→wrap64 (Int.tmod x n)=x % n:=fun x hx0 hx1=>by
   rw [Int.tmod_eq_emod_of_nonneg hx0]
   have h2:=Int.emod_nonneg x (show n≠0 by omega)
   have h3:=Int.emod_lt_of_pos x h0
   exact w64 (by omega) (by omega)
  have e0:bloom_Bits.acc a b 0=a:=rfl
  have e1:bloom_Bits.acc a b 1=(a+b) % 4294967296:=by show IntKind.u32.wrap (a+b)=_;rw [u32w]
  have e2:bloom_Bits.acc a b 2=(a+2*b) % 4294967296:=by
   show IntKind.u32.wrap (bloom_Bits.acc a b 1+b)=_
   rw [e1,u32w]
   omega
  show (([]++[wrap64 (Int.tmod (bloom_Bits.acc a b 0) n)])++[wrap64 (Int.tmod (bloom_Bits.acc a b 1) n)])++[wrap64 (Int.tmod (bloom_Bits.acc a b 2) n)]=_
  rw [e0,e1,e2,hq a a0 (by omega),hq _ (Int.emod_nonneg _ (by omega)) (Int.emod_lt_of_pos _ (by omega)),hq _ (Int.emod_nonneg _ (by omega)) (Int.emod_lt_of_pos _ (by omega))]
  rfl
 rw [e]
 exact Ev.now _
theorem orBit_length (f:List Int) (i:Int):(orBit f i).length=f.length:=by unfold orBit;rw [List.length_set]
theorem bit_at {x:Int} {n:Nat} (x0:0≤x) (x1:x<8*(n:Int)) (hn:n≤100000):wrap64 (Int.tdiv x 8)=x / 8∧Int.tmod x 8=x % 8∧0≤x / 8∧x / 8<(n:Int)∧0≤x % 8∧(x / 8).toNat<n∧(x % 8).toNat<8:=by
 have h1:0≤x / 8∧x / 8<(n:Int)∧0≤x % 8∧(x / 8).toNat<n∧(x % 8).toNat<8∧x / 8<1000000:=by omega
 refine ⟨?_,Int.tmod_eq_emod_of_nonneg x0,h1.1,h1.2.1,h1.2.2.1,h1.2.2.2.1,h1.2.2.2.2.1⟩
 rw [Int.tdiv_eq_ediv_of_nonneg x0]
 obtain ⟨h2,-,-,-,-,h3⟩:=h1
 generalize x / 8=y at h2 h3 ⊢
 exact w64 (by omega) (by omega)
theorem make_l1 (keys:List ByteArray) (len q:Int) (bs:List Int) (r:List Int) (d:Nat):∀ (i:Nat) (f:List Int),i≤bs.length→bs.length≤1000→f.length≤100000→(∀ x ∈ bs,0≤x∧x<8*(f.length:Int))→bs.length - i=d→
  Ev (fun k=>bloom_Make.l0 k ((bs.drop i).foldl orBit f) keys len (wrap64 (q+1))) r→Ev (fun k=>bloom_Make.l1 k f keys len q bs (bs.length:Int) (i:Int)) r:=by
 induction d with
 | zero=>
  intro i f hi hb hf hx hd hk
  rw [List.drop_eq_nil_of_le (by omega),List.foldl_nil] at hk
  exact Ev.step (fun k=>by simp only [bloom_Make.l1];rw [if_neg (by omega)]) hk
 | succ d ih=>
  intro i f hi hb hf hx hd hk
  have hlt:i<bs.length:=by omega
  have q1:(i:Int)<(bs.length:Int):=by omega
  have q2:(0:Int)≤(i:Int):=by omega
  have hr:rd bs (i:Int)=bs[i]:=by unfold rd;rw [Int.toNat_natCast,List.getD_eq_getElem?_getD,List.getElem?_eq_getElem hlt];rfl
  obtain ⟨x0,x1⟩:=hx _ (List.getElem_mem hlt)
  obtain ⟨e1,e2,p1,p2,p3,p4,p5⟩:=bit_at x0 x1 hf
  have e3:wrap64 ((i:Int)+1)=((i+1:Nat):Int):=by rw [w64 (by omega) (by omega)];rfl
  have hstep:∀ k,bloom_Make.l1 (k+1) f keys len q bs (bs.length:Int) (i:Int)=bloom_Make.l1 k (orBit f bs[i]) keys len q bs (bs.length:Int) ((i+1:Nat):Int):=fun k=>by
   simp only [bloom_Make.l1]
   rw [if_pos q1,if_pos q2,if_pos q1,hr,e1,e2,if_pos p1,if_pos p2,if_pos p3,e3]
   unfold orBit
   with_reducible rfl
  have hl:=orBit_length f bs[i]
  rw [List.drop_eq_getElem_cons hlt,List.foldl_cons] at hk
  have hx':∀ x ∈ bs,0≤x∧x<8*((orBit f bs[i]).length:Int):=by rw [hl];exact hx
  have hf':(orBit f bs[i]).length≤100000:=by rw [hl];exact hf
  clear hx hf hr e1 e2 p1 p2 p3 p4 p5 x0 x1 hl
  generalize orBit f bs[i]=f2 at hstep hk hx' hf'
  exact Ev.step hstep (ih (i+1) f2 hlt hb hf' hx' (by omega) hk)
theorem make_l0 (keys:List ByteArray) (m:Nat) (hm:m≤100000) (hm0:0<m) (hk:∀ x ∈ keys,x.size≤100000) (hl:keys.length≤100000) (d:Nat):∀ (i:Nat) (s:List Bool),i≤keys.length→s.length=8*m→keys.length - i=d→
  Ev (fun k=>bloom_Make.l0 k (bytesF s m) keys (keys.length:Int) (i:Int)) (bytesF (setK (8*(m:Int)) s (keys.drop i)) m):=by
 induction d with
 | zero=>
  intro i s hi hs hd
  rw [List.drop_eq_nil_of_le (by omega)]
  exact Ev.step (f:=fun _=>some (bytesF s m)) (fun k=>by simp only [bloom_Make.l0];rw [if_neg (by omega)]) (Ev.now _)
 | succ d ih=>
  intro i s hi hs hd
  have hlt:i<keys.length:=by omega
  have hr:rdOf ByteArray.empty keys (i:Int)=keys[i]:=by unfold rdOf;rw [Int.toNat_natCast,List.getD_eq_getElem?_getD,List.getElem?_eq_getElem hlt];rfl
  have hbl:=bytesF_length s m
  have e1:wrap64 (8*((bytesF s m).length:Int))=8*(m:Int):=by rw [hbl,w64 (by omega) (by omega)]
  have e3:wrap64 ((i:Int)+1)=((i+1:Nat):Int):=by rw [w64 (by omega) (by omega)];rfl
  refine Ev.step (fun k=>by simp only [bloom_Make.l0];rw [if_pos (by omega),if_pos (by omega),if_pos (by omega),hr,e1]) (Ev.bind (bloom_Bits_ev (hk _ (List.getElem_mem hlt)) (by omega) (by omega)) ?_)
  refine make_l1 keys _ _ _ _ _ 0 (bytesF s m) (Nat.zero_le _) (by simp [bitsK]) (by rw [hbl];exact hm) (by rw [hbl];exact bitsK_in (by omega)) rfl ?_
  rw [List.drop_zero,e3]
  have hfold:∀ (l:List Int) (s:List Bool),s.length=8*m→(∀ x ∈ l,0≤x∧x<8*(m:Int))→l.foldl orBit (bytesF s m)=bytesF (l.foldl setBit s) m:=by
   intro l
   induction l with
   | nil=>intro s _ _;rfl
   | cons x l ihl=>
    intro s hs hx
    obtain ⟨x0,x1⟩:=hx x List.mem_cons_self
    rw [List.foldl_cons,List.foldl_cons,orBit_bytes s m hs x x0 x1]
    exact ihl _ (by unfold setBit;rw [List.length_set];exact hs) (fun y hy=>hx y (List.mem_cons_of_mem _ hy))
  rw [hfold _ s hs (bitsK_in (by omega)),List.drop_eq_getElem_cons hlt]
  exact ih (i+1) _ (by omega) (by rw [foldl_set_length];exact hs) (by omega)
theorem bytesF_zero (m:Nat):List.replicate m (0:Int)=bytesF (List.replicate (8*m) false) m:=by
 apply List.ext_getElem
 ·
  rw [List.length_replicate,bytesF_length]
 ·
  intro j h1 h2
  rw [List.length_replicate] at h1
  rw [List.getElem_replicate,bytesF_at _ h1]
  have hf:∀ q:Nat,(List.replicate (8*m) false).getD q false=false:=fun q=>by
   rw [List.getD_eq_getElem?_getD,List.getElem?_replicate]
   split<;>rfl
  unfold byteOf
  simp only [hf]
  decide
theorem bloom_Make_ev {keys:List ByteArray} (hk:∀ x ∈ keys,x.size≤100000) (hl:keys.length≤100000):Ev (fun k=>bloom_Make.f k keys) (makeF keys):=by
 unfold bloom_Make.f
 have hz:mx 1 (wrap64 (Int.tdiv (wrap64 ((keys.length:Int)*8)) 8))=(sizeK keys:Int):=by
  rw [w64 (x:=(keys.length:Int)*8) (by omega) (by omega),Int.tdiv_eq_ediv_of_nonneg (by omega),w64 (by omega) (by omega)]
  unfold mx sizeK
  split<;>omega
 rw [hz]
 have hs1:sizeK keys≤100000:=by unfold sizeK;omega
 have hs0:0<sizeK keys:=by unfold sizeK;omega
 refine Ev.pos (by omega) (Ev.pos (by omega) ?_)
 rw [Int.toNat_natCast,bytesF_zero]
 exact make_l0 keys (sizeK keys) hs1 hs0 hk hl keys.length 0 _ (Nat.zero_le _) (by rw [List.length_replicate]) rfl
theorem has_l0 (f:List Int) (hf:f.length≤100000) (hb:Bytes f) (bs:List Int) (hx:∀ x ∈ bs,0≤x∧x<8*(f.length:Int)) (hl:bs.length≤1000) (d:Nat):∀ i:Nat,i≤bs.length→bs.length - i=d→
  Ev (fun k=>bloom_Has.l0 k f bs (bs.length:Int) (i:Int)) (hasB f (bs.drop i)):=by
 induction d with
 | zero=>
  intro i hi hd
  rw [List.drop_eq_nil_of_le (by omega)]
  exact Ev.step (f:=fun _=>some true) (fun k=>by simp only [bloom_Has.l0];rw [if_neg (by omega)]) (Ev.now _)
 | succ d ih=>
  intro i hi hd
  have hlt:i<bs.length:=by omega
  have q1:(i:Int)<(bs.length:Int):=by omega
  have q2:(0:Int)≤(i:Int):=by omega
  have hr:rd bs (i:Int)=bs[i]:=by unfold rd;rw [Int.toNat_natCast,List.getD_eq_getElem?_getD,List.getElem?_eq_getElem hlt];rfl
  obtain ⟨x0,x1⟩:=hx _ (List.getElem_mem hlt)
  obtain ⟨e1,e2,p1,p2,p3,p4,p5⟩:=bit_at x0 x1 hf
  have e3:wrap64 ((i:Int)+1)=((i+1:Nat):Int):=by rw [w64 (by omega) (by omega)];rfl
  refine Ev.step (fun k=>by simp only [bloom_Has.l0];rw [if_pos q1,if_pos q2,if_pos q1,hr,e1,e2,if_pos p1,if_pos p2,if_pos p3,e3]) ?_
  have hq:rd f (bs[i] / 8)=f[(bs[i] / 8).toNat]'p4:=by
   unfold rd
   rw [List.getD_eq_getElem?_getD,List.getElem?_eq_getElem p4]
   rfl
  obtain ⟨v0,v1⟩:=hb _ (List.getElem_mem p4)
  rw [←hq] at v0 v1
  have v2:(rd f (bs[i] / 8)).toNat<256:=by generalize rd f (bs[i] / 8)=v at v0 v1 ⊢;omega
  have ht:=test_dec ⟨(rd f (bs[i] / 8)).toNat,v2⟩ ⟨(bs[i] % 8).toNat,p5⟩
  simp only [Int.toNat_of_nonneg v0,Int.toNat_of_nonneg (Int.emod_nonneg bs[i] (show (8:Int)≠0 by decide))] at ht
  have ht2:=decide_eq_decide.1 ht
  rw [List.drop_eq_getElem_cons hlt]
  unfold hasB
  rw [List.all_cons]
  by_cases hc:(rd f (bs[i] / 8) / 2 ^ (bs[i] % 8).toNat) % 2=0
  ·
   rw [decide_eq_false (fun h=>h hc),Bool.false_and]
   exact Ev.pos (ht2.2 hc) (Ev.now _)
  ·
   have hc':=fun h=>hc (ht2.1 h)
   rw [decide_eq_true hc,Bool.true_and]
   clear hc ht ht2 v0 v1 v2 hq e1 e2 p1 p2 p3 p4 p5 x0 x1 hr
   exact Ev.neg hc' (ih (i+1) (by omega) (by omega))
theorem bloom_Has_ev {f:List Int} {key:ByteArray} (hf:f.length≤100000) (hb:Bytes f) (hk:key.size≤100000):Ev (fun k=>bloom_Has.f k f key) (hasF f key):=by
 unfold bloom_Has.f hasF
 by_cases h0:f.length=0
 ·
  rw [if_pos h0]
  exact Ev.pos (by omega) (Ev.now _)
 ·
  rw [if_neg h0]
  have e1:wrap64 (8*(f.length:Int))=8*(f.length:Int):=w64 (by omega) (by omega)
  rw [e1]
  refine Ev.neg (by omega) (Ev.bind (bloom_Bits_ev hk (by omega) (by omega)) ?_)
  have:=has_l0 f hf hb (bitsK key (8*(f.length:Int))) (bitsK_in (by omega)) (by simp [bitsK]) _ 0 (Nat.zero_le _) rfl
  rwa [List.drop_zero] at this
theorem table_text_eq {r c:ByteArray} (hr:r.size≤1000000) (hc:c.size≤1000000):table_text.f r c=some (keyT r c):=by
 unfold table_text.f
 rw [wire_Text_eq (by omega),wire_Text_eq (by omega)]
 simp only [Option.bind_some]
 have h1:=text_length_le r
 have h2:=text_length_le c
 rw [if_pos (by rw [strOf_size,strOf_size];omega)]
 rfl
theorem keysT_small {l:List Cell} (hr:RightsC l):∀ x ∈ keysT l,x.size≤100000:=by
 intro x hx
 obtain ⟨c,hc,rfl⟩:=List.mem_map.1 hx
 obtain ⟨_,h1,_,h2,_⟩:=rightC_iff.1 (hr c hc)
 have:=keyT_size c.f0 c.f1
 omega
theorem filter_l0 (l:List Cell) (hr:RightsC l) (hl:l.length≤10000) (d:Nat):∀ i:Nat,i≤l.length→l.length - i=d→Ev (fun k=>table_filter.l0 k (keysT (l.take i)) l (l.length:Int) (i:Int)) (filterB l):=by
 induction d with
 | zero=>
  intro i hi hd
  rw [List.take_of_length_le (by omega)]
  refine Ev.step (fun k=>by simp only [table_filter.l0];rw [if_neg (by omega)]) ?_
  exact Ev.bind (bloom_Make_ev (keysT_small hr) (by unfold keysT;rw [List.length_map];omega)) (Ev.now _)
 | succ d ih=>
  intro i hi hd
  have hlt:i<l.length:=by omega
  have q1:(i:Int)<(l.length:Int):=by omega
  have q2:(0:Int)≤(i:Int):=by omega
  have hrd:=rdC_at l i hlt
  unfold rdC at hrd
  obtain ⟨_,z1,_,z2,_⟩:=rightC_iff.1 (hr _ (List.getElem_mem hlt))
  have hlen:(keysT (l.take i)).length<8796093022208:=by unfold keysT;rw [List.length_map,List.length_take];omega
  have hih:=ih (i+1) (by omega) (by omega)
  have hsz1:l[i].f0.size≤1000000:=by omega
  have hsz2:l[i].f1.size≤1000000:=by omega
  have e3:wrap64 ((i:Int)+1)=((i+1:Nat):Int):=by rw [w64 (by omega) (by omega)];rfl
  have e4:keysT (l.take i)++[keyT l[i].f0 l[i].f1]=keysT (l.take (i+1)):=by
   unfold keysT
   rw [List.take_succ_eq_append_getElem hlt,List.map_append]
   rfl
  refine Ev.step (f:=fun k=>table_filter.l0 k (keysT (l.take (i+1))) l (l.length:Int) ((i+1:Nat):Int)) (fun k=>?_) hih
  simp only [table_filter.l0]
  rw [if_pos q1,if_pos q2,if_pos q1,hrd,table_text_eq hsz1 hsz2,Option.bind_some,if_pos hlen,e3,e4]
theorem table_filter_ev {l:List Cell} (hr:RightsC l) (hl:l.length≤10000):Ev (fun k=>table_filter.f k l) (filterB l):=by
 unfold table_filter.f
 exact filter_l0 l hr hl l.length 0 (Nat.zero_le _) rfl
theorem rdL_at (bs:List (List Cell)) (i:Nat) (h:i<bs.length):rd_L8 bs (i:Int)=bs[i]:=by
 show bs.getD (i:Int).toNat _=_
 rw [Int.toNat_natCast,List.getD_eq_getElem?_getD,List.getElem?_eq_getElem h]
 rfl
theorem put_blk {b:List Cell} (h:BlkOk b):Ev (fun k=>block_Put.f k b) (frame (bodyB b),0):=by
 exact block_Put_evW h.1 (fun he=>h.2.1 (List.eq_nil_of_length_eq_zero he)) h.2.2.1 h.2.2.2
theorem built_l0 (bs:List (List Cell)) (fl:List Int) (hok:∀ b ∈ bs,BlkOk b) (hb:bs.length≤421) (hf:fl.length≤1000) (d:Nat):∀ (i:Nat) (all foot:List Int),i≤bs.length→bs.length - i=d→all.length≤60166*i→foot.length≤4+149*i→Bytes foot→
  Ev (fun k=>table_built.l0 k fl all foot bs (bs.length:Int) (i:Int)) (all++allB (bs.drop i),frame (foot++(footL all.length (bs.drop i)++text (strOfNums fl))),0):=by
 induction d with
 | zero=>
  intro i all foot hi hd ha hfo hby
  rw [List.drop_eq_nil_of_le (by omega)]
  have h3:=text_length_le (strOfNums fl)
  rw [strOf_size] at h3
  have h4:(foot++text (strOfNums fl)).length≤65535:=by rw [List.length_append];omega
  have hp:=frame_Put_ev (hby.append (bytes_text (strOfNums fl))) (by omega)
  rw [if_neg (by omega)] at hp
  refine Ev.step (fun k=>by simp only [table_built.l0];rw [if_neg (by omega),wire_Text_eq (by rw [strOf_size];omega),Option.bind_some,if_pos (by omega)]) (Ev.bind hp (Ev.neg (frame_ne h4) ?_))
  exact (Ev.now _).to (by simp [allB,footL])
 | succ d ih=>
  intro i all foot hi hd ha hfo hby
  have hlt:i<bs.length:=by omega
  have q1:(i:Int)<(bs.length:Int):=by omega
  have q2:(0:Int)≤(i:Int):=by omega
  have hB:=hok _ (List.getElem_mem hlt)
  have hrd:=rdL_at bs i hlt
  have e3:wrap64 ((i:Int)+1)=((i+1:Nat):Int):=by rw [w64 (by omega) (by omega)];rfl
  have hfr:=frame_le hB
  have hkb:=keyB_le hB
  have hnl:=num_length_le all.length
  rw [List.drop_eq_getElem_cons hlt,allB_cons]
  obtain ⟨b,hbe⟩:∃ b,bs[i]=b:=⟨_,rfl⟩
  rw [hbe] at hB hrd hfr hkb ⊢
  cases b with
  | nil=>exact absurd rfl hB.2.1
  | cons c b=>
   obtain ⟨_,z1,_,z2,_⟩:=rightC_iff.1 (hB.1.1 c List.mem_cons_self)
   have hcp:cell_Put.f c.f0 c.f1 c.f2 ⟨#[]⟩ false=some (keyB (c :: b)):=cell_Put_eq c.f2 false (by omega) (by omega) (by decide)
   have hcc:slices_Concat_byte_byte.f [foot,keyB (c :: b),num all.length]=some (foot++keyB (c :: b)++num all.length):=by
    rw [concat_eq (by simp only [lenSum,List.map_cons,List.map_nil,List.sum_cons,List.sum_nil];omega)]
    simp
   have hput:=put_blk hB
   have e5:footL all.length ((c :: b) :: bs.drop (i+1))=keyB (c :: b)++(num all.length++footL (all.length+(frame (bodyB (c :: b))).length) (bs.drop (i+1))):=rfl
   rw [e5]
   have hbF:0<((c :: b).length:Int):=by simp only [List.length_cons];omega
   have hk0:rd_T26 (c :: b) 0=c:=rfl
   generalize frame (bodyB (c :: b))=F at hput hfr ⊢
   have hkb2:=bytes_keyB (c :: b)
   generalize keyB (c :: b)=K at hkb hcp hcc hkb2 ⊢
   have hkey:table_key.f c.f0 c.f1 c.f2 c.f3 c.f4=some (c.f0,c.f1,c.f2,⟨#[]⟩,false):=rfl
   have hal:all.length+F.length<140737488355328:=by omega
   have hstep:Ev (fun k=>table_built.l0 k fl (all++F) (foot++K++num all.length) bs (bs.length:Int) ((i+1:Nat):Int)) (all++(F++allB (bs.drop (i+1))),frame (foot++(K++(num all.length++footL (all.length+F.length) (bs.drop (i+1)))++text (strOfNums fl))),0):=by
    refine (ih (i+1) (all++F) (foot++K++num all.length) (by omega) (by omega) (by rw [List.length_append];omega) (by simp only [List.length_append];omega) ((hby.append hkb2).append (bytes_num _))).to ?_
    rw [List.length_append]
    simp only [List.append_assoc]
   refine Ev.step (f:=fun k=>(block_Put.f k (c :: b)).bind fun bt=>if bt.2=0 then (if all.length+bt.1.length<140737488355328 then table_built.l0 k fl (all++bt.1) (foot++K++num all.length) bs (bs.length:Int) ((i+1:Nat):Int) else none) else some ([],[],bt.2)) (fun k=>?_) (Ev.bind hput (Ev.pos rfl (Ev.pos hal hstep)))
   simp only [table_built.l0]
   rw [if_pos q1,if_pos q2,if_pos q1,hrd,e3]
   simp only [if_pos hbF,hk0,hkey,hcp,hcc,wire_Num_eq,Option.bind_some]
theorem built_ev {bs:List (List Cell)} {fl:List Int} (hok:∀ b ∈ bs,BlkOk b) (hb:bs.length≤421) (hf:fl.length≤1000):Ev (fun k=>table_built.f k bs fl) (allB bs,frame (footC bs fl),0):=by
 unfold table_built.f
 have hn:=num_length_le bs.length
 refine Ev.bind (Ev.eq (wire_Num_eq _)) ?_
 have:=built_l0 bs fl hok hb hf bs.length 0 [] (num bs.length) (Nat.zero_le _) rfl (by simp) (by omega) (bytes_num _)
 rw [List.drop_zero,List.nil_append] at this
 exact this
theorem bytes_ev {bs:List (List Cell)} {fl:List Int} (hok:∀ b ∈ bs,BlkOk b) (hb:bs.length≤421) (hf:fl.length≤1000):Ev (fun k=>table_bytes.f k bs fl) (tableB bs fl,0):=by
 unfold table_bytes.f
 have h1:=allB_le bs hok
 have h2:=footC_le hok hb hf
 have h3:=frame_length (r:=footC bs fl) (by omega)
 have h4:=num_length_le (frame (footC bs fl)).length
 refine Ev.bind (built_ev hok hb hf) (Ev.pos rfl (Ev.bind (Ev.eq (wire_Num_eq _)) (Ev.bind (Ev.eq (concat_eq ?_)) ?_)))
 ·
  show lenSum [allB bs,frame (footC bs fl),num (frame (footC bs fl)).length]≤_
  simp only [lenSum,List.map_cons,List.map_nil,List.sum_cons,List.sum_nil]
  omega
 ·
  exact (Ev.now _).to (by simp [tableB])
theorem mem_flatten_le {b:List Cell}:∀ {x:List (List Cell)},b ∈ x→b.length≤x.flatten.length
 | [],h=>by cases h
 | a :: x,h=>by
  rw [List.flatten_cons,List.length_append]
  rcases List.mem_cons.1 h with rfl | h
  ·
   omega
  ·
   have:=mem_flatten_le h
   omega
theorem bodyW {W:Nat}:∀ l:List Cell,(∀ c ∈ l,(oneB c).length≤W)→(bodyB l).length≤4+W*l.length:=fun l h=>by
 have hf:∀ l:List Cell,(∀ c ∈ l,(oneB c).length≤W)→(l.map oneB).flatten.length≤W*l.length:=fun l=>by
  induction l with
  | nil=>exact fun _=>Nat.zero_le _
  | cons c l ih=>
   intro h
   have h1:=h c List.mem_cons_self
   have h2:=ih (fun x hx=>h x (List.mem_cons_of_mem _ hx))
   rw [List.map_cons,List.flatten_cons,List.length_append,List.length_cons,Nat.mul_succ]
   omega
 have h1:=hf l h
 have h2:=num_length_le l.length
 unfold bodyB
 rw [List.length_append]
 omega
theorem goB_blkW {W:Nat} {l:List Cell} (h:SrtC l) (hl:l.length≤420) (hw:∀ c ∈ l,(oneB c).length≤W) (hW:W*l.length≤60150) {size:Nat} (hs:0<size):∀ b ∈ goB size l [] 0,BlkOk b:=by
 intro b hb
 have hfl:=goB_flat size l [] 0
 rw [List.nil_append] at hfl
 have hp:=srt_parts (x:=goB size l [] 0) (by rw [hfl];exact h) b hb
 refine ⟨hp,(goB_ok size hs l [] 0 rfl (fun k hk=>by
  have:k=0:=by simpa using hk
  subst this
  simpa [sumC] using hs) b hb).1,?_⟩
 have hlen:b.length≤(goB size l [] 0).flatten.length:=by
  exact mem_flatten_le hb
 rw [hfl] at hlen
 have hb2:=bodyW (W:=W) b (fun c hc=>hw c (by rw [←hfl];exact List.mem_flatten.2 ⟨b,hb,hc⟩))
 have:=Nat.mul_le_mul_left W hlen
 exact ⟨by omega,by omega⟩
def buildT (size:Int) (l:List Cell):List Int × Int:=if sortedC l=true∧1≤size then (tableB (goB size.toNat l [] 0) (filterB l),0) else ([],1)
theorem table_Build_evW {W:Nat} {l:List Cell} (size:Int) (hl:l.length≤420) (hw:∀ c ∈ l,(oneB c).length≤W) (hW:W*l.length≤60150):Ev (fun k=>table_Build.f k l size) (buildT size l):=by
 unfold table_Build.f buildT
 refine Ev.bind (block_Cut_ev size (by omega)) ?_
 unfold cutB
 by_cases h:sortedC l=true∧1≤size
 ·
  rw [if_pos h,if_pos h]
  have hs:=sortedC_iff.1 h.1
  have hg:=goB_length size.toNat l [] 0
  refine Ev.pos rfl (Ev.bind (table_filter_ev hs.1 (by omega)) (Ev.bind (bytes_ev (bs:=goB size.toNat l [] 0) (fl:=filterB l) (goB_blkW hs hl hw hW (by omega)) (by omega) (by rw [filterB_length];omega)) (Ev.now _)))
 ·
  rw [if_neg h,if_neg h]
  exact Ev.neg (by decide) (Ev.now _)
theorem may_ev {l:List Cell} {r c:ByteArray} (hl:l.length≤10000) (hr:r.size≤10000) (hc:c.size≤10000):Ev (fun k=>table_Table_May.f k (filterB l) r c) (hasF (filterB l) (keyT r c)):=by
 unfold table_Table_May.f
 have hk:=keyT_size r c
 have hf:=filterB_length l
 exact Ev.bind (Ev.eq (table_text_eq (by omega) (by omega))) (bloom_Has_ev (by omega) (bytes_filterB l) (by omega))
theorem may_in {l:List Cell} {x:Cell} (h:x ∈ l):hasF (filterB l) (keyT x.f0 x.f1)=true:=hasF_make (List.mem_map.2 ⟨x,h,rfl⟩)
def posC (t:Cell):List Cell→Nat
 | []=>0
 | x :: l=>if cc x t = -1 then posC t l+1 else 0
theorem posC_le (t:Cell):∀ l:List Cell,posC t l≤l.length
 | []=>Nat.le_refl _
 | x :: l=>by
  have:=posC_le t l
  unfold posC
  split<;>simp only [List.length_cons]<;>omega
theorem posC_uniq (t:Cell):∀ (l:List Cell) (i:Nat),i≤l.length→(∀ j (_:j<i) (hl:j<l.length),cc l[j] t = -1)→(∀ h:i<l.length,¬ cc l[i] t = -1)→posC t l=i
 | [],i,hi,_,_=>by simp at hi;simp [posC,hi]
 | x :: l,0,_,_,h2=>by
  have:=h2 (by simp)
  simp only [List.getElem_cons_zero] at this
  unfold posC
  rw [if_neg this]
 | x :: l,i+1,hi,h1,h2=>by
  have hx:=h1 0 (by omega) (by simp)
  simp only [List.getElem_cons_zero] at hx
  unfold posC
  rw [if_pos hx,posC_uniq t l i (by simpa using hi) (fun j hj hl=>by have:=h1 (j+1) (by omega) (by simpa using hl);simpa using this) (fun hl=>by have:=h2 (by simpa using hl);simpa using this)]
def ofC (r c:ByteArray) (t:Int) (x:Cell):Bool:=decide (x.f0=r∧x.f1=c∧x.f2≤t)
theorem ofC_iff {r c:ByteArray} {t:Int} {x:Cell}:ofC r c t x=true↔x.f0=r∧x.f1=c∧x.f2≤t:=decide_eq_true_iff
def findC (r c:ByteArray) (t:Int) (l:List Cell):Option Cell:=l.find? (ofC r c t)
def keyC (r c:ByteArray) (t:Int):Cell:=⟨r,c,t,⟨#[]⟩,false⟩
theorem cc_same {x y:Cell} (h1:x.f0=y.f0) (h2:x.f1=y.f1):cc x y=cmpN y.f2 x.f2:=by
 unfold cc cmpC
 rw [if_pos (cmpT_zero.2 h1),if_pos (cmpT_zero.2 h2)]
theorem cmpN_lt {a b:Int}:cmpN a b = -1↔a<b:=by
 unfold cmpN
 split
 ·
  simp [*]
 ·
  split<;>simp<;>omega
theorem cc_other {x y z:Cell} (h1:y.f0=z.f0) (h2:y.f1=z.f1) (h:¬ (x.f0=y.f0∧x.f1=y.f1)):cc x y=cc x z:=by
 unfold cc cmpC
 rw [←h1,← h2]
 by_cases e1:cmpT x.f0 y.f0=0
 ·
  rw [if_pos e1]
  by_cases e2:cmpT x.f1 y.f1=0
  ·
   exact absurd ⟨cmpT_zero.1 e1,cmpT_zero.1 e2⟩ h
  ·
   rw [if_neg e2,if_pos e1,if_neg e2]
 ·
  rw [if_neg e1,if_neg e1]
theorem find_pos (r c:ByteArray) (t:Int):∀ {l:List Cell},OrdC l→findC r c t l=if h:posC (keyC r c t) l<l.length then (if l[posC (keyC r c t) l].f0=r∧l[posC (keyC r c t) l].f1=c then some l[posC (keyC r c t) l] else none) else none
 | [],_=>by simp [findC]
 | x :: l,h=>by
  obtain ⟨h1,h2⟩:=List.pairwise_cons.1 h
  by_cases hx:cc x (keyC r c t) = -1
  ·
   have hn:ofC r c t x=false:=by
    cases ho:ofC r c t x with
    | false=>rfl
    | true=>
     obtain ⟨e1,e2,e3⟩:=ofC_iff.1 ho
     rw [cc_same (y:=keyC r c t) e1 e2,cmpN_lt] at hx
     have:(keyC r c t).f2=t:=rfl
     omega
   unfold findC
   rw [List.find?_cons_of_neg (by simp [hn])]
   have ih:=find_pos r c t h2
   unfold findC at ih
   rw [ih]
   simp only [posC,if_pos hx,List.length_cons,Nat.add_lt_add_iff_right,List.getElem_cons_succ]
  ·
   simp only [posC,if_neg hx,List.length_cons,Nat.zero_lt_succ,dif_pos,List.getElem_cons_zero]
   by_cases hk:x.f0=r∧x.f1=c
   ·
    rw [if_pos hk]
    rw [cc_same (y:=keyC r c t) hk.1 hk.2,cmpN_lt] at hx
    have:(keyC r c t).f2=t:=rfl
    exact List.find?_cons_of_pos (ofC_iff.2 ⟨hk.1,hk.2,by omega⟩)
   ·
    rw [if_neg hk]
    refine List.find?_eq_none.2 fun y hy=>?_
    rcases List.mem_cons.1 hy with rfl | hy
    ·
     intro ho
     obtain ⟨e1,e2,_⟩:=ofC_iff.1 ho
     exact hk ⟨e1,e2⟩
    ·
     intro ho
     obtain ⟨e1,e2,_⟩:=ofC_iff.1 ho
     have hxy:=h1 y hy
     rw [cc_other (y:=y) (z:=keyC r c t) e1 e2 (by rw [e1,e2];exact hk)] at hxy
     exact hx hxy
def tupC:Option Cell→ByteArray × ByteArray × Int × ByteArray × Bool × Bool
 | none=>(⟨#[]⟩,⟨#[]⟩,0,⟨#[]⟩,false,false)
 | some c=>(c.f0,c.f1,c.f2,c.f3,c.f4,true)
theorem u64w {x:Int} (h0:0≤x) (h1:x<18446744073709551616):IntKind.u64.wrap x=x:=by
 unfold IntKind.wrap
 simp only [IntKind.signed,IntKind.bits,Bool.false_and,Bool.false_eq_true,if_false]
 omega
theorem find_l0 (l:List Cell) (t:Cell) (ho:OrdC l) (hn:l.length≤2199023255552) (d:Nat):∀ lo hi:Nat,hi - lo≤d→lo≤hi→hi≤l.length→(∀ j (_:j<lo) (hl:j<l.length),cc l[j] t = -1)→(∀ j (_:hi≤j) (hl:j<l.length),¬ cc l[j] t = -1)→
  Ev (fun k=>api_Cell_34.l0 k l (l.length:Int) (lo:Int) (hi:Int) t.f0 t.f1 t.f2 t.f3 t.f4) ((posC t l:Int),if h:posC t l<l.length then cc l[posC t l] t == 0 else false):=by
 induction d with
 | zero=>
  intro lo hi hd h1 h2 h3 h4
  have:lo=hi:=by omega
  subst this
  have hp:=posC_uniq t l lo h2 h3 (fun h=>h4 lo (by omega) h)
  rw [hp]
  by_cases hl:lo<l.length
  ·
   have hr:=rdC_at l lo hl
   unfold rdC at hr
   rw [dif_pos hl]
   refine Ev.step (fun k=>by simp only [api_Cell_34.l0];rw [if_neg (by omega),if_pos (by omega),if_pos (by omega),if_pos (by omega),hr]) (Ev.bind (cell_CC_ev _ _) (Ev.now _))
  ·
   rw [dif_neg hl]
   exact Ev.step (f:=fun _=>some ((lo:Int),false)) (fun k=>by simp only [api_Cell_34.l0];rw [if_neg (by omega),if_neg (by omega)]) (Ev.now _)
 | succ d ih=>
  intro lo hi hd h1 h2 h3 h4
  by_cases hlt:lo<hi
  ·
   have hm:wrap64 (IntKind.u64.wrap (wrap64 ((lo:Int)+(hi:Int))) / 2)=(((lo+hi) / 2:Nat):Int):=by
    rw [w64 (x:=(lo:Int)+(hi:Int)) (by omega) (by omega),u64w (by omega) (by omega),w64 (by omega) (by omega)]
    omega
   have hml:(lo+hi) / 2<l.length:=by omega
   have hr:=rdC_at l ((lo+hi) / 2) hml
   unfold rdC at hr
   refine Ev.step (fun k=>by simp only [api_Cell_34.l0];rw [if_pos (by omega),hm,if_pos (by omega),if_pos (by omega),hr]) (Ev.bind (cell_CC_ev _ _) ?_)
   have hin:=cc_in l[(lo+hi) / 2] t
   by_cases hc:cc l[(lo+hi) / 2] t = -1
   ·
    refine Ev.pos (by omega) ?_
    rw [w64 (by omega) (by omega)]
    refine ih ((lo+hi) / 2+1) hi (by omega) (by omega) h2 (fun j hj hl=>?_) h4
    by_cases hjm:j=(lo+hi) / 2
    ·
     subst hjm;exact hc
    ·
     exact cc_trans (List.pairwise_iff_getElem.1 ho j ((lo+hi) / 2) hl hml (by omega)) hc
   ·
    refine Ev.neg (by omega) (ih lo ((lo+hi) / 2) (by omega) (by omega) (by omega) h3 (fun j hj hl=>?_))
    by_cases hjm:j=(lo+hi) / 2
    ·
     subst hjm;exact hc
    ·
     exact fun hjt=>hc (cc_trans (List.pairwise_iff_getElem.1 ho ((lo+hi) / 2) j hml hl (by omega)) hjt)
  ·
   exact ih lo hi (by omega) h1 h2 h3 h4
theorem find_ev {l:List Cell} (t:Cell) (ho:OrdC l) (hn:l.length≤2199023255552):Ev (fun k=>api_Cell_34.f k l t.f0 t.f1 t.f2 t.f3 t.f4) ((posC t l:Int),if h:posC t l<l.length then cc l[posC t l] t == 0 else false):=by
 unfold api_Cell_34.f
 exact find_l0 l t ho hn l.length 0 l.length (by omega) (by omega) (by omega) (fun j hj=>by omega) (fun j hj hl=>by omega)
theorem cell_Newest_ev {l:List Cell} (r c:ByteArray) (t:Int) (ho:OrdC l) (hn:l.length≤1000000000):Ev (fun k=>cell_Newest.f k l r c t) (tupC (findC r c t l)):=by
 have jt:Ev (fun k=>cell_Newest.j0 k l (posC (keyC r c t) l) true) (tupC none):=Ev.step (f:=fun _=>some (tupC none)) (fun k=>by simp only [cell_Newest.j0,if_true];rfl) (Ev.now _)
 rw [find_pos r c t ho]
 unfold cell_Newest.f
 by_cases hp:posC (keyC r c t) l<l.length
 ·
  rw [dif_pos hp]
  refine Ev.bind (find_ev (keyC r c t) ho (by omega)) ?_
  have hr:=rdC_at l _ hp
  unfold rdC at hr
  have jf:Ev (fun k=>cell_Newest.j0 k l (posC (keyC r c t) l) false) (tupC (some l[posC (keyC r c t) l])):=Ev.step (f:=fun _=>some (tupC (some l[posC (keyC r c t) l]))) (fun k=>by simp only [cell_Newest.j0,Bool.false_eq_true,if_false];rw [if_pos (by omega),if_pos (by omega),hr];rfl) (Ev.now _)
  simp only
  rw [hr]
  refine Ev.neg (by omega) (Ev.pos (by omega) (Ev.pos (by omega) ?_))
  by_cases e1:l[posC (keyC r c t) l].f0=r
  ·
   refine Ev.pos (by rw [e1]) ?_
   by_cases e2:l[posC (keyC r c t) l].f1=c
   ·
    rw [if_pos ⟨e1,e2⟩,e2,bne_self_eq_false]
    exact jf
   ·
    rw [if_neg (fun h=>e2 h.2),show (l[posC (keyC r c t) l].f1.toList != c.toList)=true by simpa using fun h=>e2 (toList_inj h)]
    exact jt
  ·
   rw [if_neg (fun h=>e1 h.1)]
   exact Ev.neg (fun h=>e1 (toList_inj h)) jt
 ·
  rw [dif_neg hp]
  have:=posC_le (keyC r c t) l
  refine Ev.bind (find_ev (keyC r c t) ho (by omega)) ?_
  simp only
  exact Ev.pos (by omega) jt
def lastC (b:List Cell):Cell:=rdC b ((b.length - 1:Nat):Int)
theorem lastC_eq {b:List Cell} (h:b≠[]):lastC b=b[b.length - 1]'(by have:=List.length_pos_iff.2 h;omega):=rdC_at b _ _
theorem lastC_mem {b:List Cell} (h:b≠[]):lastC b ∈ b:=by rw [lastC_eq h];exact List.getElem_mem _
theorem get1_ev {b:List Cell} (h:b≠[]) (hl:b.length≤100000) (t:Cell):Ev (fun k=>table_Table_Get_1.f k b t.f0 t.f1 t.f2 t.f3 t.f4) (cc (lastC b) t):=by
 have hp:=List.length_pos_iff.2 h
 have p1:(b.length:Int) - 1=((b.length - 1:Nat):Int):=by omega
 have b1:b.length - 1≤1000000000:=by omega
 have b2:(0:Int)≤((b.length - 1:Nat):Int):=by omega
 have b3:((b.length - 1:Nat):Int)<(b.length:Int):=by omega
 have e1:wrap64 ((b.length:Int) - 1)=((b.length - 1:Nat):Int):=by rw [p1];exact w64 (by omega) (by omega)
 unfold table_Table_Get_1.f
 rw [e1]
 exact Ev.pos b2 (Ev.pos b3 (Ev.bind (cell_CC_ev (lastC b) t) (Ev.now _)))
theorem search_l0 (bs:List (List Cell)) (M:List Cell) (hM:M.length=bs.length) (t:Cell) (hn:bs.length≤1000000000) (hg:∀ (i:Nat) (h:i<bs.length),Ev (fun k=>table_Table_Get_1.f k bs[i] t.f0 t.f1 t.f2 t.f3 t.f4) (cc (M[i]'(by omega)) t)) (ho:OrdC M) (d:Nat) :
  ∀ lo hi:Nat,hi - lo≤d→lo≤hi→hi≤M.length→(∀ j (_:j<lo) (hl:j<M.length),cc M[j] t = -1)→(∀ j (_:hi≤j) (hl:j<M.length),¬ cc M[j] t = -1)→
  Ev (fun k=>api_Cell_65.l0 k bs (bs.length:Int) (lo:Int) (hi:Int) t.f0 t.f1 t.f2 t.f3 t.f4) ((posC t M:Int),if h:posC t M<M.length then cc M[posC t M] t == 0 else false):=by
 induction d with
 | zero=>
  intro lo hi hd h1 h2 h3 h4
  have:lo=hi:=by omega
  subst this
  have hp:=posC_uniq t M lo h2 h3 (fun h=>h4 lo (by omega) h)
  rw [hp]
  have hnl:¬ (lo:Int)<(lo:Int):=by omega
  by_cases hl:lo<M.length
  ·
   have hl2:lo<bs.length:=by omega
   have hr:=rdL_at bs lo hl2
   have q1:(lo:Int)<(bs.length:Int):=by omega
   have q2:(0:Int)≤(lo:Int):=by omega
   rw [dif_pos hl]
   exact Ev.step (fun k=>by simp only [api_Cell_65.l0];rw [if_neg hnl,if_pos q1,if_pos q2,if_pos q1,hr]) (Ev.bind (hg lo hl2) (Ev.now _))
  ·
   have q1:¬ (lo:Int)<(bs.length:Int):=by omega
   rw [dif_neg hl]
   exact Ev.step (f:=fun _=>some ((lo:Int),false)) (fun k=>by simp only [api_Cell_65.l0];rw [if_neg hnl,if_neg q1]) (Ev.now _)
 | succ d ih=>
  intro lo hi hd h1 h2 h3 h4
  by_cases hlt:lo<hi
  ·
   obtain ⟨m,hmd⟩:∃ m,m=(lo+hi) / 2:=⟨_,rfl⟩
   have hml:m<M.length:=by omega
   have hmb:m<bs.length:=by omega
   have ihA:=ih (m+1) hi (by omega) (by omega) h2
   have ihB:=ih lo m (by omega) (by omega) (by omega)
   have hlo:lo≤m:=by omega
   have q0:(lo:Int)<(hi:Int):=by omega
   have q1:(0:Int)≤(m:Int):=by omega
   have q2:(m:Int)<(bs.length:Int):=by omega
   have hr:=rdL_at bs m hmb
   have b1:m+1≤2000000000:=by omega
   have hm:wrap64 (IntKind.u64.wrap (wrap64 ((lo:Int)+(hi:Int))) / 2)=(m:Int):=by
    rw [w64 (x:=(lo:Int)+(hi:Int)) (by omega) (by omega),u64w (by omega) (by omega),w64 (by omega) (by omega)]
    omega
   have hm1:wrap64 ((m:Int)+1)=((m+1:Nat):Int):=by rw [w64 (by omega) (by omega)];rfl
   have hin:=cc_in M[m] t
   clear hmd hd
   refine Ev.step (fun k=>by simp only [api_Cell_65.l0];rw [if_pos q0,hm,if_pos q1,if_pos q2,hr,hm1]) (Ev.bind (hg m hmb) ?_)
   clear hm hm1 hr
   by_cases hc:cc M[m] t = -1
   ·
    refine Ev.pos (by omega) (ihA (fun j hj hl=>?_) h4)
    by_cases hjm:j=m
    ·
     subst hjm;exact hc
    ·
     exact cc_trans (List.pairwise_iff_getElem.1 ho j m hl hml (by omega)) hc
   ·
    refine Ev.neg (by omega) (ihB h3 (fun j hj hl=>?_))
    by_cases hjm:j=m
    ·
     subst hjm;exact hc
    ·
     exact fun hjt=>hc (cc_trans (List.pairwise_iff_getElem.1 ho m j hml hl (by omega)) hjt)
  ·
   exact ih lo hi (by omega) h1 h2 h3 h4
theorem lasts_ord:∀ {bs:List (List Cell)},(∀ b ∈ bs,b≠[])→OrdC bs.flatten→OrdC (bs.map lastC)
 | [],_,_=>List.Pairwise.nil
 | b :: bs,h,ho=>by
  rw [List.flatten_cons] at ho
  obtain ⟨h1,h2,h3⟩:=List.pairwise_append.1 ho
  refine List.pairwise_cons.2 ⟨fun x hx=>?_,lasts_ord (fun y hy=>h y (List.mem_cons_of_mem _ hy)) h2⟩
  obtain ⟨b2,hb2,rfl⟩:=List.mem_map.1 hx
  exact h3 _ (lastC_mem (h b List.mem_cons_self)) _ (List.mem_flatten.2 ⟨b2,hb2,lastC_mem (h b2 (List.mem_cons_of_mem _ hb2))⟩)
theorem last_ge {b:List Cell} (h:b≠[]) (ho:OrdC b) {x:Cell} (hx:x ∈ b):x=lastC b∨cc x (lastC b) = -1:=by
 obtain ⟨i,hi,rfl⟩:=List.mem_iff_getElem.1 hx
 rw [lastC_eq h]
 by_cases he:i=b.length - 1
 ·
  subst he;exact .inl rfl
 ·
  exact .inr (List.pairwise_iff_getElem.1 ho i (b.length - 1) hi (by omega) (by omega))
theorem find_blocks (r c:ByteArray) (t:Int):∀ {bs:List (List Cell)},(∀ b ∈ bs,b≠[])→OrdC bs.flatten→
  findC r c t bs.flatten=if posC (keyC r c t) (bs.map lastC)=bs.length then none else findC r c t (bs.getD (posC (keyC r c t) (bs.map lastC)) [])
 | [],_,_=>rfl
 | b :: bs,h,ho=>by
  have hb:=h b List.mem_cons_self
  rw [List.flatten_cons] at ho
  obtain ⟨h1,h2,h3⟩:=List.pairwise_append.1 ho
  have ih:=find_blocks r c t (fun y hy=>h y (List.mem_cons_of_mem _ hy)) h2
  by_cases hl:cc (lastC b) (keyC r c t) = -1
  ·
   have hp:posC (keyC r c t) ((b :: bs).map lastC)=posC (keyC r c t) (bs.map lastC)+1:=by simp [posC,hl]
   have hn:∀ x ∈ b,¬ ofC r c t x=true:=by
    intro x hx hox
    have hxl:cc x (keyC r c t) = -1:=by
     rcases last_ge hb h1 hx with e | e
     ·
      rw [e];exact hl
     ·
      exact cc_trans e hl
    obtain ⟨e1,e2,e3⟩:=ofC_iff.1 hox
    rw [cc_same (y:=keyC r c t) e1 e2,cmpN_lt] at hxl
    have:(keyC r c t).f2=t:=rfl
    omega
   rw [hp,List.flatten_cons]
   unfold findC at ih ⊢
   rw [List.find?_append,List.find?_eq_none.2 hn,Option.none_or,ih]
   simp only [List.length_cons,Nat.add_right_cancel_iff,List.getD_cons_succ]
  ·
   have hp:posC (keyC r c t) ((b :: bs).map lastC)=0:=by simp [posC,hl]
   rw [hp,List.flatten_cons,if_neg (by simp),List.getD_cons_zero]
   unfold findC
   rw [List.find?_append]
   cases hf:b.find? (ofC r c t) with
   | some x=>rfl
   | none=>
    rw [Option.none_or]
    refine List.find?_eq_none.2 fun y hy hoy=>?_
    obtain ⟨e1,e2,e3⟩:=ofC_iff.1 hoy
    have hly:=h3 _ (lastC_mem hb) y hy
    by_cases hk:(lastC b).f0=y.f0∧(lastC b).f1=y.f1
    ·
     have hle:¬ cc (lastC b) (keyC r c t) = -1:=hl
     rw [cc_same (y:=keyC r c t) (hk.1.trans e1) (hk.2.trans e2),cmpN_lt] at hle
     have ht:(keyC r c t).f2=t:=rfl
     exact List.find?_eq_none.1 hf _ (lastC_mem hb) (ofC_iff.2 ⟨hk.1.trans e1,hk.2.trans e2,by omega⟩)
    ·
     rw [cc_other (y:=y) (z:=keyC r c t) e1 e2 hk] at hly
     exact hl hly
theorem get_ev {l:List Cell} {bs:List (List Cell)} (r c:ByteArray) (t:Int) (hfl:bs.flatten=l) (hok:∀ b ∈ bs,BlkOk b) (hs:SrtC l) (hl:l.length≤900) (hbl:bs.length≤1000) (hr:r.size≤10000) (hc:c.size≤10000) :
  Ev (fun k=>table_Table_Get.f k bs (filterB l) r c t) (tupC (findC r c t l)):=by
 unfold table_Table_Get.f
 refine Ev.bind (may_ev (by omega) hr hc) ?_
 cases hm:hasF (filterB l) (keyT r c) with
 | false=>
  refine (Ev.neg Bool.false_ne_true (Ev.now _)).to ?_
  have hn:findC r c t l=none:=by
   unfold findC
   refine List.find?_eq_none.2 fun x hx hox=>?_
   obtain ⟨e1,e2,_⟩:=ofC_iff.1 hox
   have:=may_in hx
   rw [e1,e2,hm] at this
   exact Bool.false_ne_true this
  rw [hn]
  rfl
 | true=>
  refine Ev.pos rfl ?_
  have hne:∀ b ∈ bs,b≠[]:=fun b hb=>(hok b hb).2.1
  have hof:OrdC bs.flatten:=by rw [hfl];exact hs.2
  have hM:(bs.map lastC).length=bs.length:=List.length_map ..
  have hse:=search_l0 bs (bs.map lastC) hM (keyC r c t) (by omega) (fun i h=>by
   have:=get1_ev (hne _ (List.getElem_mem h)) (by have:=(hok _ (List.getElem_mem h)).2.2.1;omega) (keyC r c t)
   rw [List.getElem_map]
   exact this) (lasts_ord hne hof) bs.length 0 bs.length (by omega) (by omega) (by omega) (fun j hj=>by omega) (fun j hj hl=>by omega)
  refine Ev.bind (show Ev (fun k=>api_Cell_65.f k bs r c t ⟨#[]⟩ false) _ from hse) ?_
  have hfb:=find_blocks r c t hne hof
  rw [hfl] at hfb
  have hpl:=posC_le (keyC r c t) (bs.map lastC)
  rw [hM] at hpl
  generalize posC (keyC r c t) (bs.map lastC)=p at hfb hpl ⊢
  by_cases hp:p=bs.length
  ·
   rw [if_pos hp] at hfb
   rw [hfb]
   exact Ev.pos (show ((p:Nat):Int)=(bs.length:Int) by omega) (Ev.now _)
  ·
   rw [if_neg hp] at hfb
   rw [hfb]
   have hlt:p<bs.length:=by omega
   have hB:=hok _ (List.getElem_mem hlt)
   have hgd:bs.getD p []=bs[p]:=by rw [List.getD_eq_getElem?_getD,List.getElem?_eq_getElem hlt];rfl
   refine Ev.neg (show ¬ ((p:Nat):Int)=(bs.length:Int) by omega) (Ev.pos (show (0:Int)≤((p:Nat):Int)∧((p:Nat):Int)<(bs.length:Int) by omega) ?_)
   rw [show ((p:Nat):Int).toNat=p from Int.toNat_natCast p,hgd]
   exact cell_Newest_ev r c t hB.1.2 (by have:=hB.2.2.1;omega)
def inB (last:Bool):List Cell→Int→Bool→Int→Int→Int × Int
 | [],_,_,lo,hi=>(lo,hi)
 | c :: r,n,first,lo,hi=>inB last r (n+lenC c) false (if first=true then lo else mx lo (n+1)) (if r=[]∧last=false then mn hi (n+lenC c) else hi)
def cutP:List (List Cell)→Int→Int→Int × Int
 | [],lo,hi=>(lo,hi)
 | b :: bs,lo,hi=>cutP bs (inB (decide (bs=[])) b 0 true lo hi).1 (inB (decide (bs=[])) b 0 true lo hi).2
def cutQ (bs:List (List Cell)):Bool:=decide ((cutP bs 1 4294967296).1≤(cutP bs 1 4294967296).2)
def FitB (last:Bool) (b:List Cell) (s:Int):Prop:=(∀ j,j<b.length→(sumC (b.take j):Int)<s)∧(last=false→s≤(sumC b:Int))
theorem mx_le {a b s:Int}:mx a b≤s↔a≤s∧b≤s:=by unfold mx;split<;>omega
theorem le_mn {a b s:Int}:s≤mn a b↔s≤a∧s≤b:=by unfold mn;split<;>omega
theorem inB_iff (last:Bool) (s:Int):∀ (b:List Cell) (n:Int) (first:Bool) (lo hi:Int),((inB last b n first lo hi).1≤s∧s≤(inB last b n first lo hi).2)↔(lo≤s∧s≤hi∧(∀ j,j<b.length→(first=true→0<j)→n+(sumC (b.take j):Int)<s)∧(b≠[]→last=false→s≤n+(sumC b:Int)))
 | [],n,first,lo,hi=>by simp [inB]
 | c :: r,n,first,lo,hi=>by
  have hc:sumC (c :: r)=lenC c+sumC r:=by simp [sumC]
  rw [inB,inB_iff last s r]
  have hhi:s≤(if r=[]∧last=false then mn hi (n+lenC c) else hi)↔s≤hi∧(r=[]→last=false→s≤n+lenC c):=by
   split
   ·
    rename_i h
    rw [le_mn]
    exact ⟨fun h2=>⟨h2.1,fun _ _=>h2.2⟩,fun h2=>⟨h2.1,h2.2 h.1 h.2⟩⟩
   ·
    rename_i h
    exact ⟨fun h2=>⟨h2,fun h3 h4=>absurd ⟨h3,h4⟩ h⟩,fun h2=>h2.1⟩
  have hlo:(if first=true then lo else mx lo (n+1))≤s↔lo≤s∧(first=true∨n<s):=by
   split
   ·
    rename_i h
    exact ⟨fun h2=>⟨h2,.inl h⟩,fun h2=>h2.1⟩
   ·
    rename_i h
    rw [mx_le]
    exact ⟨fun h2=>⟨h2.1,.inr (by omega)⟩,fun h2=>⟨h2.1,by rcases h2.2 with h3 | h3;exact absurd h3 h;omega⟩⟩
  rw [hhi,hlo]
  constructor
  ·
   rintro ⟨⟨l1,l2⟩,⟨u1,u2⟩,h3,h4⟩
   refine ⟨l1,u1,?_,?_⟩
   ·
    intro j hj hf
    cases j with
    | zero=>
     rw [List.take_zero,show sumC []=0 from rfl]
     rcases l2 with l2 | l2
     ·
      exact absurd (hf l2) (by omega)
     ·
      simpa using l2
    | succ j=>
     have h5:=h3 j (by simpa using hj) (fun h=>by cases h)
     rw [List.take_succ_cons,show sumC (c :: r.take j)=lenC c+sumC (r.take j) by simp [sumC]]
     omega
   ·
    intro _ hl
    rw [hc]
    by_cases hr:r=[]
    ·
     have:=u2 hr hl
     subst hr
     simp [sumC]
     omega
    ·
     have:=h4 hr hl
     omega
  ·
   rintro ⟨l1,u1,h3,h4⟩
   refine ⟨⟨l1,?_⟩,⟨u1,?_⟩,?_,?_⟩
   ·
    cases first with
    | true=>exact .inl rfl
    | false=>
     have:=h3 0 (by simp) (fun h=>by cases h)
     rw [List.take_zero,show sumC []=0 from rfl] at this
     exact .inr (by simpa using this)
   ·
    intro hr hl
    have:=h4 (by simp) hl
    rw [hc] at this
    subst hr
    simp [sumC] at this
    omega
   ·
    intro j hj _
    have h5:=h3 (j+1) (by simpa using hj) (fun _=>by omega)
    rw [List.take_succ_cons,show sumC (c :: r.take j)=lenC c+sumC (r.take j) by simp [sumC]] at h5
    omega
   ·
    intro hr hl
    have:=h4 (by simp) hl
    rw [hc] at this
    omega
def FitA:List (List Cell)→Int→Prop
 | [],_=>True
 | b :: bs,s=>FitB (decide (bs=[])) b s∧FitA bs s
theorem cutP_iff (s:Int) (hs:0<s):∀ (bs:List (List Cell)) (lo hi:Int),(∀ b ∈ bs,b≠[])→(((cutP bs lo hi).1≤s∧s≤(cutP bs lo hi).2)↔(lo≤s∧s≤hi∧FitA bs s))
 | [],lo,hi,_=>by simp [cutP,FitA]
 | b :: bs,lo,hi,h=>by
  have hb:=h b List.mem_cons_self
  rw [cutP,cutP_iff s hs bs _ _ (fun x hx=>h x (List.mem_cons_of_mem _ hx))]
  have:=inB_iff (decide (bs=[])) s b 0 true lo hi
  show _↔(lo≤s∧s≤hi∧FitB (decide (bs=[])) b s∧FitA bs s)
  unfold FitB
  constructor
  ·
   rintro ⟨h1,h2,h3⟩
   obtain ⟨a1,a2,a3,a4⟩:=this.1 ⟨h1,h2⟩
   refine ⟨a1,a2,⟨fun j hj=>?_,fun hl=>by have:=a4 hb hl;omega⟩,h3⟩
   by_cases hj0:0<j
   ·
    have:=a3 j hj (fun _=>hj0)
    omega
   ·
    have:j=0:=by omega
    subst this
    rw [List.take_zero]
    simpa [sumC] using hs
  ·
   rintro ⟨h1,h2,⟨h3,h4⟩,h5⟩
   obtain ⟨a1,a2⟩:=this.2 ⟨h1,h2,fun j hj _=>by have:=h3 j hj;omega,fun _ hl=>by have:=h4 hl;omega⟩
   exact ⟨a1,a2,h5⟩
theorem cutP_lo:∀ (bs:List (List Cell)) (lo hi:Int),lo≤(cutP bs lo hi).1
 | [],lo,_=>Int.le_refl _
 | b :: bs,lo,hi=>by
  rw [cutP]
  have hin:∀ (b:List Cell) (last:Bool) (n:Int) (first:Bool) (lo hi:Int),lo≤(inB last b n first lo hi).1:=by
   intro b last
   induction b with
   | nil=>intro n first lo hi;exact Int.le_refl _
   | cons c r ih=>
    intro n first lo hi
    rw [inB]
    refine Int.le_trans ?_ (ih _ _ _ _)
    split
    ·
     exact Int.le_refl _
    ·
     unfold mx;split<;>omega
  exact Int.le_trans (hin b _ 0 true lo hi) (cutP_lo bs _ _)
theorem cutQ_iff {bs:List (List Cell)} (h:∀ b ∈ bs,b≠[]):cutQ bs=true↔∃ s:Int,1≤s∧s≤4294967296∧FitA bs s:=by
 unfold cutQ
 rw [decide_eq_true_iff]
 constructor
 ·
  intro hle
  have hlo:=cutP_lo bs 1 4294967296
  obtain ⟨a1,a2,a3⟩:=(cutP_iff (cutP bs 1 4294967296).1 (by omega) bs 1 4294967296 h).1 ⟨Int.le_refl _,hle⟩
  exact ⟨_,a1,a2,a3⟩
 ·
  rintro ⟨s,h1,h2,h3⟩
  obtain ⟨a1,a2⟩:=(cutP_iff s (by omega) bs 1 4294967296 h).2 ⟨h1,h2,h3⟩
  exact Int.le_trans a1 a2
theorem fit_of {size:Nat}:∀ (bs:List (List Cell)),(∀ b ∈ bs,OkB size b)→(∀ (i:Nat) (h:i+1<bs.length),size≤sumC (bs[i]'(by omega)))→FitA bs size
 | [],_,_=>trivial
 | b :: bs,h1,h2=>by
  refine ⟨⟨fun j hj=>by have:=(h1 b List.mem_cons_self).2 j hj;omega,fun hl=>?_⟩,fit_of bs (fun x hx=>h1 x (List.mem_cons_of_mem _ hx)) (fun i hi=>?_)⟩
  ·
   cases bs with
   | nil=>simp at hl
   | cons b2 bs=>
    have:=h2 0 (by simp)
    simp only [List.getElem_cons_zero] at this
    omega
  ·
   have:=h2 (i+1) (by simpa using hi)
   simpa using this
theorem goB_fit {size:Nat} (hs:0<size) (l:List Cell):FitA (goB size l [] 0) size:=
 fit_of _ (goB_ok size hs l [] 0 rfl (fun k hk=>by
  have:k=0:=by simpa using hk
  subst this
  simpa [sumC] using hs)) (fun i h=>goB_full size l [] 0 rfl i h)
theorem w64n {n:Nat} (h:n≤1000000000):wrap64 (n:Int)=(n:Int):=w64 (by omega) (by omega)
theorem w64s {n m:Nat} (h:n+m≤1000000000):wrap64 ((n:Int)+(m:Int))=((n+m:Nat):Int):=by
 rw [←Int.natCast_add]
 exact w64n h
theorem cutable_l1 (bs:List (List Cell)) (i:Nat) (hi:i<bs.length) (hbl:bs.length≤1000) (l:List Cell) (hr:RightsC l) (hl:l.length≤450) (hl0:0<l.length) (r:Bool) (d:Nat):∀ (j n:Nat) (lo hi':Int),j≤l.length→l.length - j=d→n≤401*j→
  Ev (fun k=>table_cutable.l0 k bs (inB (decide (i+1=bs.length)) (l.drop j) n (decide (j=0)) lo hi').1 (inB (decide (i+1=bs.length)) (l.drop j) n (decide (j=0)) lo hi').2 bs (bs.length:Int) (wrap64 ((i:Int)+1))) r→
  Ev (fun k=>table_cutable.l1 k bs lo hi' (i:Int) l (n:Int) bs (bs.length:Int) (i:Int) l (l.length:Int) (j:Int)) r:=by
 induction d with
 | zero=>
  intro j n lo hi' hj hd hn hk
  rw [List.drop_eq_nil_of_le (by omega),inB] at hk
  have hnj:¬ (j:Int)<(l.length:Int):=by omega
  exact Ev.step (fun k=>by simp only [table_cutable.l1];rw [if_neg hnj]) hk
 | succ d ih=>
  intro j n lo hi' hj hd hn hk
  have hlt:j<l.length:=by omega
  have q1:(j:Int)<(l.length:Int):=by omega
  have q2:(0:Int)≤(j:Int):=by omega
  have hc:=hr _ (List.getElem_mem hlt)
  have hcl:=lenC_le hc
  have hput:=put_C hc
  have hrd:=rdC_at l j hlt
  unfold rdC at hrd
  have hlast:((j:Int)=(l.length:Int) - 1)↔l.drop (j+1)=[]:=by
   rw [List.drop_eq_nil_iff]
   omega
  have hib:((i:Int)<(bs.length:Int) - 1)↔¬ i+1=bs.length:=by omega
  have hj0:((j:Int) > 0)↔¬ j=0:=by omega
  have p1:(l.length:Int) - 1=((l.length - 1:Nat):Int):=by omega
  have p2:(bs.length:Int) - 1=((bs.length - 1:Nat):Int):=by omega
  have b1:l.length - 1≤1000000000:=by omega
  have b2:bs.length - 1≤1000000000:=by omega
  have b3:j+1≤1000000000:=by omega
  have b4:n+1≤1000000000:=by omega
  have b5:n+lenC l[j]≤1000000000:=by omega
  have e6:((n+lenC l[j]:Nat):Int)=(n:Int)+(lenC l[j]:Int):=by omega
  have hnn:n+lenC l[j]≤401*(j+1):=by omega
  have ihh:=fun lo hi'=>ih (j+1) (n+lenC l[j]) lo hi' (by omega) (by omega) hnn
  have hz:decide (j+1=0)=false:=decide_eq_false (by omega)
  have e1:wrap64 ((l.length:Int) - 1)=(l.length:Int) - 1:=by rw [p1];exact w64n b1
  have e2:wrap64 ((bs.length:Int) - 1)=(bs.length:Int) - 1:=by rw [p2];exact w64n b2
  have e3:wrap64 ((j:Int)+1)=((j+1:Nat):Int):=w64s (m:=1) b3
  have e4:wrap64 ((n:Int)+1)=(n:Int)+1:=w64s (m:=1) b4
  have e5:wrap64 ((n:Int)+((cellB l[j].f0 l[j].f1 l[j].f2 l[j].f3 l[j].f4).length:Int))=((n+lenC l[j]:Nat):Int):=w64s b5
  rw [List.drop_eq_getElem_cons hlt,inB] at hk
  rw [hz] at ihh
  clear hn hnn hd hj hcl ih
  -- the new bounds
  have hj2:∀ (c:Bool) (k:Nat),(c=true↔(l.drop (j+1)=[]∧decide (i+1=bs.length)=false))→
    table_cutable.j2 (k+1) bs lo hi' (i:Int) l (n:Int) (j:Int) bs (bs.length:Int) (i:Int) l (l.length:Int) (j:Int) c l[j].f0 l[j].f1 l[j].f2 l[j].f3 l[j].f4 =
    table_cutable.l1 k bs (if decide (j=0)=true then lo else mx lo ((n:Int)+1)) (if l.drop (j+1)=[]∧decide (i+1=bs.length)=false then mn hi' ((n:Int)+(lenC l[j]:Int)) else hi') (i:Int) l ((n+lenC l[j]:Nat):Int) bs (bs.length:Int) (i:Int) l (l.length:Int) ((j+1:Nat):Int):=by
   intro c k hcc
   simp only [table_cutable.j2,hput,Option.bind_some]
   by_cases hj':j=0
   ·
    have hn0:¬ ((j:Int) > 0):=fun h=>(hj0.1 h) hj'
    rw [if_neg hn0,if_neg hn0,if_pos (decide_eq_true hj')]
    cases c with
    | true=>rw [if_pos rfl,if_pos (hcc.1 rfl)];rw [e5,e3,e6]
    | false=>rw [if_neg Bool.false_ne_true,if_neg (fun h=>Bool.false_ne_true (hcc.2 h))];rw [e5,e3]
   ·
    have hn0:((j:Int) > 0):=hj0.2 hj'
    rw [if_pos hn0,if_pos hn0,if_neg (fun h=>hj' (of_decide_eq_true h))]
    cases c with
    | true=>rw [if_pos rfl,if_pos (hcc.1 rfl)];rw [e5,e4,e3,e6]
    | false=>rw [if_neg Bool.false_ne_true,if_neg (fun h=>Bool.false_ne_true (hcc.2 h))];rw [e5,e4,e3]
  have hk2:=ihh _ _ hk
  by_cases hlst:(j:Int)=(l.length:Int) - 1
  ·
   refine Ev.step (fun k=>by simp only [table_cutable.l1];rw [if_pos q1,if_pos q2,if_pos q1,e1,if_pos hlst,e2,hrd]) (Ev.step (fun k=>hj2 _ k ?_) hk2)
   rw [decide_eq_true_iff,hib,decide_eq_false_iff_not]
   exact ⟨fun h=>⟨hlast.1 hlst,h⟩,fun h=>h.2⟩
  ·
   refine Ev.step (fun k=>by simp only [table_cutable.l1];rw [if_pos q1,if_pos q2,if_pos q1,e1,if_neg hlst,hrd]) (Ev.step (fun k=>hj2 _ k ?_) hk2)
   exact ⟨fun h=>absurd h Bool.false_ne_true,fun h=>absurd (hlast.2 h.1) hlst⟩
theorem cutable_l0 (bs:List (List Cell)) (hbl:bs.length≤1000) (hok:∀ b ∈ bs,BlkOk b) (d:Nat):∀ (i:Nat) (lo hi:Int),i≤bs.length→bs.length - i=d→Ev (fun k=>table_cutable.l0 k bs lo hi bs (bs.length:Int) (i:Int)) (decide ((cutP (bs.drop i) lo hi).1≤(cutP (bs.drop i) lo hi).2)):=by
 induction d with
 | zero=>
  intro i lo hi h1 h2
  rw [List.drop_eq_nil_of_le (by omega)]
  exact Ev.step (f:=fun _=>some (decide (lo≤hi))) (fun k=>by simp only [table_cutable.l0];rw [if_neg (by omega)]) (Ev.now _)
 | succ d ih=>
  intro i lo hi h1 h2
  have hlt:i<bs.length:=by omega
  have q1:(i:Int)<(bs.length:Int):=by omega
  have q2:(0:Int)≤(i:Int):=by omega
  have hB:=hok _ (List.getElem_mem hlt)
  have hrd:=rdL_at bs i hlt
  have hb0:0<bs[i].length:=List.length_pos_iff.2 hB.2.1
  have ihh:=fun lo hi=>ih (i+1) lo hi (by omega) (by omega)
  have b3:i+1≤1000000000:=by omega
  have hdl:decide (bs.drop (i+1)=[])=decide (i+1=bs.length):=by
   congr 1
   rw [List.drop_eq_nil_iff]
   exact propext ⟨fun h=>by omega,fun h=>by omega⟩
  have e3:wrap64 ((i:Int)+1)=((i+1:Nat):Int):=w64s (m:=1) b3
  rw [List.drop_eq_getElem_cons hlt,cutP,hdl]
  refine Ev.step (fun k=>by simp only [table_cutable.l0];rw [if_pos q1,if_pos q2,if_pos q1,hrd]) ?_
  refine cutable_l1 bs i hlt hbl bs[i] hB.1.1 hB.2.2.1 hb0 _ bs[i].length 0 0 lo hi (Nat.zero_le _) rfl (Nat.zero_le _) ?_
  rw [e3,List.drop_zero]
  exact ihh _ _
theorem cutable_ev {bs:List (List Cell)} (hbl:bs.length≤1000) (hok:∀ b ∈ bs,BlkOk b):Ev (fun k=>table_cutable.f k bs) (cutQ bs):=by
 unfold table_cutable.f cutQ
 exact cutable_l0 bs hbl hok bs.length 0 1 4294967296 (Nat.zero_le _) rfl
theorem head_iff {b:List Int} (hb:Bytes b) (h12:12≤b.length) (s:List Int):b.take 12=b.take 4++(sumB (b.take 4)++sumB s)↔val4 (b.drop 4)=crcSum (b.take 4)∧val4 (b.drop 8)=crcSum s:=by
 have e12:b.take 12=b.take 4++((b.drop 4).take 4++(b.drop 8).take 4):=by
  rw [show 12=4+(4+4) from rfl,List.take_add,List.take_add,List.drop_drop]
 have n4:=num_val4 (hb.drop 4) (by rw [List.length_drop];omega)
 have n8:=num_val4 (hb.drop 8) (by rw [List.length_drop];omega)
 obtain ⟨a0,a1⟩:=crcSum_in (b.take 4)
 obtain ⟨b0,b1⟩:=crcSum_in s
 obtain ⟨c0,c1⟩:=val4_nonneg (hb.drop 4) (by rw [List.length_drop];omega)
 obtain ⟨d0,d1⟩:=val4_nonneg (hb.drop 8) (by rw [List.length_drop];omega)
 rw [e12,List.append_cancel_left_eq,← n4,← n8]
 constructor
 ·
  intro h
  have h1:=List.append_inj h (by rw [sumB_length,num_length c0 c1])
  have v1:=congrArg val4 (show num (val4 (b.drop 4))++[]=num (crcSum (b.take 4))++[] by have e:=h1.1;unfold sumB at e;rw [e])
  have v2:=congrArg val4 (show num (val4 (b.drop 8))++[]=num (crcSum s)++[] by have e:=h1.2;unfold sumB at e;rw [e])
  rw [val4_num c0 c1,val4_num a0 a1] at v1
  rw [val4_num d0 d1,val4_num b0 b1] at v2
  exact ⟨v1,v2⟩
 ·
  rintro ⟨h1,h2⟩
  rw [h1,h2]
  rfl
theorem frame_Cut_ev {b:List Int} (hb:Bytes b) (hl:b.length≤140737488355328):Ev (fun k=>frame_Cut.f k b) (cutF b):=by
 have jt:∀ n l,Ev (fun k=>frame_Cut.j0 k n l true) ([],[],false):=fun n l=>Ev.step (fun k=>by simp only [frame_Cut.j0,if_true]) (Ev.now _)
 unfold frame_Cut.f
 by_cases h:b.length<12
 ·
  rw [cutF_no (fun ho=>by have:=ho.1;omega)]
  exact Ev.pos (by omega) (Ev.now _)
 refine Ev.neg (by omega) (Ev.bind (wire_CutNum_ev hb hl) (Ev.pos (by omega) (Ev.bind (Ev.eq (clone_eq (by rw [List.length_drop];omega))) ?_)))
 obtain ⟨g0,g1⟩:=val4_nonneg hb (by omega)
 have hcn:cutNum b=(val4 b,b.drop 4,true):=by unfold cutNum;rw [if_neg (by omega)]
 rw [hcn]
 simp only
 have hd:((b.drop 12).length:Int)=(b.length:Int) - 12:=by rw [List.length_drop];omega
 by_cases h1:val4 b > 65535
 ·
  rw [cutF_no (fun ho=>by have:=ho.2.1;omega)]
  exact Ev.pos h1 (jt _ _)
 refine Ev.neg h1 ?_
 by_cases h2:val4 b > ((b.drop 12).length:Int)
 ·
  rw [cutF_no (fun ho=>by have:=ho.2.2.1;omega)]
  exact Ev.pos h2 (jt _ _)
 refine Ev.neg h2 (Ev.pos (by omega) (Ev.bind (Ev.now _) (Ev.bind (frame_sum_ev (hb.take 4) (by rw [List.length_take];omega)) (Ev.pos g0 (Ev.pos (by omega) (Ev.bind (frame_sum_ev ((hb.drop 12).take _) (by rw [List.length_take,List.length_drop];omega)) ?_))))))
 have s1:=sumB_length (b.take 4)
 have s2:=sumB_length ((b.drop 12).take (val4 b).toNat)
 refine Ev.bind (Ev.eq (concat_eq ?_)) (Ev.bind (equal_ev (by rw [List.length_take];omega)) ?_)
 ·
  simp only [lenSum,List.map_cons,List.map_nil,List.sum_cons,List.sum_nil,List.length_take]
  omega
 have hc:[b.take 4,sumB (b.take 4),sumB ((b.drop 12).take (val4 b).toNat)].flatten=b.take 4++(sumB (b.take 4)++sumB ((b.drop 12).take (val4 b).toNat)):=by simp
 rw [hc]
 have hi:=head_iff hb (by omega) ((b.drop 12).take (val4 b).toNat)
 by_cases ho:okF b
 ·
  have h45:val4 (b.drop 4)=crcSum (b.take 4)∧val4 (b.drop 8)=crcSum ((b.drop 12).take (val4 b).toNat):=⟨ho.2.2.2.1,ho.2.2.2.2⟩
  rw [decide_eq_true (hi.2 h45)]
  unfold cutF
  rw [if_pos ho]
  refine Ev.step (fun k=>by simp only [frame_Cut.j0,Bool.not_true,Bool.false_eq_true,if_false];rfl) (Ev.pos g0 (Ev.pos (by omega) (Ev.now _)))
 ·
  have h45:¬ (val4 (b.drop 4)=crcSum (b.take 4)∧val4 (b.drop 8)=crcSum ((b.drop 12).take (val4 b).toNat)):=fun hh=>ho ⟨by omega,by omega,by omega,hh.1,hh.2⟩
  rw [decide_eq_false (fun e=>h45 (hi.1 e)),cutF_no ho]
  exact jt _ _
def mkCell (x:Cut7):Cell:=⟨x.1,x.2.1,x.2.2.1,x.2.2.2.1,x.2.2.2.2.1⟩
def loopC:Nat→List Int→List Cell→List Cell × Bool
 | 0,b,out=>(out,decide (b.length=0))
 | n+1,b,out=>if (cutCell b).2.2.2.2.2.2=true then loopC n (cutCell b).2.2.2.2.2.1 (out++[mkCell (cutCell b)]) else (out++[mkCell (cutCell b)],false)
theorem cutCell_rest_ok {b:List Int} (hb:Bytes b):Bytes (cutCell b).2.2.2.2.2.1∧(cutCell b).2.2.2.2.2.1.length≤b.length:=by
 have b1:=cutText_rest_bytes hb
 have l1:=cutText_rest_le (b:=b)
 have b2:=cutText_rest_bytes b1
 have l2:=cutText_rest_le (b:=(cutText b).2.1)
 obtain ⟨b3,l3⟩:=cutNum_bytes' b2
 obtain ⟨b4,l4⟩:=cutFlag_bytes b3
 have b5:=cutText_rest_bytes b4
 have l5:=cutText_rest_le (b:=(cutFlag (cutNum (cutText (cutText b).2.1).2.1).2.1).2.1)
 unfold cutCell
 dsimp only
 split
 ·
  exact ⟨b5,Nat.le_trans l5 (Nat.le_trans l4 (Nat.le_trans l3 (Nat.le_trans l2 l1)))⟩
 ·
  exact ⟨Bytes.nil,by simp⟩
theorem cells_l0 (n:Nat):∀ (b:List Int) (out:List Cell),Bytes b→b.length≤140737488355328→n≤4294967295→out.length+n≤4294967295→Ev (fun k=>block_cells.l0 k b (n:Int) true out) (loopC n b out):=by
 induction n with
 | zero=>
  intro b out hb hl hn ho
  refine Ev.step (f:=fun _=>some (out,((b.length:Int) == 0))) (fun k=>?_) ((Ev.now _).to ?_)
  ·
   simp only [block_cells.l0,if_true]
   rw [if_neg (by omega)]
  ·
   unfold loopC
   congr 1
   rw [Bool.eq_iff_iff,beq_iff_eq,decide_eq_true_iff]
   omega
 | succ n ih=>
  intro b out hb hl hn ho
  have hr:=cutCell_rest_ok hb
  refine Ev.step (fun k=>by simp only [block_cells.l0,if_true];rw [if_pos (by omega)]) ?_
  refine Ev.bind (cell_Cut_ev hb hl) ?_
  refine Ev.pos (by omega) ?_
  rw [show wrap64 (((n+1:Nat):Int) - 1)=(n:Int) by rw [w64 (by omega) (by omega)];omega]
  unfold loopC
  cases hc:(cutCell b).2.2.2.2.2.2 with
  | true=>
   rw [if_pos rfl]
   exact ih _ _ hr.1 (Nat.le_trans hr.2 hl) (by omega) (by rw [List.length_append,List.length_singleton];omega)
  | false=>
   rw [if_neg Bool.false_ne_true]
   exact Ev.step (f:=fun _=>some (out++[mkCell (cutCell b)],false)) (fun k=>by simp only [block_cells.l0,Bool.false_eq_true,if_false];rfl) (Ev.now _)
def cellsB (b:List Int):List Cell × Bool:=if b.length<4 then ([],false) else loopC (val4 b).toNat (b.drop 4) []
theorem cells_ev {b:List Int} (hb:Bytes b) (hl:b.length≤140737488355328):Ev (fun k=>block_cells.f k b) (cellsB b):=by
 unfold block_cells.f cellsB
 refine Ev.bind (wire_CutNum_ev hb hl) ?_
 unfold cutNum
 by_cases h:b.length<4
 ·
  rw [if_pos h,if_pos h]
  exact Ev.step (f:=fun _=>some ([],false)) (fun k=>by simp only [block_cells.l0,Bool.false_eq_true,if_false]) (Ev.now _)
 ·
  rw [if_neg h,if_neg h]
  obtain ⟨g0,g1⟩:=val4_nonneg hb (by omega)
  have:=cells_l0 (val4 b).toNat (b.drop 4) [] (hb.drop 4) (by rw [List.length_drop];omega) (by omega) (by simp;omega)
  rw [show (((val4 b).toNat:Nat):Int)=val4 b by omega] at this
  exact this
def getB (b:List Int):List Cell × List Int × Int:=if (cutF b).2.2=true∧(cellsB (cutF b).1).2=true∧(cellsB (cutF b).1).1.length≠0∧sortedC (cellsB (cutF b).1).1=true then ((cellsB (cutF b).1).1,(cutF b).2.1,0) else ([],[],2)
theorem loopC_cells:∀ (l:List Cell) (r:List Int) (out:List Cell),RightsC l→loopC l.length ((l.map oneB).flatten++r) out=(out++l,decide (r.length=0))
 | [],r,out,_=>by simp [loopC]
 | c :: l,r,out,h=>by
  have hc:=h c List.mem_cons_self
  have e:cutCell (oneB c++((l.map oneB).flatten++r))=(c.f0,c.f1,c.f2,c.f3,c.f4,(l.map oneB).flatten++r,true):=cutCell_cellB hc _
  rw [List.map_cons,List.flatten_cons,List.append_assoc,List.length_cons]
  unfold loopC
  rw [e,if_pos rfl,loopC_cells l r _ (fun x hx=>h x (List.mem_cons_of_mem _ hx))]
  simp [mkCell]
theorem cellsB_body {l:List Cell} (h:RightsC l) (hl:l.length≤450):cellsB (bodyB l)=(l,true):=by
 have hn:(num (l.length:Int)).length=4:=num_length (by omega) (by omega)
 have hc:=cutNum_num (n:=(l.length:Int)) (by omega) (by omega) ((l.map oneB).flatten)
 unfold cutNum at hc
 have h4:¬ (num (l.length:Int)++(l.map oneB).flatten).length<4:=by rw [List.length_append];omega
 rw [if_neg h4] at hc
 simp only [Prod.mk.injEq,and_true] at hc
 unfold cellsB bodyB
 rw [if_neg h4,hc.1,hc.2,Int.toNat_natCast]
 have:=loopC_cells l [] [] h
 rw [List.append_nil] at this
 rw [this]
 simp
theorem getB_putW {l:List Cell} (h:SrtC l) (h0:l.length≠0) (hl:l.length≤450) (hb:(bodyB l).length≤60154) (r:List Int):getB (frame (bodyB l)++r)=(l,r,0):=by
 have hc:=cutF_frame (r:=bodyB l) (by omega) r
 unfold getB
 rw [hc]
 have hs:=sortedC_iff.2 h
 simp only [cellsB_body h.1 hl]
 rw [if_pos ⟨trivial,trivial,h0,hs⟩]
theorem loopC_length (n:Nat):∀ (b:List Int) (out:List Cell),(loopC n b out).1.length≤out.length+n
 :=by
 induction n with
 | zero=>intro b out;unfold loopC;simp
 | succ n ih=>
  intro b out
  unfold loopC
  split
  ·
   have:=ih (cutCell b).2.2.2.2.2.1 (out++[mkCell (cutCell b)])
   rw [List.length_append,List.length_singleton] at this
   omega
  ·
   simp only [List.length_append,List.length_singleton];omega
theorem cellsB_length {b:List Int} (hb:Bytes b):(cellsB b).1.length≤4294967295:=by
 unfold cellsB
 by_cases h:b.length<4
 ·
  rw [if_pos h];simp
 ·
  rw [if_neg h]
  obtain ⟨g0,g1⟩:=val4_nonneg hb (by omega)
  have:=loopC_length (val4 b).toNat (b.drop 4) []
  simp only [List.length_nil] at this
  omega
theorem cutF_rec_bytes {b:List Int} (hb:Bytes b):Bytes (cutF b).1∧(cutF b).1.length≤b.length∧(cutF b).2.1.length≤b.length:=by
 unfold cutF
 split
 ·
  refine ⟨(hb.drop 12).take _,?_,?_⟩
  ·
   simp only [List.length_take,List.length_drop];omega
  ·
   simp only [List.length_drop];omega
 ·
  exact ⟨Bytes.nil,by simp,by simp⟩
theorem block_Get_ev {b:List Int} (hb:Bytes b) (hl:b.length≤140737488355328):Ev (fun k=>block_Get.f k b) (getB b):=by
 obtain ⟨hrb,hrl,hsl⟩:=cutF_rec_bytes hb
 have hcl:=cellsB_length hrb
 have jt:∀ (x:List Int) (l:List Cell),Ev (fun k=>block_Get.j0 k x l true) ([],[],2):=fun x l=>Ev.step (f:=fun _=>some ([],[],2)) (fun k=>by simp only [block_Get.j0,if_true]) (Ev.now _)
 have jf:∀ (x:List Int) (l:List Cell),x.length≤140737488355328→Ev (fun k=>block_Get.j0 k x l false) (l,x,0):=fun x l h=>by
  refine Ev.step (f:=fun _=>some (l,x,0)) (fun k=>?_) (Ev.now _)
  simp only [block_Get.j0,Bool.false_eq_true,if_false]
  unfold slices_Clone_byte_byte.f
  rw [if_pos (by omega)]
  rfl
 unfold block_Get.f getB
 refine Ev.bind (frame_Cut_ev hb hl) ?_
 cases hc:(cutF b).2.2 with
 | false=>
  rw [if_neg (by simp)]
  exact Ev.neg Bool.false_ne_true (Ev.now _)
 | true=>
  refine Ev.pos rfl (Ev.bind (cells_ev hrb (by omega)) ?_)
  cases h2:(cellsB (cutF b).1).2 with
  | false=>
   rw [if_neg (by simp)]
   exact Ev.neg Bool.false_ne_true (jt _ _)
  | true=>
   refine Ev.pos rfl ?_
   by_cases h0:(cellsB (cutF b).1).1.length=0
   ·
    rw [if_neg (by simp [h0])]
    exact Ev.pos (by omega) (jt _ _)
   ·
    refine Ev.neg (by omega) ?_
    refine Ev.bind (cell_Sorted_ev (by omega)) ?_
    cases hs:sortedC (cellsB (cutF b).1).1 with
    | false=>
     rw [if_neg (by simp)]
     exact jt _ _
    | true=>
     rw [if_pos ⟨rfl,rfl,h0,rfl⟩]
     exact jf _ _ (by omega)
def endT (b:List Int):Int:=(b.length:Int) - 4 - val4 (b.drop (b.length - 4))
theorem open_cut {b:List Int} (hb:Bytes b) (hl:b.length≤100000000) (h4:4≤b.length):Ev (fun k=>wire_CutNum.f k (b.drop (b.length - 4))) (val4 (b.drop (b.length - 4)),(b.drop (b.length - 4)).drop 4,true):=by
 have hd:(b.drop (b.length - 4)).length=4:=by rw [List.length_drop];omega
 have hc:=wire_CutNum_ev (b:=b.drop (b.length - 4)) (fun x hx=>hb x (List.mem_of_mem_drop hx)) (by omega)
 unfold cutNum at hc
 rwa [if_neg (by omega)] at hc
theorem endT_w {b:List Int} (hb:Bytes b) (hl:b.length≤100000000) (h4:4≤b.length):wrap64 (wrap64 ((b.length:Int) - 4) - val4 (b.drop (b.length - 4)))=endT b:=by
 have hd:(b.drop (b.length - 4)).length=4:=by rw [List.length_drop];omega
 obtain ⟨v0,v1⟩:=val4_nonneg (b:=b.drop (b.length - 4)) (fun x hx=>hb x (List.mem_of_mem_drop hx)) (by omega)
 unfold endT
 generalize val4 (b.drop (b.length - 4))=v at v0 v1 ⊢
 rw [w64 (x:=(b.length:Int) - 4) (by omega) (by omega)]
 exact w64 (by omega) (by omega)
theorem endT_le {b:List Int} (hb:Bytes b) (h4:4≤b.length):endT b≤(b.length:Int) - 4:=by
 have hd:(b.drop (b.length - 4)).length=4:=by rw [List.length_drop];omega
 obtain ⟨v0,v1⟩:=val4_nonneg (b:=b.drop (b.length - 4)) (fun x hx=>hb x (List.mem_of_mem_drop hx)) (by omega)
 unfold endT
 omega
theorem open_some {b:List Int} {l:List Cell} {bs:List (List Cell)} {o:Option (List Cell × List (List Cell) × List Int)} (hb:Bytes b) (hl:b.length≤100000000) (h4:4≤b.length) (he:0≤endT b) (hs:Ev (fun k=>table_Open.lp k (b.take (endT b).toNat) [] []) (some (l,bs))) (ht:Ev (fun k=>table_Open.tail k b l bs) o):Ev (fun k=>table_Open.f k b) o:=by
 have hw:=endT_w hb hl h4
 have hn:¬ (b.length:Int)<4:=by omega
 have hle:=endT_le hb h4
 have h1:¬ endT b<0:=by omega
 have h2:endT b≤(b.length:Int):=by omega
 unfold table_Open.f
 refine Ev.neg hn (Ev.bind (open_cut hb hl h4) ?_)
 simp only [hw]
 exact Ev.neg h1 (Ev.pos h2 (Ev.bind hs ht))
theorem cell_Sorted_small {l:List Cell} (hl:l.length≤100000):Ev (fun k=>cell_Sorted.f k l) (sortedC l):=cell_Sorted_ev (by omega)
theorem tail_ev {b:List Int} {l:List Cell} {bs:List (List Cell)} (hr:RightsC l) (hl:l.length≤900) (hok:∀ b ∈ bs,BlkOk b) (hbl:bs.length≤421) :
  Ev (fun k=>table_Open.tail k b l bs) (if sortedC l=true∧cutQ bs=true∧tableB bs (filterB l)=b then some (l,bs,filterB l) else none):=by
 unfold table_Open.tail
 have hfl:=filterB_length l
 have hfs:(filterB l).length≤1000:=by omega
 have hb1:=bytes_ev (fl:=filterB l) hok hbl hfs
 have htl:(tableB bs (filterB l)).length≤140737488355328:=by
  have h1:=allB_le bs hok
  have h2:=footC_le hok hbl hfs
  have h3:=frame_length (r:=footC bs (filterB l)) (by omega)
  have h4:=num_length_le (frame (footC bs (filterB l))).length
  unfold tableB
  simp only [List.length_append]
  omega
 refine Ev.bind (table_filter_ev hr (by omega)) (Ev.bind (cell_Sorted_small (by omega)) ?_)
 cases h1:sortedC l with
 | false=>
  rw [if_neg (fun h=>Bool.false_ne_true h.1)]
  exact Ev.neg Bool.false_ne_true (Ev.now _)
 | true=>
  refine Ev.pos rfl (Ev.bind (cutable_ev (by omega) hok) ?_)
  cases h2:cutQ bs with
  | false=>
   rw [if_neg (fun h=>Bool.false_ne_true h.2.1)]
   exact Ev.neg Bool.false_ne_true (Ev.now _)
  | true=>
   refine Ev.pos rfl (Ev.bind hb1 (Ev.pos rfl (Ev.bind (equal_ev htl) ?_)))
   by_cases h3:tableB bs (filterB l)=b
   ·
    exact (Ev.pos (decide_eq_true h3) (Ev.now _)).to (if_pos ⟨rfl,rfl,h3⟩).symm
   ·
    exact (Ev.neg (fun h=>h3 (of_decide_eq_true h)) (Ev.now _)).to (if_neg (fun h=>h3 h.2.2)).symm
theorem lp_blocks {r:Option (List Cell × List (List Cell))} {x:List Int} (hx:Bytes x):∀ (bs:List (List Cell)) (l0:List Cell) (bs0:List (List Cell)),(∀ b ∈ bs,BlkOk b)→(allB bs).length+x.length≤100000000→l0.length+450*bs.length≤100000000→bs0.length+bs.length≤100000000→
  Ev (fun k=>table_Open.lp k x (l0++bs.flatten) (bs0++bs)) r→Ev (fun k=>table_Open.lp k (allB bs++x) l0 bs0) r
 | [],l0,bs0,_,_,_,_,hk=>by
  rw [List.flatten_nil,List.append_nil,List.append_nil] at hk
  exact hk
 | b :: bs,l0,bs0,hok,hl,h1,h2,hk=>by
  have hB:=hok b List.mem_cons_self
  have hfr:=frame_length (r:=bodyB b) (by have:=body_le hB;omega)
  have hb0:b.length≠0:=fun he=>hB.2.1 (List.eq_nil_of_length_eq_zero he)
  have hbb:=hB.2.2.1
  rw [allB_cons,List.length_append] at hl
  simp only [List.length_cons] at h1 h2
  have ih:=lp_blocks hx bs (l0++b) (bs0++[b]) (fun x hx=>hok x (List.mem_cons_of_mem _ hx)) (by omega) (by rw [List.length_append];omega) (by simp only [List.length_append,List.length_cons,List.length_nil];omega) (by
   rw [List.flatten_cons] at hk
   simp only [List.append_assoc,List.singleton_append]
   exact hk)
  rw [allB_cons,List.append_assoc]
  have hg:=block_Get_ev (b:=frame (bodyB b)++(allB bs++x)) ((bytes_frame (bytes_bodyB b)).append ((bytes_allB bs).append hx)) (by simp only [List.length_append];omega)
  rw [getB_putW hB.1 hb0 hbb hB.2.2.2] at hg
  have hne:¬ ((frame (bodyB b)++(allB bs++x)).length:Int)=0:=by rw [List.length_append];omega
  have hlim:(l0.length+b.length)*64≤140737488355328∧(bs0.length+1)*24≤140737488355328:=by omega
  refine Ev.step (fun k=>by simp only [table_Open.lp];rfl) ?_
  exact Ev.neg hne (Ev.bind hg (Ev.pos rfl (Ev.pos hlim ih)))
theorem lp_done (l:List Cell) (bs:List (List Cell)):Ev (fun k=>table_Open.lp k [] l bs) (some (l,bs)):=by
 refine Ev.step (f:=fun _=>some (some (l,bs))) (fun k=>?_) (Ev.now _)
 simp only [table_Open.lp,List.length_nil]
 rfl
theorem foot_size {bs:List (List Cell)} {fl:List Int} (hok:∀ b ∈ bs,BlkOk b) (hbl:bs.length≤421) (hf:fl.length≤1000):(frame (footC bs fl)).length≤63812∧(num (frame (footC bs fl)).length).length=4:=by
 have h2:=footC_le hok hbl hf
 have h3:=frame_length (r:=footC bs fl) (by omega)
 exact ⟨by omega,num_length (by omega) (by omega)⟩
theorem tableB_length {bs:List (List Cell)} {fl:List Int} (hok:∀ b ∈ bs,BlkOk b) (hbl:bs.length≤421) (hf:fl.length≤1000):(tableB bs fl).length=(allB bs).length+(frame (footC bs fl)).length+4∧(tableB bs fl).length≤100000000:=by
 obtain ⟨h1,h2⟩:=foot_size hok hbl hf
 have h3:=allB_le bs hok
 unfold tableB
 simp only [List.length_append]
 omega
theorem tableB_end {bs:List (List Cell)} {fl:List Int} (hok:∀ b ∈ bs,BlkOk b) (hbl:bs.length≤421) (hf:fl.length≤1000):endT (tableB bs fl)=((allB bs).length:Int):=by
 obtain ⟨h1,h2⟩:=foot_size hok hbl hf
 obtain ⟨h3,h4⟩:=tableB_length hok hbl hf
 have hd:(tableB bs fl).drop ((tableB bs fl).length - 4)=num (frame (footC bs fl)).length:=by
  rw [h3]
  unfold tableB
  rw [←List.append_assoc,show (allB bs).length+(frame (footC bs fl)).length+4 - 4=(allB bs++frame (footC bs fl)).length by rw [List.length_append];omega,List.drop_left]
 unfold endT
 rw [hd,h3,show num ((frame (footC bs fl)).length:Int)=num ((frame (footC bs fl)).length:Int)++[] by rw [List.append_nil],val4_num (by omega) (by omega)]
 omega
theorem open_built {bs:List (List Cell)} (hok:∀ b ∈ bs,BlkOk b) (hbl:bs.length≤421) (hs:SrtC bs.flatten) (hl:bs.flatten.length≤900) (hc:cutQ bs=true) :
  Ev (fun k=>table_Open.f k (tableB bs (filterB bs.flatten))) (some (bs.flatten,bs,filterB bs.flatten)):=by
 have hfl:=filterB_length bs.flatten
 have hfs:(filterB bs.flatten).length≤1000:=by omega
 obtain ⟨h3,h4⟩:=tableB_length hok hbl hfs
 have he:=tableB_end hok hbl hfs
 have hby:=bytes_tableB bs (filterB bs.flatten)
 refine open_some hby h4 (by omega) (by rw [he];omega) ?_ ((tail_ev hs.1 hl hok hbl).to (if_pos ⟨sortedC_iff.2 hs,hc,rfl⟩))
 rw [he,Int.toNat_natCast,show (tableB bs (filterB bs.flatten)).take (allB bs).length=allB bs from by unfold tableB;rw [List.take_left]]
 have:=lp_blocks (r:=some (bs.flatten,bs)) Bytes.nil bs [] [] hok (by simp only [List.length_nil];omega) (by simp only [List.length_nil];omega) (by simp only [List.length_nil];omega) (lp_done _ _)
 rwa [List.append_nil] at this
theorem open_goBW {W:Nat} {l:List Cell} (hs:SrtC l) (hl:l.length≤420) (hw:∀ c ∈ l,(oneB c).length≤W) (hW:W*l.length≤60150) {size:Nat} (h0:0<size) (h1:size≤4294967296):Ev (fun k=>table_Open.f k (tableB (goB size l [] 0) (filterB l))) (some (l,goB size l [] 0,filterB l)):=by
 have hfl:(goB size l [] 0).flatten=l:=by rw [goB_flat,List.nil_append]
 have hg:=goB_length size l [] 0
 have hok:=goB_blkW hs hl hw hW h0
 have hc:cutQ (goB size l [] 0)=true:=(cutQ_iff (fun b hb=>(hok b hb).2.1)).2 ⟨(size:Int),by omega,by omega,goB_fit h0 l⟩
 have:=open_built hok (by omega) (by rw [hfl];exact hs) (by rw [hfl];omega) hc
 rwa [hfl] at this
theorem ord_ext:∀ {r r':List Cell},OrdC r→OrdC r'→(∀ c,c ∈ r↔c ∈ r')→r=r'
 | [],[],_,_,_=>rfl
 | [],b :: r',_,_,h=>by have:=(h b).2 List.mem_cons_self;cases this
 | a :: r,[],_,_,h=>by have:=(h a).1 List.mem_cons_self;cases this
 | a :: r,b :: r',h1,h2,h=>by
  obtain ⟨ha,h1'⟩:=List.pairwise_cons.1 h1
  obtain ⟨hb,h2'⟩:=List.pairwise_cons.1 h2
  have e:a=b:=by
   rcases List.mem_cons.1 ((h a).1 List.mem_cons_self) with e | h3
   ·
    exact e
   ·
    rcases List.mem_cons.1 ((h b).2 List.mem_cons_self) with e | h4
    ·
     exact e.symm
    ·
     have:=ha b h4
     have:=hb a h3
     have:=cc_neg a b
     omega
  subst e
  rw [ord_ext h1' h2' (fun c=>?_)]
  constructor
  ·
   intro hc
   rcases List.mem_cons.1 ((h c).1 (List.mem_cons_of_mem _ hc)) with rfl | h3
   ·
    have:=ha c hc
    have:=cc_self c
    omega
   ·
    exact h3
  ·
   intro hc
   rcases List.mem_cons.1 ((h c).2 (List.mem_cons_of_mem _ hc)) with rfl | h3
   ·
    have:=hb c hc
    have:=cc_self c
    omega
   ·
    exact h3
theorem ord_inj {l:List Cell} (h:OrdC l) {a b:Cell} (ha:a ∈ l) (hb:b ∈ l) (he:cc a b=0):a=b:=by
 obtain ⟨i,hi,rfl⟩:=List.getElem_of_mem ha
 obtain ⟨j,hj,rfl⟩:=List.getElem_of_mem hb
 rcases Nat.lt_trichotomy i j with hlt | rfl | hlt
 ·
  have:=List.pairwise_iff_getElem.1 h i j hi hj hlt
  omega
 ·
  rfl
 ·
  have:=List.pairwise_iff_getElem.1 h j i hj hi hlt
  have:=cc_neg l[j] l[i]
  omega
theorem ord_foldl:∀ (l:List Cell) {o:List Cell},OrdC o→OrdC (l.foldl (fun o c=>ins c o) o)
 | [],_,h=>h
 | c :: l,_,h=>ord_foldl l (ord_ins h)
theorem mem_ins_iff {a c:Cell} {o:List Cell} (h:OrdC o):c ∈ ins a o↔c=a∨(c ∈ o∧cc a c≠0):=by
 constructor
 ·
  intro hc
  by_cases e:c=a
  ·
   exact .inl e
  ·
   rcases mem_ins hc with e' | ho
   ·
    exact absurd e' e
   ·
    exact .inr ⟨ho,fun h0=>e (ord_inj (ord_ins (c:=a) h) (ins_mem a o) hc h0).symm⟩
 ·
  rintro (rfl | ⟨ho,h0⟩)
  ·
   exact ins_mem c o
  ·
   exact mem_ins_of (fun h=>h0 (cc_sym h)) ho
theorem mem_foldl_iff:∀ {l o:List Cell} {c:Cell},OrdC l→OrdC o→(c ∈ l.foldl (fun o c=>ins c o) o↔c ∈ l∨(c ∈ o∧∀ d ∈ l,cc d c≠0))
 | [],_,_,_,_=>by simp
 | a :: l,o,c,h,ho=>by
  obtain ⟨h1,h2⟩:=List.pairwise_cons.1 h
  rw [List.foldl_cons,mem_foldl_iff h2 (ord_ins ho),mem_ins_iff ho]
  constructor
  ·
   rintro (hc | ⟨rfl | ⟨hc,h0⟩,h3⟩)
   ·
    exact .inl (List.mem_cons_of_mem _ hc)
   ·
    exact .inl List.mem_cons_self
   ·
    refine .inr ⟨hc,fun d hd=>?_⟩
    rcases List.mem_cons.1 hd with rfl | hd
    ·
     exact h0
    ·
     exact h3 d hd
  ·
   rintro (hc | ⟨hc,h3⟩)
   ·
    rcases List.mem_cons.1 hc with rfl | hc
    ·
     refine .inr ⟨.inl rfl,fun d hd=>?_⟩
     have:=h1 d hd
     have:=cc_neg c d
     omega
    ·
     exact .inl hc
   ·
    exact .inr ⟨.inr ⟨hc,h3 a List.mem_cons_self⟩,fun d hd=>h3 d (List.mem_cons_of_mem _ hd)⟩
def w8 (c:Cell):Int:=(cellB c.f0 c.f1 c.f2 c.f3 c.f4).length
def sizeM (l:List Cell):Int:=(l.map w8).sum
theorem weigh_eq {c:Cell} (h:rightC c=true):mem_weigh.f c.f0 c.f1 c.f2 c.f3 c.f4=some (w8 c):=by
 obtain ⟨_,h1,_,h2,_,_,h3,_⟩:=rightC_iff.1 h
 unfold mem_weigh.f
 rw [cell_Put_eq c.f2 c.f4 (by omega) (by omega) (by omega)]
 rfl
theorem w8_le {c:Cell} (h:rightC c=true):0≤w8 c∧w8 c≤401:=by
 obtain ⟨_,h1,_,h2,_,_,h3,_⟩:=rightC_iff.1 h
 have:=cellB_length c.f0 c.f1 c.f2 c.f3 c.f4
 unfold w8
 omega
theorem sizeM_append (l m:List Cell):sizeM (l++m)=sizeM l+sizeM m:=by simp [sizeM]
theorem sizeM_cons (c:Cell) (l:List Cell):sizeM (c :: l)=w8 c+sizeM l:=by simp [sizeM]
theorem sizeM_le:∀ {l:List Cell},RightsC l→0≤sizeM l∧sizeM l≤401*l.length
 | [],_=>by simp [sizeM]
 | c :: l,h=>by
  have h1:=w8_le (h c List.mem_cons_self)
  have h2:=sizeM_le (l:=l) (fun x hx=>h x (List.mem_cons_of_mem _ hx))
  rw [sizeM_cons]
  simp only [List.length_cons]
  omega
theorem posC_before (t:Cell):∀ (l:List Cell) (j:Nat),j<posC t l→∀ hl:j<l.length,cc l[j] t = -1
 | [],j,h,_=>by simp [posC] at h
 | x :: l,j,h,hl=>by
  unfold posC at h
  split at h
  ·
   rename_i hx
   cases j with
   | zero=>exact hx
   | succ j=>exact posC_before t l j (by omega) (by simpa using hl)
  ·
   omega
theorem posC_at (t:Cell):∀ (l:List Cell) (h:posC t l<l.length),¬ cc l[posC t l] t = -1
 | [],h=>by simp at h
 | x :: l,h=>by
  by_cases hx:cc x t = -1
  ·
   have e:posC t (x :: l)=posC t l+1:=by simp [posC,hx]
   simp only [e,List.getElem_cons_succ]
   exact posC_at t l (by rw [e] at h;simpa using h)
  ·
   have e:posC t (x :: l)=0:=by simp [posC,hx]
   simp only [e,List.getElem_cons_zero]
   exact hx
theorem ins_pos (c:Cell) (l:List Cell):ins c l=l.take (posC c l)++c :: l.drop (if h:posC c l<l.length then (if cc l[posC c l] c=0 then posC c l+1 else posC c l) else posC c l):=
 ins_split c l (posC c l) (posC_le c l) (posC_before c l) (posC_at c l)
theorem mem_Put_ev {xs:List Cell} {n:Int} (c:Cell) (ho:SrtC xs) (hn:n=sizeM xs) (hl:xs.length≤2199023255500) :
  Ev (fun k=>mem_Mem_Put.f k xs n c.f0 c.f1 c.f2 c.f3 c.f4) (if rightC c=true then (ins c xs,sizeM (ins c xs),true) else (xs,n,false)):=by
 unfold mem_Mem_Put.f
 rw [cell_Right_eq]
 cases hr:rightC c with
 | false=>
  rw [if_neg Bool.false_ne_true]
  unfold rightC at hr
  simp only [hr,Option.bind_some]
  exact Ev.neg Bool.false_ne_true (Ev.now _)
 | true=>
  have hr':=hr
  unfold rightC at hr'
  rw [if_pos rfl]
  simp only [hr',Option.bind_some]
  refine Ev.pos (by first | trivial | rfl) (Ev.bind (find_ev c ho.2 (by omega)) ?_)
  have hp:=ins_pos c xs
  have hpl:=posC_le c xs
  have hs:=sizeM_le ho.1
  have hc:=w8_le hr
  by_cases hlt:posC c xs<xs.length
  ·
   rw [dif_pos hlt] at hp ⊢
   by_cases h0:cc xs[posC c xs] c=0
   ·
    rw [if_pos h0] at hp
    refine Ev.pos (by simpa using h0) (Ev.pos ⟨by omega,by simpa using hlt⟩ ?_)
    have hq:=rdC_at xs _ hlt
    unfold rdC at hq
    have hrx:=ho.1 _ (List.getElem_mem hlt)
    simp only [hq,weigh_eq hrx,weigh_eq hr,Option.bind_some,Int.toNat_natCast]
    have hx:=w8_le hrx
    have e1:sizeM xs=sizeM (xs.take (posC c xs))+(w8 xs[posC c xs]+sizeM (xs.drop (posC c xs+1))):=by
     conv=>lhs;rw [←List.take_append_drop (posC c xs) xs,List.drop_eq_getElem_cons hlt]
     rw [sizeM_append,sizeM_cons]
    have e2:xs.set (posC c xs) c=ins c xs:=by rw [hp,List.set_eq_take_append_cons_drop,if_pos hlt]
    have e3:wrap64 (wrap64 (n - w8 xs[posC c xs])+w8 c)=sizeM (ins c xs):=by
     rw [hp,sizeM_append,sizeM_cons,w64 (x:=n - w8 xs[posC c xs]) (by omega) (by omega),w64 (by omega) (by omega)]
     omega
    have e4:(⟨c.f0,c.f1,c.f2,c.f3,c.f4⟩:Cell)=c:=rfl
    rw [e4,e2,e3]
    exact Ev.now _
   ·
    rw [if_neg h0] at hp
    refine Ev.neg (by simpa using h0) (Ev.pos ⟨by omega,by simpa using hpl,by omega⟩ ?_)
    simp only [weigh_eq hr,Option.bind_some,Int.toNat_natCast]
    have e3:wrap64 (n+w8 c)=sizeM (ins c xs):=by
     have e1:sizeM xs=sizeM (xs.take (posC c xs))+sizeM (xs.drop (posC c xs)):=by rw [←sizeM_append,List.take_append_drop]
     rw [hp,sizeM_append,sizeM_cons,w64 (by omega) (by omega)]
     omega
    have e4:(⟨c.f0,c.f1,c.f2,c.f3,c.f4⟩:Cell)=c:=rfl
    rw [e4,← hp,e3]
    exact Ev.now _
  ·
   rw [dif_neg hlt] at hp ⊢
   refine Ev.neg Bool.false_ne_true (Ev.pos ⟨by omega,by simpa using hpl,by omega⟩ ?_)
   simp only [weigh_eq hr,Option.bind_some,Int.toNat_natCast]
   have e3:wrap64 (n+w8 c)=sizeM (ins c xs):=by
    have e1:sizeM xs=sizeM (xs.take (posC c xs))+sizeM (xs.drop (posC c xs)):=by rw [←sizeM_append,List.take_append_drop]
    rw [hp,sizeM_append,sizeM_cons,w64 (by omega) (by omega)]
    omega
   have e4:(⟨c.f0,c.f1,c.f2,c.f3,c.f4⟩:Cell)=c:=rfl
   rw [e4,← hp,e3]
   exact Ev.now _
abbrev Src:=S84
abbrev zS:Src:=z84
def hd (s:Src):Cell:=rdC s.f0 0
def ltS (a b:Src):Bool:=decide (cc (hd a) (hd b) = -1) || (decide (cc (hd a) (hd b)=0) && decide (a.f1<b.f1))
def LeS (a b:Src):Prop:=ltS b a=false
theorem leS_iff {a b:Src}:LeS a b↔cc (hd a) (hd b) = -1∨(cc (hd a) (hd b)=0∧a.f1≤b.f1):=by
 have h1:=cc_in (hd a) (hd b)
 have h2:=cc_neg (hd a) (hd b)
 unfold LeS ltS
 simp only [Bool.or_eq_false_iff,Bool.and_eq_false_iff,decide_eq_false_iff_not]
 omega
theorem ltS_iff {a b:Src}:ltS a b=true↔cc (hd a) (hd b) = -1∨(cc (hd a) (hd b)=0∧a.f1<b.f1):=by
 unfold ltS
 simp only [Bool.or_eq_true,Bool.and_eq_true,decide_eq_true_iff]
theorem leS_refl (a:Src):LeS a a:=leS_iff.2 (.inr ⟨cc_self _,Int.le_refl _⟩)
theorem leS_of_lt {a b:Src} (h:ltS a b=true):LeS a b:=leS_iff.2 ((ltS_iff.1 h).imp id (fun h=>⟨h.1,Int.le_of_lt h.2⟩))
theorem leS_trans {a b c:Src} (h:LeS a b) (h':LeS b c):LeS a c:=by
 rcases leS_iff.1 h with h1 | ⟨h1,h2⟩<;>rcases leS_iff.1 h' with h3 | ⟨h3,h4⟩
 ·
  exact leS_iff.2 (.inl (cc_trans h1 h3))
 ·
  exact leS_iff.2 (.inl (by rw [←cc_right h3];exact h1))
 ·
  exact leS_iff.2 (.inl (by rw [cc_left h1];exact h3))
 ·
  exact leS_iff.2 (.inr ⟨by rw [cc_left h1];exact h3,by omega⟩)
theorem cmpOr2_ev (a b:Int):Ev (fun k=>cmp_Or_int.f k [a,b]) (if a=0 then b else a):=by
 unfold cmp_Or_int.f
 have hl:(([a,b]:List Int).length:Int)=2:=rfl
 rw [hl]
 by_cases ha:a=0
 ·
  rw [if_pos ha]
  refine Ev.step (f:=fun k=>cmp_Or_int.l0 k 0 [a,b] 2 1) (fun k=>?_) ?_
  ·
   simp only [cmp_Or_int.l0,hl]
   rw [if_pos (by omega),if_pos (by omega),if_pos (by omega),show rd [a,b] 0=a from rfl,if_pos ha,w64 (by omega) (by omega)]
   rfl
  by_cases hb:b=0
  ·
   refine Ev.step (f:=fun k=>cmp_Or_int.l0 k 0 [a,b] 2 2) (fun k=>?_) ?_
   ·
    simp only [cmp_Or_int.l0,hl]
    rw [if_pos (by omega),if_pos (by omega),if_pos (by omega),show rd [a,b] 1=b from rfl,if_pos hb,w64 (by omega) (by omega)]
    rfl
   refine Ev.step (f:=fun _=>some 0) (fun k=>?_) ((Ev.now 0).to hb.symm)
   simp only [cmp_Or_int.l0]
   rw [if_neg (by omega)]
  ·
   refine Ev.step (f:=fun _=>some b) (fun k=>?_) (Ev.now _)
   simp only [cmp_Or_int.l0,hl]
   rw [if_pos (by omega),if_pos (by omega),if_pos (by omega),show rd [a,b] 1=b from rfl,if_neg hb]
 ·
  rw [if_neg ha]
  refine Ev.step (f:=fun _=>some a) (fun k=>?_) (Ev.now _)
  simp only [cmp_Or_int.l0,hl]
  rw [if_pos (by omega),if_pos (by omega),if_pos (by omega),show rd [a,b] 0=a from rfl,if_neg ha]
abbrev gQ (xs:List Src) (i:Nat):Src:=xs.getD i zS
theorem less_ev {xs:List Src} {i j:Nat} (hi:i<xs.length) (hj:j<xs.length) (h0:0<(gQ xs i).f0.length) (h1:0<(gQ xs j).f0.length):Ev (fun k=>merge_queue_Less.f k xs (i:Int) (j:Int)) (ltS (gQ xs i) (gQ xs j)):=by
 have hc:=cc_in (hd (gQ xs i)) (hd (gQ xs j))
 unfold merge_queue_Less.f
 have ei:rd_T84 xs (i:Int)=gQ xs i:=by show xs.getD (i:Int).toNat _=_;rw [Int.toNat_natCast]
 have ej:rd_T84 xs (j:Int)=gQ xs j:=by show xs.getD (j:Int).toNat _=_;rw [Int.toNat_natCast]
 rw [ei,ej]
 refine Ev.pos (by omega) (Ev.pos (by omega) (Ev.pos (by omega) (Ev.pos (by omega) (Ev.pos (by omega) (Ev.pos (by omega) ?_)))))
 refine Ev.bind (cell_Compare_ev _ _ _ _ _ _ _ _ _ _) ?_
 rw [cmpInt_eq]
 refine Ev.congr (fun k=>Option.bind_some _ _) (Ev.bind (cmpOr2_ev _ _) (Ev.eq ?_))
 congr 1
 rw [Bool.eq_iff_iff,decide_eq_true_iff,ltS_iff]
 show (if cc (hd (gQ xs i)) (hd (gQ xs j))=0 then cmpN (gQ xs i).f1 (gQ xs j).f1 else cc (hd (gQ xs i)) (hd (gQ xs j)))<0↔_
 have hn:=cmpN_in (gQ xs i).f1 (gQ xs j).f1
 have hn2:=cmpN_lt (a:=(gQ xs i).f1) (b:=(gQ xs j).f1)
 split<;>omega
theorem swapQ_perm {xs:List Src} {i j:Nat} (hi:i<xs.length) (hj:j<xs.length):(swapQ xs i j).Perm xs:=by
 unfold swapQ
 have e1:xs.getD j zS=xs[j]:=by rw [List.getD_eq_getElem?_getD,List.getElem?_eq_getElem hj];rfl
 have e2:xs.getD i zS=xs[i]:=by rw [List.getD_eq_getElem?_getD,List.getElem?_eq_getElem hi];rfl
 rw [e1,e2]
 exact List.set_set_perm hi hj
theorem set_getD {xs:List Src} {i:Nat} (hi:i<xs.length) (v:Src) (m:Nat):gQ (xs.set i v) m=if m=i then v else gQ xs m:=by
 unfold gQ
 rw [List.getD_eq_getElem?_getD,List.getD_eq_getElem?_getD]
 by_cases h:m=i
 ·
  subst h
  rw [List.getElem?_set_self hi,if_pos rfl]
  rfl
 ·
  rw [List.getElem?_set_ne (fun e=>h e.symm),if_neg h]
theorem swapQ_get {xs:List Src} {i j:Nat} (hi:i<xs.length) (hj:j<xs.length) (m:Nat):gQ (swapQ xs i j) m=if m=j then gQ xs i else if m=i then gQ xs j else gQ xs m:=by
 unfold swapQ
 rw [set_getD (by rw [List.length_set];exact hj),set_getD hi]
def HeapN (n:Nat) (xs:List Src):Prop:=∀ m,0<m→m<n→LeS (gQ xs ((m - 1) / 2)) (gQ xs m)
theorem heap_min {n:Nat} {xs:List Src} (h:HeapN n xs):∀ m,m<n→LeS (gQ xs 0) (gQ xs m):=by
 intro m
 induction m using Nat.strongRecOn with
 | _ m ih=>
  intro hm
  by_cases h0:m=0
  ·
   subst h0
   exact leS_refl _
  ·
   exact leS_trans (ih ((m - 1) / 2) (by omega) (by omega)) (h m (by omega) hm)
def DownP (n i:Nat) (xs:List Src):Prop:=(∀ m,0<m→m<n→(m - 1) / 2≠i→LeS (gQ xs ((m - 1) / 2)) (gQ xs m))∧(0<i→∀ m,0<m→m<n→(m - 1) / 2=i→LeS (gQ xs ((i - 1) / 2)) (gQ xs m))
def Ev2 {α:Type} (f:Nat→Nat→Option α) (r:α):Prop:=∃ k0,∀ k m,k0≤k→k0≤m→f k m=some r
theorem down_ok (n:Nat) (d:Nat):∀ (xs:List Src) (i:Nat),n - i≤d→DownP n i xs→n≤xs.length→(∀ m,m<n→0<(gQ xs m).f0.length)→∃ r q,Ev2 (fun k m=>downF k n m xs i) (r,q)∧r.Perm xs∧HeapN n r∧∀ m,n≤m→gQ r m=gQ xs m:=by
 induction d with
 | zero=>
  intro xs i hd hP hn hne
  refine ⟨xs,i,⟨1,fun k m _ hm=>?_⟩,List.Perm.refl _,fun m h0 hm=>hP.1 m h0 hm (by omega),fun _ _=>rfl⟩
  obtain ⟨m,rfl⟩:∃ m',m=m'+1:=⟨m - 1,by omega⟩
  show downF k n (m+1) _ _=_
  rw [downF,if_pos (by omega)]
 | succ d ih=>
  intro xs i hd hP hn hne
  by_cases hj1:n≤2*i+1
  ·
   refine ⟨xs,i,⟨1,fun k m _ hm=>?_⟩,List.Perm.refl _,fun m h0 hm=>hP.1 m h0 hm (by omega),fun _ _=>rfl⟩
   obtain ⟨m,rfl⟩:∃ m',m=m'+1:=⟨m - 1,by omega⟩
   show downF k n (m+1) _ _=_
   rw [downF,if_pos hj1]
  ·
   have hb:∃ b:Bool,Ev (fun k=>if 2*i+2<n then merge_queue_Less.f k xs ((2*i+2:Nat):Int) ((2*i+1:Nat):Int) else some false) b∧∀ m,0<m→m<n→(m - 1) / 2=i→LeS (gQ xs (if b=true then 2*i+2 else 2*i+1)) (gQ xs m)∧(if b=true then 2*i+2 else 2*i+1)<n:=by
    by_cases h2:2*i+2<n
    ·
     refine ⟨_,Ev.pos h2 (less_ev (by omega) (by omega) (hne _ h2) (hne _ (by omega))),fun m h0 hm hp=>?_⟩
     have hm2:m=2*i+1∨m=2*i+2:=by omega
     cases hb:ltS (gQ xs (2*i+2)) (gQ xs (2*i+1)) with
     | true=>
      rw [if_pos rfl]
      rcases hm2 with rfl | rfl
      ·
       exact ⟨leS_of_lt hb,by omega⟩
      ·
       exact ⟨leS_refl _,by omega⟩
     | false=>
      rw [if_neg Bool.false_ne_true]
      rcases hm2 with rfl | rfl
      ·
       exact ⟨leS_refl _,by omega⟩
      ·
       exact ⟨hb,by omega⟩
    ·
     refine ⟨false,Ev.neg h2 (Ev.now _),fun m h0 hm hp=>?_⟩
     obtain rfl:m=2*i+1:=by omega
     exact ⟨leS_refl _,by simp;omega⟩
   obtain ⟨b,hbe,hbl⟩:=hb
   obtain ⟨j,hj⟩:∃ j,(if b=true then 2*i+2 else 2*i+1)=j:=⟨_,rfl⟩
   have hj3:j=2*i+1∨j=2*i+2:=by rw [←hj];cases b<;>simp
   have hjn:j<n:=by rw [←hj];exact (hbl (2*i+1) (by omega) (by omega) (by omega)).2
   have hjl:∀ m,0<m→m<n→(m - 1) / 2=i→LeS (gQ xs j) (gQ xs m):=fun m h0 hm hp=>by rw [←hj];exact (hbl m h0 hm hp).1
   have hce:=less_ev (xs:=xs) (i:=j) (j:=i) (by omega) (by omega) (hne _ hjn) (hne _ (by omega))
   obtain ⟨k1,hk1⟩:=hbe
   obtain ⟨k2,hk2⟩:=hce
   cases hc:ltS (gQ xs j) (gQ xs i) with
   | false=>
    refine ⟨xs,i,⟨k1+k2+1,fun k m hk hm=>?_⟩,List.Perm.refl _,fun m h0 hm=>?_,fun _ _=>rfl⟩
    ·
     obtain ⟨m,rfl⟩:∃ m',m=m'+1:=⟨m - 1,by omega⟩
     have e1:=hk1 k (by omega)
     have e2:=hk2 k (by omega)
     simp only at e1 e2
     show downF k n (m+1) _ _=_
     rw [downF,if_neg hj1,e1,Option.bind_some,hj,e2,Option.bind_some,hc,if_neg Bool.false_ne_true]
    ·
     by_cases hp:(m - 1) / 2=i
     ·
      rw [hp]
      exact leS_trans hc (hjl m h0 hm hp)
     ·
      exact hP.1 m h0 hm hp
   | true=>
    have hil:i<xs.length:=by omega
    have hjx:j<xs.length:=by omega
    have hg:=swapQ_get hil hjx
    have hP':DownP n j (swapQ xs i j):=by
     refine ⟨fun m h0 hm hp=>?_,fun _ m h0 hm hp=>?_⟩
     ·
      rw [hg,hg]
      by_cases hmj:m=j
      ·
       subst hmj
       rw [if_pos rfl,if_neg hp,if_pos (by omega)]
       exact leS_of_lt hc
      ·
       rw [if_neg hp,if_neg hmj]
       by_cases hpi:(m - 1) / 2=i
       ·
        rw [if_pos hpi,if_neg (by omega)]
        exact hjl m h0 hm hpi
       ·
        rw [if_neg hpi]
        by_cases hmi:m=i
        ·
         subst hmi
         rw [if_pos rfl]
         exact hP.2 h0 j (by omega) hjn (by omega)
        ·
         rw [if_neg hmi]
         exact hP.1 m h0 hm hpi
     ·
      rw [show (j - 1) / 2=i by omega,hg,hg,if_neg (by omega),if_pos rfl,if_neg (by omega),if_neg (by omega)]
      have:=hP.1 m h0 hm (by omega)
      rw [hp] at this
      exact this
    obtain ⟨r,q,⟨k3,hk3⟩,hpm,hh,hf⟩:=ih (swapQ xs i j) j (by omega) hP' (by rw [swapQ_len];exact hn) (fun m hm=>by
     rw [hg]
     split
     ·
      exact hne _ (by omega)
     ·
      split
      ·
       exact hne _ hjn
      ·
       exact hne _ hm)
    refine ⟨r,q,⟨k1+k2+k3+1,fun k m hk hm=>?_⟩,hpm.trans (swapQ_perm hil hjx),hh,fun m hm=>?_⟩
    ·
     obtain ⟨m,rfl⟩:∃ m',m=m'+1:=⟨m - 1,by omega⟩
     have e1:=hk1 k (by omega)
     have e2:=hk2 k (by omega)
     simp only at e1 e2
     show downF k n (m+1) _ _=_
     rw [downF,if_neg hj1,e1,Option.bind_some,hj,e2,Option.bind_some,hc,if_pos rfl]
     exact hk3 k m (by omega) (by omega)
    ·
     rw [hf m hm,hg,if_neg (by omega),if_neg (by omega)]
def UpP (j:Nat) (xs:List Src):Prop:=(∀ m,0<m→m<xs.length→m≠j→LeS (gQ xs ((m - 1) / 2)) (gQ xs m))∧(0<j→∀ m,0<m→m<xs.length→(m - 1) / 2=j→LeS (gQ xs ((j - 1) / 2)) (gQ xs m))
theorem up_ok:∀ (j:Nat) (xs:List Src),j<xs.length→UpP j xs→(∀ m,m<xs.length→0<(gQ xs m).f0.length)→∃ r,Ev2 (fun k m=>upF k m xs j) r∧r.Perm xs∧HeapN r.length r:=by
 intro j
 induction j using Nat.strongRecOn with
 | _ j ih=>
  intro xs hjl hP hne
  by_cases h0:j=0
  ·
   subst h0
   refine ⟨xs,⟨1,fun k m _ hm=>?_⟩,List.Perm.refl _,fun m h0 hm=>hP.1 m h0 hm (by omega)⟩
   obtain ⟨m,rfl⟩:∃ m',m=m'+1:=⟨m - 1,by omega⟩
   show upF k (m+1) _ _=_
   rw [upF,if_pos rfl]
  ·
   obtain ⟨i,hi⟩:∃ i,(j - 1) / 2=i:=⟨_,rfl⟩
   have hil:i<xs.length:=by omega
   obtain ⟨k1,hk1⟩:=less_ev (xs:=xs) (i:=j) (j:=i) hjl hil (hne _ hjl) (hne _ hil)
   cases hc:ltS (gQ xs j) (gQ xs i) with
   | false=>
    refine ⟨xs,⟨k1+1,fun k m hk hm=>?_⟩,List.Perm.refl _,fun m h0 hm=>?_⟩
    ·
     obtain ⟨m,rfl⟩:∃ m',m=m'+1:=⟨m - 1,by omega⟩
     have e1:=hk1 k (by omega)
     simp only at e1
     show upF k (m+1) _ _=_
     rw [upF,if_neg h0,hi,e1,Option.bind_some,hc,if_neg Bool.false_ne_true]
    ·
     by_cases hm2:m=j
     ·
      subst hm2
      rw [hi]
      exact hc
     ·
      exact hP.1 m h0 hm hm2
   | true=>
    have hg:=swapQ_get hil hjl
    have hP':UpP i (swapQ xs i j):=by
     refine ⟨fun m h0 hm hp=>?_,fun h0i m h0 hm hp=>?_⟩
     ·
      rw [swapQ_len] at hm
      rw [hg,hg]
      by_cases hmj:m=j
      ·
       subst hmj
       rw [if_pos rfl,hi,if_neg (by omega),if_pos rfl]
       exact leS_of_lt hc
      ·
       rw [if_neg hmj,if_neg hp]
       by_cases hpj:(m - 1) / 2=j
       ·
        rw [if_pos hpj]
        have:=hP.2 (by omega) m h0 hm hpj
        rw [hi] at this
        exact this
       ·
        rw [if_neg hpj]
        by_cases hpi:(m - 1) / 2=i
        ·
         rw [if_pos hpi]
         have:=hP.1 m h0 hm hmj
         rw [hpi] at this
         exact leS_trans (leS_of_lt hc) this
        ·
         rw [if_neg hpi]
         exact hP.1 m h0 hm hmj
     ·
      rw [swapQ_len] at hm
      have h1:=hP.1 i h0i hil (by omega)
      rw [hg,hg,if_neg (by omega),if_neg (by omega)]
      by_cases hmj:m=j
      ·
       rw [if_pos hmj]
       exact h1
      ·
       rw [if_neg hmj,if_neg (by omega)]
       have:=hP.1 m h0 hm hmj
       rw [hp] at this
       exact leS_trans h1 this
    obtain ⟨r,⟨k3,hk3⟩,hpm,hh⟩:=ih i (by omega) (swapQ xs i j) (by rw [swapQ_len];exact hil) hP' (fun m hm=>by
     rw [swapQ_len] at hm
     rw [hg]
     split
     ·
      exact hne _ hil
     ·
      split
      ·
       exact hne _ hjl
      ·
       exact hne _ hm)
    refine ⟨r,⟨k1+k3+1,fun k m hk hm=>?_⟩,hpm.trans (swapQ_perm hil hjl),hh⟩
    obtain ⟨m,rfl⟩:∃ m',m=m'+1:=⟨m - 1,by omega⟩
    have e1:=hk1 k (by omega)
    simp only at e1
    show upF k (m+1) _ _=_
    rw [upF,if_neg h0,hi,e1,Option.bind_some,hc,if_pos rfl]
    exact hk3 k m (by omega) (by omega)
abbrev nthC (L:List (List Cell)) (i:Nat):List Cell:=L.getD i []
def WinC (L:List (List Cell)) (c:Cell):Prop:=∃ i,i<L.length∧c ∈ nthC L i∧∀ j,j<i→∀ d ∈ nthC L j,cc d c≠0
structure MergedC (L:List (List Cell)) (r:List Cell):Prop where
 ord:OrdC r
 win:∀ c ∈ r,WinC L c
 all:∀ i,i<L.length→∀ c ∈ nthC L i,∃ d ∈ r,cc d c=0
def OrdsC (L:List (List Cell)):Prop:=∀ i,OrdC (nthC L i)
theorem merged_mem {L:List (List Cell)} {r:List Cell} (hL:OrdsC L) (h:MergedC L r) (c:Cell):c ∈ r↔WinC L c:=by
 refine ⟨h.win c,fun hc=>?_⟩
 obtain ⟨i,hi,hm,hf⟩:=hc
 obtain ⟨d,hd,he⟩:=h.all i hi c hm
 obtain ⟨j,hj,hdm,hdf⟩:=h.win d hd
 have hij:i=j:=by
  rcases Nat.lt_trichotomy i j with hlt | e | hlt
  ·
   exact absurd (cc_sym he) (hdf i hlt c hm)
  ·
   exact e
  ·
   exact absurd he (hf j hlt d hdm)
 subst hij
 rw [←ord_inj (hL i) hdm hm he]
 exact hd
theorem merged_uniq {L:List (List Cell)} {r r':List Cell} (hL:OrdsC L) (h:MergedC L r) (h':MergedC L r'):r=r':=
 ord_ext h.ord h'.ord (fun c=>(merged_mem hL h c).trans (merged_mem hL h' c).symm)
structure MInv (L:List (List Cell)) (q:List Src) (out:List Cell):Prop where
 heap:HeapN q.length q
 ne:∀ s ∈ q,0<s.f0.length
 nod:(q.map (fun s:Src=>s.f1)).Nodup
 suf:∀ s ∈ q,∃ i:Nat,s.f1=(i:Int)∧i<L.length∧∃ used,nthC L i=used++s.f0∧∀ c ∈ used,∃ d ∈ out,cc d c=0
 done:∀ i,i<L.length→(∀ s ∈ q,s.f1≠(i:Int))→∀ c ∈ nthC L i,∃ d ∈ out,cc d c=0
 ord:OrdC out
 win:∀ c ∈ out,WinC L c
 low:∀ d ∈ out,∀ s ∈ q,∀ c ∈ s.f0,cc d c = -1∨cc d c=0
def totQ (q:List Src):Nat:=(q.map (fun s:Src=>s.f0.length)).sum
theorem totQ_cons (s:Src) (q:List Src):totQ (s :: q)=s.f0.length+totQ q:=by simp [totQ]
theorem totQ_perm {q q':List Src} (h:q.Perm q'):totQ q=totQ q':=by
 unfold totQ
 exact List.Perm.sum_nat (h.map _)
theorem len_totQ:∀ {q:List Src},(∀ s ∈ q,0<s.f0.length)→q.length≤totQ q
 | [],_=>Nat.zero_le _
 | s :: q,h=>by
  have:=len_totQ (q:=q) (fun s hs=>h s (List.mem_cons_of_mem _ hs))
  have:=h s List.mem_cons_self
  rw [totQ_cons,List.length_cons]
  omega
theorem hd_cons {s:Src} (h:0<s.f0.length):s.f0=hd s :: s.f0.drop 1:=by
 obtain ⟨l,n⟩:=s
 cases l with
 | nil=>cases h
 | cons c l=>rfl
theorem gQ_mem {q:List Src} {m:Nat} (h:m<q.length):gQ q m ∈ q:=by
 unfold gQ
 rw [List.getD_eq_getElem?_getD,List.getElem?_eq_getElem h]
 exact List.getElem_mem h
theorem mem_gQ {q:List Src} {s:Src} (h:s ∈ q):∃ m,m<q.length∧gQ q m=s:=by
 obtain ⟨m,hm,rfl⟩:=List.getElem_of_mem h
 refine ⟨m,hm,?_⟩
 unfold gQ
 rw [List.getD_eq_getElem?_getD,List.getElem?_eq_getElem hm]
 rfl
theorem last_rd {out:List Cell} (h:0<out.length):rdC out ((out.length:Int) - 1)=out[out.length - 1]:=by
 rw [show ((out.length:Int) - 1)=((out.length - 1:Nat):Int) by omega]
 exact rdC_at out _ (by omega)
theorem take_ev {out:List Cell} (c:Cell):Ev (fun k=>allTake k out c) (if h:0<out.length then !(cc out[out.length - 1] c == 0) else true):=by
 unfold allTake
 by_cases h:out.length=0
 ·
  rw [dif_neg (by omega)]
  exact Ev.pos h (Ev.now _)
 ·
  rw [dif_pos (by omega)]
  have e:=last_rd (out:=out) (by omega)
  unfold rdC at e
  rw [e]
  exact Ev.neg h (Ev.bind (cell_CC_ev _ _) (Ev.now _))
def restQ (s:Src) (q:List Src):List Src:=if s.f0.length=1 then q else (⟨s.f0.drop 1,s.f1⟩:Src) :: q
theorem next_ok {s:Src} {q:List Src} (hh:HeapN (q.length+1) (s :: q)) (hs:0<s.f0.length) (hne:∀ x ∈ q,0<x.f0.length):∃ q',Ev (fun k=>allNext k s q) q'∧q'.Perm (restQ s q)∧HeapN q'.length q':=by
 have hsame:∀ (x:Src) m,0<m→gQ (x :: q) m=gQ (s :: q) m:=by
  intro x m hm
  obtain ⟨m,rfl⟩:∃ m',m=m'+1:=⟨m - 1,by omega⟩
  rfl
 unfold allNext restQ
 by_cases h1:s.f0.length=1
 ·
  rw [if_pos h1]
  have hg:=swapQ_get (xs:=(⟨s.f0.drop 1,s.f1⟩:Src) :: q) (i:=0) (j:=q.length) (by simp) (by simp)
  obtain ⟨r,p,⟨k0,hk⟩,hpm,hr,hf⟩:=down_ok q.length q.length (swapQ ((⟨s.f0.drop 1,s.f1⟩:Src) :: q) 0 q.length) 0 (by omega) ⟨fun m h0 hm hp=>by
    rw [hg,hg,if_neg (by omega),if_neg hp,if_neg (by omega),if_neg (by omega),hsame _ _ (by omega),hsame _ _ h0]
    exact hh m h0 (by omega),fun h=>absurd h (by omega)⟩ (by rw [swapQ_len];simp) (fun m hm=>by
    rw [hg,if_neg (by omega)]
    split
    ·
     rename_i h0
     rw [hsame _ _ (by omega)]
     have:gQ (s :: q) q.length ∈ s :: q:=gQ_mem (by simp)
     have h2:gQ (s :: q) q.length=gQ q (q.length - 1):=by
      obtain ⟨n,hn⟩:∃ n,q.length=n+1:=⟨q.length - 1,by omega⟩
      rw [hn]
      rfl
     rw [h2]
     exact hne _ (gQ_mem (by omega))
    ·
     rename_i h0
     obtain ⟨m,rfl⟩:∃ m',m=m'+1:=⟨m - 1,by omega⟩
     exact hne _ (gQ_mem (by omega)))
  have hrl:r.length=q.length+1:=by rw [hpm.length_eq,swapQ_len];rfl
  have hlast:gQ r q.length=(⟨s.f0.drop 1,s.f1⟩:Src):=by
   rw [hf _ (Nat.le_refl _),hg,if_pos rfl]
   rfl
  have hsplit:r=r.take q.length++[(⟨s.f0.drop 1,s.f1⟩:Src)]:=by
   have e:=List.take_append_drop q.length r
   have e2:r.drop q.length=[(⟨s.f0.drop 1,s.f1⟩:Src)]:=by
    rw [List.drop_eq_getElem_cons (by omega),List.drop_eq_nil_of_le (by omega)]
    congr 1
    rw [←hlast]
    unfold gQ
    rw [List.getD_eq_getElem?_getD,List.getElem?_eq_getElem (by omega)]
    rfl
   rw [e2] at e
   exact e.symm
  have hp2:(r.take q.length).Perm q:=by
   have h3:((⟨s.f0.drop 1,s.f1⟩:Src) :: r.take q.length).Perm ((⟨s.f0.drop 1,s.f1⟩:Src) :: q):=by
    refine (List.perm_append_comm (l₁:=[(⟨s.f0.drop 1,s.f1⟩:Src)]) (l₂:=r.take q.length)).trans ?_
    rw [←hsplit]
    exact hpm.trans (swapQ_perm (by simp) (by simp))
   exact (List.perm_cons _).1 h3
  refine ⟨r.take q.length,⟨k0,fun k hk2=>?_⟩,hp2,fun m h0 hm=>?_⟩
  ·
   have e:=hk k k hk2 hk2
   simp only at e
   show (if s.f0.length=1 then _ else _)=_
   rw [if_pos h1,e]
   rfl
  ·
   have hml:m<q.length:=by rw [List.length_take] at hm;omega
   have hgt:∀ m,m<q.length→gQ (r.take q.length) m=gQ r m:=by
    intro m hm
    unfold gQ
    rw [List.getD_eq_getElem?_getD,List.getD_eq_getElem?_getD,List.getElem?_take,if_pos hm]
   rw [hgt _ (by omega),hgt _ hml]
   exact hr m h0 hml
 ·
  rw [if_neg h1]
  obtain ⟨r,p,⟨k0,hk⟩,hpm,hr,_⟩:=down_ok (q.length+1) (q.length+1) ((⟨s.f0.drop 1,s.f1⟩:Src) :: q) 0 (by omega) ⟨fun m h0 hm hp=>by
    rw [hsame _ _ (by omega),hsame _ _ h0]
    exact hh m h0 hm,fun h=>absurd h (by omega)⟩ (by simp) (fun m hm=>by
    by_cases h0:m=0
    ·
     subst h0
     show 0<(s.f0.drop 1).length
     rw [List.length_drop]
     omega
    ·
     obtain ⟨m,rfl⟩:∃ m',m=m'+1:=⟨m - 1,by omega⟩
     exact hne _ (gQ_mem (by omega)))
  refine ⟨r,⟨k0,fun k hk2=>?_⟩,hpm,?_⟩
  ·
   have e:=hk k k hk2 hk2
   simp only at e
   show (if s.f0.length=1 then _ else _)=_
   rw [if_neg h1,e]
   rfl
  ·
   rw [hpm.length_eq]
   exact hr
theorem hd_le {L:List (List Cell)} {q:List Src} {out:List Cell} (hL:OrdsC L) (h:MInv L q out) {s:Src} (hs:s ∈ q) {c:Cell} (hc:c ∈ s.f0):cc (hd s) c = -1∨cc (hd s) c=0:=by
 obtain ⟨i,_,hi,used,hu,_⟩:=h.suf s hs
 have ho:=hL i
 rw [hu,hd_cons (h.ne s hs)] at ho
 obtain ⟨_,ho,_⟩:=List.pairwise_append.1 ho
 rw [hd_cons (h.ne s hs)] at hc
 rcases List.mem_cons.1 hc with rfl | hc
 ·
  exact .inr (cc_self _)
 ·
  exact .inl ((List.pairwise_cons.1 ho).1 c hc)
theorem tail_gt {L:List (List Cell)} {q:List Src} {out:List Cell} (hL:OrdsC L) (h:MInv L q out) {s:Src} (hs:s ∈ q) {c:Cell} (hc:c ∈ s.f0.drop 1):cc (hd s) c = -1:=by
 obtain ⟨i,_,hi,used,hu,_⟩:=h.suf s hs
 have ho:=hL i
 rw [hu,hd_cons (h.ne s hs)] at ho
 obtain ⟨_,ho,_⟩:=List.pairwise_append.1 ho
 exact (List.pairwise_cons.1 ho).1 c hc
theorem restQ_mem {s x:Src} {q:List Src} (h:x ∈ restQ s q):x ∈ q∨(x=(⟨s.f0.drop 1,s.f1⟩:Src)∧s.f0.length≠1):=by
 unfold restQ at h
 split at h
 ·
  exact .inl h
 ·
  rename_i h1
  rcases List.mem_cons.1 h with rfl | h
  ·
   exact .inr ⟨rfl,h1⟩
  ·
   exact .inl h
theorem inv_step {L:List (List Cell)} {s:Src} {q q':List Src} {out:List Cell} (hL:OrdsC L) (h:MInv L (s :: q) out) (hp:q'.Perm (restQ s q)) (hh:HeapN q'.length q') {b:Bool} (hb:b=if h:0<out.length then !(cc out[out.length - 1] (hd s) == 0) else true):MInv L q' (if b=true then out++[hd s] else out):=by
 have hs:=h.ne s List.mem_cons_self
 have hlow:∀ d ∈ out,cc d (hd s) = -1∨cc d (hd s)=0:=fun d hd_=>h.low d hd_ s List.mem_cons_self (hd s) (by rw [hd_cons hs];exact List.mem_cons_self)
 have hmin:∀ x ∈ s :: q,LeS s x:=by
  intro x hx
  obtain ⟨m,hm,rfl⟩:=mem_gQ hx
  exact heap_min h.heap m hm
 -- what is put out is above all that is out
 have habove:b=true→∀ d ∈ out,cc d (hd s) = -1:=by
  intro hbt d hd_
  have h0:0<out.length:=List.length_pos_of_mem hd_
  rw [hb,dif_pos h0] at hbt
  have hne:cc out[out.length - 1] (hd s)≠0:=by simpa using hbt
  have hlast:cc out[out.length - 1] (hd s) = -1:=(hlow _ (List.getElem_mem _)).resolve_right hne
  obtain ⟨i,hi,rfl⟩:=List.getElem_of_mem hd_
  by_cases hl:i=out.length - 1
  ·
   subst hl
   exact hlast
  ·
   exact cc_trans (List.pairwise_iff_getElem.1 h.ord i (out.length - 1) hi (by omega) (by omega)) hlast
 have hcov:∃ d ∈ (if b=true then out++[hd s] else out),cc d (hd s)=0:=by
  cases b with
  | true=>exact ⟨hd s,by simp,cc_self _⟩
  | false=>
   by_cases h0:0<out.length
   ·
    rw [dif_pos h0] at hb
    exact ⟨out[out.length - 1],by simp,by simpa using hb.symm⟩
   ·
    rw [dif_neg h0] at hb
    cases hb
 have hsub:∀ d ∈ out,d ∈ (if b=true then out++[hd s] else out):=by
  intro d hd_
  split
  ·
   exact List.mem_append_left _ hd_
  ·
   exact hd_
 have hnod:=h.nod
 rw [List.map_cons,List.nodup_cons] at hnod
 refine ⟨hh,fun x hx=>?_,?_,fun x hx=>?_,fun i hi hno c hc=>?_,?_,?_,?_⟩
 ·
  rcases restQ_mem (hp.subset hx) with hx | ⟨rfl,h1⟩
  ·
   exact h.ne x (List.mem_cons_of_mem _ hx)
  ·
   show 0<(s.f0.drop 1).length
   rw [List.length_drop]
   omega
 ·
  rw [(hp.map _).nodup_iff]
  unfold restQ
  split
  ·
   exact hnod.2
  ·
   rw [List.map_cons,List.nodup_cons]
   exact hnod
 ·
  rcases restQ_mem (hp.subset hx) with hx | ⟨rfl,h1⟩
  ·
   obtain ⟨i,e1,e2,used,e3,e4⟩:=h.suf x (List.mem_cons_of_mem _ hx)
   exact ⟨i,e1,e2,used,e3,fun c hc=>(e4 c hc).elim (fun d hd_=>⟨d,hsub d hd_.1,hd_.2⟩)⟩
  ·
   obtain ⟨i,e1,e2,used,e3,e4⟩:=h.suf s List.mem_cons_self
   refine ⟨i,e1,e2,used++[hd s],?_,fun c hc=>?_⟩
   ·
    rw [e3]
    conv=>lhs;rw [hd_cons hs]
    simp
   ·
    rcases List.mem_append.1 hc with hc | hc
    ·
     exact (e4 c hc).elim (fun d hd_=>⟨d,hsub d hd_.1,hd_.2⟩)
    ·
     rw [List.mem_singleton.1 hc]
     exact hcov
 ·
  by_cases his:s.f1=(i:Int)
  ·
   have h1:s.f0.length=1:=by
    refine Classical.byContradiction fun h1=>?_
    refine hno (⟨s.f0.drop 1,s.f1⟩:Src) (hp.symm.subset ?_) his
    unfold restQ
    rw [if_neg h1]
    exact List.mem_cons_self
   obtain ⟨i',e1,e2,used,e3,e4⟩:=h.suf s List.mem_cons_self
   have:i'=i:=by omega
   subst this
   rw [e3] at hc
   rcases List.mem_append.1 hc with hc | hc
   ·
    exact (e4 c hc).elim (fun d hd_=>⟨d,hsub d hd_.1,hd_.2⟩)
   ·
    rw [hd_cons hs,List.drop_eq_nil_of_le (by omega)] at hc
    rw [List.mem_singleton.1 hc]
    exact hcov
  ·
   refine (h.done i hi (fun x hx=>?_) c hc).elim (fun d hd_=>⟨d,hsub d hd_.1,hd_.2⟩)
   rcases List.mem_cons.1 hx with rfl | hx
   ·
    exact his
   ·
    refine hno x (hp.symm.subset ?_)
    unfold restQ
    split
    ·
     exact hx
    ·
     exact List.mem_cons_of_mem _ hx
 ·
  split
  ·
   rename_i hbt
   exact List.pairwise_append.2 ⟨h.ord,List.pairwise_singleton _ _,fun d hd_ c hc=>by rw [List.mem_singleton.1 hc];exact habove hbt d hd_⟩
  ·
   exact h.ord
 ·
  intro c hc
  split at hc
  ·
   rename_i hbt
   rcases List.mem_append.1 hc with hc | hc
   ·
    exact h.win c hc
   ·
    rw [List.mem_singleton.1 hc]
    obtain ⟨i,e1,e2,used,e3,e4⟩:=h.suf s List.mem_cons_self
    refine ⟨i,e2,?_,fun j hj d hdj hde=>?_⟩
    ·
     rw [e3,hd_cons hs]
     simp
    ·
     have hcontra:∀ e ∈ out,cc e d=0→False:=by
      intro e he h0
      have h1:=habove hbt e he
      have h2:=cc_left h0 (hd s)
      omega
     by_cases hsrc:∃ x ∈ s :: q,x.f1=(j:Int)
     ·
      obtain ⟨x,hx,hxj⟩:=hsrc
      obtain ⟨j',f1,f2,used',f3,f4⟩:=h.suf x hx
      have:j'=j:=by omega
      subst this
      rw [f3] at hdj
      rcases List.mem_append.1 hdj with hdj | hdj
      ·
       obtain ⟨e,he,h0⟩:=f4 d hdj
       exact hcontra e he h0
      ·
       have h1:=hd_le hL h hx hdj
       rcases leS_iff.1 (hmin x hx) with h2 | ⟨h2,h3⟩
       ·
        have:cc (hd s) d = -1:=by
         rcases h1 with h1 | h1
         ·
          exact cc_trans h2 h1
         ·
          rw [←cc_right h1]
          exact h2
        have:=cc_neg (hd s) d
        omega
       ·
        omega
     ·
      obtain ⟨e,he,h0⟩:=h.done j (by omega) (fun x hx he=>hsrc ⟨x,hx,he⟩) d hdj
      exact hcontra e he h0
  ·
   exact h.win c hc
 ·
  intro d hd_ x hx c hc
  have hxo:x ∈ q∨(x=(⟨s.f0.drop 1,s.f1⟩:Src)∧s.f0.length≠1):=restQ_mem (hp.subset hx)
  have hold:d ∈ out→cc d c = -1∨cc d c=0:=by
   intro hdo
   rcases hxo with hx | ⟨rfl,_⟩
   ·
    exact h.low d hdo x (List.mem_cons_of_mem _ hx) c hc
   ·
    exact h.low d hdo s List.mem_cons_self c (List.mem_of_mem_drop hc)
  split at hd_
  ·
   rcases List.mem_append.1 hd_ with hd_ | hd_
   ·
    exact hold hd_
   ·
    rw [List.mem_singleton.1 hd_]
    rcases hxo with hx | ⟨rfl,_⟩
    ·
     have hx':x ∈ s :: q:=List.mem_cons_of_mem _ hx
     have h1:=hd_le hL h hx' hc
     rcases leS_iff.1 (hmin x hx') with h2 | ⟨h2,_⟩<;>rcases h1 with h1 | h1
     ·
      exact .inl (cc_trans h2 h1)
     ·
      exact .inl (by rw [←cc_right h1];exact h2)
     ·
      exact .inl (by rw [cc_left h2];exact h1)
     ·
      exact .inr (by rw [cc_left h2];exact h1)
    ·
     exact .inl (tail_gt hL h List.mem_cons_self hc)
  ·
   exact hold hd_
theorem all2_ok {L:List (List Cell)} (hL:OrdsC L) (N:Nat):∀ (q:List Src) (out:List Cell),totQ q≤N→N+out.length≤1000000→MInv L q out→∃ r,Ev2 (fun k m=>all2 k m q out) r∧MergedC L r:=by
 induction N with
 | zero=>
  intro q out hN ho h
  have hl:=len_totQ h.ne
  obtain rfl:q=[]:=List.length_eq_zero_iff.1 (by omega)
  refine ⟨out,⟨1,fun k m _ hm=>?_⟩,h.ord,h.win,fun i hi=>h.done i hi (fun s hs=>by cases hs)⟩
  obtain ⟨m,rfl⟩:∃ m',m=m'+1:=⟨m - 1,by omega⟩
  rfl
 | succ N ih=>
  intro q out hN ho h
  cases q with
  | nil=>
   refine ⟨out,⟨1,fun k m _ hm=>?_⟩,h.ord,h.win,fun i hi=>h.done i hi (fun s hs=>by cases hs)⟩
   obtain ⟨m,rfl⟩:∃ m',m=m'+1:=⟨m - 1,by omega⟩
   rfl
  | cons s q=>
   have hs:=h.ne s List.mem_cons_self
   have hl:=len_totQ h.ne
   rw [List.length_cons] at hl
   obtain ⟨q',⟨k1,hk1⟩,hp,hh⟩:=next_ok h.heap hs (fun x hx=>h.ne x (List.mem_cons_of_mem _ hx))
   obtain ⟨k2,hk2⟩:=take_ev (out:=out) (hd s)
   obtain ⟨b,hb⟩:∃ b,b=if h:0<out.length then !(cc out[out.length - 1] (hd s) == 0) else true:=⟨_,rfl⟩
   rw [←hb] at hk2
   have hinv:=inv_step hL h hp hh hb
   have ht:totQ q'+1=totQ (s :: q):=by
    rw [totQ_perm hp,totQ_cons]
    unfold restQ
    split
    ·
     omega
    ·
     rw [totQ_cons]
     show (s.f0.drop 1).length+_+1=_
     rw [List.length_drop]
     omega
   have hlen:N+(if b=true then out++[hd s] else out).length≤1000000:=by
    split
    ·
     rw [List.length_append,List.length_singleton]
     omega
    ·
     omega
   obtain ⟨r,⟨k3,hk3⟩,hr⟩:=ih q' (if b=true then out++[hd s] else out) (by omega) hlen hinv
   refine ⟨r,⟨k1+k2+k3+1,fun k m hk hm=>?_⟩,hr⟩
   obtain ⟨m,rfl⟩:∃ m',m=m'+1:=⟨m - 1,by omega⟩
   have e1:=hk1 k (by omega)
   have e2:=hk2 k (by omega)
   have e3:=hk3 k m (by omega) (by omega)
   simp only at e1 e2 e3
   show all2 k (m+1) (s :: q) out=_
   rw [all2,if_pos ⟨hs,by omega,by omega⟩]
   show ((allTake k out (hd s)).bind fun b=>_)=_
   rw [e2,Option.bind_some,e1,Option.bind_some]
   exact e3
def srcQ:List (List Cell)→Nat→List Src
 | [],_=>[]
 | l :: ls,i=>if l.length=0 then srcQ ls (i+1) else (⟨l,(i:Int)⟩:Src) :: srcQ ls (i+1)
theorem srcQ_mem:∀ {ls:List (List Cell)} {i:Nat} {s:Src},s ∈ srcQ ls i→∃ j,i≤j∧j<i+ls.length∧s=⟨nthC ls (j - i),(j:Int)⟩∧0<s.f0.length
 | [],i,s,h=>by cases h
 | l :: ls,i,s,h=>by
  have hrec:s ∈ srcQ ls (i+1)→∃ j,i≤j∧j<i+(l :: ls).length∧s=⟨nthC (l :: ls) (j - i),(j:Int)⟩∧0<s.f0.length:=by
   intro h
   obtain ⟨j,h1,h2,h3,h4⟩:=srcQ_mem h
   refine ⟨j,by omega,by rw [List.length_cons];omega,?_,h4⟩
   rw [h3]
   congr 1
   rw [show j - i=(j - (i+1))+1 by omega]
   rfl
  unfold srcQ at h
  split at h
  ·
   exact hrec h
  ·
   rename_i h0
   rcases List.mem_cons.1 h with rfl | h
   ·
    exact ⟨i,Nat.le_refl _,by simp,by rw [Nat.sub_self];rfl,by show 0<l.length;omega⟩
   ·
    exact hrec h
theorem mem_srcQ:∀ {ls:List (List Cell)} {i j:Nat},j<ls.length→0<(nthC ls j).length→(⟨nthC ls j,((i+j:Nat):Int)⟩:Src) ∈ srcQ ls i
 | [],_,_,h,_=>by cases h
 | l :: ls,i,0,_,h=>by
  unfold srcQ
  rw [if_neg (by show ¬ l.length=0;exact Nat.pos_iff_ne_zero.1 h)]
  exact List.mem_cons_self
 | l :: ls,i,j+1,h,h0=>by
  have:=mem_srcQ (ls:=ls) (i:=i+1) (j:=j) (by simpa using h) h0
  rw [show i+1+j=i+(j+1) by omega] at this
  unfold srcQ
  split
  ·
   exact this
  ·
   exact List.mem_cons_of_mem _ this
theorem srcQ_nod:∀ (ls:List (List Cell)) (i:Nat),((srcQ ls i).map (fun s:Src=>s.f1)).Nodup
 | [],_=>List.nodup_nil
 | l :: ls,i=>by
  unfold srcQ
  split
  ·
   exact srcQ_nod ls (i+1)
  ·
   rw [List.map_cons,List.nodup_cons]
   refine ⟨fun h=>?_,srcQ_nod ls (i+1)⟩
   obtain ⟨s,hs,he⟩:=List.mem_map.1 h
   obtain ⟨j,h1,_,h2,_⟩:=srcQ_mem hs
   rw [h2] at he
   simp only at he
   omega
theorem all1_ok:∀ (ls:List (List Cell)) (i:Nat) (q:List Src),q.length+ls.length≤1000000→HeapN q.length q→(∀ s ∈ q,0<s.f0.length)→∃ q',Ev (fun k=>all1 k ls i q) q'∧q'.Perm (q++srcQ ls i)∧HeapN q'.length q'
 | [],i,q,_,hh,_=>⟨q,Ev.now _,by rw [show srcQ [] i=[] from rfl,List.append_nil],hh⟩
 | l :: ls,i,q,hn,hh,hne=>by
  rw [List.length_cons] at hn
  by_cases h0:l.length=0
  ·
   obtain ⟨q',he,hp,hh'⟩:=all1_ok ls (i+1) q (by omega) hh hne
   refine ⟨q',Ev.congr (fun k=>?_) he,?_,hh'⟩
   ·
    rw [all1,if_pos h0]
   ·
    rw [srcQ,if_pos h0]
    exact hp
  ·
   have hg1:∀ m,m<q.length→gQ (q++[(⟨l,(i:Int)⟩:Src)]) m=gQ q m:=by
    intro m hm
    unfold gQ
    rw [List.getD_eq_getElem?_getD,List.getD_eq_getElem?_getD,List.getElem?_append_left hm]
   have hne2:∀ s ∈ q++[(⟨l,(i:Int)⟩:Src)],0<s.f0.length:=by
    intro s hs
    rcases List.mem_append.1 hs with hs | hs
    ·
     exact hne s hs
    ·
     rw [List.mem_singleton.1 hs]
     show 0<l.length
     omega
   obtain ⟨r,⟨k1,hk1⟩,hpm,hr⟩:=up_ok q.length (q++[(⟨l,(i:Int)⟩:Src)]) (by simp) ⟨fun m h0 hm hp=>by
     rw [List.length_append,List.length_singleton] at hm
     rw [hg1 _ (by omega),hg1 _ (by omega)]
     exact hh m h0 (by omega),fun _ m h0 hm hp=>by
     rw [List.length_append,List.length_singleton] at hm
     omega⟩ (fun m hm=>hne2 _ (gQ_mem hm))
   have hrl:r.length=q.length+1:=by rw [hpm.length_eq];simp
   obtain ⟨q',⟨k2,hk2⟩,hp,hh'⟩:=all1_ok ls (i+1) r (by omega) hr (fun s hs=>hne2 s (hpm.subset hs))
   refine ⟨q',⟨k1+k2,fun k hk=>?_⟩,?_,hh'⟩
   ·
    have e1:=hk1 k k (by omega) (by omega)
    have e2:=hk2 k (by omega)
    simp only at e1 e2
    show all1 k (l :: ls) i q=_
    rw [all1,if_neg h0,if_pos (by omega),e1,Option.bind_some]
    exact e2
   ·
    rw [srcQ,if_neg h0]
    refine hp.trans ((hpm.append_right _).trans ?_)
    rw [List.append_assoc]
    exact List.Perm.refl _
def lensC (L:List (List Cell)):Nat:=(L.map List.length).sum
theorem srcQ_tot:∀ (ls:List (List Cell)) (i:Nat),totQ (srcQ ls i)=lensC ls
 | [],_=>rfl
 | l :: ls,i=>by
  have:=srcQ_tot ls (i+1)
  unfold srcQ
  split
  ·
   rename_i h0
   rw [this]
   simp [lensC,h0]
  ·
   rw [totQ_cons,this]
   simp [lensC]
theorem merge_All_ev {L:List (List Cell)} (hL:OrdsC L) (hn:L.length≤1000) (ht:lensC L≤100000):∃ r,Ev (fun k=>merge_All.f k L) r∧MergedC L r:=by
 obtain ⟨q,⟨k1,hk1⟩,hp,hh⟩:=all1_ok L 0 [] (by simp;omega) (fun m _ hm=>by cases hm) (fun s hs=>by cases hs)
 rw [List.nil_append] at hp
 have hinv:MInv L q []:=by
  refine ⟨hh,fun s hs=>?_,(hp.map _).nodup_iff.2 (srcQ_nod L 0),fun s hs=>?_,fun i hi hno c hc=>?_,List.Pairwise.nil,fun c hc=>(by cases hc),fun d hd=>(by cases hd)⟩
  ·
   obtain ⟨j,_,_,_,h4⟩:=srcQ_mem (hp.subset hs)
   exact h4
  ·
   obtain ⟨j,_,h2,h3,_⟩:=srcQ_mem (hp.subset hs)
   refine ⟨j,by rw [h3],by omega,[],?_,fun c hc=>by cases hc⟩
   rw [h3]
   rfl
  ·
   have:=mem_srcQ (ls:=L) (i:=0) hi (List.length_pos_of_mem hc)
   rw [Nat.zero_add] at this
   exact absurd rfl (hno _ (hp.symm.subset this))
 have htq:totQ q=lensC L:=by rw [totQ_perm hp,srcQ_tot]
 obtain ⟨r,⟨k2,hk2⟩,hr⟩:=all2_ok hL (lensC L) q [] (by omega) (by simp;omega) hinv
 refine ⟨r,⟨k1+k2+1,fun k hk=>?_⟩,hr⟩
 have e1:=hk1 k (by omega)
 have e2:=hk2 k k (by omega) (by omega)
 simp only at e1 e2
 show merge_All.f k L=_
 unfold merge_All.f
 rw [if_neg (by omega),e1,Option.bind_some]
 exact e2
theorem nthC_at (L:List (List Cell)) (i:Nat) (h:i<L.length):nthC L i=L[i]:=by
 unfold nthC
 rw [List.getD_eq_getElem?_getD,List.getElem?_eq_getElem h]
 rfl
theorem lensC_cons (l:List Cell) (L:List (List Cell)):lensC (l :: L)=l.length+lensC L:=by simp [lensC]
def refAll (L:List (List Cell)):List Cell:=L.foldr (fun l o=>l.foldl (fun o c=>ins c o) o) []
theorem refAll_merged:∀ {L:List (List Cell)},OrdsC L→MergedC L (refAll L)
 | [],_=>⟨List.Pairwise.nil,fun c hc=>(by cases hc),fun i hi=>(by cases hi)⟩
 | l :: L,h=>by
  have hl:OrdC l:=h 0
  obtain ⟨i1,i2,i3⟩:=refAll_merged (L:=L) (fun i=>h (i+1))
  have hm:∀ c,c ∈ refAll (l :: L)↔c ∈ l∨(c ∈ refAll L∧∀ d ∈ l,cc d c≠0):=fun c=>mem_foldl_iff hl i1
  refine ⟨ord_foldl l i1,fun c hc=>?_,fun i hi c hc=>?_⟩
  ·
   rcases (hm c).1 hc with hc | ⟨hc,h0⟩
   ·
    exact ⟨0,by simp,hc,fun j hj=>by omega⟩
   ·
    obtain ⟨i,e1,e2,e3⟩:=i2 c hc
    refine ⟨i+1,by rw [List.length_cons];omega,e2,fun j hj d hd=>?_⟩
    cases j with
    | zero=>exact h0 d hd
    | succ j=>exact e3 j (by omega) d hd
  ·
   cases i with
   | zero=>exact ⟨c,(hm c).2 (.inl hc),cc_self c⟩
   | succ i=>
    obtain ⟨d,hd,h0⟩:=i3 i (by simpa using hi) c hc
    by_cases hex:∃ e ∈ l,cc e d=0
    ·
     obtain ⟨e,he,h1⟩:=hex
     exact ⟨e,(hm e).2 (.inl he),by rw [cc_left h1];exact h0⟩
    ·
     exact ⟨d,(hm d).2 (.inr ⟨hd,fun e he h1=>hex ⟨e,he,h1⟩⟩),h0⟩
theorem len_lensC:∀ {L:List (List Cell)} {l:List Cell},l ∈ L→l.length≤lensC L
 | m :: L,l,h=>by
  rw [lensC_cons]
  rcases List.mem_cons.1 h with rfl | h
  ·
   omega
  ·
   have:=len_lensC h
   omega
theorem merge_All_is {L:List (List Cell)} (hL:OrdsC L) (hn:L.length≤1000) (ht:lensC L≤100000):Ev (fun k=>merge_All.f k L) (refAll L):=by
 obtain ⟨r,he,hr⟩:=merge_All_ev hL hn ht
 rw [merged_uniq hL (refAll_merged hL) hr]
 exact he
theorem refAll_length:∀ (L:List (List Cell)),(refAll L).length≤lensC L
 | []=>Nat.zero_le _
 | l :: L=>by
  have:=refAll_length L
  have:=foldl_length l (refAll L)
  rw [lensC_cons]
  show (l.foldl (fun o c=>ins c o) (refAll L)).length≤_
  omega
theorem refAll_one {l:List Cell} (h:OrdC l):refAll [l]=l:=by
 refine ord_ext (ord_foldl l List.Pairwise.nil) h (fun c=>?_)
 rw [show refAll [l]=l.foldl (fun o c=>ins c o) [] from rfl,mem_foldl_iff h List.Pairwise.nil]
 exact ⟨fun hc=>hc.elim id (fun hc=>by cases hc.1),.inl⟩
theorem ords_tail {l:List Cell} {L:List (List Cell)} (h:OrdsC (l :: L)):OrdsC L:=fun i=>h (i+1)
theorem refAll_ord {L:List (List Cell)} (h:OrdsC L):OrdC (refAll L):=(refAll_merged h).ord
theorem refAll_two {a b:List Cell} (ha:OrdC a) (hb:OrdC b) (c:Cell):c ∈ refAll [a,b]↔c ∈ a∨(c ∈ b∧∀ d ∈ a,cc d c≠0):=by
 have e:refAll [a,b]=a.foldl (fun o c=>ins c o) b:=by
  show a.foldl (fun o c=>ins c o) (refAll [b])=_
  rw [refAll_one hb]
 rw [e,mem_foldl_iff ha hb]
theorem refAll_append:∀ {X Y:List (List Cell)},OrdsC X→OrdsC Y→refAll (X++Y)=refAll [refAll X,refAll Y]
 | [],Y,_,hY=>by
  have hy:=refAll_ord hY
  show refAll Y=_
  refine ord_ext hy (ord_foldl _ (ord_foldl _ List.Pairwise.nil)) (fun c=>?_)
  rw [refAll_two (a:=refAll []) List.Pairwise.nil hy]
  exact ⟨fun h=>.inr ⟨h,fun d hd=>by cases hd⟩,fun h=>h.elim (fun h=>by cases h) (fun h=>h.1)⟩
 | l :: X,Y,hX,hY=>by
  have hl:OrdC l:=hX 0
  have hX':=ords_tail hX
  have hx:=refAll_ord hX'
  have hy:=refAll_ord hY
  have ih:=refAll_append hX' hY
  have hxl:OrdC (refAll (l :: X)):=refAll_ord hX
  have h2:OrdC (refAll [refAll X,refAll Y]):=ord_foldl _ (ord_foldl _ List.Pairwise.nil)
  have e:refAll (l :: X++Y)=l.foldl (fun o c=>ins c o) (refAll [refAll X,refAll Y]):=by
   show l.foldl (fun o c=>ins c o) (refAll (X++Y))=_
   rw [ih]
  rw [e]
  refine ord_ext (ord_foldl l h2) (ord_foldl _ (ord_foldl _ List.Pairwise.nil)) (fun c=>?_)
  have hm:∀ c,c ∈ refAll (l :: X)↔c ∈ l∨(c ∈ refAll X∧∀ d ∈ l,cc d c≠0):=fun c=>mem_foldl_iff hl hx
  rw [mem_foldl_iff hl h2,refAll_two hx hy,refAll_two hxl hy,hm]
  constructor
  ·
   rintro (h | ⟨h | ⟨h1,h3⟩,h4⟩)
   ·
    exact .inl (.inl h)
   ·
    exact .inl (.inr ⟨h,h4⟩)
   ·
    refine .inr ⟨h1,fun d hd=>?_⟩
    rcases (hm d).1 hd with hd | hd
    ·
     exact h4 d hd
    ·
     exact h3 d hd.1
  ·
   rintro ((h | ⟨h1,h2⟩) | ⟨h1,h2⟩)
   ·
    exact .inl h
   ·
    exact .inr ⟨.inl h1,h2⟩
   ·
    refine .inr ⟨.inr ⟨h1,fun d hd h0=>?_⟩,fun d hd=>h2 d ((hm d).2 (.inl hd))⟩
    by_cases hex:∃ e ∈ l,cc e d=0
    ·
     obtain ⟨e,he,h3⟩:=hex
     exact h2 e ((hm e).2 (.inl he)) (by rw [cc_left h3];exact h0)
    ·
     exact h2 d ((hm d).2 (.inr ⟨hd,fun e he h3=>hex ⟨e,he,h3⟩⟩)) h0
theorem ords_iff {L:List (List Cell)}:OrdsC L↔∀ l ∈ L,OrdC l:=by
 constructor
 ·
  intro h l hl
  obtain ⟨i,hi,rfl⟩:=List.getElem_of_mem hl
  have:=h i
  rw [nthC_at L i hi] at this
  exact this
 ·
  intro h i
  by_cases hi:i<L.length
  ·
   rw [nthC_at L i hi]
   exact h _ (List.getElem_mem hi)
  ·
   unfold nthC
   rw [List.getD_eq_getElem?_getD,List.getElem?_eq_none (by omega)]
   exact List.Pairwise.nil
theorem lensC_append:∀ (X Y:List (List Cell)),lensC (X++Y)=lensC X+lensC Y
 | [],Y=>by simp [lensC]
 | l :: X,Y=>by
  have:=lensC_append X Y
  rw [List.cons_append,lensC_cons,lensC_cons]
  omega
abbrev Tab:=List Cell × List (List Cell) × List Int
structure TabOk (t:Tab):Prop where
 srt:SrtC t.1
 ne:t.1≠[]
 get:∀ (r c:ByteArray) (a:Int),r.size≤10000→c.size≤10000→Ev (fun k=>table_Table_Get.f k t.2.1 t.2.2 r c a) (tupC (findC r c a t.1))
def Makes (s:Int) (P:Cell→Prop) (N:Nat):Prop:=∀ l,SrtC l→l≠[]→l.length≤N→(∀ c ∈ l,P c)→∃ t:Tab,t.1=l∧Ev (fun k=>tree_Tree_made.f k l s) t∧TabOk t
theorem makes_W {s:Int} {W N:Nat} {P:Cell→Prop} (h1:1≤s) (h2:s≤4096) (hN:N≤420) (hW:W*N≤60150) (hP:∀ c,P c→(oneB c).length≤W):Makes s P N:=fun l hs hn hl hq=>by
 have hw:∀ c ∈ l,(oneB c).length≤W:=fun c hc=>hP c (hq c hc)
 have h0:0<s.toNat:=by omega
 have hW1:W*l.length≤60150:=Nat.le_trans (Nat.mul_le_mul_left W hl) hW
 have hg:=goB_length s.toNat l [] 0
 have hg2:(goB s.toNat l [] 0).length≤1000:=by omega
 refine ⟨(l,goB s.toNat l [] 0,filterB l),rfl,?_,hs,hn,fun r c a hr hc=>get_ev r c a (by rw [goB_flat,List.nil_append]) (goB_blkW hs (by omega) hw hW1 h0) hs (by omega) hg2 hr hc⟩
 have hb:=table_Build_evW (l:=l) s (by omega) hw hW1
 unfold buildT at hb
 rw [if_pos ⟨sortedC_iff.2 hs,h1⟩] at hb
 unfold tree_Tree_made.f
 exact Ev.neg hn (Ev.bind hb (Ev.pos rfl (Ev.bind (open_goBW hs (by omega) hw hW1 h0 (by omega)) (Ev.now _))))
def tl (ls:List (List Tab)):List (List Cell):=ls.flatten.map (fun t=>t.1)
theorem tl_append (a b:List (List Tab)):tl (a++b)=tl a++tl b:=by simp [tl]
theorem tl_cons (a:List Tab) (b:List (List Tab)):tl (a :: b)=a.map (fun t=>t.1)++tl b:=by simp [tl]
theorem l1_eq:∀ (l:List Tab) (o:List (List Cell)),(∀ t ∈ l,t.1.length≤1000000000)→o.length+l.length≤1000000→tree_Tree_lists.l1 l o=some (o++l.map (fun t=>t.1))
 | [],o,_,_=>by simp [tree_Tree_lists.l1]
 | t :: l,o,h,hl=>by
  simp only [List.length_cons] at hl
  have ih:=l1_eq l (o++[t.1]) (fun x hx=>h x (List.mem_cons_of_mem _ hx)) (by rw [List.length_append,List.length_singleton];omega)
  simp only [tree_Tree_lists.l1]
  rw [clone_C (h t List.mem_cons_self)]
  show (if o.length<2199023255552 then tree_Tree_lists.l1 l (o++[t.1]) else none)=_
  rw [if_pos (by omega),ih,List.append_assoc]
  rfl
theorem l0_eq:∀ (ls:List (List Tab)) (o:List (List Cell)),(∀ l ∈ ls,∀ t ∈ l,t.1.length≤1000000000)→o.length+ls.flatten.length≤1000000→tree_Tree_lists.l0 ls o=some (o++tl ls)
 | [],o,_,_=>by simp [tree_Tree_lists.l0,tl]
 | l :: ls,o,h,hl=>by
  rw [List.flatten_cons,List.length_append] at hl
  simp only [tree_Tree_lists.l0]
  rw [l1_eq l o (h l List.mem_cons_self) (by omega)]
  show tree_Tree_lists.l0 ls (o++l.map (fun t=>t.1))=_
  rw [l0_eq ls _ (fun x hx=>h x (List.mem_cons_of_mem _ hx)) (by rw [List.length_append,List.length_map];omega),tl_cons,List.append_assoc]
structure TreeI (P:Cell→Prop) (p:Nat) (xs:List Cell) (n:Int) (ls:List (List Tab)):Prop where
 srt:SrtC xs
 siz:n=sizeM xs
 tab:∀ l ∈ ls,∀ t ∈ l,TabOk t
 tot:lensC (xs :: tl ls)≤p
 wid:∀ l ∈ xs :: tl ls,∀ c ∈ l,P c
theorem len_tl:∀ (l:List Tab),(∀ t ∈ l,TabOk t)→l.length≤lensC (l.map (fun t=>t.1))
 | [],_=>Nat.zero_le _
 | t :: l,h=>by
  have h1:=len_tl l (fun x hx=>h x (List.mem_cons_of_mem _ hx))
  have h2:=List.length_pos_iff.2 (h t List.mem_cons_self).ne
  rw [List.map_cons,lensC_cons,List.length_cons]
  omega
section
variable {P:Cell→Prop} {p:Nat} {xs:List Cell} {n:Int} {ls:List (List Tab)}
theorem TreeI.ok (h:TreeI P p xs n ls):∀ t ∈ ls.flatten,TabOk t:=fun t ht=>by
 obtain ⟨l,hl,ht⟩:=List.mem_flatten.1 ht
 exact h.tab l hl t ht
theorem TreeI.few (h:TreeI P p xs n ls):xs.length+ls.flatten.length≤p:=by
 have h1:=len_tl ls.flatten h.ok
 have h2:=h.tot
 rw [lensC_cons] at h2
 have h3:lensC (tl ls)=lensC (ls.flatten.map (fun t=>t.1)):=rfl
 omega
theorem TreeI.small (h:TreeI P p xs n ls) {t:Tab} (ht:t ∈ ls.flatten):t.1.length≤p:=by
 have h1:=len_lensC (L:=xs :: tl ls) (List.mem_cons_of_mem _ (List.mem_map.2 ⟨t,ht,rfl⟩))
 have h2:=h.tot
 omega
theorem TreeI.ords (h:TreeI P p xs n ls):OrdsC (xs :: tl ls):=ords_iff.2 (fun l hl=>by
 rcases List.mem_cons.1 hl with rfl | hl
 ·
  exact h.srt.2
 ·
  obtain ⟨t,ht,rfl⟩:=List.mem_map.1 hl
  exact (h.ok t ht).srt.2)
theorem treeCells_ev (h:TreeI P p xs n ls) (hp:p≤900):Ev (fun k=>tree_Tree_Cells.f k xs ls) (refAll (xs :: tl ls)):=by
 have hf:=h.few
 unfold tree_Tree_Cells.f
 refine Ev.bind (a:=xs :: tl ls) ?_ (merge_All_is h.ords (by rw [List.length_cons];unfold tl;rw [List.length_map];omega) (by have:=h.tot;omega))
 unfold tree_Tree_lists.f
 rw [clone_C (by omega)]
 have h0:=l0_eq ls [xs] (fun l hl t ht=>by have:=h.small (List.mem_flatten.2 ⟨l,hl,ht⟩);omega) (by rw [List.length_singleton];omega)
 rw [show (some xs).bind (fun c=>tree_Tree_lists.l0 ls [c])=tree_Tree_lists.l0 ls [xs] from rfl,h0]
 exact Ev.now _
end
theorem refAll_mid {U V W:List (List Cell)} (hU:OrdsC U) (hV:OrdsC V) (hW:OrdsC W):refAll (U++(V++W))=refAll (U++(refAll V :: W)):=by
 have hr:=refAll_ord hV
 have h1:OrdsC [refAll V]:=ords_iff.2 (fun l hl=>by rw [List.mem_singleton.1 hl];exact hr)
 have hap:∀ {A B:List (List Cell)},OrdsC A→OrdsC B→OrdsC (A++B):=fun hA hB=>ords_iff.2 (fun l hl=>(List.mem_append.1 hl).elim (ords_iff.1 hA l) (ords_iff.1 hB l))
 rw [show refAll V :: W=[refAll V]++W from rfl,refAll_append hU (hap hV hW),refAll_append hU (hap h1 hW),refAll_append hV hW,refAll_append h1 hW,refAll_one hr]
theorem two_at {α:Type} (z a b:α):∀ (i:Nat) (l:List α),i+1<l.length→l=l.take i++l.getD i z :: l.getD (i+1) z :: l.drop (i+2)∧(l.set i a).set (i+1) b=l.take i++a :: b :: l.drop (i+2)
 | 0,x :: y :: l,_=>⟨rfl,rfl⟩
 | 0,[],h=>absurd h (by simp)
 | 0,[_],h=>absurd h (by simp)
 | i+1,[],h=>absurd h (by simp)
 | i+1,x :: l,h=>by
  obtain ⟨h1,h2⟩:=two_at z a b i l (by simpa using h)
  refine ⟨?_,?_⟩
  ·
   have:=congrArg (List.cons x) h1
   simpa using this
  ·
   have:=congrArg (List.cons x) h2
   simpa using this
theorem srt_ref {L:List (List Cell)} (h:∀ l ∈ L,SrtC l):SrtC (refAll L):=by
 have ho:OrdsC L:=ords_iff.2 (fun l hl=>(h l hl).2)
 refine ⟨fun c hc=>?_,refAll_ord ho⟩
 obtain ⟨i,h1,h2,_⟩:=(refAll_merged ho).win c hc
 rw [nthC_at L i h1] at h2
 exact (h _ (List.getElem_mem _)).1 c h2
theorem ref_ne {L:List (List Cell)} (ho:OrdsC L) {l:List Cell} (hl:l ∈ L) (hn:l≠[]):refAll L≠[]:=fun he=>by
 obtain ⟨c,hc⟩:=List.exists_mem_of_ne_nil l hn
 obtain ⟨i,hi,e⟩:=List.getElem_of_mem hl
 obtain ⟨d,hd,_⟩:=(refAll_merged ho).all i hi c (by rw [nthC_at L i hi,e];exact hc)
 rw [he] at hd
 cases hd
structure Sunk (P:Cell→Prop) (p:Nat) (xs:List Cell) (n:Int) (i:Nat) (ls r:List (List Tab)):Prop where
 inv:TreeI P p xs n r
 all:refAll (xs :: tl r)=refAll (xs :: tl ls)
 len:r.length=(tree_Tree_sink.gl ls i).length
theorem gl_get {ls:List (List Tab)} {i:Nat} (hi:i<ls.length):i+1<(tree_Tree_sink.gl ls i).length∧tl (tree_Tree_sink.gl ls i)=tl ls∧(∀ l ∈ tree_Tree_sink.gl ls i,l ∈ ls∨l=[])∧(tree_Tree_sink.gl ls i).length≤ls.length+1∧(tree_Tree_sink.gl ls i).getD i []=ls.getD i []∧(i+1<ls.length→tree_Tree_sink.gl ls i=ls):=by
 unfold tree_Tree_sink.gl
 by_cases e:i+1=ls.length
 ·
  rw [if_pos e]
  refine ⟨by rw [List.length_append,List.length_singleton];omega,by rw [tl_append];simp [tl],fun l hl=>?_,by rw [List.length_append,List.length_singleton];omega,?_,fun h=>absurd e (by omega)⟩
  ·
   rcases List.mem_append.1 hl with h | h
   ·
    exact .inl h
   ·
    exact .inr (List.mem_singleton.1 h)
  ·
   rw [List.getD_eq_getElem?_getD,List.getElem?_append_left hi,← List.getD_eq_getElem?_getD]
 ·
  rw [if_neg e]
  exact ⟨by omega,rfl,fun l hl=>.inl hl,by omega,rfl,fun _=>rfl⟩
theorem sink_ev {s:Int} {P:Cell→Prop} {p:Nat} {xs:List Cell} {n:Int} {ls:List (List Tab)} {i:Nat} (hM:Makes s P p) (hp:p≤900) (h:TreeI P p xs n ls) (hlv:ls.length≤1000000) (hi:i<ls.length) (hx:ls.getD i []≠[]) :
  ∃ r t,Ev (fun k=>tree_Tree_sink.f k s ls i) r∧r=((tree_Tree_sink.gl ls i).set i []).set (i+1) [t]∧Sunk P p xs n i ls r:=by
 obtain ⟨g1,g2,g3,g4,g5,_⟩:=gl_get hi
 generalize hG:tree_Tree_sink.gl ls i=G at g1 g2 g3 g4 g5
 have hGt:∀ l ∈ G,∀ t ∈ l,TabOk t:=fun l hl t ht=>(g3 l hl).elim (fun h1=>h.tab l h1 t ht) (fun h1=>by rw [h1] at ht;cases ht)
 obtain ⟨X,hX⟩:∃ X,G.getD i []=X:=⟨_,rfl⟩
 obtain ⟨Y,hY⟩:∃ Y,G.getD (i+1) []=Y:=⟨_,rfl⟩
 have hd:=(two_at ([]:List Tab) [] [] i G g1).1
 rw [hX,hY] at hd
 generalize hA:G.take i=A at hd
 generalize hB:G.drop (i+2)=B at hd
 have hXm:X ∈ G:=by rw [hd];simp
 have hYm:Y ∈ G:=by rw [hd];simp
 have hXYt:∀ t ∈ X++Y,TabOk t:=fun t ht=>(List.mem_append.1 ht).elim (hGt X hXm t) (hGt Y hYm t)
 have hAt:∀ t ∈ A.flatten,TabOk t:=fun t ht=>by
  obtain ⟨l,hl,ht⟩:=List.mem_flatten.1 ht
  exact hGt l (by rw [hd];exact List.mem_append_left _ hl) t ht
 have hBt:∀ t ∈ B.flatten,TabOk t:=fun t ht=>by
  obtain ⟨l,hl,ht⟩:=List.mem_flatten.1 ht
  exact hGt l (by rw [hd];simp [hl]) t ht
 have ords:∀ {l:List Tab},(∀ t ∈ l,TabOk t)→OrdsC (l.map (fun t=>t.1)):=fun hl=>ords_iff.2 (fun l hm=>by
  obtain ⟨t,ht,rfl⟩:=List.mem_map.1 hm
  exact (hl t ht).srt.2)
 have htl:tl ls=tl A++((X++Y).map (fun t=>t.1)++tl B):=by
  rw [←g2,hd,tl_append,tl_cons,tl_cons,List.map_append,List.append_assoc]
 have htot:=h.tot
 have hl1:lensC (xs :: tl ls)=xs.length+(lensC (tl A)+(lensC ((X++Y).map (fun t=>t.1))+lensC (tl B))):=by rw [lensC_cons,htl,lensC_append,lensC_append]
 obtain ⟨C,hC⟩:∃ C,refAll ((X++Y).map (fun t=>t.1))=C:=⟨_,rfl⟩
 have hCl:C.length≤lensC ((X++Y).map (fun t=>t.1)):=hC▸refAll_length _
 have hXne:X≠[]:=by rw [←hX,g5];exact hx
 have hCs:SrtC C:=hC▸srt_ref (fun l hm=>by
  obtain ⟨t,ht,rfl⟩:=List.mem_map.1 hm
  exact (hXYt t ht).srt)
 have hCn:C≠[]:=by
  obtain ⟨t,ht⟩:=List.exists_mem_of_ne_nil X hXne
  exact hC▸ref_ne (ords hXYt) (List.mem_map.2 ⟨t,List.mem_append_left _ ht,rfl⟩) (hGt X hXm t ht).ne
 have hCw:∀ c ∈ C,P c:=fun c hc=>by
  rw [←hC] at hc
  obtain ⟨j,h1,h2,_⟩:=(refAll_merged (ords hXYt)).win c hc
  rw [nthC_at _ j h1] at h2
  exact h.wid _ (List.mem_cons_of_mem _ (by rw [htl];exact List.mem_append_right _ (List.mem_append_left _ (List.getElem_mem h1)))) c h2
 obtain ⟨t,ht1,ht2,ht3⟩:=hM C hCs hCn (by omega) hCw
 have hlen:X.length+Y.length≤lensC ((X++Y).map (fun t=>t.1)):=by
  rw [←List.length_append]
  exact len_tl (X++Y) hXYt
 have hr:=(two_at ([]:List Tab) [] [t] i G g1).2
 rw [hA,hB] at hr
 refine ⟨(G.set i []).set (i+1) [t],t,?_,rfl,?_⟩
 ·
  unfold tree_Tree_sink.f
  rw [hG,hX,hY]
  refine Ev.pos ⟨by omega,by omega⟩ (Ev.bind (a:=(X++Y).map (fun t=>t.1)) ?_ (Ev.bind (a:=C) ?_ (Ev.bind ht2 (Ev.now _))))
  ·
   rw [l1_eq (X++Y) [] (fun t ht=>by have:=len_lensC (L:=(X++Y).map (fun t=>t.1)) (List.mem_map.2 ⟨t,ht,rfl⟩);omega) (by rw [List.length_append,List.length_nil];omega),List.nil_append]
   exact Ev.now _
  ·
   rw [←hC]
   exact merge_All_is (ords hXYt) (by rw [List.length_map,List.length_append];omega) (by omega)
 ·
  have htr:tl ((G.set i []).set (i+1) [t])=tl A++(C :: tl B):=by
   rw [hr,tl_append,tl_cons,tl_cons,List.map_nil,List.nil_append,List.map_cons,List.map_nil,ht1]
   rfl
  have hl2:lensC (xs :: tl ((G.set i []).set (i+1) [t]))=xs.length+(lensC (tl A)+(C.length+lensC (tl B))):=by rw [lensC_cons,htr,lensC_append,lensC_cons]
  have hal:refAll (xs :: tl ((G.set i []).set (i+1) [t]))=refAll (xs :: tl ls):=by
   rw [htr,htl,← List.cons_append,← List.cons_append,← hC]
   exact (refAll_mid (U:=xs :: tl A) (ords_iff.2 (fun l hl=>by
    rcases List.mem_cons.1 hl with rfl | hl
    ·
     exact h.srt.2
    ·
     exact ords_iff.1 (ords hAt) l hl)) (ords hXYt) (ords hBt)).symm
  refine ⟨⟨h.srt,h.siz,fun l hl t' ht'=>?_,by omega,fun l hl c hc=>?_⟩,hal,by rw [List.length_set,List.length_set,hG]⟩
  rotate_left
  ·
   rw [htr] at hl
   rcases List.mem_cons.1 hl with rfl | hl
   ·
    exact h.wid _ List.mem_cons_self c hc
   ·
    rcases List.mem_append.1 hl with hl | hl
    ·
     exact h.wid _ (List.mem_cons_of_mem _ (by rw [htl];exact List.mem_append_left _ hl)) c hc
    ·
     rcases List.mem_cons.1 hl with rfl | hl
     ·
      exact hCw c hc
     ·
      exact h.wid _ (List.mem_cons_of_mem _ (by rw [htl];exact List.mem_append_right _ (List.mem_append_right _ hl))) c hc
  rw [hr] at hl
  rcases List.mem_append.1 hl with h1 | h1
  ·
   exact hGt l (by rw [hd];exact List.mem_append_left _ h1) t' ht'
  ·
   rcases List.mem_cons.1 h1 with rfl | h1
   ·
    cases ht'
   ·
    rcases List.mem_cons.1 h1 with rfl | h1
    ·
     rw [List.mem_singleton.1 ht'];exact ht3
    ·
     exact hGt l (by rw [hd];simp [h1]) t' ht'
section
variable {P:Cell→Prop} {p:Nat} {xs:List Cell} {n:Int} {ls:List (List Tab)} {s s3:Int}
theorem lp_go {r1 r:List (List Tab)} {i:Nat} (h1:Ev (fun k=>tree_Tree_sink.f k s ls i) r1) (hi:i<ls.length) (hs:s3<((ls.getD i []).length:Int)) (h2:Ev2 (fun k m=>tree_Tree_Flush.lp k s s3 m (i+1) r1) r):Ev2 (fun k m=>tree_Tree_Flush.lp k s s3 m i ls) r:=by
 obtain ⟨k1,h1⟩:=h1
 obtain ⟨k2,h2⟩:=h2
 refine ⟨max k1 (k2+1),fun k m hk hm=>?_⟩
 obtain ⟨m,rfl⟩:∃ j,m=j+1:=⟨m - 1,by omega⟩
 simp only [tree_Tree_Flush.lp]
 rw [if_pos hi,if_pos hs,show tree_Tree_sink.f k s ls i=some r1 from h1 k (by omega)]
 exact h2 k m (by omega) (by omega)
theorem lp_by {r:List (List Tab)} {i:Nat} (hi:i<ls.length) (hs:¬ s3<((ls.getD i []).length:Int)) (h2:Ev2 (fun k m=>tree_Tree_Flush.lp k s s3 m (i+1) ls) r):Ev2 (fun k m=>tree_Tree_Flush.lp k s s3 m i ls) r:=by
 obtain ⟨k2,h2⟩:=h2
 refine ⟨k2+1,fun k m hk hm=>?_⟩
 obtain ⟨m,rfl⟩:∃ j,m=j+1:=⟨m - 1,by omega⟩
 simp only [tree_Tree_Flush.lp]
 rw [if_pos hi,if_neg hs]
 exact h2 k m (by omega) (by omega)
theorem lp_end {i:Nat} (hi:¬ i<ls.length):Ev2 (fun k m=>tree_Tree_Flush.lp k s s3 m i ls) ls:=by
 refine ⟨1,fun k m _ hm=>?_⟩
 obtain ⟨m,rfl⟩:∃ j,m=j+1:=⟨m - 1,by omega⟩
 simp only [tree_Tree_Flush.lp]
 rw [if_neg hi]
theorem lp_ev (hM:Makes s P p) (hp:p≤900) (h3:1≤s3) (d:Nat):∀ (i:Nat) (ls:List (List Tab)),ls.length - i=d→TreeI P p xs n ls→ls.length+1≤1000000→
  ∃ r,Ev2 (fun k m=>tree_Tree_Flush.lp k s s3 m i ls) r∧TreeI P p xs n r∧refAll (xs :: tl r)=refAll (xs :: tl ls)∧r.length≤ls.length+1:=by
 induction d with
 | zero=>exact fun i ls hd h hl=>⟨ls,lp_end (by omega),h,rfl,by omega⟩
 | succ d ih=>
  intro i ls hd h hl
  have hi:i<ls.length:=by omega
  by_cases hs:s3<((ls.getD i []).length:Int)
  rotate_left
  ·
   obtain ⟨r,h1,h2,h4,h5⟩:=ih (i+1) ls (by omega) h hl
   exact ⟨r,lp_by hi hs h1,h2,h4,h5⟩
  have hx:ls.getD i []≠[]:=fun e=>by
   rw [e] at hs
   have:s3<0:=hs
   omega
  obtain ⟨r1,t,e1,e2,e3⟩:=sink_ev hM hp h (by omega) hi hx
  obtain ⟨g1,_,_,g4,_,g6⟩:=gl_get hi
  have hlen:=e3.len
  by_cases hlast:i+1<ls.length
  ·
   rw [g6 hlast] at hlen
   obtain ⟨r,h1,h2,h4,h5⟩:=ih (i+1) r1 (by omega) e3.inv (by omega)
   exact ⟨r,lp_go e1 hi hs h1,h2,h4.trans e3.all,by omega⟩
  ·
   have hb:¬ s3<((r1.getD (i+1) []).length:Int):=by
    rw [e2,List.getD_eq_getElem?_getD,List.getElem?_set_self (by rw [List.length_set];exact g1)]
    show ¬ s3<1
    omega
   exact ⟨r1,lp_go e1 hi hs (lp_by (by omega) hb (lp_end (by omega))),e3.inv,e3.all,by omega⟩
theorem flush_ev (hM:Makes s P p) (hp:p≤900) (h3:1≤s3) (h:TreeI P p xs n ls) (hx:xs≠[]) (hl:ls.length+2≤1000000) :
  ∃ r,Ev (fun k=>tree_Tree_Flush.f k s s3 xs n ls) ([],0,r)∧TreeI P p [] 0 r∧refAll ([] :: tl r)=refAll (xs :: tl ls)∧r.length≤ls.length+2:=by
 have htot:=h.tot
 rw [lensC_cons] at htot
 have hfew:=h.few
 obtain ⟨t,ht1,ht2,ht3⟩:=hM xs h.srt hx (by omega) (h.wid xs List.mem_cons_self)
 obtain ⟨G,hG⟩:∃ G,tree_Tree_Flush.gl ls=G:=⟨_,rfl⟩
 have hg:(∃ l0 R,G=l0 :: R)∧tl G=tl ls∧(∀ l ∈ G,l ∈ ls∨l=[])∧G.length≤ls.length+1:=by
  rw [←hG]
  unfold tree_Tree_Flush.gl
  by_cases e:ls.length=0
  ·
   rw [if_pos e,List.length_eq_zero_iff.1 e]
   exact ⟨⟨[],[],rfl⟩,rfl,fun l hl=>.inr (List.mem_singleton.1 hl),by simp⟩
  ·
   rw [if_neg e]
   exact ⟨List.exists_cons_of_length_pos (by omega),rfl,fun l hl=>.inl hl,by omega⟩
 obtain ⟨⟨l0,R,rfl⟩,g2,g3,g4⟩:=hg
 have hl0:l0.length≤p:=by
  have h1:=len_tl l0 (fun x hx=>(g3 l0 List.mem_cons_self).elim (fun h1=>h.tab l0 h1 x hx) (fun h1=>by rw [h1] at hx;cases hx))
  rw [←g2,tl_cons,lensC_append] at htot
  omega
 have htl:tl ((l0 :: R).set 0 (t :: l0))=xs :: tl ls:=by
  rw [←g2]
  show tl ((t :: l0) :: R)=_
  rw [tl_cons,tl_cons,List.map_cons,ht1]
  rfl
 have hI:TreeI P p [] 0 ((l0 :: R).set 0 (t :: l0)):=⟨srt_nil,by simp [sizeM],fun l hl x hx=>by
  rcases List.mem_cons.1 (show l ∈ (t :: l0) :: R from hl) with rfl | hl
  ·
   rcases List.mem_cons.1 hx with rfl | hx
   ·
    exact ht3
   ·
    exact (g3 l0 List.mem_cons_self).elim (fun h1=>h.tab l0 h1 x hx) (fun h1=>by rw [h1] at hx;cases hx)
  ·
   exact (g3 l (List.mem_cons_of_mem _ hl)).elim (fun h1=>h.tab l h1 x hx) (fun h1=>by rw [h1] at hx;cases hx),by rw [lensC_cons,htl,lensC_cons,List.length_nil];omega,fun l hl c hc=>by
  rcases List.mem_cons.1 hl with rfl | hl
  ·
   cases hc
  ·
   rw [htl] at hl;exact h.wid l hl c hc⟩
 obtain ⟨r,⟨k0,h1⟩,h2,h4,h5⟩:=lp_ev hM hp h3 _ 0 _ rfl hI (by rw [List.length_set];omega)
 rw [List.length_set] at h5
 refine ⟨r,?_,h2,h4.trans (by rw [htl];rfl),by omega⟩
 unfold tree_Tree_Flush.f
 rw [hG,clone_C (by omega)]
 refine Ev.neg (fun e=>hx (List.length_eq_zero_iff.1 e)) (Ev.pos ⟨by omega,?_⟩ (Ev.bind (Ev.now _) (Ev.bind ht2 (Ev.bind (a:=r) ⟨k0,fun k hk=>h1 k k hk hk⟩ (Ev.now _)))))
 show l0.length<1099511627776
 omega
theorem flush_any (hM:Makes s P p) (hp:p≤900) (h3:1≤s3) (h:TreeI P p xs n ls) (hl:ls.length+2≤1000000) :
  ∃ xs' n' r,Ev (fun k=>tree_Tree_Flush.f k s s3 xs n ls) (xs',n',r)∧TreeI P p xs' n' r∧refAll (xs' :: tl r)=refAll (xs :: tl ls)∧r.length≤ls.length+2:=by
 by_cases hx:xs=[]
 ·
  refine ⟨xs,n,ls,?_,h,rfl,by omega⟩
  unfold tree_Tree_Flush.f
  exact Ev.pos (by rw [hx];rfl) (Ev.now _)
 ·
  obtain ⟨r,h1,h2⟩:=flush_ev hM hp h3 h hx hl
  exact ⟨[],0,r,h1,h2⟩
def hitC (a b:ByteArray) (t:Int) (l:List Cell):Bool:=(tupC (findC a b t l)).2.2.2.2.2 && (tupC (findC a b t l)).2.2.1 == t
theorem has_ev (h:TreeI P p xs n ls) (hp:p≤900) (a b:ByteArray) (t:Int) (ha:a.size≤10000) (hb:b.size≤10000):Ev (fun k=>tree_Tree_has.f k xs ls a b t) ((xs :: tl ls).any (hitC a b t)):=by
 have l1:∀ l:List Tab,(∀ x ∈ l,TabOk x)→Ev (fun k=>tree_Tree_has.l1 k a b t l) ((l.map (fun x=>x.1)).any (hitC a b t)):=fun l=>by
  induction l with
  | nil=>exact fun _=>Ev.now _
  | cons x l ih=>
   intro hx
   have hv:=ih (fun y hy=>hx y (List.mem_cons_of_mem _ hy))
   have hg:=(hx x List.mem_cons_self).get a b t ha hb
   rw [List.map_cons,List.any_cons]
   cases hc:hitC a b t x.1 with
   | true=>exact Ev.bind hg (Ev.pos hc (Ev.now _))
   | false=>exact Ev.bind hg (Ev.neg (fun h1=>Bool.false_ne_true (hc.symm.trans h1)) hv)
 have l0:∀ ls:List (List Tab),(∀ l ∈ ls,∀ x ∈ l,TabOk x)→Ev (fun k=>tree_Tree_has.l0 k a b t ls) ((tl ls).any (hitC a b t)):=fun ls=>by
  induction ls with
  | nil=>exact fun _=>Ev.now _
  | cons l ls ih=>
   intro hl
   have hv:=ih (fun y hy=>hl y (List.mem_cons_of_mem _ hy))
   have hu:=l1 l (hl l List.mem_cons_self)
   rw [tl_cons,List.any_append]
   cases hc:(l.map (fun x=>x.1)).any (hitC a b t) with
   | true=>rw [hc] at hu;exact Ev.bind hu (Ev.pos rfl (Ev.now _))
   | false=>rw [hc] at hu;exact Ev.bind hu (Ev.neg Bool.false_ne_true hv)
 have hv:=l0 ls h.tab
 have hf:=h.few
 have hn:=cell_Newest_ev (l:=xs) a b t h.srt.2 (by omega)
 unfold tree_Tree_has.f
 rw [List.any_cons]
 cases hc:hitC a b t xs with
 | true=>exact Ev.bind hn (Ev.pos hc (Ev.now _))
 | false=>exact Ev.bind hn (Ev.neg (fun h1=>Bool.false_ne_true (hc.symm.trans h1)) hv)
theorem ref_ins {L:List (List Cell)} {c:Cell} (hx:OrdC xs) (hL:OrdsC L):refAll (ins c xs :: L)=ins c (refAll (xs :: L)):=by
 have hi:OrdC (ins c xs):=ord_ins hx
 have hr:=refAll_ord hL
 have h1:OrdC (refAll (xs :: L)):=ord_foldl xs hr
 refine ord_ext (ord_foldl _ hr) (ord_ins h1) (fun d=>?_)
 rw [mem_ins_iff h1]
 show d ∈ (ins c xs).foldl (fun o c=>ins c o) (refAll L)↔d=c∨(d ∈ xs.foldl (fun o c=>ins c o) (refAll L)∧cc c d≠0)
 rw [mem_foldl_iff hi hr,mem_foldl_iff hx hr,mem_ins_iff hx]
 constructor
 ·
  rintro ((h | ⟨h,h0⟩) | ⟨h,h0⟩)
  ·
   exact .inl h
  ·
   exact .inr ⟨.inl h,h0⟩
  ·
   refine .inr ⟨.inr ⟨h,fun e he he0=>?_⟩,h0 c (ins_mem c xs)⟩
   by_cases hec:cc e c=0
   ·
    exact h0 c (ins_mem c xs) (by rw [←cc_left hec];exact he0)
   ·
    exact h0 e (mem_ins_of hec he) he0
 ·
  rintro (h | ⟨h | ⟨h,h0⟩,hc⟩)
  ·
   exact .inl (.inl h)
  ·
   exact .inl (.inr ⟨h,hc⟩)
  ·
   refine .inr ⟨h,fun e he=>?_⟩
   rcases mem_ins he with rfl | he
   ·
    exact hc
   ·
    exact h0 e he
theorem put_ev {s1:Int} {c:Cell} (hM:Makes s P (p+1)) (hp:p+1≤420) (h3:1≤s3) (hc:rightC c=true) (hw:P c) (h:TreeI P p xs n ls) (hl:ls.length+2≤1000000) (hfull:(xs :: tl ls).any (hitC c.f0 c.f1 c.f2)=true∨(refAll (xs :: tl ls)).length≠400) :
  ∃ xs' n' ls',Ev (fun k=>tree_Tree_Put.f k s1 s s3 xs n ls c.f0 c.f1 c.f2 c.f3 c.f4) (xs',n',ls',0)∧TreeI P (p+1) xs' n' ls'∧refAll (xs' :: tl ls')=ins c (refAll (xs :: tl ls))∧ls'.length≤ls.length+2:=by
 obtain ⟨_,z1,_,z2,_⟩:=rightC_iff.1 hc
 have hf:=h.few
 have hI:TreeI P (p+1) (ins c xs) (sizeM (ins c xs)) ls:=⟨srt_ins hc h.srt,rfl,h.tab,by
  have:=h.tot
  have:=ins_length c xs
  rw [lensC_cons] at *
  omega,fun l hl d hd=>by
  rcases List.mem_cons.1 hl with rfl | hl
  ·
   exact (mem_ins hd).elim (fun e=>e▸hw) (h.wid xs List.mem_cons_self d)
  ·
   exact h.wid l (List.mem_cons_of_mem _ hl) d hd⟩
 have hrf:refAll (ins c xs :: tl ls)=ins c (refAll (xs :: tl ls)):=ref_ins h.srt.2 (ords_tail h.ords)
 have hput:=mem_Put_ev c h.srt h.siz (by omega)
 rw [if_pos hc] at hput
 have htail:∃ xs' n' ls',Ev (fun k=>tree_Tree_Put.tail k s1 s s3 xs n ls c.f0 c.f1 c.f2 c.f3 c.f4) (xs',n',ls',0)∧TreeI P (p+1) xs' n' ls'∧refAll (xs' :: tl ls')=ins c (refAll (xs :: tl ls))∧ls'.length≤ls.length+2:=by
  unfold tree_Tree_Put.tail
  by_cases hs:s1≤sizeM (ins c xs)
  ·
   obtain ⟨r,e1,e2,e3,e4⟩:=flush_ev hM (by omega) h3 hI (fun e=>by have:=ins_mem c xs;rw [e] at this;cases this) hl
   exact ⟨[],0,r,Ev.bind hput (Ev.pos hs (Ev.bind e1 (Ev.now _))),e2,e3.trans hrf,e4⟩
  ·
   exact ⟨ins c xs,sizeM (ins c xs),ls,Ev.bind hput (Ev.neg hs (Ev.now _)),hI,hrf,by omega⟩
 obtain ⟨xs',n',ls',e1,e2,e3,e4⟩:=htail
 refine ⟨xs',n',ls',?_,e2,e3,e4⟩
 unfold tree_Tree_Put.f
 rw [cell_Right_eq,show cellRight c.f0 c.f1 c.f2 c.f3 c.f4=true from hc]
 have hv:=has_ev h (by omega) c.f0 c.f1 c.f2 (by omega) (by omega)
 refine Ev.bind (Ev.now _) (Ev.pos rfl (Ev.bind hv ?_))
 cases hk:(xs :: tl ls).any (hitC c.f0 c.f1 c.f2) with
 | true=>exact Ev.pos rfl e1
 | false=>
  rw [hk] at hfull
  refine Ev.neg Bool.false_ne_true (Ev.bind (treeCells_ev h (by omega)) (Ev.neg ?_ e1))
  have:=hfull.resolve_left Bool.false_ne_true
  omega
end
def NewC (l:List Cell) (t:Int) (x:Cell):Prop:=x.f2≤t∧∀ y ∈ l,y.f0=x.f0→y.f1=x.f1→y.f2≤t→y.f2≤x.f2
instance (l:List Cell) (t:Int) (x:Cell):Decidable (NewC l t x):=by unfold NewC;infer_instance
def sameK (p c:Cell):Bool:=decide (p.f0=c.f0∧p.f1=c.f1)
def nwC (t:Int):Option Cell→Cell→Bool
 | none,_=>true
 | some p,c=>!(sameK p c) || decide (p.f2 > t)
theorem cc_key {a b:Cell} (h:cc a b = -1) (h0:a.f0=b.f0) (h1:a.f1=b.f1):b.f2<a.f2:=by
 rw [cc_same h0 h1,cmpN_lt] at h
 exact h
theorem cc_mid {x p c:Cell} (h1:cc x p = -1) (h2:cc p c = -1) (e0:x.f0=c.f0) (e1:x.f1=c.f1):p.f0=c.f0∧p.f1=c.f1:=by
 refine Classical.byContradiction fun hn=>?_
 have h:=cc_other (x:=p) (y:=x) (z:=c) e0 e1 (fun h=>hn ⟨h.1.trans e0,h.2.trans e1⟩)
 have:=cc_neg x p
 omega
theorem newC_split {a b:List Cell} {c:Cell} (t:Int) (h:OrdC (a++c :: b)) (ht:c.f2≤t):nwC t a.getLast? c=decide (NewC (a++c :: b) t c):=by
 obtain ⟨ha,hcb,hx⟩:=List.pairwise_append.1 h
 obtain ⟨hcb,_⟩:=List.pairwise_cons.1 hcb
 have hback:∀ y ∈ b,y.f0=c.f0→y.f1=c.f1→y.f2≤c.f2:=fun y hy e0 e1=>Int.le_of_lt (cc_key (hcb y hy) e0.symm e1.symm)
 rcases List.eq_nil_or_concat a with rfl | ⟨a',p,rfl⟩
 ·
  rw [eq_comm,show nwC t ([]:List Cell).getLast? c=true from rfl,decide_eq_true_iff]
  refine ⟨ht,fun y hy e0 e1 _=>?_⟩
  rcases List.mem_cons.1 hy with rfl | hy
  ·
   exact Int.le_refl _
  ·
   exact hback y hy e0 e1
 ·
  simp only [List.concat_eq_append] at *
  have hl:(a'++[p]).getLast? = some p:=by simp
  rw [hl]
  have hpc:cc p c = -1:=hx p (by simp) c (by simp)
  obtain ⟨_,_,hap⟩:=List.pairwise_append.1 ha
  cases hn:nwC t (some p) c with
  | true=>
   rw [eq_comm,decide_eq_true_iff]
   refine ⟨ht,fun y hy e0 e1 hyt=>?_⟩
   rcases List.mem_append.1 hy with hy | hy
   ·
    exfalso
    unfold nwC sameK at hn
    have hp:p.f0=c.f0∧p.f1=c.f1∧p.f2≤t:=by
     rcases List.mem_append.1 hy with hy | hy
     ·
      have h1:=hap y hy p (by simp)
      have h2:=cc_mid h1 hpc e0 e1
      have:=cc_key h1 (e0.trans h2.1.symm) (e1.trans h2.2.symm)
      exact ⟨h2.1,h2.2,by omega⟩
     ·
      obtain rfl:=List.mem_singleton.1 hy
      exact ⟨e0,e1,hyt⟩
    simp only [Bool.or_eq_true,Bool.not_eq_true',decide_eq_false_iff_not,decide_eq_true_iff] at hn
    rcases hn with hn | hn
    ·
     exact hn ⟨hp.1,hp.2.1⟩
    ·
     omega
   ·
    rcases List.mem_cons.1 hy with rfl | hy
    ·
     exact Int.le_refl _
    ·
     exact hback y hy e0 e1
  | false=>
   rw [eq_comm,decide_eq_false_iff_not]
   unfold nwC sameK at hn
   simp only [Bool.or_eq_false_iff,Bool.not_eq_false',decide_eq_true_iff,decide_eq_false_iff_not] at hn
   obtain ⟨⟨e0,e1⟩,h2⟩:=hn
   intro hN
   have h3:=hN.2 p (by simp) e0 e1 (by omega)
   have h4:=cc_key hpc e0 e1
   omega
def filtC (F:Bool→Cell→Bool) (t:Int):Option Cell→List Cell→List Cell
 | _,[]=>[]
 | p,c :: l=>if F (nwC t p c) c=true then c :: filtC F t (some c) l else filtC F t (some c) l
theorem filtC_eq (F:Bool→Cell→Bool) (t:Int) (hF:∀ c:Cell,¬ c.f2≤t→F true c=F false c):∀ (b a:List Cell),OrdC (a++b)→filtC F t a.getLast? b=b.filter (fun c=>F (decide (NewC (a++b) t c)) c)
 | [],_,_=>rfl
 | c :: b,a,h=>by
  have ih:=filtC_eq F t hF b (a++[c]) (by simpa using h)
  rw [show (a++[c]).getLast? = some c by simp,show a++[c]++b=a++c :: b by simp] at ih
  have he:F (nwC t a.getLast? c) c=F (decide (NewC (a++c :: b) t c)) c:=by
   by_cases hc:c.f2≤t
   ·
    rw [newC_split t h hc]
   ·
    have h1:=hF c hc
    cases nwC t a.getLast? c<;>cases decide (NewC (a++c :: b) t c)<;>simp_all
  unfold filtC
  rw [List.filter_cons,he,ih]
def visF (t:Int) (n:Bool) (c:Cell):Bool:=decide (c.f2≤t) && (n && !c.f4)
def visC (l:List Cell) (t:Int):List Cell:=l.filter (fun c=>visF t (decide (NewC l t c)) c)
theorem filt_vis {l:List Cell} (t:Int) (h:OrdC l):filtC (visF t) t none l=visC l t:=
 filtC_eq (visF t) t (fun c hc=>by simp [visF,hc]) l [] h
theorem visC_sub (l:List Cell) (t:Int):(visC l t).Sublist l:=List.filter_sublist
theorem sm_eq (a b:Cell):merge_Visible.sm a b=sameK a b:=by
 unfold merge_Visible.sm sameK
 rw [Bool.eq_iff_iff,Bool.and_eq_true,beq_iff_eq,beq_iff_eq,decide_eq_true_iff]
 exact ⟨fun h=>⟨toList_inj h.1,toList_inj h.2⟩,fun h=>by rw [h.1,h.2];exact ⟨rfl,rfl⟩⟩
theorem at_vis {l:List Cell} {i:Nat} (h:i<l.length):merge_Visible.at_ l i=l[i]:=rdC_at l i h
theorem pre_filt (l:List Cell) (t:Int):∀ i,i≤l.length→merge_Visible.pre l t i++filtC (visF t) t (if i=0 then none else l[i - 1]?) (l.drop i)=filtC (visF t) t none l
 | 0,_=>by simp [merge_Visible.pre]
 | i+1,hi=>by
  have hlt:i<l.length:=hi
  have hk:merge_Visible.keep l t i=visF t (nwC t (if i=0 then none else l[i - 1]?) l[i]) l[i]:=by
   unfold merge_Visible.keep merge_Visible.nw visF
   rw [at_vis hlt]
   by_cases h0:i=0
   ·
    rw [if_pos h0,decide_eq_true h0]
    rfl
   ·
    rw [if_neg h0,decide_eq_false h0,at_vis (show i - 1<l.length by omega),List.getElem?_eq_getElem (show i - 1<l.length by omega),sm_eq]
    rfl
  have e:filtC (visF t) t (if i=0 then none else l[i - 1]?) (l[i] :: l.drop (i+1))=if visF t (nwC t (if i=0 then none else l[i - 1]?) l[i]) l[i]=true then l[i] :: filtC (visF t) t (some l[i]) (l.drop (i+1)) else filtC (visF t) t (some l[i]) (l.drop (i+1)):=rfl
  rw [←pre_filt l t i (by omega),List.drop_eq_getElem_cons hlt,e,if_neg (Nat.succ_ne_zero i),Nat.add_sub_cancel,List.getElem?_eq_getElem hlt,merge_Visible.pre,hk,at_vis hlt]
  generalize visF t (nwC t (if i=0 then none else l[i - 1]?) l[i]) l[i]=b
  cases b with
  | true=>rw [if_pos rfl,if_pos rfl,List.append_assoc];rfl
  | false=>rw [if_neg Bool.false_ne_true,if_neg Bool.false_ne_true,List.append_nil]
theorem merge_Visible_ev {l:List Cell} (t:Int) (hn:l.length≤1000000000) (h:OrdC l):Ev (fun k=>merge_Visible.f k l t) (visC l t):=by
 have e:=pre_filt l t l.length (Nat.le_refl _)
 rw [List.drop_length,show filtC (visF t) t (if l.length=0 then none else l[l.length - 1]?) []=[] from rfl,List.append_nil,filt_vis t h] at e
 exact Ev.pos (by omega) ((Ev.now _).to e)
section
variable {a b:ByteArray} {t:Int} {l m:List Cell}
theorem findC_some (h:OrdC l) {c:Cell}:findC a b t l=some c↔c ∈ l∧ofC a b t c=true∧∀ y ∈ l,ofC a b t y=true→y.f2≤c.f2:=by
 have hf:∀ {c:Cell},findC a b t l=some c→c ∈ l∧ofC a b t c=true∧∀ y ∈ l,ofC a b t y=true→y.f2≤c.f2:=fun {c} hc=>by
  obtain ⟨h0,p,q,rfl,h1⟩:=List.find?_eq_some_iff_append.1 hc
  obtain ⟨_,h2,_⟩:=List.pairwise_append.1 h
  obtain ⟨h3,_⟩:=List.pairwise_cons.1 h2
  refine ⟨by simp,h0,fun y hy hoy=>?_⟩
  rcases List.mem_append.1 hy with hy | hy
  ·
   have:=h1 y hy
   rw [hoy] at this
   cases this
  ·
   rcases List.mem_cons.1 hy with rfl | hy
   ·
    exact Int.le_refl _
   ·
    obtain ⟨e1,e2,_⟩:=ofC_iff.1 h0
    obtain ⟨g1,g2,_⟩:=ofC_iff.1 hoy
    exact Int.le_of_lt (cc_key (h3 y hy) (e1.trans g1.symm) (e2.trans g2.symm))
 refine ⟨hf,fun ⟨h1,h2,h3⟩=>?_⟩
 cases hc:findC a b t l with
 | none=>exact absurd h2 (List.find?_eq_none.1 hc c h1)
 | some d=>
  obtain ⟨g1,g2,g3⟩:=hf hc
  obtain ⟨e1,e2,_⟩:=ofC_iff.1 h2
  obtain ⟨k1,k2,_⟩:=ofC_iff.1 g2
  rw [ord_inj h g1 h1 (cc_zero.2 ⟨k1.trans e1.symm,k2.trans e2.symm,Int.le_antisymm (h3 d g1 g2) (g3 c h1 h2)⟩)]
def cmbC:Option Cell→Option Cell→Option Cell
 | none,y=>y
 | some x,none=>some x
 | some x,some y=>if x.f2<y.f2 then some y else some x
theorem cmbC_none (x:Option Cell):cmbC x none=x:=by cases x<;>rfl
theorem cmbC_assoc (x y z:Option Cell):cmbC (cmbC x y) z=cmbC x (cmbC y z):=by
 cases x with
 | none=>rfl
 | some x=>
  cases y with
  | none=>rfl
  | some y=>
   cases z with
   | none=>rw [cmbC_none,cmbC_none]
   | some z=>
    unfold cmbC
    by_cases h1:x.f2<y.f2<;>by_cases h2:y.f2<z.f2<;>by_cases h3:x.f2<z.f2<;>simp [h1,h2,h3]<;>omega
theorem find_merge (hl:OrdC l) (hm:OrdC m):findC a b t (l.foldl (fun o c=>ins c o) m)=cmbC (findC a b t l) (findC a b t m):=by
 have hr:=ord_foldl l hm
 have hmem:=fun c=>mem_foldl_iff (c:=c) hl hm
 cases hx:findC a b t l with
 | none=>
  have hno:∀ x ∈ l,¬ ofC a b t x=true:=List.find?_eq_none.1 hx
  show _=findC a b t m
  cases hy:findC a b t m with
  | none=>
   refine List.find?_eq_none.2 fun z hz=>?_
   rcases (hmem z).1 hz with h | h
   ·
    exact hno z h
   ·
    exact List.find?_eq_none.1 hy z h.1
  | some y=>
   obtain ⟨h1,h2,h3⟩:=(findC_some hm).1 hy
   refine (findC_some hr).2 ⟨(hmem y).2 (.inr ⟨h1,fun d hd hc=>hno d hd ?_⟩),h2,fun z hz ho=>?_⟩
   ·
    obtain ⟨e1,e2,e3⟩:=cc_zero.1 hc
    obtain ⟨k1,k2,k3⟩:=ofC_iff.1 h2
    exact ofC_iff.2 ⟨e1.trans k1,e2.trans k2,by omega⟩
   ·
    rcases (hmem z).1 hz with h | h
    ·
     exact absurd ho (hno z h)
    ·
     exact h3 z h.1 ho
 | some x=>
  obtain ⟨h1,h2,h3⟩:=(findC_some hl).1 hx
  have hxin:x ∈ l.foldl (fun o c=>ins c o) m:=(hmem x).2 (.inl h1)
  have keep:(∀ y ∈ m,ofC a b t y=true→y.f2≤x.f2)→findC a b t (l.foldl (fun o c=>ins c o) m)=some x:=fun hk=>(findC_some hr).2 ⟨hxin,h2,fun z hz ho=>by
   rcases (hmem z).1 hz with h | h
   ·
    exact h3 z h ho
   ·
    exact hk z h.1 ho⟩
  cases hy:findC a b t m with
  | none=>exact keep (fun y hy1 ho=>absurd ho (List.find?_eq_none.1 hy y hy1))
  | some y=>
   obtain ⟨g1,g2,g3⟩:=(findC_some hm).1 hy
   show _=if x.f2<y.f2 then some y else some x
   by_cases hlt:x.f2<y.f2
   ·
    rw [if_pos hlt]
    refine (findC_some hr).2 ⟨(hmem y).2 (.inr ⟨g1,fun d hd hc=>?_⟩),g2,fun z hz ho=>?_⟩
    ·
     obtain ⟨e1,e2,e3⟩:=cc_zero.1 hc
     obtain ⟨k1,k2,k3⟩:=ofC_iff.1 g2
     have:=h3 d hd (ofC_iff.2 ⟨e1.trans k1,e2.trans k2,by omega⟩)
     omega
    ·
     rcases (hmem z).1 hz with h | h
     ·
      have:=h3 z h ho
      omega
     ·
      exact g3 z h.1 ho
   ·
    rw [if_neg hlt]
    exact keep (fun z hz ho=>by have:=g3 z hz ho;omega)
theorem find_all (a b:ByteArray) (t:Int):∀ (L:List (List Cell)) (z:Option Cell),OrdsC L→L.foldl (fun z l=>cmbC z (findC a b t l)) z=cmbC z (findC a b t (refAll L))
 | [],z,_=>(cmbC_none z).symm
 | l :: L,z,h=>by
  rw [List.foldl_cons,find_all a b t L _ (ords_tail h),cmbC_assoc,← find_merge (ords_iff.1 h l List.mem_cons_self) (refAll_ord (ords_tail h))]
  rfl
end
def valC (z:Option Cell):Cell:=z.getD tree_Tree_Get.z0
section
variable {P:Cell→Prop} {p:Nat} {xs:List Cell} {n:Int} {ls:List (List Tab)} {a b:ByteArray} {t:Int}
theorem next_val (z:Option Cell) {l:List Cell} (hl:RightsC l):tree_Tree_Get_1.next (valC z) ⟨(tupC (findC a b t l)).1,(tupC (findC a b t l)).2.1,(tupC (findC a b t l)).2.2.1,(tupC (findC a b t l)).2.2.2.1,(tupC (findC a b t l)).2.2.2.2.1⟩ (tupC (findC a b t l)).2.2.2.2.2=valC (cmbC z (findC a b t l)):=by
 unfold tree_Tree_Get_1.next
 cases hf:findC a b t l with
 | none=>
  rw [cmbC_none]
  exact if_neg (fun h=>Bool.false_ne_true h.1)
 | some c=>
  show (if true=true∧(valC z).f2<c.f2 then c else valC z)=_
  have h0:0≤c.f2:=(rightC_iff.1 (hl c (List.mem_of_find?_eq_some hf))).2.2.2.2.1
  cases z with
  | none=>exact if_pos ⟨rfl,show (-1:Int)<c.f2 by omega⟩
  | some x=>
   show (if true=true∧x.f2<c.f2 then c else x)=valC (if x.f2<c.f2 then some c else some x)
   by_cases h:x.f2<c.f2
   ·
    rw [if_pos ⟨rfl,h⟩,if_pos h];rfl
   ·
    rw [if_neg (fun hh=>h hh.2),if_neg h];rfl
theorem val_stay {z:Option Cell} (hz:(valC z).f2=min t 4294967295):∀ {L:List (List Cell)},(∀ l ∈ L,RightsC l)→L.foldl (fun z l=>cmbC z (findC a b t l)) z=z
 | [],_=>rfl
 | l :: L,h=>by
  have hs:cmbC z (findC a b t l)=z:=by
   cases hf:findC a b t l with
   | none=>exact cmbC_none z
   | some c=>
    have hr:=rightC_iff.1 (h l List.mem_cons_self c (List.mem_of_find?_eq_some hf))
    have ht:=(ofC_iff.1 (List.find?_some hf)).2.2
    have h1:c.f2≤min t 4294967295:=by omega
    cases z with
    | none=>
     have h2:(-1:Int)=min t 4294967295:=hz
     omega
    | some x=>
     have h2:x.f2=min t 4294967295:=hz
     exact if_neg (by omega)
  rw [List.foldl_cons,hs]
  exact val_stay hz (fun l hl=>h l (List.mem_cons_of_mem _ hl))
theorem get_l1 (ha:a.size≤10000) (hb:b.size≤10000):∀ (l:List Tab) (z:Option Cell),(∀ x ∈ l,TabOk x)→∃ f,Ev (fun k=>tree_Tree_Get.l1 k a b t l (valC z)) (valC ((l.map (fun x=>x.1)).foldl (fun z l=>cmbC z (findC a b t l)) z),f)∧(f=true→(valC ((l.map (fun x=>x.1)).foldl (fun z l=>cmbC z (findC a b t l)) z)).f2=min t 4294967295)
 | [],z,_=>⟨false,Ev.now _,fun h=>by cases h⟩
 | x :: l,z,h=>by
  have hx:=h x List.mem_cons_self
  have hg:=hx.get a b t ha hb
  have hr:∀ y ∈ l.map (fun x=>x.1),RightsC y:=fun y hy=>by
   obtain ⟨u,hu,rfl⟩:=List.mem_map.1 hy
   exact (h u (List.mem_cons_of_mem _ hu)).srt.1
  rw [List.map_cons,List.foldl_cons]
  by_cases e:(valC (cmbC z (findC a b t x.1))).f2=min t 4294967295
  ·
   refine ⟨true,?_,fun _=>by rw [val_stay e hr];exact e⟩
   rw [val_stay e hr]
   unfold tree_Tree_Get.l1
   refine Ev.bind hg ?_
   rw [next_val z hx.srt.1]
   exact Ev.pos (by rw [e];exact beq_self_eq_true _) (Ev.now _)
  ·
   obtain ⟨f,h1,h2⟩:=get_l1 ha hb l (cmbC z (findC a b t x.1)) (fun y hy=>h y (List.mem_cons_of_mem _ hy))
   refine ⟨f,?_,h2⟩
   unfold tree_Tree_Get.l1
   refine Ev.bind hg ?_
   rw [next_val z hx.srt.1]
   exact Ev.neg (fun hh=>e (eq_of_beq hh)) h1
theorem get_l0 (ha:a.size≤10000) (hb:b.size≤10000):∀ (ls:List (List Tab)) (z:Option Cell),(∀ l ∈ ls,∀ x ∈ l,TabOk x)→Ev (fun k=>tree_Tree_Get.l0 k a b t ls (valC z)) (valC ((tl ls).foldl (fun z l=>cmbC z (findC a b t l)) z))
 | [],z,_=>Ev.now _
 | l :: ls,z,h=>by
  obtain ⟨f,h1,h2⟩:=get_l1 (t:=t) ha hb l z (h l List.mem_cons_self)
  have hr:∀ y ∈ tl ls,RightsC y:=fun y hy=>by
   obtain ⟨u,hu,rfl⟩:=List.mem_map.1 hy
   obtain ⟨v,hv,hu⟩:=List.mem_flatten.1 hu
   exact (h v (List.mem_cons_of_mem _ hv) u hu).srt.1
  rw [tl_cons,List.foldl_append]
  unfold tree_Tree_Get.l0
  refine Ev.bind h1 ?_
  cases f with
  | true=>
   refine Ev.pos rfl ?_
   rw [val_stay (h2 rfl) hr]
   exact Ev.now _
  | false=>exact Ev.neg Bool.false_ne_true (get_l0 ha hb ls _ (fun l hl=>h l (List.mem_cons_of_mem _ hl)))
theorem treeGet_ev (h:TreeI P p xs n ls) (hp:p≤900) (ha:a.size≤10000) (hb:b.size≤10000):Ev (fun k=>tree_Tree_Get.f k xs ls a b t) (valC (findC a b t (refAll (xs :: tl ls)))):=by
 have hf:=h.few
 have hn:=cell_Newest_ev (l:=xs) a b t h.srt.2 (by omega)
 have hr:∀ y ∈ tl ls,RightsC y:=fun y hy=>by
  obtain ⟨u,hu,rfl⟩:=List.mem_map.1 hy
  exact (h.ok u hu).srt.1
 have e:findC a b t (refAll (xs :: tl ls))=(tl ls).foldl (fun z l=>cmbC z (findC a b t l)) (findC a b t xs):=(find_all a b t (xs :: tl ls) none h.ords).symm
 have e1:=next_val (a:=a) (b:=b) (t:=t) none h.srt.1
 rw [e]
 unfold tree_Tree_Get.f
 refine Ev.bind hn ?_
 rw [show tree_Tree_Get.z0=valC none from rfl,e1]
 by_cases hz:(valC (findC a b t xs)).f2=min t 4294967295
 ·
  rw [val_stay hz hr]
  exact Ev.pos (by rw [show cmbC none (findC a b t xs)=findC a b t xs from rfl,hz];exact beq_self_eq_true _) (Ev.now _)
 ·
  exact Ev.neg (fun hh=>hz (eq_of_beq hh)) (get_l0 ha hb ls _ h.tab)
theorem treeScan_ev (h:TreeI P p xs n ls) (hp:p≤900):Ev (fun k=>tree_Tree_Scan.f k xs ls a b t) ((visC (refAll (xs :: tl ls)) t).filter (tree_Tree_Scan.keep a b)):=by
 have hl:=refAll_length (xs :: tl ls)
 have ht:=h.tot
 have hv:=List.Sublist.length_le (visC_sub (refAll (xs :: tl ls)) t)
 unfold tree_Tree_Scan.f
 exact Ev.bind (treeCells_ev h hp) (Ev.bind (merge_Visible_ev t (by omega) (refAll_ord h.ords)) (Ev.pos (by omega) (Ev.now _)))
end
theorem ref_CRight_eq (r c:ByteArray) (t:Int) (v:ByteArray) (g:Bool):shardlogref08_Right.f r c t v g=some (cellRight r c t v g):=by
 unfold shardlogref08_Right.f
 simp only [toList_nil]
 split
 ·
  exact some_bool (by rw [cellRight_iff];simp only [Bool.false_eq_true,false_iff];omega)
 split
 ·
  exact some_bool (by rw [cellRight_iff];simp only [Bool.false_eq_true,false_iff];omega)
 split
 ·
  exact some_bool (by rw [cellRight_iff];simp only [Bool.false_eq_true,false_iff];omega)
 split
 ·
  exact some_bool (by rw [cellRight_iff];simp only [Bool.false_eq_true,false_iff];omega)
 split
 ·
  exact some_bool (by rw [cellRight_iff];simp only [Bool.false_eq_true,false_iff];omega)
 split
 ·
  exact some_bool (by rw [cellRight_iff];simp only [Bool.false_eq_true,false_iff];omega)
 split
 ·
  split
  ·
   exact some_bool (by rename_i h;rw [cellRight_iff,decide_eq_true_iff];exact ⟨fun hz=>⟨by omega,by omega,by omega,by omega,by omega,by omega,by omega,.inr hz⟩,fun hh=>hh.2.2.2.2.2.2.2.elim (fun e=>by rw [h] at e;cases e) id⟩)
  ·
   exact some_bool (by rename_i h;rw [cellRight_iff];exact ⟨fun _=>⟨by omega,by omega,by omega,by omega,by omega,by omega,by omega,.inl (by simpa using h)⟩,fun _=>rfl⟩)
 ·
  exact some_bool (by rw [cellRight_iff];simp only [Bool.false_eq_true,false_iff];omega)
def fewC (l:List Cell):Bool:=decide (l.length≤80) && l.all rightC
theorem fewC_iff {l:List Cell}:fewC l=true↔l.length≤80∧RightsC l:=by
 unfold fewC RightsC
 rw [Bool.and_eq_true,decide_eq_true_iff,List.all_eq_true]
theorem ref_Few_l0 (l:List Cell) (hn:l.length≤1000000000) (d:Nat):∀ i:Nat,i≤l.length→l.length - i=d→Ev (fun k=>shardlogref08_Few.l0 k l (i:Int)) ((l.drop i).all rightC):=by
 induction d with
 | zero=>
  intro i hi hd
  rw [List.drop_eq_nil_of_le (by omega)]
  refine Ev.step (f:=fun _=>some true) (fun k=>?_) (Ev.now _)
  simp only [shardlogref08_Few.l0]
  rw [if_neg (by omega)]
 | succ d ih=>
  intro i hi hd
  have hlt:i<l.length:=by omega
  rw [List.drop_eq_getElem_cons hlt,List.all_cons]
  have hr:=rdC_at l i hlt
  unfold rdC at hr
  have hk:∀ k,shardlogref08_Few.l0 (k+1) l (i:Int)=if rightC l[i]=true then shardlogref08_Few.l0 k l ((i+1:Nat):Int) else some false:=by
   intro k
   simp only [shardlogref08_Few.l0]
   rw [if_pos (by omega),if_pos (by omega),hr,ref_CRight_eq,w64 (by omega) (by omega)]
   rfl
  cases hc:rightC l[i] with
  | true=>
   refine Ev.step (f:=fun k=>shardlogref08_Few.l0 k l ((i+1:Nat):Int)) (fun k=>by rw [hk,if_pos hc]) ?_
   rw [Bool.true_and]
   exact ih (i+1) (by omega) (by omega)
  | false=>exact Ev.step (f:=fun _=>some false) (fun k=>by rw [hk,if_neg (by rw [hc];exact Bool.false_ne_true)]) (Ev.now _)
theorem ref_Few_ev {l:List Cell}:Ev (fun k=>shardlogref08_Few.f k l) (fewC l):=by
 unfold shardlogref08_Few.f fewC
 by_cases h:l.length≤80
 ·
  rw [decide_eq_true h,Bool.true_and]
  refine Ev.neg (by omega) ?_
  have:=ref_Few_l0 l (by omega) l.length 0 (by omega) (by omega)
  rw [List.drop_zero] at this
  exact this
 ·
  rw [decide_eq_false h,Bool.false_and]
  exact Ev.pos (by omega) (Ev.now _)
theorem sameC_l0 (l:List Cell) (hl:l.length≤1000000000) (d:Nat):∀ i:Nat,i≤l.length→l.length - i=d→Ev (fun k=>shardlogref08_Same.l0 k l l (i:Int)) true:=by
 induction d with
 | zero=>
  intro i hi hd
  refine Ev.step (f:=fun _=>some true) (fun k=>?_) (Ev.now _)
  simp only [shardlogref08_Same.l0]
  rw [if_neg (by omega)]
 | succ d ih=>
  intro i hi hd
  refine Ev.step (f:=fun k=>shardlogref08_Same.l0 k l l ((i+1:Nat):Int)) (fun k=>?_) (ih (i+1) (by omega) (by omega))
  simp only [shardlogref08_Same.l0]
  rw [if_pos (by omega),if_pos (by omega),if_pos (by omega),if_neg (by simp),w64 (by omega) (by omega)]
  rfl
theorem sameC_ev {l m:List Cell} (e:l=m) (hl:l.length≤1000000000):Ev (fun k=>shardlogref08_Same.f k l m) true:=by
 subst e
 unfold shardlogref08_Same.f
 exact Ev.pos rfl (sameC_l0 l hl l.length 0 (by omega) (by omega))
end Go.Proofs.Ytcbhfedcdnjljaa.Pl

/- Words of this session's own, of no program: what a conversion of a string to bytes makes, and the contract of slices.Clone, for whatever kind of element. -/
import Derived.Test.YtcbhfedcdnjljaaWMore
import Derived.Test.YtcbhfedcdnjljaaWLast
import Derived.Lib.ConvBytes
import Derived.Lib.SlBytesConst
import Derived.WalkSpells
namespace Go.Proofs.YtcbhfedcdnjljaaW.PrintWords
open Go.RowKit
theorem lsa.{u}:type_of% @List.setIfInBounds_toArray.{u}:=@List.setIfInBounds_toArray
theorem lsz.{u}:type_of% @List.set_cons_zero.{u}:=@List.set_cons_zero
theorem lss.{u}:type_of% @List.set_cons_succ.{u}:=@List.set_cons_succ
theorem aS:type_of% @Aside0.mk:=@Aside0.mk
theorem bal:type_of% @below_alloc:=@below_alloc
theorem bdN:type_of% @pw_below_drewN:=@pw_below_drewN
theorem bdo:type_of% @below_drew1:=@below_drew1
theorem wbl:type_of% @World.block_lt_of_cell?:=@World.block_lt_of_cell?
theorem llt.{u}:type_of% @List.length_take.{u}:=@List.length_take
theorem lld.{u}:type_of% @List.length_drop.{u}:=@List.length_drop
theorem obm.{u,v} {α:Type u} {β:Type v} {x:Option α} {f:α→Option β} {b:β} (h:x.bind f=some b):∃ a,x=some a∧f a=some b:=Option.bind_eq_some_iff.mp h
theorem cut_to3 {P:Program} (t e:TypeId) (kh:IntKind) {i:TypeInfo} (ht:P.underlying t=some (.slice e)) (hi:P.info? e=some i) (A:Option Addr) (n c:Nat) (j:Int) (h0:0≤j) (hm:j≤n) (hc:n≤c) :
  ∀ W:World,(Instr.slice t (.slice A n c) none (some (.int kh j)) (some (.int kh j))).run P W = .ok (.slice A j.toNat j.toNat) W:=by
 intro W
 have hel:P.elem t=e:=by simp [Program.elem,ht]
 have hu:P.underlying t=some (.slice (P.elem t)):=by rw [hel];exact ht
 have ha:(A.map fun x=>x.add 0)=A:=by cases A<;>simp [Addr.add]
 have h1:j≤(c:Int):=by omega
 have h2:j≤max j 0:=by omega
 go_simp
 simp [sizeOf,typeInfo,hi,Result.andThen]
theorem less_total:∀ a b:List UInt8,(!(Op.bytesLess a b || a == b))=Op.bytesLess b a
 | [],[]=>rfl
 | [],_ :: _=>rfl
 | _ :: _,[]=>rfl
 | x :: a,y :: b=>by
  have ih:=less_total a b
  simp only [Op.bytesLess,← ih]
  by_cases h1:x<y
  ·
   have h2:¬ y<x:=fun h=>absurd (UInt8.lt_trans h1 h) (UInt8.lt_irrefl x)
   have h3:¬ y=x:=fun h=>by rw [h] at h1;exact UInt8.lt_irrefl x h1
   simp [h1,h2,h3]
  ·
   by_cases h2:y<x
   ·
    have h3:¬ x=y:=fun h=>by rw [h] at h2;exact UInt8.lt_irrefl y h2
    simp [h1,h2,h3]
   ·
    have h3:x=y:=UInt8.le_antisymm (UInt8.not_lt.1 h2) (UInt8.not_lt.1 h1)
    subst h3
    simp [h1]
theorem gtr_str (t:TypeId) (a b:ByteArray):binOp .gtr t (.string a) (.string b)=pure (.bool (Op.bytesLess b.toList a.toList)):=by
 rw [←less_total]
 simp [binOp,Op.stringOp]
def lenSum {α:Type} (l:List (List α)):Nat:=(l.map List.length).sum
theorem lenSum_take {α:Type} (l:List (List α)) (k:Nat) (h:k<l.length):lenSum (l.take (k+1))=lenSum (l.take k)+(l.getD ((k:Int).toNat) []).length:=by
 unfold lenSum
 rw [List.take_succ_eq_append_getElem h,List.map_append,List.sum_append,Int.toNat_natCast,List.getD_eq_getElem?_getD,List.getElem?_eq_getElem h]
 simp
theorem lenSum_le {α:Type} (l:List (List α)) (k:Nat):lenSum (l.take k)≤lenSum l:=by
 unfold lenSum
 conv=>rhs;rw [←List.take_append_drop k l]
 rw [List.map_append,List.sum_append]
 omega
theorem flat_length {α:Type} (l:List (List α)):l.flatten.length=lenSum l:=by simp [lenSum,List.length_flatten]
theorem flat_take {α:Type} (l:List (List α)) (k:Nat) (h:k<l.length):(l.take (k+1)).flatten=(l.take k).flatten++l.getD ((k:Int).toNat) []:=by
 rw [List.take_succ_eq_append_getElem h,List.flatten_append,Int.toNat_natCast,List.getD_eq_getElem?_getD,List.getElem?_eq_getElem h]
 simp
theorem below_setRow {B:Nat} {a w:World} (h:Below B a w) {g:Nat} (hg:B≤g) (cs:Array Value):Below B a (w.setRow g cs):=
 h.trans ⟨rfl,rfl,rfl,by simp,fun k hk=>setRow_other w g k cs (by omega)⟩
namespace Kd
theorem C_bytesWorld (w:World) (e:TypeId) (s:ByteArray) (hs:s.size≤9223372036854775807):(Kd.int .u8).C (Lib.bytesWorld w e s) (some ⟨w.heap.size,0,none⟩) (bytesOf s).length (bytesOf s):=by
 refine ⟨rfl,by rw [bytesOf_length];exact hs,fun _=>⟨_,rfl,fun j p hj=>?_⟩⟩
 have hj1:j<s.size:=by rw [←bytesOf_length];exact (List.getElem?_eq_some_iff.1 hj).1
 refine ⟨[.int .u8 p],rfl,rfl,fun i u hi=>?_⟩
 have hi0:i=0:=by have:=(List.getElem?_eq_some_iff.1 hi).1;simp at this;omega
 subst hi0
 have hu:u = .int .u8 p:=by simpa using hi.symm
 subst hu
 show (Lib.bytesWorld w e s).cell? (Addr.add ⟨w.heap.size,0,none⟩ (j*1+0))=_
 have ha:Addr.add ⟨w.heap.size,0,none⟩ (j*1+0)=⟨w.heap.size,j,none⟩:=by
  unfold Addr.add
  by_cases h0:j=0<;>simp [h0]
 rw [ha,Lib.bytesWorld_cell w e s j hj1]
 have hp:p=((s.data.toList.getD j 0).toNat:Int):=by
  rw [bytesOf,List.getElem?_map] at hj
  have hd:s.data.toList[j]? = some (s.data.toList.getD j 0):=by
   rw [List.getD_eq_getElem?_getD,List.getElem?_eq_getElem (by rw [data_length];exact hj1)]
   rfl
  rw [hd] at hj
  simpa using hj.symm
 rw [hp]
theorem below_bytesWorld (w:World) (e:TypeId) (s:ByteArray):Below w.heap.size w (Lib.bytesWorld w e s):=by
 have h1:=below_alloc (below_drew (Below.refl w.heap.size w)) (.cells (Lib.bytesCells w e s) e)
 exact ⟨h1.os,h1.tape,h1.output,by rw [Lib.bytesWorld_size];omega,fun k hk=>Lib.bytesWorld_at_old w e s k hk⟩

theorem run_bytes {P:Program} (W:World) (src t e:TypeId) (s:ByteArray) {u:TypeDesc} (hs:P.underlying src=some u) (ht:P.underlying t=some (.slice e)) (he:P.underlying e=some (.int .u8)) (hm:s.size≤9223372036854775807) :
  ∃ v1 w1,(convert src t (.string s)).run P W = .ok v1 w1∧V (Kd.int .u8) e w1 W.heap.size (fun k=>W.heap.size≤k) v1 (bytesOf s)∧Below W.heap.size W w1:=by
 refine ⟨_,_,Lib.run_convert_string_bytes W src t e s hs ht he,?_,below_bytesWorld W e s⟩
 refine ⟨some ⟨W.heap.size,0,none⟩,grownCap W s.size 0 e,by rw [bytesOf_length],?_,?_⟩
 ·
  rw [bytesOf_length];exact grownCap_ge W s.size 0 e
 ·
  intro W' hW
  have h0:=C_bytesWorld W e s hm
  refine ⟨h0.1,h0.2.1,fun hp=>?_⟩
  obtain ⟨ad,e1,hc⟩:=h0.2.2 hp
  refine ⟨ad,e1,fun j p hj=>?_⟩
  obtain ⟨c,h1,h2,h3⟩:=hc j p hj
  refine ⟨c,h1,h2,fun i u hu=>?_⟩
  rw [←h3 i u hu]
  cases e1
  refine World.cell?_of_block (hW _ ?_ ?_)
  ·
   rw [add_block];exact Nat.le_refl _
  ·
   rw [add_block,Lib.bytesWorld_size];exact Nat.lt_succ_self _
open Go.Proofs.YtcbhfedcdnjljaaW.PrintLast in
theorem goesV_ {P : Program} {ops : Array Oper} {Q : Exit → Act → World → Prop} {oi : Oper} {N : Option Tmp} {a : Act} {w : World} {K : Act → World → Prop} {f : FuncId} {fn : Func} {x : Operand} {as : Array Operand} {ts : Array TypeId} (hf : P.funcs[f]? = some fn) (hname : (fn.name == "runtime.NumGoroutine") = false) (hb : fn.body.isSome = true) (args : Array Value)
  (hw:Region.wanted oi (yielded ops a.tmps)=true) (hN:oi.dst=N) (hop:oi.op = .call { callee:=.value x,args:=as,argTypes:=ts }) (hx:a.eval x = .func (.func f) #[] #[]) (hargs:as.map a.eval=args)
  (h:Calls P f args w fun e w'=>∃ v,e = .returned v∧K (a.put N v) w'):if Region.wanted oi (yielded ops a.tmps)=true then Oper.wp P oi a w K Q else K (a.put N undef) w:=by
 refine call_ f args hw hN ?_ h
 have he:=enters_ hf hname hb args w
 unfold execOp
 simp [hop,resolve,Deferred.ofValue,invoke,hx,hargs,he]
section
variable {P:Program} {ops:Array Oper} {rest:List Oper} {o:Oper} {a:Act} {Q:Exit→Act→World→Prop} {Kc:Act→World→Prop}
theorem V_bytes {W:World} (hgd:o.guard=none) {N:Tmp} (_hd:o.dst=some N) (src t e:TypeId) (x:Operand) (s:ByteArray) (ho:o.op = .convert src t x) (hx:a.eval x = .string s) {u:TypeDesc}
  (hs:P.underlying src=some u) (ht:P.underlying t=some (.slice e)) (he:P.underlying e=some (.int .u8)) (hm:s.size≤9223372036854775807)
  (h:∀ v1 w1,V (Kd.int .u8) e w1 W.heap.size (fun k=>W.heap.size≤k) v1 (bytesOf s)→Below W.heap.size W w1→wpList P ops Q rest (a.put o.dst v1) w1):wpList P ops Q (o :: rest) a W:=by
 obtain ⟨v1,w1,hr,hv,hb⟩:=run_bytes (P:=P) W src t e s hs ht he hm
 refine event_run hgd (v:=v1) (w1:=w1) ?_ (h _ _ hv hb)
 simp only [execOp,ho,hx]
 rw [Sem.run_bind,hr]
 rfl
end
end Kd
end Go.Proofs.YtcbhfedcdnjljaaW.PrintWords

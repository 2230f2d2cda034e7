/- Words of this session's own, of no program: slices.Insert with one element: what its copies do to a row of elements of whatever size. -/
import Derived.Test.YtcbhfedcdnjljaaWOwn
import Derived.Lib.Overlaps
import Derived.Lib.AppendZerosOnto
import Derived.Shelf.Spec.SlicesInsert
namespace Go.Proofs.YtcbhfedcdnjljaaW.PrintWords
open Go.RowKit
theorem run_copy_row {P:Program} (w:World) (dT sT ty elem:TypeId) (b o dLen dCap sz:Nat) (a:Addr) (sLen sCap:Nat) (cs:List Value)
  (hu:P.underlying dT=some (.slice elem)) (hs:(P.info? elem).map (·.size)=some sz) (hn:cs.length=Nat.min sLen dLen*sz)
  (hsrc:∀ j v,cs[j]? = some v→w.cell? (a.add j)=some v) (hc:∀ j,j<cs.length→(w.cell? ⟨b,o+j,none⟩).isSome=true) (hf:∀ j,j<cs.length→w.frozen? ⟨b,o+j,none⟩=false) (h1:∀ v ∈ cs,v.oneCell'=true) :
  (Builtin.copy_ #[dT,sT] ty #[.slice (some ⟨b,o,none⟩) dLen dCap,.slice (some a) sLen sCap]).run P w = .ok (goInt (Nat.min sLen dLen)) (w.setCells b o cs):=by
 have hl:=run_loadCells_list (P:=P) w a cs hsrc
 have hst:=run_storeCells_cells (P:=P) b o cs 0 w (by simpa using hc) (by simpa using hf) h1
 cases hq:P.info? elem with
 | none=>simp [hq] at hs
 | some i=>
  have hi:i.size=sz:=by simpa [hq] using hs
  rw [hn] at hl
  simp [Builtin.copy_,run_underlying hu,Builtin.lenOf,Builtin.firstCells,sizeOf,typeInfo,hq,hi,hl,hst]
theorem run_copy_blk {P:Program} (w:World) (dT sT ty elem:TypeId) (g o dLen dCap sz:Nat) (a:Addr) (sLen sCap:Nat) (cs:List Value) {cur:Array Value} {e:TypeId}
  (hu:P.underlying dT=some (.slice elem)) (hs:(P.info? elem).map (·.size)=some sz) (hn:cs.length=Nat.min sLen dLen*sz)
  (hsrc:∀ j v,cs[j]? = some v→w.cell? (a.add j)=some v) (hg:w.heap[g]? = some (.cells cur e (0,0))) (hfit:o+cs.length≤cur.size) (h1:∀ v ∈ cs,v.oneCell'=true) :
  (Builtin.copy_ #[dT,sT] ty #[.slice (some ⟨g,o,none⟩) dLen dCap,.slice (some a) sLen sCap]).run P w = .ok (goInt (Nat.min sLen dLen)) (w.setCells g o cs):=
 run_copy_row w dT sT ty elem g o dLen dCap sz a sLen sCap cs hu hs hn hsrc (fun j hj=>by rw [cell_of_row w g _ cur e (0,0) hg,Array.getElem?_eq_getElem (by omega)];rfl) (fun j _=>blk_frozen hg _) h1
theorem row_one {α:Type} {d:Kd α} {w:World} {base:Nat} {ok:Nat→Prop} {xs:List α} {inner:List Value} (hr:Reps (d.M w base ok) d.sz xs inner):∀ u ∈ inner,u.oneCell'=true:=by
 intro u hu
 obtain ⟨q,hq,rfl⟩:=List.mem_iff_getElem.1 hu
 have hs0:0<d.sz:=by
  rcases Nat.eq_zero_or_pos d.sz with h | h
  ·
   rw [hr.1,h,Nat.mul_zero] at hq;omega
  ·
   exact h
 have hql:q / d.sz<xs.length:=by
  rw [Nat.div_lt_iff_lt_mul hs0,← hr.1]
  exact hq
 refine d.K_one (d.K_of_M (hr.2 (q / d.sz) _ (List.getElem?_eq_getElem hql))) _ ?_
 rw [List.mem_iff_getElem?]
 refine ⟨q % d.sz,?_⟩
 rw [List.getElem?_take,if_pos (Nat.mod_lt _ hs0),List.getElem?_drop,Nat.mul_comm,Nat.div_add_mod,List.getElem?_eq_getElem hq]
theorem M_free {α:Type} {d:Kd α} (hE:d.E=[]) {w w1:World} {base:Nat} {ok ok':Nat→Prop} {x:α} {cs:List Value} (h:d.M w base ok x cs):d.M w1 base ok' x cs:=by
 have h1:=d.M_bound h
 rw [hE] at h1
 have hno:∀ k,(ok k∧base≤k∧k<w.heap.size∧∃ q,q ∈ ([]:List Nat)∧∃ cells,w.heap[k]? = some (.cells cells q (0,0)))→False:=by
  rintro k ⟨_,_,_,q,hq,_⟩
  cases hq
 exact d.M_mono (fun k hk=>(hno k hk).elim) (d.M_move (w1:=w1) (fun k hk=>(hno k hk).elim) h1)
theorem R_ins {α:Type} {d:Kd α} (hE:d.E=[]) {e base g cap:Nat} {w w1:World} {ok ok' okp:Nat→Prop} {xs:List α} {p:α} {inner cs:List Value} {i:Nat} (hr:Reps (d.M w base ok) d.sz xs inner) (hp:d.M w base okp p cs) (hi:i≤xs.length)
  {cur:Array Value} (hg:w1.heap[g]? = some (.cells cur e (0,0))) (hb:base≤g) (hcap:xs.length+1≤cap) (hmax:cap≤maxLen) (hcur:cur.size=cap*d.sz) (hok:ok' g)
  (ht:cur.toList.take ((xs.length+1)*d.sz)=inner.take (i*d.sz)++(cs++inner.drop (i*d.sz))):d.R e w1 base ok' (.slice (some ⟨g,0,none⟩) (xs.length+1) cap) (xs.take i++p :: xs.drop i):=by
 have hl:(xs.take i++p :: xs.drop i).length=xs.length+1:=by simp only [List.length_append,List.length_take,List.length_cons,List.length_drop];omega
 have hcl:cs.length=d.sz:=d.K_len (d.K_of_M hp)
 refine ⟨fun k hk=>?_,inner.take (i*d.sz)++(cs++inner.drop (i*d.sz)),⟨?_,.inr ⟨g,cap,cur,by rw [hl],hb,hg,by rw [hl];exact hcap,hmax,hcur,by rw [hl];exact ht⟩⟩,?_⟩
 ·
  have:g=k:=by simpa [Value.ownBlock] using hk
  subst this;exact hok
 ·
  rw [hl,← ht,List.length_take,show cur.toList.length=cap*d.sz from Array.length_toList.trans hcur];exact Nat.min_eq_left (Nat.mul_le_mul_right _ hcap)
 ·
  have h0:Reps (d.M w1 base fun k=>ok' k∧some k≠(Value.slice (some ⟨g,0,none⟩) (xs.length+1) cap).ownBlock) d.sz [p] cs:=
   (Reps.none _ _).snoc (p:=p) (c:=cs) (M_free hE hp) hcl
  exact Kd.reps_append ((Kd.reps_take hr hi).imp_ fun _ _ h=>M_free hE h) (Kd.reps_append h0 ((Kd.reps_drop hr).imp_ fun _ _ h=>M_free hE h))
theorem ins_shift_blk {w:World} {g e sz n i c:Nat} {cur:Array Value} {cs:List Value} (hg:w.heap[g]? = some (.cells cur e (0,0))) (hcl:cs.length=sz) (hi:i≤n) (hn:n+1≤c) (hc:cur.size=c*sz) :
  ∃ cur',((w.setCells g ((i+1)*sz) ((cur.toList.take (n*sz)).drop (i*sz))).setCells g (i*sz) cs).heap[g]? = some (.cells cur' e (0,0))∧cur'.size=c*sz∧
   cur'.toList.take ((n+1)*sz)=(cur.toList.take (n*sz)).take (i*sz)++(cs++(cur.toList.take (n*sz)).drop (i*sz))∧
   w.grownBy ((w.setCells g ((i+1)*sz) ((cur.toList.take (n*sz)).drop (i*sz))).setCells g (i*sz) cs) (some g):=by
 have e1:(i+1)*sz=i*sz+sz:=Nat.succ_mul _ _
 have e2:(n+1)*sz=n*sz+sz:=Nat.succ_mul _ _
 have e3:i*sz≤n*sz:=Nat.mul_le_mul_right _ hi
 have e4:(n+1)*sz≤c*sz:=Nat.mul_le_mul_right _ hn
 obtain ⟨c1,h1,h2,h3⟩:=setCells_row ((cur.toList.take (n*sz)).drop (i*sz)) ((i+1)*sz) w cur hg (by rw [List.length_drop,List.length_take,Array.length_toList];omega)
 obtain ⟨c2,h4,h5,h6⟩:=setCells_row cs (i*sz) _ c1 h1 (by omega)
 obtain ⟨a1,a2,a3,a4⟩:=setCells_same g ((cur.toList.take (n*sz)).drop (i*sz)) ((i+1)*sz) w
 obtain ⟨b1,b2,b3,b4⟩:=setCells_same g cs (i*sz) (w.setCells g ((i+1)*sz) ((cur.toList.take (n*sz)).drop (i*sz)))
 refine ⟨c2,h4,by omega,?_,⟨b1.trans a1,b2.trans a2,b3.trans a3,by rw [b4,a4];exact Nat.le_refl _,fun k _ hk=>?_⟩⟩
 ·
  have hd:((cur.toList.take (n*sz)).drop (i*sz)).length=n*sz - i*sz:=by rw [List.length_drop,List.length_take,Array.length_toList];omega
  rw [h6,h3]
  have t1:(cur.toList.take ((i+1)*sz)).length=(i+1)*sz:=by rw [List.length_take,Array.length_toList];omega
  have t2:(cur.toList.take ((i+1)*sz)++(cur.toList.take (n*sz)).drop (i*sz)++cur.toList.drop ((i+1)*sz+((cur.toList.take (n*sz)).drop (i*sz)).length)).take (i*sz)=(cur.toList.take (n*sz)).take (i*sz):=by
   rw [List.append_assoc,List.take_append_of_le_length (by omega),List.take_take,List.take_take,Nat.min_eq_left (by omega),Nat.min_eq_left e3]
  have t3:(cur.toList.take ((i+1)*sz)++(cur.toList.take (n*sz)).drop (i*sz)++cur.toList.drop ((i+1)*sz+((cur.toList.take (n*sz)).drop (i*sz)).length)).drop (i*sz+cs.length)=(cur.toList.take (n*sz)).drop (i*sz)++cur.toList.drop ((i+1)*sz+((cur.toList.take (n*sz)).drop (i*sz)).length):=by
   rw [List.append_assoc]
   exact List.drop_left' (by omega)
  rw [t2,t3,← List.append_assoc,List.append_assoc ((cur.toList.take (n*sz)).take (i*sz)) cs]
  exact List.take_left' (by simp only [List.length_append,List.length_take,hd,Array.length_toList];omega)
 ·
  have hk':k≠g:=fun he=>hk (by rw [he])
  rw [setCells_far _ _ k hk',setCells_far _ _ k hk']
theorem ins_grow_blk {w:World} {g e sz n i c:Nat} {cur:Array Value} {inner cs:List Value} (hg:w.heap[g]? = some (.cells cur e (0,0))) (hcl:cs.length=sz) (hin:inner.length=n*sz) (hi:i≤n) (hn:n+1≤c) (hc:cur.size=c*sz) (h0:cur.toList.take (i*sz)=inner.take (i*sz)) :
  ∃ cur',((w.setCells g (i*sz) cs).setCells g ((i+1)*sz) (inner.drop (i*sz))).heap[g]? = some (.cells cur' e (0,0))∧cur'.size=c*sz∧
   cur'.toList.take ((n+1)*sz)=inner.take (i*sz)++(cs++inner.drop (i*sz)):=by
 have e1:(i+1)*sz=i*sz+sz:=Nat.succ_mul _ _
 have e2:(n+1)*sz=n*sz+sz:=Nat.succ_mul _ _
 have e3:i*sz≤n*sz:=Nat.mul_le_mul_right _ hi
 have e4:(n+1)*sz≤c*sz:=Nat.mul_le_mul_right _ hn
 have hd:(inner.drop (i*sz)).length=n*sz - i*sz:=by rw [List.length_drop,hin]
 obtain ⟨c1,h1,h2,h3⟩:=setCells_row cs (i*sz) w cur hg (by omega)
 obtain ⟨c2,h4,h5,h6⟩:=setCells_row (inner.drop (i*sz)) ((i+1)*sz) _ c1 h1 (by omega)
 refine ⟨c2,h4,by omega,?_⟩
 rw [h6,h3]
 have t0:(cur.toList.take (i*sz)).length=i*sz:=by rw [List.length_take,Array.length_toList];omega
 have t2:(cur.toList.take (i*sz)++cs++cur.toList.drop (i*sz+cs.length)).take ((i+1)*sz)=inner.take (i*sz)++cs:=by
  rw [h0]
  exact List.take_left' (by rw [List.length_append,← h0,t0];omega)
 rw [t2,List.append_assoc (inner.take (i*sz)++cs),← List.append_assoc,List.append_assoc (inner.take (i*sz)) cs]
 rw [←List.append_assoc]
 exact List.take_left' (by simp only [List.length_append,List.length_take,hd,hin];omega)
theorem cut_room {P:Program} (t e:TypeId) (kh:IntKind) {i:TypeInfo} (ht:P.underlying t=some (.slice e)) (hi:P.info? e=some i) (A:Option Addr) (n c:Nat) (j:Int) (h0:0≤j) (hm:j≤c) :
  ∀ W:World,(Instr.slice t (.slice A n c) none (some (.int kh j)) none).run P W = .ok (.slice A j.toNat c) W:=by
 intro W
 have hel:P.elem t=e:=by simp [Program.elem,ht]
 have hu:P.underlying t=some (.slice (P.elem t)):=by rw [hel];exact ht
 have ha:(A.map fun x=>x.add 0)=A:=by cases A<;>simp [Addr.add]
 rw [run_slice_h W t A n c hu kh j h0 hm,hel]
 simp [sizeOf,typeInfo,hi,sliced,Result.andThen,ha]
theorem reads_lit {α:Type} {R:α→List Value→Prop} {w:World} {g size:Nat} {e:TypeId} {cs:List Value} {x:α} (h:w.heap[g]? = some (.cells cs.toArray e (0,0))) (hs:cs.length=size) (hR:R x cs):ReadsRow R size w (some ⟨g,0,none⟩) 1 [x]:=by
 refine ⟨rfl,by decide,fun _=>⟨_,rfl,fun j p hj=>?_⟩⟩
 have hj0:j=0:=by have:=(List.getElem?_eq_some_iff.1 hj).1;simpa using this
 subst hj0
 obtain rfl:x=p:=by simpa using hj
 refine ⟨cs,hs,hR,fun i u hu=>?_⟩
 rw [add_at,Nat.zero_mul,Nat.zero_add,Nat.zero_add,cell_of_row w g i _ e (0,0) h]
 simpa using hu
theorem range_of {w:World} {g:Nat} {cs:Array Value} {t:TypeId} (h:w.heap[g]? = some (.cells cs t (0,0))):w.rangeAt g 0 cs.toList:=fun j v hj=>by
 rw [Nat.zero_add,cell_of_row w g j cs t (0,0) h,← Array.getElem?_toList]
 exact hj
theorem store_step {P:Program} {ops:Array Oper} {o:Oper} {a:Act} {w:World} {K:Act→World→Prop} {Q:Exit→Act→World→Prop} {E:Prop} (hw:Region.wanted o (yielded ops a.tmps)=true) (t:TypeId) (p x:Operand) (ho:o.op = .store t p x) (hN:o.dst=none) {g off:Nat} {e:TypeId} {cur:Array Value}
  (haddr:a.eval p = .pointer (some ⟨g,off,none⟩)) (u:Value) (hx:a.eval x=u) (seg:List Value) (hu:u.cells.toList=seg) (ht:(P.info? t).map (·.size)=some seg.length) (hg:w.heap[g]? = some (.cells cur e (0,0)))
  (hfit:off+seg.length≤cur.size) (h1:∀ q ∈ seg,q.oneCell'=true) (h:K (a.put none undef) (w.setCells g off seg)):if Region.wanted o (yielded ops a.tmps)=true then Oper.wp P o a w K Q else E:=by
 rw [if_pos hw]
 unfold Oper.wp execOp
 simp only [ho,haddr,hx,Sem.run_bind,Sem.run_pure,Result.andThen_ok,run_store_run (P:=P) t u seg hg hu ht hfit h1]
 show K (a.put o.dst undef) _
 rw [hN]
 exact h
theorem index_at {P:Program} (t e:TypeId) {i0:TypeInfo} (ht:P.underlying t=some (.slice e)) (hi:P.info? e=some i0) (size:Nat) (hsz:i0.size=size) (g n c:Nat) (i:Int) (h0:0≤i) (h1:i<n) :
  ∀ W:World,(Instr.indexAt t (.slice (some ⟨g,0,none⟩) n c) (.int .i64 i)).run P W = .ok (.pointer (some ⟨g,i.toNat*size,none⟩)) W:=by
 intro W
 have hel:P.elem t=e:=by simp [Program.elem,ht]
 rw [run_indexAt_slice W t _ n c .i64 i (by rw [hel];exact ht),hel]
 simp [sizeOf,typeInfo,hi,hsz,h0,h1,Result.andThen,add_at]
theorem R_size {α:Type} {d:Kd α} {e:Nat} {w:World} {base g n c:Nat} {ok:Nat→Prop} {xs:List α} {cur:Array Value} (h:d.R e w base ok (.slice (some ⟨g,0,none⟩) n c) xs) (hh:w.heap[g]? = some (.cells cur e (0,0))):n*d.sz≤cur.size:=by
 obtain ⟨hn,hnc,_⟩:=Kd.R_reads' h
 obtain ⟨_,inner,ho,hr⟩:=h
 rcases ho.2 with ⟨hv,_⟩ | ⟨g',cap',cur',hv,hb,hh',_,hcm,hcs,_⟩
 ·
  cases hv
 injection hv with ha _ hc
 injection ha with ha
 injection ha with hg
 subst hg;subst hc
 rw [hh] at hh'
 injection hh' with hh'
 injection hh' with hh'
 subst hh'
 rw [hcs]
 exact Nat.mul_le_mul_right _ hnc
theorem index_ad {P:Program} (t e:TypeId) {i0:TypeInfo} (ht:P.underlying t=some (.slice e)) (hi:P.info? e=some i0) (size:Nat) (hsz:i0.size=size) (ad:Addr) (n c:Nat) (i:Int) (h0:0≤i) (h1:i<n) :
  ∀ W:World,(Instr.indexAt t (.slice (some ad) n c) (.int .i64 i)).run P W = .ok (.pointer (some (ad.add (i.toNat*size)))) W:=by
 intro W
 have hel:P.elem t=e:=by simp [Program.elem,ht]
 rw [run_indexAt_slice W t _ n c .i64 i (by rw [hel];exact ht),hel]
 simp [sizeOf,typeInfo,hi,hsz,h0,h1,Result.andThen]
theorem geq_str (t:TypeId) (a b:ByteArray):binOp .geq t (.string a) (.string b)=pure (.bool (!Op.bytesLess a.toList b.toList)):=by
 simp [binOp,Op.stringOp]
theorem meas0 {n i:Nat} (h:i<n):n - ((i:Int)+1).toNat<n - ((i:Int)).toNat:=by omega
theorem meas1 {n i:Nat} {j:Int} (hj:j=(i:Int)+1) (h:i<n):n - (intOf (.int .i64 j)).toNat<n - (intOf (.int .i64 (i:Int))).toNat:=by
 subst hj
 exact meas0 h
end Go.Proofs.YtcbhfedcdnjljaaW.PrintWords

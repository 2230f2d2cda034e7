/- Short forms for printed texts (compress2.py writes them): side goals that are proved where they stand, a region's operations taken in a row. -/
import Derived.Test.YtcbhfedcdnjljaaWOwn
import Derived.Test.YtcbhfedcdnjljaaWTab
namespace Go.Proofs.YtcbhfedcdnjljaaW.PrintLast
open Go.Proofs.YtcbhfedcdnjljaaW.PrintWords (Aside0 lsa lsz lss)
def along (_:List (Nat × Nat)) (p:Prop):Prop:=p
theorem along_ {p:Prop} (is:List (Nat × Nat)) (h:along is p):p:=h
section
variable {P:Program} {ops:Array Oper} {Q:Exit→Act→World→Prop} {md:Region.Mode} {S:World→Prop} {ds:List Nat} {T:Bool × List (List Nat × List Nat)} {B:List Nat}
 {i:Nat} {is:List (Nat × Nat)} {N:Tmp} {oi:Oper} {v:Value} {fuel:Nat} {l:Array Bool} {a a':Act} {w:World}
def anyS (T:Bool × List (List Nat × List Nat)) (l:List Bool) (i:Nat):Bool:=T.1 && freeT T.2 l i && readyAt T.2 l i
def takeS (T:Bool × List (List Nat × List Nat)) (B:List Nat) (ds:List Nat) (l:List Bool) (i:Nat):Bool:=T.1 && freeT T.2 l i && readyAt T.2 l i && closedT T.2 l && lastW T.2 B l ds i
theorem set_list (l:Array Bool) (i:Nat):l.toList.set i true=(l.setIfInBounds i true).toList:=by rw [Array.toList_setIfInBounds]
theorem skip1 (hT:Aside0 (rtab md ops=T)) (hi:ops[i]? = some oi) (hN:oi.dst=some N) (hw:Region.wanted oi (yielded ops a.tmps)=false) (hc:anyS T l.toList i=true)
  (hQ:∀ c a w,Q (.panic c) (a.put oi.dst undef) w→Q (.panic c) a w) (ha:a.put (some N) undef=a') (h:along is (wpAnyLast P md ops Q S ds fuel (l.setIfInBounds i true) a' w)):along ((i,N) :: is) (wpAnyLast P md ops Q S ds (fuel+1) l a w):=
 pure_ _ hi hN (any_of hT.out (by unfold anyT;rw [set_list];simpa [anyS] using hc)) hQ (Or.inr ⟨hw,rfl⟩) ha h
theorem pure1 (hT:Aside0 (rtab md ops=T)) (hi:ops[i]? = some oi) (hN:oi.dst=some N) (hw:Region.wanted oi (yielded ops a.tmps)=true) (hc:anyS T l.toList i=true)
  (hQ:∀ c a w,Q (.panic c) (a.put oi.dst v) w→Q (.panic c) a w) (hy:∀ w,(execOp a.eval oi).run P w = .ok (.value v) w) (ha:a.put (some N) v=a') (h:along is (wpAnyLast P md ops Q S ds fuel (l.setIfInBounds i true) a' w)):along ((i,N) :: is) (wpAnyLast P md ops Q S ds (fuel+1) l a w):=
 pure_ _ hi hN (any_of hT.out (by unfold anyT;rw [set_list];simpa [anyS] using hc)) hQ (Or.inl ⟨hw,hy⟩) ha h
theorem take1 (hT:Aside0 (rtab md ops=T)) (hB:Aside0 (waitsOk T.2 B=true)) (hS:S w) (hi:ops[i]? = some oi) (hN:oi.dst=some N) (hw:Region.wanted oi (yielded ops a.tmps)=true) (hc:takeS T B ds l.toList i=true)
  (hQ:∀ c a w,Q (.panic c) (a.put oi.dst v) w→Q (.panic c) a w) (hy:∀ w,S w→(execOp a.eval oi).run P w = .ok (.value v) w) (ha:a.put (some N) v=a') (h:along is (wpAnyLast P md ops Q S ds fuel (l.setIfInBounds i true) a' w)):along ((i,N) :: is) (wpAnyLast P md ops Q S ds (fuel+1) l a w):=
 take_ _ hi hN (take_ofW hT.out hB.out (by unfold takeW;rw [set_list];simpa [takeS] using hc)) hQ (Or.inl ⟨hw,hy⟩) hS ha h
theorem lay_ (l':Array Bool) (hl:(l == l')=true) (h:wpAnyLast P md ops Q S ds fuel l' a w):along [] (wpAnyLast P md ops Q S ds fuel l a w):=by
 rw [beq_iff_eq] at hl
 subst hl
 exact h
end
end Go.Proofs.YtcbhfedcdnjljaaW.PrintLast
namespace Go.Proofs.YtcbhfedcdnjljaaW.PrintWords
open Go.RowKit
theorem bel {w w':World} (h:Below w.heap.size w w':=by repeat (first | (with_reducible first | exact HB.out | apply bal | apply bdN | apply bdo | refine below_set ?_ (Aside0.out (by assumption))) | exact HB.out)):Below w.heap.size w w':=h
theorem rel {p q:Prop} (x:q) (h:q→p:=by intro h_;(with_reducible repeat (first | apply Kd.R_alloc | apply Kd.R_drewN | apply Kd.R_drew));exact h_):p:=h x
theorem sel {p q:Prop} (x:q) (h:q→p:=by intro h_;(with_reducible repeat (first | apply Kd.V_alloc | apply Kd.V_drewN | apply Kd.V_drew));exact h_):p:=h x
theorem cel {p q:Prop} (x:q) (h:q→p:=by intro h_;repeat (first | exact h_ | (with_reducible refine Kd.C_alloc ?_ _) | (with_reducible refine Kd.C_drewN ?_ _) | (with_reducible refine Kd.C_drew ?_))):p:=h x
theorem bkl {p q:Prop} (x:q) (h:q→p:=by intro h_;(with_reducible repeat (first | refine blk_drewN ?_ _ | refine blk_drew ?_ | refine blk_alloc ?_ _));exact h_):p:=h x
theorem agn {p:Prop} (h:p:=by (try simp only [List.map_toArray,List.map_cons,List.map_nil]);first | done | rfl | (simp only [lld,llt];rfl)):p:=h
theorem rf3 {p:Prop} (h:p:=by first | rfl | (simp [errW_none,errW_some]<;>rfl) | (simp [*,errW_none,errW_some]<;>rfl)):p:=h
theorem bstep {w W w2:World} (k:Below W.heap.size W w2) (h:Below w.heap.size w W:=by exact bel):Aside0 (Below w.heap.size w w2):=⟨below_step h k⟩
theorem bsize {w W:World} {g:Nat} (hg:g=W.heap.size) (h:Below w.heap.size w W:=by exact bel):Aside0 (w.heap.size≤g):=⟨by rw [hg];exact below_size h⟩
theorem eqT {α:Type} [BEq α] [LawfulBEq α] {a b:α} (h:a=b):(a == b)=true∧(a != b)=false:=⟨beq_iff_eq.mpr h,bne_eq_false_iff_eq.mpr h⟩
theorem eqF {α:Type} [BEq α] [LawfulBEq α] {a b:α} (h:¬ a=b):(a == b)=false∧(a != b)=true:=⟨beq_eq_false_iff_ne.mpr h,bne_iff_ne.mpr h⟩
theorem cK1 {w:World} {g:Nat} {t:TypeId} {v0:Value} (h:Aside0 (w.heap[g]? = some (.cells #[v0] t (0,0)))):w.cell? ⟨g,0,none⟩=some v0∧w.frozen? ⟨g,0,none⟩=false:=⟨(blk_cell h.out 0).trans rfl,blk_frozen h.out 0⟩
theorem cK2 {w:World} {g:Nat} {t:TypeId} {v0 v1:Value} (h:Aside0 (w.heap[g]? = some (.cells #[v0,v1] t (0,0)))):w.cell? ⟨g,0,none⟩=some v0∧w.cell? ⟨g,1,none⟩=some v1∧w.frozen? ⟨g,0,none⟩=false∧w.frozen? ⟨g,1,none⟩=false:=⟨(blk_cell h.out 0).trans rfl,(blk_cell h.out 1).trans rfl,blk_frozen h.out 0,blk_frozen h.out 1⟩
theorem cK3 {w:World} {g:Nat} {t:TypeId} {v0 v1 v2:Value} (h:Aside0 (w.heap[g]? = some (.cells #[v0,v1,v2] t (0,0)))):w.cell? ⟨g,0,none⟩=some v0∧w.cell? ⟨g,1,none⟩=some v1∧w.cell? ⟨g,2,none⟩=some v2∧w.frozen? ⟨g,0,none⟩=false∧w.frozen? ⟨g,1,none⟩=false∧w.frozen? ⟨g,2,none⟩=false:=⟨(blk_cell h.out 0).trans rfl,(blk_cell h.out 1).trans rfl,(blk_cell h.out 2).trans rfl,blk_frozen h.out 0,blk_frozen h.out 1,blk_frozen h.out 2⟩
theorem cK5 {w:World} {g:Nat} {t:TypeId} {v0 v1 v2 v3 v4:Value} (h:Aside0 (w.heap[g]? = some (.cells #[v0,v1,v2,v3,v4] t (0,0)))):w.cell? ⟨g,0,none⟩=some v0∧w.cell? ⟨g,1,none⟩=some v1∧w.cell? ⟨g,2,none⟩=some v2∧w.cell? ⟨g,3,none⟩=some v3∧w.cell? ⟨g,4,none⟩=some v4∧w.frozen? ⟨g,0,none⟩=false∧w.frozen? ⟨g,1,none⟩=false∧w.frozen? ⟨g,2,none⟩=false∧w.frozen? ⟨g,3,none⟩=false∧w.frozen? ⟨g,4,none⟩=false:=⟨(blk_cell h.out 0).trans rfl,(blk_cell h.out 1).trans rfl,(blk_cell h.out 2).trans rfl,(blk_cell h.out 3).trans rfl,(blk_cell h.out 4).trans rfl,blk_frozen h.out 0,blk_frozen h.out 1,blk_frozen h.out 2,blk_frozen h.out 3,blk_frozen h.out 4⟩
end Go.Proofs.YtcbhfedcdnjljaaW.PrintWords
namespace Go.Proofs.YtcbhfedcdnjljaaW.PrintLast
open Go.Proofs.YtcbhfedcdnjljaaW.PrintWords (Aside0 lsa lsz lss)
def bL:Nat→Nat→List Bool
 | 0,_=>[]
 | n+1,m=>Nat.beq (m % 2) 1 :: bL n (m / 2)
def bA (n m:Nat):Array Bool:=⟨bL n m⟩
section
variable {P:Program} {ops:Array Oper} {Q:Exit→Act→World→Prop} {md:Region.Mode} {S:World→Prop} {ds:List Nat} {T:Bool × List (List Nat × List Nat)} {B:List Nat}
 {i:Nat} {is:List (Nat × Nat)} {N:Tmp} {oi:Oper} {v:Value} {fuel:Nat} {l:Array Bool} {a a':Act} {w:World}
theorem skip3 (hT:Aside0 (rtab md ops=T)) (h:along is (wpAnyLast P md ops Q S ds fuel (l.setIfInBounds i true) a' w)) (hi:ops[i]? = some oi:=by rfl) (hN:oi.dst=some N:=by rfl) (hw:Region.wanted oi (yielded ops a.tmps)=false:=by rfl) (hc:anyS T l.toList i=true:=by kernel_rfl)
  (hQ:∀ c a w,Q (.panic c) (a.put oi.dst undef) w→Q (.panic c) a w:=by exact fun _ _ _ h=>h) (ha:a.put (some N) undef=a':=by simp only [Act.put,lsa,lsz,lss,i64_w,i32_w];rfl):along ((i,N) :: is) (wpAnyLast P md ops Q S ds (fuel+1) l a w):=
 skip1 hT hi hN hw hc hQ ha h
theorem pure3 (hT:Aside0 (rtab md ops=T)) (h:along is (wpAnyLast P md ops Q S ds fuel (l.setIfInBounds i true) a' w)) (hi:ops[i]? = some oi:=by rfl) (hN:oi.dst=some N:=by rfl) (hw:Region.wanted oi (yielded ops a.tmps)=true:=by rfl) (hc:anyS T l.toList i=true:=by kernel_rfl)
  (hQ:∀ c a w,Q (.panic c) (a.put oi.dst v) w→Q (.panic c) a w:=by exact fun _ _ _ h=>h) (hy:∀ w,(execOp a.eval oi).run P w = .ok (.value v) w:=by intro w';go_simp;with_reducible rfl) (ha:a.put (some N) v=a':=by simp only [Act.put,lsa,lsz,lss,i64_w,i32_w];rfl):along ((i,N) :: is) (wpAnyLast P md ops Q S ds (fuel+1) l a w):=
 pure1 hT hi hN hw hc hQ hy ha h
theorem take3 (hT:Aside0 (rtab md ops=T)) (hB:Aside0 (waitsOk T.2 B=true)) (hS:S w) (h:along is (wpAnyLast P md ops Q S ds fuel (l.setIfInBounds i true) a' w)) (hi:ops[i]? = some oi:=by rfl) (hN:oi.dst=some N:=by rfl) (hw:Region.wanted oi (yielded ops a.tmps)=true:=by rfl) (hc:takeS T B ds l.toList i=true:=by kernel_rfl)
  (hQ:∀ c a w,Q (.panic c) (a.put oi.dst v) w→Q (.panic c) a w:=by exact fun _ _ _ h=>h) (hy:∀ w,S w→(execOp a.eval oi).run P w = .ok (.value v) w:=by intro w' hs_;go_simp;with_reducible rfl) (ha:a.put (some N) v=a':=by simp only [Act.put,lsa,lsz,lss,i64_w,i32_w];rfl):along ((i,N) :: is) (wpAnyLast P md ops Q S ds (fuel+1) l a w):=
 take1 hT hB hS hi hN hw hc hQ hy ha h
theorem nm (N:Tmp) (h:wpAnyLast P md ops Q S ds fuel l a' w) (ha:Act.put a (some N) v=a':=by simp only [Act.put,lsa,lsz,lss,i64_w,i32_w];rfl):wpAnyLast P md ops Q S ds fuel l (Act.put a (some N) v) w:=norm_ ha h
theorem one3 (i:Nat) {N:Option Tmp} (l':Array Bool) (hT:Aside0 (rtab md ops=T))
  (h:∀ K:Act→World→Prop,Shut (∀ a' w',S w'→(S w'→wpAnyLast P md ops Q S ds fuel l' a' w')→K a' w')→if Region.wanted oi (yielded ops a.tmps)=true then Oper.wp P oi a w K Q else K (a.put N undef) w) (hi:ops[i]? = some oi:=by rfl) (hN:oi.dst=N:=by rfl) (hc:(readyT T.2 l.toList == [i] && l.toList.set i true == l'.toList)=true:=by kernel_rfl) (hd:i ∉ ds:=by decide) :
  wpAnyLast P md ops Q S ds (fuel+1) l a w:=one_ l' hi hN (one_of hT.out hc) hd h
end
end Go.Proofs.YtcbhfedcdnjljaaW.PrintLast
namespace Go.Proofs.YtcbhfedcdnjljaaW.PrintWords
open Go.RowKit
theorem srf {p:Prop} (h:p:=by first | rfl | (simp;done) | (simp [*];done) | (simp;exact (by decide:∀ a_ b_:Bool,(a_ == b_)=(!a_ != b_)) _ _)):p:=h
theorem oda {p:Prop} [Decidable p] (h:decide p=true:=by first | (with_reducible assumption) | assumption):p:=of_decide_eq_true h
theorem hyr {α:Type} {y z:α} {p q:Prop} (e:y=z) (H:q) (h:y=z→q→p:=by intro hy_ H;first | (rw [hy_];with_reducible exact H) | (have H2_:=(Option.bind_some _ _).symm.trans H;rw [hy_];with_reducible exact H2_) | (have H2_:=(Option.bind_some _ _).symm.trans H;with_reducible exact H2_) | with_reducible exact H | (rw [hy_];exact H) | exact H):p:=h e H
theorem ebs {p q:Prop} (x:q) (h:q→p:=by intro h_;first | exact Kd.R_base h_ | exact Kd.S_base h_ | exact Kd.V_base h_):p:=h x
theorem bx {w W:World} {a:Addr} {v:Value} (H:Below w.heap.size w W) (h:w.cell? a=some v):W.cell? a=some v:=(H.cell (wbl w _ h)).trans h
theorem bc {w:World} {g:Nat} {t:TypeId} {cs:Array Value} {v:Value} (h:Aside0 (w.heap[g]? = some (.cells cs t (0,0)))) (i:Nat) (e:cs[i]? = some v:=by exact rfl):w.cell? ⟨g,i,none⟩=some v:=(blk_cell h.out i).trans e
theorem bbl {w1 w2 w3:World} {g:Nat} {o:Obj} (x:Aside0 (w1.heap[g]? = some o)) (hb:Below w2.heap.size w2 w3) (h:w1.heap[g]? = some o→w2.heap[g]? = some o:=by intro h_;(with_reducible repeat (first | refine blk_drewN ?_ _ | refine blk_drew ?_ | refine blk_alloc ?_ _));exact h_):Aside0 (w3.heap[g]? = some o):=⟨blk_below (h x.out) hb⟩
theorem hyn {α β:Type} {x y:α} {f:α→Option β} {b:β} (e:y=x) (H:(some x).bind f=some b):f y=some b:=by
 rw [e]
 exact H
theorem ifT {α:Type} {a b c:Option α} (h:(if true=true then a else b)=c):a=c:=by
 rw [if_pos rfl] at h
 exact h
theorem ifF {α:Type} {a b c:Option α} (h:(if false=true then a else b)=c):b=c:=by
 rw [if_neg Bool.false_ne_true] at h
 exact h
theorem lmo {p:Prop} (h:p:=by
 repeat' first
  | (with_reducible apply ih0)
  | (with_reducible apply ih1)
  | (with_reducible apply ih2)
  | (with_reducible apply ih3)
  | (with_reducible apply ih4)
  | (with_reducible apply m0)
  | (with_reducible apply m1)
  | (with_reducible apply m2)
  | (with_reducible apply m3)
  | (with_reducible apply m4)
  | (with_reducible apply m5)
  | (with_reducible apply m6)
  | (with_reducible apply m7)
  | (with_reducible exact LeO.refl _)
  | (with_reducible exact LeO.none _)
  | (with_reducible refine LeO.ite ?_ ?_)
  | (with_reducible refine LeO.bind ?_ (fun _=>?_))
  | exact LeO.none _
  | refine LeO.ite ?_ ?_
  | refine LeO.bind ?_ (fun _=>?_)):p:=h
end Go.Proofs.YtcbhfedcdnjljaaW.PrintWords

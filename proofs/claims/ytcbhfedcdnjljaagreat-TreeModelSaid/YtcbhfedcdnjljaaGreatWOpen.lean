import Derived.Test.YtcbhfedcdnjljaaGreatWAll
import Derived.SizedLaws
import Derived.ChangeSlices
import Derived.WideShapes
namespace Go.Proofs.YtcbhfedcdnjljaaGreatW.PrintWords
open Go.RowKit
structure Opens (P:Program) (t:TypeId) {α:Type} (d:Kd α) (wf:α→Prop):Prop where
 op:∀ {H:Type} (enc:TypeId × Value→H) (w:World) (fuel:Nat) (cs:List Value) (x:DataW H × List MemPlace),
  DataW.trod enc P w 0 (fun _=>true) true fuel t cs=some x→(∀ n ∈ x.1.weights P t,n≤reachBytes)→∃ y,d.K w y cs∧wf y
structure jm (P:Program) (o:Nat) (fs:List Field) {α:Type} (d:Kd α) (wf:α→Prop):Prop where
 op:∀ {H:Type} (enc:TypeId × Value→H) (w:World) (n:Nat) (cs:List Value) (xs:List (DataW H × List MemPlace)),
  cs.length=o+d.sz→xs.length=fs.length→(∀ (i:Nat) (f:Field),fs[i]? = some f→DataW.trod enc P w 0 (fun _=>true) true n f.type ((cs.drop f.offset).take (P.cellsOf f.type))=xs[i]?)→
  (∀ q ∈ DataW.weightsEach P (fs.map (·.type)) (xs.map (·.1)),q≤reachBytes)→∃ y,d.K w y (cs.drop o)∧wf y
namespace Opens
variable {P:Program} {t e:TypeId} {α β:Type} {d:Kd α} {wf:α→Prop}
theorem int {k:IntKind} (h:P.underlying t=some (.int k)):Opens P t (Kd.int k) (fun y=>(Lit.int k y).wf=true):=
 ⟨fun enc w fuel cs x hx _=>by
  obtain ⟨n,rfl,_,hw⟩:=DataW.trod_int h hx
  exact ⟨n,rfl,hw⟩⟩
theorem bool (h:P.underlying t=some .bool):Opens P t Kd.bool (fun _=>True):=
 ⟨fun enc w fuel cs x hx _=>by
  obtain ⟨b,rfl,_⟩:=DataW.trod_bool h hx
  exact ⟨b,rfl,trivial⟩⟩
theorem string (h:P.underlying t=some .string):Opens P t Kd.string (fun y=>y.size≤140737488351232):=
 ⟨fun enc w fuel cs x hx hw=>by
  obtain ⟨s,rfl,rfl,_⟩:=DataW.trod_string h hx
  refine ⟨s,rfl,?_⟩
  have:=hw s.data.toList.length (by simp [DataW.weights])
  rw [qb] at this
  exact this⟩
theorem qc {H:Type} {P:Program} {e:TypeId}:∀ {l:List (DataW H)} {x:DataW H},x ∈ l→∀ {n},n ∈ x.weights P e→n ∈ DataW.weightsAll P e l
 | [],_,hx,_,_=>by cases hx
 | d :: r,x,hx,n,hn=>by
  simp only [DataW.weightsAll,List.mem_append]
  rcases List.mem_cons.1 hx with rfl | hx
  ·
   exact .inl hn
  ·
   exact .inr (qc hx hn)
theorem slice {B:Nat} (h:P.underlying t=some (.slice e)) (hc:P.cellsOf e=d.sz) (hB:P.bytesOf e=B) (he:Opens P e d wf) :
  Opens P t (Kd.slice e d) (fun ys=>ys.length≤maxLen∧ys.length*B≤140737488351232∧∀ y ∈ ys,wf y):=
 ⟨fun {H} enc w fuel cs x hx hw=>by
  rcases DataW.trod_slice h hx with ⟨rfl,rfl⟩ | ⟨a,len,cap,elems,rest,n,_,rfl,rfl,_,hlc,hcm,hlen,hel,_,_⟩
  ·
   exact ⟨[],⟨none,0,rfl,Nat.le_refl _,Kd.DY d w⟩,Nat.zero_le _,by simp,fun y hy=>by cases hy⟩
  ·
   have hw':∀ q ∈ ((elems.map (·.1)).length+(rest.map (·.1)).length)*P.bytesOf e :: (DataW.weightsAll P e (elems.map (·.1))++DataW.weightsAll P e (rest.map (·.1))),q≤reachBytes:=by
    simpa only [DataW.weights,h] using hw
   have hone:∀ i,i<len→∃ (c:List Value) (y:α),w.cells? 0 (a.add (i*P.cellsOf e)) (P.cellsOf e)=some c∧d.K w y c∧wf y:=by
    intro i hi
    have h1:=hel i hi
    rw [List.getElem?_eq_getElem (by omega)] at h1
    obtain ⟨c,hc1,hc2⟩:=Option.bind_eq_some_iff.1 h1
    obtain ⟨y,hy,hwf⟩:=he.op enc w n c _ hc2 (fun q hq=>hw' q (List.mem_cons_of_mem _ (List.mem_append_left _ (qc (List.mem_map_of_mem (List.getElem_mem (by omega))) hq))))
    exact ⟨c,y,hc1,hy,hwf⟩
   have hys:∀ m,m≤len→∃ ys:List α,ys.length=m∧(∀ y ∈ ys,wf y)∧∀ j p,ys[j]? = some p→∃ c,w.cells? 0 (a.add (j*P.cellsOf e)) (P.cellsOf e)=some c∧d.K w p c:=by
    intro m
    induction m with
    | zero=>exact fun _=>⟨[],rfl,fun y hy=>(by cases hy),fun j p hj=>by simp at hj⟩
    | succ m ih=>
     intro hm
     obtain ⟨ys,hl,hwf,hp⟩:=ih (by omega)
     obtain ⟨c,y,hc1,hy,hw1⟩:=hone m (by omega)
     refine ⟨ys++[y],by simp [hl],fun z hz=>?_,fun j p hj=>?_⟩
     ·
      rcases List.mem_append.1 hz with hz | hz
      ·
       exact hwf z hz
      ·
       rw [List.mem_singleton.1 hz];exact hw1
     ·
      rcases Nat.lt_or_ge j ys.length with hlt | hge
      ·
       rw [List.getElem?_append_left hlt] at hj
       exact hp j p hj
      ·
       rw [List.getElem?_append_right hge] at hj
       have hj0:j - ys.length=0:=by have:=(List.getElem?_eq_some_iff.1 hj).1;simp at this;omega
       rw [hj0] at hj
       have hpy:y=p:=by simpa using hj
       subst hpy
       have:j=m:=by omega
       subst this
       exact ⟨c,hc1,hy⟩
   obtain ⟨ys,hl,hwf,hp⟩:=hys len (Nat.le_refl _)
   have hm2:ys.length≤maxLen:=by omega
   refine ⟨ys,⟨some a,cap,by rw [hl],by omega,rfl,by unfold maxLen at hm2;omega,fun _=>⟨a,rfl,fun j p hj=>?_⟩⟩,hm2,?_,hwf⟩
   ·
    obtain ⟨c,hc1,hk⟩:=hp j p hj
    refine ⟨c,d.K_len hk,hk,fun i u hu=>?_⟩
    obtain ⟨_,hlen2,hget⟩:=World.cells?_some hc1
    have hi:i<P.cellsOf e:=by have:=(List.getElem?_eq_some_iff.1 hu).1;omega
    have h2:=hget i hi
    rw [hc] at h2
    rw [show a.add (j*d.sz+i)=(a.add (j*d.sz)).add i from (add_add a _ _).symm,h2]
    exact hu
   ·
    have h3:=hw' _ List.mem_cons_self
    rw [List.length_map,hB] at h3
    rw [hl,← hlen]
    exact Nat.le_trans (Nat.mul_le_mul_right _ (Nat.le_add_right _ _)) h3⟩
end Opens
namespace jm
variable {P:Program} {t:TypeId} {o:Nat} {f:Field} {fs:List Field} {α β:Type} {d:Kd α} {b:Kd β} {wf:α→Prop} {wb:β→Prop}
theorem one (ho:f.offset=o) (hc:P.cellsOf f.type=d.sz) (h:Opens P f.type d wf):jm P o [f] d wf:=
 ⟨fun enc w n cs xs hl hx hf hw=>by
  obtain ⟨x,rfl⟩:∃ x,xs=[x]:=by
   match xs,hx with
   | [x],_=>exact ⟨x,rfl⟩
  have h0:=hf 0 f rfl
  simp only [ho,hc] at h0
  rw [List.take_of_length_le (by rw [List.length_drop];omega)] at h0
  exact h.op enc w n _ x (by simpa using h0) (fun q hq=>hw q (by simp [DataW.weightsEach,hq]))⟩
theorem cons (ho:f.offset=o) (hc:P.cellsOf f.type=d.sz) (h:Opens P f.type d wf) (hr:jm P (o+d.sz) fs b wb):jm P o (f :: fs) (Kd.pair d b) (fun y=>wf y.1∧wb y.2):=
 ⟨fun enc w n cs xs hl hx hf hw=>by
  obtain ⟨x,xr,rfl⟩:∃ x xr,xs=x :: xr:=by
   match xs,hx with
   | x :: xr,_=>exact ⟨x,xr,rfl⟩
  have hsz:(Kd.pair d b).sz=d.sz+b.sz:=rfl
  have h0:=hf 0 f rfl
  simp only [ho,hc] at h0
  obtain ⟨y,hy,hwy⟩:=h.op enc w n _ x (by simpa using h0) (fun q hq=>hw q (by simp [DataW.weightsEach,hq]))
  obtain ⟨z,hz,hwz⟩:=hr.op enc w n cs xr (by omega) (by simpa using hx) (fun i g hg=>by simpa using hf (i+1) g (by simpa using hg)) (fun q hq=>hw q (by simp only [List.map_cons,DataW.weightsEach,List.mem_append];exact .inr hq))
  refine ⟨(y,z),⟨(cs.drop o).take d.sz,cs.drop (o+d.sz),?_,hy,hz⟩,hwy,hwz⟩
  rw [←List.drop_drop,List.take_append_drop]⟩
end jm
namespace Opens
variable {P:Program} {t e:TypeId} {α β:Type} {d:Kd α} {wf:α→Prop}
theorem vI {fs:Array Field} (f:β→α) (g:α→β) (hfg:∀ x,f (g x)=x) (h:P.underlying t=some (.struct fs)) (hc:P.cellsOf t=d.sz) (hf:jm P 0 fs.toList d wf):Opens P t (Kd.uG d f) (fun y=>wf (f y)):=
 ⟨fun {H} enc w fuel cs x hx hw=>by
  obtain ⟨xs,n,_,rfl,hl,hlen,hg⟩:=DataW.trod_struct h hx
  have hw':∀ q ∈ DataW.weightsEach P (fs.toList.map (·.type)) (xs.map (·.1)),q≤reachBytes:=by
   simpa only [DataW.weights,h] using hw
  obtain ⟨y,hy,hwy⟩:=hf.op enc w n cs xs (by omega) (by simpa using hlen) (fun i fi hi=>hg i fi (by simpa using hi)) hw'
  refine ⟨g y,?_,?_⟩
  ·
   show d.K w (f (g y)) cs
   rw [hfg];simpa using hy
  ·
   show wf (f (g y))
   rw [hfg];exact hwy⟩
theorem imp {wf':α→Prop} (h:Opens P t d wf) (hi:∀ y,wf y→wf' y):Opens P t d wf':=
 ⟨fun enc w fuel cs x hx hw=>by
  obtain ⟨y,hy,hwy⟩:=h.op enc w fuel cs x hx hw
  exact ⟨y,hy,hi y hwy⟩⟩
theorem arg {H:Type} {enc:TypeId × Value→H} {w:World} {ts:List TypeId} {ds:List (DataW H)} {j:Nat} {v:Value} {x:DataW H} {p:List MemPlace} (h:Opens P t d wf)
  (hsz:(DataW.weightsEach P ts ds).all (·≤reachBytes)=true) (ht:ts[j]? = some t) (hd:ds[j]? = some x) (hx:DataW.Trod enc P w 0 (fun _=>true) true t v x p):∃ y,d.K w y v.cells.toList∧wf y:=by
 obtain ⟨fuel,hf⟩:=hx
 have hsz':∀ n ∈ DataW.weightsEach P ts ds,n≤reachBytes:=by simpa [List.all_eq_true] using hsz
 have hw:∀ n ∈ x.weights P t,n≤reachBytes:=by
  intro n hn
  refine hsz' n ?_
  clear hsz hsz' hf h
  induction ts generalizing ds j with
  | nil=>simp at ht
  | cons t0 ts ih=>
   cases ds with
   | nil=>simp at hd
   | cons d0 ds=>
    simp only [DataW.weightsEach,List.mem_append]
    cases j with
    | zero=>simp at ht hd;subst ht;subst hd;exact .inl hn
    | succ j=>exact .inr (ih (by simpa using ht) (by simpa using hd))
 exact h.op enc w fuel _ (x,p) hf hw
end Opens
end Go.Proofs.YtcbhfedcdnjljaaGreatW.PrintWords

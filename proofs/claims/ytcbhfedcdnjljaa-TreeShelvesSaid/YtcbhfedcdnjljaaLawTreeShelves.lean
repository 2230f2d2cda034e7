import Derived.Test.YtcbhfedcdnjljaaRows
import Derived.Test.YtcbhfedcdnjljaaPureTreeShelves
import Derived.Test.YtcbhfedcdnjljaaWOpen
import Derived.ProofKit
import Derived.OpenShut
import Derived.ShutString
import Derived.ChangeOld
set_option maxHeartbeats 4000000
set_option maxRecDepth 100000
set_option linter.unusedVariables false
namespace Go.Proofs.Ytcbhfedcdnjljaa.treeShelves
open Go.ChangeShapes Go.WideShapes Go.ChangeAt Go.RowKit Go.Proofs.YtcbhfedcdnjljaaW.PrintWords Go.Proofs.Ytcbhfedcdnjljaa.X
open Go.ChangeMaps (open_string shut_string)
theorem own:ownKnob Try.prog.godebug=none:=by kernel_rfl
theorem laidOut:laidOutB Try.prog=true:=by kernel_rfl
theorem lifted (os:Os) (started:os.Started) (H:Type) (enc:TypeId × Value→H) :
  ReturnsInHanded {} Try.checked os 3 .any (Rows.treeShelvesSpec.pre6 enc Try.prog Try.f3 Rows.treeShelvesRow.domain false) (Rows.treeShelvesSpec.post enc Try.prog Try.f3 false true false false):=by
 refine returnsInHanded_of_change_sized (C:=Try.checked) own started (by kernel_rfl) Try.func3
  (ChangeSpec.witness6 (enc:=enc) (C:=Try.checked) false ⟨#[],#[.agg #[.int .i64 0,.int .i64 0,.int .i64 0],.agg #[.int .i64 0,.int .i64 0,.int .i64 0],.slice none 0 0,.agg #[.string ByteArray.empty,.string ByteArray.empty,.int .i64 0,.string ByteArray.empty,.bool false]],[]⟩ 8 (by kernel_rfl) (by kernel_rfl) (by kernel_rfl) (by kernel_rfl)) ?_
 intro W base args ds gs before hval0 hW hcnd hsz0 _
 have hsz:(DataW.weightsEach Try.prog (Try.f3.params.toList++Rows.treeShelvesSpec.plain.varTypes Try.prog) (ds++gs)).all (·≤reachBytes)=true:=hsz0
 have hval:∀ (j:Nat) t v,Try.f3.params[j]? = some t→args[j]? = some v→Value.okWide Try.prog W .any base t v:=hval0
 have hW':=hW
 obtain ⟨p,q,hA0,hV,rfl,hfz,hnd⟩:=hW
 have hA:DataW.TrodAll enc Try.prog W 0 (fun _=>true) true Try.f3.params.toList args.toList ds p:=hA0
 rw [Try.params3] at hA hval hsz
 obtain ⟨v0,vs0,d0,ds0,p0,q0,hargs,rfl,rfl,h0,r0⟩:=trodAll_cons hA
 obtain ⟨v1,vs1,d1,ds1,p1,q1,rfl,rfl,rfl,h1,r1⟩:=trodAll_cons r0
 obtain ⟨v2,vs2,d2,ds2,p2,q2,rfl,rfl,rfl,h2,r2⟩:=trodAll_cons r1
 obtain ⟨v3,vs3,d3,ds3,p3,q3,rfl,rfl,rfl,h3,r3⟩:=trodAll_cons r2
 obtain ⟨rfl,rfl,rfl⟩:=trodAll_nil r3
 obtain rfl:args=#[v0,v1,v2,v3]:=by cases args;simp_all
 obtain ⟨rfl,rfl⟩:=trodVars_none hV
 have k0_:=h0
 have lt0:∀ x ∈ p0,x.block<W.heap.size:=by obtain ⟨m,hm⟩:=k0_;exact DataW.trod_lt m _ _ _ hm
 obtain ⟨cs0,rfl,_⟩:=okWide_struct Try.underlying23 (hval 0 23 v0 rfl rfl)
 obtain ⟨x0,hk0,wf0⟩:=Opens.arg (j:=0) (t:=23) (d:=k23) (Opens.struct_ (fun x:S23=>(x.f0,x.f1,x.f2)) (fun x=>(⟨x.1,x.2.1,x.2.2⟩:S23)) (fun x=>rfl) Try.underlying23 (by kernel_rfl) (OpensF.cons rfl (by kernel_rfl) (Opens.int Try.underlying3) (OpensF.cons rfl (by kernel_rfl) (Opens.int Try.underlying3) (OpensF.one rfl (by kernel_rfl) (Opens.int Try.underlying3))))) hsz rfl rfl h0
 have hcs0:=k23_open hk0
 obtain ⟨cs0⟩:=cs0
 obtain rfl:cs0=_:=hcs0
 try clear hcs0
 obtain ⟨wf0_0,wf0_1,wf0_2⟩:=wf0
 have k1_:=h1
 have lt1:∀ x ∈ p1,x.block<W.heap.size:=by obtain ⟨m,hm⟩:=k1_;exact DataW.trod_lt m _ _ _ hm
 obtain ⟨cs1,rfl,_⟩:=okWide_struct Try.underlying23 (hval 1 23 v1 rfl rfl)
 obtain ⟨x1,hk1,wf1⟩:=Opens.arg (j:=1) (t:=23) (d:=k23) (Opens.struct_ (fun x:S23=>(x.f0,x.f1,x.f2)) (fun x=>(⟨x.1,x.2.1,x.2.2⟩:S23)) (fun x=>rfl) Try.underlying23 (by kernel_rfl) (OpensF.cons rfl (by kernel_rfl) (Opens.int Try.underlying3) (OpensF.cons rfl (by kernel_rfl) (Opens.int Try.underlying3) (OpensF.one rfl (by kernel_rfl) (Opens.int Try.underlying3))))) hsz rfl rfl h1
 have hcs1:=k23_open hk1
 obtain ⟨cs1⟩:=cs1
 obtain rfl:cs1=_:=hcs1
 try clear hcs1
 obtain ⟨wf1_0,wf1_1,wf1_2⟩:=wf1
 have k2_:=h2
 have lt2:∀ x ∈ p2,x.block<W.heap.size:=by obtain ⟨m,hm⟩:=k2_;exact DataW.trod_lt m _ _ _ hm
 obtain ⟨a2,len2,cap2,rfl⟩:=okWide_slice Try.underlying24 (hval 2 24 v2 rfl rfl)
 obtain ⟨l2,hk2,wf2⟩:=Opens.arg (j:=2) (t:=24) (d:=(Kd.slice 26 k26)) (Opens.slice (B:=64) Try.underlying24 (by kernel_rfl) (by kernel_rfl) (Opens.struct_ (fun x:S26=>(x.f0,x.f1,x.f2,x.f3,x.f4)) (fun x=>(⟨x.1,x.2.1,x.2.2.1,x.2.2.2.1,x.2.2.2.2⟩:S26)) (fun x=>rfl) Try.underlying26 (by kernel_rfl) (OpensF.cons rfl (by kernel_rfl) (Opens.string Try.underlying9) (OpensF.cons rfl (by kernel_rfl) (Opens.string Try.underlying9) (OpensF.cons rfl (by kernel_rfl) (Opens.int Try.underlying3) (OpensF.cons rfl (by kernel_rfl) (Opens.string Try.underlying9) (OpensF.one rfl (by kernel_rfl) (Opens.bool Try.underlying4)))))))) hsz rfl rfl h2
 obtain ⟨A2,c2,hcs2,hc2,hr2⟩:∃ A c,[Value.slice a2 len2 cap2]=[.slice A l2.length c]∧l2.length≤c∧Kd.C k26 W A l2.length l2:=hk2
 simp only [List.cons.injEq,Value.slice.injEq,and_true] at hcs2
 obtain ⟨rfl,rfl,rfl⟩:=hcs2
 have k3_:=h3
 have lt3:∀ x ∈ p3,x.block<W.heap.size:=by obtain ⟨m,hm⟩:=k3_;exact DataW.trod_lt m _ _ _ hm
 obtain ⟨cs3,rfl,_⟩:=okWide_struct Try.underlying26 (hval 3 26 v3 rfl rfl)
 obtain ⟨x3,hk3,wf3⟩:=Opens.arg (j:=3) (t:=26) (d:=k26) (Opens.struct_ (fun x:S26=>(x.f0,x.f1,x.f2,x.f3,x.f4)) (fun x=>(⟨x.1,x.2.1,x.2.2.1,x.2.2.2.1,x.2.2.2.2⟩:S26)) (fun x=>rfl) Try.underlying26 (by kernel_rfl) (OpensF.cons rfl (by kernel_rfl) (Opens.string Try.underlying9) (OpensF.cons rfl (by kernel_rfl) (Opens.string Try.underlying9) (OpensF.cons rfl (by kernel_rfl) (Opens.int Try.underlying3) (OpensF.cons rfl (by kernel_rfl) (Opens.string Try.underlying9) (OpensF.one rfl (by kernel_rfl) (Opens.bool Try.underlying4))))))) hsz rfl rfl h3
 have hcs3:=k26_open hk3
 obtain ⟨cs3⟩:=cs3
 obtain rfl:cs3=_:=hcs3
 try clear hcs3
 obtain ⟨wf3_0,wf3_1,wf3_2,wf3_3,wf3_4⟩:=wf3
 clear hA0 hval0 hsz0 hsz
 refine (X.shardloglaw14_TreeShelves.walk Pure.TreeShelves x0.f0 x0.f1 x0.f2 x1.f0 x1.f1 x1.f2 _ _ l2 x3.f0 x3.f1 x3.f2 x3.f3 x3.f4 W wf0_0 wf0_1 wf0_2 wf1_0 wf1_1 wf1_2 wf2 hr2 hc2 wf3_0 wf3_1 wf3_2 wf3_3).mono fun e W' ⟨he,bel⟩=>?_
 subst he
 exact ⟨_,rfl,_,_,_,[],_,[],hW',trodAll_mk1 (shut_bool Try.underlying4 _),(trodAll_cons_mk (Below.trod laidOut (by kernel_rfl) (of_decide_eq_true (by kernel_rfl)) k0_ bel lt0) (trodAll_cons_mk (Below.trod laidOut (by kernel_rfl) (of_decide_eq_true (by kernel_rfl)) k1_ bel lt1) (trodAll_cons_mk (Below.trod laidOut (by kernel_rfl) (of_decide_eq_true (by kernel_rfl)) k2_ bel lt2) (trodAll_cons_mk (Below.trod laidOut (by kernel_rfl) (of_decide_eq_true (by kernel_rfl)) k3_ bel lt3) trodAll_mk0)))),rfl,bel.frame _,fun h=>by cases h⟩
theorem over:Rows.treeShelvesRow.holds Try.pinned (OpenSpec.ofChange Rows.treeShelvesSpec):=
 OpenClaim.holds_of_wide 3 Try.f3 rfl rfl rfl rfl rfl rfl rfl ⟨rfl,rfl,rfl,rfl,rfl⟩ rfl rfl rfl rfl rfl (by kernel_rfl) Try.func3 (by kernel_rfl)
  (of_decide_eq_true (by kernel_rfl)) (by unfold Func.isWrapper;first | (rw [if_pos (by decide +kernel)];kernel_rfl) | (rw [if_neg (by decide +kernel)];exact ⟨rfl,rfl⟩))
  (fun os started H enc _=>lifted os started H enc)
theorem proved:Rows.TreeShelvesSaid:=over
#print axioms proved
end Go.Proofs.Ytcbhfedcdnjljaa.treeShelves
namespace Go.Proofs.Ytcbhfedcdnjljaa
theorem treeShelves_holds:Rows.TreeShelvesSaid:=treeShelves.proved
end Go.Proofs.Ytcbhfedcdnjljaa

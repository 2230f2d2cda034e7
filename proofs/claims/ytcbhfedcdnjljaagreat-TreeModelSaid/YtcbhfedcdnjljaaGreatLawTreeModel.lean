import Derived.Test.YtcbhfedcdnjljaaGreatRows
import Derived.Test.YtcbhfedcdnjljaaGreatPureTreeModel
import Derived.Test.YtcbhfedcdnjljaaGreatWOpen
import Derived.ProofKit
import Derived.OpenShut
import Derived.ShutString
import Derived.ChangeOld
set_option maxHeartbeats 4000000
set_option maxRecDepth 100000
set_option linter.unusedVariables false
namespace Go.Proofs.YtcbhfedcdnjljaaGreat.treeModel
open Go.ChangeShapes Go.WideShapes Go.ChangeAt Go.RowKit Go.Proofs.YtcbhfedcdnjljaaGreatW.PrintWords Go.Proofs.YtcbhfedcdnjljaaGreat.X
open Go.ChangeMaps (open_string shut_string)
theorem own:ownKnob Tryz.prog.godebug=none:=by kernel_rfl
theorem laidOut:laidOutB Tryz.prog=true:=by kernel_rfl
theorem lifted (os:Os) (started:os.Started) (H:Type) (enc:TypeId × Value→H) :
  ReturnsInHanded {} Tryz.checked os 3 .any (Rows.treeModelSpec.pre6 enc Tryz.prog Tryz.f3 Rows.treeModelRow.domain false) (Rows.treeModelSpec.post enc Tryz.prog Tryz.f3 false true false false):=by
 refine returnsInHanded_of_change_sized (C:=Tryz.checked) own started (by kernel_rfl) Tryz.func3
  (ChangeSpec.witness6 (enc:=enc) (C:=Tryz.checked) false ⟨#[],#[.agg #[.int .i64 0,.int .i64 0,.int .i64 0],.slice none 0 0],[]⟩ 8 (by kernel_rfl) (by kernel_rfl) (by kernel_rfl) (by kernel_rfl)) ?_
 intro W base args ds gs before hval0 hW hcnd hsz0 _
 have hsz:(DataW.weightsEach Tryz.prog (Tryz.f3.params.toList++Rows.treeModelSpec.plain.varTypes Tryz.prog) (ds++gs)).all (·≤reachBytes)=true:=hsz0
 have hval:∀ (j:Nat) t v,Tryz.f3.params[j]? = some t→args[j]? = some v→Value.okWide Tryz.prog W .any base t v:=hval0
 have hW':=hW
 obtain ⟨p,q,hA0,hV,rfl,hfz,hnd⟩:=hW
 have hA:DataW.TrodAll enc Tryz.prog W 0 (fun _=>true) true Tryz.f3.params.toList args.toList ds p:=hA0
 rw [Tryz.params3] at hA hval hsz
 obtain ⟨v0,vs0,d0,ds0,p0,q0,hargs,rfl,rfl,h0,r0⟩:=trodAll_cons hA
 obtain ⟨v1,vs1,d1,ds1,p1,q1,rfl,rfl,rfl,h1,r1⟩:=trodAll_cons r0
 obtain ⟨rfl,rfl,rfl⟩:=trodAll_nil r1
 obtain rfl:args=#[v0,v1]:=by cases args;simp_all
 obtain ⟨rfl,rfl⟩:=trodVars_none hV
 have k0_:=h0
 have lt0:∀ x ∈ p0,x.block<W.heap.size:=by obtain ⟨m,hm⟩:=k0_;exact DataW.trod_lt m _ _ _ hm
 obtain ⟨cs0,rfl,_⟩:=okWide_struct Tryz.underlying23 (hval 0 23 v0 rfl rfl)
 obtain ⟨x0,hk0,wf0⟩:=Opens.arg (j:=0) (t:=23) (d:=k23) (Opens.vI (fun x:qf=>(x.f0,x.f1,x.f2)) (fun x=>(⟨x.1,x.2.1,x.2.2⟩:qf)) (fun x=>rfl) Tryz.underlying23 (by kernel_rfl) (jm.cons rfl (by kernel_rfl) (Opens.int Tryz.underlying3) (jm.cons rfl (by kernel_rfl) (Opens.int Tryz.underlying3) (jm.one rfl (by kernel_rfl) (Opens.int Tryz.underlying3))))) hsz rfl rfl h0
 have hcs0:=xZ hk0
 obtain ⟨cs0⟩:=cs0
 obtain rfl:cs0=_:=hcs0
 try clear hcs0
 obtain ⟨wf0_0,wf0_1,wf0_2⟩:=wf0
 have k1_:=h1
 have lt1:∀ x ∈ p1,x.block<W.heap.size:=by obtain ⟨m,hm⟩:=k1_;exact DataW.trod_lt m _ _ _ hm
 obtain ⟨a1,len1,cap1,rfl⟩:=okWide_slice Tryz.underlying24 (hval 1 24 v1 rfl rfl)
 obtain ⟨l1,hk1,wf1⟩:=Opens.arg (j:=1) (t:=24) (d:=(Kd.slice 36 pN)) (Opens.slice (B:=72) Tryz.underlying24 (by kernel_rfl) (by kernel_rfl) (Opens.vI (fun x:jG=>(x.f0,x.f1)) (fun x=>(⟨x.1,x.2⟩:jG)) (fun x=>rfl) Tryz.underlying36 (by kernel_rfl) (jm.cons rfl (by kernel_rfl) (Opens.int Tryz.underlying3) (jm.one rfl (by kernel_rfl) (Opens.vI (fun x:au=>(x.f0,x.f1,x.f2,x.f3,x.f4)) (fun x=>(⟨x.1,x.2.1,x.2.2.1,x.2.2.2.1,x.2.2.2.2⟩:au)) (fun x=>rfl) Tryz.underlying34 (by kernel_rfl) (jm.cons rfl (by kernel_rfl) (Opens.string Tryz.underlying9) (jm.cons rfl (by kernel_rfl) (Opens.string Tryz.underlying9) (jm.cons rfl (by kernel_rfl) (Opens.int Tryz.underlying3) (jm.cons rfl (by kernel_rfl) (Opens.string Tryz.underlying9) (jm.one rfl (by kernel_rfl) (Opens.bool Tryz.underlying4))))))))))) hsz rfl rfl h1
 obtain ⟨A1,c1,hcs1,hc1,hr1⟩:∃ A c,[Value.slice a1 len1 cap1]=[.slice A l1.length c]∧l1.length≤c∧Kd.C pN W A l1.length l1:=hk1
 simp only [List.cons.injEq,Value.slice.injEq,and_true] at hcs1
 obtain ⟨rfl,rfl,rfl⟩:=hcs1
 clear hA0 hval0 hsz0 hsz
 refine (X.av.walk Pure.TreeModel x0.f0 x0.f1 x0.f2 _ _ l1 W wf0_0 wf0_1 wf0_2 wf1 hr1 hc1).mono fun e W' ⟨he,aq⟩=>?_
 subst he
 exact ⟨_,rfl,_,_,_,[],_,[],hW',trodAll_mk1 (shut_bool Tryz.underlying4 _),(trodAll_cons_mk (Below.trod laidOut (by kernel_rfl) (of_decide_eq_true (by kernel_rfl)) k0_ aq lt0) (trodAll_cons_mk (Below.trod laidOut (by kernel_rfl) (of_decide_eq_true (by kernel_rfl)) k1_ aq lt1) trodAll_mk0)),rfl,aq.frame _,fun h=>by cases h⟩
theorem over:Rows.treeModelRow.holds Tryz.pinned (OpenSpec.ofChange Rows.treeModelSpec):=
 OpenClaim.holds_of_wide 3 Tryz.f3 rfl rfl rfl rfl rfl rfl rfl ⟨rfl,rfl,rfl,rfl,rfl⟩ rfl rfl rfl rfl rfl (by kernel_rfl) Tryz.func3 (by kernel_rfl)
  (of_decide_eq_true (by kernel_rfl)) (by unfold Func.isWrapper;first | (rw [if_pos (by decide +kernel)];kernel_rfl) | (rw [if_neg (by decide +kernel)];exact ⟨rfl,rfl⟩))
  (fun os started H enc _=>lifted os started H enc)
theorem proved:Rows.TreeModelSaid:=over
#print axioms proved
end Go.Proofs.YtcbhfedcdnjljaaGreat.treeModel
namespace Go.Proofs.YtcbhfedcdnjljaaGreat
theorem treeModel_holds:Rows.TreeModelSaid:=treeModel.proved
end Go.Proofs.YtcbhfedcdnjljaaGreat

import Derived.Test.YtcbhfedcdnjljaaGreatXx8
set_option maxHeartbeats 8000000
set_option maxRecDepth 100000
set_option linter.unusedVariables false
set_option linter.unusedSimpArgs false
namespace Go.Proofs.YtcbhfedcdnjljaaGreat.X
open Go.RowKit Go.Proofs.YtcbhfedcdnjljaaGreatW.PrintWords Go.Proofs.YtcbhfedcdnjljaaGreatW.PrintLast Go.Proofs.YtcbhfedcdnjljaaGreatW.PrintMore
attribute [local go_sem] gZ g_ iW iZ gF gD ic ig iX
def kQ (w0:World):Kd ef:=Kd.vQ (Kd.pair (Kd.fixed (Kd.slice 34 cC) w0) (Kd.int .i64)) (fun x:ef=>(x.f0,x.f1))
theorem qo {w0 w:World} {base:Nat} {ok:Nat→Prop} {x:ef} {cs:List Value} (h:(kQ w0).M w base ok x cs):∃ A c,cs=[.slice A x.f0.length c,.int .i64 x.f1]∧x.f0.length≤c∧cC.C w0 A x.f0.length x.f0:=by
 obtain ⟨c0,c1,rfl,⟨A,c,rfl,hl,hC⟩,rfl⟩:=h;exact ⟨A,c,rfl,hl,hC⟩
theorem AJ (w0 w:World) (base:Nat) (ok:Nat→Prop) (x:ef) {A:Option Addr} {c:Nat} (hl:x.f0.length≤c) (hC:cC.C w0 A x.f0.length x.f0):(kQ w0).M w base ok x [.slice A x.f0.length c,.int .i64 x.f1]:=
 ⟨[.slice A x.f0.length c],[.int .i64 x.f1],rfl,⟨A,c,rfl,hl,hC⟩,rfl⟩
theorem En {w0 w:World} {A:Option Addr} {n:Nat} {xs:List ef} (hb:Below w0.heap.size w0 w) (h:(kQ w0).C w A n xs):qw.C w A n xs:=by
 refine fk.gI h (Below.refl w.heap.size w) ?_
 rintro x cs ⟨c0,c1,rfl,⟨A,c,rfl,hl,hC⟩,hi⟩
 exact ⟨_,_,rfl,⟨A,c,rfl,hl,Kd.cW hC hb⟩,hi⟩
theorem uT (w:World) (gq:Nat) (v:Value) (hc:w.cell? ⟨gq,0,none⟩=some v):(loadVar 93 ⟨gq,0,none⟩).run Tryz.prog w = .ok v w:=by
 have h1:∀ w,(isAgg 93).run Tryz.prog w = .ok false w:=fun _=>by kernel_rfl
 simp [loadVar,h1,hc]
theorem rU (w : World) (gq : Nat) (v : Value) (hc : w.cell? ⟨gq, 0, none⟩ = some v) : (method 275 91 (.pointer (some ⟨gq, 0, none⟩)) "Less").run Tryz.prog w = .ok (127, v) w := by
 have h : (method 275 91 (.pointer (some ⟨gq, 0, none⟩)) "Less").run Tryz.prog w = (loadVar 93 ⟨gq, 0, none⟩ >>= fun v => (pure (127, v) : Sem (FuncId × Value))).run Tryz.prog w := by kernel_rfl
 rw [h]
 simp only [Sem.run_bind,uT w gq v hc,Result.andThen_ok,Sem.run_pure]
theorem rO (w : World) (gq : Nat) (v : Value) (hc : w.cell? ⟨gq, 0, none⟩ = some v) : (method 275 91 (.pointer (some ⟨gq, 0, none⟩)) "Swap").run Tryz.prog w = .ok (130, v) w := by
 have h : (method 275 91 (.pointer (some ⟨gq, 0, none⟩)) "Swap").run Tryz.prog w = (loadVar 93 ⟨gq, 0, none⟩ >>= fun v => (pure (130, v) : Sem (FuncId × Value))).run Tryz.prog w := by kernel_rfl
 rw [h]
 simp only [Sem.run_bind,uT w gq v hc,Result.andThen_ok,Sem.run_pure]
theorem CQ (w : World) (gq : Nat) (v : Value) (hc : w.cell? ⟨gq, 0, none⟩ = some v) : (method 275 91 (.pointer (some ⟨gq, 0, none⟩)) "Len").run Tryz.prog w = .ok (59, v) w := by
 have h : (method 275 91 (.pointer (some ⟨gq, 0, none⟩)) "Len").run Tryz.prog w = (loadVar 93 ⟨gq, 0, none⟩ >>= fun v => (pure (59, v) : Sem (FuncId × Value))).run Tryz.prog w := by kernel_rfl
 rw [h]
 simp only [Sem.run_bind,uT w gq v hc,Result.andThen_ok,Sem.run_pure]
theorem FH (w : World) (gq : Nat) : (method 275 91 (.pointer (some ⟨gq, 0, none⟩)) "Push").run Tryz.prog w = .ok (129, .pointer (some ⟨gq, 0, none⟩)) w := by kernel_rfl
theorem FM (w : World) (gq : Nat) : (method 275 91 (.pointer (some ⟨gq, 0, none⟩)) "Pop").run Tryz.prog w = .ok (128, .pointer (some ⟨gq, 0, none⟩)) w := by kernel_rfl
def iT (xs:List ef) (i j:Nat):List ef:=(xs.set i (xs.getD j iU)).set j (xs.getD i iU)
theorem wK {w0 W:World} {base g n cap:Nat} {ok:Nat→Prop} {xs:List ef} (h:(kQ w0).R 96 W base ok (.slice (some ⟨g,0,none⟩) n cap) xs) (i:Nat) (hi:i<xs.length) {x':ef} {A:Option Addr} {c:Nat} (hl:x'.f0.length≤c) (hC:cC.C w0 A x'.f0.length x'.f0) :
  (kQ w0).R 96 (W.setCells g (i*2) [.slice A x'.f0.length c,.int .i64 x'.f1]) base ok (.slice (some ⟨g,0,none⟩) n cap) (xs.set i x')∧W.grownBy (W.setCells g (i*2) [.slice A x'.f0.length c,.int .i64 x'.f1]) (some g):=by
 have hn:=(Kd.bh h).1;obtain ⟨cs,hcl,hM,hc,hf⟩:=Kd.mM h iU (i:Int) (by omega) (by omega);have hsz:(kQ w0).sz=2:=rfl;have h2:cs.drop 2=[]:=List.drop_eq_nil_of_le (by omega)
 have:=Kd.wD (j:=0) (seg:=[.slice A x'.f0.length c,.int .i64 x'.f1]) h (i:Int) (by omega) (by omega) hcl hc (by rw [hsz];simp) (x':=x') (okp:=fun k=>ok k∧k≠g) (by simp only [List.take_zero,List.nil_append,List.length_cons,List.length_nil,Nat.zero_add,h2,List.append_nil];exact AJ w0 _ base _ _ hl hC) (fun _ h=>h)
 rw [Int.toNat_natCast] at this;exact this
theorem BP {w w1 w2:World} {g:Nat} (h1:w.drew.grownBy w1 (some g)) (h2:w1.grownBy w2 (some g)):w.grownBy w2 (some g):=
 ⟨h2.os.trans h1.os,h2.tape.trans h1.tape,h2.output.trans h1.output,Nat.le_trans h1.size h2.size,fun k hk hne=>(h2.block k (Nat.lt_of_lt_of_le hk h1.size) hne).trans (h1.block k hk hne)⟩
theorem fR (xs:List ef) (i j:Nat):(iT xs i j).length=xs.length:=by simp [iT]
theorem mJ (w0 w:World) (base g c:Nat) (ok:Nat→Prop) (xs:List ef) (i j:Nat) (hi:i<xs.length) (hj:j<xs.length) (HR:(kQ w0).R 96 w base ok (.slice (some ⟨g,0,none⟩) xs.length c) xs) :
  Calls Tryz.prog 130 #[.slice (some ⟨g,0,none⟩) xs.length c,.int .i64 i,.int .i64 j] w fun e w'=>e = .returned (.tuple #[])∧(kQ w0).R 96 w' base ok (.slice (some ⟨g,0,none⟩) xs.length c) (iT xs i j)∧w.grownBy w' (some g):=by
 obtain ⟨ci,hcl,hMi,hci,hfi⟩:=Kd.mM HR iU (i:Int) (by omega) (by omega);obtain ⟨cj,hcl2,hMj,hcj,hfj⟩:=Kd.mM HR iU (j:Int) (by omega) (by omega);rw [Int.toNat_natCast] at hMi hMj hci hcj hfi hfj;obtain ⟨Ai,ai,rfl,hli,hCi⟩:=qo hMi;obtain ⟨Aj,aj,rfl,hlj,hCj⟩:=qo hMj;have hu:=Tryz.underlying93;have hu2:=Tryz.underlying96;have b1:decide ((0:Int)≤(i:Int))=true:=decide_eq_true (by omega);have b2:decide ((0:Int)≤(j:Int))=true:=decide_eq_true (by omega);have b3:decide ((i:Int)<(xs.length:Int))=true:=decide_eq_true (by omega);have b4:decide ((j:Int)<(xs.length:Int))=true:=decide_eq_true (by omega)
 have hj2:w.drew.rangeAt g (j*2) [.slice Aj (xs.getD j iU).f0.length aj,.int .i64 (xs.getD j iU).f1]:=fun q v hq=>hcj q v hq
 have hi2:w.drew.rangeAt g (i*2) [.slice Ai (xs.getD i iU).f0.length ai,.int .i64 (xs.getD i iU).f1]:=fun q v hq=>hci q v hq
 have t1:w.drew.there g (i*2) 2:=fun q hq=>⟨by rw [hi2 q _ (List.getElem?_eq_getElem (by simpa using hq))];rfl,hfi q⟩
 have t2_:w.drew.there g (j*2) 2:=fun q hq=>⟨by rw [hj2 q _ (List.getElem?_eq_getElem (by simpa using hq))];rfl,hfj q⟩
 have t2:(w.drew.setCells g (i*2) [.slice Aj (xs.getD j iU).f0.length aj,.int .i64 (xs.getD j iU).f1]).there g (j*2) 2:=World.there_setCells t2_ _ _ _;obtain ⟨HR1,HG1⟩:=wK (Kd.bP HR) i hi (x':=xs.getD j iU) hlj hCj;obtain ⟨HR2,HG2⟩:=wK HR1 j (by rw [List.length_set];exact hj) (x':=xs.getD i iU) hli hCi;have HG:w.grownBy ((w.drew.setCells g (i*2) [.slice Aj (xs.getD j iU).f0.length aj,.int .i64 (xs.getD j iU).f1]).setCells g (j*2) [.slice Ai (xs.getD i iU).f0.length ai,.int .i64 (xs.getD i iU).f1]) (some g):=BP HG1 HG2
 go_enter Tryz.func130,Tryz.ntmps130
 refine dz (n:=16) (ds:=[13,15]) (S:=fun w'=>w'.rangeAt g (i*2) [.slice Ai (xs.getD i iU).f0.length ai,.int .i64 (xs.getD i iU).f1]∧w'.rangeAt g (j*2) [.slice Aj (xs.getD j iU).f0.length aj,.int .i64 (xs.getD j iU).f1]) (bA 16 0) rfl rfl rfl ⟨hi2,hj2⟩ (fun hHeld=>?_);refine dB (i:=0) (N:=some 6) (v:=?_) (a':=?_) (bA 16 1) rfl rfl (by kernel_rfl) (fun _ _ _ h=>h) (Or.inl ⟨by rfl,?_⟩) ?_ ?_
 rotate_left
 ·
  intro w'
  go_simp
  with_reducible rfl
 rotate_left
 ·
  simp only [Act.put,dw,dx,lss,bC,cm]
  rfl
 refine dB (i:=1) (N:=some 7) (v:=?_) (a':=?_) (bA 16 3) rfl rfl (by kernel_rfl) (fun _ _ _ h=>h) (Or.inl ⟨by rfl,?_⟩) ?_ ?_
 rotate_left
 ·
  intro w'
  go_simp
  with_reducible rfl
 rotate_left
 ·
  simp only [Act.put,dw,dx,lss,bC,cm]
  rfl
 refine dB (i:=2) (N:=some 8) (v:=?_) (a':=?_) (bA 16 7) rfl rfl (by kernel_rfl) (fun _ _ _ h=>h) (Or.inl ⟨by rfl,?_⟩) ?_ ?_
 rotate_left
 ·
  intro w'
  go_simp
  with_reducible rfl
 rotate_left
 ·
  simp only [Act.put,dw,dx,lss,bC,cm]
  rfl
 refine dB (i:=3) (N:=some 9) (v:=?_) (a':=?_) (bA 16 15) rfl rfl (by kernel_rfl) (fun _ _ _ h=>h) (Or.inl ⟨by rfl,?_⟩) ?_ ?_
 rotate_left
 ·
  intro w'
  go_simp
  with_reducible rfl
 rotate_left
 ·
  simp only [Act.put,dw,dx,lss,bC,cm]
  rfl
 refine dB (i:=4) (N:=some 10) (v:=?_) (a':=?_) (bA 16 31) rfl rfl (by kernel_rfl) (fun _ _ _ h=>h) (Or.inl ⟨by rfl,?_⟩) ?_ ?_
 rotate_left
 ·
  intro w'
  go_simp
  with_reducible rfl
 rotate_left
 ·
  simp only [Act.put,dw,dx,lss,bC,cm]
  rfl
 refine dB (i:=5) (N:=some 11) (v:=?_) (a':=?_) (bA 16 63) rfl rfl (by kernel_rfl) (fun _ _ _ h=>h) (Or.inl ⟨by rfl,?_⟩) ?_ ?_
 rotate_left
 ·
  intro w'
  go_simp
  with_reducible rfl
 rotate_left
 ·
  simp only [Act.put,dw,dx,lss,bC,cm]
  rfl
 refine dB (i:=6) (N:=some 12) (v:=?_) (a':=?_) (bA 16 127) rfl rfl (by kernel_rfl) (fun _ _ _ h=>h) (Or.inl ⟨by rfl,?_⟩) ?_ ?_
 rotate_left
 ·
  intro w'
  go_simp
  with_reducible rfl
 rotate_left
 ·
  simp only [Act.put,dw,dx,lss,bC,cm]
  rfl
 refine iw (i:=7) (N:=some 13) (v:=.agg #[.slice Aj (xs.getD j iU).f0.length aj,.int .i64 (xs.getD j iU).f1]) (a':=?a7) (bA 16 255) rfl rfl (by kernel_rfl) (fun _ _ _ h=>h) ?hy7 hHeld ?ha7 ?hh7
 case hy7=>exact yieldsIf_load_mid (by rfl) 96 _ rfl g (j*2) (by go_simp) _ _ (fun w' hw'=>hw'.2) hu2 rfl rfl
 case ha7=>
  simp only [Act.put,dw,dx,lss,bC,cm]
  rfl
 refine dB (i:=8) (N:=some 14) (v:=?_) (a':=?_) (bA 16 511) rfl rfl (by kernel_rfl) (fun _ _ _ h=>h) (Or.inl ⟨by rfl,?_⟩) ?_ ?_
 rotate_left
 ·
  intro w'
  go_simp
  with_reducible rfl
 rotate_left
 ·
  simp only [Act.put,dw,dx,lss,bC,cm]
  rfl
 refine dB (i:=9) (N:=some 15) (v:=?_) (a':=?_) (bA 16 1023) rfl rfl (by kernel_rfl) (fun _ _ _ h=>h) (Or.inl ⟨by rfl,?_⟩) ?_ ?_
 rotate_left
 ·
  intro w'
  go_simp
  with_reducible rfl
 rotate_left
 ·
  simp only [Act.put,dw,dx,lss,bC,cm]
  rfl
 refine dB (i:=10) (N:=some 16) (v:=?_) (a':=?_) (bA 16 2047) rfl rfl (by kernel_rfl) (fun _ _ _ h=>h) (Or.inl ⟨by rfl,?_⟩) ?_ ?_
 rotate_left
 ·
  intro w'
  go_simp
  with_reducible rfl
 rotate_left
 ·
  simp only [Act.put,dw,dx,lss,bC,cm]
  rfl
 refine iw (i:=11) (N:=some 17) (v:=.agg #[.slice Ai (xs.getD i iU).f0.length ai,.int .i64 (xs.getD i iU).f1]) (a':=?a11) (bA 16 4095) rfl rfl (by kernel_rfl) (fun _ _ _ h=>h) ?hy11 hHeld ?ha11 ?hh11
 case hy11=>exact yieldsIf_load_mid (by rfl) 96 _ rfl g (i*2) (by go_simp) _ _ (fun w' hw'=>hw'.1) hu2 rfl rfl
 case ha11=>
  simp only [Act.put,dw,dx,lss,bC,cm]
  rfl
 refine dB (i:=12) (N:=some 18) (v:=?_) (a':=?_) (bA 16 8191) rfl rfl (by kernel_rfl) (fun _ _ _ h=>h) (Or.inl ⟨by rfl,?_⟩) ?_ ?_
 rotate_left
 ·
  intro w'
  go_simp
  with_reducible rfl
 rotate_left
 ·
  simp only [Act.put,dw,dx,lss,bC,cm]
  rfl
 refine jT (i:=13) (N:=none) (bA 16 16383) rfl rfl (by kernel_rfl) (by decide) (fun K hK=>?_);rw [if_pos (by rfl)];refine wp_store_mid 96 _ _ rfl g (i*2) #[.slice Aj (xs.getD j iU).f0.length aj,.int .i64 (xs.getD j iU).f1] rfl rfl t1 rfl (by kernel_rfl) ?_;refine hK.out _ _ ?_;clear hK K;refine kY (a':=?_) ?_ ?_
 rotate_left
 ·
  simp only [Act.put,dw,dx,lss,bC,cm]
  rfl
 refine dB (i:=14) (N:=some 19) (v:=?_) (a':=?_) (bA 16 32767) rfl rfl (by kernel_rfl) (fun _ _ _ h=>h) (Or.inl ⟨by rfl,?_⟩) ?_ ?_
 rotate_left
 ·
  intro w'
  go_simp
  with_reducible rfl
 rotate_left
 ·
  simp only [Act.put,dw,dx,lss,bC,cm]
  rfl
 refine jT (i:=15) (N:=none) (bA 16 65535) rfl rfl (by kernel_rfl) (by decide) (fun K hK=>?_);rw [if_pos (by rfl)];refine wp_store_mid 96 _ _ rfl g (j*2) #[.slice Ai (xs.getD i iU).f0.length ai,.int .i64 (xs.getD i iU).f1] rfl rfl t2 rfl (by kernel_rfl) ?_;refine hK.out _ _ ?_;clear hK K;refine dQ (by kernel_rfl) ?_
 go_end0
 exact ⟨rfl,HR2,HG⟩
structure QR (w0:World) (gq:Nat) (w:World) (v:Value) (xs:List ef):Prop where
 box:w.heap[gq]? = some (.cells #[v] 93 (0,0))
 row:(kQ w0).R 96 w w0.heap.size (fun k=>k≠gq) v xs
 ge:w0.heap.size≤gq
 ar:Below w0.heap.size w0 w
def FI (o:Obj):Prop:=(∀ cells,o≠.cells cells 93 (0,0))∧∀ cells,o≠.cells cells 96 (0,0)
structure Fr (w w':World):Prop where
 size:w.heap.size≤w'.heap.size
 keep:∀ (k:Nat) (o:Obj),w.heap[k]? = some o→FI o→w'.heap[k]? = some o
theorem Fr.refl (w:World):Fr w w:=⟨Nat.le_refl _,fun _ _ h _=>h⟩
theorem Fr.trans {w w1 w2:World} (h:Fr w w1) (h':Fr w1 w2):Fr w w2:=⟨Nat.le_trans h.size h'.size,fun k o hk ho=>h'.keep k o (h.keep k o hk ho) ho⟩
theorem Fr.below {w w1:World} (h:Below w.heap.size w w1):Fr w w1:=⟨h.size,fun k o hk _=>aK hk h⟩
theorem QR.below {w0 w w1:World} {gq:Nat} {v:Value} {xs:List ef} (h:QR w0 gq w v xs) (hb:Below w.heap.size w w1):QR w0 gq w1 v xs:=
 ⟨aK h.box hb,Kd.dA h.row hb,h.ge,aN h.ar hb⟩
theorem QR.cell {w0 w:World} {gq:Nat} {v:Value} {xs:List ef} (h:QR w0 gq w v xs):w.cell? ⟨gq,0,none⟩=some v:=(aG h.box 0).trans rfl
theorem QR.slice {w0 w:World} {gq:Nat} {v:Value} {xs:List ef} (h:QR w0 gq w v xs):∃ A c,v = .slice A xs.length c∧xs.length≤c∧qw.C w A xs.length xs:=by
 obtain ⟨A,c,rfl⟩:=Kd.bq h.row;obtain ⟨h1,h2,h3⟩:=Kd.bh h.row;exact ⟨A,c,rfl,by omega,En h.ar h3⟩
theorem QR.form {w0 w:World} {gq:Nat} {v:Value} {xs:List ef} (h:QR w0 gq w v xs) (hn:0<xs.length):∃ g c,v = .slice (some ⟨g,0,none⟩) xs.length c∧xs.length≤c∧qw.C w (some ⟨g,0,none⟩) xs.length xs:=by
 obtain ⟨g,c,rfl,_,_⟩:=Kd.kp h.row hn;obtain ⟨h1,h2,h3⟩:=Kd.bh h.row;exact ⟨g,c,rfl,h2,En h.ar h3⟩
theorem QR.max {w0 w:World} {gq:Nat} {v:Value} {xs:List ef} (h:QR w0 gq w v xs):xs.length≤9223372036854775807:=by
 obtain ⟨A,c,_,_,hC⟩:=h.slice;exact Kd.zZ hC
theorem Fp {B:Nat} {a w:World} (h:Below B a w) {g:Nat} (hg:B≤g) (u:Value):Below B a (w.setCell ⟨g,0,none⟩ u):=h.setCell hg u
theorem QR.put {w0 w w1:World} {gq:Nat} {v v':Value} {xs ys:List ef} (h:QR w0 gq w v xs) (hx:w1.heap[gq]? = some (.cells #[v] 93 (0,0))) (hr:(kQ w0).R 96 w1 w0.heap.size (fun k=>k≠gq) v' ys) (hb:Below w0.heap.size w0 w1):QR w0 gq (w1.setCell ⟨gq,0,none⟩ v') v' ys:=
 ⟨(u_ hx 0 v').trans rfl,Kd.fj hr (fun _ hk=>hk) v',h.ge,hb.setCell h.ge v'⟩
theorem Fr.set {w w1:World} {gq:Nat} {v v':Value} (h:Fr w w1) (hx:w1.heap[gq]? = some (.cells #[v] 93 (0,0))):Fr w (w1.setCell ⟨gq,0,none⟩ v'):=by
 refine ⟨Nat.le_trans h.size (by simp),fun k o hk ho=>?_⟩
 have hne:k≠gq:=by
  rintro rfl
  have:=h.keep _ o hk ho
  rw [hx] at this;exact ho.1 _ (Option.some.inj this).symm
 exact (Below.heap_setCell w1 _ v' k (fun e=>hne e)).trans (h.keep k o hk ho)
theorem Fr.grown {w0 w1 w2:World} {v:Value} {base:Nat} {ok:Nat→Prop} {xs:List ef} {w:World} (h:Fr w w1) (hr:(kQ w0).R 96 w1 base ok v xs) (hg:w1.grownBy w2 v.ownBlock):Fr w w2:=by
 refine ⟨Nat.le_trans h.size hg.size,fun k o hk ho=>?_⟩;have h1:=h.keep k o hk ho;refine (hg.block k (dg h1) (fun he=>?_)).trans h1;obtain ⟨cells,hc⟩:=Kd.gn hr k he.symm;rw [h1] at hc;exact ho.2 _ (Option.some.inj hc)
theorem QR.swap {w0 w w1:World} {gq g c:Nat} {xs:List ef} {i j:Nat} (h:QR w0 gq w (.slice (some ⟨g,0,none⟩) xs.length c) xs) (hr:(kQ w0).R 96 w1 w0.heap.size (fun k=>k≠gq) (.slice (some ⟨g,0,none⟩) xs.length c) (iT xs i j)) (hg:w.grownBy w1 (some g)):QR w0 gq w1 (.slice (some ⟨g,0,none⟩) xs.length c) (iT xs i j)∧Fr w w1:=by
 have he:(Value.slice (some ⟨g,0,none⟩) xs.length c).ownBlock=some g:=rfl;refine ⟨⟨er h.box hg (by rw [←he];exact Kd.jH h.row h.box (by decide)),hr,h.ge,uR h.ar (some g) h.ar.size hg (fun k hk=>by rw [←he] at hk;exact Kd.fF h.row k hk)⟩,?_⟩;exact (Fr.refl w).grown h.row (by rw [he];exact hg)
theorem z_ {w0 w:World} {gq:Nat} {v:Value} {xs:List ef} (e:ef) {A:Option Addr} {c:Nat} (hl:e.f0.length≤c) (hC:cC.C w0 A e.f0.length e.f0) (hn:xs.length≤1000000) (h:QR w0 gq w v xs) :
  Calls Tryz.prog 129 #[.pointer (some ⟨gq,0,none⟩),.iface 96 (.agg #[.slice A e.f0.length c,.int .i64 e.f1])] w fun en w'=>en = .returned (.tuple #[])∧∃ v',QR w0 gq w' v' (xs++[e])∧Fr w w':=by
 have hu41:=Tryz.underlying93;have hu44:=Tryz.underlying96;have hu39:=Tryz.underlying91
 have hta:∀ w:World,(Instr.typeAssert (.iface 96 (.agg #[.slice A e.f0.length c,.int .i64 e.f1])) 20 96 true).run Tryz.prog w = .ok (.tuple #[.agg #[.slice A e.f0.length c,.int .i64 e.f1],.bool true]) w:=fun _=>by kernel_rfl
 have H:=aS h;clear h
 go_enter Tryz.func129,Tryz.ntmps129
 go_upto_region 2 with (first | ((with_reducible refine aX (N:=4) rfl ?_);refine aY ?hg (N:=4) ?hd (cs:=#[.slice none 0 0,.int .i64 0]) (t:=96) ?hr ?_;(case hd=>rfl);(case hg=>rfl);(case hr=>(first | (go_simp;done) | (go_simp;rfl)));intro g4 hg w2 hb hbl;have G4:=aS hg;have B4:=aS hb;have L4:=aS hbl;clear hg hb hbl) | ((with_reducible refine eG (t:=96) (p:=4) rfl ?_);refine wpList_store_row rfl 96 _ _ rfl g4 #[.slice A e.f0.length c,.int .i64 e.f1] rfl rfl 96 _ B4.out (by kernel_rfl) rfl (by kernel_rfl) ?_))
 have hg4:w.heap.size≤g4:=by rw [G4.out];exact Nat.le_refl _
 have l5:Below w.heap.size w (w2.setRow g4 #[.slice A e.f0.length c,.int .i64 e.f1]):=dS L4.out hg4 _;have b5:(w2.setRow g4 #[.slice A e.f0.length c,.int .i64 e.f1]).heap[g4]? = some (.cells #[.slice A e.f0.length c,.int .i64 e.f1] 96 (0,0)):=setRow_heap _ _ _ _ _ _ B4.out;have L5:=aS l5;have B5:=aS b5;clear l5 b5 B4 L4 G4
 generalize w2.setRow g4 #[.slice A e.f0.length c,.int .i64 e.f1]=w3 at L5 B5 ⊢
 have h4:=H.out.below (bN L5.out);have F4:=aS (Fr.below (bN L5.out));have B6:w3.drew.heap[g4]? = some (.cells #[.slice A e.f0.length c,.int .i64 e.f1] 96 (0,0)):=B5.out
 have r6:w3.drew.rangeAt g4 0 [.slice A e.f0.length c,.int .i64 e.f1]:=fun q u hq=>(aG B6 (0+q)).trans (by rw [Nat.zero_add,List.getElem?_toArray];exact hq)
 have H4:=aS h4;have B6:=aS B6;clear H L5 B5 h4;refine dz (n:=9) (ds:=[6,8]) (S:=fun w'=>w'.cell? ⟨gq,0,none⟩=some v∧w'.rangeAt g4 0 [.slice A e.f0.length c,.int .i64 e.f1]) (bA 9 0) rfl rfl rfl ⟨H4.out.cell,r6⟩ (fun hHeld=>?_)
 generalize w3.drew=w4 at H4 F4 B6 hHeld ⊢
 refine dB (i:=0) (N:=(some 12)) (v:=?_) (a':=?_) (bA 9 1) rfl rfl (by kernel_rfl) (fun _ _ _ h=>h) (Or.inl ⟨by rfl,?_⟩) ?_ ?_
 rotate_left
 ·
  intro w'
  go_simp
  with_reducible rfl
 rotate_left
 ·
  simp only [Act.put,dw,dx,lss,bC,cm]
  rfl
 refine dB (i:=1) (N:=(some 13)) (v:=?_) (a':=?_) (bA 9 3) rfl rfl (by kernel_rfl) (fun _ _ _ h=>h) (Or.inl ⟨by rfl,?_⟩) ?_ ?_
 rotate_left
 ·
  intro w'
  go_simp
  with_reducible rfl
 rotate_left
 ·
  simp only [Act.put,dw,dx,lss,bC,cm]
  rfl
 refine dB (i:=2) (N:=(some 14)) (v:=?_) (a':=?_) (bA 9 7) rfl rfl (by kernel_rfl) (fun _ _ _ h=>h) (Or.inl ⟨by rfl,?_⟩) ?_ ?_
 rotate_left
 ·
  intro w'
  go_simp
  with_reducible rfl
 rotate_left
 ·
  simp only [Act.put,dw,dx,lss,bC,cm]
  rfl
 refine iw (i:=3) (N:=(some 15)) (v:=v) (a':=?a3) (bA 9 15) rfl rfl (by kernel_rfl) (fun _ _ _ h=>h) ?hy3 hHeld ?ha3 ?hh3
 case hy3=>exact Or.inl ⟨by rfl,fun w' hw'=>by have h1:=hw'.1;go_simp⟩
 case ha3=>
  simp only [Act.put,dw,dx,lss,bC,cm]
  rfl
 refine iw (i:=4) (N:=(some 16)) (v:=.agg #[.slice A e.f0.length c,.int .i64 e.f1]) (a':=?a4) (bA 9 31) rfl rfl (by kernel_rfl) (fun _ _ _ h=>h) ?hy4 hHeld ?ha4 ?hh4
 case hy4=>exact yieldsIf_load_mid (by rfl) 96 _ rfl g4 0 (by go_simp) _ _ (fun w' hw'=>hw'.2) hu44 rfl rfl
 case ha4=>
  simp only [Act.put,dw,dx,lss,bC,cm]
  rfl
 refine AY (i:=5) (N:=(some 17)) (bA 9 63) rfl rfl (by kernel_rfl) (by decide) (fun K hK=>?_);refine lX (w1:=?_) (v:=?_) (by rfl) rfl ?_ ?_
 rotate_left 2
 ·
  go_simp
  constructor
  ·
   rfl
  ·
   rfl
 refine hK.out _ _ ⟨(aG (ax H4.out.box _) 0).trans rfl,fun q u hq=>(aG (ax B6.out _) (0+q)).trans (by rw [Nat.zero_add,List.getElem?_toArray];exact hq)⟩ (fun hHeld=>?_);clear hK K;refine nm 17 ?_;refine jT (i:=6) (N:=(some 18)) (bA 9 127) rfl rfl (by kernel_rfl) (by decide) (fun K hK=>?_);refine Kd.om (kQ w0) (w0:=w0) w0.heap.size (by rfl) (.tmp 15) (.tmp 17) 93 96 (.agg #[.slice none 0 0,.int .i64 0]) 32 rfl Tryz.underlying93 BQ rfl (by show 0<2;omega) (by omega) v xs e [.slice A e.f0.length c,.int .i64 e.f1] (fun k=>k≠gq) (fun _=>False) rfl rfl ?aP (fun _ hk=>hk.elim) ?aF H4.out.row H4.out.ar ?aS ?aL ?_
 case aP=>exact AJ w0 _ _ _ e hl hC
 case aF=>intro k hk;have:=dg H4.out.box;omega
 case aS=>exact H4.out.ar.size
 case aL=>omega
 intro v1 w5 ho hb hg hat
 have hx5:=er H4.out.box (w1:=w5) hg (Kd.jH H4.out.row H4.out.box (by decide));have F5:=aS (F4.out.grown H4.out.row hg);have X5:=aS hx5;have O5:=aS ho;have L5:=aS hb;clear hx5 ho hb hg hat;refine hK.out _ _ ?_;clear hK K;refine nm 18 ?_;refine dB (i:=7) (N:=(some 19)) (v:=?_) (a':=?_) (bA 9 255) rfl rfl (by kernel_rfl) (fun _ _ _ h=>h) (Or.inl ⟨by rfl,?_⟩) ?_ ?_
 rotate_left
 ·
  intro w'
  go_simp
  with_reducible rfl
 rotate_left
 ·
  simp only [Act.put,dw,dx,lss,bC,cm]
  rfl
 refine jT (i:=8) (N:=none) (bA 9 511) rfl rfl (by kernel_rfl) (by decide) (fun K hK=>?_);rw [if_pos (by rfl)];obtain ⟨A1,c1,rfl⟩:=Kd.bq O5.out;have hfz:=dD X5.out 0;have hcl:=(aG X5.out 0).trans rfl
 unfold Oper.wp
 go_simp
 refine hK.out _ _ ?_;clear hK K;refine dQ (by kernel_rfl) ?_
 go_end0
 have o5:=O5.out;rw [List.length_append,List.length_singleton] at o5;exact ⟨rfl,_,H4.out.put X5.out o5 L5.out,F5.out.set X5.out⟩
theorem Cn {w0 w:World} {gq:Nat} {v:Value} {xs:List ef} (hn:0<xs.length) (h:QR w0 gq w v xs) :
  Calls Tryz.prog 128 #[.pointer (some ⟨gq,0,none⟩)] w fun en w'=>(∃ u,en = .returned u)∧∃ v',QR w0 gq w' v' (xs.take (xs.length - 1))∧Fr w w':=by
 have hu41:=Tryz.underlying93;have hu44:=Tryz.underlying96;have hu39:=Tryz.underlying91;have hmax:=h.max;obtain ⟨g,c,rfl,hg,_⟩:=Kd.kp h.row hn;obtain ⟨cs,hcl,hM,hc,hf⟩:=Kd.mM h.row iU ((xs.length - 1:Nat):Int) (by omega) (by omega);rw [Int.toNat_natCast] at hc hM;obtain ⟨A,a,rfl,hl,hC⟩:=qo hM;have hsz:(kQ w0).sz=2:=rfl;rw [hsz] at hc
 generalize xs.getD (xs.length - 1) iU=e at *
 have hcell:=h.cell;have hc0:w.cell? ⟨g,(xs.length - 1)*2,none⟩=some (.slice A e.f0.length a):=hc 0 _ rfl;have hc1:w.cell? ⟨g,(xs.length - 1)*2+1,none⟩=some (.int .i64 e.f1):=hc 1 _ rfl;obtain ⟨i0,hi0,_,_,_⟩:=info_parts BQ;have hcut:=jR (P:=Tryz.prog) 93 96 .i64 Tryz.underlying93 hi0 (some ⟨g,0,none⟩) xs.length c ((xs.length:Int) - 1) (by omega) (by omega) (by have:=(Kd.bh h.row).2.1;omega)
 go_enter Tryz.func128,Tryz.ntmps128
 go_wp2_with (first | ((with_reducible refine aX (N:=4) rfl ?_);refine aY ?hg (N:=4) ?hd (cs:=#[.slice none 0 0,.int .i64 0]) (t:=96) ?hr ?_;(case hd=>rfl);(case hg=>rfl);(case hr=>(first | (go_simp;done) | (go_simp;rfl)));intro g4 hg w2 hb hbl;have G4:=aS hg;have B4:=aS hb;have L4:=aS hbl;clear hg hb hbl) | ((with_reducible refine eG (t:=96) (p:=4) rfl ?_);refine wpList_store_row rfl 96 _ _ rfl g4 #[.slice A e.f0.length a,.int .i64 e.f1] rfl rfl 96 _ B4.out (by kernel_rfl) rfl (by kernel_rfl) ?_;have l5:=dS L4.out (g:=g4) (by rw [G4.out];exact Nat.le_refl _) #[.slice A e.f0.length a,.int .i64 e.f1];have L5:=aS l5;have B5:=aS (show (World.setRow w2 g4 #[.slice A e.f0.length a,.int .i64 e.f1]).heap[g4]? = some (.cells #[.slice A e.f0.length a,.int .i64 e.f1] 96 (0,0)) from setRow_heap _ _ _ _ _ _ B4.out);clear l5 B4 L4;generalize World.setRow w2 g4 #[.slice A e.f0.length a,.int .i64 e.f1]=w5 at L5 B5 ⊢;have H5:=aS (h.below L5.out);have hx5:=H5.out.cell;have hfz:=dD H5.out.box 0;have hx6:=(aG B5.out 0).trans rfl;have hne:gq≠g4:=BX H5.out.box B5.out (by decide);have hb8:=dW B5.out (p:=⟨gq,0,none⟩) (fun e=>hne e.symm) (.slice (some ⟨g,0,none⟩) (xs.length - 1) c);have hx8:=(aG hb8 0).trans rfl;have hx9:=(aG hb8 1).trans rfl))
 have hb8:=()
 go_ret
 have h5:=H5.out;refine ⟨⟨_,rfl⟩,_,h5.put h5.box (Kd.B_ h5.row (m:=xs.length - 1) (by omega)) h5.ar,(Fr.below L5.out).set h5.box⟩
def mC (k:Nat):Nat→List ef→Nat→Option (List ef)
 | 0,_,_=>none
 | m+1,xs,j=>if j=0 then some xs else (bJ.f k xs (j:Int) (((j - 1) / 2:Nat):Int)).bind fun b=>if b=true then mC k m (iT xs ((j - 1) / 2) j) ((j - 1) / 2) else some xs
theorem xJ (k:Nat) {w0 w:World} {gq:Nat} {v:Value} {xs r:List ef} (j:Nat) (hj:j<xs.length) (h:QR w0 gq w v xs) (hr:mC k k xs j=some r) :
  Calls Tryz.prog 80 #[.iface 91 (.pointer (some ⟨gq,0,none⟩)),.int .i64 j] w fun en w'=>en = .returned (.tuple #[])∧∃ v',QR w0 gq w' v' r∧Fr w w':=by
 have hu39:=Tryz.underlying91;have H:=aS h;have A0:=aS hr;clear h hr
 go_enter Tryz.func80,Tryz.ntmps80
 go_wp2
 go_loopw [1] (fun v1 w1=>∃ (m j:Nat) (v:Value) (xs:List ef),v1 = .int .i64 (j:Int)∧ak (j<xs.length)∧ak (QR w0 gq w1 v xs)∧ak (mC k m xs j=some r)∧ak (Fr w w1)) (fun j _=>(intOf j).toNat)
 case atStart=>exact ⟨k,j,v,xs,rfl,⟨hj⟩,H,A0,⟨Fr.refl w⟩⟩
 case round=>
  clear H A0 hj;obtain ⟨m,j,v,xs,rfl,hj,H,A1,F1⟩:=hrel;have hm:=H.out.max;have hj:=hj.out;have a1:=A1.out
  cases m with
  | zero=>cases a1
  | succ m=>
   unfold mC at a1
   by_cases hj0:j=0
   ·
    subst hj0;rw [if_pos rfl] at a1
    obtain rfl:=Option.some.inj a1
    go_wp2_with (fail)
    go_end0
    exact ⟨rfl,⟨_,H.out⟩,F1.out⟩
   ·
    rw [if_neg hj0] at a1;obtain ⟨b,hb,a1⟩:=Option.bind_eq_some_iff.1 a1
    obtain ⟨i,hi⟩:∃ i,(j - 1) / 2=i:=⟨_,rfl⟩
    rw [hi] at hb a1
    have hq:Int.tdiv ((j:Int) - 1) 2=(i:Int):=by
     rw [show ((j:Int) - 1)=((j - 1:Nat):Int) by omega,← hi]
     rfl
    have hij:i<j:=by omega
    have hne:¬ ((i:Int)=(j:Int)):=by omega
    have hmL:=rU wr gq v H.out.cell;obtain ⟨g,c,rfl,hc,hC⟩:=H.out.form (by omega);have A2:=aS a1;have HB:=aS hb;have HC:=aS hC;clear a1 A1 hb hC hi
    cases b with
    | true=>
     rw [if_pos rfl] at A2
     go_wp2_with (first | (go_at_call 127;(with_reducible refine (bJ.calls k _ c xs j i true _ HC.out hc HB.out).mono ?_);rintro e w5 ⟨rfl,hb⟩;have H5:=aS (H.out.below hb);have F5:=aS (F1.out.trans (Fr.below hb));have hmS:=rO w5 gq _ H5.out.cell;clear hb) | (go_at_call 130;(with_reducible refine (mJ w0 _ w0.heap.size g c (fun k=>k≠gq) xs i j (by omega) hj H5.out.row).mono ?_);rintro e w6 ⟨rfl,hr,hg⟩;obtain ⟨h6,f6⟩:=H5.out.swap hr hg;have H6:=aS h6;have F6:=aS (F5.out.trans f6);clear hr hg h6 f6))
     go_roundw
     case rel=>exact ⟨m,i,_,iT xs i j,rfl,⟨by rw [fR];omega⟩,H6,A2,F6⟩
     case measure=>simp [intOf];omega
    | false=>
     rw [if_neg (by decide)] at A2;have a2:=A2.out
     obtain rfl:=Option.some.inj a2
     go_wp2_with (first | (go_at_call 127;(with_reducible refine (bJ.calls k _ c xs j i false _ HC.out hc HB.out).mono ?_);rintro e w5 ⟨rfl,hb⟩;have H5:=aS (H.out.below hb);have F5:=aS (F1.out.trans (Fr.below hb));clear hb))
     go_end0
     exact ⟨rfl,_,H5.out,F5.out⟩
def iG (k n:Nat):Nat→List ef→Nat→Option (List ef × Nat)
 | 0,_,_=>none
 | m+1,xs,i=>if n≤2*i+1 then some (xs,i) else (if 2*i+2<n then bJ.f k xs ((2*i+2:Nat):Int) ((2*i+1:Nat):Int) else some false).bind fun b=>(bJ.f k xs ((if b=true then 2*i+2 else 2*i+1:Nat):Int) (i:Int)).bind fun c=>if c=true then iG k n m (iT xs i (if b=true then 2*i+2 else 2*i+1)) (if b=true then 2*i+2 else 2*i+1) else some (xs,i)
theorem qM (k n:Nat) {w0 w:World} {gq:Nat} {v:Value} {xs r:List ef} {q:Nat} (i0:Nat) (hn:n≤xs.length) (hx:xs.length≤1000001) (hi:i0≤n) (h:QR w0 gq w v xs) (hr:iG k n k xs i0=some (r,q)) :
  Calls Tryz.prog 81 #[.iface 91 (.pointer (some ⟨gq,0,none⟩)),.int .i64 i0,.int .i64 n] w fun en w'=>en = .returned (.bool (decide (i0<q)))∧∃ v',QR w0 gq w' v' r∧Fr w w':=by
 have hu39:=Tryz.underlying91;have H:=aS h;have A0:=aS hr;clear h hr
 go_enter Tryz.func81,Tryz.ntmps81
 go_wp2
 go_loopw [7] (fun v7 w1=>∃ (m i:Nat) (v:Value) (xs:List ef),v7 = .int .i64 (i:Int)∧ak (n≤xs.length∧xs.length≤1000001∧i≤n)∧ak (QR w0 gq w1 v xs)∧ak (iG k n m xs i=some (r,q))∧ak (Fr w w1)) (fun i _=>n - (intOf i).toNat)
 case atStart=>exact ⟨k,i0,v,xs,rfl,⟨hn,hx,hi⟩,H,A0,⟨Fr.refl w⟩⟩
 case round=>
  clear H A0 hn hi;obtain ⟨m,i,v,xs,rfl,hi,H,A1,F1⟩:=hrel;obtain ⟨hn,hx,hi⟩:=hi.out;have a1:=A1.out;clear A1
  cases m with
  | zero=>cases a1
  | succ m=>
   unfold iG at a1
   obtain ⟨j1,hj1⟩:∃ j1,2*i+1=j1:=⟨_,rfl⟩
   obtain ⟨j2,hj2⟩:∃ j2,2*i+2=j2:=⟨_,rfl⟩
   rw [hj1,hj2] at a1
   have he1:2*(i:Int)+1=(j1:Int):=by omega
   have he2:(j1:Int)+1=(j2:Int):=by omega
   have hz:¬ (j1:Int)<0:=by omega
   by_cases hj:n≤j1
   ·
    rw [if_pos hj] at a1;have a2:=Option.some.inj a1
    simp only [Prod.mk.injEq] at a2
    obtain ⟨rfl,rfl⟩:=a2
    have hji:(n:Int)≤(j1:Int):=by omega
    go_wp2_with (fail)
    go_ret
    exact ⟨rfl,⟨_,H.out⟩,F1.out⟩
   ·
    rw [if_neg hj] at a1
    have hji:¬ (n:Int)≤(j1:Int):=by omega
    obtain ⟨b,hb,a1⟩:=Option.bind_eq_some_iff.1 a1;obtain ⟨c,hc,a1⟩:=Option.bind_eq_some_iff.1 a1;obtain ⟨g,cp,rfl,hcp,hC⟩:=H.out.form (by omega);have hmL:=rU wr gq _ H.out.cell;have HC:=aS hC;clear hC;have A2:=aS a1;have HB:=aS hb;have HX:=aS hc;clear a1 hb hc hj1 hj2
    by_cases hj2:j2<n
    ·
     rw [if_pos hj2] at HB
     have hjn:(j2:Int)<(n:Int):=by omega
     cases b with
     | true=>
      simp only [if_true] at A2 HX
      cases c with
      | true=>
       rw [if_pos rfl] at A2
       go_wp2_with (first | (go_at_call 127;(first | ((with_reducible refine (bJ.calls k _ cp xs (j2:Int) (j1:Int) true _ HC.out hcp HB.out).mono ?_)) | ((with_reducible refine (bJ.calls k _ cp xs (j2:Int) (i:Int) true _ HC.out hcp HX.out).mono ?_)));rintro e w5 ⟨rfl,hb⟩;have n0:=aS (H.out.below hb);have n1:=aS (F1.out.trans (Fr.below hb));have n2:=aS (Kd.cW HC.out hb);clear H F1 HC;have H:=n0;have F1:=n1;have HC:=n2;clear n0 n1 n2 hb;have hmL_:=rU w5 gq _ H.out.cell;have hmS_:=rO w5 gq _ H.out.cell) | (go_at_call 130;(with_reducible refine (mJ w0 _ w0.heap.size g cp (fun k=>k≠gq) xs i j2 (by omega) (by omega) H.out.row).mono ?_);rintro e w6 ⟨rfl,hr,hg⟩;obtain ⟨h6,f6⟩:=H.out.swap hr hg;have H6:=aS h6;have F6:=aS (F1.out.trans f6);clear hr hg h6 f6))
       go_roundw
       case rel=>exact ⟨m,j2,_,iT xs i j2,rfl,⟨by rw [fR];exact ⟨hn,hx,by omega⟩⟩,H6,A2,F6⟩
       case measure=>simp [intOf];omega
      | false=>
       rw [if_neg (by decide)] at A2;have a2:=Option.some.inj A2.out
       simp only [Prod.mk.injEq] at a2
       obtain ⟨rfl,rfl⟩:=a2
       go_wp2_with (first | (go_at_call 127;(first | ((with_reducible refine (bJ.calls k _ cp xs (j2:Int) (j1:Int) true _ HC.out hcp HB.out).mono ?_)) | ((with_reducible refine (bJ.calls k _ cp xs (j2:Int) (i:Int) false _ HC.out hcp HX.out).mono ?_)));rintro e w5 ⟨rfl,hb⟩;have n0:=aS (H.out.below hb);have n1:=aS (F1.out.trans (Fr.below hb));have n2:=aS (Kd.cW HC.out hb);clear H F1 HC;have H:=n0;have F1:=n1;have HC:=n2;clear n0 n1 n2 hb;have hmL_:=rU w5 gq _ H.out.cell;have hmS_:=rO w5 gq _ H.out.cell))
       go_ret
       exact ⟨rfl,_,H.out,F1.out⟩
     | false=>
      simp only [Bool.false_eq_true,if_false] at A2 HX
      cases c with
      | true=>
       rw [if_pos rfl] at A2
       go_wp2_with (first | (go_at_call 127;(first | ((with_reducible refine (bJ.calls k _ cp xs (j2:Int) (j1:Int) false _ HC.out hcp HB.out).mono ?_)) | ((with_reducible refine (bJ.calls k _ cp xs (j1:Int) (i:Int) true _ HC.out hcp HX.out).mono ?_)));rintro e w5 ⟨rfl,hb⟩;have n0:=aS (H.out.below hb);have n1:=aS (F1.out.trans (Fr.below hb));have n2:=aS (Kd.cW HC.out hb);clear H F1 HC;have H:=n0;have F1:=n1;have HC:=n2;clear n0 n1 n2 hb;have hmL_:=rU w5 gq _ H.out.cell;have hmS_:=rO w5 gq _ H.out.cell) | (go_at_call 130;(with_reducible refine (mJ w0 _ w0.heap.size g cp (fun k=>k≠gq) xs i j1 (by omega) (by omega) H.out.row).mono ?_);rintro e w6 ⟨rfl,hr,hg⟩;obtain ⟨h6,f6⟩:=H.out.swap hr hg;have H6:=aS h6;have F6:=aS (F1.out.trans f6);clear hr hg h6 f6))
       go_roundw
       case rel=>exact ⟨m,j1,_,iT xs i j1,rfl,⟨by rw [fR];exact ⟨hn,hx,by omega⟩⟩,H6,A2,F6⟩
       case measure=>simp [intOf];omega
      | false=>
       rw [if_neg (by decide)] at A2;have a2:=Option.some.inj A2.out
       simp only [Prod.mk.injEq] at a2
       obtain ⟨rfl,rfl⟩:=a2
       go_wp2_with (first | (go_at_call 127;(first | ((with_reducible refine (bJ.calls k _ cp xs (j2:Int) (j1:Int) false _ HC.out hcp HB.out).mono ?_)) | ((with_reducible refine (bJ.calls k _ cp xs (j1:Int) (i:Int) false _ HC.out hcp HX.out).mono ?_)));rintro e w5 ⟨rfl,hb⟩;have n0:=aS (H.out.below hb);have n1:=aS (F1.out.trans (Fr.below hb));have n2:=aS (Kd.cW HC.out hb);clear H F1 HC;have H:=n0;have F1:=n1;have HC:=n2;clear n0 n1 n2 hb;have hmL_:=rU w5 gq _ H.out.cell;have hmS_:=rO w5 gq _ H.out.cell))
       go_ret
       exact ⟨rfl,_,H.out,F1.out⟩
    ·
     rw [if_neg hj2] at HB
     have hjn:¬ (j2:Int)<(n:Int):=by omega
     obtain rfl:=Option.some.inj HB.out
     simp only [Bool.false_eq_true,if_false] at A2 HX
     cases c with
     | true=>
      rw [if_pos rfl] at A2
      go_wp2_with (first | (go_at_call 127;(first | ((with_reducible refine (bJ.calls k _ cp xs (j1:Int) (i:Int) true _ HC.out hcp HX.out).mono ?_)));rintro e w5 ⟨rfl,hb⟩;have n0:=aS (H.out.below hb);have n1:=aS (F1.out.trans (Fr.below hb));have n2:=aS (Kd.cW HC.out hb);clear H F1 HC;have H:=n0;have F1:=n1;have HC:=n2;clear n0 n1 n2 hb;have hmL_:=rU w5 gq _ H.out.cell;have hmS_:=rO w5 gq _ H.out.cell) | (go_at_call 130;(with_reducible refine (mJ w0 _ w0.heap.size g cp (fun k=>k≠gq) xs i j1 (by omega) (by omega) H.out.row).mono ?_);rintro e w6 ⟨rfl,hr,hg⟩;obtain ⟨h6,f6⟩:=H.out.swap hr hg;have H6:=aS h6;have F6:=aS (F1.out.trans f6);clear hr hg h6 f6))
      go_roundw
      case rel=>exact ⟨m,j1,_,iT xs i j1,rfl,⟨by rw [fR];exact ⟨hn,hx,by omega⟩⟩,H6,A2,F6⟩
      case measure=>simp [intOf];omega
     | false=>
      rw [if_neg (by decide)] at A2;have a2:=Option.some.inj A2.out
      simp only [Prod.mk.injEq] at a2
      obtain ⟨rfl,rfl⟩:=a2
      go_wp2_with (first | (go_at_call 127;(first | ((with_reducible refine (bJ.calls k _ cp xs (j1:Int) (i:Int) false _ HC.out hcp HX.out).mono ?_)));rintro e w5 ⟨rfl,hb⟩;have n0:=aS (H.out.below hb);have n1:=aS (F1.out.trans (Fr.below hb));have n2:=aS (Kd.cW HC.out hb);clear H F1 HC;have H:=n0;have F1:=n1;have HC:=n2;clear n0 n1 n2 hb;have hmL_:=rU w5 gq _ H.out.cell;have hmS_:=rO w5 gq _ H.out.cell))
      go_ret
      exact ⟨rfl,_,H.out,F1.out⟩
theorem mA {w0 w:World} {gq:Nat} {v:Value} {xs:List ef} (h:QR w0 gq w v xs):Calls Tryz.prog 59 #[v] w fun e w'=>e = .returned (.int .i64 (xs.length:Int))∧QR w0 gq w' v xs∧Fr w w'∧Below w.heap.size w w':=by
 obtain ⟨A,c,rfl,hc,hC⟩:=h.slice;refine (mW.calls A c xs (xs.length:Int) w hC hc rfl).mono ?_
 rintro e w1 ⟨rfl,hd⟩
 exact ⟨rfl,h.below hd.below,Fr.below hd.below,hd.below⟩
theorem yJ (k:Nat) {w0 w:World} {gq:Nat} {v:Value} {xs r:List ef} (e:ef) {A:Option Addr} {c:Nat} (hl:e.f0.length≤c) (hC:cC.C w0 A e.f0.length e.f0) (hn:xs.length≤1000000) (h:QR w0 gq w v xs) (hr:mC k k (xs++[e]) xs.length=some r) :
  Calls Tryz.prog 58 #[.iface 91 (.pointer (some ⟨gq,0,none⟩)),.iface 96 (.agg #[.slice A e.f0.length c,.int .i64 e.f1])] w fun en w'=>en = .returned (.tuple #[])∧∃ v',QR w0 gq w' v' r∧Fr w w':=by
 have hu39:=Tryz.underlying91;have hmP:=FH w gq;have H:=aS h;have A0:=aS hr;clear h hr
 have hlen:((xs++[e]).length:Int) - 1=(xs.length:Int):=by simp
 go_enter Tryz.func58,Tryz.ntmps58
 go_wp2_with (first | (go_at_call 129;(with_reducible refine (z_ e hl hC hn H.out).mono ?_);rintro en w1 ⟨rfl,v1,h1,f1⟩;have H1:=aS h1;have F1:=aS f1;have hmL:=CQ w1 gq _ h1.cell;clear h1 f1) | (go_at_call 59;(with_reducible refine (mA H1.out).mono ?_);rintro en w2 ⟨rfl,h2,f2,_⟩;have H2:=aS h2;have F2:=aS (F1.out.trans f2);clear h2 f2) | (go_at_call 80;(with_reducible refine (xJ k xs.length (by simp) H2.out A0.out).mono ?_);rintro en w3 ⟨rfl,v3,h3,f3⟩;have H3:=aS h3;have F3:=aS (F2.out.trans f3);clear h3 f3))
 go_end0
 exact ⟨rfl,_,H3.out,F3.out⟩
theorem qP (k:Nat) {w0 w:World} {gq:Nat} {v:Value} {xs r:List ef} {q:Nat} (hk:k≠0) (hn:xs.length≤1000001) (h0:0<xs.length) (h:QR w0 gq w v xs) (hr:iG k xs.length k xs 0=some (r,q)) (hrl:0<r.length) :
  Calls Tryz.prog 61 #[.iface 91 (.pointer (some ⟨gq,0,none⟩)),.int .i64 0] w fun en w'=>en = .returned (.tuple #[])∧∃ v',QR w0 gq w' v' r∧Fr w w':=by
 have hu39:=Tryz.underlying91;have hmL:=CQ w gq _ h.cell;have H:=aS h;have A0:=aS hr;have A1:ak (mC k k r 0=some r):=⟨by cases k with | zero=>exact absurd rfl hk | succ k=>rfl⟩;clear h hr
 go_enter Tryz.func61,Tryz.ntmps61
 by_cases hq:0<q
 ·
  go_wp2_with (first | (go_at_call 59;(with_reducible refine (mA H.out).mono ?_);rintro en w2 ⟨rfl,h2,f2,_⟩;have H2:=aS h2;have F2:=aS f2;clear h2 f2) | (go_at_call 81;(refine (qM k xs.length 0 (Nat.le_refl _) hn (by omega) H2.out A0.out).mono ?_);rintro en w3 ⟨rfl,v3,h3,f3⟩;have H3:=aS h3;have F3:=aS (F2.out.trans f3);clear h3 f3))
  go_end0
  exact ⟨rfl,_,H3.out,F3.out⟩
 ·
  go_wp2_with (first | (go_at_call 59;(with_reducible refine (mA H.out).mono ?_);rintro en w2 ⟨rfl,h2,f2,_⟩;have H2:=aS h2;have F2:=aS f2;clear h2 f2) | (go_at_call 81;(refine (qM k xs.length 0 (Nat.le_refl _) hn (by omega) H2.out A0.out).mono ?_);rintro en w3 ⟨rfl,v3,h3,f3⟩;have H3:=aS h3;have F3:=aS (F2.out.trans f3);clear h3 f3) | (go_at_call 80;(refine (xJ k 0 hrl H3.out A1.out).mono ?_);rintro en w4 ⟨rfl,v4,h4,f4⟩;have H4:=aS h4;have F4:=aS (F3.out.trans f4);clear h4 f4))
  go_end0
  exact ⟨rfl,_,H4.out,F4.out⟩
theorem qK (k:Nat) {w0 w:World} {gq:Nat} {v:Value} {xs r:List ef} {q n:Nat} (hn:xs.length≤1000001) (hx:xs.length=n+1) (h:QR w0 gq w v xs) (hr:iG k n k (iT xs 0 n) 0=some (r,q)) (hrl:r.length=n+1) :
  Calls Tryz.prog 60 #[.iface 91 (.pointer (some ⟨gq,0,none⟩))] w fun en w'=>(∃ u,en = .returned u)∧∃ v',QR w0 gq w' v' (r.take n)∧Fr w w':=by
 have hu39:=Tryz.underlying91;have hmL:=CQ w gq _ h.cell;obtain ⟨g,c,rfl,hc,hC⟩:=h.form (by omega);have H:=aS h;have A0:=aS hr;clear h hr hC
 have hlen:(xs.length:Int) - 1=(n:Int):=by omega
 have HX:=aS hx;have hsl:=aS ((fR xs 0 n).trans hx);have HRL:=aS hrl;clear hx hrl
 go_enter Tryz.func60,Tryz.ntmps60
 go_wp2_with (first | (go_at_call 59;(with_reducible refine (mA H.out).mono ?_);rintro en w1 ⟨rfl,h2,f2,_⟩;have H1:=aS h2;have F1:=aS f2;have hmS:=rO w1 gq _ h2.cell;clear h2 f2) | (go_at_call 130;(refine (mJ w0 _ w0.heap.size g c (fun k=>k≠gq) xs 0 n (by have:=HX.out;omega) (by have:=HX.out;omega) H1.out.row).mono ?_);rintro e w2 ⟨rfl,hr,hg⟩;obtain ⟨h6,f6⟩:=H1.out.swap hr hg;have H2:=aS h6;have F2:=aS (F1.out.trans f6);clear hr hg h6 f6) | (go_at_call 81;(refine (qM k n 0 (by have:=hsl.out;omega) (by have:=hsl.out;have:=HX.out;omega) (Nat.zero_le _) H2.out A0.out).mono ?_);rintro en w3 ⟨rfl,v3,h3,f3⟩;have H3:=aS h3;have F3:=aS (F2.out.trans f3);have hmP:=FM w3 gq;clear h3 f3) | (go_at_call 128;(with_reducible refine (Cn (by have:=HRL.out;omega) H3.out).mono ?_);rintro en w4 ⟨⟨u,rfl⟩,v4,h4,f4⟩;have H4:=aS h4;have F4:=aS (F3.out.trans f4);clear h4 f4))
 go_ret
 have h4:=H4.out;rw [HRL.out] at h4;exact ⟨⟨_,rfl⟩,_,h4,F4.out⟩
theorem zY (k:Nat):∀ (m:Nat) (xs:List ef) (j:Nat) (r:List ef),mC k m xs j=some r→r.length=xs.length
 | 0,_,_,_,h=>by cases h
 | m+1,xs,j,r,h=>by
  unfold mC at h
  split at h
  ·
   rw [←Option.some.inj h]
  ·
   obtain ⟨b,_,h⟩:=Option.bind_eq_some_iff.1 h
   split at h
   ·
    rw [zY k m _ _ _ h,fR]
   ·
    rw [←Option.some.inj h]
theorem jz (k n:Nat):∀ (m:Nat) (xs:List ef) (i:Nat) (r:List ef) (q:Nat),iG k n m xs i=some (r,q)→r.length=xs.length
 | 0,_,_,_,_,h=>by cases h
 | m+1,xs,i,r,q,h=>by
  unfold iG at h
  split at h
  ·
   have:=Option.some.inj h
   simp only [Prod.mk.injEq] at this
   rw [←this.1]
  ·
   obtain ⟨b,_,h⟩:=Option.bind_eq_some_iff.1 h;obtain ⟨c,_,h⟩:=Option.bind_eq_some_iff.1 h
   split at h
   ·
    rw [jz k n m _ _ _ _ h,fR]
   ·
    have:=Option.some.inj h
    simp only [Prod.mk.injEq] at this
    rw [←this.1]
def mL (k:Nat):List (List av)→Nat→List ef→Option (List ef)
 | [],_,q=>some q
 | l :: ls,i,q=>if l.length=0 then mL k ls (i+1) q else if q.length≤1000000 then (mC k k (q++[⟨l,(i:Int)⟩]) q.length).bind fun q'=>mL k ls (i+1) q' else none
def nD (k:Nat) (out:List av) (c:av):Option Bool:=if out.length=0 then some true else (bU.f k (af out ((out.length:Int) - 1)).f0 (af out ((out.length:Int) - 1)).f1 (af out ((out.length:Int) - 1)).f2 (af out ((out.length:Int) - 1)).f3 (af out ((out.length:Int) - 1)).f4 c.f0 c.f1 c.f2 c.f3 c.f4).bind fun t=>some (!(t == 0))
def oJ (k:Nat) (s:ef) (q:List ef):Option (List ef):=if s.f0.length=1 then (iG k q.length k (iT ((⟨s.f0.drop 1,s.f1⟩:ef) :: q) 0 q.length) 0).bind fun r=>some (r.1.take q.length) else (iG k (q.length+1) k ((⟨s.f0.drop 1,s.f1⟩:ef) :: q) 0).bind fun r=>some r.1
def oh (k:Nat):Nat→List ef→List av→Option (List av)
 | 0,_,_=>none
 | _+1,[],out=>some out
 | m+1,s :: q,out=>if 0<s.f0.length∧out.length≤1000000000∧q.length≤1000000 then (nD k out (af s.f0 0)).bind fun b=>(oJ k s q).bind fun q'=>oh k m q' (if b=true then out++[af s.f0 0] else out) else none
def fQ.f (k:Nat) (l0:List (List av)):Option (List av):=if k=0 then none else (mL k l0 0 []).bind fun q=>oh k k q []
theorem QR.head {w0 w:World} {gq:Nat} {v:Value} {s:ef} {q:List ef} (h:QR w0 gq w v (s :: q)) (hs:0<s.f0.length):∃ g c cl ad cs,v = .slice (some ⟨g,0,none⟩) (q.length+1) c∧q.length+1≤c∧w.heap[g]? = some (.cells cl 96 (0,0))∧cl[0]? = some (.slice (some ad) s.f0.length cs)∧s.f0.length≤cs∧cC.C w0 (some ad) s.f0.length s.f0∧w0.cell? ad=some (.string (af s.f0 0).f0)∧w0.cell? ⟨ad.block,ad.off+1,none⟩=some (.string (af s.f0 0).f1)∧w0.cell? ⟨ad.block,ad.off+2,none⟩=some (.int .i64 (af s.f0 0).f2)∧w0.cell? ⟨ad.block,ad.off+3,none⟩=some (.string (af s.f0 0).f3)∧w0.cell? ⟨ad.block,ad.off+4,none⟩=some (.bool (af s.f0 0).f4):=by
 obtain ⟨g,c,rfl,_,_⟩:=Kd.kp h.row (by simp);obtain ⟨cs,hcl,hM,hc,hf⟩:=Kd.mM h.row iU (0:Int) (by omega) (by simp);obtain ⟨A,a,rfl,hl,hC⟩:=qo hM;have he:(s :: q).getD (0:Int).toNat iU=s:=rfl;rw [he] at hM hc hl hC;obtain ⟨ad,hA,h0,h1,h2,h3,h4⟩:=eT hC 0 (by omega) (by omega);subst hA;obtain ⟨cl,hcl⟩:=Kd.gn h.row g rfl;have hx:=hc 0 _ rfl;have hy:=aG hcl 0;have hz:w.cell? ⟨g,0,none⟩=some (.slice (some ad) s.f0.length a):=hx;exact ⟨g,c,cl,ad,a,rfl,(Kd.bh h.row).2.1,hcl,hy.symm.trans hz,hl,hC,h0,h1,h2,h3,h4⟩
theorem D1 {w0:World} {ad:Addr} {cs:Nat} {l d:List av} (hd:l.drop 1=d) (hC:cC.C w0 (some ad) l.length l) (hl:0<l.length) (hc:l.length≤cs):∃ A',(∀ W,(Instr.slice 32 (.slice (some ad) l.length cs) (some (.int .i64 1)) none none).run Tryz.prog W = .ok (.slice A' d.length (cs - 1)) W)∧cC.C w0 A' d.length d∧d.length≤cs - 1:=by
 obtain ⟨i0,hi0,_,hsz,_⟩:=info_parts fe
 have hdl:d.length=l.length - 1:=by rw [←hd,lY]
 have h:=gG (P:=Tryz.prog) 32 34 .i64 Tryz.underlying32 hi0 5 hsz (some ad) l.length cs 1 (by omega) (by omega);have hC2:=Kd.rV (m:=1) hC hl hc;rw [hd] at hC2;rw [hdl];rw [hdl] at hC2;exact ⟨_,h,hC2,by omega⟩
theorem lD {w w1:World} {base:Nat} {v:Value} {xs:List av} (h:Kd.R cC 34 w base (fun _=>True) v xs) (f:Fr w w1):Kd.R cC 34 w1 base (fun _=>True) v xs:=by
 refine Kd.aH (Kd.l8 (Kd.ew h) (fun k hk=>?_)) (fun _ _=>trivial);obtain ⟨_,_,hlt,q,hq,cells,hc⟩:=hk
 have hq:q=34:=by simpa [cC,Kd.vQ,Kd.pair,Kd.string,Kd.int,Kd.bool,Kd.scalar] using hq
 subst hq;rw [f.keep k _ hc ⟨fun cells' he=>by simp at he,fun cells' he=>by simp at he⟩,hc]
theorem QR.other {w0 w w1:World} {gq base:Nat} {v u:Value} {xs:List ef} {out:List av} {ok:Nat→Prop} (h:QR w0 gq w v xs) (hr:Kd.R cC 34 w base ok u out) (hg:w.grownBy w1 u.ownBlock) (hb:Below w0.heap.size w0 w1):QR w0 gq w1 v xs:=
 ⟨er h.box hg (Kd.jH hr h.box (by decide)),Kd.ze h.row (Kd.gn hr) (fun q hq=>by have h4:q=96:=(by simpa [kQ,Kd.vQ,Kd.pair,Kd.fixed,Kd.int,Kd.scalar] using hq);subst h4;decide) hg,h.ge,hb⟩
theorem QR.cut {w0 w:World} {gq g n c:Nat} {s:ef} {q:List ef} (h:QR w0 gq w (.slice (some ⟨g,0,none⟩) n c) (s :: q)) {A:Option Addr} {c':Nat} {l:List av} (hl:l.length≤c') (hC:cC.C w0 A l.length l) :
  QR w0 gq (w.setCell ⟨g,0,none⟩ (.slice A l.length c')) (.slice (some ⟨g,0,none⟩) n c) ((⟨l,s.f1⟩:ef) :: q)∧Fr w (w.setCell ⟨g,0,none⟩ (.slice A l.length c')):=by
 have hn:=(Kd.bh h.row).1;obtain ⟨cs,hcl,hM,hc,hf⟩:=Kd.mM h.row iU (0:Int) (by omega) (by rw [hn];simp);obtain ⟨A1,a1,rfl,hl1,hC1⟩:=qo hM;have hne:gq≠g:=(Kd.gn h.row g rfl).elim (fun cells hcells=>BX h.box hcells (by decide));obtain ⟨hr,hg⟩:=Kd.wD (j:=0) (seg:=[.slice A l.length c']) h.row (0:Int) (by omega) (by rw [hn];simp) hcl hc (by rw [←hcl];simp) (x':=(⟨l,s.f1⟩:ef)) (okp:=fun k=>k≠gq∧k≠g) (by exact AJ w0 _ _ _ (⟨l,s.f1⟩:ef) hl hC) (fun _ h=>h);have hr2:(kQ w0).R 96 (w.setCell ⟨g,0,none⟩ (.slice A l.length c')) w0.heap.size (fun k=>k≠gq) (.slice (some ⟨g,0,none⟩) n c) ((⟨l,s.f1⟩:ef) :: q):=hr;have hg2:w.grownBy (w.setCell ⟨g,0,none⟩ (.slice A l.length c')) (some g):=hg;refine ⟨⟨dW h.box (p:=⟨g,0,none⟩) hne _,hr2,h.ge,h.ar.setCell (Kd.fF h.row g rfl) _⟩,(Fr.refl w).grown h.row hg2⟩
theorem fQ.calls (k:Nat) (A0:Option Addr) (c0:Nat) (l0:List (List av)) (r:List av) (w:World) (hr0:Kd.C (Kd.slice 34 cC) w A0 l0.length l0) (hc0:l0.length≤c0) (h:fQ.f k l0=some r) :
  Calls Tryz.prog 40 #[.slice A0 l0.length c0] w fun e w'=>∃ v0_:Value,e = .returned (v0_)∧Kd.R cC 34 w' w.heap.size (fun _=>True) v0_ r∧Below w.heap.size w w':=by
 have hu35:=Tryz.underlying34;have hu27:=Tryz.underlying32;have hu41:=Tryz.underlying93;have hu44:=Tryz.underlying96;have hu39:=Tryz.underlying91
 unfold fQ.f at h
 split at h
 ·
  cases h
 rename_i hk
 obtain ⟨q0,h1,h2⟩:=Option.bind_eq_some_iff.1 h;have H1:=aS h1;have H2:=aS h2;have HC:=aS hr0;have HL:=aS (Kd.zZ hr0);clear h h1 h2 hr0 hc0
 go_enter Tryz.func40,Tryz.ntmps40
 go_wp2_with (first | ((with_reducible refine aX (N:=9) rfl ?_);refine Kd.pH (kQ w) (w0:=w) w.heap.size 96 ?hg (N:=9) ?hd (xs:=([]:List ef)) (inner:=[]) (ok:=fun _=>True) (okp:=fun _=>True) ?hr ?hp (fun _ hk=>hk) trivial (Below.refl _ _) (Nat.le_refl _) (by simp) ?_;(case hd=>rfl);(case hg=>rfl);(case hr=>first | (go_simp;done) | (go_simp;rfl));(case hp=>exact bH.none _ _);intro v9 w1 ho hb hg_ hnew_;obtain ⟨A9,c9,rfl⟩:=Kd.bq ho;have O9:=aS ho;have B9:=aS hb;clear ho hb hg_ hnew_) | ((with_reducible refine aX (N:=10) rfl ?_);refine aY ?hg (N:=10) ?hd (cs:=#[.slice A9 0 c9]) (t:=93) ?hr ?_;(case hd=>rfl);(case hg=>rfl);(case hr=>(first | (go_simp;done) | (go_simp;rfl)));intro gq hg w2 hb hbl;have G10:=aS hg;have B10:=aS hb;have L10:=aS hbl;clear hg hb hbl))
 have hgq:w1.heap.size≤gq:=by rw [G10.out];exact Nat.le_refl _
 have HQ:ak (QR w gq w2 (.slice A9 0 c9) []):=⟨⟨B10.out,Kd.dA (Kd.aH (Kd.ew O9.out) (fun k hk=>by have:=hk.2.2.1;omega)) L10.out,Nat.le_trans B9.out.size hgq,aN B9.out L10.out⟩⟩;clear O9 B9 G10 B10 L10
 go_loopw [13] (fun v13 w3=>∃ (i:Nat) (v:Value) (xs:List ef),v13 = .int .i64 (i:Int)∧ak (i≤l0.length)∧ak (QR w gq w3 v xs)∧ak (mL k (l0.drop i) i xs=some q0)) (fun i _=>l0.length - (intOf i).toNat)
 case atStart=>exact ⟨0,_,[],rfl,⟨Nat.zero_le _⟩,HQ,H1⟩
 case round=>
  clear HQ H1;obtain ⟨i,v,xs,rfl,hi,HQ,H1⟩:=hrel;have hil:=hi.out;have hmax:=HL.out;have h1:=H1.out;clear H1
  by_cases hlt:i<l0.length
  ·
   rw [List.drop_eq_getElem_cons hlt] at h1
   unfold mL at h1
   obtain ⟨ad,A1,c1,rfl,hcell,hl1,hC1⟩:=qZ HC.out (i:Int) (by omega) (by omega);rw [Int.toNat_natCast] at hcell
   have hrd:aQ l0 (i:Int)=l0[i]:=by
    show l0.getD (i:Int).toNat _=_
    rw [Int.toNat_natCast,List.getD_eq_getElem?_getD,List.getElem?_eq_getElem hlt]
    rfl
   rw [hrd] at hcell hl1 hC1
   generalize l0[i]=l at *
   have hcw:wr.cell? (ad.add i)=some (.slice A1 l.length c1):=(HQ.out.ar.cell (mI w _ hcell)).trans hcell;have hc1:=aS hC1;clear hC1 hcell hrd
   by_cases hl0:l.length=0
   ·
    rw [if_pos hl0] at h1;have H1:=aS h1;clear h1
    have hlz:¬ (0:Int)<(l.length:Int):=by omega
    go_wp2_with (fail)
    go_roundw
    case rel=>exact ⟨i+1,v,xs,by go_num,⟨by omega⟩,HQ,H1⟩
    case measure=>simp [intOf];omega
   ·
    rw [if_neg hl0] at h1
    split at h1
    ·
     rename_i hxs
     obtain ⟨q',hu,h1⟩:=Option.bind_eq_some_iff.1 h1;have H1:=aS h1;have HU:=aS hu;clear h1 hu
     have hlz:(0:Int)<(l.length:Int):=by omega
     go_wp2_with (first | (go_at_call 58;(with_reducible refine (yJ k (⟨l,(i:Int)⟩:ef) hl1 hc1.out hxs HQ.out HU.out).mono ?_);rintro en w5 ⟨rfl,v5,h5,f5⟩;have H5:=aS h5;clear h5 f5))
     go_roundw
     case rel=>exact ⟨i+1,_,_,by go_num,⟨by omega⟩,H5,H1⟩
     case measure=>simp [intOf];omega
    ·
     cases h1
  ·
   obtain rfl:i=l0.length:=by omega
   rw [List.drop_length] at h1
   unfold mL at h1
   obtain rfl:=Option.some.inj h1
   clear h1
   go_wp2
   have HO:ak (Kd.R cC 34 wr w.heap.size (fun _=>True) (.slice none 0 0) []):=⟨Kd.dX _ _ _ _ _⟩
   go_loopg [6] k (fun kq v6 w3=>∃ (v:Value) (xs:List ef) (out:List av),ak (QR w gq w3 v xs)∧ak (Kd.R cC 34 w3 w.heap.size (fun _=>True) v6 out)∧ak (oh k kq xs out=some r))
   case atStart=>exact ⟨_,_,[],HQ,HO,H2⟩
   case round=>
    clear HQ HO H2;obtain ⟨v,xs,out,HQ,HO,H2⟩:=hrel;have h2:=H2.out;clear H2
    cases gk with
    | zero=>cases h2
    | succ m=>
     cases xs with
     | nil=>
      unfold oh at h2
      obtain rfl:=Option.some.inj h2
      have hcv:=HQ.out.cell
      go_wp2_with (first | (go_at_call 59;(with_reducible refine (mA HQ.out).mono ?_);rintro en w5 ⟨rfl,h5,f5,b5⟩;have H5:=aS h5;have O5:=aS (lD HO.out f5);clear h5 f5 b5))
      go_ret
      exact ⟨_,rfl,O5.out,H5.out.ar⟩
     | cons s q=>
      unfold oh at h2
      split at h2
      rotate_left
      ·
       cases h2
      rename_i hif
      obtain ⟨hs,hout,hq⟩:=hif;obtain ⟨b,hb,h2⟩:=Option.bind_eq_some_iff.1 h2;obtain ⟨q',hn,h2⟩:=Option.bind_eq_some_iff.1 h2;obtain ⟨A6,c6,rfl⟩:=Kd.bq HO.out;obtain ⟨g,cq,cl,ad,cs,rfl,hc1,bg,hcl,hcs,hC,x0,x1,x2,x3,x4⟩:=HQ.out.head hs;have hcv:=HQ.out.cell;have HH2:=aS h2;have HN:=aS hn;have HT:=aS hb;have BG:=aS bg;have HC1:=aS hC
      generalize af s.f0 0=c at *
      clear h2 hn hb bg hC
      go_upto_region 12 with (first | (go_at_call 59;(with_reducible refine (mA HQ.out).mono ?_);rintro en w5 ⟨rfl,h5,f5,b5⟩;have H5:=aS h5;have O5:=aS (lD HO.out f5);have BG5:=aS (aK BG.out b5);have hc5:=h5.cell;have hg0:=(aG BG5.out 0).trans hcl;have y0:=(h5.ar.cell (mI w _ x0)).trans x0;have y1:=(h5.ar.cell (mI w _ x1)).trans x1;have y2:=(h5.ar.cell (mI w _ x2)).trans x2;have y3:=(h5.ar.cell (mI w _ x3)).trans x3;have y4:=(h5.ar.cell (mI w _ x4)).trans x4;clear h5 f5 b5))
      have B7:=aS (uW w5 (.cells #[.string c.f0,.string c.f1,.int .i64 c.f2,.string c.f3,.bool c.f4] 34));have l7:Below w5.heap.size w5 (w5.alloc (.cells #[.string c.f0,.string c.f1,.int .i64 c.f2,.string c.f3,.bool c.f4] 34)):=tQ (Below.refl _ _) _;have H7:=aS (H5.out.below l7);have O7:=aS (Kd.dA O5.out l7);have BG7:=aS (aK BG5.out l7);clear H5 O5 BG5 l7 hc5 hg0 y0 y1 y2 y3 y4
      generalize hg8:w5.heap.size=g8 at *
      generalize w5.alloc (.cells #[.string c.f0,.string c.f1,.int .i64 c.f2,.string c.f3,.bool c.f4] 34)=w7 at *
      clear hg8
      obtain ⟨d,hd⟩:∃ d,s.f0.drop 1=d:=⟨_,rfl⟩
      obtain ⟨A',hcut,hcd_,hcd⟩:=D1 hd HC1.out hs hcs;have hCd:=aS hcd_
      have hdl:d.length+1=s.f0.length:=by rw [←hd,lY];omega
      unfold oJ at HN
      rw [hd] at HN;have h8:=H7.out.below (bN (Below.refl _ _));have H8:=aS h8;have O8:=aS (Kd.bP O7.out);have BG8:=aS (au BG7.out);have B8:=aS (au B7.out);clear hcd_ hd h8 H7 O7 BG7 B7 BG HQ HO HC1 x0 x1 x2 x3 x4 hcv;have ht:=HT.out;clear HT
      unfold nD at ht
      by_cases ho0:out.length=0
      ·
       rw [if_pos ho0] at ht
       obtain rfl:=Option.some.inj ht
       rw [if_pos rfl] at HH2
       have hoz:((out.length:Int) == 0)=true:=by simpa using ho0
       have hoz2:(out.length:Int)=0:=by omega
       clear ht;refine dz (n:=14) (ds:=[]) (S:=fun w'=>True) (bA 14 0) rfl rfl rfl trivial (fun hHeld=>?_)
       generalize w7.drew=w8 at H8 O8 BG8 B8 hHeld ⊢
       clear hHeld;refine dB (i:=0) (N:=(some 44)) (v:=?_) (a':=?_) (bA 14 1) rfl rfl (by kernel_rfl) (fun _ _ _ h=>h) (Or.inl ⟨by rfl,?_⟩) ?_ ?_
       rotate_left
       ·
        intro w'
        go_simp
        with_reducible rfl
       rotate_left
       ·
        simp only [Act.put,dw,dx,lss,bC,cm]
        rfl
       refine dB (i:=1) (N:=(some 45)) (v:=?_) (a':=?_) (bA 14 3) rfl rfl (by kernel_rfl) (fun _ _ _ h=>h) (Or.inl ⟨by rfl,?_⟩) ?_ ?_
       rotate_left
       ·
        intro w'
        go_simp
        with_reducible rfl
       rotate_left
       ·
        simp only [Act.put,dw,dx,lss,bC,cm]
        rfl
       refine dB (i:=2) (N:=(some 46)) (v:=.bool true) (a':=?pa2) (bA 14 7) rfl rfl (by kernel_rfl) (fun _ _ _ h=>h) (Or.inl ⟨by rfl,?py2⟩) ?pb2 ?ph2
       case py2=>
        intro w'
        go_simp
       case pb2=>
        simp only [Act.put,dw,dx,lss,bC,cm]
        rfl
       refine dB (i:=3) (N:=(some 47)) (v:=?_) (a':=?_) (bA 14 15) rfl rfl (by kernel_rfl) (fun _ _ _ h=>h) (Or.inl ⟨by rfl,?_⟩) ?_ ?_
       rotate_left
       ·
        intro w'
        go_simp
        with_reducible rfl
       rotate_left
       ·
        simp only [Act.put,dw,dx,lss,bC,cm]
        rfl
       refine dB (i:=4) (N:=(some 48)) (v:=undef) (a':=?_) (bA 14 31) rfl rfl (by kernel_rfl) (fun _ _ _ h=>h) (Or.inr ⟨by rfl,rfl⟩) ?_ ?_
       rotate_left
       ·
        simp only [Act.put,dw,dx,lss,bC,cm]
        rfl
       refine dB (i:=5) (N:=(some 49)) (v:=undef) (a':=?_) (bA 14 63) rfl rfl (by kernel_rfl) (fun _ _ _ h=>h) (Or.inr ⟨by rfl,rfl⟩) ?_ ?_
       rotate_left
       ·
        simp only [Act.put,dw,dx,lss,bC,cm]
        rfl
       refine dB (i:=6) (N:=(some 50)) (v:=undef) (a':=?_) (bA 14 127) rfl rfl (by kernel_rfl) (fun _ _ _ h=>h) (Or.inr ⟨by rfl,rfl⟩) ?_ ?_
       rotate_left
       ·
        simp only [Act.put,dw,dx,lss,bC,cm]
        rfl
       refine dB (i:=7) (N:=(some 51)) (v:=undef) (a':=?_) (bA 14 255) rfl rfl (by kernel_rfl) (fun _ _ _ h=>h) (Or.inr ⟨by rfl,rfl⟩) ?_ ?_
       rotate_left
       ·
        simp only [Act.put,dw,dx,lss,bC,cm]
        rfl
       refine dB (i:=8) (N:=(some 52)) (v:=undef) (a':=?_) (bA 14 511) rfl rfl (by kernel_rfl) (fun _ _ _ h=>h) (Or.inr ⟨by rfl,rfl⟩) ?_ ?_
       rotate_left
       ·
        simp only [Act.put,dw,dx,lss,bC,cm]
        rfl
       refine dB (i:=9) (N:=(some 53)) (v:=undef) (a':=?_) (bA 14 1023) rfl rfl (by kernel_rfl) (fun _ _ _ h=>h) (Or.inr ⟨by rfl,rfl⟩) ?_ ?_
       rotate_left
       ·
        simp only [Act.put,dw,dx,lss,bC,cm]
        rfl
       refine dB (i:=10) (N:=(some 54)) (v:=undef) (a':=?_) (bA 14 2047) rfl rfl (by kernel_rfl) (fun _ _ _ h=>h) (Or.inr ⟨by rfl,rfl⟩) ?_ ?_
       rotate_left
       ·
        simp only [Act.put,dw,dx,lss,bC,cm]
        rfl
       refine dB (i:=11) (N:=(some 55)) (v:=undef) (a':=?_) (bA 14 4095) rfl rfl (by kernel_rfl) (fun _ _ _ h=>h) (Or.inr ⟨by rfl,rfl⟩) ?_ ?_
       rotate_left
       ·
        simp only [Act.put,dw,dx,lss,bC,cm]
        rfl
       refine dB (i:=12) (N:=(some 56)) (v:=undef) (a':=?_) (bA 14 8191) rfl rfl (by kernel_rfl) (fun _ _ _ h=>h) (Or.inr ⟨by rfl,rfl⟩) ?_ ?_
       rotate_left
       ·
        simp only [Act.put,dw,dx,lss,bC,cm]
        rfl
       refine dB (i:=13) (N:=(some 57)) (v:=.bool true) (a':=?pa13) (bA 14 16383) rfl rfl (by kernel_rfl) (fun _ _ _ h=>h) (Or.inl ⟨by rfl,?py13⟩) ?pb13 ?ph13
       case py13=>
        intro w'
        go_simp
       case pb13=>
        simp only [Act.put,dw,dx,lss,bC,cm]
        rfl
       refine dQ (by kernel_rfl) ?_;clear hoz hoz2 ho0;have z0:=(aG B8.out 0).trans rfl;have z1:=(aG B8.out 1).trans rfl;have z2:=(aG B8.out 2).trans rfl;have z3:=(aG B8.out 3).trans rfl;have z4:=(aG B8.out 4).trans rfl;have xg:=(aG BG8.out 0).trans hcl;have fz:=dD BG8.out 0
       go_upto_region 15 with (first | ((with_reducible refine eZ (b:=.append) (xs:=#[.tmp 58,.tmp 60]) rfl ?_);at_builtin;(refine Kd.gC cC (w0:=w) w.heap.size rfl (.tmp 58) (.tmp 60) 32 34 (.agg #[(.string ⟨#[]⟩),(.string ⟨#[]⟩),(.int .i64 0),(.string ⟨#[]⟩),(.bool false)]) 64 rfl Tryz.underlying32 fe rfl (by decide) (by omega) (.slice A6 out.length c6) out c [.string c.f0,.string c.f1,.int .i64 c.f2,.string c.f3,.bool c.f4] (fun _=>True) (fun _=>False) rfl rfl ?aP (fun _ hk=>hk.elim) ?aF ?aO ?aB ?aS ?aL ?_;(case aP=>exact jx _ _ _ c);(case aB=>exact H8.out.ar);(case aF=>exact (fun _ _=>trivial));(case aO=>exact O8.out);(case aS=>exact H8.out.ar.size);(case aL=>omega);intro v61 w9 ho hb hg hat;have n0:=aS (H8.out.other O8.out hg hb);have n1:=aS ho;have n2:=aS (er BG8.out hg (Kd.jH O8.out BG8.out (by decide)));clear H8 O8 BG8 B8 ho hb hg hat;have H8:=n0;have O8:=n1;have BG8:=n2;clear n0 n1 n2;have xg:=(aG BG8.out 0).trans hcl;have fz:=dD BG8.out 0)))
       obtain ⟨h9,f9⟩:=H8.out.cut hcd hCd.out;have O9:=aS (lD O8.out f9);have hx9:=World.cell?_setCell_same _ ⟨g,0,none⟩ (.slice A' d.length (cs - 1)) xg;have H9:=aS h9;have hb9:=h9.cell;clear f9 h9 xg fz H8 O8 BG8
       generalize World.setCell _ ⟨g,0,none⟩ (.slice A' d.length (cs - 1))=w10 at H9 O9 hx9 hb9 ⊢
       by_cases hone:s.f0.length=1
       ·
        rw [if_pos hone] at HN
        have hz:(d.length:Int)=0:=by omega
        obtain ⟨⟨r1,r2⟩,hr1,hr2⟩:=Option.bind_eq_some_iff.1 HN.out
        obtain rfl:=Option.some.inj hr2
        have hrl:=jz _ _ _ _ _ _ _ hr1;rw [fR,List.length_cons] at hrl;have HD:=aS hr1;clear hr1 hr2
        go_wp2_with (first | (go_at_call 60;(with_reducible refine (qK k (by simp;omega) (by simp) H9.out HD.out hrl).mono ?_);rintro en w11 ⟨⟨u,rfl⟩,v11,h11,f11⟩;have H11:=aS h11;have O11:=aS (lD O9.out f11);clear h11 f11))
        go_roundg m
        case measure=>omega
        case rel=>exact ⟨_,_,_,H11,O11,HH2⟩
       ·
        rw [if_neg hone] at HN
        have hz:¬ (d.length:Int)=0:=by omega
        obtain ⟨⟨r1,r2⟩,hr1,hr2⟩:=Option.bind_eq_some_iff.1 HN.out
        obtain rfl:=Option.some.inj hr2
        have hrl:=jz _ _ _ _ _ _ _ hr1;rw [List.length_cons] at hrl;have HD:=aS hr1;clear hr1 hr2
        go_wp2_with (first | (go_at_call 61;(with_reducible refine (qP k hk (by simp;omega) (by simp) H9.out HD.out (by omega)).mono ?_);rintro en w11 ⟨rfl,v11,h11,f11⟩;have H11:=aS h11;have O11:=aS (lD O9.out f11);clear h11 f11))
        go_roundg m
        case measure=>omega
        case rel=>exact ⟨_,_,_,H11,O11,HH2⟩
      ·
       rw [if_neg ho0] at ht;obtain ⟨t,hcm,ht⟩:=Option.bind_eq_some_iff.1 ht
       obtain rfl:=Option.some.inj ht
       obtain ⟨ji,hji⟩:∃ ji,(out.length:Int) - 1=ji:=⟨_,rfl⟩
       rw [hji] at hcm;have HCM:=aS hcm
       have hoz:((out.length:Int) == 0)=false:=by simpa using ho0
       have hoz2:¬ (out.length:Int)=0:=by omega
       have hj0:=eq_true (show (0:Int)≤ji by omega);have hj1:=eq_true (show ji<(out.length:Int) by omega)
       have hwj:IntKind.i64.wrap ji=ji:=by rw [bC];unfold wrap64;omega
       obtain ⟨ad2,hA6,u0,u1,u2,u3,u4⟩:=eT (Kd.bh O8.out).2.2 ji (by omega) (by omega);subst hA6;clear hcm ht
       by_cases htz:(t == 0)=true
       ·
        have hb_:(!(t == 0))=false:=by rw [htz];rfl
        rw [hb_] at HH2;rw [if_neg (by decide)] at HH2
        have htv:t=0:=by simpa using htz
        refine dz (n:=14) (ds:=[]) (S:=fun w'=>w'.cell? ⟨g8,0,none⟩=some (.string c.f0)∧w'.cell? ⟨g8,1,none⟩=some (.string c.f1)∧w'.cell? ⟨g8,2,none⟩=some (.int .i64 c.f2)∧w'.cell? ⟨g8,3,none⟩=some (.string c.f3)∧w'.cell? ⟨g8,4,none⟩=some (.bool c.f4)∧w'.cell? (ad2.add (ji.toNat*5))=some (.string (af out ji).f0)∧w'.cell? ⟨(ad2.add (ji.toNat*5)).block,(ad2.add (ji.toNat*5)).off+1,none⟩=some (.string (af out ji).f1)∧w'.cell? ⟨(ad2.add (ji.toNat*5)).block,(ad2.add (ji.toNat*5)).off+2,none⟩=some (.int .i64 (af out ji).f2)∧w'.cell? ⟨(ad2.add (ji.toNat*5)).block,(ad2.add (ji.toNat*5)).off+3,none⟩=some (.string (af out ji).f3)∧w'.cell? ⟨(ad2.add (ji.toNat*5)).block,(ad2.add (ji.toNat*5)).off+4,none⟩=some (.bool (af out ji).f4)) (bA 14 0) rfl rfl rfl ⟨(aG B8.out 0).trans rfl,(aG B8.out 1).trans rfl,(aG B8.out 2).trans rfl,(aG B8.out 3).trans rfl,(aG B8.out 4).trans rfl,u0,u1,u2,u3,u4⟩ (fun hHeld=>?_)
        generalize w7.drew=w8 at H8 O8 BG8 B8 hHeld u0 u1 u2 u3 u4 ⊢
        have HS:=aS hHeld;refine dB (i:=0) (N:=(some 44)) (v:=?_) (a':=?_) (bA 14 1) rfl rfl (by kernel_rfl) (fun _ _ _ h=>h) (Or.inl ⟨by rfl,?_⟩) ?_ ?_
        rotate_left
        ·
         intro w'
         go_simp
         with_reducible rfl
        rotate_left
        ·
         simp only [Act.put,dw,dx,lss,bC,cm]
         rfl
        refine dB (i:=1) (N:=(some 45)) (v:=?_) (a':=?_) (bA 14 3) rfl rfl (by kernel_rfl) (fun _ _ _ h=>h) (Or.inl ⟨by rfl,?_⟩) ?_ ?_
        rotate_left
        ·
         intro w'
         go_simp
         with_reducible rfl
        rotate_left
        ·
         simp only [Act.put,dw,dx,lss,bC,cm]
         rfl
        refine dB (i:=2) (N:=(some 46)) (v:=.bool false) (a':=?pa2f) (bA 14 7) rfl rfl (by kernel_rfl) (fun _ _ _ h=>h) (Or.inl ⟨by rfl,?py2f⟩) ?pb2f ?ph2f
        case py2f=>
         intro w'
         go_simp
        case pb2f=>
         simp only [Act.put,dw,dx,lss,bC,cm]
         rfl
        refine dB (i:=3) (N:=(some 47)) (v:=?_) (a':=?_) (bA 14 15) rfl rfl (by kernel_rfl) (fun _ _ _ h=>h) (Or.inl ⟨by rfl,?_⟩) ?_ ?_
        rotate_left
        ·
         intro w'
         go_simp
         with_reducible rfl
        rotate_left
        ·
         simp only [Act.put,dw,dx,lss,bC,cm]
         rfl
        refine dB (i:=4) (N:=(some 48)) (v:=?_) (a':=?_) (bA 14 31) rfl rfl (by kernel_rfl) (fun _ _ _ h=>h) (Or.inl ⟨by rfl,?_⟩) ?_ ?_
        rotate_left
        ·
         intro w'
         go_simp
         with_reducible rfl
        rotate_left
        ·
         simp only [Act.put,dw,dx,lss,bC,cm]
         rfl
        refine dB (i:=5) (N:=(some 49)) (v:=?_) (a':=?_) (bA 14 63) rfl rfl (by kernel_rfl) (fun _ _ _ h=>h) (Or.inl ⟨by rfl,?_⟩) ?_ ?_
        rotate_left
        ·
         intro w'
         go_simp
         with_reducible rfl
        rotate_left
        ·
         simp only [Act.put,dw,dx,lss,bC,cm]
         rfl
        refine dB (i:=6) (N:=(some 50)) (v:=?_) (a':=?_) (bA 14 127) rfl rfl (by kernel_rfl) (fun _ _ _ h=>h) (Or.inl ⟨by rfl,?_⟩) ?_ ?_
        rotate_left
        ·
         intro w'
         go_simp
         with_reducible rfl
        rotate_left
        ·
         simp only [Act.put,dw,dx,lss,bC,cm]
         rfl
        refine dB (i:=7) (N:=(some 51)) (v:=.int .i64 ji) (a':=?pa7f) (bA 14 255) rfl rfl (by kernel_rfl) (fun _ _ _ h=>h) (Or.inl ⟨by rfl,?py7f⟩) ?pb7f ?ph7f
        case py7f=>
         intro w'
         go_simp
        case pb7f=>
         simp only [Act.put,dw,dx,lss,bC,cm]
         rfl
        refine dB (i:=8) (N:=(some 52)) (v:=?_) (a':=?_) (bA 14 511) rfl rfl (by kernel_rfl) (fun _ _ _ h=>h) (Or.inl ⟨by rfl,?_⟩) ?_ ?_
        rotate_left
        ·
         intro w'
         go_simp
         with_reducible rfl
        rotate_left
        ·
         simp only [Act.put,dw,dx,lss,bC,cm]
         rfl
        refine iw (i:=9) (N:=(some 53)) (v:=.agg #[.string (af out ji).f0,.string (af out ji).f1,.int .i64 (af out ji).f2,.string (af out ji).f3,.bool (af out ji).f4]) (a':=?a9f) (bA 14 1023) rfl rfl (by kernel_rfl) (fun _ _ _ h=>h) ?hy9f hHeld ?ha9f ?hh9f
        case hy9f=>exact Or.inl ⟨by rfl,fun w' hw'=>by obtain ⟨s0,s1,s2,s3,s4,s5,s6,s7,s8,s9⟩:=hw';go_simp⟩
        case ha9f=>
         simp only [Act.put,dw,dx,lss,bC,cm]
         rfl
        refine iw (i:=10) (N:=(some 54)) (v:=.agg #[.string c.f0,.string c.f1,.int .i64 c.f2,.string c.f3,.bool c.f4]) (a':=?a10f) (bA 14 2047) rfl rfl (by kernel_rfl) (fun _ _ _ h=>h) ?hy10f hHeld ?ha10f ?hh10f
        case hy10f=>exact Or.inl ⟨by rfl,fun w' hw'=>by obtain ⟨s0,s1,s2,s3,s4,s5,s6,s7,s8,s9⟩:=hw';go_simp⟩
        case ha10f=>
         simp only [Act.put,dw,dx,lss,bC,cm]
         rfl
        refine AY (i:=11) (N:=(some 55)) (bA 14 4095) rfl rfl (by kernel_rfl) (by decide) (fun K hK=>?_);refine ep Tryz.func47 (by kernel_rfl) rfl #[.agg #[.string (af out ji).f0,.string (af out ji).f1,.int .i64 (af out ji).f2,.string (af out ji).f3,.bool (af out ji).f4],.agg #[.string c.f0,.string c.f1,.int .i64 c.f2,.string c.f3,.bool c.f4]] (by rfl) rfl rfl cD ?_
        with_reducible refine (bU.calls k _ _ _ _ _ _ _ _ _ _ t _ HCM.out).mono ?_
        rintro e w9 ⟨rfl,hb⟩
        refine ⟨_,rfl,?_⟩;have n0:=aS (H8.out.below hb);have n1:=aS (Kd.dA O8.out hb);have n2:=aS (aK BG8.out hb);have n3:=aS (aK B8.out hb);obtain ⟨s0,s1,s2,s3,s4,s5,s6,s7,s8,s9⟩:=HS.out;have hS9:=aS (show (fun w'=>w'.cell? ⟨g8,0,none⟩=some (.string c.f0)∧w'.cell? ⟨g8,1,none⟩=some (.string c.f1)∧w'.cell? ⟨g8,2,none⟩=some (.int .i64 c.f2)∧w'.cell? ⟨g8,3,none⟩=some (.string c.f3)∧w'.cell? ⟨g8,4,none⟩=some (.bool c.f4)∧w'.cell? (ad2.add (ji.toNat*5))=some (.string (af out ji).f0)∧w'.cell? ⟨(ad2.add (ji.toNat*5)).block,(ad2.add (ji.toNat*5)).off+1,none⟩=some (.string (af out ji).f1)∧w'.cell? ⟨(ad2.add (ji.toNat*5)).block,(ad2.add (ji.toNat*5)).off+2,none⟩=some (.int .i64 (af out ji).f2)∧w'.cell? ⟨(ad2.add (ji.toNat*5)).block,(ad2.add (ji.toNat*5)).off+3,none⟩=some (.string (af out ji).f3)∧w'.cell? ⟨(ad2.add (ji.toNat*5)).block,(ad2.add (ji.toNat*5)).off+4,none⟩=some (.bool (af out ji).f4)) w9 from ⟨(aG n3.out 0).trans rfl,(aG n3.out 1).trans rfl,(aG n3.out 2).trans rfl,(aG n3.out 3).trans rfl,(aG n3.out 4).trans rfl,(hb.cell (mI _ _ s5)).trans s5,(hb.cell (mI _ _ s6)).trans s6,(hb.cell (mI _ _ s7)).trans s7,(hb.cell (mI _ _ s8)).trans s8,(hb.cell (mI _ _ s9)).trans s9⟩);clear H8 O8 BG8 B8 s0 s1 s2 s3 s4 s5 s6 s7 s8 s9 hb;have H8:=n0;have O8:=n1;have BG8:=n2;have B8:=n3;clear n0 n1 n2 n3;refine hK.out _ _ hS9.out (fun hHeld=>?_);clear hK K;refine nm 55 ?_;refine dB (i:=12) (N:=(some 56)) (v:=.bool false) (a':=?pa12f) (bA 14 8191) rfl rfl (by kernel_rfl) (fun _ _ _ h=>h) (Or.inl ⟨by rfl,?py12f⟩) ?pb12f ?ph12f
        case py12f=>
         intro w'
         go_simp
        case pb12f=>
         simp only [Act.put,dw,dx,lss,bC,cm]
         rfl
        refine dB (i:=13) (N:=(some 57)) (v:=.bool false) (a':=?pa13f) (bA 14 16383) rfl rfl (by kernel_rfl) (fun _ _ _ h=>h) (Or.inl ⟨by rfl,?py13f⟩) ?pb13f ?ph13f
        case py13f=>
         intro w'
         go_simp
        case pb13f=>
         simp only [Act.put,dw,dx,lss,bC,cm]
         rfl
        refine dQ (by kernel_rfl) ?_;clear hHeld hoz hoz2 ho0 hj0 hj1 hwj htz htv hb_ hS9;have xg:=(aG BG8.out 0).trans hcl;have fz:=dD BG8.out 0
        go_upto_region 15 with (fail)
        obtain ⟨h9,f9⟩:=H8.out.cut hcd hCd.out;have O9:=aS (lD O8.out f9);have hx9:=World.cell?_setCell_same _ ⟨g,0,none⟩ (.slice A' d.length (cs - 1)) xg;have H9:=aS h9;have hb9:=h9.cell;clear f9 h9 xg fz H8 O8 BG8
        generalize World.setCell _ ⟨g,0,none⟩ (.slice A' d.length (cs - 1))=w10 at H9 O9 hx9 hb9 ⊢
        by_cases hone:s.f0.length=1
        ·
         rw [if_pos hone] at HN
         have hz:(d.length:Int)=0:=by omega
         obtain ⟨⟨r1,r2⟩,hr1,hr2⟩:=Option.bind_eq_some_iff.1 HN.out
         obtain rfl:=Option.some.inj hr2
         have hrl:=jz _ _ _ _ _ _ _ hr1;rw [fR,List.length_cons] at hrl;have HD:=aS hr1;clear hr1 hr2
         go_wp2_with (first | (go_at_call 60;(with_reducible refine (qK k (by simp;omega) (by simp) H9.out HD.out hrl).mono ?_);rintro en w11 ⟨⟨u,rfl⟩,v11,h11,f11⟩;have H11:=aS h11;have O11:=aS (lD O9.out f11);clear h11 f11))
         go_roundg m
         case measure=>omega
         case rel=>exact ⟨_,_,_,H11,O11,HH2⟩
        ·
         rw [if_neg hone] at HN
         have hz:¬ (d.length:Int)=0:=by omega
         obtain ⟨⟨r1,r2⟩,hr1,hr2⟩:=Option.bind_eq_some_iff.1 HN.out
         obtain rfl:=Option.some.inj hr2
         have hrl:=jz _ _ _ _ _ _ _ hr1;rw [List.length_cons] at hrl;have HD:=aS hr1;clear hr1 hr2
         go_wp2_with (first | (go_at_call 61;(with_reducible refine (qP k hk (by simp;omega) (by simp) H9.out HD.out (by omega)).mono ?_);rintro en w11 ⟨rfl,v11,h11,f11⟩;have H11:=aS h11;have O11:=aS (lD O9.out f11);clear h11 f11))
         go_roundg m
         case measure=>omega
         case rel=>exact ⟨_,_,_,H11,O11,HH2⟩
       ·
        have hb_:(!(t == 0))=true:=by simpa using htz
        rw [hb_] at HH2;rw [if_pos rfl] at HH2
        have htv:¬ t=0:=by simpa using htz
        refine dz (n:=14) (ds:=[]) (S:=fun w'=>w'.cell? ⟨g8,0,none⟩=some (.string c.f0)∧w'.cell? ⟨g8,1,none⟩=some (.string c.f1)∧w'.cell? ⟨g8,2,none⟩=some (.int .i64 c.f2)∧w'.cell? ⟨g8,3,none⟩=some (.string c.f3)∧w'.cell? ⟨g8,4,none⟩=some (.bool c.f4)∧w'.cell? (ad2.add (ji.toNat*5))=some (.string (af out ji).f0)∧w'.cell? ⟨(ad2.add (ji.toNat*5)).block,(ad2.add (ji.toNat*5)).off+1,none⟩=some (.string (af out ji).f1)∧w'.cell? ⟨(ad2.add (ji.toNat*5)).block,(ad2.add (ji.toNat*5)).off+2,none⟩=some (.int .i64 (af out ji).f2)∧w'.cell? ⟨(ad2.add (ji.toNat*5)).block,(ad2.add (ji.toNat*5)).off+3,none⟩=some (.string (af out ji).f3)∧w'.cell? ⟨(ad2.add (ji.toNat*5)).block,(ad2.add (ji.toNat*5)).off+4,none⟩=some (.bool (af out ji).f4)) (bA 14 0) rfl rfl rfl ⟨(aG B8.out 0).trans rfl,(aG B8.out 1).trans rfl,(aG B8.out 2).trans rfl,(aG B8.out 3).trans rfl,(aG B8.out 4).trans rfl,u0,u1,u2,u3,u4⟩ (fun hHeld=>?_)
        generalize w7.drew=w8 at H8 O8 BG8 B8 hHeld u0 u1 u2 u3 u4 ⊢
        have HS:=aS hHeld;refine dB (i:=0) (N:=(some 44)) (v:=?_) (a':=?_) (bA 14 1) rfl rfl (by kernel_rfl) (fun _ _ _ h=>h) (Or.inl ⟨by rfl,?_⟩) ?_ ?_
        rotate_left
        ·
         intro w'
         go_simp
         with_reducible rfl
        rotate_left
        ·
         simp only [Act.put,dw,dx,lss,bC,cm]
         rfl
        refine dB (i:=1) (N:=(some 45)) (v:=?_) (a':=?_) (bA 14 3) rfl rfl (by kernel_rfl) (fun _ _ _ h=>h) (Or.inl ⟨by rfl,?_⟩) ?_ ?_
        rotate_left
        ·
         intro w'
         go_simp
         with_reducible rfl
        rotate_left
        ·
         simp only [Act.put,dw,dx,lss,bC,cm]
         rfl
        refine dB (i:=2) (N:=(some 46)) (v:=.bool false) (a':=?pa2t) (bA 14 7) rfl rfl (by kernel_rfl) (fun _ _ _ h=>h) (Or.inl ⟨by rfl,?py2t⟩) ?pb2t ?ph2t
        case py2t=>
         intro w'
         go_simp
        case pb2t=>
         simp only [Act.put,dw,dx,lss,bC,cm]
         rfl
        refine dB (i:=3) (N:=(some 47)) (v:=?_) (a':=?_) (bA 14 15) rfl rfl (by kernel_rfl) (fun _ _ _ h=>h) (Or.inl ⟨by rfl,?_⟩) ?_ ?_
        rotate_left
        ·
         intro w'
         go_simp
         with_reducible rfl
        rotate_left
        ·
         simp only [Act.put,dw,dx,lss,bC,cm]
         rfl
        refine dB (i:=4) (N:=(some 48)) (v:=?_) (a':=?_) (bA 14 31) rfl rfl (by kernel_rfl) (fun _ _ _ h=>h) (Or.inl ⟨by rfl,?_⟩) ?_ ?_
        rotate_left
        ·
         intro w'
         go_simp
         with_reducible rfl
        rotate_left
        ·
         simp only [Act.put,dw,dx,lss,bC,cm]
         rfl
        refine dB (i:=5) (N:=(some 49)) (v:=?_) (a':=?_) (bA 14 63) rfl rfl (by kernel_rfl) (fun _ _ _ h=>h) (Or.inl ⟨by rfl,?_⟩) ?_ ?_
        rotate_left
        ·
         intro w'
         go_simp
         with_reducible rfl
        rotate_left
        ·
         simp only [Act.put,dw,dx,lss,bC,cm]
         rfl
        refine dB (i:=6) (N:=(some 50)) (v:=?_) (a':=?_) (bA 14 127) rfl rfl (by kernel_rfl) (fun _ _ _ h=>h) (Or.inl ⟨by rfl,?_⟩) ?_ ?_
        rotate_left
        ·
         intro w'
         go_simp
         with_reducible rfl
        rotate_left
        ·
         simp only [Act.put,dw,dx,lss,bC,cm]
         rfl
        refine dB (i:=7) (N:=(some 51)) (v:=.int .i64 ji) (a':=?pa7t) (bA 14 255) rfl rfl (by kernel_rfl) (fun _ _ _ h=>h) (Or.inl ⟨by rfl,?py7t⟩) ?pb7t ?ph7t
        case py7t=>
         intro w'
         go_simp
        case pb7t=>
         simp only [Act.put,dw,dx,lss,bC,cm]
         rfl
        refine dB (i:=8) (N:=(some 52)) (v:=?_) (a':=?_) (bA 14 511) rfl rfl (by kernel_rfl) (fun _ _ _ h=>h) (Or.inl ⟨by rfl,?_⟩) ?_ ?_
        rotate_left
        ·
         intro w'
         go_simp
         with_reducible rfl
        rotate_left
        ·
         simp only [Act.put,dw,dx,lss,bC,cm]
         rfl
        refine iw (i:=9) (N:=(some 53)) (v:=.agg #[.string (af out ji).f0,.string (af out ji).f1,.int .i64 (af out ji).f2,.string (af out ji).f3,.bool (af out ji).f4]) (a':=?a9t) (bA 14 1023) rfl rfl (by kernel_rfl) (fun _ _ _ h=>h) ?hy9t hHeld ?ha9t ?hh9t
        case hy9t=>exact Or.inl ⟨by rfl,fun w' hw'=>by obtain ⟨s0,s1,s2,s3,s4,s5,s6,s7,s8,s9⟩:=hw';go_simp⟩
        case ha9t=>
         simp only [Act.put,dw,dx,lss,bC,cm]
         rfl
        refine iw (i:=10) (N:=(some 54)) (v:=.agg #[.string c.f0,.string c.f1,.int .i64 c.f2,.string c.f3,.bool c.f4]) (a':=?a10t) (bA 14 2047) rfl rfl (by kernel_rfl) (fun _ _ _ h=>h) ?hy10t hHeld ?ha10t ?hh10t
        case hy10t=>exact Or.inl ⟨by rfl,fun w' hw'=>by obtain ⟨s0,s1,s2,s3,s4,s5,s6,s7,s8,s9⟩:=hw';go_simp⟩
        case ha10t=>
         simp only [Act.put,dw,dx,lss,bC,cm]
         rfl
        refine AY (i:=11) (N:=(some 55)) (bA 14 4095) rfl rfl (by kernel_rfl) (by decide) (fun K hK=>?_);refine ep Tryz.func47 (by kernel_rfl) rfl #[.agg #[.string (af out ji).f0,.string (af out ji).f1,.int .i64 (af out ji).f2,.string (af out ji).f3,.bool (af out ji).f4],.agg #[.string c.f0,.string c.f1,.int .i64 c.f2,.string c.f3,.bool c.f4]] (by rfl) rfl rfl cD ?_
        with_reducible refine (bU.calls k _ _ _ _ _ _ _ _ _ _ t _ HCM.out).mono ?_
        rintro e w9 ⟨rfl,hb⟩
        refine ⟨_,rfl,?_⟩;have n0:=aS (H8.out.below hb);have n1:=aS (Kd.dA O8.out hb);have n2:=aS (aK BG8.out hb);have n3:=aS (aK B8.out hb);obtain ⟨s0,s1,s2,s3,s4,s5,s6,s7,s8,s9⟩:=HS.out;have hS9:=aS (show (fun w'=>w'.cell? ⟨g8,0,none⟩=some (.string c.f0)∧w'.cell? ⟨g8,1,none⟩=some (.string c.f1)∧w'.cell? ⟨g8,2,none⟩=some (.int .i64 c.f2)∧w'.cell? ⟨g8,3,none⟩=some (.string c.f3)∧w'.cell? ⟨g8,4,none⟩=some (.bool c.f4)∧w'.cell? (ad2.add (ji.toNat*5))=some (.string (af out ji).f0)∧w'.cell? ⟨(ad2.add (ji.toNat*5)).block,(ad2.add (ji.toNat*5)).off+1,none⟩=some (.string (af out ji).f1)∧w'.cell? ⟨(ad2.add (ji.toNat*5)).block,(ad2.add (ji.toNat*5)).off+2,none⟩=some (.int .i64 (af out ji).f2)∧w'.cell? ⟨(ad2.add (ji.toNat*5)).block,(ad2.add (ji.toNat*5)).off+3,none⟩=some (.string (af out ji).f3)∧w'.cell? ⟨(ad2.add (ji.toNat*5)).block,(ad2.add (ji.toNat*5)).off+4,none⟩=some (.bool (af out ji).f4)) w9 from ⟨(aG n3.out 0).trans rfl,(aG n3.out 1).trans rfl,(aG n3.out 2).trans rfl,(aG n3.out 3).trans rfl,(aG n3.out 4).trans rfl,(hb.cell (mI _ _ s5)).trans s5,(hb.cell (mI _ _ s6)).trans s6,(hb.cell (mI _ _ s7)).trans s7,(hb.cell (mI _ _ s8)).trans s8,(hb.cell (mI _ _ s9)).trans s9⟩);clear H8 O8 BG8 B8 s0 s1 s2 s3 s4 s5 s6 s7 s8 s9 hb;have H8:=n0;have O8:=n1;have BG8:=n2;have B8:=n3;clear n0 n1 n2 n3;refine hK.out _ _ hS9.out (fun hHeld=>?_);clear hK K;refine nm 55 ?_;refine dB (i:=12) (N:=(some 56)) (v:=.bool true) (a':=?pa12t) (bA 14 8191) rfl rfl (by kernel_rfl) (fun _ _ _ h=>h) (Or.inl ⟨by rfl,?py12t⟩) ?pb12t ?ph12t
        case py12t=>
         intro w'
         go_simp
        case pb12t=>
         simp only [Act.put,dw,dx,lss,bC,cm]
         rfl
        refine dB (i:=13) (N:=(some 57)) (v:=.bool true) (a':=?pa13t) (bA 14 16383) rfl rfl (by kernel_rfl) (fun _ _ _ h=>h) (Or.inl ⟨by rfl,?py13t⟩) ?pb13t ?ph13t
        case py13t=>
         intro w'
         go_simp
        case pb13t=>
         simp only [Act.put,dw,dx,lss,bC,cm]
         rfl
        refine dQ (by kernel_rfl) ?_;clear hHeld hoz hoz2 ho0 hj0 hj1 hwj htz htv hb_ hS9;have z0:=(aG B8.out 0).trans rfl;have z1:=(aG B8.out 1).trans rfl;have z2:=(aG B8.out 2).trans rfl;have z3:=(aG B8.out 3).trans rfl;have z4:=(aG B8.out 4).trans rfl;have xg:=(aG BG8.out 0).trans hcl;have fz:=dD BG8.out 0
        go_upto_region 15 with (first | ((with_reducible refine eZ (b:=.append) (xs:=#[.tmp 58,.tmp 60]) rfl ?_);at_builtin;(refine Kd.gC cC (w0:=w) w.heap.size rfl (.tmp 58) (.tmp 60) 32 34 (.agg #[(.string ⟨#[]⟩),(.string ⟨#[]⟩),(.int .i64 0),(.string ⟨#[]⟩),(.bool false)]) 64 rfl Tryz.underlying32 fe rfl (by decide) (by omega) (.slice (some ad2) out.length c6) out c [.string c.f0,.string c.f1,.int .i64 c.f2,.string c.f3,.bool c.f4] (fun _=>True) (fun _=>False) rfl rfl ?aP (fun _ hk=>hk.elim) ?aF ?aO ?aB ?aS ?aL ?_;(case aP=>exact jx _ _ _ c);(case aB=>exact H8.out.ar);(case aF=>exact (fun _ _=>trivial));(case aO=>exact O8.out);(case aS=>exact H8.out.ar.size);(case aL=>omega);intro v61 w9 ho hb hg hat;have n0:=aS (H8.out.other O8.out hg hb);have n1:=aS ho;have n2:=aS (er BG8.out hg (Kd.jH O8.out BG8.out (by decide)));clear H8 O8 BG8 B8 ho hb hg hat;have H8:=n0;have O8:=n1;have BG8:=n2;clear n0 n1 n2;have xg:=(aG BG8.out 0).trans hcl;have fz:=dD BG8.out 0)))
        obtain ⟨h9,f9⟩:=H8.out.cut hcd hCd.out;have O9:=aS (lD O8.out f9);have hx9:=World.cell?_setCell_same _ ⟨g,0,none⟩ (.slice A' d.length (cs - 1)) xg;have H9:=aS h9;have hb9:=h9.cell;clear f9 h9 xg fz H8 O8 BG8
        generalize World.setCell _ ⟨g,0,none⟩ (.slice A' d.length (cs - 1))=w10 at H9 O9 hx9 hb9 ⊢
        by_cases hone:s.f0.length=1
        ·
         rw [if_pos hone] at HN
         have hz:(d.length:Int)=0:=by omega
         obtain ⟨⟨r1,r2⟩,hr1,hr2⟩:=Option.bind_eq_some_iff.1 HN.out
         obtain rfl:=Option.some.inj hr2
         have hrl:=jz _ _ _ _ _ _ _ hr1;rw [fR,List.length_cons] at hrl;have HD:=aS hr1;clear hr1 hr2
         go_wp2_with (first | (go_at_call 60;(with_reducible refine (qK k (by simp;omega) (by simp) H9.out HD.out hrl).mono ?_);rintro en w11 ⟨⟨u,rfl⟩,v11,h11,f11⟩;have H11:=aS h11;have O11:=aS (lD O9.out f11);clear h11 f11))
         go_roundg m
         case measure=>omega
         case rel=>exact ⟨_,_,_,H11,O11,HH2⟩
        ·
         rw [if_neg hone] at HN
         have hz:¬ (d.length:Int)=0:=by omega
         obtain ⟨⟨r1,r2⟩,hr1,hr2⟩:=Option.bind_eq_some_iff.1 HN.out
         obtain rfl:=Option.some.inj hr2
         have hrl:=jz _ _ _ _ _ _ _ hr1;rw [List.length_cons] at hrl;have HD:=aS hr1;clear hr1 hr2
         go_wp2_with (first | (go_at_call 61;(with_reducible refine (qP k hk (by simp;omega) (by simp) H9.out HD.out (by omega)).mono ?_);rintro en w11 ⟨rfl,v11,h11,f11⟩;have H11:=aS h11;have O11:=aS (lD O9.out f11);clear h11 f11))
         go_roundg m
         case measure=>omega
         case rel=>exact ⟨_,_,_,H11,O11,HH2⟩
theorem xU (k:Nat):∀ (m:Nat) (xs:List ef) (j:Nat),aE (mC k m xs j) (mC (k+1) (m+1) xs j)
 | 0,_,_=>aE.none _
 | m+1,xs,j=>by
  rw [mC,mC];exact aE.ite (aE.refl _) (aE.bind (bJ.mono _ _ _ _) (fun _=>aE.ite (xU k m _ _) (aE.refl _)))
theorem qI (k n:Nat):∀ (m:Nat) (xs:List ef) (i:Nat),aE (iG k n m xs i) (iG (k+1) n (m+1) xs i)
 | 0,_,_=>aE.none _
 | m+1,xs,i=>by
  rw [iG,iG];exact aE.ite (aE.refl _) (aE.bind (aE.ite (bJ.mono _ _ _ _) (aE.refl _)) (fun _=>aE.bind (bJ.mono _ _ _ _) (fun _=>aE.ite (qI k n m _ _) (aE.refl _))))
theorem rG (k:Nat):∀ (ls:List (List av)) (i:Nat) (q:List ef),aE (mL k ls i q) (mL (k+1) ls i q)
 | [],_,_=>aE.refl _
 | l :: ls,i,q=>by
  rw [mL,mL];exact aE.ite (rG k ls _ _) (aE.ite (aE.bind (xU k k _ _) (fun _=>rG k ls _ _)) (aE.refl _))
theorem yo (k:Nat) (out:List av) (c:av):aE (nD k out c) (nD (k+1) out c):=
 aE.ite (aE.refl _) (aE.bind (bU.mono _ _ _ _ _ _ _ _ _ _ _) (fun _=>aE.refl _))
theorem xS (k:Nat) (s:ef) (q:List ef):aE (oJ k s q) (oJ (k+1) s q):=
 aE.ite (aE.bind (qI k _ k _ _) (fun _=>aE.refl _)) (aE.bind (qI k _ k _ _) (fun _=>aE.refl _))
theorem vR (k:Nat):∀ (m:Nat) (q:List ef) (out:List av),aE (oh k m q out) (oh (k+1) (m+1) q out)
 | 0,_,_=>aE.none _
 | m+1,[],out=>aE.refl _
 | m+1,s :: q,out=>by
  rw [oh,oh];exact aE.ite (aE.bind (yo k _ _) (fun _=>aE.bind (xS k _ _) (fun _=>vR k m _ _))) (aE.refl _)
theorem fQ.mono:∀ a0 k,aE (fQ.f k a0) (fQ.f (k+1) a0):=by
 intro a0 k
 unfold fQ.f
 by_cases hk:k=0
 ·
  rw [if_pos hk];exact aE.none _
 ·
  rw [if_neg hk,if_neg (by omega)];exact aE.bind (rG k a0 0 []) (fun _=>vR k k _ _)
theorem ou.calls (g base:Nat) (l:List av) (bs:List (List av)) (fl:List Int) (r:List av) (w:World) (hA:aJ.At w base g l bs fl) (h:eW.f l=some r) :
  Calls Tryz.prog 53 #[.pointer (some ⟨g,0,none⟩)] w fun e w'=>∃ v0_:Value,e = .returned v0_∧Kd.R cC 34 w' w.heap.size (fun _=>True) v0_ r∧Below w.heap.size w w':=by
 have hu26:=Tryz.underlying51;have hu22:=Tryz.underlying32;have hu39:=Tryz.underlying73;have hu70:=Tryz.underlying111;have hu42:=Tryz.underlying34;obtain ⟨vl,vb,vf,hA⟩:=hA;obtain ⟨Al,cl,rfl⟩:=Kd.bq hA.hl;obtain ⟨Ab,cb,rfl⟩:=Kd.bq hA.hb;obtain ⟨Af,cf,rfl⟩:=Kd.bq hA.hf;have HV:=aS hA;clear hA;have X:=aS h;clear h;have q0:=iC (aS HV.out.cY)
 go_enter Tryz.func53,Tryz.ntmps53
 go_wp2_with (go_at_call 52;(with_reducible refine (eW.calls Al cl l r _ (Kd.bh HV.out.hl).2.2 (Kd.bh HV.out.hl).2.1 X.out).mono ?_);rintro e_ w2 ⟨v0,rfl,ho,hb⟩;have HO:=aS ho;have HB:=aS hb;clear ho hb)
 go_ret
 exact ⟨v0,rfl,HO.out,HB.out⟩
def cA.l1:List (List av × List (List av) × List Int)→List (List av)→Option (List (List av))
 | [],o=>some o
 | x :: r,o=>(eW.f x.1).bind fun c=>if o.length<2199023255552 then cA.l1 r (o++[c]) else none
def cA.l0:List (List (List av × List (List av) × List Int))→List (List av)→Option (List (List av))
 | [],o=>some o
 | l :: r,o=>(cA.l1 l o).bind fun q=>cA.l0 r q
def cA.f (xs:List av) (ls:List (List (List av × List (List av) × List Int))):Option (List (List av)):=(eW.f xs).bind fun c=>cA.l0 ls [c]
theorem cA.calls (base:Nat) (ok:Nat→Prop) (g:Nat) (s1 s2 s3:Int) (xs:List av) (n:Int) (ls:List (List (List av × List (List av) × List Int))) (r:List (List av)) (w:World) (hA:aq.At w base ok g s1 s2 s3 xs n ls) (h:cA.f xs ls=some r) :
  Calls Tryz.prog 41 #[.pointer (some ⟨g,0,none⟩)] w fun e w'=>∃ v0_:Value,e = .returned v0_∧Kd.R (Kd.slice 34 cC) 32 w' w.heap.size (fun _=>True) v0_ r∧Below w.heap.size w w':=by
 have hu30:=Tryz.underlying27;have hu51:=Tryz.underlying61;have hu23:=Tryz.underlying23;have hu49:=Tryz.underlying59;have hu53:=Tryz.underlying64;have hu24:=Tryz.underlying32;have hu61:=Tryz.underlying73;obtain ⟨gm,vm,vl,vs,hA⟩:=hA;have HA:=aS hA;clear hA
 unfold cA.f at h
 replace h:=bV h;obtain ⟨c,x1,h⟩:=h;have X1:=aS x1;have H:=aS h;clear x1 h;obtain ⟨A,cl,rfl,hcl,hmx,hat⟩:=HA.out.at;have HL:=aS HA.out.len;have HMX:=aS hmx;have HAT:=aS hat;have HAW:=aS HA.out;clear hat hmx;have q0:=cR (aS HA.out.cY)
 go_enter Tryz.func41,Tryz.ntmps41
 go_upto_region 2 with (first | (go_at_call 33;(with_reducible refine (q7.calls gm base xs c n vm _ HA.out.mem X1.out).mono ?_);rintro e_ w2 ⟨v2,rfl,ho,hb⟩;obtain ⟨A2,c2,rfl⟩:=Kd.bq ho;have HC2:=aS ho;have HB1:=aS hb;have HA1:=aS (HA.out.below hb);clear HA q0 ho hb;have HA:=HA1;clear HA1;have q0:=cR (aS HA.out.cY)))
 have HO:=aS (Kd.bf (aq.uL (Kd.slice 34 cC) (W:=w2) (e:=32) (xs:=[c]) (inner:=[.slice A2 c.length c2]) (bH.one (Kd.tU HC2.out) (bH.none _ _)) HB1.out.size (by simp)) (Nat.le_refl _));have HB:=aS (tQ HB1.out (.cells [.slice A2 c.length c2].toArray 32));have HA1:=aS (HA.out.below (tQ (Below.refl _ _) (.cells [.slice A2 c.length c2].toArray 32)));clear HA HC2 HB1 q0;have HA:=HA1;clear HA1
 generalize w2.alloc (.cells #[.slice A2 c.length c2] 32)=w3 at HA HO HB ⊢
 have q0:=cR (aS HA.out.cY)
 go_wp2
 clear q0
 go_loopw [3,19] (fun v3 v19 wr=>∃ (i:Nat) (o:List (List av)),v19 = .int .i64 (i:Int)∧ak (i≤vs.length)∧ak (cA.l0 (ls.drop i) o=some r)∧ak (Kd.R (Kd.slice 34 cC) 32 wr w.heap.size (fun _=>True) v3 o)∧ak (Below w.heap.size w wr)) (fun _ i _=>vs.length - (intOf i).toNat)
 case atStart=>exact ⟨0,[c],rfl,⟨Nat.zero_le _⟩,H,HO,HB⟩
 case round=>
  clear H HO HB;obtain ⟨i,o,rfl,hi,HA0,HR,HBr⟩:=hrel
  by_cases hlt:i<vs.length
  ·
   have hq1:(i:Int)<(vs.length:Int):=by omega
   obtain ⟨ad,e_,hx⟩:=HAT.out wr (fun k _ hk=>HBr.out.block k hk) i hlt;subst e_;obtain ⟨Ai,ci,ei,hli,hCi⟩:=HAW.out.cells i hlt;rw [ei] at hx;have ha:=HA0.out;rw [aq.ni ls [] i (by rw [←HL.out];exact hlt)] at ha
   obtain ⟨li,hli_⟩:∃ x,x=ls.getD i []:=⟨_,rfl⟩
   rw [←hli_] at ha hx hli hCi
   unfold cA.l0 at ha
   replace ha:=bV ha;obtain ⟨q,y1,ha⟩:=ha;have Y1:=aS y1;have HA1:=aS ha;have HCI:=aS hCi;have HLI:=aS hCi.2.1
   have hix:∀ W:World,(Instr.indexAt 59 (.slice (some ad) vs.length cl) (.int .i64 (i:Int))).run Tryz.prog W = .ok (.pointer (some (ad.add i))) W:=by
    obtain ⟨i0,hi0,hz⟩:=Option.map_eq_some_iff.1 mQ
    simp only [Prod.mk.injEq] at hz
    intro W
    have h1:=gH 59 64 hu49 hi0 1 hz.2.1 ad vs.length cl (i:Int) (by omega) (by omega) W
    rwa [Nat.mul_one,Int.toNat_natCast] at h1
   have hwr:wrap64 ((i:Int)+1)=(i:Int)+1:=by rw [←bC,IntKind.wrap_i64];have:=HMX.out;omega
   clear y1 ha HA0 hCi hi hli_ ei hli
   go_wp2
   go_loopw [3,25] (fun v3 v25 wi=>∃ (j:Nat) (p:List (List av)),v25 = .int .i64 (j:Int)∧ak (j≤li.length)∧ak (cA.l1 (li.drop j) p=some q)∧ak (Kd.R (Kd.slice 34 cC) 32 wi w.heap.size (fun _=>True) v3 p)∧ak (Below w.heap.size w wi)) (fun _ j _=>li.length - (intOf j).toNat)
   case atStart=>exact ⟨0,o,rfl,⟨Nat.zero_le _⟩,Y1,HR,HBr⟩
   case round=>
    clear HR HBr Y1 hx;obtain ⟨j,p,rfl,hj,HP,HR,HBr⟩:=hrel
    by_cases hlj:j<li.length
    ·
     have hj1:(j:Int)<(li.length:Int):=by omega
     obtain ⟨ad2,gx,e_,hy,hOP⟩:=aq.t5 (Kd.cW HCI.out HBr.out) j hlj;subst e_;have ha:=HP.out;rw [aq.ni li ([],[],[]) j hlj] at ha
     obtain ⟨x,hx_⟩:∃ x,x=li.getD j ([],[],[]):=⟨_,rfl⟩
     rw [←hx_] at ha hOP
     unfold cA.l1 at ha
     replace ha:=bV ha;obtain ⟨d,y2,ha⟩:=ha
     by_cases hlim:p.length<2199023255552
     case neg=>rw [if_neg hlim] at ha;cases ha
     rw [if_pos hlim] at ha;have Y2:=aS y2;have HP1:=aS ha;have HOP:=aS hOP;have HLM:=aS hlim
     have hiy:∀ W:World,(Instr.indexAt 64 (.slice (some ad2) li.length ci) (.int .i64 (j:Int))).run Tryz.prog W = .ok (.pointer (some (ad2.add j))) W:=by
      obtain ⟨i0,hi0,hz⟩:=Option.map_eq_some_iff.1 qx
      simp only [Prod.mk.injEq] at hz
      intro W
      have h1:=gH 64 86 hu53 hi0 1 hz.2.1 ad2 li.length ci (j:Int) (by omega) (by omega) W
      rwa [Nat.mul_one,Int.toNat_natCast] at h1
     have hwj:wrap64 ((j:Int)+1)=(j:Int)+1:=by rw [←bC,IntKind.wrap_i64];have:=HLI.out;omega
     clear y2 ha HP hOP hj hlim hx_
     go_wp2_with (first | (go_at_call 53;(with_reducible refine (ou.calls gx 0 x.1 x.2.1 x.2.2 d _ HOP.out Y2.out).mono ?_);rintro e_ w5 ⟨v5,rfl,ho,hb⟩;obtain ⟨A5,c5,rfl⟩:=Kd.bq ho;have HD5:=aS (Kd.bf (Kd.cI ho (Kd.cK HR.out)) HBr.out.size);have HR1:=aS (Kd.dA HR.out hb);have HB1:=aS (aN HBr.out hb);clear ho hb HR HBr) | (at_builtin;refine Kd.gC (Kd.slice 34 cC) (w0:=w) w.heap.size rfl _ _ 73 32 _ _ rfl hu61 qd rfl (by decide) (by decide) u3 p d [.slice A5 d.length c5] (fun _=>True) (fun k=>True∧some k≠u3.ownBlock) rfl rfl (Kd.tU HD5.out) (fun _ hk=>hk) (fun _ _=>trivial) HR1.out HB1.out HB1.out.size (by have:=HLM.out;clear hwj hwr;omega) ?_;intro v8 w6 ho hb hg hat;have HR2:=aS ho;have HB2:=aS hb;clear ho hb hg hat HR1 HB1 HD5))
     go_roundw
     case rel=>exact ⟨j+1,_,by rw [hwj];rfl,⟨hlj⟩,HP1,HR2,HB2⟩
     case measure=>exact ja hwj hlj
    ·
     have hge:¬ ((j:Int)<(li.length:Int)):=by omega
     have ha:=HP.out;rw [List.drop_eq_nil_of_le (show li.length≤j by omega)] at ha
     unfold cA.l1 at ha
     obtain e1:=Option.some.inj ha
     subst e1;clear ha HP
     go_wp2
     go_roundw
     case rel=>exact ⟨i+1,_,by rw [hwr];rfl,⟨hlt⟩,HA1,HR,HBr⟩
     case measure=>exact ja hwr hlt
  ·
   have hge:¬ ((i:Int)<(vs.length:Int)):=by omega
   have ha:=HA0.out;rw [List.drop_eq_nil_of_le (show ls.length≤i by rw [←HL.out];omega)] at ha
   unfold cA.l0 at ha
   obtain e1:=Option.some.inj ha
   subst e1
   go_wp2
   go_ret
   exact ⟨_,rfl,HR.out,HBr.out⟩
end Go.Proofs.YtcbhfedcdnjljaaGreat.X
